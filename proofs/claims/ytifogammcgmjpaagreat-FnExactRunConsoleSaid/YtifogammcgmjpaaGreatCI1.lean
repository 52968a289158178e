/- Contracts of the functions C7 the abstract machine, part I1. No condition. -/
import Derived.Test.YtifogammcgmjpaaGreatL
import Derived.Test.YtifogammcgmjpaaGreatTy
namespace Go.Proofs.YtifogammcgmjpaaGreat
open Tryz
open Go.Vm Go.Mo
set_option maxHeartbeats 1000000
set_option maxRecDepth 100000
set_option linter.unusedSimpArgs false
set_option linter.unusedVariables false
variable{a b:Prop}
theorem Hs(h:b)(k:a:=by(intros;first|omega|with_unfolding_all (first|first|omega|(simp only[Bool.or_eq_true,beq_iff_eq]at*;omega)|(simp at*;omega))|(simp_all;done)|(simp_all;omega)|grind|exact wt)):a/\b:=⟨k,h⟩
theorem BA(A:ByteArray)(C:Int)(g:R 2342912 A):Sd 11 [rS A,[.int .u8 C]] [rL 1 N (Zk A C)]:=by
 have f:=me (Zk.eq_1 A C);refine ar func11 ntmps11 ?_;refine bu (JH.eq_2 A C) (fun J U y=>Z6 35 [(0,.one (.d (.str A)),[]),(1,.one (.d (.int .u8 C)),[]),(5,.one (.E 5 0 0 J.length),[.arr false 1 (J.map N)]),eI 6 U,eI 7 (y:Int)]) (fun K J U y=>A.size+1<K+y/\J.length<=y/\0<=U/\U<=y/\y<=A.size+1) (A.size+2) ([]:List ByteArray) 0 0 (fun p1 J U y H j1=>?_) (h0:=az [((5,0),none)] []);refine cF H ?_ ?_<;>intro k2 M H
 ·have c1:A.size<=2342912:=XR (xs g);have D:=wr y;refine bp ?_ ?_<;>intro G
  ·have o:=G;have g1:=G;try simp at g1
   simp[G];repeat with_reducible refine Hs ?_
   refine aE H ?_ ?_<;>intro k3 Z H
   ·simp[G];repeat with_reducible refine Hs ?_
    exact be H (v:=by(have hh:=of_decide_eq_true M;(try dsimp only);(try simp only[Xf]);(try simp only[List.length_append,List.length_singleton]);omega)) (hw:=YR [((5,0),some (31,0))] [] rfl bv)
   ·simp[G];exact a3 (an D G) H (v:=by(have hh:=of_decide_eq_true M;(try dsimp only);(try simp only[Xf]);(try simp only[List.length_append,List.length_singleton]);omega))
  ·simp[G];refine aE H ?_ ?_<;>intro k4 h3 H
   ·simp[G];repeat with_reducible refine Hs ?_
    exact be H (v:=by(have hh:=of_decide_eq_true M;(try dsimp only);(try simp only[Xf]);(try simp only[List.length_append,List.length_singleton]);omega)) (hw:=YR [((5,0),some (31,0))] [] rfl bv)
   ·simp[G]at h3
 exact ah [.tmp 4] (ms f H)
theorem pa:Sd 27 [] [rL 5 YF.row KG]:=by have f:=me (KG.eq_1);refine ar func27 ntmps27 ?_;exact ah [.tmp 0] f
theorem Yq:Sd 28 [] [rL 4 Zy.row Jf]:=by have f:=me (Jf.eq_1);refine ar func28 ntmps28 ?_;exact ah [.tmp 0] f
theorem IL(A:YE):Sd 51 [A.row] [rL 1 r (zi A)]:=by have f:=me (zi.eq_1 A);refine ar func51 ntmps51 ?_;exact ah [.tmp 2] f
theorem JO(A:List YF)(C:Int):c 53 [rL 5 YF.row A,rI C] [rI (YA A C)]:=by
 have f:=me (YA.eq_1 A C);refine so func53 ntmps53 ?_;refine aI (SS.eq_2 A C) (fun J=>Z6 20 [eI 1 C,eL 7 5 A YF.row,eI 8 (A.length:Int),eI 9 (J:Int)]) (fun K J=>A.length<K+J/\J<=A.length) (A.length+1) 0 (fun p1 J H j1=>?_);refine aj H ?_ ?_<;>intro k2 M H
 ·have w:=ix M;have m2:=ml A (k2 7 _ rfl);have D:=wr J;refine xp w ?_;refine cF H ?_ ?_<;>intro k3 Z H
  ·exact rt _ (ms f H)
  exact aH D H
 exact rt _ (ms f H)
theorem Z0(A C E:Int):c 101 [rI A,rI C,rI E] [rB (ZW A C E)]:=by have f:=me (ZW.eq_1 A C E);refine so func101 ntmps101 ?_;exact rt [.tmp 6] f
theorem mJ(A C:Int):c 303 [rI A,rI C] [rI (gy A C)]:=by
 have f:=me (gy.eq_1 A C);refine so func303 ntmps303 ?_;refine aa (Z0 C 1 1000000000000) ?_;refine aF f ?_ ?_<;>intro k1 M f
 ·have q1:=M;try simp[ZW]at q1
  simp;exact rt _ f
 have q1:=M;try simp[ZW]at q1
 refine aU ?_;exact rt _ f
theorem mf(A:List Int):c 239 [rL 1 r A] [rI (vH A)]:=by
 have f:=me (vH.eq_1 A);refine so func239 ntmps239 ?_;refine aq (Fm.eq_2 A) (fun J U=>Z6 21 [eI 3 J,eL 6 1 A r,eI 7 (A.length:Int),eI 8 (U:Int)]) (fun K J U=>A.length<K+U/\U<=A.length) (A.length+1) 11 0 (fun p1 J U H j1=>?_);refine aj H ?_ ?_<;>intro k2 M H
 ·have w:=ix M;have m2:=ml A (k2 6 _ rfl);have D:=wr U;refine xp w ?_;refine aa (mJ (I A U) 2147483647) ?_;exact ay D H
 exact rt _ (ms f H)
theorem Fg(A:Int)(C:List Int)(g:R 2330624 C):c 168 [rI A,rL 1 r C] [rI (kx A C)]:=by have f:=me (kx.eq_1 A C);have c1:=sl 2330624 C g;refine so func168 ntmps168 ?_;refine aa (mf ((([A]:List Int)++C)++([A]:List Int))) ?_;exact rt _ f
theorem s2(A:YF)(C:List Int)(g:R 2326528 C):c 100 [A.row,rL 1 r C] [rI (Mb A C)]:=by have f:=me (Mb.eq_1 A C);refine so func100 ntmps100 ?_;refine vT [2,3,4,5,6,0,1,7,8] ac d d d ?_;have c1:=sl 2326528 C g;refine aU ?_;refine aa (Fg A.d (([A.c]:List Int)++C) bH) ?_;exact rt _ f
theorem OW(A:List YF)(C:Int)(E:List Int)(g:R 2322432 A)(S:R 2322432 E):c 50 [rL 5 YF.row A,rI C,rL 1 r E] [rI (zC A C E).1,rB (zC A C E).2]:=by
 have f:=me (zC.eq_1 A C E);refine so func50 ntmps50 ?_;refine aa (JO A C) ?_;refine aQ f ?_ ?_<;>intro k1 M f
 ·exact rt _ f
 have w:(YA A C).toNat<A.length:=by have:=yD A C;exact il
 refine xp w ?_;refine aa (s2 (I A (YA A C).toNat) E (B S)) ?_;exact rt _ f
theorem Dt(A:YE):c 103 [A.row] [(VZ A).row]:=by have f:=me (VZ.eq_1 A);refine so func103 ntmps103 ?_;exact rt [.cell 2 135] f
theorem xa(A:Int):c 169 [rI A] [rB (qI A)]:=by have f:=me (qI.eq_1 A);refine so func169 ntmps169 ?_;refine aa (Z0 A 0 10000) ?_;exact rt [.tmp 2] f
theorem yT(A:o):c 102 [A.row] [rB (Yy A)]:=by have f:=me (Yy.eq_1 A);refine so func102 ntmps102 ?_;refine aa (xa A.d) ?_;refine ak (fun p=>xa A.c) ?_;exact rt [.tmp 2] f
theorem ve(A:YE):c 52 [A.row] [rB (I7 A)]:=by have f:=me (I7.eq_1 A);refine so func52 ntmps52 ?_;refine aa (Z0 A.b 1 999) ?_;refine ak (fun p=>Z0 A.a 1 99) ?_;refine ak (fun p=>Z0 A.e 1 99) ?_;refine ak (fun p=>Z0 A.g 0 99) ?_;refine ak (fun p=>Dt A) ?_;refine ak (fun p=>yT (VZ A)) ?_;exact rt [.tmp 2] f
theorem pV(A:List YF)(C:YE)(g:R 2318336 A):c 29 [rL 5 YF.row A,C.row] [(Sl A C).1.row,rB (Sl A C).2]:=by
 have f:=me (Sl.eq_1 A C);refine so func29 ntmps29 ?_;refine aw ac ?_;refine aa (Z7.rd (IL C)) ?_;refine aa (OW A C.e (zi C) (B g) (by simp(maxDischargeDepth:=12) [IJ];try omega)) ?_;refine aa (ve C) ?_;refine ak (fun p=>JO A C.a) ?_;refine cF f ?_ ?_<;>intro k2 M f
 ·exact rt _ f
 exact rt _ f
theorem Dp(A:Int):Sd 12 [rI A] [(YK A).row]:=by
 have f:=me (YK.eq_1 A);refine ar func12 ntmps12 ?_;refine aw ac ?_;refine ai [false] (pa) ?_;refine ai [false] (Yq) ?_;refine SN ?_;simp;refine aq (U3.eq_2) (fun J U=>Z6 73 [eI 0 (if(if A<1 then A else 1)>0 then(if A<1 then A else 1)else 0),(2,.one (.O 2 0),[.box [.nil 5,.nil 3,.nil 4,.d (.int .i64 0),.d (.int .i64 0),.nil 7,.nil 1,.nil 2,.nil 1,.nil 1,.d (.int .i64 0),.nil 1]]),(3,.one (.O 3 0),[.box [.E 13 0 0 KG.length,.E 3 2 0 U.length,.E 14 0 0 Jf.length,.d (.int .i64 (if(if A<1 then A else 1)>0 then(if A<1 then A else 1)else 0)),.d (.int .i64 0),.nil 7,.E 18 0 0 3,.E 21 0 0 2,.E 17 0 0 4,.nil 1,.d (.int .i64 1),.nil 1],.none,.arr false 3 (U.map ZS.row)]),(13,.any,[.arr false 5 (KG.map YF.row)]),(14,.any,[.arr false 4 (Jf.map Zy.row)]),(17,.any,[.arr false 1 ((List.replicate 4 0).map r)]),(18,.any,[.arr false 1 (([-1,-1,-1]:List Int).map r)]),(21,.any,[.arr true 2 (([ZD.mk 0 ([]:List ZU),ZD.mk 1 ([]:List ZU)]:List ZD).map ZD.row)]),(23,.one (.E 23 0 0 4),[.arr false 1 (([1,2,1,0]:List Int).map r)]),eI 24 4,eI 25 (J:Int)]) (fun K J U=>4<K+J/\U.length<=0+1*J) 5 0 ([]:List ZS) (fun p1 J U H j1=>?_) (h0:=Zl (t:=21) (X:=2) (Q:=[[.d (.int .i64 0),.nil 16],[.d (.int .i64 1),.nil 16]]) (am:=([ZD.mk 0 ([]:List ZU),ZD.mk 1 ([]:List ZU)]:List ZD).map ZD.row) (L:=[]) ab ab ab ab ab ab (az [((3,2),none)] []));refine aj H ?_ ?_<;>intro k3 M H
 ·have D:=wr J;have V:=ik J ([1,2,1,0]:List Int);have r1:=ZH (f:=r) V;try simp at r1
  refine xp r1 ?_;exact aB H (hw:=YR [((3,2),some (40,0))] [] rfl ad)
 have f:=ms f H;refine aq (Ud.eq_2) (fun T q=>Z6 73 [eI 0 (if(if A<1 then A else 1)>0 then(if A<1 then A else 1)else 0),(2,.one (.O 2 0),[.box [.nil 5,.nil 3,.nil 4,.d (.int .i64 0),.d (.int .i64 0),.nil 7,.nil 1,.nil 2,.nil 1,.nil 1,.d (.int .i64 0),.nil 1]]),(3,.one (.O 3 0),[.box [.E 13 0 0 KG.length,.E 3 2 0 U.length,.E 14 0 0 Jf.length,.d (.int .i64 (if(if A<1 then A else 1)>0 then(if A<1 then A else 1)else 0)),.d (.int .i64 0),.E 3 6 0 q.length,.E 18 0 0 3,.E 21 0 0 2,.E 17 0 0 4,.nil 1,.d (.int .i64 1),.nil 1],.none,.arr false 3 (U.map ZS.row),.none,.none,.none,.arr false 7 (q.map YE.row)]),(13,.any,[.arr false 5 (KG.map YF.row)]),(14,.any,[.arr false 4 (Jf.map Zy.row)]),(17,.any,[.arr false 1 ((List.replicate 4 0).map r)]),(18,.any,[.arr false 1 (([-1,-1,-1]:List Int).map r)]),(21,.any,[.arr true 2 (([ZD.mk 0 ([]:List ZU),ZD.mk 1 ([]:List ZU)]:List ZD).map ZD.row)]),(47,.one (.E 47 0 0 3),[.arr false 7 (([YE.mk 1 11 1 0 60 1 0,YE.mk 2 12 1 20 100 1 0,YE.mk 3 13 2 40 150 2 0]:List YE).map YE.row)]),eI 48 3,eI 49 (T:Int)]) (fun n2 T q=>3<n2+T/\q.length<=0+1*T) 4 0 ([]:List YE) (fun p2 T q e2 j2=>?_) (h0:=az [((3,6),none)] []);refine aj e2 ?_ ?_<;>intro k5 Z e2
 ·have w2:=wr T;have i4:=ik T ([YE.mk 1 11 1 0 60 1 0,YE.mk 2 12 1 20 100 1 0,YE.mk 3 13 2 40 150 2 0]:List YE);have r2:=ZH (f:=YE.row) i4;try simp at r2
  refine xp r2 ?_;refine aa (pV KG (I ([YE.mk 1 11 1 0 60 1 0,YE.mk 2 12 1 20 100 1 0,YE.mk 3 13 2 40 150 2 0]:List YE) T) (by simp(maxDischargeDepth:=12) [ys];try omega)) ?_;exact aB e2 (hw:=YR [((3,6),some (65,0))] [] rfl (by simp[w2]))
 have f:=ms f e2;refine cF f ?_ ?_<;>intro b h3 f
 ·exact ah [.cell 2 37] f
 exact ah [.cell 2 37] f
theorem nG(h:b)(k:a:=by(intros;first|omega|with_unfolding_all (first|first|omega|(have z:=Zx (Nh (n:=2338816+1) (A:=A) (C:=32) (by have:=XR g;omega));omega))|exact wt)):a/\b:=⟨k,h⟩
theorem lw(A:ByteArray)(g:R 2338816 A):Sd 54 [rS A] [rL 1 N (Zt A)]:=by
 have f:=me (Zt.eq_1 A);refine ar func54 ntmps54 ?_;refine aa (Z7.rd (BA A 32 (B g))) ?_;refine aq (xR.eq_2 A) (fun J U=>Z6 21 [(3,.one (.E 3 0 0 J.length),[.arr false 1 (J.map N)]),eL 7 1 (Zk A 32) N,eI 8 ((Zk A 32).length:Int),eI 9 (U:Int)]) (fun K J U=>(Zk A 32).length<K+U/\U<=(Zk A 32).length/\J.length<=0+1*U) ((Zk A 32).length+1) ([]:List ByteArray) 0 (fun p1 J U H j1=>?_) (h0:=az [((3,0),none)] []);refine aj H ?_ ?_<;>intro k2 M H
 ·have w:=ix M;have m2:=ml (Zk A 32) (k2 7 _ rfl);have D:=wr U;simp[w,ZH];refine aj H ?_ ?_<;>intro k3 Z H
  ·simp;repeat with_reducible refine nG ?_
   exact aB H (hw:=YR [((3,0),some (18,0))] [] rfl ad)
  exact ay D H
 exact ah [.tmp 2] (ms f H)
theorem Xe(A:Int):c 58 [rI A] [rS (Zu A)]:=by
 have f:=me (Zu.eq_1 A);refine so func58 ntmps58 ?_;refine aq (JC.eq_2) (fun J U=>Z6 30 [eI 0 J,(3,.one (.E 3 0 0 U.length),[.arr false 1 (U.map dv)]),eB 4 (decide (A<0))]) (fun K J U=>(K=21\/J.natAbs<10^K)/\U.length+K=21) 21 A ([]:List UInt8) (fun p1 J U H j1=>?_) (v:=by exact⟨Y,.inl rfl,rfl⟩) (h0:=az [((3,0),none)] []);refine cF H ?_ ?_<;>intro k2 M H
 ·refine cF H ?_ ?_<;>intro k3 Z H
  ·have f:=ms f H;refine cF f ?_ ?_<;>intro k4 h3 f
   ·refine cB (l:=([UInt8.ofInt (W (48+W (-Int.tmod J 10)))]:List UInt8)++U) rfl rfl rfl ab ab ab (by simp[y9,eb]) ?_;refine aU ?_;exact rt [.tmp 2] f
   refine cB (l:=([UInt8.ofInt (W (48+W (-Int.tmod J 10)))]:List UInt8)++U) rfl rfl rfl ab ab ab (by simp[y9,eb]) ?_;simp;exact rt [.tmp 2] f
  exact aB H (v:=by(try dsimp only);obtain⟨a,d⟩:=dW j1.2.1 Z;refine⟨a,d,?_⟩;have:=j1.2.2;simp;omega) (hw:=az [((3,0),some (19,0))] [])
 refine cF H ?_ ?_<;>intro k5 h4 H
 ·have f:=ms f H;refine cF f ?_ ?_<;>intro b h5 f
  ·refine cB (l:=([UInt8.ofInt (W (48+Int.tmod J 10))]:List UInt8)++U) rfl rfl rfl ab ab ab (by simp[y9,eb]) ?_;refine aU ?_;exact rt [.tmp 2] f
  refine cB (l:=([UInt8.ofInt (W (48+Int.tmod J 10))]:List UInt8)++U) rfl rfl rfl ab ab ab (by simp[y9,eb]) ?_;simp;exact rt [.tmp 2] f
 exact aB H (v:=by(try dsimp only);obtain⟨a,d⟩:=dW j1.2.1 h4;refine⟨a,d,?_⟩;have:=j1.2.2;simp;omega) (hw:=az [((3,0),some (19,0))] [])
theorem tQ(h:b)(k:a:=by(intros;first|omega|with_unfolding_all (first|first|omega|(simp at Z;omega))|exact wt)):a/\b:=⟨k,h⟩
theorem Dd(h:b)(k:a:=by(intros;first|omega|with_unfolding_all (first|first|omega|(simp at Z;omega))|(simp_all;done)|(simp_all;omega)|grind|exact wt)):a/\b:=⟨k,h⟩
theorem Tc(A:ByteArray)(g:R 2338816 A):c 106 [rS A] [rI (XS A).1,rB (XS A).2]:=by
 have f:=me (XS.eq_1 A);refine so func106 ntmps106 ?_;refine cF f ?_ ?_<;>intro k1 M f
 ·exact rt _ f
 refine aq (xL.eq_2 A) (fun J U=>Z6 46 [(0,.one (.d (.str A)),[]),eI 4 J,eI 5 (U:Int)]) (fun K J U=>A.size<K+U/\U<=A.size) (A.size+1) 0 0 (fun p1 J U H j1=>?_);refine aj H ?_ ?_<;>intro k3 Z H
 ·have c1:A.size<=2338816:=XR (xs g);have D:=wr U;simp;repeat with_reducible refine tQ ?_
  refine bp ?_ ?_<;>intro G
  ·have g1:=G;try simp at g1
   simp[G];repeat with_reducible refine Dd ?_
   refine aE H ?_ ?_<;>intro k4 h3 H
   ·have f:=ms f H;simp;exact O _ f
   ·simp;repeat with_reducible refine Dd ?_
    exact ay (an D G) H
  ·simp[G];refine aE H ?_ ?_<;>intro k5 h4 H
   ·have f:=ms f H;simp;exact O _ f
   ·simp[G]at h4
 have f:=ms f H;refine ak (fun p=>Xe J) ?_;refine cF f ?_ ?_<;>intro b h5 f
 ·exact rt _ f
 exact rt _ f
theorem Nb(A:List ByteArray)(g:R 2334720 A):Sd 57 [rL 1 N A] [rL 1 r (Zb A).1,rB (Zb A).2]:=by
 have f:=me (Zb.eq_1 A);refine ar func57 ntmps57 ?_;refine aq (Jj.eq_2 A) (fun J U=>Z6 28 [(4,.one (.E 4 0 0 J.length),[.arr false 1 (J.map r)]),eL 9 1 A N,eI 10 (A.length:Int),eI 11 (U:Int)]) (fun K J U=>A.length<K+U/\U<=A.length/\J.length<=0+1*U) (A.length+1) ([]:List Int) 0 (fun p1 J U H j1=>?_) (h0:=az [((4,0),none)] []);refine aj H ?_ ?_<;>intro k2 M H
 ·have w:=ix M;have m2:=ml A (k2 9 _ rfl);have c1:=sl 2334720 A g;have D:=wr U;refine xp w ?_;refine aa (Tc (I A U) (B (ZY g))) ?_;refine cF H ?_ ?_<;>intro k3 Z H
  ·exact ah [.tmp 2,.tmp 3] (ms f H)
  exact aB H (hw:=YR [((4,0),some (25,0))] [] rfl ad)
 exact ah [.tmp 2,.tmp 3] (ms f H)
theorem Gm(A:Int):c 170 [rI A] [rB (Wl A)]:=by have f:=me (Wl.eq_1 A);refine so func170 ntmps170 ?_;refine aa (Z0 A 1 2147483646) ?_;exact rt [.tmp 2] f
theorem js(A C:Int):c 171 [rI A,rI C] [rI (pB A C)]:=by have f:=me (pB.eq_1 A C);refine so func171 ntmps171 ?_;exact rt [.tmp 4] f
theorem W4(A:ZO):c 172 [A.row] [rB (QC A)]:=by
 have f:=me (QC.eq_1 A);refine so func172 ntmps172 ?_;refine aa (Z0 A.e 0 999) ?_;refine ak (fun p=>Z0 (A.b.length:Int) 1 6) ?_;refine aF f ?_ ?_<;>intro k1 M f
 ·have q1:=M;try simp[ZW]at q1
  simp;exact rt _ f
 have q1:=M;try simp[ZW]at q1
 simp;refine aI (RJ.eq_2 A) (fun J=>Z6 46 [eX 1 (A.row.map .d),eL 26 1 A.b N,eI 27 (A.b.length:Int),eI 28 (J:Int)]) (fun K J=>A.b.length<K+J/\J<=A.b.length) (A.b.length+1) 0 (fun p1 J H j1=>?_);refine aj H ?_ ?_<;>intro k3 Z H
 ·have w:=ix Z;have D:=wr J;refine xp w ?_;refine aK ?_ ?_<;>intro G
  ·have V:=ik J A.d;refine xg V ?_;refine aO (fun p=>Z0 (I A.d J) 1 1000000000000) ?_;refine aE H ?_ ?_<;>intro k4 h3 H
   ·have q3:=h3;try simp[ZW]at q3
    have f:=ms f H;simp;refine ax ?_;exact O _ f
   ·have q3:=h3;try simp[ZW]at q3
    simp;refine ax ?_;exact aH (an D G) H
  ·refine aN ?_;simp;refine ax ?_;refine aE H ?_ ?_<;>intro k5 h4 H
   ·have q4:=h4;try simp[ZW]at q4
    have f:=ms f H;simp;refine ax ?_;exact O _ f
   ·simp[G]at h4
 exact rt _ (ms f H)
theorem Cp(A:Int)(C:List ByteArray)(E:Int)(g:R 2326528 C):Sd 104 [rI A,rL 1 N C,rI E] [(Xn A C E).1.row,rB (Xn A C E).2]:=by
 have f:=me (Xn.eq_1 A C E);have c1:=sl 2326528 C g;refine ar func104 ntmps104 ?_;refine aa (Gm E) ?_;refine cF f ?_ ?_<;>intro k1 M f
 ·exact ah [.cell 6 74,.tmp 7] f
 refine bX fun k2=>?_;refine aq (zl.eq_2 A C E) (fun J U=>Z6 46 [eI 0 A,eI 2 E,(6,.one (.O 6 0),[.box [.d (.int .i64 0),.nil 1,.nil 1]]),(8,.one (.O 8 0),[.box [.d (.int .i64 A),.E 13 0 0 C.length,.E 8 3 0 U.length],.none,.none,.arr false 1 (U.map r)]),(13,.any,[.arr false 1 (C.map N)]),eI 25 (C.length:Int),eI 26 (J:Int)]) (fun K J U=>C.length<K+J/\J<=C.length/\U.length<=0+1*J) (C.length+1) 0 ([]:List Int) (fun p1 J U H j1=>?_) (h0:=az [((8,3),none)] []);refine cF H ?_ ?_<;>intro k3 Z H
 ·have w:=ix Z;have D:=wr J;refine aw ac ?_;refine aa (Fg E ([A,(J:Int)]:List Int) kf) ?_;refine aa (js 1 (kx E ([A,(J:Int)]:List Int))) ?_;exact aB H (hw:=YR [((8,3),some (38,0))] [] rfl ad)
 have f:=ms f H;refine aa (W4 (ZO.mk A C U)) ?_;refine cF f ?_ ?_<;>intro k5 h3 f
 ·exact ah [.cell 6 74,.tmp 7] f
 exact ah [.cell 6 74,.tmp 7] f
theorem Eg(A:ZI)(g:R 2342912 A):Sd 61 [A.row] [(Ee A).row]:=by have f:=me (Ee.eq_1 A);have c1:=sl 2342912 A.a g;have c2:=sl 2342912 A.b g;have c3:=sl 2342912 A.c g;refine ar func61 ntmps61 ?_;exact ah _ f
theorem w5(A:ZI)(g:R 2342912 A):Sd 61 [A.row] [A.row]:=by have h:=Eg A g;rwa[sY]at h
theorem q0(A:List Int)(g:R 2342912 A):Sd 62 [rL 1 r A] [rL 1 r (D5 A)]:=by have f:=me (D5.eq_1 A);have c1:=sl 2342912 A g;refine ar func62 ntmps62 ?_;exact ah [.tmp 2] f
theorem zR(A:List Int)(g:R 2342912 A):Sd 62 [rL 1 r A] [rL 1 r A]:=by have h:=q0 A g;rwa[ot]at h
theorem O0(A:ZO)(g:R 2338816 A):Sd 203 [A.row] [(Mx A).row]:=by have f:=me (Mx.eq_1 A);refine ar func203 ntmps203 ?_;refine vT [2,3,4,5,0,1,6,7,8,9,10] ac d d d ?_;have c1:=sl 2338816 A.b g;refine aU ?_;refine ai [false] (zR A.d (B (ZO.fN g))) ?_;exact ah _ f
theorem CH(A:ZO)(g:R 2338816 A):Sd 203 [A.row] [A.row]:=by have h:=O0 A g;rwa[Bd]at h
theorem sy(A:ZK)(g:R 2338816 A):Sd 338 [A.row] [(Fo A).row]:=by have f:=me (Fo.eq_1 A);refine ar func338 ntmps338 ?_;refine ai [false] (zR A.b (B (ZK.LG g))) ?_;exact ah [.cell 2 162] f
theorem T2(A:ZK)(g:R 2338816 A):Sd 338 [A.row] [A.row]:=by have h:=sy A g;rwa[I1]at h
theorem tU(A:List ZK)(g:R 2334720 A):Sd 272 [rL 3 ZK.row A] [rL 3 ZK.row (Nk A)]:=by
 have f:=me (Nk.eq_1 A);refine ar func272 ntmps272 ?_;refine aq (R0.eq_2 A) (fun J U=>Z6 19 [(3,.one (.E 3 0 0 J.length),[.arr true 3 (J.map ZK.row)]),eL 6 3 A ZK.row,eI 7 (A.length:Int),eI 8 (U:Int)]) (fun K J U=>A.length<K+U/\U<=A.length/\J.length<=0+1*U) (A.length+1) ([]:List ZK) 0 (fun p1 J U H j1=>?_) (h0:=az [((3,0),none)] []);refine aj H ?_ ?_<;>intro k2 M H
 ·have w:=ix M;have m2:=ml A (k2 6 _ rfl);have c1:=sl 2334720 A g;have D:=wr U;refine xp w ?_;refine ai [true,false] (T2 (I A U) (B (ZY g))) ?_;refine SN ?_;simp;refine OT (au:=J.map ZK.row) (am:=([I A U]:List ZK).map ZK.row) (l1:=[(3,0)]) (l2:=[(14,1)]) (X:=3) ?_;simp;exact aB H (hw:=YR [((3,0),some (16,0))] [] rfl ad)
 exact ah [.tmp 2] (ms f H)
theorem ws(A:List ZK)(g:R 2334720 A):Sd 272 [rL 3 ZK.row A] [rL 3 ZK.row A]:=by have h:=tU A g;rwa[Cq]at h
theorem ue(A:List ZX)(g:R 2342912 A):Sd 339 [rL 5 ZX.row A] [rL 5 ZX.row (GL A)]:=by have f:=me (GL.eq_1 A);have c1:=sl 2342912 A g;refine ar func339 ntmps339 ?_;exact ah [.tmp 2] f
theorem Aq(A:List ZX)(g:R 2342912 A):Sd 339 [rL 5 ZX.row A] [rL 5 ZX.row A]:=by have h:=ue A g;rwa[tZ]at h
theorem X2(A:ZZ)(g:R 2338816 A):Sd 273 [A.row] [(L1 A).row]:=by have f:=me (L1.eq_1 A);have c1:=sl 2338816 A.b g;refine ar func273 ntmps273 ?_;refine ai [false] (Aq A.a (B (ZZ.Nz g))) ?_;exact ah _ f
theorem LV(A:ZZ)(g:R 2338816 A):Sd 273 [A.row] [A.row]:=by have h:=X2 A g;rwa[Ak]at h
theorem PT(A:ZR)(g:R 2330624 A):Sd 204 [A.row] [(NR A).row]:=by
 have f:=me (NR.eq_1 A);refine ar func204 ntmps204 ?_;refine ai [] (ws A.b (B (ZR.Yp g))) ?_;refine aq (RY.eq_2 A) (fun J U=>Z6 26 [(2,.one (.O 2 0),[.box [.nil 3,.nil 5]]),(3,.one (.O 3 0),[.box [.E 8 0 0 A.b.length,.E 3 2 0 U.length],.none,.arr true 5 (U.map ZZ.row)]),(8,.any,[.arr true 3 (A.b.map ZK.row)]),eL 11 5 A.a ZZ.row,eI 12 (A.a.length:Int),eI 13 (J:Int)]) (fun K J U=>A.a.length<K+J/\J<=A.a.length/\U.length<=0+1*J) (A.a.length+1) 0 ([]:List ZZ) (fun p1 J U H j1=>?_) (h0:=az [((3,2),none)] []);refine aj H ?_ ?_<;>intro k2 M H
 ·have w:=ix M;have m2:=ml A.a (k2 11 _ rfl);have c1:=sl 2330624 A.a g;have D:=wr J;refine xp w ?_;refine bc [22] ac ?_;simp;refine ai [true,true,true,false,false] (LV (I A.a J) (B (ZY (ZR.QK g)))) ?_;refine SN ?_;simp;refine OT (au:=U.map ZZ.row) (am:=([I A.a J]:List ZZ).map ZZ.row) (l1:=[(3,2)]) (l2:=[(20,3),(20,4)]) (X:=5) ?_;simp;exact aB H (hw:=YR [((3,2),some (22,0))] [] rfl ad)
 exact ah [.cell 2 103] (ms f H)
theorem xv(A:ZR)(g:R 2330624 A):Sd 204 [A.row] [A.row]:=by have h:=PT A g;rwa[x0]at h
theorem Ks(A:ZU)(g:R 2326528 A):Sd 121 [A.row] [(CW A).row]:=by have f:=me (CW.eq_1 A);refine ar func121 ntmps121 ?_;refine ai [true,false,false] (CH A.c (B (ZU.JM g))) ?_;refine ai [] (xv A.a (B (ZU.YM g))) ?_;exact ah _ f
theorem Vu(A:ZU)(g:R 2326528 A):Sd 121 [A.row] [A.row]:=by have h:=Ks A g;rwa[nH]at h
theorem vA(A:ZD)(g:R 2322432 A):Sd 63 [A.row] [(Pm A).row]:=by
 have f:=me (Pm.eq_1 A);refine ar func63 ntmps63 ?_;refine aq (Tq.eq_2 A) (fun J U=>Z6 25 [(2,.one (.O 2 0),[.box [.d (.int .i64 0),.nil 16]]),(3,.one (.O 3 0),[.box [.d (.int .i64 A.b),.E 3 2 0 U.length],.none,.arr true 16 (U.map ZU.row)]),eL 10 16 A.a ZU.row,eI 11 (A.a.length:Int),eI 12 (J:Int)]) (fun K J U=>A.a.length<K+J/\J<=A.a.length/\U.length<=0+1*J) (A.a.length+1) 0 ([]:List ZU) (fun p1 J U H j1=>?_) (h0:=az [((3,2),none)] []);refine aj H ?_ ?_<;>intro k2 M H
 ·have w:=ix M;have m2:=ml A.a (k2 10 _ rfl);have c1:=sl 2322432 A.a g;have D:=wr J;refine xp w ?_;refine bc [21] ac ?_;simp;refine ai [true,true,true,false,false] (Vu (I A.a J) (B (ZY (ZD.Z8 g)))) ?_;refine SN ?_;simp;refine OT (au:=U.map ZU.row) (am:=([I A.a J]:List ZU).map ZU.row) (l1:=[(3,2)]) (l2:=[(19,3),(19,4),(19,14),(19,15)]) (X:=16) ?_;simp;exact aB H (hw:=YR [((3,2),some (21,0))] [] rfl ad)
 exact ah [.cell 2 50] (ms f H)
theorem Y1(A:ZD)(g:R 2322432 A):Sd 63 [A.row] [A.row]:=by have h:=vA A g;rwa[H1]at h
theorem sr(A:P)(g:R 2318336 A):Sd 31 [A.row] [(Lh A).row]:=by
 have f:=me (Lh.eq_1 A);refine ar func31 ntmps31 ?_;refine aw ac ?_;have c1:=sl 2318336 A.c g;refine ai [false,false,false] (w5 A.b (B (P.Yc g))) ?_;refine ai [false] (zR A.d (B (P.ZA7 g))) ?_;refine ai [false] (zR A.e (B (P.gJ g))) ?_;refine ai [false] (zR A.f (B (P.ZAv g))) ?_;refine ai [false] (zR A.g (B (P.Eg g))) ?_;refine aq (Po.eq_2 A) (fun J U=>Z6 44 [(2,.one (.O 2 0),[.box [.nil 5,.nil 3,.nil 4,.d (.int .i64 0),.d (.int .i64 0),.nil 7,.nil 1,.nil 2,.nil 1,.nil 1,.d (.int .i64 0),.nil 1]]),(3,.one (.O 3 0),[.box [.E 8 0 0 A.b.a.length,.E 8 1 0 A.b.b.length,.E 8 2 0 A.b.c.length,.d (.int .i64 A.b.e),.d (.int .i64 A.b.d),.E 12 0 0 A.c.length,.E 15 0 0 A.d.length,.E 3 8 0 U.length,.E 18 0 0 A.e.length,.E 21 0 0 A.f.length,.d (.int .i64 A.h),.E 26 0 0 A.g.length],.none,.none,.none,.none,.none,.none,.none,.arr true 2 (U.map ZD.row)]),(8,.any,[.arr false 5 (A.b.a.map YF.row),.arr false 3 (A.b.b.map ZS.row),.arr false 4 (A.b.c.map Zy.row)]),(12,.any,[.arr false 7 (A.c.map YE.row)]),(15,.any,[.arr false 1 (A.d.map r)]),(18,.any,[.arr false 1 (A.e.map r)]),(21,.any,[.arr false 1 (A.f.map r)]),(26,.any,[.arr false 1 (A.g.map r)]),eL 29 2 A.a ZD.row,eI 30 (A.a.length:Int),eI 31 (J:Int)]) (fun K J U=>A.a.length<K+J/\J<=A.a.length/\U.length<=0+1*J) (A.a.length+1) 0 ([]:List ZD) (fun p1 J U H j1=>?_) (h0:=az [((3,8),none)] []);refine aj H ?_ ?_<;>intro k3 M H
 ·have w:=ix M;have m2:=ml A.a (k3 29 _ rfl);have c2:=sl 2318336 A.a g;have D:=wr J;refine xp w ?_;refine bc [40] ac ?_;simp;refine ai [] (Y1 (I A.a J) (B (ZY (P.Zs g)))) ?_;refine SN ?_;simp;refine OT (au:=U.map ZD.row) (am:=([I A.a J]:List ZD).map ZD.row) (l1:=[(3,8)]) (l2:=[(38,1)]) (X:=2) ?_;simp;exact aB H (hw:=YR [((3,8),some (40,0))] [] rfl ad)
 exact ah [.cell 2 37] (ms f H)
theorem Ym(A:P)(g:R 2318336 A):Sd 31 [A.row] [A.row]:=by have h:=sr A g;rwa[tc]at h
theorem oB(A:P)(C:Int)(g:R 2314240 A):Sd 173 [A.row,rI C] [(WE A C).1.row,rB (WE A C).2]:=by
 have f:=me (WE.eq_1 A C);refine ar func173 ntmps173 ?_;refine ai qW (Ym A (B g)) ?_;refine aa (Z0 C 0 100) ?_;refine aF f ?_ ?_<;>intro k1 M f
 ·have q1:=M;try simp[ZW]at q1
  simp;exact ah _ f
 have q1:=M;try simp[ZW]at q1
 simp;exact ah _ f
theorem Tu(A:List Zy)(C:Int):c 243 [rL 4 Zy.row A,rI C] [rI (Zj A C)]:=by
 have f:=me (Zj.eq_1 A C);refine so func243 ntmps243 ?_;refine aq (kF.eq_2 A C) (fun J U=>Z6 48 [eL 0 4 A Zy.row,eI 1 C,eI 5 J,eL 8 4 A Zy.row,eI 9 (A.length:Int),eI 10 (U:Int)]) (fun K J U=>A.length<K+U/\U<=A.length/\-1<=J/\J<(A.length:Int)) (A.length+1) (-1) 0 (fun p1 J U H j1=>?_);refine aj H ?_ ?_<;>intro k2 M H
 ·have w:=ix M;have m2:=ml A (k2 0 _ rfl);have D:=wr U;refine xp w ?_;refine aw ac ?_;refine aK ?_ ?_<;>intro G
  ·have V:=ik J.toNat A;refine xg V ?_;refine cK H ?_ ?_<;>intro k4 Z H
   ·exact ay (an D G) H
   ·exact ay (an D G) H
  ·refine cK H ?_ ?_<;>intro k5 h3 H
   ·exact ay (an D G) H
   ·exact ay (an D G) H
 have f:=ms f H;refine aQ f ?_ ?_<;>intro b h4 f
 ·exact rt _ f
 have i4:=ik J.toNat A;refine xp i4 ?_;exact rt _ f
theorem Kr(A:P)(C:Int):c 107 [A.row,rI C] [rB (Z5 A C)]:=by have f:=me (Z5.eq_1 A C);refine so func107 ntmps107 ?_;refine aa (Z0 C 0 (W ((A.a.length:Int)-1))) ?_;exact rt [.tmp 4] f
theorem uC(A:List UInt8)(g:R 2342912 A):Sd 384 [rL 1 dv A] [rL 1 r (N0 A)]:=by
 have f:=me (N0.eq_1 A);refine ar func384 ntmps384 ?_;refine aq (UH.eq_2 A) (fun J U=>Z6 19 [(3,.one (.E 3 0 0 J.length),[.arr false 1 (J.map r)]),eL 6 1 A dv,eI 7 (A.length:Int),eI 8 (U:Int)]) (fun K J U=>A.length<K+U/\U<=A.length/\J.length<=0+1*U) (A.length+1) ([]:List Int) 0 (fun p1 J U H j1=>?_) (h0:=az [((3,0),none)] []);refine aj H ?_ ?_<;>intro k2 M H
 ·have w:=ix M;have m2:=ml A (k2 6 _ rfl);have c1:=sl 2342912 A g;have D:=wr U;refine xp w ?_;exact aB H (hw:=YR [((3,0),some (16,0))] [] rfl ad)
 exact ah [.tmp 2] (ms f H)
theorem K0(A:Int)(C:List Int)(g:R 68719476736 C):c 360 [rI A,rL 1 r C] [rI (Kg A C)]:=by have f:=me (Kg.eq_1 A C);have c1:=sl 68719476736 C g;refine so func360 ntmps360 ?_;refine aa (mf (([7,A]:List Int)++C)) ?_;exact rt _ f
theorem Om(A:Int)(C:ByteArray)(E:Int)(g:R 2326528 C):c 327 [rI A,rS C,rI E] [rI (WJ A C E)]:=by have f:=me (WJ.eq_1 A C E);refine so func327 ntmps327 ?_;have c1:C.size<=2326528:=XR (xs g);refine Qo (s:=C) rfl rfl rfl ab ab ab ab Y ?_;simp;refine aa (Z7.rd (uC C.data.toList (by simp[XG];first|omega|(simp[ByteArray.size]at*;omega)))) ?_;refine aa (K0 A (([E]:List Int)++N0 C.data.toList) bH) ?_;exact rt _ f
theorem ju(A:Int)(C:ZO)(g:R 2322432 C):c 305 [rI A,C.row] [rI (Y0 A C)]:=by
 have f:=me (Y0.eq_1 A C);refine so func305 ntmps305 ?_;refine aa (W4 C) ?_;refine cF f ?_ ?_<;>intro k1 M f
 ·exact rt [.tmp 4] f
 refine aq (TX.eq_2 A C) (fun J U=>Z6 37 [eI 0 A,eX 3 (C.row.map .d),(5,.one (.E 5 0 0 J.length),[.arr false 1 (J.map r)]),eL 15 1 C.b N,eI 16 (C.b.length:Int),eI 17 (U:Int)]) (fun K J U=>C.b.length<K+U/\U<=C.b.length/\J.length<=1+1*U) (C.b.length+1) ([C.e]:List Int) 0 (fun p1 J U H j1=>?_) (h0:=az [((5,0),some (13,0))] []);refine aj H ?_ ?_<;>intro k3 Z H
 ·have w:=ix Z;have m2:=ml C.b (k3 15 _ rfl);have c1:=sl 2322432 C.b g;have D:=wr U;have V:U<C.d.length:=by(have:=Ar (a:=C);first|(simp_all;done)|(simp_all;omega))
  refine xp (an w V) ?_;refine aa (Om A (I C.b U) (I C.d U) (B (ZY (ZO.qo g)))) ?_;exact aB H (hw:=YR [((5,0),some (32,0))] [] rfl ad)
 have c2:=sl 2322432 C.b g;have f:=ms f H;refine aa (K0 A J bG) ?_;exact rt [.tmp 4] f
theorem T9(A:G):Sd 358 [A.row] [rL 1 r (QH A)]:=by have f:=me (QH.eq_1 A);refine ar func358 ntmps358 ?_;exact ah [.tmp 2] f
theorem PZ(A:G):c 359 [A.row] [rB (yK A)]:=by have f:=me (yK.eq_1 A);refine so func359 ntmps359 ?_;refine aa (Z0 A.a 1 99) ?_;refine ak (fun p=>Z0 A.b 1 999) ?_;refine ak (fun p=>Z0 A.c 0 99) ?_;refine ak (fun p=>Z0 A.g 0 99) ?_;refine ak (fun p=>Z0 A.h 1 3) ?_;refine ak (fun p=>Z0 A.e 0 1000000000000) ?_;refine ak (fun p=>Z0 A.i 0 1000000000000) ?_;refine ak (fun p=>Z0 A.d 0 1000000000000) ?_;exact rt _ f
theorem tV(A:List YF)(C:G)(g:R 2318336 A):c 304 [rL 5 YF.row A,C.row] [(Xl A C).1.row,rB (Xl A C).2]:=by
 have f:=me (Xl.eq_1 A C);refine so func304 ntmps304 ?_;refine aw ac ?_;refine aa (Z7.rd (T9 C)) ?_;refine aa (OW A C.a (QH C) (B g) (by simp(maxDischargeDepth:=12) [SG];try omega)) ?_;refine aa (PZ C) ?_;refine cF f ?_ ?_<;>intro k2 M f
 ·exact rt _ f
 exact rt _ f
theorem MJ(A:G):Sd 306 [A.row] [(XQ A).row]:=by have f:=me (XQ.eq_1 A);refine ar func306 ntmps306 ?_;refine aw ac ?_;refine ai [false] (T9 A) ?_;exact ah _ f
theorem zj(A:YE):Sd 307 [A.row] [(yZ A).row]:=by have f:=me (yZ.eq_1 A);refine ar func307 ntmps307 ?_;refine aw ac ?_;refine ai [false] (IL A) ?_;exact ah _ f
theorem TL(A:ZD)(C:Int):c 183 [A.row,rI C] [rI (Z3 A C)]:=by
 have f:=me (Z3.eq_1 A C);refine so func183 ntmps183 ?_;refine aI (WK.eq_2 A C) (fun J=>Z6 21 [eI 1 C,eL 8 16 A.a ZU.row,eI 9 (A.a.length:Int),eI 10 (J:Int)]) (fun K J=>A.a.length<K+J/\J<=A.a.length) (A.a.length+1) 0 (fun p1 J H j1=>?_);refine aj H ?_ ?_<;>intro k2 M H
 ·have w:=ix M;have m2:=ml A.a (k2 8 _ rfl);have D:=wr J;refine xp w ?_;refine cF H ?_ ?_<;>intro k3 Z H
  ·exact rt _ (ms f H)
  exact aH D H
 exact rt _ (ms f H)
theorem Ku(A C:List Int):c 422 [rL 1 r A,rL 1 r C] [rB (LN A C)]:=by
 have f:=me (LN.eq_1 A C);refine so func422 ntmps422 ?_;refine cF f ?_ ?_<;>intro k1 M f
 ·exact rt _ f
 refine aI (IK.eq_2 A C) (fun J=>Z6 26 [eL 0 1 A r,eL 1 1 C r,eI 12 (A.length:Int),eI 13 (J:Int)]) (fun K J=>A.length<K+J/\J<=A.length) (A.length+1) 0 (fun p1 J H j1=>?_);refine cF H ?_ ?_<;>intro k3 Z H
 ·have w:=ix Z;have m2:=ml A (k3 0 _ rfl);have D:=wr J;refine ae ac ?_;have V:=ik J C;refine xp (an w V) ?_;refine cF H ?_ ?_<;>intro k5 h3 H
  ·exact rt _ (ms f H)
  exact aH D H
 exact rt _ (ms f H)
theorem Pd(A C:ZK):c 390 [A.row,C.row] [rB (jl A C)]:=by have f:=me (jl.eq_1 A C);refine so func390 ntmps390 ?_;refine ak (fun p=>Ku A.b C.b) ?_;exact rt [.tmp 4] f
theorem Pu(A:List ZK)(C:ZK):c 370 [rL 3 ZK.row A,C.row] [rB (Ji A C)]:=by
 have f:=me (Ji.eq_1 A C);refine so func370 ntmps370 ?_;refine aI (Rp.eq_2 A C) (fun J=>Z6 17 [eX 3 (C.row.map .d),eL 7 3 A ZK.row,eI 8 (A.length:Int),eI 9 (J:Int)]) (fun K J=>A.length<K+J/\J<=A.length) (A.length+1) 0 (fun p1 J H j1=>?_);refine aj H ?_ ?_<;>intro k2 M H
 ·have w:=ix M;have m2:=ml A (k2 7 _ rfl);have D:=wr J;refine xp w ?_;refine aa (Pd (I A J) C) ?_;refine cF H ?_ ?_<;>intro k3 Z H
  ·exact rt _ (ms f H)
  exact aH D H
 exact rt _ (ms f H)
theorem IE(A:ZR):c 324 [A.row] [rB (WR A)]:=by
 have f:=me (WR.eq_1 A);refine so func324 ntmps324 ?_;refine aa (Z0 (A.b.length:Int) 1 12) ?_;refine aF f ?_ ?_<;>intro k1 M f
 ·have q1:=M;try simp[ZW]at q1
  simp;exact rt _ f
 have q1:=M;try simp[ZW]at q1
 simp;refine aI (NZ.eq_2 A) (fun J=>Z6 65 [eX 1 (A.row.map .d),eL 19 3 A.b ZK.row,eI 20 (A.b.length:Int),eI 21 (J:Int)]) (fun K J=>A.b.length<K+J/\J<=A.b.length) (A.b.length+1) 0 (fun p1 J H j1=>?_);refine aj H ?_ ?_<;>intro k3 Z H
 ·have w:=ix Z;have D:=wr J;refine xp w ?_;refine aw ac ?_;refine aa (Pu (A.b.take J) (I A.b J)) ?_;refine cF H ?_ ?_<;>intro k5 h3 H
  ·exact rt _ (ms f H)
  exact aH D H
 have f:=ms f H;refine aI (Nd.eq_2 A) (fun T=>Z6 65 [eX 1 (A.row.map .d),eL 34 5 A.a ZZ.row,eI 35 (A.a.length:Int),eI 36 (T:Int)]) (fun n2 T=>A.a.length<n2+T/\T<=A.a.length) (A.a.length+1) 0 (fun p2 T e2 j2=>?_);refine aj e2 ?_ ?_<;>intro l h4 e2
 ·have V:=ix h4;have w2:=wr T;refine xp V ?_;refine aw ac ?_;refine aa (Z0 (I A.a T).d 1 (A.b.length:Int)) ?_;refine aK ?_ ?_<;>intro G
  ·have i3:=ik (T-1) A.a;have w3:IntKind.i64.wrap ((T:Int)-1)=(T:Int)-1:=YB Y Y;refine xg (an i3 w3) ?_;refine aE e2 ?_ ?_<;>intro L h5 e2
   ·have q5:=h5;try simp[ZW]at q5
    have f:=ms f e2;simp;refine ax ?_;exact O _ f
   ·have q5:=h5;try simp[ZW]at q5
    simp;refine ax ?_;exact aH (an w2 (an w3 G)) e2
  ·refine aE e2 ?_ ?_<;>intro af h6 e2
   ·have q:=h6;try simp[ZW]at q
    have f:=ms f e2;simp;refine ax ?_;exact O _ f
   ·have q:=h6;try simp[ZW]at q
    simp;refine ax ?_;exact aH (an w2 G) e2
 exact rt _ (ms f e2)
theorem vm(A:ZU):c 337 [A.row] [rB (Is A)]:=by
 have f:=me (Is.eq_1 A);refine so func337 ntmps337 ?_;refine aw ac ?_;refine aa (Z0 A.b 1 999) ?_;refine ak (fun p=>xa A.e) ?_;refine ak (fun p=>W4 A.c) ?_;refine ak (fun p=>IE A.a) ?_;refine aK ?_ ?_<;>intro G
 ·have g1:=G;try simp[ZW]at g1
  have w:0<A.a.b.length:=by have:=rQ (a:=A.a);simp_all
  refine xg w ?_;refine aO (fun p=>Z7.rd (MJ A.d)) ?_;refine aO (fun p=>Pd (I A.a.b 0) (XQ A.d)) ?_;exact O _ f
 ·refine aN ?_;simp;refine ax ?_;refine aN ?_;simp;refine ax ?_;exact O _ f
theorem kW(A:ZD):c 270 [A.row] [rB (Kj A)]:=by
 have f:=me (Kj.eq_1 A);refine so func270 ntmps270 ?_;refine aI (TP.eq_2 A) (fun J=>Z6 42 [eX 1 (A.row.map .d),eL 6 16 A.a ZU.row,eI 7 (A.a.length:Int),eI 8 (J:Int)]) (fun K J=>A.a.length<K+J/\J<=A.a.length) (A.a.length+1) 0 (fun p1 J H j1=>?_);refine aj H ?_ ?_<;>intro k2 M H
 ·have w:=ix M;have m2:=ml A.a (k2 6 _ rfl);have D:=wr J;refine xp w ?_;refine aw ac ?_;refine aa (vm (I A.a J)) ?_;refine aK ?_ ?_<;>intro G
  ·have V:=ik (J-1) A.a;have w2:IntKind.i64.wrap ((J:Int)-1)=(J:Int)-1:=YB Y Y;refine xg (an V w2) ?_;refine cK H ?_ ?_<;>intro k4 Z H
   ·exact O _ (ms f H)
   ·exact aH (an D (an w2 G)) H
  ·refine cK H ?_ ?_<;>intro k5 h3 H
   ·exact O _ (ms f H)
   ·exact aH (an D G) H
 have f:=ms f H;refine aa (Z0 A.b 0 99) ?_;exact rt _ f
theorem Bb(A:ZD)(C:ZU)(g:R 2318336 A)(S:R 2318336 C):Sd 308 [A.row,C.row] [(JS A C).1.row,rB (JS A C).2]:=by
 have f:=me (JS.eq_1 A C);refine ar func308 ntmps308 ?_;refine aa (TL A C.b) ?_;refine ak (fun p=>kW A) ?_;refine cF f ?_ ?_<;>intro k1 M f
 ·refine ai [] (Y1 A (B g)) ?_;exact ah _ f
 refine ai [] (Y1 A (B g)) ?_;refine aI (QJ.eq_2 A C) (fun J=>Z6 62 [eX 2 (A.row.map .d),eX 3 (C.row.map .d),(4,.one (.O 4 0),[.box [.d (.int .i64 0),.nil 16]]),(6,.one (.O 6 0),[.box [.d (.int .i64 A.b),.E 21 1 0 A.a.length]]),eI 7 (J:Int),(21,.any,[.none,.arr true 16 (A.a.map ZU.row)])]) (fun K J=>A.a.length<K+J/\J<=A.a.length) (A.a.length+1) 0 (fun p1 J H j1=>?_);refine aw ac ?_;refine aK ?_ ?_<;>intro G
 ·have w:=ik J A.a;simp[w,ZH];refine ax ?_;refine cK H ?_ ?_<;>intro k4 Z H
  ·have m2:=ml A.a (k4 24 _ rfl);have c1:=sl 2318336 A.a (an g S);have D:=wr J;exact aH (an D G) H
  ·have c2:=sl 2318336 A.a (an g S);have f:=ms f H;refine fr [(3,3),(6,6),(41,6),(50,6),(55,6)] [] [45,49,54] ac d d d d d d d ?_;simp;refine ax ?_;refine SN ?_;simp;refine ax ?_;refine dU (au:=([]:List ZU).map ZU.row) (Q:=A.a.map ZU.row) (am:=(A.a.take J).map ZU.row) (l1:=[(40,0)]) (X:=16) (u:=21) (j:=1) (lo:=0) (n:=J) rfl rfl rfl rfl ab ab ab ab ab ab b4 ab ab b4 ?_;simp;refine ax ?_;refine bo [true,true,true,false,false] (Vu C (B S)) ?_;refine SN ?_;simp;refine ax ?_;refine OT (au:=(A.a.take J).map ZU.row) (am:=([C]:List ZU).map ZU.row) (l1:=[(45,0)]) (l2:=[(47,3),(47,4),(47,14),(47,15)]) (X:=16) ?_;simp;refine ax ?_;refine dU (au:=(A.a.take J++([C]:List ZU)).map ZU.row) (Q:=zJ _ 0 J) (am:=(A.a.drop J).map ZU.row) (l1:=[(49,0)]) (X:=16) (u:=21) (j:=1) rfl rfl rfl rfl ab ab ab ab ab ab k8 ((vZ b4 b4).trans (Fs _ _ _)) ab b4 ?_;simp;refine ax ?_;refine a8 (kW (ZD.mk A.b ((A.a.take J++([C]:List ZU))++A.a.drop J))) ?_;refine cK f ?_ ?_<;>intro b h3 f
   ·refine bo [] (Y1 A (B g)) ?_;exact jo _ f
   ·exact jo _ f
 ·refine cK H ?_ ?_<;>intro l h4 H
  ·simp[G]at h4
  ·have c5:=sl 2318336 A.a (an g S);have f:=ms f H;refine fr [(3,3),(6,6),(41,6),(50,6),(55,6)] [] [45,49,54] ac d d d d d d d ?_;simp;refine ax ?_;refine SN ?_;simp;refine ax ?_;refine dU (au:=([]:List ZU).map ZU.row) (Q:=A.a.map ZU.row) (am:=(A.a.take J).map ZU.row) (l1:=[(40,0)]) (X:=16) (u:=21) (j:=1) (lo:=0) (n:=J) rfl rfl rfl rfl ab ab ab ab ab ab b4 ab ab b4 ?_;simp;refine ax ?_;refine bo [true,true,true,false,false] (Vu C (B S)) ?_;refine SN ?_;simp;refine ax ?_;refine OT (au:=(A.a.take J).map ZU.row) (am:=([C]:List ZU).map ZU.row) (l1:=[(45,0)]) (l2:=[(47,3),(47,4),(47,14),(47,15)]) (X:=16) ?_;simp;refine ax ?_;refine dU (au:=(A.a.take J++([C]:List ZU)).map ZU.row) (Q:=zJ _ 0 J) (am:=(A.a.drop J).map ZU.row) (l1:=[(49,0)]) (X:=16) (u:=21) (j:=1) rfl rfl rfl rfl ab ab ab ab ab ab k8 ((vZ b4 b4).trans (Fs _ _ _)) ab b4 ?_;simp;refine ax ?_;refine a8 (kW (ZD.mk A.b ((A.a.take J++([C]:List ZU))++A.a.drop J))) ?_;refine cK f ?_ ?_<;>intro L h5 f
   ·refine bo [] (Y1 A (B g)) ?_;exact jo _ f
   ·exact jo _ f
theorem DV(A:P)(C E:Int)(N:ZO)(T a5:Int)(g:R 2314240 A)(S:R 2314240 N):c 240 [A.row,rI C,rI E,N.row,rI T,rI a5] [(XZ A C E N T a5).1.row,rB (XZ A C E N T a5).2]:=by
 have f:=me (XZ.eq_1 A C E N T a5);refine so func240 ntmps240 ?_;refine aa (Tu A.b.c A.b.d) ?_;refine aa (Kr A C) ?_;refine ak (fun p=>JO A.b.a E) ?_;have c1:=sl 2314240 A.a (an g S);have D:IntKind.i64.wrap ((A.a.length:Int)-1)=(A.a.length:Int)-1:=YB Y Y;refine aF f ?_ ?_<;>intro k1 M f
 ·have q1:=M;try simp[D,Z5,ZW]at q1
  simp;exact rt [.cell 12 37,.tmp 13] f
 have q1:=M;try simp[D,Z5,ZW]at q1
 simp;refine aI (Qu.eq_2 A C E N T a5) (fun J=>Z6 116 [eI 1 C,eI 2 E,eI 4 T,eI 5 a5,eX 6 (A.row.map .d),eX 9 (N.row.map .d),(12,.one (.O 12 0),[.box [.nil 5,.nil 3,.nil 4,.d (.int .i64 0),.d (.int .i64 0),.nil 7,.nil 1,.nil 2,.nil 1,.nil 1,.d (.int .i64 0),.nil 1]]),eX 14 (A.b.row.map .d),eI 15 (Zj A.b.c A.b.d),eL 48 7 A.c YE.row,eI 49 (A.c.length:Int),eI 50 (J:Int)]) (fun K J=>A.c.length<K+J/\J<=A.c.length) (A.c.length+1) 0 (fun p1 J H j1=>?_);refine aj H ?_ ?_<;>intro k3 Z H
 ·have w:=ix Z;have m2:=ml A.c (k3 48 _ rfl);have c2:=sl 2314240 A.c (an g S);have w2:=wr J;refine xp w ?_;refine cF H ?_ ?_<;>intro k4 h3 H
  ·exact aH (an D w2) H
  refine aw ac ?_;refine aa (ju (Zj A.b.c A.b.d) N (B S)) ?_;refine aa (tV A.b.a (G.mk E (I A.c J).b (Zj A.b.c A.b.d) (Y0 (Zj A.b.c A.b.d) N) 1 T 0 0 0) (B (ZI.Yf (P.Yc g)))) ?_;refine aw ac ?_;refine aa (Z7.rd (MJ (Xl A.b.a (G.mk E (I A.c J).b (Zj A.b.c A.b.d) (Y0 (Zj A.b.c A.b.d) N) 1 T 0 0 0)).1)) ?_;refine aa (Z7.rd (zj (I A.c J))) ?_;refine bA ?_;refine ae ac ?_;have V:=ik C.toNat A.a
  refine xp V ?_;refine ai [] (Bb (I A.a C.toNat) (ZU.mk A.h a5 N (Xl A.b.a (G.mk E (I A.c J).b (Zj A.b.c A.b.d) (Y0 (Zj A.b.c A.b.d) N) 1 T 0 0 0)).1 (ZR.mk ([XQ (Xl A.b.a (G.mk E (I A.c J).b (Zj A.b.c A.b.d) (Y0 (Zj A.b.c A.b.d) N) 1 T 0 0 0)).1,yZ (I A.c J)]:List ZK) ([]:List ZZ))) (B (ZY (P.Zs g))) (by simp(maxDischargeDepth:=12) [I5,XG,FN,XF,ZJ (m:=2318336) au g,ZJ (m:=2318336) au S];try omega)) ?_;refine cF H ?_ ?_<;>intro k8 h4 H
  ·exact rt [.cell 12 37,.tmp 13] (ms f H)
  refine cP V qW (Ym A (B g)) ?_;refine C8 (t:=103) (j:=7) (i:=C.toNat) (X:=2) (Q:=A.a.map ZD.row) (ds:=(JS (I A.a C.toNat) (ZU.mk A.h a5 N (Xl A.b.a (G.mk E (I A.c J).b (Zj A.b.c A.b.d) (Y0 (Zj A.b.c A.b.d) N) 1 T 0 0 0)).1 (ZR.mk ([XQ (Xl A.b.a (G.mk E (I A.c J).b (Zj A.b.c A.b.d) (Y0 (Zj A.b.c A.b.d) N) 1 T 0 0 0)).1,yZ (I A.c J)]:List ZK) ([]:List ZZ)))).1.row) (L:=[(92,1)]) ?_;have f:=ms f H
  simp[VT (x:=(JS (I A.a C.toNat) (ZU.mk A.h a5 N (Xl A.b.a (G.mk E (I A.c J).b (Zj A.b.c A.b.d) (Y0 (Zj A.b.c A.b.d) N) 1 T 0 0 0)).1 (ZR.mk ([XQ (Xl A.b.a (G.mk E (I A.c J).b (Zj A.b.c A.b.d) (Y0 (Zj A.b.c A.b.d) N) 1 T 0 0 0)).1,yZ (I A.c J)]:List ZK) ([]:List ZZ)))).1) rfl,c1,V,ZH,Qi];refine bN ?_;exact rt [.cell 12 37,.tmp 13] f
 exact rt [.cell 12 37,.tmp 13] (ms f H)
theorem n9(A:P)(C E:Int)(N:ZO)(T a5:Int)(g:R 2310144 A)(S:R 2310144 N):Sd 174 [A.row,rI C,rI E,N.row,rI T,rI a5] [(qQ A C E N T a5).1.row,rB (qQ A C E N T a5).2]:=by
 have f:=me (qQ.eq_1 A C E N T a5);refine ar func174 ntmps174 ?_;refine aa (JO A.b.a E) ?_;refine aw ac ?_;refine aK ?_ ?_<;>intro G
 ·have w:(YA A.b.a E).toNat<A.b.a.length:=by have:=yD A.b.a E;exact il
  refine xg w ?_;refine cK f ?_ ?_<;>intro k2 M f
  ·refine bo qW (Ym A fq) ?_;exact jo _ f
  ·refine a8 (DV A C E N T a5 (B g) (B S)) ?_;refine bo qW (Ym (XZ A C E N T a5).1 h5) ?_;exact jo _ f
 ·refine cK f ?_ ?_<;>intro k3 Z f
  ·refine bo qW (Ym A fq) ?_;exact jo _ f
  ·simp[G]at Z
theorem OU(A:P)(C:Int):c 108 [A.row,rI C] [rI (S A C).1,rI (S A C).2]:=by
 have f:=me (S.eq_1 A C);refine so func108 ntmps108 ?_;refine aI (SQ.eq_2 A C) (fun J=>Z6 25 [eI 1 C,eL 10 2 A.a ZD.row,eI 11 (A.a.length:Int),eI 12 (J:Int)]) (fun K J=>A.a.length<K+J/\J<=A.a.length) (A.a.length+1) 0 (fun p1 J H j1=>?_);refine aj H ?_ ?_<;>intro k2 M H
 ·have w:=ix M;have m2:=ml A.a (k2 10 _ rfl);have D:=wr J;refine xp w ?_;refine aa (TL (I A.a J) C) ?_;refine cF H ?_ ?_<;>intro k3 Z H
  ·exact rt _ (ms f H)
  exact aH D H
 exact rt _ (ms f H)
theorem xx(A:ZK):c 361 [A.row] [rI (YX A)]:=by
 have f:=me (YX.eq_1 A);refine so func361 ntmps361 ?_;refine aw ac ?_;refine aK ?_ ?_<;>intro G
 ·have w:=ik 0 A.b;refine xg w ?_;refine aO (fun p=>Z0 (I A.b 0) 101 105) ?_;refine aJ G ?_ ?_<;>intro G
  ·all_goals
    have g2:=G.2;try simp[ZW]at g2
    all_goals
     refine xg w ?_;refine gK (fun _=>?_);have r1:∀i:Nat,i<5->cut [At.d (.int .i64 7),At.d (.int .i64 5),At.d (.int .i64 5),At.d (.int .i64 9),At.d (.int .i64 6)] i 1=[At.d (.int .i64 (I ([7,5,5,9,6]:List Int) i))]:=hV
     have V:(W (I A.b 0-101)).toNat<5:=by first|omega|((try simp only[Xf]at*);omega)
     have b:=r1 _ V;simp only[cut]at b;simp[b];refine ax ?_;refine aE f ?_ ?_<;>intro k2 M f
     ·have q1:=M;try simp[ZW]at q1
      simp;refine ax ?_;exact O _ f
     ·have q1:=M;try simp[ZW]at q1
      simp[w,ZH];refine ax ?_;exact O _ f
  ·all_goals
    refine aR ?_;refine aE f ?_ ?_<;>intro k3 Z f
    ·have q2:=Z;try simp[ZW]at q2
     simp;refine ax ?_;exact O _ f
    ·simp[G]at Z
 ·refine aN ?_;simp;refine ax ?_;refine aJ G ?_ ?_<;>intro G
  ·try(simp at G;done)
   all_goals
    have y:=G.2;try simp[ZW]at y
    all_goals
     have i5:=ik 0 A.b;refine xg i5 ?_;refine gK (fun _=>?_);have a:∀i:Nat,i<5->cut [At.d (.int .i64 7),At.d (.int .i64 5),At.d (.int .i64 5),At.d (.int .i64 9),At.d (.int .i64 6)] i 1=[At.d (.int .i64 (I ([7,5,5,9,6]:List Int) i))]:=hV;have i6:(W (I A.b 0-101)).toNat<5:=fB;have d:=a _ i6;simp only[cut]at d;simp[a _ i6,d,G];refine ax ?_;refine aE f ?_ ?_<;>intro k4 h3 f
     ·simp[G]at h3
     ·simp[G]at h3
  ·all_goals
    refine aR ?_;refine aE f ?_ ?_<;>intro k5 h4 f
    ·have q4:=h4;try simp[ZW]at q4
     simp;refine ax ?_;exact O _ f
    ·simp[G]at h4
theorem Mt(A:ZK):c 309 [A.row] [(XU A).1.row,rB (XU A).2]:=by
 have f:=me (XU.eq_1 A);refine so func309 ntmps309 ?_;refine aw ac ?_;refine aa (xx A) ?_;refine aK ?_ ?_<;>intro G
 ·have g1:=G;try simp at g1
  have w:6<A.b.length:=a5;refine xg w ?_;refine cK f ?_ ?_<;>intro k2 M f
  ·exact O _ f
  ·refine ae ac ?_;have V:1<A.b.length:=a5
   have i3:2<A.b.length:=a5;have i4:3<A.b.length:=a5;have i5:4<A.b.length:=a5;have i6:5<A.b.length:=a5;simp[V,ZH,i3,i4,i5,i6,w];refine ax ?_;exact O _ f
 ·refine cK f ?_ ?_<;>intro k4 Z f
  ·exact O _ f
  ·simp[G]at Z
theorem DZ(A:List YE)(C:Int):c 269 [rL 7 YE.row A,rI C] [rI (Jc A C)]:=by
 have f:=me (Jc.eq_1 A C);refine so func269 ntmps269 ?_;refine aI (WD.eq_2 A C) (fun J=>Z6 20 [eI 1 C,eL 7 7 A YE.row,eI 8 (A.length:Int),eI 9 (J:Int)]) (fun K J=>A.length<K+J/\J<=A.length) (A.length+1) 0 (fun p1 J H j1=>?_);refine aj H ?_ ?_<;>intro k2 M H
 ·have w:=ix M;have m2:=ml A (k2 7 _ rfl);have D:=wr J;refine xp w ?_;refine cF H ?_ ?_<;>intro k3 Z H
  ·exact rt _ (ms f H)
  exact aH D H
 exact rt _ (ms f H)
theorem EG(h:b)(k:a:=by(intros;first|omega|with_unfolding_all (first|first|omega|(have d:=Qt A C bg;omega)|(simp only[Bool.or_eq_false_iff,decide_eq_false_iff_not]at*;omega))|(simp_all;done)|(simp_all;omega)|grind|exact wt)):a/\b:=⟨k,h⟩
theorem vt(A:P)(C:Int):c 241 [A.row,rI C] [rI (Yr A C).1,rI (Yr A C).2.1,rB (Yr A C).2.2]:=by
 have f:=me (Yr.eq_1 A C);refine so func241 ntmps241 ?_;refine aa (OU A C) ?_;refine bp ?_ ?_<;>intro G
 ·have g1:=G;try simp at g1
  have w:(S A C).1.toNat<A.a.length:=fm;simp[w,ZH,G];repeat with_reducible refine EG ?_
  refine gK (fun _=>?_);have V:(S A C).2.toNat<(I A.a (S A C).1.toNat).a.length:=fm
  simp[V,ZH];repeat with_reducible refine EG ?_
  refine aE f ?_ ?_<;>intro k1 M f
  ·simp;exact O _ f
  ·have i3:1<(I (I A.a (S A C).1.toNat).a (S A C).2.toNat).a.b.length:=fm;simp[w,ZH,V,i3];repeat with_reducible refine EG ?_
   refine cR (Mt (I (I (I A.a (S A C).1.toNat).a (S A C).2.toNat).a.b 1)) ?_;simp;refine cR (DZ A.c (XU (I (I (I A.a (S A C).1.toNat).a (S A C).2.toNat).a.b 1)).1.b) ?_;simp;exact O _ f
 ·simp[G];refine aN ?_;simp;refine aE f ?_ ?_<;>intro k2 Z f
  ·simp;exact O _ f
  ·simp[G]at Z
theorem Gq(A:Zn):Sd 362 [A.row] [rL 1 r (K6 A)]:=by have f:=me (K6.eq_1 A);refine ar func362 ntmps362 ?_;exact ah [.tmp 2] f
theorem wD(A:Zn):c 363 [A.row] [rB (N6 A)]:=by have f:=me (N6.eq_1 A);refine so func363 ntmps363 ?_;refine aa (Z0 A.b 1 999) ?_;refine ak (fun p=>xa A.a) ?_;refine ak (fun p=>Z0 A.d (-1) (W (A.a+1))) ?_;refine ak (fun p=>Z0 A.e 1 99) ?_;exact rt _ f
theorem tw(A:List YF)(C:Zn)(g:R 2318336 A):c 310 [rL 5 YF.row A,C.row] [(Xp A C).1.row,rB (Xp A C).2]:=by
 have f:=me (Xp.eq_1 A C);refine so func310 ntmps310 ?_;refine aw ac ?_;refine aa (Z7.rd (Gq C)) ?_;refine aa (OW A C.e (K6 C) (B g) (by simp(maxDischargeDepth:=12) [Gk];try omega)) ?_;refine aa (wD C) ?_;refine cF f ?_ ?_<;>intro k2 M f
 ·exact rt _ f
 exact rt _ f
theorem Bf(A:Zn):Sd 312 [A.row] [(Q8 A).row]:=by have f:=me (Q8.eq_1 A);refine ar func312 ntmps312 ?_;refine aw ac ?_;refine ai [false] (Gq A) ?_;exact ah _ f
theorem oC(A:ZR)(C:ZK)(g:R 2326528 A)(S:R 2326528 C):Sd 364 [A.row,C.row] [(qJ A C).1.row,rB (qJ A C).2]:=by
 have f:=me (qJ.eq_1 A C);refine ar func364 ntmps364 ?_;refine ai [] (xv A (B g)) ?_;refine bc [14] ac ?_;simp;refine ai [true,false] (T2 C (B S)) ?_;refine SN ?_;have c1:=sl 2326528 A.b (an g S);simp;refine OT (au:=A.b.map ZK.row) (am:=([C]:List ZK).map ZK.row) (l1:=[(8,0)]) (l2:=[(12,1)]) (X:=3) ?_;simp;refine aa (IE (ZR.mk (A.b++([C]:List ZK)) A.a)) ?_;refine cF f ?_ ?_<;>intro k2 M f
 ·refine ai [] (xv A (B g)) ?_;exact ah _ f
 exact ah _ f
theorem r2(A:ZD)(C:Int)(E:ZK)(g:R 2318336 A)(S:R 2318336 E):Sd 311 [A.row,rI C,E.row] [(Qp A C E).1.row,rB (Qp A C E).2]:=by
 have f:=me (Qp.eq_1 A C E);refine ar func311 ntmps311 ?_;refine ai [] (Y1 A (B g)) ?_;refine aa (TL A C) ?_;refine cF f ?_ ?_<;>intro k1 M f
 ·exact ah [.cell 6 50,.tmp 7] f
 refine ae ac ?_;have w:(Z3 A C).toNat<A.a.length:=by have:=Kv A C;exact il
 refine xp w ?_;refine cP w [] (oC (I A.a (Z3 A C).toNat).a E (B (ZU.YM (ZY (ZD.Z8 g)))) (B S)) ?_;refine ea (t:=13) (j:=1) (i:=(Z3 A C).toNat) (c:=14) (X:=16) (Q:=A.a.map ZU.row) (ds:=(qJ (I A.a (Z3 A C).toNat).a E).1.row) (L:=[(28,0),(28,1)]) rfl rfl rfl rfl ab ab (by simp;try omega) ab ab ab ab ab ab ?_;refine xp w ?_;exact ah [.cell 6 50,.tmp 7] f
theorem IY(A:P)(C E:Int)(N:Zn)(g:R 2314240 A)(S:0<=C/\C<(A.a.length:Int)):Sd 242 [A.row,rI C,rI E,N.row] [(KE A C E N).1.row,rB (KE A C E N).2]:=by
 have f:=me (KE.eq_1 A C E N);refine ar func242 ntmps242 ?_;refine aa (tw A.b.a N (B (ZI.Yf (P.Yc g)))) ?_;refine ae ac ?_;have w:=ik C.toNat A.a;refine xp w ?_;refine aa (Z7.rd (Bf (Xp A.b.a N).1)) ?_;refine ai [] (r2 (I A.a C.toNat) E (Q8 (Xp A.b.a N).1) (B (ZY (P.Zs g))) (by simp(maxDischargeDepth:=12) [Ip,ZJ (m:=2318336) au g];try omega)) ?_;refine ai qW (Ym A (B g)) ?_;refine aQ f ?_ ?_<;>intro k2 M f
 ·exact ah [.cell 8 37,.tmp 9] f
 refine aU ?_;refine C8 (t:=36) (j:=7) (i:=C.toNat) (X:=2) (Q:=A.a.map ZD.row) (ds:=(Qp (I A.a C.toNat) E (Q8 (Xp A.b.a N).1)).1.row) (L:=[(32,1)]) ?_;refine aU ?_;exact ah [.cell 8 37,.tmp 9] f
theorem uX(h:b)(k:a:=by(intros;first|omega|with_unfolding_all (first|first|omega|(have z:=yG A C cX;(try simp at*);omega))|exact wt)):a/\b:=⟨k,h⟩
theorem Tn(h:b)(k:a:=by(intros;first|omega|with_unfolding_all (first|first|omega|(have z:=yG A C cX;(try simp at*);omega))|(simp_all;done)|(simp_all;omega)|grind|exact wt)):a/\b:=⟨k,h⟩
theorem tq(A:P)(C:Int)(g:R 2310144 A):Sd 175 [A.row,rI C] [(xD A C).1.row,rB (xD A C).2]:=by
 have f:=me (xD.eq_1 A C);refine ar func175 ntmps175 ?_;refine aa (vt A C) ?_;refine cF f ?_ ?_<;>intro k1 M f
 ·refine ai qW (Ym A (B g)) ?_;exact ah _ f
 refine ae ac ?_;have w:(Yr A C).2.1.toNat<A.c.length:=e4
 simp[w,ZH];repeat with_reducible refine uX ?_
 refine aa (JO A.b.a (I A.c (Yr A C).2.1.toNat).e) ?_;refine aw ac ?_;refine bp ?_ ?_<;>intro G
 ·have g1:=G;try simp at g1
  have V:(YA A.b.a (I A.c (Yr A C).2.1.toNat).e).toNat<A.b.a.length:=by have:=yD A.b.a (I A.c (Yr A C).2.1.toNat).e;first|omega|(have z:=yG A C cX;(try simp at*);omega)
  simp[V,ZH,G];repeat with_reducible refine Tn ?_
  refine aE f ?_ ?_<;>intro k4 Z f
  ·simp;refine cD qW (Ym A (B g)) ?_;simp;exact jo _ f
  ·have i3:(Yr A C).2.1.toNat<A.d.length:=e4;simp[i3,ZH];repeat with_reducible refine Tn ?_
   refine aE f ?_ ?_<;>intro k5 h3 f
   ·simp;refine ae ac ?_;simp[w,ZH];repeat with_reducible refine Tn ?_
    refine cD qW (IY A (Yr A C).1 C (Zn.mk (I A.c (Yr A C).2.1.toNat).b A.b.d (-1) (I A.c (Yr A C).2.1.toNat).e 0) (B g) fZ) ?_;simp;exact jo _ f
   ·simp;refine ae ac ?_;simp[w,ZH];repeat with_reducible refine Tn ?_
    refine cD qW (IY A (Yr A C).1 C (Zn.mk (I A.c (Yr A C).2.1.toNat).b A.b.d (I A.d (Yr A C).2.1.toNat) (I A.c (Yr A C).2.1.toNat).e 0) (B g) fZ) ?_;simp;exact jo _ f
 ·simp[G];refine aE f ?_ ?_<;>intro k8 h4 f
  ·simp;refine cD qW (Ym A (B g)) ?_;simp;exact jo _ f
  ·simp[G]at h4
theorem uL(A:P)(C:Int)(g:R 2314240 A):Sd 176 [A.row,rI C] [(xB A C).1.row,rB (xB A C).2]:=by
 have f:=me (xB.eq_1 A C);refine ar func176 ntmps176 ?_;refine ai qW (Ym A (B g)) ?_;refine aa (Z0 C 0 (W ((A.d.length:Int)-1))) ?_;refine aK ?_ ?_<;>intro G
 ·have c1:=sl 2314240 A.d g;have D:IntKind.i64.wrap ((A.d.length:Int)-1)=(A.d.length:Int)-1:=YB Y Y;have g1:=G;try simp[ZW,D]at g1
  have w:=ik C.toNat A.d;refine xg w ?_;refine aE f ?_ ?_<;>intro k1 M f
  ·have q1:=M;try simp[ZW,D]at q1
   simp;refine ax ?_;exact jo _ f
  ·have q1:=M;try simp[ZW,D]at q1
   simp[w,ZH];refine ax ?_;refine BL (rv:=[.cell 4 37,.tmp 5]) rfl ?_;simp[f.h];all_goals(repeat' (first|exact ss ab ab|refine And.intro ?_ ?_))
 ·have c2:=sl 2314240 A.d g;refine aE f ?_ ?_<;>intro k2 Z f
  ·have q2:=Z;try simp[ZW,w2]at q2
   simp;refine ax ?_;exact jo _ f
  ·simp[G]at Z
theorem N9(A:List Int):c 244 [rL 1 r A] [rB (xj A)]:=by
 have f:=me (xj.eq_1 A);refine so func244 ntmps244 ?_;refine aI (Pq.eq_2 A) (fun J=>Z6 20 [eL 0 1 A r,eI 3 (J:Int)]) (fun K J=>A.length<K+J/\1<=J) (A.length+1) 1 (fun p1 J H j1=>?_);refine cF H ?_ ?_<;>intro k2 M H
 ·have w:=ix M;have m2:=ml A (k2 0 _ rfl);have D:=wr J;refine ae ac ?_;have V:=ik (J-1) A;have w2:IntKind.i64.wrap ((J:Int)-1)=(J:Int)-1:=YB Y Y;refine xp (an V (an w2 w)) ?_;refine cF H ?_ ?_<;>intro k4 Z H
  ·exact rt _ (ms f H)
  exact aH (an D w2) H
 exact rt _ (ms f H)
theorem Mm(A:ZX):Sd 316 [A.row] [rL 1 r (zW A)]:=by have f:=me (zW.eq_1 A);refine ar func316 ntmps316 ?_;exact ah [.tmp 2] f
theorem SB(A:Int)(C:ZZ)(g:R 2326528 C):c 322 [rI A,C.row] [rI (KY A C)]:=by
 have f:=me (KY.eq_1 A C);refine so func322 ntmps322 ?_;refine aq (yj.eq_2 C) (fun J U=>Z6 59 [eI 0 A,eX 3 (C.row.map .d),(5,.one (.E 5 0 0 J.length),[.arr false 1 (J.map r)]),eL 19 2 C.b Xy.row,eI 20 (C.b.length:Int),eI 21 (U:Int)]) (fun K J U=>C.b.length<K+U/\U<=C.b.length/\J.length<=4+2*U) (C.b.length+1) ([4,C.d,C.c,C.e]:List Int) 0 (fun p1 J U H j1=>?_) (h0:=az [((5,0),some (17,0))] []);refine aF H ?_ ?_<;>intro k2 M H
 ·have q1:=M;try simp at q1
  have w:=ix M;have m2:=ml C.b (k2 19 _ rfl);have c1:=sl 2326528 C.b g;have D:=wr U;refine xp w ?_;refine aF H ?_ ?_<;>intro k3 Z H
  ·have q2:=Z;try simp at q2
   refine aU ?_;exact aB H (hw:=YR [((5,0),some (32,0))] [] rfl ad)
  have q2:=Z;try simp at q2
  refine aU ?_;exact aB H (hw:=YR [((5,0),some (32,0))] [] rfl ad)
 have q1:=M;try simp at q1
 have c2:=sl 2326528 C.b g;have f:=ms f H;refine aU ?_;refine aq (jR.eq_2 C) (fun T q=>Z6 59 [eI 0 A,(5,.one (.E 5 0 0 T.length),[.arr false 1 (T.map r)]),eL 41 5 C.a ZX.row,eI 42 (C.a.length:Int),eI 43 (q:Int)]) (fun n2 T q=>C.a.length<n2+q/\q<=C.a.length/\T.length<=5+2*2326528+6*q) (C.a.length+1) (J++([(C.a.length:Int)]:List Int)) 0 (fun p2 T q e2 j2=>?_) (v:=by(have o:C.b.length<=2326528:=Zx (xs g);simp at*;omega)) (h0:=az [((5,0),some (39,0))] []);refine aF e2 ?_ ?_<;>intro k5 h3 e2
 ·have q3:=h3;try simp at q3
  have V:=ix h3;have m4:=ml C.a (k5 41 _ rfl);have c3:=sl 2326528 C.a g;have w2:=wr q;refine xp V ?_;refine aw ac ?_;refine aa (Z7.rd (Mm (I C.a q))) ?_;exact aB e2 (v:=by(simp;omega)) (hw:=YR [((5,0),some (54,0))] [] rfl (by simp[w2]))
 have q3:=h3;try simp at q3
 have c4:=sl 2326528 C.a g;have f:=ms f e2;simp;refine aa (K0 A T bG) ?_;exact rt [.tmp 4] f
theorem Li(A:Int)(C:List ZK)(g:R 2326528 C):c 369 [rI A,rL 3 ZK.row C] [rI (yd A C)]:=by
 have f:=me (yd.eq_1 A C);refine so func369 ntmps369 ?_;refine aq (kD.eq_2 A C) (fun J U=>Z6 32 [eI 0 A,(5,.one (.E 5 0 0 J.length),[.arr false 1 (J.map r)]),eL 9 3 C ZK.row,eI 10 (C.length:Int),eI 11 (U:Int)]) (fun K J U=>C.length<K+U/\U<=C.length/\J.length<=1+1*U) (C.length+1) ([2]:List Int) 0 (fun p1 J U H j1=>?_) (h0:=az [((5,0),some (8,0))] []);refine aj H ?_ ?_<;>intro k2 M H
 ·have w:=ix M;have m2:=ml C (k2 9 _ rfl);have c1:=sl 2326528 C g;have D:=wr U;have c2:=sl 2326528 (I C U).b g;refine xp w ?_;refine aa (K0 A (([(I C U).a,(I C U).f]:List Int)++(I C U).b) bH) ?_;exact aB H (hw:=YR [((5,0),some (27,0))] [] rfl ad)
 have c3:=sl 2326528 C g;have f:=ms f H;refine aa (K0 A J bG) ?_;exact rt [.tmp 4] f
theorem LZ(A C:Int)(E:List ZK)(N:Int)(g:R 2322432 E):c 323 [rI A,rI C,rL 3 ZK.row E,rI N] [rI (OO A C E N)]:=by have f:=me (OO.eq_1 A C E N);refine so func323 ntmps323 ?_;refine aa (Li A E (B g)) ?_;refine aa (K0 A ([3,C,yd A E,N]:List Int) bH) ?_;exact rt _ f
theorem Bk(A:ZU)(C:Int)(g:R 2318336 A):c 254 [A.row,rI C] [rI (KM A C)]:=by
 have f:=me (KM.eq_1 A C);refine so func254 ntmps254 ?_;refine aj f ?_ ?_<;>intro k1 M f
 ·have w:=ik (A.a.a.length-1) A.a.a;have q:=ml A.a.a (k1 9 _ rfl);have D:IntKind.i64.wrap ((A.a.a.length:Int)-1)=(A.a.a.length:Int)-1:=YB Y Y;refine xp (an w D) ?_;refine aa (SB C (I A.a.a (A.a.a.length-1)) (B (ZY (ZR.QK (ZU.YM g))))) ?_;refine aw ac ?_;refine aa (ju C A.c (B (ZU.JM g))) ?_;refine aa (LZ C (Y0 C A.c) A.a.b (KY C (I A.a.a (A.a.a.length-1))) (B (ZR.Yp (ZU.YM g)))) ?_;exact rt _ f
 refine aw ac ?_;refine aa (ju C A.c (B (ZU.JM g))) ?_;refine aa (LZ C (Y0 C A.c) A.a.b 0 (B (ZR.Yp (ZU.YM g)))) ?_;exact rt _ f
theorem Ed(A:ZD)(C:Int)(g:R 2314240 A):Sd 314 [A.row,rI C] [rL 1 r (JU A C)]:=by
 have f:=me (JU.eq_1 A C);refine ar func314 ntmps314 ?_;refine aq (VN.eq_2 A C) (fun J U=>Z6 23 [eI 1 C,(5,.one (.E 5 0 0 J.length),[.arr false 1 (J.map r)]),eL 9 16 A.a ZU.row,eI 10 (A.a.length:Int),eI 11 (U:Int)]) (fun K J U=>A.a.length<K+U/\U<=A.a.length/\J.length<=0+1*U) (A.a.length+1) ([]:List Int) 0 (fun p1 J U H j1=>?_) (h0:=az [((5,0),none)] []);refine aj H ?_ ?_<;>intro k2 M H
 ·have w:=ix M;have m2:=ml A.a (k2 9 _ rfl);have c1:=sl 2314240 A.a g;have D:=wr U;refine xp w ?_;refine aa (Bk (I A.a U) C (B (ZY (ZD.Z8 g)))) ?_;exact aB H (hw:=YR [((5,0),some (20,0))] [] rfl ad)
 exact ah [.tmp 4] (ms f H)
theorem O9(A C E:Int):c 407 [rI A,rI C,rI E] [rI (WV A C E)]:=by have f:=me (WV.eq_1 A C E);refine so func407 ntmps407 ?_;refine aa (K0 A ([1,C,E]:List Int) (by simp(maxDischargeDepth:=12) [I5,XG];try omega)) ?_;exact rt [.tmp 6] f
theorem Tw(A:Int)(C:List Int)(g:R 2322432 C):Sd 365 [rI A,rL 1 r C] [rL 1 r (yB A C)]:=by
 have f:=me (yB.eq_1 A C);refine ar func365 ntmps365 ?_;refine aq (yP.eq_2 A C) (fun J U=>Z6 40 [eI 0 A,eL 1 1 C r,(5,.one (.E 5 0 0 J.length),[.arr false 1 (J.map r)]),eI 6 (U:Int)]) (fun K J U=>C.length<K+U/\U<=C.length+1/\J.length<=U) (C.length+1) ([]:List Int) 0 (fun p1 J U H j1=>?_) (h0:=az [((5,0),none)] []);refine cF H ?_ ?_<;>intro k2 M H
 ·have w:=ix M;have m2:=ml C (k2 1 _ rfl);have c1:=sl 2322432 C g;have D:=wr U;refine aQ H ?_ ?_<;>intro k3 Z H
  ·refine aW fun k4=>?_;refine ae ac ?_;have V:=ik (W ((U:Int)+1)).toNat C
   refine xp (an w V) ?_;refine aa (O9 A (I C U) (I C (W ((U:Int)+1)).toNat)) ?_ (al:=by first|(simp;done)|(simp[W,D];done));have w2:IntKind.i64.wrap ((U:Int)+2)=(U:Int)+2:=YB Y Y
   exact aB H (v:=by first|omega|(simp at*;omega)) (hw:=YR [((5,0),some (31,0))] [] rfl bC)
  refine xp w ?_;have w3:IntKind.i64.wrap ((U:Int)+2)=(U:Int)+2:=YB Y Y
  exact aB H (v:=by first|omega|(simp at*;omega)) (hw:=YR [((5,0),some (38,0))] [] rfl (by simp[D,w3]))
 exact ah [.tmp 4] (ms f H)
theorem DR(A:Int)(C:List Int)(g:R 2318336 C):c 313 [rI A,rL 1 r C] [rI (PE A C)]:=by
 have f:=me (PE.eq_1 A C);refine so func313 ntmps313 ?_;refine aa (Z0 (C.length:Int) 1 16) ?_;refine aF f ?_ ?_<;>intro k1 M f
 ·have q1:=M;try simp[ZW]at q1
  simp;exact rt _ f
 have q1:=M;try simp[ZW]at q1
 simp;refine aI (Rc.eq_2 A) (fun J=>Z6 18 [eI 0 A,eL 1 1 J r]) (fun K J=>J.length<K/\1<=J.length/\J.length<=16) (C.length+1) C (fun p1 J H j1=>?_) (v:=by first|omega|(simp at*;omega));refine aQ H ?_ ?_<;>intro k3 Z H
 ·refine aa (Z7.rd (Tw A J cm)) ?_;exact iF H (v:=by(have z:=Uc A J Y;(try dsimp only);simp at*;omega))
 have f:=ms f H;have w:=ik 0 J;refine xp w ?_;exact rt _ f
theorem B0(A:ZD)(C:Int)(g:R 2310144 A):c 245 [A.row,rI C] [rI (Kk A C)]:=by have f:=me (Kk.eq_1 A C);refine so func245 ntmps245 ?_;refine aa (Z7.rd (Ed A C (B g))) ?_;refine aa (DR C (JU A C) (by simp(maxDischargeDepth:=12) [Mp,ZJ (m:=2318336) au g];try omega)) ?_;exact rt _ f
theorem qH(A:List ZS)(C:Int):c 246 [rL 3 ZS.row A,rI C] [rI (Zo A C)]:=by
 have f:=me (Zo.eq_1 A C);refine so func246 ntmps246 ?_;refine aI (K8.eq_2 A C) (fun J=>Z6 20 [eI 1 C,eL 7 3 A ZS.row,eI 8 (A.length:Int),eI 9 (J:Int)]) (fun K J=>A.length<K+J/\J<=A.length) (A.length+1) 0 (fun p1 J H j1=>?_);refine aj H ?_ ?_<;>intro k2 M H
 ·have w:=ix M;have m2:=ml A (k2 7 _ rfl);have D:=wr J;refine xp w ?_;refine cF H ?_ ?_<;>intro k3 Z H
  ·exact rt _ (ms f H)
  exact aH D H
 exact rt _ (ms f H)
theorem Bg(A:List Int)(C:Int):c 315 [rL 1 r A,rI C] [rI (Kl A C)]:=by
 have f:=me (Kl.eq_1 A C);refine so func315 ntmps315 ?_;refine aI (Sc.eq_2 A C) (fun J=>Z6 19 [eI 1 C,eL 7 1 A r,eI 8 (A.length:Int),eI 9 (J:Int)]) (fun K J=>A.length<K+J/\J<=A.length) (A.length+1) 0 (fun p1 J H j1=>?_);refine aj H ?_ ?_<;>intro k2 M H
 ·have w:=ix M;have m2:=ml A (k2 7 _ rfl);have D:=wr J;refine xp w ?_;refine cF H ?_ ?_<;>intro k3 Z H
  ·exact rt _ (ms f H)
  exact aH D H
 exact rt _ (ms f H)
theorem Sq(A:List Int)(C:Int):c 247 [rL 1 r A,rI C] [rB (y6 A C)]:=by have f:=me (y6.eq_1 A C);refine so func247 ntmps247 ?_;refine aa (Bg A C) ?_;exact rt [.tmp 4] f
theorem R4(A:List YF)(C:List ZS)(E:ZX)(g:R 2318336 A)(S:R 2318336 C):c 248 [rL 5 YF.row A,rL 3 ZS.row C,E.row] [(QX A C E).1.row,rB (QX A C E).2]:=by
 have f:=me (QX.eq_1 A C E);refine so func248 ntmps248 ?_;refine aa (qH C E.a) ?_;refine ak (fun p=>xa E.c) ?_;refine cF f ?_ ?_<;>intro k1 M f
 ·exact rt _ f
 refine ae ac ?_;have w:(Zo C E.a).toNat<C.length:=by have:=Jk C E.a;exact il
 refine xp w ?_;refine aa (Z7.rd (Mm E)) ?_;refine aa (OW A (I C (Zo C E.a).toNat).a (zW E) (B g) (by simp(maxDischargeDepth:=12) [pT];try omega)) ?_;refine cF f ?_ ?_<;>intro k3 Z f
 ·exact rt _ f
 exact rt _ f
theorem Dw(h:b)(k:a:=by(intros;first|omega|with_unfolding_all (first|first|omega|(have c:=Int.tmod_eq_emod_of_nonneg (b:=2) (show 0<=U by omega);(try simp only[Xf,show ∀x,IntKind.i64.wrap x=W x from fun _=>rfl]at*);(try simp at*);omega))|exact wt)):a/\b:=⟨k,h⟩
theorem pJ(A:Int)(C:List Int)(E:Int)(g:R 2318336 C):Sd 317 [rI A,rL 1 r C,rI E] [rL 2 Xy.row (qG A C E)]:=by
 have f:=me (qG.eq_1 A C E);refine ar func317 ntmps317 ?_;refine aa (Z0 E 0 (W ((C.length:Int)-1))) ?_;have c1:=sl 2318336 C g;have D:IntKind.i64.wrap ((C.length:Int)-1)=(C.length:Int)-1:=YB Y Y;refine aF f ?_ ?_<;>intro k1 M f
 ·have q1:=M;try simp[ZW,D]at q1
  simp;exact ah [.tmp 6] f
 have q1:=M;try simp[ZW,D]at q1
 simp;refine bu (xF.eq_2 A) (fun J U y=>Z6 54 [eI 0 A,eL 1 1 J r,eI 2 U,(7,.one (.E 7 0 0 y.length),[.arr false 2 (y.map Xy.row)])]) (fun K J U y=>J.length<K/\0<=U/\U<(J.length:Int)/\J.length<=16/\y.length+K<=17) (C.length+1) C E ([]:List Xy) (fun p1 J U y H j1=>?_) (v:=by first|omega|(simp at*;omega)) (h0:=az [((7,0),none)] []);refine cF H ?_ ?_<;>intro k3 Z H
 ·refine aj H ?_ ?_<;>intro k4 h3 H
  ·have w:(W (U-1)).toNat<J.length:=i0;simp[w,ZH];repeat with_reducible refine Dw ?_
   refine aa (Z7.rd (Tw A J cm)) ?_;exact be H (v:=by(have z:=Uc A J Y;have j:=Int.tdiv_eq_ediv_of_nonneg (b:=2) (show 0<=U by omega);have w2:W (Int.tdiv U 2)=Int.tdiv U 2:=YB Y Y;(try dsimp only);rw[w2];simp at*;omega)) (hw:=YR [((7,0),some (33,0))] [] rfl ad)
  refine aF H ?_ ?_<;>intro k5 h4 H
  ·have q4:=h4;try simp[D]at q4
   have V:(W (U+1)).toNat<J.length:=i0;simp[V,ZH];repeat with_reducible refine Dw ?_
   refine aa (Z7.rd (Tw A J cm)) ?_;exact be H (v:=by(have z:=Uc A J Y;have j:=Int.tdiv_eq_ediv_of_nonneg (b:=2) (show 0<=U by omega);have w2:W (Int.tdiv U 2)=Int.tdiv U 2:=YB Y Y;(try dsimp only);rw[w2];simp at*;omega)) (hw:=YR [((7,0),some (47,0))] [] rfl ad)
  have q4:=h4;try simp[D]at q4
  simp;refine aa (Z7.rd (Tw A J cm)) ?_;exact a3 D H (v:=by(have z:=Uc A J Y;have j:=Int.tdiv_eq_ediv_of_nonneg (b:=2) (show 0<=U by omega);have w2:W (Int.tdiv U 2)=Int.tdiv U 2:=YB Y Y;(try dsimp only);rw[w2];simp at*;omega))
 exact ah [.tmp 6] (ms f H)
theorem Gb(A:ZR)(C:ZZ)(g:R 2326528 A)(S:R 2326528 C):Sd 255 [A.row,C.row] [(Qr A C).1.row,rB (Qr A C).2]:=by
 have f:=me (Qr.eq_1 A C);refine ar func255 ntmps255 ?_;refine ai [] (xv A (B g)) ?_;refine bc [14] ac ?_;simp;refine ai [true,true,true,false,false] (LV C (B S)) ?_;refine SN ?_;have c1:=sl 2326528 A.a (an g S);simp;refine OT (au:=A.a.map ZZ.row) (am:=([C]:List ZZ).map ZZ.row) (l1:=[(8,1)]) (l2:=[(12,3),(12,4)]) (X:=5) ?_;simp;refine aa (IE (ZR.mk A.b (A.a++([C]:List ZZ)))) ?_;refine cF f ?_ ?_<;>intro k2 M f
 ·refine ai [] (xv A (B g)) ?_;exact ah _ f
 exact ah _ f
theorem AT(A:ZD)(C:Int)(E:List ZX)(g:R 2306048 A)(S:R 2306048 E):Sd 249 [A.row,rI C,rL 5 ZX.row E] [(Kz A C E).1.row,rB (Kz A C E).2]:=by
 have f:=me (Kz.eq_1 A C E);refine ar func249 ntmps249 ?_;refine ak (fun p=>kW A) ?_;refine cF f ?_ ?_<;>intro k1 M f
 ·refine ai [] (Y1 A (B g)) ?_;exact ah [.cell 6 50,.tmp 7] f
 refine ai [] (Y1 A (B g)) ?_;refine aa (Z7.rd (Ed A C (B g))) ?_;refine aq (KW.eq_2 A C E) (fun J U=>Z6 75 [eI 1 C,eL 2 5 E ZX.row,eX 3 (A.row.map .d),(6,.one (.O 6 0),[.box [.d (.int .i64 0),.nil 16]]),(8,.one (.O 8 0),[.box [.d (.int .i64 A.b),.E 26 1 0 U.length]]),eL 9 1 (JU A C) r,(26,.any,[.none,.arr true 16 (U.map ZU.row)]),eL 31 16 A.a ZU.row,eI 32 (A.a.length:Int),eI 33 (J:Int)]) (fun K J U=>A.a.length<K+J/\J<=A.a.length/\U.length=A.a.length) (A.a.length+1) 0 A.a (fun p1 J U H j1=>?_);refine aj H ?_ ?_<;>intro k3 Z H
 ·have w:=ix Z;have m2:=ml A.a (k3 31 _ rfl);have c1:=sl 2306048 A.a (an g S);have D:=wr J;refine xp w ?_;refine aw ac ?_;refine aa (B0 A C (B g)) ?_;refine aa (Z7.rd (pJ C (JU A C) (J:Int) (by simp(maxDischargeDepth:=12) [Mp,ZJ (m:=2318336) au g,ZJ (m:=2318336) au S];try omega))) ?_;refine ai [] (Gb (I A.a J).a (ZZ.mk ((I A.a J).a.b.length:Int) C (Kk A C) (qG C (JU A C) (J:Int)) E) (B (ZU.YM (ZY (ZD.Z8 g)))) (by simp(maxDischargeDepth:=12) [DT,Mp,ZJ (m:=2326528) au g,ZJ (m:=2326528) au S];try omega)) ?_;refine aQ H ?_ ?_<;>intro k5 h3 H
  ·refine ai [] (Y1 A (B g)) ?_;exact ah [.cell 6 50,.tmp 7] (ms f H)
  have V:=ik J U;refine xp V ?_;refine ea (t:=26) (j:=1) (i:=J) (c:=14) (X:=16) (Q:=U.map ZU.row) (ds:=(Qr (I A.a J).a (ZZ.mk ((I A.a J).a.b.length:Int) C (Kk A C) (qG C (JU A C) (J:Int)) E)).1.row) (L:=[(55,0),(55,1)]) rfl rfl rfl rfl ab ab (by simp;try omega) ab ab ab ab ab ab ?_;simp[VT (x:=ZU.mk (I U J).b (I U J).e (I U J).c (I U J).d (Qr (I A.a J).a (ZZ.mk ((I A.a J).a.b.length:Int) C (Kk A C) (qG C (JU A C) (J:Int)) E)).1) rfl,V,ZH,Qi];refine bN ?_;exact ay D H
 have f:=ms f H;refine aa (kW (ZD.mk A.b U)) ?_;refine cF f ?_ ?_<;>intro b h4 f
 ·refine ai [] (Y1 A (B g)) ?_;exact ah [.cell 6 50,.tmp 7] f
 exact ah [.cell 6 50,.tmp 7] f
theorem Vd(A:P)(C:Int)(E:List Int)(N:Int)(g:R 2301952 A)(S:R 2301952 E):Sd 177 [A.row,rI C,rL 1 r E,rI N] [(jA A C E N).1.row,rB (jA A C E N).2]:=by
 have f:=me (jA.eq_1 A C E N);refine ar func177 ntmps177 ?_;refine ai qW (Ym A (B g)) ?_;refine aa (Tu A.b.c A.b.d) ?_;refine aa (Kr A C) ?_;refine ak (fun p=>N9 E) ?_;refine ak (fun p=>Z0 N (-10000) 10000) ?_;have c1:=sl 2301952 A.a (an g S);have D:IntKind.i64.wrap ((A.a.length:Int)-1)=(A.a.length:Int)-1:=YB Y Y;refine aF f ?_ ?_<;>intro k1 M f
 ·have q1:=M;try simp[ZW,D,Z5]at q1
  simp;exact ah [.cell 8 37,.tmp 9] f
 have q1:=M;try simp[ZW,D,Z5]at q1
 have w:=ik C.toNat A.a;refine xp w ?_;refine aa (B0 (I A.a C.toNat) (Zj A.b.c A.b.d) (B (ZY (P.Zs g)))) ?_;refine bu (Ju.eq_2 A C E N) (fun J U y=>Z6 175 [eI 1 C,eI 3 N,eX 4 (A.row.map .d),(8,.one (.O 8 0),[.box [.nil 5,.nil 3,.nil 4,.d (.int .i64 0),.d (.int .i64 0),.nil 7,.nil 1,.nil 2,.nil 1,.nil 1,.d (.int .i64 0),.nil 1]]),eX 10 (A.b.row.map .d),(11,.one (.O 11 0),[.box [.E 27 0 0 A.b.a.length,.E 27 1 0 A.b.b.length,.E 27 2 0 A.b.c.length,.d (.int .i64 A.b.e),.d (.int .i64 A.b.d),.E 27 5 0 A.c.length,.E 27 6 0 A.d.length,.E 27 7 0 A.a.length,.E 27 8 0 y.length,.E 27 9 0 A.f.length,.d (.int .i64 A.h),.E 27 11 0 A.g.length]]),eI 12 (Zj A.b.c A.b.d),eI 13 (Kk (I A.a C.toNat) (Zj A.b.c A.b.d)),(14,.one (.E 14 0 0 J.length),[.arr false 5 (J.map ZX.row)]),(27,.any,[.arr false 5 (A.b.a.map YF.row),.arr false 3 (A.b.b.map ZS.row),.arr false 4 (A.b.c.map Zy.row),.none,.none,.arr false 7 (A.c.map YE.row),.arr false 1 (A.d.map r),.arr true 2 (A.a.map ZD.row),.arr false 1 (y.map r),.arr false 1 (A.f.map r),.none,.arr false 1 (A.g.map r)]),eL 64 1 E r,eI 65 (E.length:Int),eI 66 (U:Int)]) (fun K J U y=>E.length<K+U/\U<=E.length/\J.length<=0+1*U/\y.length=A.e.length) (E.length+1) ([]:List ZX) 0 A.e (fun p1 J U y H j1=>?_) (h0:=az [((14,0),none)] []);refine aF H ?_ ?_<;>intro k3 Z H
 ·have V:=ix Z;have m2:=ml E (k3 64 _ rfl);have c2:=sl 2301952 E (an g S);have w2:=wr U;refine xp V ?_;refine aa (qH A.b.b (I E U)) ?_;refine cF H ?_ ?_<;>intro k4 h3 H
  ·refine ai qW (Ym A (B g)) ?_;exact ah [.cell 8 37,.tmp 9] (ms f H)
  refine ae ac ?_;have i3:(Zo A.b.b (I E U)).toNat<A.b.b.length:=dh
  refine xp i3 ?_;refine aa (JO A.b.a (I A.b.b (Zo A.b.b (I E U)).toNat).a) ?_;refine aw ac ?_;refine aK ?_ ?_<;>intro G
  ·have i4:(YA A.b.a (I A.b.b (Zo A.b.b (I E U)).toNat).a).toNat<A.b.a.length:=by have:=yD A.b.a (I A.b.b (Zo A.b.b (I E U)).toNat).a;exact il
   refine xg i4 ?_;refine cK H ?_ ?_<;>intro l h4 H
   ·refine bo qW (Ym A (B g)) ?_;exact jo [.cell 8 37,.tmp 9] (ms f H)
   ·refine a8 (Sq A.f (I E U)) ?_;refine cK H ?_ ?_<;>intro k8 h5 H
    ·refine ae ac ?_;have i5:(Zo A.b.b (I E U)).toNat<A.e.length:=dh
     refine xg i5 ?_;refine a8 (R4 A.b.a A.b.b (ZX.mk (I E U) (I A.e (Zo A.b.b (I E U)).toNat) (if(if W (A.b.d+N)<10000 then W (A.b.d+N)else 10000)>0 then(if W (A.b.d+N)<10000 then W (A.b.d+N)else 10000)else 0) (Kk (I A.a C.toNat) (Zj A.b.c A.b.d)) 0) (B (ZI.Yf (P.Yc g))) (B (ZI.Yh (P.Yc g)))) ?_ (al:=by first|(simp;done)|(simp[W,D,w2];done));refine aE H ?_ ?_<;>intro af h6 H
     ·have q:=h6;try simp[D]at q
      refine a9 ?_;refine bo qW (Ym A (B g)) ?_;exact jo [.cell 8 37,.tmp 9] (ms f H)
     ·have q:=h6;try simp[D]at q
      have i6:(Zo A.b.b (I E U)).toNat<y.length:=dh;simp[i6,ZH,VT (x:=W (I y (Zo A.b.b (I E U)).toNat+1)) rfl,G];refine ax ?_;exact be H (hw:=YR [((14,0),some (145,0))] [] rfl df)
    ·refine ae ac ?_;have i7:(Zo A.b.b (I E U)).toNat<A.e.length:=dh
     refine xg i7 ?_;refine a8 (R4 A.b.a A.b.b (ZX.mk (I E U) (I A.e (Zo A.b.b (I E U)).toNat) A.b.d (Kk (I A.a C.toNat) (Zj A.b.c A.b.d)) 0) (B (ZI.Yf (P.Yc g))) (B (ZI.Yh (P.Yc g)))) ?_;refine dx H ?_ ?_<;>intro d h7 H
     ·refine bo qW (Ym A (B g)) ?_;exact jo [.cell 8 37,.tmp 9] (ms f H)
     ·have s:(Zo A.b.b (I E U)).toNat<y.length:=dh;simp[s,ZH,VT (x:=W (I y (Zo A.b.b (I E U)).toNat+1)) rfl,G];refine ax ?_;exact be H (hw:=YR [((14,0),some (145,0))] [] rfl df)
  ·refine cK H ?_ ?_<;>intro ad h8 H
   ·refine bo qW (Ym A (B g)) ?_;exact jo [.cell 8 37,.tmp 9] (ms f H)
   ·simp[G]at h8
 have c3:=sl 2301952 E (an g S);have f:=ms f H;refine xp w ?_;refine ai [] (AT (I A.a C.toNat) (Zj A.b.c A.b.d) J (B (ZY (P.Zs g))) (by first|(simp(maxDischargeDepth:=12) [XG];omega)|(simp(maxDischargeDepth:=12) [ZJ (m:=2306048) au g,ZJ (m:=2306048) au S];done))) ?_;refine aQ f ?_ ?_<;>intro aq ap f
 ·refine ai qW (Ym A (B g)) ?_;exact ah [.cell 8 37,.tmp 9] f
 refine xp w ?_;refine C8 (t:=27) (j:=7) (i:=C.toNat) (X:=2) (Q:=A.a.map ZD.row) (ds:=(Kz (I A.a C.toNat) (Zj A.b.c A.b.d) J).1.row) (L:=[(162,1)]) ?_;simp[VT (x:=(Kz (I A.a C.toNat) (Zj A.b.c A.b.d) J).1) rfl,c1,w,ZH,Qi];refine bN ?_;exact ah [.cell 8 37,.tmp 9] f
theorem uG(A:Int)(C:ZU)(g:R 2318336 C):c 408 [rI A,C.row] [rI (R7 A C)]:=by
 have f:=me (R7.eq_1 A C);refine so func408 ntmps408 ?_;refine aw ac ?_;refine aa (ju A C.c (B (ZU.JM g))) ?_;refine aa (Li A C.a.b (B (ZR.Yp (ZU.YM g)))) ?_;refine aq (UX.eq_2 A C) (fun J U=>Z6 40 [eI 0 A,(5,.one (.E 5 0 0 J.length),[.arr false 1 (J.map r)]),eL 24 5 C.a.a ZZ.row,eI 25 (C.a.a.length:Int),eI 26 (U:Int)]) (fun K J U=>C.a.a.length<K+U/\U<=C.a.a.length/\J.length<=5+1*U) (C.a.a.length+1) ([5,C.b,C.e,Y0 A C.c,yd A C.a.b]:List Int) 0 (fun p1 J U H j1=>?_) (h0:=az [((5,0),some (21,0))] []);refine aj H ?_ ?_<;>intro k3 M H
 ·have w:=ix M;have m2:=ml C.a.a (k3 24 _ rfl);have c1:=sl 2318336 C.a.a g;have D:=wr U;refine xp w ?_;refine aa (SB A (I C.a.a U) (B (ZY (ZR.QK (ZU.YM g))))) ?_;exact aB H (hw:=YR [((5,0),some (35,0))] [] rfl ad)
 have c2:=sl 2318336 C.a.a g;have f:=ms f H;refine aa (K0 A J bG) ?_;exact rt [.tmp 4] f
theorem Mr(A:Int)(C:List ZU)(g:R 2314240 C):c 366 [rI A,rL 16 ZU.row C] [rI (qg A C)]:=by
 have f:=me (qg.eq_1 A C);refine so func366 ntmps366 ?_;refine aq (qw.eq_2 A C) (fun J U=>Z6 24 [eI 0 A,(5,.one (.E 5 0 0 J.length),[.arr false 1 (J.map r)]),eL 8 16 C ZU.row,eI 9 (C.length:Int),eI 10 (U:Int)]) (fun K J U=>C.length<K+U/\U<=C.length/\J.length<=0+1*U) (C.length+1) ([]:List Int) 0 (fun p1 J U H j1=>?_) (h0:=az [((5,0),none)] []);refine aj H ?_ ?_<;>intro k2 M H
 ·have w:=ix M;have m2:=ml C (k2 8 _ rfl);have c1:=sl 2314240 C g;have D:=wr U;refine xp w ?_;refine aa (uG A (I C U) (B (ZY g))) ?_;exact aB H (hw:=YR [((5,0),some (19,0))] [] rfl ad)
 have c2:=sl 2314240 C g;have f:=ms f H;refine aa (DR A J g3) ?_;exact rt [.tmp 4] f
theorem ur(A:ZD)(C:Int)(E:List Int)(N:Int)(g:R 2310144 A)(S:R 2310144 E):Sd 318 [A.row,rI C,rL 1 r E,rI N] [(Xo A C E N).1.row,rB (Xo A C E N).2]:=by
 have f:=me (Xo.eq_1 A C E N);refine ar func318 ntmps318 ?_;refine aq (yV.eq_2 A E) (fun J U=>Z6 52 [eL 2 1 E r,eI 3 N,eX 4 (A.row.map .d),(8,.one (.O 8 0),[.box [.d (.int .i64 0),.d (.int .i64 0),.nil 16,.d (.int .i64 0)]]),(10,.one (.O 10 0),[.box [.d (.int .i64 A.b),.d (.int .i64 C),.E 10 3 0 U.length,.d (.int .i64 0)],.none,.none,.arr true 16 (U.map ZU.row)]),eL 18 1 E r,eI 19 (E.length:Int),eI 20 (J:Int)]) (fun K J U=>E.length<K+J/\J<=E.length/\U.length<=J/\(∀x∈U,R 2310144 x)) (E.length+1) 0 ([]:List ZU) (fun p1 J U H j1=>?_) (v:=by exact⟨Y,Y,Nat.zero_le _,Nat.zero_le _,fun x h=>by cases h⟩) (h0:=az [((10,3),none)] []);refine aj H ?_ ?_<;>intro k2 M H
 ·have w:=ix M;have m2:=ml E (k2 2 _ rfl);have c1:=sl 2310144 E (an g S);have D:=wr J;refine xp w ?_;refine aa (TL A (I E J)) ?_;refine cF H ?_ ?_<;>intro k3 Z H
  ·exact ah [.cell 8 218,.tmp 9] (ms f H)
  refine bc [39] ac ?_;have V:(Z3 A (I E J)).toNat<A.a.length:=by have:=Kv A (I E J);exact il
  refine xp V ?_;refine ai [true,true,true,false,false] (Vu (I A.a (Z3 A (I E J)).toNat) (B (ZY (ZD.Z8 g)))) ?_;refine SN ?_;simp;refine OT (au:=U.map ZU.row) (am:=([I A.a (Z3 A (I E J)).toNat]:List ZU).map ZU.row) (l1:=[(10,3)]) (l2:=[(37,3),(37,4),(37,14),(37,15)]) (X:=16) ?_;simp;exact aB H (v:=by((try dsimp only);refine⟨Y,Y,Y,by simp;omega,fun x O=>?_⟩;rcases List.mem_append.1 O with O|O;exact j1.2.2.2.2 x O;have e:=List.mem_singleton.1 O;subst e;exact ZY (ZD.Z8 g))) (hw:=YR [((10,3),some (39,0))] [] rfl ad)
 have c2:=sl 2310144 E (an g S);have f:=ms f H;refine cF f ?_ ?_<;>intro k5 h3 f
 ·exact ah [.cell 8 218,.tmp 9] f
 refine aa (Mr N U gw) ?_;exact ah [.cell 8 218,.tmp 9] f
theorem YZ(A:Y7)(C:Int)(g:R 2310144 A):c 367 [A.row,rI C] [rB (Ky A C)]:=by
 have f:=me (Ky.eq_1 A C);refine so func367 ntmps367 ?_;refine aI (zc.eq_2 A) (fun J=>Z6 31 [eI 1 C,eX 2 (A.row.map .d),eL 8 16 A.a ZU.row,eI 9 (A.a.length:Int),eI 10 (J:Int)]) (fun K J=>A.a.length<K+J/\J<=A.a.length) (A.a.length+1) 0 (fun p1 J H j1=>?_);refine aj H ?_ ?_<;>intro k2 M H
 ·have w:=ix M;have m2:=ml A.a (k2 8 _ rfl);have c1:=sl 2310144 A.a g;have D:=wr J;refine xp w ?_;refine aa (vm (I A.a J)) ?_;refine cF H ?_ ?_<;>intro k3 Z H
  ·exact rt [.tmp 4] (ms f H)
  exact aH D H
 have f:=ms f H;refine aw ac ?_;refine aa (Z0 (A.a.length:Int) 1 8) ?_;refine ak (fun p=>Mr C A.a (B (Y7.Z8 g))) ?_;exact rt [.tmp 4] f
theorem BR(A:ZD)(C:Y7)(E:Int)(g:R 2306048 A)(S:R 2306048 C):Sd 319 [A.row,C.row,rI E] [(QO A C E).1.row,rB (QO A C E).2]:=by
 have f:=me (QO.eq_1 A C E);refine ar func319 ntmps319 ?_;refine aa (YZ C E (B S)) ?_;refine cF f ?_ ?_<;>intro k1 M f
 ·refine ai [] (Y1 A (B g)) ?_;exact ah [.cell 6 50,.tmp 7] f
 refine ai [] (Y1 A (B g)) ?_;refine bu (Kp.eq_2 A C) (fun J U y=>Z6 48 [eX 3 (A.row.map .d),(6,.one (.O 6 0),[.box [.d (.int .i64 0),.nil 16]]),(8,.one (.O 8 0),[.box [.d (.int .i64 U),.E 8 2 0 y.length],.none,.arr true 16 (y.map ZU.row)]),eL 29 16 C.a ZU.row,eI 30 (C.a.length:Int),eI 31 (J:Int)]) (fun K J U y=>C.a.length<K+J/\J<=C.a.length/\R (2306048+J) (ZD.mk U y)) (C.a.length+1) 0 A.b A.a (fun p1 J U y H j1=>?_) (v:=by exact⟨Y,Y,Nat.zero_le _,g⟩) (h0:=az [((8,2),some (27,1))] []);refine aj H ?_ ?_<;>intro k3 Z H
 ·have w:=ix Z;have m2:=ml C.a (k3 29 _ rfl);have c1:=sl 2306048 C.a (an g S);have D:=wr J;refine xp w ?_;refine ai [] (Bb (ZD.mk U y) (I C.a J) gY gY) ?_;refine cF H ?_ ?_<;>intro k4 h3 H
  ·refine ai [] (Y1 A (B g)) ?_;exact ah [.cell 6 50,.tmp 7] (ms f H)
  exact be H (v:=by((try dsimp only);refine⟨Y,Y,Y,?_⟩;exact Hx (n:=2306048+J) j1.2.2.2 (ZJ (n:=2306048) Y (ZY (Y7.Z8 S))))) (hw:=YR [((8,2),some (38,1))] [] rfl ad)
 exact ah [.cell 6 50,.tmp 7] (ms f H)
theorem sx(h:b)(k:a:=by(intros;first|omega|with_unfolding_all (first|first|omega|(have h0:=M;simp only[decide_eq_false_iff_not]at h0;have z:=Kv A C;have hc:=Zx (ZD.Z8 g);have w2:IntKind.i64.wrap ((Z3 A C)+1)=(Z3 A C)+1:=(YB Y Y);have w:W ((Z3 A C)+1)=(Z3 A C)+1:=w2;omega))|exact wt)):a/\b:=⟨k,h⟩
theorem nI(A:ZD)(C:Int)(g:R 2318336 A):Sd 320 [A.row,rI C] [(qO A C).1.row,rB (qO A C).2]:=by
 have f:=me (qO.eq_1 A C);refine ar func320 ntmps320 ?_;refine ai [] (Y1 A (B g)) ?_;refine aa (TL A C) ?_;refine cF f ?_ ?_<;>intro k1 M f
 ·exact ah _ f
 refine bc [25] ac ?_;have c1:=sl 2318336 A.a g
 simp;repeat with_reducible refine sx ?_
 refine uW (am:=(A.a.drop (W _).toNat).map ZU.row) (X:=16) (u:=9) (j:=1) (ae:=(Z3 A C).toNat) (n:=A.a.length-(W (Z3 A C+1)).toNat) rfl rfl rfl rfl ab ab ab ab ab (by first|omega|(first|omega|(have h0:=M;simp only[decide_eq_false_iff_not]at h0;have z:=Kv A C;have hc:=Zx (ZD.Z8 g);have w2:IntKind.i64.wrap (Z3 A C+1)=Z3 A C+1:=YB Y Y;have w:W (Z3 A C+1)=Z3 A C+1:=w2;omega))|(simp;first|omega|(have h0:=M;simp only[decide_eq_false_iff_not]at h0;have z:=Kv A C;have hc:=Zx (ZD.Z8 g);have w2:IntKind.i64.wrap (Z3 A C+1)=Z3 A C+1:=YB Y Y;have w:W (Z3 A C+1)=Z3 A C+1:=w2;omega))) (by first|omega|(simp;done)|(simp;first|omega|(have h0:=M;simp only[decide_eq_false_iff_not]at h0;have z:=Kv A C;have hc:=Zx (ZD.Z8 g);have w2:IntKind.i64.wrap (Z3 A C+1)=Z3 A C+1:=YB Y Y;have w:W (Z3 A C+1)=Z3 A C+1:=w2;omega))) (Fs _ _ _) ab (by first|omega|(simp;first|omega|(have h0:=M;simp only[decide_eq_false_iff_not]at h0;have z:=Kv A C;have hc:=Zx (ZD.Z8 g);have w2:IntKind.i64.wrap (Z3 A C+1)=Z3 A C+1:=YB Y Y;have w:W (Z3 A C+1)=Z3 A C+1:=w2;omega))) ?_;simp;exact ah _ f
theorem r7(A C:ZD)(E:List Int)(N:Int)(g:R 2301952 A)(S:R 2301952 C)(u2:R 2301952 E):Sd 250 [A.row,C.row,rL 1 r E,rI N] [(X3 A C E N).1.row,(X3 A C E N).2.1.row,rB (X3 A C E N).2.2]:=by
 have f:=me (X3.eq_1 A C E N);refine ar func250 ntmps250 ?_;refine aa (Z7.rd (ur A C.b E N dV dV)) ?_;refine ai [] (BR C (Xo A C.b E N).1 N j4 j4) ?_;refine cF f ?_ ?_<;>intro k1 M f
 ·refine aW fun k2=>?_;refine aw ac ?_;refine ai [] (Y1 A (B g)) ?_;refine ai [] (Y1 C (B S)) ?_;exact ah [.cell 8 50,.cell 9 50,.tmp 10] f
 refine ai [] (Y1 A (B g)) ?_;refine bu (Kx.eq_2 A C E) (fun J U y=>Z6 70 [eX 4 (A.row.map .d),eX 5 (C.row.map .d),(8,.one (.O 8 0),[.box [.d (.int .i64 0),.nil 16]]),(9,.one (.O 9 0),[.box [.d (.int .i64 0),.nil 16]]),(13,.one (.O 13 0),[.box [.d (.int .i64 (QO C (Xo A C.b E N).1 N).1.b),.E 33 1 0 (QO C (Xo A C.b E N).1 N).1.a.length]]),(15,.one (.O 15 0),[.box [.d (.int .i64 U),.E 15 2 0 y.length],.none,.arr true 16 (y.map ZU.row)]),(33,.any,[.none,.arr true 16 ((QO C (Xo A C.b E N).1 N).1.a.map ZU.row)]),eL 48 1 E r,eI 49 (E.length:Int),eI 50 (J:Int)]) (fun K J U y=>E.length<K+J/\J<=E.length/\R 2301952 (ZD.mk U y)) (E.length+1) 0 A.b A.a (fun p1 J U y H j1=>?_) (v:=by exact⟨Y,Y,Nat.zero_le _,g⟩) (h0:=az [((15,2),some (47,1))] []);refine aj H ?_ ?_<;>intro k4 Z H
 ·have w:=ix Z;have m2:=ml E (k4 48 _ rfl);have c1:=sl 2301952 E (an g (an S u2));have D:=wr J;refine xp w ?_;refine ai [] (nI (ZD.mk U y) (I E J) (by exact ZJ (n:=2301952) au j1.2.2.2)) ?_;refine cF H ?_ ?_<;>intro k5 h3 H
  ·refine aW fun b=>?_;refine aw ac ?_;refine ai [] (Y1 A (B g)) ?_;refine ai [] (Y1 C (B S)) ?_;exact ah [.cell 8 50,.cell 9 50,.tmp 10] (ms f H)
  exact be H (v:=by((try dsimp only);refine⟨Y,Y,Y,?_⟩;exact IM au j1.2.2.2)) (hw:=YR [((15,2),some (57,1))] [] rfl ad)
 have f:=ms f H;refine e9 [(8,8),(9,9),(13,13),(15,15)] ac d d d d ?_;simp;exact ah [.cell 8 50,.cell 9 50,.tmp 10] f
theorem nj(A:P)(C E N:Int)(g:R 2297856 A):Sd 178 [A.row,rI C,rI E,rI N] [(Wa A C E N).1.row,rB (Wa A C E N).2]:=by
 have f:=me (Wa.eq_1 A C E N);refine ar func178 ntmps178 ?_;refine ai qW (Ym A (B g)) ?_;refine aa (Tu A.b.c A.b.d) ?_;refine aa (Kr A C) ?_;refine ak (fun p=>Kr A E) ?_;have c1:=sl 2297856 A.a g;have D:IntKind.i64.wrap ((A.a.length:Int)-1)=(A.a.length:Int)-1:=YB Y Y;refine aF f ?_ ?_<;>intro k1 M f
 ·have q1:=M;try simp[D,Z5,ZW]at q1
  simp;exact ah [.cell 8 37,.tmp 9] f
 have q1:=M;try simp[D,Z5,ZW]at q1
 simp;refine ae ac ?_;have w:=ik C.toNat A.a
 have V:=ik E.toNat A.a;refine xp (an w V) ?_;refine ai [] (r7 (I A.a C.toNat) (I A.a E.toNat) ([N]:List Int) (Zj A.b.c A.b.d) (B (ZY (P.Zs g))) (B (ZY (P.Zs g))) bH) ?_;refine cF f ?_ ?_<;>intro k3 Z f
 ·refine aW fun k4=>?_;refine fr [(10,10),(12,12),(13,13),(63,10),(66,10)] [71,72] [] ac d d d d d d d ?_;refine aU ?_;refine C8 (t:=16) (j:=7) (i:=C.toNat) (X:=2) (Q:=A.a.map ZD.row) (ds:=(X3 (I A.a C.toNat) (I A.a E.toNat) ([N]:List Int) (Zj A.b.c A.b.d)).1.row) (L:=[(58,1)]) ?_;refine aU ?_;refine C8 (t:=16) (j:=7) (i:=E.toNat) (X:=2) (Q:=(A.a.set C.toNat (X3 (I A.a C.toNat) (I A.a E.toNat) ([N]:List Int) (Zj A.b.c A.b.d)).1).map ZD.row) (ds:=(X3 (I A.a C.toNat) (I A.a E.toNat) ([N]:List Int) (Zj A.b.c A.b.d)).2.1.row) (L:=[(58,3)]) ?_;refine aU ?_;exact ah [.cell 8 37,.tmp 9] f
 exact ah [.cell 8 37,.tmp 9] f
theorem uS(A:ZD)(C:Int)(g:R 2322432 A):Sd 251 [A.row,rI C] [(jE A C).1.row,rI (jE A C).2]:=by
 have f:=me (jE.eq_1 A C);refine ar func251 ntmps251 ?_;refine aq (zQ.eq_2 A C) (fun J U=>Z6 39 [eI 1 C,eX 2 (A.row.map .d),(4,.one (.O 4 0),[.box [.d (.int .i64 0),.nil 16]]),(6,.one (.O 6 0),[.box [.d (.int .i64 A.b),.E 6 2 0 U.length],.none,.arr true 16 (U.map ZU.row)]),eL 13 16 A.a ZU.row,eI 14 (A.a.length:Int),eI 15 (J:Int)]) (fun K J U=>A.a.length<K+J/\J<=A.a.length/\U.length<=0+1*J) (A.a.length+1) 0 ([]:List ZU) (fun p1 J U H j1=>?_) (h0:=az [((6,2),none)] []);refine aj H ?_ ?_<;>intro k2 M H
 ·have w:=ix M;have m2:=ml A.a (k2 13 _ rfl);have c1:=sl 2322432 A.a g;have D:=wr J;refine xp w ?_;refine cF H ?_ ?_<;>intro k3 Z H
  ·refine aW fun k4=>?_;refine bc [28] ac ?_;simp;refine ai [true,true,true,false,false] (Vu (I A.a J) (B (ZY (ZD.Z8 g)))) ?_;refine SN ?_;simp;refine OT (au:=U.map ZU.row) (am:=([I A.a J]:List ZU).map ZU.row) (l1:=[(6,2)]) (l2:=[(26,3),(26,4),(26,14),(26,15)]) (X:=16) ?_;simp;exact aB H (hw:=YR [((6,2),some (28,0))] [] rfl ad)
  exact ay D H
 have f:=ms f H;refine e9 [(2,2),(4,4),(6,6),(32,2),(35,6)] ac d d d d ?_;simp;exact ah [.cell 4 50,.tmp 5] f
theorem tI(A:P)(C:Int)(g:R 2314240 A):Sd 179 [A.row,rI C] [(xO A C).1.row,rB (xO A C).2]:=by
 have f:=me (xO.eq_1 A C);refine ar func179 ntmps179 ?_;refine ai qW (Ym A (B g)) ?_;refine aa (Kr A C) ?_;have c1:=sl 2314240 A.a g;have D:IntKind.i64.wrap ((A.a.length:Int)-1)=(A.a.length:Int)-1:=YB Y Y;refine aF f ?_ ?_<;>intro k1 M f
 ·have q1:=M;try simp[D,Z5,ZW]at q1
  simp;exact ah [.cell 4 37,.tmp 5] f
 have q1:=M;try simp[D,Z5,ZW]at q1
 simp;refine bc [] ac ?_;have w:=ik C.toNat A.a
 refine xp w ?_;refine cP w [] (uS (I A.a C.toNat) A.b.d (B (ZY (P.Zs g)))) ?_;refine C8 (t:=8) (j:=7) (i:=C.toNat) (X:=2) (Q:=A.a.map ZD.row) (ds:=(jE (I A.a C.toNat) A.b.d).1.row) (L:=[(26,1)]) ?_;refine aU ?_;exact ah [.cell 4 37,.tmp 5] f
theorem Oo(A:List Zy)(C:Int):c 263 [rL 4 Zy.row A,rI C] [rI (Qd A C)]:=by
 have f:=me (Qd.eq_1 A C);refine so func263 ntmps263 ?_;refine aI (kA.eq_2 A C) (fun J=>Z6 20 [eI 1 C,eL 7 4 A Zy.row,eI 8 (A.length:Int),eI 9 (J:Int)]) (fun K J=>A.length<K+J/\J<=A.length) (A.length+1) 0 (fun p1 J H j1=>?_);refine aj H ?_ ?_<;>intro k2 M H
 ·have w:=ix M;have m2:=ml A (k2 7 _ rfl);have D:=wr J;refine xp w ?_;refine cF H ?_ ?_<;>intro k3 Z H
  ·exact rt [.tmp 4] (ms f H)
  exact aH D H
 exact rt [.tmp 4] (ms f H)
theorem NY(A:List Zy)(C:Int):c 368 [rL 4 Zy.row A,rI C] [rI (kZ A C)]:=by
 have f:=me (kZ.eq_1 A C);refine so func368 ntmps368 ?_;refine aa (Oo A C) ?_;refine aj f ?_ ?_<;>intro k1 M f
 ·have w:(Qd A C).toNat<A.length:=by have:=Tj A C;exact il
  refine xp w ?_;exact rt [.tmp 4] f
 exact rt [.tmp 4] f
theorem On(A:ZI)(C:Int):c 321 [A.row,rI C] [rI (zO A C)]:=by
 have f:=me (zO.eq_1 A C);refine so func321 ntmps321 ?_;refine aa (JO A.a C) ?_;refine cF f ?_ ?_<;>intro k1 M f
 ·exact rt [.tmp 4] f
 refine ae ac ?_;have w:(YA A.a C).toNat<A.a.length:=by have:=yD A.a C;exact il
 refine xp w ?_;refine aa (NY A.c (I A.a (YA A.a C).toNat).c) ?_;exact rt [.tmp 4] f
theorem Ib(A:ZI)(C:Int):c 252 [A.row,rI C] [rB (WT A C)]:=by have f:=me (WT.eq_1 A C);refine so func252 ntmps252 ?_;refine aw ac ?_;refine aa (JO A.a C) ?_;refine ak (fun p=>On A C) ?_;exact rt [.tmp 4] f
theorem pL(h:b)(k:a:=by(intros;first|omega|with_unfolding_all (first|first|omega|(have o:=Zx (P.Eg (xS (n:=2310144) (C:=C) (E:=E) (T:=0) (a5:=10000) g S au));(try simp);omega))|exact wt)):a/\b:=⟨k,h⟩
theorem u1(A:P)(C E:Int)(N:ZO)(g:R 2310144 A)(S:R 2310144 N):Sd 180 [A.row,rI C,rI E,N.row] [(yW A C E N).1.row,rB (yW A C E N).2]:=by
 have f:=me (yW.eq_1 A C E N);refine ar func180 ntmps180 ?_;refine aa (Ib A.b E) ?_;refine aF f ?_ ?_<;>intro k1 M f
 ·have q1:=M;try simp at q1
  simp;refine ai qW (Ym A fq) ?_;refine BL (rv:=[.cell 8 37,.tmp 9]) rfl ?_;simp[f.h];all_goals((try simp only[q2,true_and]);(try(rintro r (⟨a,_,rfl⟩|rfl) x O<;>simp at O<;>subst O<;>rfl)))
 have q1:=M;try simp at q1
 simp;refine aa (DV A C E N 0 10000 (B g) (B S)) ?_;refine ai qW (Ym (XZ A C E N 0 10000).1 h5) ?_;refine aF f ?_ ?_<;>intro k2 Z f
 ·have q2:=Z;try simp at q2
  simp;repeat with_reducible refine pL ?_
  refine BL (rv:=[.cell 8 37,.tmp 9]) rfl ?_;simp[f.h];all_goals((try simp only[q2,true_and]);(try(rintro r (⟨a,_,rfl⟩|rfl) x O<;>simp at O<;>subst O<;>rfl)))
 have q2:=Z;try simp at q2
 simp;refine BL (rv:=[.cell 8 37,.tmp 9]) rfl ?_;simp[f.h];all_goals((try simp only[q2,true_and]);(try(rintro r (⟨a,_,rfl⟩|rfl) x O<;>simp at O<;>subst O<;>rfl)))
theorem FI(A:P)(g:R 2326528 A):Sd 253 [A.row] [rL 1 r (Yi A)]:=by
 have f:=me (Yi.eq_1 A);refine ar func253 ntmps253 ?_;refine aq (JV.eq_2 A) (fun J U=>Z6 33 [eX 1 (A.row.map .d),(3,.one (.E 3 0 0 J.length),[.arr false 1 (J.map r)]),eL 8 3 A.b.b ZS.row,eI 9 (A.b.b.length:Int),eI 10 (U:Int)]) (fun K J U=>A.b.b.length<K+U/\U<=A.b.b.length/\J.length<=0+1*U) (A.b.b.length+1) ([]:List Int) 0 (fun p1 J U H j1=>?_) (h0:=az [((3,0),none)] []);refine aj H ?_ ?_<;>intro k2 M H
 ·have w:=ix M;have m2:=ml A.b.b (k2 8 _ rfl);have c1:=sl 2326528 A.b.b g;have D:=wr U;refine xp w ?_;refine aa (Sq A.f (I A.b.b U).b) ?_;refine ak (fun p=>Ib A.b (I A.b.b U).a) ?_;refine cF H ?_ ?_<;>intro k3 Z H
  ·exact aB H (hw:=YR [((3,0),some (30,0))] [] rfl ad)
  exact ay D H
 exact ah [.tmp 2] (ms f H)
theorem RU(h:b)(k:a:=by(intros;first|omega|with_unfolding_all (first|first|omega|(have f0:0<=(S A C).1:=(by first|omega|(simp at*;omega));have d:=Qt A C f0;omega)|(have o:=xA A;have l:=Zx (ZI.Yh (P.Yc g));(try dsimp only at*);omega))|exact wt)):a/\b:=⟨k,h⟩
theorem HU(A:P)(C E:Int)(g:R 2314240 A):Sd 181 [A.row,rI C,rI E] [(zG A C E).1.row,rB (zG A C E).2]:=by
 have f:=me (zG.eq_1 A C E);refine ar func181 ntmps181 ?_;refine ai qW (Ym A (B g)) ?_;refine aa (OU A C) ?_;refine aa (Tu A.b.c A.b.d) ?_;refine aa (Z7.rd (FI A (B g))) ?_;refine aa (Sq A.g C) ?_;refine aQ f ?_ ?_<;>intro k1 M f
 ·exact ah [.cell 6 37,.tmp 7] f
 have w:(S A C).1.toNat<A.a.length:=h8;have V:(S A C).2.toNat<(I A.a (S A C).1.toNat).a.length:=h8;simp[w,ZH,V];repeat with_reducible refine RU ?_
 refine aw ac ?_;refine aa (Bk (I (I A.a (S A C).1.toNat).a (S A C).2.toNat) (Zj A.b.c A.b.d) (B (ZY (ZD.Z8 (ZY (P.Zs g)))))) ?_;refine aq (Ko.eq_2 A C E) (fun J U=>Z6 124 [eI 2 E,(6,.one (.O 6 0),[.box [.nil 5,.nil 3,.nil 4,.d (.int .i64 0),.d (.int .i64 0),.nil 7,.nil 1,.nil 2,.nil 1,.nil 1,.d (.int .i64 0),.nil 1]]),eX 8 (A.b.row.map .d),(9,.one (.O 9 0),[.box [.E 25 0 0 A.b.a.length,.E 25 1 0 A.b.b.length,.E 25 2 0 A.b.c.length,.d (.int .i64 A.b.e),.d (.int .i64 A.b.d),.E 25 5 0 A.c.length,.E 25 6 0 A.d.length,.E 25 7 0 A.a.length,.E 25 8 0 A.e.length,.E 25 9 0 A.f.length,.d (.int .i64 A.h),.E 25 11 0 A.g.length]]),eI 10 (S A C).1,eI 11 (S A C).2,eX 14 ((I (I A.a (S A C).1.toNat).a (S A C).2.toNat).row.map .d),(15,.one (.O 15 0),[.box [.d (.int .i64 ((I (I A.a (S A C).1.toNat).a (S A C).2.toNat).a.b.length:Int)),.d (.int .i64 (Zj A.b.c A.b.d)),.d (.int .i64 (KM (I (I A.a (S A C).1.toNat).a (S A C).2.toNat) (Zj A.b.c A.b.d))),.nil 2,.E 15 5 0 U.length],.none,.none,.none,.none,.arr false 5 (U.map ZX.row)]),(25,.any,[.arr false 5 (A.b.a.map YF.row),.arr false 3 (A.b.b.map ZS.row),.arr false 4 (A.b.c.map Zy.row),.none,.none,.arr false 7 (A.c.map YE.row),.arr false 1 (A.d.map r),.arr true 2 (A.a.map ZD.row),.arr false 1 (A.e.map r),.arr false 1 (A.f.map r),.none,.arr false 1 (A.g.map r)]),eL 76 1 (Yi A) r,eI 77 ((Yi A).length:Int),eI 78 (J:Int)]) (fun K J U=>(Yi A).length<K+J/\J<=(Yi A).length/\U.length<=0+1*J) ((Yi A).length+1) 0 ([]:List ZX) (fun p1 J U H j1=>?_) (h0:=az [((15,5),none)] []);refine aj H ?_ ?_<;>intro k4 Z H
 ·have i3:=ix Z;have m2:=ml (Yi A) (k4 76 _ rfl);have D:=wr J;simp[i3,ZH];refine aa (R4 A.b.a A.b.b (ZX.mk (I (Yi A) J) 0 E (KM (I (I A.a (S A C).1.toNat).a (S A C).2.toNat) (Zj A.b.c A.b.d)) 0) (B (ZI.Yf (P.Yc g))) (B (ZI.Yh (P.Yc g)))) ?_;refine aQ H ?_ ?_<;>intro k5 h3 H
  ·exact ah [.cell 6 37,.tmp 7] (ms f H)
  simp;repeat with_reducible refine RU ?_
  exact aB H (hw:=YR [((15,5),some (102,0))] [] rfl ad)
 have f:=ms f H;refine ai [] (Gb (I (I A.a (S A C).1.toNat).a (S A C).2.toNat).a (ZZ.mk ((I (I A.a (S A C).1.toNat).a (S A C).2.toNat).a.b.length:Int) (Zj A.b.c A.b.d) (KM (I (I A.a (S A C).1.toNat).a (S A C).2.toNat) (Zj A.b.c A.b.d)) ([]:List Xy) U) k6 k6) ?_;refine bc [] ac ?_;simp[w,ZH,V];repeat with_reducible refine RU ?_
 refine iR (t:=25) (j:=7) (i:=(S A C).1.toNat) (c:=1) (k':=(S A C).2.toNat) (q:=14) (n:=16) (X:=2) (s:=(I A.a (S A C).1.toNat).a.map ZU.row) (Q:=A.a.map ZD.row) (ds:=(Qr (I (I A.a (S A C).1.toNat).a (S A C).2.toNat).a (ZZ.mk ((I (I A.a (S A C).1.toNat).a (S A C).2.toNat).a.b.length:Int) (Zj A.b.c A.b.d) (KM (I (I A.a (S A C).1.toNat).a (S A C).2.toNat) (Zj A.b.c A.b.d)) ([]:List Xy) U)).1.row) (L:=[(109,0),(109,1)]) rfl rfl rfl rfl (by simp;rfl) ab ab (by simp[w,V]) (by simp[ZH,Qi,w,V]) (by simp[w,V]) ab ab ab ab ab ab ?_;simp[VT (x:=ZD.mk (I A.a (S A C).1.toNat).b ((I A.a (S A C).1.toNat).a.set (S A C).2.toNat (ZU.mk (I (I A.a (S A C).1.toNat).a (S A C).2.toNat).b (I (I A.a (S A C).1.toNat).a (S A C).2.toNat).e (I (I A.a (S A C).1.toNat).a (S A C).2.toNat).c (I (I A.a (S A C).1.toNat).a (S A C).2.toNat).d (Qr (I (I A.a (S A C).1.toNat).a (S A C).2.toNat).a (ZZ.mk ((I (I A.a (S A C).1.toNat).a (S A C).2.toNat).a.b.length:Int) (Zj A.b.c A.b.d) (KM (I (I A.a (S A C).1.toNat).a (S A C).2.toNat) (Zj A.b.c A.b.d)) ([]:List Xy) U)).1))) rfl,ZH,Qi,w,V];exact ah [.cell 6 37,.tmp 7] f
theorem Dk(h:b)(k:a:=by(intros;first|omega|with_unfolding_all (first|first|omega|(have z:=yG A C cX;(try simp at*);omega))|(simp_all;done)|(simp_all;omega)|grind|exact wt)):a/\b:=⟨k,h⟩
theorem mQ(A:P)(C E:Int)(g:R 2310144 A):Sd 182 [A.row,rI C,rI E] [(WZ A C E).1.row,rB (WZ A C E).2]:=by
 have f:=me (WZ.eq_1 A C E);refine ar func182 ntmps182 ?_;refine aa (vt A C) ?_;refine aw ac ?_;refine bp ?_ ?_<;>intro G
 ·have g1:=G;try simp at g1
  have w:(Yr A C).2.1.toNat<A.c.length:=e4;simp[w,ZH,G];repeat with_reducible refine Dk ?_
  refine cW (fun p=>Ib A.b (I A.c (Yr A C).2.1.toNat).e) ?_;simp;refine aE f ?_ ?_<;>intro k2 M f
  ·simp;refine cD qW (Ym A (B g)) ?_;simp;exact jo _ f
  ·simp;refine ae ac ?_;simp[w,ZH];repeat with_reducible refine Dk ?_
   refine cD qW (IY A (Yr A C).1 C (Zn.mk (I A.c (Yr A C).2.1.toNat).b E (-1) (I A.c (Yr A C).2.1.toNat).e 0) (B g) fZ) ?_;simp;exact jo _ f
 ·simp[G];refine aN ?_;simp;refine aE f ?_ ?_<;>intro k4 Z f
  ·simp;refine cD qW (Ym A (B g)) ?_;simp;exact jo _ f
  ·simp[G]at Z
theorem Ou(A:P)(C:YS)(g:R 2293760 A)(S:R 2293760 C):Sd 105 [A.row,C.row] [(QN A C).1.row,rB (QN A C).2]:=by
 have f:=me (QN.eq_1 A C);refine ar func105 ntmps105 ?_;refine cF f ?_ ?_<;>intro k1 M f
 ·refine ai qW (oB A C.A (B g)) ?_;exact ah _ f
 refine cF f ?_ ?_<;>intro k2 Z f
 ·refine ai qW (n9 A C.A C.B C.c C.C C.D (B g) (B (YS.JM S))) ?_;exact ah _ f
 refine cF f ?_ ?_<;>intro k3 h3 f
 ·refine ai qW (tq A C.A (B g)) ?_;exact ah _ f
 refine cF f ?_ ?_<;>intro k4 h4 f
 ·refine ai qW (uL A C.A (B g)) ?_;exact ah _ f
 refine cF f ?_ ?_<;>intro k5 h5 f
 ·refine ai qW (Vd A C.A C.a C.B (B g) (B (YS.ZB2 S))) ?_;exact ah _ f
 refine cF f ?_ ?_<;>intro b h6 f
 ·refine ai qW (nj A C.A C.B C.C (B g)) ?_;exact ah _ f
 refine cF f ?_ ?_<;>intro l h7 f
 ·refine ai qW (tI A C.A (B g)) ?_;exact ah _ f
 refine cF f ?_ ?_<;>intro k8 h8 f
 ·refine ai qW (u1 A C.A C.B C.c (B g) (B (YS.JM S))) ?_;exact ah _ f
 refine cF f ?_ ?_<;>intro L h9 f
 ·refine ai qW (HU A C.A C.B (B g)) ?_;exact ah _ f
 refine cF f ?_ ?_<;>intro af al f
 ·refine ai qW (mQ A C.A C.B (B g)) ?_;exact ah _ f
 refine ai qW (Ym A (B g)) ?_;exact ah _ f
theorem Pw(h:b)(k:a:=by(intros;first|omega|with_unfolding_all (first|first|omega|(simp at M;simp only[Xf]at*;omega)|(have z:=jk (C.tail.take ((W (E+1)).toNat-1)) ej;simp at M z;simp only[Xf]at*;omega))|exact wt)):a/\b:=⟨k,h⟩
theorem Dg(A:P)(C:List ByteArray)(E:Int)(g:R 2289664 A)(S:R 2289664 C)(u2:E=3\/E=4):c 55 [A.row,rL 1 N C,rI E] [(yu A C E).1.row,rS (yu A C E).2]:=by
 have f:=me (yu.eq_1 A C E);refine so func55 ntmps55 ?_;refine aQ f ?_ ?_<;>intro k1 M f
 ·exact rt _ f
 simp;repeat with_reducible refine Pw ?_
 refine aa (Z7.rd (Nb (C.tail.take ((W (E+1)).toNat-1)) (by exact B (BX (By S))))) ?_;refine cF f ?_ ?_<;>intro k2 Z f
 ·exact rt _ f
 refine aW fun k3=>?_;refine ae ac ?_;have w:((Zb (C.tail.take ((W (E+1)).toNat-1))).1.length-1)<(Zb (C.tail.take ((W (E+1)).toNat-1))).1.length:=ds
 have q:=ml (Zb (C.tail.take ((W (E+1)).toNat-1))).1 (k3 8 _ rfl);have D:IntKind.i64.wrap (((Zb (C.tail.take ((W (E+1)).toNat-1))).1.length:Int)-1)=((Zb (C.tail.take ((W (E+1)).toNat-1))).1.length:Int)-1:=YB Y Y;simp[w,ZH,D];repeat with_reducible refine Pw ?_
 refine aa (Z7.rd (Cp (I (Zb (C.tail.take ((W (E+1)).toNat-1))).1 ((Zb (C.tail.take ((W (E+1)).toNat-1))).1.length-1)) (C.drop (W (E+1)).toNat) 11 (by exact ZJ au (jr S)))) ?_;refine ae ac ?_;have V:0<(Zb (C.tail.take ((W (E+1)).toNat-1))).1.length:=ds
 have i3:1<(Zb (C.tail.take ((W (E+1)).toNat-1))).1.length:=ds;have i4:0<C.length:=ds;simp[V,ZH,i3,i4];repeat with_reducible refine Pw ?_
 refine aj f ?_ ?_<;>intro k5 h3 f
 ·have i5:2<(Zb (C.tail.take ((W (E+1)).toNat-1))).1.length:=ds;simp[i5,ZH];repeat with_reducible refine Pw ?_
  refine ai qW (Ou A (YS.mk 2 (I (Zb (C.tail.take ((W (E+1)).toNat-1))).1 0) (I (Zb (C.tail.take ((W (E+1)).toNat-1))).1 1) 0 (I (Zb (C.tail.take ((W (E+1)).toNat-1))).1 2) (Xn (I (Zb (C.tail.take ((W (E+1)).toNat-1))).1 ((Zb (C.tail.take ((W (E+1)).toNat-1))).1.length-1)) (C.drop (W (E+1)).toNat) 11).1 ([]:List Int)) j1 g8) ?_;refine aF f ?_ ?_<;>intro b h4 f
  ·have q4:=h4;try simp at q4
   simp;exact rt _ f
  have q4:=h4;try simp at q4
  simp;refine aw ac ?_;refine aa (Xe A.h) ?_;exact rt _ f
 refine ai qW (Ou A (YS.mk 8 (I (Zb (C.tail.take ((W (E+1)).toNat-1))).1 0) (I (Zb (C.tail.take ((W (E+1)).toNat-1))).1 1) 0 0 (Xn (I (Zb (C.tail.take ((W (E+1)).toNat-1))).1 ((Zb (C.tail.take ((W (E+1)).toNat-1))).1.length-1)) (C.drop (W (E+1)).toNat) 11).1 ([]:List Int)) j1 g8) ?_;refine aF f ?_ ?_<;>intro k8 h5 f
 ·have q5:=h5;try simp at q5
  simp;exact rt _ f
 have q5:=h5;try simp at q5
 simp;refine aw ac ?_;refine aa (Xe A.h) ?_;exact rt _ f
theorem K5(A:P)(C:YS)(g:R 2289664 A)(S:R 2289664 C):c 59 [A.row,C.row] [(YO A C).1.row,rS (YO A C).2]:=by
 have f:=me (YO.eq_1 A C);refine so func59 ntmps59 ?_;refine ai qW (Ou A C (B g) (B S)) ?_;refine cF f ?_ ?_<;>intro k1 M f
 ·exact rt _ f
 exact rt _ f
theorem jy(h:b)(k:a:=by(intros;first|omega|with_unfolding_all (first|first|omega|(simp at M;have z:=u2 (I C 2) (iL Y);omega))|exact wt)):a/\b:=⟨k,h⟩
theorem ut(A:P)(C:List ByteArray)(g:R 2285568 A)(S:R 2285568 C)(u2:∀x∈C,0<x.size):c 56 [A.row,rL 1 N C] [(xT A C).1.row,rS (xT A C).2]:=by
 have f:=me (xT.eq_1 A C);refine so func56 ntmps56 ?_;refine aQ f ?_ ?_<;>intro k1 M f
 ·exact rt _ f
 have w:2<C.length:=bK;simp[w,ZH];repeat with_reducible refine jy ?_
 refine aj f ?_ ?_<;>intro k2 Z f
 ·simp;repeat with_reducible refine jy ?_
  refine cR (Tc ((I C 2).extract 1 (I C 2).size) b8) ?_;have V:1<C.length:=bK
  simp[V,ZH];repeat with_reducible refine jy ?_
  refine cR (Tc (I C 1) b8) ?_;simp;repeat with_reducible refine jy ?_
  refine aa (Z7.rd (Nb (C.drop 3) dj)) ?_;refine cF f ?_ ?_<;>intro k3 h3 f
  ·exact rt _ f
  refine aa (K5 A (YS.mk 5 (XS (I C 1)).1 (W ((-1)*(XS ((I C 2).extract 1 (I C 2).size)).1)) 0 0 (ZO.mk 0 ([]:List ByteArray) ([]:List Int)) (Zb (C.drop 3)).1) dA dA) ?_;exact rt _ f
 refine cR (Tc (I C 2) b8) ?_;have i3:1<C.length:=bK
 simp[i3,ZH];repeat with_reducible refine jy ?_
 refine cR (Tc (I C 1) b8) ?_;simp;repeat with_reducible refine jy ?_
 refine aa (Z7.rd (Nb (C.drop 3) dj)) ?_;refine cF f ?_ ?_<;>intro k4 h4 f
 ·exact rt _ f
 refine aa (K5 A (YS.mk 5 (XS (I C 1)).1 (W (1*(XS (I C 2)).1)) 0 0 (ZO.mk 0 ([]:List ByteArray) ([]:List Int)) (Zb (C.drop 3)).1) dA dA) ?_;exact rt _ f
theorem Lq(A:ZU)(g:R 2326528 A):Sd 257 [A.row] [(yQ A).row]:=by have f:=me (yQ.eq_1 A);refine ar func257 ntmps257 ?_;refine ai [] (xv A.a (B (ZU.YM g))) ?_;refine fi (am:=([A.a]:List ZR).map ZR.row) (L:=[(5,0),(5,1)]) rfl rfl rfl rfl ab ab ab ab ab ab ?_;simp;exact ah _ f
theorem wO(A:ZR)(C:ZO)(g:R 2318336 A)(S:R 2318336 C):Sd 383 [A.row,C.row] [rL 1 r (jU A C)]:=by
 have f:=me (jU.eq_1 A C);refine ar func383 ntmps383 ?_;refine aq (qN.eq_2 A C) (fun J U=>Z6 24 [eX 3 (C.row.map .d),(5,.one (.E 5 0 0 J.length),[.arr false 1 (J.map r)]),eL 9 5 A.a ZZ.row,eI 10 (A.a.length:Int),eI 11 (U:Int)]) (fun K J U=>A.a.length<K+U/\U<=A.a.length/\J.length<=0+1*U) (A.a.length+1) ([]:List Int) 0 (fun p1 J U H j1=>?_) (h0:=az [((5,0),none)] []);refine aj H ?_ ?_<;>intro k2 M H
 ·have w:=ix M;have m2:=ml A.a (k2 9 _ rfl);have c1:=sl 2318336 A.a (an g S);have D:=wr U;refine xp w ?_;refine aa (ju (I A.a U).c C (B S)) ?_;exact aB H (hw:=YR [((5,0),some (21,0))] [] rfl ad)
 exact ah [.tmp 4] (ms f H)
theorem CV(A:Q)(C:ZO)(g:R 2314240 A)(S:R 2314240 C):Sd 326 [A.row,C.row] [rL 1 (ag 1 r) (yr A C)]:=by
 have f:=me (yr.eq_1 A C);refine ar func326 ntmps326 ?_;refine aq (zE.eq_2 A C) (fun J U=>Z6 23 [eX 3 (C.row.map .d),(5,.one (.E 5 0 0 J.length),[.arr true 1 (J.map (ag 1 r))]),eL 9 2 A.a ZR.row,eI 10 (A.a.length:Int),eI 11 (U:Int)]) (fun K J U=>A.a.length<K+U/\U<=A.a.length/\J.length<=U) (A.a.length+1) ([]:List (List Int)) 0 (fun p1 J U H j1=>?_) (h0:=az [((5,0),none)] []);refine aj H ?_ ?_<;>intro k2 M H
 ·have w:=ix M;have m2:=ml A.a (k2 9 _ rfl);have c1:=sl 2314240 A.a (an g S);have D:=wr U;simp[w,ZH];refine ai [false] (wO (I A.a U) C (B (ZY (Q.Yo g))) (B S)) ?_;refine SN ?_;simp;refine gc (au:=J.map (ag 1 r)) (am:=([jU (I A.a U) C]:List (List Int)).map (ag 1 r)) (l1:=[(5,0)]) (l2:=[(18,0)]) (X:=1) rfl rfl rfl rfl ab ab ab ab ab (by simp;(first|omega|(have z:=Zx (Q.Yo g);omega))) ?_;simp;exact aB H (hw:=YR [((5,0),some (20,0))] [] rfl ad)
 exact ah [.tmp 4] (ms f H)
theorem os(A:YF):c 388 [A.row] [rB (BU A)]:=by have f:=me (BU.eq_1 A);refine so func388 ntmps388 ?_;refine aa (Z0 A.b 1 99) ?_;refine ak (fun p=>Z0 A.g 0 99) ?_;refine ak (fun p=>Z0 A.c 0 99) ?_;refine ak (fun p=>xa A.a) ?_;refine ak (fun p=>Gm A.d) ?_;exact rt [.tmp 2] f
theorem NB(A:List YF):c 332 [rL 5 YF.row A] [rB (HG A)]:=by
 have f:=me (HG.eq_1 A);refine so func332 ntmps332 ?_;refine aI (OR.eq_2 A) (fun J=>Z6 34 [eL 0 5 A YF.row,eL 5 5 A YF.row,eI 6 (A.length:Int),eI 7 (J:Int)]) (fun K J=>A.length<K+J/\J<=A.length) (A.length+1) 0 (fun p1 J H j1=>?_);refine aj H ?_ ?_<;>intro k2 M H
 ·have w:=ix M;have m2:=ml A (k2 0 _ rfl);have D:=wr J;refine xp w ?_;refine aw ac ?_;refine aa (os (I A J)) ?_;refine aK ?_ ?_<;>intro G
  ·have V:=ik (J-1) A;have w2:IntKind.i64.wrap ((J:Int)-1)=(J:Int)-1:=YB Y Y;refine xg (an V w2) ?_;refine cK H ?_ ?_<;>intro k4 Z H
   ·exact O [.tmp 2] (ms f H)
   ·exact aH (an D (an w2 G)) H
  ·refine cK H ?_ ?_<;>intro k5 h3 H
   ·exact O [.tmp 2] (ms f H)
   ·exact aH (an D G) H
 exact rt [.tmp 2] (ms f H)
theorem E3(A:List ZS):c 333 [rL 3 ZS.row A] [rB (kE A)]:=by
 have f:=me (kE.eq_1 A);refine so func333 ntmps333 ?_;refine aI (qB.eq_2 A) (fun J=>Z6 47 [eL 0 3 A ZS.row,eL 5 3 A ZS.row,eI 6 (A.length:Int),eI 7 (J:Int)]) (fun K J=>A.length<K+J/\J<=A.length) (A.length+1) 0 (fun p1 J H j1=>?_);refine aj H ?_ ?_<;>intro k2 M H
 ·have w:=ix M;have m2:=ml A (k2 0 _ rfl);have D:=wr J;refine xp w ?_;refine aw ac ?_;refine aa (Z0 (I A J).b 0 99) ?_;refine ak (fun p=>Z0 (I A J).a 1 99) ?_;refine ak (fun p=>Z0 (I A J).c 0 100) ?_;refine aK ?_ ?_<;>intro G
  ·have V:=ik (J-1) A;have w2:IntKind.i64.wrap ((J:Int)-1)=(J:Int)-1:=YB Y Y;refine xg (an V w2) ?_;refine aE H ?_ ?_<;>intro k4 Z H
   ·have q2:=Z;try simp[ZW]at q2
    have f:=ms f H;simp;refine ax ?_;exact O [.tmp 2] f
   ·have q2:=Z;try simp[ZW]at q2
    simp;refine ax ?_;exact aH (an D (an w2 G)) H
  ·refine aE H ?_ ?_<;>intro k5 h3 H
   ·have q3:=h3;try simp[ZW]at q3
    have f:=ms f H;simp;refine ax ?_;exact O [.tmp 2] f
   ·have q3:=h3;try simp[ZW]at q3
    simp;refine ax ?_;exact aH (an D G) H
 exact rt [.tmp 2] (ms f H)
theorem nY(A:Zy):c 389 [A.row] [rB (MT A)]:=by have f:=me (MT.eq_1 A);refine so func389 ntmps389 ?_;refine aa (Z0 A.b 0 99) ?_;refine ak (fun p=>xa A.c) ?_;refine ak (fun p=>Z0 A.a 1 10001) ?_;refine ak (fun p=>Z0 A.d 1 10001) ?_;exact rt [.tmp 2] f
theorem uJ(A:List Zy):c 334 [rL 4 Zy.row A] [rB (Rb A)]:=by
 have f:=me (Rb.eq_1 A);refine so func334 ntmps334 ?_;refine aI (US.eq_2 A) (fun J=>Z6 34 [eL 0 4 A Zy.row,eL 5 4 A Zy.row,eI 6 (A.length:Int),eI 7 (J:Int)]) (fun K J=>A.length<K+J/\J<=A.length) (A.length+1) 0 (fun p1 J H j1=>?_);refine aj H ?_ ?_<;>intro k2 M H
 ·have w:=ix M;have m2:=ml A (k2 0 _ rfl);have D:=wr J;refine xp w ?_;refine aw ac ?_;refine aa (nY (I A J)) ?_;refine aK ?_ ?_<;>intro G
  ·have V:=ik (J-1) A;have w2:IntKind.i64.wrap ((J:Int)-1)=(J:Int)-1:=YB Y Y;refine xg (an V w2) ?_;refine cK H ?_ ?_<;>intro k4 Z H
   ·exact O [.tmp 2] (ms f H)
   ·exact aH (an D (an w2 G)) H
  ·refine cK H ?_ ?_<;>intro k5 h3 H
   ·exact O [.tmp 2] (ms f H)
   ·exact aH (an D G) H
 exact rt [.tmp 2] (ms f H)
theorem AB(A:ZI):c 267 [A.row] [rB (PR A)]:=by have f:=me (PR.eq_1 A);refine so func267 ntmps267 ?_;refine aa (NB A.a) ?_;refine ak (fun p=>E3 A.b) ?_;refine ak (fun p=>uJ A.c) ?_;refine ak (fun p=>Z0 A.e 0 6) ?_;refine ak (fun p=>xa A.d) ?_;exact rt [.tmp 2] f
theorem Nq(A:Int):c 371 [rI A] [(EU A).row]:=by have f:=me (EU.eq_1 A);refine so func371 ntmps371 ?_;exact rt [.cell 2 137] f
theorem GA(A:Int):c 372 [rI A] [(HJ A).row]:=by have f:=me (HJ.eq_1 A);refine so func372 ntmps372 ?_;exact rt [.cell 2 137] f
theorem zN(A:List YF)(C:Int)(E:List Int)(N:Int)(g:R 2318336 A)(S:R 2318336 E):c 335 [rL 5 YF.row A,rI C,rL 1 r E,rI N] [rB (KH A C E N)]:=by have f:=me (KH.eq_1 A C E N);refine so func335 ntmps335 ?_;refine aa (OW A C E (B g) (B S)) ?_;exact rt [.tmp 8] f
theorem DB(A:List YF)(C:G)(g:R 2314240 A):c 373 [rL 5 YF.row A,C.row] [rB (xm A C)]:=by have f:=me (xm.eq_1 A C);refine so func373 ntmps373 ?_;refine aw ac ?_;refine aa (PZ C) ?_;refine ak (fun p=>Z7.rd (T9 C)) ?_;refine ak (fun p=>zN A C.a (QH C) C.f (B g) (by simp(maxDischargeDepth:=12) [SG];try omega)) ?_;exact rt [.tmp 4] f
theorem HX(A:ZR)(C:ZK):c 431 [A.row,C.row] [rI (Vw A C)]:=by
 have f:=me (Vw.eq_1 A C);refine so func431 ntmps431 ?_;refine aI (Ti.eq_2 A C) (fun J=>Z6 20 [eX 3 (C.row.map .d),eL 8 3 A.b ZK.row,eI 9 (A.b.length:Int),eI 10 (J:Int)]) (fun K J=>A.b.length<K+J/\J<=A.b.length) (A.b.length+1) 0 (fun p1 J H j1=>?_);refine aj H ?_ ?_<;>intro k2 M H
 ·have w:=ix M;have m2:=ml A.b (k2 8 _ rfl);have D:=wr J;refine xp w ?_;refine aa (Pd (I A.b J) C) ?_;refine cF H ?_ ?_<;>intro k3 Z H
  ·exact rt [.tmp 4] (ms f H)
  exact aH D H
 exact rt [.tmp 4] (ms f H)
theorem Dq(A C:Int):c 440 [rI A,rI C] [(y2 A C).1.row,rB (y2 A C).2]:=by
 have f:=me (y2.eq_1 A C);refine so func440 ntmps440 ?_;refine ak (fun p=>yT (o.mk (if 0>A then 0 else A) (if 10000<C then 10000 else C))) ?_;refine cF f ?_ ?_<;>intro k1 M f
 ·exact rt _ f
 exact rt _ f
theorem ri(A:List ZS)(C:ZX):c 435 [rL 3 ZS.row A,C.row] [(xV A C).1.row,rB (xV A C).2]:=by
 have f:=me (xV.eq_1 A C);refine so func435 ntmps435 ?_;refine aa (qH A C.a) ?_;refine aK ?_ ?_<;>intro G
 ·have w:(Zo A C.a).toNat<A.length:=by have:=Jk A C.a;exact il
  refine xg w ?_;refine aO (fun p=>xa C.c) ?_;refine cK f ?_ ?_<;>intro k1 M f
  ·exact O _ f
  ·refine ae ac ?_;simp[w,ZH];refine ax ?_;refine a8 (Dq (W (C.c-(I A (Zo A C.a).toNat).c)) (W (C.c+(I A (Zo A C.a).toNat).c))) ?_;exact O _ f
 ·refine aO (fun p=>xa C.c) ?_;refine cK f ?_ ?_<;>intro k3 Z f
  ·exact O _ f
  ·simp[G]at Z
theorem ny(A:List o)(C:Int):c 462 [rL 2 o.row A,rI C] [rI (Pk A C)]:=by
 have f:=me (Pk.eq_1 A C);refine so func462 ntmps462 ?_;refine aq (kq.eq_2 A C) (fun J U=>Z6 28 [eI 1 C,eI 5 J,eL 8 2 A o.row,eI 9 (A.length:Int),eI 10 (U:Int)]) (fun K J U=>A.length<K+U/\U<=A.length) (A.length+1) 0 0 (fun p1 J U H j1=>?_);refine aj H ?_ ?_<;>intro k2 M H
 ·have w:=ix M;have m2:=ml A (k2 8 _ rfl);have D:=wr U;refine xp w ?_;refine aa (yT (I A U)) ?_;refine ak (fun p=>Z0 C (I A U).d (I A U).c) ?_;refine aF H ?_ ?_<;>intro k3 Z H
  ·have q2:=Z;try simp[ZW]at q2
   simp;exact ay D H
  have q2:=Z;try simp[ZW]at q2
  simp;exact ay D H
 exact rt [.tmp 4] (ms f H)
theorem Ai(A:List o)(C E:Int):c 451 [rL 2 o.row A,rI C,rI E] [rB (YN A C E)]:=by have f:=me (YN.eq_1 A C E);refine so func451 ntmps451 ?_;refine aa (Z0 E 0 (W ((A.length:Int)-1))) ?_;refine ak (fun p=>ny A C) ?_;exact rt [.tmp 6] f
theorem uQ(A:List o)(C:Int):c 436 [rL 2 o.row A,rI C] [(WM A C).1.row,rB (WM A C).2]:=by
 have f:=me (WM.eq_1 A C);refine so func436 ntmps436 ?_;refine dd (zH.eq_2 A C) (fun J U y i=>Z6 25 [eL 0 2 A o.row,eI 1 C,(4,.one (.O 4 0),[.box [.d (.int .i64 0),.d (.int .i64 0)]]),(6,.one (.O 6 0),[.box [.d (.int .i64 y),.d (.int .i64 i)]]),eB 7 J,eI 8 (U:Int)]) (fun K J U y i=>10001<K+U) 10002 false 0 0 0 (fun p1 J U y i H j1=>?_);refine cF H ?_ ?_<;>intro k2 M H
 ·have D:=wr U;refine aa (Ai A (U:Int) C) ?_;refine cF H ?_ ?_<;>intro k3 Z H
  ·refine cF H ?_ ?_<;>intro k4 h3 H
   ·exact b9 D H
   exact b9 D H
  exact b9 D H
 exact rt _ (ms f H)
theorem II(A:List ZS)(C:List ZX)(E:Int)(g:R 2318336 A)(S:R 2318336 C):c 415 [rL 3 ZS.row A,rL 5 ZX.row C,rI E] [(Kc A C E).1.row,rB (Kc A C E).2]:=by
 have f:=me (Kc.eq_1 A C E);refine so func415 ntmps415 ?_;refine aq (J5.eq_2 A C) (fun J U=>Z6 38 [eL 0 3 A ZS.row,eI 2 E,(6,.one (.O 6 0),[.box [.d (.int .i64 0),.d (.int .i64 0)]]),(8,.one (.E 8 0 0 J.length),[.arr false 2 (J.map o.row)]),eL 13 5 C ZX.row,eI 14 (C.length:Int),eI 15 (U:Int)]) (fun K J U=>C.length<K+U/\U<=C.length/\J.length<=0+1*U) (C.length+1) ([]:List o) 0 (fun p1 J U H j1=>?_) (h0:=az [((8,0),none)] []);refine aj H ?_ ?_<;>intro k2 M H
 ·have w:=ix M;have m2:=ml C (k2 13 _ rfl);have c1:=sl 2318336 C (an g S);have D:=wr U;refine xp w ?_;refine aa (ri A (I C U)) ?_;refine cF H ?_ ?_<;>intro k3 Z H
  ·exact rt [.cell 6 135,.tmp 7] (ms f H)
  exact aB H (hw:=YR [((8,0),some (31,0))] [] rfl ad)
 have f:=ms f H;refine aa (uQ J E) ?_;exact rt [.cell 6 135,.tmp 7] f
theorem Ih(A:List ZS)(C:ZZ)(E:Int)(g:R 2314240 A)(S:R 2314240 C):c 461 [rL 3 ZS.row A,C.row,rI E] [(xf A C E).1.row,rB (xf A C E).2]:=by have f:=me (xf.eq_1 A C E);refine so func461 ntmps461 ?_;refine aa (II A C.a E (B g) (B (ZZ.Nz S))) ?_;exact rt [.cell 6 135,.tmp 7] f
theorem Rs(A:ZI)(C:ZZ)(g:R 2310144 A)(S:R 2310144 C):c 450 [A.row,C.row] [(Jn A C).1.row,rB (Jn A C).2]:=by have f:=me (Jn.eq_1 A C);refine so func450 ntmps450 ?_;refine aa (Ih A.b C A.e (B (ZI.Yh g)) (B S)) ?_;exact rt [.cell 4 135,.tmp 5] f
theorem OF(h:b)(k:a:=by(intros;first|omega|with_unfolding_all (first|first|omega|(have cc:A.a.length<=2318336:=Zx (xs g);have d:=o;simp at d;have z:=TS Y d.1;have t:=d.2;(try have w3:IntKind.i64.wrap (E-1)=E-1:=YB Y Y);(try have i:W (E-1)=E-1:=w3);first|omega|(refine⟨⟨d.1,Y⟩,Y,Y⟩)|(simp_all;omega)))|(simp_all;done)|(simp_all;omega)|grind|exact wt)):a/\b:=⟨k,h⟩
theorem tf(A:ZR)(C:List Int)(E:Int)(g:R 2318336 A)(S:R 2318336 C):c 459 [A.row,rL 1 r C,rI E] [rI (I3 A C E)]:=by
 have f:=me (I3.eq_1 A C E);refine so func459 ntmps459 ?_;refine aw ac ?_;refine aa (Z0 E 0 (W ((A.a.length:Int)-1))) ?_;refine bp ?_ ?_<;>intro G
 ·have o:=G;have c1:=sl 2318336 A.a (an g S);have D:IntKind.i64.wrap ((A.a.length:Int)-1)=(A.a.length:Int)-1:=YB Y Y;have g1:=G;try simp[ZW,D]at g1
  have w:E.toNat<A.a.length:=ec;simp[w,ZH,G];repeat with_reducible refine OF ?_
  refine cW (fun p=>Z0 (I A.a E.toNat).d 0 (A.b.length:Int)) ?_;simp;refine aE f ?_ ?_<;>intro k2 M f
  ·have q1:=M;try simp[ZW,D]at q1
   simp;exact O _ f
  ·have q1:=M;try simp[ZW,D]at q1
   simp[w,ZH];repeat with_reducible refine OF ?_
   refine aE f ?_ ?_<;>intro k3 Z f
   ·simp;refine ae ac ?_;have V:(W (E-1)).toNat<A.a.length:=ec
    simp[V,ZH];repeat with_reducible refine OF ?_
    refine cR (SB (I A.a E.toNat).c (I A.a (W (E-1)).toNat) (B (ZY (ZR.QK g)))) ?_;simp;refine ae ac ?_;have i3:E.toNat<C.length:=ec
    simp[i3,ZH];repeat with_reducible refine OF ?_
    refine cR (LZ (I A.a E.toNat).c (I C E.toNat) (A.b.take (I A.a E.toNat).d.toNat) (KY (I A.a E.toNat).c (I A.a (W (E-1)).toNat)) (ZJ (n:=2318336) au (xs (an g S)))) ?_;simp;exact O _ f
   ·simp;refine ae ac ?_;have i4:E.toNat<C.length:=ec
    simp[i4,ZH];repeat with_reducible refine OF ?_
    refine cR (LZ (I A.a E.toNat).c (I C E.toNat) (A.b.take (I A.a E.toNat).d.toNat) 0 (ZJ (n:=2318336) au (xs (an g S)))) ?_;simp;exact O _ f
 ·simp[G];refine aN ?_;simp;have c2:=sl 2318336 A.a (an g S)
  refine aE f ?_ ?_<;>intro l h3 f
  ·have q3:=h3;try simp[ZW,w2]at q3
   simp;exact O _ f
  ·simp[G]at h3
theorem uh(A C:Int)(E:List Xy):c 465 [rI A,rI C,rL 2 Xy.row E] [rI (RK A C E)]:=by
 have f:=me (RK.eq_1 A C E);refine so func465 ntmps465 ?_;refine aq (kd.eq_2 A E) (fun J U=>Z6 29 [eI 0 A,eI 1 J,eL 9 2 E Xy.row,eI 10 (E.length:Int),eI 11 (U:Int)]) (fun K J U=>E.length<K+U/\U<=E.length) (E.length+1) C 0 (fun p1 J U H j1=>?_);refine aj H ?_ ?_<;>intro k2 M H
 ·have w:=ix M;have m2:=ml E (k2 9 _ rfl);have D:=wr U;refine xp w ?_;refine cF H ?_ ?_<;>intro k3 Z H
  ·refine aa (O9 A (I E U).e J) ?_;exact ay D H
  refine aa (O9 A J (I E U).e) ?_;exact ay D H
 exact rt [.tmp 6] (ms f H)
theorem Wo(A:List ZX):c 412 [rL 5 ZX.row A] [rB (Xw A)]:=by
 have f:=me (Xw.eq_1 A);refine so func412 ntmps412 ?_;refine aI (VQ.eq_2 A) (fun J=>Z6 22 [eL 0 5 A ZX.row,eI 3 (J:Int)]) (fun K J=>A.length<K+J/\1<=J) (A.length+1) 1 (fun p1 J H j1=>?_);refine cF H ?_ ?_<;>intro k2 M H
 ·have w:=ix M;have m2:=ml A (k2 0 _ rfl);have D:=wr J;refine ae ac ?_;have V:=ik (J-1) A;have w2:IntKind.i64.wrap ((J:Int)-1)=(J:Int)-1:=YB Y Y;refine xp (an V (an w2 w)) ?_;refine cF H ?_ ?_<;>intro k4 Z H
  ·exact rt [.tmp 2] (ms f H)
  exact aH (an D w2) H
 exact rt [.tmp 2] (ms f H)
theorem Ox(A:List YF)(C:List ZS)(E:ZX)(g:R 2314240 A)(S:R 2314240 C):c 264 [rL 5 YF.row A,rL 3 ZS.row C,E.row] [rB (xC A C E)]:=by have f:=me (xC.eq_1 A C E);refine so func264 ntmps264 ?_;refine aa (R4 A C E (B g) (B S)) ?_;exact rt [.tmp 6] f
theorem AF(A:List YF)(C:List ZS)(E:ZZ)(N:Int)(g:R 2310144 A)(S:R 2310144 C)(u2:R 2310144 E):c 458 [rL 5 YF.row A,rL 3 ZS.row C,E.row,rI N] [rB (jv A C E N)]:=by
 have f:=me (jv.eq_1 A C E N);refine so func458 ntmps458 ?_;refine aw ac ?_;refine ak (fun p=>uh E.c N E.b) ?_;refine ak (fun p=>Z0 (E.a.length:Int) 1 6) ?_;refine ak (fun p=>Wo E.a) ?_;refine aF f ?_ ?_<;>intro k2 M f
 ·have q1:=M;try simp[ZW]at q1
  simp;exact rt [.tmp 8] f
 have q1:=M;try simp[ZW]at q1
 simp;refine aI (Ug.eq_2 A C E) (fun J=>Z6 59 [eL 0 5 A YF.row,eL 1 3 C ZS.row,eX 6 (E.row.map .d),eL 40 5 E.a ZX.row,eI 41 (E.a.length:Int),eI 42 (J:Int)]) (fun K J=>E.a.length<K+J/\J<=E.a.length) (E.a.length+1) 0 (fun p1 J H j1=>?_);refine aj H ?_ ?_<;>intro k4 Z H
 ·have w:=ix Z;have D:=wr J;refine xp w ?_;refine ak (fun p=>Ox A C (I E.a J) (B g) (B S)) ?_;refine cF H ?_ ?_<;>intro k5 h3 H
  ·exact rt [.tmp 8] (ms f H)
  exact aH D H
 exact rt [.tmp 8] (ms f H)
theorem Py(A:List ZS)(C:ZX):c 331 [rL 3 ZS.row A,C.row] [rI (Xs A C)]:=by
 have f:=me (Xs.eq_1 A C);refine so func331 ntmps331 ?_;refine aa (qH A C.a) ?_;refine aj f ?_ ?_<;>intro k1 M f
 ·have w:(Zo A C.a).toNat<A.length:=by have:=Jk A C.a;exact il
  refine xp w ?_;exact rt [.tmp 4] f
 exact rt [.tmp 4] f
theorem IF(A:List YF)(C:List ZS)(E:List Zy)(N:ZZ):c 466 [rL 5 YF.row A,rL 3 ZS.row C,rL 4 Zy.row E,N.row] [rI (j9 A C E N)]:=by
 have f:=me (j9.eq_1 A C E N);refine so func466 ntmps466 ?_;refine aa (NY E N.c) ?_;refine aq (kB.eq_2 A C E N) (fun J U=>Z6 42 [eL 0 5 A YF.row,eL 1 3 C ZS.row,eL 2 4 E Zy.row,eI 9 J,eL 18 5 N.a ZX.row,eI 19 (N.a.length:Int),eI 20 (U:Int)]) (fun K J U=>N.a.length<K+U/\U<=N.a.length) (N.a.length+1) (kZ E N.c) 0 (fun p1 J U H j1=>?_);refine aj H ?_ ?_<;>intro k2 M H
 ·have w:=ix M;have m2:=ml N.a (k2 18 _ rfl);have D:=wr U;refine xp w ?_;refine aa (Py C (I N.a U)) ?_;refine aa (JO A (Xs C (I N.a U))) ?_;refine aQ H ?_ ?_<;>intro k3 Z H
  ·exact rt [.tmp 8] (ms f H)
  have V:(YA A (Xs C (I N.a U))).toNat<A.length:=by have:=yD A (Xs C (I N.a U));exact il
  refine xp V ?_;refine aa (NY E (I A (YA A (Xs C (I N.a U))).toNat).c) ?_;exact ay D H
 exact rt [.tmp 8] (ms f H)
theorem Eb(h:b)(k:a:=by(intros;first|omega|with_unfolding_all (first|(first|omega|(have e:C.a.length<=2306048:=Zx (xs S);have d:=GR C.a.length Y;(try rw[d]at q1);(try rw[d]at q2);have w3:W (E+1)=E+1:=YB Y Y;have i:IntKind.i64.wrap (E+1)=E+1:=w3;omega)))|exact wt)):a/\b:=⟨k,h⟩
theorem FT(A:ZI)(C:ZR)(E:Int)(g:R 2306048 A)(S:R 2306048 C):c 460 [A.row,C.row,rI E] [rB (Sf A C E)]:=by
 have f:=me (Sf.eq_1 A C E);refine so func460 ntmps460 ?_;refine aa (Z0 E 0 (W ((C.a.length:Int)-1))) ?_;have c1:=sl 2306048 C.a (an g S);have D:IntKind.i64.wrap ((C.a.length:Int)-1)=(C.a.length:Int)-1:=YB Y Y;refine aF f ?_ ?_<;>intro k1 M f
 ·have q1:=M;try simp[ZW,D]at q1
  simp;exact rt [.tmp 6] f
 have q1:=M;try simp[ZW,D]at q1
 simp;refine ae ac ?_;have w:E.toNat<C.a.length:=go
 simp[w,ZH];repeat with_reducible refine Eb ?_
 refine aa (IF A.a A.b A.c (I C.a E.toNat)) ?_;refine aF f ?_ ?_<;>intro k3 Z f
 ·have q2:=Z;try simp[D]at q2
  simp;exact rt [.tmp 6] f
 have q2:=Z;try simp[D]at q2
 simp;refine ae ac ?_;have V:(W (E+1)).toNat<C.a.length:=go
 simp[V,ZH];repeat with_reducible refine Eb ?_
 refine aa (Rs A (I C.a (W (E+1)).toNat) (B g) (B (ZY (ZR.QK S)))) ?_ (al:=by first|(simp;done)|(simp;done));exact rt [.tmp 6] f
theorem pM(A:ZI)(C:ZR)(E:List Int)(g:R 2301952 A)(S:R 2301952 C)(u2:R 2301952 E):c 449 [A.row,C.row,rL 1 r E] [rI (ql A C E)]:=by
 have f:=me (ql.eq_1 A C E);refine so func449 ntmps449 ?_;refine bX fun k1=>?_;refine aI (VB.eq_2 A C E) (fun J=>Z6 58 [eL 2 1 E r,eX 3 (A.row.map .d),eX 4 (C.row.map .d),eI 7 (J:Int)]) (fun K J=>J<K/\J<=C.a.length) (C.a.length+1) C.a.length (fun p1 J H j1=>?_);refine aF H ?_ ?_<;>intro k2 M H
 ·have q1:=M;try simp at q1
  have q:=ml C.a (k1 11 _ rfl);have D:IntKind.i64.wrap ((J:Int)-1)=(J:Int)-1:=YB Y Y;have w2:((J-1:Nat):Int)=(J:Int)-1:=Y;simp;refine ae ac ?_;have V:=ik (J-1) C.a;refine xp (an V D) ?_;refine aa (Rs A (I C.a (J-1)) (B g) (B (ZY (ZR.QK S)))) ?_;refine aw ac ?_;refine aK ?_ ?_<;>intro G
  ·have g1:=G;try simp at g1
   refine xg (an V D) ?_;refine dO rfl rfl rfl rfl rfl rfl (fun p=>tf C E (W ((J:Int)-1)) (B S) (B u2)) er bM bM bM ?_;simp;refine ax ?_;refine dO rfl rfl rfl rfl rfl rfl (fun p=>AF A.a A.b (I C.a (J-1)) (I3 C E (W ((J:Int)-1))) (B (ZI.Yf g)) (B (ZI.Yh g)) (B (ZY (ZR.QK S)))) er bM bM bM ?_;simp;refine ax ?_;refine dO rfl rfl rfl rfl rfl rfl (fun p=>FT A C (W ((J:Int)-1)) (B g) (B S)) er bM bM bM ?_;simp;refine ax ?_;refine aE H ?_ ?_<;>intro k5 Z H
   ·have q2:=Z;try simp[D]at q2
    have f:=ms f H;simp;refine ax ?_;exact O _ f
   ·have q2:=Z;try simp[D]at q2
    simp;refine ax ?_;exact aH (an D (an w2 G)) H
  ·refine aN ?_;simp;refine ax ?_;refine aN ?_;simp;refine ax ?_;refine dO rfl rfl rfl rfl rfl rfl (fun p=>FT A C (W ((J:Int)-1)) (B g) (B S)) er bM bM bM ?_;simp;refine ax ?_;refine aE H ?_ ?_<;>intro b h3 H
   ·have q3:=h3;try simp[D]at q3
    have f:=ms f H;simp;refine ax ?_;exact O _ f
   ·simp[G]at h3
 have q1:=M;try simp at q1
 have f:=ms f H;simp;exact rt _ f
theorem Ae(A:ZI)(C:ZR)(E:List Int)(N:Int)(g:R 2297856 A)(S:R 2297856 C)(u2:R 2297856 E):c 432 [A.row,C.row,rL 1 r E,rI N] [rI (Hj A C E N)]:=by
 have f:=me (Hj.eq_1 A C E N);refine so func432 ntmps432 ?_;refine aa (pM A C E (B g) (B S) (B u2)) ?_;refine aq (SU.eq_2 A C N) (fun J U=>Z6 49 [eI 3 N,eX 4 (A.row.map .d),eX 5 (C.row.map .d),eI 9 J,eI 10 U]) (fun K J U=>(C.a.length:Int)+1<K+U/\0<=U/\U<=C.a.length) (C.a.length+2) A.d (ql A C E) (fun p1 J U H j1=>?_) (v:=by(have z:=te A C E;(try dsimp only);omega));refine cF H ?_ ?_<;>intro k2 M H
 ·refine aW fun k3=>?_;refine ae ac ?_;have w:=ik U.toNat C.a
  refine xp w ?_;refine fI w (Rs A (I C.a U.toNat) (B g) (B (ZY (ZR.QK S)))) ?_;refine cF H ?_ ?_<;>intro k4 Z H
  ·exact aB H (v:=by(have cc:C.a.length<=2297856:=Zx (xs S);have w2:W (U+1)=U+1:=YB ct ct;(try dsimp only);rw[w2];simp at*;omega))
  exact aB H (v:=by(have cc:C.a.length<=2297856:=Zx (xs S);have w2:W (U+1)=U+1:=YB ct ct;(try dsimp only);rw[w2];simp at*;omega))
 exact rt [.tmp 8] (ms f H)
theorem AS(A:ZI)(C:ZR)(E:List Int)(N:ZK)(g:R 2293760 A)(S:R 2293760 C)(u2:R 2293760 E)(a:R 2293760 N):c 409 [A.row,C.row,rL 1 r E,N.row] [rI (Us A C E N)]:=by
 have f:=me (Us.eq_1 A C E N);refine so func409 ntmps409 ?_;refine aa (HX C N) ?_;refine cF f ?_ ?_<;>intro k1 M f
 ·exact rt [.tmp 8] f
 refine aa (Ae A C E (Vw C N) (B g) (B S) (B u2)) ?_;exact rt [.tmp 8] f
theorem MQ(A:ZI)(C:Q)(E:List (List Int))(N:ZK)(g:R 2289664 A)(S:R 2289664 C)(u2:R 2289664 E)(a:R 2289664 N):c 374 [A.row,C.row,rL 1 (ag 1 r) E,N.row] [rI (XH A C E N)]:=by
 have f:=me (XH.eq_1 A C E N);refine so func374 ntmps374 ?_;refine aq (KF.eq_2 A C E N) (fun J U=>Z6 38 [eL 2 1 E (ag 1 r),eX 4 (A.row.map .d),eX 7 (N.row.map .d),eI 9 J,eL 15 2 C.a ZR.row,eI 16 (C.a.length:Int),eI 17 (U:Int)]) (fun K J U=>C.a.length<K+U/\U<=C.a.length) (C.a.length+1) A.d 0 (fun p1 J U H j1=>?_);refine aj H ?_ ?_<;>intro k2 M H
 ·have w:=ix M;have m2:=ml C.a (k2 15 _ rfl);have c1:=sl 2289664 C.a (an g (an S (an u2 a)));have D:=wr U;refine xp w ?_;refine cF H ?_ ?_<;>intro k3 Z H
  ·have V:=ix Z;have w2:=wr U;refine ae ac ?_;refine xp V ?_;refine aa (AS A (I C.a U) (I E U) N (B g) (B (ZY (Q.Yo S))) (B (ZY u2)) (B a)) ?_;exact ay w2 H
  exact ay D H
 exact rt [.tmp 8] (ms f H)
theorem Hi(A:ZK):c 416 [A.row] [(Jv A).1.row,rB (Jv A).2]:=by
 have f:=me (Jv.eq_1 A);refine so func416 ntmps416 ?_;refine aw ac ?_;refine aa (xx A) ?_;refine aK ?_ ?_<;>intro G
 ·have g1:=G;try simp at g1
  have w:4<A.b.length:=a5;refine xg w ?_;refine cK f ?_ ?_<;>intro k2 M f
  ·exact O _ f
  ·refine ae ac ?_;have V:1<A.b.length:=a5
   have i3:2<A.b.length:=a5;have i4:3<A.b.length:=a5;simp[V,ZH,i3,i4,w];refine ax ?_;exact O _ f
 ·refine cK f ?_ ?_<;>intro k4 Z f
  ·exact O _ f
  ·simp[G]at Z
theorem th(A:ZK):c 433 [A.row] [(qq A).1.row,rB (qq A).2]:=by
 have f:=me (qq.eq_1 A);refine so func433 ntmps433 ?_;refine aa (xx A) ?_;refine cF f ?_ ?_<;>intro k1 M f
 ·exact rt _ f
 refine ae ac ?_;have w:1<A.b.length:=a5
 have V:2<A.b.length:=a5;have i3:3<A.b.length:=a5;have i4:4<A.b.length:=a5;simp[w,ZH,V,i3,i4];refine bN ?_;exact rt _ f
theorem rk(A:ZK):c 434 [A.row] [(kz A).1.row,rB (kz A).2]:=by
 have f:=me (kz.eq_1 A);refine so func434 ntmps434 ?_;refine aw ac ?_;refine aa (xx A) ?_;refine aK ?_ ?_<;>intro G
 ·have g1:=G;try simp at g1
  have w:1<A.b.length:=a5;refine xg w ?_;refine cK f ?_ ?_<;>intro k2 M f
  ·exact O _ f
  ·refine ae ac ?_;have V:2<A.b.length:=a5
   have i3:3<A.b.length:=a5;have i4:4<A.b.length:=a5;have i5:5<A.b.length:=a5;have i6:6<A.b.length:=a5;have i7:7<A.b.length:=a5;have s:8<A.b.length:=a5;simp[w,ZH,V,i3,i4,i5,i6,i7,s];refine ax ?_;exact O _ f
 ·refine cK f ?_ ?_<;>intro k4 Z f
  ·exact O _ f
  ·simp[G]at Z
theorem Lf(A:ZK):c 421 [A.row] [(KT A).1.row,rB (KT A).2]:=by
 have f:=me (KT.eq_1 A);refine so func421 ntmps421 ?_;refine aw ac ?_;refine aa (xx A) ?_;refine aK ?_ ?_<;>intro G
 ·have g1:=G;try simp at g1
  have w:5<A.b.length:=a5;refine xg w ?_;refine cK f ?_ ?_<;>intro k2 M f
  ·exact O _ f
  ·refine ae ac ?_;have V:1<A.b.length:=a5
   have i3:2<A.b.length:=a5;have i4:3<A.b.length:=a5;have i5:4<A.b.length:=a5;simp[V,ZH,i3,i4,i5,w];refine ax ?_;exact O _ f
 ·refine cK f ?_ ?_<;>intro k4 Z f
  ·exact O _ f
  ·simp[G]at Z
theorem uK(A:List YF)(C:ZK)(g:R 2314240 A)(S:R 2314240 C):c 410 [rL 5 YF.row A,C.row] [rB (qx A C)]:=by
 have f:=me (qx.eq_1 A C);refine so func410 ntmps410 ?_;refine aa (xx C) ?_;refine cF f ?_ ?_<;>intro k1 M f
 ·refine aa (Mt C) ?_;refine ak (fun p=>zN A C.a C.b C.f (B g) (B (ZK.LG S))) ?_;exact rt [.tmp 4] f
 refine cF f ?_ ?_<;>intro k2 Z f
 ·refine aa (Hi C) ?_;refine ak (fun p=>zN A C.a C.b C.f (B g) (B (ZK.LG S))) ?_;exact rt [.tmp 4] f
 refine cF f ?_ ?_<;>intro k3 h3 f
 ·refine aa (th C) ?_;refine ak (fun p=>zN A C.a C.b C.f (B g) (B (ZK.LG S))) ?_;exact rt [.tmp 4] f
 refine cF f ?_ ?_<;>intro k4 h4 f
 ·refine aa (rk C) ?_;refine ak (fun p=>zN A C.a C.b C.f (B g) (B (ZK.LG S))) ?_;exact rt [.tmp 4] f
 refine cF f ?_ ?_<;>intro k5 h5 f
 ·refine aa (Lf C) ?_;refine ak (fun p=>zN A C.a C.b C.f (B g) (B (ZK.LG S))) ?_;exact rt [.tmp 4] f
 refine ak (fun p=>zN A C.a C.b C.f (B g) (B (ZK.LG S))) ?_;exact rt [.tmp 4] f
theorem AP(A C:ZK):c 411 [A.row,C.row] [rB (XW A C)]:=by
 have f:=me (XW.eq_1 A C);refine so func411 ntmps411 ?_;refine aI (yy.eq_2 A C) (fun J=>Z6 73 [eX 2 (A.row.map .d),eX 3 (C.row.map .d),eI 5 (J:Int)]) (fun K J=>A.b.length<K+J/\J<=A.b.length) (A.b.length+1) 0 (fun p1 J H j1=>?_);refine cF H ?_ ?_<;>intro k2 M H
 ·have w:J<A.b.length:=bK;have m2:=ml A.b (k2 8 _ rfl);have D:=wr J;refine ae ac ?_;have V:=ik J C.b;refine xp (an w V) ?_;refine cF H ?_ ?_<;>intro k4 Z H
  ·refine aW fun k5=>?_;refine ae ac ?_;have f:=ms f H
   refine xp (an w V) ?_;exact rt [.tmp 4] f
  exact aH D H
 have f:=ms f H;refine cF f ?_ ?_<;>intro b h3 f
 ·exact rt [.tmp 4] f
 refine cF f ?_ ?_<;>intro l h4 f
 ·exact rt [.tmp 4] f
 exact rt [.tmp 4] f
end Go.Proofs.YtifogammcgmjpaaGreat
