/- Contracts of the functions C7 the abstract machine, part S2. No condition. -/
import Derived.Test.YtifogammcgmjpaaGreatCS1
namespace Go.Proofs.YtifogammcgmjpaaGreat
open Tryz
open Go.Vm Go.Mo
set_option maxHeartbeats 1000000
set_option maxRecDepth 100000
set_option linter.unusedSimpArgs false
set_option linter.unusedVariables false
variable{a b:Prop}
theorem NN(h:b)(k:a:=by(intros;first|omega|with_unfolding_all (first|first|omega|(simp at M;simp only[Xf]at*;omega)|(have z:=VL (C.tail.take ((W (E+1)).toNat-1)) ej;simp at M z;simp only[Xf]at*;omega))|exact wt)):a/\b:=⟨k,h⟩
theorem C1(A:P)(C:List ByteArray)(E:Int)(g:R 2289664 A)(S:R 2289664 C)(u2:E=3\/E=4):c 23 [A.row,rL 1 N C,rI E] [(kH A C E).1.row,rS (kH A C E).2]:=by
 have f:=me (kH.eq_1 A C E);refine so func23 ntmps23 ?_;refine aQ f ?_ ?_<;>intro k1 M f
 ·refine ai qW (Y3 A (B g)) ?_;exact rt _ f
 simp;repeat with_reducible refine NN ?_
 refine aa (Z7.rd (Uv (C.tail.take ((W (E+1)).toNat-1)) (by exact B (BX (By S))))) ?_;refine cF f ?_ ?_<;>intro k2 Z f
 ·refine ai qW (Y3 A (B g)) ?_;exact rt _ f
 refine ae ac ?_;have w:(W (E-1)).toNat<(Z2 (C.tail.take ((W (E+1)).toNat-1))).1.length:=dk
 simp[w,ZH];repeat with_reducible refine NN ?_
 refine aa (Z7.rd (Xg (I (Z2 (C.tail.take ((W (E+1)).toNat-1))).1 (W (E-1)).toNat) (C.drop (W (E+1)).toNat) 11 (by exact ZJ au (jr S)))) ?_;refine cF f ?_ ?_<;>intro k4 h3 f
 ·refine ai qW (Y3 A (B g)) ?_;exact rt _ f
 refine ae ac ?_;have V:0<(Z2 (C.tail.take ((W (E+1)).toNat-1))).1.length:=dk
 have i3:1<(Z2 (C.tail.take ((W (E+1)).toNat-1))).1.length:=dk;have i4:0<C.length:=dk;simp[V,ZH,i3,i4];repeat with_reducible refine NN ?_
 refine aj f ?_ ?_<;>intro b h4 f
 ·have i5:2<(Z2 (C.tail.take ((W (E+1)).toNat-1))).1.length:=dk;simp[i5,ZH];repeat with_reducible refine NN ?_
  refine aa (Ot A (YS.mk 2 (I (Z2 (C.tail.take ((W (E+1)).toNat-1))).1 0) (I (Z2 (C.tail.take ((W (E+1)).toNat-1))).1 1) 0 (I (Z2 (C.tail.take ((W (E+1)).toNat-1))).1 2) (QM (I (Z2 (C.tail.take ((W (E+1)).toNat-1))).1 (W (E-1)).toNat) (C.drop (W (E+1)).toNat) 11).1 ([]:List Int)) io k7) ?_;refine cF f ?_ ?_<;>intro l h5 f
  ·refine ai qW (Y3 A (B g)) ?_;exact rt _ f
  refine aw ac ?_;refine aa (XP A.h) ?_;exact rt _ f
 refine aa (Ot A (YS.mk 8 (I (Z2 (C.tail.take ((W (E+1)).toNat-1))).1 0) (I (Z2 (C.tail.take ((W (E+1)).toNat-1))).1 1) 0 0 (QM (I (Z2 (C.tail.take ((W (E+1)).toNat-1))).1 (W (E-1)).toNat) (C.drop (W (E+1)).toNat) 11).1 ([]:List Int)) io k7) ?_;refine cF f ?_ ?_<;>intro L h6 f
 ·refine ai qW (Y3 A (B g)) ?_;exact rt _ f
 refine aw ac ?_;refine aa (XP A.h) ?_;exact rt _ f
theorem GF(A:P)(C:YS)(g:R 2289664 A)(S:R 2289664 C):c 40 [A.row,C.row] [(Ts A C).1.row,rS (Ts A C).2]:=by
 have f:=me (Ts.eq_1 A C);refine so func40 ntmps40 ?_;refine aa (Ot A C (B g) (B S)) ?_;refine cF f ?_ ?_<;>intro k1 M f
 ·refine ai qW (Y3 A (B g)) ?_;exact rt _ f
 exact rt _ f
theorem og(h:b)(k:a:=by(intros;first|omega|with_unfolding_all (first|first|omega|(simp at M;have z:=u2 (I C 2) (iL Y);omega))|exact wt)):a/\b:=⟨k,h⟩
theorem je(h:b)(k:a:=by(intros;first|omega|with_unfolding_all (first|first|omega|(simp at M;have z:=u2 (I C 2) (iL Y);omega))|(simp_all;done)|(simp_all;omega)|grind|exact wt)):a/\b:=⟨k,h⟩
theorem w4(A:P)(C:List ByteArray)(g:R 2285568 A)(S:R 2285568 C)(u2:∀x∈C,0<x.size):c 24 [A.row,rL 1 N C] [(Wj A C).1.row,rS (Wj A C).2]:=by
 have f:=me (Wj.eq_1 A C);refine so func24 ntmps24 ?_;refine aQ f ?_ ?_<;>intro k1 M f
 ·refine ai qW (Y3 A (B g)) ?_;exact rt _ f
 have w:2<C.length:=bK;simp[w,ZH];repeat with_reducible refine og ?_
 refine bp ?_ ?_<;>intro G
 ·have g1:=G;try simp at g1
  simp[G];repeat with_reducible refine je ?_
  refine aE f ?_ ?_<;>intro k2 Z f
  ·have V:1<C.length:=bK;simp[V,ZH];repeat with_reducible refine je ?_
   refine cR (jh (I C 1) b8) ?_;simp;refine cR (jh ((I C 2).extract 1 (I C 2).size) b8) ?_;simp;repeat with_reducible refine je ?_
   refine cR (Z7.rd (Uv (C.drop 3) dj)) ?_;simp;refine aE f ?_ ?_<;>intro k3 h3 f
   ·simp;refine cD qW (Y3 A (B g)) ?_;simp;exact O _ f
   ·simp;refine cR (GF A (YS.mk 5 (Xh (I C 1)).1 (W ((-1)*(Xh ((I C 2).extract 1 (I C 2).size)).1)) 0 0 (ZO.mk 0 ([]:List ByteArray) ([]:List Int)) (Z2 (C.drop 3)).1) cE cE) ?_;simp;exact O _ f
  ·have i3:1<C.length:=bK;simp[i3,ZH];repeat with_reducible refine je ?_
   refine cR (jh (I C 1) b8) ?_;simp;refine cR (jh (I C 2) b8) ?_;simp;repeat with_reducible refine je ?_
   refine cR (Z7.rd (Uv (C.drop 3) dj)) ?_;simp;refine aE f ?_ ?_<;>intro k4 h4 f
   ·simp;refine cD qW (Y3 A (B g)) ?_;simp;exact O _ f
   ·simp;refine cR (GF A (YS.mk 5 (Xh (I C 1)).1 (W (1*(Xh (I C 2)).1)) 0 0 (ZO.mk 0 ([]:List ByteArray) ([]:List Int)) (Z2 (C.drop 3)).1) cE cE) ?_;simp;exact O _ f
 ·simp[G];refine aE f ?_ ?_<;>intro k5 h5 f
  ·simp[G]at h5
  ·have i5:1<C.length:=bK;simp[i5,ZH];repeat with_reducible refine je ?_
   refine cR (jh (I C 1) b8) ?_;simp;refine cR (jh (I C 2) b8) ?_;simp;repeat with_reducible refine je ?_
   refine cR (Z7.rd (Uv (C.drop 3) dj)) ?_;simp;refine aE f ?_ ?_<;>intro l h7 f
   ·simp;refine cD qW (Y3 A (B g)) ?_;simp;exact O _ f
   ·simp;refine cR (GF A (YS.mk 5 (Xh (I C 1)).1 (W (1*(Xh (I C 2)).1)) 0 0 (ZO.mk 0 ([]:List ByteArray) ([]:List Int)) (Z2 (C.drop 3)).1) cE cE) ?_;simp;exact O _ f
theorem ph(A:Int):c 41 [rI A] [rS (ya A)]:=by
 have f:=me (ya.eq_1 A);refine so func41 ntmps41 ?_;refine aa (YP A 1 10) ?_;refine aF f ?_ ?_<;>intro k1 M f
 ·have q1:=M;try simp[Z1]at q1
  simp;exact rt _ f
 have q1:=M;try simp[Z1]at q1
 have w:=ik A.toNat ([(⟨#[]⟩:ByteArray),(⟨#[116,105,99,107]⟩:ByteArray),(⟨#[115,105,103,110]⟩:ByteArray),(⟨#[97,110,115,119,101,114]⟩:ByteArray),(⟨#[114,101,118,111,107,101]⟩:ByteArray),(⟨#[114,101,110,101,119]⟩:ByteArray),(⟨#[109,111,118,101]⟩:ByteArray),(⟨#[102,111,114,103,101,116]⟩:ByteArray),(⟨#[102,111,114,103,101]⟩:ByteArray),(⟨#[98,97,99,107,100,97,116,101]⟩:ByteArray),(⟨#[102,97,107,101]⟩:ByteArray)]:List ByteArray);have r1:=ZH (f:=N) w;try simp at r1
 refine xp r1 ?_;exact rt _ f
theorem DM(h:b)(k:a:=by(intros;first|omega|with_unfolding_all (first|first|omega|(simp at M;omega)|(have z:=Zx (xJ (n:=2285568) (A:=C.tail) (by have:=Zx S;rw[List.length_tail];omega));first|omega|(simp;omega)))|exact wt)):a/\b:=⟨k,h⟩
theorem IZ(h:b)(k:a:=by(intros;first|omega|with_unfolding_all (first|first|omega|(simp at M;omega)|(have z:=Zx (xJ (n:=2285568) (A:=C.tail) (by have:=Zx S;rw[List.length_tail];omega));first|omega|(simp;omega)))|(simp_all;done)|(simp_all;omega)|grind|exact wt)):a/\b:=⟨k,h⟩
theorem n7(A:P)(C:List ByteArray)(g:R 2285568 A)(S:R 2285568 C)(u2:0<C.length):c 25 [A.row,rL 1 N C] [(K7 A C).1.row,rS (K7 A C).2.1,rB (K7 A C).2.2]:=by
 have f:=me (K7.eq_1 A C);refine so func25 ntmps25 ?_;refine aI (z8.eq_2 A C) (fun J=>Z6 76 [eL 1 1 C N,eX 2 (A.row.map .d),(4,.one (.O 4 0),[.box [.nil 5,.nil 3,.nil 4,.d (.int .i64 0),.d (.int .i64 0),.nil 7,.nil 1,.nil 2,.nil 1,.nil 1,.d (.int .i64 0),.nil 1]]),(7,.one (.E 14 0 0 7),[]),(8,.one (.E 15 0 0 7),[]),eI 9 (J:Int),(14,.any,[.arr false 1 (([1,3,4,7,6,9,10]:List Int).map r)]),(15,.any,[.arr false 1 (([1,1,1,1,3,2,2]:List Int).map r)])]) (fun K J=>7<K+J) 8 0 (fun p1 J H j1=>?_);refine cF H ?_ ?_<;>intro k2 M H
 ·have D:=wr J;refine ae ac ?_;have V:J<([1,3,4,7,6,9,10]:List Int).length:=cN;have r1:=ZH (f:=r) V;try simp at r1
  simp[r1];repeat with_reducible refine DM ?_
  refine cR (ph (I ([1,3,4,7,6,9,10]:List Int) J)) ?_;have i3:0<C.length:=cN
  simp[i3,ZH];refine aQ H ?_ ?_<;>intro k4 Z H
  ·exact aH D H
  simp;repeat with_reducible refine DM ?_
  refine ai [false] (Uv _ (by exact B (By S))) ?_;refine bp ?_ ?_<;>intro G
  ·have g1:=G;try simp at g1
   have i4:J<([1,1,1,1,3,2,2]:List Int).length:=cN;have r2:=ZH (f:=r) i4;try simp at r2
   simp[r2,G];repeat with_reducible refine IZ ?_
   refine aE H ?_ ?_<;>intro k5 h3 H
   ·simp;refine cD qW (Y3 A (B g)) ?_;have f:=ms f H
    simp;exact O _ f
   ·simp;repeat with_reducible refine IZ ?_
    refine ae ac ?_;have i5:0<((Z2 (C.tail)).1++([0,0]:List Int)).length:=cN
    have a:=ZH (f:=r) i5;try simp at a
    have i6:1<((Z2 (C.tail)).1++([0,0]:List Int)).length:=cN;have j:=ZH (f:=r) i6;try simp at j
    have i7:2<((Z2 (C.tail)).1++([0,0]:List Int)).length:=cN;have i:=ZH (f:=r) i7;try simp at i
    simp[r1,a,j,i];repeat with_reducible refine IZ ?_
    refine cR (GF A (YS.mk (I ([1,3,4,7,6,9,10]:List Int) J) (I ((Z2 (C.tail)).1++([0,0]:List Int)) 0) (I ((Z2 (C.tail)).1++([0,0]:List Int)) 1) (I ((Z2 (C.tail)).1++([0,0]:List Int)) 2) 0 (ZO.mk 0 ([]:List ByteArray) ([]:List Int)) ([]:List Int)) bB bB) ?_;have f:=ms f H
    simp;exact O _ f
  ·simp[G];refine aE H ?_ ?_<;>intro l h4 H
   ·simp;refine cD qW (Y3 A (B g)) ?_;have f:=ms f H
    simp;exact O _ f
   ·simp[G]at h4
 have f:=ms f H;refine ai qW (Y3 A (B g)) ?_;exact rt _ f
theorem BS(A:List Zy)(C E:Int):c 83 [rL 4 Zy.row A,rI C,rI E] [rB (Hk A C E)]:=by
 have f:=me (Hk.eq_1 A C E);refine so func83 ntmps83 ?_;refine aa (Oi A C) ?_;refine aK ?_ ?_<;>intro G
 ·have w:(Qf A C).toNat<A.length:=ew;refine xg w ?_;refine aJ G ?_ ?_<;>intro G
  ·all_goals
    refine xg w ?_;exact O [.tmp 6] f
  ·all_goals
    exact O [.tmp 6] f
 ·refine aJ G ?_ ?_<;>intro G
  ·try(simp at G;done)
   all_goals
    have i3:(Qf A C).toNat<A.length:=ew;refine xg i3 ?_;exact O [.tmp 6] f
  ·all_goals
    exact O [.tmp 6] f
theorem U4(A:List Zy)(C:Int):c 84 [rL 4 Zy.row A,rI C] [rI (Ul A C)]:=by
 have f:=me (Ul.eq_1 A C);refine so func84 ntmps84 ?_;refine aa (Oi A C) ?_;refine aQ f ?_ ?_<;>intro k1 M f
 ·exact rt [.tmp 4] f
 have w:(Qf A C).toNat<A.length:=ew;refine xp w ?_;exact rt [.tmp 4] f
theorem EC(A:ZI)(g:R 2334720 A):Sd 43 [A.row] [rL 1 r (jL A)]:=by
 have f:=me (jL.eq_1 A);refine ar func43 ntmps43 ?_;refine aq (JJ.eq_2 A) (fun J U=>Z6 73 [eX 1 (A.row.map .d),(3,.one (.E 3 0 0 J.length),[.arr false 1 (J.map r)]),eI 4 (U:Int)]) (fun K J U=>A.b.length<K+U/\U<=A.b.length/\J.length<=0+1*U) (A.b.length+1) ([]:List Int) 0 (fun p1 J U H j1=>?_) (h0:=az [((3,0),some (6,0))] []);refine cF H ?_ ?_<;>intro k2 M H
 ·have w:=ix M;have m2:=ml A.b (k2 9 _ rfl);have c1:=sl 2334720 A.b g;have D:=wr U;refine ae ac ?_;refine xp w ?_;refine aa (Xz A.a (I A.b U).a) ?_;refine aw ac ?_;refine aK ?_ ?_<;>intro G
  ·have V:(Zz A.a (I A.b U).a).toNat<A.a.length:=fh;refine xg V ?_;refine aJ G ?_ ?_<;>intro G
   ·all_goals
     refine xg V ?_;refine aO (fun p=>BS A.c (I A.a (Zz A.a (I A.b U).a).toNat).c A.d) ?_;refine aJ G ?_ ?_<;>intro G
     ·all_goals
       refine xg V ?_;refine aO (fun p=>U4 A.c (I A.a (Zz A.a (I A.b U).a).toNat).c) ?_;refine bf H ?_ ?_<;>intro k5 Z H
       ·refine xg w ?_;exact aB H (hw:=YR [((3,0),some (71,0))] [] rfl bv)
       ·exact ay (an D G) H
     ·all_goals
       refine aN ?_;refine a9 ?_;refine bf H ?_ ?_<;>intro b h3 H
       ·simp[G]at h3
       ·exact ay (an D G) H
   ·all_goals
     refine aN ?_;refine a9 ?_;refine aJ G ?_ ?_<;>intro G
     ·try(simp at G;done)
      all_goals
       refine xg V ?_;refine aO (fun p=>U4 A.c (I A.a (Zz A.a (I A.b U).a).toNat).c) ?_;refine bf H ?_ ?_<;>intro l h4 H
       ·simp[G]at h4
       ·simp[G]at h4
     ·all_goals
       refine aN ?_;refine a9 ?_;refine bf H ?_ ?_<;>intro k8 h5 H
       ·simp[G]at h5
       ·exact ay (an D G) H
  ·refine aJ G ?_ ?_<;>intro G
   ·try(simp at G;done)
    all_goals
     have i4:(Zz A.a (I A.b U).a).toNat<A.a.length:=fh;refine xg i4 ?_;refine aO (fun p=>BS A.c (I A.a (Zz A.a (I A.b U).a).toNat).c A.d) ?_;refine aJ G ?_ ?_<;>intro G
     ·try(simp at G;done)
      all_goals
       refine xg i4 ?_;refine aO (fun p=>U4 A.c (I A.a (Zz A.a (I A.b U).a).toNat).c) ?_;refine bf H ?_ ?_<;>intro L h6 H
       ·simp[G]at h6
       ·simp[G]at h6
     ·try(simp at G;done)
      all_goals
       refine aN ?_;refine a9 ?_;refine bf H ?_ ?_<;>intro af h7 H
       ·simp[G]at h7
       ·simp[G]at h7
   ·all_goals
     refine aN ?_;refine a9 ?_;refine aJ G ?_ ?_<;>intro G
     ·try(simp at G;done)
      all_goals
       have i6:(Zz A.a (I A.b U).a).toNat<A.a.length:=fh;refine xg i6 ?_;refine aO (fun p=>U4 A.c (I A.a (Zz A.a (I A.b U).a).toNat).c) ?_;refine bf H ?_ ?_<;>intro ao h8 H
       ·simp[G]at h8
       ·simp[G]at h8
     ·all_goals
       refine aN ?_;refine a9 ?_;refine bf H ?_ ?_<;>intro d h9 H
       ·simp[G]at h9
       ·exact ay (an D G) H
 exact ah [.tmp 2] (ms f H)
theorem Hv(h:b)(k:a:=by(intros;first|omega|with_unfolding_all (first|first|omega|(simp;omega))|exact wt)):a/\b:=⟨k,h⟩
theorem GB(A:List Int)(g:R 2338816 A):c 42 [rL 1 r A] [rS (PW A)]:=by
 have f:=me (PW.eq_1 A);refine so func42 ntmps42 ?_;refine aq (SV.eq_2 A) (fun J U=>Z6 25 [eL 0 1 A r,(3,.one (.d (.str J)),[]),eI 4 (U:Int)]) (fun K J U=>A.length<K+U/\U<=A.length/\J.size<=25*U) (A.length+1) (⟨#[]⟩:ByteArray) 0 (fun p1 J U H j1=>?_) (v:=by exact⟨Y,Y,Y,Nat.zero_le _⟩);refine cF H ?_ ?_<;>intro k2 M H
 ·have w:=ix M;have m2:=ml A (k2 0 _ rfl);have c1:=sl 2338816 A g;have D:=wr U;refine aF H ?_ ?_<;>intro k3 Z H
  ·simp[w,ZH];repeat with_reducible refine Hv ?_
   refine cR (XP (I A U)) ?_;have o1:=Yn (I A U)
   simp;repeat with_reducible refine Hv ?_
   exact ay D H
  simp[w,ZH];refine cR (XP (I A U)) ?_;have E:=Yn (I A U)
  simp;repeat with_reducible refine Hv ?_
  exact ay D H
 have f:=ms f H;refine cF f ?_ ?_<;>intro k4 h3 f
 ·exact rt _ f
 exact rt _ f
theorem vv(A C:List ZX)(g:R 2342912 C)(S:A.length+C.length<=67108900):vC prog 151 5 (A.map ZX.row) [rL 5 ZX.row C] ((P2 A C).map ZX.row):=by
 refine mh func151 rfl d bU ?_;simp[ntmps151];refine bX fun k1=>?_;refine fx (ι:={s:Nat×_×Nat//zq C s.1 s.2.1 s.2.2=zq C (C.length+1) A 0/\(1<=s.1/\C.length<s.1+s.2.2/\s.2.2<=C.length/\s.2.1.length<=A.length+s.2.2)}) (fun s=>Z6 42 [(0,.one (.E 0 0 0 s.1.2.1.length),[.arr false 5 (s.1.2.1.map ZX.row)]),eL 1 5 C ZX.row,eI 5 (s.1.2.2:Int)]) (fun s=>s.1.1) ⟨(_,A,0),rfl,by first|omega|(dsimp only;omega)|simp⟩ (Q6 ab) ?_;rintro⟨⟨K,J,U⟩,H,j1⟩;try dsimp only at H j1
 obtain⟨p1,rfl⟩:∃p,K=p+1:=⟨K-1,Y⟩;simp;refine cC (decide ((U:Int)<(C.length:Int))) (fun k2 M=>?_) (fun k2 M=>?_)
 ·have q1:=M;try simp at q1
  have w:U<C.length:=cw;have m2:C.length<=9223372036854775807:=by simpa using k2 1 _ rfl
  have c1:C.length<=2342912:=Zx (xs (an g S));have D:IntKind.i64.wrap ((U:Int)+1)=(U:Int)+1:=YB Y Y;simp;refine bX fun k3=>?_;refine fx (ι:={s:Nat×Bool×Nat//jb C J U s.1 s.2.1 s.2.2=jb C J U (J.length+1) false 0/\(1<=s.1/\J.length<s.1+s.2.2/\s.2.2<=J.length)}) (fun s=>Z6 42 [(0,.one (.E 0 0 0 J.length),[.arr false 5 (J.map ZX.row)]),eL 1 5 C ZX.row,eI 5 (U:Int),eB 6 s.1.2.1,eI 7 (s.1.2.2:Int)]) (fun s=>s.1.1) ⟨(_,false,0),rfl,by first|omega|(dsimp only;omega)|simp⟩ (Q6 ab) ?_;rintro⟨⟨n2,T,q⟩,e2,j2⟩;try dsimp only at e2 j2
  obtain⟨p2,rfl⟩:∃p,n2=p+1:=⟨n2-1,Y⟩;simp;refine cC (decide ((q:Int)<(J.length:Int))) (fun k4 Z=>?_) (fun k4 Z=>?_)
  ·have q2:=Z;try simp at q2
   have V:q<J.length:=ej;have w2:IntKind.i64.wrap ((q:Int)+1)=(q:Int)+1:=YB Y Y;simp;refine aW fun k5=>?_;refine eu ac d d ?_;simp;refine CO rfl rfl rfl rfl rfl ab (fun g1=>?_) (fun g1=>?_)
   ·have o:=g1;try simp only[beq_false,Bool.not_eq_true']at o
    try simp at g1
    simp[V,ZH,o];refine ax ?_;refine CO rfl rfl rfl rfl rfl ab (fun _=>?_) (fun g0=>by simp at g0);simp[w,ZH];refine ax ?_;refine fo ⟨(p2,T||(((I J q).a==(I C U).a)&&(((I J q).b==(I C U).b)&&(((I J q).c==(I C U).c)&&(((I J q).e==(I C U).e)&&((I J q).f==(I C U).f))))),q+1),?_,?_⟩ ab (Q6 (by simp[w2,o]))
    · rw[<-e2];simp only[jb,Z,XN]
    · first|omega|(simp at*;omega)
   ·have o:=g1;try simp only[beq_false,Bool.not_eq_false']at o
    simp[o];refine ax ?_;refine fQ rfl rfl rfl rfl ab ab ?_;simp;refine ax ?_;refine fo ⟨(p2,T||(((I J q).a==(I C U).a)&&(((I J q).b==(I C U).b)&&(((I J q).c==(I C U).c)&&(((I J q).e==(I C U).e)&&((I J q).f==(I C U).f))))),q+1),?_,?_⟩ ab (Q6 (by simp[w2,o]))
    · rw[<-e2];simp only[jb,Z,XN]
    · first|omega|(simp at*;omega)
  ·have q2:=Z;try simp at q2
   have a:jb C J U (J.length+1) false 0=T:=by rw[<-e2];simp only[jb,Z,XA]
   simp;refine cC (!T) (fun b h3=>?_) (fun b h3=>?_)
   ·have q3:=h3;try simp at q3
    refine xp w ?_;refine fo ⟨(p1,J++([I C U]:List ZX),U+1),?_,?_⟩ ab (YR [((0,0),some (40,0))] [] rfl ad)
    · rw[<-H];simp only[zq,M,a,h3,XN]
    · first|omega|(simp at*;omega)
   ·have q3:=h3;try simp at q3
    simp;refine fo ⟨(p1,J,U+1),?_,?_⟩ ab (Q6 ad)
    · rw[<-H];simp only[zq,M,a,h3,XN,XA]
    · first|omega|(simp at*;omega)
 ·have q1:=M;try simp at q1
  have l:zq C (C.length+1) A 0=J:=by rw[<-H];simp only[zq,M,XA]
  simp;refine fv (rv:=[.tmp 4]) (.E 0 0 0 J.length) rfl ?_;have f1:=P2.eq_1 A C;simp only[l]at f1;simp[f1]
theorem wd(A:Q)(g:R 2338816 A)(S:CF A<=67108900):Sd 87 [A.row] [rL 5 ZX.row (UT A)]:=by
 have f:=me (UT.eq_1 A);refine ar func87 ntmps87 ?_;refine aq (jJ.eq_2 A) (fun J U=>Z6 53 [eX 1 (A.row.map .d),(3,.one (.E 3 0 0 J.length),[.arr false 5 (J.map ZX.row)]),eI 4 (U:Int)]) (fun K J U=>A.a.length<K+U/\U<=A.a.length/\J.length+af br (A.a.drop U)+af List.length A.b<=67108900) (A.a.length+1) ([]:List ZX) 0 (fun p1 J U H j1=>?_) (v:=by((try dsimp only);have u:=S;simp only[CF]at u;simp only[List.length_nil,List.drop_zero];omega)) (h0:=az [((3,0),some (7,0))] []);refine cF H ?_ ?_<;>intro k2 M H
 ·have w:=ix M;have m2:=ml A.a (k2 10 _ rfl);have c1:=sl 2338816 A.a (an g S);have D:=wr U;refine eO (jH.eq_2 A U) (fun T q=>Z6 53 [eX 1 (A.row.map .d),(3,.one (.E 3 0 0 T.length),[.arr false 5 (T.map ZX.row)]),eI 4 (U:Int),eI 5 (q:Int)]) (fun n2 T q=>(I A.a U).a.length<n2+q/\q<=(I A.a U).a.length/\T.length+af (fun r=>r.a.length) ((I A.a U).a.drop q)+af br (A.a.drop (U+1))+af List.length A.b<=67108900) ((I A.a U).a.length+1) J 0 (fun p2 T q e2 j2=>?_) (v:=by(have d:=Bv (l:=A.a) (i:=U) bg;(try dsimp only);simp only[br,List.drop_zero]at d⊢;omega));refine xp w ?_;refine aj e2 ?_ ?_<;>intro k4 Z e2
  ·have V:=ix Z;have m4:=ml (I A.a U).a (k4 21 _ rfl);have c2:=sl 2338816 (I A.a U).a (an g S);have w2:=wr q;refine xp (an w V) ?_;refine Ch (c:=.E 3 0 0 T.length) (L:=[(3,0)]) rfl rfl rfl rfl rfl rfl rfl (vv T (I (I A.a U).a q).a (B (ZZ.Nz (ZY (ZR.QK (ZY (Q.Yo g)))))) g0) ab ab ab ab ab ab ab bU ab ?_;simp;exact aB e2 (v:=by(have d:=OC (l:=(I A.a U).a) (i:=q) bg;have z:=GI T (I (I A.a U).a q).a;(try dsimp only);omega)) (hw:=YR [((3,0),some (37,0))] [] rfl bC)
  have H:=ms H e2;exact ay D H (v:=by(first|omega|((try dsimp only);omega)|(simp at*;omega)))
 have f:=ms f H;refine aq (Wr.eq_2 A) (fun j s=>Z6 53 [eX 1 (A.row.map .d),(3,.one (.E 3 0 0 j.length),[.arr false 5 (j.map ZX.row)]),eI 6 (s:Int)]) (fun X j s=>A.b.length<X+s/\s<=A.b.length/\j.length+af List.length (A.b.drop s)<=67108900) (A.b.length+1) J 0 (fun p3 j s e3 j3=>?_) (v:=by((try dsimp only);simp only[List.drop_zero];omega));refine aj e3 ?_ ?_<;>intro b h3 e3
 ·have i3:=ix h3;have y:=ml A.b (b 40 _ rfl);have c5:=sl 2338816 A.b (an g S);have w3:=wr s;refine xp i3 ?_;refine Ch (c:=.E 3 0 0 j.length) (L:=[(3,0)]) rfl rfl rfl rfl rfl rfl rfl (vv j (I A.b s) (B (ZY (Q.UC g))) g0) ab ab ab ab ab ab ab bU ab ?_;simp;exact aB e3 (v:=by(have d:=It (l:=A.b) (i:=s) bg;have z:=GI j (I A.b s);(try dsimp only);omega)) (hw:=YR [((3,0),some (51,0))] [] rfl (by simp[w3]))
 exact ah [.tmp 2] (ms f e3)
theorem ML(h:b)(k:a:=by(intros;first|omega|with_unfolding_all (first|(first|omega|(have d:=OE (l:=A.a) (i:=J) bg;omega)))|exact wt)):a/\b:=⟨k,h⟩
theorem Vm(A:P)(g:R 2330624 A)(S:am A.a<=1048576)(u2:CF (Q.mk (Xk A) [])<=67108900):Sd 45 [A.row] [rL 5 ZX.row (Sw A)]:=by
 have f:=me (Sw.eq_1 A);refine ar func45 ntmps45 ?_;refine aq (VK.eq_2 A) (fun J U=>Z6 43 [eX 1 (A.row.map .d),(3,.one (.O 3 0),[.box [.E 3 1 0 U.length,.nil 1],.arr false 2 (U.map ZR.row)]),eI 4 (J:Int)]) (fun K J U=>A.a.length<K+J/\J<=A.a.length/\U.length+am (A.a.drop J)<=1048576) (A.a.length+1) 0 ([]:List ZR) (fun p1 J U H j1=>?_) (v:=by((try dsimp only);simp only[List.length_nil,List.drop_zero];omega)) (h0:=az [((3,1),none)] []);try dsimp only at j1
 refine cF H ?_ ?_<;>intro k2 M H
 ·have w:=ix M;have m2:=ml A.a (k2 9 _ rfl);have c1:=sl 2330624 A.a (an g (an S u2));have D:=wr J;refine eO (Te.eq_2 A J) (fun T q=>Z6 43 [eX 1 (A.row.map .d),(3,.one (.O 3 0),[.box [.E 3 1 0 q.length,.nil 1],.arr false 2 (q.map ZR.row)]),eI 4 (J:Int),eI 5 (T:Int)]) (fun n2 T q=>(I A.a J).a.length<n2+T/\T<=(I A.a J).a.length/\q.length+((I A.a J).a.length-T)+am (A.a.drop (J+1))<=1048576) ((I A.a J).a.length+1) 0 U (fun p2 T q e2 j2=>?_) (v:=by(have d:=OE (l:=A.a) (i:=J) bg;(try dsimp only);omega));try dsimp only at j2
  simp[w,ZH];repeat with_reducible refine ML ?_
  refine cF e2 ?_ ?_<;>intro k4 Z e2
  ·have V:=ix Z;have m4:=ml (I A.a J).a (k4 20 _ rfl);have c2:=sl 2330624 (I A.a J).a (an g (an S u2));have w2:=wr T;refine ae ac ?_;simp[w,ZH,V];repeat with_reducible refine ML ?_
   refine aa (Z7.rd (xX (I (I A.a J).a T).a (B (ZU.YM (ZY (ZD.Z8 (ZY (P.Zs g)))))))) ?_;refine bA ?_;refine bs rfl rfl rfl ?_;simp;repeat with_reducible refine ML ?_
   exact aB e2 (v:=by((try dsimp only);simp only[List.length_append,List.length_singleton];omega)) (hw:=YR [((3,1),some (39,0))] [] rfl bC)
  have c3:=sl 2330624 (I A.a J).a (an g (an S u2));have H:=ms H e2;exact ay D H (v:=by(first|omega|((try dsimp only);omega)|(simp at*;omega)))
 have c4:=sl 2330624 A.a (an g (an S u2));have f:=ms f H;refine ai [false] (wd (Q.mk U ([]:List (List ZX))) he he) ?_;exact ah [.tmp 2] f
theorem Tt(A:List YF)(C:List ZS)(E:ZX)(g:R 2318336 A)(S:R 2318336 C):c 148 [rL 5 YF.row A,rL 3 ZS.row C,E.row] [rB (Wn A C E)]:=by have f:=me (Wn.eq_1 A C E);refine so func148 ntmps148 ?_;refine aa (RN A C E (B g) (B S)) ?_;exact rt [.tmp 6] f
theorem A2(A:List YF)(C:List ZS)(E N:ZX)(g:R 2314240 A)(S:R 2314240 C):c 85 [rL 5 YF.row A,rL 3 ZS.row C,E.row,N.row] [rB (Tb A C E N)]:=by
 have f:=me (Tb.eq_1 A C E N);refine so func85 ntmps85 ?_;refine aa (Tt A C E (B g) (B S)) ?_;refine ak (fun p=>Tt A C N (B g) (B S)) ?_;refine cF f ?_ ?_<;>intro k1 M f
 ·exact rt _ f
 exact rt _ f
theorem pz(A:List YF)(C:List ZS)(E:List ZX)(g:R 2306048 A)(S:R 2306048 C)(u2:R 67108900 E):Sd 44 [rL 5 YF.row A,rL 3 ZS.row C,rL 5 ZX.row E] [rL 1 r (PM A C E)]:=by
 have f:=me (PM.eq_1 A C E);refine ar func44 ntmps44 ?_;refine aq (UL.eq_2 A C E) (fun J U=>Z6 57 [eL 0 5 A YF.row,eL 1 3 C ZS.row,eL 2 5 E ZX.row,(7,.one (.E 7 0 0 J.length),[.arr false 1 (J.map r)]),eI 8 (U:Int)]) (fun K J U=>100<K+U/\J.length<=0+1*U) 101 ([]:List Int) 0 (fun p1 J U H j1=>?_) (h0:=az [((7,0),some (12,0))] []);refine cF H ?_ ?_<;>intro k2 M H
 ·have D:=wr U;refine aq (SX.eq_2 A C E U) (fun T q=>Z6 57 [eL 0 5 A YF.row,eL 1 3 C ZS.row,eL 2 5 E ZX.row,(7,.one (.E 7 0 0 J.length),[.arr false 1 (J.map r)]),eI 8 (U:Int),eB 9 T,eI 10 (q:Int)]) (fun n2 T q=>E.length<n2+q/\q<=E.length) (E.length+1) false 0 (fun p2 T q e2 j2=>?_);refine cF e2 ?_ ?_<;>intro k4 Z e2
  ·have V:=ix Z;have m3:=ml E (k4 2 _ rfl);have c1:=sl 67108900 E (an g (an S u2));have w2:=wr q;refine aq (ON.eq_2 A C E U q) (fun j s=>Z6 57 [eL 0 5 A YF.row,eL 1 3 C ZS.row,eL 2 5 E ZX.row,(7,.one (.E 7 0 0 J.length),[.arr false 1 (J.map r)]),eI 8 (U:Int),eB 9 j,eI 10 (q:Int),eI 11 (s:Int)]) (fun X j s=>q<X+s/\s<=q/\q<E.length) (q+1) T 0 (fun p3 j s e3 j3=>?_);refine aK ?_ ?_<;>intro G
   ·have g1:=G;try simp at g1
    refine xg V ?_;refine cK e3 ?_ ?_<;>intro b h3 e3
    ·have w3:=wr s;refine bS ac ?_;refine aJ G ?_ ?_<;>intro G
     ·all_goals
       have g2:=G.2;try simp at g2
       all_goals
        refine xg V ?_;refine gK (fun _=>?_);have i4:s<E.length:=bg
        refine xg i4 ?_;refine aO (fun p=>A2 A C (I E q) (I E s) ck ck) ?_;exact ay (an D (an w2 (an w3 G))) e3
     ·all_goals
       refine aR ?_;refine aN ?_;refine a9 ?_;exact ay (an D (an w2 (an w3 G))) e3
    ·have e2:=ms e2 e3;exact ay (an D (an w2 G)) e2
   ·refine cK e3 ?_ ?_<;>intro k8 h4 e3
    ·simp[G]at h4
    ·have e2:=ms e2 e3;exact ay (an D (an w2 G)) e2
  have H:=ms H e2;refine cF H ?_ ?_<;>intro af h5 H
  ·exact aB H (hw:=YR [((7,0),some (55,0))] [] rfl ad)
  exact ay D H
 exact ah [.tmp 6] (ms f H)
theorem mS(h:b)(k:a:=by(intros;first|omega|with_unfolding_all (first|(first|omega|(have d:=OE (l:=A.a) (i:=U) bg;omega)))|exact wt)):a/\b:=⟨k,h⟩
theorem w6(A:P)(g:R 1048576 A)(S:am A.a<=1048576):Sd 152 [A.row] [rL 1 r (qE A)]:=by
 have f:=me (qE.eq_1 A);refine ar func152 ntmps152 ?_;refine aq (MS.eq_2 A) (fun J U=>Z6 39 [eX 1 (A.row.map .d),(3,.one (.E 3 0 0 J.length),[.arr false 1 (J.map r)]),eI 4 (U:Int)]) (fun K J U=>A.a.length<K+U/\U<=A.a.length/\J.length+am (A.a.drop U)<=1048576) (A.a.length+1) ([]:List Int) 0 (fun p1 J U H j1=>?_) (v:=by((try dsimp only);simp only[List.length_nil,List.drop_zero];omega)) (h0:=az [((3,0),some (6,0))] []);refine cF H ?_ ?_<;>intro k2 M H
 ·have w:=ix M;have m2:=ml A.a (k2 9 _ rfl);have c1:=sl 1048576 A.a (an g S);have D:=wr U;refine eO (MG.eq_2 A U) (fun T q=>Z6 39 [eX 1 (A.row.map .d),(3,.one (.E 3 0 0 T.length),[.arr false 1 (T.map r)]),eI 4 (U:Int),eI 5 (q:Int)]) (fun n2 T q=>(I A.a U).a.length<n2+q/\q<=(I A.a U).a.length/\T.length+((I A.a U).a.length-q)+am (A.a.drop (U+1))<=1048576) ((I A.a U).a.length+1) J 0 (fun p2 T q e2 j2=>?_) (v:=by(have d:=OE (l:=A.a) (i:=U) bg;(try dsimp only);omega));simp[w,ZH];refine aj e2 ?_ ?_<;>intro k4 Z e2
  ·have V:=ix Z;have m4:=ml (I A.a U).a (k4 20 _ rfl);have c2:=sl 1048576 (I A.a U).a (an g S);have w2:=wr q;simp[w,ZH,V];repeat with_reducible refine mS ?_
   exact aB e2 (v:=by((try dsimp only);(try simp only[List.length_append,List.length_singleton]);omega)) (hw:=YR [((3,0),some (37,0))] [] rfl bC)
  have H:=ms H e2;exact ay D H (v:=by(first|omega|((try dsimp only);omega)|(simp at*;omega)))
 exact ah [.tmp 2] (ms f H)
theorem M1(A:ZU)(g:R 2330624 A):So 164 [A.row] [(yX A).row]:=by have f:=me (yX.eq_1 A);refine so func164 ntmps164 ?_;refine aa (Z7.rd (xX A.a (B (ZU.YM g)))) ?_;refine bA ?_;exact bJ _ f
theorem CB(h:b)(k:a:=by(intros;first|omega|with_unfolding_all (first|(first|omega|(have z:=Zx (Q.Yo g);omega)))|exact wt)):a/\b:=⟨k,h⟩
theorem Cb(A:Q)(C:ZO)(g:R 2314240 A)(S:R 2314240 C):So 288 [A.row,C.row] [rL 1 (ag 1 r) (yq A C)]:=by
 have f:=me (yq.eq_1 A C);refine so func288 ntmps288 ?_;refine bA ?_;refine aq (zS.eq_2 A C) (fun J U=>Z6 26 [eX 2 (A.row.map .d),eX 3 (C.row.map .d),(5,.one (.E 5 0 0 J.length),[.arr false 1 (J.map (ag 1 r))]),eI 6 (U:Int)]) (fun K J U=>A.a.length<K+U/\U<=A.a.length/\J.length<=U) (A.a.length+1) ([]:List (List Int)) 0 (fun p1 J U H j1=>?_) (h0:=az [((5,0),some (7,0))] []);refine cF H ?_ ?_<;>intro k2 M H
 ·have w:=ix M;have m2:=ml A.a (k2 10 _ rfl);have c1:=sl 2314240 A.a (an g S);have D:=wr U;refine ae ac ?_;simp[w,ZH];refine aa (Z7.rd (Gj (I A.a U) C (B (ZY (Q.Yo g))) (B S))) ?_;refine bA ?_;refine bs rfl rfl rfl ?_;simp;repeat with_reducible refine CB ?_
  exact aB H (hw:=YR [((5,0),some (24,0))] [] rfl ad)
 exact bJ [.tmp 4] (ms f H)
theorem y0(A:YF):c 284 [A.row] [rB (Ct A)]:=by have f:=me (Ct.eq_1 A);refine so func284 ntmps284 ?_;refine aa (YP A.b 1 99) ?_;refine ak (fun p=>YP A.g 0 99) ?_;refine ak (fun p=>YP A.c 0 99) ?_;refine ak (fun p=>xi A.a) ?_;refine ak (fun p=>G6 A.d) ?_;exact rt _ f
theorem mG(A:List YF):c 228 [rL 5 YF.row A] [rB (HT A)]:=by
 have f:=me (HT.eq_1 A);refine so func228 ntmps228 ?_;refine aI (OB.eq_2 A) (fun J=>Z6 37 [eL 0 5 A YF.row,eI 3 (J:Int)]) (fun K J=>A.length<K+J/\J<=A.length) (A.length+1) 0 (fun p1 J H j1=>?_);refine cF H ?_ ?_<;>intro k2 M H
 ·have w:=ix M;have m2:=ml A (k2 0 _ rfl);have D:=wr J;refine ae ac ?_;refine xp w ?_;refine aa (y0 (I A J)) ?_;refine aK ?_ ?_<;>intro G
  ·have V:=ik (J-1) A;have w2:IntKind.i64.wrap ((J:Int)-1)=(J:Int)-1:=YB Y Y;refine xg (an V w2) ?_;refine gK (fun _=>?_);refine xg w ?_;refine cK H ?_ ?_<;>intro k4 Z H
   ·exact O _ (ms f H)
   ·exact aH (an D (an w2 G)) H
  ·refine aR ?_;refine cK H ?_ ?_<;>intro k5 h3 H
   ·exact O _ (ms f H)
   ·exact aH (an D G) H
 exact rt _ (ms f H)
theorem E2(A:List ZS):c 229 [rL 3 ZS.row A] [rB (ka A)]:=by
 have f:=me (ka.eq_1 A);refine so func229 ntmps229 ?_;refine aI (qF.eq_2 A) (fun J=>Z6 56 [eL 0 3 A ZS.row,eI 3 (J:Int)]) (fun K J=>A.length<K+J/\J<=A.length) (A.length+1) 0 (fun p1 J H j1=>?_);refine cF H ?_ ?_<;>intro k2 M H
 ·have w:=ix M;have m2:=ml A (k2 0 _ rfl);have D:=wr J;refine ae ac ?_;refine xp w ?_;refine aa (YP (I A J).b 0 99) ?_;refine aK ?_ ?_<;>intro G
  ·have g1:=G;try simp[Z1]at g1
   refine xg w ?_;refine aO (fun p=>YP (I A J).a 1 99) ?_;refine aJ G ?_ ?_<;>intro G
   ·all_goals
     have g2:=G.2;try simp[Z1]at g2
     all_goals
      refine xg w ?_;refine aO (fun p=>YP (I A J).c 0 100) ?_;refine aJ G ?_ ?_<;>intro G
      ·all_goals
        have V:=ik (J-1) A;have w2:IntKind.i64.wrap ((J:Int)-1)=(J:Int)-1:=YB Y Y;refine xg (an V w2) ?_;refine gK (fun _=>?_);refine xg w ?_;refine aE H ?_ ?_<;>intro k4 Z H
        ·have q2:=Z;try simp[Z1]at q2
         have f:=ms f H;simp;refine ax ?_;exact O _ f
        ·have q2:=Z;try simp[Z1]at q2
         simp;refine ax ?_;exact aH (an D (an w2 G)) H
      ·all_goals
        refine aR ?_;refine aE H ?_ ?_<;>intro k5 h3 H
        ·have q3:=h3;try simp[Z1]at q3
         have f:=ms f H;simp;refine ax ?_;exact O _ f
        ·have q3:=h3;try simp[Z1]at q3
         simp;refine ax ?_;exact aH (an D G) H
   ·all_goals
     refine aN ?_;simp;refine ax ?_;refine aJ G ?_ ?_<;>intro G
     ·try(simp at G;done)
      all_goals
       have i4:=ik (J-1) A;have i:IntKind.i64.wrap ((J:Int)-1)=(J:Int)-1:=YB Y Y;simp[i4,ZH,i,PK,G];refine ax ?_;refine gK (fun _=>?_);refine xg w ?_;refine aE H ?_ ?_<;>intro b h4 H
       ·simp[G]at h4
       ·simp[G]at h4
     ·all_goals
       refine aR ?_;refine aE H ?_ ?_<;>intro l h5 H
       ·have q5:=h5;try simp[Z1]at q5
        have f:=ms f H;simp;refine ax ?_;exact O _ f
       ·simp[G]at h5
  ·refine aN ?_;simp;refine ax ?_;refine aJ G ?_ ?_<;>intro G
   ·try(simp at G;done)
    all_goals
     have d:=G.2;try simp[Z1]at d
     all_goals
      refine xg w ?_;refine aO (fun p=>YP (I A J).c 0 100) ?_;refine aJ G ?_ ?_<;>intro G
      ·try(simp at G;done)
       all_goals
        have i6:=ik (J-1) A;have a:IntKind.i64.wrap ((J:Int)-1)=(J:Int)-1:=YB Y Y;simp[i6,ZH,a,PK,G];refine ax ?_;refine gK (fun _=>?_);refine xg w ?_;refine aE H ?_ ?_<;>intro k8 h6 H
        ·simp[G]at h6
        ·simp[G]at h6
      ·try(simp at G;done)
       all_goals
        refine aR ?_;refine aE H ?_ ?_<;>intro L h7 H
        ·simp[G]at h7
        ·simp[G]at h7
   ·all_goals
     refine aN ?_;simp;refine ax ?_;refine aJ G ?_ ?_<;>intro G
     ·try(simp at G;done)
      all_goals
       have s:=ik (J-1) A;have g:IntKind.i64.wrap ((J:Int)-1)=(J:Int)-1:=YB Y Y;simp[s,ZH,g,PK,G];refine ax ?_;refine gK (fun _=>?_);refine xg w ?_;refine aE H ?_ ?_<;>intro af h8 H
       ·simp[G]at h8
       ·simp[G]at h8
     ·all_goals
       refine aR ?_;refine aE H ?_ ?_<;>intro ao h9 H
       ·have j:=h9;try simp[Z1]at j
        have f:=ms f H;simp;refine ax ?_;exact O _ f
       ·simp[G]at h9
 exact rt _ (ms f H)
theorem o0(A:Zy):c 285 [A.row] [rB (Mk A)]:=by have f:=me (Mk.eq_1 A);refine so func285 ntmps285 ?_;refine aa (YP A.b 0 99) ?_;refine ak (fun p=>xi A.c) ?_;refine ak (fun p=>YP A.a 1 10001) ?_;refine ak (fun p=>YP A.d 1 10001) ?_;exact rt _ f
theorem uo(A:List Zy):c 230 [rL 4 Zy.row A] [rB (RW A)]:=by
 have f:=me (RW.eq_1 A);refine so func230 ntmps230 ?_;refine aI (Vp.eq_2 A) (fun J=>Z6 37 [eL 0 4 A Zy.row,eI 3 (J:Int)]) (fun K J=>A.length<K+J/\J<=A.length) (A.length+1) 0 (fun p1 J H j1=>?_);refine cF H ?_ ?_<;>intro k2 M H
 ·have w:=ix M;have m2:=ml A (k2 0 _ rfl);have D:=wr J;refine ae ac ?_;refine xp w ?_;refine aa (o0 (I A J)) ?_;refine aK ?_ ?_<;>intro G
  ·have V:=ik (J-1) A;have w2:IntKind.i64.wrap ((J:Int)-1)=(J:Int)-1:=YB Y Y;refine xg (an V w2) ?_;refine gK (fun _=>?_);refine xg w ?_;refine cK H ?_ ?_<;>intro k4 Z H
   ·exact O _ (ms f H)
   ·exact aH (an D (an w2 G)) H
  ·refine aR ?_;refine cK H ?_ ?_<;>intro k5 h3 H
   ·exact O _ (ms f H)
   ·exact aH (an D G) H
 exact rt _ (ms f H)
theorem Bl(A:ZI):c 153 [A.row] [rB (PO A)]:=by have f:=me (PO.eq_1 A);refine so func153 ntmps153 ?_;refine aa (mG A.a) ?_;refine ak (fun p=>E2 A.b) ?_;refine ak (fun p=>uo A.c) ?_;refine ak (fun p=>YP A.e 0 6) ?_;refine ak (fun p=>xi A.d) ?_;exact rt _ f
theorem U2(A:Int):c 291 [rI A] [(Ss A).row]:=by have f:=me (Ss.eq_1 A);refine so func291 ntmps291 ?_;exact rt [.cell 2 137] f
theorem F9(A:Int):c 344 [rI A] [(F7 A).row]:=by have f:=me (F7.eq_1 A);refine so func344 ntmps344 ?_;exact rt [.cell 2 137] f
theorem Rq(A:List YF)(C:Int)(E:List Int)(N:Int)(g:R 2322432 A)(S:R 2322432 E):c 286 [rL 5 YF.row A,rI C,rL 1 r E,rI N] [rB (kv A C E N)]:=by
 have f:=me (kv.eq_1 A C E N);refine so func286 ntmps286 ?_;refine aa (Xz A C) ?_;refine aK ?_ ?_<;>intro G
 ·have w:(Zz A C).toNat<A.length:=by have:=Xd A C;exact il
  refine xg w ?_;refine aO (fun p=>Td (I A (Zz A C).toNat) E (B S)) ?_;exact O _ f
 ·refine aN ?_;simp;refine ax ?_;exact O _ f
theorem E6(A:List YF)(C:G)(g:R 2318336 A):c 345 [rL 5 YF.row A,C.row] [rB (j8 A C)]:=by have f:=me (j8.eq_1 A C);refine so func345 ntmps345 ?_;refine aw ac ?_;refine aa (PY C) ?_;refine ak (fun p=>Z7.rd (SF C)) ?_;refine ak (fun p=>Rq A C.a (Qg C) C.f (B g) (by simp(maxDischargeDepth:=12) [SO];try omega)) ?_;exact rt _ f
theorem nh(A:ZI)(C:Int)(E:G)(g:R 2314240 A):c 289 [A.row,rI C,E.row] [(PG A C E).row]:=by
 have f:=me (PG.eq_1 A C E);refine so func289 ntmps289 ?_;refine aa (Bl A) ?_;refine cF f ?_ ?_<;>intro k1 M f
 ·refine aa (U2 1) ?_;exact rt _ f
 refine aa (PY E) ?_;refine cF f ?_ ?_<;>intro k2 Z f
 ·refine aa (F9 1) ?_;exact rt _ f
 refine cF f ?_ ?_<;>intro k3 h3 f
 ·refine aa (U2 2) ?_;exact rt _ f
 refine cF f ?_ ?_<;>intro k4 h4 f
 ·refine aa (F9 2) ?_;exact rt _ f
 refine aa (Xz A.a E.a) ?_;refine cF f ?_ ?_<;>intro k5 h5 f
 ·refine aa (U2 3) ?_;exact rt _ f
 refine aa (E6 A.a E (B (ZI.Yf g))) ?_;refine cF f ?_ ?_<;>intro b h6 f
 ·refine aa (F9 4) ?_;exact rt _ f
 exact rt _ f
theorem Ps(A C:Int):c 404 [rI A,rI C] [(JL A C).1.row,rB (JL A C).2]:=by
 have f:=me (JL.eq_1 A C);refine so func404 ntmps404 ?_;refine aa (yS 0 A) ?_;refine aa (Ry 10000 C) ?_;refine cF f ?_ ?_<;>intro k1 M f
 ·exact rt _ f
 exact rt _ f
theorem F2(A:List ZS)(C:ZX):c 395 [rL 3 ZS.row A,C.row] [(jO A C).1.row,rB (jO A C).2]:=by
 have f:=me (jO.eq_1 A C);refine so func395 ntmps395 ?_;refine aa (Ke A C.a) ?_;refine aK ?_ ?_<;>intro G
 ·have w:(Zp A C.a).toNat<A.length:=by have:=Qv A C.a;exact il
  refine xg w ?_;refine aO (fun p=>xi C.c) ?_;refine cK f ?_ ?_<;>intro k1 M f
  ·exact O _ f
  ·refine ae ac ?_;simp[w,ZH];refine ax ?_;refine a8 (Ps (W (C.c-(I A (Zp A C.a).toNat).c)) (W (C.c+(I A (Zp A C.a).toNat).c))) ?_;exact O _ f
 ·refine aO (fun p=>xi C.c) ?_;refine cK f ?_ ?_<;>intro k3 Z f
  ·exact O _ f
  ·simp[G]at Z
theorem v8(A:List o)(C:Int):c 448 [rL 2 o.row A,rI C] [rI (Ir A C)]:=by
 have f:=me (Ir.eq_1 A C);refine so func448 ntmps448 ?_;refine aq (Sp.eq_2 A C) (fun J U=>Z6 39 [eL 0 2 A o.row,eI 1 C,eI 5 J,eI 6 (U:Int)]) (fun K J U=>A.length<K+U/\U<=A.length) (A.length+1) 0 0 (fun p1 J U H j1=>?_);refine aj H ?_ ?_<;>intro k2 M H
 ·have w:=ix M;have m2:=ml A (k2 0 _ rfl);have D:=wr U;refine xp w ?_;refine aa (Jl (I A U)) ?_;refine aK ?_ ?_<;>intro G
  ·refine xg w ?_;refine aJ G ?_ ?_<;>intro G
   ·all_goals
     refine xg w ?_;refine cK H ?_ ?_<;>intro k3 Z H
     ·exact ay (an D G) H
     ·exact ay (an D G) H
   ·all_goals
     refine cK H ?_ ?_<;>intro k4 h3 H
     ·simp[G]at h3
     ·exact ay (an D G) H
  ·refine aJ G ?_ ?_<;>intro G
   ·try(simp at G;done)
    all_goals
     refine xg w ?_;refine cK H ?_ ?_<;>intro k5 h4 H
     ·simp[G]at h4
     ·simp[G]at h4
   ·all_goals
     refine cK H ?_ ?_<;>intro b h5 H
     ·simp[G]at h5
     ·exact ay (an D G) H
 exact rt _ (ms f H)
theorem xw(A:List o)(C E:Int):c 426 [rL 2 o.row A,rI C,rI E] [rB (jm A C E)]:=by have f:=me (jm.eq_1 A C E);refine so func426 ntmps426 ?_;refine aa (YP E 0 (W ((A.length:Int)-1))) ?_;refine ak (fun p=>v8 A C) ?_;exact rt _ f
theorem Gp(A:List o)(C:Int)(g:R 2322432 A):c 398 [rL 2 o.row A,rI C] [(xG A C).1.row,rB (xG A C).2]:=by
 have f:=me (xG.eq_1 A C);refine so func398 ntmps398 ?_;refine aa (YP C 0 (W ((A.length:Int)-1))) ?_;have c1:=sl 2322432 A g;have D:IntKind.i64.wrap ((A.length:Int)-1)=(A.length:Int)-1:=YB Y Y;refine aF f ?_ ?_<;>intro k1 M f
 ·have q1:=M;try simp[Z1,D]at q1
  simp;exact rt _ f
 have q1:=M;try simp[Z1,D]at q1
 simp;refine bu (Qy.eq_2 A C) (fun J U y=>Z6 83 [eL 0 2 A o.row,eI 1 C,(4,.one (.O 4 0),[.box [.d (.int .i64 0),.d (.int .i64 0)]]),eI 6 J,eI 7 U,eI 8 (y:Int)]) (fun K J U y=>A.length<K+y/\y<=A.length) (A.length+1) (-1) (-1) 0 (fun p1 J U y H j1=>?_);refine aj H ?_ ?_<;>intro k3 Z H
 ·have w:=ix Z;have w2:=wr y;refine xp w ?_;refine aa (Jl (I A y)) ?_;refine aK ?_ ?_<;>intro G
  ·refine xg w ?_;refine aO (fun p=>xw A (I A y).d C) ?_;refine aJ G ?_ ?_<;>intro G
   ·all_goals
     refine xg w ?_;refine aE H ?_ ?_<;>intro k4 h3 H
     ·simp[w,ZH];refine ax ?_;refine a8 (Jl (I A y)) ?_;refine aJ G ?_ ?_<;>intro G
      ·all_goals
        simp[w,ZH];refine ax ?_;refine aO (fun p=>xw A (I A y).c C) ?_;refine bf H ?_ ?_<;>intro k5 h4 H
        ·simp[w,ZH];refine ax ?_;refine a8 (yS U (I A y).c) ?_;exact a3 (an D (an w2 G)) H
        ·exact a3 (an D (an w2 G)) H
      ·try(simp at G;done)
       all_goals
        refine aN ?_;refine a9 ?_;refine bf H ?_ ?_<;>intro b h5 H
        ·simp[G]at h5
        ·simp[G]at h5
     ·simp[w,ZH];refine ax ?_;refine a8 (Jl (I A y)) ?_;refine aJ G ?_ ?_<;>intro G
      ·all_goals
        simp[w,ZH];refine ax ?_;refine aO (fun p=>xw A (I A y).c C) ?_;refine bf H ?_ ?_<;>intro l h6 H
        ·simp[w,ZH];refine ax ?_;refine a8 (yS U (I A y).c) ?_;exact a3 (an D (an w2 G)) H
        ·exact a3 (an D (an w2 G)) H
      ·try(simp at G;done)
       all_goals
        refine aN ?_;refine a9 ?_;refine bf H ?_ ?_<;>intro k8 h7 H
        ·simp[G]at h7
        ·simp[G]at h7
   ·all_goals
     refine aE H ?_ ?_<;>intro L h8 H
     ·simp[w,ZH];refine ax ?_;refine a8 (Jl (I A y)) ?_;refine aJ G ?_ ?_<;>intro G
      ·all_goals
        simp[w,ZH];refine ax ?_;refine aO (fun p=>xw A (I A y).c C) ?_;refine bf H ?_ ?_<;>intro af h9 H
        ·simp[w,ZH];refine ax ?_;refine a8 (yS U (I A y).c) ?_;exact a3 (an D (an w2 G)) H
        ·exact a3 (an D (an w2 G)) H
      ·try(simp at G;done)
       all_goals
        refine aN ?_;refine a9 ?_;refine bf H ?_ ?_<;>intro ao al H
        ·simp[G]at al
        ·simp[G]at al
     ·simp[w,ZH];refine ax ?_;refine a8 (Jl (I A y)) ?_;refine aJ G ?_ ?_<;>intro G
      ·all_goals
        simp[w,ZH];refine ax ?_;refine aO (fun p=>xw A (I A y).c C) ?_;refine bf H ?_ ?_<;>intro d ah H
        ·simp[w,ZH];refine ax ?_;refine a8 (yS U (I A y).c) ?_;exact a3 (an D (an w2 G)) H
        ·exact a3 (an D (an w2 G)) H
      ·try(simp at G;done)
       all_goals
        refine aN ?_;refine a9 ?_;refine bf H ?_ ?_<;>intro ad ap H
        ·simp[G]at ap
        ·simp[G]at ap
  ·refine aN ?_;simp;refine ax ?_;refine aJ G ?_ ?_<;>intro G
   ·try(simp at G;done)
    all_goals
     refine xg w ?_;refine aE H ?_ ?_<;>intro av i H
     ·simp[G]at i
     ·simp[G]at i
   ·all_goals
     refine aE H ?_ ?_<;>intro aq a H
     ·simp[G]at a
     ·simp[w,ZH];refine ax ?_;refine a8 (Jl (I A y)) ?_;refine aJ G ?_ ?_<;>intro G
      ·try(simp at G;done)
       all_goals
        refine xg w ?_;refine aO (fun p=>xw A (I A y).c C) ?_;refine bf H ?_ ?_<;>intro au n H
        ·simp[G]at n
        ·simp[G]at n
      ·all_goals
        refine aN ?_;simp;refine ax ?_;refine bf H ?_ ?_<;>intro X P H
        ·simp[G]at P
        ·exact a3 (an D (an w2 G)) H
 have f:=ms f H;refine cF f ?_ ?_<;>intro ar Q f
 ·exact rt _ f
 exact rt _ f
theorem PF(A:List ZS)(C:ZZ)(E:Int)(g:R 2318336 A)(S:R 2318336 C):c 424 [rL 3 ZS.row A,C.row,rI E] [(KO A C E).1.row,rB (KO A C E).2]:=by
 have f:=me (KO.eq_1 A C E);refine so func424 ntmps424 ?_;refine aq (VA.eq_2 A C) (fun J U=>Z6 42 [eL 0 3 A ZS.row,eI 2 E,eX 4 (C.row.map .d),(6,.one (.O 6 0),[.box [.d (.int .i64 0),.d (.int .i64 0)]]),(8,.one (.E 8 0 0 J.length),[.arr false 2 (J.map o.row)]),eI 9 (U:Int)]) (fun K J U=>C.a.length<K+U/\U<=C.a.length/\J.length<=0+1*U) (C.a.length+1) ([]:List o) 0 (fun p1 J U H j1=>?_) (h0:=az [((8,0),some (12,0))] []);refine aj H ?_ ?_<;>intro k2 M H
 ·have w:=ix M;have m2:=ml C.a (k2 15 _ rfl);have c1:=sl 2318336 C.a (an g S);have D:=wr U;refine xp w ?_;refine aa (F2 A (I C.a U)) ?_;refine cF H ?_ ?_<;>intro k3 Z H
  ·exact rt [.cell 6 135,.tmp 7] (ms f H)
  exact aB H (hw:=YR [((8,0),some (36,0))] [] rfl ad)
 have c2:=sl 2318336 C.a (an g S);have f:=ms f H;refine aa (Gp J E (by first|(simp(maxDischargeDepth:=12) [XG];omega)|(simp(maxDischargeDepth:=12) [ZJ (m:=2322432) au g,ZJ (m:=2322432) au S];done))) ?_;exact rt [.cell 6 135,.tmp 7] f
theorem Px(A:List ZS)(C:ZX):c 357 [rL 3 ZS.row A,C.row] [rI (X6 A C)]:=by
 have f:=me (X6.eq_1 A C);refine so func357 ntmps357 ?_;refine aa (Ke A C.a) ?_;refine aQ f ?_ ?_<;>intro k1 M f
 ·exact rt [.tmp 4] f
 have w:(Zp A C.a).toNat<A.length:=by have:=Qv A C.a;exact il
 refine xp w ?_;exact rt [.tmp 4] f
theorem BI(A:List YF)(C:List ZS)(E:List Zy)(N:ZZ):c 463 [rL 5 YF.row A,rL 3 ZS.row C,rL 4 Zy.row E,N.row] [rI (kV A C E N)]:=by
 have f:=me (kV.eq_1 A C E N);refine so func463 ntmps463 ?_;refine aa (Uf E N.c) ?_;refine aq (kJ.eq_2 A C E N) (fun J U=>Z6 44 [eL 0 5 A YF.row,eL 1 3 C ZS.row,eL 2 4 E Zy.row,eX 7 (N.row.map .d),eI 9 J,eI 10 (U:Int)]) (fun K J U=>N.a.length<K+U/\U<=N.a.length) (N.a.length+1) (qY E N.c) 0 (fun p1 J U H j1=>?_);refine aj H ?_ ?_<;>intro k2 M H
 ·have w:=ix M;have m2:=ml N.a (k2 18 _ rfl);have D:=wr U;refine xp w ?_;refine aa (Px C (I N.a U)) ?_;refine aa (Xz A (X6 C (I N.a U))) ?_;refine aQ H ?_ ?_<;>intro k3 Z H
  ·exact rt _ (ms f H)
  have V:(Zz A (X6 C (I N.a U))).toNat<A.length:=by have:=Xd A (X6 C (I N.a U));exact il
  refine xp V ?_;refine aa (Uf E (I A (Zz A (X6 C (I N.a U))).toNat).c) ?_;refine aa (Ry J (qY E (I A (Zz A (X6 C (I N.a U))).toNat).c)) ?_;exact ay D H
 exact rt _ (ms f H)
theorem Fw(h:b)(k:a:=by(intros;first|omega|with_unfolding_all (first|(first|omega|(have e:C.a.length<=2314240:=Zx (xs S);have d:=GR C.a.length Y;(try rw[d]at q1);(try rw[d]at q2);have w3:W (E+1)=E+1:=YB Y Y;have i:IntKind.i64.wrap (E+1)=E+1:=w3;omega)))|exact wt)):a/\b:=⟨k,h⟩
theorem wF(A:ZI)(C:ZR)(E:Int)(g:R 2314240 A)(S:R 2314240 C):c 456 [A.row,C.row,rI E] [rB (OJ A C E)]:=by
 have f:=me (OJ.eq_1 A C E);refine so func456 ntmps456 ?_;refine aa (YP E 0 (W ((C.a.length:Int)-1))) ?_;have c1:=sl 2314240 C.a (an g S);have D:IntKind.i64.wrap ((C.a.length:Int)-1)=(C.a.length:Int)-1:=YB Y Y;refine aF f ?_ ?_<;>intro k1 M f
 ·have q1:=M;try simp[Z1,D]at q1
  simp;exact rt _ f
 have q1:=M;try simp[Z1,D]at q1
 simp;refine ae ac ?_;have w:E.toNat<C.a.length:=i3
 simp[w,ZH];repeat with_reducible refine Fw ?_
 refine aa (BI A.a A.b A.c (I C.a E.toNat)) ?_;refine aF f ?_ ?_<;>intro k3 Z f
 ·have q2:=Z;try simp[D]at q2
  simp;exact rt _ f
 have q2:=Z;try simp[D]at q2
 simp;refine ae ac ?_;have V:(W (E+1)).toNat<C.a.length:=i3
 simp[V,ZH];repeat with_reducible refine Fw ?_
 refine aa (PF A.b (I C.a (W (E+1)).toNat) A.e (B (ZI.Yh g)) (B (ZY (ZR.QK S)))) ?_;exact rt _ f
theorem ud(A C:Int)(E:List Xy):c 464 [rI A,rI C,rL 2 Xy.row E] [rI (Ra A C E)]:=by
 have f:=me (Ra.eq_1 A C E);refine so func464 ntmps464 ?_;refine aq (kM.eq_2 A E) (fun J U=>Z6 38 [eI 0 A,eL 2 2 E Xy.row,eI 7 J,eI 8 (U:Int)]) (fun K J U=>E.length<K+U/\U<=E.length) (E.length+1) C 0 (fun p1 J U H j1=>?_);refine aj H ?_ ?_<;>intro k2 M H
 ·have w:=ix M;have m2:=ml E (k2 2 _ rfl);have D:=wr U;refine xp w ?_;refine aF H ?_ ?_<;>intro k3 Z H
  ·refine xp w ?_;refine aa (Ov A (I E U).e J) ?_;exact ay D H
  refine xp w ?_;refine aa (Ov A J (I E U).e) ?_;exact ay D H
 exact rt _ (ms f H)
theorem Cm(A:List YF)(C:List ZS)(E:ZZ)(N:Int)(g:R 2314240 A)(S:R 2314240 C)(u2:R 2314240 E):c 457 [rL 5 YF.row A,rL 3 ZS.row C,E.row,rI N] [rB (Vt A C E N)]:=by
 have f:=me (Vt.eq_1 A C E N);refine so func457 ntmps457 ?_;refine aw ac ?_;refine ak (fun p=>ud E.c N E.b) ?_;refine ak (fun p=>YP (E.a.length:Int) 1 6) ?_;refine aF f ?_ ?_<;>intro k2 M f
 ·have q1:=M;try simp[Z1]at q1
  simp;exact rt _ f
 have q1:=M;try simp[Z1]at q1
 simp;refine aI (U6.eq_2 A C E) (fun J=>Z6 73 [eL 0 5 A YF.row,eL 1 3 C ZS.row,eX 6 (E.row.map .d),eI 9 (J:Int)]) (fun K J=>E.a.length<K+J/\J<=E.a.length) (E.a.length+1) 0 (fun p1 J H j1=>?_);refine aj H ?_ ?_<;>intro k4 Z H
 ·have w:=ix Z;have D:=wr J;refine xp w ?_;refine aw ac ?_;refine aK ?_ ?_<;>intro G
  ·have V:=ik (J-1) E.a;have w2:IntKind.i64.wrap ((J:Int)-1)=(J:Int)-1:=YB Y Y;refine xg (an V w2) ?_;refine aO (fun p=>Tt A C (I E.a J) (B g) (B S)) ?_;refine cK H ?_ ?_<;>intro b h3 H
   ·exact O _ (ms f H)
   ·exact aH (an D (an w2 G)) H
  ·refine aO (fun p=>Tt A C (I E.a J) (B g) (B S)) ?_;refine cK H ?_ ?_<;>intro l h4 H
   ·exact O _ (ms f H)
   ·exact aH (an D G) H
 exact rt _ (ms f H)
theorem nS(A:ZI)(C:ZR)(E:List Int)(N:Int)(g:R 2310144 A)(S:R 2310144 C)(u2:R 2310144 E)(a:0<=N/\N<(C.a.length:Int)):c 445 [A.row,C.row,rL 1 r E,rI N] [rB (Er A C E N)]:=by
 have f:=me (Er.eq_1 A C E N);refine so func445 ntmps445 ?_;refine ae ac ?_;have w:=ik N.toNat C.a;refine xp w ?_;refine aa (PF A.b (I C.a N.toNat) A.e (B (ZI.Yh g)) (B (ZY (ZR.QK S)))) ?_;refine aw ac ?_;refine ak (fun p=>wF A C N (B g) (B S)) ?_;refine aK ?_ ?_<;>intro G
 ·refine xg w ?_;refine aO (fun p=>vX C E N (B S) (B u2)) ?_;refine aO (fun p=>Cm A.a A.b (I C.a N.toNat) (TO C E N) (B (ZI.Yf g)) (B (ZI.Yh g)) (B (ZY (ZR.QK S)))) ?_;exact O _ f
 ·refine aN ?_;simp;refine ax ?_;refine aN ?_;simp;refine ax ?_;exact O _ f
theorem qS(A:ZI)(C:ZR)(E:List Int)(g:R 2306048 A)(S:R 2306048 C)(u2:R 2306048 E):c 423 [A.row,C.row,rL 1 r E] [rI (jI A C E)]:=by
 have f:=me (jI.eq_1 A C E);refine so func423 ntmps423 ?_;refine bX fun k1=>?_;refine aI (VP.eq_2 A C E) (fun J=>Z6 24 [eL 2 1 E r,eX 3 (A.row.map .d),eX 4 (C.row.map .d),eI 7 (J:Int)]) (fun K J=>J<K/\J<=C.a.length) (C.a.length+1) C.a.length (fun p1 J H j1=>?_);refine ak (fun p=>nS A C E (W ((J:Int)-1)) (B g) (B S) (B u2) (by(have g2:((decide (0<J))==true)=true:=p;simp at g2;have cc:C.a.length<=2306048:=Zx (xs S);have d:W ((J:Int)-1)=(J:Int)-1:=YB Y Y;rw[d];omega))) ?_;refine aF H ?_ ?_<;>intro k2 M H
 ·have q1:=M;try simp at q1
  have q:=ml C.a (k1 9 _ rfl);have D:IntKind.i64.wrap ((J:Int)-1)=(J:Int)-1:=YB Y Y;have w2:((J-1:Nat):Int)=(J:Int)-1:=Y;simp;exact aH (an D w2) H
 have q1:=M;try simp at q1
 have f:=ms f H;simp;exact rt _ f
theorem m1(A:ZI)(C:ZR)(E:List Int)(N:Int)(g:R 2301952 A)(S:R 2301952 C)(u2:R 2301952 E):c 392 [A.row,C.row,rL 1 r E,rI N] [rI (I8 A C E N)]:=by
 have f:=me (I8.eq_1 A C E N);refine so func392 ntmps392 ?_;refine aa (qS A C E (B g) (B S) (B u2)) ?_;refine aq (Sg.eq_2 A C N) (fun J U=>Z6 52 [eI 3 N,eX 4 (A.row.map .d),eX 5 (C.row.map .d),eI 9 J,eI 10 U]) (fun K J U=>(C.a.length:Int)+1<K+U/\0<=U/\U<=C.a.length) (C.a.length+2) A.d (jI A C E) (fun p1 J U H j1=>?_) (v:=by(have z:=uH A C E;(try dsimp only);omega));refine aj H ?_ ?_<;>intro k2 M H
 ·have w:=ik U.toNat C.a;refine xp w ?_;refine cF H ?_ ?_<;>intro k3 Z H
  ·refine aW fun k4=>?_;refine ae ac ?_;refine xp w ?_;refine aa (PF A.b (I C.a U.toNat) A.e (B (ZI.Yh g)) (B (ZY (ZR.QK S)))) ?_;refine aa (Ry J (KO A.b (I C.a U.toNat) A.e).1.c) ?_;exact aB H (v:=by(have cc:C.a.length<=2301952:=Zx (xs S);have w2:W (U+1)=U+1:=YB ct ct;(try dsimp only);rw[w2];simp at*;omega))
  exact aB H (v:=by(have cc:C.a.length<=2301952:=Zx (xs S);have w2:W (U+1)=U+1:=YB ct ct;(try dsimp only);rw[w2];simp at*;omega))
 exact rt _ (ms f H)
theorem uv(A:ZI)(C:ZR)(E:List Int)(N:ZK)(g:R 2297856 A)(S:R 2297856 C)(u2:R 2297856 E)(a:R 2297856 N):c 346 [A.row,C.row,rL 1 r E,N.row] [rI (Ui A C E N)]:=by
 have f:=me (Ui.eq_1 A C E N);refine so func346 ntmps346 ?_;refine aa (Ec C N) ?_;refine cF f ?_ ?_<;>intro k1 M f
 ·exact rt _ f
 refine aa (m1 A C E (xW C N) (B g) (B S) (B u2)) ?_;exact rt _ f
theorem N4(A:ZI)(C:Q)(E:List (List Int))(N:ZK)(g:R 2293760 A)(S:R 2293760 C)(u2:R 2293760 E)(a:R 2293760 N):c 290 [A.row,C.row,rL 1 (ag 1 r) E,N.row] [rI (XT A C E N)]:=by
 have f:=me (XT.eq_1 A C E N);refine so func290 ntmps290 ?_;refine aq (qp.eq_2 A C E N) (fun J U=>Z6 41 [eL 2 1 E (ag 1 r),eX 4 (A.row.map .d),eX 5 (C.row.map .d),eX 7 (N.row.map .d),eI 9 J,eI 10 (U:Int)]) (fun K J U=>C.a.length<K+U/\U<=C.a.length) (C.a.length+1) A.d 0 (fun p1 J U H j1=>?_);refine cF H ?_ ?_<;>intro k2 M H
 ·have w:U<C.a.length:=bK;have m2:=ml C.a (k2 15 _ rfl);have c1:=sl 2293760 C.a (an g (an S (an u2 a)));have D:=wr U;refine ae ac ?_;have V:=ik U E;refine xp (an w V) ?_;refine aa (uv A (I C.a U) (I E U) N (B g) (B (ZY (Q.Yo S))) (B (ZY u2)) (B a)) ?_;refine aa (Ry J (Ui A (I C.a U) (I E U) N)) ?_;exact ay D H
 exact rt _ (ms f H)
theorem HY(A:ZK):c 351 [A.row] [(K2 A).1.row,rB (K2 A).2]:=by
 have f:=me (K2.eq_1 A);refine so func351 ntmps351 ?_;refine aw ac ?_;refine aa (kU A) ?_;refine aK ?_ ?_<;>intro G
 ·have g1:=G;try simp at g1
  have w:4<A.b.length:=a4;refine xg w ?_;refine cK f ?_ ?_<;>intro k2 M f
  ·exact O _ f
  ·refine ae ac ?_;have V:1<A.b.length:=a4
   have i3:2<A.b.length:=a4;have i4:3<A.b.length:=a4;simp[V,ZH,i3,i4,w];refine ax ?_;exact O _ f
 ·refine cK f ?_ ?_<;>intro k4 Z f
  ·exact O _ f
  ·simp[G]at Z
theorem Zr(A:ZK):c 446 [A.row] [(Uu A).1.row,rB (Uu A).2]:=by
 have f:=me (Uu.eq_1 A);refine so func446 ntmps446 ?_;refine aa (kU A) ?_;refine cF f ?_ ?_<;>intro k1 M f
 ·exact rt _ f
 refine ae ac ?_;have w:1<A.b.length:=a4
 have V:2<A.b.length:=a4;have i3:3<A.b.length:=a4;have i4:4<A.b.length:=a4;simp[w,ZH,V,i3,i4];refine bN ?_;exact rt _ f
theorem rv(A:ZK):c 447 [A.row] [(Se A).1.row,rB (Se A).2]:=by
 have f:=me (Se.eq_1 A);refine so func447 ntmps447 ?_;refine aw ac ?_;refine aa (kU A) ?_;refine aK ?_ ?_<;>intro G
 ·have g1:=G;try simp at g1
  have w:1<A.b.length:=a4;refine xg w ?_;refine cK f ?_ ?_<;>intro k2 M f
  ·exact O _ f
  ·refine ae ac ?_;have V:2<A.b.length:=a4
   have i3:3<A.b.length:=a4;have i4:4<A.b.length:=a4;have i5:5<A.b.length:=a4;have i6:6<A.b.length:=a4;have i7:7<A.b.length:=a4;have s:8<A.b.length:=a4;simp[w,ZH,V,i3,i4,i5,i6,i7,s];refine ax ?_;exact O _ f
 ·refine cK f ?_ ?_<;>intro k4 Z f
  ·exact O _ f
  ·simp[G]at Z
theorem Ln(A:ZK):c 356 [A.row] [(yM A).1.row,rB (yM A).2]:=by
 have f:=me (yM.eq_1 A);refine so func356 ntmps356 ?_;refine aw ac ?_;refine aa (kU A) ?_;refine aK ?_ ?_<;>intro G
 ·have g1:=G;try simp at g1
  have w:5<A.b.length:=a4;refine xg w ?_;refine cK f ?_ ?_<;>intro k2 M f
  ·exact O _ f
  ·refine ae ac ?_;have V:1<A.b.length:=a4
   have i3:2<A.b.length:=a4;have i4:3<A.b.length:=a4;have i5:4<A.b.length:=a4;simp[V,ZH,i3,i4,i5,w];refine ax ?_;exact O _ f
 ·refine cK f ?_ ?_<;>intro k4 Z f
  ·exact O _ f
  ·simp[G]at Z
theorem Yo(A:ZK):c 425 [A.row] [rB (H0 A)]:=by have f:=me (H0.eq_1 A);refine so func425 ntmps425 ?_;refine aa (Rx A) ?_;refine aa (HY A) ?_;refine aa (Zr A) ?_;refine aa (rv A) ?_;refine aa (Ln A) ?_;exact rt _ f
theorem uq(A:List YF)(C:ZK)(g:R 2318336 A)(S:R 2318336 C):c 393 [rL 5 YF.row A,C.row] [rB (Ue A C)]:=by have f:=me (Ue.eq_1 A C);refine so func393 ntmps393 ?_;refine aa (Yo C) ?_;refine ak (fun p=>Rq A C.a C.b C.f (B g) (B (ZK.LG S))) ?_;exact rt _ f
theorem si(A:ZI)(C:Q)(E:List (List Int))(N:ZK)(g:R 2289664 A)(S:R 2289664 C)(u2:R 2289664 E)(a:R 2289664 N):c 347 [A.row,C.row,rL 1 (ag 1 r) E,N.row] [rB (OK A C E N)]:=by
 have f:=me (OK.eq_1 A C E N);refine so func347 ntmps347 ?_;refine aa (Xz A.a N.a) ?_;refine aw ac ?_;refine ak (fun p=>uq A.a N (B (ZI.Yf g)) (B a)) ?_;refine ak (fun p=>N4 A C E N (B g) (B S) (B u2) (B a)) ?_;refine aK ?_ ?_<;>intro G
 ·have w:(Zz A.a N.a).toNat<A.a.length:=by have:=Xd A.a N.a;exact il
  refine xg w ?_;refine aO (fun p=>Uf A.c (I A.a (Zz A.a N.a).toNat).c) ?_;exact O _ f
 ·refine aN ?_;simp;refine ax ?_;exact O _ f
theorem Ab(A C:ZK):c 394 [A.row,C.row] [rB (TU A C)]:=by
 have f:=me (TU.eq_1 A C);refine so func394 ntmps394 ?_;refine aI (W6.eq_2 A C) (fun J=>Z6 71 [eX 2 (A.row.map .d),eX 3 (C.row.map .d),eI 5 (J:Int)]) (fun K J=>A.b.length<K+J/\J<=A.b.length) (A.b.length+1) 0 (fun p1 J H j1=>?_);refine cF H ?_ ?_<;>intro k2 M H
 ·have w:J<A.b.length:=bK;have m2:=ml A.b (k2 8 _ rfl);have D:=wr J;refine ae ac ?_;have V:=ik J C.b;refine xp (an w V) ?_;refine cF H ?_ ?_<;>intro k4 Z H
  ·refine aW fun k5=>?_;refine ae ac ?_;have f:=ms f H
   refine xp (an w V) ?_;exact rt _ f
  exact aH D H
 have f:=ms f H;refine cF f ?_ ?_<;>intro b h3 f
 ·exact rt _ f
 refine cF f ?_ ?_<;>intro l h4 f
 ·exact rt _ f
 exact rt _ f
theorem pE(A:List ZK)(C:ZK)(g:R 2334720 A)(S:R 2334720 C):c 348 [rL 3 ZK.row A,C.row] [rL 3 ZK.row (Rw A C)]:=by
 have f:=me (Rw.eq_1 A C);refine so func348 ntmps348 ?_;refine aI (zK.eq_2 A C) (fun J=>Z6 46 [eL 0 3 A ZK.row,eX 3 (C.row.map .d),eI 5 (J:Int)]) (fun K J=>A.length<K+J/\J<=A.length) (A.length+1) 0 (fun p1 J H j1=>?_);refine aw ac ?_;refine aK ?_ ?_<;>intro G
 ·have w:=ik J A;simp[w,ZH];refine ax ?_;refine aO (fun p=>Ab (I A J) C) ?_;refine cK H ?_ ?_<;>intro k3 M H
  ·have m2:=ml A (k3 0 _ rfl);have c1:=sl 2334720 A (an g S);have D:=wr J;exact aH (an D G) H
  ·have c2:=sl 2334720 A (an g S);have f:=ms f H;refine bS ac ?_;refine aJ G ?_ ?_<;>intro G
   ·all_goals
     simp[w,ZH];refine ax ?_;refine aO (fun p=>jw (I A J) C) ?_;refine cK f ?_ ?_<;>intro k5 Z f
     ·exact O _ f
     ·refine bS ac ?_;refine b2 ?_;refine b2 ?_;refine a8 (Z7.rd (Pz C (B S))) ?_;refine b2 ?_;refine b2 ?_;refine b2 ?_;exact O _ f
   ·try(simp at G;done)
    all_goals
     refine aN ?_;refine a9 ?_;refine cK f ?_ ?_<;>intro l h3 f
     ·simp[G]at h3
     ·simp[G]at h3
 ·refine aN ?_;simp;refine ax ?_;refine cK H ?_ ?_<;>intro L h4 H
  ·simp[G]at h4
  ·have c8:=sl 2334720 A (an g S);have f:=ms f H;refine bS ac ?_;refine aJ G ?_ ?_<;>intro G
   ·try(simp at G;done)
    all_goals
     have i5:=ik J A;refine xg i5 ?_;refine aO (fun p=>jw (I A J) C) ?_;refine cK f ?_ ?_<;>intro ao h5 f
     ·simp[G]at h5
     ·simp[G]at h5
   ·all_goals
     refine aN ?_;simp;refine ax ?_;refine cK f ?_ ?_<;>intro ad h6 f
     ·simp[G]at h6
     ·refine bS ac ?_;refine b2 ?_;refine b2 ?_;refine a8 (Z7.rd (Pz C (B S))) ?_;refine b2 ?_;refine b2 ?_;refine b2 ?_;exact O _ f
theorem C4(A:ZI)(C:Q)(E:List (List Int))(g:R 2285568 A)(S:R 2285568 C)(u2:R 2285568 E)(a:nJ C<=2097152):c 292 [A.row,C.row,rL 1 (ag 1 r) E] [rL 3 ZK.row (YJ A C E)]:=by
 have f:=me (YJ.eq_1 A C E);refine so func292 ntmps292 ?_;refine bA ?_;refine aq (zp.eq_2 A C E) (fun J U=>Z6 48 [eL 2 1 E (ag 1 r),eX 3 (A.row.map .d),eX 4 (C.row.map .d),eL 7 3 J ZK.row,eI 8 (U:Int)]) (fun K J U=>C.a.length<K+U/\U<=C.a.length/\J.length+af (fun s:ZR=>s.b.length) (C.a.drop U)<=2097152/\R 2285568 J) (C.a.length+1) ([]:List ZK) 0 (fun p1 J U H j1=>?_) (v:=by(have u:af (fun s:ZR=>s.b.length) C.a<=2097152:=a;(try dsimp only);refine⟨Y,Y,Y,?_,⟨Nat.zero_le _,fun x O=>by cases O⟩⟩;rw[List.drop_zero];simp only[List.length_nil];omega)) (h0:=az [] [(11,0)]);refine cF H ?_ ?_<;>intro k2 M H
 ·have w:=ix M;have m2:=ml C.a (k2 14 _ rfl);have c1:=sl 2285568 C.a (an g (an S (an u2 a)));have D:=wr U;refine eO (JE.eq_2 A C E U) (fun T q=>Z6 48 [eL 2 1 E (ag 1 r),eX 3 (A.row.map .d),eX 4 (C.row.map .d),eL 7 3 T ZK.row,eI 8 (U:Int),eI 9 (q:Int)]) (fun n2 T q=>(I C.a U).b.length<n2+q/\q<=(I C.a U).b.length/\T.length+((I C.a U).b.length-q)+af (fun s:ZR=>s.b.length) (C.a.drop (U+1))<=2097152/\R 2285568 T) ((I C.a U).b.length+1) J 0 (fun p2 T q e2 j2=>?_) (v:=by(have d:=sM (l:=C.a) (i:=U) bg;refine⟨?_,?_,?_,?_,j1.2.2.2.2⟩<;>((try dsimp only);omega)));refine xp w ?_;refine aj e2 ?_ ?_<;>intro k4 Z e2
  ·have V:=ix Z;have m4:=ml (I C.a U).b (k4 25 _ rfl);have c2:=sl 2285568 (I C.a U).b (an g (an S (an u2 a)));have w2:=wr q;refine xp (an w V) ?_;refine aa (si A C E (I (I C.a U).b q) em em em em) ?_;refine cF e2 ?_ ?_<;>intro k5 h3 e2
   ·refine aa (pE T (I (I C.a U).b q) gM gM) ?_;exact ay (an D w2) e2 (v:=by first|(refine⟨?_,?_,?_,?_,j2.2.2.2.2⟩<;>((try dsimp only);omega))|(have n:R 2285568 (I (I C.a U).b q):=ZY (ZR.Yp (ZY (Q.Yo S)));have z:=NX T (I (I C.a U).b q);refine⟨?_,?_,?_,?_,Fb j2.2.2.2.2 n Y⟩<;>((try dsimp only);omega)))
   exact ay (an D w2) e2 (v:=by first|(refine⟨?_,?_,?_,?_,j2.2.2.2.2⟩<;>((try dsimp only);omega))|(have n:R 2285568 (I (I C.a U).b q):=ZY (ZR.Yp (ZY (Q.Yo S)));have z:=NX T (I (I C.a U).b q);refine⟨?_,?_,?_,?_,Fb j2.2.2.2.2 n Y⟩<;>((try dsimp only);omega)))
  have H:=ms H e2;exact ay D H (v:=by(refine⟨?_,?_,?_,?_,j2.2.2.2.2⟩<;>((try dsimp only);omega)))
 exact rt _ (ms f H)
theorem Cr(A:List YF)(C:Int):c 287 [rL 5 YF.row A,rI C] [rI (Nt A C)]:=by
 have f:=me (Nt.eq_1 A C);refine so func287 ntmps287 ?_;refine aa (Xz A C) ?_;refine aQ f ?_ ?_<;>intro k1 M f
 ·exact rt _ f
 have w:(Zz A C).toNat<A.length:=by have:=Xd A C;exact il
 refine xp w ?_;exact rt _ f
theorem ET(A:List YF)(C:YE)(g:R 2318336 A):c 231 [rL 5 YF.row A,C.row] [rB (SY A C)]:=by have f:=me (SY.eq_1 A C);refine so func231 ntmps231 ?_;refine aw ac ?_;refine aa (vx C) ?_;refine ak (fun p=>Z7.rd (IG C)) ?_;refine ak (fun p=>Rq A C.e (yw C) C.f (B g) (by simp(maxDischargeDepth:=12) [ID];try omega)) ?_;refine ak (fun p=>Cr A C.a) ?_;exact rt _ f
theorem In(A:ZI)(C:List ZK)(E:G)(g:R 2314240 A)(S:R 2314240 C):c 293 [A.row,rL 3 ZK.row C,E.row] [(Ki A C E).1.row,rB (Ki A C E).2]:=by
 have f:=me (Ki.eq_1 A C E);refine so func293 ntmps293 ?_;refine k5 (Sb.eq_2 A C E) (fun J U y i a o s j h=>Z6 56 [eL 1 3 C ZK.row,eX 3 (A.row.map .d),eX 5 (E.row.map .d),(6,.one (.O 6 0),[.box [.d (.int .i64 0),.d (.int .i64 0),.d (.int .i64 0),.d (.int .i64 0),.d (.int .i64 0),.d (.int .i64 0),.d (.int .i64 0)]]),(8,.one (.O 8 0),[.box [.d (.int .i64 y),.d (.int .i64 i),.d (.int .i64 a),.d (.int .i64 o),.d (.int .i64 s),.d (.int .i64 j),.d (.int .i64 h)]]),eI 9 J,eI 10 (U:Int)]) (fun K J U y i a o s j h=>C.length<K+U/\U<=C.length) (C.length+1) 0 0 0 0 0 0 0 0 0 (fun p1 J U y i a o s j h H j1=>?_);refine aj H ?_ ?_<;>intro k2 M H
 ·have w:=ix M;have m2:=ml C (k2 1 _ rfl);have c1:=sl 2314240 C (an g S);have D:=wr U;refine xp w ?_;refine aa (Rx (I C U)) ?_;refine ak (fun p=>ET A.a (Zh (I C U)).1 (B (ZI.Yf g))) ?_;refine cF H ?_ ?_<;>intro k3 Z H
  ·exact eK D H
  exact eK D H
 have f:=ms f H;refine cF f ?_ ?_<;>intro k4 h3 f
 ·exact rt _ f
 exact rt _ f
theorem M5(A:Int)(C:List ZX)(g:R 2326528 C):c 349 [rI A,rL 5 ZX.row C] [rI (jx A C)]:=by
 have f:=me (jx.eq_1 A C);refine so func349 ntmps349 ?_;refine cF f ?_ ?_<;>intro k1 M f
 ·exact rt [.tmp 4] f
 refine aq (kS.eq_2 C) (fun J U=>Z6 29 [eI 0 A,eL 1 5 C ZX.row,(5,.one (.E 5 0 0 J.length),[.arr false 1 (J.map r)]),eI 6 (U:Int)]) (fun K J U=>C.length<K+U/\U<=C.length/\J.length<=0+1*U) (C.length+1) ([]:List Int) 0 (fun p1 J U H j1=>?_) (h0:=az [((5,0),some (10,0))] []);refine aj H ?_ ?_<;>intro k3 Z H
 ·have w:=ix Z;have m2:=ml C (k3 1 _ rfl);have c1:=sl 2326528 C g;have D:=wr U;refine xp w ?_;exact aB H (hw:=YR [((5,0),some (24,0))] [] rfl ad)
 have c2:=sl 2326528 C g;have f:=ms f H;refine aa (KS A J bG) ?_;refine aa (yS 1 (KB A J)) ?_;exact rt [.tmp 4] f
theorem G5(A:Int)(C:ZX):Sd 397 [rI A,C.row] [(We A C).row]:=by have f:=me (We.eq_1 A C);refine ar func397 ntmps397 ?_;refine aw ac ?_;refine ai [false] (MY C) ?_;exact ah _ f
theorem vi(A:List ZK)(C:ZK):c 396 [rL 3 ZK.row A,C.row] [rB (Fu A C)]:=by
 have f:=me (Fu.eq_1 A C);refine so func396 ntmps396 ?_;refine aI (MR.eq_2 A C) (fun J=>Z6 18 [eL 0 3 A ZK.row,eX 3 (C.row.map .d),eI 5 (J:Int)]) (fun K J=>A.length<K+J/\J<=A.length) (A.length+1) 0 (fun p1 J H j1=>?_);refine cF H ?_ ?_<;>intro k2 M H
 ·have w:=ix M;have m2:=ml A (k2 0 _ rfl);have D:=wr J;refine ae ac ?_;refine xp w ?_;refine aa (jw (I A J) C) ?_;refine cF H ?_ ?_<;>intro k4 Z H
  ·exact rt _ (ms f H)
  exact aH D H
 exact rt _ (ms f H)
theorem DL(A:ZI)(C:List ZK)(E:List ZX)(g:R 2318336 A)(S:R 2318336 C)(u2:R 2318336 E):c 350 [A.row,rL 3 ZK.row C,rL 5 ZX.row E] [rI (qP A C E).1,rB (qP A C E).2]:=by
 have f:=me (qP.eq_1 A C E);refine so func350 ntmps350 ?_;refine aq (RT.eq_2 A C E) (fun J U=>Z6 82 [eL 1 3 C ZK.row,eL 2 5 E ZX.row,eX 3 (A.row.map .d),(8,.one (.E 8 0 0 J.length),[.arr false 2 (J.map o.row)]),eI 9 (U:Int)]) (fun K J U=>E.length<K+U/\U<=E.length/\J.length<=0+1*U) (E.length+1) ([]:List o) 0 (fun p1 J U H j1=>?_) (h0:=az [((8,0),some (14,0))] []);refine cF H ?_ ?_<;>intro k2 M H
 ·have w:=ix M;have m2:=ml E (k2 2 _ rfl);have c1:=sl 2318336 E (an g (an S u2));have D:=wr U;refine ae ac ?_;refine xp w ?_;refine aa (F2 A.b (I E U)) ?_;refine aw ac ?_;refine aK ?_ ?_<;>intro G
  ·have V:=ik (U-1) E;have w2:IntKind.i64.wrap ((U:Int)-1)=(U:Int)-1:=YB Y Y;simp[V,ZH,w2,PK,G];refine ax ?_;refine gK (fun _=>?_);refine xg w ?_;refine aJ G ?_ ?_<;>intro G
   ·all_goals
     refine xg w ?_;refine aO (fun p=>Px A.b (I E U)) ?_;refine gK (fun _=>?_);refine xg w ?_;refine aO (fun p=>Z7.rd (G5 (X6 A.b (I E U)) (I E U))) ?_;refine aO (fun p=>vi C (We (X6 A.b (I E U)) (I E U))) ?_;refine cK H ?_ ?_<;>intro k5 Z H
     ·exact O [.tmp 6,.tmp 7] (ms f H)
     ·exact aB H (hw:=YR [((8,0),some (71,0))] [] rfl df)
   ·all_goals
     refine aN ?_;refine a9 ?_;refine aR ?_;refine aN ?_;refine a9 ?_;refine aN ?_;refine a9 ?_;refine cK H ?_ ?_<;>intro b h3 H
     ·exact O [.tmp 6,.tmp 7] (ms f H)
     ·simp[G]at h3
  ·refine aR ?_;refine aJ G ?_ ?_<;>intro G
   ·all_goals
     refine xg w ?_;refine aO (fun p=>Px A.b (I E U)) ?_;refine gK (fun _=>?_);refine xg w ?_;refine aO (fun p=>Z7.rd (G5 (X6 A.b (I E U)) (I E U))) ?_;refine aO (fun p=>vi C (We (X6 A.b (I E U)) (I E U))) ?_;refine cK H ?_ ?_<;>intro l h4 H
     ·exact O [.tmp 6,.tmp 7] (ms f H)
     ·exact aB H (hw:=YR [((8,0),some (71,0))] [] rfl bv)
   ·all_goals
     refine aN ?_;refine a9 ?_;refine aR ?_;refine aN ?_;refine a9 ?_;refine aN ?_;refine a9 ?_;refine cK H ?_ ?_<;>intro k8 h5 H
     ·exact O [.tmp 6,.tmp 7] (ms f H)
     ·simp[G]at h5
 have c2:=sl 2318336 E (an g (an S u2));have f:=ms f H;refine aa (Gp J A.e (by first|(simp(maxDischargeDepth:=12) [XG];omega)|(simp(maxDischargeDepth:=12) [ZJ (m:=2322432) au g,ZJ (m:=2322432) au S,ZJ (m:=2322432) au u2];done))) ?_;exact rt [.tmp 6,.tmp 7] f
theorem rP(A:ZI)(C:Q)(E:List ZK)(N:G)(g:R 2314240 A)(S:R 2314240 C)(u2:R 2314240 E):c 294 [A.row,C.row,rL 3 ZK.row E,N.row] [rI (JX A C E N)]:=by
 have f:=me (JX.eq_1 A C E N);refine so func294 ntmps294 ?_;refine aa (Xz A.a N.a) ?_;refine aj f ?_ ?_<;>intro k1 M f
 ·have w:(Zz A.a N.a).toNat<A.a.length:=by have:=Xd A.a N.a;exact il
  refine xp w ?_;refine aq (K1.eq_2 A C E N) (fun J U=>Z6 66 [eL 2 3 E ZK.row,eX 4 (A.row.map .d),eX 5 (C.row.map .d),eX 7 (N.row.map .d),eI 9 J,eI 11 (U:Int)]) (fun K J U=>C.b.length<K+U/\U<=C.b.length) (C.b.length+1) (I A.a (Zz A.a N.a).toNat).a 0 (fun p1 J U H j1=>?_);refine cF H ?_ ?_<;>intro k3 Z H
  ·have V:U<C.b.length:=by(simp at Z;omega)
   have m2:=ml C.b (k3 29 _ rfl);have c1:=sl 2314240 C.b (an g (an S u2));have D:=wr U;refine ae ac ?_;refine xp V ?_;refine aa (M5 N.c (I C.b U) (B (ZY (Q.UC S)))) ?_;refine cF H ?_ ?_<;>intro k5 h3 H
   ·exact ay D H
   refine ae ac ?_;refine xp V ?_;refine aa (DL A E (I C.b U) (B g) (B u2) (B (ZY (Q.UC S)))) ?_;refine cF H ?_ ?_<;>intro l h4 H
   ·refine aa (yS J (qP A E (I C.b U)).1) ?_;exact ay D H
   exact ay D H
  exact rt _ (ms f H)
 refine aq (jc.eq_2 A C E N) (fun T q=>Z6 66 [eL 2 3 E ZK.row,eX 4 (A.row.map .d),eX 5 (C.row.map .d),eX 7 (N.row.map .d),eI 9 T,eI 11 (q:Int)]) (fun n2 T q=>C.b.length<n2+q/\q<=C.b.length) (C.b.length+1) 0 0 (fun p2 T q e2 j2=>?_);refine cF e2 ?_ ?_<;>intro L h5 e2
 ·have i3:q<C.b.length:=by(simp at h5;omega)
  have m4:=ml C.b (L 29 _ rfl);have c3:=sl 2314240 C.b (an g (an S u2));have w2:=wr q;refine ae ac ?_;refine xp i3 ?_;refine aa (M5 N.c (I C.b q) (B (ZY (Q.UC S)))) ?_;refine cF e2 ?_ ?_<;>intro ao h6 e2
  ·exact ay w2 e2
  refine ae ac ?_;refine xp i3 ?_;refine aa (DL A E (I C.b q) (B g) (B u2) (B (ZY (Q.UC S)))) ?_;refine cF e2 ?_ ?_<;>intro ad h7 e2
  ·refine aa (yS T (qP A E (I C.b q)).1) ?_;exact ay w2 e2
  exact ay w2 e2
 exact rt _ (ms f e2)
theorem LG(A:List ZK)(C:YE)(g:R 2330624 A):Sd 295 [rL 3 ZK.row A,C.row] [rL 5 Zn.row (yJ A C)]:=by
 have f:=me (yJ.eq_1 A C);refine ar func295 ntmps295 ?_;refine aq (yx.eq_2 A C) (fun J U=>Z6 44 [eL 0 3 A ZK.row,eX 3 (C.row.map .d),(5,.one (.E 5 0 0 J.length),[.arr false 5 (J.map Zn.row)]),eI 6 (U:Int)]) (fun K J U=>A.length<K+U/\U<=A.length/\J.length<=0+1*U) (A.length+1) ([]:List Zn) 0 (fun p1 J U H j1=>?_) (h0:=az [((5,0),some (9,0))] []);refine aj H ?_ ?_<;>intro k2 M H
 ·have w:=ix M;have m2:=ml A (k2 0 _ rfl);have c1:=sl 2330624 A g;have D:=wr U;refine xp w ?_;refine aa (HY (I A U)) ?_;refine cF H ?_ ?_<;>intro k3 Z H
  ·exact aB H (hw:=YR [((5,0),some (42,0))] [] rfl ad)
  exact ay D H
 exact ah [.tmp 4] (ms f H)
theorem UI(A:List o)(C E:Int)(g:R 2334720 A):vC prog 401 2 (A.map o.row) [rI C,rI E] ((X4 A C E).map o.row):=by
 refine mh func401 rfl d bU ?_;simp[ntmps401];refine cR (Ps C E) ?_;simp;refine cC (!(JL C E).2) (fun k1 M=>?_) (fun k1 M=>?_)
 ·have q1:=M;try simp at q1
  simp;refine fv (rv:=[.tmp 6]) (.E 0 0 0 A.length) rfl ?_;have f1:=X4.eq_1 A C E;simp only[M,XN]at f1;simp[f1]
  all_goals(rintro r (⟨a,_,rfl⟩|rfl) x O<;>simp at O<;>rcases O with rfl|rfl<;>rfl)
 ·have q1:=M;try simp at q1
  have c1:A.length<=2334720:=Zx (xs g);refine aU ?_;refine fv (rv:=[.tmp 6]) (.E 21 0 0 (A++([(JL C E).1]:List o)).length) rfl ?_;have f2:=X4.eq_1 A C E;simp only[M,XA]at f2;simp[f2];all_goals(rintro r (⟨a,_,rfl⟩|rfl) x O<;>simp at O<;>rcases O with rfl|rfl<;>rfl)
theorem NV(A:List Zn)(C:Int):c 402 [rL 5 Zn.row A,rI C] [rI (zV A C)]:=by
 have f:=me (zV.eq_1 A C);refine so func402 ntmps402 ?_;refine bu (UA.eq_2 A C) (fun J U y=>Z6 47 [eL 0 5 A Zn.row,eI 1 C,eI 5 J,eI 6 U,eI 7 (y:Int)]) (fun K J U y=>A.length<K+y/\y<=A.length) (A.length+1) (-1) (-1) 0 (fun p1 J U y H j1=>?_);refine aj H ?_ ?_<;>intro k2 M H
 ·have w:=ix M;have m2:=ml A (k2 0 _ rfl);have D:=wr y;refine xp w ?_;refine aQ H ?_ ?_<;>intro k3 Z H
  ·exact a3 D H
  refine xp w ?_;refine aF H ?_ ?_<;>intro k4 h3 H
  ·refine xp w ?_;refine aa (yS J (I A y).d) ?_;exact a3 D H
  refine xp w ?_;refine aa (yS U (I A y).a) ?_;exact a3 D H
 have f:=ms f H;refine cF f ?_ ?_<;>intro k5 h4 f
 ·exact rt _ f
 refine aa (yS J (W (U+1))) ?_;exact rt _ f
theorem uR(A:List o)(C:o)(g:R 2338816 A):Sd 427 [rL 2 o.row A,C.row] [rL 2 o.row (Hr A C)]:=by
 have f:=me (Hr.eq_1 A C);refine ar func427 ntmps427 ?_;refine dd (Sx.eq_2 A) (fun J U y i=>Z6 78 [eL 0 2 A o.row,(3,.one (.O 3 0),[.box [.d (.int .i64 y),.d (.int .i64 i)]]),(5,.one (.E 5 0 0 J.length),[.arr false 2 (J.map o.row)]),eI 6 (U:Int)]) (fun K J U y i=>A.length<K+U/\U<=A.length/\J.length<=0+1*U) (A.length+1) ([]:List o) 0 C.d C.c (fun p1 J U y i H j1=>?_) (h0:=az [((5,0),some (9,0))] []);refine aj H ?_ ?_<;>intro k2 M H
 ·have w:=ix M;have m2:=ml A (k2 0 _ rfl);have c1:=sl 2338816 A g;have D:=wr U;refine xp w ?_;refine cF H ?_ ?_<;>intro k3 Z H
  ·exact eh H (hw:=YR [((5,0),some (37,0))] [] rfl ad)
  refine aa (Ry y (I A U).d) ?_;refine aa (yS i (I A U).c) ?_;exact b9 D H
 have c2:=sl 2338816 A g;have f:=ms f H;refine aI (Iz.eq_2 J y) (fun T=>Z6 78 [(3,.one (.O 3 0),[.box [.d (.int .i64 y),.d (.int .i64 i)]]),(5,.one (.E 5 0 0 J.length),[.arr false 2 (J.map o.row)]),eI 8 (T:Int)]) (fun n2 T=>J.length<n2+T/\T<=J.length) (J.length+1) 0 (fun p2 T e2 j2=>?_);refine aw ac ?_;refine aK ?_ ?_<;>intro G
 ·have V:=ik T J;refine xg V ?_;refine cK e2 ?_ ?_<;>intro b h3 e2
  ·have m4:=ml J (b 5 _ rfl);have w2:=wr T;exact aH (an w2 G) e2
  ·have f:=ms f e2;refine bS ac ?_;refine BL (rv:=[.tmp 4]) rfl ?_;simp[f.h,G];all_goals(rintro r (hr|rfl|hr) x O<;>(first|(simp at O;rcases O with rfl|rfl<;>rfl)|((first|(replace hr:=List.mem_of_mem_take hr)|(replace hr:=List.mem_of_mem_drop hr));simp at hr;obtain⟨a,_,rfl⟩:=hr;simp at O;rcases O with rfl|rfl<;>rfl)))
 ·refine cK e2 ?_ ?_<;>intro k8 h4 e2
  ·simp[G]at h4
  ·have f:=ms f e2;refine bS ac ?_;refine BL (rv:=[.tmp 4]) rfl ?_;simp[f.h,G];all_goals(rintro r (hr|rfl|hr) x O<;>(first|(simp at O;rcases O with rfl|rfl<;>rfl)|((first|(replace hr:=List.mem_of_mem_take hr)|(replace hr:=List.mem_of_mem_drop hr));simp at hr;obtain⟨a,_,rfl⟩:=hr;simp at O;rcases O with rfl|rfl<;>rfl)))
theorem WU(A:List o)(g:R 2330624 A):Sd 399 [rL 2 o.row A] [rL 2 o.row (JB A)]:=by
 have f:=me (JB.eq_1 A);refine ar func399 ntmps399 ?_;refine aq (km.eq_2 A) (fun J U=>Z6 24 [eL 0 2 A o.row,(3,.one (.E 3 0 0 J.length),[.arr false 2 (J.map o.row)]),eI 4 (U:Int)]) (fun K J U=>A.length<K+U/\U<=A.length/\J.length<=U) (A.length+1) ([]:List o) 0 (fun p1 J U H j1=>?_) (h0:=az [((3,0),some (5,0))] []);refine aj H ?_ ?_<;>intro k2 M H
 ·have w:=ix M;have m2:=ml A (k2 0 _ rfl);have c1:=sl 2330624 A g;have D:=wr U;refine xp w ?_;refine aa (Jl (I A U)) ?_;refine aj H ?_ ?_<;>intro k3 Z H
  ·refine xp w ?_;refine ai [false] (uR J (I A U) (by exact⟨by have z:=Zx g;omega,fun _ _=>trivial⟩)) ?_;exact aB H (v:=by first|omega|(have z:=Fc J (I A U);(try dsimp only);omega)) (hw:=YR [((3,0),some (22,0))] [] rfl ad)
  exact ay D H (v:=by first|omega|(have z:=Fc J (I A U);(try dsimp only);omega))
 exact ah [.tmp 2] (ms f H)
theorem sp(A:YE)(C:List Zn)(g:R 2326528 C):Sd 353 [A.row,rL 5 Zn.row C] [rL 2 o.row (SJ A C)]:=by
 have f:=me (SJ.eq_1 A C);refine ar func353 ntmps353 ?_;refine cF f ?_ ?_<;>intro k1 M f
 ·refine Ch (c:=.E 6 0 0 0) (L:=[(6,0)]) rfl rfl rfl rfl rfl rfl rfl (UI ([]:List o) 0 (W (A.d-1)) bZ) ab ab ab ab ab ab ab bU ab ?_;simp;refine cF f ?_ ?_<;>intro k2 Z f
  ·refine Ch (c:=.E 14 0 0 (X4 ([]:List o) 0 (W (A.d-1))).length) (L:=[(14,0)]) rfl rfl rfl rfl rfl rfl rfl (UI (X4 ([]:List o) 0 (W (A.d-1))) (W (A.c+1)) 10000 bZ) ab ab ab ab ab ab ab bU ab ?_;simp;refine aa (NV C A.b) ?_;refine Ch (c:=.E 22 0 0 (X4 (X4 ([]:List o) 0 (W (A.d-1))) (W (A.c+1)) 10000).length) (L:=[(22,0)]) rfl rfl rfl rfl rfl rfl rfl (UI (X4 (X4 ([]:List o) 0 (W (A.d-1))) (W (A.c+1)) 10000) (zV C A.b) 10000 bZ) ab ab ab ab ab ab ab bU ab ?_;simp;refine ai [false] (WU (X4 (X4 (X4 ([]:List o) 0 (W (A.d-1))) (W (A.c+1)) 10000) (zV C A.b) 10000) bZ) ?_;exact ah [.tmp 4] f
  refine aa (NV C A.b) ?_;refine Ch (c:=.E 14 0 0 (X4 ([]:List o) 0 (W (A.d-1))).length) (L:=[(14,0)]) rfl rfl rfl rfl rfl rfl rfl (UI (X4 ([]:List o) 0 (W (A.d-1))) (zV C A.b) 10000 bZ) ab ab ab ab ab ab ab bU ab ?_;simp;refine ai [false] (WU (X4 (X4 ([]:List o) 0 (W (A.d-1))) (zV C A.b) 10000) bZ) ?_;exact ah [.tmp 4] f
 refine cF f ?_ ?_<;>intro k3 h3 f
 ·refine Ch (c:=.E 6 0 0 0) (L:=[(6,0)]) rfl rfl rfl rfl rfl rfl rfl (UI ([]:List o) (W (A.c+1)) 10000 bZ) ab ab ab ab ab ab ab bU ab ?_;simp;refine aa (NV C A.b) ?_;refine Ch (c:=.E 22 0 0 (X4 ([]:List o) (W (A.c+1)) 10000).length) (L:=[(22,0)]) rfl rfl rfl rfl rfl rfl rfl (UI (X4 ([]:List o) (W (A.c+1)) 10000) (zV C A.b) 10000 bZ) ab ab ab ab ab ab ab bU ab ?_;simp;refine ai [false] (WU (X4 (X4 ([]:List o) (W (A.c+1)) 10000) (zV C A.b) 10000) bZ) ?_;exact ah [.tmp 4] f
 refine aa (NV C A.b) ?_;refine Ch (c:=.E 6 0 0 0) (L:=[(6,0)]) rfl rfl rfl rfl rfl rfl rfl (UI ([]:List o) (zV C A.b) 10000 bZ) ab ab ab ab ab ab ab bU ab ?_;simp;refine ai [false] (WU (X4 ([]:List o) (zV C A.b) 10000) bZ) ?_;exact ah [.tmp 4] f
theorem yc(A C:o):c 400 [A.row,C.row] [rB (Ml A C)]:=by have f:=me (Ml.eq_1 A C);refine so func400 ntmps400 ?_;refine aa (Jl A) ?_;refine ak (fun p=>Jl C) ?_;exact rt _ f
theorem Oy(A:List o)(C:o)(g:R 2326528 A):c 352 [rL 2 o.row A,C.row] [rB (WX A C)]:=by
 have f:=me (WX.eq_1 A C);refine so func352 ntmps352 ?_;refine aa (Z7.rd (WU A (B g))) ?_;refine aI (UD.eq_2 A C) (fun J=>Z6 21 [eX 3 (C.row.map .d),eL 5 2 (JB A) o.row,eI 6 (J:Int)]) (fun K J=>(JB A).length<K+J/\J<=(JB A).length) ((JB A).length+1) 0 (fun p1 J H j1=>?_);refine cF H ?_ ?_<;>intro k2 M H
 ·have w:=ix M;have m2:=ml (JB A) (k2 5 _ rfl);have D:=wr J;refine ae ac ?_;refine xp w ?_;refine aa (yc C (I (JB A) J)) ?_;refine cF H ?_ ?_<;>intro k4 Z H
  ·exact rt _ (ms f H)
  exact aH D H
 exact rt _ (ms f H)
theorem pl(A:YE)(C:List Zn)(E:o)(g:R 2322432 C):c 296 [A.row,rL 5 Zn.row C,E.row] [rB (MP A C E)]:=by have f:=me (MP.eq_1 A C E);refine so func296 ntmps296 ?_;refine aw ac ?_;refine aa (Z7.rd (sp A C (B g))) ?_;refine aa (Oy (SJ A C) E (by exact oS au)) ?_;exact rt _ f
theorem rH(A:List Zn)(C:Int):c 403 [rL 5 Zn.row A,rI C] [rI (jD A C)]:=by
 have f:=me (jD.eq_1 A C);refine so func403 ntmps403 ?_;refine bu (xe.eq_2 A C) (fun J U y=>Z6 55 [eL 0 5 A Zn.row,eI 1 C,eI 5 J,eI 6 U,eI 7 (y:Int)]) (fun K J U y=>A.length<K+y/\y<=A.length) (A.length+1) (-1) (-1) 0 (fun p1 J U y H j1=>?_);refine aj H ?_ ?_<;>intro k2 M H
 ·have w:=ix M;have m2:=ml A (k2 0 _ rfl);have D:=wr y;refine xp w ?_;refine aQ H ?_ ?_<;>intro k3 Z H
  ·exact a3 D H
  refine xp w ?_;refine aj H ?_ ?_<;>intro k4 h3 H
  ·refine xp w ?_;refine aa (yS U (I A y).a) ?_;exact a3 D H
  refine aK ?_ ?_<;>intro G
  ·refine xg w ?_;refine bf H ?_ ?_<;>intro k5 h4 H
   ·simp[w,ZH];refine ax ?_;exact a3 (an D G) H
   ·exact a3 (an D G) H
  ·refine bf H ?_ ?_<;>intro b h5 H
   ·simp[w,ZH];refine ax ?_;exact a3 (an D G) H
   ·simp[G]at h5
 have f:=ms f H;refine cF f ?_ ?_<;>intro l h6 f
 ·exact rt _ f
 exact rt _ f
theorem tv(A C:o):c 428 [A.row,C.row] [(jB A C).1.row,rB (jB A C).2]:=by
 have f:=me (jB.eq_1 A C);refine so func428 ntmps428 ?_;refine aa (Jl A) ?_;refine ak (fun p=>Jl C) ?_;refine cF f ?_ ?_<;>intro k1 M f
 ·exact rt _ f
 refine aw ac ?_;refine aa (yS A.d C.d) ?_;refine aa (Ry A.c C.c) ?_;refine aa (Ps (zX A.d C.d) (VU A.c C.c)) ?_;exact rt _ f
theorem YH(h:b)(k:a:=by(intros;first|omega|with_unfolding_all (first|(first|omega|(simp at*;omega)))|exact wt)):a/\b:=⟨k,h⟩
theorem JM(A C:List o)(g:R 2326528 A)(S:R 2326528 C)(u2:A.length<=1/\C.length<=1):Sd 405 [rL 2 o.row A,rL 2 o.row C] [rL 2 o.row (Ns A C)]:=by
 have f:=me (Ns.eq_1 A C);refine ar func405 ntmps405 ?_;refine aq (P9.eq_2 A C) (fun J U=>Z6 42 [eL 0 2 A o.row,eL 1 2 C o.row,(5,.one (.E 5 0 0 J.length),[.arr false 2 (J.map o.row)]),eI 6 (U:Int)]) (fun K J U=>A.length<K+U/\U<=A.length/\J.length<=U) (A.length+1) ([]:List o) 0 (fun p1 J U H j1=>?_) (h0:=az [((5,0),some (10,0))] []);refine cF H ?_ ?_<;>intro k2 M H
 ·have w:=ix M;have D:=wr U;refine aq (S4.eq_2 A C U) (fun T q=>Z6 42 [eL 0 2 A o.row,eL 1 2 C o.row,(5,.one (.E 5 0 0 T.length),[.arr false 2 (T.map o.row)]),eI 6 (U:Int),eI 7 (q:Int)]) (fun n2 T q=>C.length<n2+q/\q<=C.length/\T.length<=U+q) (C.length+1) J 0 (fun p2 T q e2 j2=>?_);refine cF e2 ?_ ?_<;>intro k4 Z e2
  ·have V:=ix Z;have w2:=wr q;refine ae ac ?_;simp[w,ZH,V];refine aa (tv (I A U) (I C q)) ?_;refine aj e2 ?_ ?_<;>intro b h3 e2
   ·simp;repeat with_reducible refine YH ?_
    exact aB e2 (v:=by first|omega|(simp at*;omega)) (hw:=YR [((5,0),some (39,0))] [] rfl bC)
   exact ay (an D w2) e2 (v:=by first|omega|(simp at*;omega))
  have H:=ms H e2;exact ay D H
 have f:=ms f H;refine ai [false] (WU J (by exact⟨Y,fun _ _=>trivial⟩)) ?_;exact ah [.tmp 4] f
theorem Zi(A:YE)(C:List Zn)(g:R 2322432 C):Sd 354 [A.row,rL 5 Zn.row C] [rL 2 o.row (UW A C)]:=by
 have f:=me (UW.eq_1 A C);refine ar func354 ntmps354 ?_;refine aa (rH C A.b) ?_;refine aa (Ps 0 (jD C A.b)) ?_;refine cF f ?_ ?_<;>intro k1 M f
 ·exact ah _ f
 refine aw ac ?_;refine aa (DX A) ?_;refine ai [false] (JM ([V7 A]:List o) ([(JL 0 (jD C A.b)).1]:List o) bH bH (by exact⟨Nat.le_refl _,Nat.le_refl _⟩)) ?_;exact ah _ f
theorem uB(A:YE)(C:List Zn)(E:o)(g:R 2318336 C):c 297 [A.row,rL 5 Zn.row C,E.row] [rB (PA A C E)]:=by have f:=me (PA.eq_1 A C E);refine so func297 ntmps297 ?_;refine aw ac ?_;refine aa (Z7.rd (Zi A C (B g))) ?_;refine aa (Oy (UW A C) E (by exact x2 au)) ?_;exact rt _ f
theorem uM(A:List ZK)(g:R 2330624 A):Sd 299 [rL 3 ZK.row A] [rL 6 YV.row (Wg A)]:=by
 have f:=me (Wg.eq_1 A);refine ar func299 ntmps299 ?_;refine aq (qM.eq_2 A) (fun J U=>Z6 28 [eL 0 3 A ZK.row,(3,.one (.E 3 0 0 J.length),[.arr false 6 (J.map YV.row)]),eI 4 (U:Int)]) (fun K J U=>A.length<K+U/\U<=A.length/\J.length<=0+1*U) (A.length+1) ([]:List YV) 0 (fun p1 J U H j1=>?_) (h0:=az [((3,0),some (7,0))] []);refine aj H ?_ ?_<;>intro k2 M H
 ·have w:=ix M;have m2:=ml A (k2 0 _ rfl);have c1:=sl 2330624 A g;have D:=wr U;refine xp w ?_;refine aa (Ln (I A U)) ?_;refine cF H ?_ ?_<;>intro k3 Z H
  ·exact aB H (hw:=YR [((3,0),some (26,0))] [] rfl ad)
  exact ay D H
 exact ah [.tmp 2] (ms f H)
theorem w2(A:YV):c 429 [A.row] [rB (P1 A)]:=by have f:=me (P1.eq_1 A);refine so func429 ntmps429 ?_;refine aa (YP A.g 1 99) ?_;refine ak (fun p=>YP A.b 0 99) ?_;refine ak (fun p=>YP A.a 1 99) ?_;refine ak (fun p=>Jl (o.mk A.d A.c)) ?_;exact rt [.tmp 2] f
theorem wx(A:YV):Sd 430 [A.row] [rL 1 r (yI A)]:=by have f:=me (yI.eq_1 A);refine ar func430 ntmps430 ?_;exact ah [.tmp 2] f
theorem LF(A:List YF)(C:YV)(g:R 2318336 A):c 406 [rL 5 YF.row A,C.row] [rB (Vl A C)]:=by have f:=me (Vl.eq_1 A C);refine so func406 ntmps406 ?_;refine aw ac ?_;refine aa (w2 C) ?_;refine ak (fun p=>Cr A C.a) ?_;refine ak (fun p=>Z7.rd (wx C)) ?_;refine ak (fun p=>Rq A C.a (yI C) C.f (B g) (by simp(maxDischargeDepth:=12) [wM];try omega)) ?_;exact rt _ f
theorem Va(A:List YF)(C:List YV)(E N:Int)(g:R 2314240 A)(S:R 2314240 C):Sd 355 [rL 5 YF.row A,rL 6 YV.row C,rI E,rI N] [rL 2 o.row (qL A C E N)]:=by
 have f:=me (qL.eq_1 A C E N);refine ar func355 ntmps355 ?_;refine aq (xn.eq_2 A C E N) (fun J U=>Z6 58 [eL 0 5 A YF.row,eL 1 6 C YV.row,eI 2 E,eI 3 N,(9,.one (.E 9 0 0 J.length),[.arr false 2 (J.map o.row)]),eI 10 (U:Int)]) (fun K J U=>C.length<K+U/\U<=C.length/\J.length<=0+1*U) (C.length+1) ([]:List o) 0 (fun p1 J U H j1=>?_) (h0:=az [((9,0),some (11,0))] []);refine aj H ?_ ?_<;>intro k2 M H
 ·have w:=ix M;have m2:=ml C (k2 1 _ rfl);have c1:=sl 2314240 C (an g S);have D:=wr U;refine xp w ?_;refine aK ?_ ?_<;>intro G
  ·refine xg w ?_;refine aJ G ?_ ?_<;>intro G
   ·all_goals
     refine xg w ?_;refine aO (fun p=>LF A (I C U) (B g)) ?_;refine cK H ?_ ?_<;>intro k3 Z H
     ·refine ae ac ?_;refine xg w ?_;exact aB H (hw:=YR [((9,0),some (55,0))] [] rfl bv)
     ·exact ay (an D G) H
   ·all_goals
     refine aN ?_;refine a9 ?_;refine cK H ?_ ?_<;>intro k5 h3 H
     ·simp[G]at h3
     ·exact ay (an D G) H
  ·refine aJ G ?_ ?_<;>intro G
   ·try(simp at G;done)
    all_goals
     refine xg w ?_;refine aO (fun p=>LF A (I C U) (B g)) ?_;refine cK H ?_ ?_<;>intro l h4 H
     ·simp[G]at h4
     ·simp[G]at h4
   ·all_goals
     refine aN ?_;refine a9 ?_;refine cK H ?_ ?_<;>intro L h5 H
     ·simp[G]at h5
     ·exact ay (an D G) H
 have c2:=sl 2314240 C (an g S);have f:=ms f H;refine ai [false] (WU J i5) ?_;exact ah [.tmp 8] f
theorem tk(A:List YF)(C:List YV)(E N:Int)(T:o)(g:R 2310144 A)(S:R 2310144 C):c 298 [rL 5 YF.row A,rL 6 YV.row C,rI E,rI N,T.row] [rB (RM A C E N T)]:=by
 have f:=me (RM.eq_1 A C E N T);refine so func298 ntmps298 ?_;refine cF f ?_ ?_<;>intro k1 M f
 ·refine aa (Jl T) ?_;exact rt _ f
 refine aw ac ?_;refine aa (Z7.rd (Va A C E N ck ck)) ?_;refine aa (Oy (qL A C E N) T (by exact BV (by have z:=Zx S;omega))) ?_;exact rt _ f
theorem AJ(h:b)(k:a:=by(intros;first|omega|with_unfolding_all (first|(first|omega|(have z:=Dm M;have y:=Xd A.a T.a;omega)))|exact wt)):a/\b:=⟨k,h⟩
theorem Lp(A:ZI)(C:Q)(E:List (List Int))(N:Int)(T:G)(g:R 2281472 A)(S:R 2281472 C)(u2:R 2281472 E)(a:nJ C<=2097152):c 234 [A.row,C.row,rL 1 (ag 1 r) E,rI N,T.row] [(kP A C E N T).row]:=by
 have f:=me (kP.eq_1 A C E N T);refine so func234 ntmps234 ?_;refine aa (nh A N T bl) ?_;refine aF f ?_ ?_<;>intro k1 M f
 ·have q1:=M;try simp at q1
  simp;exact rt [.cell 10 137] f
 have q1:=M;try simp at q1
 simp;refine aw ac ?_;refine aa (Z7.rd (MZ T)) ?_;refine aa (N4 A C E (Xu T) bl bl bl bl) ?_;refine aw ac ?_;refine cR (Xz A.a T.a) ?_;have w:(Zz A.a T.a).toNat<A.a.length:=by have:=Xd A.a T.a;(have z:=Dm M;have y:=Xd A.a T.a;omega)
 simp[w,ZH];repeat with_reducible refine AJ ?_
 refine aa (Uf A.c (I A.a (Zz A.a T.a).toNat).c) ?_;refine ak (fun p=>Uf A.c T.c) ?_;refine aF f ?_ ?_<;>intro k4 Z f
 ·have q2:=Z;try simp at q2
  simp;refine aa (U2 5) ?_;exact rt [.cell 10 137] f
 have q2:=Z;try simp at q2
 simp;refine aa (C4 A C E bl bl bl bl) ?_;refine aa (In A (YJ A C E) T bl bl) ?_;refine aF f ?_ ?_<;>intro k5 h3 f
 ·have q3:=h3;try simp at q3
  simp;refine aa (U2 6) ?_;exact rt [.cell 10 137] f
 have q3:=h3;try simp at q3
 simp;refine aa (rP A C (YJ A C E) T bl bl bl) ?_;refine aF f ?_ ?_<;>intro b h4 f
 ·have q4:=h4;try simp at q4
  simp;refine aa (U2 7) ?_;exact rt [.cell 10 137] f
 have q4:=h4;try simp at q4
 simp;refine aa (Z7.rd (LG (YJ A C E) (Ki A (YJ A C E) T).1 bl)) ?_;refine aa (pl (Ki A (YJ A C E) T).1 (yJ (YJ A C E) (Ki A (YJ A C E) T).1) (o.mk (JX A C (YJ A C E) T) (XT A C E (Xu T))) bl) ?_;refine aF f ?_ ?_<;>intro l h5 f
 ·have q5:=h5;try simp at q5
  simp;exact rt [.cell 10 137] f
 have q5:=h5;try simp at q5
 simp;refine aa (uB (Ki A (YJ A C E) T).1 (yJ (YJ A C E) (Ki A (YJ A C E) T).1) (o.mk (JX A C (YJ A C E) T) (XT A C E (Xu T))) bl) ?_;refine aF f ?_ ?_<;>intro k8 h6 f
 ·have q:=h6;try simp at q
  simp;exact rt [.cell 10 137] f
 have q:=h6;try simp at q
 simp;refine aw ac ?_;refine aa (Z7.rd (uM (YJ A C E) bl)) ?_;refine aa (tk A.a (Wg (YJ A C E)) T.g (Ki A (YJ A C E) T).1.g (o.mk (JX A C (YJ A C E) T) (XT A C E (Xu T))) bl bl) ?_;refine aF f ?_ ?_<;>intro af h7 f
 ·have d:=h7;try simp at d
  simp;exact rt [.cell 10 137] f
 have d:=h7;try simp at d
 simp;exact rt [.cell 10 137] f
theorem AR(A:ZI)(C:Q)(E:ZO)(N:G)(g:R 2277376 A)(S:R 2277376 C)(u2:R 2277376 E)(a:nJ C<=2097152):c 232 [A.row,C.row,E.row,N.row] [(Cz A C E N).row]:=by have f:=me (Cz.eq_1 A C E N);refine so func232 ntmps232 ?_;refine aw ac ?_;refine aa (Cb C E c9 c9) ?_;refine aa (RX N.c E c9) ?_;refine aa (Lp A C (yq C E) (JG N.c E) N c9 c9 (by(first|exact B g|exact B S|exact B u2|exact a|exact B (Kd S))) c9) ?_;exact rt _ f
theorem FY(A:ZI)(C:ZU)(g:R 2273280 A)(S:R 2097152 C):c 160 [A.row,C.row] [(kn A C).row]:=by have f:=me (kn.eq_1 A C);refine so func160 ntmps160 ?_;refine aw ac ?_;refine aa (M1 C cg) ?_;refine aa (AR A (yX C) C.c C.d cg hi cg cg) ?_;exact rt _ f
theorem wJ(h:b)(k:a:=by(intros;first|omega|with_unfolding_all (first|first|omega|(have d:=Y2 A C ht;omega))|exact wt)):a/\b:=⟨k,h⟩
theorem PL(A:P)(C:Int)(g:R 1048576 A):c 93 [A.row,rI C] [(Jq A C).row]:=by
 have f:=me (Jq.eq_1 A C);refine so func93 ntmps93 ?_;refine aa (OG A C) ?_;refine aF f ?_ ?_<;>intro k1 M f
 ·have q1:=M;try simp at q1
  simp;exact rt _ f
 have q1:=M;try simp at q1
 simp;refine ae ac ?_;have w:(u A C).1.toNat<A.a.length:=h9
 have V:(u A C).2.toNat<(I A.a (u A C).1.toNat).a.length:=h9;simp[w,ZH,V];repeat with_reducible refine wJ ?_
 refine aa (FY A.b (I (I A.a (u A C).1.toNat).a (u A C).2.toNat) (B (P.Yc g)) (B (ZY (ZD.Z8 (ZY (P.Zs g)))))) ?_;exact rt _ f
theorem T8(A:P)(C:Int)(g:R 1048576 A)(S:am A.a<=1048576):c 88 [A.row,rI C] [rI (QG A C)]:=by
 have f:=me (QG.eq_1 A C);refine so func88 ntmps88 ?_;refine aa (Z7.rd (w6 A g bQ)) ?_;refine aq (yp.eq_2 A C) (fun J U=>Z6 28 [eI 1 C,eX 2 (A.row.map .d),eI 5 J,eL 6 1 (qE A) r,eI 7 (U:Int)]) (fun K J U=>(qE A).length<K+U/\U<=(qE A).length) ((qE A).length+1) 0 0 (fun p1 J U H j1=>?_);refine cF H ?_ ?_<;>intro k2 M H
 ·have w:=ix M;have m2:=ml (qE A) (k2 6 _ rfl);have D:=wr U;refine ae ac ?_;refine xp w ?_;refine aa (PL A (I (qE A) U) g) ?_;refine cF H ?_ ?_<;>intro k4 Z H
  ·exact ay D H
  exact ay D H
 exact rt _ (ms f H)
theorem AZ(A:P)(g:R 1048576 A)(S:am A.a<=1048576):c 46 [A.row] [rS (Tg A)]:=by
 have f:=me (Tg.eq_1 A);refine so func46 ntmps46 ?_;have o1:=Yn A.b.d;refine aa (XP A.b.d) ?_;refine aq (qb.eq_2 A) (fun J U=>Z6 53 [eX 1 (A.row.map .d),(3,.one (.d (.str J)),[]),eI 4 (U:Int)]) (fun K J U=>A.a.length<K+U/\U<=A.a.length/\J.size<=25+25*U) (A.a.length+1) (XK A.b.d++(⟨#[32]⟩:ByteArray)) 0 (fun p1 J U H j1=>?_) (v:=by(have z:=Yn A.b.d;(try dsimp only);refine⟨Y,Y,Nat.zero_le _,?_⟩;simp;omega));refine cF H ?_ ?_<;>intro k2 M H
 ·have w:=ix M;have m2:=ml A.a (k2 12 _ rfl);have c1:=sl 1048576 A.a (an g S);have D:=wr U;refine aF H ?_ ?_<;>intro k3 Z H
  ·refine xp w ?_;have E:=Yn ((I A.a U).a.length:Int)
   refine aa (XP ((I A.a U).a.length:Int)) ?_;exact ay D H
  refine xp w ?_;have o3:=Yn ((I A.a U).a.length:Int)
  refine aa (XP ((I A.a U).a.length:Int)) ?_;exact ay D H
 have c2:=sl 1048576 A.a (an g S);have f:=ms f H;refine aw ac ?_;refine aa (T8 A 1 g bQ) ?_;have b:=Yn (QG A 1);refine aa (XP (QG A 1)) ?_;refine aa (T8 A 2 g bQ) ?_;have a:=Yn (QG A 2);refine aa (XP (QG A 2)) ?_;refine aa (T8 A 3 g bQ) ?_;have d:=Yn (QG A 3);refine aa (XP (QG A 3)) ?_;have h:=Yn (A.g.length:Int);refine aa (XP (A.g.length:Int)) ?_;exact rt _ f
theorem Nj(A:P)(g:R 2314240 A):c 154 [A.row] [rB (GZ A)]:=by
 have f:=me (GZ.eq_1 A);refine so func154 ntmps154 ?_;refine aI (GD.eq_2 A) (fun J=>Z6 56 [eX 1 (A.row.map .d),eI 3 (J:Int)]) (fun K J=>A.c.length<K+J/\J<=A.c.length) (A.c.length+1) 0 (fun p1 J H j1=>?_);refine cF H ?_ ?_<;>intro k2 M H
 ·have w:=ix M;have m2:=ml A.c (k2 7 _ rfl);have c1:=sl 2314240 A.c g;have D:=wr J;refine ae ac ?_;refine xp w ?_;refine aa (ET A.b.a (I A.c J) (B (ZI.Yf (P.Yc g)))) ?_;refine aK ?_ ?_<;>intro G
  ·refine xg w ?_;refine aO (fun p=>IT A.c (I A.c J).b) ?_;refine cK H ?_ ?_<;>intro k4 Z H
   ·exact O _ (ms f H)
   ·exact aH (an D G) H
  ·refine aN ?_;simp;refine ax ?_;refine cK H ?_ ?_<;>intro k5 h3 H
   ·exact O _ (ms f H)
   ·simp[G]at h3
 have f:=ms f H;refine aI (NS.eq_2 A) (fun T=>Z6 56 [eX 1 (A.row.map .d),eI 4 (T:Int)]) (fun n2 T=>A.d.length<n2+T/\T<=A.d.length) (A.d.length+1) 0 (fun p2 T e2 j2=>?_);refine aj e2 ?_ ?_<;>intro l h4 e2
 ·have V:=ix h4;have m4:=ml A.d (l 37 _ rfl);have c3:=sl 2314240 A.d g;have w2:=wr T;refine xp V ?_;refine aa (YP (I A.d T) (-1) 10001) ?_;refine aF e2 ?_ ?_<;>intro k8 h5 e2
  ·have q5:=h5;try simp[Z1]at q5
   have f:=ms f e2;simp;exact rt _ f
  have q5:=h5;try simp[Z1]at q5
  simp;exact aH w2 e2
 exact rt _ (ms f e2)
theorem ta(h:b)(k:a:=by(intros;first|omega|with_unfolding_all (first|(have o:(I A.a U).a.length<=2318336:=Zx (xs g);have E:A.a.length<=2318336:=Zx (xs g);omega))|(simp_all;done)|(simp_all;omega)|grind|exact wt)):a/\b:=⟨k,h⟩
theorem Ce(A:P)(g:R 2318336 A):c 155 [A.row] [rB (H8 A)]:=by
 have f:=me (H8.eq_1 A);refine so func155 ntmps155 ?_;refine aq (Uw.eq_2 A) (fun J U=>Z6 75 [eX 1 (A.row.map .d),(3,.one (.E 3 0 0 J.length),[.arr false 1 (J.map r)]),eI 4 (U:Int)]) (fun K J U=>A.a.length<K+U/\J.length<=2318336*U) (A.a.length+1) ([]:List Int) 0 (fun p1 J U H j1=>?_) (h0:=az [((3,0),some (7,0))] []);refine aj H ?_ ?_<;>intro k2 M H
 ·have w:=ix M;have m2:=ml A.a (k2 10 _ rfl);have c1:=sl 2318336 A.a g;have D:=wr U;simp[w,ZH];refine aa (kc (I A.a U)) ?_;refine bp ?_ ?_<;>intro G
  ·have g1:=G;try simp at g1
   simp[w,ZH,G];refine aE H ?_ ?_<;>intro k3 Z H
   ·have f:=ms f H;simp[G];exact O [.tmp 2] f
   ·simp[G];refine eO (R9.eq_2 A U) (fun T q=>Z6 75 [eX 1 (A.row.map .d),(3,.one (.E 3 0 0 T.length),[.arr false 1 (T.map r)]),eI 4 (U:Int),eI 5 (q:Int)]) (fun n2 T q=>(I A.a U).a.length<n2+q/\q<=(I A.a U).a.length/\T.length<=2318336*U+q) ((I A.a U).a.length+1) J 0 (fun p2 T q e2 j2=>?_);simp[w,ZH,G];refine aE e2 ?_ ?_<;>intro k5 h3 e2
    ·have V:=ix h3;have m4:=ml (I A.a U).a (k5 38 _ rfl);have c2:=sl 2318336 (I A.a U).a g;have w2:=wr q;simp[w,ZH,V,G];refine cR (WW T (I (I A.a U).a q).b) ?_;simp[G];refine aE e2 ?_ ?_<;>intro b h4 e2
     ·have H:=ms H e2;have f:=ms f H;simp[G];exact O [.tmp 2] f
     ·simp[G];repeat with_reducible refine ta ?_
      exact aB e2 (v:=by(have o:(I A.a U).a.length<=2318336:=Zx (xs g);first|omega|(simp at*;omega))) (hw:=YR [((3,0),some (65,0))] [] rfl df)
    ·have c3:=sl 2318336 (I A.a U).a g;have H:=ms H e2;simp[G];exact ay (an D G) H (v:=by(have o:(I A.a U).a.length<=2318336:=Zx (xs g);first|omega|(simp at*;omega)))
  ·simp[G];refine aE H ?_ ?_<;>intro l h5 H
   ·have f:=ms f H;simp[G];exact O [.tmp 2] f
   ·simp[G]at h5
 have f:=ms f H;refine aa (YP (A.a.length:Int) 1 4) ?_;exact rt [.tmp 2] f
theorem Vc(A:P)(g:R 2310144 A):c 89 [A.row] [rB (HK A)]:=by
 have f:=me (HK.eq_1 A);refine so func89 ntmps89 ?_;refine aI (LQ.eq_2 A) (fun J=>Z6 103 [eX 1 (A.row.map .d),eI 3 (J:Int)]) (fun K J=>A.e.length<K+J/\J<=A.e.length) (A.e.length+1) 0 (fun p1 J H j1=>?_);refine aj H ?_ ?_<;>intro k2 M H
 ·have w:=ix M;have m2:=ml A.e (k2 8 _ rfl);have c1:=sl 2310144 A.e g;have D:=wr J;refine xp w ?_;refine cF H ?_ ?_<;>intro k3 Z H
  ·exact rt _ (ms f H)
  exact aH D H
 have f:=ms f H;refine aI (LM.eq_2 A) (fun T=>Z6 103 [eX 1 (A.row.map .d),eI 4 (T:Int)]) (fun n2 T=>A.f.length<n2+T/\T<=A.f.length) (A.f.length+1) 0 (fun p2 T e2 j2=>?_);refine cF e2 ?_ ?_<;>intro k5 h3 e2
 ·have V:=ix h3;have m4:=ml A.f (k5 21 _ rfl);have c3:=sl 2310144 A.f g;have w2:=wr T;refine ae ac ?_;refine xp V ?_;refine aa (Ke A.b.b (I A.f T)) ?_;refine aK ?_ ?_<;>intro G
  ·have i3:=ik (T-1) A.f;have w3:IntKind.i64.wrap ((T:Int)-1)=(T:Int)-1:=YB Y Y;refine xg (an i3 w3) ?_;refine gK (fun _=>?_);refine xg V ?_;refine cK e2 ?_ ?_<;>intro l h4 e2
   ·exact O _ (ms f e2)
   ·exact aH (an w2 (an w3 G)) e2
  ·refine aR ?_;refine cK e2 ?_ ?_<;>intro k8 h5 e2
   ·exact O _ (ms f e2)
   ·exact aH (an w2 G) e2
 have f:=ms f e2;refine aI (Lk.eq_2 A) (fun j=>Z6 103 [eX 1 (A.row.map .d),eI 5 (j:Int)]) (fun X j=>A.g.length<X+j/\1<=j) (A.g.length+1) 1 (fun p3 j e3 j3=>?_);refine cF e3 ?_ ?_<;>intro af h6 e3
 ·have i5:=ix h6;have y:=ml A.g (af 56 _ rfl);have c5:=sl 2310144 A.g g;have t:=wr j;refine ae ac ?_;have i6:=ik (j-1) A.g;have a:IntKind.i64.wrap ((j:Int)-1)=(j:Int)-1:=YB Y Y;refine xp (an i6 (an a i5)) ?_;refine cF e3 ?_ ?_<;>intro d h7 e3
  ·exact rt _ (ms f e3)
  exact aH (an t a) e3
 have f:=ms f e3;refine aa (Bl A.b) ?_;refine ak (fun p=>Nj A (B g)) ?_;refine ak (fun p=>Ce A (B g)) ?_;exact rt _ f
theorem sE(h:b)(k:a:=by(intros;first|omega|with_unfolding_all (first|(first|omega|(have d:=OE (l:=A.a) (i:=U) bg;omega)))|exact wt)):a/\b:=⟨k,h⟩
theorem uD(A:P)(g:R 1048576 A)(S:am A.a<=1048576):Sd 156 [A.row] [rL 1 r (Qe A)]:=by
 have f:=me (Qe.eq_1 A);refine ar func156 ntmps156 ?_;refine aq (UU.eq_2 A) (fun J U=>Z6 46 [eX 1 (A.row.map .d),(3,.one (.E 3 0 0 J.length),[.arr false 1 (J.map r)]),eI 4 (U:Int)]) (fun K J U=>A.a.length<K+U/\U<=A.a.length/\J.length+am (A.a.drop U)<=1048576) (A.a.length+1) ([]:List Int) 0 (fun p1 J U H j1=>?_) (v:=by((try dsimp only);simp only[List.length_nil,List.drop_zero];omega)) (h0:=az [((3,0),some (7,0))] []);refine cF H ?_ ?_<;>intro k2 M H
 ·have w:=ix M;have m2:=ml A.a (k2 10 _ rfl);have c1:=sl 1048576 A.a (an g S);have D:=wr U;refine eO (j7.eq_2 A U) (fun T q=>Z6 46 [eX 1 (A.row.map .d),(3,.one (.E 3 0 0 T.length),[.arr false 1 (T.map r)]),eI 4 (U:Int),eI 5 (q:Int)]) (fun n2 T q=>(I A.a U).a.length<n2+q/\q<=(I A.a U).a.length/\T.length+((I A.a U).a.length-q)+am (A.a.drop (U+1))<=1048576) ((I A.a U).a.length+1) J 0 (fun p2 T q e2 j2=>?_) (v:=by(have d:=OE (l:=A.a) (i:=U) bg;(try dsimp only);omega));simp[w,ZH];refine aj e2 ?_ ?_<;>intro k4 Z e2
  ·have V:=ix Z;have m4:=ml (I A.a U).a (k4 21 _ rfl);have c2:=sl 1048576 (I A.a U).a (an g S);have w2:=wr q;simp[w,ZH,V];refine aa (PL A (I (I A.a U).a q).b g) ?_;refine aj e2 ?_ ?_<;>intro k5 h3 e2
   ·simp;repeat with_reducible refine sE ?_
    exact aB e2 (v:=by((try dsimp only);(try simp only[List.length_append,List.length_singleton]);omega)) (hw:=YR [((3,0),some (44,0))] [] rfl bC)
   exact ay (an D w2) e2 (v:=by((try dsimp only);(try simp only[List.length_append,List.length_singleton]);omega))
  have H:=ms H e2;exact ay D H (v:=by(first|omega|((try dsimp only);omega)|(simp at*;omega)))
 exact ah [.tmp 2] (ms f H)
theorem vK(h:b)(k:a:=by(intros;first|omega|with_unfolding_all (first|(first|omega|(have z:=wQ A;omega)))|exact wt)):a/\b:=⟨k,h⟩
theorem vB(A:P)(g:R 1048576 A)(S:am A.a<=1048576):Sd 90 [A.row] [rL 1 r (TT A)]:=by
 have f:=me (TT.eq_1 A);refine ar func90 ntmps90 ?_;refine aa (Z7.rd (uD A g bQ)) ?_;refine aq (qf.eq_2 A) (fun J U=>Z6 30 [eX 1 (A.row.map .d),(3,.one (.E 3 0 0 J.length),[.arr false 1 (J.map r)]),eL 4 1 (Qe A) r,eI 5 (U:Int)]) (fun K J U=>(Qe A).length<K+U/\U<=(Qe A).length/\J.length<=0+1*U) ((Qe A).length+1) ([]:List Int) 0 (fun p1 J U H j1=>?_) (h0:=az [((3,0),some (6,0))] []);refine cF H ?_ ?_<;>intro k2 M H
 ·have w:=ix M;have m2:=ml (Qe A) (k2 4 _ rfl);have D:=wr U;refine ae ac ?_;simp[w,ZH];refine aa (WW A.g (I (Qe A) U)) ?_;refine aj H ?_ ?_<;>intro k4 Z H
  ·simp[w,ZH];repeat with_reducible refine vK ?_
   exact aB H (hw:=YR [((3,0),some (28,0))] [] rfl ad)
  exact ay D H
 exact ah [.tmp 2] (ms f H)
theorem C7(A:P)(g:R 1048576 A)(S:am A.a<=1048576):c 47 [A.row] [rS (Nm A)]:=by
 have f:=me (Nm.eq_1 A);refine so func47 ntmps47 ?_;refine aa (Vc A (B g)) ?_;refine cF f ?_ ?_<;>intro k1 M f
 ·exact rt _ f
 refine aa (Z7.rd (vB A g bQ)) ?_;refine cF f ?_ ?_<;>intro k2 Z f
 ·exact rt _ f
 exact rt _ f
theorem HE(A:Int):c 158 [rI A] [rS (xU A)]:=by
 have f:=me (xU.eq_1 A);refine so func158 ntmps158 ?_;refine aa (YP A 1 3) ?_;refine aF f ?_ ?_<;>intro k1 M f
 ·have q1:=M;try simp[Z1]at q1
  simp;exact rt _ f
 have q1:=M;try simp[Z1]at q1
 have w:=ik A.toNat ([(⟨#[]⟩:ByteArray),(⟨#[118,97,108,105,100]⟩:ByteArray),(⟨#[105,110,118,97,108,105,100]⟩:ByteArray),(⟨#[111,112,101,110]⟩:ByteArray)]:List ByteArray);have r1:=ZH (f:=N) w;try simp at r1
 refine xp r1 ?_;exact rt _ f
theorem Gs(A:Int):c 159 [rI A] [rS (jN A)]:=by
 have f:=me (jN.eq_1 A);refine so func159 ntmps159 ?_;refine aa (YP A 0 9) ?_;refine aF f ?_ ?_<;>intro k1 M f
 ·have q1:=M;try simp[Z1]at q1
  simp;exact rt _ f
 have q1:=M;try simp[Z1]at q1
 have w:=ik A.toNat ([(⟨#[110,111,110,101]⟩:ByteArray),(⟨#[102,111,114,109]⟩:ByteArray),(⟨#[100,111,99,117,109,101,110,116]⟩:ByteArray),(⟨#[107,101,121]⟩:ByteArray),(⟨#[109,97,114,107]⟩:ByteArray),(⟨#[98,114,111,107,101,110]⟩:ByteArray),(⟨#[99,101,114,116,105,102,105,99,97,116,101]⟩:ByteArray),(⟨#[116,105,109,101]⟩:ByteArray),(⟨#[101,110,100,101,100]⟩:ByteArray),(⟨#[109,97,110,100,97,116,101]⟩:ByteArray)]:List ByteArray);have r1:=ZH (f:=N) w;try simp at r1
 refine xp r1 ?_;exact rt _ f
theorem T6(A:XE):c 92 [A.row] [rS (Ka A)]:=by
 have f:=me (Ka.eq_1 A);refine so func92 ntmps92 ?_;refine aa (HE A.b) ?_;refine ak (fun p=>Gs A.c) ?_;refine cF f ?_ ?_<;>intro k1 M f
 ·exact rt _ f
 refine aw ac ?_;have o1:=N2 A.b
 refine aa (HE A.b) ?_;have E:=LU A.c
 refine aa (Gs A.c) ?_;refine cF f ?_ ?_<;>intro k3 Z f
 ·refine aW fun k4=>?_;refine aw ac ?_;have o3:=Yn A.a.d
  refine aa (XP A.a.d) ?_;have b:=Yn A.a.c
  refine aa (XP A.a.c) ?_;exact rt _ f
 exact rt _ f
theorem sU(A:ZU)(g:R 2338816 A):Sd 162 [A.row] [rL 1 r (UZ A)]:=by
 have f:=me (UZ.eq_1 A);refine ar func162 ntmps162 ?_;refine aq (jj.eq_2 A) (fun J U=>Z6 76 [eX 1 (A.row.map .d),(3,.one (.E 8 0 0 0),[]),(4,.one (.E 4 0 0 J.length),[.arr false 1 (J.map r)]),eI 5 (U:Int),(8,.any,[.arr false 1 (([]:List Int).map r)])]) (fun K J U=>A.a.a.length<K+U/\U<=A.a.a.length/\J.length<=1+U) (A.a.a.length+1) ([A.d.c]:List Int) 0 (fun p1 J U H j1=>?_) (h0:=az [((4,0),some (12,0))] []);refine aj H ?_ ?_<;>intro k2 M H
 ·have w:=ix M;have m2:=ml A.a.a (k2 16 _ rfl);have c1:=sl 2338816 A.a.a g;have D:=wr U;refine xp w ?_;exact aB H (hw:=YR [((4,0),some (30,0))] [] rfl ad)
 have c2:=sl 2338816 A.a.a g;have f:=ms f H;refine aq (z7.eq_2 J) (fun T q=>Z6 76 [(3,.one (.E 3 0 0 T.length),[.arr false 1 (T.map r)]),(4,.one (.E 4 0 0 J.length),[.arr false 1 (J.map r)]),eI 6 (q:Int)]) (fun n2 T q=>J.length<n2+q/\q<=J.length/\T.length<=q) (J.length+1) ([]:List Int) 0 (fun p2 T q e2 j2=>?_) (h0:=az [((3,0),some (8,0))] []);refine aj e2 ?_ ?_<;>intro k4 Z e2
 ·have V:=ix Z;have m4:=ml J (k4 4 _ rfl);have w2:=wr q;refine xp V ?_;refine aa (WW T (I J q)) ?_;refine cF e2 ?_ ?_<;>intro k5 h3 e2
  ·exact ay w2 e2
  refine aI (TV.eq_2 T q J) (fun j=>Z6 76 [(3,.one (.E 3 0 0 T.length),[.arr false 1 (T.map r)]),(4,.one (.E 4 0 0 J.length),[.arr false 1 (J.map r)]),eI 6 (q:Int),eI 7 (j:Int)]) (fun X j=>T.length<X+j/\j<=T.length) (T.length+1) 0 (fun p3 j e3 j3=>?_);refine aw ac ?_;refine aK ?_ ?_<;>intro G
  ·have i3:=ik j T;refine xg i3 ?_;refine gK (fun _=>?_);refine xg V ?_;refine cK e3 ?_ ?_<;>intro k8 h4 e3
   ·have w3:=wr j;exact aH (an w2 (an w3 G)) e3
   ·have e2:=ms e2 e3;refine ae ac ?_;refine xg V ?_;exact aB e2 (hw:=YR [((3,0),some (74,0))] [] rfl (by simp[w2,G]))
  ·refine aR ?_;refine cK e3 ?_ ?_<;>intro af h5 e3
   ·simp[G]at h5
   ·have e2:=ms e2 e3;refine ae ac ?_;refine xg V ?_;exact aB e2 (hw:=YR [((3,0),some (74,0))] [] rfl (by simp[w2,G]))
 exact ah [.tmp 2] (ms f e2)
theorem M2(A:List Int)(C:ZO)(E:List Int)(g:R 2322432 A)(S:R 2322432 C)(u2:R 2322432 E):Sd 161 [rL 1 r A,C.row,rL 1 r E] [(Kn A C E).1.row,rB (Kn A C E).2]:=by
 have f:=me (Kn.eq_1 A C E);refine ar func161 ntmps161 ?_;refine aa (W2 C) ?_;refine cF f ?_ ?_<;>intro k1 M f
 ·exact ah [.cell 6 142,.tmp 7] f
 refine vT [2,3,4,0,1,5,6,7] ac d d d ?_;have c1:=sl 2322432 A (an g (an S u2))
 refine aU ?_;refine g4 (QR.eq_2 A C E) (fun J U y i a=>Z6 103 [eL 0 1 A r,eL 2 1 E r,eX 4 (C.row.map .d),(6,.one (.O 6 0),[.box [.d (.int .i64 0),.nil 1,.nil 1,.nil 1,.nil 1,.nil 1]]),(8,.one (.O 8 0),[.box [.d (.int .i64 C.e),.E 20 0 0 A.length,.E 8 3 0 U.length,.E 8 4 0 y.length,.E 8 5 0 i.length,.E 8 6 0 a.length],.none,.none,.arr false 1 (U.map lR),.arr false 1 (y.map N),.arr false 1 (i.map r),.arr true 1 (a.map (ag 1 r))]),eI 9 (J:Int),(20,.any,[.arr false 1 (A.map r)])]) (fun K J U y i a=>C.b.length<K+J/\J<=C.b.length/\U.length<=J/\y.length<=J/\i.length<=J/\a.length<=J) (C.b.length+1) 0 ([]:List Bool) ([]:List ByteArray) ([]:List Int) ([]:List (List Int)) (fun p1 J U y i a H j1=>?_) (h0:=az [((8,3),none),((8,4),none),((8,5),none),((8,6),none)] []);refine cF H ?_ ?_<;>intro k4 Z H
 ·have w:=ix Z;have m2:=ml C.b (k4 24 _ rfl);have c2:=sl 2322432 C.b (an g (an S u2));have D:=wr J;refine aa (WW E (J:Int)) ?_;refine cF H ?_ ?_<;>intro k5 h3 H
  ·refine bX fun b=>?_;refine aq (zg.eq_2 A C J) (fun T q=>Z6 103 [eL 0 1 A r,eL 2 1 E r,eX 4 (C.row.map .d),(6,.one (.O 6 0),[.box [.d (.int .i64 0),.nil 1,.nil 1,.nil 1,.nil 1,.nil 1]]),(8,.one (.O 8 0),[.box [.d (.int .i64 C.e),.E 20 0 0 A.length,.E 8 3 0 U.length,.E 8 4 0 y.length,.E 8 5 0 i.length,.E 8 6 0 a.length],.none,.none,.arr false 1 (U.map lR),.arr false 1 (y.map N),.arr false 1 (i.map r),.arr true 1 (a.map (ag 1 r))]),eI 9 (J:Int),(10,.one (.E 10 0 0 T.length),[.arr false 1 (T.map r)]),eI 11 (q:Int),(20,.any,[.arr false 1 (A.map r)])]) (fun n2 T q=>A.length<n2+q/\q<=A.length/\T.length<=0+1*q) (A.length+1) ([]:List Int) 0 (fun p2 T q e2 j2=>?_) (h0:=az [((10,0),some (29,0))] []);refine cF e2 ?_ ?_<;>intro l h4 e2
   ·have V:=ix h4;have w2:=wr q;refine ae ac ?_;have i3:J<C.d.length:=by(have z:=MV (A:=C) cw;omega)
    refine xp (an V (an w i3)) ?_;refine aa (Tv (I A q) (I C.b J) (I C.d J) (B (ZY (ZO.qo S)))) ?_;exact aB e2 (hw:=YR [((10,0),some (56,0))] [] rfl bC)
   have H:=ms H e2;refine aw ac ?_;refine aa (WW E (J:Int)) ?_;refine SN ?_;simp;refine OT (au:=a.map (ag 1 r)) (am:=([T]:List (List Int)).map (ag 1 r)) (l1:=[(8,6)]) (l2:=[(10,0)]) (X:=1) ?_;simp;exact ek H (hw:=YR [((8,3),some (94,0)),((8,4),some (60,0)),((8,5),some (65,0)),((8,6),some (100,0))] [] rfl ad)
  refine ae ac ?_;refine xp w ?_;refine ae ac ?_;have i4:J<C.d.length:=by(have z:=MV (A:=C) cw;omega)
  refine xp i4 ?_;refine aw ac ?_;refine aa (WW E (J:Int)) ?_;refine SN ?_;simp;refine OT (au:=a.map (ag 1 r)) (am:=([([]:List Int)]:List (List Int)).map (ag 1 r)) (l1:=[(8,6)]) (l2:=[(29,0)]) (X:=1) ?_;simp;exact ek H (hw:=YR [((8,3),some (94,0)),((8,4),some (75,0)),((8,5),some (85,0)),((8,6),some (100,0))] [] rfl ad)
 exact ah [.cell 6 142,.tmp 7] (ms f H)
theorem Vb(A:ZU)(C:List Int)(g:R 2318336 A)(S:R 2318336 C):Sd 94 [A.row,rL 1 r C] [(J1 A C).1.row,rB (J1 A C).2]:=by have f:=me (J1.eq_1 A C);refine ar func94 ntmps94 ?_;refine aw ac ?_;refine aa (Z7.rd (sU A (by exact B g))) ?_;refine ai [true,false,false,false,false] (M2 _ A.c C (by exact ZJ au (FW g)) (by exact B (ZU.JM g)) (by exact B S)) ?_;exact ah _ f
theorem TB(h:b)(k:a:=by(intros;first|omega|with_unfolding_all (first|(have o:(I A.b U).size<=2097152:=ZY (i:=U) g.2.2.1;omega))|exact wt)):a/\b:=⟨k,h⟩
theorem DH(A:t)(g:R 2097152 A):c 95 [A.row] [rS (xo A)]:=by
 have f:=me (xo.eq_1 A);refine so func95 ntmps95 ?_;refine aa (XP A.e) ?_;refine aq (QU.eq_2 A) (fun J U=>Z6 42 [eX 1 (A.row.map .d),(3,.one (.d (.str J)),[]),eI 4 (U:Int)]) (fun K J U=>A.a.length<K+U/\J.size<=24+2097156*U) (A.a.length+1) (XK A.e) 0 (fun p1 J U H j1=>?_) (v:=by exact⟨Y,ab,Yn A.e⟩);refine aj H ?_ ?_<;>intro k2 M H
 ·have w:=ix M;have m2:=ml A.a (k2 10 _ rfl);have c1:=sl 2097152 A.a g;have D:=wr U;simp[w,ZH];refine aj H ?_ ?_<;>intro k3 Z H
  ·simp;repeat with_reducible refine TB ?_
   exact ay D H
  refine aF H ?_ ?_<;>intro k4 h3 H
  ·have V:=ix h3;have m4:=ml A.b (k4 29 _ rfl);have c2:=sl 2097152 A.b g;have w2:=wr U;simp[V,ZH];repeat with_reducible refine TB ?_
   exact ay w2 H (v:=by(have o:(I A.b U).size<=2097152:=ZY (i:=U) g.2.2.1;(try dsimp only);refine⟨Y,Y,?_⟩;simp;omega))
  simp;repeat with_reducible refine TB ?_
  exact ay D H
 exact rt _ (ms f H)
theorem uO(A:t)(g:R 2334720 A):c 301 [A.row] [rB (WL A)]:=by
 have f:=me (WL.eq_1 A);refine so func301 ntmps301 ?_;refine aa (YP (A.a.length:Int) 1 6) ?_;refine aF f ?_ ?_<;>intro k1 M f
 ·have q1:=M;try simp[Z1]at q1
  simp;exact rt [.tmp 2] f
 have q1:=M;try simp[Z1]at q1
 simp;refine bX fun k2=>?_;refine bu (Jd.eq_2 A) (fun J U y=>Z6 129 [eX 1 (A.row.map .d),eI 3 (A.a.length:Int),(4,.one (.O 4 0),[.box [.d (.int .i64 A.e),.E 4 2 0 U.length,.E 4 3 0 y.length],.none,.arr false 1 (U.map N),.arr false 1 (y.map r)]),eI 5 (J:Int)]) (fun K J U y=>A.a.length<K+J/\J<=A.a.length/\U.length<=0+1*J/\y.length<=0+1*J) (A.a.length+1) 0 ([]:List ByteArray) ([]:List Int) (fun p1 J U y H j1=>?_) (h0:=az [((4,2),none),((4,3),none)] []);refine aj H ?_ ?_<;>intro k3 Z H
 ·have w:=ix Z;have m2:=ml A.a (k2 7 _ rfl);have c1:=sl 2334720 A.a g;have D:=wr J;refine xp w ?_;refine cF H ?_ ?_<;>intro k4 h3 H
  ·refine aW fun k5=>?_;refine ae ac ?_;have V:=ik J A.b
   refine xp V ?_;refine ae ac ?_;have i3:=ik J A.d
   refine xp i3 ?_;refine ae ac ?_;refine xp w ?_;refine aK ?_ ?_<;>intro G
   ·have i4:=ik J A.f;refine xg i4 ?_;refine aJ G ?_ ?_<;>intro G
    ·try(simp at G;done)
     all_goals
      refine xg w ?_;refine aJ G ?_ ?_<;>intro G
      ·try(simp at G;done)
       all_goals
        refine xg i4 ?_;refine aJ G ?_ ?_<;>intro G
        ·try(simp at G;done)
         all_goals
          refine xg V ?_;refine aJ G ?_ ?_<;>intro G
          ·try(simp at G;done)
           all_goals
            refine xg i3 ?_;refine cK H ?_ ?_<;>intro k8 h4 H
            ·simp[G]at h4
            ·simp[G]at h4
          ·try(simp at G;done)
           all_goals
            refine cK H ?_ ?_<;>intro L h5 H
            ·simp[G]at h5
            ·simp[G]at h5
        ·try(simp at G;done)
         all_goals
          refine aJ G ?_ ?_<;>intro G
          ·try(simp at G;done)
           all_goals
            refine xg i3 ?_;refine cK H ?_ ?_<;>intro af h6 H
            ·simp[G]at h6
            ·simp[G]at h6
          ·try(simp at G;done)
           all_goals
            refine cK H ?_ ?_<;>intro ao h7 H
            ·simp[G]at h7
            ·simp[G]at h7
      ·try(simp at G;done)
       all_goals
        refine aR ?_;refine aR ?_;refine cK H ?_ ?_<;>intro d h8 H
        ·simp[G]at h8
        ·exact be H (hw:=YR [((4,2),some (54,0)),((4,3),some (64,0))] [] rfl bv)
    ·try(simp at G;done)
     all_goals
      refine aR ?_;refine aR ?_;refine aR ?_;refine cK H ?_ ?_<;>intro ad h9 H
      ·exact O [.tmp 2] (ms f H)
      ·simp[G]at h9
   ·refine aJ G ?_ ?_<;>intro G
    ·try(simp at G;done)
     all_goals
      refine xg w ?_;refine aJ G ?_ ?_<;>intro G
      ·try(simp at G;done)
       all_goals
        have i6:=ik J A.f;refine xg i6 ?_;refine aJ G ?_ ?_<;>intro G
        ·try(simp at G;done)
         all_goals
          refine xg V ?_;refine aJ G ?_ ?_<;>intro G
          ·try(simp at G;done)
           all_goals
            refine xg i3 ?_;refine cK H ?_ ?_<;>intro av al H
            ·exact O [.tmp 2] (ms f H)
            ·exact be H (hw:=YR [((4,2),some (54,0)),((4,3),some (64,0))] [] rfl bv)
          ·try(simp at G;done)
           all_goals
            refine cK H ?_ ?_<;>intro v ah H
            ·exact O [.tmp 2] (ms f H)
            ·simp[G]at ah
        ·try(simp at G;done)
         all_goals
          refine aJ G ?_ ?_<;>intro G
          ·try(simp at G;done)
           all_goals
            refine xg i3 ?_;refine cK H ?_ ?_<;>intro ag ap H
            ·simp[G]at ap
            ·simp[G]at ap
          ·try(simp at G;done)
           all_goals
            refine cK H ?_ ?_<;>intro ax i H
            ·exact O [.tmp 2] (ms f H)
            ·simp[G]at i
      ·try(simp at G;done)
       all_goals
        refine aR ?_;refine aR ?_;refine cK H ?_ ?_<;>intro ai T H
        ·simp[G]at T
        ·simp[G]at T
    ·try(simp at G;done)
     all_goals
      refine aR ?_;refine aR ?_;refine aR ?_;refine cK H ?_ ?_<;>intro aq b H
      ·simp[G]at b
      ·simp[G]at b
  refine ae ac ?_;refine xp w ?_;refine aK ?_ ?_<;>intro G
  ·have j:=ik J A.f;refine xg j ?_;refine aJ G ?_ ?_<;>intro G
   ·try(simp at G;done)
    all_goals
     refine xg w ?_;refine aJ G ?_ ?_<;>intro G
     ·try(simp at G;done)
      all_goals
       refine xg j ?_;refine aJ G ?_ ?_<;>intro G
       ·try(simp at G;done)
        all_goals
         have o:=ik J A.b;refine xg o ?_;refine aJ G ?_ ?_<;>intro G
         ·try(simp at G;done)
          all_goals
           have E:=ik J A.d;refine xg E ?_;refine cK H ?_ ?_<;>intro ay S H
           ·simp[G]at S
           ·simp[G]at S
         ·try(simp at G;done)
          all_goals
           refine cK H ?_ ?_<;>intro au q H
           ·simp[G]at q
           ·simp[G]at q
       ·try(simp at G;done)
        all_goals
         refine aJ G ?_ ?_<;>intro G
         ·try(simp at G;done)
          all_goals
           have l:=ik J A.d;refine xg l ?_;refine cK H ?_ ?_<;>intro X a H
           ·simp[G]at a
           ·simp[G]at a
         ·try(simp at G;done)
          all_goals
           refine cK H ?_ ?_<;>intro ar B H
           ·simp[G]at B
           ·simp[G]at B
     ·try(simp at G;done)
      all_goals
       refine aR ?_;refine aR ?_;refine cK H ?_ ?_<;>intro aQ Y H
       ·simp[G]at Y
       ·exact a3 (an D G) H
   ·try(simp at G;done)
    all_goals
     refine aR ?_;refine aR ?_;refine aR ?_;refine cK H ?_ ?_<;>intro aM n H
     ·exact O [.tmp 2] (ms f H)
     ·simp[G]at n
  ·refine aJ G ?_ ?_<;>intro G
   ·try(simp at G;done)
    all_goals
     refine xg w ?_;refine aJ G ?_ ?_<;>intro G
     ·try(simp at G;done)
      all_goals
       have aB:=ik J A.f;refine xg aB ?_;refine aJ G ?_ ?_<;>intro G
       ·try(simp at G;done)
        all_goals
         have aw:=ik J A.b;refine xg aw ?_;refine aJ G ?_ ?_<;>intro G
         ·try(simp at G;done)
          all_goals
           have aE:=ik J A.d;refine xg aE ?_;refine cK H ?_ ?_<;>intro aI P H
           ·exact O [.tmp 2] (ms f H)
           ·exact a3 (an D G) H
         ·try(simp at G;done)
          all_goals
           refine cK H ?_ ?_<;>intro aH Q H
           ·exact O [.tmp 2] (ms f H)
           ·simp[G]at Q
       ·try(simp at G;done)
        all_goals
         refine aJ G ?_ ?_<;>intro G
         ·try(simp at G;done)
          all_goals
           have am:=ik J A.d;refine xg am ?_;refine cK H ?_ ?_<;>intro aO I H
           ·simp[G]at I
           ·simp[G]at I
         ·try(simp at G;done)
          all_goals
           refine cK H ?_ ?_<;>intro aN aG H
           ·exact O [.tmp 2] (ms f H)
           ·simp[G]at aG
     ·try(simp at G;done)
      all_goals
       refine aR ?_;refine aR ?_;refine cK H ?_ ?_<;>intro aP C H
       ·simp[G]at C
       ·simp[G]at C
   ·try(simp at G;done)
    all_goals
     refine aR ?_;refine aR ?_;refine aR ?_;refine cK H ?_ ?_<;>intro aL s H
     ·simp[G]at s
     ·simp[G]at s
 have c2:=sl 2334720 A.a g;have f:=ms f H;refine aa (W2 (ZO.mk A.e U y)) ?_;refine ak (fun p=>YP A.e 0 999) ?_;exact rt [.tmp 2] f
end Go.Proofs.YtifogammcgmjpaaGreat
