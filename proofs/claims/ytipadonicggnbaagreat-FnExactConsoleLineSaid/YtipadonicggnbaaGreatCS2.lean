/- Contracts of the functions Hb the abstract machine, part S2. No condition. -/
import Derived.Test.YtipadonicggnbaaGreatCS1
namespace Go.Proofs.YtipadonicggnbaaGreat
open Tryz
open Go.Vm Go.Mo
set_option maxHeartbeats 1000000
set_option maxRecDepth 100000
set_option linter.unusedSimpArgs false
set_option linter.unusedVariables false
variable{a b:Prop}
theorem AC(h:b)(k:a:=by(intros;first|omega|with_unfolding_all (first|first|omega|(simp at I;have z:=L (C E 2) (Eg Y);omega))|exact wt)):a/\b:=⟨k,h⟩
theorem Yl(h:b)(k:a:=by(intros;first|omega|with_unfolding_all (first|first|omega|(simp at I;have z:=L (C E 2) (Eg Y);omega))|(simp_all;done)|(simp_all;omega)|grind|exact wt)):a/\b:=⟨k,h⟩
theorem tV(A:ZF)(E:List ByteArray)(g:R 2285568 A)(w:R 2285568 E)(L:∀x∈E,0<x.size):Sa 18 [A.row,Z 1 sR E] [(Vp A E).1.row,rS (Vp A E).2]:=by
 have f:=me (Vp.eq_1 A E);refine(so func18 ntmps18)<|(bg f) ?_ ?_<;>intro k1 I f
 ·exact(ah qW (XA A (sg g)))<|rt _ f
 have N:2<E.length:=bP;simp[N,ZG];repeat with_reducible refine AC ?_
 refine(bE) ?_ ?_<;>intro B
 ·have o:=B;have g1:=B;try simp at g1
  simp[B];refine(a1) ?_;refine(aA f) ?_ ?_<;>intro k2 X f
  ·try(simp[B]at X;done)
   all_goals
    have i2:1<E.length:=bP;simp[i2,ZG,B];refine(a1) ?_;refine(cR (zj (C E 1) bX))<|?_;simp[B];refine(a1) ?_;refine(cR (zj ((C E 2).extract 1 (C E 2).size) bX))<|?_;simp[B];refine(a1) ?_;refine(cR (YJ.rd (jf (E.drop 3) dy)))<|?_;simp[B];refine(a1) ?_;refine(aA f) ?_ ?_<;>intro k3 h3 f
    ·try(simp[B]at h3;done)
     all_goals
      simp[B];refine(a1) ?_;refine(cD qW (XA A (sg g)))<|?_;simp[B];refine(a1) ?_;exact s _ f
    ·try(simp[B]at h3;done)
     all_goals
      simp[B];refine(a1) ?_;refine(cR (Ta A (YT.mk 5 (YY (C E 1)).1 (W ((-1)*(YY ((C E 2).extract 1 (C E 2).size)).1)) 0 0 (ZV.mk 0 ([]:List ByteArray) ([]:List Int)) (Z5 (E.drop 3)).1) cJ cJ))<|?_;simp[B];refine(a1) ?_;exact s _ f
  ·try(simp[B]at X;done)
   all_goals
    have i3:1<E.length:=bP;simp[i3,ZG,B];refine(a1) ?_;refine(cR (zj (C E 1) bX))<|?_;simp[B];refine(a1) ?_;refine(cR (zj (C E 2) bX))<|?_;simp[B];refine(a1) ?_;refine(cR (YJ.rd (jf (E.drop 3) dy)))<|?_;simp[B];refine(a1) ?_;refine(aA f) ?_ ?_<;>intro k4 h4 f
    ·try(simp[B]at h4;done)
     all_goals
      simp[B];refine(a1) ?_;refine(cD qW (XA A (sg g)))<|?_;simp[B];refine(a1) ?_;exact s _ f
    ·try(simp[B]at h4;done)
     all_goals
      simp[B];refine(a1) ?_;refine(cR (Ta A (YT.mk 5 (YY (C E 1)).1 (W (1*(YY (C E 2)).1)) 0 0 (ZV.mk 0 ([]:List ByteArray) ([]:List Int)) (Z5 (E.drop 3)).1) cJ cJ))<|?_;simp[B];refine(a1) ?_;exact s _ f
 ·have o:=B;simp[B];refine(a1) ?_;refine(aA f) ?_ ?_<;>intro k5 h5 f
  ·try(simp[B]at h5;done)
   all_goals
    have i4:1<E.length:=bP;simp[i4,ZG,B];refine(a1) ?_;refine(cR (zj (C E 1) bX))<|?_;simp[B];refine(a1) ?_;refine(cR (zj ((C E 2).extract 1 (C E 2).size) bX))<|?_;simp[B];refine(a1) ?_;refine(cR (YJ.rd (jf (E.drop 3) dy)))<|?_;simp[B];refine(a1) ?_;refine(aA f) ?_ ?_<;>intro k6 h6 f
    ·try(simp[B]at h6;done)
     all_goals
      simp[B];refine(a1) ?_;refine(cD qW (XA A (sg g)))<|?_;simp[B];refine(a1) ?_;exact s _ f
    ·try(simp[B]at h6;done)
     all_goals
      simp[B];refine(a1) ?_;refine(cR (Ta A (YT.mk 5 (YY (C E 1)).1 (W ((-1)*(YY ((C E 2).extract 1 (C E 2).size)).1)) 0 0 (ZV.mk 0 ([]:List ByteArray) ([]:List Int)) (Z5 (E.drop 3)).1) cJ cJ))<|?_;simp[B];refine(a1) ?_;exact s _ f
  ·try(simp[B]at h5;done)
   all_goals
    have d:1<E.length:=bP;simp[d,ZG,B];refine(a1) ?_;refine(cR (zj (C E 1) bX))<|?_;simp[B];refine(a1) ?_;refine(cR (zj (C E 2) bX))<|?_;simp[B];refine(a1) ?_;refine(cR (YJ.rd (jf (E.drop 3) dy)))<|?_;simp[B];refine(a1) ?_;refine(aA f) ?_ ?_<;>intro c h7 f
    ·try(simp[B]at h7;done)
     all_goals
      simp[B];refine(a1) ?_;refine(cD qW (XA A (sg g)))<|?_;simp[B];refine(a1) ?_;exact s _ f
    ·try(simp[B]at h7;done)
     all_goals
      simp[B];refine(a1) ?_;refine(cR (Ta A (YT.mk 5 (YY (C E 1)).1 (W (1*(YY (C E 2)).1)) 0 0 (ZV.mk 0 ([]:List ByteArray) ([]:List Int)) (Z5 (E.drop 3)).1) cJ cJ))<|?_;simp[B];refine(a1) ?_;exact s _ f
theorem vy(A:Int):Sa 51 [rI A] [rS (z3 A)]:=by
 have f:=me (z3.eq_1 A);refine so func51 ntmps51∘aa (YX A 1 10)<|(aF f) ?_ ?_<;>intro k1 I f
 ·have q1:=I;try simp[ZJ]at q1
  simp;exact rt _ f
 have q1:=I;try simp[ZJ]at q1
 have N:=ik A.toNat ([(⟨#[]⟩:ByteArray),(⟨#[116,105,99,107]⟩:ByteArray),(⟨#[115,105,103,110]⟩:ByteArray),(⟨#[97,110,115,119,101,114]⟩:ByteArray),(⟨#[114,101,118,111,107,101]⟩:ByteArray),(⟨#[114,101,110,101,119]⟩:ByteArray),(⟨#[109,111,118,101]⟩:ByteArray),(⟨#[102,111,114,103,101,116]⟩:ByteArray),(⟨#[102,111,114,103,101]⟩:ByteArray),(⟨#[98,97,99,107,100,97,116,101]⟩:ByteArray),(⟨#[102,97,107,101]⟩:ByteArray)]:List ByteArray);have r1:=ZG (f:=sR) N;try simp at r1
 exact(xp r1)<|rt _ f
theorem NJ(h:b)(k:a:=by(intros;first|omega|with_unfolding_all (first|first|omega|(simp at I;omega)|(have z:=Z7 (zg (n:=2285568) (A:=E.tail) (by have:=Z7 w;rw[List.length_tail];omega));first|omega|(simp;omega)))|exact wt)):a/\b:=⟨k,h⟩
theorem Ji(h:b)(k:a:=by(intros;first|omega|with_unfolding_all (first|first|omega|(simp at I;omega)|(have z:=Z7 (zg (n:=2285568) (A:=E.tail) (by have:=Z7 w;rw[List.length_tail];omega));first|omega|(simp;omega)))|(simp_all;done)|(simp_all;omega)|grind|exact wt)):a/\b:=⟨k,h⟩
theorem rb(A:ZF)(E:List ByteArray)(g:R 2285568 A)(w:R 2285568 E)(L:0<E.length):Sa 19 [A.row,Z 1 sR E] [(yV A E).1.row,rS (yV A E).2.1,rB (yV A E).2.2]:=by
 have f:=me (yV.eq_1 A E);refine so func19 ntmps19∘aG (jP.eq_2 A E) (fun J=>Z3 76 [eL 1 1 E sR,eX 2 (A.row.map .d),(4,.one (.Z 4 0),[.box [.nil 5,.nil 3,.nil 4,.d (.int .i64 0),.d (.int .i64 0),.nil 7,.nil 1,.nil 2,.nil 1,.nil 1,.d (.int .i64 0),.nil 1]]),(7,.one (.O 14 0 0 7),[]),(8,.one (.O 15 0 0 7),[]),eI 9 (J:Int),(14,.any,[.arr false 1 (([1,3,4,7,6,9,10]:List Int).map S)]),(15,.any,[.arr false 1 (([1,1,1,1,3,2,2]:List Int).map S)])]) (fun D J=>7<D+J) 8 0<|fun p1 J H T=>?_;try dsimp only at T
 refine(cF H) ?_ ?_<;>intro k2 I H
 ·have K:=wr J;refine(ac P)<|?_;have i2:J<([1,3,4,7,6,9,10]:List Int).length:=cx;have r1:=ZG (f:=S) i2;try simp at r1
  simp[i2,r1,ZG];repeat with_reducible refine NJ ?_
  refine(cR (vy (C ([1,3,4,7,6,9,10]:List Int) J)))<|?_;have i3:0<E.length:=cx
  simp[i3,ZG];repeat with_reducible refine NJ ?_
  refine(bg H) ?_ ?_<;>intro k4 X H
  ·exact aE K H
  simp;repeat with_reducible refine NJ ?_
  refine(ah [false] (jf (E.tail) (by exact sg (Eb w))))<|(bE) ?_ ?_<;>intro B
  ·have o:=B;have g1:=B;try simp at g1
   have i4:J<([1,1,1,1,3,2,2]:List Int).length:=cx;have r2:=ZG (f:=S) i4;try simp at r2
   simp[i4,r2,ZG,B];refine(bZ) ?_;refine(aA H) ?_ ?_<;>intro k5 h3 H
   ·try(simp[B]at h3;done)
    all_goals
     simp[B];refine(bZ) ?_;refine(cD qW (XA A (sg g)))<|?_;have f:=ms f H
     simp[B];refine(bZ) ?_;exact s _ f
   ·try(simp[B]at h3;done)
    all_goals
     simp[B];refine(bZ) ?_;refine(ac P)<|?_;have d:0<((Z5 (E.tail)).1++([0,0]:List Int)).length:=cx
     have a:=ZG (f:=S) d;try simp at a
     have i6:1<((Z5 (E.tail)).1++([0,0]:List Int)).length:=cx;have i:=ZG (f:=S) i6;try simp at i
     have i7:2<((Z5 (E.tail)).1++([0,0]:List Int)).length:=cx;have j:=ZG (f:=S) i7;try simp at j
     simp[i2,r1,ZG,d,a,i6,i,i7,j,B];refine(bZ) ?_;refine(cR (Ta A (YT.mk (C ([1,3,4,7,6,9,10]:List Int) J) (C ((Z5 (E.tail)).1++([0,0]:List Int)) 0) (C ((Z5 (E.tail)).1++([0,0]:List Int)) 1) (C ((Z5 (E.tail)).1++([0,0]:List Int)) 2) 0 (ZV.mk 0 ([]:List ByteArray) ([]:List Int)) ([]:List Int)) bu bu))<|?_;have f:=ms f H
     simp[B];refine(bZ) ?_;exact s _ f
  ·have o:=B;simp[B];refine(bZ) ?_;refine(aA H) ?_ ?_<;>intro c h4 H
   ·try(simp[B]at h4;done)
    all_goals
     simp[B];refine(bZ) ?_;refine(cD qW (XA A (sg g)))<|?_;have f:=ms f H
     simp[B];refine(bZ) ?_;exact s _ f
   ·try(simp[B]at h4;done)
    all_goals
     simp[B];refine(bZ) ?_;refine(ac P)<|?_;have q:0<((Z5 (E.tail)).1++([0,0]:List Int)).length:=cx
     have b:=ZG (f:=S) q;try simp at b
     have af:1<((Z5 (E.tail)).1++([0,0]:List Int)).length:=cx;have l:=ZG (f:=S) af;try simp at l
     have ad:2<((Z5 (E.tail)).1++([0,0]:List Int)).length:=cx;have m:=ZG (f:=S) ad;try simp at m
     simp[i2,r1,ZG,q,b,af,l,ad,m,B];refine(bZ) ?_;refine(cR (Ta A (YT.mk (C ([1,3,4,7,6,9,10]:List Int) J) (C ((Z5 (E.tail)).1++([0,0]:List Int)) 0) (C ((Z5 (E.tail)).1++([0,0]:List Int)) 1) (C ((Z5 (E.tail)).1++([0,0]:List Int)) 2) 0 (ZV.mk 0 ([]:List ByteArray) ([]:List Int)) ([]:List Int)) bu bu))<|?_;have f:=ms f H
     simp[B];refine(bZ) ?_;exact s _ f
 have f:=ms f H;exact(ah qW (XA A (sg g)))<|rt _ f
theorem FC(A:List Z8)(E G:Int):Sa 106 [Z 4 Z8.row A,rI E,rI G] [rB (Tf A E G)]:=by
 rw[<-mA];have f:=me (Dz.eq_1 A E G)
 refine so func106 ntmps106∘aa (S5 A E)<|(aM) ?_ ?_<;>intro B
 ·have N:(XL A E).toNat<A.length:=c7;refine(l N)<|(aI B) ?_ ?_<;>intro B
  ·all_goals
    exact(l N)<|s _ f
  ·all_goals
    exact s _ f
 ·refine(aI B) ?_ ?_<;>intro B
  ·try(simp at B;done)
   all_goals
    have i3:(XL A E).toNat<A.length:=c7;exact(l i3)<|s _ f
  ·all_goals
    exact s _ f
theorem WR(A:List Z8)(E:Int):Sa 107 [Z 4 Z8.row A,rI E] [rI (Wi A E)]:=by have f:=me (Wi.eq_1 A E);refine so func107 ntmps107∘aa (S5 A E)∘bC f<|fun k1 I f=>?_;have N:(XL A E).toNat<A.length:=c7;exact(xp N)<|rt _ f
theorem L1(A:ZP)(g:R 2334720 A):y 53 [A.row] [Z 1 S (Qk A)]:=by
 rw[<-Im];have f:=me (Oe.eq_1 A)
 refine ao func53 ntmps53∘ap (zK.eq_2 A) (fun J U=>Z3 73 [eX 1 (A.row.map .d),(3,.one (.O 3 0 0 J.length),[.arr false 1 (J.map S)]),eI 4 (U:Int)]) (fun D J U=>A.b.length<D+U/\U<=A.b.length/\J.length<=0+1*U) (A.b.length+1) ([]:List Int) 0 (h0:=aw [((3,0),some (6,0))] [])<|fun p1 J U H T=>(cF H) ?_ ?_<;>intro k2 I H
 ·have N:=ix I;have m2:=ml A.b (k2 9 _ rfl);have c1:=sl 2334720 A.b g;have K:=wr U;refine ac P∘xp N∘aa (QA A.a (C A.b U).c)∘av P<|(aM) ?_ ?_<;>intro B
  ·have i2:(Zi A.a (C A.b U).c).toNat<A.a.length:=eM;refine(l i2)<|(aI B) ?_ ?_<;>intro B
   ·all_goals
     refine l i2∘aS (fun gg=>FC A.c (C A.a (Zi A.a (C A.b U).c).toNat).b A.d)<|(aI B) ?_ ?_<;>intro B
     ·all_goals
       refine l i2∘aS (fun gg=>WR A.c (C A.a (Zi A.a (C A.b U).c).toNat).b)<|(ba H) ?_ ?_<;>intro k5 X H
       ·refine(l N)<|?_;exact ay H (hw:=Ya [((3,0),some (71,0))] [] rfl bG)
       ·exact au (an K B) H
     ·all_goals
       refine aO∘aL<|(ba H) ?_ ?_<;>intro k6 h3 H
       ·simp[B]at h3
       ·exact au (an K B) H
   ·all_goals
     refine aO∘aL<|(aI B) ?_ ?_<;>intro B
     ·try(simp at B;done)
      all_goals
       refine l i2∘aS (fun gg=>WR A.c (C A.a (Zi A.a (C A.b U).c).toNat).b)<|(ba H) ?_ ?_<;>intro c h4 H
       ·simp[B]at h4
       ·simp[B]at h4
     ·all_goals
       refine aO∘aL<|(ba H) ?_ ?_<;>intro k8 h5 H
       ·simp[B]at h5
       ·exact au (an K B) H
  ·refine(aI B) ?_ ?_<;>intro B
   ·try(simp at B;done)
    all_goals
     have i4:(Zi A.a (C A.b U).c).toNat<A.a.length:=eM;refine l i4∘aS (fun gg=>FC A.c (C A.a (Zi A.a (C A.b U).c).toNat).b A.d)<|(aI B) ?_ ?_<;>intro B
     ·try(simp at B;done)
      all_goals
       refine l i4∘aS (fun gg=>WR A.c (C A.a (Zi A.a (C A.b U).c).toNat).b)<|(ba H) ?_ ?_<;>intro k9 h6 H
       ·simp[B]at h6
       ·simp[B]at h6
     ·try(simp at B;done)
      all_goals
       refine aO∘aL<|(ba H) ?_ ?_<;>intro al h7 H
       ·simp[B]at h7
       ·simp[B]at h7
   ·all_goals
     refine aO∘aL<|(aI B) ?_ ?_<;>intro B
     ·try(simp at B;done)
      all_goals
       have i6:(Zi A.a (C A.b U).c).toNat<A.a.length:=eM;refine l i6∘aS (fun gg=>WR A.c (C A.a (Zi A.a (C A.b U).c).toNat).b)<|(ba H) ?_ ?_<;>intro ar h8 H
       ·simp[B]at h8
       ·simp[B]at h8
     ·all_goals
       refine aO∘aL<|(ba H) ?_ ?_<;>intro v h9 H
       ·simp[B]at h9
       ·exact au (an K B) H
 exact ag _ (ms f H)
theorem Mc(h:b)(k:a:=by(intros;first|omega|with_unfolding_all (first|first|omega|(simp;omega))|exact wt)):a/\b:=⟨k,h⟩
theorem M3(A:List Int)(g:R 2338816 A):Sa 52 [Z 1 S A] [rS (zG A)]:=by
 rw[<-nR];have f:=me (CJ.eq_1 A)
 refine so func52 ntmps52∘ap (UB.eq_2 A) (fun J U=>Z3 25 [eL 0 1 A S,(3,.one (.d (.str J)),[]),eI 4 (U:Int)]) (fun D J U=>A.length<D+U/\U<=A.length/\J.size<=25*U) (A.length+1) (⟨#[]⟩:ByteArray) 0 (v:=by exact⟨Y,Y,Y,Nat.zero_le _⟩)<|fun p1 J U H T=>(cF H) ?_ ?_<;>intro k2 I H
 ·have N:=ix I;have m2:=ml A (k2 0 _ rfl);have c1:=sl 2338816 A g;have K:=wr U;refine(aF H) ?_ ?_<;>intro k3 X H
  ·simp[N,ZG];repeat with_reducible refine Mc ?_
   refine(cR (XV (C A U)))<|?_;have o1:=Z2 (C A U)
   simp;repeat with_reducible refine Mc ?_
   exact au K H
  simp[N,ZG];refine(cR (XV (C A U)))<|?_;have V:=Z2 (C A U)
  simp;repeat with_reducible refine Mc ?_
  exact au K H
 have f:=ms f H;exact(cQ f)<|fun k4 h3 f=>rt _ f
theorem Cj(A E:List ZW)(g:R 2342912 E)(w:A.length+E.length<=67108900):CM prog 185 5 (A.map ZW.row) [Z 5 ZW.row E] ((R6 A E).map ZW.row):=by
 refine p9 func185 rfl ai cd ?_;simp[ntmps185];refine cj fun k1=>?_;refine fv (ι:={s:Nat×List ZW×Nat//zW E s.1 s.2.1 s.2.2=zW E (E.length+1) A 0/\(1<=s.1/\E.length<s.1+s.2.2/\s.2.2<=E.length/\s.2.1.length<=A.length+s.2.2)}) (fun s=>Z3 42 [(0,.one (.O 0 0 0 s.1.2.1.length),[.arr false 5 (s.1.2.1.map ZW.row)]),eL 1 5 E ZW.row,eI 5 (s.1.2.2:Int)]) (fun s=>s.1.1) ⟨(E.length+1,A,0),rfl,by first|omega|(dsimp only;omega)|simp⟩ (Qu ab) ?_;rintro⟨⟨D,J,U⟩,H,T⟩;try dsimp only at H T
 obtain⟨p1,rfl⟩:∃p,D=p+1:=⟨D-1,Y⟩;simp;refine(cP (decide ((U:Int)<(E.length:Int)))) (fun k2 I=>?_) (fun k2 I=>?_)
 ·have q1:=I;try simp at q1
  have N:U<E.length:=e8;have m2:E.length<=9223372036854775807:=by simpa using k2 1 _ rfl
  have c1:E.length<=2342912:=Z7 (xs (an g w));have K:IntKind.i64.wrap ((U:Int)+1)=(U:Int)+1:=YF Y Y;simp;refine cj fun k3=>?_;refine fv (ι:={s:Nat×Bool×Nat//qB E J U s.1 s.2.1 s.2.2=qB E J U (J.length+1) false 0/\(1<=s.1/\J.length<s.1+s.2.2/\s.2.2<=J.length)}) (fun s=>Z3 42 [(0,.one (.O 0 0 0 J.length),[.arr false 5 (J.map ZW.row)]),eL 1 5 E ZW.row,eI 5 (U:Int),eB 6 s.1.2.1,eI 7 (s.1.2.2:Int)]) (fun s=>s.1.1) ⟨(J.length+1,false,0),rfl,by first|omega|(dsimp only;omega)|simp⟩ (Qu ab) ?_;rintro⟨⟨n2,q,n⟩,e2,j2⟩;try dsimp only at e2 j2
  obtain⟨p2,rfl⟩:∃p,n2=p+1:=⟨n2-1,Y⟩;simp;refine(cP (decide ((n:Int)<(J.length:Int)))) (fun k4 X=>?_) (fun k4 X=>?_)
  ·have q2:=X;try simp at q2
   have i2:n<J.length:=eU;have m4:J.length<=9223372036854775807:=by simpa using k4 0 _ rfl
   have w2:IntKind.i64.wrap ((n:Int)+1)=(n:Int)+1:=YF Y Y;simp;refine aY fun k5=>?_;refine fe P ai ai ?_;simp;refine G0 rfl rfl rfl rfl rfl ab (fun g1=>?_) (fun g1=>?_)
   ·have o:=g1;try simp only[beq_true,beq_false,Bool.not_eq_true',Bool.not_eq_false',Bool.true_and,Bool.and_true]at o
    try simp at g1
    simp[i2,ZG,o];refine(aC)<|?_;refine G0 rfl rfl rfl rfl rfl ab (fun _=>?_) (fun g0=>by simp[o]at g0);simp[N,ZG,o];refine(aC)<|?_;refine gw ⟨(p2,q||(((C J n).a==(C E U).a)&&(((C J n).c==(C E U).c)&&(((C J n).b==(C E U).b)&&(((C J n).e==(C E U).e)&&((C J n).f==(C E U).f))))),n+1),?_,?_⟩ ab (Qu (by simp[K,w2,o]))
    ·rw[<-e2];simp only[qB,X,Xe,XK]
    ·first|omega|(simp at*;omega)
   ·have o:=g1;try simp only[beq_true,beq_false,Bool.not_eq_true',Bool.not_eq_false',Bool.true_and,Bool.and_true]at o
    simp[o];refine(aC)<|?_;refine fg rfl rfl rfl rfl ab (by simp[o]) ?_;simp[o];refine(aC)<|?_;refine gw ⟨(p2,q||(((C J n).a==(C E U).a)&&(((C J n).c==(C E U).c)&&(((C J n).b==(C E U).b)&&(((C J n).e==(C E U).e)&&((C J n).f==(C E U).f))))),n+1),?_,?_⟩ ab (Qu (by simp[K,w2,o]))
    ·rw[<-e2];simp only[qB,X,Xe,XK]
    ·first|omega|(simp at*;omega)
  ·have q2:=X;try simp at q2
   have b:qB E J U (J.length+1) false 0=q:=by rw[<-e2];simp only[qB,X,Xe,XK]
   simp;refine(cP (!q)) (fun k6 h3=>?_) (fun k6 h3=>?_)
   ·have q3:=h3;try simp at q3
    refine(xp N)<|?_;refine gw ⟨(p1,J++([C E U]:List ZW),U+1),?_,?_⟩ ab (Ya [((0,0),some (40,0))] [] rfl ad)
    ·rw[<-H];simp only[zW,I,b,h3,Xe,XK]
    ·first|omega|(simp at*;omega)
   ·have q3:=h3;try simp at q3
    simp;refine gw ⟨(p1,J,U+1),?_,?_⟩ ab (Qu ad)
    ·rw[<-H];simp only[zW,I,b,h3,Xe,XK]
    ·first|omega|(simp at*;omega)
 ·have q1:=I;try simp at q1
  have c2:E.length<=2342912:=Z7 (xs (an g w));have y:zW E (E.length+1) A 0=J:=by rw[<-H];simp only[zW,I,Xe,XK]
  simp;refine fO (rv:=[.tmp 4]) (.O 0 0 0 J.length) rfl ?_;have f1:=R6.eq_1 A E;simp only[y,Xe,XK]at f1;simp[f1]
theorem tz(A:M)(g:R 2338816 A)(w:Dx A<=67108900):y 110 [A.row] [Z 5 ZW.row (y7 A)]:=by
 rw[<-rP];have f:=me (Gk.eq_1 A)
 refine ao func110 ntmps110∘ap (Ua.eq_2 A) (fun J U=>Z3 53 [eX 1 (A.row.map .d),(3,.one (.O 3 0 0 J.length),[.arr false 5 (J.map ZW.row)]),eI 4 (U:Int)]) (fun D J U=>A.a.length<D+U/\U<=A.a.length/\J.length+af bw (A.a.drop U)+af List.length A.b<=67108900) (A.a.length+1) ([]:List ZW) 0 (v:=by((try dsimp only);have u:=w;simp only[Dx]at u;simp only[List.length_nil,List.drop_zero];omega)) (h0:=aw [((3,0),some (7,0))] [])<|fun p1 J U H T=>(cF H) ?_ ?_<;>intro k2 I H
 ·have N:=ix I;have m2:=ml A.a (k2 10 _ rfl);have c1:=sl 2338816 A.a (an g w);have K:=wr U;refine(lq (TB.eq_2 A U) (fun q n=>Z3 53 [eX 1 (A.row.map .d),(3,.one (.O 3 0 0 q.length),[.arr false 5 (q.map ZW.row)]),eI 4 (U:Int),eI 5 (n:Int)]) (fun n2 q n=>(C A.a U).b.length<n2+n/\n<=(C A.a U).b.length/\q.length+af (fun r=>r.a.length) ((C A.a U).b.drop n)+af bw (A.a.drop (U+1))+af List.length A.b<=67108900) ((C A.a U).b.length+1) J 0 (v:=by(have d:=tG (l:=A.a) (i:=U) br;(try dsimp only);simp only[bw,List.drop_zero]at d⊢;omega)))<|fun p2 q n e2 j2=>(xp N)<|(ae e2) ?_ ?_<;>intro k4 X e2
  ·have i2:=ix X;have m4:=ml (C A.a U).b (k4 21 _ rfl);have c2:=sl 2338816 (C A.a U).b (an g w);have w2:=wr n;refine xp (an N i2)∘FG rfl rfl rfl rfl rfl rfl rfl (Cj q (C (C A.a U).b n).a (sg (Zc.Tk (Zh (ZY.Qf (Zh (M.Y8 g)))))) iP) ab ab ab ab ab ab ab cd ab (c:=.O 3 0 0 q.length) (L:=[(3,0)])<|?_;simp;exact ay e2 (v:=by(have d:=Pl (l:=(C A.a U).b) (i:=n) br;have z:=EC q (C (C A.a U).b n).a;(try dsimp only);omega)) (hw:=Ya [((3,0),some (37,0))] [] rfl bJ)
  have H:=ms H e2;exact au K H (v:=by(first|omega|((try dsimp only);omega)|(simp at*;omega)))
 have f:=ms f H;refine(ap (Uw.eq_2 A) (fun j O=>Z3 53 [eX 1 (A.row.map .d),(3,.one (.O 3 0 0 j.length),[.arr false 5 (j.map ZW.row)]),eI 6 (O:Int)]) (fun p j O=>A.b.length<p+O/\O<=A.b.length/\j.length+af List.length (A.b.drop O)<=67108900) (A.b.length+1) J 0 (v:=by((try dsimp only);simp only[List.drop_zero];omega)))<|fun p3 j O e3 b=>(ae e3) ?_ ?_<;>intro k6 h3 e3
 ·have i3:=ix h3;have m6:=ml A.b (k6 40 _ rfl);have c5:=sl 2338816 A.b (an g w);have w3:=wr O;refine xp i3∘FG rfl rfl rfl rfl rfl rfl rfl (Cj j (C A.b O) (sg (Zh (M.ki g))) iP) ab ab ab ab ab ab ab cd ab (c:=.O 3 0 0 j.length) (L:=[(3,0)])<|?_;simp;exact ay e3 (v:=by(have d:=Nd (l:=A.b) (i:=O) br;have z:=EC j (C A.b O);(try dsimp only);omega)) (hw:=Ya [((3,0),some (51,0))] [] rfl (by simp[w3]))
 exact ag _ (ms f e3)
theorem PU(h:b)(k:a:=by(intros;first|omega|with_unfolding_all (first|(first|omega|(have d:=Sb (l:=A.a) (i:=J) br;omega)))|exact wt)):a/\b:=⟨k,h⟩
theorem vI(A:ZF)(g:R 2330624 A)(w:aB A.a<=1048576)(L:Dx (M.mk (Qi A) [])<=67108900):y 55 [A.row] [Z 5 ZW.row (z6 A)]:=by
 rw[<-vN];have f:=me (C6.eq_1 A)
 refine ao func55 ntmps55∘ap (kK.eq_2 A) (fun J U=>Z3 43 [eX 1 (A.row.map .d),(3,.one (.Z 3 0),[.box [.O 3 1 0 U.length,.nil 1],.arr false 2 (U.map ZY.row)]),eI 4 (J:Int)]) (fun D J U=>A.a.length<D+J/\J<=A.a.length/\U.length+aB (A.a.drop J)<=1048576) (A.a.length+1) 0 ([]:List ZY) (v:=by((try dsimp only);simp only[List.length_nil,List.drop_zero];omega)) (h0:=aw [((3,1),none)] [])<|fun p1 J U H T=>?_;try dsimp only at T
 refine(cF H) ?_ ?_<;>intro k2 I H
 ·have N:=ix I;have m2:=ml A.a (k2 9 _ rfl);have c1:=sl 2330624 A.a (an g (an w L));have K:=wr J;refine(lq (VM.eq_2 A J) (fun q n=>Z3 43 [eX 1 (A.row.map .d),(3,.one (.Z 3 0),[.box [.O 3 1 0 n.length,.nil 1],.arr false 2 (n.map ZY.row)]),eI 4 (J:Int),eI 5 (q:Int)]) (fun n2 q n=>(C A.a J).a.length<n2+q/\q<=(C A.a J).a.length/\n.length+((C A.a J).a.length-q)+aB (A.a.drop (J+1))<=1048576) ((C A.a J).a.length+1) 0 U (v:=by(have d:=Sb (l:=A.a) (i:=J) br;(try dsimp only);omega)))<|fun p2 q n e2 j2=>?_;try dsimp only at j2
  simp[N,ZG];repeat with_reducible refine PU ?_
  refine(cF e2) ?_ ?_<;>intro k4 X e2
  ·have i2:=ix X;have m4:=ml (C A.a J).a (k4 20 _ rfl);have c2:=sl 2330624 (C A.a J).a (an g (an w L));have w2:=wr q;refine(ac P)<|?_;simp[N,ZG,i2];repeat with_reducible refine PU ?_
   refine aa (YJ.rd (yl (C (C A.a J).a q).a (sg (ZU.YU (Zh (ZE.YO (Zh (ZF.Zz g))))))))∘bB<|?_;refine bz rfl rfl rfl ?_;simp;repeat with_reducible refine PU ?_
   exact ay e2 (v:=by((try dsimp only);simp only[List.length_append,List.length_singleton];omega)) (hw:=Ya [((3,1),some (39,0))] [] rfl bJ)
  have c3:=sl 2330624 (C A.a J).a (an g (an w L));have H:=ms H e2;exact au K H (v:=by(first|omega|((try dsimp only);omega)|(simp at*;omega)))
 have c4:=sl 2330624 A.a (an g (an w L));have f:=ms f H;exact(ah [false] (tz (M.mk U ([]:List (List ZW))) iZ iZ))<|ag _ f
theorem VZ(A:List YZ)(E:List ZX)(G:ZW)(g:R 2318336 A)(w:R 2318336 E):Sa 182 [Z 5 YZ.row A,Z 3 ZX.row E,G.row] [rB (KT A E G)]:=have f:=me (KT.eq_1 A E G);so func182 ntmps182∘aa (TA A E G (sg g) (sg w))<|rt _ f
theorem Dj(A:List YZ)(E:List ZX)(G V:ZW)(g:R 2314240 A)(w:R 2314240 E):Sa 108 [Z 5 YZ.row A,Z 3 ZX.row E,G.row,V.row] [rB (KL A E G V)]:=by
 rw[<-CB];have f:=me (O8.eq_1 A E G V)
 exact so func108 ntmps108∘aa (VZ A E G (sg g) (sg w))∘aj (fun gg=>VZ A E V (sg g) (sg w))∘cQ f<|fun k1 I f=>rt _ f
theorem mO(A:List YZ)(E:List ZX)(G:List ZW)(g:R 2306048 A)(w:R 2306048 E)(L:R 67108900 G):y 54 [Z 5 YZ.row A,Z 3 ZX.row E,Z 5 ZW.row G] [Z 1 S (qg A E G)]:=by
 rw[<-tJ];have f:=me (CW.eq_1 A E G)
 refine ao func54 ntmps54∘ap (V7.eq_2 A E G) (fun J U=>Z3 57 [eL 0 5 A YZ.row,eL 1 3 E ZX.row,eL 2 5 G ZW.row,(7,.one (.O 7 0 0 J.length),[.arr false 1 (J.map S)]),eI 8 (U:Int)]) (fun D J U=>100<D+U/\J.length<=0+1*U) 101 ([]:List Int) 0 (h0:=aw [((7,0),some (12,0))] [])<|fun p1 J U H T=>(cF H) ?_ ?_<;>intro k2 I H
 ·have K:=wr U;refine(ap (UM.eq_2 A E G U) (fun q n=>Z3 57 [eL 0 5 A YZ.row,eL 1 3 E ZX.row,eL 2 5 G ZW.row,(7,.one (.O 7 0 0 J.length),[.arr false 1 (J.map S)]),eI 8 (U:Int),eB 9 q,eI 10 (n:Int)]) (fun n2 q n=>G.length<n2+n/\n<=G.length) (G.length+1) false 0)<|fun p2 q n e2 j2=>(cF e2) ?_ ?_<;>intro k4 X e2
  ·have i2:=ix X;have a:=ml G (k4 2 _ rfl);have c1:=sl 67108900 G (an g (an w L));have w2:=wr n;refine(ap (Se.eq_2 A E G U n) (fun j O=>Z3 57 [eL 0 5 A YZ.row,eL 1 3 E ZX.row,eL 2 5 G ZW.row,(7,.one (.O 7 0 0 J.length),[.arr false 1 (J.map S)]),eI 8 (U:Int),eB 9 j,eI 10 (n:Int),eI 11 (O:Int)]) (fun p j O=>n<p+O/\O<=n/\n<G.length) (n+1) q 0)<|fun p3 j O e3 b=>(aM) ?_ ?_<;>intro B
   ·have g1:=B;try simp at g1
    refine(l i2)<|(cK e3) ?_ ?_<;>intro k6 h3 e3
    ·have w3:=wr O;refine(ca P)<|(aI B) ?_ ?_<;>intro B
     ·all_goals
       have V:=B.2;try simp at V
       all_goals
        refine l i2∘gK<|fun _=>?_;have i4:O<G.length:=br
        refine l i4∘aS (fun gg=>Dj A E (C G n) (C G O) cL cL)<|?_;exact au (an K (an w2 (an w3 B))) e3
     ·all_goals
       refine aW∘aO∘aL<|?_;exact au (an K (an w2 (an w3 B))) e3
    ·have e2:=ms e2 e3;exact au (an K (an w2 B)) e2
   ·refine(cK e3) ?_ ?_<;>intro k8 h4 e3
    ·simp[B]at h4
    ·have e2:=ms e2 e3;exact au (an K (an w2 B)) e2
  have H:=ms H e2;refine(cF H) ?_ ?_<;>intro al h5 H
  ·exact ay H (hw:=Ya [((7,0),some (55,0))] [] rfl ad)
  exact au K H
 exact ag _ (ms f H)
theorem k5(h:b)(k:a:=by(intros;first|omega|with_unfolding_all (first|(first|omega|(have d:=Sb (l:=A.a) (i:=U) br;omega)))|exact wt)):a/\b:=⟨k,h⟩
theorem l7(A:ZF)(g:R 1048576 A)(w:aB A.a<=1048576):y 186 [A.row] [Z 1 S (y4 A)]:=by
 have f:=me (y4.eq_1 A);refine ao func186 ntmps186∘ap (PN.eq_2 A) (fun J U=>Z3 39 [eX 1 (A.row.map .d),(3,.one (.O 3 0 0 J.length),[.arr false 1 (J.map S)]),eI 4 (U:Int)]) (fun D J U=>A.a.length<D+U/\U<=A.a.length/\J.length+aB (A.a.drop U)<=1048576) (A.a.length+1) ([]:List Int) 0 (v:=by((try dsimp only);simp only[List.length_nil,List.drop_zero];omega)) (h0:=aw [((3,0),some (6,0))] [])<|fun p1 J U H T=>(cF H) ?_ ?_<;>intro k2 I H
 ·have N:=ix I;have m2:=ml A.a (k2 9 _ rfl);have c1:=sl 1048576 A.a (an g w);have K:=wr U;refine(lq (R9.eq_2 A U) (fun q n=>Z3 39 [eX 1 (A.row.map .d),(3,.one (.O 3 0 0 q.length),[.arr false 1 (q.map S)]),eI 4 (U:Int),eI 5 (n:Int)]) (fun n2 q n=>(C A.a U).a.length<n2+n/\n<=(C A.a U).a.length/\q.length+((C A.a U).a.length-n)+aB (A.a.drop (U+1))<=1048576) ((C A.a U).a.length+1) J 0 (v:=by(have d:=Sb (l:=A.a) (i:=U) br;(try dsimp only);omega)))<|fun p2 q n e2 j2=>?_;simp[N,ZG];refine(ae e2) ?_ ?_<;>intro k4 X e2
  ·have i2:=ix X;have m4:=ml (C A.a U).a (k4 20 _ rfl);have c2:=sl 1048576 (C A.a U).a (an g w);have w2:=wr n;simp[N,ZG,i2];repeat with_reducible refine k5 ?_
   exact ay e2 (v:=by((try dsimp only);(try simp only[List.length_append,List.length_singleton]);omega)) (hw:=Ya [((3,0),some (37,0))] [] rfl bJ)
  have H:=ms H e2;exact au K H (v:=by(first|omega|((try dsimp only);omega)|(simp at*;omega)))
 exact ag _ (ms f H)
theorem OL(A:ZU)(g:R 2330624 A):So 198 [A.row] [(JB A).row]:=have f:=me (JB.eq_1 A);so func198 ntmps198∘aa (YJ.rd (yl A.a (sg (ZU.YU g))))∘bB<|bT _ f
theorem G3(h:b)(k:a:=by(intros;first|omega|with_unfolding_all (first|(first|omega|(have z:=Z7 (M.Y8 g);omega)))|exact wt)):a/\b:=⟨k,h⟩
theorem Gm(A:M)(E:ZV)(g:R 2314240 A)(w:R 2314240 E):So 344 [A.row,E.row] [Z 1 (aH 1 S) (KX A E)]:=by
 have f:=me (KX.eq_1 A E);refine so func344 ntmps344∘bB∘ap (yG.eq_2 A E) (fun J U=>Z3 26 [eX 2 (A.row.map .d),eX 3 (E.row.map .d),(5,.one (.O 5 0 0 J.length),[.arr false 1 (J.map (aH 1 S))]),eI 6 (U:Int)]) (fun D J U=>A.a.length<D+U/\U<=A.a.length/\J.length<=U) (A.a.length+1) ([]:List (List Int)) 0 (h0:=aw [((5,0),some (7,0))] [])<|fun p1 J U H T=>(cF H) ?_ ?_<;>intro k2 I H
 ·have N:=ix I;have m2:=ml A.a (k2 10 _ rfl);have c1:=sl 2314240 A.a (an g w);have K:=wr U;refine(ac P)<|?_;simp[N,ZG];refine aa (YJ.rd (LJ (C A.a U) E (sg (Zh (M.Y8 g))) (sg w)))∘bB<|?_;refine bz rfl rfl rfl ?_;simp;repeat with_reducible refine G3 ?_
  exact ay H (hw:=Ya [((5,0),some (24,0))] [] rfl ad)
 exact bT _ (ms f H)
theorem rY(A:YZ):Sa 339 [A.row] [rB (EO A)]:=have f:=me (EO.eq_1 A);so func339 ntmps339∘aa (YX A.c 1 99)∘aj (fun gg=>YX A.g 0 99)∘aj (fun gg=>YX A.b 0 99)∘aj (fun gg=>yo A.a)∘aj (fun gg=>M8 A.d)<|rt _ f
theorem oa(A:List YZ):Sa 273 [Z 5 YZ.row A] [rB (Ny A)]:=by
 have f:=me (Ny.eq_1 A);refine so func273 ntmps273∘aG (P9.eq_2 A) (fun J=>Z3 37 [eL 0 5 A YZ.row,eI 3 (J:Int)]) (fun D J=>A.length<D+J/\J<=A.length) (A.length+1) 0<|fun p1 J H T=>(cF H) ?_ ?_<;>intro k2 I H
 ·have N:=ix I;have m2:=ml A (k2 0 _ rfl);have K:=wr J;refine ac P∘xp N∘aa (rY (C A J))<|(aM) ?_ ?_<;>intro B
  ·have i2:=ik (J-1) A;have w2:IntKind.i64.wrap ((J:Int)-1)=(J:Int)-1:=YF Y Y;refine l (an i2 w2)∘gK<|fun _=>(l N)<|(cK H) ?_ ?_<;>intro k4 X H
   ·exact s _ (ms f H)
   ·exact aE (an K (an w2 B)) H
  ·refine(aW)<|(cK H) ?_ ?_<;>intro k5 h3 H
   ·exact s _ (ms f H)
   ·exact aE (an K B) H
 exact rt _ (ms f H)
theorem Hn(A:List ZX):Sa 274 [Z 3 ZX.row A] [rB (qY A)]:=by
 have f:=me (qY.eq_1 A);refine so func274 ntmps274∘aG (jg.eq_2 A) (fun J=>Z3 56 [eL 0 3 A ZX.row,eI 3 (J:Int)]) (fun D J=>A.length<D+J/\J<=A.length) (A.length+1) 0<|fun p1 J H T=>(cF H) ?_ ?_<;>intro k2 I H
 ·have N:=ix I;have m2:=ml A (k2 0 _ rfl);have K:=wr J;refine ac P∘xp N∘aa (YX (C A J).b 0 99)<|(aM) ?_ ?_<;>intro B
  ·have g1:=B;try simp[ZJ]at g1
   refine l N∘aS (fun gg=>YX (C A J).c 1 99)<|(aI B) ?_ ?_<;>intro B
   ·all_goals
     have V:=B.2;try simp[ZJ]at V
     all_goals
      refine l N∘aS (fun gg=>YX (C A J).a 0 100)<|(aI B) ?_ ?_<;>intro B
      ·all_goals
        have i2:=ik (J-1) A;have w2:IntKind.i64.wrap ((J:Int)-1)=(J:Int)-1:=YF Y Y;refine l (an i2 w2)∘gK<|fun _=>(l N)<|(aA H) ?_ ?_<;>intro k4 X H
        ·have q2:=X;try simp[ZJ]at q2
         have f:=ms f H;simp;exact(aC)<|s _ f
        ·have q2:=X;try simp[ZJ]at q2
         simp;refine(aC)<|?_;exact aE (an K (an w2 B)) H
      ·all_goals
        refine(aW)<|(aA H) ?_ ?_<;>intro k5 h3 H
        ·have q3:=h3;try simp[ZJ]at q3
         have f:=ms f H;simp;exact(aC)<|s _ f
        ·have q3:=h3;try simp[ZJ]at q3
         simp;refine(aC)<|?_;exact aE (an K B) H
   ·all_goals
     refine(aO)<|?_;simp;refine(aC)<|(aI B) ?_ ?_<;>intro B
     ·try(simp at B;done)
      all_goals
       have i4:=ik (J-1) A;have Q:IntKind.i64.wrap ((J:Int)-1)=(J:Int)-1:=YF Y Y;simp[i4,ZG,Q,Ts,B];refine aC∘gK<|fun _=>(l N)<|(aA H) ?_ ?_<;>intro k6 h4 H
       ·simp[B]at h4
       ·simp[B]at h4
     ·all_goals
       refine(aW)<|(aA H) ?_ ?_<;>intro c h5 H
       ·have r:=h5;try simp[ZJ]at r
        have f:=ms f H;simp;exact(aC)<|s _ f
       ·simp[B]at h5
  ·refine(aO)<|?_;simp;refine(aC)<|(aI B) ?_ ?_<;>intro B
   ·try(simp at B;done)
    all_goals
     have G:=B.2;try simp[ZJ]at G
     all_goals
      refine l N∘aS (fun gg=>YX (C A J).a 0 100)<|(aI B) ?_ ?_<;>intro B
      ·try(simp at B;done)
       all_goals
        have i6:=ik (J-1) A;have a:IntKind.i64.wrap ((J:Int)-1)=(J:Int)-1:=YF Y Y;simp[i6,ZG,a,Ts,B];refine aC∘gK<|fun _=>(l N)<|(aA H) ?_ ?_<;>intro k8 h6 H
        ·simp[B]at h6
        ·simp[B]at h6
      ·try(simp at B;done)
       all_goals
        refine(aW)<|(aA H) ?_ ?_<;>intro k9 h7 H
        ·simp[B]at h7
        ·simp[B]at h7
   ·all_goals
     refine(aO)<|?_;simp;refine(aC)<|(aI B) ?_ ?_<;>intro B
     ·try(simp at B;done)
      all_goals
       have i8:=ik (J-1) A;have b:IntKind.i64.wrap ((J:Int)-1)=(J:Int)-1:=YF Y Y;simp[i8,ZG,b,Ts,B];refine aC∘gK<|fun _=>(l N)<|(aA H) ?_ ?_<;>intro al h8 H
       ·simp[B]at h8
       ·simp[B]at h8
     ·all_goals
       refine(aW)<|(aA H) ?_ ?_<;>intro ar h9 H
       ·have d:=h9;try simp[ZJ]at d
        have f:=ms f H;simp;exact(aC)<|s _ f
       ·simp[B]at h9
 exact rt _ (ms f H)
theorem su(A:Z8):Sa 340 [A.row] [rB (PD A)]:=have f:=me (PD.eq_1 A);so func340 ntmps340∘aa (YX A.b 0 99)∘aj (fun gg=>yo A.c)∘aj (fun gg=>YX A.a 1 10001)∘aj (fun gg=>YX A.d 1 10001)<|rt _ f
theorem BQ(A:List Z8):Sa 275 [Z 4 Z8.row A] [rB (Uu A)]:=by
 have f:=me (Uu.eq_1 A);refine so func275 ntmps275∘aG (Um.eq_2 A) (fun J=>Z3 37 [eL 0 4 A Z8.row,eI 3 (J:Int)]) (fun D J=>A.length<D+J/\J<=A.length) (A.length+1) 0<|fun p1 J H T=>(cF H) ?_ ?_<;>intro k2 I H
 ·have N:=ix I;have m2:=ml A (k2 0 _ rfl);have K:=wr J;refine ac P∘xp N∘aa (su (C A J))<|(aM) ?_ ?_<;>intro B
  ·have i2:=ik (J-1) A;have w2:IntKind.i64.wrap ((J:Int)-1)=(J:Int)-1:=YF Y Y;refine l (an i2 w2)∘gK<|fun _=>(l N)<|(cK H) ?_ ?_<;>intro k4 X H
   ·exact s _ (ms f H)
   ·exact aE (an K (an w2 B)) H
  ·refine(aW)<|(cK H) ?_ ?_<;>intro k5 h3 H
   ·exact s _ (ms f H)
   ·exact aE (an K B) H
 exact rt _ (ms f H)
theorem EW(A:ZP):Sa 187 [A.row] [rB (kF A)]:=have f:=me (kF.eq_1 A);so func187 ntmps187∘aa (oa A.a)∘aj (fun gg=>Hn A.b)∘aj (fun gg=>BQ A.c)∘aj (fun gg=>YX A.e 0 6)∘aj (fun gg=>yo A.d)<|rt _ f
theorem Wq(A:Int):Sa 347 [rI A] [(W4 A).row]:=have f:=me (W4.eq_1 A);(so func347 ntmps347)<|rt _ f
theorem Io(A:Int):Sa 414 [rI A] [(kL A).row]:=have f:=me (kL.eq_1 A);(so func414 ntmps414)<|rt _ f
theorem UW(A:List YZ)(E:Int)(G:List Int)(V:Int)(g:R 2322432 A)(w:R 2322432 G):Sa 342 [Z 5 YZ.row A,rI E,Z 1 S G,rI V] [rB (Qo A E G V)]:=by
 rw[<-uD];have f:=me (I6.eq_1 A E G V)
 refine so func342 ntmps342∘aa (QA A E)<|(aM) ?_ ?_<;>intro B
 ·have N:(Zi A E).toNat<A.length:=e4;exact l N∘aS (fun gg=>T8 (C A (Zi A E).toNat) G (sg w))<|s _ f
 ·refine(aO)<|?_;simp;exact(aC)<|s _ f
theorem HZ(A:List YZ)(E:Zu)(g:R 2318336 A):Sa 415 [Z 5 YZ.row A,E.row] [rB (zT A E)]:=have f:=me (zT.eq_1 A E);so func415 ntmps415∘av P∘aa (Tn E)∘aj (fun gg=>YJ.rd (Vu E))∘aj (fun gg=>UW A E.c (Xk E) E.f (sg g) (by simp(maxDischargeDepth:=12) [xI];try omega))<|rt _ f
theorem Ab(A:ZP)(E:Int)(G:Zu)(g:R 2314240 A):Sa 345 [A.row,rI E,G.row] [(TS A E G).row]:=by
 have f:=me (TS.eq_1 A E G);refine so func345 ntmps345∘aa (EW A)<|(cF f) ?_ ?_<;>intro k1 I f
 ·exact(aa (Wq 1))<|rt _ f
 refine(aa (Tn G))<|(cF f) ?_ ?_<;>intro k2 X f
 ·exact(aa (Io 1))<|rt _ f
 refine(cF f) ?_ ?_<;>intro k3 h3 f
 ·exact(aa (Wq 2))<|rt _ f
 refine(cF f) ?_ ?_<;>intro k4 h4 f
 ·exact(aa (Io 2))<|rt _ f
 refine(aa (QA A.a G.c))<|(cF f) ?_ ?_<;>intro k5 h5 f
 ·exact(aa (Wq 3))<|rt _ f
 refine(aa (HZ A.a G (sg (ZP.Yb g))))<|(cF f) ?_ ?_<;>intro k6 h6 f
 ·exact(aa (Io 4))<|rt _ f
 exact rt _ f
theorem VK(A E:Int):Sa 483 [rI A,rI E] [(Xt A E).1.row,rB (Xt A E).2]:=by
 rw[<-w1];have f:=me (GR.eq_1 A E)
 exact so func483 ntmps483∘aa (QW 0 A)∘aa (SW 10000 E)∘cQ f<|fun k1 I f=>rt _ f
theorem IX(A:List ZX)(E:ZW):Sa 474 [Z 3 ZX.row A,E.row] [(Jc A E).1.row,rB (Jc A E).2]:=by
 have f:=me (Jc.eq_1 A E);refine so func474 ntmps474∘aa (Ka A E.a)<|(aM) ?_ ?_<;>intro B
 ·have N:(ZN A E.a).toNat<A.length:=dc;refine l N∘aS (fun gg=>yo E.b)<|(cK f) ?_ ?_<;>intro k1 I f
  ·try(simp[B]at I;done)
   all_goals
    exact s _ f
  ·try(simp[B]at I;done)
   all_goals
    exact ac P∘l N∘aT (VK (W (E.b-(C A (ZN A E.a).toNat).a)) (W (E.b+(C A (ZN A E.a).toNat).a)))<|s _ f
 ·refine(aS (fun gg=>yo E.b))<|(cK f) ?_ ?_<;>intro k3 X f
  ·try(simp[B]at X;done)
   all_goals
    exact s _ f
  ·try(simp[B]at X;done)
   all_goals
    refine(ac P)<|?_;have i3:(ZN A E.a).toNat<A.length:=dc
    exact l i3∘aT (VK (W (E.b-(C A (ZN A E.a).toNat).a)) (W (E.b+(C A (ZN A E.a).toNat).a)))<|s _ f
theorem QY(A:o):Sa 412 [A.row] [rB (Yr A)]:=have f:=me (Yr.eq_1 A);so func412 ntmps412∘aa (yo A.d)∘aj (fun gg=>yo A.b)<|rt _ f
theorem nF(A:List o)(E:Int):Sa 535 [Z 2 o.row A,rI E] [rI (UI A E)]:=by
 rw[<-r3];have f:=me (DB.eq_1 A E)
 refine so func535 ntmps535∘ap (UP.eq_2 A E) (fun J U=>Z3 39 [eL 0 2 A o.row,eI 1 E,eI 5 J,eI 6 (U:Int)]) (fun D J U=>A.length<D+U/\U<=A.length) (A.length+1) 0 0<|fun p1 J U H T=>(ae H) ?_ ?_<;>intro k2 I H
 ·have N:=ix I;have m2:=ml A (k2 0 _ rfl);have K:=wr U;refine xp N∘aa (QY (C A U))<|(aM) ?_ ?_<;>intro B
  ·refine(l N)<|(aI B) ?_ ?_<;>intro B
   ·all_goals
     refine(l N)<|(cK H) ?_ ?_<;>intro k3 X H
     ·exact au (an K B) H
     ·exact au (an K B) H
   ·all_goals
     refine(cK H) ?_ ?_<;>intro k4 h3 H
     ·simp[B]at h3
     ·exact au (an K B) H
  ·refine(aI B) ?_ ?_<;>intro B
   ·try(simp at B;done)
    all_goals
     refine(l N)<|(cK H) ?_ ?_<;>intro k5 h4 H
     ·simp[B]at h4
     ·simp[B]at h4
   ·all_goals
     refine(cK H) ?_ ?_<;>intro k6 h5 H
     ·simp[B]at h5
     ·exact au (an K B) H
 exact rt _ (ms f H)
theorem Ju(A:List o)(E G:Int):Sa 509 [Z 2 o.row A,rI E,rI G] [rB (YN A E G)]:=have f:=me (YN.eq_1 A E G);so func509 ntmps509∘aa (YX G 0 (W ((A.length:Int)-1)))∘aj (fun gg=>nF A E)<|rt _ f
theorem LQ(A:List o)(E:Int)(g:R 2322432 A):Sa 477 [Z 2 o.row A,rI E] [(ya A E).1.row,rB (ya A E).2]:=by
 have f:=me (ya.eq_1 A E);refine so func477 ntmps477∘aa (YX E 0 (W ((A.length:Int)-1)))<|?_;have c1:=sl 2322432 A g;have K:IntKind.i64.wrap ((A.length:Int)-1)=(A.length:Int)-1:=YF Y Y;refine(aF f) ?_ ?_<;>intro k1 I f
 ·have q1:=I;try simp[ZJ,K]at q1
  simp;exact rt _ f
 have q1:=I;try simp[ZJ,K]at q1
 simp;refine(bH (Qy.eq_2 A E) (fun J U p=>Z3 83 [eL 0 2 A o.row,eI 1 E,(4,.one (.Z 4 0),[.box [.d (.int .i64 0),.d (.int .i64 0)]]),eI 6 J,eI 7 U,eI 8 (p:Int)]) (fun D J U p=>A.length<D+p/\p<=A.length) (A.length+1) (-1) (-1) 0)<|fun p1 J U p H T=>(ae H) ?_ ?_<;>intro k3 X H
 ·have N:=ix X;have m2:=ml A (k3 0 _ rfl);have w2:=wr p;refine xp N∘aa (QY (C A p))<|(aM) ?_ ?_<;>intro B
  ·refine l N∘aS (fun gg=>Ju A (C A p).d E)<|(aI B) ?_ ?_<;>intro B
   ·try(simp at B;done)
    all_goals
     refine(l N)<|(aA H) ?_ ?_<;>intro k4 h3 H
     ·try(simp[B]at h3;done)
      all_goals
       refine l N∘aT (QY (C A p))<|(aI B) ?_ ?_<;>intro B
       ·try(simp at B;done)
        all_goals
         refine l N∘aS (fun gg=>Ju A (C A p).b E)<|(ba H) ?_ ?_<;>intro k5 h4 H
         ·try(simp[B]at h4;done)
          all_goals
           refine l N∘aT (QW U (C A p).b)<|?_;exact aR (an K (an w2 B)) H
         ·try(simp[B]at h4;done)
          all_goals
           exact aR (an K (an w2 B)) H
       ·try(simp at B;done)
        all_goals
         refine aO∘aL<|(ba H) ?_ ?_<;>intro k6 h5 H
         ·try(simp[B]at h5;done)
          all_goals
           refine l N∘aT (QW U (C A p).b)<|?_;exact aR (an K (an w2 B)) H
         ·try(simp[B]at h5;done)
          all_goals
           exact aR (an K (an w2 B)) H
     ·try(simp[B]at h3;done)
      all_goals
       refine l N∘aT (QY (C A p))<|(aI B) ?_ ?_<;>intro B
       ·try(simp at B;done)
        all_goals
         refine l N∘aS (fun gg=>Ju A (C A p).b E)<|(ba H) ?_ ?_<;>intro c h6 H
         ·try(simp[B]at h6;done)
          all_goals
           refine l N∘aT (QW U (C A p).b)<|?_;exact aR (an K (an w2 B)) H
         ·try(simp[B]at h6;done)
          all_goals
           exact aR (an K (an w2 B)) H
       ·try(simp at B;done)
        all_goals
         refine aO∘aL<|(ba H) ?_ ?_<;>intro k8 h7 H
         ·try(simp[B]at h7;done)
          all_goals
           refine l N∘aT (QW U (C A p).b)<|?_;exact aR (an K (an w2 B)) H
         ·try(simp[B]at h7;done)
          all_goals
           exact aR (an K (an w2 B)) H
   ·try(simp at B;done)
    all_goals
     refine(aA H) ?_ ?_<;>intro k9 h8 H
     ·try(simp[B]at h8;done)
      all_goals
       refine l N∘aT (QY (C A p))<|(aI B) ?_ ?_<;>intro B
       ·try(simp at B;done)
        all_goals
         refine l N∘aS (fun gg=>Ju A (C A p).b E)<|(ba H) ?_ ?_<;>intro al h9 H
         ·try(simp[B]at h9;done)
          all_goals
           refine l N∘aT (QW U (C A p).b)<|?_;exact aR (an K (an w2 B)) H
         ·try(simp[B]at h9;done)
          all_goals
           exact aR (an K (an w2 B)) H
       ·try(simp at B;done)
        all_goals
         refine aO∘aL<|(ba H) ?_ ?_<;>intro ar ak H
         ·try(simp[B]at ak;done)
          all_goals
           refine l N∘aT (QW U (C A p).b)<|?_;exact aR (an K (an w2 B)) H
         ·try(simp[B]at ak;done)
          all_goals
           exact aR (an K (an w2 B)) H
     ·try(simp[B]at h8;done)
      all_goals
       refine l N∘aT (QY (C A p))<|(aI B) ?_ ?_<;>intro B
       ·try(simp at B;done)
        all_goals
         refine l N∘aS (fun gg=>Ju A (C A p).b E)<|(ba H) ?_ ?_<;>intro v am H
         ·try(simp[B]at am;done)
          all_goals
           refine l N∘aT (QW U (C A p).b)<|?_;exact aR (an K (an w2 B)) H
         ·try(simp[B]at am;done)
          all_goals
           exact aR (an K (an w2 B)) H
       ·try(simp at B;done)
        all_goals
         refine aO∘aL<|(ba H) ?_ ?_<;>intro ax az H
         ·try(simp[B]at az;done)
          all_goals
           refine l N∘aT (QW U (C A p).b)<|?_;exact aR (an K (an w2 B)) H
         ·try(simp[B]at az;done)
          all_goals
           exact aR (an K (an w2 B)) H
  ·refine aO∘aL<|(aI B) ?_ ?_<;>intro B
   ·try(simp at B;done)
    all_goals
     refine(l N)<|(aA H) ?_ ?_<;>intro aD au H
     ·try(simp[B]at au;done)
      all_goals
       refine l N∘aT (QY (C A p))<|(aI B) ?_ ?_<;>intro B
       ·try(simp at B;done)
        all_goals
         refine l N∘aS (fun gg=>Ju A (C A p).b E)<|(ba H) ?_ ?_<;>intro ay ap H
         ·try(simp[B]at ap;done)
          all_goals
           refine l N∘aT (QW U (C A p).b)<|?_;exact aR (an K (an w2 B)) H
         ·try(simp[B]at ap;done)
          all_goals
           exact aR (an K (an w2 B)) H
       ·try(simp at B;done)
        all_goals
         refine aO∘aL<|(ba H) ?_ ?_<;>intro aH a H
         ·try(simp[B]at a;done)
          all_goals
           refine l N∘aT (QW U (C A p).b)<|?_;exact aR (an K (an w2 B)) H
         ·try(simp[B]at a;done)
          all_goals
           exact aR (an K (an w2 B)) H
     ·try(simp[B]at au;done)
      all_goals
       refine l N∘aT (QY (C A p))<|(aI B) ?_ ?_<;>intro B
       ·try(simp at B;done)
        all_goals
         refine l N∘aS (fun gg=>Ju A (C A p).b E)<|(ba H) ?_ ?_<;>intro aC b H
         ·try(simp[B]at b;done)
          all_goals
           refine l N∘aT (QW U (C A p).b)<|?_;exact aR (an K (an w2 B)) H
         ·try(simp[B]at b;done)
          all_goals
           exact aR (an K (an w2 B)) H
       ·try(simp at B;done)
        all_goals
         refine aO∘aL<|(ba H) ?_ ?_<;>intro aE d H
         ·try(simp[B]at d;done)
          all_goals
           refine l N∘aT (QW U (C A p).b)<|?_;exact aR (an K (an w2 B)) H
         ·try(simp[B]at d;done)
          all_goals
           exact aR (an K (an w2 B)) H
   ·try(simp at B;done)
    all_goals
     refine(aA H) ?_ ?_<;>intro aG i H
     ·try(simp[B]at i;done)
      all_goals
       refine l N∘aT (QY (C A p))<|(aI B) ?_ ?_<;>intro B
       ·try(simp at B;done)
        all_goals
         refine l N∘aS (fun gg=>Ju A (C A p).b E)<|(ba H) ?_ ?_<;>intro s j H
         ·try(simp[B]at j;done)
          all_goals
           refine l N∘aT (QW U (C A p).b)<|?_;exact aR (an K (an w2 B)) H
         ·try(simp[B]at j;done)
          all_goals
           exact aR (an K (an w2 B)) H
       ·try(simp at B;done)
        all_goals
         refine aO∘aL<|(ba H) ?_ ?_<;>intro V n H
         ·try(simp[B]at n;done)
          all_goals
           refine l N∘aT (QW U (C A p).b)<|?_;exact aR (an K (an w2 B)) H
         ·try(simp[B]at n;done)
          all_goals
           exact aR (an K (an w2 B)) H
     ·try(simp[B]at i;done)
      all_goals
       refine l N∘aT (QY (C A p))<|(aI B) ?_ ?_<;>intro B
       ·try(simp at B;done)
        all_goals
         refine l N∘aS (fun gg=>Ju A (C A p).b E)<|(ba H) ?_ ?_<;>intro aq r H
         ·try(simp[B]at r;done)
          all_goals
           refine l N∘aT (QW U (C A p).b)<|?_;exact aR (an K (an w2 B)) H
         ·try(simp[B]at r;done)
          all_goals
           exact aR (an K (an w2 B)) H
       ·try(simp at B;done)
        all_goals
         refine aO∘aL<|(ba H) ?_ ?_<;>intro Q y H
         ·try(simp[B]at y;done)
          all_goals
           refine l N∘aT (QW U (C A p).b)<|?_;exact aR (an K (an w2 B)) H
         ·try(simp[B]at y;done)
          all_goals
           exact aR (an K (an w2 B)) H
 have f:=ms f H;exact(cQ f)<|fun aN G f=>rt _ f
theorem TX(A:List ZX)(E:Zc)(G:Int)(g:R 2318336 A)(w:R 2318336 E):Sa 507 [Z 3 ZX.row A,E.row,rI G] [(KF A E G).1.row,rB (KF A E G).2]:=by
 have f:=me (KF.eq_1 A E G);refine so func507 ntmps507∘ap (jo.eq_2 A E) (fun J U=>Z3 42 [eL 0 3 A ZX.row,eI 2 G,eX 4 (E.row.map .d),(6,.one (.Z 6 0),[.box [.d (.int .i64 0),.d (.int .i64 0)]]),(8,.one (.O 8 0 0 J.length),[.arr false 2 (J.map o.row)]),eI 9 (U:Int)]) (fun D J U=>E.a.length<D+U/\U<=E.a.length/\J.length<=0+1*U) (E.a.length+1) ([]:List o) 0 (h0:=aw [((8,0),some (12,0))] [])<|fun p1 J U H T=>(ae H) ?_ ?_<;>intro k2 I H
 ·have N:=ix I;have m2:=ml E.a (k2 15 _ rfl);have c1:=sl 2318336 E.a (an g w);have K:=wr U;refine xp N∘aa (IX A (C E.a U))<|(cF H) ?_ ?_<;>intro k3 X H
  ·exact rt _ (ms f H)
  exact ay H (hw:=Ya [((8,0),some (36,0))] [] rfl ad)
 have c2:=sl 2318336 E.a (an g w);have f:=ms f H;exact(aa (LQ J G (by first|(simp(maxDischargeDepth:=12) [XN];omega)|(simp(maxDischargeDepth:=12) [ZT (m:=2322432) aq g,ZT (m:=2322432) aq w];done))))<|rt _ f
theorem T7(A:List ZX)(E:ZW):Sa 427 [Z 3 ZX.row A,E.row] [rI (Yq A E)]:=by
 rw[<-ws];have f:=me (Ge.eq_1 A E)
 refine so func427 ntmps427∘aa (Ka A E.a)∘bC f<|fun k1 I f=>?_;have N:(ZN A E.a).toNat<A.length:=dc
 exact(xp N)<|rt _ f
theorem F6(A:List YZ)(E:List ZX)(G:List Z8)(V:Zc):Sa 550 [Z 5 YZ.row A,Z 3 ZX.row E,Z 4 Z8.row G,V.row] [rI (K4 A E G V)]:=by
 rw[<-FF];have f:=me (R5.eq_1 A E G V)
 refine so func550 ntmps550∘aa (Wl G V.b)∘ap (qV.eq_2 A E G V) (fun J U=>Z3 44 [eL 0 5 A YZ.row,eL 1 3 E ZX.row,eL 2 4 G Z8.row,eX 7 (V.row.map .d),eI 9 J,eI 10 (U:Int)]) (fun D J U=>V.a.length<D+U/\U<=V.a.length) (V.a.length+1) (JQ G V.b) 0<|fun p1 J U H T=>(ae H) ?_ ?_<;>intro k2 I H
 ·have N:=ix I;have m2:=ml V.a (k2 18 _ rfl);have K:=wr U;refine xp N∘aa (T7 E (C V.a U))∘aa (QA A (Yq E (C V.a U)))<|(bg H) ?_ ?_<;>intro k3 X H
  ·exact rt _ (ms f H)
  have i2:(Zi A (Yq E (C V.a U))).toNat<A.length:=by have:=Yy A (Yq E (C V.a U));exact il
  refine xp i2∘aa (Wl G (C A (Zi A (Yq E (C V.a U))).toNat).b)∘aa (SW J (JQ G (C A (Zi A (Yq E (C V.a U))).toNat).b))<|?_;exact au K H
 exact rt _ (ms f H)
theorem IV(h:b)(k:a:=by(intros;first|omega|with_unfolding_all (first|(first|omega|(have d:E.b.length<=2314240:=Z7 (xs w);have c:=IZ E.b.length Y;(try rw[c]at q1);(try rw[c]at q2);have w3:W (G+1)=G+1:=YF Y Y;have Q:IntKind.i64.wrap (G+1)=G+1:=w3;omega)))|exact wt)):a/\b:=⟨k,h⟩
theorem uL(A:ZP)(E:ZY)(G:Int)(g:R 2314240 A)(w:R 2314240 E):Sa 543 [A.row,E.row,rI G] [rB (SG A E G)]:=by
 have f:=me (SG.eq_1 A E G);refine so func543 ntmps543∘aa (YX G 0 (W ((E.b.length:Int)-1)))<|?_;have c1:=sl 2314240 E.b (an g w);have K:IntKind.i64.wrap ((E.b.length:Int)-1)=(E.b.length:Int)-1:=YF Y Y;refine(aF f) ?_ ?_<;>intro k1 I f
 ·have q1:=I;try simp[ZJ,K]at q1
  simp;exact rt _ f
 have q1:=I;try simp[ZJ,K]at q1
 simp;refine(ac P)<|?_;have N:G.toNat<E.b.length:=gH
 simp[N,ZG];repeat with_reducible refine IV ?_
 refine(aa (F6 A.a A.b A.c (C E.b G.toNat)))<|(aF f) ?_ ?_<;>intro k3 X f
 ·have q2:=X;try simp[K]at q2
  simp;exact rt _ f
 have q2:=X;try simp[K]at q2
 simp;refine(ac P)<|?_;have i2:(W (G+1)).toNat<E.b.length:=gH
 simp[i2,ZG];repeat with_reducible refine IV ?_
 exact(aa (TX A.b (C E.b (W (G+1)).toNat) A.e (sg (ZP.Yi g)) (sg (Zh (ZY.Qf w)))))<|rt _ f
theorem Bn(A E:Int)(G:List Y9):Sa 551 [rI A,rI E,Z 2 Y9.row G] [rI (WY A E G)]:=by
 have f:=me (WY.eq_1 A E G);refine so func551 ntmps551∘ap (ks.eq_2 A G) (fun J U=>Z3 38 [eI 0 A,eL 2 2 G Y9.row,eI 7 J,eI 8 (U:Int)]) (fun D J U=>G.length<D+U/\U<=G.length) (G.length+1) E 0<|fun p1 J U H T=>(ae H) ?_ ?_<;>intro k2 I H
 ·have N:=ix I;have m2:=ml G (k2 2 _ rfl);have K:=wr U;refine(xp N)<|(aF H) ?_ ?_<;>intro k3 X H
  ·refine xp N∘aa (Sr A (C G U).e J)<|?_;exact au K H
  refine xp N∘aa (Sr A J (C G U).e)<|?_;exact au K H
 exact rt _ (ms f H)
theorem FI(A:List YZ)(E:List ZX)(G:Zc)(V:Int)(g:R 2314240 A)(w:R 2314240 E)(L:R 2314240 G):Sa 544 [Z 5 YZ.row A,Z 3 ZX.row E,G.row,rI V] [rB (z4 A E G V)]:=by
 rw[<-Fy];have f:=me (PS.eq_1 A E G V)
 refine so func544 ntmps544∘av P∘aj (fun gg=>Bn G.b V G.c)∘aj (fun gg=>YX (G.a.length:Int) 1 6)<|(aF f) ?_ ?_<;>intro k2 I f
 ·have q1:=I;try simp[ZJ]at q1
  simp;exact rt _ f
 have q1:=I;try simp[ZJ]at q1
 simp;refine(aG (Wv.eq_2 A E G) (fun J=>Z3 73 [eL 0 5 A YZ.row,eL 1 3 E ZX.row,eX 6 (G.row.map .d),eI 9 (J:Int)]) (fun D J=>G.a.length<D+J/\J<=G.a.length) (G.a.length+1) 0)<|fun p1 J H T=>(ae H) ?_ ?_<;>intro k4 X H
 ·have N:=ix X;have K:=wr J;refine xp N∘av P<|(aM) ?_ ?_<;>intro B
  ·have i2:=ik (J-1) G.a;have w2:IntKind.i64.wrap ((J:Int)-1)=(J:Int)-1:=YF Y Y;refine l (an i2 w2)∘aS (fun gg=>VZ A E (C G.a J) (sg g) (sg w))<|(cK H) ?_ ?_<;>intro k6 h3 H
   ·exact s _ (ms f H)
   ·exact aE (an K (an w2 B)) H
  ·refine(aS (fun gg=>VZ A E (C G.a J) (sg g) (sg w)))<|(cK H) ?_ ?_<;>intro c h4 H
   ·exact s _ (ms f H)
   ·exact aE (an K B) H
 exact rt _ (ms f H)
theorem oc(A:ZP)(E:ZY)(G:List Int)(V:Int)(g:R 2310144 A)(w:R 2310144 E)(L:R 2310144 G)(a:0<=V/\V<(E.b.length:Int)):Sa 532 [A.row,E.row,Z 1 S G,rI V] [rB (HG A E G V)]:=by
 have f:=me (HG.eq_1 A E G V);refine so func532 ntmps532∘ac P<|?_;have N:=ik V.toNat E.b;refine xp N∘aa (TX A.b (C E.b V.toNat) A.e (sg (ZP.Yi g)) (sg (Zh (ZY.Qf w))))∘av P∘aj (fun gg=>uL A E V (sg g) (sg w))<|(aM) ?_ ?_<;>intro B
 ·exact l N∘aS (fun gg=>Cp E G V (sg w) (sg L))∘aS (fun gg=>FI A.a A.b (C E.b V.toNat) (jt E G V) (sg (ZP.Yb g)) (sg (ZP.Yi g)) (sg (Zh (ZY.Qf w))))<|s _ f
 ·refine(aO)<|?_;simp;refine aC∘aO<|?_;simp;exact(aC)<|s _ f
theorem ys(A:ZP)(E:ZY)(G:List Int)(g:R 2306048 A)(w:R 2306048 E)(L:R 2306048 G):Sa 506 [A.row,E.row,Z 1 S G] [rI (xf A E G)]:=by
 have f:=me (xf.eq_1 A E G);refine(so func506 ntmps506)<|?_;refine cj fun k1=>?_;refine(aG (kG.eq_2 A E G) (fun J=>Z3 24 [eL 2 1 G S,eX 3 (A.row.map .d),eX 4 (E.row.map .d),eI 7 (J:Int)]) (fun D J=>J<D/\J<=E.b.length) (E.b.length+1) E.b.length)<|fun p1 J H T=>(aj (fun gg=>oc A E G (W ((J:Int)-1)) (sg g) (sg w) (sg L) (by(have V:((decide (0<J))==true)=true:=gg;simp at V;have cc:E.b.length<=2306048:=Z7 (xs w);have c:W ((J:Int)-1)=(J:Int)-1:=YF Y Y;rw[c];omega))))<|(aF H) ?_ ?_<;>intro k2 I H
 ·have q1:=I;try simp at q1
  have q:=ml E.b (k1 9 _ rfl);have K:IntKind.i64.wrap ((J:Int)-1)=(J:Int)-1:=YF Y Y;have w2:((J-1:Nat):Int)=(J:Int)-1:=Y;simp;exact aE (an K w2) H
 have q1:=I;try simp at q1
 have f:=ms f H;simp;exact rt _ f
theorem oU(A:ZP)(E:ZY)(G:List Int)(V:Int)(g:R 2301952 A)(w:R 2301952 E)(L:R 2301952 G):Sa 471 [A.row,E.row,Z 1 S G,rI V] [rI (Nw A E G V)]:=by
 have f:=me (Nw.eq_1 A E G V);refine so func471 ntmps471∘aa (ys A E G (sg g) (sg w) (sg L))∘ap (UQ.eq_2 A E V) (fun J U=>Z3 52 [eI 3 V,eX 4 (A.row.map .d),eX 5 (E.row.map .d),eI 9 J,eI 10 U]) (fun D J U=>(E.b.length:Int)+1<D+U/\0<=U/\U<=E.b.length) (E.b.length+2) A.d (xf A E G) (v:=by(have z:=B6 A E G;(try dsimp only);omega))<|fun p1 J U H T=>(ae H) ?_ ?_<;>intro k2 I H
 ·have N:=ik U.toNat E.b;refine(xp N)<|(cF H) ?_ ?_<;>intro k3 X H
  ·refine aY fun k4=>?_;refine ac P∘xp N∘aa (TX A.b (C E.b U.toNat) A.e (sg (ZP.Yi g)) (sg (Zh (ZY.Qf w))))∘aa (SW J (KF A.b (C E.b U.toNat) A.e).1.b)<|?_;exact ay H (v:=by(have cc:E.b.length<=2301952:=Z7 (xs w);have w2:W (U+1)=U+1:=YF cU cU;(try dsimp only);rw[w2];simp at*;omega))
  exact ay H (v:=by(have cc:E.b.length<=2301952:=Z7 (xs w);have w2:W (U+1)=U+1:=YF cU cU;(try dsimp only);rw[w2];simp at*;omega))
 exact rt _ (ms f H)
theorem Bf(A:ZP)(E:ZY)(G:List Int)(V:ZS)(g:R 2297856 A)(w:R 2297856 E)(L:R 2297856 G)(a:R 2297856 V):Sa 416 [A.row,E.row,Z 1 S G,V.row] [rI (Wt A E G V)]:=have f:=me (Wt.eq_1 A E G V);so func416 ntmps416∘aa (Ij E V)∘cQ f<|fun k1 I f=>(aa (oU A E G (Kh E V) (sg g) (sg w) (sg L)))<|rt _ f
theorem R3(A:ZP)(E:M)(G:List (List Int))(V:ZS)(g:R 2293760 A)(w:R 2293760 E)(L:R 2293760 G)(a:R 2293760 V):Sa 346 [A.row,E.row,Z 1 (aH 1 S) G,V.row] [rI (XW A E G V)]:=by
 have f:=me (XW.eq_1 A E G V);refine so func346 ntmps346∘ap (xo.eq_2 A E G V) (fun J U=>Z3 41 [eL 2 1 G (aH 1 S),eX 4 (A.row.map .d),eX 5 (E.row.map .d),eX 7 (V.row.map .d),eI 9 J,eI 10 (U:Int)]) (fun D J U=>E.a.length<D+U/\U<=E.a.length) (E.a.length+1) A.d 0<|fun p1 J U H T=>(cF H) ?_ ?_<;>intro k2 I H
 ·have N:U<E.a.length:=bP;have m2:=ml E.a (k2 15 _ rfl);have c1:=sl 2293760 E.a (an g (an w (an L a)));have K:=wr U;refine(ac P)<|?_;have i2:=ik U G;refine xp (an N i2)∘aa (Bf A (C E.a U) (C G U) V (sg g) (sg (Zh (M.Y8 w))) (sg (Zh L)) (sg a))∘aa (SW J (Wt A (C E.a U) (C G U) V))<|?_;exact au K H
 exact rt _ (ms f H)
theorem Na(A:ZS):Sa 421 [A.row] [(Ql A).1.row,rB (Ql A).2]:=by
 have f:=me (Ql.eq_1 A);refine so func421 ntmps421∘av P∘aa (qv A)<|(aM) ?_ ?_<;>intro B
 ·have o:=B;have g1:=B;try simp at g1
  have N:4<A.a.length:=c;refine(l N)<|(cK f) ?_ ?_<;>intro k2 I f
  ·try(simp[B]at I;done)
   all_goals
    exact s _ f
  ·try(simp[B]at I;done)
   all_goals
    refine(ac P)<|?_;have i2:1<A.a.length:=c
    have i3:2<A.a.length:=c;have i4:3<A.a.length:=c;simp[i2,ZG,i3,i4,N,B];exact(aC)<|s _ f
 ·have o:=B;refine(cK f) ?_ ?_<;>intro k4 X f
  ·try(simp[B]at X;done)
   all_goals
    exact s _ f
  ·try(simp[B]at X;done)
   all_goals
    refine(ac P)<|?_;have i6:1<A.a.length:=c
    have i7:2<A.a.length:=c;have i8:3<A.a.length:=c;have q:4<A.a.length:=c;simp[i6,ZG,i7,i8,q,B];exact(aC)<|s _ f
theorem BF(A:ZS):Sa 533 [A.row] [(zi A).1.row,rB (zi A).2]:=by have f:=me (zi.eq_1 A);refine so func533 ntmps533∘aa (qv A)∘cQ f<|fun k1 I f=>(ac P)<|?_;have N:1<A.a.length:=c;have i2:2<A.a.length:=c;have i3:3<A.a.length:=c;have i4:4<A.a.length:=c;simp[N,ZG,i2,i3,i4];exact(bi)<|rt _ f
theorem v9(A:ZS):Sa 534 [A.row] [(yw A).1.row,rB (yw A).2]:=by
 have f:=me (yw.eq_1 A);refine so func534 ntmps534∘av P∘aa (qv A)<|(aM) ?_ ?_<;>intro B
 ·have o:=B;have g1:=B;try simp at g1
  have N:1<A.a.length:=c;refine(l N)<|(cK f) ?_ ?_<;>intro k2 I f
  ·try(simp[B]at I;done)
   all_goals
    exact s _ f
  ·try(simp[B]at I;done)
   all_goals
    refine(ac P)<|?_;have i2:2<A.a.length:=c
    have i3:3<A.a.length:=c;have i4:4<A.a.length:=c;have d:5<A.a.length:=c;have i6:6<A.a.length:=c;have i7:7<A.a.length:=c;have i8:8<A.a.length:=c;simp[N,ZG,i2,i3,i4,d,i6,i7,i8,B];exact(aC)<|s _ f
 ·have o:=B;refine(cK f) ?_ ?_<;>intro k4 X f
  ·try(simp[B]at X;done)
   all_goals
    exact s _ f
  ·try(simp[B]at X;done)
   all_goals
    refine(ac P)<|?_;have af:1<A.a.length:=c
    have ad:2<A.a.length:=c;have r:3<A.a.length:=c;have ae:4<A.a.length:=c;have w:5<A.a.length:=c;have b:6<A.a.length:=c;have a:7<A.a.length:=c;have e:8<A.a.length:=c;simp[af,ZG,ad,r,ae,w,b,a,e,B];exact(aC)<|s _ f
theorem OI(A:ZS):Sa 426 [A.row] [(JC A).1.row,rB (JC A).2]:=by
 have f:=me (JC.eq_1 A);refine so func426 ntmps426∘av P∘aa (qv A)<|(aM) ?_ ?_<;>intro B
 ·have o:=B;have g1:=B;try simp at g1
  have N:5<A.a.length:=c;refine(l N)<|(cK f) ?_ ?_<;>intro k2 I f
  ·try(simp[B]at I;done)
   all_goals
    exact s _ f
  ·try(simp[B]at I;done)
   all_goals
    refine(ac P)<|?_;have i2:1<A.a.length:=c
    have i3:2<A.a.length:=c;have i4:3<A.a.length:=c;have d:4<A.a.length:=c;simp[i2,ZG,i3,i4,d,N,B];exact(aC)<|s _ f
 ·have o:=B;refine(cK f) ?_ ?_<;>intro k4 X f
  ·try(simp[B]at X;done)
   all_goals
    exact s _ f
  ·try(simp[B]at X;done)
   all_goals
    refine(ac P)<|?_;have i7:1<A.a.length:=c
    have i8:2<A.a.length:=c;have q:3<A.a.length:=c;have af:4<A.a.length:=c;have ad:5<A.a.length:=c;simp[i7,ZG,i8,q,af,ad,B];exact(aC)<|s _ f
theorem NE(A:ZS):Sa 508 [A.row] [rB (MD A)]:=have f:=me (MD.eq_1 A);so func508 ntmps508∘aa (qP A)∘aa (Na A)∘aa (BF A)∘aa (v9 A)∘aa (OI A)<|rt _ f
theorem B7(A:List YZ)(E:ZS)(g:R 2318336 A)(w:R 2318336 E):Sa 472 [Z 5 YZ.row A,E.row] [rB (zw A E)]:=by
 rw[<-Lh];have f:=me (Rk.eq_1 A E)
 exact so func472 ntmps472∘aa (NE E)∘aj (fun gg=>UW A E.c E.a E.f (sg g) (sg (ZS.T5 w)))<|rt _ f
theorem vK(A:ZP)(E:M)(G:List (List Int))(V:ZS)(g:R 2289664 A)(w:R 2289664 E)(L:R 2289664 G)(a:R 2289664 V):Sa 417 [A.row,E.row,Z 1 (aH 1 S) G,V.row] [rB (Sh A E G V)]:=by
 have f:=me (Sh.eq_1 A E G V);refine so func417 ntmps417∘aa (QA A.a V.c)∘av P∘aj (fun gg=>B7 A.a V (sg (ZP.Yb g)) (sg a))∘aj (fun gg=>R3 A E G V (sg g) (sg w) (sg L) (sg a))<|(aM) ?_ ?_<;>intro B
 ·have N:(Zi A.a V.c).toNat<A.a.length:=by have:=Yy A.a V.c;exact il
  exact l N∘aS (fun gg=>Wl A.c (C A.a (Zi A.a V.c).toNat).b)<|s _ f
 ·refine(aO)<|?_;simp;exact(aC)<|s _ f
theorem Et(A E:ZS):Sa 473 [A.row,E.row] [rB (XS A E)]:=by
 have f:=me (XS.eq_1 A E);refine so func473 ntmps473∘aG (xZ.eq_2 A E) (fun J=>Z3 71 [eX 2 (A.row.map .d),eX 3 (E.row.map .d),eI 5 (J:Int)]) (fun D J=>A.a.length<D+J/\J<=A.a.length) (A.a.length+1) 0<|fun p1 J H T=>(cF H) ?_ ?_<;>intro k2 I H
 ·have N:J<A.a.length:=bP;have m2:=ml A.a (k2 8 _ rfl);have K:=wr J;refine(ac P)<|?_;have i2:=ik J E.a;refine(xp (an N i2))<|(cF H) ?_ ?_<;>intro k4 X H
  ·refine aY fun k5=>?_;refine(ac P)<|?_;have f:=ms f H
   exact(xp (an N i2))<|rt _ f
  exact aE K H
 have f:=ms f H;exact(cQ f)<|fun k6 h3 f=>(cQ f)<|fun c h4 f=>rt _ f
theorem mr(A:List ZS)(E:ZS)(g:R 2334720 A)(w:R 2334720 E):Sa 418 [Z 3 ZS.row A,E.row] [Z 3 ZS.row (Uq A E)]:=by
 have f:=me (Uq.eq_1 A E);refine so func418 ntmps418∘aG (zF.eq_2 A E) (fun J=>Z3 46 [eL 0 3 A ZS.row,eX 3 (E.row.map .d),eI 5 (J:Int)]) (fun D J=>A.length<D+J/\J<=A.length) (A.length+1) 0<|fun p1 J H T=>(av P)<|(aM) ?_ ?_<;>intro B
 ·have N:=ik J A;simp[N,ZG];refine aC∘aS (fun gg=>Et (C A J) E)<|(cK H) ?_ ?_<;>intro k3 I H
  ·have m2:=ml A (k3 0 _ rfl);have c1:=sl 2334720 A (an g w);have K:=wr J;exact aE (an K B) H
  ·have c2:=sl 2334720 A (an g w);have f:=ms f H;refine(ca P)<|(aI B) ?_ ?_<;>intro B
   ·all_goals
     simp[N,ZG];refine aC∘aS (fun gg=>qR (C A J) E)<|(cK f) (fun k5 X f=>s _ f)<|fun k5 X f=>?_
     ·exact ca P∘cs∘cs∘aT (YJ.rd (SA E (sg w)))∘cs∘cs∘cs<|s _ f
   ·try(simp at B;done)
    all_goals
     refine aO∘aL<|(cK f) ?_ ?_<;>intro c h3 f
     ·simp[B]at h3
     ·simp[B]at h3
 ·refine(aO)<|?_;simp;refine(aC)<|(cK H) ?_ ?_<;>intro k9 h4 H
  ·simp[B]at h4
  ·have M:=sl 2334720 A (an g w);have f:=ms f H;refine(ca P)<|(aI B) ?_ ?_<;>intro B
   ·try(simp at B;done)
    all_goals
     have d:=ik J A;refine l d∘aS (fun gg=>qR (C A J) E)<|(cK f) ?_ ?_<;>intro ar h5 f
     ·simp[B]at h5
     ·simp[B]at h5
   ·all_goals
     refine(aO)<|?_;simp;refine(aC)<|(cK f) ?_ ?_<;>intro ax h6 f
     ·simp[B]at h6
     ·exact ca P∘cs∘cs∘aT (YJ.rd (SA E (sg w)))∘cs∘cs∘cs<|s _ f
theorem ET(A:ZP)(E:M)(G:List (List Int))(g:R 2285568 A)(w:R 2285568 E)(L:R 2285568 G)(a:rl E<=2097152):Sa 348 [A.row,E.row,Z 1 (aH 1 S) G] [Z 3 ZS.row (YS A E G)]:=by
 have f:=me (YS.eq_1 A E G);refine so func348 ntmps348∘bB∘ap (zU.eq_2 A E G) (fun J U=>Z3 48 [eL 2 1 G (aH 1 S),eX 3 (A.row.map .d),eX 4 (E.row.map .d),eL 7 3 J ZS.row,eI 8 (U:Int)]) (fun D J U=>E.a.length<D+U/\U<=E.a.length/\J.length+af (fun s:ZY=>s.a.length) (E.a.drop U)<=2097152/\R 2285568 J) (E.a.length+1) ([]:List ZS) 0 (v:=by(have u:af (fun s:ZY=>s.a.length) E.a<=2097152:=a;(try dsimp only);refine⟨Y,Y,Y,?_,⟨Nat.zero_le _,fun x O=>by cases O⟩⟩;rw[List.drop_zero];simp only[List.length_nil];omega)) (h0:=aw [] [(11,0)])<|fun p1 J U H T=>(cF H) ?_ ?_<;>intro k2 I H
 ·have N:=ix I;have m2:=ml E.a (k2 14 _ rfl);have c1:=sl 2285568 E.a (an g (an w (an L a)));have K:=wr U;refine(lq (JN.eq_2 A E G U) (fun q n=>Z3 48 [eL 2 1 G (aH 1 S),eX 3 (A.row.map .d),eX 4 (E.row.map .d),eL 7 3 q ZS.row,eI 8 (U:Int),eI 9 (n:Int)]) (fun n2 q n=>(C E.a U).a.length<n2+n/\n<=(C E.a U).a.length/\q.length+((C E.a U).a.length-n)+af (fun s:ZY=>s.a.length) (E.a.drop (U+1))<=2097152/\R 2285568 q) ((C E.a U).a.length+1) J 0 (v:=by(have d:=A9 (l:=E.a) (i:=U) br;refine⟨?_,?_,?_,?_,T.2.2.2.2⟩<;>((try dsimp only);omega))))<|fun p2 q n e2 j2=>(xp N)<|(ae e2) ?_ ?_<;>intro k4 X e2
  ·have i2:=ix X;have m4:=ml (C E.a U).a (k4 25 _ rfl);have c2:=sl 2285568 (C E.a U).a (an g (an w (an L a)));have w2:=wr n;refine xp (an N i2)∘aa (vK A E G (C (C E.a U).a n) eC eC eC eC)<|(cF e2) ?_ ?_<;>intro k5 h3 e2
   ·refine(aa (mr q (C (C E.a U).a n) iR iR))<|?_;exact au (an K w2) e2 (v:=by first|(refine⟨?_,?_,?_,?_,j2.2.2.2.2⟩<;>((try dsimp only);omega))|(have c:R 2285568 (C (C E.a U).a n):=Zh (ZY.Yw (Zh (M.Y8 w)));have z:=Ri q (C (C E.a U).a n);refine⟨?_,?_,?_,?_,L7 j2.2.2.2.2 c Y⟩<;>((try dsimp only);omega)))
   exact au (an K w2) e2 (v:=by first|(refine⟨?_,?_,?_,?_,j2.2.2.2.2⟩<;>((try dsimp only);omega))|(have c:R 2285568 (C (C E.a U).a n):=Zh (ZY.Yw (Zh (M.Y8 w)));have z:=Ri q (C (C E.a U).a n);refine⟨?_,?_,?_,?_,L7 j2.2.2.2.2 c Y⟩<;>((try dsimp only);omega)))
  have H:=ms H e2;exact au K H (v:=by(refine⟨?_,?_,?_,?_,j2.2.2.2.2⟩<;>((try dsimp only);omega)))
 exact rt _ (ms f H)
theorem Hq(A:Yv):Sa 413 [A.row] [(xD A).row]:=have f:=me (xD.eq_1 A);(so func413 ntmps413)<|rt _ f
theorem u9(A:Yv):Sa 341 [A.row] [rB (NU A)]:=have f:=me (NU.eq_1 A);so func341 ntmps341∘aa (YX A.a 1 999)∘aj (fun gg=>YX A.c 1 99)∘aj (fun gg=>YX A.e 1 99)∘aj (fun gg=>YX A.g 0 99)∘aj (fun gg=>Hq A)∘aj (fun gg=>QY (xD A))<|rt _ f
theorem ES(A:List YZ)(E:Int):Sa 343 [Z 5 YZ.row A,rI E] [rI (UA A E)]:=by
 rw[<-mS];have f:=me (DJ.eq_1 A E)
 refine so func343 ntmps343∘aa (QA A E)∘bC f<|fun k1 I f=>?_;have N:(Zi A E).toNat<A.length:=e4
 exact(xp N)<|rt _ f
theorem Ls(A:List YZ)(E:Yv)(g:R 2318336 A):Sa 276 [Z 5 YZ.row A,E.row] [rB (jG A E)]:=by
 rw[<-um];have f:=me (IA.eq_1 A E)
 exact so func276 ntmps276∘av P∘aa (u9 E)∘aj (fun gg=>YJ.rd (H0 E))∘aj (fun gg=>UW A E.e (yT E) E.f (sg g) (by simp(maxDischargeDepth:=12) [O9];try omega))∘aj (fun gg=>ES A E.c)<|rt _ f
theorem ut(A:ZP)(E:List ZS)(G:Zu)(g:R 2314240 A)(w:R 2314240 E):Sa 349 [A.row,Z 3 ZS.row E,G.row] [(Xn A E G).1.row,rB (Xn A E G).2]:=by
 have f:=me (Xn.eq_1 A E G);refine so func349 ntmps349∘gF (SX.eq_2 A E G) (fun J U p i a h j d l=>Z3 56 [eL 1 3 E ZS.row,eX 3 (A.row.map .d),eX 5 (G.row.map .d),(6,.one (.Z 6 0),[.box [.d (.int .i64 0),.d (.int .i64 0),.d (.int .i64 0),.d (.int .i64 0),.d (.int .i64 0),.d (.int .i64 0),.d (.int .i64 0)]]),(8,.one (.Z 8 0),[.box [.d (.int .i64 p),.d (.int .i64 i),.d (.int .i64 a),.d (.int .i64 h),.d (.int .i64 j),.d (.int .i64 d),.d (.int .i64 l)]]),eI 9 J,eI 10 (U:Int)]) (fun D J U p i a h j d l=>E.length<D+U/\U<=E.length) (E.length+1) 0 0 0 0 0 0 0 0 0<|fun p1 J U p i a h j d l H T=>(ae H) ?_ ?_<;>intro k2 I H
 ·have N:=ix I;have m2:=ml E (k2 1 _ rfl);have c1:=sl 2314240 E (an g w);have K:=wr U;refine xp N∘aa (qP (C E U))∘aj (fun gg=>Ls A.a (v (C E U)).1 (sg (ZP.Yb g)))<|(cF H) ?_ ?_<;>intro k3 X H
  ·exact eK K H
  exact eK K H
 have c2:=sl 2314240 E (an g w);have f:=ms f H;exact(cQ f)<|fun k4 h3 f=>rt _ f
theorem OT(A:Int)(E:List ZW)(g:R 2326528 E):Sa 419 [rI A,Z 5 ZW.row E] [rI (KE A E)]:=by
 rw[<-EA];have f:=me (Pv.eq_1 A E)
 refine so func419 ntmps419∘cQ f<|fun k1 I f=>(ap (qQ.eq_2 E) (fun J U=>Z3 29 [eI 0 A,eL 1 5 E ZW.row,(5,.one (.O 5 0 0 J.length),[.arr false 1 (J.map S)]),eI 6 (U:Int)]) (fun D J U=>E.length<D+U/\U<=E.length/\J.length<=0+1*U) (E.length+1) ([]:List Int) 0 (h0:=aw [((5,0),some (10,0))] []))<|fun p1 J U H T=>(ae H) ?_ ?_<;>intro k3 X H
 ·have N:=ix X;have m2:=ml E (k3 1 _ rfl);have c1:=sl 2326528 E g;have K:=wr U;refine(xp N)<|?_;exact ay H (hw:=Ya [((5,0),some (24,0))] [] rfl ad)
 have c2:=sl 2326528 E g;have f:=ms f H;exact aa (KG A J bL)∘aa (QW 1 (QS A J))<|rt _ f
theorem LW(A:Int)(E:ZW):y 476 [rI A,E.row] [(KV A E).row]:=have f:=me (KV.eq_1 A E);ao func476 ntmps476∘av P∘ah [false] (Pf E)<|ag _ f
theorem Cr(A:List ZS)(E:ZS):Sa 475 [Z 3 ZS.row A,E.row] [rB (QF A E)]:=by
 have f:=me (QF.eq_1 A E);refine so func475 ntmps475∘aG (xe.eq_2 A E) (fun J=>Z3 18 [eL 0 3 A ZS.row,eX 3 (E.row.map .d),eI 5 (J:Int)]) (fun D J=>A.length<D+J/\J<=A.length) (A.length+1) 0<|fun p1 J H T=>(cF H) ?_ ?_<;>intro k2 I H
 ·have N:=ix I;have m2:=ml A (k2 0 _ rfl);have K:=wr J;refine ac P∘xp N∘aa (qR (C A J) E)<|(cF H) ?_ ?_<;>intro k4 X H
  ·exact rt _ (ms f H)
  exact aE K H
 exact rt _ (ms f H)
theorem Hs(A:ZP)(E:List ZS)(G:List ZW)(g:R 2318336 A)(w:R 2318336 E)(L:R 2318336 G):Sa 420 [A.row,Z 3 ZS.row E,Z 5 ZW.row G] [rI (y6 A E G).1,rB (y6 A E G).2]:=by
 have f:=me (y6.eq_1 A E G);refine so func420 ntmps420∘ap (U7.eq_2 A E G) (fun J U=>Z3 82 [eL 1 3 E ZS.row,eL 2 5 G ZW.row,eX 3 (A.row.map .d),(8,.one (.O 8 0 0 J.length),[.arr false 2 (J.map o.row)]),eI 9 (U:Int)]) (fun D J U=>G.length<D+U/\U<=G.length/\J.length<=0+1*U) (G.length+1) ([]:List o) 0 (h0:=aw [((8,0),some (14,0))] [])<|fun p1 J U H T=>(cF H) ?_ ?_<;>intro k2 I H
 ·have N:=ix I;have m2:=ml G (k2 2 _ rfl);have c1:=sl 2318336 G (an g (an w L));have K:=wr U;refine ac P∘xp N∘aa (IX A.b (C G U))∘av P<|(aM) ?_ ?_<;>intro B
  ·have i2:=ik (U-1) G;have w2:IntKind.i64.wrap ((U:Int)-1)=(U:Int)-1:=YF Y Y;simp[i2,ZG,w2,Ts,B];refine aC∘gK<|fun _=>(l N)<|(aI B) ?_ ?_<;>intro B
   ·all_goals
     refine l N∘aS (fun gg=>T7 A.b (C G U))∘gK<|fun _=>l N∘aS (fun gg=>YJ.rd (LW (Yq A.b (C G U)) (C G U)))∘aS (fun gg=>Cr E (KV (Yq A.b (C G U)) (C G U)))<|(cK H) ?_ ?_<;>intro k5 X H
     ·exact s _ (ms f H)
     ·exact ay H (hw:=Ya [((8,0),some (71,0))] [] rfl c5)
   ·all_goals
     refine aO∘aL∘aW∘aO∘aL∘aO∘aL<|(cK H) ?_ ?_<;>intro k6 h3 H
     ·exact s _ (ms f H)
     ·simp[B]at h3
  ·refine(aW)<|(aI B) ?_ ?_<;>intro B
   ·all_goals
     refine l N∘aS (fun gg=>T7 A.b (C G U))∘gK<|fun _=>l N∘aS (fun gg=>YJ.rd (LW (Yq A.b (C G U)) (C G U)))∘aS (fun gg=>Cr E (KV (Yq A.b (C G U)) (C G U)))<|(cK H) ?_ ?_<;>intro c h4 H
     ·exact s _ (ms f H)
     ·exact ay H (hw:=Ya [((8,0),some (71,0))] [] rfl bG)
   ·all_goals
     refine aO∘aL∘aW∘aO∘aL∘aO∘aL<|(cK H) ?_ ?_<;>intro k8 h5 H
     ·exact s _ (ms f H)
     ·simp[B]at h5
 have c2:=sl 2318336 G (an g (an w L));have f:=ms f H;exact(aa (LQ J A.e (by first|(simp(maxDischargeDepth:=12) [XN];omega)|(simp(maxDischargeDepth:=12) [ZT (m:=2322432) aq g,ZT (m:=2322432) aq w,ZT (m:=2322432) aq L];done))))<|rt _ f
theorem uk(A:ZP)(E:M)(G:List ZS)(V:Zu)(g:R 2314240 A)(w:R 2314240 E)(L:R 2314240 G):Sa 350 [A.row,E.row,Z 3 ZS.row G,V.row] [rI (Jh A E G V)]:=by
 have f:=me (Jh.eq_1 A E G V);refine so func350 ntmps350∘aa (QA A.a V.c)<|(ae f) ?_ ?_<;>intro k1 I f
 ·have N:(Zi A.a V.c).toNat<A.a.length:=by have:=Yy A.a V.c;exact il
  refine xp N∘ap (Kt.eq_2 A E G V) (fun J U=>Z3 66 [eL 2 3 G ZS.row,eX 4 (A.row.map .d),eX 5 (E.row.map .d),eX 7 (V.row.map .d),eI 9 J,eI 11 (U:Int)]) (fun D J U=>E.b.length<D+U/\U<=E.b.length) (E.b.length+1) (C A.a (Zi A.a V.c).toNat).a 0<|fun p1 J U H T=>(cF H) ?_ ?_<;>intro k3 X H
  ·have i2:U<E.b.length:=by(simp at X;omega)
   have m2:=ml E.b (k3 29 _ rfl);have c1:=sl 2314240 E.b (an g (an w L));have K:=wr U;refine ac P∘xp i2∘aa (OT V.b (C E.b U) (sg (Zh (M.ki w))))<|(cF H) ?_ ?_<;>intro k5 h3 H
   ·exact au K H
   refine ac P∘xp i2∘aa (Hs A G (C E.b U) (sg g) (sg L) (sg (Zh (M.ki w))))<|(cF H) ?_ ?_<;>intro c h4 H
   ·refine(aa (QW J (y6 A G (C E.b U)).1))<|?_;exact au K H
   exact au K H
  exact rt _ (ms f H)
 refine(ap (qH.eq_2 A E G V) (fun q n=>Z3 66 [eL 2 3 G ZS.row,eX 4 (A.row.map .d),eX 5 (E.row.map .d),eX 7 (V.row.map .d),eI 9 q,eI 11 (n:Int)]) (fun n2 q n=>E.b.length<n2+n/\n<=E.b.length) (E.b.length+1) 0 0)<|fun p2 q n e2 j2=>(cF e2) ?_ ?_<;>intro k9 h5 e2
 ·have i3:n<E.b.length:=by(simp at h5;omega)
  have m4:=ml E.b (k9 29 _ rfl);have c3:=sl 2314240 E.b (an g (an w L));have w2:=wr n;refine ac P∘xp i3∘aa (OT V.b (C E.b n) (sg (Zh (M.ki w))))<|(cF e2) ?_ ?_<;>intro ar h6 e2
  ·exact au w2 e2
  refine ac P∘xp i3∘aa (Hs A G (C E.b n) (sg g) (sg L) (sg (Zh (M.ki w))))<|(cF e2) ?_ ?_<;>intro ax h7 e2
  ·refine(aa (QW q (y6 A G (C E.b n)).1))<|?_;exact au w2 e2
  exact au w2 e2
 exact rt _ (ms f e2)
theorem CE(A:List ZS)(E:Yv)(g:R 2330624 A):y 351 [Z 3 ZS.row A,E.row] [Z 5 O.row (JF A E)]:=by
 have f:=me (JF.eq_1 A E);refine ao func351 ntmps351∘ap (xR.eq_2 A E) (fun J U=>Z3 44 [eL 0 3 A ZS.row,eX 3 (E.row.map .d),(5,.one (.O 5 0 0 J.length),[.arr false 5 (J.map O.row)]),eI 6 (U:Int)]) (fun D J U=>A.length<D+U/\U<=A.length/\J.length<=0+1*U) (A.length+1) ([]:List O) 0 (h0:=aw [((5,0),some (9,0))] [])<|fun p1 J U H T=>(ae H) ?_ ?_<;>intro k2 I H
 ·have N:=ix I;have m2:=ml A (k2 0 _ rfl);have c1:=sl 2330624 A g;have K:=wr U;refine xp N∘aa (Na (C A U))<|(cF H) ?_ ?_<;>intro k3 X H
  ·exact ay H (hw:=Ya [((5,0),some (42,0))] [] rfl ad)
  exact au K H
 exact ag _ (ms f H)
theorem kc(A:List o)(E G:Int)(g:R 2334720 A):CM prog 480 2 (A.map o.row) [rI E,rI G] ((Xz A E G).map o.row):=by
 refine p9 func480 rfl ai cd ?_;simp[ntmps480];refine(cR (VK E G))<|?_;simp;refine(cP (!(Xt E G).2)) (fun k1 I=>?_) (fun k1 I=>?_)
 ·have q1:=I;try simp at q1
  simp;refine fO (rv:=[.tmp 6]) (.O 0 0 0 A.length) rfl ?_;have f1:=Xz.eq_1 A E G;simp only[I,Xe,XK]at f1;simp[f1]
  all_goals(rintro r (⟨a,_,rfl⟩|rfl) x O<;>simp at O<;>rcases O with rfl|rfl<;>rfl)
 ·have q1:=I;try simp at q1
  have c1:A.length<=2334720:=Z7 (xs g);refine(bd)<|?_;refine fO (rv:=[.tmp 6]) (.O 21 0 0 (A++([(Xt E G).1]:List o)).length) rfl ?_;have f2:=Xz.eq_1 A E G;simp only[I,Xe,XK]at f2;simp[f2];all_goals(rintro r (⟨a,_,rfl⟩|rfl) x O<;>simp at O<;>rcases O with rfl|rfl<;>rfl)
theorem RR(A:List O)(E:Int):Sa 481 [Z 5 O.row A,rI E] [rI (Xd A E)]:=by
 rw[<-v0];have f:=me (DO.eq_1 A E)
 refine so func481 ntmps481∘bH (ky.eq_2 A E) (fun J U p=>Z3 47 [eL 0 5 A O.row,eI 1 E,eI 5 J,eI 6 U,eI 7 (p:Int)]) (fun D J U p=>A.length<D+p/\p<=A.length) (A.length+1) (-1) (-1) 0<|fun p1 J U p H T=>(ae H) ?_ ?_<;>intro k2 I H
 ·have N:=ix I;have m2:=ml A (k2 0 _ rfl);have K:=wr p;refine(xp N)<|(bg H) ?_ ?_<;>intro k3 X H
  ·exact aR K H
  refine(xp N)<|(aF H) ?_ ?_<;>intro k4 h3 H
  ·refine xp N∘aa (QW J (C A p).d)<|?_;exact aR K H
  refine xp N∘aa (QW U (C A p).b)<|?_;exact aR K H
 have f:=ms f H;exact(cQ f)<|fun k5 h4 f=>(aa (QW J (W (U+1))))<|rt _ f
theorem Jr(A:List o)(E:o)(g:R 2338816 A):y 510 [Z 2 o.row A,E.row] [Z 2 o.row (HT A E)]:=by
 have f:=me (HT.eq_1 A E);refine ao func510 ntmps510∘dv (UO.eq_2 A) (fun J U p i=>Z3 78 [eL 0 2 A o.row,(3,.one (.Z 3 0),[.box [.d (.int .i64 p),.d (.int .i64 i)]]),(5,.one (.O 5 0 0 J.length),[.arr false 2 (J.map o.row)]),eI 6 (U:Int)]) (fun D J U p i=>A.length<D+U/\U<=A.length/\J.length<=0+1*U) (A.length+1) ([]:List o) 0 E.d E.b (h0:=aw [((5,0),some (9,0))] [])<|fun p1 J U p i H T=>(ae H) ?_ ?_<;>intro k2 I H
 ·have N:=ix I;have m2:=ml A (k2 0 _ rfl);have c1:=sl 2338816 A g;have K:=wr U;refine(xp N)<|(cF H) ?_ ?_<;>intro k3 X H
  ·exact ey H (hw:=Ya [((5,0),some (37,0))] [] rfl ad)
  refine aa (SW p (C A U).d)∘aa (QW i (C A U).b)<|?_;exact cC K H
 have c2:=sl 2338816 A g;have f:=ms f H;refine(aG (NO.eq_2 J p) (fun q=>Z3 78 [(3,.one (.Z 3 0),[.box [.d (.int .i64 p),.d (.int .i64 i)]]),(5,.one (.O 5 0 0 J.length),[.arr false 2 (J.map o.row)]),eI 8 (q:Int)]) (fun n2 q=>J.length<n2+q/\q<=J.length) (J.length+1) 0)<|fun p2 q e2 j2=>(av P)<|(aM) ?_ ?_<;>intro B
 ·have i2:=ik q J;refine(l i2)<|(cK e2) ?_ ?_<;>intro k6 h3 e2
  ·have m4:=ml J (k6 5 _ rfl);have w2:=wr q;exact aE (an w2 B) e2
  ·have f:=ms f e2;refine(ca P)<|?_;refine Hg (rv:=[.tmp 4]) rfl ?_;simp[f.h,B];all_goals(rintro r (hr|rfl|hr) x O<;>(first|(simp at O;rcases O with rfl|rfl<;>rfl)|((first|(replace hr:=List.mem_of_mem_take hr)|(replace hr:=List.mem_of_mem_drop hr));simp at hr;obtain⟨a,_,rfl⟩:=hr;simp at O;rcases O with rfl|rfl<;>rfl)))
 ·refine(cK e2) ?_ ?_<;>intro k8 h4 e2
  ·simp[B]at h4
  ·have f:=ms f e2;refine(ca P)<|?_;refine Hg (rv:=[.tmp 4]) rfl ?_;simp[f.h,B];all_goals(rintro r (hr|rfl|hr) x O<;>(first|(simp at O;rcases O with rfl|rfl<;>rfl)|((first|(replace hr:=List.mem_of_mem_take hr)|(replace hr:=List.mem_of_mem_drop hr));simp at hr;obtain⟨a,_,rfl⟩:=hr;simp at O;rcases O with rfl|rfl<;>rfl)))
theorem jb(A:List o)(g:R 2330624 A):y 478 [Z 2 o.row A] [Z 2 o.row (XX A)]:=by
 rw[<-nE];have f:=me (CT.eq_1 A)
 refine ao func478 ntmps478∘ap (UK.eq_2 A) (fun J U=>Z3 24 [eL 0 2 A o.row,(3,.one (.O 3 0 0 J.length),[.arr false 2 (J.map o.row)]),eI 4 (U:Int)]) (fun D J U=>A.length<D+U/\U<=A.length/\J.length<=U) (A.length+1) ([]:List o) 0 (h0:=aw [((3,0),some (5,0))] [])<|fun p1 J U H T=>(ae H) ?_ ?_<;>intro k2 I H
 ·have N:=ix I;have m2:=ml A (k2 0 _ rfl);have c1:=sl 2330624 A g;have K:=wr U;refine xp N∘aa (QY (C A U))<|(ae H) ?_ ?_<;>intro k3 X H
  ·refine xp N∘ah [false] (Jr J (C A U) (by exact⟨by have z:=Z7 g;omega,fun _ _=>trivial⟩))<|?_;exact ay H (v:=by first|omega|(have z:=C1 J (C A U);(try dsimp only);omega)) (hw:=Ya [((3,0),some (22,0))] [] rfl ad)
  exact au K H (v:=by first|omega|(have z:=C1 J (C A U);(try dsimp only);omega))
 exact ag _ (ms f H)
theorem tR(A:Yv)(E:List O)(g:R 2326528 E):y 423 [A.row,Z 5 O.row E] [Z 2 o.row (ja A E)]:=by
 rw[<-th];have f:=me (GQ.eq_1 A E)
 refine(ao func423 ntmps423)<|(cF f) ?_ ?_<;>intro k1 I f
 ·refine(FG rfl rfl rfl rfl rfl rfl rfl (kc ([]:List o) 0 (W (A.d-1)) b8) ab ab ab ab ab ab ab cd ab (c:=.O 6 0 0 0) (L:=[(6,0)]))<|?_;simp;refine(cF f) ?_ ?_<;>intro k2 X f
  ·refine(FG rfl rfl rfl rfl rfl rfl rfl (kc (Xz ([]:List o) 0 (W (A.d-1))) (W (A.b+1)) 10000 b8) ab ab ab ab ab ab ab cd ab (c:=.O 14 0 0 (Xz ([]:List o) 0 (W (A.d-1))).length) (L:=[(14,0)]))<|?_;simp;refine aa (RR E A.a)∘FG rfl rfl rfl rfl rfl rfl rfl (kc (Xz (Xz ([]:List o) 0 (W (A.d-1))) (W (A.b+1)) 10000) (Xd E A.a) 10000 b8) ab ab ab ab ab ab ab cd ab (c:=.O 22 0 0 (Xz (Xz ([]:List o) 0 (W (A.d-1))) (W (A.b+1)) 10000).length) (L:=[(22,0)])<|?_;simp;exact(ah [false] (jb (Xz (Xz (Xz ([]:List o) 0 (W (A.d-1))) (W (A.b+1)) 10000) (Xd E A.a) 10000) b8))<|ag _ f
  refine aa (RR E A.a)∘FG rfl rfl rfl rfl rfl rfl rfl (kc (Xz ([]:List o) 0 (W (A.d-1))) (Xd E A.a) 10000 b8) ab ab ab ab ab ab ab cd ab (c:=.O 14 0 0 (Xz ([]:List o) 0 (W (A.d-1))).length) (L:=[(14,0)])<|?_;simp;exact(ah [false] (jb (Xz (Xz ([]:List o) 0 (W (A.d-1))) (Xd E A.a) 10000) b8))<|ag _ f
 refine(cF f) ?_ ?_<;>intro k3 h3 f
 ·refine(FG rfl rfl rfl rfl rfl rfl rfl (kc ([]:List o) (W (A.b+1)) 10000 b8) ab ab ab ab ab ab ab cd ab (c:=.O 6 0 0 0) (L:=[(6,0)]))<|?_;simp;refine aa (RR E A.a)∘FG rfl rfl rfl rfl rfl rfl rfl (kc (Xz ([]:List o) (W (A.b+1)) 10000) (Xd E A.a) 10000 b8) ab ab ab ab ab ab ab cd ab (c:=.O 22 0 0 (Xz ([]:List o) (W (A.b+1)) 10000).length) (L:=[(22,0)])<|?_;simp;exact(ah [false] (jb (Xz (Xz ([]:List o) (W (A.b+1)) 10000) (Xd E A.a) 10000) b8))<|ag _ f
 refine aa (RR E A.a)∘FG rfl rfl rfl rfl rfl rfl rfl (kc ([]:List o) (Xd E A.a) 10000 b8) ab ab ab ab ab ab ab cd ab (c:=.O 6 0 0 0) (L:=[(6,0)])<|?_;simp;exact(ah [false] (jb (Xz ([]:List o) (Xd E A.a) 10000) b8))<|ag _ f
theorem td(A E:o):Sa 479 [A.row,E.row] [rB (TL A E)]:=have f:=me (TL.eq_1 A E);so func479 ntmps479∘aa (QY A)∘aj (fun gg=>QY E)<|rt _ f
theorem Sw(A:List o)(E:o)(g:R 2326528 A):Sa 422 [Z 2 o.row A,E.row] [rB (zo A E)]:=by
 have f:=me (zo.eq_1 A E);refine so func422 ntmps422∘aa (YJ.rd (jb A (sg g)))∘aG (Ul.eq_2 A E) (fun J=>Z3 21 [eX 3 (E.row.map .d),eL 5 2 (XX A) o.row,eI 6 (J:Int)]) (fun D J=>(XX A).length<D+J/\J<=(XX A).length) ((XX A).length+1) 0<|fun p1 J H T=>(cF H) ?_ ?_<;>intro k2 I H
 ·have N:=ix I;have m2:=ml (XX A) (k2 5 _ rfl);have K:=wr J;refine ac P∘xp N∘aa (td E (C (XX A) J))<|(cF H) ?_ ?_<;>intro k4 X H
  ·exact rt _ (ms f H)
  exact aE K H
 exact rt _ (ms f H)
theorem sA(A:Yv)(E:List O)(G:o)(g:R 2322432 E):Sa 352 [A.row,Z 5 O.row E,G.row] [rB (Te A E G)]:=have f:=me (Te.eq_1 A E G);so func352 ntmps352∘av P∘aa (YJ.rd (tR A E (sg g)))∘aa (Sw (ja A E) G (by exact Hw aq))<|rt _ f
theorem zZ(A:List O)(E:Int):Sa 482 [Z 5 O.row A,rI E] [rI (Kj A E)]:=by
 rw[<-v3];have f:=me (IS.eq_1 A E)
 refine so func482 ntmps482∘bH (yj.eq_2 A E) (fun J U p=>Z3 55 [eL 0 5 A O.row,eI 1 E,eI 5 J,eI 6 U,eI 7 (p:Int)]) (fun D J U p=>A.length<D+p/\p<=A.length) (A.length+1) (-1) (-1) 0<|fun p1 J U p H T=>(ae H) ?_ ?_<;>intro k2 I H
 ·have N:=ix I;have m2:=ml A (k2 0 _ rfl);have K:=wr p;refine(xp N)<|(bg H) ?_ ?_<;>intro k3 X H
  ·exact aR K H
  refine(xp N)<|(ae H) ?_ ?_<;>intro k4 h3 H
  ·refine xp N∘aa (QW U (C A p).b)<|?_;exact aR K H
  refine(aM) ?_ ?_<;>intro B
  ·refine(l N)<|(ba H) ?_ ?_<;>intro k5 h4 H
   ·simp[N,ZG];refine(aC)<|?_;exact aR (an K B) H
   ·exact aR (an K B) H
  ·refine(ba H) ?_ ?_<;>intro k6 h5 H
   ·simp[N,ZG];refine(aC)<|?_;exact aR (an K B) H
   ·simp[B]at h5
 have f:=ms f H;exact(cQ f)<|fun c h6 f=>rt _ f
theorem uJ(A E:o):Sa 511 [A.row,E.row] [(KA A E).1.row,rB (KA A E).2]:=by
 rw[<-wG];have f:=me (Ip.eq_1 A E)
 exact so func511 ntmps511∘aa (QY A)∘aj (fun gg=>QY E)∘cQ f<|fun k1 I f=>av P∘aa (QW A.d E.d)∘aa (SW A.b E.b)∘aa (VK (yz A.d E.d) (VD A.b E.b))<|rt _ f
theorem S1(h:b)(k:a:=by(intros;first|omega|with_unfolding_all (first|(first|omega|(simp at*;omega)))|exact wt)):a/\b:=⟨k,h⟩
theorem n7(A E:List o)(g:R 2326528 A)(w:R 2326528 E)(L:A.length<=1/\E.length<=1):y 484 [Z 2 o.row A,Z 2 o.row E] [Z 2 o.row (UF A E)]:=by
 have f:=me (UF.eq_1 A E);refine ao func484 ntmps484∘ap (SJ.eq_2 A E) (fun J U=>Z3 42 [eL 0 2 A o.row,eL 1 2 E o.row,(5,.one (.O 5 0 0 J.length),[.arr false 2 (J.map o.row)]),eI 6 (U:Int)]) (fun D J U=>A.length<D+U/\U<=A.length/\J.length<=U) (A.length+1) ([]:List o) 0 (h0:=aw [((5,0),some (10,0))] [])<|fun p1 J U H T=>(cF H) ?_ ?_<;>intro k2 I H
 ·have N:=ix I;have K:=wr U;refine(ap (jK.eq_2 A E U) (fun q n=>Z3 42 [eL 0 2 A o.row,eL 1 2 E o.row,(5,.one (.O 5 0 0 q.length),[.arr false 2 (q.map o.row)]),eI 6 (U:Int),eI 7 (n:Int)]) (fun n2 q n=>E.length<n2+n/\n<=E.length/\q.length<=U+n) (E.length+1) J 0)<|fun p2 q n e2 j2=>(cF e2) ?_ ?_<;>intro k4 X e2
  ·have i2:=ix X;have w2:=wr n;refine(ac P)<|?_;simp[N,ZG,i2];refine(aa (uJ (C A U) (C E n)))<|(ae e2) ?_ ?_<;>intro k6 h3 e2
   ·simp;repeat with_reducible refine S1 ?_
    exact ay e2 (v:=by first|omega|(simp at*;omega)) (hw:=Ya [((5,0),some (39,0))] [] rfl bJ)
   exact au (an K w2) e2 (v:=by first|omega|(simp at*;omega))
  have H:=ms H e2;exact au K H
 have f:=ms f H;exact(ah [false] (jb J (by exact⟨Y,fun _ _=>trivial⟩)))<|ag _ f
theorem wI(A:Yv)(E:List O)(g:R 2322432 E):y 424 [A.row,Z 5 O.row E] [Z 2 o.row (xx A E)]:=by
 rw[<-uA];have f:=me (L8.eq_1 A E)
 exact ao func424 ntmps424∘aa (zZ E A.a)∘aa (VK 0 (Kj E A.a))∘cQ f<|fun k1 I f=>av P∘aa (Hq A)∘ah [false] (n7 ([xD A]:List o) ([(Xt 0 (Kj E A.a)).1]:List o) ce ce (by exact⟨Nat.le_refl _,Nat.le_refl _⟩))<|ag _ f
theorem AK(A:Yv)(E:List O)(G:o)(g:R 2318336 E):Sa 353 [A.row,Z 5 O.row E,G.row] [rB (WS A E G)]:=have f:=me (WS.eq_1 A E G);so func353 ntmps353∘av P∘aa (YJ.rd (wI A E (sg g)))∘aa (Sw (xx A E) G (by exact IB aq))<|rt _ f
theorem AV(A:List ZS)(g:R 2330624 A):y 355 [Z 3 ZS.row A] [Z 6 XD.row (ye A)]:=by
 have f:=me (ye.eq_1 A);refine ao func355 ntmps355∘ap (qZ.eq_2 A) (fun J U=>Z3 28 [eL 0 3 A ZS.row,(3,.one (.O 3 0 0 J.length),[.arr false 6 (J.map XD.row)]),eI 4 (U:Int)]) (fun D J U=>A.length<D+U/\U<=A.length/\J.length<=0+1*U) (A.length+1) ([]:List XD) 0 (h0:=aw [((3,0),some (7,0))] [])<|fun p1 J U H T=>(ae H) ?_ ?_<;>intro k2 I H
 ·have N:=ix I;have m2:=ml A (k2 0 _ rfl);have c1:=sl 2330624 A g;have K:=wr U;refine xp N∘aa (OI (C A U))<|(cF H) ?_ ?_<;>intro k3 X H
  ·exact ay H (hw:=Ya [((3,0),some (26,0))] [] rfl ad)
  exact au K H
 exact ag _ (ms f H)
theorem wM(A:XD):Sa 512 [A.row] [rB (SY A)]:=have f:=me (SY.eq_1 A);so func512 ntmps512∘aa (YX A.g 1 99)∘aj (fun gg=>YX A.a 0 99)∘aj (fun gg=>YX A.c 1 99)∘aj (fun gg=>QY (o.mk A.d A.b))<|rt _ f
theorem E7(A:XD):y 513 [A.row] [Z 1 S (Kv A)]:=have f:=me (Kv.eq_1 A);(ao func513 ntmps513)<|ag _ f
theorem OR(A:List YZ)(E:XD)(g:R 2318336 A):Sa 485 [Z 5 YZ.row A,E.row] [rB (kq A E)]:=have f:=me (kq.eq_1 A E);so func485 ntmps485∘av P∘aa (wM E)∘aj (fun gg=>ES A E.c)∘aj (fun gg=>YJ.rd (E7 E))∘aj (fun gg=>UW A E.c (Kv E) E.f (sg g) (by simp(maxDischargeDepth:=12) [NP];try omega))<|rt _ f
theorem Ei(A:List YZ)(E:List XD)(G V:Int)(g:R 2314240 A)(w:R 2314240 E):y 425 [Z 5 YZ.row A,Z 6 XD.row E,rI G,rI V] [Z 2 o.row (K5 A E G V)]:=by
 have f:=me (K5.eq_1 A E G V);refine ao func425 ntmps425∘ap (qb.eq_2 A E G V) (fun J U=>Z3 58 [eL 0 5 A YZ.row,eL 1 6 E XD.row,eI 2 G,eI 3 V,(9,.one (.O 9 0 0 J.length),[.arr false 2 (J.map o.row)]),eI 10 (U:Int)]) (fun D J U=>E.length<D+U/\U<=E.length/\J.length<=0+1*U) (E.length+1) ([]:List o) 0 (h0:=aw [((9,0),some (11,0))] [])<|fun p1 J U H T=>(ae H) ?_ ?_<;>intro k2 I H
 ·have N:=ix I;have m2:=ml E (k2 1 _ rfl);have c1:=sl 2314240 E (an g w);have K:=wr U;refine(xp N)<|(aM) ?_ ?_<;>intro B
  ·refine(l N)<|(aI B) ?_ ?_<;>intro B
   ·all_goals
     refine l N∘aS (fun gg=>OR A (C E U) (sg g))<|(cK H) ?_ ?_<;>intro k3 X H
     ·refine ac P∘l N<|?_;exact ay H (hw:=Ya [((9,0),some (55,0))] [] rfl bG)
     ·exact au (an K B) H
   ·all_goals
     refine aO∘aL<|(cK H) ?_ ?_<;>intro k5 h3 H
     ·simp[B]at h3
     ·exact au (an K B) H
  ·refine(aI B) ?_ ?_<;>intro B
   ·try(simp at B;done)
    all_goals
     refine l N∘aS (fun gg=>OR A (C E U) (sg g))<|(cK H) ?_ ?_<;>intro c h4 H
     ·simp[B]at h4
     ·simp[B]at h4
   ·all_goals
     refine aO∘aL<|(cK H) ?_ ?_<;>intro k9 h5 H
     ·simp[B]at h5
     ·exact au (an K B) H
 have c2:=sl 2314240 E (an g w);have f:=ms f H;exact(ah [false] (jb J hJ))<|ag _ f
theorem BP(A:List YZ)(E:List XD)(G V:Int)(a4:o)(g:R 2310144 A)(w:R 2310144 E):Sa 354 [Z 5 YZ.row A,Z 6 XD.row E,rI G,rI V,a4.row] [rB (jT A E G V a4)]:=by
 rw[<-B5];have f:=me (Mb.eq_1 A E G V a4)
 refine(so func354 ntmps354)<|(cF f) ?_ ?_<;>intro k1 I f
 ·exact(aa (QY a4))<|rt _ f
 exact av P∘aa (YJ.rd (Ei A E G V cL cL))∘aa (Sw (K5 A E G V) a4 (by exact OZ (by have z:=Z7 w;omega)))<|rt _ f
theorem Em(h:b)(k:a:=by(intros;first|omega|with_unfolding_all (first|(first|omega|(have z:=GB I;have y:=Yy A.a a4.c;omega)))|exact wt)):a/\b:=⟨k,h⟩
theorem OP(A:ZP)(E:M)(G:List (List Int))(V:Int)(a4:Zu)(g:R 2281472 A)(w:R 2281472 E)(L:R 2281472 G)(a:rl E<=2097152):Sa 279 [A.row,E.row,Z 1 (aH 1 S) G,rI V,a4.row] [(qc A E G V a4).row]:=by
 have f:=me (qc.eq_1 A E G V a4);refine so func279 ntmps279∘aa (Ab A V a4 bn)<|(aF f) ?_ ?_<;>intro k1 I f
 ·have q1:=I;try simp at q1
  simp;exact rt _ f
 have q1:=I;try simp at q1
 simp;refine av P∘aa (YJ.rd (Pq a4))∘aa (R3 A E G (Yf a4) bn bn bn bn)∘av P∘cR (QA A.a a4.c)<|?_;have N:(Zi A.a a4.c).toNat<A.a.length:=by have:=Yy A.a a4.c;(have z:=GB I;have y:=Yy A.a a4.c;omega)
 simp[N,ZG];repeat with_reducible refine Em ?_
 refine aa (Wl A.c (C A.a (Zi A.a a4.c).toNat).b)∘aj (fun gg=>Wl A.c a4.b)<|(aF f) ?_ ?_<;>intro k4 X f
 ·have q2:=X;try simp at q2
  simp;exact(aa (Wq 5))<|rt _ f
 have q2:=X;try simp at q2
 simp;refine aa (ET A E G bn bn bn bn)∘aa (ut A (YS A E G) a4 bn bn)<|(aF f) ?_ ?_<;>intro k5 h3 f
 ·have q3:=h3;try simp at q3
  simp;exact(aa (Wq 6))<|rt _ f
 have q3:=h3;try simp at q3
 simp;refine(aa (uk A E (YS A E G) a4 bn bn bn))<|(aF f) ?_ ?_<;>intro k6 h4 f
 ·have q4:=h4;try simp at q4
  simp;exact(aa (Wq 7))<|rt _ f
 have q4:=h4;try simp at q4
 simp;refine aa (YJ.rd (CE (YS A E G) (Xn A (YS A E G) a4).1 bn))∘aa (sA (Xn A (YS A E G) a4).1 (JF (YS A E G) (Xn A (YS A E G) a4).1) (o.mk (Jh A E (YS A E G) a4) (XW A E G (Yf a4))) bn)<|(aF f) ?_ ?_<;>intro c h5 f
 ·have r:=h5;try simp at r
  simp;exact rt _ f
 have r:=h5;try simp at r
 simp;refine(aa (AK (Xn A (YS A E G) a4).1 (JF (YS A E G) (Xn A (YS A E G) a4).1) (o.mk (Jh A E (YS A E G) a4) (XW A E G (Yf a4))) bn))<|(aF f) ?_ ?_<;>intro k8 h6 f
 ·have O:=h6;try simp at O
  simp;exact rt _ f
 have O:=h6;try simp at O
 simp;refine av P∘aa (YJ.rd (AV (YS A E G) bn))∘aa (BP A.a (ye (YS A E G)) a4.g (Xn A (YS A E G) a4).1.g (o.mk (Jh A E (YS A E G) a4) (XW A E G (Yf a4))) bn bn)<|(aF f) ?_ ?_<;>intro al h7 f
 ·have b:=h7;try simp at b
  simp;exact rt _ f
 have b:=h7;try simp at b
 simp;exact rt _ f
theorem sW(A:ZP)(E:M)(G:ZV)(V:Zu)(g:R 2277376 A)(w:R 2277376 E)(L:R 2277376 G)(a:rl E<=2097152):Sa 277 [A.row,E.row,G.row,V.row] [(EP A E G V).row]:=have f:=me (EP.eq_1 A E G V);so func277 ntmps277∘av P∘aa (Gm E G bI bI)∘aa (U3 V.b G bI)∘aa (OP A E (KX E G) (Yh V.b G) V bI bI bI bI)<|rt _ f
theorem IF(A:ZP)(E:ZU)(g:R 2273280 A)(w:R 2097152 E):Sa 194 [A.row,E.row] [(jM A E).row]:=have f:=me (jM.eq_1 A E);so func194 ntmps194∘av P∘aa (OL E cp)∘aa (sW A (JB E) E.c E.d cp cp cp cp)<|rt _ f
theorem Ew(h:b)(k:a:=by(intros;first|omega|with_unfolding_all (first|first|omega|(have l:=YA A E gm;omega))|exact wt)):a/\b:=⟨k,h⟩
theorem TY(A:ZF)(E:Int)(g:R 1048576 A):Sa 116 [A.row,rI E] [(Jn A E).row]:=by
 have f:=me (Jn.eq_1 A E);refine so func116 ntmps116∘aa (SL A E)<|(aF f) ?_ ?_<;>intro k1 I f
 ·have q1:=I;try simp at q1
  simp;exact rt _ f
 have q1:=I;try simp at q1
 simp;refine(ac P)<|?_;have N:(u A E).1.toNat<A.a.length:=e0
 have i2:(u A E).2.toNat<(C A.a (u A E).1.toNat).a.length:=e0;simp[N,ZG,i2];repeat with_reducible refine Ew ?_
 exact(aa (IF A.b (C (C A.a (u A E).1.toNat).a (u A E).2.toNat) (sg (ZF.YW g)) (sg (Zh (ZE.YO (Zh (ZF.Zz g)))))))<|rt _ f
theorem V2(A:ZF)(E:Int)(g:R 1048576 A)(w:aB A.a<=1048576):Sa 111 [A.row,rI E] [rI (QM A E)]:=by
 have f:=me (QM.eq_1 A E);refine so func111 ntmps111∘aa (YJ.rd (l7 A g b7))∘ap (yM.eq_2 A E) (fun J U=>Z3 28 [eI 1 E,eX 2 (A.row.map .d),eI 5 J,eL 6 1 (y4 A) S,eI 7 (U:Int)]) (fun D J U=>(y4 A).length<D+U/\U<=(y4 A).length) ((y4 A).length+1) 0 0<|fun p1 J U H T=>(cF H) ?_ ?_<;>intro k2 I H
 ·have N:=ix I;have m2:=ml (y4 A) (k2 6 _ rfl);have K:=wr U;refine ac P∘xp N∘aa (TY A (C (y4 A) U) g)<|(cF H) ?_ ?_<;>intro k4 X H
  ·exact au K H
  exact au K H
 exact rt _ (ms f H)
theorem E2(A:ZF)(g:R 1048576 A)(w:aB A.a<=1048576):Sa 56 [A.row] [rS (VP A)]:=by
 have f:=me (VP.eq_1 A);refine(so func56 ntmps56)<|?_;have o1:=Z2 A.b.d;refine aa (XV A.b.d)∘ap (xS.eq_2 A) (fun J U=>Z3 53 [eX 1 (A.row.map .d),(3,.one (.d (.str J)),[]),eI 4 (U:Int)]) (fun D J U=>A.a.length<D+U/\U<=A.a.length/\J.size<=25+25*U) (A.a.length+1) (Zr A.b.d++(⟨#[32]⟩:ByteArray)) 0 (v:=by(have z:=Z2 A.b.d;(try dsimp only);refine⟨Y,Y,Nat.zero_le _,?_⟩;simp;omega))<|fun p1 J U H T=>(cF H) ?_ ?_<;>intro k2 I H
 ·have N:=ix I;have m2:=ml A.a (k2 12 _ rfl);have c1:=sl 1048576 A.a (an g w);have K:=wr U;refine(aF H) ?_ ?_<;>intro k3 X H
  ·refine(xp N)<|?_;have V:=Z2 ((C A.a U).a.length:Int)
   refine(aa (XV ((C A.a U).a.length:Int)))<|?_;exact au K H
  refine(xp N)<|?_;have o3:=Z2 ((C A.a U).a.length:Int)
  refine(aa (XV ((C A.a U).a.length:Int)))<|?_;exact au K H
 have c2:=sl 1048576 A.a (an g w);have f:=ms f H;refine av P∘aa (V2 A 1 g b7)<|?_;have b:=Z2 (QM A 1);refine aa (XV (QM A 1))∘aa (V2 A 2 g b7)<|?_;have a:=Z2 (QM A 2);refine aa (XV (QM A 2))∘aa (V2 A 3 g b7)<|?_;have c:=Z2 (QM A 3);refine(aa (XV (QM A 3)))<|?_;have d:=Z2 (A.g.length:Int);exact(aa (XV (A.g.length:Int)))<|rt _ f
theorem Sk(A:ZF)(g:R 2314240 A):Sa 188 [A.row] [rB (MO A)]:=by
 have f:=me (MO.eq_1 A);refine so func188 ntmps188∘aG (Mu.eq_2 A) (fun J=>Z3 56 [eX 1 (A.row.map .d),eI 3 (J:Int)]) (fun D J=>A.c.length<D+J/\J<=A.c.length) (A.c.length+1) 0<|fun p1 J H T=>(cF H) ?_ ?_<;>intro k2 I H
 ·have N:=ix I;have m2:=ml A.c (k2 7 _ rfl);have c1:=sl 2314240 A.c g;have K:=wr J;refine ac P∘xp N∘aa (Ls A.b.a (C A.c J) (sg (ZP.Yb (ZF.YW g))))<|(aM) ?_ ?_<;>intro B
  ·refine l N∘aS (fun gg=>W8 A.c (C A.c J).a)<|(cK H) ?_ ?_<;>intro k4 X H
   ·exact s _ (ms f H)
   ·exact aE (an K B) H
  ·refine(aO)<|?_;simp;refine(aC)<|(cK H) ?_ ?_<;>intro k5 h3 H
   ·exact s _ (ms f H)
   ·simp[B]at h3
 have f:=ms f H;refine(aG (RQ.eq_2 A) (fun q=>Z3 56 [eX 1 (A.row.map .d),eI 4 (q:Int)]) (fun n2 q=>A.d.length<n2+q/\q<=A.d.length) (A.d.length+1) 0)<|fun p2 q e2 j2=>(ae e2) ?_ ?_<;>intro c h4 e2
 ·have i2:=ix h4;have m4:=ml A.d (c 37 _ rfl);have c3:=sl 2314240 A.d g;have w2:=wr q;refine xp i2∘aa (YX (C A.d q) (-1) 10001)<|(aF e2) ?_ ?_<;>intro k8 h5 e2
  ·have r:=h5;try simp[ZJ]at r
   have f:=ms f e2;simp;exact rt _ f
  have r:=h5;try simp[ZJ]at r
  simp;exact aE w2 e2
 exact rt _ (ms f e2)
theorem S2(h:b)(k:a:=by(intros;first|omega|with_unfolding_all (first|(have o:(C A.a U).a.length<=2318336:=Z7 (xs g);have V:A.a.length<=2318336:=Z7 (xs g);omega))|(simp_all;done)|(simp_all;omega)|grind|exact wt)):a/\b:=⟨k,h⟩
theorem sJ(A:ZF)(g:R 2318336 A):Sa 189 [A.row] [rB (MK A)]:=by
 have f:=me (MK.eq_1 A);refine so func189 ntmps189∘ap (WV.eq_2 A) (fun J U=>Z3 75 [eX 1 (A.row.map .d),(3,.one (.O 3 0 0 J.length),[.arr false 1 (J.map S)]),eI 4 (U:Int)]) (fun D J U=>A.a.length<D+U/\J.length<=2318336*U) (A.a.length+1) ([]:List Int) 0 (h0:=aw [((3,0),some (7,0))] [])<|fun p1 J U H T=>(ae H) ?_ ?_<;>intro k2 I H
 ·have N:=ix I;have m2:=ml A.a (k2 10 _ rfl);have c1:=sl 2318336 A.a g;have K:=wr U;simp[N,ZG];refine(aa (qx (C A.a U)))<|(bE) ?_ ?_<;>intro B
  ·have g1:=B;try simp at g1
   simp[N,ZG,B];refine(aA H) ?_ ?_<;>intro k3 X H
   ·have f:=ms f H;simp[B];exact s _ f
   ·simp[B];refine(lq (TE.eq_2 A U) (fun q n=>Z3 75 [eX 1 (A.row.map .d),(3,.one (.O 3 0 0 q.length),[.arr false 1 (q.map S)]),eI 4 (U:Int),eI 5 (n:Int)]) (fun n2 q n=>(C A.a U).a.length<n2+n/\n<=(C A.a U).a.length/\q.length<=2318336*U+n) ((C A.a U).a.length+1) J 0)<|fun p2 q n e2 j2=>?_;simp[N,ZG,B];refine(aA e2) ?_ ?_<;>intro k5 h3 e2
    ·have i2:=ix h3;have m4:=ml (C A.a U).a (k5 38 _ rfl);have c2:=sl 2318336 (C A.a U).a g;have w2:=wr n;simp[N,ZG,i2,B];refine(cR (jZ q (C (C A.a U).a n).b))<|?_;simp[B];refine(aA e2) ?_ ?_<;>intro k6 h4 e2
     ·have H:=ms H e2;have f:=ms f H;simp[B];exact s _ f
     ·simp[B];repeat with_reducible refine S2 ?_
      exact ay e2 (v:=by(have o:(C A.a U).a.length<=2318336:=Z7 (xs g);first|omega|(simp at*;omega))) (hw:=Ya [((3,0),some (65,0))] [] rfl c5)
    ·have c3:=sl 2318336 (C A.a U).a g;have H:=ms H e2;simp[B];exact au (an K B) H (v:=by(have o:(C A.a U).a.length<=2318336:=Z7 (xs g);first|omega|(simp at*;omega)))
  ·simp[B];refine(aA H) ?_ ?_<;>intro c h5 H
   ·have f:=ms f H;simp[B];exact s _ f
   ·simp[B]at h5
 have f:=ms f H;exact(aa (YX (A.a.length:Int) 1 4))<|rt _ f
theorem rA(A:ZF)(g:R 2310144 A):Sa 112 [A.row] [rB (Tg A)]:=by
 rw[<-nS];have f:=me (DV.eq_1 A)
 refine so func112 ntmps112∘aG (Oh.eq_2 A) (fun J=>Z3 103 [eX 1 (A.row.map .d),eI 3 (J:Int)]) (fun D J=>A.e.length<D+J/\J<=A.e.length) (A.e.length+1) 0<|fun p1 J H T=>(ae H) ?_ ?_<;>intro k2 I H
 ·have N:=ix I;have m2:=ml A.e (k2 8 _ rfl);have c1:=sl 2310144 A.e g;have K:=wr J;refine(xp N)<|(cF H) ?_ ?_<;>intro k3 X H
  ·exact rt _ (ms f H)
  exact aE K H
 have f:=ms f H;refine(aG (OG.eq_2 A) (fun q=>Z3 103 [eX 1 (A.row.map .d),eI 4 (q:Int)]) (fun n2 q=>A.f.length<n2+q/\q<=A.f.length) (A.f.length+1) 0)<|fun p2 q e2 j2=>(cF e2) ?_ ?_<;>intro k5 h3 e2
 ·have i2:=ix h3;have m4:=ml A.f (k5 21 _ rfl);have c3:=sl 2310144 A.f g;have w2:=wr q;refine ac P∘xp i2∘aa (Ka A.b.b (C A.f q))<|(aM) ?_ ?_<;>intro B
  ·have i3:=ik (q-1) A.f;have w3:IntKind.i64.wrap ((q:Int)-1)=(q:Int)-1:=YF Y Y;refine l (an i3 w3)∘gK<|fun _=>(l i2)<|(cK e2) ?_ ?_<;>intro c h4 e2
   ·exact s _ (ms f e2)
   ·exact aE (an w2 (an w3 B)) e2
  ·refine(aW)<|(cK e2) ?_ ?_<;>intro k8 h5 e2
   ·exact s _ (ms f e2)
   ·exact aE (an w2 B) e2
 have f:=ms f e2;refine(aG (Od.eq_2 A) (fun j=>Z3 103 [eX 1 (A.row.map .d),eI 5 (j:Int)]) (fun p j=>A.g.length<p+j/\1<=j) (A.g.length+1) 1)<|fun p3 j e3 b=>(cF e3) ?_ ?_<;>intro al h6 e3
 ·have d:=ix h6;have m6:=ml A.g (al 56 _ rfl);have c5:=sl 2310144 A.g g;have t:=wr j;refine(ac P)<|?_;have i6:=ik (j-1) A.g;have a:IntKind.i64.wrap ((j:Int)-1)=(j:Int)-1:=YF Y Y;refine(xp (an i6 (an a d)))<|(cF e3) ?_ ?_<;>intro v h7 e3
  ·exact rt _ (ms f e3)
  exact aE (an t a) e3
 have f:=ms f e3;exact aa (EW A.b)∘aj (fun gg=>Sk A (sg g))∘aj (fun gg=>sJ A (sg g))<|rt _ f
theorem AE(h:b)(k:a:=by(intros;first|omega|with_unfolding_all (first|(first|omega|(have d:=Sb (l:=A.a) (i:=U) br;omega)))|exact wt)):a/\b:=⟨k,h⟩
theorem O3(A:ZF)(g:R 1048576 A)(w:aB A.a<=1048576):y 190 [A.row] [Z 1 S (Qb A)]:=by
 have f:=me (Qb.eq_1 A);refine ao func190 ntmps190∘ap (WE.eq_2 A) (fun J U=>Z3 46 [eX 1 (A.row.map .d),(3,.one (.O 3 0 0 J.length),[.arr false 1 (J.map S)]),eI 4 (U:Int)]) (fun D J U=>A.a.length<D+U/\U<=A.a.length/\J.length+aB (A.a.drop U)<=1048576) (A.a.length+1) ([]:List Int) 0 (v:=by((try dsimp only);simp only[List.length_nil,List.drop_zero];omega)) (h0:=aw [((3,0),some (7,0))] [])<|fun p1 J U H T=>(cF H) ?_ ?_<;>intro k2 I H
 ·have N:=ix I;have m2:=ml A.a (k2 10 _ rfl);have c1:=sl 1048576 A.a (an g w);have K:=wr U;refine(lq (qN.eq_2 A U) (fun q n=>Z3 46 [eX 1 (A.row.map .d),(3,.one (.O 3 0 0 q.length),[.arr false 1 (q.map S)]),eI 4 (U:Int),eI 5 (n:Int)]) (fun n2 q n=>(C A.a U).a.length<n2+n/\n<=(C A.a U).a.length/\q.length+((C A.a U).a.length-n)+aB (A.a.drop (U+1))<=1048576) ((C A.a U).a.length+1) J 0 (v:=by(have d:=Sb (l:=A.a) (i:=U) br;(try dsimp only);omega)))<|fun p2 q n e2 j2=>?_;simp[N,ZG];refine(ae e2) ?_ ?_<;>intro k4 X e2
  ·have i2:=ix X;have m4:=ml (C A.a U).a (k4 21 _ rfl);have c2:=sl 1048576 (C A.a U).a (an g w);have w2:=wr n;simp[N,ZG,i2];refine(aa (TY A (C (C A.a U).a n).b g))<|(ae e2) ?_ ?_<;>intro k5 h3 e2
   ·simp;repeat with_reducible refine AE ?_
    exact ay e2 (v:=by((try dsimp only);(try simp only[List.length_append,List.length_singleton]);omega)) (hw:=Ya [((3,0),some (44,0))] [] rfl bJ)
   exact au (an K w2) e2 (v:=by((try dsimp only);(try simp only[List.length_append,List.length_singleton]);omega))
  have H:=ms H e2;exact au K H (v:=by(first|omega|((try dsimp only);omega)|(simp at*;omega)))
 exact ag _ (ms f H)
theorem E8(h:b)(k:a:=by(intros;first|omega|with_unfolding_all (first|(first|omega|(have z:=Dy A;omega)))|exact wt)):a/\b:=⟨k,h⟩
theorem Dp(A:ZF)(g:R 1048576 A)(w:aB A.a<=1048576):y 113 [A.row] [Z 1 S (VE A)]:=by
 have f:=me (VE.eq_1 A);refine ao func113 ntmps113∘aa (YJ.rd (O3 A g b7))∘ap (xV.eq_2 A) (fun J U=>Z3 30 [eX 1 (A.row.map .d),(3,.one (.O 3 0 0 J.length),[.arr false 1 (J.map S)]),eL 4 1 (Qb A) S,eI 5 (U:Int)]) (fun D J U=>(Qb A).length<D+U/\U<=(Qb A).length/\J.length<=0+1*U) ((Qb A).length+1) ([]:List Int) 0 (h0:=aw [((3,0),some (6,0))] [])<|fun p1 J U H T=>(cF H) ?_ ?_<;>intro k2 I H
 ·have N:=ix I;have m2:=ml (Qb A) (k2 4 _ rfl);have K:=wr U;refine(ac P)<|?_;simp[N,ZG];refine(aa (jZ A.g (C (Qb A) U)))<|(ae H) ?_ ?_<;>intro k4 X H
  ·simp[N,ZG];repeat with_reducible refine E8 ?_
   exact ay H (hw:=Ya [((3,0),some (28,0))] [] rfl ad)
  exact au K H
 exact ag _ (ms f H)
theorem re(A:ZF)(g:R 1048576 A)(w:aB A.a<=1048576):Sa 57 [A.row] [rS (Rs A)]:=have f:=me (Rs.eq_1 A);so func57 ntmps57∘aa (rA A (sg g))∘cQ f<|fun k1 I f=>aa (YJ.rd (Dp A g b7))∘cQ f<|fun k2 X f=>rt _ f
theorem N8(A:Int):Sa 192 [rI A] [rS (KP A)]:=by
 have f:=me (KP.eq_1 A);refine so func192 ntmps192∘aa (YX A 1 3)<|(aF f) ?_ ?_<;>intro k1 I f
 ·have q1:=I;try simp[ZJ]at q1
  simp;exact rt _ f
 have q1:=I;try simp[ZJ]at q1
 have N:=ik A.toNat ([(⟨#[]⟩:ByteArray),(⟨#[118,97,108,105,100]⟩:ByteArray),(⟨#[105,110,118,97,108,105,100]⟩:ByteArray),(⟨#[111,112,101,110]⟩:ByteArray)]:List ByteArray);have r1:=ZG (f:=sR) N;try simp at r1
 exact(xp r1)<|rt _ f
theorem M7(A:Int):Sa 193 [rI A] [rS (K0 A)]:=by
 have f:=me (K0.eq_1 A);refine so func193 ntmps193∘aa (YX A 0 9)<|(aF f) ?_ ?_<;>intro k1 I f
 ·have q1:=I;try simp[ZJ]at q1
  simp;exact rt _ f
 have q1:=I;try simp[ZJ]at q1
 have N:=ik A.toNat ([(⟨#[110,111,110,101]⟩:ByteArray),(⟨#[102,111,114,109]⟩:ByteArray),(⟨#[100,111,99,117,109,101,110,116]⟩:ByteArray),(⟨#[107,101,121]⟩:ByteArray),(⟨#[109,97,114,107]⟩:ByteArray),(⟨#[98,114,111,107,101,110]⟩:ByteArray),(⟨#[99,101,114,116,105,102,105,99,97,116,101]⟩:ByteArray),(⟨#[116,105,109,101]⟩:ByteArray),(⟨#[101,110,100,101,100]⟩:ByteArray),(⟨#[109,97,110,100,97,116,101]⟩:ByteArray)]:List ByteArray);have r1:=ZG (f:=sR) N;try simp at r1
 exact(xp r1)<|rt _ f
theorem V0(A:XR):Sa 115 [A.row] [rS (X6 A)]:=by
 rw[<-Gj];have f:=me (Sy.eq_1 A)
 refine so func115 ntmps115∘aa (N8 A.a)∘aj (fun gg=>M7 A.c)∘cQ f<|fun k1 I f=>(av P)<|?_;have o1:=jd A.a
 refine(aa (N8 A.a))<|?_;have V:=kR A.c
 refine(aa (M7 A.c))<|(cF f) ?_ ?_<;>intro k3 X f
 ·refine aY fun k4=>?_;refine(av P)<|?_;have o3:=Z2 A.b.d
  refine(aa (XV A.b.d))<|?_;have b:=Z2 A.b.b
  exact(aa (XV A.b.b))<|rt _ f
 exact rt _ f
theorem wg(A:ZU)(g:R 2338816 A):y 196 [A.row] [Z 1 S (z8 A)]:=by
 rw[<-uy];have f:=me (I7.eq_1 A)
 refine ao func196 ntmps196∘ap (VG.eq_2 A) (fun J U=>Z3 76 [eX 1 (A.row.map .d),(3,.one (.O 8 0 0 0),[]),(4,.one (.O 4 0 0 J.length),[.arr false 1 (J.map S)]),eI 5 (U:Int),(8,.any,[.arr false 1 (([]:List Int).map S)])]) (fun D J U=>A.a.b.length<D+U/\U<=A.a.b.length/\J.length<=1+U) (A.a.b.length+1) ([A.d.b]:List Int) 0 (h0:=aw [((4,0),some (12,0))] [])<|fun p1 J U H T=>(ae H) ?_ ?_<;>intro k2 I H
 ·have N:=ix I;have m2:=ml A.a.b (k2 16 _ rfl);have c1:=sl 2338816 A.a.b g;have K:=wr U;refine(xp N)<|?_;exact ay H (hw:=Ya [((4,0),some (30,0))] [] rfl ad)
 have c2:=sl 2338816 A.a.b g;have f:=ms f H;refine(ap (yv.eq_2 J) (fun q n=>Z3 76 [(3,.one (.O 3 0 0 q.length),[.arr false 1 (q.map S)]),(4,.one (.O 4 0 0 J.length),[.arr false 1 (J.map S)]),eI 6 (n:Int)]) (fun n2 q n=>J.length<n2+n/\n<=J.length/\q.length<=n) (J.length+1) ([]:List Int) 0 (h0:=aw [((3,0),some (8,0))] []))<|fun p2 q n e2 j2=>(ae e2) ?_ ?_<;>intro k4 X e2
 ·have i2:=ix X;have m4:=ml J (k4 4 _ rfl);have w2:=wr n;refine xp i2∘aa (jZ q (C J n))<|(cF e2) ?_ ?_<;>intro k5 h3 e2
  ·exact au w2 e2
  refine(aG (W9.eq_2 q n J) (fun j=>Z3 76 [(3,.one (.O 3 0 0 q.length),[.arr false 1 (q.map S)]),(4,.one (.O 4 0 0 J.length),[.arr false 1 (J.map S)]),eI 6 (n:Int),eI 7 (j:Int)]) (fun p j=>q.length<p+j/\j<=q.length) (q.length+1) 0)<|fun p3 j e3 b=>(av P)<|(aM) ?_ ?_<;>intro B
  ·have i3:=ik j q;refine l i3∘gK<|fun _=>(l i2)<|(cK e3) ?_ ?_<;>intro k8 h4 e3
   ·have w3:=wr j;exact aE (an w2 (an w3 B)) e3
   ·have e2:=ms e2 e3;refine ac P∘l i2<|?_;exact ay e2 (hw:=Ya [((3,0),some (74,0))] [] rfl (by simp[w2,B]))
  ·refine(aW)<|(cK e3) ?_ ?_<;>intro al h5 e3
   ·simp[B]at h5
   ·have e2:=ms e2 e3;refine ac P∘l i2<|?_;exact ay e2 (hw:=Ya [((3,0),some (74,0))] [] rfl (by simp[w2,B]))
 exact ag _ (ms f e2)
theorem Ho(A:List Int)(E:ZV)(G:List Int)(g:R 2322432 A)(w:R 2322432 E)(L:R 2322432 G):y 195 [Z 1 S A,E.row,Z 1 S G] [(J1 A E G).1.row,rB (J1 A E G).2]:=by
 have f:=me (J1.eq_1 A E G);refine ao func195 ntmps195∘aa (jl E)∘cQ f<|fun k1 I f=>?_;refine C8 [2,3,4,0,1,5,6,7] P ai ai ai ?_;have c1:=sl 2322432 A (an g (an w L));refine bd∘hZ (Qx.eq_2 A E G) (fun J U p i a=>Z3 103 [eL 0 1 A S,eL 2 1 G S,eX 4 (E.row.map .d),(6,.one (.Z 6 0),[.box [.d (.int .i64 0),.nil 1,.nil 1,.nil 1,.nil 1,.nil 1]]),(8,.one (.Z 8 0),[.box [.d (.int .i64 E.e),.O 20 0 0 A.length,.O 8 3 0 U.length,.O 8 4 0 p.length,.O 8 5 0 i.length,.O 8 6 0 a.length],.none,.none,.arr false 1 (U.map lR),.arr false 1 (p.map sR),.arr false 1 (i.map S),.arr true 1 (a.map (aH 1 S))]),eI 9 (J:Int),(20,.any,[.arr false 1 (A.map S)])]) (fun D J U p i a=>E.a.length<D+J/\J<=E.a.length/\U.length<=J/\p.length<=J/\i.length<=J/\a.length<=J) (E.a.length+1) 0 ([]:List Bool) ([]:List ByteArray) ([]:List Int) ([]:List (List Int)) (h0:=aw [((8,3),none),((8,4),none),((8,5),none),((8,6),none)] [])<|fun p1 J U p i a H T=>?_;try dsimp only at T
 refine(cF H) ?_ ?_<;>intro k4 X H
 ·have N:=ix X;have m2:=ml E.a (k4 24 _ rfl);have c2:=sl 2322432 E.a (an g (an w L));have K:=wr J;refine(aa (jZ G (J:Int)))<|(cF H) ?_ ?_<;>intro k5 h3 H
  ·refine cj fun k6=>?_;refine(ap (xE.eq_2 A E J) (fun q n=>Z3 103 [eL 0 1 A S,eL 2 1 G S,eX 4 (E.row.map .d),(6,.one (.Z 6 0),[.box [.d (.int .i64 0),.nil 1,.nil 1,.nil 1,.nil 1,.nil 1]]),(8,.one (.Z 8 0),[.box [.d (.int .i64 E.e),.O 20 0 0 A.length,.O 8 3 0 U.length,.O 8 4 0 p.length,.O 8 5 0 i.length,.O 8 6 0 a.length],.none,.none,.arr false 1 (U.map lR),.arr false 1 (p.map sR),.arr false 1 (i.map S),.arr true 1 (a.map (aH 1 S))]),eI 9 (J:Int),(10,.one (.O 10 0 0 q.length),[.arr false 1 (q.map S)]),eI 11 (n:Int),(20,.any,[.arr false 1 (A.map S)])]) (fun n2 q n=>A.length<n2+n/\n<=A.length/\q.length<=0+1*n) (A.length+1) ([]:List Int) 0 (h0:=aw [((10,0),some (29,0))] []))<|fun p2 q n e2 j2=>?_;try dsimp only at j2
   refine(cF e2) ?_ ?_<;>intro c h4 e2
   ·have i2:=ix h4;have m4:=ml A (c 0 _ rfl);have w2:=wr n;refine(ac P)<|?_;have i3:J<E.d.length:=gb;refine xp (an i2 (an N i3))∘aa (VV (C A n) (C E.a J) (C E.d J) (sg (Zh (ZV.xy w))))<|?_;exact ay e2 (hw:=Ya [((10,0),some (56,0))] [] rfl bJ)
   have H:=ms H e2;refine av P∘aa (jZ G (J:Int))∘VR<|?_;simp;refine(TH (aq:=a.map (aH 1 S)) (al:=([q]:List (List Int)).map (aH 1 S)) (l1:=[(8,6)]) (l2:=[(10,0)]) (Q:=1))<|?_;simp;exact ed H (hw:=Ya [((8,3),some (94,0)),((8,4),some (60,0)),((8,5),some (65,0)),((8,6),some (100,0))] [] rfl ad)
  refine ac P∘xp N∘ac P<|?_;have i4:J<E.d.length:=gb
  refine xp i4∘av P∘aa (jZ G (J:Int))∘VR<|?_;simp;refine(TH (aq:=a.map (aH 1 S)) (al:=([([]:List Int)]:List (List Int)).map (aH 1 S)) (l1:=[(8,6)]) (l2:=[(29,0)]) (Q:=1))<|?_;simp;exact ed H (hw:=Ya [((8,3),some (94,0)),((8,4),some (75,0)),((8,5),some (85,0)),((8,6),some (100,0))] [] rfl ad)
 have c3:=sl 2322432 E.a (an g (an w L));exact ag _ (ms f H)
theorem I2(A:ZU)(E:List Int)(g:R 2318336 A)(w:R 2318336 E):y 117 [A.row,Z 1 S E] [(Xf A E).1.row,rB (Xf A E).2]:=have f:=me (Xf.eq_1 A E);ao func117 ntmps117∘av P∘aa (YJ.rd (wg A (by exact sg g)))∘ah [true,false,false,false,false] (Ho (z8 A) A.c E (by exact ZT (n:=2318336+2) aq (vM g)) (by exact sg (ZU.Q6 g)) (by exact sg w))<|ag _ f
theorem W0(h:b)(k:a:=by(intros;first|omega|with_unfolding_all (first|(have o:(C A.a U).size<=2097152:=Zh (i:=U) g.2.2.1;omega))|exact wt)):a/\b:=⟨k,h⟩
theorem Hc(A:t)(g:R 2097152 A):Sa 118 [A.row] [rS (Kl A)]:=by
 rw[<-Hj];have f:=me (Tr.eq_1 A)
 refine so func118 ntmps118∘aa (XV A.e)∘ap (KY.eq_2 A) (fun J U=>Z3 42 [eX 1 (A.row.map .d),(3,.one (.d (.str J)),[]),eI 4 (U:Int)]) (fun D J U=>A.b.length<D+U/\J.size<=24+2097156*U) (A.b.length+1) (Zr A.e) 0 (v:=by exact⟨Y,ab,Z2 A.e⟩)<|fun p1 J U H T=>(ae H) ?_ ?_<;>intro k2 I H
 ·have N:=ix I;have m2:=ml A.b (k2 10 _ rfl);have c1:=sl 2097152 A.b g;have K:=wr U;simp[N,ZG];refine(ae H) ?_ ?_<;>intro k3 X H
  ·simp;repeat with_reducible refine W0 ?_
   exact au K H
  refine(aF H) ?_ ?_<;>intro k4 h3 H
  ·have i2:=ix h3;have m4:=ml A.a (k4 29 _ rfl);have c2:=sl 2097152 A.a g;have w2:=wr U;simp[i2,ZG];repeat with_reducible refine W0 ?_
   exact au w2 H (v:=by(have o:(C A.a U).size<=2097152:=Zh (i:=U) g.2.2.1;(try dsimp only);refine⟨Y,Y,?_⟩;simp;omega))
  simp;repeat with_reducible refine W0 ?_
  exact au K H
 exact rt _ (ms f H)
theorem AW(A:t)(g:R 2334720 A):Sa 357 [A.row] [rB (KW A)]:=by
 rw[<-Ae];have f:=me (Mr.eq_1 A)
 refine so func357 ntmps357∘aa (YX (A.b.length:Int) 1 6)<|(aF f) ?_ ?_<;>intro k1 I f
 ·have q1:=I;try simp[ZJ]at q1
  simp;exact rt _ f
 have q1:=I;try simp[ZJ]at q1
 simp;refine cj fun k2=>?_;refine(bH (qT.eq_2 A) (fun J U p=>Z3 129 [eX 1 (A.row.map .d),eI 3 (A.b.length:Int),(4,.one (.Z 4 0),[.box [.d (.int .i64 A.e),.O 4 2 0 U.length,.O 4 3 0 p.length],.none,.arr false 1 (U.map sR),.arr false 1 (p.map S)]),eI 5 (J:Int)]) (fun D J U p=>A.b.length<D+J/\J<=A.b.length/\U.length<=0+1*J/\p.length<=0+1*J) (A.b.length+1) 0 ([]:List ByteArray) ([]:List Int) (h0:=aw [((4,2),none),((4,3),none)] []))<|fun p1 J U p H T=>(ae H) ?_ ?_<;>intro k3 X H
 ·have N:=ix X;have m2:=ml A.b (k2 7 _ rfl);have c1:=sl 2334720 A.b g;have K:=wr J;refine(xp N)<|(cF H) ?_ ?_<;>intro k4 h3 H
  ·refine aY fun k5=>?_;refine(ac P)<|?_;have i2:=ik J A.a
   refine xp i2∘ac P<|?_;have i3:=ik J A.d
   refine xp i3∘ac P∘xp N<|(aM) ?_ ?_<;>intro B
   ·have i4:=ik J A.f;refine(l i4)<|(aI B) ?_ ?_<;>intro B
    ·try(simp at B;done)
     all_goals
      refine(l N)<|(aI B) ?_ ?_<;>intro B
      ·try(simp at B;done)
       all_goals
        refine(l i4)<|(aI B) ?_ ?_<;>intro B
        ·try(simp at B;done)
         all_goals
          refine(l i2)<|(aI B) ?_ ?_<;>intro B
          ·try(simp at B;done)
           all_goals
            refine(l i3)<|(cK H) ?_ ?_<;>intro k8 h4 H
            ·simp[B]at h4
            ·simp[B]at h4
          ·try(simp at B;done)
           all_goals
            refine(cK H) ?_ ?_<;>intro k9 h5 H
            ·simp[B]at h5
            ·simp[B]at h5
        ·try(simp at B;done)
         all_goals
          refine(aI B) ?_ ?_<;>intro B
          ·try(simp at B;done)
           all_goals
            refine(l i3)<|(cK H) ?_ ?_<;>intro al h6 H
            ·simp[B]at h6
            ·simp[B]at h6
          ·try(simp at B;done)
           all_goals
            refine(cK H) ?_ ?_<;>intro ar h7 H
            ·simp[B]at h7
            ·simp[B]at h7
      ·try(simp at B;done)
       all_goals
        refine aW∘aW<|(cK H) ?_ ?_<;>intro v h8 H
        ·simp[B]at h8
        ·exact bh H (hw:=Ya [((4,2),some (54,0)),((4,3),some (64,0))] [] rfl bG)
    ·try(simp at B;done)
     all_goals
      refine aW∘aW∘aW<|(cK H) ?_ ?_<;>intro ax h9 H
      ·exact s _ (ms f H)
      ·simp[B]at h9
   ·refine(aI B) ?_ ?_<;>intro B
    ·try(simp at B;done)
     all_goals
      refine(l N)<|(aI B) ?_ ?_<;>intro B
      ·try(simp at B;done)
       all_goals
        have i6:=ik J A.f;refine(l i6)<|(aI B) ?_ ?_<;>intro B
        ·try(simp at B;done)
         all_goals
          refine(l i2)<|(aI B) ?_ ?_<;>intro B
          ·try(simp at B;done)
           all_goals
            refine(l i3)<|(cK H) ?_ ?_<;>intro aD ak H
            ·exact s _ (ms f H)
            ·exact bh H (hw:=Ya [((4,2),some (54,0)),((4,3),some (64,0))] [] rfl bG)
          ·try(simp at B;done)
           all_goals
            refine(cK H) ?_ ?_<;>intro ay am H
            ·exact s _ (ms f H)
            ·simp[B]at am
        ·try(simp at B;done)
         all_goals
          refine(aI B) ?_ ?_<;>intro B
          ·try(simp at B;done)
           all_goals
            refine(l i3)<|(cK H) ?_ ?_<;>intro aH az H
            ·simp[B]at az
            ·simp[B]at az
          ·try(simp at B;done)
           all_goals
            refine(cK H) ?_ ?_<;>intro aC au H
            ·exact s _ (ms f H)
            ·simp[B]at au
      ·try(simp at B;done)
       all_goals
        refine aW∘aW<|(cK H) ?_ ?_<;>intro aE ap H
        ·simp[B]at ap
        ·simp[B]at ap
    ·try(simp at B;done)
     all_goals
      refine aW∘aW∘aW<|(cK H) ?_ ?_<;>intro aG a H
      ·simp[B]at a
      ·simp[B]at a
  refine ac P∘xp N<|(aM) ?_ ?_<;>intro B
  ·have q:=ik J A.f;refine(l q)<|(aI B) ?_ ?_<;>intro B
   ·try(simp at B;done)
    all_goals
     refine(l N)<|(aI B) ?_ ?_<;>intro B
     ·try(simp at B;done)
      all_goals
       refine(l q)<|(aI B) ?_ ?_<;>intro B
       ·try(simp at B;done)
        all_goals
         have af:=ik J A.a;refine(l af)<|(aI B) ?_ ?_<;>intro B
         ·try(simp at B;done)
          all_goals
           have ad:=ik J A.d;refine(l ad)<|(cK H) ?_ ?_<;>intro V b H
           ·simp[B]at b
           ·simp[B]at b
         ·try(simp at B;done)
          all_goals
           refine(cK H) ?_ ?_<;>intro aq d H
           ·simp[B]at d
           ·simp[B]at d
       ·try(simp at B;done)
        all_goals
         refine(aI B) ?_ ?_<;>intro B
         ·try(simp at B;done)
          all_goals
           have w:=ik J A.d;refine(l w)<|(cK H) ?_ ?_<;>intro Q i H
           ·simp[B]at i
           ·simp[B]at i
         ·try(simp at B;done)
          all_goals
           refine(cK H) ?_ ?_<;>intro aN j H
           ·simp[B]at j
           ·simp[B]at j
     ·try(simp at B;done)
      all_goals
       refine aW∘aW<|(cK H) ?_ ?_<;>intro ao n H
       ·simp[B]at n
       ·exact aR (an K B) H
   ·try(simp at B;done)
    all_goals
     refine aW∘aW∘aW<|(cK H) ?_ ?_<;>intro Y r H
     ·exact s _ (ms f H)
     ·simp[B]at r
  ·refine(aI B) ?_ ?_<;>intro B
   ·try(simp at B;done)
    all_goals
     refine(l N)<|(aI B) ?_ ?_<;>intro B
     ·try(simp at B;done)
      all_goals
       have M:=ik J A.f;refine(l M)<|(aI B) ?_ ?_<;>intro B
       ·try(simp at B;done)
        all_goals
         have O:=ik J A.a;refine(l O)<|(aI B) ?_ ?_<;>intro B
         ·try(simp at B;done)
          all_goals
           have L:=ik J A.d;refine(l L)<|(cK H) ?_ ?_<;>intro ai y H
           ·exact s _ (ms f H)
           ·exact aR (an K B) H
         ·try(simp at B;done)
          all_goals
           refine(cK H) ?_ ?_<;>intro aL G H
           ·exact s _ (ms f H)
           ·simp[B]at G
       ·try(simp at B;done)
        all_goals
         refine(aI B) ?_ ?_<;>intro B
         ·try(simp at B;done)
          all_goals
           have E:=ik J A.d;refine(l E)<|(cK H) ?_ ?_<;>intro ag o H
           ·simp[B]at o
           ·simp[B]at o
         ·try(simp at B;done)
          all_goals
           refine(cK H) ?_ ?_<;>intro aA ah H
           ·exact s _ (ms f H)
           ·simp[B]at ah
     ·try(simp at B;done)
      all_goals
       refine aW∘aW<|(cK H) ?_ ?_<;>intro Z c H
       ·simp[B]at c
       ·simp[B]at c
   ·try(simp at B;done)
    all_goals
     refine aW∘aW∘aW<|(cK H) ?_ ?_<;>intro av C H
     ·simp[B]at C
     ·simp[B]at C
 have c2:=sl 2334720 A.b g;have f:=ms f H;exact aa (jl (ZV.mk A.e U p))∘aj (fun gg=>YX A.e 0 999)<|rt _ f
end Go.Proofs.YtipadonicggnbaaGreat
