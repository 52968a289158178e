/- Contracts of the functions C7 the abstract machine, part I2. No condition. -/
import Derived.Test.YtifogammcgmjpaaGreatCI1
namespace Go.Proofs.YtifogammcgmjpaaGreat
open Tryz
open Go.Vm Go.Mo
set_option maxHeartbeats 1000000
set_option maxRecDepth 100000
set_option linter.unusedSimpArgs false
set_option linter.unusedVariables false
variable{a b:Prop}
theorem M0(h:b)(k:a:=by(intros;first|omega|with_unfolding_all (first|(first|omega|(simp_all;done)|(simp_all;omega)))|exact wt)):a/\b:=⟨k,h⟩
theorem Yt(h:b)(k:a:=by(intros;first|omega|with_unfolding_all (first|(first|omega|(simp_all;done)|(simp_all;omega)))|(simp_all;done)|(simp_all;omega)|grind|exact wt)):a/\b:=⟨k,h⟩
theorem Vo(A:ZI)(C:Q)(E:List (List Int))(g:R 2285568 A)(S:R 2285568 C)(u2:R 2285568 E)(a:nJ C<=2097152):So 375 [A.row,C.row,rL 1 (ag 1 r) E] [rL 3 ZK.row (YL A C E)]:=by
 have f:=me (YL.eq_1 A C E);refine so func375 ntmps375 ?_;refine aq (zm.eq_2 A C E) (fun J U=>Z6 79 [eL 2 1 E (ag 1 r),eX 3 (A.row.map .d),eX 4 (C.row.map .d),(7,.one (.E 7 0 0 J.length),[.arr false 3 (J.map ZK.row)]),eL 14 2 C.a ZR.row,eI 15 (C.a.length:Int),eI 16 (U:Int)]) (fun K J U=>C.a.length<K+U/\U<=C.a.length/\J.length+af (fun s:ZR=>s.b.length) (C.a.drop U)<=2097152/\R 2285568 J) (C.a.length+1) ([]:List ZK) 0 (fun p1 J U H j1=>?_) (v:=by(have u:af (fun s:ZR=>s.b.length) C.a<=2097152:=a;(try dsimp only);refine⟨Y,Y,Y,?_,⟨Nat.zero_le _,fun x O=>by cases O⟩⟩;rw[List.drop_zero];simp only[List.length_nil];omega)) (h0:=az [((7,0),none)] []);try dsimp only at j1
 refine aF H ?_ ?_<;>intro k2 M H
 ·have q1:=M;try simp at q1
  have w:=ix M;have m2:=ml C.a (k2 14 _ rfl);have c1:=sl 2285568 C.a (an g (an S (an u2 a)));have D:=wr U;simp[w,ZH];repeat with_reducible refine M0 ?_
  refine aq (Jz.eq_2 A C E U) (fun T q=>Z6 79 [eL 2 1 E (ag 1 r),eX 3 (A.row.map .d),eX 4 (C.row.map .d),(7,.one (.E 7 0 0 T.length),[.arr false 3 (T.map ZK.row)]),eL 14 2 C.a ZR.row,eI 15 (C.a.length:Int),eI 16 (U:Int),eL 21 3 (I C.a U).b ZK.row,eI 22 ((I C.a U).b.length:Int),eI 23 (q:Int)]) (fun n2 T q=>(I C.a U).b.length<n2+q/\q<=(I C.a U).b.length/\T.length+((I C.a U).b.length-q)+af (fun s:ZR=>s.b.length) (C.a.drop (U+1))<=2097152/\R 2285568 T) ((I C.a U).b.length+1) J 0 (fun p2 T q e2 j2=>?_) (v:=by(have d:=sM (l:=C.a) (i:=U) bg;refine⟨?_,?_,?_,?_,j1.2.2.2.2⟩<;>((try dsimp only);omega)));try dsimp only at j2
  refine aF e2 ?_ ?_<;>intro k4 Z e2
  ·have q2:=Z;try simp at q2
   have V:=ix Z;have m4:=ml (I C.a U).b (k4 21 _ rfl);have c2:=sl 2285568 (I C.a U).b (an g (an S (an u2 a)));have w2:=wr q;simp[V,ZH];repeat with_reducible refine M0 ?_
   refine aw ac ?_;refine aa (Pu T (I (I C.a U).b q)) ?_;refine ak (fun p=>uK A.a (I (I C.a U).b q) ch ch) ?_;refine ak (fun p=>MQ A C E (I (I C.a U).b q) ch ch ch ch) ?_;refine ak (fun p=>On A (I (I C.a U).b q).a) ?_;refine aF e2 ?_ ?_<;>intro b h3 e2
   ·have q3:=h3;try simp at q3
    simp;exact ay (an D w2) e2 (v:=by first|(refine⟨?_,?_,?_,?_,j2.2.2.2.2⟩<;>((try dsimp only);omega))|(have n:R 2285568 (I (I C.a U).b q):=ZY (ZR.Yp (ZY (Q.Yo S)));obtain⟨q1,q2⟩:=gX (z:=j) j2.2.2.2.2 n Y;refine⟨?_,?_,?_,?_,q1⟩<;>((try dsimp only);omega)))
   have q3:=h3;try simp at q3
   simp;refine aI (kO.eq_2 C U T q) (fun j=>Z6 79 [eL 2 1 E (ag 1 r),eX 3 (A.row.map .d),eX 4 (C.row.map .d),(7,.one (.E 7 0 0 T.length),[.arr false 3 (T.map ZK.row)]),eX 11 ((I (I C.a U).b q).row.map .d),eI 12 (j:Int),eL 14 2 C.a ZR.row,eI 15 (C.a.length:Int),eI 16 (U:Int),eL 21 3 (I C.a U).b ZK.row,eI 22 ((I C.a U).b.length:Int),eI 23 (q:Int)]) (fun X j=>T.length<X+j/\j<=T.length) (T.length+1) 0 (fun p3 j e3 j3=>?_);try dsimp only at j3
   refine aw ac ?_;refine bp ?_ ?_<;>intro G
   ·have o:=G;have g1:=G;try simp at g1
    have i3:=ik j T;simp[i3,ZH,G];refine bh ?_;refine cW (fun p=>AP (I T j) (I (I C.a U).b q)) ?_;simp[G];refine bh ?_;refine aE e3 ?_ ?_<;>intro L h4 e3
    ·have q4:=h4;try simp at q4
     have i4:j<T.length:=by(simp at h4;omega)
     have y:=ml T (L 7 _ rfl);have w3:=wr j;simp[G];refine bh ?_;exact aH (an D (an w2 (an w3 G))) e3
    ·have q4:=h4;try simp at q4
     have e2:=ms e2 e3;simp[G];refine bh ?_;refine ae ac ?_;simp[G];refine bh ?_;refine bs rfl rfl rfl ?_;simp[G];refine bh ?_;refine bs rfl rfl rfl ?_;simp[G];refine bh ?_;refine cR (Z7.rd (T2 (I (I C.a U).b q) ch)) ?_;simp[G];refine bh ?_;refine bs rfl rfl rfl ?_;simp[G];refine bh ?_;refine bs rfl rfl rfl ?_;simp[G];refine bh ?_;refine bs rfl rfl rfl ?_;simp[G];refine bh ?_;exact aB e2 (v:=by first|(refine⟨?_,?_,?_,?_,j2.2.2.2.2⟩<;>((try dsimp only);omega))|(have n:R 2285568 (I (I C.a U).b q):=ZY (ZR.Yp (ZY (Q.Yo S)));obtain⟨q1,q2⟩:=gX (z:=j) j2.2.2.2.2 n Y;refine⟨?_,?_,?_,?_,q1⟩<;>((try dsimp only);omega))) (hw:=YR [((7,0),some (75,0))] [] rfl df)
   ·have o:=G;simp[G];refine bh ?_;refine aN ?_;simp[G];refine bh ?_;refine aE e3 ?_ ?_<;>intro ao h5 e3
    ·simp[G]at h5
    ·have q5:=h5;try simp at q5
     have e2:=ms e2 e3;simp[G];refine bh ?_;refine ae ac ?_;simp[G];refine bh ?_;refine bs rfl rfl rfl ?_;simp[G];refine bh ?_;refine bs rfl rfl rfl ?_;simp[G];refine bh ?_;refine cR (Z7.rd (T2 (I (I C.a U).b q) ch)) ?_;simp[G];refine bh ?_;refine bs rfl rfl rfl ?_;simp[G];refine bh ?_;refine bs rfl rfl rfl ?_;simp[G];refine bh ?_;refine bs rfl rfl rfl ?_;simp[G];refine bh ?_;exact aB e2 (v:=by first|(refine⟨?_,?_,?_,?_,j2.2.2.2.2⟩<;>((try dsimp only);omega))|(have n:R 2285568 (I (I C.a U).b q):=ZY (ZR.Yp (ZY (Q.Yo S)));obtain⟨q1,q2⟩:=gX (z:=j) j2.2.2.2.2 n Y;refine⟨?_,?_,?_,?_,q1⟩<;>((try dsimp only);omega))) (hw:=YR [((7,0),some (75,0))] [] rfl df)
  have q2:=Z;try simp at q2
  have c3:=sl 2285568 (I C.a U).b (an g (an S (an u2 a)));have H:=ms H e2;simp;exact ay D H (v:=by(refine⟨?_,?_,?_,?_,j2.2.2.2.2⟩<;>((try dsimp only);omega)))
 have q1:=M;try simp at q1
 have c4:=sl 2285568 C.a (an g (an S (an u2 a)));have f:=ms f H;simp;exact bJ [.tmp 6] f
theorem BE(A:List YF)(C:Int):c 336 [rL 5 YF.row A,rI C] [rI (Nr A C)]:=by
 have f:=me (Nr.eq_1 A C);refine so func336 ntmps336 ?_;refine aa (JO A C) ?_;refine aj f ?_ ?_<;>intro k1 M f
 ·have w:(YA A C).toNat<A.length:=by have:=yD A C;exact il
  refine xp w ?_;exact rt [.tmp 4] f
 exact rt [.tmp 4] f
theorem Ea(A:List YF)(C:YE)(g:R 2314240 A):c 268 [rL 5 YF.row A,C.row] [rB (SZ A C)]:=by have f:=me (SZ.eq_1 A C);refine so func268 ntmps268 ?_;refine aw ac ?_;refine aa (ve C) ?_;refine ak (fun p=>Z7.rd (IL C)) ?_;refine ak (fun p=>zN A C.e (zi C) C.f (B g) (by simp(maxDischargeDepth:=12) [IJ];try omega)) ?_;refine ak (fun p=>BE A C.a) ?_;exact rt [.tmp 4] f
theorem sZ(A:ZI)(C:List ZK)(E:G)(g:R 2310144 A)(S:R 2310144 C):c 376 [A.row,rL 3 ZK.row C,E.row] [(Kt A C E).1.row,rB (Kt A C E).2]:=by
 have f:=me (Kt.eq_1 A C E);refine so func376 ntmps376 ?_;refine k5 (S5.eq_2 A C E) (fun J U y i a o s j h=>Z6 54 [eX 3 (A.row.map .d),eX 5 (E.row.map .d),(6,.one (.O 6 0),[.box [.d (.int .i64 0),.d (.int .i64 0),.d (.int .i64 0),.d (.int .i64 0),.d (.int .i64 0),.d (.int .i64 0),.d (.int .i64 0)]]),(8,.one (.O 8 0),[.box [.d (.int .i64 y),.d (.int .i64 i),.d (.int .i64 a),.d (.int .i64 o),.d (.int .i64 s),.d (.int .i64 j),.d (.int .i64 h)]]),eI 9 J,eL 14 3 C ZK.row,eI 15 (C.length:Int),eI 16 (U:Int)]) (fun K J U y i a o s j h=>C.length<K+U/\U<=C.length) (C.length+1) 0 0 0 0 0 0 0 0 0 (fun p1 J U y i a o s j h H j1=>?_);refine aj H ?_ ?_<;>intro k2 M H
 ·have w:=ix M;have m2:=ml C (k2 14 _ rfl);have c1:=sl 2310144 C (an g S);have D:=wr U;refine xp w ?_;refine aa (Mt (I C U)) ?_;refine ak (fun p=>Ea A.a (XU (I C U)).1 (B (ZI.Yf g))) ?_;refine cF H ?_ ?_<;>intro k3 Z H
  ·exact eK D H
  exact eK D H
 have f:=ms f H;refine cF f ?_ ?_<;>intro k4 h3 f
 ·exact rt _ f
 exact rt _ f
theorem Lr(A:Int)(C:List ZX)(g:R 2326528 C):c 413 [rI A,rL 5 ZX.row C] [rI (xz A C)]:=by
 have f:=me (xz.eq_1 A C);refine so func413 ntmps413 ?_;refine cF f ?_ ?_<;>intro k1 M f
 ·exact rt [.tmp 4] f
 refine aq (j6.eq_2 C) (fun J U=>Z6 27 [eI 0 A,(5,.one (.E 5 0 0 J.length),[.arr false 1 (J.map r)]),eL 11 5 C ZX.row,eI 12 (C.length:Int),eI 13 (U:Int)]) (fun K J U=>C.length<K+U/\U<=C.length/\J.length<=0+1*U) (C.length+1) ([]:List Int) 0 (fun p1 J U H j1=>?_) (h0:=az [((5,0),none)] []);refine aj H ?_ ?_<;>intro k3 Z H
 ·have w:=ix Z;have m2:=ml C (k3 11 _ rfl);have c1:=sl 2326528 C g;have D:=wr U;refine xp w ?_;exact aB H (hw:=YR [((5,0),some (21,0))] [] rfl ad)
 have c2:=sl 2326528 C g;have f:=ms f H;refine aa (K0 A J bG) ?_;refine aa (js 1 (Kg A J)) ?_;exact rt [.tmp 4] f
theorem FC(A:Int)(C:ZX):Sd 414 [rI A,C.row] [(xH A C).row]:=by have f:=me (xH.eq_1 A C);refine ar func414 ntmps414 ?_;refine aw ac ?_;refine ai [false] (Mm C) ?_;exact ah _ f
theorem sb(A:ZI)(C:Q)(E:List ZK)(N:G)(g:R 2314240 A)(S:R 2314240 C)(u2:R 2314240 E):c 377 [A.row,C.row,rL 3 ZK.row E,N.row] [rI (Jo A C E N)]:=by
 have f:=me (Jo.eq_1 A C E N);refine so func377 ntmps377 ?_;refine aa (JO A.a N.a) ?_;refine aj f ?_ ?_<;>intro k1 M f
 ·have w:(YA A.a N.a).toNat<A.a.length:=by have:=yD A.a N.a;exact il
  refine xp w ?_;refine aq (KN.eq_2 A C E N) (fun J U=>Z6 92 [eL 2 3 E ZK.row,eX 4 (A.row.map .d),eX 7 (N.row.map .d),eI 9 J,eL 32 1 C.b (ag 5 ZX.row),eI 33 (C.b.length:Int),eI 34 (U:Int)]) (fun K J U=>C.b.length<K+U/\U<=C.b.length) (C.b.length+1) (I A.a (YA A.a N.a).toNat).a 0 (fun p1 J U H j1=>?_);refine aj H ?_ ?_<;>intro k3 Z H
  ·have V:=ix Z;have m2:=ml C.b (k3 32 _ rfl);have c1:=sl 2314240 C.b (an g (an S u2));have D:=wr U;refine xp V ?_;refine aw ac ?_;refine ak (fun p=>Wo (I C.b U)) ?_;refine ak (fun p=>Lr N.c (I C.b U) (B (ZY (Q.UC S)))) ?_;refine cF H ?_ ?_<;>intro k5 h3 H
   ·exact ay D H
   refine aq (KR.eq_2 A C E U) (fun T q=>Z6 92 [eL 2 3 E ZK.row,eX 4 (A.row.map .d),eX 7 (N.row.map .d),eI 9 J,eL 12 5 (I C.b U) ZX.row,eB 13 T,eL 32 1 C.b (ag 5 ZX.row),eI 33 (C.b.length:Int),eI 34 (U:Int),eL 55 5 (I C.b U) ZX.row,eI 56 ((I C.b U).length:Int),eI 57 (q:Int)]) (fun n2 T q=>(I C.b U).length<n2+q/\q<=(I C.b U).length) ((I C.b U).length+1) true 0 (fun p2 T q e2 j2=>?_);refine aj e2 ?_ ?_<;>intro l h4 e2
   ·have i3:=ix h4;have m4:=ml (I C.b U) (l 12 _ rfl);have c2:=sl 2314240 (I C.b U) (an g (an S u2));have w2:=wr q;refine xp i3 ?_;refine aw ac ?_;refine ak (fun p=>Py A.b (I (I C.b U) q)) ?_;refine ak (fun p=>Z7.rd (FC (Xs A.b (I (I C.b U) q)) (I (I C.b U) q))) ?_;refine ak (fun p=>Pu E (xH (Xs A.b (I (I C.b U) q)) (I (I C.b U) q))) ?_;exact ay (an D w2) e2
   have H:=ms H e2;refine aa (II A.b (I C.b U) A.e (B (ZI.Yh g)) (B (ZY (Q.UC S)))) ?_;refine cF H ?_ ?_<;>intro L h5 H
   ·exact ay D H
   exact ay D H
  exact rt _ (ms f H)
 refine aq (jZ.eq_2 A C E N) (fun j s=>Z6 92 [eL 2 3 E ZK.row,eX 4 (A.row.map .d),eX 7 (N.row.map .d),eI 9 j,eL 32 1 C.b (ag 5 ZX.row),eI 33 (C.b.length:Int),eI 34 (s:Int)]) (fun X j s=>C.b.length<X+s/\s<=C.b.length) (C.b.length+1) 0 0 (fun p3 j s e3 j3=>?_);refine aj e3 ?_ ?_<;>intro ao h6 e3
 ·have i4:=ix h6;have y:=ml C.b (ao 32 _ rfl);have c5:=sl 2314240 C.b (an g (an S u2));have w3:=wr s;refine xp i4 ?_;refine aw ac ?_;refine ak (fun p=>Wo (I C.b s)) ?_;refine ak (fun p=>Lr N.c (I C.b s) (B (ZY (Q.UC S)))) ?_;refine cF e3 ?_ ?_<;>intro ad h7 e3
  ·exact ay w3 e3
  refine aq (Tf.eq_2 A C E s) (fun a d=>Z6 92 [eL 2 3 E ZK.row,eX 4 (A.row.map .d),eX 7 (N.row.map .d),eI 9 j,eL 12 5 (I C.b s) ZX.row,eB 13 a,eL 32 1 C.b (ag 5 ZX.row),eI 33 (C.b.length:Int),eI 34 (s:Int),eL 55 5 (I C.b s) ZX.row,eI 56 ((I C.b s).length:Int),eI 57 (d:Int)]) (fun Y a d=>(I C.b s).length<Y+d/\d<=(I C.b s).length) ((I C.b s).length+1) true 0 (fun p4 a d b j4=>?_);refine aj b ?_ ?_<;>intro v h8 b
  ·have i5:=ix h8;have m8:=ml (I C.b s) (v 12 _ rfl);have c6:=sl 2314240 (I C.b s) (an g (an S u2));have i:=wr d;refine xp i5 ?_;refine aw ac ?_;refine ak (fun p=>Py A.b (I (I C.b s) d)) ?_;refine ak (fun p=>Z7.rd (FC (Xs A.b (I (I C.b s) d)) (I (I C.b s) d))) ?_;refine ak (fun p=>Pu E (xH (Xs A.b (I (I C.b s) d)) (I (I C.b s) d))) ?_;exact ay (an w3 i) b
  have e3:=ms e3 b;refine aa (II A.b (I C.b s) A.e (B (ZI.Yh g)) (B (ZY (Q.UC S)))) ?_;refine cF e3 ?_ ?_<;>intro ax h9 e3
  ·exact ay w3 e3
  exact ay w3 e3
 exact rt _ (ms f e3)
theorem Av(A:List ZK)(C:YE)(g:R 2330624 A):Sd 378 [rL 3 ZK.row A,C.row] [rL 5 Zn.row (z4 A C)]:=by
 have f:=me (z4.eq_1 A C);refine ar func378 ntmps378 ?_;refine aq (y1.eq_2 A C) (fun J U=>Z6 42 [eX 3 (C.row.map .d),(5,.one (.E 5 0 0 J.length),[.arr false 5 (J.map Zn.row)]),eL 10 3 A ZK.row,eI 11 (A.length:Int),eI 12 (U:Int)]) (fun K J U=>A.length<K+U/\U<=A.length/\J.length<=0+1*U) (A.length+1) ([]:List Zn) 0 (fun p1 J U H j1=>?_) (h0:=az [((5,0),none)] []);refine aj H ?_ ?_<;>intro k2 M H
 ·have w:=ix M;have m2:=ml A (k2 10 _ rfl);have c1:=sl 2330624 A g;have D:=wr U;refine xp w ?_;refine aa (Hi (I A U)) ?_;refine cF H ?_ ?_<;>intro k3 Z H
  ·exact aB H (hw:=YR [((5,0),some (39,0))] [] rfl ad)
  exact ay D H
 exact ah [.tmp 4] (ms f H)
theorem zw(A C:Int)(E:List o)(g:R 2326528 E):wL prog 439 [rI A,rI C] [.sl 2 (E.map o.row)] [.sl 2 ((Z4 A C E).map o.row)]:=by
 refine lf func439 rfl d [false] ab (fun v=>?_);simp[ntmps439];refine cR (Dq A C) ?_;simp;refine cC (y2 A C).2 (fun k1 M=>?_) (fun k1 M=>?_)
 ·have q1:=M;try simp at q1
  have c1:E.length<=2326528:=Zx (xs g);refine aU ?_;refine eS (aC:=[.E 17 0 0 (E++([(y2 A C).1]:List o)).length]) rfl ?_ (.inr rfl);have f1:=Z4.eq_1 A C E;simp only[M,XN]at f1;simp[f1];all_goals(rintro r (⟨a,_,rfl⟩|rfl) x O<;>simp at O<;>rcases O with rfl|rfl<;>rfl)
 ·have q1:=M;try simp at q1
  simp;refine eS (aC:=[.E 2 1 0 E.length]) rfl ?_ (.inr rfl);have f2:=Z4.eq_1 A C E
  simp only[M,XA]at f2;simp[f2];all_goals(rintro r (⟨a,_,rfl⟩|rfl) x O<;>simp at O<;>rcases O with rfl|rfl<;>rfl)
theorem lV(A:List Zn)(C:Int):c 452 [rL 5 Zn.row A,rI C] [rI (Rt A C).1,rI (Rt A C).2.1,rI (Rt A C).2.2]:=by
 have f:=me (Rt.eq_1 A C);refine so func452 ntmps452 ?_;refine dd (UN.eq_2 A C) (fun J U y i=>Z6 49 [eI 1 C,eI 7 J,eI 8 U,eI 9 y,eL 12 5 A Zn.row,eI 13 (A.length:Int),eI 14 (i:Int)]) (fun K J U y i=>A.length<K+i/\i<=A.length) (A.length+1) (-1) (-1) (-1) 0 (fun p1 J U y i H j1=>?_);refine aj H ?_ ?_<;>intro k2 M H
 ·have w:=ix M;have m2:=ml A (k2 12 _ rfl);have D:=wr i;refine xp w ?_;refine cF H ?_ ?_<;>intro k3 Z H
  ·exact b9 D H
  refine cF H ?_ ?_<;>intro k4 h3 H
  ·exact b9 D H
  refine cF H ?_ ?_<;>intro k5 h4 H
  ·exact b9 D H
  exact b9 D H
 exact rt _ (ms f H)
theorem NT(A:List Zn)(C:Int):c 441 [rL 5 Zn.row A,rI C] [rI (JT A C)]:=by
 have f:=me (JT.eq_1 A C);refine so func441 ntmps441 ?_;refine aa (lV A C) ?_;refine cF f ?_ ?_<;>intro k1 M f
 ·exact rt [.tmp 4] f
 exact rt [.tmp 4] f
theorem tH(h:b)(k:a:=by(intros;first|omega|with_unfolding_all (first|(first|omega|(have z:=Zx g;omega)|(have z:=Zx g;simp at*;omega)))|exact wt)):a/\b:=⟨k,h⟩
theorem AI(h:b)(k:a:=by(intros;first|omega|with_unfolding_all (first|(first|omega|(have z:=Zx g;omega)|(have z:=Zx g;simp at*;omega)))|(simp_all;done)|(simp_all;omega)|grind|exact wt)):a/\b:=⟨k,h⟩
theorem Wh(A:List o)(g:R 2330624 A):Sd 437 [rL 2 o.row A] [rL 2 o.row (Qj A)]:=by
 have f:=me (Qj.eq_1 A);refine ar func437 ntmps437 ?_;refine aq (ke.eq_2 A) (fun J U=>Z6 85 [(3,.one (.E 3 0 0 J.length),[.arr false 2 (J.map o.row)]),eL 10 2 A o.row,eI 11 (A.length:Int),eI 12 (U:Int)]) (fun K J U=>A.length<K+U/\U<=A.length/\J.length<=U) (A.length+1) ([]:List o) 0 (fun p1 J U H j1=>?_) (h0:=az [((3,0),none)] []);refine aj H ?_ ?_<;>intro k2 M H
 ·have w:=ix M;have m2:=ml A (k2 10 _ rfl);have c1:=sl 2330624 A g;have D:=wr U;simp[w,ZH];refine aa (yT (I A U)) ?_;refine cF H ?_ ?_<;>intro k3 Z H
  ·exact ay D H (v:=by first|omega|(simp at*;omega))
  refine dd (kj.eq_2 J) (fun T q p t=>Z6 85 [(3,.any,[.arr false 2 (J.map o.row)]),(5,.one (.O 5 0),[.box [.d (.int .i64 p),.d (.int .i64 t)]]),(6,.one (.E 6 0 0 T.length),[.arr false 2 (T.map o.row)]),eL 10 2 A o.row,eI 11 (A.length:Int),eI 12 (U:Int),(19,.one (.E 3 0 0 J.length),[]),eI 20 (J.length:Int),eI 21 (q:Int)]) (fun n2 T q p t=>J.length<n2+q/\q<=J.length/\T.length<=q) (J.length+1) ([]:List o) 0 (I A U).d (I A U).c (fun p2 T q p t e2 j2=>?_) (h0:=az [((6,0),none)] []);refine aj e2 ?_ ?_<;>intro k5 h3 e2
  ·have V:=ix h3;have w2:=wr q;simp[V,ZH];refine aj e2 ?_ ?_<;>intro b h4 e2
   ·simp;repeat with_reducible refine tH ?_
    exact eh e2 (v:=by first|omega|(simp at*;omega)) (hw:=YR [((6,0),some (42,0))] [] rfl bC)
   exact b9 (an D w2) e2 (v:=by first|omega|(simp at*;omega))
  have H:=ms H e2;refine aI (P5.eq_2 T p) (fun j=>Z6 85 [(5,.one (.O 5 0),[.box [.d (.int .i64 p),.d (.int .i64 t)]]),(6,.one (.E 6 0 0 T.length),[.arr false 2 (T.map o.row)]),eI 9 (j:Int),eL 10 2 A o.row,eI 11 (A.length:Int),eI 12 (U:Int)]) (fun X j=>T.length<X+j/\j<=T.length) (T.length+1) 0 (fun p3 j e3 j3=>?_);refine aw ac ?_;refine bp ?_ ?_<;>intro G
  ·have g1:=G;try simp at g1
   have i3:=ik j T;simp[i3,ZH,G];refine aE e3 ?_ ?_<;>intro L h5 e3
   ·have y:=ml T (L 6 _ rfl);have w3:=wr j;simp[G];exact aH (an D (an w3 G)) e3
   ·have H:=ms H e3;simp[G];refine ae ac ?_;simp[G];repeat with_reducible refine AI ?_
    exact aB H (v:=by first|omega|(simp at*;omega)) (hw:=YR [((3,0),some (82,0))] [] rfl bv)
  ·simp[G];refine aE e3 ?_ ?_<;>intro ao h6 e3
   ·simp[G]at h6
   ·have H:=ms H e3;simp[G];refine ae ac ?_;simp[G];repeat with_reducible refine AI ?_
    exact aB H (v:=by first|omega|(simp at*;omega)) (hw:=YR [((3,0),some (82,0))] [] rfl bv)
 have f:=ms f H;refine BL (rv:=[.tmp 2]) rfl ?_;simp[f.h];all_goals(rintro r (hr|rfl|hr) x O<;>(first|(simp at O;rcases O with rfl|rfl<;>rfl)|((first|(replace hr:=List.mem_of_mem_take hr)|(replace hr:=List.mem_of_mem_drop hr));simp at hr;obtain⟨a,_,rfl⟩:=hr;simp at O;rcases O with rfl|rfl<;>rfl)))
theorem Yz(A:YE)(C:List Zn)(g:R 2322432 C):Sd 418 [A.row,rL 5 Zn.row C] [rL 2 o.row (SL A C)]:=by
 have f:=me (SL.eq_1 A C);refine ar func418 ntmps418 ?_;refine ih (t:=5) (E:=[.nil 2]) rfl rfl rfl rfl ab ab ?_;simp;refine cF f ?_ ?_<;>intro k1 M f
 ·refine C6 (tf:=11) (u:=5) (L:=[.sl 2 (([]:List o).map o.row)]) (aG:=[.sl 2 ((Z4 0 (W (A.d-1)) ([]:List o)).map o.row)]) (E:=[.nil 2]) [false] rfl rfl rfl rfl (zw 0 (W (A.d-1)) ([]:List o) bY) ab ab ab ab ab ab ab ab ab ab cc ab ab ?_;simp;refine cF f ?_ ?_<;>intro k2 Z f
  ·refine C6 (tf:=19) (u:=5) (L:=[.sl 2 ((Z4 0 (W (A.d-1)) ([]:List o)).map o.row)]) (aG:=[.sl 2 ((Z4 (W (A.c+1)) 10000 (Z4 0 (W (A.d-1)) ([]:List o))).map o.row)]) (E:=[.E 5 1 0 (Z4 0 (W (A.d-1)) ([]:List o)).length]) [false] rfl rfl rfl rfl (zw (W (A.c+1)) 10000 (Z4 0 (W (A.d-1)) ([]:List o)) bY) ab ab ab ab ab ab ab ab ab ab cc ab ab ?_;simp;refine aa (NT C A.b) ?_;refine C6 (tf:=24) (u:=5) (L:=[.sl 2 ((Z4 (W (A.c+1)) 10000 (Z4 0 (W (A.d-1)) ([]:List o))).map o.row)]) (aG:=[.sl 2 ((Z4 (JT C A.b) 10000 (Z4 (W (A.c+1)) 10000 (Z4 0 (W (A.d-1)) ([]:List o)))).map o.row)]) (E:=[.E 5 1 0 (Z4 (W (A.c+1)) 10000 (Z4 0 (W (A.d-1)) ([]:List o))).length]) [false] rfl rfl rfl rfl (zw (JT C A.b) 10000 (Z4 (W (A.c+1)) 10000 (Z4 0 (W (A.d-1)) ([]:List o))) bY) ab ab ab ab ab ab ab ab ab ab cc ab ab ?_;simp;refine ai [false] (Wh (Z4 (JT C A.b) 10000 (Z4 (W (A.c+1)) 10000 (Z4 0 (W (A.d-1)) ([]:List o)))) bY) ?_;exact ah [.tmp 4] f
  refine aa (NT C A.b) ?_;refine C6 (tf:=24) (u:=5) (L:=[.sl 2 ((Z4 0 (W (A.d-1)) ([]:List o)).map o.row)]) (aG:=[.sl 2 ((Z4 (JT C A.b) 10000 (Z4 0 (W (A.d-1)) ([]:List o))).map o.row)]) (E:=[.E 5 1 0 (Z4 0 (W (A.d-1)) ([]:List o)).length]) [false] rfl rfl rfl rfl (zw (JT C A.b) 10000 (Z4 0 (W (A.d-1)) ([]:List o)) bY) ab ab ab ab ab ab ab ab ab ab cc ab ab ?_;simp;refine ai [false] (Wh (Z4 (JT C A.b) 10000 (Z4 0 (W (A.d-1)) ([]:List o))) bY) ?_;exact ah [.tmp 4] f
 refine cF f ?_ ?_<;>intro k3 h3 f
 ·refine C6 (tf:=19) (u:=5) (L:=[.sl 2 (([]:List o).map o.row)]) (aG:=[.sl 2 ((Z4 (W (A.c+1)) 10000 ([]:List o)).map o.row)]) (E:=[.nil 2]) [false] rfl rfl rfl rfl (zw (W (A.c+1)) 10000 ([]:List o) bY) ab ab ab ab ab ab ab ab ab ab cc ab ab ?_;simp;refine aa (NT C A.b) ?_;refine C6 (tf:=24) (u:=5) (L:=[.sl 2 ((Z4 (W (A.c+1)) 10000 ([]:List o)).map o.row)]) (aG:=[.sl 2 ((Z4 (JT C A.b) 10000 (Z4 (W (A.c+1)) 10000 ([]:List o))).map o.row)]) (E:=[.E 5 1 0 (Z4 (W (A.c+1)) 10000 ([]:List o)).length]) [false] rfl rfl rfl rfl (zw (JT C A.b) 10000 (Z4 (W (A.c+1)) 10000 ([]:List o)) bY) ab ab ab ab ab ab ab ab ab ab cc ab ab ?_;simp;refine ai [false] (Wh (Z4 (JT C A.b) 10000 (Z4 (W (A.c+1)) 10000 ([]:List o))) bY) ?_;exact ah [.tmp 4] f
 refine aa (NT C A.b) ?_;refine C6 (tf:=24) (u:=5) (L:=[.sl 2 (([]:List o).map o.row)]) (aG:=[.sl 2 ((Z4 (JT C A.b) 10000 ([]:List o)).map o.row)]) (E:=[.nil 2]) [false] rfl rfl rfl rfl (zw (JT C A.b) 10000 ([]:List o) bY) ab ab ab ab ab ab ab ab ab ab cc ab ab ?_;simp;refine ai [false] (Wh (Z4 (JT C A.b) 10000 ([]:List o)) bY) ?_;exact ah [.tmp 4] f
theorem zv(A C:o):c 438 [A.row,C.row] [rB (PV A C)]:=by have f:=me (PV.eq_1 A C);refine so func438 ntmps438 ?_;refine aa (yT A) ?_;refine ak (fun p=>yT C) ?_;exact rt [.tmp 4] f
theorem Of(A:List o)(C:o)(g:R 2326528 A):c 417 [rL 2 o.row A,C.row] [rB (xN A C)]:=by
 have f:=me (xN.eq_1 A C);refine so func417 ntmps417 ?_;refine aa (Z7.rd (Wh A (B g))) ?_;refine aI (Vj.eq_2 A C) (fun J=>Z6 18 [eX 3 (C.row.map .d),eL 8 2 (Qj A) o.row,eI 9 ((Qj A).length:Int),eI 10 (J:Int)]) (fun K J=>(Qj A).length<K+J/\J<=(Qj A).length) ((Qj A).length+1) 0 (fun p1 J H j1=>?_);refine aj H ?_ ?_<;>intro k2 M H
 ·have w:=ix M;have m2:=ml (Qj A) (k2 8 _ rfl);have D:=wr J;refine xp w ?_;refine aa (zv C (I (Qj A) J)) ?_;refine cF H ?_ ?_<;>intro k3 Z H
  ·exact rt [.tmp 4] (ms f H)
  exact aH D H
 exact rt [.tmp 4] (ms f H)
theorem ZB(A:YE)(C:List Zn)(E:o)(g:R 2318336 C):c 379 [A.row,rL 5 Zn.row C,E.row] [rB (MK A C E)]:=by have f:=me (MK.eq_1 A C E);refine so func379 ntmps379 ?_;refine aw ac ?_;refine aa (Z7.rd (Yz A C (B g))) ?_;refine aa (Of (SL A C) E (by exact YT au)) ?_;exact rt [.tmp 6] f
theorem yh(A:List Zn)(C:Int):c 443 [rL 5 Zn.row A,rI C] [rI (V2 A C)]:=by
 have f:=me (V2.eq_1 A C);refine so func443 ntmps443 ?_;refine aa (lV A C) ?_;refine cF f ?_ ?_<;>intro k1 M f
 ·exact rt [.tmp 4] f
 exact rt [.tmp 4] f
theorem ub(A C:o):c 453 [A.row,C.row] [(zY A C).1.row,rB (zY A C).2]:=by
 have f:=me (zY.eq_1 A C);refine so func453 ntmps453 ?_;refine aa (yT A) ?_;refine ak (fun p=>yT C) ?_;refine ak (fun p=>yT (o.mk (if C.d>A.d then C.d else A.d) (if C.c<A.c then C.c else A.c))) ?_;refine cF f ?_ ?_<;>intro k1 M f
 ·exact rt _ f
 exact rt _ f
theorem qK(h:b)(k:a:=by(intros;first|omega|with_unfolding_all (first|(first|omega|(simp at*;omega)))|exact wt)):a/\b:=⟨k,h⟩
theorem tP(A C:List o)(g:R 2326528 A)(S:R 2326528 C)(u2:A.length<=1/\C.length<=1):Sd 442 [rL 2 o.row A,rL 2 o.row C] [rL 2 o.row (Pf A C)]:=by
 have f:=me (Pf.eq_1 A C);refine ar func442 ntmps442 ?_;refine aq (Su.eq_2 A C) (fun J U=>Z6 39 [eL 1 2 C o.row,(5,.one (.E 5 0 0 J.length),[.arr false 2 (J.map o.row)]),eL 12 2 A o.row,eI 13 (A.length:Int),eI 14 (U:Int)]) (fun K J U=>A.length<K+U/\U<=A.length/\J.length<=U) (A.length+1) ([]:List o) 0 (fun p1 J U H j1=>?_) (h0:=az [((5,0),none)] []);refine aj H ?_ ?_<;>intro k2 M H
 ·have w:=ix M;have D:=wr U;simp[w,ZH];refine aq (jK.eq_2 A C U) (fun T q=>Z6 39 [eL 1 2 C o.row,(5,.one (.E 5 0 0 T.length),[.arr false 2 (T.map o.row)]),eX 7 ((I A U).row.map .d),eL 12 2 A o.row,eI 13 (A.length:Int),eI 14 (U:Int),eL 18 2 C o.row,eI 19 (C.length:Int),eI 20 (q:Int)]) (fun n2 T q=>C.length<n2+q/\q<=C.length/\T.length<=U+q) (C.length+1) J 0 (fun p2 T q e2 j2=>?_);refine aj e2 ?_ ?_<;>intro k4 Z e2
  ·have V:=ix Z;have w2:=wr q;simp[V,ZH];refine aa (ub (I A U) (I C q)) ?_;refine aj e2 ?_ ?_<;>intro k5 h3 e2
   ·simp;repeat with_reducible refine qK ?_
    exact aB e2 (v:=by first|omega|(simp at*;omega)) (hw:=YR [((5,0),some (34,0))] [] rfl bC)
   exact ay (an D w2) e2 (v:=by first|omega|(simp at*;omega))
  have H:=ms H e2;exact ay D H
 have f:=ms f H;refine ai [false] (Wh J (by exact⟨Y,fun _ _=>trivial⟩)) ?_;exact ah [.tmp 4] f
theorem rm(A:YE)(C:List Zn)(g:R 2322432 C):Sd 419 [A.row,rL 5 Zn.row C] [rL 2 o.row (V1 A C)]:=by have f:=me (V1.eq_1 A C);refine ar func419 ntmps419 ?_;refine aw ac ?_;refine aa (Dt A) ?_;refine aa (yh C A.b) ?_;refine ai [false] (tP ([VZ A]:List o) ([o.mk 0 (V2 C A.b)]:List o) bH bH (by exact⟨Nat.le_refl _,Nat.le_refl _⟩)) ?_;exact ah [.tmp 4] f
theorem tA(A:YE)(C:List Zn)(E:o)(g:R 2318336 C):c 380 [A.row,rL 5 Zn.row C,E.row] [rB (RB A C E)]:=by have f:=me (RB.eq_1 A C E);refine so func380 ntmps380 ?_;refine aw ac ?_;refine aa (Z7.rd (rm A C (B g))) ?_;refine aa (Of (V1 A C) E (by exact pm au)) ?_;exact rt [.tmp 6] f
theorem Sz(A:List ZK)(g:R 2330624 A):Sd 382 [rL 3 ZK.row A] [rL 6 YV.row (Wm A)]:=by
 have f:=me (Wm.eq_1 A);refine ar func382 ntmps382 ?_;refine aq (qD.eq_2 A) (fun J U=>Z6 26 [(3,.one (.E 3 0 0 J.length),[.arr false 6 (J.map YV.row)]),eL 8 3 A ZK.row,eI 9 (A.length:Int),eI 10 (U:Int)]) (fun K J U=>A.length<K+U/\U<=A.length/\J.length<=0+1*U) (A.length+1) ([]:List YV) 0 (fun p1 J U H j1=>?_) (h0:=az [((3,0),none)] []);refine aj H ?_ ?_<;>intro k2 M H
 ·have w:=ix M;have m2:=ml A (k2 8 _ rfl);have c1:=sl 2330624 A g;have D:=wr U;refine xp w ?_;refine aa (Lf (I A U)) ?_;refine cF H ?_ ?_<;>intro k3 Z H
  ·exact aB H (hw:=YR [((3,0),some (23,0))] [] rfl ad)
  exact ay D H
 exact ah [.tmp 2] (ms f H)
theorem oE(A:YV):c 454 [A.row] [rB (OA A)]:=by have f:=me (OA.eq_1 A);refine so func454 ntmps454 ?_;refine aa (Z0 A.g 1 99) ?_;refine ak (fun p=>Z0 A.b 0 99) ?_;refine ak (fun p=>Z0 A.a 1 99) ?_;refine ak (fun p=>yT (o.mk A.d A.c)) ?_;exact rt [.tmp 2] f
theorem wK(A:YV):Sd 455 [A.row] [rL 1 r (z5 A)]:=by have f:=me (z5.eq_1 A);refine ar func455 ntmps455 ?_;exact ah [.tmp 2] f
theorem BQ(A:List YF)(C:YV)(g:R 2314240 A):c 444 [rL 5 YF.row A,C.row] [rB (Vg A C)]:=by have f:=me (Vg.eq_1 A C);refine so func444 ntmps444 ?_;refine aw ac ?_;refine aa (oE C) ?_;refine ak (fun p=>BE A C.a) ?_;refine ak (fun p=>Z7.rd (wK C)) ?_;refine ak (fun p=>zN A C.a (z5 C) C.f (B g) (by simp(maxDischargeDepth:=12) [To];try omega)) ?_;exact rt [.tmp 4] f
theorem BN(A:List YF)(C:List YV)(E N:Int)(g:R 2310144 A)(S:R 2310144 C):Sd 420 [rL 5 YF.row A,rL 6 YV.row C,rI E,rI N] [rL 2 o.row (qA A C E N)]:=by
 have f:=me (qA.eq_1 A C E N);refine ar func420 ntmps420 ?_;refine aq (xl.eq_2 A C E N) (fun J U=>Z6 44 [eL 0 5 A YF.row,eI 2 E,eI 3 N,(9,.one (.E 9 0 0 J.length),[.arr false 2 (J.map o.row)]),eL 12 6 C YV.row,eI 13 (C.length:Int),eI 14 (U:Int)]) (fun K J U=>C.length<K+U/\U<=C.length/\J.length<=0+1*U) (C.length+1) ([]:List o) 0 (fun p1 J U H j1=>?_) (h0:=az [((9,0),none)] []);refine aj H ?_ ?_<;>intro k2 M H
 ·have w:=ix M;have m2:=ml C (k2 12 _ rfl);have c1:=sl 2310144 C (an g S);have D:=wr U;refine xp w ?_;refine ak (fun p=>BQ A (I C U) (B g)) ?_;refine cF H ?_ ?_<;>intro k3 Z H
  ·exact aB H (hw:=YR [((9,0),some (40,0))] [] rfl ad)
  exact ay D H
 have c2:=sl 2310144 C (an g S);have f:=ms f H;refine ai [false] (Wh J i5) ?_;exact ah [.tmp 8] f
theorem wl(A:List YF)(C:List YV)(E N:Int)(T:o)(g:R 2306048 A)(S:R 2306048 C):c 381 [rL 5 YF.row A,rL 6 YV.row C,rI E,rI N,T.row] [rB (Rz A C E N T)]:=by have f:=me (Rz.eq_1 A C E N T);refine so func381 ntmps381 ?_;refine aw ac ?_;refine ak (fun p=>yT T) ?_;refine ak (fun p=>Z7.rd (BN A C E N ck ck)) ?_;refine ak (fun p=>Of (qA A C E N) T (by exact Cg (by have z:=Zx S;omega))) ?_;refine⟨by by_cases h:E=0<;>simp[h],?_⟩;exact rt [.tmp 10] f
theorem Ls(A:ZI)(C:Q)(E:List (List Int))(N:Int)(T:G)(g:R 2281472 A)(S:R 2281472 C)(u2:R 2281472 E)(a:nJ C<=2097152):c 325 [A.row,C.row,rL 1 (ag 1 r) E,rI N,T.row] [(kX A C E N T).row]:=by
 have f:=me (kX.eq_1 A C E N T);refine so func325 ntmps325 ?_;refine aa (AB A) ?_;refine cF f ?_ ?_<;>intro k1 M f
 ·refine aa (Nq 1) ?_;exact rt [.cell 10 137] f
 refine aa (PZ T) ?_;refine cF f ?_ ?_<;>intro k2 Z f
 ·refine aa (GA 1) ?_;exact rt [.cell 10 137] f
 refine cF f ?_ ?_<;>intro k3 h3 f
 ·refine aa (Nq 2) ?_;exact rt [.cell 10 137] f
 refine cF f ?_ ?_<;>intro k4 h4 f
 ·refine aa (GA 2) ?_;exact rt [.cell 10 137] f
 refine aa (JO A.a T.a) ?_;refine cF f ?_ ?_<;>intro k5 h5 f
 ·refine aa (Nq 3) ?_;exact rt [.cell 10 137] f
 refine aa (DB A.a T bj) ?_;refine cF f ?_ ?_<;>intro b h6 f
 ·refine aa (GA 4) ?_;exact rt [.cell 10 137] f
 refine aw ac ?_;refine aa (Z7.rd (MJ T)) ?_;refine aa (MQ A C E (XQ T) bj bj bj bj) ?_;refine aa (On A T.a) ?_;refine ak (fun p=>NY A.c T.c) ?_;refine cF f ?_ ?_<;>intro k8 h7 f
 ·refine aa (Nq 5) ?_;exact rt [.cell 10 137] f
 refine aa (Vo A C E bj bj bj bj) ?_;refine aa (sZ A (YL A C E) T bj bj) ?_;refine cF f ?_ ?_<;>intro L h8 f
 ·refine aa (Nq 6) ?_;exact rt [.cell 10 137] f
 refine aa (sb A C (YL A C E) T bj bj bj) ?_;refine cF f ?_ ?_<;>intro af h9 f
 ·refine aa (Nq 7) ?_;exact rt [.cell 10 137] f
 refine aa (Z7.rd (Av (YL A C E) (Kt A (YL A C E) T).1 bj)) ?_;refine aa (ZB (Kt A (YL A C E) T).1 (z4 (YL A C E) (Kt A (YL A C E) T).1) (o.mk (Jo A C (YL A C E) T) (XH A C E (XQ T))) bj) ?_;refine cF f ?_ ?_<;>intro ao al f
 ·exact rt [.cell 10 137] f
 refine aa (tA (Kt A (YL A C E) T).1 (z4 (YL A C E) (Kt A (YL A C E) T).1) (o.mk (Jo A C (YL A C E) T) (XH A C E (XQ T))) bj) ?_;refine cF f ?_ ?_<;>intro d ah f
 ·exact rt [.cell 10 137] f
 refine aw ac ?_;refine aa (Z7.rd (Sz (YL A C E) bj)) ?_;refine aa (wl A.a (Wm (YL A C E)) T.g (Kt A (YL A C E) T).1.g (o.mk (Jo A C (YL A C E) T) (XH A C E (XQ T))) bj bj) ?_;refine cF f ?_ ?_<;>intro av ap f
 ·exact rt [.cell 10 137] f
 exact rt [.cell 10 137] f
theorem rx(A:ZI)(C:Q)(E:ZO)(N:G)(g:R 2277376 A)(S:R 2277376 C)(u2:R 2277376 E)(a:nJ C<=2097152):c 256 [A.row,C.row,E.row,N.row] [(B8 A C E N).row]:=by have f:=me (B8.eq_1 A C E N);refine so func256 ntmps256 ?_;refine aw ac ?_;refine aa (Z7.rd (CV C E cI cI)) ?_;refine aa (ju N.c E cI) ?_;refine aa (Ls A C (yr C E) (Y0 N.c E) N cI cI (by(first|exact B g|exact B S|exact B u2|exact a|exact B (Kf S))) cI) ?_;exact rt _ f
theorem EL(A:ZI)(C:ZU)(g:R 2273280 A)(S:R 2097152 C):c 186 [A.row,C.row] [(ky A C).row]:=by have f:=me (ky.eq_1 A C);refine so func186 ntmps186 ?_;refine aw ac ?_;refine aa (Z7.rd (Lq C cg)) ?_;refine aa (rx A (yQ C) C.c C.d cg hi cg cg) ?_;exact rt _ f
theorem wa(h:b)(k:a:=by(intros;first|omega|with_unfolding_all (first|first|omega|(have d:=Qt A C ht;omega))|exact wt)):a/\b:=⟨k,h⟩
theorem Pa(A:P)(C:Int)(g:R 1048576 A):c 110 [A.row,rI C] [(KP A C).row]:=by
 have f:=me (KP.eq_1 A C);refine so func110 ntmps110 ?_;refine aa (OU A C) ?_;refine aF f ?_ ?_<;>intro k1 M f
 ·have q1:=M;try simp at q1
  simp;exact rt _ f
 have q1:=M;try simp at q1
 simp;refine ae ac ?_;have w:(S A C).1.toNat<A.a.length:=hH
 have V:(S A C).2.toNat<(I A.a (S A C).1.toNat).a.length:=hH;simp[w,ZH,V];repeat with_reducible refine wa ?_
 refine aa (EL A.b (I (I A.a (S A C).1.toNat).a (S A C).2.toNat) (B (P.Yc g)) (B (ZY (ZD.Z8 (ZY (P.Zs g)))))) ?_;exact rt _ f
theorem Am(A:Int):c 184 [rI A] [rS (xZ A)]:=by
 have f:=me (xZ.eq_1 A);refine so func184 ntmps184 ?_;refine aa (Z0 A 1 3) ?_;refine aF f ?_ ?_<;>intro k1 M f
 ·have q1:=M;try simp[ZW]at q1
  simp;exact rt _ f
 have q1:=M;try simp[ZW]at q1
 have r1:∀i:Nat,i<4->cut [At.d (.str (⟨#[]⟩:ByteArray)),At.d (.str (⟨#[118,97,108,105,100]⟩:ByteArray)),At.d (.str (⟨#[105,110,118,97,108,105,100]⟩:ByteArray)),At.d (.str (⟨#[111,112,101,110]⟩:ByteArray))] i 1=[At.d (.str (I ([(⟨#[]⟩:ByteArray),(⟨#[118,97,108,105,100]⟩:ByteArray),(⟨#[105,110,118,97,108,105,100]⟩:ByteArray),(⟨#[111,112,101,110]⟩:ByteArray)]:List ByteArray) i))]:=by intro i h;(have z:i=0\/i=1\/i=2\/i=3:=by omega);rcases z with rfl|rfl|rfl|rfl<;>rfl
 have w:A.toNat<4:=fB;have b:=r1 _ w;simp only[cut]at b;simp[b];refine bN ?_;exact rt _ f
theorem Lv(A:Int):c 185 [rI A] [rS (jC A)]:=by
 have f:=me (jC.eq_1 A);refine so func185 ntmps185 ?_;refine aa (Z0 A 0 9) ?_;refine aF f ?_ ?_<;>intro k1 M f
 ·have q1:=M;try simp[ZW]at q1
  simp;exact rt _ f
 have q1:=M;try simp[ZW]at q1
 have r1:∀i:Nat,i<10->cut [At.d (.str (⟨#[110,111,110,101]⟩:ByteArray)),At.d (.str (⟨#[102,111,114,109]⟩:ByteArray)),At.d (.str (⟨#[100,111,99,117,109,101,110,116]⟩:ByteArray)),At.d (.str (⟨#[107,101,121]⟩:ByteArray)),At.d (.str (⟨#[109,97,114,107]⟩:ByteArray)),At.d (.str (⟨#[98,114,111,107,101,110]⟩:ByteArray)),At.d (.str (⟨#[99,101,114,116,105,102,105,99,97,116,101]⟩:ByteArray)),At.d (.str (⟨#[116,105,109,101]⟩:ByteArray)),At.d (.str (⟨#[101,110,100,101,100]⟩:ByteArray)),At.d (.str (⟨#[109,97,110,100,97,116,101]⟩:ByteArray))] i 1=[At.d (.str (I ([(⟨#[110,111,110,101]⟩:ByteArray),(⟨#[102,111,114,109]⟩:ByteArray),(⟨#[100,111,99,117,109,101,110,116]⟩:ByteArray),(⟨#[107,101,121]⟩:ByteArray),(⟨#[109,97,114,107]⟩:ByteArray),(⟨#[98,114,111,107,101,110]⟩:ByteArray),(⟨#[99,101,114,116,105,102,105,99,97,116,101]⟩:ByteArray),(⟨#[116,105,109,101]⟩:ByteArray),(⟨#[101,110,100,101,100]⟩:ByteArray),(⟨#[109,97,110,100,97,116,101]⟩:ByteArray)]:List ByteArray) i))]:=by intro i h;(have z:i=0\/i=1\/i=2\/i=3\/i=4\/i=5\/i=6\/i=7\/i=8\/i=9:=by omega);rcases z with rfl|rfl|rfl|rfl|rfl|rfl|rfl|rfl|rfl|rfl<;>rfl
 have w:A.toNat<10:=fB;have b:=r1 _ w;simp only[cut]at b;simp[b];refine bN ?_;exact rt _ f
theorem SP(A:XE):c 109 [A.row] [rS (Jr A)]:=by
 have f:=me (Jr.eq_1 A);refine so func109 ntmps109 ?_;refine aw ac ?_;refine aa (Am A.b) ?_;refine aa (Lv A.c) ?_;refine cF f ?_ ?_<;>intro k2 M f
 ·exact rt _ f
 refine aj f ?_ ?_<;>intro k3 Z f
 ·have o1:=SM A.b;have E:=RF A.c;refine aU ?_;exact rt _ f
 have o3:=SM A.b;have b:=RF A.c;refine aw ac ?_;have a:=Ys A.a.d;refine aa (Xe A.a.d) ?_;have d:=Ys A.a.c;refine aa (Xe A.a.c) ?_;exact rt _ f
theorem uI(A:ZI)(C:ZU)(g:R 2269184 A)(S:R 2097152 C):c 187 [A.row,C.row] [rS (zx A C)]:=by have f:=me (zx.eq_1 A C);refine so func187 ntmps187 ?_;refine aw ac ?_;have o1:=Ys C.b;refine aa (Xe C.b) ?_;have E:=Ys C.d.a;refine aa (Xe C.d.a) ?_;have o3:=Ys (C.a.b.length:Int);refine aa (Xe (C.a.b.length:Int)) ?_;have b:=Ys (C.a.a.length:Int);refine aa (Xe (C.a.a.length:Int)) ?_;refine aa (EL A C cl cl) ?_;have a:=VW (ky A C);refine aa (SP (ky A C)) ?_;exact rt _ f
theorem vy(h:b)(k:a:=by(intros;first|omega|with_unfolding_all (first|(have o:(I A U).size<=2342912:=ZY (i:=U) g;have E:C.size<=2342912:=S;have o3:A.length<=2342912:=Zx g;omega))|exact wt)):a/\b:=⟨k,h⟩
theorem Fy(A:List ByteArray)(C:ByteArray)(g:R 2342912 A)(S:R 2342912 C):c 200 [rL 1 N A,rS C] [rS (W3 A C)]:=by
 have f:=me (W3.eq_1 A C);refine so func200 ntmps200 ?_;refine aq (KC.eq_2 A C) (fun J U=>Z6 25 [(1,.one (.d (.str C)),[]),(5,.one (.d (.str J)),[]),eL 8 1 A N,eI 9 (A.length:Int),eI 10 (U:Int)]) (fun K J U=>A.length<K+U/\U<=A.length/\J.size<=4685824*U) (A.length+1) (⟨#[]⟩:ByteArray) 0 (fun p1 J U H j1=>?_) (v:=by exact⟨Y,Y,Nat.zero_le _,Nat.zero_le _⟩);refine aj H ?_ ?_<;>intro k2 M H
 ·have w:=ix M;have m2:=ml A (k2 8 _ rfl);have c1:=sl 2342912 A (an g S);have D:=wr U;simp[w,ZH];refine aF H ?_ ?_<;>intro k3 Z H
  ·simp;repeat with_reducible refine vy ?_
   exact ay D H (v:=by(have o:(I A U).size<=2342912:=ZY (i:=U) g;have E:C.size<=2342912:=S;have o3:A.length<=2342912:=Zx g;(try dsimp only);refine⟨Y,Y,Y,?_⟩;simp;omega))
  simp;repeat with_reducible refine vy ?_
  exact ay D H (v:=by(have o:(I A U).size<=2342912:=ZY (i:=U) g;have E:C.size<=2342912:=S;have o3:A.length<=2342912:=Zx g;(try dsimp only);refine⟨Y,Y,Y,?_⟩;simp;omega))
 exact rt _ (ms f H)
theorem vS(A:List ByteArray)(C:ByteArray)(g:R 2338816 A)(S:R 2338816 C):c 188 [rL 1 N A,rS C] [rS (HA A C)]:=by
 have f:=me (HA.eq_1 A C);refine so func188 ntmps188 ?_;refine cF f ?_ ?_<;>intro k1 M f
 ·exact rt _ f
 refine aa (Fy A C (B g) (B S)) ?_;exact rt _ f
theorem CX(A:ZI)(C:ZD)(g:R 1048576 A)(S:R 1048576 C):c 111 [A.row,C.row] [rS (qi A C)]:=by
 have f:=me (qi.eq_1 A C);refine so func111 ntmps111 ?_;refine aq (VV.eq_2 A C) (fun J U=>Z6 24 [eX 2 (A.row.map .d),(5,.one (.E 5 0 0 J.length),[.arr false 1 (J.map N)]),eL 9 16 C.a ZU.row,eI 10 (C.a.length:Int),eI 11 (U:Int)]) (fun K J U=>C.a.length<K+U/\U<=C.a.length/\J.length<=U/\(∀x∈J,x.size<=400)) (C.a.length+1) ([]:List ByteArray) 0 (fun p1 J U H j1=>?_) (v:=by exact⟨Y,Y,Nat.zero_le _,Nat.zero_le _,fun x h=>by cases h⟩) (h0:=az [((5,0),none)] []);refine aj H ?_ ?_<;>intro k2 M H
 ·have w:=ix M;have m2:=ml C.a (k2 9 _ rfl);have c1:=sl 1048576 C.a (an g S);have D:=wr U;refine xp w ?_;refine aa (uI A (I C.a U) (by(first|exact B g|exact B (ZY (ZD.Z8 S)))) (by(first|exact B g|exact B (ZY (ZD.Z8 S))))) ?_;exact aB H (v:=by(refine⟨Y,Y,Y,by simp;omega,fun x O=>?_⟩;rcases List.mem_append.1 O with O|O;exact j1.2.2.2.2 x O;simp at O;rw[O];exact BZ _ _)) (hw:=YR [((5,0),some (20,0))] [] rfl ad)
 have c2:=sl 1048576 C.a (an g S);have f:=ms f H;refine aa (vS J (⟨#[59,32]⟩:ByteArray) ez ez) ?_;exact rt [.tmp 4] f
theorem vb(A:List Int)(C:Int)(g:R 2338816 A):c 328 [rL 1 r A,rI C] [rL 1 r (yR A C)]:=by
 have f:=me (yR.eq_1 A C);refine so func328 ntmps328 ?_;refine aI (Q7.eq_2 A C) (fun J=>Z6 44 [eL 0 1 A r,eI 1 C,eI 5 (J:Int)]) (fun K J=>A.length<K+J/\J<=A.length) (A.length+1) 0 (fun p1 J H j1=>?_);refine aK ?_ ?_<;>intro G
 ·have w:=ik J A;refine xg w ?_;refine cK H ?_ ?_<;>intro k2 M H
  ·have m2:=ml A (k2 0 _ rfl);have c1:=sl 2338816 A g;have D:=wr J;exact aH (an D G) H
  ·have c2:=sl 2338816 A g;have f:=ms f H;refine aJ G ?_ ?_<;>intro G
   ·all_goals
     refine xg w ?_;refine cK f ?_ ?_<;>intro k3 Z f
     ·exact O [.tmp 4] f
     ·refine bS ac ?_;refine bo [false] (zR (A.take J) (B (BX g))) ?_ (hq:=by simp[-Bool.exists_bool,-Bool.forall_bool,-List.map_take]);exact O [.tmp 4] f
   ·try(simp at G;done)
    all_goals
     refine cK f ?_ ?_<;>intro k5 h3 f
     ·simp[G]at h3
     ·simp[G]at h3
 ·refine cK H ?_ ?_<;>intro l h4 H
  ·simp[G]at h4
  ·have c8:=sl 2338816 A g;have f:=ms f H;refine aJ G ?_ ?_<;>intro G
   ·try(simp at G;done)
    all_goals
     have i5:=ik J A;refine xg i5 ?_;refine cK f ?_ ?_<;>intro k8 h5 f
     ·simp[G]at h5
     ·simp[G]at h5
   ·all_goals
     refine cK f ?_ ?_<;>intro af h6 f
     ·simp[G]at h6
     ·refine bS ac ?_;refine bo [false] (zR (A.take J) (B (BX g))) ?_ (hq:=by simp[-Bool.exists_bool,-Bool.forall_bool,-List.map_take]);exact O [.tmp 4] f
theorem Sm(A:ZU)(g:R 2334720 A):c 259 [A.row] [rL 1 r (Vi A)]:=by
 have f:=me (Vi.eq_1 A);refine so func259 ntmps259 ?_;refine aq (jf.eq_2 A) (fun J U=>Z6 24 [eL 3 1 J r,eL 12 5 A.a.a ZZ.row,eI 13 (A.a.a.length:Int),eI 14 (U:Int)]) (fun K J U=>A.a.a.length<K+U/\U<=A.a.a.length/\J.length<=1+U) (A.a.a.length+1) ([A.d.c]:List Int) 0 (fun p1 J U H j1=>?_) (h0:=az [] [(9,0)]);refine aj H ?_ ?_<;>intro k2 M H
 ·have w:=ix M;have m2:=ml A.a.a (k2 12 _ rfl);have c1:=sl 2334720 A.a.a g;have D:=wr U;refine xp w ?_;refine aa (vb J (I A.a.a U).c (by exact ZJ (n:=2334720+1) au ⟨Y,fun _ _=>trivial⟩)) ?_;exact ay D H (v:=by(have z:=Gh J (I A.a.a U).c;(try dsimp only);omega))
 exact rt _ (ms f H)
theorem E1(A:List Int)(C:ZO)(E:List Int)(g:R 2322432 A)(S:R 2322432 C)(u2:R 2322432 E):Sd 258 [rL 1 r A,C.row,rL 1 r E] [(Kq A C E).1.row,rB (Kq A C E).2]:=by
 have f:=me (Kq.eq_1 A C E);refine ar func258 ntmps258 ?_;refine aa (W4 C) ?_;refine cF f ?_ ?_<;>intro k1 M f
 ·exact ah [.cell 6 142,.tmp 7] f
 refine aw ac ?_;refine ai [false] (zR A (B g)) ?_;refine g4 (QT.eq_2 A C E) (fun J U y i a=>Z6 83 [eL 0 1 A r,eL 2 1 E r,eX 4 (C.row.map .d),(6,.one (.O 6 0),[.box [.d (.int .i64 0),.nil 1,.nil 1,.nil 1,.nil 1,.nil 1]]),(8,.one (.O 8 0),[.box [.d (.int .i64 C.e),.E 23 0 0 A.length,.E 8 3 0 U.length,.E 8 4 0 y.length,.E 8 5 0 i.length,.E 8 6 0 a.length],.none,.none,.arr false 1 (U.map lR),.arr false 1 (y.map N),.arr false 1 (i.map r),.arr true 1 (a.map (ag 1 r))]),(23,.any,[.arr false 1 (A.map r)]),eL 26 1 C.b N,eI 27 (C.b.length:Int),eI 28 (J:Int)]) (fun K J U y i a=>C.b.length<K+J/\J<=C.b.length/\U.length<=J/\y.length<=J/\i.length<=J/\a.length<=J) (C.b.length+1) 0 ([]:List Bool) ([]:List ByteArray) ([]:List Int) ([]:List (List Int)) (fun p1 J U y i a H j1=>?_) (h0:=az [((8,3),none),((8,4),none),((8,5),none),((8,6),none)] []);refine aj H ?_ ?_<;>intro k4 Z H
 ·have w:=ix Z;have m2:=ml C.b (k4 26 _ rfl);have c1:=sl 2322432 C.b (an g (an S u2));have D:=wr J;have V:J<C.d.length:=by(have z:=CD (A:=C) cw;omega)
  refine xp (an w V) ?_;refine aa (Sq E (J:Int)) ?_;refine cF H ?_ ?_<;>intro k5 h3 H
  ·refine bX fun b=>?_;refine aq (zk.eq_2 A C J) (fun T q=>Z6 83 [eL 0 1 A r,eL 2 1 E r,eX 4 (C.row.map .d),(6,.one (.O 6 0),[.box [.d (.int .i64 0),.nil 1,.nil 1,.nil 1,.nil 1,.nil 1]]),(8,.one (.O 8 0),[.box [.d (.int .i64 C.e),.E 23 0 0 A.length,.E 8 3 0 U.length,.E 8 4 0 y.length,.E 8 5 0 i.length,.E 8 6 0 a.length],.none,.none,.arr false 1 (U.map lR),.arr false 1 (y.map N),.arr false 1 (i.map r),.arr true 1 (a.map (ag 1 r))]),(10,.one (.d (.str (I C.b J))),[]),eI 11 (I C.d J),(12,.one (.E 12 0 0 T.length),[.arr false 1 (T.map r)]),eB 13 (y6 E (J:Int)),(23,.any,[.arr false 1 (A.map r)]),eL 26 1 C.b N,eI 27 (C.b.length:Int),eI 28 (J:Int),eL 42 1 A r,eI 43 (A.length:Int),eI 44 (q:Int)]) (fun n2 T q=>A.length<n2+q/\q<=A.length/\T.length<=0+1*q) (A.length+1) ([]:List Int) 0 (fun p2 T q e2 j2=>?_) (h0:=az [((12,0),none)] []);refine aj e2 ?_ ?_<;>intro l h4 e2
   ·have i3:=ix h4;have m4:=ml A (l 0 _ rfl);have c2:=sl 2322432 A (an g (an S u2));have w2:=wr q;refine xp i3 ?_;refine aa (Om (I A q) (I C.b J) (I C.d J) (B (ZY (ZO.qo S)))) ?_;exact aB e2 (hw:=YR [((12,0),some (54,0))] [] rfl bC)
   have H:=ms H e2;refine SN ?_;simp;refine OT (au:=a.map (ag 1 r)) (am:=([T]:List (List Int)).map (ag 1 r)) (l1:=[(8,6)]) (l2:=[(12,0)]) (X:=1) ?_;simp;exact ek H (hw:=YR [((8,3),some (61,0)),((8,4),some (67,0)),((8,5),some (73,0)),((8,6),some (79,0))] [] rfl ad)
  refine SN ?_;simp;refine OT (au:=a.map (ag 1 r)) (am:=([([]:List Int)]:List (List Int)).map (ag 1 r)) (l1:=[(8,6)]) (l2:=[]) (X:=1) ?_;simp;exact ek H (hw:=YR [((8,3),some (61,0)),((8,4),some (67,0)),((8,5),some (73,0)),((8,6),some (79,0))] [] rfl ad)
 exact ah [.cell 6 142,.tmp 7] (ms f H)
theorem u7(A:ZU)(C:List Int)(g:R 2318336 A)(S:R 2318336 C):Sd 189 [A.row,rL 1 r C] [(J3 A C).1.row,rB (J3 A C).2]:=by have f:=me (J3.eq_1 A C);refine ar func189 ntmps189 ?_;refine aw ac ?_;refine aa (Sm A (by exact B g)) ?_;refine ai [true,false,false,false,false] (E1 _ A.c C (by first|exact ZJ au (Rl g)|exact B (ZU.JM g)|exact B S) hY hY) ?_;exact ah _ f
theorem TC(h:b)(k:a:=by(intros;first|omega|with_unfolding_all (first|(have o:(I A.b U).size<=2097152:=ZY (i:=U) g.2.2.1;omega))|exact wt)):a/\b:=⟨k,h⟩
theorem E4(A:t)(g:R 2097152 A):c 190 [A.row] [rS (xr A)]:=by
 have f:=me (xr.eq_1 A);refine so func190 ntmps190 ?_;refine aa (Xe A.e) ?_;refine aq (QS.eq_2 A) (fun J U=>Z6 41 [eX 1 (A.row.map .d),(3,.one (.d (.str J)),[]),eL 10 1 A.a lR,eI 11 (A.a.length:Int),eI 12 (U:Int)]) (fun K J U=>A.a.length<K+U/\J.size<=24+2097156*U) (A.a.length+1) (Zu A.e) 0 (fun p1 J U H j1=>?_) (v:=by exact⟨Y,ab,Ys A.e⟩);refine aj H ?_ ?_<;>intro k2 M H
 ·have w:=ix M;have m2:=ml A.a (k2 10 _ rfl);have c1:=sl 2097152 A.a g;have D:=wr U;simp[w,ZH];refine aj H ?_ ?_<;>intro k3 Z H
  ·simp;repeat with_reducible refine TC ?_
   exact ay D H
  refine aF H ?_ ?_<;>intro k4 h3 H
  ·have V:=ix h3;have m4:=ml A.b (k4 27 _ rfl);have c2:=sl 2097152 A.b g;have w2:=wr U;simp[V,ZH];repeat with_reducible refine TC ?_
   exact ay w2 H (v:=by(have o:(I A.b U).size<=2097152:=ZY (i:=U) g.2.2.1;(try dsimp only);refine⟨Y,Y,?_⟩;simp;omega))
  simp;repeat with_reducible refine TC ?_
  exact ay D H
 exact rt _ (ms f H)
theorem uc(A:t)(g:R 2334720 A):c 386 [A.row] [rB (z3 A)]:=by
 have f:=me (z3.eq_1 A);refine so func386 ntmps386 ?_;refine aa (Z0 (A.a.length:Int) 1 6) ?_;refine aF f ?_ ?_<;>intro k1 M f
 ·have q1:=M;try simp[ZW]at q1
  simp;exact rt [.tmp 2] f
 have q1:=M;try simp[ZW]at q1
 simp;refine bu (Jb.eq_2 A) (fun J U y=>Z6 113 [eX 1 (A.row.map .d),(4,.one (.O 4 0),[.box [.d (.int .i64 A.e),.E 4 2 0 U.length,.E 4 3 0 y.length],.none,.arr false 1 (U.map N),.arr false 1 (y.map r)]),eL 38 1 A.a lR,eI 39 (A.a.length:Int),eI 40 (J:Int)]) (fun K J U y=>A.a.length<K+J/\J<=A.a.length/\U.length<=0+1*J/\y.length<=0+1*J) (A.a.length+1) 0 ([]:List ByteArray) ([]:List Int) (fun p1 J U y H j1=>?_) (h0:=az [((4,2),none),((4,3),none)] []);refine aj H ?_ ?_<;>intro k3 Z H
 ·have w:=ix Z;have D:=wr J;refine xp w ?_;refine aj H ?_ ?_<;>intro k4 h3 H
  ·have V:=ik J A.f;refine xp V ?_;refine cF H ?_ ?_<;>intro k5 h4 H
   ·exact rt [.tmp 2] (ms f H)
   refine ae ac ?_;have i3:=ik J A.b
   refine xp i3 ?_;refine ae ac ?_;have i4:=ik J A.d
   refine xp i4 ?_;exact be H (hw:=YR [((4,2),some (61,0)),((4,3),some (71,0))] [] rfl ad)
  refine ae ac ?_;have i5:=ik J A.b
  refine xp i5 ?_;refine aK ?_ ?_<;>intro G
  ·have i6:=ik J A.d;refine xg i6 ?_;refine aJ G ?_ ?_<;>intro G
   ·all_goals
     have i7:=ik J A.f;refine xg i7 ?_;refine cK H ?_ ?_<;>intro L h5 H
     ·exact O [.tmp 2] (ms f H)
     ·exact a3 (an D G) H
   ·all_goals
     refine cK H ?_ ?_<;>intro af h6 H
     ·exact O [.tmp 2] (ms f H)
     ·simp[G]at h6
  ·refine aJ G ?_ ?_<;>intro G
   ·try(simp at G;done)
    all_goals
     have o:=ik J A.f;refine xg o ?_;refine cK H ?_ ?_<;>intro ao h7 H
     ·simp[G]at h7
     ·simp[G]at h7
   ·all_goals
     refine cK H ?_ ?_<;>intro d h8 H
     ·exact O [.tmp 2] (ms f H)
     ·simp[G]at h8
 have f:=ms f H;refine aa (W4 (ZO.mk A.e U y)) ?_;refine ak (fun p=>Z0 A.e 0 999) ?_;exact rt [.tmp 2] f
theorem tN(A:t):c 387 [A.row] [rI (jG A)]:=by
 have f:=me (jG.eq_1 A);refine so func387 ntmps387 ?_;refine aq (Ja.eq_2 A) (fun J U=>Z6 18 [eI 3 J,eL 7 1 A.a lR,eI 8 (A.a.length:Int),eI 9 (U:Int)]) (fun K J U=>A.a.length<K+U/\U<=A.a.length) (A.a.length+1) 0 0 (fun p1 J U H j1=>?_);refine aj H ?_ ?_<;>intro k2 M H
 ·have w:=ix M;have m2:=ml A.a (k2 7 _ rfl);have D:=wr U;refine xp w ?_;refine cF H ?_ ?_<;>intro k3 Z H
  ·exact ay D H
  exact ay D H
 exact rt _ (ms f H)
theorem NK(h:b)(k:a:=by(intros;first|omega|with_unfolding_all (first|first|omega|(have z:=Cs M (v:=U) w;first|omega|(have y:=z.2.2.2 hz;omega)))|exact wt)):a/\b:=⟨k,h⟩
theorem NC(A:Int)(C:t)(g:R 2322432 C):c 330 [rI A,C.row] [rI (zt A C)]:=by
 have f:=me (zt.eq_1 A C);refine so func330 ntmps330 ?_;refine aa (Bg C.c A) ?_;refine aw ac ?_;refine aa (uc C (B g)) ?_;refine ak (fun p=>tN C) ?_;refine cF f ?_ ?_<;>intro k2 M f
 ·exact rt [.tmp 4] f
 refine aq (JZ.eq_2 A C) (fun J U=>Z6 70 [eI 0 A,eX 3 (C.row.map .d),eI 5 (Kl C.c A),(6,.one (.E 6 0 0 J.length),[.arr false 1 (J.map r)]),eL 32 1 C.a lR,eI 33 (C.a.length:Int),eI 34 (U:Int)]) (fun K J U=>C.a.length<K+U/\U<=C.a.length/\J.length<=1+1*U) (C.a.length+1) ([C.e]:List Int) 0 (fun p1 J U H j1=>?_) (h0:=az [((6,0),some (30,0))] []);refine aj H ?_ ?_<;>intro k4 Z H
 ·have w:=ix Z;have m2:=ml C.a (k4 32 _ rfl);have c1:=sl 2322432 C.a g;have D:=wr U;simp[w,ZH];refine aQ H ?_ ?_<;>intro k5 h3 H
  ·refine aW fun b=>?_;refine ae ac ?_;have V:U<C.b.length:=eQ
   have i3:U<C.d.length:=eQ;simp[V,ZH,i3];refine cR (Om A (I C.b U) (I C.d U) (B (ZY (t.qo g)))) ?_;simp;repeat with_reducible refine NK ?_
   exact aB H (hw:=YR [((6,0),some (54,0))] [] rfl ad)
  have i4:U<C.f.length:=eQ;have i5:(Kl C.c A).toNat<(I C.f U).length:=by have:=BM C.c A;(have z:=Cs M (v:=U) w;first|omega|(have y:=z.2.2.2 hz;omega))
  simp[i4,ZH,i5];repeat with_reducible refine NK ?_
  exact aB H (hw:=YR [((6,0),some (65,0))] [] rfl ad)
 have c2:=sl 2322432 C.a g;have f:=ms f H;refine aa (K0 A J bG) ?_;exact rt [.tmp 4] f
theorem EV(A:ZR)(C:t)(g:R 2318336 A)(S:R 2318336 C):Sd 385 [A.row,C.row] [rL 1 r (KL A C)]:=by
 have f:=me (KL.eq_1 A C);refine ar func385 ntmps385 ?_;refine aq (KD.eq_2 A C) (fun J U=>Z6 24 [eX 3 (C.row.map .d),(5,.one (.E 5 0 0 J.length),[.arr false 1 (J.map r)]),eL 9 5 A.a ZZ.row,eI 10 (A.a.length:Int),eI 11 (U:Int)]) (fun K J U=>A.a.length<K+U/\U<=A.a.length/\J.length<=0+1*U) (A.a.length+1) ([]:List Int) 0 (fun p1 J U H j1=>?_) (h0:=az [((5,0),none)] []);refine aj H ?_ ?_<;>intro k2 M H
 ·have w:=ix M;have m2:=ml A.a (k2 9 _ rfl);have c1:=sl 2318336 A.a (an g S);have D:=wr U;refine xp w ?_;refine aa (NC (I A.a U).c C (B S)) ?_;exact aB H (hw:=YR [((5,0),some (21,0))] [] rfl ad)
 exact ah [.tmp 4] (ms f H)
theorem Me(A:Q)(C:t)(g:R 2314240 A)(S:R 2314240 C):Sd 329 [A.row,C.row] [rL 1 (ag 1 r) (JW A C)]:=by
 have f:=me (JW.eq_1 A C);refine ar func329 ntmps329 ?_;refine aq (Qs.eq_2 A C) (fun J U=>Z6 23 [eX 3 (C.row.map .d),(5,.one (.E 5 0 0 J.length),[.arr true 1 (J.map (ag 1 r))]),eL 9 2 A.a ZR.row,eI 10 (A.a.length:Int),eI 11 (U:Int)]) (fun K J U=>A.a.length<K+U/\U<=A.a.length/\J.length<=U) (A.a.length+1) ([]:List (List Int)) 0 (fun p1 J U H j1=>?_) (h0:=az [((5,0),none)] []);refine aj H ?_ ?_<;>intro k2 M H
 ·have w:=ix M;have m2:=ml A.a (k2 9 _ rfl);have c1:=sl 2314240 A.a (an g S);have D:=wr U;simp[w,ZH];refine ai [false] (EV (I A.a U) C (B (ZY (Q.Yo g))) (B S)) ?_;refine SN ?_;simp;refine gc (au:=J.map (ag 1 r)) (am:=([KL (I A.a U) C]:List (List Int)).map (ag 1 r)) (l1:=[(5,0)]) (l2:=[(18,0)]) (X:=1) rfl rfl rfl rfl ab ab ab ab ab (by simp;(first|omega|(have z:=Zx (Q.Yo g);omega))) ?_;simp;exact aB H (hw:=YR [((5,0),some (20,0))] [] rfl ad)
 exact ah [.tmp 4] (ms f H)
theorem CZ(A:ZI)(C:Q)(E:t)(N:G)(g:R 2277376 A)(S:R 2277376 C)(u2:R 2277376 E)(a:nJ C<=2097152):c 260 [A.row,C.row,E.row,N.row] [(Wv A C E N).row]:=by have f:=me (Wv.eq_1 A C E N);refine so func260 ntmps260 ?_;refine aw ac ?_;refine aa (Z7.rd (Me C E cO cO)) ?_;refine aa (NC N.c E cO) ?_;refine aa (Ls A C (JW C E) (zt N.c E) N cO cO (by(first|exact B g|exact B S|exact B u2|exact a|exact B (Qh S))) cO) ?_;exact rt _ f
theorem V8(A:ZI)(C:ZU)(E:t)(g:R 2273280 A)(S:R 2097152 C)(u2:R 2273280 E):c 191 [A.row,C.row,E.row] [(VJ A C E).row]:=by have f:=me (VJ.eq_1 A C E);refine so func191 ntmps191 ?_;refine aw ac ?_;refine aa (Z7.rd (Lq C cs)) ?_;refine aa (CZ A (yQ C) E C.d cs hy cs cs) ?_;exact rt _ f
theorem IS(h:b)(k:a:=by(intros;first|omega|with_unfolding_all (first|first|omega|(have z:=FG (W9 (n:=1048576) (A:=I (I A.a (S A C).1.toNat).a (S A C).2.toNat) (C:=[E]) (ZY (ZD.Z8 (ZY (P.Zs g)))));omega)|(have h0:0<=(S A C).1:=(by simp at M;omega);have d:=Qt A C h0;omega))|exact wt)):a/\b:=⟨k,h⟩
theorem oK(A:P)(C E:Int)(g:R 1048576 A):c 112 [A.row,rI C,rI E] [rS (H4 A C E)]:=by
 have f:=me (H4.eq_1 A C E);refine so func112 ntmps112 ?_;refine aa (OU A C) ?_;refine aQ f ?_ ?_<;>intro k1 M f
 ·exact rt _ f
 have w:(S A C).1.toNat<A.a.length:=hW;have V:(S A C).2.toNat<(I A.a (S A C).1.toNat).a.length:=hW;simp[w,ZH,V];repeat with_reducible refine IS ?_
 refine ai [true,false,false,false,false] (u7 (I (I A.a (S A C).1.toNat).a (S A C).2.toNat) ([E]:List Int) (by exact B (ZY (ZD.Z8 (ZY (P.Zs g))))) (by exact⟨Nat.le_of_ble_eq_true rfl,fun _ _=>trivial⟩)) ?_;refine cF f ?_ ?_<;>intro k2 Z f
 ·exact rt _ f
 refine aw ac ?_;refine cR (E4 (J3 (I (I A.a (S A C).1.toNat).a (S A C).2.toNat) ([E]:List Int)).1 (by exact ZJ au (W9 (ZY (ZD.Z8 (ZY (P.Zs g))))))) ?_;simp;repeat with_reducible refine IS ?_
 refine aa (V8 A.b (I (I A.a (S A C).1.toNat).a (S A C).2.toNat) (J3 (I (I A.a (S A C).1.toNat).a (S A C).2.toNat) ([E]:List Int)).1 gq gq (by first|exact B (P.Yc g)|exact B (ZY (ZD.Z8 (ZY (P.Zs g))))|exact ZJ au (W9 (ZY (ZD.Z8 (ZY (P.Zs g))))))) ?_;refine cR (SP (VJ A.b (I (I A.a (S A C).1.toNat).a (S A C).2.toNat) (J3 (I (I A.a (S A C).1.toNat).a (S A C).2.toNat) ([E]:List Int)).1)) ?_;have o1:=VW (VJ A.b (I (I A.a (S A C).1.toNat).a (S A C).2.toNat) (J3 (I (I A.a (S A C).1.toNat).a (S A C).2.toNat) ([E]:List Int)).1)
 simp;repeat with_reducible refine IS ?_
 exact rt _ f
theorem AQ(A:ZU):c 261 [A.row] [(Jw A).1.row,rB (Jw A).2]:=by
 have f:=me (Jw.eq_1 A);refine so func261 ntmps261 ?_;refine aQ f ?_ ?_<;>intro k1 M f
 ·exact rt _ f
 have w:=ik (A.a.a.length-1) A.a.a;have q:=ml A.a.a (k1 7 _ rfl);have D:IntKind.i64.wrap ((A.a.a.length:Int)-1)=(A.a.a.length:Int)-1:=YB Y Y;refine xp (an w D) ?_;exact rt _ f
theorem D4(A:ZI)(C:Int):c 194 [A.row,rI C] [rI (NP A C)]:=by
 have f:=me (NP.eq_1 A C);refine so func194 ntmps194 ?_;refine aa (Oo A.c C) ?_;refine aj f ?_ ?_<;>intro k1 M f
 ·have w:(Qd A.c C).toNat<A.c.length:=by have:=Tj A.c C;exact il
  refine xp w ?_;exact rt [.tmp 4] f
 exact rt [.tmp 4] f
theorem WP(A:ZI)(C:ZZ):c 262 [A.row,C.row] [rI (Hf A C)]:=by
 have f:=me (Hf.eq_1 A C);refine so func262 ntmps262 ?_;refine aa (D4 A C.c) ?_;refine aq (MO.eq_2 A C) (fun J U=>Z6 41 [eX 2 (A.row.map .d),eI 5 J,eL 14 5 C.a ZX.row,eI 15 (C.a.length:Int),eI 16 (U:Int)]) (fun K J U=>C.a.length<K+U/\U<=C.a.length) (C.a.length+1) (NP A C.c) 0 (fun p1 J U H j1=>?_);refine aj H ?_ ?_<;>intro k2 M H
 ·have w:=ix M;have m2:=ml C.a (k2 14 _ rfl);have D:=wr U;refine xp w ?_;refine aw ac ?_;refine aa (Py A.b (I C.a U)) ?_;refine aa (JO A.a (Xs A.b (I C.a U))) ?_;refine cF H ?_ ?_<;>intro k4 Z H
  ·exact rt _ (ms f H)
  refine ae ac ?_;have V:(YA A.a (Xs A.b (I C.a U))).toNat<A.a.length:=by have:=yD A.a (Xs A.b (I C.a U));exact il
  refine xp V ?_;refine aa (D4 A (I A.a (YA A.a (Xs A.b (I C.a U))).toNat).c) ?_;exact ay D H
 exact rt _ (ms f H)
theorem Bo(A:ZI)(C:ZU)(E:Int):c 192 [A.row,C.row,rI E] [rB (UJ A C E)]:=by have f:=me (UJ.eq_1 A C E);refine so func192 ntmps192 ?_;refine aa (AQ C) ?_;refine aw ac ?_;refine ak (fun p=>WP A (Jw C).1) ?_;exact rt _ f
theorem p7(A:ZI)(C:ZD)(E:Int)(g:R 2326528 A)(S:R 2326528 C):Sd 114 [A.row,C.row,rI E] [rL 1 r (UM A C E)]:=by
 have f:=me (UM.eq_1 A C E);refine ar func114 ntmps114 ?_;refine aq (Wq.eq_2 A C E) (fun J U=>Z6 28 [eI 2 E,eX 3 (A.row.map .d),(7,.one (.E 7 0 0 J.length),[.arr false 1 (J.map r)]),eL 11 16 C.a ZU.row,eI 12 (C.a.length:Int),eI 13 (U:Int)]) (fun K J U=>C.a.length<K+U/\U<=C.a.length/\J.length<=0+1*U) (C.a.length+1) ([]:List Int) 0 (fun p1 J U H j1=>?_) (h0:=az [((7,0),none)] []);refine aj H ?_ ?_<;>intro k2 M H
 ·have w:=ix M;have m2:=ml C.a (k2 11 _ rfl);have c1:=sl 2326528 C.a (an g S);have D:=wr U;refine xp w ?_;refine aa (Bo A (I C.a U) E) ?_;refine cF H ?_ ?_<;>intro k3 Z H
  ·exact aB H (hw:=YR [((7,0),some (25,0))] [] rfl ad)
  exact ay D H
 exact ah [.tmp 6] (ms f H)
theorem IB(A:List Int)(g:R 2334720 A):c 113 [rL 1 r A] [rS (jd A)]:=by
 have f:=me (jd.eq_1 A);refine so func113 ntmps113 ?_;refine aq (R5.eq_2 A) (fun J U=>Z6 20 [(3,.one (.E 3 0 0 J.length),[.arr false 1 (J.map N)]),eL 6 1 A r,eI 7 (A.length:Int),eI 8 (U:Int)]) (fun K J U=>A.length<K+U/\U<=A.length/\J.length<=U/\(∀x∈J,x.size<=24)) (A.length+1) ([]:List ByteArray) 0 (fun p1 J U H j1=>?_) (v:=by exact⟨Y,Y,Nat.zero_le _,Nat.zero_le _,fun x h=>by cases h⟩) (h0:=az [((3,0),none)] []);refine aj H ?_ ?_<;>intro k2 M H
 ·have w:=ix M;have m2:=ml A (k2 6 _ rfl);have c1:=sl 2334720 A g;have D:=wr U;refine xp w ?_;refine aa (Xe (I A U)) ?_;exact aB H (v:=by(refine⟨Y,Y,Y,by simp;omega,fun x O=>?_⟩;rcases List.mem_append.1 O with O|O;exact j1.2.2.2.2 x O;simp at O;rw[O];exact Ys _)) (hw:=YR [((3,0),some (16,0))] [] rfl ad)
 have c2:=sl 2334720 A g;have f:=ms f H;refine aa (vS J (⟨#[32]⟩:ByteArray) ez ez) ?_;exact rt [.tmp 2] f
theorem oh(A:List Zy)(C E:Int):c 193 [rL 4 Zy.row A,rI C,rI E] [rB (Hc A C E)]:=by
 have f:=me (Hc.eq_1 A C E);refine so func193 ntmps193 ?_;refine aa (Oo A C) ?_;refine aK ?_ ?_<;>intro G
 ·have w:(Qd A C).toNat<A.length:=by have:=Tj A C;exact il
  refine xg w ?_;refine aJ G ?_ ?_<;>intro G
  ·all_goals
    refine xg w ?_;exact O [.tmp 6] f
  ·all_goals
    exact O [.tmp 6] f
 ·refine aJ G ?_ ?_<;>intro G
  ·try(simp at G;done)
   all_goals
    have i3:(Qd A C).toNat<A.length:=by have:=Tj A C;exact il
    refine xg i3 ?_;exact O [.tmp 6] f
  ·all_goals
    exact O [.tmp 6] f
theorem Fv(A:ZI)(g:R 2334720 A):Sd 115 [A.row] [rL 1 r (KI A)]:=by
 have f:=me (KI.eq_1 A);refine ar func115 ntmps115 ?_;refine aq (JI.eq_2 A) (fun J U=>Z6 57 [eX 1 (A.row.map .d),(3,.one (.E 3 0 0 J.length),[.arr false 1 (J.map r)]),eL 9 3 A.b ZS.row,eI 10 (A.b.length:Int),eI 11 (U:Int)]) (fun K J U=>A.b.length<K+U/\U<=A.b.length/\J.length<=0+1*U) (A.b.length+1) ([]:List Int) 0 (fun p1 J U H j1=>?_) (h0:=az [((3,0),none)] []);refine aj H ?_ ?_<;>intro k2 M H
 ·have w:=ix M;have m2:=ml A.b (k2 9 _ rfl);have c1:=sl 2334720 A.b g;have D:=wr U;refine xp w ?_;refine aa (JO A.a (I A.b U).a) ?_;refine aQ H ?_ ?_<;>intro k3 Z H
  ·exact ay D H
  have V:(YA A.a (I A.b U).a).toNat<A.a.length:=by have:=yD A.a (I A.b U).a;exact il
  refine xp V ?_;refine aw ac ?_;refine ak (fun p=>oh A.c (I A.a (YA A.a (I A.b U).a).toNat).c A.d) ?_;refine ak (fun p=>D4 A (I A.a (YA A.a (I A.b U).a).toNat).c) ?_;refine cF H ?_ ?_<;>intro k5 h3 H
  ·exact aB H (hw:=YR [((3,0),some (54,0))] [] rfl ad)
  exact ay D H
 exact ah [.tmp 2] (ms f H)
theorem mE(h:b)(k:a:=by(intros;first|omega|with_unfolding_all (first|(have d:=OE (l:=A.a) (i:=U) bg;omega))|exact wt)):a/\b:=⟨k,h⟩
theorem H3(A:P)(g:R 2342912 A)(S:am A.a<=1048576):So 196 [A.row] [rL 16 ZU.row (Yv A)]:=by
 have f:=me (Yv.eq_1 A);refine so func196 ntmps196 ?_;refine aq (Le.eq_2 A) (fun J U=>Z6 19 [(3,.one (.E 3 0 0 J.length),[.arr false 16 (J.map ZU.row)]),eL 7 2 A.a ZD.row,eI 8 (A.a.length:Int),eI 9 (U:Int)]) (fun K J U=>A.a.length<K+U/\U<=A.a.length/\J.length+am (A.a.drop U)<=1048576) (A.a.length+1) ([]:List ZU) 0 (fun p1 J U H j1=>?_) (v:=by((try dsimp only);simp only[List.length_nil,List.drop_zero];omega)) (h0:=az [((3,0),none)] []);refine aj H ?_ ?_<;>intro k2 M H
 ·have w:=ix M;have m2:=ml A.a (k2 7 _ rfl);have c1:=sl 2342912 A.a (an g S);have D:=wr U;simp[w,ZH];refine bs rfl rfl rfl ?_;have c2:=sl 2342912 (I A.a U).a (an g S);simp;repeat with_reducible refine mE ?_
  exact aB H (v:=by(have d:=OE (l:=A.a) (i:=U) bg;(try dsimp only);simp only[List.length_append];omega)) (hw:=YR [((3,0),some (16,0))] [] rfl ad)
 exact bJ [.tmp 2] (ms f H)
theorem Hm(A C:List ZX)(g:R 2342912 A)(S:A.length+C.length<=67108900):wL prog 265 [rL 5 ZX.row A] [.sl 5 (C.map ZX.row)] [.sl 5 ((xY A C).map ZX.row)]:=by
 refine lf func265 rfl d [false] ab (fun v=>?_);simp[ntmps265];refine bX fun k1=>?_;refine fx (ι:={s:Nat×Nat×_//QI A s.1 s.2.1 s.2.2=QI A (A.length+1) 0 C/\(1<=s.1/\A.length<s.1+s.2.1/\s.2.1<=A.length/\s.2.2.length<=C.length+s.2.1)}) (fun s=>Z6 34 [(1,.fix v (.one (.O 1 0)),[.box [.E 1 1 0 s.1.2.2.length],.arr false 5 (s.1.2.2.map ZX.row)]),eL 8 5 A ZX.row,eI 9 (A.length:Int),eI 10 (s.1.2.1:Int)]) (fun s=>s.1.1) ⟨(_,0,C),rfl,by first|omega|(dsimp only;omega)|simp⟩ (Q6 ab) ?_;rintro⟨⟨K,J,U⟩,H,j1⟩;try dsimp only at H j1
 obtain⟨p1,rfl⟩:∃p,K=p+1:=⟨K-1,Y⟩;simp;refine cC (decide ((J:Int)<(A.length:Int))) (fun k2 M=>?_) (fun k2 M=>?_)
 ·have q1:=M;try simp at q1
  have w:J<A.length:=cw;have D:IntKind.i64.wrap ((J:Int)+1)=(J:Int)+1:=YB Y Y;refine xp w ?_;refine bX fun k3=>?_;refine fx (ι:={s:Nat×Bool×Nat//KZ A J U s.1 s.2.1 s.2.2=KZ A J U (U.length+1) false 0/\(1<=s.1/\U.length<s.1+s.2.2/\s.2.2<=U.length)}) (fun s=>Z6 34 [(1,.fix v (.one (.O 1 0)),[.box [.E 1 1 0 U.length],.arr false 5 (U.map ZX.row)]),eX 4 ((I A J).row.map .d),eB 5 s.1.2.1,eL 8 5 A ZX.row,eI 9 (A.length:Int),eI 10 (J:Int),(14,.one (.E 1 1 0 U.length),[]),eI 15 (U.length:Int),eI 16 (s.1.2.2:Int)]) (fun s=>s.1.1) ⟨(_,false,0),rfl,by first|omega|(dsimp only;omega)|simp⟩ (Q6 ab) ?_;rintro⟨⟨n2,T,q⟩,e2,j2⟩;try dsimp only at e2 j2
  obtain⟨p2,rfl⟩:∃p,n2=p+1:=⟨n2-1,Y⟩;simp;refine cC (decide ((q:Int)<(U.length:Int))) (fun k4 Z=>?_) (fun k4 Z=>?_)
  ·have q2:=Z;try simp at q2
   have V:q<U.length:=ej;have w2:IntKind.i64.wrap ((q:Int)+1)=(q:Int)+1:=YB Y Y;refine xp V ?_;refine fo ⟨(p2,T||(((I U q).a==(I A J).a)&&(((I U q).b==(I A J).b)&&(((I U q).c==(I A J).c)&&(((I U q).e==(I A J).e)&&((I U q).f==(I A J).f))))),q+1),?_,?_⟩ ab (Q6 (by simp[w2]))
   · rw[<-e2];simp only[KZ,Z,XN]
   · first|omega|(simp at*;omega)
  ·have q2:=Z;try simp at q2
   have a:KZ A J U (U.length+1) false 0=T:=by rw[<-e2];simp only[KZ,Z,XA]
   simp;refine cC (!T) (fun k5 h3=>?_) (fun k5 h3=>?_)
   ·have q3:=h3;try simp at q3
    refine aU ?_;refine fo ⟨(p1,J+1,U++([I A J]:List ZX)),?_,?_⟩ ab (YR [((1,1),some (32,0))] [] rfl ad)
    · rw[<-H];simp only[QI,M,a,h3,XN]
    · first|omega|(simp at*;omega)
   ·have q3:=h3;try simp at q3
    simp;refine fo ⟨(p1,J+1,U),?_,?_⟩ ab (Q6 ad)
    · rw[<-H];simp only[QI,M,a,h3,XN,XA]
    · first|omega|(simp at*;omega)
 ·have q1:=M;try simp at q1
  have l:QI A (A.length+1) 0 C=U:=by rw[<-H];simp only[QI,M,XA]
  simp;refine eS (aC:=[.E 1 1 0 U.length]) rfl ?_ (.inr rfl);have f1:=xY.eq_1 A C
  simp only[l]at f1;simp[f1]
theorem AG(A:Q)(g:R 2338816 A)(S:CF A<=67108900):Sd 197 [A.row] [rL 5 ZX.row (UO A)]:=by
 have f:=me (UO.eq_1 A);refine ar func197 ntmps197 ?_;refine ih (t:=3) (E:=[.nil 5]) rfl rfl rfl rfl ab ab ?_;simp;refine aq (jT.eq_2 A) (fun J U=>Z6 44 [eX 1 (A.row.map .d),(3,.one (.O 3 0),[.box [.E 3 1 0 U.length],.arr false 5 (U.map ZX.row)]),(4,.one (.fn 265 3),[]),eL 13 2 A.a ZR.row,eI 14 (A.a.length:Int),eI 15 (J:Int)]) (fun K J U=>A.a.length<K+J/\J<=A.a.length/\U.length+af br (A.a.drop J)+af List.length A.b<=67108900) (A.a.length+1) 0 ([]:List ZX) (fun p1 J U H j1=>?_) (v:=by((try dsimp only);have u:=S;simp only[CF]at u;simp only[List.length_nil,List.drop_zero];omega)) (h0:=az [((3,1),none)] []);refine aj H ?_ ?_<;>intro k2 M H
 ·have w:=ix M;have m2:=ml A.a (k2 13 _ rfl);have c1:=sl 2338816 A.a (an g S);have D:=wr J;refine xp w ?_;refine aq (qj.eq_2 A J) (fun T q=>Z6 44 [eX 1 (A.row.map .d),(3,.one (.O 3 0),[.box [.E 3 1 0 q.length],.arr false 5 (q.map ZX.row)]),(4,.one (.fn 265 3),[]),eL 13 2 A.a ZR.row,eI 14 (A.a.length:Int),eI 15 (J:Int),eL 20 5 (I A.a J).a ZZ.row,eI 21 ((I A.a J).a.length:Int),eI 22 (T:Int)]) (fun n2 T q=>(I A.a J).a.length<n2+T/\T<=(I A.a J).a.length/\q.length+af (fun r=>r.a.length) ((I A.a J).a.drop T)+af br (A.a.drop (J+1))+af List.length A.b<=67108900) ((I A.a J).a.length+1) 0 U (fun p2 T q e2 j2=>?_) (v:=by(have d:=Bv (l:=A.a) (i:=J) bg;(try dsimp only);simp only[br,List.drop_zero]at d⊢;omega));refine aj e2 ?_ ?_<;>intro k4 Z e2
  ·have V:=ix Z;have m4:=ml (I A.a J).a (k4 20 _ rfl);have c2:=sl 2338816 (I A.a J).a (an g S);have w2:=wr T;refine xp V ?_;refine C6 (u:=3) (E:=[.E 3 1 0 q.length]) [false] rfl rfl rfl rfl (Hm (I (I A.a J).a T).a q (B (ZZ.Nz (ZY (ZR.QK (ZY (Q.Yo g)))))) gx) ab ab ab ab ab ab ab ab ab ab cc ab ab ?_;simp;exact ay (an D w2) e2 (v:=by(have d:=OC (l:=(I A.a J).a) (i:=T) bg;have z:=RC (I (I A.a J).a T).a q;(try dsimp only);omega))
  have H:=ms H e2;exact ay D H
 have f:=ms f H;refine aq (Wb.eq_2 A) (fun j s=>Z6 44 [(3,.one (.O 3 0),[.box [.E 3 1 0 s.length],.arr false 5 (s.map ZX.row)]),(4,.one (.fn 265 3),[]),eL 33 1 A.b (ag 5 ZX.row),eI 34 (A.b.length:Int),eI 35 (j:Int)]) (fun X j s=>A.b.length<X+j/\j<=A.b.length/\s.length+af List.length (A.b.drop j)<=67108900) (A.b.length+1) 0 U (fun p3 j s e3 j3=>?_) (v:=by((try dsimp only);simp only[List.drop_zero];omega));refine aj e3 ?_ ?_<;>intro b h3 e3
 ·have i3:=ix h3;have y:=ml A.b (b 33 _ rfl);have c5:=sl 2338816 A.b (an g S);have w3:=wr j;refine xp i3 ?_;refine C6 (u:=3) (E:=[.E 3 1 0 s.length]) [false] rfl rfl rfl rfl (Hm (I A.b j) s (B (ZY (Q.UC g))) gx) ab ab ab ab ab ab ab ab ab ab cc ab ab ?_;simp;exact ay w3 e3 (v:=by(have d:=It (l:=A.b) (i:=j) bg;have z:=RC (I A.b j) s;(try dsimp only);omega))
 exact ah _ (ms f e3)
theorem rU(h:b)(k:a:=by(intros;first|omega|with_unfolding_all (first|(have z:=TY A;omega))|exact wt)):a/\b:=⟨k,h⟩
theorem pg(A:P)(g:R 2334720 A)(S:am A.a<=1048576)(u2:CF (Q.mk (Xk A) [])<=67108900):Sd 117 [A.row] [rL 5 ZX.row (WA A)]:=by
 have f:=me (WA.eq_1 A);refine ar func117 ntmps117 ?_;refine aa (H3 A cl cl) ?_;refine aq (Th.eq_2 A) (fun J U=>Z6 23 [(3,.one (.O 3 0),[.box [.E 3 1 0 U.length,.nil 1],.arr false 2 (U.map ZR.row)]),eL 7 16 (Yv A) ZU.row,eI 8 ((Yv A).length:Int),eI 9 (J:Int)]) (fun K J U=>(Yv A).length<K+J/\J<=(Yv A).length/\U.length<=J) ((Yv A).length+1) 0 ([]:List ZR) (fun p1 J U H j1=>?_) (h0:=az [((3,1),none)] []);refine aj H ?_ ?_<;>intro k2 M H
 ·have w:=ix M;have m2:=ml (Yv A) (k2 7 _ rfl);have D:=wr J;simp[w,ZH];refine bA ?_;refine bs rfl rfl rfl ?_;simp;repeat with_reducible refine rU ?_
  exact aB H (hw:=YR [((3,1),some (18,0))] [] rfl ad)
 have f:=ms f H;refine ai [false] (AG (Q.mk U ([]:List (List ZX))) g7 g7) ?_;exact ah [.tmp 2] f
theorem wR(A:List YF)(C:List ZS)(E N:ZX)(g:R 2310144 A)(S:R 2310144 C):c 195 [rL 5 YF.row A,rL 3 ZS.row C,E.row,N.row] [rB (zy A C E N)]:=by
 have f:=me (zy.eq_1 A C E N);refine so func195 ntmps195 ?_;refine ak (fun p=>Ox A C E (B g) (B S)) ?_;refine ak (fun p=>Ox A C N (B g) (B S)) ?_;refine cF f ?_ ?_<;>intro k1 M f
 ·exact rt [.tmp 8] f
 refine cF f ?_ ?_<;>intro k2 Z f
 ·exact rt [.tmp 8] f
 exact rt [.tmp 8] f
theorem Zc(A:List YF)(C:List ZS)(E:List ZX)(g:R 2306048 A)(S:R 2306048 C)(u2:R 67108900 E):Sd 116 [rL 5 YF.row A,rL 3 ZS.row C,rL 5 ZX.row E] [rL 1 r (Sv A C E)]:=by
 have f:=me (Sv.eq_1 A C E);refine ar func116 ntmps116 ?_;refine aq (WC.eq_2 A C E) (fun J U=>Z6 57 [eL 0 5 A YF.row,eL 1 3 C ZS.row,eL 2 5 E ZX.row,eX 7 (N5 U),eL 15 5 E ZX.row,eI 16 (E.length:Int),eI 17 (J:Int)]) (fun K J U=>E.length<K+J/\J<=E.length/\U.length=100) (E.length+1) 0 (zB 100) (fun p1 J U H j1=>?_) (v:=by first|omega|(simp;done)|(simp;omega)|(refine⟨Y,Y,?_⟩;first|(simp;done)|omega));refine aF H ?_ ?_<;>intro k2 M H
 ·have w:=ix M;have m2:=ml E (k2 2 _ rfl);have c1:=sl 67108900 E (an g (an S u2));have D:=wr J;refine xp w ?_;refine aq (UR.eq_2 A C E J) (fun T q=>Z6 57 [eL 0 5 A YF.row,eL 1 3 C ZS.row,eL 2 5 E ZX.row,eX 7 (N5 q),eX 9 ((I E J).row.map .d),eL 15 5 E ZX.row,eI 16 (E.length:Int),eI 17 (J:Int),eL 24 5 (E.take J) ZX.row,eI 25 ((E.take J).length:Int),eI 26 (T:Int)]) (fun n2 T q=>(E.take J).length<n2+T/\T<=(E.take J).length/\q.length=U.length/\q.length=100) ((E.take J).length+1) 0 U (fun p2 T q e2 j2=>?_) (v:=by first|omega|(simp;done)|(simp;omega)|(refine⟨Y,Y,?_⟩;first|(simp;done)|omega));refine aj e2 ?_ ?_<;>intro k4 Z e2
  ·have V:=ix Z;have m4:=ml (E.take J) (k4 24 _ rfl);have c2:=sl 67108900 (E.take J) (an g (an S u2));have w2:=wr T;have b:=ij V;simp[V,pH V,b,ZH];refine bN ?_;refine aa (Z0 (I E J).a 0 99) ?_;refine ak (fun p=>wR A C (I E J) (I (E.take J) T) ck ck) ?_;refine aF e2 ?_ ?_<;>intro k5 h3 e2
   ·have q3:=h3;try simp[ZW]at q3
    have i3:(I E J).a.toNat<q.length:=fl;simp[gu i3,mz i3,LA];refine bN ?_;exact ay (an D w2) e2 (v:=by first|omega|(simp;done)|(simp;omega)|(refine⟨Y,Y,?_⟩;first|omega|(rw[List.length_set];omega)))
   have q3:=h3;try simp[ZW]at q3
   simp;exact ay (an D w2) e2 (v:=by first|omega|(simp;done)|(simp;omega)|(refine⟨Y,Y,?_⟩;first|omega|(rw[List.length_set];omega)))
  have H:=ms H e2;exact ay D H (v:=by first|omega|(simp;done)|(simp;omega)|(refine⟨Y,Y,?_⟩;first|omega|(rw[List.length_set];omega)))
 have f:=ms f H;have i4:U.length=100:=fl;simp[o8 i4,LA,i4];refine bN ?_;refine aq (Vq.eq_2 U) (fun j s=>Z6 57 [(12,.one (.E 12 0 0 j.length),[.arr false 1 (j.map r)]),nV 45 (N5 U),eI 46 (s:Int)]) (fun X j s=>100<X+s/\j.length<=0+1*s) 101 ([]:List Int) 0 (fun p3 j s e3 j3=>?_) (h0:=az [((12,0),none)] []);refine aj e3 ?_ ?_<;>intro l h4 e3
 ·have w3:=wr s;have i6:s<U.length:=fl;simp[ok i6,LA];refine bN ?_;refine cF e3 ?_ ?_<;>intro k8 h5 e3
  ·exact aB e3 (hw:=YR [((12,0),some (54,0))] [] rfl (by simp[w3]))
  exact ay w3 e3
 exact ah [.tmp 6] (ms f e3)
theorem wA(A:ZZ):c 266 [A.row] [rI (VI A)]:=by have f:=me (VI.eq_1 A);refine so func266 ntmps266 ?_;exact rt [.tmp 2] f
theorem V3(A:ZR):c 198 [A.row] [rI (Rh A)]:=by
 have f:=me (Rh.eq_1 A);refine so func198 ntmps198 ?_;refine aq (RP.eq_2 A) (fun J U=>Z6 35 [eX 1 (A.row.map .d),eI 3 J,eL 9 5 A.a ZZ.row,eI 10 (A.a.length:Int),eI 11 (U:Int)]) (fun K J U=>A.a.length<K+U/\U<=A.a.length) (A.a.length+1) 0 0 (fun p1 J U H j1=>?_);refine aj H ?_ ?_<;>intro k2 M H
 ·have w:=ix M;have m2:=ml A.a (k2 9 _ rfl);have D:=wr U;refine xp w ?_;refine aa (wA (I A.a U)) ?_;exact ay D H
 have f:=ms f H;refine aq (RD.eq_2 A) (fun T q=>Z6 35 [eI 3 T,eL 21 3 A.b ZK.row,eI 22 (A.b.length:Int),eI 23 (q:Int)]) (fun n2 T q=>A.b.length<n2+q/\q<=A.b.length) (A.b.length+1) J 0 (fun p2 T q e2 j2=>?_);refine aj e2 ?_ ?_<;>intro k4 Z e2
 ·have V:=ix Z;have m4:=ml A.b (k4 21 _ rfl);have w2:=wr q;refine xp V ?_;exact ay w2 e2
 exact rt [.tmp 2] (ms f e2)
theorem wv(A:ZD):c 118 [A.row] [rI (ji A)]:=by
 have f:=me (ji.eq_1 A);refine so func118 ntmps118 ?_;refine aq (W1.eq_2 A) (fun J U=>Z6 20 [eI 3 J,eL 7 16 A.a ZU.row,eI 8 (A.a.length:Int),eI 9 (U:Int)]) (fun K J U=>A.a.length<K+U/\U<=A.a.length) (A.a.length+1) 0 0 (fun p1 J U H j1=>?_);refine aj H ?_ ?_<;>intro k2 M H
 ·have w:=ix M;have m2:=ml A.a (k2 7 _ rfl);have D:=wr U;refine xp w ?_;refine aa (V3 (I A.a U).a) ?_;exact ay D H
 exact rt [.tmp 2] (ms f H)
theorem D9(A:P)(C:Int)(g:R 1048576 A)(S:am A.a<=1048576):c 199 [A.row,rI C] [rI (Kb A C)]:=by
 have f:=me (Kb.eq_1 A C);refine so func199 ntmps199 ?_;refine aa (H3 A (B g) bQ) ?_;refine aq (ym.eq_2 A C) (fun J U=>Z6 26 [eI 1 C,eX 2 (A.row.map .d),eI 5 J,eL 9 16 (Yv A) ZU.row,eI 10 ((Yv A).length:Int),eI 11 (U:Int)]) (fun K J U=>(Yv A).length<K+U/\U<=(Yv A).length) ((Yv A).length+1) 0 0 (fun p1 J U H j1=>?_);refine aj H ?_ ?_<;>intro k2 M H
 ·have w:=ix M;have m2:=ml (Yv A) (k2 9 _ rfl);have D:=wr U;refine xp w ?_;refine aa (Pa A (I (Yv A) U).b g) ?_;refine cF H ?_ ?_<;>intro k3 Z H
  ·exact ay D H
  exact ay D H
 exact rt _ (ms f H)
theorem xq(h:b)(k:a:=by(intros;first|omega|with_unfolding_all (first|(first|omega|(have o:=IA (l:=J) (b:=⟨#[43]⟩) rfl j1.2.2.2.2;have t:=IA (l:=T) (b:=⟨#[47]⟩) rfl j2.2.2.2.2.2;omega)|(have o:=IA (l:=J) (b:=⟨#[43]⟩) rfl j1.2.2.2.2;omega)))|exact wt)):a/\b:=⟨k,h⟩
theorem vL(A:P)(g:R 1048576 A)(S:am A.a<=1048576):c 119 [A.row] [rS (VM A)]:=by
 have f:=me (VM.eq_1 A);refine so func119 ntmps119 ?_;refine aq (Tk.eq_2 A) (fun J U=>Z6 52 [eX 1 (A.row.map .d),(3,.one (.E 3 0 0 J.length),[.arr false 1 (J.map N)]),(4,.one (.nil 1),[]),eL 9 2 A.a ZD.row,eI 10 (A.a.length:Int),eI 11 (U:Int)]) (fun K J U=>A.a.length<K+U/\U<=A.a.length/\J.length<=U/\(∀x∈J,x.size<=24)) (A.a.length+1) ([]:List ByteArray) 0 (fun p1 J U H j1=>?_) (v:=by exact⟨Y,Y,Nat.zero_le _,Nat.zero_le _,fun x h=>by cases h⟩) (h0:=az [((3,0),none)] []);refine aj H ?_ ?_<;>intro k2 M H
 ·have w:=ix M;have m2:=ml A.a (k2 9 _ rfl);have c1:=sl 1048576 A.a (an g S);have D:=wr U;simp[w,ZH];refine cR (Xe ((I A.a U).a.length:Int)) ?_;simp;repeat with_reducible refine xq ?_
  exact aB H (v:=by(refine⟨Y,Y,Y,by simp;omega,fun x O=>?_⟩;rcases List.mem_append.1 O with O|O;exact j1.2.2.2.2 x O;simp at O;rw[O];exact Ys _)) (hw:=YR [((3,0),some (21,0))] [] rfl ad)
 have c2:=sl 1048576 A.a (an g S);have f:=ms f H;refine aq (Ws.eq_2 A) (fun T q=>Z6 52 [eX 1 (A.row.map .d),(3,.one (.E 3 0 0 J.length),[.arr false 1 (J.map N)]),(4,.one (.E 4 0 0 T.length),[.arr false 1 (T.map N)]),eI 7 (q:Int)]) (fun n2 T q=>4<n2+q/\q<=4/\1<=q/\T.length<=q/\(∀x∈T,x.size<=24)) 5 ([]:List ByteArray) 1 (fun p2 T q e2 j2=>?_) (v:=by exact⟨Y,Y,Y,Y,Nat.zero_le _,fun x h=>by cases h⟩) (h0:=az [((4,0),none)] []);refine cF e2 ?_ ?_<;>intro k4 Z e2
 ·have w2:=wr q;refine aa (D9 A (q:Int) cl cl) ?_;refine cR (Xe (Kb A (q:Int))) ?_;simp;repeat with_reducible refine xq ?_
  exact aB e2 (v:=by(have hh:=Z;simp at hh;refine⟨Y,Y,Y,Y,by simp;omega,fun x O=>?_⟩;rcases List.mem_append.1 O with O|O;exact j2.2.2.2.2.2 x O;simp at O;rw[O];exact Ys _)) (hw:=YR [((4,0),some (33,0))] [] rfl (by simp[w2]))
 have f:=ms f e2;refine aw ac ?_;refine cR (Xe A.b.d) ?_;have o1:=Ys A.b.d;simp;repeat with_reducible refine xq ?_
 refine cR (Fy J (⟨#[43]⟩:ByteArray) dN dN) ?_;simp;repeat with_reducible refine xq ?_
 refine cR (Fy T (⟨#[47]⟩:ByteArray) dN dN) ?_;simp;repeat with_reducible refine xq ?_
 refine cR (Xe (A.g.length:Int)) ?_;have E:=Ys (A.g.length:Int)
 simp;repeat with_reducible refine xq ?_
 exact rt [.tmp 2] f
theorem nu(h:b)(k:a:=by(intros;first|omega|with_unfolding_all (first|first|omega|(have o:(I A.a q).a.length<=2310144:=Zx (xs g);have E:A.a.length<=2310144:=Zx (xs g);omega))|exact wt)):a/\b:=⟨k,h⟩
theorem sg(h:b)(k:a:=by(intros;first|omega|with_unfolding_all (first|first|omega|(have o:(I A.a q).a.length<=2310144:=Zx (xs g);have E:A.a.length<=2310144:=Zx (xs g);omega))|(simp_all;done)|(simp_all;omega)|grind|exact wt)):a/\b:=⟨k,h⟩
theorem q8(A:P)(g:R 2310144 A):c 201 [A.row] [rB (HM A)]:=by
 have f:=me (HM.eq_1 A);refine so func201 ntmps201 ?_;refine aa (AB A.b) ?_;refine ak (fun p=>Z0 (A.a.length:Int) 1 4) ?_;refine ak (fun p=>N9 A.f) ?_;refine ak (fun p=>N9 A.g) ?_;refine aF f ?_ ?_<;>intro k1 M f
 ·have q1:=M;try simp[ZW]at q1
  simp;exact rt [.tmp 2] f
 have q1:=M;try simp[ZW]at q1
 simp;refine aI (Lt.eq_2 A) (fun J=>Z6 167 [eX 1 (A.row.map .d),eX 3 (A.b.row.map .d),eL 71 7 A.c YE.row,eI 72 (A.c.length:Int),eI 73 (J:Int)]) (fun K J=>A.c.length<K+J/\J<=A.c.length) (A.c.length+1) 0 (fun p1 J H j1=>?_);refine aj H ?_ ?_<;>intro k3 Z H
 ·have w:=ix Z;have m2:=ml A.c (k3 71 _ rfl);have c1:=sl 2310144 A.c g;have D:=wr J;simp[w,ZH];refine aa (Ea A.b.a (I A.c J) (B (ZI.Yf (P.Yc g)))) ?_;refine ak (fun p=>DZ A.c (I A.c J).b) ?_;refine bp ?_ ?_<;>intro G
  ·have g1:=G;try simp at g1
   have V:=ik J A.d;simp[V,ZH,G];repeat with_reducible refine sg ?_
   refine cW (fun p=>Z0 (I A.d J) (-1) 10001) ?_;simp[G];refine aE H ?_ ?_<;>intro k4 h3 H
   ·have q3:=h3;try simp[ZW]at q3
    have f:=ms f H;simp[G];exact O [.tmp 2] f
   ·have q3:=h3;try simp[ZW]at q3
    simp[G];exact aH (an D G) H
  ·simp[G];refine aN ?_;simp[G];refine aE H ?_ ?_<;>intro k5 h4 H
   ·have q4:=h4;try simp[ZW]at q4
    have f:=ms f H;simp[G];exact O [.tmp 2] f
   ·simp[G]at h4
 have f:=ms f H;refine aq (V9.eq_2 A) (fun T q=>Z6 167 [eX 1 (A.row.map .d),eX 3 (A.b.row.map .d),(6,.one (.E 6 0 0 T.length),[.arr false 1 (T.map r)]),eL 103 2 A.a ZD.row,eI 104 (A.a.length:Int),eI 105 (q:Int)]) (fun n2 T q=>A.a.length<n2+q/\T.length<=2310144*q) (A.a.length+1) ([]:List Int) 0 (fun p2 T q e2 j2=>?_) (h0:=az [((6,0),none)] []);refine aj e2 ?_ ?_<;>intro l h5 e2
 ·have i4:=ix h5;have w2:=wr q;simp[i4,ZH];refine aa (kW (I A.a q)) ?_;refine cF e2 ?_ ?_<;>intro k8 h6 e2
  ·exact rt [.tmp 2] (ms f e2)
  refine aq (kr.eq_2 A q) (fun j s=>Z6 167 [eX 1 (A.row.map .d),eX 3 (A.b.row.map .d),(6,.one (.E 6 0 0 j.length),[.arr false 1 (j.map r)]),eL 103 2 A.a ZD.row,eI 104 (A.a.length:Int),eI 105 (q:Int),eL 120 16 (I A.a q).a ZU.row,eI 121 ((I A.a q).a.length:Int),eI 122 (s:Int)]) (fun X j s=>(I A.a q).a.length<X+s/\s<=(I A.a q).a.length/\j.length<=2310144*q+s) ((I A.a q).a.length+1) T 0 (fun p3 j s e3 j3=>?_);refine aj e3 ?_ ?_<;>intro af h7 e3
  ·have i5:=ix h7;have y:=ml (I A.a q).a (af 120 _ rfl);have c4:=sl 2310144 (I A.a q).a g;have w3:=wr s;simp[i5,ZH];refine aa (Sq j (I (I A.a q).a s).b) ?_;refine aQ e3 ?_ ?_<;>intro ao h8 e3
   ·have e2:=ms e2 e3;exact rt [.tmp 2] (ms f e2)
   simp;repeat with_reducible refine nu ?_
   exact aB e3 (v:=by(have o:(I A.a q).a.length<=2310144:=Zx (xs g);first|omega|(simp at*;omega))) (hw:=YR [((6,0),some (141,0))] [] rfl (by simp[w2,w3]))
  have c5:=sl 2310144 (I A.a q).a g;have e2:=ms e2 e3;exact ay w2 e2 (v:=by(have o:(I A.a q).a.length<=2310144:=Zx (xs g);first|omega|(simp at*;omega)))
 have f:=ms f e2;refine aI (LY.eq_2 A) (fun a=>Z6 167 [eX 1 (A.row.map .d),eX 3 (A.b.row.map .d),eL 145 1 A.e r,eI 146 (A.e.length:Int),eI 147 (a:Int)]) (fun Y a=>A.e.length<Y+a/\a<=A.e.length) (A.e.length+1) 0 (fun p4 a b j4=>?_);refine aj b ?_ ?_<;>intro ad h9 b
 ·have i6:=ix h9;have m8:=ml A.e (ad 145 _ rfl);have c7:=sl 2310144 A.e g;have i:=wr a;simp[i6,ZH];refine cF b ?_ ?_<;>intro av al b
  ·exact rt [.tmp 2] (ms f b)
  exact aH i b
 have f:=ms f b;refine aI (LS.eq_2 A) (fun n=>Z6 167 [eX 3 (A.b.row.map .d),eL 155 1 A.f r,eI 156 (A.f.length:Int),eI 157 (n:Int)]) (fun n5 n=>A.f.length<n5+n/\n<=A.f.length) (A.f.length+1) 0 (fun L n d N=>?_);refine aj d ?_ ?_<;>intro ag ah d
 ·have i7:=ix ah;have C:=ml A.f (ag 155 _ rfl);have c9:=sl 2310144 A.f g;have t:=wr n;simp[i7,ZH];refine aa (qH A.b.b (I A.f n)) ?_;refine cF d ?_ ?_<;>intro ax ap d
  ·exact rt [.tmp 2] (ms f d)
  exact aH t d
 exact rt [.tmp 2] (ms f d)
theorem tF(h:b)(k:a:=by(intros;first|omega|with_unfolding_all (first|(first|omega|(have z:=TY A;omega)))|exact wt)):a/\b:=⟨k,h⟩
theorem uw(A:P)(g:R 1048576 A)(S:am A.a<=1048576):Sd 271 [A.row] [rL 1 r (QP A)]:=by
 have f:=me (QP.eq_1 A);refine ar func271 ntmps271 ?_;refine aa (H3 A (B g) bQ) ?_;refine aq (UB.eq_2 A) (fun J U=>Z6 26 [eX 1 (A.row.map .d),(3,.one (.E 3 0 0 J.length),[.arr false 1 (J.map r)]),eL 7 16 (Yv A) ZU.row,eI 8 ((Yv A).length:Int),eI 9 (U:Int)]) (fun K J U=>(Yv A).length<K+U/\U<=(Yv A).length/\J.length<=U) ((Yv A).length+1) ([]:List Int) 0 (fun p1 J U H j1=>?_) (h0:=az [((3,0),none)] []);refine aj H ?_ ?_<;>intro k2 M H
 ·have w:=ix M;have m2:=ml (Yv A) (k2 7 _ rfl);have D:=wr U;simp[w,ZH];refine aa (Pa A (I (Yv A) U).b g) ?_;refine aj H ?_ ?_<;>intro k3 Z H
  ·simp;repeat with_reducible refine tF ?_
   exact aB H (hw:=YR [((3,0),some (23,0))] [] rfl ad)
  exact ay D H
 exact ah [.tmp 2] (ms f H)
theorem Ah(h:b)(k:a:=by(intros;first|omega|with_unfolding_all (first|(first|omega|(have z:=BK A;omega)))|exact wt)):a/\b:=⟨k,h⟩
theorem vs(A:P)(g:R 1048576 A)(S:am A.a<=1048576):Sd 202 [A.row] [rL 1 r (TJ A)]:=by
 have f:=me (TJ.eq_1 A);refine ar func202 ntmps202 ?_;refine aa (Z7.rd (uw A g bQ)) ?_;refine aq (qc.eq_2 A) (fun J U=>Z6 23 [eX 1 (A.row.map .d),(3,.one (.E 3 0 0 J.length),[.arr false 1 (J.map r)]),eL 7 1 (QP A) r,eI 8 ((QP A).length:Int),eI 9 (U:Int)]) (fun K J U=>(QP A).length<K+U/\U<=(QP A).length/\J.length<=0+1*U) ((QP A).length+1) ([]:List Int) 0 (fun p1 J U H j1=>?_) (h0:=az [((3,0),none)] []);refine aj H ?_ ?_<;>intro k2 M H
 ·have w:=ix M;have m2:=ml (QP A) (k2 7 _ rfl);have D:=wr U;simp[w,ZH];refine aa (Sq A.g (I (QP A) U)) ?_;refine aj H ?_ ?_<;>intro k3 Z H
  ·simp;repeat with_reducible refine Ah ?_
   exact aB H (hw:=YR [((3,0),some (20,0))] [] rfl ad)
  exact ay D H
 exact ah [.tmp 2] (ms f H)
theorem S2(A:P)(g:R 1048576 A)(S:am A.a<=1048576):c 120 [A.row] [rS (xu A)]:=by
 have f:=me (xu.eq_1 A);refine so func120 ntmps120 ?_;refine aa (q8 A (B g)) ?_;refine cF f ?_ ?_<;>intro k1 M f
 ·exact rt [.tmp 2] f
 refine aa (Z7.rd (vs A g bQ)) ?_;refine cF f ?_ ?_<;>intro k2 Z f
 ·exact rt [.tmp 2] f
 exact rt [.tmp 2] f
theorem zM(h:b)(k:a:=by(intros;first|omega|with_unfolding_all (first|first|omega|(have z:=XR S;have t:=Ys (E.length:Int);omega)|(simp[Z5,ZW,Xf]at*;omega))|exact wt)):a/\b:=⟨k,h⟩
theorem sz(A:P)(C:ByteArray)(E:List Int)(g:R 1048576 A)(S:R 1048577 C)(u2:R 1048577 E)(a:am A.a<=1048576)(e:CF (Q.mk (Xk A) [])<=67108900):c 60 [A.row,rS C,rL 1 r E] [rS (kC A C E)]:=by
 have f:=me (kC.eq_1 A C E);refine ra func60 rfl d ?_;simp[ntmps60];refine bW ?_;refine cR (Xe (E.length:Int)) ?_;have o1:=Ys (E.length:Int);simp;refine bW ?_;refine cF f ?_ ?_<;>intro k1 M f
 ·refine cY M ?_;refine ae ac ?_;have w:0<E.length:=b7
  simp[w,ZH];refine bW ?_;refine aa (Kr A (I E 0)) ?_;have c1:=sl 1048576 A.a (an g (an S (an u2 (an a e))))
  have D:IntKind.i64.wrap ((A.a.length:Int)-1)=(A.a.length:Int)-1:=YB Y Y;refine aF f ?_ ?_<;>intro k3 Z f
  ·have q2:=Z;try simp[D,Z5,ZW]at q2
   simp;exact rt [.tmp 6] f
  have q2:=Z;try simp[D,Z5,ZW]at q2
  simp;refine cZ (lx (b:=(⟨#[106,117,100,103,101,32,49]⟩:ByteArray)) M) ?_;refine cY M ?_;refine ae ac ?_;have V:(I E 0).toNat<A.a.length:=b7
  simp[w,ZH,V];refine bW ?_;refine aa (CX A.b (I A.a (I E 0).toNat) (P.Yc g) (ZY (P.Zs g))) ?_;exact rt [.tmp 6] f
 refine cF f ?_ ?_<;>intro k5 h3 f
 ·refine cY h3 ?_;refine ae ac ?_;have i3:0<E.length:=b7
  simp[i3,ZH];refine bW ?_;refine aa (Kr A (I E 0)) ?_;have c2:=sl 1048576 A.a (an g (an S (an u2 (an a e))))
  have w2:IntKind.i64.wrap ((A.a.length:Int)-1)=(A.a.length:Int)-1:=YB Y Y;refine aF f ?_ ?_<;>intro l h4 f
  ·have q4:=h4;try simp[w2,Z5,ZW]at q4
   simp;exact rt [.tmp 6] f
  have q4:=h4;try simp[w2,Z5,ZW]at q4
  simp;refine cZ (lx (b:=(⟨#[106,117,100,103,101,32,49]⟩:ByteArray)) h3) ?_;refine cZ M ?_;refine cZ (lx (b:=(⟨#[104,105,100,101,32,50]⟩:ByteArray)) h3) ?_;refine cY h3 ?_;refine ae ac ?_;have i4:(I E 0).toNat<A.a.length:=b7
  have i5:1<E.length:=b7;simp[i3,ZH,i4,i5];refine bW ?_;refine aa (Z7.rd (p7 A.b (I A.a (I E 0).toNat) (I E 1) (B (P.Yc g)) (B (ZY (P.Zs g))))) ?_;refine aa (IB (UM A.b (I A.a (I E 0).toNat) (I E 1)) eU) ?_;exact rt [.tmp 6] f
 refine cF f ?_ ?_<;>intro L h5 f
 ·refine aW fun af=>?_;refine ae ac ?_;have i6:0<E.length:=b7
  simp[i6,ZH];refine bW ?_;refine aa (Kr A (I E 0)) ?_;have c3:=sl 1048576 A.a (an g (an S (an u2 (an a e))))
  have w3:IntKind.i64.wrap ((A.a.length:Int)-1)=(A.a.length:Int)-1:=YB Y Y;refine aF f ?_ ?_<;>intro ao h6 f
  ·have q:=h6;try simp[w3,Z5,ZW]at q
   simp;exact rt [.tmp 6] f
  have q:=h6;try simp[w3,Z5,ZW]at q
  simp;refine cZ (lx (b:=(⟨#[106,117,100,103,101,32,49]⟩:ByteArray)) h5) ?_;refine cZ M ?_;refine cZ (lx (b:=(⟨#[104,105,100,101,32,50]⟩:ByteArray)) h5) ?_;refine cZ h3 ?_;refine cZ (lx (b:=(⟨#[112,108,97,110,32,48]⟩:ByteArray)) h5) ?_;refine cZ (lx (b:=(⟨#[108,105,97,114,115,32,48]⟩:ByteArray)) h5) ?_;refine cY h5 ?_;refine ae ac ?_;have i7:(I E 0).toNat<A.a.length:=b7
  simp[i6,ZH,i7];refine bW ?_;refine aa (wv (I A.a (I E 0).toNat)) ?_;refine aa (Xe (ji (I A.a (I E 0).toNat))) ?_;exact rt [.tmp 6] f
 refine cF f ?_ ?_<;>intro ad h7 f
 ·refine aW fun av=>?_;refine ae ac ?_;have s:0<E.length:=b7
  simp[s,ZH];refine bW ?_;refine aa (OU A (I E 0)) ?_;refine cF f ?_ ?_<;>intro v h8 f
  ·exact rt [.tmp 6] f
  refine ae ac ?_;simp[s,ZH];refine bW ?_;refine aa (Pa A (I E 0) g) ?_;refine aa (SP (KP A (I E 0))) ?_;exact rt [.tmp 6] f
 refine cZ M ?_;refine cF f ?_ ?_<;>intro ax h9 f
 ·refine aW fun ai=>?_;refine ae ac ?_;have j:0<E.length:=b7
  have o:1<E.length:=b7;simp[j,ZH,o];refine bW ?_;refine aa (oK A (I E 0) (I E 1) g) ?_;exact rt [.tmp 6] f
 refine cZ h3 ?_;refine cF f ?_ ?_<;>intro aq al f
 ·refine aa (Z7.rd (Fv A.b (B (P.Yc g)))) ?_;refine aa (IB (KI A.b) eU) ?_;exact rt [.tmp 6] f
 refine cF f ?_ ?_<;>intro h ah f
 ·refine aW fun ay=>?_;refine aw ac ?_;refine aa (Z7.rd (pg A b3 b3 b3)) ?_;refine aa (Z7.rd (Zc A.b.a A.b.b (WA A) fU fU fU)) ?_;refine aa (IB (Sv A.b.a A.b.b (WA A)) eU) ?_;exact rt [.tmp 6] f
 refine cZ h5 ?_;refine cF f ?_ ?_<;>intro au ap f
 ·refine aa (vL A b3 b3) ?_;exact rt [.tmp 6] f
 refine cF f ?_ ?_<;>intro X i f
 ·refine aa (S2 A b3 b3) ?_;refine cF f ?_ ?_<;>intro ar T f
  ·exact rt [.tmp 6] f
  exact rt [.tmp 6] f
 exact rt [.tmp 6] f
theorem KX(h:b)(k:a:=by(intros;first|omega|with_unfolding_all (first|first|omega|(have z:=XR (ZY (i:=0) (QZ (n:=1048577) (A:=C) cv));have t:=Ys ((Zb (Zt C).tail).1.length:Int);omega)|(have z:0<(Zt C).length:=(by exact List.length_pos_iff.2 (fun e=>by rw[e]at M;simp at M));omega))|exact wt)):a/\b:=⟨k,h⟩
theorem Do(A:P)(C:ByteArray)(g:R 1048576 A)(S:R 1048576 C)(u2:am A.a<=1048576)(a:CF (Q.mk (Xk A) [])<=67108900):c 30 [A.row,rS C] [(qd A C).1.row,rS (qd A C).2]:=by
 have f:=me (qd.eq_1 A C);refine so func30 ntmps30 ?_;refine aa (Z7.rd (lw C (by exact B S))) ?_;refine aQ f ?_ ?_<;>intro k1 M f
 ·exact rt [.cell 4 37,.tmp 5] f
 have w:0<(Zt C).length:=bO;simp[w,ZH];refine bP ?_;refine cF f ?_ ?_<;>intro k2 Z f
 ·refine aa (Dg A (Zt C) 4 cJ cJ cJ) ?_;exact rt [.cell 4 37,.tmp 5] f
 refine cF f ?_ ?_<;>intro k3 h3 f
 ·refine aa (Dg A (Zt C) 3 cJ cJ cJ) ?_;exact rt [.cell 4 37,.tmp 5] f
 refine aQ f ?_ ?_<;>intro k4 h4 f
 ·refine aa (ut A (Zt C) e6 e6 e6) ?_;exact rt [.cell 4 37,.tmp 5] f
 simp;refine bP ?_;refine aa (Z7.rd (Nb ((Zt C).tail) (by exact ZJ (n:=1048577) au (By (QZ (n:=1048577) (A:=C) cv))))) ?_;refine cF f ?_ ?_<;>intro k5 h5 f
 ·exact rt [.cell 4 37,.tmp 5] f
 refine ae ac ?_;simp[w,ZH];refine bP ?_;refine cR (Xe ((Zb ((Zt C).tail)).1.length:Int)) ?_;have o1:=Ys ((Zb ((Zt C).tail)).1.length:Int)
 simp;refine bP ?_;refine cF f ?_ ?_<;>intro l h6 f
 ·refine aW fun k8=>?_;refine ae ac ?_;have V:0<(Zb ((Zt C).tail)).1.length:=bO
  simp[V,ZH];refine bP ?_;refine aa (K5 A (YS.mk 1 (I (Zb ((Zt C).tail)).1 0) 0 0 0 (ZO.mk 0 ([]:List ByteArray) ([]:List Int)) ([]:List Int)) bB bB) ?_;exact rt [.cell 4 37,.tmp 5] f
 refine cF f ?_ ?_<;>intro L h7 f
 ·refine aW fun af=>?_;refine ae ac ?_;have i3:0<(Zb ((Zt C).tail)).1.length:=bO
  simp[i3,ZH];refine bP ?_;refine aa (K5 A (YS.mk 3 (I (Zb ((Zt C).tail)).1 0) 0 0 0 (ZO.mk 0 ([]:List ByteArray) ([]:List Int)) ([]:List Int)) bB bB) ?_;exact rt [.cell 4 37,.tmp 5] f
 refine cF f ?_ ?_<;>intro ao h8 f
 ·refine aW fun d=>?_;refine ae ac ?_;have i4:0<(Zb ((Zt C).tail)).1.length:=bO
  simp[i4,ZH];refine bP ?_;refine aa (K5 A (YS.mk 4 (I (Zb ((Zt C).tail)).1 0) 0 0 0 (ZO.mk 0 ([]:List ByteArray) ([]:List Int)) ([]:List Int)) bB bB) ?_;exact rt [.cell 4 37,.tmp 5] f
 refine cF f ?_ ?_<;>intro ad h9 f
 ·refine aW fun av=>?_;refine ae ac ?_;have i5:0<(Zb ((Zt C).tail)).1.length:=bO
  simp[i5,ZH];refine bP ?_;refine aa (K5 A (YS.mk 7 (I (Zb ((Zt C).tail)).1 0) 0 0 0 (ZO.mk 0 ([]:List ByteArray) ([]:List Int)) ([]:List Int)) bB bB) ?_;exact rt [.cell 4 37,.tmp 5] f
 refine cF f ?_ ?_<;>intro v al f
 ·refine aW fun ag=>?_;refine ae ac ?_;have i6:0<(Zb ((Zt C).tail)).1.length:=bO
  have i7:1<(Zb ((Zt C).tail)).1.length:=bO;have s:2<(Zb ((Zt C).tail)).1.length:=bO;simp[i6,ZH,i7,s];refine bP ?_;refine aa (K5 A (YS.mk 6 (I (Zb ((Zt C).tail)).1 0) (I (Zb ((Zt C).tail)).1 1) (I (Zb ((Zt C).tail)).1 2) 0 (ZO.mk 0 ([]:List ByteArray) ([]:List Int)) ([]:List Int)) bB bB) ?_;exact rt [.cell 4 37,.tmp 5] f
 refine cF f ?_ ?_<;>intro ax ah f
 ·refine aW fun ai=>?_;refine ae ac ?_;have j:0<(Zb ((Zt C).tail)).1.length:=bO
  have o:1<(Zb ((Zt C).tail)).1.length:=bO;simp[j,ZH,o];refine bP ?_;refine aa (K5 A (YS.mk 9 (I (Zb ((Zt C).tail)).1 0) (I (Zb ((Zt C).tail)).1 1) 0 0 (ZO.mk 0 ([]:List ByteArray) ([]:List Int)) ([]:List Int)) bB bB) ?_;exact rt [.cell 4 37,.tmp 5] f
 refine cF f ?_ ?_<;>intro aq ap f
 ·refine aW fun h=>?_;refine ae ac ?_;have E:0<(Zb ((Zt C).tail)).1.length:=bO
  have p:1<(Zb ((Zt C).tail)).1.length:=bO;simp[E,ZH,p];refine bP ?_;refine aa (K5 A (YS.mk 10 (I (Zb ((Zt C).tail)).1 0) (I (Zb ((Zt C).tail)).1 1) 0 0 (ZO.mk 0 ([]:List ByteArray) ([]:List Int)) ([]:List Int)) bB bB) ?_;exact rt [.cell 4 37,.tmp 5] f
 refine ae ac ?_;simp[w,ZH];refine bP ?_;refine aa (sz A (I (Zt C) 0) (Zb ((Zt C).tail)).1 (by first|exact g|exact u2|exact a) (by exact ZY (QZ (n:=1048576+1) cv)) (by exact jM (by have z:=Zx (QZ (n:=1048577) (A:=C) cv);rw[List.length_tail];omega)) bQ bQ) ?_;exact rt [.cell 4 37,.tmp 5] f
theorem HI(A:P)(C:ByteArray)(g:R 1048576 A)(S:R 1048576 C)(u2:am A.a<=1048576)(a:CF (Q.mk (Xk A) [])<=67108900):Sd 13 [A.row,rS C] [(Z9 A C).1.row,rS (Z9 A C).2]:=by have f:=me (Z9.eq_1 A C);refine ar func13 ntmps13 ?_;refine aa (Do A C dG dG dG dG) ?_;refine ai qW (Ym (qd A C).1 (by exact ZJ au (B9 au g (fun h=>Y) au))) ?_;exact ah _ f
theorem qa(h:b)(k:a:=by(intros;first|omega|with_unfolding_all (first|first|omega|(have z:=DQ A 10;omega))|exact wt)):a/\b:=⟨k,h⟩
theorem Ge(A:ByteArray)(g:R 1048576 A):Sd 5 [rS A] [rL 1 N (Y9 A).1,rB (Y9 A).2]:=by
 have f:=me (Y9.eq_1 A);refine ar func5 ntmps5 ?_;refine cR (Z7.rd (BA A 10 (by exact B g))) ?_;have w:((Zk A 10).length-1)<(Zk A 10).length:=by first|omega|(have z:=DQ A 10;omega)
 have c:=Zx (Nh (n:=1048577) (A:=A) (C:=10) (by have:=XR g;omega));have D:IntKind.i64.wrap (((Zk A 10).length:Int)-1)=((Zk A 10).length:Int)-1:=YB Y Y;simp[w,ZH,D,PK];repeat with_reducible refine qa ?_
 refine aj f ?_ ?_<;>intro k1 M f
 ·simp[D,PK];repeat with_reducible refine qa ?_
  refine cF f ?_ ?_<;>intro k2 Z f
  ·exact ah [.tmp 2,.tmp 3] f
  refine aa (Z7.rd (Dp 1)) ?_;refine dQ (UF.eq_2 A) (fun J U y i a o s j h F G L X O=>Z6 48 [(5,.one (.O 5 0),[.box [.d (.sl 5 (y.map YF.row)),.d (.sl 3 (i.map ZS.row)),.d (.sl 4 (a.map Zy.row)),.d (.int .i64 o),.d (.int .i64 s),.d (.sl 7 (j.map YE.row)),.d (.sl 1 (h.map r)),.d (.sl 2 (F.map ZD.row)),.d (.sl 1 (G.map r)),.d (.sl 1 (L.map r)),.d (.int .i64 X),.d (.sl 1 (O.map r))]]),(6,.one (.E 6 0 0 J.length),[.arr false 1 (J.map N)]),eL 29 1 ((Zk A 10).take ((Zk A 10).length-1)) N,eI 30 (((Zk A 10).take ((Zk A 10).length-1)).length:Int),eI 31 (U:Int)]) (fun K J U y i a o s j h F G L X O=>((Zk A 10).take ((Zk A 10).length-1)).length<K+U/\U<=((Zk A 10).take ((Zk A 10).length-1)).length/\J.length<=U/\((Zk A 10).take ((Zk A 10).length-1)).length<=60/\R (210+U) (P.mk (ZI.mk y i a o s) j h F G L X O)/\F.length=2) (((Zk A 10).take ((Zk A 10).length-1)).length+1) ([]:List ByteArray) 0 (YK 1).b.a (YK 1).b.b (YK 1).b.c (YK 1).b.e (YK 1).b.d (YK 1).c (YK 1).d (YK 1).a (YK 1).e (YK 1).f (YK 1).h (YK 1).g (fun p1 J U y i a o s j h F G L X O H j1=>?_) (v:=by exact⟨Y,Y,Nat.zero_le _,Nat.zero_le _,by first|(have hh:=of_decide_eq_false Z;omega)|(have hh:=of_decide_eq_false h4;omega),L3 1 au,HL 1⟩) (h0:=az [((6,0),none)] []);try dsimp only at j1
  refine aj H ?_ ?_<;>intro k4 h3 H
  ·have V:=ix h3;have m2:=ml ((Zk A 10).take ((Zk A 10).length-1)) (k4 29 _ rfl);have w2:=wr U;have b:=ij V;simp[V,pH V,b,ZH];repeat with_reducible refine qa ?_
   refine cR (Z7.rd (HI (P.mk (ZI.mk y i a o s) j h F G L X O) (I ((Zk A 10).take ((Zk A 10).length-1)) U) cj cj cj cj)) ?_;simp;repeat with_reducible refine qa ?_
   exact ee H (v:=by((try dsimp only);refine⟨Y,Y,Y,by simp;omega,Y,?_,?_⟩;exact PX (n:=210+U) Y j1.2.2.2.2.2.1 Y;exact(TG _ _).trans j1.2.2.2.2.2.2)) (hw:=YR [((6,0),some (45,0))] [] rfl bC)
  exact ah [.tmp 2,.tmp 3] (ms f H)
 refine cF f ?_ ?_<;>intro k5 h4 f
 ·exact ah [.tmp 2,.tmp 3] f
 refine aa (Z7.rd (Dp 1)) ?_;refine dQ (Ub.eq_2 A) (fun T q p t S al ak ad ag E ao am Q ai=>Z6 48 [(5,.one (.O 5 0),[.box [.d (.sl 5 (p.map YF.row)),.d (.sl 3 (t.map ZS.row)),.d (.sl 4 (S.map Zy.row)),.d (.int .i64 al),.d (.int .i64 ak),.d (.sl 7 (ad.map YE.row)),.d (.sl 1 (ag.map r)),.d (.sl 2 (E.map ZD.row)),.d (.sl 1 (ao.map r)),.d (.sl 1 (am.map r)),.d (.int .i64 Q),.d (.sl 1 (ai.map r))]]),(6,.one (.E 6 0 0 T.length),[.arr false 1 (T.map N)]),eL 29 1 (Zk A 10) N,eI 30 ((Zk A 10).length:Int),eI 31 (q:Int)]) (fun n2 T q p t S al ak ad ag E ao am Q ai=>(Zk A 10).length<n2+q/\q<=(Zk A 10).length/\T.length<=q/\(Zk A 10).length<=60/\R (210+q) (P.mk (ZI.mk p t S al ak) ad ag E ao am Q ai)/\E.length=2) ((Zk A 10).length+1) ([]:List ByteArray) 0 (YK 1).b.a (YK 1).b.b (YK 1).b.c (YK 1).b.e (YK 1).b.d (YK 1).c (YK 1).d (YK 1).a (YK 1).e (YK 1).f (YK 1).h (YK 1).g (fun p2 T q p t S al ak ad ag E ao am Q ai e2 j2=>?_) (v:=by exact⟨Y,Y,Nat.zero_le _,Nat.zero_le _,by first|(have hh:=of_decide_eq_false Z;omega)|(have hh:=of_decide_eq_false h4;omega),L3 1 au,HL 1⟩) (h0:=az [((6,0),none)] []);try dsimp only at j2
 refine aj e2 ?_ ?_<;>intro l h5 e2
 ·have i3:=ix h5;have m4:=ml (Zk A 10) (l 29 _ rfl);have w3:=wr q;simp[i3,ZH];repeat with_reducible refine qa ?_
  refine cR (Z7.rd (HI (P.mk (ZI.mk p t S al ak) ad ag E ao am Q ai) (I (Zk A 10) q) cj cj cj cj)) ?_;simp;repeat with_reducible refine qa ?_
  exact ee e2 (v:=by((try dsimp only);refine⟨Y,Y,Y,by simp;omega,Y,?_,?_⟩;exact PX (n:=210+q) Y j2.2.2.2.2.2.1 Y;exact(TG _ _).trans j2.2.2.2.2.2.2)) (hw:=YR [((6,0),some (45,0))] [] rfl (by simp[D,w3]))
 exact ah [.tmp 2,.tmp 3] (ms f e2)
end Go.Proofs.YtifogammcgmjpaaGreat
