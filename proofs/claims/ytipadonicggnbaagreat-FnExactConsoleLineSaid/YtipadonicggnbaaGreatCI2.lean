/- Contracts of the functions Hb the abstract machine, part I2. No condition. -/
import Derived.Test.YtipadonicggnbaaGreatCI1
namespace Go.Proofs.YtipadonicggnbaaGreat
open Tryz
open Go.Vm Go.Mo
set_option maxHeartbeats 1000000
set_option maxRecDepth 100000
set_option linter.unusedSimpArgs false
set_option linter.unusedVariables false
variable{a b:Prop}
theorem Fg(A:List YZ)(E:Int):Sa 399 [Z 5 YZ.row A,rI E] [rI (UA A E)]:=by
 have f:=me (UA.eq_1 A E);refine so func399 ntmps399∘aa (Jt A E)<|(ae f) ?_ ?_<;>intro k1 I f
 ·have N:(Zi A E).toNat<A.length:=e4;exact(xp N)<|rt _ f
 exact rt _ f
theorem Ir(A:List YZ)(E:Yv)(g:R 2314240 A):Sa 316 [Z 5 YZ.row A,E.row] [rB (jG A E)]:=have f:=me (jG.eq_1 A E);so func316 ntmps316∘av P∘aa (pl E)∘aj (fun gg=>YJ.rd (H2 E))∘aj (fun gg=>K1 A E.e (yT E) E.f (sg g) (by simp(maxDischargeDepth:=12) [O9];try omega))∘aj (fun gg=>Fg A E.c)<|rt _ f
theorem nJ(A:ZP)(E:List ZS)(G:Zu)(g:R 2310144 A)(w:R 2310144 E):Sa 449 [A.row,Z 3 ZS.row E,G.row] [(Xn A E G).1.row,rB (Xn A E G).2]:=by
 have f:=me (Xn.eq_1 A E G);refine so func449 ntmps449∘gF (SX.eq_2 A E G) (fun J U p i a h j d l=>Z3 54 [eX 3 (A.row.map .d),eX 5 (G.row.map .d),(6,.one (.Z 6 0),[.box [.d (.int .i64 0),.d (.int .i64 0),.d (.int .i64 0),.d (.int .i64 0),.d (.int .i64 0),.d (.int .i64 0),.d (.int .i64 0)]]),(8,.one (.Z 8 0),[.box [.d (.int .i64 p),.d (.int .i64 i),.d (.int .i64 a),.d (.int .i64 h),.d (.int .i64 j),.d (.int .i64 d),.d (.int .i64 l)]]),eI 9 J,eL 14 3 E ZS.row,eI 15 (E.length:Int),eI 16 (U:Int)]) (fun D J U p i a h j d l=>E.length<D+U/\U<=E.length) (E.length+1) 0 0 0 0 0 0 0 0 0<|fun p1 J U p i a h j d l H T=>(ae H) ?_ ?_<;>intro k2 I H
 ·have N:=ix I;have m2:=ml E (k2 14 _ rfl);have c1:=sl 2310144 E (an g w);have K:=wr U;refine xp N∘aa (PQ (C E U))∘aj (fun gg=>Ir A.a (v (C E U)).1 (sg (ZP.Yb g)))<|(cF H) ?_ ?_<;>intro k3 X H
  ·exact eK K H
  exact eK K H
 have c2:=sl 2310144 E (an g w);have f:=ms f H;exact(cQ f)<|fun k4 h3 f=>rt _ f
theorem Oc(A:Int)(E:List ZW)(g:R 2326528 E):Sa 494 [rI A,Z 5 ZW.row E] [rI (KE A E)]:=by
 have f:=me (KE.eq_1 A E);refine so func494 ntmps494∘cQ f<|fun k1 I f=>(ap (qo.eq_2 E) (fun J U=>Z3 27 [eI 0 A,(5,.one (.O 5 0 0 J.length),[.arr false 1 (J.map S)]),eL 11 5 E ZW.row,eI 12 (E.length:Int),eI 13 (U:Int)]) (fun D J U=>E.length<D+U/\U<=E.length/\J.length<=0+1*U) (E.length+1) ([]:List Int) 0 (h0:=aw [((5,0),none)] []))<|fun p1 J U H T=>(ae H) ?_ ?_<;>intro k3 X H
 ·have N:=ix X;have m2:=ml E (k3 11 _ rfl);have c1:=sl 2326528 E g;have K:=wr U;refine(xp N)<|?_;exact ay H (hw:=Ya [((5,0),some (21,0))] [] rfl ad)
 have c2:=sl 2326528 E g;have f:=ms f H;exact aa (Ku A J bL)∘aa (iS 1 (QS A J))<|rt _ f
theorem LM(A:Int)(E:ZW):y 495 [rI A,E.row] [(KV A E).row]:=have f:=me (KV.eq_1 A E);ao func495 ntmps495∘av P∘ah [false] (Pa E)<|ag _ f
theorem Aw(A:ZP)(E:M)(G:List ZS)(V:Zu)(g:R 2314240 A)(w:R 2314240 E)(L:R 2314240 G):Sa 450 [A.row,E.row,Z 3 ZS.row G,V.row] [rI (Je A E G V)]:=by
 have f:=me (Je.eq_1 A E G V);refine so func450 ntmps450∘aa (Jt A.a V.c)<|(ae f) ?_ ?_<;>intro k1 I f
 ·have N:(Zi A.a V.c).toNat<A.a.length:=by have:=Yy A.a V.c;exact il
  refine xp N∘ap (KM.eq_2 A E G V) (fun J U=>Z3 92 [eL 2 3 G ZS.row,eX 4 (A.row.map .d),eX 7 (V.row.map .d),eI 9 J,eL 32 1 E.b (aH 5 ZW.row),eI 33 (E.b.length:Int),eI 34 (U:Int)]) (fun D J U=>E.b.length<D+U/\U<=E.b.length) (E.b.length+1) (C A.a (Zi A.a V.c).toNat).a 0<|fun p1 J U H T=>(ae H) ?_ ?_<;>intro k3 X H
  ·have i2:=ix X;have m2:=ml E.b (k3 32 _ rfl);have c1:=sl 2314240 E.b (an g (an w L));have K:=wr U;refine xp i2∘av P∘aj (fun gg=>jX (C E.b U))∘aj (fun gg=>Oc V.b (C E.b U) (sg (Zh (M.ki w))))<|(cF H) ?_ ?_<;>intro k5 h3 H
   ·exact au K H
   refine(ap (KN.eq_2 A E G U) (fun q n=>Z3 92 [eL 2 3 G ZS.row,eX 4 (A.row.map .d),eX 7 (V.row.map .d),eI 9 J,eL 12 5 (C E.b U) ZW.row,eB 13 q,eL 32 1 E.b (aH 5 ZW.row),eI 33 (E.b.length:Int),eI 34 (U:Int),eL 55 5 (C E.b U) ZW.row,eI 56 ((C E.b U).length:Int),eI 57 (n:Int)]) (fun n2 q n=>(C E.b U).length<n2+n/\n<=(C E.b U).length) ((C E.b U).length+1) true 0)<|fun p2 q n e2 j2=>(ae e2) ?_ ?_<;>intro c h4 e2
   ·have i3:=ix h4;have m4:=ml (C E.b U) (c 12 _ rfl);have c2:=sl 2314240 (C E.b U) (an g (an w L));have w2:=wr n;refine xp i3∘av P∘aj (fun gg=>SB A.b (C (C E.b U) n))∘aj (fun gg=>YJ.rd (LM (Yq A.b (C (C E.b U) n)) (C (C E.b U) n)))∘aj (fun gg=>Tz G (KV (Yq A.b (C (C E.b U) n)) (C (C E.b U) n)))<|?_;exact au (an K w2) e2
   have H:=ms H e2;refine(aa (Ok A.b (C E.b U) A.e (sg (ZP.Yi g)) (sg (Zh (M.ki w)))))<|(cF H) ?_ ?_<;>intro k9 h5 H
   ·exact au K H
   exact au K H
  exact rt _ (ms f H)
 refine(ap (qE.eq_2 A E G V) (fun j O=>Z3 92 [eL 2 3 G ZS.row,eX 4 (A.row.map .d),eX 7 (V.row.map .d),eI 9 j,eL 32 1 E.b (aH 5 ZW.row),eI 33 (E.b.length:Int),eI 34 (O:Int)]) (fun p j O=>E.b.length<p+O/\O<=E.b.length) (E.b.length+1) 0 0)<|fun p3 j O e3 b=>(ae e3) ?_ ?_<;>intro ar h6 e3
 ·have i4:=ix h6;have m6:=ml E.b (ar 32 _ rfl);have c5:=sl 2314240 E.b (an g (an w L));have w3:=wr O;refine xp i4∘av P∘aj (fun gg=>jX (C E.b O))∘aj (fun gg=>Oc V.b (C E.b O) (sg (Zh (M.ki w))))<|(cF e3) ?_ ?_<;>intro ax h7 e3
  ·exact au w3 e3
  refine(ap (VL.eq_2 A E G O) (fun l h=>Z3 92 [eL 2 3 G ZS.row,eX 4 (A.row.map .d),eX 7 (V.row.map .d),eI 9 j,eL 12 5 (C E.b O) ZW.row,eB 13 l,eL 32 1 E.b (aH 5 ZW.row),eI 33 (E.b.length:Int),eI 34 (O:Int),eL 55 5 (C E.b O) ZW.row,eI 56 ((C E.b O).length:Int),eI 57 (h:Int)]) (fun Y l h=>(C E.b O).length<Y+h/\h<=(C E.b O).length) ((C E.b O).length+1) true 0)<|fun p4 l h a j4=>(ae a) ?_ ?_<;>intro ay h8 a
  ·have d:=ix h8;have m8:=ml (C E.b O) (ay 12 _ rfl);have c6:=sl 2314240 (C E.b O) (an g (an w L));have Q:=wr h;refine xp d∘av P∘aj (fun gg=>SB A.b (C (C E.b O) h))∘aj (fun gg=>YJ.rd (LM (Yq A.b (C (C E.b O) h)) (C (C E.b O) h)))∘aj (fun gg=>Tz G (KV (Yq A.b (C (C E.b O) h)) (C (C E.b O) h)))<|?_;exact au (an w3 Q) a
  have e3:=ms e3 a;refine(aa (Ok A.b (C E.b O) A.e (sg (ZP.Yi g)) (sg (Zh (M.ki w)))))<|(cF e3) ?_ ?_<;>intro aC h9 e3
  ·exact au w3 e3
  exact au w3 e3
 exact rt _ (ms f e3)
theorem DX(A:List ZS)(E:Yv)(g:R 2330624 A):y 451 [Z 3 ZS.row A,E.row] [Z 5 O.row (JF A E)]:=by
 have f:=me (JF.eq_1 A E);refine ao func451 ntmps451∘ap (xR.eq_2 A E) (fun J U=>Z3 42 [eX 3 (E.row.map .d),(5,.one (.O 5 0 0 J.length),[.arr false 5 (J.map O.row)]),eL 10 3 A ZS.row,eI 11 (A.length:Int),eI 12 (U:Int)]) (fun D J U=>A.length<D+U/\U<=A.length/\J.length<=0+1*U) (A.length+1) ([]:List O) 0 (h0:=aw [((5,0),none)] [])<|fun p1 J U H T=>(ae H) ?_ ?_<;>intro k2 I H
 ·have N:=ix I;have m2:=ml A (k2 10 _ rfl);have c1:=sl 2330624 A g;have K:=wr U;refine xp N∘aa (NN (C A U))<|(cF H) ?_ ?_<;>intro k3 X H
  ·exact ay H (hw:=Ya [((5,0),some (39,0))] [] rfl ad)
  exact au K H
 exact ag _ (ms f H)
theorem za(A E:Int)(G:List o)(g:R 2326528 G):D3 prog 524 [rI A,rI E] [.sl 2 (G.map o.row)] [.sl 2 ((YE A E G).map o.row)]:=by
 refine pr func524 rfl ai [false] ab (fun v=>?_);simp[ntmps524];refine(cR (Om A E))<|?_;simp;refine(cP (Xt A E).2) (fun k1 I=>?_) (fun k1 I=>?_)
 ·have q1:=I;try simp at q1
  have c1:G.length<=2326528:=Z7 (xs g);refine(bd)<|?_;refine fz (aK:=[.O 17 0 0 (G++([(Xt A E).1]:List o)).length]) rfl ?_ (.inr rfl);have f1:=YE.eq_1 A E G;simp only[I,Xe,XK]at f1;simp[f1];all_goals(rintro r (⟨a,_,rfl⟩|rfl) x O<;>simp at O<;>rcases O with rfl|rfl<;>rfl)
 ·have q1:=I;try simp at q1
  simp;refine fz (aK:=[.O 2 1 0 G.length]) rfl ?_ (.inr rfl);have f2:=YE.eq_1 A E G
  simp only[I,Xe,XK]at f2;simp[f2];all_goals(rintro r (⟨a,_,rfl⟩|rfl) x O<;>simp at O<;>rcases O with rfl|rfl<;>rfl)
theorem oE(A:List O)(E:Int):Sa 539 [Z 5 O.row A,rI E] [rI (UX A E).1,rI (UX A E).2.1,rI (UX A E).2.2]:=by
 have f:=me (UX.eq_1 A E);refine so func539 ntmps539∘dv (WL.eq_2 A E) (fun J U p i=>Z3 49 [eI 1 E,eI 7 J,eI 8 U,eI 9 p,eL 12 5 A O.row,eI 13 (A.length:Int),eI 14 (i:Int)]) (fun D J U p i=>A.length<D+i/\i<=A.length) (A.length+1) (-1) (-1) (-1) 0<|fun p1 J U p i H T=>(ae H) ?_ ?_<;>intro k2 I H
 ·have N:=ix I;have m2:=ml A (k2 12 _ rfl);have K:=wr i;refine(xp N)<|(cF H) ?_ ?_<;>intro k3 X H
  ·exact cC K H
  refine(cF H) ?_ ?_<;>intro k4 h3 H
  ·exact cC K H
  refine(cF H) ?_ ?_<;>intro k5 h4 H
  ·exact cC K H
  exact cC K H
 exact rt _ (ms f H)
theorem Rn(A:List O)(E:Int):Sa 526 [Z 5 O.row A,rI E] [rI (Xd A E)]:=have f:=me (Xd.eq_1 A E);so func526 ntmps526∘aa (oE A E)∘cQ f<|fun k1 I f=>rt _ f
theorem w8(h:b)(k:a:=by(intros;first|omega|with_unfolding_all (first|(first|omega|(have z:=Z7 g;omega)|(have z:=Z7 g;simp at*;omega)))|exact wt)):a/\b:=⟨k,h⟩
theorem FJ(h:b)(k:a:=by(intros;first|omega|with_unfolding_all (first|(first|omega|(have z:=Z7 g;omega)|(have z:=Z7 g;simp at*;omega)))|(simp_all;done)|(simp_all;omega)|grind|exact wt)):a/\b:=⟨k,h⟩
theorem jj(A:List o)(g:R 2330624 A):y 522 [Z 2 o.row A] [Z 2 o.row (XX A)]:=by
 have f:=me (XX.eq_1 A);refine ao func522 ntmps522∘ap (jL.eq_2 A) (fun J U=>Z3 85 [(3,.one (.O 3 0 0 J.length),[.arr false 2 (J.map o.row)]),eL 10 2 A o.row,eI 11 (A.length:Int),eI 12 (U:Int)]) (fun D J U=>A.length<D+U/\U<=A.length/\J.length<=U) (A.length+1) ([]:List o) 0 (h0:=aw [((3,0),none)] [])<|fun p1 J U H T=>(ae H) ?_ ?_<;>intro k2 I H
 ·have N:=ix I;have m2:=ml A (k2 10 _ rfl);have c1:=sl 2330624 A g;have K:=wr U;simp[N,ZG];refine(aa (yA (C A U)))<|(cF H) ?_ ?_<;>intro k3 X H
  ·exact au K H (v:=by first|omega|(simp at*;omega))
  refine(dv (jO.eq_2 J) (fun q n d i=>Z3 85 [(3,.any,[.arr false 2 (J.map o.row)]),(5,.one (.Z 5 0),[.box [.d (.int .i64 d),.d (.int .i64 i)]]),(6,.one (.O 6 0 0 q.length),[.arr false 2 (q.map o.row)]),eL 10 2 A o.row,eI 11 (A.length:Int),eI 12 (U:Int),(19,.one (.O 3 0 0 J.length),[]),eI 20 (J.length:Int),eI 21 (n:Int)]) (fun n2 q n d i=>J.length<n2+n/\n<=J.length/\q.length<=n) (J.length+1) ([]:List o) 0 (C A U).d (C A U).b (h0:=aw [((6,0),none)] []))<|fun p2 q n d i e2 j2=>(ae e2) ?_ ?_<;>intro k5 h3 e2
  ·have i2:=ix h3;have w2:=wr n;simp[i2,ZG];refine(ae e2) ?_ ?_<;>intro k6 h4 e2
   ·simp;repeat with_reducible refine w8 ?_
    exact ey e2 (v:=by first|omega|(simp at*;omega)) (hw:=Ya [((6,0),some (42,0))] [] rfl bJ)
   exact cC (an K w2) e2 (v:=by first|omega|(simp at*;omega))
  have H:=ms H e2;refine(aG (SK.eq_2 q d) (fun j=>Z3 85 [(5,.one (.Z 5 0),[.box [.d (.int .i64 d),.d (.int .i64 i)]]),(6,.one (.O 6 0 0 q.length),[.arr false 2 (q.map o.row)]),eI 9 (j:Int),eL 10 2 A o.row,eI 11 (A.length:Int),eI 12 (U:Int)]) (fun p j=>q.length<p+j/\j<=q.length) (q.length+1) 0)<|fun p3 j e3 b=>(av P)<|(bE) ?_ ?_<;>intro B
  ·have g1:=B;try simp at g1
   have i3:=ik j q;simp[i3,ZG,B];refine(aA e3) ?_ ?_<;>intro k9 h5 e3
   ·have m6:=ml q (k9 6 _ rfl);have w3:=wr j;simp[B];exact aE (an K (an w3 B)) e3
   ·have H:=ms H e3;simp[B];refine(ac P)<|?_;simp[B];repeat with_reducible refine FJ ?_
    exact ay H (v:=by first|omega|(simp at*;omega)) (hw:=Ya [((3,0),some (82,0))] [] rfl bG)
  ·simp[B];refine(aA e3) ?_ ?_<;>intro ar h6 e3
   ·simp[B]at h6
   ·have H:=ms H e3;simp[B];refine(ac P)<|?_;simp[B];repeat with_reducible refine FJ ?_
    exact ay H (v:=by first|omega|(simp at*;omega)) (hw:=Ya [((3,0),some (82,0))] [] rfl bG)
 have f:=ms f H;refine Hg (rv:=[.tmp 2]) rfl ?_;simp[f.h];all_goals(rintro r (hr|rfl|hr) x O<;>(first|(simp at O;rcases O with rfl|rfl<;>rfl)|((first|(replace hr:=List.mem_of_mem_take hr)|(replace hr:=List.mem_of_mem_drop hr));simp at hr;obtain⟨a,_,rfl⟩:=hr;simp at O;rcases O with rfl|rfl<;>rfl)))
theorem rJ(A:Yv)(E:List O)(g:R 2322432 E):y 499 [A.row,Z 5 O.row E] [Z 2 o.row (ja A E)]:=by
 have f:=me (ja.eq_1 A E);refine(ao func499 ntmps499)<|?_;refine gJ (t:=5) (G:=[.nil 2]) rfl rfl rfl rfl ab ab ?_;simp;refine(cF f) ?_ ?_<;>intro k1 I f
 ·refine EY (tf:=11) (u:=5) (ac:=[.sl 2 (([]:List o).map o.row)]) (aB:=[.sl 2 ((YE 0 (W (A.d-1)) ([]:List o)).map o.row)]) (G:=[.nil 2]) [false] rfl rfl rfl rfl (za 0 (W (A.d-1)) ([]:List o) b9) ab ab ab ab ab ab ab ab ab ab cv ab ab ?_;simp;refine(cF f) ?_ ?_<;>intro k2 X f
  ·refine EY (tf:=19) (u:=5) (ac:=[.sl 2 ((YE 0 (W (A.d-1)) ([]:List o)).map o.row)]) (aB:=[.sl 2 ((YE (W (A.b+1)) 10000 (YE 0 (W (A.d-1)) ([]:List o))).map o.row)]) (G:=[.O 5 1 0 (YE 0 (W (A.d-1)) ([]:List o)).length]) [false] rfl rfl rfl rfl (za (W (A.b+1)) 10000 (YE 0 (W (A.d-1)) ([]:List o)) b9) ab ab ab ab ab ab ab ab ab ab cv ab ab ?_;simp;refine(aa (Rn E A.a))<|?_;refine EY (tf:=24) (u:=5) (ac:=[.sl 2 ((YE (W (A.b+1)) 10000 (YE 0 (W (A.d-1)) ([]:List o))).map o.row)]) (aB:=[.sl 2 ((YE (Xd E A.a) 10000 (YE (W (A.b+1)) 10000 (YE 0 (W (A.d-1)) ([]:List o)))).map o.row)]) (G:=[.O 5 1 0 (YE (W (A.b+1)) 10000 (YE 0 (W (A.d-1)) ([]:List o))).length]) [false] rfl rfl rfl rfl (za (Xd E A.a) 10000 (YE (W (A.b+1)) 10000 (YE 0 (W (A.d-1)) ([]:List o))) b9) ab ab ab ab ab ab ab ab ab ab cv ab ab ?_;simp;exact(ah [false] (jj (YE (Xd E A.a) 10000 (YE (W (A.b+1)) 10000 (YE 0 (W (A.d-1)) ([]:List o)))) b9))<|ag _ f
  refine(aa (Rn E A.a))<|?_;refine EY (tf:=24) (u:=5) (ac:=[.sl 2 ((YE 0 (W (A.d-1)) ([]:List o)).map o.row)]) (aB:=[.sl 2 ((YE (Xd E A.a) 10000 (YE 0 (W (A.d-1)) ([]:List o))).map o.row)]) (G:=[.O 5 1 0 (YE 0 (W (A.d-1)) ([]:List o)).length]) [false] rfl rfl rfl rfl (za (Xd E A.a) 10000 (YE 0 (W (A.d-1)) ([]:List o)) b9) ab ab ab ab ab ab ab ab ab ab cv ab ab ?_;simp;exact(ah [false] (jj (YE (Xd E A.a) 10000 (YE 0 (W (A.d-1)) ([]:List o))) b9))<|ag _ f
 refine(cF f) ?_ ?_<;>intro k3 h3 f
 ·refine EY (tf:=19) (u:=5) (ac:=[.sl 2 (([]:List o).map o.row)]) (aB:=[.sl 2 ((YE (W (A.b+1)) 10000 ([]:List o)).map o.row)]) (G:=[.nil 2]) [false] rfl rfl rfl rfl (za (W (A.b+1)) 10000 ([]:List o) b9) ab ab ab ab ab ab ab ab ab ab cv ab ab ?_;simp;refine(aa (Rn E A.a))<|?_;refine EY (tf:=24) (u:=5) (ac:=[.sl 2 ((YE (W (A.b+1)) 10000 ([]:List o)).map o.row)]) (aB:=[.sl 2 ((YE (Xd E A.a) 10000 (YE (W (A.b+1)) 10000 ([]:List o))).map o.row)]) (G:=[.O 5 1 0 (YE (W (A.b+1)) 10000 ([]:List o)).length]) [false] rfl rfl rfl rfl (za (Xd E A.a) 10000 (YE (W (A.b+1)) 10000 ([]:List o)) b9) ab ab ab ab ab ab ab ab ab ab cv ab ab ?_;simp;exact(ah [false] (jj (YE (Xd E A.a) 10000 (YE (W (A.b+1)) 10000 ([]:List o))) b9))<|ag _ f
 refine(aa (Rn E A.a))<|?_;refine EY (tf:=24) (u:=5) (ac:=[.sl 2 (([]:List o).map o.row)]) (aB:=[.sl 2 ((YE (Xd E A.a) 10000 ([]:List o)).map o.row)]) (G:=[.nil 2]) [false] rfl rfl rfl rfl (za (Xd E A.a) 10000 ([]:List o) b9) ab ab ab ab ab ab ab ab ab ab cv ab ab ?_;simp;exact(ah [false] (jj (YE (Xd E A.a) 10000 ([]:List o)) b9))<|ag _ f
theorem ta(A E:o):Sa 523 [A.row,E.row] [rB (TL A E)]:=have f:=me (TL.eq_1 A E);so func523 ntmps523∘aa (yA A)∘aj (fun gg=>yA E)<|rt _ f
theorem Sn(A:List o)(E:o)(g:R 2326528 A):Sa 498 [Z 2 o.row A,E.row] [rB (zo A E)]:=by
 have f:=me (zo.eq_1 A E);refine so func498 ntmps498∘aa (YJ.rd (jj A (sg g)))∘aG (Ul.eq_2 A E) (fun J=>Z3 18 [eX 3 (E.row.map .d),eL 8 2 (XX A) o.row,eI 9 ((XX A).length:Int),eI 10 (J:Int)]) (fun D J=>(XX A).length<D+J/\J<=(XX A).length) ((XX A).length+1) 0<|fun p1 J H T=>(ae H) ?_ ?_<;>intro k2 I H
 ·have N:=ix I;have m2:=ml (XX A) (k2 8 _ rfl);have K:=wr J;refine xp N∘aa (ta E (C (XX A) J))<|(cF H) ?_ ?_<;>intro k3 X H
  ·exact rt _ (ms f H)
  exact aE K H
 exact rt _ (ms f H)
theorem rn(A:Yv)(E:List O)(G:o)(g:R 2318336 E):Sa 452 [A.row,Z 5 O.row E,G.row] [rB (Te A E G)]:=have f:=me (Te.eq_1 A E G);so func452 ntmps452∘av P∘aa (YJ.rd (rJ A E (sg g)))∘aa (Sn (ja A E) G (by exact Hw aq))<|rt _ f
theorem uc(A:List O)(E:Int):Sa 528 [Z 5 O.row A,rI E] [rI (Kj A E)]:=have f:=me (Kj.eq_1 A E);so func528 ntmps528∘aa (oE A E)∘cQ f<|fun k1 I f=>rt _ f
theorem ve(A E:o):Sa 540 [A.row,E.row] [(KA A E).1.row,rB (KA A E).2]:=have f:=me (KA.eq_1 A E);so func540 ntmps540∘aa (yA A)∘aj (fun gg=>yA E)∘aj (fun gg=>yA (o.mk (if E.d>A.d then E.d else A.d) (if E.b<A.b then E.b else A.b)))∘cQ f<|fun k1 I f=>rt _ f
theorem mU(h:b)(k:a:=by(intros;first|omega|with_unfolding_all (first|(first|omega|(simp at*;omega)))|exact wt)):a/\b:=⟨k,h⟩
theorem r4(A E:List o)(g:R 2326528 A)(w:R 2326528 E)(L:A.length<=1/\E.length<=1):y 527 [Z 2 o.row A,Z 2 o.row E] [Z 2 o.row (UF A E)]:=by
 have f:=me (UF.eq_1 A E);refine ao func527 ntmps527∘ap (SJ.eq_2 A E) (fun J U=>Z3 39 [eL 1 2 E o.row,(5,.one (.O 5 0 0 J.length),[.arr false 2 (J.map o.row)]),eL 12 2 A o.row,eI 13 (A.length:Int),eI 14 (U:Int)]) (fun D J U=>A.length<D+U/\U<=A.length/\J.length<=U) (A.length+1) ([]:List o) 0 (h0:=aw [((5,0),none)] [])<|fun p1 J U H T=>(ae H) ?_ ?_<;>intro k2 I H
 ·have N:=ix I;have K:=wr U;simp[N,ZG];refine(ap (jK.eq_2 A E U) (fun q n=>Z3 39 [eL 1 2 E o.row,(5,.one (.O 5 0 0 q.length),[.arr false 2 (q.map o.row)]),eX 7 ((C A U).row.map .d),eL 12 2 A o.row,eI 13 (A.length:Int),eI 14 (U:Int),eL 18 2 E o.row,eI 19 (E.length:Int),eI 20 (n:Int)]) (fun n2 q n=>E.length<n2+n/\n<=E.length/\q.length<=U+n) (E.length+1) J 0)<|fun p2 q n e2 j2=>(ae e2) ?_ ?_<;>intro k4 X e2
  ·have i2:=ix X;have w2:=wr n;simp[i2,ZG];refine(aa (ve (C A U) (C E n)))<|(ae e2) ?_ ?_<;>intro k5 h3 e2
   ·simp;repeat with_reducible refine mU ?_
    exact ay e2 (v:=by first|omega|(simp at*;omega)) (hw:=Ya [((5,0),some (34,0))] [] rfl bJ)
   exact au (an K w2) e2 (v:=by first|omega|(simp at*;omega))
  have H:=ms H e2;exact au K H
 have f:=ms f H;exact(ah [false] (jj J (by exact⟨Y,fun _ _=>trivial⟩)))<|ag _ f
theorem vB(A:Yv)(E:List O)(g:R 2322432 E):y 500 [A.row,Z 5 O.row E] [Z 2 o.row (xx A E)]:=have f:=me (xx.eq_1 A E);ao func500 ntmps500∘av P∘aa (H9 A)∘aa (uc E A.a)∘ah [false] (r4 ([xD A]:List o) ([o.mk 0 (Kj E A.a)]:List o) ce ce (by exact⟨Nat.le_refl _,Nat.le_refl _⟩))<|ag _ f
theorem BS(A:Yv)(E:List O)(G:o)(g:R 2318336 E):Sa 453 [A.row,Z 5 O.row E,G.row] [rB (WS A E G)]:=have f:=me (WS.eq_1 A E G);so func453 ntmps453∘av P∘aa (YJ.rd (vB A E (sg g)))∘aa (Sn (xx A E) G (by exact IB aq))<|rt _ f
theorem Bs(A:List ZS)(g:R 2330624 A):y 455 [Z 3 ZS.row A] [Z 6 XD.row (ye A)]:=by
 have f:=me (ye.eq_1 A);refine ao func455 ntmps455∘ap (qZ.eq_2 A) (fun J U=>Z3 26 [(3,.one (.O 3 0 0 J.length),[.arr false 6 (J.map XD.row)]),eL 8 3 A ZS.row,eI 9 (A.length:Int),eI 10 (U:Int)]) (fun D J U=>A.length<D+U/\U<=A.length/\J.length<=0+1*U) (A.length+1) ([]:List XD) 0 (h0:=aw [((3,0),none)] [])<|fun p1 J U H T=>(ae H) ?_ ?_<;>intro k2 I H
 ·have N:=ix I;have m2:=ml A (k2 8 _ rfl);have c1:=sl 2330624 A g;have K:=wr U;refine xp N∘aa (OO (C A U))<|(cF H) ?_ ?_<;>intro k3 X H
  ·exact ay H (hw:=Ya [((3,0),some (23,0))] [] rfl ad)
  exact au K H
 exact ag _ (ms f H)
theorem B3(A:XD):Sa 541 [A.row] [rB (SY A)]:=have f:=me (SY.eq_1 A);so func541 ntmps541∘aa (Z6 A.g 1 99)∘aj (fun gg=>Z6 A.a 0 99)∘aj (fun gg=>Z6 A.c 1 99)∘aj (fun gg=>yA (o.mk A.d A.b))<|rt _ f
theorem E3(A:XD):y 542 [A.row] [Z 1 S (Kv A)]:=have f:=me (Kv.eq_1 A);(ao func542 ntmps542)<|ag _ f
theorem FR(A:List YZ)(E:XD)(g:R 2314240 A):Sa 529 [Z 5 YZ.row A,E.row] [rB (kq A E)]:=have f:=me (kq.eq_1 A E);so func529 ntmps529∘av P∘aa (B3 E)∘aj (fun gg=>Fg A E.c)∘aj (fun gg=>YJ.rd (E3 E))∘aj (fun gg=>K1 A E.c (Kv E) E.f (sg g) (by simp(maxDischargeDepth:=12) [NP];try omega))<|rt _ f
theorem Ff(A:List YZ)(E:List XD)(G V:Int)(g:R 2310144 A)(w:R 2310144 E):y 501 [Z 5 YZ.row A,Z 6 XD.row E,rI G,rI V] [Z 2 o.row (K5 A E G V)]:=by
 have f:=me (K5.eq_1 A E G V);refine ao func501 ntmps501∘ap (qb.eq_2 A E G V) (fun J U=>Z3 44 [eL 0 5 A YZ.row,eI 2 G,eI 3 V,(9,.one (.O 9 0 0 J.length),[.arr false 2 (J.map o.row)]),eL 12 6 E XD.row,eI 13 (E.length:Int),eI 14 (U:Int)]) (fun D J U=>E.length<D+U/\U<=E.length/\J.length<=0+1*U) (E.length+1) ([]:List o) 0 (h0:=aw [((9,0),none)] [])<|fun p1 J U H T=>(ae H) ?_ ?_<;>intro k2 I H
 ·have N:=ix I;have m2:=ml E (k2 12 _ rfl);have c1:=sl 2310144 E (an g w);have K:=wr U;refine xp N∘aj (fun gg=>FR A (C E U) (sg g))<|(cF H) ?_ ?_<;>intro k3 X H
  ·exact ay H (hw:=Ya [((9,0),some (40,0))] [] rfl ad)
  exact au K H
 have c2:=sl 2310144 E (an g w);have f:=ms f H;exact(ah [false] (jj J hJ))<|ag _ f
theorem Ak(A:List YZ)(E:List XD)(G V:Int)(a4:o)(g:R 2306048 A)(w:R 2306048 E):Sa 454 [Z 5 YZ.row A,Z 6 XD.row E,rI G,rI V,a4.row] [rB (jT A E G V a4)]:=by have f:=me (jT.eq_1 A E G V a4);refine so func454 ntmps454∘av P∘aj (fun gg=>yA a4)∘aj (fun gg=>YJ.rd (Ff A E G V cL cL))∘aj (fun gg=>Sn (K5 A E G V) a4 (by exact OZ (by have z:=Z7 w;omega)))<|?_;refine⟨by by_cases h:G=0<;>simp[h],?_⟩;exact rt _ f
theorem OV(A:ZP)(E:M)(G:List (List Int))(V:Int)(a4:Zu)(g:R 2281472 A)(w:R 2281472 E)(L:R 2281472 G)(a:rl E<=2097152):Sa 386 [A.row,E.row,Z 1 (aH 1 S) G,rI V,a4.row] [(qh A E G V a4).row]:=by
 have f:=me (qh.eq_1 A E G V a4);refine so func386 ntmps386∘aa (Fc A)<|(cF f) ?_ ?_<;>intro k1 I f
 ·exact(aa (Rq 1))<|rt _ f
 refine(aa (TR a4))<|(cF f) ?_ ?_<;>intro k2 X f
 ·exact(aa (MW 1))<|rt _ f
 refine(cF f) ?_ ?_<;>intro k3 h3 f
 ·exact(aa (Rq 2))<|rt _ f
 refine(cF f) ?_ ?_<;>intro k4 h4 f
 ·exact(aa (MW 2))<|rt _ f
 refine(aa (Jt A.a a4.c))<|(cF f) ?_ ?_<;>intro k5 h5 f
 ·exact(aa (Rq 3))<|rt _ f
 refine(aa (He A.a a4 bq))<|(cF f) ?_ ?_<;>intro k6 h6 f
 ·exact(aa (MW 4))<|rt _ f
 refine av P∘aa (YJ.rd (PY a4))∘aa (PX A E G (Yf a4) bq bq bq bq)∘aa (S9 A a4.c)∘aj (fun gg=>Re A.c a4.b)<|(cF f) ?_ ?_<;>intro k8 h7 f
 ·exact(aa (Rq 5))<|rt _ f
 refine aa (FV A E G bq bq bq bq)∘aa (nJ A (YR A E G) a4 bq bq)<|(cF f) ?_ ?_<;>intro k9 h8 f
 ·exact(aa (Rq 6))<|rt _ f
 refine(aa (Aw A E (YR A E G) a4 bq bq bq))<|(cF f) ?_ ?_<;>intro al h9 f
 ·exact(aa (Rq 7))<|rt _ f
 exact aa (YJ.rd (DX (YR A E G) (Xn A (YR A E G) a4).1 bq))∘aa (rn (Xn A (YR A E G) a4).1 (JF (YR A E G) (Xn A (YR A E G) a4).1) (o.mk (Je A E (YR A E G) a4) (XP A E G (Yf a4))) bq)∘cQ f<|fun ar ak f=>aa (BS (Xn A (YR A E G) a4).1 (JF (YR A E G) (Xn A (YR A E G) a4).1) (o.mk (Je A E (YR A E G) a4) (XP A E G (Yf a4))) bq)∘cQ f<|fun v am f=>av P∘aa (YJ.rd (Bs (YR A E G) bq))∘aa (Ak A.a (ye (YR A E G)) a4.g (Xn A (YR A E G) a4).1.g (o.mk (Je A E (YR A E G) a4) (XP A E G (Yf a4))) bq bq)∘cQ f<|fun aD az f=>rt _ f
theorem nt(A:ZP)(E:M)(G:ZV)(V:Zu)(g:R 2277376 A)(w:R 2277376 E)(L:R 2277376 G)(a:rl E<=2097152):Sa 304 [A.row,E.row,G.row,V.row] [(EN A E G V).row]:=have f:=me (EN.eq_1 A E G V);so func304 ntmps304∘av P∘aa (YJ.rd (G2 E G bI bI))∘aa (qd V.b G bI)∘aa (OV A E (KX E G) (Yh V.b G) V bI bI bI bI)<|rt _ f
theorem Iy(A:ZP)(E:ZU)(g:R 2273280 A)(w:R 2097152 E):Sa 221 [A.row,E.row] [(jH A E).row]:=have f:=me (jH.eq_1 A E);so func221 ntmps221∘av P∘aa (YJ.rd (Og E cp))∘aa (nt A (JB E) E.c E.d cp cp cp cp)<|rt _ f
theorem Es(h:b)(k:a:=by(intros;first|omega|with_unfolding_all (first|first|omega|(have l:=YA A E gm;omega))|exact wt)):a/\b:=⟨k,h⟩
theorem TM(A:ZF)(E:Int)(g:R 1048576 A):Sa 134 [A.row,rI E] [(KO A E).row]:=by
 have f:=me (KO.eq_1 A E);refine so func134 ntmps134∘aa (SV A E)<|(aF f) ?_ ?_<;>intro k1 I f
 ·have q1:=I;try simp at q1
  simp;exact rt _ f
 have q1:=I;try simp at q1
 simp;refine(ac P)<|?_;have N:(u A E).1.toNat<A.a.length:=e0
 have i2:(u A E).2.toNat<(C A.a (u A E).1.toNat).a.length:=e0;simp[N,ZG,i2];repeat with_reducible refine Es ?_
 exact(aa (Iy A.b (C (C A.a (u A E).1.toNat).a (u A E).2.toNat) (sg (ZF.YW g)) (sg (Zh (ZE.YO (Zh (ZF.Zz g)))))))<|rt _ f
theorem DQ(A:Int):Sa 219 [rI A] [rS (KP A)]:=by
 have f:=me (KP.eq_1 A);refine so func219 ntmps219∘aa (Z6 A 1 3)<|(aF f) ?_ ?_<;>intro k1 I f
 ·have q1:=I;try simp[ZJ]at q1
  simp;exact rt _ f
 have q1:=I;try simp[ZJ]at q1
 have r1:∀i:Nat,i<4->cut [At.d (.str (⟨#[]⟩:ByteArray)),At.d (.str (⟨#[118,97,108,105,100]⟩:ByteArray)),At.d (.str (⟨#[105,110,118,97,108,105,100]⟩:ByteArray)),At.d (.str (⟨#[111,112,101,110]⟩:ByteArray))] i 1=[At.d (.str (C ([(⟨#[]⟩:ByteArray),(⟨#[118,97,108,105,100]⟩:ByteArray),(⟨#[105,110,118,97,108,105,100]⟩:ByteArray),(⟨#[111,112,101,110]⟩:ByteArray)]:List ByteArray) i))]:=by intro i h;(have z:i=0\/i=1\/i=2\/i=3:=by omega);rcases z with rfl|rfl|rfl|rfl<;>rfl
 have N:A.toNat<4:=e6;have b:=r1 _ N;simp only[cut]at b;simp[b];exact(bi)<|rt _ f
theorem AJ(A:Int):Sa 220 [rI A] [rS (K0 A)]:=by
 have f:=me (K0.eq_1 A);refine so func220 ntmps220∘aa (Z6 A 0 9)<|(aF f) ?_ ?_<;>intro k1 I f
 ·have q1:=I;try simp[ZJ]at q1
  simp;exact rt _ f
 have q1:=I;try simp[ZJ]at q1
 have r1:∀i:Nat,i<10->cut [At.d (.str (⟨#[110,111,110,101]⟩:ByteArray)),At.d (.str (⟨#[102,111,114,109]⟩:ByteArray)),At.d (.str (⟨#[100,111,99,117,109,101,110,116]⟩:ByteArray)),At.d (.str (⟨#[107,101,121]⟩:ByteArray)),At.d (.str (⟨#[109,97,114,107]⟩:ByteArray)),At.d (.str (⟨#[98,114,111,107,101,110]⟩:ByteArray)),At.d (.str (⟨#[99,101,114,116,105,102,105,99,97,116,101]⟩:ByteArray)),At.d (.str (⟨#[116,105,109,101]⟩:ByteArray)),At.d (.str (⟨#[101,110,100,101,100]⟩:ByteArray)),At.d (.str (⟨#[109,97,110,100,97,116,101]⟩:ByteArray))] i 1=[At.d (.str (C ([(⟨#[110,111,110,101]⟩:ByteArray),(⟨#[102,111,114,109]⟩:ByteArray),(⟨#[100,111,99,117,109,101,110,116]⟩:ByteArray),(⟨#[107,101,121]⟩:ByteArray),(⟨#[109,97,114,107]⟩:ByteArray),(⟨#[98,114,111,107,101,110]⟩:ByteArray),(⟨#[99,101,114,116,105,102,105,99,97,116,101]⟩:ByteArray),(⟨#[116,105,109,101]⟩:ByteArray),(⟨#[101,110,100,101,100]⟩:ByteArray),(⟨#[109,97,110,100,97,116,101]⟩:ByteArray)]:List ByteArray) i))]:=by intro i h;(have z:i=0\/i=1\/i=2\/i=3\/i=4\/i=5\/i=6\/i=7\/i=8\/i=9:=by omega);rcases z with rfl|rfl|rfl|rfl|rfl|rfl|rfl|rfl|rfl|rfl<;>rfl
 have N:A.toNat<10:=e6;have b:=r1 _ N;simp only[cut]at b;simp[b];exact(bi)<|rt _ f
theorem V1(A:XR):Sa 133 [A.row] [rS (X6 A)]:=by
 have f:=me (X6.eq_1 A);refine so func133 ntmps133∘av P∘aa (DQ A.a)∘aa (AJ A.c)∘cQ f<|fun k2 I f=>(ae f) ?_ ?_<;>intro k3 X f
 ·have o1:=jd A.a;have V:=kR A.c;exact(bd)<|rt _ f
 have o3:=jd A.a;have b:=kR A.c;refine(av P)<|?_;have a:=Z2 A.b.d;refine(aa (Xg A.b.d))<|?_;have c:=Z2 A.b.b;exact(aa (Xg A.b.b))<|rt _ f
theorem AQ(A:ZP)(E:ZU)(g:R 2269184 A)(w:R 2097152 E):Sa 222 [A.row,E.row] [rS (zp A E)]:=by have f:=me (zp.eq_1 A E);refine so func222 ntmps222∘av P<|?_;have o1:=Z2 E.b;refine(aa (Xg E.b))<|?_;have V:=Z2 E.d.c;refine(aa (Xg E.d.c))<|?_;have o3:=Z2 (E.a.a.length:Int);refine(aa (Xg (E.a.a.length:Int)))<|?_;have b:=Z2 (E.a.b.length:Int);refine aa (Xg (E.a.b.length:Int))∘aa (Iy A E cO cO)<|?_;have a:=Kn (jH A E);exact(aa (V1 (jH A E)))<|rt _ f
theorem C5(h:b)(k:a:=by(intros;first|omega|with_unfolding_all (first|(have o:(C A U).size<=2342912:=Zh (i:=U) g;have V:E.size<=2342912:=w;have o3:A.length<=2342912:=Z7 g;omega))|exact wt)):a/\b:=⟨k,h⟩
theorem Ib(A:List ByteArray)(E:ByteArray)(g:R 2342912 A)(w:R 2342912 E):Sa 236 [Z 1 sR A,rS E] [rS (js A E)]:=by
 have f:=me (js.eq_1 A E);refine so func236 ntmps236∘ap (J9.eq_2 A E) (fun J U=>Z3 25 [(1,.one (.d (.str E)),[]),(5,.one (.d (.str J)),[]),eL 8 1 A sR,eI 9 (A.length:Int),eI 10 (U:Int)]) (fun D J U=>A.length<D+U/\U<=A.length/\J.size<=4685824*U) (A.length+1) (⟨#[]⟩:ByteArray) 0 (v:=by exact⟨Y,Y,Nat.zero_le _,Nat.zero_le _⟩)<|fun p1 J U H T=>(ae H) ?_ ?_<;>intro k2 I H
 ·have N:=ix I;have m2:=ml A (k2 8 _ rfl);have c1:=sl 2342912 A (an g w);have K:=wr U;simp[N,ZG];refine(aF H) ?_ ?_<;>intro k3 X H
  ·simp;repeat with_reducible refine C5 ?_
   exact au K H (v:=by(have o:(C A U).size<=2342912:=Zh (i:=U) g;have V:E.size<=2342912:=w;have o3:A.length<=2342912:=Z7 g;(try dsimp only);refine⟨Y,Y,Y,?_⟩;simp;omega))
  simp;repeat with_reducible refine C5 ?_
  exact au K H (v:=by(have o:(C A U).size<=2342912:=Zh (i:=U) g;have V:E.size<=2342912:=w;have o3:A.length<=2342912:=Z7 g;(try dsimp only);refine⟨Y,Y,Y,?_⟩;simp;omega))
 exact rt _ (ms f H)
theorem Ci(A:List ByteArray)(E:ByteArray)(g:R 2338816 A)(w:R 2338816 E):Sa 223 [Z 1 sR A,rS E] [rS (N7 A E)]:=have f:=me (N7.eq_1 A E);so func223 ntmps223∘cQ f<|fun k1 I f=>(aa (Ib A E (sg g) (sg w)))<|rt _ f
theorem Gb(A:ZP)(E:ZE)(g:R 1048576 A)(w:R 1048576 E):Sa 135 [A.row,E.row] [rS (xU A E)]:=by
 have f:=me (xU.eq_1 A E);refine so func135 ntmps135∘ap (kS.eq_2 A E) (fun J U=>Z3 24 [eX 2 (A.row.map .d),(5,.one (.O 5 0 0 J.length),[.arr false 1 (J.map sR)]),eL 9 16 E.a ZU.row,eI 10 (E.a.length:Int),eI 11 (U:Int)]) (fun D J U=>E.a.length<D+U/\U<=E.a.length/\J.length<=U/\(∀x∈J,x.size<=400)) (E.a.length+1) ([]:List ByteArray) 0 (v:=by exact⟨Y,Y,Nat.zero_le _,Nat.zero_le _,fun x h=>by cases h⟩) (h0:=aw [((5,0),none)] [])<|fun p1 J U H T=>(ae H) ?_ ?_<;>intro k2 I H
 ·have N:=ix I;have m2:=ml E.a (k2 9 _ rfl);have c1:=sl 1048576 E.a (an g w);have K:=wr U;refine xp N∘aa (AQ A (C E.a U) (by(first|exact sg g|exact sg (Zh (ZE.YO w)))) (by(first|exact sg g|exact sg (Zh (ZE.YO w)))))<|?_;exact ay H (v:=by(refine⟨Y,Y,Y,by simp;omega,fun x O=>?_⟩;rcases List.mem_append.1 O with O|O;exact T.2.2.2.2 x O;simp at O;rw[O];exact FD _ _)) (hw:=Ya [((5,0),some (20,0))] [] rfl ad)
 have c2:=sl 1048576 E.a (an g w);have f:=ms f H;exact(aa (Ci J (⟨#[59,32]⟩:ByteArray) eu eu))<|rt _ f
theorem ue(A:List Int)(E:Int)(g:R 2338816 A):Sa 389 [Z 1 S A,rI E] [Z 1 S (yD A E)]:=by
 have f:=me (yD.eq_1 A E);refine so func389 ntmps389∘aG (JJ.eq_2 A E) (fun J=>Z3 44 [eL 0 1 A S,eI 1 E,eI 5 (J:Int)]) (fun D J=>A.length<D+J/\J<=A.length) (A.length+1) 0<|fun p1 J H T=>(aM) ?_ ?_<;>intro B
 ·have N:=ik J A;refine(l N)<|(cK H) ?_ ?_<;>intro k2 I H
  ·have m2:=ml A (k2 0 _ rfl);have c1:=sl 2338816 A g;have K:=wr J;exact aE (an K B) H
  ·have c2:=sl 2338816 A g;have f:=ms f H;refine(aI B) ?_ ?_<;>intro B
   ·all_goals
     refine(l N)<|(cK f) (fun k3 X f=>s _ f)<|fun k3 X f=>?_
     ·exact ca P∘bf [false] (K8 (A.take J) (sg (Az g))) (hq:=by simp[-Bool.exists_bool,-Bool.forall_bool,-List.map_take])<|s _ f
   ·try(simp at B;done)
    all_goals
     refine(cK f) ?_ ?_<;>intro k5 h3 f
     ·simp[B]at h3
     ·simp[B]at h3
 ·refine(cK H) ?_ ?_<;>intro c h4 H
  ·simp[B]at h4
  ·have M:=sl 2338816 A g;have f:=ms f H;refine(aI B) ?_ ?_<;>intro B
   ·try(simp at B;done)
    all_goals
     have d:=ik J A;refine(l d)<|(cK f) ?_ ?_<;>intro k8 h5 f
     ·simp[B]at h5
     ·simp[B]at h5
   ·all_goals
     refine(cK f) ?_ ?_<;>intro al h6 f
     ·simp[B]at h6
     ·exact ca P∘bf [false] (K8 (A.take J) (sg (Az g))) (hq:=by simp[-Bool.exists_bool,-Bool.forall_bool,-List.map_take])<|s _ f
theorem u5(A:ZU)(g:R 2334720 A):Sa 307 [A.row] [Z 1 S (z8 A)]:=by
 have f:=me (z8.eq_1 A);refine so func307 ntmps307∘ap (qL.eq_2 A) (fun J U=>Z3 24 [eL 3 1 J S,eL 12 5 A.a.b Zc.row,eI 13 (A.a.b.length:Int),eI 14 (U:Int)]) (fun D J U=>A.a.b.length<D+U/\U<=A.a.b.length/\J.length<=1+U) (A.a.b.length+1) ([A.d.b]:List Int) 0 (h0:=aw [] [(9,0)])<|fun p1 J U H T=>(ae H) ?_ ?_<;>intro k2 I H
 ·have N:=ix I;have m2:=ml A.a.b (k2 12 _ rfl);have c1:=sl 2334720 A.a.b g;have K:=wr U;refine xp N∘aa (ue J (C A.a.b U).b (by exact ZT (n:=2334720+1) aq ⟨Y,fun _ _=>trivial⟩))<|?_;exact au K H (v:=by(have z:=Lf J (C A.a.b U).b;(try dsimp only);omega))
 exact rt _ (ms f H)
theorem HY(A:List Int)(E:ZV)(G:List Int)(g:R 2322432 A)(w:R 2322432 E)(L:R 2322432 G):y 306 [Z 1 S A,E.row,Z 1 S G] [(J1 A E G).1.row,rB (J1 A E G).2]:=by
 have f:=me (J1.eq_1 A E G);refine ao func306 ntmps306∘aa (jy E)∘cQ f<|fun k1 I f=>av P∘ah [false] (K8 A (sg g))∘hZ (Qx.eq_2 A E G) (fun J U p i a=>Z3 83 [eL 0 1 A S,eL 2 1 G S,eX 4 (E.row.map .d),(6,.one (.Z 6 0),[.box [.d (.int .i64 0),.nil 1,.nil 1,.nil 1,.nil 1,.nil 1]]),(8,.one (.Z 8 0),[.box [.d (.int .i64 E.e),.O 23 0 0 A.length,.O 8 3 0 U.length,.O 8 4 0 p.length,.O 8 5 0 i.length,.O 8 6 0 a.length],.none,.none,.arr false 1 (U.map lR),.arr false 1 (p.map sR),.arr false 1 (i.map S),.arr true 1 (a.map (aH 1 S))]),(23,.any,[.arr false 1 (A.map S)]),eL 26 1 E.a sR,eI 27 (E.a.length:Int),eI 28 (J:Int)]) (fun D J U p i a=>E.a.length<D+J/\J<=E.a.length/\U.length<=J/\p.length<=J/\i.length<=J/\a.length<=J) (E.a.length+1) 0 ([]:List Bool) ([]:List ByteArray) ([]:List Int) ([]:List (List Int)) (h0:=aw [((8,3),none),((8,4),none),((8,5),none),((8,6),none)] [])<|fun p1 J U p i a H T=>?_;try dsimp only at T
 refine(ae H) ?_ ?_<;>intro k4 X H
 ·have N:=ix X;have m2:=ml E.a (k4 26 _ rfl);have c1:=sl 2322432 E.a (an g (an w L));have K:=wr J;have i2:J<E.d.length:=gb;refine xp (an N i2)∘aa (WC G (J:Int))<|(cF H) ?_ ?_<;>intro k5 h3 H
  ·refine cj fun k6=>?_;refine(ap (xE.eq_2 A E J) (fun q n=>Z3 83 [eL 0 1 A S,eL 2 1 G S,eX 4 (E.row.map .d),(6,.one (.Z 6 0),[.box [.d (.int .i64 0),.nil 1,.nil 1,.nil 1,.nil 1,.nil 1]]),(8,.one (.Z 8 0),[.box [.d (.int .i64 E.e),.O 23 0 0 A.length,.O 8 3 0 U.length,.O 8 4 0 p.length,.O 8 5 0 i.length,.O 8 6 0 a.length],.none,.none,.arr false 1 (U.map lR),.arr false 1 (p.map sR),.arr false 1 (i.map S),.arr true 1 (a.map (aH 1 S))]),(10,.one (.d (.str (C E.a J))),[]),eI 11 (C E.d J),(12,.one (.O 12 0 0 q.length),[.arr false 1 (q.map S)]),eB 13 (J6 G (J:Int)),(23,.any,[.arr false 1 (A.map S)]),eL 26 1 E.a sR,eI 27 (E.a.length:Int),eI 28 (J:Int),eL 42 1 A S,eI 43 (A.length:Int),eI 44 (n:Int)]) (fun n2 q n=>A.length<n2+n/\n<=A.length/\q.length<=0+1*n) (A.length+1) ([]:List Int) 0 (h0:=aw [((12,0),none)] []))<|fun p2 q n e2 j2=>?_;try dsimp only at j2
   refine(ae e2) ?_ ?_<;>intro c h4 e2
   ·have i3:=ix h4;have m4:=ml A (c 0 _ rfl);have c2:=sl 2322432 A (an g (an w L));have w2:=wr n;refine xp i3∘aa (Su (C A n) (C E.a J) (C E.d J) (sg (Zh (ZV.xy w))))<|?_;exact ay e2 (hw:=Ya [((12,0),some (54,0))] [] rfl bJ)
   have c3:=sl 2322432 A (an g (an w L));have H:=ms H e2;refine(VR)<|?_;simp;refine(TH (aq:=a.map (aH 1 S)) (al:=([q]:List (List Int)).map (aH 1 S)) (l1:=[(8,6)]) (l2:=[(12,0)]) (Q:=1))<|?_;simp;exact ed H (hw:=Ya [((8,3),some (61,0)),((8,4),some (67,0)),((8,5),some (73,0)),((8,6),some (79,0))] [] rfl ad)
  refine(VR)<|?_;simp;refine(TH (aq:=a.map (aH 1 S)) (al:=([([]:List Int)]:List (List Int)).map (aH 1 S)) (l1:=[(8,6)]) (l2:=[]) (Q:=1))<|?_;simp;exact ed H (hw:=Ya [((8,3),some (61,0)),((8,4),some (67,0)),((8,5),some (73,0)),((8,6),some (79,0))] [] rfl ad)
 have c4:=sl 2322432 E.a (an g (an w L));exact ag _ (ms f H)
theorem Bo(A:ZU)(E:List Int)(g:R 2318336 A)(w:R 2318336 E):y 224 [A.row,Z 1 S E] [(Xf A E).1.row,rB (Xf A E).2]:=have f:=me (Xf.eq_1 A E);ao func224 ntmps224∘av P∘aa (u5 A (by exact sg g))∘ah [true,false,false,false,false] (HY (z8 A) A.c E fJ fJ fJ)<|ag _ f
theorem W2(h:b)(k:a:=by(intros;first|omega|with_unfolding_all (first|(have o:(C A.a U).size<=2097152:=Zh (i:=U) g.2.2.1;omega))|exact wt)):a/\b:=⟨k,h⟩
theorem Hm(A:t)(g:R 2097152 A):Sa 225 [A.row] [rS (Kl A)]:=by
 have f:=me (Kl.eq_1 A);refine so func225 ntmps225∘aa (Xg A.e)∘ap (QT.eq_2 A) (fun J U=>Z3 41 [eX 1 (A.row.map .d),(3,.one (.d (.str J)),[]),eL 10 1 A.b lR,eI 11 (A.b.length:Int),eI 12 (U:Int)]) (fun D J U=>A.b.length<D+U/\J.size<=24+2097156*U) (A.b.length+1) (Zr A.e) 0 (v:=by exact⟨Y,ab,Z2 A.e⟩)<|fun p1 J U H T=>(ae H) ?_ ?_<;>intro k2 I H
 ·have N:=ix I;have m2:=ml A.b (k2 10 _ rfl);have c1:=sl 2097152 A.b g;have K:=wr U;simp[N,ZG];refine(ae H) ?_ ?_<;>intro k3 X H
  ·simp;repeat with_reducible refine W2 ?_
   exact au K H
  refine(aF H) ?_ ?_<;>intro k4 h3 H
  ·have i2:=ix h3;have m4:=ml A.a (k4 27 _ rfl);have c2:=sl 2097152 A.a g;have w2:=wr U;simp[i2,ZG];repeat with_reducible refine W2 ?_
   exact au w2 H (v:=by(have o:(C A.a U).size<=2097152:=Zh (i:=U) g.2.2.1;(try dsimp only);refine⟨Y,Y,?_⟩;simp;omega))
  simp;repeat with_reducible refine W2 ?_
  exact au K H
 exact rt _ (ms f H)
theorem B1(A:t)(g:R 2334720 A):Sa 459 [A.row] [rB (KW A)]:=by
 have f:=me (KW.eq_1 A);refine so func459 ntmps459∘aa (Z6 (A.b.length:Int) 1 6)<|(aF f) ?_ ?_<;>intro k1 I f
 ·have q1:=I;try simp[ZJ]at q1
  simp;exact rt _ f
 have q1:=I;try simp[ZJ]at q1
 simp;refine(bH (JX.eq_2 A) (fun J U p=>Z3 113 [eX 1 (A.row.map .d),(4,.one (.Z 4 0),[.box [.d (.int .i64 A.e),.O 4 2 0 U.length,.O 4 3 0 p.length],.none,.arr false 1 (U.map sR),.arr false 1 (p.map S)]),eL 38 1 A.b lR,eI 39 (A.b.length:Int),eI 40 (J:Int)]) (fun D J U p=>A.b.length<D+J/\J<=A.b.length/\U.length<=0+1*J/\p.length<=0+1*J) (A.b.length+1) 0 ([]:List ByteArray) ([]:List Int) (h0:=aw [((4,2),none),((4,3),none)] []))<|fun p1 J U p H T=>(ae H) ?_ ?_<;>intro k3 X H
 ·have N:=ix X;have K:=wr J;refine(xp N)<|(ae H) ?_ ?_<;>intro k4 h3 H
  ·have i2:=ik J A.f;refine(xp i2)<|(cF H) ?_ ?_<;>intro k5 h4 H
   ·exact rt _ (ms f H)
   refine(ac P)<|?_;have i3:=ik J A.a
   refine xp i3∘ac P<|?_;have i4:=ik J A.d
   refine(xp i4)<|?_;exact bh H (hw:=Ya [((4,2),some (61,0)),((4,3),some (71,0))] [] rfl ad)
  refine(ac P)<|?_;have d:=ik J A.a
  refine(xp d)<|(aM) ?_ ?_<;>intro B
  ·have i6:=ik J A.d;refine(l i6)<|(aI B) ?_ ?_<;>intro B
   ·all_goals
     have i7:=ik J A.f;refine(l i7)<|(cK H) ?_ ?_<;>intro k9 h5 H
     ·exact s _ (ms f H)
     ·exact aR (an K B) H
   ·all_goals
     refine(cK H) ?_ ?_<;>intro al h6 H
     ·exact s _ (ms f H)
     ·simp[B]at h6
  ·refine(aI B) ?_ ?_<;>intro B
   ·try(simp at B;done)
    all_goals
     have af:=ik J A.f;refine(l af)<|(cK H) ?_ ?_<;>intro ar h7 H
     ·simp[B]at h7
     ·simp[B]at h7
   ·all_goals
     refine(cK H) ?_ ?_<;>intro v h8 H
     ·exact s _ (ms f H)
     ·simp[B]at h8
 have f:=ms f H;exact aa (jy (ZV.mk A.e U p))∘aj (fun gg=>Z6 A.e 0 999)<|rt _ f
theorem B4(A:t):Sa 460 [A.row] [rI (xq A)]:=by
 have f:=me (xq.eq_1 A);refine so func460 ntmps460∘ap (JY.eq_2 A) (fun J U=>Z3 18 [eI 3 J,eL 7 1 A.b lR,eI 8 (A.b.length:Int),eI 9 (U:Int)]) (fun D J U=>A.b.length<D+U/\U<=A.b.length) (A.b.length+1) 0 0<|fun p1 J U H T=>(ae H) ?_ ?_<;>intro k2 I H
 ·have N:=ix I;have m2:=ml A.b (k2 7 _ rfl);have K:=wr U;refine(xp N)<|(cF H) ?_ ?_<;>intro k3 X H
  ·exact au K H
  exact au K H
 exact rt _ (ms f H)
theorem RG(h:b)(k:a:=by(intros;first|omega|with_unfolding_all (first|first|omega|(have z:=Ef I (v:=U) N;first|omega|(have y:=z.2.2.2 gE;omega)))|exact wt)):a/\b:=⟨k,h⟩
theorem RL(A:Int)(E:t)(g:R 2322432 E):Sa 391 [rI A,E.row] [rI (JL A E)]:=by
 have f:=me (JL.eq_1 A E);refine so func391 ntmps391∘aa (F0 E.c A)∘av P∘aa (B1 E (sg g))∘aj (fun gg=>B4 E)∘cQ f<|fun k2 I f=>(ap (Jg.eq_2 A E) (fun J U=>Z3 70 [eI 0 A,eX 3 (E.row.map .d),eI 5 (Kf E.c A),(6,.one (.O 6 0 0 J.length),[.arr false 1 (J.map S)]),eL 32 1 E.b lR,eI 33 (E.b.length:Int),eI 34 (U:Int)]) (fun D J U=>E.b.length<D+U/\U<=E.b.length/\J.length<=1+1*U) (E.b.length+1) ([E.e]:List Int) 0 (h0:=aw [((6,0),some (30,0))] []))<|fun p1 J U H T=>(ae H) ?_ ?_<;>intro k4 X H
 ·have N:=ix X;have m2:=ml E.b (k4 32 _ rfl);have c1:=sl 2322432 E.b g;have K:=wr U;simp[N,ZG];refine(bg H) ?_ ?_<;>intro k5 h3 H
  ·refine aY fun k6=>?_;refine(ac P)<|?_;have i2:U<E.a.length:=fF
   have i3:U<E.d.length:=fF;simp[i2,ZG,i3];refine(cR (Su A (C E.a U) (C E.d U) (sg (Zh (t.xy g)))))<|?_;simp;repeat with_reducible refine RG ?_
   exact ay H (hw:=Ya [((6,0),some (54,0))] [] rfl ad)
  have i4:U<E.f.length:=fF;have d:(Kf E.c A).toNat<(C E.f U).length:=by have:=Fw E.c A;(have z:=Ef I (v:=U) N;first|omega|(have y:=z.2.2.2 gE;omega))
  simp[i4,ZG,d];repeat with_reducible refine RG ?_
  exact ay H (hw:=Ya [((6,0),some (65,0))] [] rfl ad)
 have c2:=sl 2322432 E.b g;have f:=ms f H;exact(aa (Ku A J bL))<|rt _ f
theorem IL(A:ZY)(E:t)(g:R 2318336 A)(w:R 2318336 E):y 458 [A.row,E.row] [Z 1 S (KC A E)]:=by
 have f:=me (KC.eq_1 A E);refine ao func458 ntmps458∘ap (zJ.eq_2 A E) (fun J U=>Z3 24 [eX 3 (E.row.map .d),(5,.one (.O 5 0 0 J.length),[.arr false 1 (J.map S)]),eL 9 5 A.b Zc.row,eI 10 (A.b.length:Int),eI 11 (U:Int)]) (fun D J U=>A.b.length<D+U/\U<=A.b.length/\J.length<=0+1*U) (A.b.length+1) ([]:List Int) 0 (h0:=aw [((5,0),none)] [])<|fun p1 J U H T=>(ae H) ?_ ?_<;>intro k2 I H
 ·have N:=ix I;have m2:=ml A.b (k2 9 _ rfl);have c1:=sl 2318336 A.b (an g w);have K:=wr U;refine xp N∘aa (RL (C A.b U).b E (sg w))<|?_;exact ay H (hw:=Ya [((5,0),some (21,0))] [] rfl ad)
 exact ag _ (ms f H)
theorem Nj(A:M)(E:t)(g:R 2314240 A)(w:R 2314240 E):y 390 [A.row,E.row] [Z 1 (aH 1 S) (QP A E)]:=by
 have f:=me (QP.eq_1 A E);refine ao func390 ntmps390∘ap (Jx.eq_2 A E) (fun J U=>Z3 23 [eX 3 (E.row.map .d),(5,.one (.O 5 0 0 J.length),[.arr true 1 (J.map (aH 1 S))]),eL 9 2 A.a ZY.row,eI 10 (A.a.length:Int),eI 11 (U:Int)]) (fun D J U=>A.a.length<D+U/\U<=A.a.length/\J.length<=U) (A.a.length+1) ([]:List (List Int)) 0 (h0:=aw [((5,0),none)] [])<|fun p1 J U H T=>(ae H) ?_ ?_<;>intro k2 I H
 ·have N:=ix I;have m2:=ml A.a (k2 9 _ rfl);have c1:=sl 2314240 A.a (an g w);have K:=wr U;simp[N,ZG];refine ah [false] (IL (C A.a U) E (sg (Zh (M.Y8 g))) (sg w))∘VR<|?_;simp;refine fi (aq:=J.map (aH 1 S)) (al:=([KC (C A.a U) E]:List (List Int)).map (aH 1 S)) (l1:=[(5,0)]) (l2:=[(18,0)]) (Q:=1) rfl rfl rfl rfl ab ab ab ab ab (by simp;(first|omega|(have z:=Z7 (M.Y8 g);omega))) ?_;simp;exact ay H (hw:=Ya [((5,0),some (20,0))] [] rfl ad)
 exact ag _ (ms f H)
theorem Gu(A:ZP)(E:M)(G:t)(V:Zu)(g:R 2277376 A)(w:R 2277376 E)(L:R 2277376 G)(a:rl E<=2097152):Sa 308 [A.row,E.row,G.row,V.row] [(jr A E G V).row]:=have f:=me (jr.eq_1 A E G V);so func308 ntmps308∘av P∘aa (YJ.rd (Nj E G bK bK))∘aa (RL V.b G bK)∘aa (OV A E (QP E G) (JL V.b G) V bK bK bK bK)<|rt _ f
theorem Ps(A:ZP)(E:ZU)(G:t)(g:R 2273280 A)(w:R 2097152 E)(L:R 2273280 G):Sa 226 [A.row,E.row,G.row] [(kM A E G).row]:=have f:=me (kM.eq_1 A E G);so func226 ntmps226∘av P∘aa (YJ.rd (Og E cg))∘aa (Gu A (JB E) G E.d cg cg cg cg)<|rt _ f
theorem NG(h:b)(k:a:=by(intros;first|omega|with_unfolding_all (first|first|omega|(have z:=TI (xP (n:=1048576) (A:=C (C A.a (u A E).1.toNat).a (u A E).2.toNat) (E:=[G]) (Zh (ZE.YO (Zh (ZF.Zz g)))));omega)|(have h0:0<=(u A E).1:=(by simp at I;omega);have l:=YA A E h0;omega))|exact wt)):a/\b:=⟨k,h⟩
theorem tv(A:ZF)(E G:Int)(g:R 1048576 A):Sa 136 [A.row,rI E,rI G] [rS (MH A E G)]:=by
 have f:=me (MH.eq_1 A E G);refine so func136 ntmps136∘aa (SV A E)∘bC f<|fun k1 I f=>?_;have N:(u A E).1.toNat<A.a.length:=gX;have i2:(u A E).2.toNat<(C A.a (u A E).1.toNat).a.length:=gX;simp[N,ZG,i2];repeat with_reducible refine NG ?_
 refine ah [true,false,false,false,false] (Bo (C (C A.a (u A E).1.toNat).a (u A E).2.toNat) ([G]:List Int) (by exact sg (Zh (ZE.YO (Zh (ZF.Zz g))))) (by exact⟨Nat.le_of_ble_eq_true rfl,fun _ _=>trivial⟩))∘cQ f<|fun k2 X f=>av P∘cR (Hm (Xf (C (C A.a (u A E).1.toNat).a (u A E).2.toNat) ([G]:List Int)).1 (by exact ZT aq (xP (Zh (ZE.YO (Zh (ZF.Zz g)))))))<|?_;simp;repeat with_reducible refine NG ?_
 refine aa (Ps A.b (C (C A.a (u A E).1.toNat).a (u A E).2.toNat) (Xf (C (C A.a (u A E).1.toNat).a (u A E).2.toNat) ([G]:List Int)).1 h1 h1 (by first|exact sg (ZF.YW g)|exact sg (Zh (ZE.YO (Zh (ZF.Zz g))))|exact ZT aq (xP (Zh (ZE.YO (Zh (ZF.Zz g)))))))∘cR (V1 (kM A.b (C (C A.a (u A E).1.toNat).a (u A E).2.toNat) (Xf (C (C A.a (u A E).1.toNat).a (u A E).2.toNat) ([G]:List Int)).1))<|?_;have o1:=Kn (kM A.b (C (C A.a (u A E).1.toNat).a (u A E).2.toNat) (Xf (C (C A.a (u A E).1.toNat).a (u A E).2.toNat) ([G]:List Int)).1)
 simp;repeat with_reducible refine NG ?_
 exact rt _ f
theorem E5(A:ZU):Sa 309 [A.row] [(Jm A).1.row,rB (Jm A).2]:=by have f:=me (Jm.eq_1 A);refine so func309 ntmps309∘bC f<|fun k1 I f=>?_;have N:=ik (A.a.b.length-1) A.a.b;have q:=ml A.a.b (k1 7 _ rfl);have K:IntKind.i64.wrap ((A.a.b.length:Int)-1)=(A.a.b.length:Int)-1:=YF Y Y;simp[N,ZG,K,Ts];exact(bi)<|rt _ f
theorem G5(A:ZP)(E:Int):Sa 230 [A.row,rI E] [rI (RX A E)]:=by
 have f:=me (RX.eq_1 A E);refine so func230 ntmps230∘aa (Sq A.c E)<|(ae f) ?_ ?_<;>intro k1 I f
 ·have N:(XL A.c E).toNat<A.c.length:=by have:=zM A.c E;exact il
  exact(xp N)<|rt _ f
 exact rt _ f
theorem l2(A:ZP)(E:Zc):Sa 310 [A.row,E.row] [rI (SN A E)]:=by
 have f:=me (SN.eq_1 A E);refine so func310 ntmps310∘aa (G5 A E.b)∘ap (Pb.eq_2 A E) (fun J U=>Z3 41 [eX 2 (A.row.map .d),eI 5 J,eL 14 5 E.a ZW.row,eI 15 (E.a.length:Int),eI 16 (U:Int)]) (fun D J U=>E.a.length<D+U/\U<=E.a.length) (E.a.length+1) (RX A E.b) 0<|fun p1 J U H T=>(ae H) ?_ ?_<;>intro k2 I H
 ·have N:=ix I;have m2:=ml E.a (k2 14 _ rfl);have K:=wr U;refine xp N∘av P∘aa (SB A.b (C E.a U))∘aa (Jt A.a (Yq A.b (C E.a U)))<|(cF H) ?_ ?_<;>intro k4 X H
  ·exact rt _ (ms f H)
  refine(ac P)<|?_;have i2:(Zi A.a (Yq A.b (C E.a U))).toNat<A.a.length:=by have:=Yy A.a (Yq A.b (C E.a U));exact il
  refine xp i2∘aa (G5 A (C A.a (Zi A.a (Yq A.b (C E.a U))).toNat).b)<|?_;exact au K H
 exact rt _ (ms f H)
theorem FQ(A:ZP)(E:ZU)(G:Int):Sa 227 [A.row,E.row,rI G] [rB (qk A E G)]:=have f:=me (qk.eq_1 A E G);so func227 ntmps227∘aa (E5 E)∘av P∘aj (fun gg=>l2 A (Jm E).1)<|rt _ f
theorem sh(A:ZP)(E:ZE)(G:Int)(g:R 2326528 A)(w:R 2326528 E):y 138 [A.row,E.row,rI G] [Z 1 S (qC A E G)]:=by
 have f:=me (qC.eq_1 A E G);refine ao func138 ntmps138∘ap (Wa.eq_2 A E G) (fun J U=>Z3 28 [eI 2 G,eX 3 (A.row.map .d),(7,.one (.O 7 0 0 J.length),[.arr false 1 (J.map S)]),eL 11 16 E.a ZU.row,eI 12 (E.a.length:Int),eI 13 (U:Int)]) (fun D J U=>E.a.length<D+U/\U<=E.a.length/\J.length<=0+1*U) (E.a.length+1) ([]:List Int) 0 (h0:=aw [((7,0),none)] [])<|fun p1 J U H T=>(ae H) ?_ ?_<;>intro k2 I H
 ·have N:=ix I;have m2:=ml E.a (k2 11 _ rfl);have c1:=sl 2326528 E.a (an g w);have K:=wr U;refine xp N∘aa (FQ A (C E.a U) G)<|(cF H) ?_ ?_<;>intro k3 X H
  ·exact ay H (hw:=Ya [((7,0),some (25,0))] [] rfl ad)
  exact au K H
 exact ag _ (ms f H)
theorem Oq(A:List Int)(g:R 2334720 A):Sa 137 [Z 1 S A] [rS (zG A)]:=by
 have f:=me (zG.eq_1 A);refine so func137 ntmps137∘ap (Uo.eq_2 A) (fun J U=>Z3 20 [(3,.one (.O 3 0 0 J.length),[.arr false 1 (J.map sR)]),eL 6 1 A S,eI 7 (A.length:Int),eI 8 (U:Int)]) (fun D J U=>A.length<D+U/\U<=A.length/\J.length<=U/\(∀x∈J,x.size<=24)) (A.length+1) ([]:List ByteArray) 0 (v:=by exact⟨Y,Y,Nat.zero_le _,Nat.zero_le _,fun x h=>by cases h⟩) (h0:=aw [((3,0),none)] [])<|fun p1 J U H T=>(ae H) ?_ ?_<;>intro k2 I H
 ·have N:=ix I;have m2:=ml A (k2 6 _ rfl);have c1:=sl 2334720 A g;have K:=wr U;refine xp N∘aa (Xg (C A U))<|?_;exact ay H (v:=by(refine⟨Y,Y,Y,by simp;omega,fun x O=>?_⟩;rcases List.mem_append.1 O with O|O;exact T.2.2.2.2 x O;simp at O;rw[O];exact Z2 _)) (hw:=Ya [((3,0),some (16,0))] [] rfl ad)
 have c2:=sl 2334720 A g;have f:=ms f H;exact(aa (Ci J (⟨#[32]⟩:ByteArray) eu eu))<|rt _ f
theorem nk(A:List Z8)(E G:Int):Sa 229 [Z 4 Z8.row A,rI E,rI G] [rB (Tf A E G)]:=by
 have f:=me (Tf.eq_1 A E G);refine so func229 ntmps229∘aa (Sq A E)<|(aM) ?_ ?_<;>intro B
 ·have N:(XL A E).toNat<A.length:=c7;refine(l N)<|(aI B) ?_ ?_<;>intro B
  ·all_goals
    exact(l N)<|s _ f
  ·all_goals
    exact s _ f
 ·refine(aI B) ?_ ?_<;>intro B
  ·try(simp at B;done)
   all_goals
    have i3:(XL A E).toNat<A.length:=c7;exact(l i3)<|s _ f
  ·all_goals
    exact s _ f
theorem IW(A:ZP)(g:R 2334720 A):y 139 [A.row] [Z 1 S (Qk A)]:=by
 have f:=me (Qk.eq_1 A);refine ao func139 ntmps139∘ap (JO.eq_2 A) (fun J U=>Z3 57 [eX 1 (A.row.map .d),(3,.one (.O 3 0 0 J.length),[.arr false 1 (J.map S)]),eL 9 3 A.b ZX.row,eI 10 (A.b.length:Int),eI 11 (U:Int)]) (fun D J U=>A.b.length<D+U/\U<=A.b.length/\J.length<=0+1*U) (A.b.length+1) ([]:List Int) 0 (h0:=aw [((3,0),none)] [])<|fun p1 J U H T=>(ae H) ?_ ?_<;>intro k2 I H
 ·have N:=ix I;have m2:=ml A.b (k2 9 _ rfl);have c1:=sl 2334720 A.b g;have K:=wr U;refine xp N∘aa (Jt A.a (C A.b U).c)<|(bg H) ?_ ?_<;>intro k3 X H
  ·exact au K H
  have i2:(Zi A.a (C A.b U).c).toNat<A.a.length:=eM;refine xp i2∘av P∘aj (fun gg=>nk A.c (C A.a (Zi A.a (C A.b U).c).toNat).b A.d)∘aj (fun gg=>G5 A (C A.a (Zi A.a (C A.b U).c).toNat).b)<|(cF H) ?_ ?_<;>intro k5 h3 H
  ·exact ay H (hw:=Ya [((3,0),some (54,0))] [] rfl ad)
  exact au K H
 exact ag _ (ms f H)
theorem rv(h:b)(k:a:=by(intros;first|omega|with_unfolding_all (first|(have d:=Sb (l:=A.a) (i:=U) br;omega))|exact wt)):a/\b:=⟨k,h⟩
theorem M0(A:ZF)(g:R 2342912 A)(w:aB A.a<=1048576):So 232 [A.row] [Z 16 ZU.row (Y3 A)]:=by
 have f:=me (Y3.eq_1 A);refine so func232 ntmps232∘ap (OY.eq_2 A) (fun J U=>Z3 19 [(3,.one (.O 3 0 0 J.length),[.arr false 16 (J.map ZU.row)]),eL 7 2 A.a ZE.row,eI 8 (A.a.length:Int),eI 9 (U:Int)]) (fun D J U=>A.a.length<D+U/\U<=A.a.length/\J.length+aB (A.a.drop U)<=1048576) (A.a.length+1) ([]:List ZU) 0 (v:=by((try dsimp only);simp only[List.length_nil,List.drop_zero];omega)) (h0:=aw [((3,0),none)] [])<|fun p1 J U H T=>(ae H) ?_ ?_<;>intro k2 I H
 ·have N:=ix I;have m2:=ml A.a (k2 7 _ rfl);have c1:=sl 2342912 A.a (an g w);have K:=wr U;simp[N,ZG];refine bz rfl rfl rfl ?_;have c2:=sl 2342912 (C A.a U).a (an g w);simp;repeat with_reducible refine rv ?_
  exact ay H (v:=by(have d:=Sb (l:=A.a) (i:=U) br;(try dsimp only);simp only[List.length_append];omega)) (hw:=Ya [((3,0),some (16,0))] [] rfl ad)
 exact bT _ (ms f H)
theorem Nu(A E:List ZW)(g:R 2342912 A)(w:A.length+E.length<=67108900):D3 prog 313 [Z 5 ZW.row A] [.sl 5 (E.map ZW.row)] [.sl 5 ((Kw A E).map ZW.row)]:=by
 refine pr func313 rfl ai [false] ab (fun v=>?_);simp[ntmps313];refine cj fun k1=>?_;refine fv (ι:={s:Nat×Nat×(List ZW)//QG A s.1 s.2.1 s.2.2=QG A (A.length+1) 0 E/\(1<=s.1/\A.length<s.1+s.2.1/\s.2.1<=A.length/\s.2.2.length<=E.length+s.2.1)}) (fun s=>Z3 34 [(1,.fix v (.one (.Z 1 0)),[.box [.O 1 1 0 s.1.2.2.length],.arr false 5 (s.1.2.2.map ZW.row)]),eL 8 5 A ZW.row,eI 9 (A.length:Int),eI 10 (s.1.2.1:Int)]) (fun s=>s.1.1) ⟨(A.length+1,0,E),rfl,by first|omega|(dsimp only;omega)|simp⟩ (Qu ab) ?_;rintro⟨⟨D,J,U⟩,H,T⟩;try dsimp only at H T
 obtain⟨p1,rfl⟩:∃p,D=p+1:=⟨D-1,Y⟩;simp;refine(cP (decide ((J:Int)<(A.length:Int)))) (fun k2 I=>?_) (fun k2 I=>?_)
 ·have q1:=I;try simp at q1
  have N:J<A.length:=e8;have m2:A.length<=9223372036854775807:=by simpa using k2 8 _ rfl
  have c1:A.length<=2342912:=Z7 (xs (an g w));have K:IntKind.i64.wrap ((J:Int)+1)=(J:Int)+1:=YF Y Y;refine(xp N)<|?_;refine cj fun k3=>?_;refine fv (ι:={s:Nat×Bool×Nat//KU A J U s.1 s.2.1 s.2.2=KU A J U (U.length+1) false 0/\(1<=s.1/\U.length<s.1+s.2.2/\s.2.2<=U.length)}) (fun s=>Z3 34 [(1,.fix v (.one (.Z 1 0)),[.box [.O 1 1 0 U.length],.arr false 5 (U.map ZW.row)]),eX 4 ((C A J).row.map .d),eB 5 s.1.2.1,eL 8 5 A ZW.row,eI 9 (A.length:Int),eI 10 (J:Int),(14,.one (.O 1 1 0 U.length),[]),eI 15 (U.length:Int),eI 16 (s.1.2.2:Int)]) (fun s=>s.1.1) ⟨(U.length+1,false,0),rfl,by first|omega|(dsimp only;omega)|simp⟩ (Qu ab) ?_;rintro⟨⟨n2,q,n⟩,e2,j2⟩;try dsimp only at e2 j2
  obtain⟨p2,rfl⟩:∃p,n2=p+1:=⟨n2-1,Y⟩;simp;refine(cP (decide ((n:Int)<(U.length:Int)))) (fun k4 X=>?_) (fun k4 X=>?_)
  ·have q2:=X;try simp at q2
   have i2:n<U.length:=eU;have m4:U.length<=9223372036854775807:=by simpa using k4 14 _ rfl
   have w2:IntKind.i64.wrap ((n:Int)+1)=(n:Int)+1:=YF Y Y;refine(xp i2)<|?_;refine gw ⟨(p2,q||(((C U n).a==(C A J).a)&&(((C U n).c==(C A J).c)&&(((C U n).b==(C A J).b)&&(((C U n).e==(C A J).e)&&((C U n).f==(C A J).f))))),n+1),?_,?_⟩ ab (Qu bJ)
   ·rw[<-e2];simp only[KU,X,Xe,XK]
   ·first|omega|(simp at*;omega)
  ·have q2:=X;try simp at q2
   have b:KU A J U (U.length+1) false 0=q:=by rw[<-e2];simp only[KU,X,Xe,XK]
   simp;refine(cP (!q)) (fun k5 h3=>?_) (fun k5 h3=>?_)
   ·have q3:=h3;try simp at q3
    refine(bd)<|?_;refine gw ⟨(p1,J+1,U++([C A J]:List ZW)),?_,?_⟩ ab (Ya [((1,1),some (32,0))] [] rfl ad)
    ·rw[<-H];simp only[QG,I,b,h3,Xe,XK]
    ·first|omega|(simp at*;omega)
   ·have q3:=h3;try simp at q3
    simp;refine gw ⟨(p1,J+1,U),?_,?_⟩ ab (Qu ad)
    ·rw[<-H];simp only[QG,I,b,h3,Xe,XK]
    ·first|omega|(simp at*;omega)
 ·have q1:=I;try simp at q1
  have c2:A.length<=2342912:=Z7 (xs (an g w));have y:QG A (A.length+1) 0 E=U:=by rw[<-H];simp only[QG,I,Xe,XK]
  simp;refine fz (aK:=[.O 1 1 0 U.length]) rfl ?_ (.inr rfl);have f1:=Kw.eq_1 A E
  simp only[y,Xe,XK]at f1;simp[f1]
theorem tP(A:M)(g:R 2338816 A)(w:Dx A<=67108900):y 233 [A.row] [Z 5 ZW.row (y7 A)]:=by
 have f:=me (y7.eq_1 A);refine(ao func233 ntmps233)<|?_;refine gJ (t:=3) (G:=[.nil 5]) rfl rfl rfl rfl ab ab ?_;simp;refine(ap (xt.eq_2 A) (fun J U=>Z3 44 [eX 1 (A.row.map .d),(3,.one (.Z 3 0),[.box [.O 3 1 0 U.length],.arr false 5 (U.map ZW.row)]),(4,.one (.fn 313 3),[]),eL 13 2 A.a ZY.row,eI 14 (A.a.length:Int),eI 15 (J:Int)]) (fun D J U=>A.a.length<D+J/\J<=A.a.length/\U.length+af bw (A.a.drop J)+af List.length A.b<=67108900) (A.a.length+1) 0 ([]:List ZW) (v:=by((try dsimp only);have u:=w;simp only[Dx]at u;simp only[List.length_nil,List.drop_zero];omega)) (h0:=aw [((3,1),none)] []))<|fun p1 J U H T=>?_;try dsimp only at T
 refine(ae H) ?_ ?_<;>intro k2 I H
 ·have N:=ix I;have m2:=ml A.a (k2 13 _ rfl);have c1:=sl 2338816 A.a (an g w);have K:=wr J;refine xp N∘ap (xv.eq_2 A J) (fun q n=>Z3 44 [eX 1 (A.row.map .d),(3,.one (.Z 3 0),[.box [.O 3 1 0 n.length],.arr false 5 (n.map ZW.row)]),(4,.one (.fn 313 3),[]),eL 13 2 A.a ZY.row,eI 14 (A.a.length:Int),eI 15 (J:Int),eL 20 5 (C A.a J).b Zc.row,eI 21 ((C A.a J).b.length:Int),eI 22 (q:Int)]) (fun n2 q n=>(C A.a J).b.length<n2+q/\q<=(C A.a J).b.length/\n.length+af (fun r=>r.a.length) ((C A.a J).b.drop q)+af bw (A.a.drop (J+1))+af List.length A.b<=67108900) ((C A.a J).b.length+1) 0 U (v:=by(have d:=tG (l:=A.a) (i:=J) br;(try dsimp only);simp only[bw,List.drop_zero]at d⊢;omega))<|fun p2 q n e2 j2=>?_;try dsimp only at j2
  refine(ae e2) ?_ ?_<;>intro k4 X e2
  ·have i2:=ix X;have m4:=ml (C A.a J).b (k4 20 _ rfl);have c2:=sl 2338816 (C A.a J).b (an g w);have w2:=wr q;refine(xp i2)<|?_;refine EY (tf:=26) (u:=3) (ac:=[.sl 5 (n.map ZW.row)]) (aB:=[.sl 5 ((Kw (C (C A.a J).b q).a n).map ZW.row)]) (G:=[.O 3 1 0 n.length]) [false] rfl rfl rfl rfl (Nu (C (C A.a J).b q).a n (sg (Zc.Tk (Zh (ZY.Qf (Zh (M.Y8 g)))))) iA) ab ab ab ab ab ab ab ab ab ab cv ab ab ?_;simp;exact au (an K w2) e2 (v:=by(have d:=Pl (l:=(C A.a J).b) (i:=q) br;have z:=U1 (C (C A.a J).b q).a n;(try dsimp only);omega))
  have c3:=sl 2338816 (C A.a J).b (an g w);have H:=ms H e2;exact au K H (v:=by(first|omega|((try dsimp only);omega)|(simp at*;omega)))
 have c4:=sl 2338816 A.a (an g w);have f:=ms f H;refine(ap (jh.eq_2 A) (fun j O=>Z3 44 [(3,.one (.Z 3 0),[.box [.O 3 1 0 O.length],.arr false 5 (O.map ZW.row)]),(4,.one (.fn 313 3),[]),eL 33 1 A.b (aH 5 ZW.row),eI 34 (A.b.length:Int),eI 35 (j:Int)]) (fun p j O=>A.b.length<p+j/\j<=A.b.length/\O.length+af List.length (A.b.drop j)<=67108900) (A.b.length+1) 0 U (v:=by((try dsimp only);simp only[List.drop_zero];omega)))<|fun p3 j O e3 b=>?_;try dsimp only at b
 refine(ae e3) ?_ ?_<;>intro k6 h3 e3
 ·have i3:=ix h3;have m6:=ml A.b (k6 33 _ rfl);have c5:=sl 2338816 A.b (an g w);have w3:=wr j;refine(xp i3)<|?_;refine EY (tf:=39) (u:=3) (ac:=[.sl 5 (O.map ZW.row)]) (aB:=[.sl 5 ((Kw (C A.b j) O).map ZW.row)]) (G:=[.O 3 1 0 O.length]) [false] rfl rfl rfl rfl (Nu (C A.b j) O (sg (Zh (M.ki g))) iA) ab ab ab ab ab ab ab ab ab ab cv ab ab ?_;simp;exact au w3 e3 (v:=by(have d:=Nd (l:=A.b) (i:=j) br;have z:=U1 (C A.b j) O;(try dsimp only);omega))
 have c6:=sl 2338816 A.b (an g w);exact ag _ (ms f e3)
theorem Aq(h:b)(k:a:=by(intros;first|omega|with_unfolding_all (first|(have z:=W7 A;omega))|exact wt)):a/\b:=⟨k,h⟩
theorem uV(A:ZF)(g:R 2334720 A)(w:aB A.a<=1048576)(L:Dx (M.mk (Qi A) [])<=67108900):y 141 [A.row] [Z 5 ZW.row (z6 A)]:=by
 have f:=me (z6.eq_1 A);refine ao func141 ntmps141∘aa (M0 A cO cO)∘ap (VQ.eq_2 A) (fun J U=>Z3 23 [(3,.one (.Z 3 0),[.box [.O 3 1 0 U.length,.nil 1],.arr false 2 (U.map ZY.row)]),eL 7 16 (Y3 A) ZU.row,eI 8 ((Y3 A).length:Int),eI 9 (J:Int)]) (fun D J U=>(Y3 A).length<D+J/\J<=(Y3 A).length/\U.length<=J) ((Y3 A).length+1) 0 ([]:List ZY) (h0:=aw [((3,1),none)] [])<|fun p1 J U H T=>(ae H) ?_ ?_<;>intro k2 I H
 ·have N:=ix I;have m2:=ml (Y3 A) (k2 7 _ rfl);have K:=wr J;simp[N,ZG];refine(bB)<|?_;refine bz rfl rfl rfl ?_;simp;repeat with_reducible refine Aq ?_
  exact ay H (hw:=Ya [((3,1),some (18,0))] [] rfl ad)
 have f:=ms f H;exact(ah [false] (tP (M.mk U ([]:List (List ZW))) h6 h6))<|ag _ f
theorem E4(A:List YZ)(E:List ZX)(G V:ZW)(g:R 2310144 A)(w:R 2310144 E):Sa 231 [Z 5 YZ.row A,Z 3 ZX.row E,G.row,V.row] [rB (KL A E G V)]:=have f:=me (KL.eq_1 A E G V);so func231 ntmps231∘aj (fun gg=>Ss A E G (sg g) (sg w))∘aj (fun gg=>Ss A E V (sg g) (sg w))∘cQ f<|fun k1 I f=>(cQ f)<|fun k2 X f=>rt _ f
theorem oW(A:List YZ)(E:List ZX)(G:List ZW)(g:R 2306048 A)(w:R 2306048 E)(L:R 67108900 G):y 140 [Z 5 YZ.row A,Z 3 ZX.row E,Z 5 ZW.row G] [Z 1 S (qg A E G)]:=by
 have f:=me (qg.eq_1 A E G);refine ao func140 ntmps140∘ap (jI.eq_2 A E G) (fun J U=>Z3 57 [eL 0 5 A YZ.row,eL 1 3 E ZX.row,eL 2 5 G ZW.row,eX 7 (Pj U),eL 15 5 G ZW.row,eI 16 (G.length:Int),eI 17 (J:Int)]) (fun D J U=>G.length<D+J/\J<=G.length/\U.length=100) (G.length+1) 0 (zB 100) (v:=by first|omega|(simp;done)|(simp;omega)|(refine⟨Y,Y,?_⟩;first|(simp;done)|omega))<|fun p1 J U H T=>(aF H) ?_ ?_<;>intro k2 I H
 ·have N:=ix I;have m2:=ml G (k2 2 _ rfl);have c1:=sl 67108900 G (an g (an w L));have K:=wr J;refine xp N∘ap (WM.eq_2 A E G J) (fun q n=>Z3 57 [eL 0 5 A YZ.row,eL 1 3 E ZX.row,eL 2 5 G ZW.row,eX 7 (Pj n),eX 9 ((C G J).row.map .d),eL 15 5 G ZW.row,eI 16 (G.length:Int),eI 17 (J:Int),eL 24 5 (G.take J) ZW.row,eI 25 ((G.take J).length:Int),eI 26 (q:Int)]) (fun n2 q n=>(G.take J).length<n2+q/\q<=(G.take J).length/\n.length=U.length/\n.length=100) ((G.take J).length+1) 0 U (v:=by first|omega|(simp;done)|(simp;omega)|(refine⟨Y,Y,?_⟩;first|(simp;done)|omega))<|fun p2 q n e2 j2=>(ae e2) ?_ ?_<;>intro k4 X e2
  ·have i2:=ix X;have m4:=ml (G.take J) (k4 24 _ rfl);have c2:=sl 67108900 (G.take J) (an g (an w L));have w2:=wr q;have a:=kt i2;simp[i2,oV i2,a,ZG];refine bi∘aa (Z6 (C G J).a 0 99)∘aj (fun gg=>E4 A E (C G J) (C (G.take J) q) cL cL)<|(aF e2) ?_ ?_<;>intro k5 h3 e2
   ·have q3:=h3;try simp[ZJ]at q3
    have i3:(C G J).a.toNat<n.length:=fY;simp[iw i3,NR i3,OD];refine(bi)<|?_;exact au (an K w2) e2 (v:=by first|omega|(simp;done)|(simp;omega)|(refine⟨Y,Y,?_⟩;first|omega|(rw[List.length_set];omega)))
   have q3:=h3;try simp[ZJ]at q3
   simp;exact au (an K w2) e2 (v:=by first|omega|(simp;done)|(simp;omega)|(refine⟨Y,Y,?_⟩;first|omega|(rw[List.length_set];omega)))
  have H:=ms H e2;exact au K H (v:=by first|omega|(simp;done)|(simp;omega)|(refine⟨Y,Y,?_⟩;first|omega|(rw[List.length_set];omega)))
 have f:=ms f H;have i4:U.length=100:=fY;simp[jp i4,OD,i4];refine bi∘ap (ko.eq_2 U) (fun j O=>Z3 57 [(12,.one (.O 12 0 0 j.length),[.arr false 1 (j.map S)]),sU 45 (Pj U),eI 46 (O:Int)]) (fun p j O=>100<p+O/\j.length<=0+1*O) 101 ([]:List Int) 0 (h0:=aw [((12,0),none)] [])<|fun p3 j O e3 b=>(ae e3) ?_ ?_<;>intro c h4 e3
 ·have w3:=wr O;have i6:O<U.length:=fY;simp[nv i6,OD];refine(bi)<|(cF e3) ?_ ?_<;>intro k8 h5 e3
  ·exact ay e3 (hw:=Ya [((12,0),some (54,0))] [] rfl (by simp[w3]))
  exact au w3 e3
 exact ag _ (ms f e3)
theorem D9(A:Zc):Sa 314 [A.row] [rI (qK A)]:=have f:=me (qK.eq_1 A);(so func314 ntmps314)<|rt _ f
theorem Bv(A:ZY):Sa 234 [A.row] [rI (Wh A)]:=by
 have f:=me (Wh.eq_1 A);refine so func234 ntmps234∘ap (Ut.eq_2 A) (fun J U=>Z3 35 [eX 1 (A.row.map .d),eI 3 J,eL 9 5 A.b Zc.row,eI 10 (A.b.length:Int),eI 11 (U:Int)]) (fun D J U=>A.b.length<D+U/\U<=A.b.length) (A.b.length+1) 0 0<|fun p1 J U H T=>(ae H) ?_ ?_<;>intro k2 I H
 ·have N:=ix I;have m2:=ml A.b (k2 9 _ rfl);have K:=wr U;refine xp N∘aa (D9 (C A.b U))<|?_;exact au K H
 have f:=ms f H;refine(ap (UU.eq_2 A) (fun q n=>Z3 35 [eI 3 q,eL 21 3 A.a ZS.row,eI 22 (A.a.length:Int),eI 23 (n:Int)]) (fun n2 q n=>A.a.length<n2+n/\n<=A.a.length) (A.a.length+1) J 0)<|fun p2 q n e2 j2=>(ae e2) ?_ ?_<;>intro k4 X e2
 ·have i2:=ix X;have m4:=ml A.a (k4 21 _ rfl);have w2:=wr n;refine(xp i2)<|?_;exact au w2 e2
 exact rt _ (ms f e2)
theorem Dt(A:ZE):Sa 142 [A.row] [rI (zz A)]:=by
 have f:=me (zz.eq_1 A);refine so func142 ntmps142∘ap (Vg.eq_2 A) (fun J U=>Z3 20 [eI 3 J,eL 7 16 A.a ZU.row,eI 8 (A.a.length:Int),eI 9 (U:Int)]) (fun D J U=>A.a.length<D+U/\U<=A.a.length) (A.a.length+1) 0 0<|fun p1 J U H T=>(ae H) ?_ ?_<;>intro k2 I H
 ·have N:=ix I;have m2:=ml A.a (k2 7 _ rfl);have K:=wr U;refine xp N∘aa (Bv (C A.a U).a)<|?_;exact au K H
 exact rt _ (ms f H)
theorem UV(A:ZF)(E:Int)(g:R 1048576 A)(w:aB A.a<=1048576):Sa 235 [A.row,rI E] [rI (KS A E)]:=by
 have f:=me (KS.eq_1 A E);refine so func235 ntmps235∘aa (M0 A (sg g) b7)∘ap (yH.eq_2 A E) (fun J U=>Z3 26 [eI 1 E,eX 2 (A.row.map .d),eI 5 J,eL 9 16 (Y3 A) ZU.row,eI 10 ((Y3 A).length:Int),eI 11 (U:Int)]) (fun D J U=>(Y3 A).length<D+U/\U<=(Y3 A).length) ((Y3 A).length+1) 0 0<|fun p1 J U H T=>(ae H) ?_ ?_<;>intro k2 I H
 ·have N:=ix I;have m2:=ml (Y3 A) (k2 9 _ rfl);have K:=wr U;refine xp N∘aa (TM A (C (Y3 A) U).b g)<|(cF H) ?_ ?_<;>intro k3 X H
  ·exact au K H
  exact au K H
 exact rt _ (ms f H)
theorem y2(h:b)(k:a:=by(intros;first|omega|with_unfolding_all (first|(first|omega|(have z1:=O4 (l:=J) (b:=⟨#[43]⟩) rfl T.2.2.2.2;have t:=O4 (l:=q) (b:=⟨#[47]⟩) rfl j2.2.2.2.2.2;omega)|(have z1:=O4 (l:=J) (b:=⟨#[43]⟩) rfl T.2.2.2.2;omega)))|exact wt)):a/\b:=⟨k,h⟩
theorem In(A:ZF)(g:R 1048576 A)(w:aB A.a<=1048576):Sa 143 [A.row] [rS (j7 A)]:=by
 have f:=me (j7.eq_1 A);refine so func143 ntmps143∘ap (VX.eq_2 A) (fun J U=>Z3 52 [eX 1 (A.row.map .d),(3,.one (.O 3 0 0 J.length),[.arr false 1 (J.map sR)]),(4,.one (.nil 1),[]),eL 9 2 A.a ZE.row,eI 10 (A.a.length:Int),eI 11 (U:Int)]) (fun D J U=>A.a.length<D+U/\U<=A.a.length/\J.length<=U/\(∀x∈J,x.size<=24)) (A.a.length+1) ([]:List ByteArray) 0 (v:=by exact⟨Y,Y,Nat.zero_le _,Nat.zero_le _,fun x h=>by cases h⟩) (h0:=aw [((3,0),none)] [])<|fun p1 J U H T=>(ae H) ?_ ?_<;>intro k2 I H
 ·have N:=ix I;have m2:=ml A.a (k2 9 _ rfl);have c1:=sl 1048576 A.a (an g w);have K:=wr U;simp[N,ZG];refine(cR (Xg ((C A.a U).a.length:Int)))<|?_;simp;repeat with_reducible refine y2 ?_
  exact ay H (v:=by(refine⟨Y,Y,Y,by simp;omega,fun x O=>?_⟩;rcases List.mem_append.1 O with O|O;exact T.2.2.2.2 x O;simp at O;rw[O];exact Z2 _)) (hw:=Ya [((3,0),some (21,0))] [] rfl ad)
 have c2:=sl 1048576 A.a (an g w);have f:=ms f H;refine(ap (jn.eq_2 A) (fun q n=>Z3 52 [eX 1 (A.row.map .d),(3,.one (.O 3 0 0 J.length),[.arr false 1 (J.map sR)]),(4,.one (.O 4 0 0 q.length),[.arr false 1 (q.map sR)]),eI 7 (n:Int)]) (fun n2 q n=>4<n2+n/\n<=4/\1<=n/\q.length<=n/\(∀x∈q,x.size<=24)) 5 ([]:List ByteArray) 1 (v:=by exact⟨Y,Y,Y,Y,Nat.zero_le _,fun x h=>by cases h⟩) (h0:=aw [((4,0),none)] []))<|fun p2 q n e2 j2=>(cF e2) ?_ ?_<;>intro k4 X e2
 ·have w2:=wr n;refine aa (UV A (n:Int) cO cO)∘cR (Xg (KS A (n:Int)))<|?_;simp;repeat with_reducible refine y2 ?_
  exact ay e2 (v:=by(have hh:=X;simp at hh;refine⟨Y,Y,Y,Y,by simp;omega,fun x O=>?_⟩;rcases List.mem_append.1 O with O|O;exact j2.2.2.2.2.2 x O;simp at O;rw[O];exact Z2 _)) (hw:=Ya [((4,0),some (33,0))] [] rfl (by simp[w2]))
 have f:=ms f e2;refine av P∘cR (Xg A.b.d)<|?_;have o1:=Z2 A.b.d;simp;repeat with_reducible refine y2 ?_
 refine(cR (Ib J (⟨#[43]⟩:ByteArray) e1 e1))<|?_;simp;repeat with_reducible refine y2 ?_
 refine(cR (Ib q (⟨#[47]⟩:ByteArray) e1 e1))<|?_;simp;repeat with_reducible refine y2 ?_
 refine(cR (Xg (A.g.length:Int)))<|?_;have V:=Z2 (A.g.length:Int)
 simp;repeat with_reducible refine y2 ?_
 exact rt _ f
theorem mP(h:b)(k:a:=by(intros;first|omega|with_unfolding_all (first|first|omega|(have o:(C A.a n).a.length<=2310144:=Z7 (xs g);have V:A.a.length<=2310144:=Z7 (xs g);omega))|exact wt)):a/\b:=⟨k,h⟩
theorem IR(h:b)(k:a:=by(intros;first|omega|with_unfolding_all (first|first|omega|(have o:(C A.a n).a.length<=2310144:=Z7 (xs g);have V:A.a.length<=2310144:=Z7 (xs g);omega))|(simp_all;done)|(simp_all;omega)|grind|exact wt)):a/\b:=⟨k,h⟩
theorem p5(A:ZF)(g:R 2310144 A):Sa 237 [A.row] [rB (Tg A)]:=by
 have f:=me (Tg.eq_1 A);refine so func237 ntmps237∘aa (Fc A.b)∘aj (fun gg=>Z6 (A.a.length:Int) 1 4)∘aj (fun gg=>Ry A.f)∘aj (fun gg=>Ry A.g)<|(aF f) ?_ ?_<;>intro k1 I f
 ·have q1:=I;try simp[ZJ]at q1
  simp;exact rt _ f
 have q1:=I;try simp[ZJ]at q1
 simp;refine(aG (P8.eq_2 A) (fun J=>Z3 167 [eX 1 (A.row.map .d),eX 3 (A.b.row.map .d),eL 71 7 A.c Yv.row,eI 72 (A.c.length:Int),eI 73 (J:Int)]) (fun D J=>A.c.length<D+J/\J<=A.c.length) (A.c.length+1) 0)<|fun p1 J H T=>(ae H) ?_ ?_<;>intro k3 X H
 ·have N:=ix X;have m2:=ml A.c (k3 71 _ rfl);have c1:=sl 2310144 A.c g;have K:=wr J;simp[N,ZG];refine aa (Ir A.b.a (C A.c J) (sg (ZP.Yb (ZF.YW g))))∘aj (fun gg=>GC A.c (C A.c J).a)<|(bE) ?_ ?_<;>intro B
  ·have g1:=B;try simp at g1
   have i2:=ik J A.d;simp[i2,ZG,B];repeat with_reducible refine IR ?_
   refine(db (fun gg=>Z6 (C A.d J) (-1) 10001))<|?_;simp[B];refine(aA H) ?_ ?_<;>intro k4 h3 H
   ·have q3:=h3;try simp[ZJ]at q3
    have f:=ms f H;simp[B];exact s _ f
   ·have q3:=h3;try simp[ZJ]at q3
    simp[B];exact aE (an K B) H
  ·simp[B];refine(aO)<|?_;simp[B];refine(aA H) ?_ ?_<;>intro k5 h4 H
   ·have q4:=h4;try simp[ZJ]at q4
    have f:=ms f H;simp[B];exact s _ f
   ·simp[B]at h4
 have f:=ms f H;refine(ap (kb.eq_2 A) (fun q n=>Z3 167 [eX 1 (A.row.map .d),eX 3 (A.b.row.map .d),(6,.one (.O 6 0 0 q.length),[.arr false 1 (q.map S)]),eL 103 2 A.a ZE.row,eI 104 (A.a.length:Int),eI 105 (n:Int)]) (fun n2 q n=>A.a.length<n2+n/\q.length<=2310144*n) (A.a.length+1) ([]:List Int) 0 (h0:=aw [((6,0),none)] []))<|fun p2 q n e2 j2=>(ae e2) ?_ ?_<;>intro c h5 e2
 ·have i4:=ix h5;have w2:=wr n;simp[i4,ZG];refine(aa (ql (C A.a n)))<|(cF e2) ?_ ?_<;>intro k8 h6 e2
  ·exact rt _ (ms f e2)
  refine(ap (jC.eq_2 A n) (fun j O=>Z3 167 [eX 1 (A.row.map .d),eX 3 (A.b.row.map .d),(6,.one (.O 6 0 0 j.length),[.arr false 1 (j.map S)]),eL 103 2 A.a ZE.row,eI 104 (A.a.length:Int),eI 105 (n:Int),eL 120 16 (C A.a n).a ZU.row,eI 121 ((C A.a n).a.length:Int),eI 122 (O:Int)]) (fun p j O=>(C A.a n).a.length<p+O/\O<=(C A.a n).a.length/\j.length<=2310144*n+O) ((C A.a n).a.length+1) q 0)<|fun p3 j O e3 b=>(ae e3) ?_ ?_<;>intro al h7 e3
  ·have d:=ix h7;have m6:=ml (C A.a n).a (al 120 _ rfl);have c4:=sl 2310144 (C A.a n).a g;have w3:=wr O;simp[d,ZG];refine(aa (WC j (C (C A.a n).a O).b))<|(bg e3) ?_ ?_<;>intro ar h8 e3
   ·have e2:=ms e2 e3;exact rt _ (ms f e2)
   simp;repeat with_reducible refine mP ?_
   exact ay e3 (v:=by(have o:(C A.a n).a.length<=2310144:=Z7 (xs g);first|omega|(simp at*;omega))) (hw:=Ya [((6,0),some (141,0))] [] rfl (by simp[w2,w3]))
  have c5:=sl 2310144 (C A.a n).a g;have e2:=ms e2 e3;exact au w2 e2 (v:=by(have o:(C A.a n).a.length<=2310144:=Z7 (xs g);first|omega|(simp at*;omega)))
 have f:=ms f e2;refine(aG (Pz.eq_2 A) (fun l=>Z3 167 [eX 1 (A.row.map .d),eX 3 (A.b.row.map .d),eL 145 1 A.e S,eI 146 (A.e.length:Int),eI 147 (l:Int)]) (fun Y l=>A.e.length<Y+l/\l<=A.e.length) (A.e.length+1) 0)<|fun p4 l a j4=>(ae a) ?_ ?_<;>intro ax h9 a
 ·have i6:=ix h9;have m8:=ml A.e (ax 145 _ rfl);have c7:=sl 2310144 A.e g;have Q:=wr l;simp[i6,ZG];refine(cF a) ?_ ?_<;>intro aD ak a
  ·exact rt _ (ms f a)
  exact aE Q a
 have f:=ms f a;refine(aG (OX.eq_2 A) (fun r=>Z3 167 [eX 3 (A.b.row.map .d),eL 155 1 A.f S,eI 156 (A.f.length:Int),eI 157 (r:Int)]) (fun w r=>A.f.length<w+r/\r<=A.f.length) (A.f.length+1) 0)<|fun L r i G=>(ae i) ?_ ?_<;>intro aH am i
 ·have i7:=ix am;have y:=ml A.f (aH 155 _ rfl);have E:=sl 2310144 A.f g;have t:=wr r;simp[i7,ZG];refine(aa (xC A.b.b (C A.f r)))<|(cF i) ?_ ?_<;>intro aC az i
  ·exact rt _ (ms f i)
  exact aE t i
 exact rt _ (ms f i)
theorem Bh(h:b)(k:a:=by(intros;first|omega|with_unfolding_all (first|(first|omega|(have z:=W7 A;omega)))|exact wt)):a/\b:=⟨k,h⟩
theorem BI(A:ZF)(g:R 1048576 A)(w:aB A.a<=1048576):y 319 [A.row] [Z 1 S (QR A)]:=by
 have f:=me (QR.eq_1 A);refine ao func319 ntmps319∘aa (M0 A (sg g) b7)∘ap (WN.eq_2 A) (fun J U=>Z3 26 [eX 1 (A.row.map .d),(3,.one (.O 3 0 0 J.length),[.arr false 1 (J.map S)]),eL 7 16 (Y3 A) ZU.row,eI 8 ((Y3 A).length:Int),eI 9 (U:Int)]) (fun D J U=>(Y3 A).length<D+U/\U<=(Y3 A).length/\J.length<=U) ((Y3 A).length+1) ([]:List Int) 0 (h0:=aw [((3,0),none)] [])<|fun p1 J U H T=>(ae H) ?_ ?_<;>intro k2 I H
 ·have N:=ix I;have m2:=ml (Y3 A) (k2 7 _ rfl);have K:=wr U;simp[N,ZG];refine(aa (TM A (C (Y3 A) U).b g))<|(ae H) ?_ ?_<;>intro k3 X H
  ·simp;repeat with_reducible refine Bh ?_
   exact ay H (hw:=Ya [((3,0),some (23,0))] [] rfl ad)
  exact au K H
 exact ag _ (ms f H)
theorem D1(h:b)(k:a:=by(intros;first|omega|with_unfolding_all (first|(first|omega|(have z:=DR A;omega)))|exact wt)):a/\b:=⟨k,h⟩
theorem CP(A:ZF)(g:R 1048576 A)(w:aB A.a<=1048576):y 238 [A.row] [Z 1 S (VB A)]:=by
 have f:=me (VB.eq_1 A);refine ao func238 ntmps238∘aa (YJ.rd (BI A g b7))∘ap (xX.eq_2 A) (fun J U=>Z3 23 [eX 1 (A.row.map .d),(3,.one (.O 3 0 0 J.length),[.arr false 1 (J.map S)]),eL 7 1 (QR A) S,eI 8 ((QR A).length:Int),eI 9 (U:Int)]) (fun D J U=>(QR A).length<D+U/\U<=(QR A).length/\J.length<=0+1*U) ((QR A).length+1) ([]:List Int) 0 (h0:=aw [((3,0),none)] [])<|fun p1 J U H T=>(ae H) ?_ ?_<;>intro k2 I H
 ·have N:=ix I;have m2:=ml (QR A) (k2 7 _ rfl);have K:=wr U;simp[N,ZG];refine(aa (WC A.g (C (QR A) U)))<|(ae H) ?_ ?_<;>intro k3 X H
  ·simp;repeat with_reducible refine D1 ?_
   exact ay H (hw:=Ya [((3,0),some (20,0))] [] rfl ad)
  exact au K H
 exact ag _ (ms f H)
theorem nI(A:ZF)(g:R 1048576 A)(w:aB A.a<=1048576):Sa 144 [A.row] [rS (y1 A)]:=have f:=me (y1.eq_1 A);so func144 ntmps144∘aa (p5 A (sg g))∘cQ f<|fun k1 I f=>aa (YJ.rd (CP A g b7))∘cQ f<|fun k2 X f=>rt _ f
theorem Ky(h:b)(k:a:=by(intros;first|omega|with_unfolding_all (first|first|omega|(have z:=Xw w;have t:=Z2 (G.length:Int);omega)|(simp[Zw,ZJ,X8]at*;omega))|exact wt)):a/\b:=⟨k,h⟩
theorem mT(A:ZF)(E:ByteArray)(G:List Int)(g:R 1048576 A)(w:R 1048577 E)(L:R 1048577 G)(a:aB A.a<=1048576)(e:Dx (M.mk (Qi A) [])<=67108900):Sa 71 [A.row,rS E,Z 1 S G] [rS (qt A E G)]:=by
 have f:=me (qt.eq_1 A E G);refine El func71 rfl ai ?_;simp[ntmps71];refine(cb) ?_;refine(cR (Xg (G.length:Int)))<|?_;have o1:=Z2 (G.length:Int);simp;refine(cb) ?_;refine(cF f) ?_ ?_<;>intro k1 I f
 ·refine dj I ?_;refine(ac P)<|?_;have N:0<G.length:=ch
  simp[N,ZG];refine(cb) ?_;refine(aa (Ko A (C G 0)))<|?_;have c1:=sl 1048576 A.a (an g (an w (an L (an a e))))
  have K:IntKind.i64.wrap ((A.a.length:Int)-1)=(A.a.length:Int)-1:=YF Y Y;refine(aF f) ?_ ?_<;>intro k3 X f
  ·have q2:=X;try simp[K,Zw,ZJ]at q2
   simp;exact rt _ f
  have q2:=X;try simp[K,Zw,ZJ]at q2
  simp;refine cZ (lx (b:=(⟨#[106,117,100,103,101,32,49]⟩:ByteArray)) I) ?_;refine dj I ?_;refine(ac P)<|?_;have i2:(C G 0).toNat<A.a.length:=ch
  simp[N,ZG,i2];refine(cb) ?_;exact(aa (Gb A.b (C A.a (C G 0).toNat) (ZF.YW g) (Zh (ZF.Zz g))))<|rt _ f
 refine(cF f) ?_ ?_<;>intro k5 h3 f
 ·refine dj h3 ?_;refine(ac P)<|?_;have i3:0<G.length:=ch
  simp[i3,ZG];refine(cb) ?_;refine(aa (Ko A (C G 0)))<|?_;have c2:=sl 1048576 A.a (an g (an w (an L (an a e))))
  have w2:IntKind.i64.wrap ((A.a.length:Int)-1)=(A.a.length:Int)-1:=YF Y Y;refine(aF f) ?_ ?_<;>intro c h4 f
  ·have q4:=h4;try simp[w2,Zw,ZJ]at q4
   simp;exact rt _ f
  have q4:=h4;try simp[w2,Zw,ZJ]at q4
  simp;refine cZ (lx (b:=(⟨#[106,117,100,103,101,32,49]⟩:ByteArray)) h3) ?_;refine cZ I ?_;refine cZ (lx (b:=(⟨#[104,105,100,101,32,50]⟩:ByteArray)) h3) ?_;refine dj h3 ?_;refine(ac P)<|?_;have i4:(C G 0).toNat<A.a.length:=ch
  have d:1<G.length:=ch;simp[i3,ZG,i4,d];refine(cb) ?_;exact aa (YJ.rd (sh A.b (C A.a (C G 0).toNat) (C G 1) (sg (ZF.YW g)) (sg (Zh (ZF.Zz g)))))∘aa (Oq (qC A.b (C A.a (C G 0).toNat) (C G 1)) fm)<|rt _ f
 refine(cF f) ?_ ?_<;>intro k9 h5 f
 ·refine aY fun al=>?_;refine(ac P)<|?_;have i6:0<G.length:=ch
  simp[i6,ZG];refine(cb) ?_;refine(aa (Ko A (C G 0)))<|?_;have c3:=sl 1048576 A.a (an g (an w (an L (an a e))))
  have w3:IntKind.i64.wrap ((A.a.length:Int)-1)=(A.a.length:Int)-1:=YF Y Y;refine(aF f) ?_ ?_<;>intro ar h6 f
  ·have O:=h6;try simp[w3,Zw,ZJ]at O
   simp;exact rt _ f
  have O:=h6;try simp[w3,Zw,ZJ]at O
  simp;refine cZ (lx (b:=(⟨#[106,117,100,103,101,32,49]⟩:ByteArray)) h5) ?_;refine cZ I ?_;refine cZ (lx (b:=(⟨#[104,105,100,101,32,50]⟩:ByteArray)) h5) ?_;refine cZ h3 ?_;refine cZ (lx (b:=(⟨#[112,108,97,110,32,48]⟩:ByteArray)) h5) ?_;refine cZ (lx (b:=(⟨#[108,105,97,114,115,32,48]⟩:ByteArray)) h5) ?_;refine dj h5 ?_;refine(ac P)<|?_;have i7:(C G 0).toNat<A.a.length:=ch
  simp[i6,ZG,i7];refine(cb) ?_;exact aa (Dt (C A.a (C G 0).toNat))∘aa (Xg (zz (C A.a (C G 0).toNat)))<|rt _ f
 refine(cF f) ?_ ?_<;>intro ax h7 f
 ·refine aY fun aD=>?_;refine(ac P)<|?_;have i8:0<G.length:=ch
  simp[i8,ZG];refine(cb) ?_;refine aa (SV A (C G 0))∘cQ f<|fun ay h8 f=>(ac P)<|?_;simp[i8,ZG];refine(cb) ?_;exact aa (TM A (C G 0) g)∘aa (V1 (KO A (C G 0)))<|rt _ f
 refine cZ I ?_;refine(cF f) ?_ ?_<;>intro aC h9 f
 ·refine aY fun aE=>?_;refine(ac P)<|?_;have q:0<G.length:=ch
  have af:1<G.length:=ch;simp[q,ZG,af];refine(cb) ?_;exact(aa (tv A (C G 0) (C G 1) g))<|rt _ f
 refine cZ h3 ?_;refine(cF f) ?_ ?_<;>intro aG ak f
 ·exact aa (YJ.rd (IW A.b (sg (ZF.YW g))))∘aa (Oq (Qk A.b) fm)<|rt _ f
 refine(cF f) ?_ ?_<;>intro s am f
 ·refine aY fun V=>?_;exact av P∘aa (YJ.rd (uV A ct ct ct))∘aa (YJ.rd (oW A.b.a A.b.b (z6 A) df df df))∘aa (Oq (qg A.b.a A.b.b (z6 A)) fm)<|rt _ f
 refine cZ h5 ?_;refine(cF f) ?_ ?_<;>intro aq az f
 ·exact(aa (In A ct ct))<|rt _ f
 refine(cF f) ?_ ?_<;>intro Q au f
 ·exact aa (nI A ct ct)∘cQ f<|fun aN ap f=>rt _ f
 exact rt _ f
theorem KR(h:b)(k:a:=by(intros;first|omega|with_unfolding_all (first|first|omega|(have z:=Xw (Zh (i:=0) (Qd (n:=1048577) (A:=E) et));have t:=Z2 ((Zl (Z0 E).tail).1.length:Int);omega)|(have z:0<(Z0 E).length:=(by exact List.length_pos_iff.2 (fun e=>by rw[e]at I;simp at I));omega))|exact wt)):a/\b:=⟨k,h⟩
theorem ww(A:ZF)(E:ByteArray)(g:R 1048576 A)(w:R 1048576 E)(L:aB A.a<=1048576)(a:Dx (M.mk (Qi A) [])<=67108900):Sa 25 [A.row,rS E] [(xW A E).1.row,rS (xW A E).2]:=by
 have f:=me (xW.eq_1 A E);refine so func25 ntmps25∘aa (YJ.rd (nD E (by exact sg w)))∘bC f<|fun k1 I f=>?_;have N:0<(Z0 E).length:=b5;simp[N,ZG];refine(bW) ?_;refine(cF f) ?_ ?_<;>intro k2 X f
 ·exact(aa (GJ A (Z0 E) 4 dh dh dh))<|rt _ f
 refine(cF f) ?_ ?_<;>intro k3 h3 f
 ·exact(aa (GJ A (Z0 E) 3 dh dh dh))<|rt _ f
 refine(bg f) ?_ ?_<;>intro k4 h4 f
 ·exact(aa (vL A (Z0 E) fN fN fN))<|rt _ f
 simp;refine(bW) ?_;refine aa (YJ.rd (RO ((Z0 E).tail) (by exact ZT (n:=1048577) aq (Eb (Qd (n:=1048577) (A:=E) et)))))∘cQ f<|fun k5 h5 f=>(ac P)<|?_;simp[N,ZG];refine(bW) ?_;refine(cR (Xg ((Zl ((Z0 E).tail)).1.length:Int)))<|?_;have o1:=Z2 ((Zl ((Z0 E).tail)).1.length:Int)
 simp;refine(bW) ?_;refine(cF f) ?_ ?_<;>intro c h6 f
 ·refine aY fun k8=>?_;refine(ac P)<|?_;have i2:0<(Zl ((Z0 E).tail)).1.length:=b5
  simp[i2,ZG];refine(bW) ?_;exact(aa (K7 A (YT.mk 1 (C (Zl ((Z0 E).tail)).1 0) 0 0 0 (ZV.mk 0 ([]:List ByteArray) ([]:List Int)) ([]:List Int)) bu bu))<|rt _ f
 refine(cF f) ?_ ?_<;>intro k9 h7 f
 ·refine aY fun al=>?_;refine(ac P)<|?_;have i3:0<(Zl ((Z0 E).tail)).1.length:=b5
  simp[i3,ZG];refine(bW) ?_;exact(aa (K7 A (YT.mk 3 (C (Zl ((Z0 E).tail)).1 0) 0 0 0 (ZV.mk 0 ([]:List ByteArray) ([]:List Int)) ([]:List Int)) bu bu))<|rt _ f
 refine(cF f) ?_ ?_<;>intro ar h8 f
 ·refine aY fun v=>?_;refine(ac P)<|?_;have i4:0<(Zl ((Z0 E).tail)).1.length:=b5
  simp[i4,ZG];refine(bW) ?_;exact(aa (K7 A (YT.mk 4 (C (Zl ((Z0 E).tail)).1 0) 0 0 0 (ZV.mk 0 ([]:List ByteArray) ([]:List Int)) ([]:List Int)) bu bu))<|rt _ f
 refine(cF f) ?_ ?_<;>intro ax h9 f
 ·refine aY fun aD=>?_;refine(ac P)<|?_;have d:0<(Zl ((Z0 E).tail)).1.length:=b5
  simp[d,ZG];refine(bW) ?_;exact(aa (K7 A (YT.mk 7 (C (Zl ((Z0 E).tail)).1 0) 0 0 0 (ZV.mk 0 ([]:List ByteArray) ([]:List Int)) ([]:List Int)) bu bu))<|rt _ f
 refine(cF f) ?_ ?_<;>intro ay ak f
 ·refine aY fun aH=>?_;refine(ac P)<|?_;have i6:0<(Zl ((Z0 E).tail)).1.length:=b5
  have i7:1<(Zl ((Z0 E).tail)).1.length:=b5;have i8:2<(Zl ((Z0 E).tail)).1.length:=b5;simp[i6,ZG,i7,i8];refine(bW) ?_;exact(aa (K7 A (YT.mk 6 (C (Zl ((Z0 E).tail)).1 0) (C (Zl ((Z0 E).tail)).1 1) (C (Zl ((Z0 E).tail)).1 2) 0 (ZV.mk 0 ([]:List ByteArray) ([]:List Int)) ([]:List Int)) bu bu))<|rt _ f
 refine(cF f) ?_ ?_<;>intro aC am f
 ·refine aY fun aE=>?_;refine(ac P)<|?_;have q:0<(Zl ((Z0 E).tail)).1.length:=b5
  have af:1<(Zl ((Z0 E).tail)).1.length:=b5;simp[q,ZG,af];refine(bW) ?_;exact(aa (K7 A (YT.mk 9 (C (Zl ((Z0 E).tail)).1 0) (C (Zl ((Z0 E).tail)).1 1) 0 0 (ZV.mk 0 ([]:List ByteArray) ([]:List Int)) ([]:List Int)) bu bu))<|rt _ f
 refine(cF f) ?_ ?_<;>intro aG az f
 ·refine aY fun s=>?_;refine(ac P)<|?_;have ad:0<(Zl ((Z0 E).tail)).1.length:=b5
  have r:1<(Zl ((Z0 E).tail)).1.length:=b5;simp[ad,ZG,r];refine(bW) ?_;exact(aa (K7 A (YT.mk 10 (C (Zl ((Z0 E).tail)).1 0) (C (Zl ((Z0 E).tail)).1 1) 0 0 (ZV.mk 0 ([]:List ByteArray) ([]:List Int)) ([]:List Int)) bu bu))<|rt _ f
 refine(ac P)<|?_;simp[N,ZG];refine(bW) ?_;exact(aa (mT A (C (Z0 E) 0) (Zl ((Z0 E).tail)).1 (by first|exact g|exact L|exact a) (by exact Zh (Qd (n:=1048576+1) et)) (by exact xi (by have z:=Z7 (Qd (n:=1048577) (A:=E) et);rw[List.length_tail];omega)) b7 b7))<|rt _ f
theorem Db(A:ZF)(E:ByteArray)(g:R 1048576 A)(w:R 1048576 E)(L:aB A.a<=1048576)(a:Dx (M.mk (Qi A) [])<=67108900):y 7 [A.row,rS E] [(yq A E).1.row,rS (yq A E).2]:=have f:=me (yq.eq_1 A E);ao func7 ntmps7∘aa (ww A E ee ee ee ee)∘ah qW (Yk (xW A E).1 (by exact ZT (n:=1048577) aq (oX (n:=1048576) aq g (fun h=>Y) aq)))<|ag _ f
end Go.Proofs.YtipadonicggnbaaGreat
