/- Contracts of the functions Hb the abstract machine, part S3. No condition. -/
import Derived.Test.YtipadonicggnbaaGreatCS2
namespace Go.Proofs.YtipadonicggnbaaGreat
open Tryz
open Go.Vm Go.Mo
set_option maxHeartbeats 1000000
set_option maxRecDepth 100000
set_option linter.unusedSimpArgs false
set_option linter.unusedVariables false
variable{a b:Prop}
theorem RH(A:Int)(E:t)(g:R 2322432 E):Sa 281 [rI A,E.row] [rI (JL A E)]:=by
 rw[<-HV];have f:=me (Th.eq_1 A E)
 refine so func281 ntmps281∘aa (AW E (sg g))∘cQ f<|fun k1 I f=>(aG (X7.eq_2 A E) (fun J=>Z3 76 [eI 0 A,eX 3 (E.row.map .d),eI 5 (J:Int)]) (fun D J=>E.c.length<D+J/\J<=E.c.length) (E.c.length+1) 0)<|fun p1 J H T=>(aM) ?_ ?_<;>intro B
 ·have g1:=B;try simp at g1
  have N:J<E.c.length:=cu;refine(l N)<|(cK H) ?_ ?_<;>intro k3 X H
  ·have m2:=ml E.c (k3 13 _ rfl);have c1:=sl 2322432 E.c g;have K:=wr J;exact aE (an K B) H
  ·have f:=ms f H;refine(lq (X9.eq_2 A E J) (fun q n=>Z3 76 [eI 0 A,eX 3 (E.row.map .d),eI 5 (J:Int),(6,.one (.O 6 0 0 q.length),[.arr false 1 (q.map S)]),eI 7 (n:Int)]) (fun n2 q n=>E.b.length<n2+n/\n<=E.b.length/\q.length<=1+1*n) (E.b.length+1) ([E.e]:List Int) 0 (h0:=aw [((6,0),some (29,0))] []))<|fun p2 q n e2 j2=>(aL)<|(ba e2) ?_ ?_<;>intro k5 h3 e2
   ·have i3:=ix h3;have m4:=ml E.b (k5 32 _ rfl);have c3:=sl 2322432 E.b g;have w2:=wr n;refine(l i3)<|(cK e2) ?_ ?_<;>intro k6 h4 e2
    ·refine(ac P)<|?_;have i4:n<E.a.length:=cu
     have d:n<E.d.length:=cu;refine l (an i4 d)∘aT (VV A (C E.a n) (C E.d n) (sg (Zh (t.xy g))))<|?_;exact ay e2 (hw:=Ya [((6,0),some (56,0))] [] rfl (by simp[w2,B]))
    ·refine(c9 e2) ?_ ?_<;>intro k8 h5 e2
     ·exact s _ (ms f e2)
     ·have i6:n<E.f.length:=cu;have i7:J<(C E.f n).length:=cu;refine(l (an i6 i7))<|?_;exact ay e2 (hw:=Ya [((6,0),some (72,0))] [] rfl (by simp[w2,B]))
   ·have c4:=sl 2322432 E.b g;have f:=ms f e2;exact(aT (KG A q bL))<|s _ f
 ·refine(cK H) ?_ ?_<;>intro k9 h6 H
  ·simp[B]at h6
  ·have f:=ms f H;refine(lq (X9.eq_2 A E J) (fun j O=>Z3 76 [eI 0 A,eX 3 (E.row.map .d),eI 5 (J:Int),(6,.one (.O 6 0 0 j.length),[.arr false 1 (j.map S)]),eI 7 (O:Int)]) (fun p j O=>E.b.length<p+O/\O<=E.b.length/\j.length<=1+1*O) (E.b.length+1) ([E.e]:List Int) 0 (h0:=aw [((6,0),some (29,0))] []))<|fun p3 j O e3 b=>(aL)<|(ba e3) ?_ ?_<;>intro ar h7 e3
   ·have af:=ix h7;have m8:=ml E.b (ar 32 _ rfl);have c7:=sl 2322432 E.b g;have Q:=wr O;refine(l af)<|(cK e3) ?_ ?_<;>intro v h8 e3
    ·refine(ac P)<|?_;have ad:O<E.a.length:=cu
     have r:O<E.d.length:=cu;refine l (an ad r)∘aT (VV A (C E.a O) (C E.d O) (sg (Zh (t.xy g))))<|?_;exact ay e3 (hw:=Ya [((6,0),some (56,0))] [] rfl (by simp[Q,B]))
    ·refine(c9 e3) ?_ ?_<;>intro aD h9 e3
     ·exact s _ (ms f e3)
     ·have ae:O<E.f.length:=cu;have w:J<(C E.f O).length:=cu;refine(l (an ae w))<|?_;exact ay e3 (hw:=Ya [((6,0),some (72,0))] [] rfl (by simp[Q,B]))
   ·have M:=sl 2322432 E.b g;have f:=ms f e3;exact(aT (KG A j bL))<|s _ f
theorem Ii(A:ZY)(E:t)(g:R 2318336 A)(w:R 2318336 E):y 356 [A.row,E.row] [Z 1 S (KC A E)]:=by
 have f:=me (KC.eq_1 A E);refine ao func356 ntmps356∘ap (zJ.eq_2 A E) (fun J U=>Z3 27 [eX 2 (A.row.map .d),eX 3 (E.row.map .d),(5,.one (.O 5 0 0 J.length),[.arr false 1 (J.map S)]),eI 6 (U:Int)]) (fun D J U=>A.b.length<D+U/\U<=A.b.length/\J.length<=0+1*U) (A.b.length+1) ([]:List Int) 0 (h0:=aw [((5,0),some (7,0))] [])<|fun p1 J U H T=>(cF H) ?_ ?_<;>intro k2 I H
 ·have N:=ix I;have m2:=ml A.b (k2 10 _ rfl);have c1:=sl 2318336 A.b (an g w);have K:=wr U;refine ac P∘xp N∘aa (RH (C A.b U).b E (sg w))<|?_;exact ay H (hw:=Ya [((5,0),some (25,0))] [] rfl ad)
 exact ag _ (ms f H)
theorem N4(h:b)(k:a:=by(intros;first|omega|with_unfolding_all (first|(first|omega|(have z:=Z7 (M.Y8 g);omega)))|exact wt)):a/\b:=⟨k,h⟩
theorem Nq(A:M)(E:t)(g:R 2314240 A)(w:R 2314240 E):So 280 [A.row,E.row] [Z 1 (aH 1 S) (QP A E)]:=by
 have f:=me (QP.eq_1 A E);refine so func280 ntmps280∘bB∘ap (Jx.eq_2 A E) (fun J U=>Z3 26 [eX 2 (A.row.map .d),eX 3 (E.row.map .d),(5,.one (.O 5 0 0 J.length),[.arr false 1 (J.map (aH 1 S))]),eI 6 (U:Int)]) (fun D J U=>A.a.length<D+U/\U<=A.a.length/\J.length<=U) (A.a.length+1) ([]:List (List Int)) 0 (h0:=aw [((5,0),some (7,0))] [])<|fun p1 J U H T=>(cF H) ?_ ?_<;>intro k2 I H
 ·have N:=ix I;have m2:=ml A.a (k2 10 _ rfl);have c1:=sl 2314240 A.a (an g w);have K:=wr U;refine(ac P)<|?_;simp[N,ZG];refine aa (YJ.rd (Ii (C A.a U) E (sg (Zh (M.Y8 g))) (sg w)))∘bB<|?_;refine bz rfl rfl rfl ?_;simp;repeat with_reducible refine N4 ?_
  exact ay H (hw:=Ya [((5,0),some (24,0))] [] rfl ad)
 exact bT _ (ms f H)
theorem FB(A:ZP)(E:M)(G:t)(V:Zu)(g:R 2277376 A)(w:R 2277376 E)(L:R 2277376 G)(a:rl E<=2097152):Sa 197 [A.row,E.row,G.row,V.row] [(j6 A E G V).row]:=have f:=me (j6.eq_1 A E G V);so func197 ntmps197∘av P∘aa (Nq E G bK bK)∘aa (RH V.b G bK)∘aa (OP A E (QP E G) (JL V.b G) V bK bK bK bK)<|rt _ f
theorem Dh(A:ZP)(E:ZU)(G:t)(g:R 2273280 A)(w:R 2097152 E)(L:R 2273280 G):Sa 119 [A.row,E.row,G.row] [(ym A E G).row]:=have f:=me (ym.eq_1 A E G);so func119 ntmps119∘av P∘aa (OL E cg)∘aa (FB A (JB E) G E.d cg cg cg cg)<|rt _ f
theorem RS(h:b)(k:a:=by(intros;first|omega|with_unfolding_all (first|first|omega|(have z:=TI (ju (n:=1048576) (A:=C (C A.a (u A (C E 0)).1.toNat).a (u A (C E 0)).2.toNat) (E:=[C E 1]) (Zh (ZE.YO (Zh (ZF.Zz g)))));omega)|(have h0:0<=(u A (C E 0)).1:=(by simp at I;omega);have l:=YA A (C E 0) h0;omega))|exact wt)):a/\b:=⟨k,h⟩
theorem FU(A:ZF)(E:List Int)(G:Bool)(g:R 1048576 A)(w:(G=false->1<=E.length)/\(G=true->2<=E.length))(L:0<E.length):Sa 58 [A.row,Z 1 S E,rB G] [rS (Rx A E G)]:=by
 have f:=me (Rx.eq_1 A E G);refine so func58 ntmps58∘ac P<|?_;have N:0<E.length:=eH;simp[N,ZG];refine aa (SL A (C E 0))∘cQ f<|fun k2 I f=>(bg f) ?_ ?_<;>intro k3 X f
 ·refine aY fun k4=>?_;refine(ac P)<|?_;simp[N,ZG];exact aa (TY A (C E 0) (by exact g))∘aa (V0 (Jn A (C E 0)))<|rt _ f
 have i2:(u A (C E 0)).1.toNat<A.a.length:=eH;have i3:(u A (C E 0)).2.toNat<(C A.a (u A (C E 0)).1.toNat).a.length:=eH;simp[i2,ZG,i3];repeat with_reducible refine RS ?_
 refine(ac P)<|?_;have i4:1<E.length:=eH
 simp[i4,ZG];repeat with_reducible refine RS ?_
 refine ah [true,false,false,false,false] (I2 (C (C A.a (u A (C E 0)).1.toNat).a (u A (C E 0)).2.toNat) ([C E 1]:List Int) (by exact sg (Zh (ZE.YO (Zh (ZF.Zz g))))) (by exact⟨Nat.le_of_ble_eq_true rfl,fun _ _=>trivial⟩))∘cQ f<|fun k6 h3 f=>av P∘cR (Hc (Xf _ _).1 (by exact ZT aq (ju (A:=C (C A.a (u A (C E 0)).1.toNat).a (u A (C E 0)).2.toNat) (E:=[C E 1]) (Zh (ZE.YO (Zh (ZF.Zz g)))))))<|?_;simp;repeat with_reducible refine RS ?_
 refine aa (Dh A.b (C (C A.a (u A (C E 0)).1.toNat).a (u A (C E 0)).2.toNat) (Xf _ _).1 i5 i5 (by first|exact sg (ZF.YW g)|exact sg (Zh (ZE.YO (Zh (ZF.Zz g))))|exact ZT aq (ju (A:=C (C A.a (u A (C E 0)).1.toNat).a (u A (C E 0)).2.toNat) (E:=[C E 1]) (Zh (ZE.YO (Zh (ZF.Zz g)))))))∘cR (V0 (ym A.b (C (C A.a (u A (C E 0)).1.toNat).a (u A (C E 0)).2.toNat) (Xf (C (C A.a (u A (C E 0)).1.toNat).a (u A (C E 0)).2.toNat) ([C E 1]:List Int)).1))<|?_;have o1:=Kn (ym A.b (C (C A.a (u A (C E 0)).1.toNat).a (u A (C E 0)).2.toNat) (Xf (C (C A.a (u A (C E 0)).1.toNat).a (u A (C E 0)).2.toNat) ([C E 1]:List Int)).1)
 simp;repeat with_reducible refine RS ?_
 exact rt _ f
theorem LX(A:ZP)(E:ZU)(g:R 2269184 A)(w:R 2097152 E):Sa 199 [A.row,E.row] [rS (xu A E)]:=by have f:=me (xu.eq_1 A E);refine so func199 ntmps199∘av P<|?_;have o1:=Z2 E.b;refine(aa (XV E.b))<|?_;have V:=Z2 E.d.c;refine(aa (XV E.d.c))<|?_;have o3:=Z2 (E.a.a.length:Int);refine(aa (XV (E.a.a.length:Int)))<|?_;have b:=Z2 (E.a.b.length:Int);refine aa (XV (E.a.b.length:Int))∘aa (IF A E cO cO)<|?_;have a:=Kn (jM A E);exact(aa (V0 (jM A E)))<|rt _ f
theorem Gp(A:ZP)(E:ZE)(g:R 1048576 A)(w:R 1048576 E):Sa 120 [A.row,E.row] [rS (jx A E)]:=by
 have f:=me (jx.eq_1 A E);refine so func120 ntmps120∘cQ f<|fun k1 I f=>(ap (yP.eq_2 A E) (fun J U=>Z3 32 [eX 2 (A.row.map .d),eX 3 (E.row.map .d),(5,.one (.d (.str J)),[]),eI 6 (U:Int)]) (fun D J U=>E.a.length<D+U/\U<=E.a.length/\J.size<=402*U) (E.a.length+1) (⟨#[]⟩:ByteArray) 0 (v:=by exact⟨Y,Y,Nat.zero_le _,Nat.zero_le _⟩))<|fun p1 J U H T=>(cF H) ?_ ?_<;>intro k3 X H
 ·have N:=ix X;have m2:=ml E.a (k3 13 _ rfl);have c1:=sl 1048576 E.a (an g w);have K:=wr U;refine(cF H) ?_ ?_<;>intro k4 h3 H
  ·refine aY fun k5=>?_;refine ac P∘xp N<|?_;have o1:=OB A (C E.a U)
   refine(aa (LX A (C E.a U) (sg g) (sg (Zh (ZE.YO w)))))<|?_;exact au K H
  refine ac P∘xp N<|?_;have V:=OB A (C E.a U)
  refine(aa (LX A (C E.a U) (sg g) (sg (Zh (ZE.YO w)))))<|?_;exact au K H
 exact rt _ (ms f H)
theorem Dn(A:Zc):Sa 282 [A.row] [rI (qK A)]:=have f:=me (qK.eq_1 A);(so func282 ntmps282)<|rt _ f
theorem AM(A:ZY):Sa 200 [A.row] [rI (Wh A)]:=by
 rw[<-BH];have f:=me (MB.eq_1 A)
 refine so func200 ntmps200∘ap (U9.eq_2 A) (fun J U=>Z3 39 [eX 1 (A.row.map .d),eI 3 J,eI 4 (U:Int)]) (fun D J U=>A.a.length<D+U/\U<=A.a.length) (A.a.length+1) 0 0<|fun p1 J U H T=>(ae H) ?_ ?_<;>intro k2 I H
 ·have N:=ix I;have m2:=ml A.a (k2 8 _ rfl);have K:=wr U;refine(xp N)<|?_;exact au K H
 have f:=ms f H;refine(ap (Ud.eq_2 A) (fun q n=>Z3 39 [eX 1 (A.row.map .d),eI 3 q,eI 5 (n:Int)]) (fun n2 q n=>A.b.length<n2+n/\n<=A.b.length) (A.b.length+1) J 0)<|fun p2 q n e2 j2=>(ae e2) ?_ ?_<;>intro k4 X e2
 ·have i2:=ix X;have m4:=ml A.b (k4 25 _ rfl);have w2:=wr n;refine xp i2∘aa (Dn (C A.b n))<|?_;exact au w2 e2
 exact rt _ (ms f e2)
theorem Ds(A:ZE):Sa 121 [A.row] [rI (zz A)]:=by
 have f:=me (zz.eq_1 A);refine so func121 ntmps121∘ap (Vg.eq_2 A) (fun J U=>Z3 22 [eX 1 (A.row.map .d),eI 3 J,eI 4 (U:Int)]) (fun D J U=>A.a.length<D+U/\U<=A.a.length) (A.a.length+1) 0 0<|fun p1 J U H T=>(ae H) ?_ ?_<;>intro k2 I H
 ·have N:=ix I;have m2:=ml A.a (k2 7 _ rfl);have K:=wr U;refine xp N∘aa (AM (C A.a U).a)<|?_;exact au K H
 exact rt _ (ms f H)
theorem lK(A:ZP)(E:Zc):Sa 358 [A.row,E.row] [rI (SN A E)]:=by
 rw[<-S3];have f:=me (vC.eq_1 A E)
 refine so func358 ntmps358∘aa (WR A.c E.b)∘ap (Pe.eq_2 A E) (fun J U=>Z3 45 [eX 2 (A.row.map .d),eX 3 (E.row.map .d),eI 5 J,eI 6 (U:Int)]) (fun D J U=>E.a.length<D+U/\U<=E.a.length) (E.a.length+1) (Wi A.c E.b) 0<|fun p1 J U H T=>(cF H) ?_ ?_<;>intro k2 I H
 ·have N:=ix I;have m2:=ml E.a (k2 15 _ rfl);have K:=wr U;refine ac P∘xp N∘aa (T7 A.b (C E.a U))∘aa (QA A.a (Yq A.b (C E.a U)))<|(cF H) ?_ ?_<;>intro k4 X H
  ·exact rt _ (ms f H)
  refine(ac P)<|?_;have i2:(Zi A.a (Yq A.b (C E.a U))).toNat<A.a.length:=by have:=Yy A.a (Yq A.b (C E.a U));exact il
  refine xp i2∘aa (WR A.c (C A.a (Zi A.a (Yq A.b (C E.a U))).toNat).b)∘aa (SW J (Wi A.c (C A.a (Zi A.a (Yq A.b (C E.a U))).toNat).b))<|?_;exact au K H
 exact rt _ (ms f H)
theorem nw(A:ZP)(E:ZU):Sa 283 [A.row,E.row] [rI (N2 A E)]:=by have f:=me (N2.eq_1 A E);refine so func283 ntmps283∘cQ f<|fun k1 I f=>?_;refine aY fun k2=>?_;refine(ac P)<|?_;have N:=ik (E.a.b.length-1) E.a.b;have q:=ml E.a.b (k2 8 _ rfl);have K:IntKind.i64.wrap ((E.a.b.length:Int)-1)=(E.a.b.length:Int)-1:=YF Y Y;exact xp (an N K)∘aa (lK A (C E.a.b (E.a.b.length-1)))<|rt _ f
theorem EF(A:ZP)(E:ZU)(G:Int):Sa 201 [A.row,E.row,rI G] [rB (qk A E G)]:=by
 rw[<-F5];have f:=me (Pr.eq_1 A E G)
 exact so func201 ntmps201∘av P∘aj (fun gg=>nw A E)<|rt _ f
theorem sK(A:ZP)(E:ZE)(G:Int)(g:R 2322432 A)(w:R 2322432 E):y 122 [A.row,E.row,rI G] [Z 1 S (qC A E G)]:=by
 have f:=me (qC.eq_1 A E G);refine ao func122 ntmps122∘ap (Wa.eq_2 A E G) (fun J U=>Z3 35 [eI 2 G,eX 3 (A.row.map .d),eX 4 (E.row.map .d),(7,.one (.O 7 0 0 J.length),[.arr false 1 (J.map S)]),eI 8 (U:Int)]) (fun D J U=>E.a.length<D+U/\U<=E.a.length/\J.length<=0+1*U) (E.a.length+1) ([]:List Int) 0 (h0:=aw [((7,0),some (9,0))] [])<|fun p1 J U H T=>(cF H) ?_ ?_<;>intro k2 I H
 ·have N:=ix I;have m2:=ml E.a (k2 12 _ rfl);have c1:=sl 2322432 E.a (an g w);have K:=wr U;refine ac P∘xp N∘aa (EF A (C E.a U) G)<|(ae H) ?_ ?_<;>intro k4 X H
  ·refine(xp N)<|?_;exact ay H (hw:=Ya [((7,0),some (33,0))] [] rfl ad)
  exact au K H
 exact ag _ (ms f H)
theorem M6(h:b)(k:a:=by(intros;first|omega|with_unfolding_all (first|first|omega|exact he w I)|exact wt)):a/\b:=⟨k,h⟩
theorem S6(A:ZF)(E:ByteArray)(G:List Int)(g:R 1048576 A)(w:0<=C G 0)(L:(E=⟨#[115,104,111,119]⟩\/E=⟨#[115,105,122,101]⟩)/\1<=G.length\/2<=G.length):Sa 59 [A.row,rS E,Z 1 S G] [rS (ji A E G)]:=by
 have f:=me (ji.eq_1 A E G);refine so func59 ntmps59∘ac P<|?_;have N:0<G.length:=fB;simp[N,ZG];refine(cQ f)<|fun k2 I f=>(ac P)<|?_;have i2:(C G 0).toNat<A.a.length:=fB;simp[N,ZG,i2];repeat with_reducible refine M6 ?_
 refine(cF f) ?_ ?_<;>intro k4 X f
 ·exact(aa (Gp A.b (C A.a (C G 0).toNat) er er))<|rt _ f
 refine(cF f) ?_ ?_<;>intro k5 h3 f
 ·exact aa (Ds (C A.a (C G 0).toNat))∘aa (XV (zz (C A.a (C G 0).toNat)))<|rt _ f
 refine(ac P)<|?_;have i3:1<G.length:=fB
 simp[i3,ZG];repeat with_reducible refine M6 ?_
 exact aa (YJ.rd (sK A.b (C A.a (C G 0).toNat) (C G 1) er er))∘aa (M3 (qC A.b (C A.a (C G 0).toNat) (C G 1)) (by exact ZT aq (Ty (Zh (ZF.Zz g)))))<|rt _ f
theorem nz(h:b)(k:a:=by(intros;first|omega|with_unfolding_all (first|first|omega)|exact wt)):a/\b:=⟨k,h⟩
theorem tN(A:ZF)(E:List ByteArray)(g:R 1048576 A)(w:R 1048577 E)(L:0<E.length)(a:aB A.a<=1048576)(e:Dx (M.mk (Qi A) [])<=67108900):Sa 20 [A.row,Z 1 sR E] [rS (Rr A E)]:=by
 have f:=me (Rr.eq_1 A E);refine El func20 rfl ai ?_;simp[ntmps20];repeat with_reducible refine nz ?_
 refine aa (YJ.rd (jf _ (by exact sg (Eb w))))∘cQ f<|fun k1 I f=>(ae f) ?_ ?_<;>intro k2 X f
 ·have N:0<E.length:=by first|omega
  simp[N,ZG];refine(cF f) ?_ ?_<;>intro k3 h3 f
  ·exact aa (YJ.rd (L1 A.b (by exact sg (ZF.YW g))))∘aa (M3 _ (by first|exact sg (yE (ZF.YW g))|exact ZT (n:=101) aq (TD _ _ _)))<|rt _ f
  refine(cF f) ?_ ?_<;>intro k4 h4 f
  ·refine aY fun k5=>?_;exact av P∘aa (YJ.rd (vI A ct ct ct))∘aa (YJ.rd (mO A.b.a A.b.b _ df df df))∘aa (M3 (qg A.b.a A.b.b (z6 A)) (by first|exact sg (yE (ZF.YW g))|exact ZT aq (TD _ _ _)))<|rt _ f
  refine(cF f) ?_ ?_<;>intro k6 h5 f
  ·exact(aa (E2 A ez ez))<|rt _ f
  refine(cF f) ?_ ?_<;>intro c h6 f
  ·exact aa (re A ez ez)∘cQ f<|fun k8 h7 f=>rt _ f
  exact rt _ f
 refine(ae f) ?_ ?_<;>intro k9 h8 f
 ·have i2:0<E.length:=by first|omega
  simp[i2,ZG];refine(cF f) ?_ ?_<;>intro al h9 f
  ·exact(aa (FU A (Z5 (E.tail)).1 false di di di))<|rt _ f
  refine(cF f) ?_ ?_<;>intro ar ak f
  ·refine dj ak ?_;refine(ac P)<|?_;simp[i2,ZG];exact(aa (S6 A _ (Z5 _).1 cE cE cE))<|rt _ f
  refine(cF f) ?_ ?_<;>intro ax am f
  ·refine aY fun aD=>?_;refine(ac P)<|?_;simp[i2,ZG];exact(aa (S6 A _ (Z5 _).1 cE cE cE))<|rt _ f
  exact rt _ f
 refine(ae f) ?_ ?_<;>intro ay az f
 ·have i3:0<E.length:=by first|omega
  simp[i3,ZG];refine(cF f) ?_ ?_<;>intro aH au f
  ·exact(aa (FU A (Z5 (E.tail)).1 true di di di))<|rt _ f
  refine(cF f) ?_ ?_<;>intro aC ap f
  ·refine aY fun aE=>?_;refine(ac P)<|?_;simp[i3,ZG];exact(aa (S6 A (C E 0) (Z5 _).1 cE cE cE))<|rt _ f
  exact rt _ f
 exact rt _ f
theorem DM(h:b)(k:a:=by(intros;first|omega|with_unfolding_all (first|first|omega|exact List.length_pos_iff.2 (fun e=>by rw[e]at I;cases I))|exact wt)):a/\b:=⟨k,h⟩
theorem Dk(A:ZF)(E:ByteArray)(g:R 1048576 A)(w:R 1048576 E)(L:aB A.a<=1048576)(a:Dx (M.mk (Qi A) [])<=67108900):Sa 5 [A.row,rS E] [(kB A E).1.row,rS (kB A E).2]:=by
 have f:=me (kB.eq_1 A E);refine so func5 ntmps5∘aa (YJ.rd (rD E (by exact sg w)))<|(bg f) ?_ ?_<;>intro k1 I f
 ·exact(ah qW (XA A (sg g)))<|rt _ f
 have N:0<(Xs E).length:=by first|omega|exact List.length_pos_iff.2 (fun e=>by rw[e]at I;cases I)
 simp[N,ZG];repeat with_reducible refine DM ?_
 refine(cF f) ?_ ?_<;>intro k2 X f
 ·exact(aa (Fo A (Xs E) 4 dq dq dq))<|rt _ f
 refine(cF f) ?_ ?_<;>intro k3 h3 f
 ·exact(aa (Fo A (Xs E) 3 dq dq dq))<|rt _ f
 refine(cF f) ?_ ?_<;>intro k4 h4 f
 ·exact(aa (tV A (Xs E) fI fI fI))<|rt _ f
 exact aa (rb A (Xs E) fA fA fA)∘cQ f<|fun k5 h5 f=>av P∘ah qW (XA A (sg g))∘aa (tN A (Xs E) ec ec ec ec ec)<|rt _ f
end Go.Proofs.YtipadonicggnbaaGreat
