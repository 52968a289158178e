/- Contracts of the functions C7 the abstract machine, part S3. No condition. -/
import Derived.Test.YtifogammcgmjpaaGreatCS2
namespace Go.Proofs.YtifogammcgmjpaaGreat
open Tryz
open Go.Vm Go.Mo
set_option maxHeartbeats 1000000
set_option maxRecDepth 100000
set_option linter.unusedSimpArgs false
set_option linter.unusedVariables false
variable{a b:Prop}
theorem ND(A:Int)(C:t)(g:R 2322432 C):c 236 [rI A,C.row] [rI (zu A C)]:=by
 have f:=me (zu.eq_1 A C);refine so func236 ntmps236 ?_;refine aa (uO C (B g)) ?_;refine cF f ?_ ?_<;>intro k1 M f
 ·exact rt [.tmp 4] f
 refine aI (X9.eq_2 A C) (fun J=>Z6 76 [eI 0 A,eX 3 (C.row.map .d),eI 5 (J:Int)]) (fun K J=>C.c.length<K+J/\J<=C.c.length) (C.c.length+1) 0 (fun p1 J H j1=>?_);refine aK ?_ ?_<;>intro G
 ·have g1:=G;try simp at g1
  have w:J<C.c.length:=cd;refine xg w ?_;refine cK H ?_ ?_<;>intro k3 Z H
  ·have m2:=ml C.c (k3 13 _ rfl);have c1:=sl 2322432 C.c g;have D:=wr J;exact aH (an D G) H
  ·have f:=ms f H;refine eO (QB.eq_2 A C J) (fun T q=>Z6 76 [eI 0 A,eX 3 (C.row.map .d),eI 5 (J:Int),(6,.one (.E 6 0 0 T.length),[.arr false 1 (T.map r)]),eI 7 (q:Int)]) (fun n2 T q=>C.a.length<n2+q/\q<=C.a.length/\T.length<=1+1*q) (C.a.length+1) ([C.e]:List Int) 0 (fun p2 T q e2 j2=>?_) (h0:=az [((6,0),some (29,0))] []);refine a9 ?_;refine bf e2 ?_ ?_<;>intro k5 h3 e2
   ·have i3:=ix h3;have m4:=ml C.a (k5 32 _ rfl);have c3:=sl 2322432 C.a g;have w2:=wr q;refine xg i3 ?_;refine cK e2 ?_ ?_<;>intro b h4 e2
    ·refine ae ac ?_;have i4:q<C.b.length:=cd
     have i5:q<C.d.length:=cd;refine xg (an i4 i5) ?_;refine a8 (Tv A (I C.b q) (I C.d q) (B (ZY (t.qo g)))) ?_;exact aB e2 (hw:=YR [((6,0),some (56,0))] [] rfl (by simp[w2,G]))
    ·refine dx e2 ?_ ?_<;>intro k8 h5 e2
     ·exact O [.tmp 4] (ms f e2)
     ·have i6:q<C.f.length:=cd;have i7:J<(I C.f q).length:=cd;refine xg (an i6 i7) ?_;exact aB e2 (hw:=YR [((6,0),some (72,0))] [] rfl (by simp[w2,G]))
   ·have c4:=sl 2322432 C.a g;have f:=ms f e2;refine a8 (KS A T bG) ?_;exact O [.tmp 4] f
 ·refine cK H ?_ ?_<;>intro L h6 H
  ·simp[G]at h6
  ·have f:=ms f H;refine eO (QB.eq_2 A C J) (fun j s=>Z6 76 [eI 0 A,eX 3 (C.row.map .d),eI 5 (J:Int),(6,.one (.E 6 0 0 j.length),[.arr false 1 (j.map r)]),eI 7 (s:Int)]) (fun X j s=>C.a.length<X+s/\s<=C.a.length/\j.length<=1+1*s) (C.a.length+1) ([C.e]:List Int) 0 (fun p3 j s e3 j3=>?_) (h0:=az [((6,0),some (29,0))] []);refine a9 ?_;refine bf e3 ?_ ?_<;>intro ao h7 e3
   ·have o:=ix h7;have m8:=ml C.a (ao 32 _ rfl);have c7:=sl 2322432 C.a g;have i:=wr s;refine xg o ?_;refine cK e3 ?_ ?_<;>intro d h8 e3
    ·refine ae ac ?_;have E:s<C.b.length:=cd
     have p:s<C.d.length:=cd;refine xg (an E p) ?_;refine a8 (Tv A (I C.b s) (I C.d s) (B (ZY (t.qo g)))) ?_;exact aB e3 (hw:=YR [((6,0),some (56,0))] [] rfl (by simp[i,G]))
    ·refine dx e3 ?_ ?_<;>intro av h9 e3
     ·exact O [.tmp 4] (ms f e3)
     ·have n:s<C.f.length:=cd;have l:J<(I C.f s).length:=cd;refine xg (an n l) ?_;exact aB e3 (hw:=YR [((6,0),some (72,0))] [] rfl (by simp[i,G]))
   ·have c8:=sl 2322432 C.a g;have f:=ms f e3;refine a8 (KS A j bG) ?_;exact O [.tmp 4] f
theorem EK(A:ZR)(C:t)(g:R 2318336 A)(S:R 2318336 C):Sd 300 [A.row,C.row] [rL 1 r (zA A C)]:=by
 have f:=me (zA.eq_1 A C);refine ar func300 ntmps300 ?_;refine aq (J9.eq_2 A C) (fun J U=>Z6 27 [eX 2 (A.row.map .d),eX 3 (C.row.map .d),(5,.one (.E 5 0 0 J.length),[.arr false 1 (J.map r)]),eI 6 (U:Int)]) (fun K J U=>A.a.length<K+U/\U<=A.a.length/\J.length<=0+1*U) (A.a.length+1) ([]:List Int) 0 (fun p1 J U H j1=>?_) (h0:=az [((5,0),some (7,0))] []);refine cF H ?_ ?_<;>intro k2 M H
 ·have w:=ix M;have m2:=ml A.a (k2 10 _ rfl);have c1:=sl 2318336 A.a (an g S);have D:=wr U;refine ae ac ?_;refine xp w ?_;refine aa (ND (I A.a U).c C (B S)) ?_;exact aB H (hw:=YR [((5,0),some (25,0))] [] rfl ad)
 exact ah [.tmp 4] (ms f H)
theorem HF(h:b)(k:a:=by(intros;first|omega|with_unfolding_all (first|(first|omega|(have z:=Zx (Q.Yo g);omega)))|exact wt)):a/\b:=⟨k,h⟩
theorem Ij(A:Q)(C:t)(g:R 2314240 A)(S:R 2314240 C):So 235 [A.row,C.row] [rL 1 (ag 1 r) (Jh A C)]:=by
 have f:=me (Jh.eq_1 A C);refine so func235 ntmps235 ?_;refine bA ?_;refine aq (Qw.eq_2 A C) (fun J U=>Z6 26 [eX 2 (A.row.map .d),eX 3 (C.row.map .d),(5,.one (.E 5 0 0 J.length),[.arr false 1 (J.map (ag 1 r))]),eI 6 (U:Int)]) (fun K J U=>A.a.length<K+U/\U<=A.a.length/\J.length<=U) (A.a.length+1) ([]:List (List Int)) 0 (fun p1 J U H j1=>?_) (h0:=az [((5,0),some (7,0))] []);refine cF H ?_ ?_<;>intro k2 M H
 ·have w:=ix M;have m2:=ml A.a (k2 10 _ rfl);have c1:=sl 2314240 A.a (an g S);have D:=wr U;refine ae ac ?_;simp[w,ZH];refine aa (Z7.rd (EK (I A.a U) C (B (ZY (Q.Yo g))) (B S))) ?_;refine bA ?_;refine bs rfl rfl rfl ?_;simp;repeat with_reducible refine HF ?_
  exact aB H (hw:=YR [((5,0),some (24,0))] [] rfl ad)
 exact bJ [.tmp 4] (ms f H)
theorem D7(A:ZI)(C:Q)(E:t)(N:G)(g:R 2277376 A)(S:R 2277376 C)(u2:R 2277376 E)(a:nJ C<=2097152):c 163 [A.row,C.row,E.row,N.row] [(W8 A C E N).row]:=by have f:=me (W8.eq_1 A C E N);refine so func163 ntmps163 ?_;refine aw ac ?_;refine aa (Ij C E cH cH) ?_;refine aa (ND N.c E cH) ?_;refine aa (Lp A C (Jh C E) (zu N.c E) N cH cH (by(first|exact B g|exact B S|exact B u2|exact a|exact B (Qm S))) cH) ?_;exact rt _ f
theorem Sa(A:ZI)(C:ZU)(E:t)(g:R 2273280 A)(S:R 2097152 C)(u2:R 2273280 E):c 96 [A.row,C.row,E.row] [(xQ A C E).row]:=by have f:=me (xQ.eq_1 A C E);refine so func96 ntmps96 ?_;refine aw ac ?_;refine aa (M1 C cs) ?_;refine aa (D7 A (yX C) E C.d cs hy cs cs) ?_;exact rt _ f
theorem NQ(h:b)(k:a:=by(intros;first|omega|with_unfolding_all (first|first|omega|(have z:=FM (Wt (n:=1048576) (A:=I (I A.a (u A (I C 0)).1.toNat).a (u A (I C 0)).2.toNat) (C:=[I C 1]) (ZY (ZD.Z8 (ZY (P.Zs g)))));omega)|(have h0:0<=(u A (I C 0)).1:=(by simp at M;omega);have d:=Y2 A (I C 0) h0;omega))|exact wt)):a/\b:=⟨k,h⟩
theorem C3(A:P)(C:List Int)(E:Bool)(g:R 1048576 A)(S:(E=false->1<=C.length)/\(E=true->2<=C.length))(u2:0<C.length):c 48 [A.row,rL 1 r C,rB E] [rS (Nv A C E)]:=by
 have f:=me (Nv.eq_1 A C E);refine so func48 ntmps48 ?_;refine ae ac ?_;have w:0<C.length:=dZ;simp[w,ZH];refine aa (OG A (I C 0)) ?_;refine cF f ?_ ?_<;>intro k2 M f
 ·exact rt _ f
 refine aQ f ?_ ?_<;>intro k3 Z f
 ·refine aW fun k4=>?_;refine ae ac ?_;simp[w,ZH];refine aa (PL A (I C 0) (by exact g)) ?_;refine aa (T6 (Jq A (I C 0))) ?_;exact rt _ f
 have V:(u A (I C 0)).1.toNat<A.a.length:=dZ;have i3:(u A (I C 0)).2.toNat<(I A.a (u A (I C 0)).1.toNat).a.length:=dZ;simp[V,ZH,i3];repeat with_reducible refine NQ ?_
 refine ae ac ?_;have i4:1<C.length:=dZ
 simp[i4,ZH];repeat with_reducible refine NQ ?_
 refine ai [true,false,false,false,false] (Vb (I (I A.a (u A (I C 0)).1.toNat).a (u A (I C 0)).2.toNat) ([I C 1]:List Int) (by exact B (ZY (ZD.Z8 (ZY (P.Zs g))))) (by exact⟨Nat.le_of_ble_eq_true rfl,fun _ _=>trivial⟩)) ?_;refine cF f ?_ ?_<;>intro b h3 f
 ·exact rt _ f
 refine aw ac ?_;refine cR (DH (J1 _ _).1 (by exact ZJ au (Wt (A:=I (I A.a (u A (I C 0)).1.toNat).a (u A (I C 0)).2.toNat) (C:=[I C 1]) (ZY (ZD.Z8 (ZY (P.Zs g))))))) ?_;simp;repeat with_reducible refine NQ ?_
 refine aa (Sa A.b (I (I A.a (u A (I C 0)).1.toNat).a (u A (I C 0)).2.toNat) (J1 _ _).1 ia ia (by first|exact B (P.Yc g)|exact B (ZY (ZD.Z8 (ZY (P.Zs g))))|exact ZJ au (Wt (A:=I (I A.a (u A (I C 0)).1.toNat).a (u A (I C 0)).2.toNat) (C:=[I C 1]) (ZY (ZD.Z8 (ZY (P.Zs g))))))) ?_;refine cR (T6 (xQ A.b (I (I A.a (u A (I C 0)).1.toNat).a (u A (I C 0)).2.toNat) (J1 (I (I A.a (u A (I C 0)).1.toNat).a (u A (I C 0)).2.toNat) ([I C 1]:List Int)).1)) ?_;have o1:=Ua (xQ A.b (I (I A.a (u A (I C 0)).1.toNat).a (u A (I C 0)).2.toNat) (J1 (I (I A.a (u A (I C 0)).1.toNat).a (u A (I C 0)).2.toNat) ([I C 1]:List Int)).1)
 simp;repeat with_reducible refine NQ ?_
 exact rt _ f
theorem Gf(A:ZI)(C:ZU)(g:R 2269184 A)(S:R 2097152 C):c 165 [A.row,C.row] [rS (jF A C)]:=by have f:=me (jF.eq_1 A C);refine so func165 ntmps165 ?_;refine aw ac ?_;have o1:=Yn C.b;refine aa (XP C.b) ?_;have E:=Yn C.d.a;refine aa (XP C.d.a) ?_;have o3:=Yn (C.a.b.length:Int);refine aa (XP (C.a.b.length:Int)) ?_;have b:=Yn (C.a.a.length:Int);refine aa (XP (C.a.a.length:Int)) ?_;refine aa (FY A C cl cl) ?_;have a:=Ua (kn A C);refine aa (T6 (kn A C)) ?_;exact rt _ f
theorem CL(A:ZI)(C:ZD)(g:R 1048576 A)(S:R 1048576 C):c 97 [A.row,C.row] [rS (Wy A C)]:=by
 have f:=me (Wy.eq_1 A C);refine so func97 ntmps97 ?_;refine cF f ?_ ?_<;>intro k1 M f
 ·exact rt _ f
 refine aq (yk.eq_2 A C) (fun J U=>Z6 32 [eX 2 (A.row.map .d),eX 3 (C.row.map .d),(5,.one (.d (.str J)),[]),eI 6 (U:Int)]) (fun K J U=>C.a.length<K+U/\U<=C.a.length/\J.size<=402*U) (C.a.length+1) (⟨#[]⟩:ByteArray) 0 (fun p1 J U H j1=>?_) (v:=by exact⟨Y,Y,Nat.zero_le _,Nat.zero_le _⟩);refine cF H ?_ ?_<;>intro k3 Z H
 ·have w:=ix Z;have m2:=ml C.a (k3 13 _ rfl);have c1:=sl 1048576 C.a (an g S);have D:=wr U;refine cF H ?_ ?_<;>intro k4 h3 H
  ·refine aW fun k5=>?_;refine ae ac ?_;refine xp w ?_;have o1:=M7 A (I C.a U)
   refine aa (Gf A (I C.a U) (B g) (B (ZY (ZD.Z8 S)))) ?_;exact ay D H
  refine ae ac ?_;refine xp w ?_;have E:=M7 A (I C.a U)
  refine aa (Gf A (I C.a U) (B g) (B (ZY (ZD.Z8 S)))) ?_;exact ay D H
 exact rt _ (ms f H)
theorem wg(A:ZZ):c 237 [A.row] [rI (TW A)]:=by have f:=me (TW.eq_1 A);refine so func237 ntmps237 ?_;exact rt [.tmp 2] f
theorem tz(A:ZR):c 166 [A.row] [rI (Rj A)]:=by
 have f:=me (Rj.eq_1 A);refine so func166 ntmps166 ?_;refine aq (Ro.eq_2 A) (fun J U=>Z6 39 [eX 1 (A.row.map .d),eI 3 J,eI 4 (U:Int)]) (fun K J U=>A.b.length<K+U/\U<=A.b.length) (A.b.length+1) 0 0 (fun p1 J U H j1=>?_);refine aj H ?_ ?_<;>intro k2 M H
 ·have w:=ix M;have m2:=ml A.b (k2 8 _ rfl);have D:=wr U;refine xp w ?_;exact ay D H
 have f:=ms f H;refine aq (Rg.eq_2 A) (fun T q=>Z6 39 [eX 1 (A.row.map .d),eI 3 T,eI 5 (q:Int)]) (fun n2 T q=>A.a.length<n2+q/\q<=A.a.length) (A.a.length+1) J 0 (fun p2 T q e2 j2=>?_);refine aj e2 ?_ ?_<;>intro k4 Z e2
 ·have V:=ix Z;have m4:=ml A.a (k4 25 _ rfl);have w2:=wr q;refine xp V ?_;refine aa (wg (I A.a q)) ?_;exact ay w2 e2
 exact rt _ (ms f e2)
theorem Ad(A:ZD):c 98 [A.row] [rI (VG A)]:=by
 have f:=me (VG.eq_1 A);refine so func98 ntmps98 ?_;refine aq (Ww.eq_2 A) (fun J U=>Z6 22 [eX 1 (A.row.map .d),eI 3 J,eI 4 (U:Int)]) (fun K J U=>A.a.length<K+U/\U<=A.a.length) (A.a.length+1) 0 0 (fun p1 J U H j1=>?_);refine aj H ?_ ?_<;>intro k2 M H
 ·have w:=ix M;have m2:=ml A.a (k2 7 _ rfl);have D:=wr U;refine xp w ?_;refine aa (tz (I A.a U).a) ?_;exact ay D H
 exact rt _ (ms f H)
theorem rn(A:ZI)(C:ZZ):c 302 [A.row,C.row] [rI (Fj A C)]:=by
 have f:=me (Fj.eq_1 A C);refine so func302 ntmps302 ?_;refine aa (U4 A.c C.c) ?_;refine aq (Mc.eq_2 A C) (fun J U=>Z6 45 [eX 2 (A.row.map .d),eX 3 (C.row.map .d),eI 5 J,eI 6 (U:Int)]) (fun K J U=>C.a.length<K+U/\U<=C.a.length) (C.a.length+1) (Ul A.c C.c) 0 (fun p1 J U H j1=>?_);refine cF H ?_ ?_<;>intro k2 M H
 ·have w:=ix M;have m2:=ml C.a (k2 15 _ rfl);have D:=wr U;refine ae ac ?_;refine xp w ?_;refine aa (Px A.b (I C.a U)) ?_;refine aa (Xz A.a (X6 A.b (I C.a U))) ?_;refine cF H ?_ ?_<;>intro k4 Z H
  ·exact rt _ (ms f H)
  refine ae ac ?_;have V:(Zz A.a (X6 A.b (I C.a U))).toNat<A.a.length:=by have:=Xd A.a (X6 A.b (I C.a U));exact il
  refine xp V ?_;refine aa (U4 A.c (I A.a (Zz A.a (X6 A.b (I C.a U))).toNat).c) ?_;refine aa (Ry J (Ul A.c (I A.a (Zz A.a (X6 A.b (I C.a U))).toNat).c)) ?_;exact ay D H
 exact rt _ (ms f H)
theorem Bw(A:ZI)(C:ZU):c 238 [A.row,C.row] [rI (HQ A C)]:=by
 have f:=me (HQ.eq_1 A C);refine so func238 ntmps238 ?_;refine cF f ?_ ?_<;>intro k1 M f
 ·exact rt _ f
 refine aW fun k2=>?_;refine ae ac ?_;have w:=ik (C.a.a.length-1) C.a.a
 have q:=ml C.a.a (k2 8 _ rfl);have D:IntKind.i64.wrap ((C.a.a.length:Int)-1)=(C.a.a.length:Int)-1:=YB Y Y;refine xp (an w D) ?_;refine aa (rn A (I C.a.a (C.a.a.length-1))) ?_;exact rt _ f
theorem IN(A:ZI)(C:ZU)(E:Int):c 167 [A.row,C.row,rI E] [rB (Vx A C E)]:=by have f:=me (Vx.eq_1 A C E);refine so func167 ntmps167 ?_;refine aw ac ?_;refine ak (fun p=>Bw A C) ?_;exact rt _ f
theorem JK(A:ZI)(C:ZD)(E:Int)(g:R 2322432 A)(S:R 2322432 C):Sd 99 [A.row,C.row,rI E] [rL 1 r (T7 A C E)]:=by
 have f:=me (T7.eq_1 A C E);refine ar func99 ntmps99 ?_;refine aq (WN.eq_2 A C E) (fun J U=>Z6 35 [eI 2 E,eX 3 (A.row.map .d),eX 4 (C.row.map .d),(7,.one (.E 7 0 0 J.length),[.arr false 1 (J.map r)]),eI 8 (U:Int)]) (fun K J U=>C.a.length<K+U/\U<=C.a.length/\J.length<=0+1*U) (C.a.length+1) ([]:List Int) 0 (fun p1 J U H j1=>?_) (h0:=az [((7,0),some (9,0))] []);refine cF H ?_ ?_<;>intro k2 M H
 ·have w:=ix M;have m2:=ml C.a (k2 12 _ rfl);have c1:=sl 2322432 C.a (an g S);have D:=wr U;refine ae ac ?_;refine xp w ?_;refine aa (IN A (I C.a U) E) ?_;refine aj H ?_ ?_<;>intro k4 Z H
  ·refine xp w ?_;exact aB H (hw:=YR [((7,0),some (33,0))] [] rfl ad)
  exact ay D H
 exact ah [.tmp 6] (ms f H)
theorem G2(h:b)(k:a:=by(intros;first|omega|with_unfolding_all (first|first|omega|exact iO S M)|exact wt)):a/\b:=⟨k,h⟩
theorem O4(A:P)(C:ByteArray)(E:List Int)(g:R 1048576 A)(S:0<=I E 0)(u2:(C=⟨#[115,104,111,119]⟩\/C=⟨#[115,105,122,101]⟩)/\1<=E.length\/2<=E.length):c 49 [A.row,rS C,rL 1 r E] [rS (Wc A C E)]:=by
 have f:=me (Wc.eq_1 A C E);refine so func49 ntmps49 ?_;refine ae ac ?_;have w:0<E.length:=eZ;simp[w,ZH];refine cF f ?_ ?_<;>intro k2 M f
 ·exact rt _ f
 refine ae ac ?_;have V:(I E 0).toNat<A.a.length:=eZ
 simp[w,ZH,V];repeat with_reducible refine G2 ?_
 refine cF f ?_ ?_<;>intro k4 Z f
 ·refine aa (CL A.b (I A.a (I E 0).toNat) eH eH) ?_;exact rt _ f
 refine cF f ?_ ?_<;>intro k5 h3 f
 ·refine aa (Ad (I A.a (I E 0).toNat)) ?_;refine aa (XP (VG (I A.a (I E 0).toNat))) ?_;exact rt _ f
 refine ae ac ?_;have i3:1<E.length:=eZ
 simp[i3,ZH];repeat with_reducible refine G2 ?_
 refine aa (Z7.rd (JK A.b (I A.a (I E 0).toNat) (I E 1) eH eH)) ?_;refine aa (GB (T7 A.b (I A.a (I E 0).toNat) (I E 1)) (by exact ZJ au (nv (ZY (P.Zs g))))) ?_;exact rt _ f
theorem lq(h:b)(k:a:=by(intros;first|omega|with_unfolding_all (first|first|omega)|exact wt)):a/\b:=⟨k,h⟩
theorem nt(A:P)(C:List ByteArray)(g:R 1048576 A)(S:R 1048577 C)(u2:0<C.length)(a:am A.a<=1048576)(e:CF (Q.mk (Xk A) [])<=67108900):c 26 [A.row,rL 1 N C] [rS (Ny A C)]:=by
 have f:=me (Ny.eq_1 A C);refine ra func26 rfl d ?_;simp[ntmps26];repeat with_reducible refine lq ?_
 refine aa (Z7.rd (Uv _ (by exact B (By S)))) ?_;refine cF f ?_ ?_<;>intro k1 M f
 ·exact rt _ f
 refine aj f ?_ ?_<;>intro k2 Z f
 ·have w:0<C.length:=by first|omega
  simp[w,ZH];refine cF f ?_ ?_<;>intro k3 h3 f
  ·refine aa (Z7.rd (EC A.b (by exact B (P.Yc g)))) ?_;refine aa (GB _ (by first|exact B (P4 (P.Yc g))|exact ZJ (n:=101) au (Co _ _ _))) ?_;exact rt _ f
  refine cF f ?_ ?_<;>intro k4 h4 f
  ·refine aW fun k5=>?_;refine aw ac ?_;refine aa (Z7.rd (Vm A b3 b3 b3)) ?_;refine aa (Z7.rd (pz A.b.a A.b.b _ gi gi gi)) ?_;refine aa (GB (PM A.b.a A.b.b (Sw A)) (by first|exact B (P4 (P.Yc g))|exact ZJ au (Co _ _ _))) ?_;exact rt _ f
  refine cF f ?_ ?_<;>intro b h5 f
  ·refine aa (AZ A en en) ?_;exact rt _ f
  refine cF f ?_ ?_<;>intro l h6 f
  ·refine aa (C7 A en en) ?_;refine cF f ?_ ?_<;>intro k8 h7 f
   ·exact rt _ f
   exact rt _ f
  exact rt _ f
 refine aj f ?_ ?_<;>intro L h8 f
 ·have V:0<C.length:=by first|omega
  simp[V,ZH];refine cF f ?_ ?_<;>intro af h9 f
  ·refine aa (C3 A (Z2 (C.tail)).1 false da da da) ?_;exact rt _ f
  refine cF f ?_ ?_<;>intro ao al f
  ·refine cY al ?_;refine ae ac ?_;simp[V,ZH];refine aa (O4 A _ (Z2 _).1 ca ca ca) ?_;exact rt _ f
  refine cF f ?_ ?_<;>intro ad ah f
  ·refine aW fun av=>?_;refine ae ac ?_;simp[V,ZH];refine aa (O4 A _ (Z2 _).1 ca ca ca) ?_;exact rt _ f
  exact rt _ f
 refine aj f ?_ ?_<;>intro v ap f
 ·have i3:0<C.length:=by first|omega
  simp[i3,ZH];refine cF f ?_ ?_<;>intro ag i f
  ·refine aa (C3 A (Z2 (C.tail)).1 true da da da) ?_;exact rt _ f
  refine cF f ?_ ?_<;>intro ax T f
  ·refine aW fun ai=>?_;refine ae ac ?_;simp[i3,ZH];refine aa (O4 A (I C 0) (Z2 _).1 ca ca ca) ?_;exact rt _ f
  exact rt _ f
 exact rt _ f
theorem Hn(A:P)(C:ByteArray)(g:R 1048576 A)(S:R 1048576 C)(u2:am A.a<=1048576)(a:CF (Q.mk (Xk A) [])<=67108900):c 10 [A.row,rS C] [(XX A C).1.row,rS (XX A C).2]:=by
 have f:=me (XX.eq_1 A C);refine so func10 ntmps10 ?_;refine aa (Z7.rd (vl C (by exact B S))) ?_;refine aQ f ?_ ?_<;>intro k1 M f
 ·refine ai qW (Y3 A (B g)) ?_;exact rt _ f
 have w:0<(QF C).length:=by first|omega|exact List.length_pos_iff.2 (fun e=>by rw[e]at M;cases M)
 simp[w,ZH];refine cF f ?_ ?_<;>intro k2 Z f
 ·refine aa (C1 A _ 4 dM hG dM) ?_;exact rt _ f
 refine cF f ?_ ?_<;>intro k3 h3 f
 ·refine aa (C1 A _ 3 dM hG dM) ?_;exact rt _ f
 refine cF f ?_ ?_<;>intro k4 h4 f
 ·refine aa (w4 A _ gD (by first|exact B g|exact ZJ au (Xq (n:=1048577) (A:=C) cv)|exact MI C) gD) ?_;exact rt _ f
 refine aa (n7 A _ hS (by first|exact B g|exact ZJ au (Xq (n:=1048577) (A:=C) cv)|exact List.length_pos_iff.2 (fun e=>by rw[e]at M;cases M)) hS) ?_;refine cF f ?_ ?_<;>intro k5 h5 f
 ·exact rt _ f
 refine aw ac ?_;refine ai qW (Y3 A (B g)) ?_;refine aa (nt A _ eE (by first|exact g|exact Xq (A:=C) cv|exact List.length_pos_iff.2 (fun e=>by rw[e]at M;cases M)|exact u2|exact a) eE eE eE) ?_;exact rt _ f
end Go.Proofs.YtifogammcgmjpaaGreat
