/- Contracts of the functions M1 the abstract machine, part 1. No condition. -/
import Derived.Test.YthecodaabaaaoaaGreatCA1
import Derived.Test.YthecodaabaaaoaaGreatCI2
import Derived.Test.YthecodaabaaaoaaGreatCS2
namespace Go.Proofs.YthecodaabaaaoaaGreat
open Tryz
open Go.Vm Go.Mo
set_option maxHeartbeats 1000000
set_option maxRecDepth 4000
set_option linter.unusedSimpArgs false
set_option linter.unusedVariables false
variable{a b:Prop}
theorem Nm(a0:Zb)(a1:ZX)(a2:List Int)(u0:Sm 2293760 a0)(u1:Sm 2293760 a1)(u2:Sm 2293760 a2):Sa 12 [a0.row,a1.row,rL 1 iR a2] [rB (kY a0 a1 a2)]:=by
 have f:=me (kY.eq_1 a0 a1 a2);refine so func12 ntmps12 ?_;refine dIs mixed ?_;refine cRs (Su a0 a1 a2 (sg u0) (sg u1) (sg u2)) ?_;refine gIf ?_ ?_<;>intro G
 ·have g1:=G;try simp at g1
  have i1:(a1.ZQ.length-1)<a1.ZQ.length:=by first|omega|(have z:=Ma (a0:=a0) (a1:=a1) (a2:=a2) (by simpa using G);omega)
  have c1:=sl 2293760 a1.ZQ (an u0 (an u1 u2));have w1:IntKind.i64.wrap ((a1.ZQ.length:Int)-1)=(a1.ZQ.length:Int)-1:=YZ zAD zAD;simp[i1,ZF,w1,G];refine rpG ?_;refine cK f ?_ ?_<;>intro k2 h1 f
  ·exact rtg _ f
  ·refine oE (UM.eq_2 a0 a1) (fun J=>Yy 59 [eX 3 (a0.row.map .d),eX 4 (a1.row.map .d),eI 7 (J:Int)]) (fun n1 J=>a1.ZQ.length<n1+J/\J<=a1.ZQ.length) (a1.ZQ.length+1) 0 (fun p1 J e1 j1=>?_);simp;refine rpG ?_;refine cK e1 ?_ ?_<;>intro k4 h2 e1
   ·have i2:=ix h2;have w2:=wr J;refine dIo mixed ?_;simp[i2,ZF];refine rpG ?_;refine cRg (Tl a0.ZD (nth a1.ZQ J) a0.XB (sg (Zb.XJ u0)) (sg (Zn (ZX.zf u1)))) ?_;refine cK e1 ?_ ?_<;>intro k6 h3 e1
    ·exact rtg _ (ms f e1)
    ·exact ny1 (an w1 (an w2 G)) e1
   ·exact rtg _ (ms f e1)
 ·refine cK f ?_ ?_<;>intro k7 h4 f
  ·exact rtg _ f
  ·simp[G]at h4
theorem QD(h:b)(k:a:=by(intros;first|omega|with_unfolding_all (first|first|omega|(have z:=Tq (a0:=a0) (k:=5) (m:=((ZA a0).2.length:Int)) (YX u0) zAE zAE zAD;omega)|(have vf:=Xq (w:=(ZI (ZA a0).1 ((ZA a0).2.take (Int.tmod (XO a0 5) ((ZA a0).2.length:Int)).toNat))) (k:=J) zAf;have fi:=Ym (ZI (ZA a0).1 ((ZA a0).2.take (Int.tmod (XO a0 5) ((ZA a0).2.length:Int)).toNat)) (nth (Zd (ZI (ZA a0).1 ((ZA a0).2.take (Int.tmod (XO a0 5) ((ZA a0).2.length:Int)).toNat))) J) vf;(try dsimp only at fi vf);omega)|(have vf:=Xq (w:=(ZI (ZA a0).1 [])) (k:=nc) zAf;have fi:=Ym (ZI (ZA a0).1 []) (nth (Zd (ZI (ZA a0).1 [])) nc) vf;(try dsimp only at fi vf);omega)|exact List.ne_nil_of_length_pos (by assumption)|(simp_all;done))|((try simp only[Yw,show ∀x,IntKind.i64.wrap x=W x from fun _=>rfl]at*);omega))):a/\b:=⟨k,h⟩
theorem YH(h:b)(k:a:=by(intros;first|omega|with_unfolding_all (first|first|omega|(have z:=Tq (a0:=a0) (k:=5) (m:=((ZA a0).2.length:Int)) (YX u0) zAE zAE zAD;omega)|(have vf:=Xq (w:=(ZI (ZA a0).1 ((ZA a0).2.take (Int.tmod (XO a0 5) ((ZA a0).2.length:Int)).toNat))) (k:=J) zAf;have fi:=Ym (ZI (ZA a0).1 ((ZA a0).2.take (Int.tmod (XO a0 5) ((ZA a0).2.length:Int)).toNat)) (nth (Zd (ZI (ZA a0).1 ((ZA a0).2.take (Int.tmod (XO a0 5) ((ZA a0).2.length:Int)).toNat))) J) vf;(try dsimp only at fi vf);omega)|(have vf:=Xq (w:=(ZI (ZA a0).1 [])) (k:=nc) zAf;have fi:=Ym (ZI (ZA a0).1 []) (nth (Zd (ZI (ZA a0).1 [])) nc) vf;(try dsimp only at fi vf);omega)|exact List.ne_nil_of_length_pos (by assumption)|(simp_all;done))|(simp_all;done)|(simp_all;omega)|grind|((try simp only[Yw,show ∀x,IntKind.i64.wrap x=W x from fun _=>rfl]at*);omega))):a/\b:=⟨k,h⟩
theorem GD(a0:List UInt8)(t0:Sm maxLen a0):Sa 3 [rL 1 bR a0] [rB (WS a0)]:=by
 have f:=me (WS.eq_1 a0);refine so func3 ntmps3 ?_;refine cRs (uy a0) ?_;refine cFo f ?_ ?_<;>intro k1 h1 f
 ·have q1:=h1;try simp at q1
  simp;exact rt [.tmp 2] f
 have q1:=h1;try simp at q1
 have u0:Sm 1048576 a0:=(by have z:=h1;simp[wO]at z;simp[XH];omega);simp;refine cRs (OJ a0) ?_;refine cFo f ?_ ?_<;>intro k2 h2 f
 ·have q2:=h2;try simp at q2
  simp;refine cR (sn a0 5 zAY) ?_;simp;refine zCO ?_;refine dIo mixed ?_;simp;refine zCO ?_;refine cRs (Yb.rd (jk (ZA a0).1 ((ZA a0).2.take (Int.tmod (XO a0 5) ((ZA a0).2.length:Int)).toNat) zAA zAA)) ?_;refine dIo mixed ?_;simp;refine zCO ?_;refine cRs (Yb.rd (jk (ZI (ZA a0).1 ((ZA a0).2.take (Int.tmod (XO a0 5) ((ZA a0).2.length:Int)).toNat)) ((ZA a0).2.drop (Int.tmod (XO a0 5) ((ZA a0).2.length:Int)).toNat) zAA zAA)) ?_;refine dIo mixed ?_;simp;refine zCO ?_;refine cR (j9 (ZA a0).1 ((ZA a0).2.take (Int.tmod (XO a0 5) ((ZA a0).2.length:Int)).toNat) zAA zAA) ?_;simp;refine zCO ?_;refine cRs (j9 (Qz (ZA a0).1 ((ZA a0).2.take (Int.tmod (XO a0 5) ((ZA a0).2.length:Int)).toNat)) ((ZA a0).2.drop (Int.tmod (XO a0 5) ((ZA a0).2.length:Int)).toNat) zAA zAA) ?_;refine cFo f ?_ ?_<;>intro k6 h3 f
  ·have q3:=h3;try simp at q3
   simp;exact rt [.tmp 2] f
  have q3:=h3;try simp at q3
  simp;refine cRs (Yb.rd (S7 (ZI (ZA a0).1 ((ZA a0).2.take (Int.tmod (XO a0 5) ((ZA a0).2.length:Int)).toNat)) zAX zAX)) ?_;refine lp1 (xD.eq_2 a0) (fun J=>Yy 107 [eX 6 ((ZI (ZA a0).1 ((ZA a0).2.take (Int.tmod (XO a0 5) ((ZA a0).2.length:Int)).toNat)).row.map .d),eX 7 ((ZI (ZI (ZA a0).1 ((ZA a0).2.take (Int.tmod (XO a0 5) ((ZA a0).2.length:Int)).toNat)) ((ZA a0).2.drop (Int.tmod (XO a0 5) ((ZA a0).2.length:Int)).toNat)).row.map .d),eL 8 1 (Zd (ZI (ZA a0).1 ((ZA a0).2.take (Int.tmod (XO a0 5) ((ZA a0).2.length:Int)).toNat))) iR,eI 9 (J:Int)]) (fun n1 J=>(Zd (ZI (ZA a0).1 ((ZA a0).2.take (Int.tmod (XO a0 5) ((ZA a0).2.length:Int)).toNat))).length<n1+J/\J<=(Zd (ZI (ZA a0).1 ((ZA a0).2.take (Int.tmod (XO a0 5) ((ZA a0).2.length:Int)).toNat))).length) ((Zd (ZI (ZA a0).1 ((ZA a0).2.take (Int.tmod (XO a0 5) ((ZA a0).2.length:Int)).toNat))).length+1) 0 (fun p1 J e1 j1=>?_);try dsimp only at j1
  refine cFo e1 ?_ ?_<;>intro k8 h4 e1
  ·have q4:=h4;try simp at q4
   have i1:=ix h4;have m2:=ml (Zd (ZI (ZA a0).1 ((ZA a0).2.take (Int.tmod (XO a0 5) ((ZA a0).2.length:Int)).toNat))) (k8 8 _ rfl);have w1:=wr J;simp;refine dIo mixed ?_;simp[i1,ZF];refine zCO ?_;refine cR (jX (ZI (ZA a0).1 ((ZA a0).2.take (Int.tmod (XO a0 5) ((ZA a0).2.length:Int)).toNat)) (nth (Zd (ZI (ZA a0).1 ((ZA a0).2.take (Int.tmod (XO a0 5) ((ZA a0).2.length:Int)).toNat))) J)) ?_;have i2:(ZO (ZI (ZA a0).1 ((ZA a0).2.take (Int.tmod (XO a0 5) ((ZA a0).2.length:Int)).toNat)) (nth (Zd (ZI (ZA a0).1 ((ZA a0).2.take (Int.tmod (XO a0 5) ((ZA a0).2.length:Int)).toNat))) J)).1.toNat<(ZI (ZA a0).1 ((ZA a0).2.take (Int.tmod (XO a0 5) ((ZA a0).2.length:Int)).toNat)).ZB.length:=zAF;have i3:(ZO (ZI (ZA a0).1 ((ZA a0).2.take (Int.tmod (XO a0 5) ((ZA a0).2.length:Int)).toNat)) (nth (Zd (ZI (ZA a0).1 ((ZA a0).2.take (Int.tmod (XO a0 5) ((ZA a0).2.length:Int)).toNat))) J)).2.toNat<(nth (ZI (ZA a0).1 ((ZA a0).2.take (Int.tmod (XO a0 5) ((ZA a0).2.length:Int)).toNat)).ZB (ZO (ZI (ZA a0).1 ((ZA a0).2.take (Int.tmod (XO a0 5) ((ZA a0).2.length:Int)).toNat)) (nth (Zd (ZI (ZA a0).1 ((ZA a0).2.take (Int.tmod (XO a0 5) ((ZA a0).2.length:Int)).toNat))) J)).1.toNat).ZC.length:=zAF;simp[i2,ZF,i3];refine zCO ?_;refine dIs mixed ?_;refine cRs (Yb.rd (qx (nth (nth (ZI (ZA a0).1 ((ZA a0).2.take (Int.tmod (XO a0 5) ((ZA a0).2.length:Int)).toNat)).ZB (ZO (ZI (ZA a0).1 ((ZA a0).2.take (Int.tmod (XO a0 5) ((ZA a0).2.length:Int)).toNat)) (nth (Zd (ZI (ZA a0).1 ((ZA a0).2.take (Int.tmod (XO a0 5) ((ZA a0).2.length:Int)).toNat))) J)).1.toNat).ZC (ZO (ZI (ZA a0).1 ((ZA a0).2.take (Int.tmod (XO a0 5) ((ZA a0).2.length:Int)).toNat)) (nth (Zd (ZI (ZA a0).1 ((ZA a0).2.take (Int.tmod (XO a0 5) ((ZA a0).2.length:Int)).toNat))) J)).2.toNat).ZK (nth (nth (ZI (ZA a0).1 ((ZA a0).2.take (Int.tmod (XO a0 5) ((ZA a0).2.length:Int)).toNat)).ZB (ZO (ZI (ZA a0).1 ((ZA a0).2.take (Int.tmod (XO a0 5) ((ZA a0).2.length:Int)).toNat)) (nth (Zd (ZI (ZA a0).1 ((ZA a0).2.take (Int.tmod (XO a0 5) ((ZA a0).2.length:Int)).toNat))) J)).1.toNat).ZC (ZO (ZI (ZA a0).1 ((ZA a0).2.take (Int.tmod (XO a0 5) ((ZA a0).2.length:Int)).toNat)) (nth (Zd (ZI (ZA a0).1 ((ZA a0).2.take (Int.tmod (XO a0 5) ((ZA a0).2.length:Int)).toNat))) J)).2.toNat).Doc zAd zA4)) ?_;refine cRs (Nm (ZI (ZA a0).1 ((ZA a0).2.take (Int.tmod (XO a0 5) ((ZA a0).2.length:Int)).toNat)).Frame (nth (nth (ZI (ZA a0).1 ((ZA a0).2.take (Int.tmod (XO a0 5) ((ZA a0).2.length:Int)).toNat)).ZB (ZO (ZI (ZA a0).1 ((ZA a0).2.take (Int.tmod (XO a0 5) ((ZA a0).2.length:Int)).toNat)) (nth (Zd (ZI (ZA a0).1 ((ZA a0).2.take (Int.tmod (XO a0 5) ((ZA a0).2.length:Int)).toNat))) J)).1.toNat).ZC (ZO (ZI (ZA a0).1 ((ZA a0).2.take (Int.tmod (XO a0 5) ((ZA a0).2.length:Int)).toNat)) (nth (Zd (ZI (ZA a0).1 ((ZA a0).2.take (Int.tmod (XO a0 5) ((ZA a0).2.length:Int)).toNat))) J)).2.toNat).ZK (XR (nth (nth (ZI (ZA a0).1 ((ZA a0).2.take (Int.tmod (XO a0 5) ((ZA a0).2.length:Int)).toNat)).ZB (ZO (ZI (ZA a0).1 ((ZA a0).2.take (Int.tmod (XO a0 5) ((ZA a0).2.length:Int)).toNat)) (nth (Zd (ZI (ZA a0).1 ((ZA a0).2.take (Int.tmod (XO a0 5) ((ZA a0).2.length:Int)).toNat))) J)).1.toNat).ZC (ZO (ZI (ZA a0).1 ((ZA a0).2.take (Int.tmod (XO a0 5) ((ZA a0).2.length:Int)).toNat)) (nth (Zd (ZI (ZA a0).1 ((ZA a0).2.take (Int.tmod (XO a0 5) ((ZA a0).2.length:Int)).toNat))) J)).2.toNat).ZK (nth (nth (ZI (ZA a0).1 ((ZA a0).2.take (Int.tmod (XO a0 5) ((ZA a0).2.length:Int)).toNat)).ZB (ZO (ZI (ZA a0).1 ((ZA a0).2.take (Int.tmod (XO a0 5) ((ZA a0).2.length:Int)).toNat)) (nth (Zd (ZI (ZA a0).1 ((ZA a0).2.take (Int.tmod (XO a0 5) ((ZA a0).2.length:Int)).toNat))) J)).1.toNat).ZC (ZO (ZI (ZA a0).1 ((ZA a0).2.take (Int.tmod (XO a0 5) ((ZA a0).2.length:Int)).toNat)) (nth (Zd (ZI (ZA a0).1 ((ZA a0).2.take (Int.tmod (XO a0 5) ((ZA a0).2.length:Int)).toNat))) J)).2.toNat).Doc) zBK zAd zAz) ?_;refine gIo ?_ ?_<;>intro G
   ·have l3:=G;have g1:=G;try simp at g1
    simp[i1,ZF,G];refine zCJ ?_;refine cGo (fun gg=>Wo (ZI (ZI (ZA a0).1 ((ZA a0).2.take (Int.tmod (XO a0 5) ((ZA a0).2.length:Int)).toNat)) ((ZA a0).2.drop (Int.tmod (XO a0 5) ((ZA a0).2.length:Int)).toNat)) (nth (Zd (ZI (ZA a0).1 ((ZA a0).2.take (Int.tmod (XO a0 5) ((ZA a0).2.length:Int)).toNat))) J) zAW) ?_;simp[G];refine zCJ ?_;refine cKo e1 ?_ ?_<;>intro cQ h5 e1
    ·try(simp[G]at h5;done)
     all_goals
      have q5:=h5;try simp at q5
      simp[G];refine zCJ ?_;exact ny1 (an w1 G) e1
    ·try(simp[G]at h5;done)
     all_goals
      have q5:=h5;try simp at q5
      simp[G];refine zCJ ?_;refine dIo mixed ?_;simp[i1,ZF,G];refine zCJ ?_;refine cR (yM (ZI (ZI (ZA a0).1 ((ZA a0).2.take (Int.tmod (XO a0 5) ((ZA a0).2.length:Int)).toNat)) ((ZA a0).2.drop (Int.tmod (XO a0 5) ((ZA a0).2.length:Int)).toNat)) (nth (Zd (ZI (ZA a0).1 ((ZA a0).2.take (Int.tmod (XO a0 5) ((ZA a0).2.length:Int)).toNat))) J) zAW) ?_;simp[G];refine zCJ ?_;refine cKo e1 ?_ ?_<;>intro cf h6 e1
      ·try(simp[G]at h6;done)
       all_goals
        have q6:=h6;try simp at q6
        have f:=ms f e1;simp[G];refine zCJ ?_;exact rtg [.tmp 2] f
      ·try(simp[G]at h6;done)
       all_goals
        have q6:=h6;try simp at q6
        simp[G];refine zCJ ?_;exact ny1 (an w1 G) e1
   ·have l3:=G;simp[G];refine zCJ ?_;refine sGo ?_;simp[G];refine zCJ ?_;refine cKo e1 ?_ ?_<;>intro k14 h7 e1
    ·try(simp[G]at h7;done)
     all_goals
      have q7:=h7;try simp at q7
      simp[G];refine zCJ ?_;exact ny1 (an w1 G) e1
    ·try(simp[G]at h7;done)
     all_goals
      have q7:=h7;try simp at q7
      simp[G];refine zCJ ?_;refine dIo mixed ?_;simp[i1,ZF,G];refine zCJ ?_;refine cR (yM (ZI (ZI (ZA a0).1 ((ZA a0).2.take (Int.tmod (XO a0 5) ((ZA a0).2.length:Int)).toNat)) ((ZA a0).2.drop (Int.tmod (XO a0 5) ((ZA a0).2.length:Int)).toNat)) (nth (Zd (ZI (ZA a0).1 ((ZA a0).2.take (Int.tmod (XO a0 5) ((ZA a0).2.length:Int)).toNat))) J) zAW) ?_;simp[G];refine zCJ ?_;refine cKo e1 ?_ ?_<;>intro k16 h8 e1
      ·try(simp[G]at h8;done)
       all_goals
        have q8:=h8;try simp at q8
        have f:=ms f e1;simp[G];refine zCJ ?_;exact rtg [.tmp 2] f
      ·try(simp[G]at h8;done)
       all_goals
        have q8:=h8;try simp at q8
        simp[G];refine zCJ ?_;exact ny1 (an w1 G) e1
  have q4:=h4;try simp at q4
  have f:=ms f e1;simp;exact rt [.tmp 2] f
 have q2:=h2;try simp at q2
 simp;refine dIo mixed ?_;simp;refine zCO ?_;refine cRs (Yb.rd (jk (ZA a0).1 ([]:List _) zAA zAA)) ?_;refine dIo mixed ?_;simp;refine zCO ?_;refine cRs (Yb.rd (jk (ZI (ZA a0).1 ([]:List _)) (ZA a0).2 zAA zAA)) ?_;refine dIo mixed ?_;simp;refine zCO ?_;refine cR (j9 (ZA a0).1 ([]:List _) zAA zAA) ?_;simp;refine zCO ?_;refine cRs (j9 (Qz (ZA a0).1 ([]:List _)) (ZA a0).2 zAA zAA) ?_;refine cFo f ?_ ?_<;>intro k20 h9 f
 ·have q9:=h9;try simp at q9
  simp;exact rt [.tmp 2] f
 have q9:=h9;try simp at q9
 simp;refine cRs (Yb.rd (S7 (ZI (ZA a0).1 ([]:List _)) zAX zAX)) ?_;refine lp1 (xN.eq_2 a0) (fun nc=>Yy 107 [eX 6 ((ZI (ZA a0).1 ([]:List _)).row.map .d),eX 7 ((ZI (ZI (ZA a0).1 ([]:List _)) (ZA a0).2).row.map .d),eL 8 1 (Zd (ZI (ZA a0).1 ([]:List _))) iR,eI 9 (nc:Int)]) (fun n2 nc=>(Zd (ZI (ZA a0).1 ([]:List _))).length<n2+nc/\nc<=(Zd (ZI (ZA a0).1 ([]:List _))).length) ((Zd (ZI (ZA a0).1 ([]:List _))).length+1) 0 (fun p2 nc e2 j2=>?_);try dsimp only at j2
 refine cFo e2 ?_ ?_<;>intro k22 hR e2
 ·have q10:=hR;try simp at q10
  have i4:=ix hR;have m4:=ml (Zd (ZI (ZA a0).1 ([]:List _))) (k22 8 _ rfl);have w2:=wr nc;simp;refine dIo mixed ?_;simp[i4,ZF];refine zCO ?_;refine cR (jX (ZI (ZA a0).1 ([]:List _)) (nth (Zd (ZI (ZA a0).1 ([]:List _))) nc)) ?_;have i5:(ZO (ZI (ZA a0).1 ([]:List _)) (nth (Zd (ZI (ZA a0).1 ([]:List _))) nc)).1.toNat<(ZI (ZA a0).1 ([]:List _)).ZB.length:=zAF;have i6:(ZO (ZI (ZA a0).1 ([]:List _)) (nth (Zd (ZI (ZA a0).1 ([]:List _))) nc)).2.toNat<(nth (ZI (ZA a0).1 ([]:List _)).ZB (ZO (ZI (ZA a0).1 ([]:List _)) (nth (Zd (ZI (ZA a0).1 ([]:List _))) nc)).1.toNat).ZC.length:=zAF;simp[i5,ZF,i6];refine zCO ?_;refine dIs mixed ?_;refine cRs (Yb.rd (qx (nth (nth (ZI (ZA a0).1 ([]:List _)).ZB (ZO (ZI (ZA a0).1 ([]:List _)) (nth (Zd (ZI (ZA a0).1 ([]:List _))) nc)).1.toNat).ZC (ZO (ZI (ZA a0).1 ([]:List _)) (nth (Zd (ZI (ZA a0).1 ([]:List _))) nc)).2.toNat).ZK (nth (nth (ZI (ZA a0).1 ([]:List _)).ZB (ZO (ZI (ZA a0).1 ([]:List _)) (nth (Zd (ZI (ZA a0).1 ([]:List _))) nc)).1.toNat).ZC (ZO (ZI (ZA a0).1 ([]:List _)) (nth (Zd (ZI (ZA a0).1 ([]:List _))) nc)).2.toNat).Doc zAd zA4)) ?_;refine cRs (Nm (ZI (ZA a0).1 ([]:List _)).Frame (nth (nth (ZI (ZA a0).1 ([]:List _)).ZB (ZO (ZI (ZA a0).1 ([]:List _)) (nth (Zd (ZI (ZA a0).1 ([]:List _))) nc)).1.toNat).ZC (ZO (ZI (ZA a0).1 ([]:List _)) (nth (Zd (ZI (ZA a0).1 ([]:List _))) nc)).2.toNat).ZK (XR (nth (nth (ZI (ZA a0).1 ([]:List _)).ZB (ZO (ZI (ZA a0).1 ([]:List _)) (nth (Zd (ZI (ZA a0).1 ([]:List _))) nc)).1.toNat).ZC (ZO (ZI (ZA a0).1 ([]:List _)) (nth (Zd (ZI (ZA a0).1 ([]:List _))) nc)).2.toNat).ZK (nth (nth (ZI (ZA a0).1 ([]:List _)).ZB (ZO (ZI (ZA a0).1 ([]:List _)) (nth (Zd (ZI (ZA a0).1 ([]:List _))) nc)).1.toNat).ZC (ZO (ZI (ZA a0).1 ([]:List _)) (nth (Zd (ZI (ZA a0).1 ([]:List _))) nc)).2.toNat).Doc) zBK zAd zAz) ?_;refine gIo ?_ ?_<;>intro G
  ·have g2x:=G;have g2:=G;try simp at g2
   simp[i4,ZF,G];refine zCJ ?_;refine cGo (fun gg=>Wo (ZI (ZI (ZA a0).1 ([]:List _)) (ZA a0).2) (nth (Zd (ZI (ZA a0).1 ([]:List _))) nc) zAW) ?_;simp[G];refine zCJ ?_;refine cKo e2 ?_ ?_<;>intro k25 cN e2
   ·try(simp[G]at cN;done)
    all_goals
     have q11:=cN;try simp at q11
     simp[G];refine zCJ ?_;exact ny1 (an w2 G) e2
   ·try(simp[G]at cN;done)
    all_goals
     have q11:=cN;try simp at q11
     simp[G];refine zCJ ?_;refine dIo mixed ?_;simp[i4,ZF,G];refine zCJ ?_;refine cR (yM (ZI (ZI (ZA a0).1 ([]:List _)) (ZA a0).2) (nth (Zd (ZI (ZA a0).1 ([]:List _))) nc) zAW) ?_;simp[G];refine zCJ ?_;refine cKo e2 ?_ ?_<;>intro k27 dn e2
     ·try(simp[G]at dn;done)
      all_goals
       have q12:=dn;try simp at q12
       have f:=ms f e2;simp[G];refine zCJ ?_;exact rtg [.tmp 2] f
     ·try(simp[G]at dn;done)
      all_goals
       have q12:=dn;try simp at q12
       simp[G];refine zCJ ?_;exact ny1 (an w2 G) e2
  ·have g2x:=G;simp[G];refine zCJ ?_;refine sGo ?_;simp[G];refine zCJ ?_;refine cKo e2 ?_ ?_<;>intro k28 cz e2
   ·try(simp[G]at cz;done)
    all_goals
     have q13:=cz;try simp at q13
     simp[G];refine zCJ ?_;exact ny1 (an w2 G) e2
   ·try(simp[G]at cz;done)
    all_goals
     have q13:=cz;try simp at q13
     simp[G];refine zCJ ?_;refine dIo mixed ?_;simp[i4,ZF,G];refine zCJ ?_;refine cR (yM (ZI (ZI (ZA a0).1 ([]:List _)) (ZA a0).2) (nth (Zd (ZI (ZA a0).1 ([]:List _))) nc) zAW) ?_;simp[G];refine zCJ ?_;refine cKo e2 ?_ ?_<;>intro k30 aE e2
     ·try(simp[G]at aE;done)
      all_goals
       have q14:=aE;try simp at q14
       have f:=ms f e2;simp[G];refine zCJ ?_;exact rtg [.tmp 2] f
     ·try(simp[G]at aE;done)
      all_goals
       have q14:=aE;try simp at q14
       simp[G];refine zCJ ?_;exact ny1 (an w2 G) e2
 have q10:=hR;try simp at q10
 have f:=ms f e2;simp;exact rt [.tmp 2] f
end Go.Proofs.YthecodaabaaaoaaGreat
