/- Contracts of the functions La the abstract machine, part 1. No condition. -/
import Derived.Test.YthecodaabaaaoaaGreatCA1
import Derived.Test.YthecodaabaaaoaaGreatCI2
import Derived.Test.YthecodaabaaaoaaGreatCS2
namespace Go.Proofs.YthecodaabaaaoaaGreat
open Tryz
open Go.Vm Go.Mo
set_option maxHeartbeats 1000000
set_option maxRecDepth 4000
set_option linter.unusedSimpArgs false
set_option linter.unusedVariables false
variable{a b:Prop}
theorem D7(a0:ZO)(a1:ZW)(a2:List Int)(u0:Sm 2293760 a0)(u1:Sm 2293760 a1)(u2:Sm 2293760 a2):Sa 12 [a0.row,a1.row,rL 1 iR a2] [rB (Vv a0 a1 a2)]:=by
 have f:=me (Vv.eq_1 a0 a1 a2);refine so func12 ntmps12 ?_;refine dIs mixed ?_;refine cRs (RA a0 a1 a2 (sg u0) (sg u1) (sg u2)) ?_;refine gIf ?_ ?_<;>intro G
 ·have g1:=G;try simp at g1
  have i1:(a1.ZM.length-1)<a1.ZM.length:=by first|omega|(have z:=Lk (a0:=a0) (a1:=a1) (a2:=a2) (by simpa using G);omega)
  have c1:=sl 2293760 a1.ZM (an u0 (an u1 u2));have w1:IntKind.i64.wrap ((a1.ZM.length:Int)-1)=(a1.ZM.length:Int)-1:=YX zAA zAA;simp[i1,ZD,w1,G];refine rpG ?_;refine cK f ?_ ?_<;>intro k2 h1 f
  ·exact rtg _ f
  ·refine mW (TH.eq_2 a0 a1) (fun J=>Yx 59 [eX 3 (a0.row.map .d),eX 4 (a1.row.map .d),eI 7 (J:Int)]) (fun n1 J=>a1.ZM.length<n1+J/\J<=a1.ZM.length) (a1.ZM.length+1) 0 (fun p1 J e1 j1=>?_);simp;refine rpG ?_;refine cK e1 ?_ ?_<;>intro k4 h2 e1
   ·have i2:=ix h2;have w2:=wr J;refine dIo mixed ?_;simp[i2,ZD];refine rpG ?_;refine cRg (T8 a0.ZC (nth a1.ZM J) a0.XJ (sg (ZO.XW u0)) (sg (Zr (ZW.zR u1)))) ?_;refine cK e1 ?_ ?_<;>intro k6 h3 e1
    ·exact rtg _ (ms f e1)
    ·exact ny1 (an w1 (an w2 G)) e1
   ·exact rtg _ (ms f e1)
 ·refine cK f ?_ ?_<;>intro k7 h4 f
  ·exact rtg _ f
  ·simp[G]at h4
theorem SX(h:b)(k:a:=by(intros;first|omega|with_unfolding_all (first|first|omega|(have vf:=qC (w:=(ZF.mk (ZO.mk U iD iG iP iV) iX iY iU ia iK iL iM)) (k:=iF) zBJ;have fi:=XT (ZF.mk (ZO.mk U iD iG iP iV) iX iY iU ia iK iL iM) (nth (Zn (ZF.mk (ZO.mk U iD iG iP iV) iX iY iU ia iK iL iM)) iF) vf;(try dsimp only at fi vf);omega))|((try simp only[Y0,show ∀x,IntKind.i64.wrap x=W x from fun _=>rfl]at*);omega))):a/\b:=⟨k,h⟩
theorem QJ(h:b)(k:a:=by(intros;first|omega|with_unfolding_all (first|first|omega|(have vf:=qC (w:=(ZF.mk (ZO.mk U iD iG iP iV) iX iY iU ia iK iL iM)) (k:=iF) zBJ;have fi:=XT (ZF.mk (ZO.mk U iD iG iP iV) iX iY iU ia iK iL iM) (nth (Zn (ZF.mk (ZO.mk U iD iG iP iV) iX iY iU ia iK iL iM)) iF) vf;(try dsimp only at fi vf);omega))|(simp_all;done)|(simp_all;omega)|grind|((try simp only[Y0,show ∀x,IntKind.i64.wrap x=W x from fun _=>rfl]at*);omega))):a/\b:=⟨k,h⟩
theorem wU(a0:List UInt8)(t0:Sm maxLen a0):Sa 4 [rL 1 bR a0] [rB (Ni a0)]:=by
 have f:=me (Ni.eq_1 a0);refine so func4 ntmps4 ?_;refine cRs (sV a0) ?_;refine cFo f ?_ ?_<;>intro k1 h1 f
 ·have q1:=h1;try simp at q1
  simp;exact rt [.tmp 2] f
 have q1:=h1;try simp at q1
 have u0:Sm 1048576 a0:=(by have z:=h1;simp[vi]at z;simp[XM];omega);simp;refine cRs (NK a0) ?_;refine mg (Tz.eq_2 a0) (fun J U iD iG iP iV iX iY iU ia iK iL iM=>Yx 109 [eL 4 9 (ZP a0).2 Zx.row,(5,.one (.bptr 5 0),[.box [.d (.sl 5 (U.map Y4.row)),.d (.sl 3 (iD.map Zi.row)),.d (.sl 4 (iG.map YH.row)),.d (.int .i64 iP),.d (.int .i64 iV),.d (.sl 7 (iX.map YN.row)),.d (.sl 1 (iY.map iR)),.d (.sl 2 (iU.map ZE.row)),.d (.sl 1 (ia.map iR)),.d (.sl 1 (iK.map iR)),.d (.int .i64 iL),.d (.sl 1 (iM.map iR))]]),eI 6 (J:Int)]) (fun n1 J U iD iG iP iV iX iY iU ia iK iL iM=>(ZP a0).2.length<n1+J/\J<=(ZP a0).2.length/\Sm (40+J) (ZF.mk (ZO.mk U iD iG iP iV) iX iY iU ia iK iL iM)) ((ZP a0).2.length+1) 0 (ZP a0).1.Frame.Zt (ZP a0).1.Frame.ZC (ZP a0).1.Frame.Methods (ZP a0).1.Frame.XJ (ZP a0).1.Frame.Now (ZP a0).1.Zd (ZP a0).1.Zw (ZP a0).1.ZA (ZP a0).1.Y2 (ZP a0).1.Yc (ZP a0).1.Next (ZP a0).1.YL (fun p1 J U iD iG iP iV iX iY iU ia iK iL iM e1 j1=>?_) (hI:=by exact⟨zAA,zAA,Nat.zero_le _,(Z2 (n:=40) (a0:=a0) zAD).1⟩);try dsimp only at j1
 refine cFo e1 ?_ ?_<;>intro k3 h2 e1
 ·have q2:=h2;try simp at q2
  have i1:=ix h2;have m2:=ml (ZP a0).2 (k3 4 _ rfl);have w1:=wr J;simp;refine dIo mixed ?_;simp[i1,ZD];repeat with_reducible refine SX ?_
  refine cRs (Yg.rd (HF (ZF.mk (ZO.mk U iD iG iP iV) iX iY iU ia iK iL iM) (nth (ZP a0).2 J) zAU zAU)) ?_;refine dIo mixed ?_;simp[i1,ZD];repeat with_reducible refine SX ?_
  refine cRs (HL (ZF.mk (ZO.mk U iD iG iP iV) iX iY iU ia iK iL iM) (nth (ZP a0).2 J) zAU zAU) ?_;refine cFo e1 ?_ ?_<;>intro k6 h3 e1
  ·have q3:=h3;try simp at q3
   have f:=ms f e1;simp;exact rt [.tmp 2] f
  have q3:=h3;try simp at q3
  simp;refine cRs (C0 (YF (ZF.mk (ZO.mk U iD iG iP iV) iX iY iU ia iK iL iM) (nth (ZP a0).2 J)).1 zAS zAS) ?_;refine cFo e1 ?_ ?_<;>intro k7 h4 e1
  ·have q4:=h4;try simp at q4
   have f:=ms f e1;simp;exact rt [.tmp 2] f
  have q4:=h4;try simp at q4
  simp;refine cRs (Yg.rd (RI (ZF.mk (ZO.mk U iD iG iP iV) iX iY iU ia iK iL iM) zAe zAe)) ?_;refine lp1 (SN.eq_2 a0 J U iD iG iP iV iX iY iU ia iK iL iM) (fun iF=>Yx 109 [eL 4 9 (ZP a0).2 Zx.row,(5,.one (.bptr 5 0),[.box [.d (.sl 5 (U.map Y4.row)),.d (.sl 3 (iD.map Zi.row)),.d (.sl 4 (iG.map YH.row)),.d (.int .i64 iP),.d (.int .i64 iV),.d (.sl 7 (iX.map YN.row)),.d (.sl 1 (iY.map iR)),.d (.sl 2 (iU.map ZE.row)),.d (.sl 1 (ia.map iR)),.d (.sl 1 (iK.map iR)),.d (.int .i64 iL),.d (.sl 1 (iM.map iR))]]),eI 6 (J:Int),eX 7 ((YF (ZF.mk (ZO.mk U iD iG iP iV) iX iY iU ia iK iL iM) (nth (ZP a0).2 J)).1.row.map .d),eL 11 1 (Zn (ZF.mk (ZO.mk U iD iG iP iV) iX iY iU ia iK iL iM)) iR,eI 12 (iF:Int)]) (fun n2 iF=>(Zn (ZF.mk (ZO.mk U iD iG iP iV) iX iY iU ia iK iL iM)).length<n2+iF/\iF<=(Zn (ZF.mk (ZO.mk U iD iG iP iV) iX iY iU ia iK iL iM)).length) ((Zn (ZF.mk (ZO.mk U iD iG iP iV) iX iY iU ia iK iL iM)).length+1) 0 (fun p2 iF e2 j2=>?_);try dsimp only at j2
  refine cFo e2 ?_ ?_<;>intro k9 h5 e2
  ·have q5:=h5;try simp at q5
   have i2:=ix h5;have m4:=ml (Zn (ZF.mk (ZO.mk U iD iG iP iV) iX iY iU ia iK iL iM)) (k9 11 _ rfl);have w2:=wr iF;simp;refine dIo mixed ?_;simp[i2,ZD];repeat with_reducible refine SX ?_
   refine cR (Ws (ZF.mk (ZO.mk U iD iG iP iV) iX iY iU ia iK iL iM) (nth (Zn (ZF.mk (ZO.mk U iD iG iP iV) iX iY iU ia iK iL iM)) iF)) ?_;have i3:(ZK (ZF.mk (ZO.mk U iD iG iP iV) iX iY iU ia iK iL iM) (nth (Zn (ZF.mk (ZO.mk U iD iG iP iV) iX iY iU ia iK iL iM)) iF)).1.toNat<iU.length:=zAc
   have i4:(ZK (ZF.mk (ZO.mk U iD iG iP iV) iX iY iU ia iK iL iM) (nth (Zn (ZF.mk (ZO.mk U iD iG iP iV) iX iY iU ia iK iL iM)) iF)).2.toNat<(nth iU (ZK (ZF.mk (ZO.mk U iD iG iP iV) iX iY iU ia iK iL iM) (nth (Zn (ZF.mk (ZO.mk U iD iG iP iV) iX iY iU ia iK iL iM)) iF)).1.toNat).ZB.length:=zAc;simp[i3,ZD,i4];repeat with_reducible refine SX ?_
   refine dIs mixed ?_;refine cRs (Yg.rd (VB (nth (nth iU (ZK (ZF.mk (ZO.mk U iD iG iP iV) iX iY iU ia iK iL iM) (nth (Zn (ZF.mk (ZO.mk U iD iG iP iV) iX iY iU ia iK iL iM)) iF)).1.toNat).ZB (ZK (ZF.mk (ZO.mk U iD iG iP iV) iX iY iU ia iK iL iM) (nth (Zn (ZF.mk (ZO.mk U iD iG iP iV) iX iY iU ia iK iL iM)) iF)).2.toNat).ZG (nth (nth iU (ZK (ZF.mk (ZO.mk U iD iG iP iV) iX iY iU ia iK iL iM) (nth (Zn (ZF.mk (ZO.mk U iD iG iP iV) iX iY iU ia iK iL iM)) iF)).1.toNat).ZB (ZK (ZF.mk (ZO.mk U iD iG iP iV) iX iY iU ia iK iL iM) (nth (Zn (ZF.mk (ZO.mk U iD iG iP iV) iX iY iU ia iK iL iM)) iF)).2.toNat).Doc zAu (by(have hl:=YQ (Z2 (n:=40) (a0:=a0) zAD).2;with_reducible exact ZQ (n:=100) zAD (ZN.xx (Zr (ZE.YO (Zr (ZF.YR (ZQ (n:=40+J) (m:=100) zAA j1.2.2.2)))))))))) ?_;refine cRs (D7 (ZO.mk U iD iG iP iV) (nth (nth iU (ZK (ZF.mk (ZO.mk U iD iG iP iV) iX iY iU ia iK iL iM) (nth (Zn (ZF.mk (ZO.mk U iD iG iP iV) iX iY iU ia iK iL iM)) iF)).1.toNat).ZB (ZK (ZF.mk (ZO.mk U iD iG iP iV) iX iY iU ia iK iL iM) (nth (Zn (ZF.mk (ZO.mk U iD iG iP iV) iX iY iU ia iK iL iM)) iF)).2.toNat).ZG (XU (nth (nth iU (ZK (ZF.mk (ZO.mk U iD iG iP iV) iX iY iU ia iK iL iM) (nth (Zn (ZF.mk (ZO.mk U iD iG iP iV) iX iY iU ia iK iL iM)) iF)).1.toNat).ZB (ZK (ZF.mk (ZO.mk U iD iG iP iV) iX iY iU ia iK iL iM) (nth (Zn (ZF.mk (ZO.mk U iD iG iP iV) iX iY iU ia iK iL iM)) iF)).2.toNat).ZG (nth (nth iU (ZK (ZF.mk (ZO.mk U iD iG iP iV) iX iY iU ia iK iL iM) (nth (Zn (ZF.mk (ZO.mk U iD iG iP iV) iX iY iU ia iK iL iM)) iF)).1.toNat).ZB (ZK (ZF.mk (ZO.mk U iD iG iP iV) iX iY iU ia iK iL iM) (nth (Zn (ZF.mk (ZO.mk U iD iG iP iV) iX iY iU ia iK iL iM)) iF)).2.toNat).Doc) (by(have hl:=YQ (Z2 (n:=40) (a0:=a0) zAD).2;with_reducible exact ZQ (n:=100) zAD (ZF.Xr (ZQ (n:=40+J) (m:=100) zAA j1.2.2.2)))) zAu (by(have hl:=YQ (Z2 (n:=40) (a0:=a0) zAD).2;with_reducible exact ZQ (n:=100) zAD (VH (ZN.XY (Zr (ZE.YO (Zr (ZF.YR (ZQ (n:=40+J) (m:=100) zAA j1.2.2.2)))))))))) ?_;refine gIo ?_ ?_<;>intro G
   ·have fD:=G;have g1:=G;try simp at g1
    simp[i2,ZD,G];refine zCG ?_;refine cGo (fun gg=>P6 (YF (ZF.mk (ZO.mk U iD iG iP iV) iX iY iU ia iK iL iM) (nth (ZP a0).2 J)).1 (nth (Zn (ZF.mk (ZO.mk U iD iG iP iV) iX iY iU ia iK iL iM)) iF) zAW) ?_;simp[G];refine zCG ?_;refine gJo G ?_ ?_<;>intro G
    ·have g2x:=G.2;try(simp at G;done)
     all_goals
      have g2:=G.2;try simp at g2
      all_goals
       simp[i2,ZD,G];refine zCG ?_;refine cGo (fun gg=>WC (YF (ZF.mk (ZO.mk U iD iG iP iV) iX iY iU ia iK iL iM) (nth (ZP a0).2 J)).1 (nth (Zn (ZF.mk (ZO.mk U iD iG iP iV) iX iY iU ia iK iL iM)) iF) zAW) ?_;simp[G];refine zCG ?_;refine cKo e2 ?_ ?_<;>intro k12 h6 e2
       ·try(simp[G]at h6;done)
        all_goals
         have q6:=h6;try simp at q6
         have e1:=ms e1 e2;have f:=ms f e1;simp[G];refine zCG ?_;exact rtg [.tmp 2] f
       ·try(simp[G]at h6;done)
        all_goals
         have q6:=h6;try simp at q6
         simp[G];refine zCG ?_;exact ny1 (an w1 (an w2 G)) e2
    ·have g2x:=G.2;try(simp at G;done)
     all_goals
      simp[G];refine zCG ?_;refine sGo ?_;simp[G];refine zCG ?_;refine cKo e2 ?_ ?_<;>intro aY h7 e2
      ·try(simp[G]at h7;done)
       all_goals
        have q7:=h7;try simp at q7
        have e1:=ms e1 e2;have f:=ms f e1;simp[G];refine zCG ?_;exact rtg [.tmp 2] f
      ·try(simp[G]at h7;done)
       all_goals
        have q7:=h7;try simp at q7
        simp[G];refine zCG ?_;exact ny1 (an w1 (an w2 G)) e2
   ·have fD:=G;simp[G];refine zCG ?_;refine sGo ?_;simp[G];refine zCG ?_;refine gJo G ?_ ?_<;>intro G
    ·have g3x:=G.2;try(simp at G;done)
     all_goals
      have g3:=G.2;try simp at g3
      all_goals
       simp[i2,ZD,G];refine zCG ?_;refine cGo (fun gg=>WC (YF (ZF.mk (ZO.mk U iD iG iP iV) iX iY iU ia iK iL iM) (nth (ZP a0).2 J)).1 (nth (Zn (ZF.mk (ZO.mk U iD iG iP iV) iX iY iU ia iK iL iM)) iF) zAW) ?_;simp[G];refine zCG ?_;refine cKo e2 ?_ ?_<;>intro k14 h8 e2
       ·try(simp[G]at h8;done)
        all_goals
         have q8:=h8;try simp at q8
         have e1:=ms e1 e2;have f:=ms f e1;simp[G];refine zCG ?_;exact rtg [.tmp 2] f
       ·try(simp[G]at h8;done)
        all_goals
         have q8:=h8;try simp at q8
         simp[G];refine zCG ?_;exact ny1 (an w1 (an w2 G)) e2
    ·have g3x:=G.2;try(simp at G;done)
     all_goals
      simp[G];refine zCG ?_;refine sGo ?_;simp[G];refine zCG ?_;refine cKo e2 ?_ ?_<;>intro k15 h9 e2
      ·try(simp[G]at h9;done)
       all_goals
        have q9:=h9;try simp at q9
        have e1:=ms e1 e2;have f:=ms f e1;simp[G];refine zCG ?_;exact rtg [.tmp 2] f
      ·try(simp[G]at h9;done)
       all_goals
        have q9:=h9;try simp at q9
        simp[G];refine zCG ?_;exact ny1 (an w1 (an w2 G)) e2
  have q5:=h5;try simp at q5
  have e1:=ms e1 e2;simp;exact mY w1 e1 (hI:=by(have hl:=YQ (Z2 (n:=40) (a0:=a0) zAD).2;(try dsimp only);refine⟨zAA,zAA,zAA,?_⟩;exact JY (n:=40+J) zAA j1.2.2.2 (ZQ (n:=40) zAA (Zr (Z2 (n:=40) (a0:=a0) zAD).2)) zAA))
 have q2:=h2;try simp at q2
 have f:=ms f e1;simp;exact rt [.tmp 2] f
end Go.Proofs.YthecodaabaaaoaaGreat
