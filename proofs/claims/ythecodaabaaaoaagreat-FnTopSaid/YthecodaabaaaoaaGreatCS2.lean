/- Contracts of the functions La the abstract machine, part S2. No condition. -/
import Derived.Test.YthecodaabaaaoaaGreatCS1
namespace Go.Proofs.YthecodaabaaaoaaGreat
open Tryz
open Go.Vm Go.Mo
set_option maxHeartbeats 1000000
set_option maxRecDepth 100000
set_option linter.unusedSimpArgs false
set_option linter.unusedVariables false
theorem Yy{a b:Prop}(h:b)(k:a:=by(intros;first|omega|with_unfolding_all (first|first|omega|(have fi:=Xc a0 a1 zAY;omega)|(simp only[Bool.or_eq_false_iff,decide_eq_false_iff_not]at*;omega))|(simp_all;done)|(simp_all;omega)|grind|((try simp only[Y0,show ∀x,IntKind.i64.wrap x=W x from fun _=>rfl]at*);omega))):a/\b:=⟨k,h⟩
theorem F6(a0:ZF)(a1 a2:Int)(u0:Sm 2318336 a0):Sd 50 [a0.row,rI a1,rI a2] [(jh a0 a1 a2).1.row,rB (jh a0 a1 a2).2]:=by
 have f:=me (jh.eq_1 a0 a1 a2);refine soD func50 ntmps50 ?_;refine cDs [false,false,false,true,true,false,false,true,false,false,true,false] (JV a0 (sg u0)) ?_;refine cRs (Rh a0 a1) ?_;refine gIo ?_ ?_<;>intro G
 ·have fD:=G;have g1:=G;try simp at g1
  have i1:(ZH a0 a1).1.toNat<a0.ZA.length:=zAm;simp[i1,ZD,G];refine zCE ?_;refine gK (fun _=>?_);have i2:(ZH a0 a1).2.toNat<(nth a0.ZA (ZH a0 a1).1.toNat).ZB.length:=zAm;simp[i2,ZD,G];refine zCE ?_;refine cKo f ?_ ?_<;>intro k1 h1 f
  ·simp[G];refine zCE ?_;exact yV [.cell 6 33,.tmp 7] f
  ·have i3:1<(nth (nth a0.ZA (ZH a0 a1).1.toNat).ZB (ZH a0 a1).2.toNat).ZG.ZI.length:=zAm;simp[i1,ZD,i2,i3,G];refine zCE ?_;refine cR (R4 (nth (nth (nth a0.ZA (ZH a0 a1).1.toNat).ZB (ZH a0 a1).2.toNat).ZG.ZI 1)) ?_;simp[G];refine zCE ?_;refine cR (OY a0.Zd (Zg (nth (nth (nth a0.ZA (ZH a0 a1).1.toNat).ZB (ZH a0 a1).2.toNat).ZG.ZI 1)).1.Za) ?_;simp[G];refine zCE ?_;refine dIo mixed ?_;simp[G];refine zCE ?_;refine gJo G ?_ ?_<;>intro G
   ·have g2x:=G.2;try(simp at G;done)
    all_goals
     have g2:=G.2;try simp at g2
     all_goals
      have i4:(YA a0.Zd (Zg (nth (nth (nth a0.ZA (ZH a0 a1).1.toNat).ZB (ZH a0 a1).2.toNat).ZG.ZI 1)).1.Za).toNat<a0.Zd.length:=by have:=TQ a0.Zd (Zg (nth (nth (nth a0.ZA (ZH a0 a1).1.toNat).ZB (ZH a0 a1).2.toNat).ZG.ZI 1)).1.Za;first|omega|(have fi:=Xc a0 a1 zAY;omega)|(simp only[Bool.or_eq_false_iff,decide_eq_false_iff_not]at*;omega)
      simp[i4,ZD,G];refine zCE ?_;refine cGo (fun gg=>Tl a0.Frame (nth a0.Zd (YA a0.Zd (Zg (nth (nth (nth a0.ZA (ZH a0 a1).1.toNat).ZB (ZH a0 a1).2.toNat).ZG.ZI 1)).1.Za).toNat).Z4) ?_;simp[G];refine zCE ?_;refine cKo f ?_ ?_<;>intro k3 h2 f
      ·simp[G];refine zCE ?_;exact yV [.cell 6 33,.tmp 7] f
      ·simp[G];refine zCE ?_;refine dIo mixed ?_;simp[i4,ZD,G];refine zCE ?_;refine cR (VF a0.Frame.Zt (Zp.mk (Zg (nth (nth (nth a0.ZA (ZH a0 a1).1.toNat).ZB (ZH a0 a1).2.toNat).ZG.ZI 1)).1.Za a2 (-1) (nth a0.Zd (YA a0.Zd (Zg (nth (nth (nth a0.ZA (ZH a0 a1).1.toNat).ZB (ZH a0 a1).2.toNat).ZG.ZI 1)).1.Za).toNat).Z4 0) (sg (ZO.Xb (ZF.Xr u0)))) ?_;simp[G];refine zCE ?_;refine cKo f ?_ ?_<;>intro k5 h3 f
       ·simp[G];refine zCE ?_;exact yV [.cell 6 33,.tmp 7] f
       ·simp[G];refine zCE ?_;refine dIo mixed ?_;simp[i1,ZD,G];refine zCE ?_;refine cR (Yg.rd (WL (Yv a0.Frame.Zt (Zp.mk (Zg (nth (nth (nth a0.ZA (ZH a0 a1).1.toNat).ZB (ZH a0 a1).2.toNat).ZG.ZI 1)).1.Za a2 (-1) (nth a0.Zd (YA a0.Zd (Zg (nth (nth (nth a0.ZA (ZH a0 a1).1.toNat).ZB (ZH a0 a1).2.toNat).ZG.ZI 1)).1.Za).toNat).Z4 0)).1)) ?_;simp[G];refine zCE ?_;refine cD [] (UD (nth a0.ZA (ZH a0 a1).1.toNat) a1 (XS (Yv a0.Frame.Zt (Zp.mk (Zg (nth (nth (nth a0.ZA (ZH a0 a1).1.toNat).ZB (ZH a0 a1).2.toNat).ZG.ZI 1)).1.Za a2 (-1) (nth a0.Zd (YA a0.Zd (Zg (nth (nth (nth a0.ZA (ZH a0 a1).1.toNat).ZB (ZH a0 a1).2.toNat).ZG.ZI 1)).1.Za).toNat).Z4 0)).1) (sg (Zr (ZF.YR u0))) zA9) ?_;simp[i1,ZD,G];refine zCE ?_;refine MU (t:=19) (j:=7) (i:=(ZH a0 a1).1.toNat) (size:=2) (rows:=a0.ZA.map ZE.row) (ds:=(QN (nth a0.ZA (ZH a0 a1).1.toNat) a1 (XS (Yv a0.Frame.Zt (Zp.mk (Zg (nth (nth (nth a0.ZA (ZH a0 a1).1.toNat).ZB (ZH a0 a1).2.toNat).ZG.ZI 1)).1.Za a2 (-1) (nth a0.Zd (YA a0.Zd (Zg (nth (nth (nth a0.ZA (ZH a0 a1).1.toNat).ZB (ZH a0 a1).2.toNat).ZG.ZI 1)).1.Za).toNat).Z4 0)).1)).1.row) (L:=[(114,1)]) ?_;simp[Kx (x:=(QN (nth a0.ZA (ZH a0 a1).1.toNat) a1 (XS (Yv a0.Frame.Zt (Zp.mk (Zg (nth (nth (nth a0.ZA (ZH a0 a1).1.toNat).ZB (ZH a0 a1).2.toNat).ZG.ZI 1)).1.Za a2 (-1) (nth a0.Zd (YA a0.Zd (Zg (nth (nth (nth a0.ZA (ZH a0 a1).1.toNat).ZB (ZH a0 a1).2.toNat).ZG.ZI 1)).1.Za).toNat).Z4 0)).1)).1) rfl,i1,ZD,XX,G];refine zCE ?_;exact yV [.cell 6 33,.tmp 7] f
   ·have g2x:=G.2;try(simp at G;done)
    all_goals
     simp[G];refine zCE ?_;refine sGo ?_;simp[G];refine zCE ?_;refine cKo f ?_ ?_<;>intro k7 h4 f
     ·simp[G];refine zCE ?_;exact yV [.cell 6 33,.tmp 7] f
     ·simp[G]at h4
 ·have fD:=G;simp[G];refine zCE ?_;refine sGo ?_;simp[G];refine zCE ?_;refine cKo f ?_ ?_<;>intro k11 h6 f
  ·simp[G];refine zCE ?_;exact yV [.cell 6 33,.tmp 7] f
  ·simp[G]at h6
theorem HL(a0:ZF)(a1:Zx)(u0:Sm 2293760 a0)(u1:Sm 2293760 a1):Sa 17 [a0.row,a1.row] [(xT a0 a1).1.row,rB (xT a0 a1).2]:=by
 have f:=me (xT.eq_1 a0 a1);refine so func17 ntmps17 ?_;refine cF f ?_ ?_<;>intro k1 h1 f
 ·refine cDs [false,false,false,true,true,false,false,true,false,false,true,false] (F5 a0 a1.A (sg u0)) ?_;exact rt _ f
 refine cF f ?_ ?_<;>intro k2 h2 f
 ·refine cDs [false,false,false,true,true,false,false,true,false,false,true,false] (F0 a0 a1.A a1.B a1.Doc a1.C a1.D (sg u0) (sg (Zx.xx u1))) ?_;exact rt _ f
 refine cF f ?_ ?_<;>intro k3 h3 f
 ·refine cDs [false,false,false,true,true,false,false,true,false,false,true,false] (Ie a0 a1.A (sg u0)) ?_;exact rt _ f
 refine cF f ?_ ?_<;>intro k4 h4 f
 ·refine cDs [false,false,false,true,true,false,false,true,false,false,true,false] (Ix a0 a1.A (sg u0)) ?_;exact rt _ f
 refine cF f ?_ ?_<;>intro k5 h5 f
 ·refine cDs [false,false,false,true,true,false,false,true,false,false,true,false] (Hl a0 a1.A a1.Ids a1.B (sg u0) (sg (Zx.wz u1))) ?_;exact rt _ f
 refine cF f ?_ ?_<;>intro k6 h6 f
 ·refine cDs [false,false,false,true,true,false,false,true,false,false,true,false] (Fh a0 a1.A a1.B a1.C (sg u0)) ?_;exact rt _ f
 refine cF f ?_ ?_<;>intro k7 h7 f
 ·refine cOs (HI a0 a1.A (sg u0)) ?_;exact rt _ f
 refine cF f ?_ ?_<;>intro k8 h8 f
 ·refine cDs [false,false,false,true,true,false,false,true,false,false,true,false] (FX a0 a1.A a1.B a1.Doc (sg u0) (sg (Zx.xx u1))) ?_;exact rt _ f
 refine cF f ?_ ?_<;>intro k9 h9 f
 ·refine cDs [false,false,false,true,true,false,false,true,false,false,true,false] (N4 a0 a1.A a1.B (sg u0)) ?_;exact rt _ f
 refine cF f ?_ ?_<;>intro aZ cA f
 ·refine cDs [false,false,false,true,true,false,false,true,false,false,true,false] (F6 a0 a1.A a1.B (sg u0)) ?_;exact rt _ f
 refine cDs [false,false,false,true,true,false,false,true,false,false,true,false] (JV a0 (sg u0)) ?_;exact rt _ f
end Go.Proofs.YthecodaabaaaoaaGreat
