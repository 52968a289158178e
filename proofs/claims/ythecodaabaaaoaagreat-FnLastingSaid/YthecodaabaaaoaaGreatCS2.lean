/- Contracts of the functions M1 the abstract machine, part S2. No condition. -/
import Derived.Test.YthecodaabaaaoaaGreatCS1
namespace Go.Proofs.YthecodaabaaaoaaGreat
open Tryz
open Go.Vm Go.Mo
set_option maxHeartbeats 1000000
set_option maxRecDepth 100000
set_option linter.unusedSimpArgs false
set_option linter.unusedVariables false
theorem Yu{a b:Prop}(h:b)(k:a:=by(intros;first|omega|with_unfolding_all (first|first|omega|(have fi:=XY a0 a1 zAZ;omega)|(simp only[Bool.or_eq_false_iff,decide_eq_false_iff_not]at*;omega))|(simp_all;done)|(simp_all;omega)|grind|((try simp only[Yw,show ∀x,IntKind.i64.wrap x=W x from fun _=>rfl]at*);omega))):a/\b:=⟨k,h⟩
theorem FE(a0:ZG)(a1 a2:Int)(u0:Sm 2318336 a0):Sd 50 [a0.row,rI a1,rI a2] [(xa a0 a1 a2).1.row,rB (xa a0 a1 a2).2]:=by
 have f:=me (xa.eq_1 a0 a1 a2);refine soD func50 ntmps50 ?_;refine cDs [false,false,false,true,true,false,false,true,false,false,true,false] (Ql a0 (sg u0)) ?_;refine cRs (R5 a0 a1) ?_;refine gIo ?_ ?_<;>intro G
 ·have l3:=G;have g1:=G;try simp at g1
  have i1:(ZJ a0 a1).1.toNat<a0.ZB.length:=zAn;simp[i1,ZF,G];refine zCK ?_;refine gK (fun _=>?_);have i2:(ZJ a0 a1).2.toNat<(nth a0.ZB (ZJ a0 a1).1.toNat).ZC.length:=zAn;simp[i2,ZF,G];refine zCK ?_;refine cKo f ?_ ?_<;>intro k1 h1 f
  ·simp[G];refine zCK ?_;exact z9 [.cell 6 33,.tmp 7] f
  ·have i3:1<(nth (nth a0.ZB (ZJ a0 a1).1.toNat).ZC (ZJ a0 a1).2.toNat).ZK.ZM.length:=zAn;simp[i1,ZF,i2,i3,G];refine zCK ?_;refine cR (RY (nth (nth (nth a0.ZB (ZJ a0 a1).1.toNat).ZC (ZJ a0 a1).2.toNat).ZK.ZM 1)) ?_;simp[G];refine zCK ?_;refine cR (P5 a0.Zf (Zl (nth (nth (nth a0.ZB (ZJ a0 a1).1.toNat).ZC (ZJ a0 a1).2.toNat).ZK.ZM 1)).1.Zc) ?_;simp[G];refine zCK ?_;refine dIo mixed ?_;simp[G];refine zCK ?_;refine gJo G ?_ ?_<;>intro G
   ·have g2x:=G.2;try(simp at G;done)
    all_goals
     have g2:=G.2;try simp at g2
     all_goals
      have i4:(YE a0.Zf (Zl (nth (nth (nth a0.ZB (ZJ a0 a1).1.toNat).ZC (ZJ a0 a1).2.toNat).ZK.ZM 1)).1.Zc).toNat<a0.Zf.length:=by have:=TJ a0.Zf (Zl (nth (nth (nth a0.ZB (ZJ a0 a1).1.toNat).ZC (ZJ a0 a1).2.toNat).ZK.ZM 1)).1.Zc;first|omega|(have fi:=XY a0 a1 zAZ;omega)|(simp only[Bool.or_eq_false_iff,decide_eq_false_iff_not]at*;omega)
      simp[i4,ZF,G];refine zCK ?_;refine cGo (fun gg=>TY a0.Frame (nth a0.Zf (YE a0.Zf (Zl (nth (nth (nth a0.ZB (ZJ a0 a1).1.toNat).ZC (ZJ a0 a1).2.toNat).ZK.ZM 1)).1.Zc).toNat).YA) ?_;simp[G];refine zCK ?_;refine cKo f ?_ ?_<;>intro k3 h2 f
      ·simp[G];refine zCK ?_;exact z9 [.cell 6 33,.tmp 7] f
      ·simp[G];refine zCK ?_;refine dIo mixed ?_;simp[i4,ZF,G];refine zCK ?_;refine cR (Wi a0.Frame.Z0 (Zs.mk (Zl (nth (nth (nth a0.ZB (ZJ a0 a1).1.toNat).ZC (ZJ a0 a1).2.toNat).ZK.ZM 1)).1.Zc a2 (-1) (nth a0.Zf (YE a0.Zf (Zl (nth (nth (nth a0.ZB (ZJ a0 a1).1.toNat).ZC (ZJ a0 a1).2.toNat).ZK.ZM 1)).1.Zc).toNat).YA 0) (sg (Zb.Xd (ZG.Xk u0)))) ?_;simp[G];refine zCK ?_;refine cKo f ?_ ?_<;>intro k5 h3 f
       ·simp[G];refine zCK ?_;exact z9 [.cell 6 33,.tmp 7] f
       ·simp[G];refine zCK ?_;refine dIo mixed ?_;simp[i1,ZF,G];refine zCK ?_;refine cR (Yb.rd (ke (Y4 a0.Frame.Z0 (Zs.mk (Zl (nth (nth (nth a0.ZB (ZJ a0 a1).1.toNat).ZC (ZJ a0 a1).2.toNat).ZK.ZM 1)).1.Zc a2 (-1) (nth a0.Zf (YE a0.Zf (Zl (nth (nth (nth a0.ZB (ZJ a0 a1).1.toNat).ZC (ZJ a0 a1).2.toNat).ZK.ZM 1)).1.Zc).toNat).YA 0)).1)) ?_;simp[G];refine zCK ?_;refine cD [] (Vp (nth a0.ZB (ZJ a0 a1).1.toNat) a1 (XQ (Y4 a0.Frame.Z0 (Zs.mk (Zl (nth (nth (nth a0.ZB (ZJ a0 a1).1.toNat).ZC (ZJ a0 a1).2.toNat).ZK.ZM 1)).1.Zc a2 (-1) (nth a0.Zf (YE a0.Zf (Zl (nth (nth (nth a0.ZB (ZJ a0 a1).1.toNat).ZC (ZJ a0 a1).2.toNat).ZK.ZM 1)).1.Zc).toNat).YA 0)).1) (sg (Zn (ZG.Z5 u0))) zBC) ?_;simp[i1,ZF,G];refine zCK ?_;refine N4 (t:=19) (j:=7) (i:=(ZJ a0 a1).1.toNat) (size:=2) (rows:=a0.ZB.map ZE.row) (ds:=(X9 (nth a0.ZB (ZJ a0 a1).1.toNat) a1 (XQ (Y4 a0.Frame.Z0 (Zs.mk (Zl (nth (nth (nth a0.ZB (ZJ a0 a1).1.toNat).ZC (ZJ a0 a1).2.toNat).ZK.ZM 1)).1.Zc a2 (-1) (nth a0.Zf (YE a0.Zf (Zl (nth (nth (nth a0.ZB (ZJ a0 a1).1.toNat).ZC (ZJ a0 a1).2.toNat).ZK.ZM 1)).1.Zc).toNat).YA 0)).1)).1.row) (L:=[(114,1)]) ?_;simp[Kh (x:=(X9 (nth a0.ZB (ZJ a0 a1).1.toNat) a1 (XQ (Y4 a0.Frame.Z0 (Zs.mk (Zl (nth (nth (nth a0.ZB (ZJ a0 a1).1.toNat).ZC (ZJ a0 a1).2.toNat).ZK.ZM 1)).1.Zc a2 (-1) (nth a0.Zf (YE a0.Zf (Zl (nth (nth (nth a0.ZB (ZJ a0 a1).1.toNat).ZC (ZJ a0 a1).2.toNat).ZK.ZM 1)).1.Zc).toNat).YA 0)).1)).1) rfl,i1,ZF,XT,G];refine zCK ?_;exact z9 [.cell 6 33,.tmp 7] f
   ·have g2x:=G.2;try(simp at G;done)
    all_goals
     simp[G];refine zCK ?_;refine sGo ?_;simp[G];refine zCK ?_;refine cKo f ?_ ?_<;>intro k7 h4 f
     ·simp[G];refine zCK ?_;exact z9 [.cell 6 33,.tmp 7] f
     ·simp[G]at h4
 ·have l3:=G;simp[G];refine zCK ?_;refine sGo ?_;simp[G];refine zCK ?_;refine cKo f ?_ ?_<;>intro cQ h6 f
  ·simp[G];refine zCK ?_;exact z9 [.cell 6 33,.tmp 7] f
  ·simp[G]at h6
theorem IM(a0:ZG)(a1:Zt)(u0:Sm 2293760 a0)(u1:Sm 2293760 a1):Sa 17 [a0.row,a1.row] [(Xj a0 a1).1.row,rB (Xj a0 a1).2]:=by
 have f:=me (Xj.eq_1 a0 a1);refine so func17 ntmps17 ?_;refine cF f ?_ ?_<;>intro k1 h1 f
 ·refine cDs [false,false,false,true,true,false,false,true,false,false,true,false] (FX a0 a1.A (sg u0)) ?_;exact rt _ f
 refine cF f ?_ ?_<;>intro k2 h2 f
 ·refine cDs [false,false,false,true,true,false,false,true,false,false,true,false] (Fv a0 a1.A a1.B a1.Doc a1.C a1.D (sg u0) (sg (Zt.zt u1))) ?_;exact rt _ f
 refine cF f ?_ ?_<;>intro k3 h3 f
 ·refine cDs [false,false,false,true,true,false,false,true,false,false,true,false] (L1 a0 a1.A (sg u0)) ?_;exact rt _ f
 refine cF f ?_ ?_<;>intro k4 h4 f
 ·refine cDs [false,false,false,true,true,false,false,true,false,false,true,false] (Ip a0 a1.A (sg u0)) ?_;exact rt _ f
 refine cF f ?_ ?_<;>intro k5 h5 f
 ·refine cDs [false,false,false,true,true,false,false,true,false,false,true,false] (Gu a0 a1.A a1.Ids a1.B (sg u0) (sg (Zt.Au u1))) ?_;exact rt _ f
 refine cF f ?_ ?_<;>intro k6 h6 f
 ·refine cDs [false,false,false,true,true,false,false,true,false,false,true,false] (Fl a0 a1.A a1.B a1.C (sg u0)) ?_;exact rt _ f
 refine cF f ?_ ?_<;>intro k7 h7 f
 ·refine cOs (L8 a0 a1.A (sg u0)) ?_;exact rt _ f
 refine cF f ?_ ?_<;>intro k8 h8 f
 ·refine cDs [false,false,false,true,true,false,false,true,false,false,true,false] (Hi a0 a1.A a1.B a1.Doc (sg u0) (sg (Zt.zt u1))) ?_;exact rt _ f
 refine cF f ?_ ?_<;>intro k9 h9 f
 ·refine cDs [false,false,false,true,true,false,false,true,false,false,true,false] (O0 a0 a1.A a1.B (sg u0)) ?_;exact rt _ f
 refine cF f ?_ ?_<;>intro cS hR f
 ·refine cDs [false,false,false,true,true,false,false,true,false,false,true,false] (FE a0 a1.A a1.B (sg u0)) ?_;exact rt _ f
 refine cDs [false,false,false,true,true,false,false,true,false,false,true,false] (Ql a0 (sg u0)) ?_;exact rt _ f
theorem j9(a0:ZG)(a1:List Zt)(u0:Sm 1048576 a0)(u1:Sm 1048576 a1):Sa 9 [a0.row,rL 9 Zt.row a1] [(Qz a0 a1).row]:=by
 have f:=me (Qz.eq_1 a0 a1);refine so func9 ntmps9 ?_;refine cDs [false,false,false,true,true,false,false,true,false,false,true,false] (Ql a0 (sg u0)) ?_;refine pc (zy.eq_2 a1) (fun J U nb nm mA mW mS mT mU mb mD mI mE=>Yy 25 [eL 1 9 a1 Zt.row,(4,.one (.bptr 4 0),[.box [.nil 5,.nil 3,.nil 4,.d (.int .i64 0),.d (.int .i64 0),.nil 7,.nil 1,.nil 2,.nil 1,.nil 1,.d (.int .i64 0),.nil 1]]),(5,.one (.bptr 5 0),[.box [.d (.sl 5 (U.map Y6.row)),.d (.sl 3 (nb.map Zo.row)),.d (.sl 4 (nm.map YJ.row)),.d (.int .i64 mA),.d (.int .i64 mW),.d (.sl 7 (mS.map YO.row)),.d (.sl 1 (mT.map iR)),.d (.sl 2 (mU.map ZE.row)),.d (.sl 1 (mb.map iR)),.d (.sl 1 (mD.map iR)),.d (.int .i64 mI),.d (.sl 1 (mE.map iR))]]),eI 6 (J:Int)]) (fun n1 J U nb nm mA mW mS mT mU mb mD mI mE=>a1.length<n1+J/\J<=a1.length/\Sm (1048576+J) (ZG.mk (Zb.mk U nb nm mA mW) mS mT mU mb mD mI mE)) (a1.length+1) 0 a0.Frame.Z0 a0.Frame.ZD a0.Frame.Methods a0.Frame.XB a0.Frame.Now a0.Zf a0.Zy a0.ZB a0.Y9 a0.Yg a0.Next a0.YN (fun p1 J U nb nm mA mW mS mT mU mb mD mI mE e1 j1=>?_) (hI:=by exact⟨zAD,zAD,Nat.zero_le _,u0⟩) (h0:=wkS [] [(8,0),(8,1),(8,2),(8,5),(8,6),(8,7),(8,8),(8,9),(8,11)]);refine cF e1 ?_ ?_<;>intro k2 h1 e1
 ·have i1:=ix h1;have m2:=ml a1 (k2 1 _ rfl);have c1:=sl 1048576 a1 (an u0 u1);have w1:=wr J;refine dIo mixed ?_;simp[i1,ZF];refine rpS ?_;refine cRs (IM _ (nth a1 J) (by first|exact sg (Zn u1)|(have hl:=YX u1;exact ZH zAD j1.2.2.2)|exact sg u0) zA2) ?_;exact oK w1 e1 (hI:=by(have hl:=YX u1;(try dsimp only);refine⟨zAD,zAD,zAD,?_⟩;exact Tw (n:=1048576+J) j1.2.2.2 (ZH zAD (Zn u1)) zAD))
 exact rt _ (ms f e1)
end Go.Proofs.YthecodaabaaaoaaGreat
