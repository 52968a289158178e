/- Contracts of the functions Gi the abstract machine, part S2. No condition. -/
import Derived.Test.YtdffgedmahdehaaGreatCS1
namespace Go.Proofs.YtdffgedmahdehaaGreat
open Tryz
open Go.Vm Go.Mo
set_option maxHeartbeats 1000000
set_option maxRecDepth 100000
set_option linter.unusedSimpArgs false
set_option linter.unusedVariables false
variable{a b:Prop}
theorem Yu(h:b)(k:a:=by(intros;first|omega|with_unfolding_all (first|first|omega|(have fi:=XO a0 a1 zAX;omega)|(simp only[Bool.or_eq_false_iff,decide_eq_false_iff_not]at*;omega))|(simp_all;done)|(simp_all;omega)|grind|((try simp only[Yd,show ∀x,IntKind.i64.wrap x=W x from fun _=>rfl]at*);omega))):a/\b:=⟨k,h⟩
theorem BW(a0:ZF)(a1 a2:Int)(u0:Sm 2318336 a0):Sd 158 [a0.row,rI a1,rI a2] [(VO a0 a1 a2).1.row,rB (VO a0 a1 a2).2]:=by
 have f:=me (VO.eq_1 a0 a1 a2);refine soD func158 ntmps158 ?_;refine cDs [false,false,false,true,true,false,false,true,false,false,true,false] (QT a0 (sg u0)) ?_;refine cRs (Np a0 a1) ?_;refine gIo ?_ ?_<;>intro G
 ·have fk:=G;have g1:=G;try simp at g1
  have i1:(ZH a0 a1).1.toNat<a0.ZA.length:=zAv;simp[i1,ZB,G];refine zCj ?_;refine gK (fun _=>?_);have i2:(ZH a0 a1).2.toNat<(nth a0.ZA (ZH a0 a1).1.toNat).ZE.length:=zAv;simp[i2,ZB,G];refine zCj ?_;refine cKo f ?_ ?_<;>intro k1 h1 f
  ·simp[G];refine zCj ?_;exact yA [.cell 6 33,.tmp 7] f
  ·have i3:1<(nth (nth a0.ZA (ZH a0 a1).1.toNat).ZE (ZH a0 a1).2.toNat).ZN.ZM.length:=zAv;simp[i1,ZB,i2,i3,G];refine zCj ?_;refine cR (MU (nth (nth (nth a0.ZA (ZH a0 a1).1.toNat).ZE (ZH a0 a1).2.toNat).ZN.ZM 1)) ?_;simp[G];refine zCj ?_;refine cR (M9 a0.Zd (Zl (nth (nth (nth a0.ZA (ZH a0 a1).1.toNat).ZE (ZH a0 a1).2.toNat).ZN.ZM 1)).1.Zk) ?_;simp[G];refine zCj ?_;refine dIo mixed ?_;simp[G];refine zCj ?_;refine gJo G ?_ ?_<;>intro G
   ·have g2x:=G.2;try(simp at G;done)
    all_goals
     have g2:=G.2;try simp at g2
     all_goals
      have i4:(YI a0.Zd (Zl (nth (nth (nth a0.ZA (ZH a0 a1).1.toNat).ZE (ZH a0 a1).2.toNat).ZN.ZM 1)).1.Zk).toNat<a0.Zd.length:=by have:=PN a0.Zd (Zl (nth (nth (nth a0.ZA (ZH a0 a1).1.toNat).ZE (ZH a0 a1).2.toNat).ZN.ZM 1)).1.Zk;first|omega|(have fi:=XO a0 a1 zAX;omega)|(simp only[Bool.or_eq_false_iff,decide_eq_false_iff_not]at*;omega)
      simp[i4,ZB,G];refine zCj ?_;refine cGo (fun gg=>Rc a0.Frame (nth a0.Zd (YI a0.Zd (Zl (nth (nth (nth a0.ZA (ZH a0 a1).1.toNat).ZE (ZH a0 a1).2.toNat).ZN.ZM 1)).1.Zk).toNat).YG) ?_;simp[G];refine zCj ?_;refine cKo f ?_ ?_<;>intro k3 h2 f
      ·simp[G];refine zCj ?_;exact yA [.cell 6 33,.tmp 7] f
      ·simp[G];refine zCj ?_;refine dIo mixed ?_;simp[i4,ZB,G];refine zCj ?_;refine cR (UY a0.Frame.Zz (Zx.mk (Zl (nth (nth (nth a0.ZA (ZH a0 a1).1.toNat).ZE (ZH a0 a1).2.toNat).ZN.ZM 1)).1.Zk a2 (-1) (nth a0.Zd (YI a0.Zd (Zl (nth (nth (nth a0.ZA (ZH a0 a1).1.toNat).ZE (ZH a0 a1).2.toNat).ZN.ZM 1)).1.Zk).toNat).YG 0) (sg (ZT.XD (ZF.Yx u0)))) ?_;simp[G];refine zCj ?_;refine cKo f ?_ ?_<;>intro k5 h3 f
       ·simp[G];refine zCj ?_;exact yA [.cell 6 33,.tmp 7] f
       ·simp[G];refine zCj ?_;refine dIo mixed ?_;simp[i1,ZB,G];refine zCj ?_;refine cR (YN.rd (VL (Y3 a0.Frame.Zz (Zx.mk (Zl (nth (nth (nth a0.ZA (ZH a0 a1).1.toNat).ZE (ZH a0 a1).2.toNat).ZN.ZM 1)).1.Zk a2 (-1) (nth a0.Zd (YI a0.Zd (Zl (nth (nth (nth a0.ZA (ZH a0 a1).1.toNat).ZE (ZH a0 a1).2.toNat).ZN.ZM 1)).1.Zk).toNat).YG 0)).1)) ?_;simp[G];refine zCj ?_;refine cD [] (Tt (nth a0.ZA (ZH a0 a1).1.toNat) a1 (XF (Y3 a0.Frame.Zz (Zx.mk (Zl (nth (nth (nth a0.ZA (ZH a0 a1).1.toNat).ZE (ZH a0 a1).2.toNat).ZN.ZM 1)).1.Zk a2 (-1) (nth a0.Zd (YI a0.Zd (Zl (nth (nth (nth a0.ZA (ZH a0 a1).1.toNat).ZE (ZH a0 a1).2.toNat).ZN.ZM 1)).1.Zk).toNat).YG 0)).1) (sg (Zi (ZF.Z6 u0))) zBR) ?_;simp[i1,ZB,G];refine zCj ?_;refine IV (t:=19) (j:=7) (i:=(ZH a0 a1).1.toNat) (size:=2) (rows:=a0.ZA.map ZD.row) (ds:=(Xr (nth a0.ZA (ZH a0 a1).1.toNat) a1 (XF (Y3 a0.Frame.Zz (Zx.mk (Zl (nth (nth (nth a0.ZA (ZH a0 a1).1.toNat).ZE (ZH a0 a1).2.toNat).ZN.ZM 1)).1.Zk a2 (-1) (nth a0.Zd (YI a0.Zd (Zl (nth (nth (nth a0.ZA (ZH a0 a1).1.toNat).ZE (ZH a0 a1).2.toNat).ZN.ZM 1)).1.Zk).toNat).YG 0)).1)).1.row) (L:=[(114,1)]) ?_;simp[Ki (x:=(Xr (nth a0.ZA (ZH a0 a1).1.toNat) a1 (XF (Y3 a0.Frame.Zz (Zx.mk (Zl (nth (nth (nth a0.ZA (ZH a0 a1).1.toNat).ZE (ZH a0 a1).2.toNat).ZN.ZM 1)).1.Zk a2 (-1) (nth a0.Zd (YI a0.Zd (Zl (nth (nth (nth a0.ZA (ZH a0 a1).1.toNat).ZE (ZH a0 a1).2.toNat).ZN.ZM 1)).1.Zk).toNat).YG 0)).1)).1) rfl,i1,ZB,XH,G];refine zCj ?_;exact yA [.cell 6 33,.tmp 7] f
   ·have g2x:=G.2;try(simp at G;done)
    all_goals
     simp[G];refine zCj ?_;refine sGo ?_;simp[G];refine zCj ?_;refine cKo f ?_ ?_<;>intro k7 h4 f
     ·simp[G];refine zCj ?_;exact yA [.cell 6 33,.tmp 7] f
     ·simp[G]at h4
 ·have fk:=G;simp[G];refine zCj ?_;refine sGo ?_;simp[G];refine zCj ?_;refine cKo f ?_ ?_<;>intro aK h6 f
  ·simp[G];refine zCj ?_;exact yA [.cell 6 33,.tmp 7] f
  ·simp[G]at h6
theorem Ed(a0:ZF)(a1:Zo)(u0:Sm 2293760 a0)(u1:Sm 2293760 a1):Sa 90 [a0.row,a1.row] [(Xm a0 a1).1.row,rB (Xm a0 a1).2]:=by
 have f:=me (Xm.eq_1 a0 a1);refine so func90 ntmps90 ?_;refine cF f ?_ ?_<;>intro k1 h1 f
 ·refine cDs [false,false,false,true,true,false,false,true,false,false,true,false] (Bq a0 a1.A (sg u0)) ?_;exact rt _ f
 refine cF f ?_ ?_<;>intro k2 h2 f
 ·refine cDs [false,false,false,true,true,false,false,true,false,false,true,false] (BR a0 a1.A a1.B a1.Doc a1.C a1.D (sg u0) (sg (Zo.KU u1))) ?_;exact rt _ f
 refine cF f ?_ ?_<;>intro k3 h3 f
 ·refine cDs [false,false,false,true,true,false,false,true,false,false,true,false] (Fy a0 a1.A (sg u0)) ?_;exact rt _ f
 refine cF f ?_ ?_<;>intro k4 h4 f
 ·refine cDs [false,false,false,true,true,false,false,true,false,false,true,false] (Fj a0 a1.A (sg u0)) ?_;exact rt _ f
 refine cF f ?_ ?_<;>intro k5 h5 f
 ·refine cDs [false,false,false,true,true,false,false,true,false,false,true,false] (D2 a0 a1.A a1.Ids a1.B (sg u0) (sg (Zo.pU u1))) ?_;exact rt _ f
 refine cF f ?_ ?_<;>intro k6 h6 f
 ·refine cDs [false,false,false,true,true,false,false,true,false,false,true,false] (BZ a0 a1.A a1.B a1.C (sg u0)) ?_;exact rt _ f
 refine cF f ?_ ?_<;>intro k7 h7 f
 ·refine cOs (Ef a0 a1.A (sg u0)) ?_;exact rt _ f
 refine cF f ?_ ?_<;>intro k8 h8 f
 ·refine cDs [false,false,false,true,true,false,false,true,false,false,true,false] (Da a0 a1.A a1.B a1.Doc (sg u0) (sg (Zo.KU u1))) ?_;exact rt _ f
 refine cF f ?_ ?_<;>intro k9 h9 f
 ·refine cDs [false,false,false,true,true,false,false,true,false,false,true,false] (IL a0 a1.A a1.B (sg u0)) ?_;exact rt _ f
 refine cF f ?_ ?_<;>intro cv dT f
 ·refine cDs [false,false,false,true,true,false,false,true,false,false,true,false] (BW a0 a1.A a1.B (sg u0)) ?_;exact rt _ f
 refine cDs [false,false,false,true,true,false,false,true,false,false,true,false] (QT a0 (sg u0)) ?_;exact rt _ f
theorem DZ(a0:ZF)(a1:List Zo)(u0:Sm 1048576 a0)(u1:Sm 1048576 a1):Sa 52 [a0.row,rL 9 Zo.row a1] [(RW a0 a1).row]:=by
 have f:=me (RW.eq_1 a0 a1);refine so func52 ntmps52 ?_;refine cDs [false,false,false,true,true,false,false,true,false,false,true,false] (QT a0 (sg u0)) ?_;refine lC (jl.eq_2 a1) (fun J U ib iq hE gR gS gT gU gd gC gD gE=>YM 25 [eL 1 9 a1 Zo.row,(4,.one (.bptr 4 0),[.box [.nil 5,.nil 3,.nil 4,.d (.int .i64 0),.d (.int .i64 0),.nil 7,.nil 1,.nil 2,.nil 1,.nil 1,.d (.int .i64 0),.nil 1]]),(5,.one (.bptr 5 0),[.box [.d (.sl 5 (U.map Yg.row)),.d (.sl 3 (ib.map Za.row)),.d (.sl 4 (iq.map Z9.row)),.d (.int .i64 hE),.d (.int .i64 gR),.d (.sl 7 (gS.map YL.row)),.d (.sl 1 (gT.map iR)),.d (.sl 2 (gU.map ZD.row)),.d (.sl 1 (gd.map iR)),.d (.sl 1 (gC.map iR)),.d (.int .i64 gD),.d (.sl 1 (gE.map iR))]]),eI 6 (J:Int)]) (fun n1 J U ib iq hE gR gS gT gU gd gC gD gE=>a1.length<n1+J/\J<=a1.length/\Sm (1048576+J) (ZF.mk (ZT.mk U ib iq hE gR) gS gT gU gd gC gD gE)) (a1.length+1) 0 a0.Frame.Zz a0.Frame.ZC a0.Frame.Methods a0.Frame.Jb a0.Frame.Now a0.Zd a0.YW a0.ZA a0.XW a0.XA a0.Next a0.Ym (fun p1 J U ib iq hE gR gS gT gU gd gC gD gE e1 j1=>?_) (hI:=by exact⟨zAC,zAC,Nat.zero_le _,u0⟩) (h0:=wkS [] [(8,0),(8,1),(8,2),(8,5),(8,6),(8,7),(8,8),(8,9),(8,11)]);refine cF e1 ?_ ?_<;>intro k2 h1 e1
 ·have i1:=ix h1;have m2:=ml a1 (k2 1 _ rfl);have c1:=sl 1048576 a1 (an u0 u1);have w1:=wr J;refine dIo mixed ?_;simp[i1,ZB];refine rpS ?_;refine cRs (Ed _ (nth a1 J) (by first|exact sg (Zi u1)|(have hl:=YA u1;exact ZK zAC j1.2.2.2)|exact sg u0) (by first|exact sg (Zi u1)|(have hl:=YA u1;exact ZK (n:=1048576+J) zAC j1.2.2.2)|exact sg u0)) ?_;exact m5 w1 e1 (hI:=by(have hl:=YA u1;(try dsimp only);refine⟨zAC,zAC,zAC,?_⟩;exact Pj (n:=1048576+J) j1.2.2.2 (ZK zAC (Zi u1)) zAC))
 exact rt _ (ms f e1)
theorem C4(a0:Z3):z8 prog 21 false a0.row [] (qk a0).1.row [(qk a0).2.row]:=by have f:=me (qk.eq_1 a0);refine KN func21 rfl zAZ (fun v=>?_);simp[ntmps21];refine cBs [] (Y4 a0 2) ?_;refine cRs (YN.rd (Cz (ZI a0 2).2)) ?_;refine cBs [] (Dk (ZI a0 2).1 10) ?_;refine cRs (DZ (kV (ZI a0 2).2) (zk (ZI a0 2).1 10).2 zB0 zB0) ?_;refine xH (rv:=[.cell 2 33]) rfl ?_;simp[f.h]
theorem OI(a0:Z3):z8 prog 22 false a0.row [] (KI a0).1.row [rS (KI a0).2]:=by have f:=me (KI.eq_1 a0);refine KN func22 rfl zAZ (fun v=>?_);simp[ntmps22];refine Tx [(4,0)] rfl zAE ?_;refine cBs [] (Cj a0 ([(⟨#[116,105,99,107,32,53]⟩:ByteArray),(⟨#[116,105,99,107,32,50,48]⟩:ByteArray),(⟨#[116,105,99,107,32,49,48,49]⟩:ByteArray),(⟨#[115,105,103,110,32,48,32,49,49,32,57,48,48,48,32,49,32,97,32,98]⟩:ByteArray),(⟨#[115,105,103,110,32,49,32,49,50,32,51,48,32,50,32,121,101,115]⟩:ByteArray),(⟨#[115,105,103,110,32,48,32,49,51,32,57,48,48,48,32,51,32,120]⟩:ByteArray),(⟨#[115,105,103,110,32,48,32,49,49,32,57,48,48,48,32,49]⟩:ByteArray),(⟨#[102,111,114,103,101,32,48,32,49,49,32,52,32,122]⟩:ByteArray),(⟨#[102,111,114,103,101,32,49,32,49,50,32,53,32,113,32,114]⟩:ByteArray),(⟨#[97,110,115,119,101,114,32,49]⟩:ByteArray),(⟨#[97,110,115,119,101,114,32,50]⟩:ByteArray),(⟨#[114,101,118,111,107,101,32,48]⟩:ByteArray),(⟨#[114,101,118,111,107,101,32,50]⟩:ByteArray),(⟨#[102,111,114,103,101,116,32,49]⟩:ByteArray),(⟨#[109,111,118,101,32,48,32,49,32,49]⟩:ByteArray),(⟨#[98,97,99,107,100,97,116,101,32,50,32,53]⟩:ByteArray),(⟨#[102,97,107,101,32,49,32,52,48]⟩:ByteArray),(⟨#[114,101,110,101,119,32,48,32,48,32,49]⟩:ByteArray),(⟨#[114,101,110,101,119,32,48,32,45,53,32,49,32,50]⟩:ByteArray),(⟨#[114,101,110,101,119,32,48,32,51,48,32,49,32,50,32,51]⟩:ByteArray),(⟨#[114,101,110,101,119,32,49,32,48,32,50,32,51,32,52]⟩:ByteArray),(⟨#[106,117,100,103,101,32,49]⟩:ByteArray),(⟨#[106,117,100,103,101,32,50]⟩:ByteArray),(⟨#[106,117,100,103,101,32,57]⟩:ByteArray),(⟨#[115,104,111,119,32,48]⟩:ByteArray),(⟨#[115,104,111,119,32,50]⟩:ByteArray),(⟨#[104,105,100,101,32,49,32,48]⟩:ByteArray),(⟨#[104,105,100,101,32,57,32,48]⟩:ByteArray),(⟨#[100,117,101,32,48,32,49,48]⟩:ByteArray),(⟨#[112,108,97,110]⟩:ByteArray),(⟨#[108,105,97,114,115]⟩:ByteArray),(⟨#[115,105,122,101,32,48]⟩:ByteArray),(⟨#[119,111,114,108,100]⟩:ByteArray),(⟨#[97,117,100,105,116]⟩:ByteArray),(⟨#[]⟩:ByteArray),(⟨#[119,104,97,116]⟩:ByteArray),(⟨#[114,101,110,101,119,32,48,32,45,45,49,32,49]⟩:ByteArray),(⟨#[115,105,103,110,32,48,32,120,32,49,32,49,32,97]⟩:ByteArray),(⟨#[116,105,99,107]⟩:ByteArray),(⟨#[119,111,114,108,100,32,49]⟩:ByteArray)]:List ByteArray) zAY) ?_;refine xH (rv:=[.tmp 2]) rfl ?_;simp[f.h]
theorem N0(a0:List UInt8):Sa 6 [rL 1 bR a0] [(ZQ a0).1.row,rS (ZQ a0).2]:=by have f:=me (ZQ.eq_1 a0);refine so func6 ntmps6 ?_;refine cNs (Eo a0) ?_;refine cBs [] (C4 (WT a0)) ?_;refine sL [(2,2),(4,7),(5,5),(11,7)] [] [12,3000001] mixed zAZ zAZ zAZ zAZ zAZ zAZ zAZ ?_;simp;refine cBs [] (OI (qk (WT a0)).1) ?_;exact rt [.cell 2 33,.tmp 3] f
theorem Ii(h:b)(k:a:=by(intros;first|omega|with_unfolding_all (first|first|omega|(have z:=K4 (Z3.mk ib iq hE);omega)|(have z:=K4 (Z3.mk gI gJ gZ);omega))|((try simp only[Yd,show ∀x,IntKind.i64.wrap x=W x from fun _=>rfl]at*);omega))):a/\b:=⟨k,h⟩
theorem Ah(a0:Z3)(a1:Int)(u0:0<a1)(u1:a1<=1000):z8 prog 29 false a0.row [rI a1] (Vh a0 a1).1.row [rS (Vh a0 a1).2]:=by
 have f:=me (Vh.eq_1 a0 a1);refine KN func29 rfl zAZ (fun v=>?_);simp[ntmps29];refine cBs [] (NJ a0 2) ?_;refine cF f ?_ ?_<;>intro k1 h1 f
 ·refine cBs [] (Y4 (Zv a0 2).1 a1) ?_;refine lp5 (qC.eq_2) (fun J U ib iq hE=>YM 22 [(0,.fix v (.one (.bptr 0 0)),[.box [.d (.sl 1 (ib.map bR)),.d (.int .i64 (iq:Int)),.d (.int .i64 hE)]]),(5,.one (.d (.str J)),[]),eI 6 U]) (fun n1 J U ib iq hE=>U+1<=(n1:Int)/\0<=U/\U<=1000/\(J.size:Int)+64*U<=65000) ((ZI (Zv a0 2).1 a1).2.toNat+2) (⟨#[116,105,99,107,32,50,50,10,115,105,103,110,32,48,32,49,50,32,57,48,48,48,32,49,32,97,32,98,10,116,105,99,107,32,51,10,97,110,115,119,101,114,32,49,10,114,101,110,101,119,32,48,32,48,32,49,32,50,10,116,105,99,107,32,49,56,10,114,101,110,101,119,32,48,32,48,32,49,32,50,32,51,10]⟩:ByteArray) (ZI (Zv a0 2).1 a1).2 (ZI (Zv a0 2).1 a1).1.b (ZI (Zv a0 2).1 a1).1.i (ZI (Zv a0 2).1 a1).1.h (fun p1 J U ib iq hE e1 j1=>?_) (hI:=by(have z:=Xp (Zv a0 2).1 a1;(try dsimp only);refine⟨zAC,zAC,zAC,?_⟩;first|(simp;omega)|omega));try dsimp only at j1
  refine cF e1 ?_ ?_<;>intro k3 h2 e1
  ·refine cBo [] (OI (Z3.mk ib iq hE)) ?_;simp;repeat with_reducible refine Ii ?_
   exact nx5 e1 (hI:=by(have hh:=h2;simp at hh;simp only[Yd];(try dsimp only);have z:=K4 (Z3.mk ib iq hE);refine⟨zAC,zAC,zAC,?_⟩;simp;omega))
  have f:=ms f e1;refine xH (rv:=[.tmp 4]) rfl ?_;simp[f.h]
 refine cBs [] (Y4 (Zv a0 2).1 a1) ?_;refine lp5 (qm.eq_2) (fun ia iZ gI gJ gZ=>YM 22 [(0,.fix v (.one (.bptr 0 0)),[.box [.d (.sl 1 (gI.map bR)),.d (.int .i64 (gJ:Int)),.d (.int .i64 gZ)]]),(5,.one (.d (.str ia)),[]),eI 6 iZ]) (fun n2 ia iZ gI gJ gZ=>iZ+1<=(n2:Int)/\0<=iZ/\iZ<=1000/\(ia.size:Int)+64*iZ<=65000) ((ZI (Zv a0 2).1 a1).2.toNat+2) (⟨#[]⟩:ByteArray) (ZI (Zv a0 2).1 a1).2 (ZI (Zv a0 2).1 a1).1.b (ZI (Zv a0 2).1 a1).1.i (ZI (Zv a0 2).1 a1).1.h (fun p2 ia iZ gI gJ gZ e2 j2=>?_) (hI:=by(have z:=Xp (Zv a0 2).1 a1;(try dsimp only);refine⟨zAC,zAC,zAC,?_⟩;first|(simp;omega)|omega));try dsimp only at j2
 refine cF e2 ?_ ?_<;>intro k5 h3 e2
 ·refine cBo [] (OI (Z3.mk gI gJ gZ)) ?_;simp;repeat with_reducible refine Ii ?_
  exact nx5 e2 (hI:=by(have hh:=h3;simp at hh;simp only[Yd];(try dsimp only);have z:=K4 (Z3.mk gI gJ gZ);refine⟨zAC,zAC,zAC,?_⟩;simp;omega))
 have f:=ms f e2;refine xH (rv:=[.tmp 4]) rfl ?_;simp[f.h]
theorem Mp(a0:List UInt8)(u0:Sm 2322432 a0):Sa 9 [rL 1 bR a0] [rS (Zw a0)]:=by
 have f:=me (Zw.eq_1 a0);refine so func9 ntmps9 ?_;refine cNs (Eo a0) ?_;refine cBs [] (NJ (WT a0) 20) ?_;refine cF f ?_ ?_<;>intro k1 h1 f
 ·refine okL fun k2=>?_;refine lp2 (Qx.eq_2) (fun J U=>YM 19 [(4,.one (.d (.str J)),[]),eI 5 (U:Int)]) (fun n1 J U=>61<n1+U/\U<=61/\J.size<=6*U) 62 (⟨#[]⟩:ByteArray) 0 (fun p1 J U e1 j1=>?_) (hI:=by exact⟨zAC,zAC,zAC,Nat.zero_le _⟩);try dsimp only at j1
  refine cF e1 ?_ ?_<;>intro k3 h2 e1
  ·have w1:=wr U;exact ny2 w1 e1 (hI:=by(have hh:=of_decide_eq_true h2;(try dsimp only);refine⟨zAC,zAC,zAC,?_⟩;simp;omega))
  exact rt [.tmp 2] (ms f e1)
 refine cBs [] (Ah (Zv (WT a0) 20).1 10 zAF zAF) ?_;exact rt [.tmp 2] f
end Go.Proofs.YtdffgedmahdehaaGreat
