/- Contracts of the functions M1 the abstract machine, part I2. No condition. -/
import Derived.Test.YthecodaabaaaoaaGreatCI1
namespace Go.Proofs.YthecodaabaaaoaaGreat
open Tryz
open Go.Vm Go.Mo
set_option maxHeartbeats 1000000
set_option maxRecDepth 100000
set_option linter.unusedSimpArgs false
set_option linter.unusedVariables false
variable{a b:Prop}
theorem SF(h:b)(k:a:=by(intros;first|omega|with_unfolding_all (first|(first|omega|(have z:=YX u0;omega)|(have z:=YX u0;simp at*;omega)))|((try simp only[Yw,show ∀x,IntKind.i64.wrap x=W x from fun _=>rfl]at*);omega))):a/\b:=⟨k,h⟩
theorem yx(h:b)(k:a:=by(intros;first|omega|with_unfolding_all (first|(first|omega|(have z:=YX u0;omega)|(have z:=YX u0;simp at*;omega)))|(simp_all;done)|(simp_all;omega)|grind|((try simp only[Yw,show ∀x,IntKind.i64.wrap x=W x from fun _=>rfl]at*);omega))):a/\b:=⟨k,h⟩
theorem yr(a0:List Zh)(u0:Sm 2330624 a0):Sd 290 [rL 2 Zh.row a0] [rL 2 Zh.row (Xi a0)]:=by
 have f:=me (Xi.eq_1 a0);refine soD func290 ntmps290 ?_;refine lp2 (zk.eq_2 a0) (fun J U=>Yy 85 [(3,.one (.sref 3 0 0 J.length),[.arr false 2 (J.map Zh.row)]),eL 10 2 a0 Zh.row,eI 11 (a0.length:Int),eI 12 (U:Int)]) (fun n1 J U=>a0.length<n1+U/\U<=a0.length/\J.length<=U) (a0.length+1) ([]:List Zh) 0 (fun p1 J U e1 j1=>?_) (h0:=wkS [((3,0),none)] []);try dsimp only at j1
 refine cFf e1 ?_ ?_<;>intro k2 h1 e1
 ·have i1:=ix h1;have m2:=ml a0 (k2 10 _ rfl);have c1:=sl 2330624 a0 u0;have w1:=wr U;simp[i1,ZF];repeat with_reducible refine SF ?_
  refine cRs (KL (nth a0 U)) ?_;refine cF e1 ?_ ?_<;>intro k3 h2 e1
  ·exact ny2 w1 e1 (hI:=by first|omega|(simp at*;omega))
  refine lp4 (QX.eq_2 J) (fun nc nh lT lV=>Yy 85 [(3,.any,[.arr false 2 (J.map Zh.row)]),(5,.one (.bptr 5 0),[.box [.d (.int .i64 lT),.d (.int .i64 lV)]]),(6,.one (.sref 6 0 0 nc.length),[.arr false 2 (nc.map Zh.row)]),eL 10 2 a0 Zh.row,eI 11 (a0.length:Int),eI 12 (U:Int),(19,.one (.sref 3 0 0 J.length),[]),eI 20 (J.length:Int),eI 21 (nh:Int)]) (fun n2 nc nh lT lV=>J.length<n2+nh/\nh<=J.length/\nc.length<=nh) (J.length+1) ([]:List Zh) 0 (nth a0 U).XF (nth a0 U).To (fun p2 nc nh lT lV e2 j2=>?_) (h0:=wkS [((6,0),none)] []);try dsimp only at j2
  refine cFf e2 ?_ ?_<;>intro k5 h3 e2
  ·have i2:=ix h3;have m4:=ml J (k5 19 _ rfl);have w2:=wr nh;simp[i2,ZF];repeat with_reducible refine SF ?_
   refine cFf e2 ?_ ?_<;>intro k6 h4 e2
   ·simp;repeat with_reducible refine SF ?_
    exact nx4 e2 (hI:=by first|omega|(simp at*;omega)) (hw:=XN [((6,0),some (42,0))] [] rfl zB6)
   exact ny4 (an w1 w2) e2 (hI:=by first|omega|(simp at*;omega))
  have e1:=ms e1 e2;refine lp1 (Um.eq_2 nc lT) (fun mR=>Yy 85 [(5,.one (.bptr 5 0),[.box [.d (.int .i64 lT),.d (.int .i64 lV)]]),(6,.one (.sref 6 0 0 nc.length),[.arr false 2 (nc.map Zh.row)]),eI 9 (mR:Int),eL 10 2 a0 Zh.row,eI 11 (a0.length:Int),eI 12 (U:Int)]) (fun n3 mR=>nc.length<n3+mR/\mR<=nc.length) (nc.length+1) 0 (fun p3 mR e3 j3=>?_);try dsimp only at j3
  refine dIs mixed ?_;refine gIo ?_ ?_<;>intro G
  ·have l3:=G;have g1:=G;try simp at g1
   have i3:=ik mR nc;simp[i3,ZF,G];repeat with_reducible refine yx ?_
   refine cKo e3 ?_ ?_<;>intro k9 h5 e3
   ·have i4:mR<nc.length:=by(simp at h5;omega)
    have m6:=ml nc (k9 6 _ rfl);have w3:=wr mR;simp[G];repeat with_reducible refine yx ?_
    exact ny1 (an w1 (an w3 G)) e3
   ·have e1:=ms e1 e3;simp[G];repeat with_reducible refine yx ?_
    refine dIo mixed ?_;simp[G];repeat with_reducible refine yx ?_
    exact nx2 e1 (hI:=by first|omega|(simp at*;omega)) (hw:=XN [((3,0),some (82,0))] [] rfl zB9)
  ·have l3:=G;simp[G];repeat with_reducible refine yx ?_
   refine cKo e3 ?_ ?_<;>intro cQ h6 e3
   ·simp[G]at h6
   ·have e1:=ms e1 e3;simp[G];repeat with_reducible refine yx ?_
    refine dIo mixed ?_;simp[G];repeat with_reducible refine yx ?_
    exact nx2 e1 (hI:=by first|omega|(simp at*;omega)) (hw:=XN [((3,0),some (82,0))] [] rfl zB9)
 have c2:=sl 2330624 a0 u0;have f:=ms f e1;refine Ir (rv:=[.tmp 2]) rfl ?_;simp[f.h];all_goals(rintro r (hr|rfl|hr) x hx<;>(first|(simp at hx;rcases hx with rfl|rfl<;>rfl)|((first|(replace hr:=List.mem_of_mem_take hr)|(replace hr:=List.mem_of_mem_drop hr));simp at hr;obtain⟨a,_,rfl⟩:=hr;simp at hx;rcases hx with rfl|rfl<;>rfl)))
theorem Ff(a0:YO)(a1:List Zs)(u0:Sm 2322432 a1):Sd 272 [a0.row,rL 5 Zs.row a1] [rL 2 Zh.row (jF a0 a1)]:=by
 have f:=me (jF.eq_1 a0 a1);refine soD func272 ntmps272 ?_;refine pR (t:=5) (cells:=[.nil 2]) rfl rfl rfl rfl zAG zAG ?_;simp;refine cF f ?_ ?_<;>intro k1 h1 f
 ·refine Hf (tf:=11) (u:=5) (row:=[.sl 2 (([]:List Zh).map Zh.row)]) (nj:=[.sl 2 ((Zw 0 (W (a0.XF-1)) ([]:List Zh)).map Zh.row)]) (cells:=[.nil 2]) [false] rfl rfl rfl rfl (J5 0 (W (a0.XF-1)) ([]:List Zh) zAC) zAG zAG zAG zAG zAG zAG zAG zAG zAG zAG zCC zAG zAG ?_;simp;refine cF f ?_ ?_<;>intro k2 h2 f
  ·refine Hf (tf:=19) (u:=5) (row:=[.sl 2 ((Zw 0 (W (a0.XF-1)) ([]:List Zh)).map Zh.row)]) (nj:=[.sl 2 ((Zw (W (a0.To+1)) 10000 (Zw 0 (W (a0.XF-1)) ([]:List Zh))).map Zh.row)]) (cells:=[.sref 5 1 0 (Zw 0 (W (a0.XF-1)) ([]:List Zh)).length]) [false] rfl rfl rfl rfl (J5 (W (a0.To+1)) 10000 (Zw 0 (W (a0.XF-1)) ([]:List Zh)) zAC) zAG zAG zAG zAG zAG zAG zAG zAG zAG zAG zCC zAG zAG ?_;simp;refine cRs (W5 a1 a0.Zc) ?_;refine Hf (tf:=24) (u:=5) (row:=[.sl 2 ((Zw (W (a0.To+1)) 10000 (Zw 0 (W (a0.XF-1)) ([]:List Zh))).map Zh.row)]) (nj:=[.sl 2 ((Zw (QT a1 a0.Zc) 10000 (Zw (W (a0.To+1)) 10000 (Zw 0 (W (a0.XF-1)) ([]:List Zh)))).map Zh.row)]) (cells:=[.sref 5 1 0 (Zw (W (a0.To+1)) 10000 (Zw 0 (W (a0.XF-1)) ([]:List Zh))).length]) [false] rfl rfl rfl rfl (J5 (QT a1 a0.Zc) 10000 (Zw (W (a0.To+1)) 10000 (Zw 0 (W (a0.XF-1)) ([]:List Zh))) zAC) zAG zAG zAG zAG zAG zAG zAG zAG zAG zAG zCC zAG zAG ?_;simp;refine cDs [false] (yr (Zw (QT a1 a0.Zc) 10000 (Zw (W (a0.To+1)) 10000 (Zw 0 (W (a0.XF-1)) ([]:List Zh)))) zAC) ?_;exact rtD [.tmp 4] f
  refine cRs (W5 a1 a0.Zc) ?_;refine Hf (tf:=24) (u:=5) (row:=[.sl 2 ((Zw 0 (W (a0.XF-1)) ([]:List Zh)).map Zh.row)]) (nj:=[.sl 2 ((Zw (QT a1 a0.Zc) 10000 (Zw 0 (W (a0.XF-1)) ([]:List Zh))).map Zh.row)]) (cells:=[.sref 5 1 0 (Zw 0 (W (a0.XF-1)) ([]:List Zh)).length]) [false] rfl rfl rfl rfl (J5 (QT a1 a0.Zc) 10000 (Zw 0 (W (a0.XF-1)) ([]:List Zh)) zAC) zAG zAG zAG zAG zAG zAG zAG zAG zAG zAG zCC zAG zAG ?_;simp;refine cDs [false] (yr (Zw (QT a1 a0.Zc) 10000 (Zw 0 (W (a0.XF-1)) ([]:List Zh))) zAC) ?_;exact rtD [.tmp 4] f
 refine cF f ?_ ?_<;>intro k3 h3 f
 ·refine Hf (tf:=19) (u:=5) (row:=[.sl 2 (([]:List Zh).map Zh.row)]) (nj:=[.sl 2 ((Zw (W (a0.To+1)) 10000 ([]:List Zh)).map Zh.row)]) (cells:=[.nil 2]) [false] rfl rfl rfl rfl (J5 (W (a0.To+1)) 10000 ([]:List Zh) zAC) zAG zAG zAG zAG zAG zAG zAG zAG zAG zAG zCC zAG zAG ?_;simp;refine cRs (W5 a1 a0.Zc) ?_;refine Hf (tf:=24) (u:=5) (row:=[.sl 2 ((Zw (W (a0.To+1)) 10000 ([]:List Zh)).map Zh.row)]) (nj:=[.sl 2 ((Zw (QT a1 a0.Zc) 10000 (Zw (W (a0.To+1)) 10000 ([]:List Zh))).map Zh.row)]) (cells:=[.sref 5 1 0 (Zw (W (a0.To+1)) 10000 ([]:List Zh)).length]) [false] rfl rfl rfl rfl (J5 (QT a1 a0.Zc) 10000 (Zw (W (a0.To+1)) 10000 ([]:List Zh)) zAC) zAG zAG zAG zAG zAG zAG zAG zAG zAG zAG zCC zAG zAG ?_;simp;refine cDs [false] (yr (Zw (QT a1 a0.Zc) 10000 (Zw (W (a0.To+1)) 10000 ([]:List Zh))) zAC) ?_;exact rtD [.tmp 4] f
 refine cRs (W5 a1 a0.Zc) ?_;refine Hf (tf:=24) (u:=5) (row:=[.sl 2 (([]:List Zh).map Zh.row)]) (nj:=[.sl 2 ((Zw (QT a1 a0.Zc) 10000 ([]:List Zh)).map Zh.row)]) (cells:=[.nil 2]) [false] rfl rfl rfl rfl (J5 (QT a1 a0.Zc) 10000 ([]:List Zh) zAC) zAG zAG zAG zAG zAG zAG zAG zAG zAG zAG zCC zAG zAG ?_;simp;refine cDs [false] (yr (Zw (QT a1 a0.Zc) 10000 ([]:List Zh)) zAC) ?_;exact rtD [.tmp 4] f
theorem F4(a0 a1:Zh):Sa 291 [a0.row,a1.row] [rB (jL a0 a1)]:=by have f:=me (jL.eq_1 a0 a1);refine so func291 ntmps291 ?_;refine cRs (KL a0) ?_;refine cGs (fun gg=>KL a1) ?_;exact rt [.tmp 4] f
theorem Wa(a0:List Zh)(a1:Zh)(u0:Sm 2326528 a0):Sa 271 [rL 2 Zh.row a0,a1.row] [rB (zh a0 a1)]:=by
 have f:=me (zh.eq_1 a0 a1);refine so func271 ntmps271 ?_;refine cRs (Yb.rd (yr a0 (sg u0))) ?_;refine lp1 (jq.eq_2 a0 a1) (fun J=>Yy 18 [eX 3 (a1.row.map .d),eL 8 2 (Xi a0) Zh.row,eI 9 ((Xi a0).length:Int),eI 10 (J:Int)]) (fun n1 J=>(Xi a0).length<n1+J/\J<=(Xi a0).length) ((Xi a0).length+1) 0 (fun p1 J e1 j1=>?_);refine cFf e1 ?_ ?_<;>intro k2 h1 e1
 ·have i1:=ix h1;have m2:=ml (Xi a0) (k2 8 _ rfl);have w1:=wr J;simp[i1,ZF];refine rpS ?_;refine cRs (F4 a1 (nth (Xi a0) J)) ?_;refine cF e1 ?_ ?_<;>intro k3 h2 e1
  ·exact rt [.tmp 4] (ms f e1)
  exact ny1 w1 e1
 exact rt [.tmp 4] (ms f e1)
theorem FK(a0:YO)(a1:List Zs)(a2:Zh)(u0:Sm 2318336 a1):Sa 218 [a0.row,rL 5 Zs.row a1,a2.row] [rB (UG a0 a1 a2)]:=by have f:=me (UG.eq_1 a0 a1 a2);refine so func218 ntmps218 ?_;refine dIs mixed ?_;refine cRs (Yb.rd (Ff a0 a1 (sg u0))) ?_;refine cRs (Wa (jF a0 a1) a2 (by exact ED zAE)) ?_;exact rt [.tmp 6] f
theorem Hr(a0:List Zs)(a1:Int):Sa 295 [rL 5 Zs.row a0,rI a1] [rI (JU a0 a1)]:=by
 have f:=me (JU.eq_1 a0 a1);refine so func295 ntmps295 ?_;refine cRs (Es a0 a1) ?_;refine cF f ?_ ?_<;>intro k1 h1 f
 ·exact rt [.tmp 4] f
 exact rt [.tmp 4] f
theorem Gz(a0 a1:Zh):Sa 300 [a0.row,a1.row] [(X1 a0 a1).1.row,rB (X1 a0 a1).2]:=by
 have f:=me (X1.eq_1 a0 a1);refine so func300 ntmps300 ?_;refine cRs (KL a0) ?_;refine cGs (fun gg=>KL a1) ?_;refine cGs (fun gg=>KL (Zh.mk (if a1.XF>a0.XF then a1.XF else a0.XF) (if a1.To<a0.To then a1.To else a0.To))) ?_;refine cF f ?_ ?_<;>intro k1 h1 f
 ·exact rt [.cell 4 60,.tmp 5] f
 exact rt [.cell 4 60,.tmp 5] f
theorem DF(h:b)(k:a:=by(intros;first|omega|with_unfolding_all (first|(first|omega|(simp at*;omega)))|((try simp only[Yw,show ∀x,IntKind.i64.wrap x=W x from fun _=>rfl]at*);omega))):a/\b:=⟨k,h⟩
theorem Dz(a0 a1:List Zh)(u0:Sm 2326528 a0)(u1:Sm 2326528 a1)(u2:a0.length<=1/\a1.length<=1):Sd 294 [rL 2 Zh.row a0,rL 2 Zh.row a1] [rL 2 Zh.row (VI a0 a1)]:=by
 have f:=me (VI.eq_1 a0 a1);refine soD func294 ntmps294 ?_;refine lp2 (WT.eq_2 a0 a1) (fun J U=>Yy 39 [eL 1 2 a1 Zh.row,(5,.one (.sref 5 0 0 J.length),[.arr false 2 (J.map Zh.row)]),eL 12 2 a0 Zh.row,eI 13 (a0.length:Int),eI 14 (U:Int)]) (fun n1 J U=>a0.length<n1+U/\U<=a0.length/\J.length<=U) (a0.length+1) ([]:List Zh) 0 (fun p1 J U e1 j1=>?_) (h0:=wkS [((5,0),none)] []);refine cFf e1 ?_ ?_<;>intro k2 h1 e1
 ·have i1:=ix h1;have w1:=wr U;simp[i1,ZF];refine lp2 (jY.eq_2 a0 a1 U) (fun nc nh=>Yy 39 [eL 1 2 a1 Zh.row,(5,.one (.sref 5 0 0 nc.length),[.arr false 2 (nc.map Zh.row)]),eX 7 ((nth a0 U).row.map .d),eL 12 2 a0 Zh.row,eI 13 (a0.length:Int),eI 14 (U:Int),eL 18 2 a1 Zh.row,eI 19 (a1.length:Int),eI 20 (nh:Int)]) (fun n2 nc nh=>a1.length<n2+nh/\nh<=a1.length/\nc.length<=U+nh) (a1.length+1) J 0 (fun p2 nc nh e2 j2=>?_);refine cFf e2 ?_ ?_<;>intro k4 h2 e2
  ·have i2:=ix h2;have w2:=wr nh;simp[i2,ZF];refine cRs (Gz (nth a0 U) (nth a1 nh)) ?_;refine cFf e2 ?_ ?_<;>intro k5 h3 e2
   ·simp;repeat with_reducible refine DF ?_
    exact nx2 e2 (hI:=by first|omega|(simp at*;omega)) (hw:=XN [((5,0),some (34,0))] [] rfl zB6)
   exact ny2 (an w1 w2) e2 (hI:=by first|omega|(simp at*;omega))
  have e1:=ms e1 e2;exact ny2 w1 e1
 have f:=ms f e1;refine cDs [false] (yr J (by exact⟨zAD,fun _ _=>trivial⟩)) ?_;exact rtD [.tmp 4] f
theorem Ga(a0:YO)(a1:List Zs)(u0:Sm 2322432 a1):Sd 273 [a0.row,rL 5 Zs.row a1] [rL 2 Zh.row (xz a0 a1)]:=by have f:=me (xz.eq_1 a0 a1);refine soD func273 ntmps273 ?_;refine dIs mixed ?_;refine cRs (P6 a0) ?_;refine cRs (Hr a1 a0.Zc) ?_;refine cDs [false] (Dz ([Jm a0]:List Zh) ([Zh.mk 0 (JU a1 a0.Zc)]:List Zh) zAk zAk (by exact⟨Nat.le_refl _,Nat.le_refl _⟩)) ?_;exact rtD [.tmp 4] f
theorem Lt(a0:YO)(a1:List Zs)(a2:Zh)(u0:Sm 2318336 a1):Sa 219 [a0.row,rL 5 Zs.row a1,a2.row] [rB (qa a0 a1 a2)]:=by have f:=me (qa.eq_1 a0 a1 a2);refine so func219 ntmps219 ?_;refine dIs mixed ?_;refine cRs (Yb.rd (Ga a0 a1 (sg u0))) ?_;refine cRs (Wa (xz a0 a1) a2 (by exact GM zAE)) ?_;exact rt [.tmp 6] f
theorem Lu(a0:List ZU)(u0:Sm 2330624 a0):Sd 221 [rL 3 ZU.row a0] [rL 6 Xc.row (Kl a0)]:=by
 have f:=me (Kl.eq_1 a0);refine soD func221 ntmps221 ?_;refine lp2 (K9.eq_2 a0) (fun J U=>Yy 26 [(3,.one (.sref 3 0 0 J.length),[.arr false 6 (J.map Xc.row)]),eL 8 3 a0 ZU.row,eI 9 (a0.length:Int),eI 10 (U:Int)]) (fun n1 J U=>a0.length<n1+U/\U<=a0.length/\J.length<=0+1*U) (a0.length+1) ([]:List Xc) 0 (fun p1 J U e1 j1=>?_) (h0:=wkS [((3,0),none)] []);refine cFf e1 ?_ ?_<;>intro k2 h1 e1
 ·have i1:=ix h1;have m2:=ml a0 (k2 8 _ rfl);have c1:=sl 2330624 a0 u0;have w1:=wr U;simp[i1,ZF];refine rpS ?_;refine cRs (UY (nth a0 U)) ?_;refine cF e1 ?_ ?_<;>intro k3 h2 e1
  ·exact nx2 e1 (hw:=XN [((3,0),some (23,0))] [] rfl zAe)
  exact ny2 w1 e1
 exact rtD [.tmp 2] (ms f e1)
theorem G8(a0:Xc):Sa 301 [a0.row] [rB (PB a0)]:=by have f:=me (PB.eq_1 a0);refine so func301 ntmps301 ?_;refine cRs (Zz a0.Org 1 99) ?_;refine cGs (fun gg=>Zz a0.Mp 0 99) ?_;refine cGs (fun gg=>Zz a0.Key 1 99) ?_;refine cGs (fun gg=>KL (Zh.mk a0.XF a0.To)) ?_;exact rt [.tmp 2] f
theorem Mh(a0:Xc):Sd 302 [a0.row] [rL 1 iR (z7 a0)]:=by have f:=me (z7.eq_1 a0);refine soD func302 ntmps302 ?_;exact rtD [.tmp 2] f
theorem Nj(a0:List Y6)(a1:Xc)(u0:Sm 2314240 a0):Sa 296 [rL 5 Y6.row a0,a1.row] [rB (V9 a0 a1)]:=by have f:=me (V9.eq_1 a0 a1);refine so func296 ntmps296 ?_;refine dIs mixed ?_;refine cRs (G8 a1) ?_;refine cGs (fun gg=>Nn a0 a1.Key) ?_;refine cGs (fun gg=>Yb.rd (Mh a1)) ?_;refine cGs (fun gg=>Jc a0 a1.Key (z7 a1) a1.Mark (sg u0) (by simp(maxDischargeDepth:=12) [M3];try omega)) ?_;exact rt [.tmp 4] f
theorem O1(a0:List Y6)(a1:List Xc)(a2 a3:Int)(u0:Sm 2310144 a0)(u1:Sm 2310144 a1):Sd 274 [rL 5 Y6.row a0,rL 6 Xc.row a1,rI a2,rI a3] [rL 2 Zh.row (qD a0 a1 a2 a3)]:=by
 have f:=me (qD.eq_1 a0 a1 a2 a3);refine soD func274 ntmps274 ?_;refine lp2 (yQ.eq_2 a0 a1 a2 a3) (fun J U=>Yy 44 [eL 0 5 a0 Y6.row,eI 2 a2,eI 3 a3,(9,.one (.sref 9 0 0 J.length),[.arr false 2 (J.map Zh.row)]),eL 12 6 a1 Xc.row,eI 13 (a1.length:Int),eI 14 (U:Int)]) (fun n1 J U=>a1.length<n1+U/\U<=a1.length/\J.length<=0+1*U) (a1.length+1) ([]:List Zh) 0 (fun p1 J U e1 j1=>?_) (h0:=wkS [((9,0),none)] []);refine cFf e1 ?_ ?_<;>intro k2 h1 e1
 ·have i1:=ix h1;have m2:=ml a1 (k2 12 _ rfl);have c1:=sl 2310144 a1 (an u0 u1);have w1:=wr U;simp[i1,ZF];refine rpS ?_;refine cGs (fun gg=>Nj a0 (nth a1 U) (sg u0)) ?_;refine cF e1 ?_ ?_<;>intro k3 h2 e1
  ·exact nx2 e1 (hw:=XN [((9,0),some (40,0))] [] rfl zAe)
  exact ny2 w1 e1
 have c2:=sl 2310144 a1 (an u0 u1);have f:=ms f e1;refine cDs [false] (yr J (by first|(simp(maxDischargeDepth:=12) [XH];omega)|(simp(maxDischargeDepth:=12) [ZH (m:=2330624) zAE u0,ZH (m:=2330624) zAE u1];done))) ?_;exact rtD [.tmp 8] f
theorem Ih(a0:List Y6)(a1:List Xc)(a2 a3:Int)(a4:Zh)(u0:Sm 2306048 a0)(u1:Sm 2306048 a1):Sa 220 [rL 5 Y6.row a0,rL 6 Xc.row a1,rI a2,rI a3,a4.row] [rB (W7 a0 a1 a2 a3 a4)]:=by have f:=me (W7.eq_1 a0 a1 a2 a3 a4);refine so func220 ntmps220 ?_;refine dIs mixed ?_;refine cGs (fun gg=>KL a4) ?_;refine cGs (fun gg=>Yb.rd (O1 a0 a1 a2 a3 (by first|exact sg u0|exact sg u1) (by first|exact sg u0|exact sg u1))) ?_;refine cGs (fun gg=>Wa (qD a0 a1 a2 a3) a4 (by exact NS (by have z:=YX u1;omega))) ?_;refine⟨by by_cases h:a2=0<;>simp[h],?_⟩;exact rt [.tmp 10] f
theorem Np(a0:Zb)(a1:YB)(a2:List (List Int))(a3:Int)(a4:Zp)(u0:Sm 2281472 a0)(u1:Sm 2281472 a1)(u2:Sm 2281472 a2)(u3:sM a1<=2097152):Sa 136 [a0.row,a1.row,rL 1 (slR 1 iR) a2,rI a3,a4.row] [(j8 a0 a1 a2 a3 a4).row]:=by
 have f:=me (j8.eq_1 a0 a1 a2 a3 a4);refine so func136 ntmps136 ?_;refine cRs (DH a0) ?_;refine cF f ?_ ?_<;>intro k1 h1 f
 ·refine cRs (VD 1) ?_;exact rt [.cell 10 62] f
 refine cRs (kj a4) ?_;refine cF f ?_ ?_<;>intro k2 h2 f
 ·refine cRs (SS 1) ?_;exact rt [.cell 10 62] f
 refine cF f ?_ ?_<;>intro k3 h3 f
 ·refine cRs (VD 2) ?_;exact rt [.cell 10 62] f
 refine cF f ?_ ?_<;>intro k4 h4 f
 ·refine cRs (SS 2) ?_;exact rt [.cell 10 62] f
 refine cRs (Jf a0.Z0 a4.Key) ?_;refine cF f ?_ ?_<;>intro k5 h5 f
 ·refine cRs (VD 3) ?_;exact rt [.cell 10 62] f
 refine cRs (Pj a0.Z0 a4 zAB) ?_;refine cF f ?_ ?_<;>intro k6 h6 f
 ·refine cRs (SS 4) ?_;exact rt [.cell 10 62] f
 refine dIs mixed ?_;refine cRs (Yb.rd (Vq a4)) ?_;refine cRs (VR a0 a1 a2 (Yo a4) zAB zAB zAB zAB) ?_;refine cRs (Wh a0 a4.Key) ?_;refine cGs (fun gg=>Wr a0.Methods a4.Method) ?_;refine cF f ?_ ?_<;>intro k8 h7 f
 ·refine cRs (VD 5) ?_;exact rt [.cell 10 62] f
 refine cRs (Nw a0 a1 a2 zAB zAB zAB zAB) ?_;refine cRs (CR a0 (Zr a0 a1 a2) a4 zAB zAB) ?_;refine cF f ?_ ?_<;>intro k9 h8 f
 ·refine cRs (VD 6) ?_;exact rt [.cell 10 62] f
 refine cRs (Gi a0 a1 (Zr a0 a1 a2) a4 zAB zAB zAB) ?_;refine cF f ?_ ?_<;>intro cS h9 f
 ·refine cRs (VD 7) ?_;exact rt [.cell 10 62] f
 refine cRs (Yb.rd (MD (Zr a0 a1 a2) (Qe a0 (Zr a0 a1 a2) a4).1 zAB)) ?_;refine cRs (FK (Qe a0 (Zr a0 a1 a2) a4).1 (X5 (Zr a0 a1 a2) (Qe a0 (Zr a0 a1 a2) a4).1) (Zh.mk (Xx a0 a1 (Zr a0 a1 a2) a4) (Z4 a0 a1 a2 (Yo a4))) zAB) ?_;refine cF f ?_ ?_<;>intro cQ hR f
 ·exact rt [.cell 10 62] f
 refine cRs (Lt (Qe a0 (Zr a0 a1 a2) a4).1 (X5 (Zr a0 a1 a2) (Qe a0 (Zr a0 a1 a2) a4).1) (Zh.mk (Xx a0 a1 (Zr a0 a1 a2) a4) (Z4 a0 a1 a2 (Yo a4))) zAB) ?_;refine cF f ?_ ?_<;>intro k12 cN f
 ·exact rt [.cell 10 62] f
 refine dIs mixed ?_;refine cRs (Yb.rd (Lu (Zr a0 a1 a2) zAB)) ?_;refine cRs (Ih a0.Z0 (Kl (Zr a0 a1 a2)) a4.Org (Qe a0 (Zr a0 a1 a2) a4).1.qf (Zh.mk (Xx a0 a1 (Zr a0 a1 a2) a4) (Z4 a0 a1 a2 (Yo a4))) zAB zAB) ?_;refine cF f ?_ ?_<;>intro k14 dn f
 ·exact rt [.cell 10 62] f
 exact rt [.cell 10 62] f
theorem AU(a0:Zb)(a1:YB)(a2:ZW)(a3:Zp)(u0:Sm 2277376 a0)(u1:Sm 2277376 a1)(u2:Sm 2277376 a2)(u3:sM a1<=2097152):Sa 73 [a0.row,a1.row,a2.row,a3.row] [(Ix a0 a1 a2 a3).row]:=by have f:=me (Ix.eq_1 a0 a1 a2 a3);refine so func73 ntmps73 ?_;refine dIs mixed ?_;refine cRs (Yb.rd (OO a1 a2 zAc zAc)) ?_;refine cRs (yN a3.Method a2 zAc) ?_;refine cRs (Np a0 a1 (Z7 a1 a2) (Yx a3.Method a2) a3 zAc zAc zAc zAc) ?_;exact rt [.cell 8 62] f
theorem G5(a0:Zb)(a1:ZR)(u0:Sm 2273280 a0)(u1:Sm 2097152 a1):Sa 30 [a0.row,a1.row] [(xp a0 a1).row]:=by have f:=me (xp.eq_1 a0 a1);refine so func30 ntmps30 ?_;refine dIs mixed ?_;refine cRs (Yb.rd (Nz a1 zAI)) ?_;refine cRs (AU a0 (ZV a1) a1.Doc a1.Sig zAI zAI zAI zAI) ?_;exact rt [.cell 4 62] f
theorem MU(h:b)(k:a:=by(intros;first|omega|with_unfolding_all (first|first|omega|(have fi:=Ym a0 a1 zBw;omega))|((try simp only[Yw,show ∀x,IntKind.i64.wrap x=W x from fun _=>rfl]at*);omega))):a/\b:=⟨k,h⟩
theorem yM(a0:ZG)(a1:Int)(u0:Sm 1048576 a0):Sa 15 [a0.row,rI a1] [(XP a0 a1).row]:=by
 have f:=me (XP.eq_1 a0 a1);refine so func15 ntmps15 ?_;refine cRs (jX a0 a1) ?_;refine cFo f ?_ ?_<;>intro k1 h1 f
 ·have q1:=h1;try simp at q1
  simp;exact rt [.cell 4 62] f
 have q1:=h1;try simp at q1
 simp;refine dIo mixed ?_;have i1:(ZO a0 a1).1.toNat<a0.ZB.length:=zBV
 have i2:(ZO a0 a1).2.toNat<(nth a0.ZB (ZO a0 a1).1.toNat).ZC.length:=zBV;simp[i1,ZF,i2];repeat with_reducible refine MU ?_
 refine cRs (G5 a0.Frame (nth (nth a0.ZB (ZO a0 a1).1.toNat).ZC (ZO a0 a1).2.toNat) (sg (ZG.Xk u0)) (sg (Zn (ZE.YC (Zn (ZG.Z5 u0)))))) ?_;exact rt [.cell 4 62] f
theorem Ia(h:b)(k:a:=by(intros;first|omega|with_unfolding_all (first|(first|omega|(have z:=Fw a0;omega)))|((try simp only[Yw,show ∀x,IntKind.i64.wrap x=W x from fun _=>rfl]at*);omega))):a/\b:=⟨k,h⟩
theorem S7(a0:ZG)(u0:Sm 1048576 a0)(u1:itn a0.ZB<=1048576):Sd 10 [a0.row] [rL 1 iR (Zd a0)]:=by
 have f:=me (Zd.eq_1 a0);refine soD func10 ntmps10 ?_;refine cRs (D1 a0 (sg u0) zAY) ?_;refine lp2 (KO.eq_2 a0) (fun J U=>Yy 26 [eX 1 (a0.row.map .d),(3,.one (.sref 3 0 0 J.length),[.arr false 1 (J.map iR)]),eL 7 16 (Jo a0) ZR.row,eI 8 ((Jo a0).length:Int),eI 9 (U:Int)]) (fun n1 J U=>(Jo a0).length<n1+U/\U<=(Jo a0).length/\J.length<=U) ((Jo a0).length+1) ([]:List Int) 0 (fun p1 J U e1 j1=>?_) (h0:=wkS [((3,0),none)] []);refine cFf e1 ?_ ?_<;>intro k2 h1 e1
 ·have i1:=ix h1;have m2:=ml (Jo a0) (k2 7 _ rfl);have w1:=wr U;simp[i1,ZF];refine cRs (yM a0 (nth (Jo a0) U).Id u0) ?_;refine cFf e1 ?_ ?_<;>intro k3 h2 e1
  ·simp;repeat with_reducible refine Ia ?_
   exact nx2 e1 (hw:=XN [((3,0),some (23,0))] [] rfl zAe)
  exact ny2 w1 e1
 exact rtD [.tmp 2] (ms f e1)
theorem Su(a0:Zb)(a1:ZX)(a2:List Int)(u0:Sm 2297856 a0)(u1:Sm 2297856 a1)(u2:Sm 2297856 a2):Sa 27 [a0.row,a1.row,rL 1 iR a2] [rB (Ki a0 a1 a2)]:=by have f:=me (Ki.eq_1 a0 a1 a2);refine so func27 ntmps27 ?_;refine cGs (fun gg=>Ro a0 a1 a2 (sg u0) (sg u1) (sg u2)) ?_;exact rt [.tmp 6] f
theorem Pf(h:b)(k:a:=by(intros;first|omega|with_unfolding_all (first|first|omega|(have fi:=Ym a0 a1 (by(try simp at q1);omega);omega))|((try simp only[Yw,show ∀x,IntKind.i64.wrap x=W x from fun _=>rfl]at*);omega))):a/\b:=⟨k,h⟩
theorem Wo(a0:ZG)(a1:Int)(u0:Sm 2293760 a0):Sa 14 [a0.row,rI a1] [rB (J7 a0 a1)]:=by
 have f:=me (J7.eq_1 a0 a1);refine so func14 ntmps14 ?_;refine cRs (jX a0 a1) ?_;refine cFo f ?_ ?_<;>intro k1 h1 f
 ·have q1:=h1;try simp at q1
  simp;exact rt [.tmp 4] f
 have q1:=h1;try simp at q1
 have i1:(ZO a0 a1).1.toNat<a0.ZB.length:=by(have fi:=Ym a0 a1 (by(try simp at q1);omega);omega)
 have i2:(ZO a0 a1).2.toNat<(nth a0.ZB (ZO a0 a1).1.toNat).ZC.length:=by(have fi:=Ym a0 a1 (by(try simp at q1);omega);omega)
 simp[i1,ZF,i2];repeat with_reducible refine Pf ?_
 refine dIs mixed ?_;refine cRs (Yb.rd (qx (nth (nth a0.ZB (ZO a0 a1).1.toNat).ZC (ZO a0 a1).2.toNat).ZK (nth (nth a0.ZB (ZO a0 a1).1.toNat).ZC (ZO a0 a1).2.toNat).Doc (sg (ZR.Yv (Zn (ZE.YC (Zn (ZG.Z5 u0)))))) (sg (ZR.zt (Zn (ZE.YC (Zn (ZG.Z5 u0)))))))) ?_;refine cRs (Su a0.Frame (nth (nth a0.ZB (ZO a0 a1).1.toNat).ZC (ZO a0 a1).2.toNat).ZK (XR (nth (nth a0.ZB (ZO a0 a1).1.toNat).ZC (ZO a0 a1).2.toNat).ZK (nth (nth a0.ZB (ZO a0 a1).1.toNat).ZC (ZO a0 a1).2.toNat).Doc) (sg (ZG.Xk u0)) (sg (ZR.Yv (Zn (ZE.YC (Zn (ZG.Z5 u0)))))) (by simp(maxDischargeDepth:=12) [zJ,ZH (m:=2297856) zAE u0];try omega)) ?_;exact rt [.tmp 4] f
end Go.Proofs.YthecodaabaaaoaaGreat
