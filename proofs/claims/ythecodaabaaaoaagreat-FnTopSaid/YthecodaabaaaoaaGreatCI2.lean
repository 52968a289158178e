/- Contracts of the functions La the abstract machine, part I2. No condition. -/
import Derived.Test.YthecodaabaaaoaaGreatCI1
namespace Go.Proofs.YthecodaabaaaoaaGreat
open Tryz
open Go.Vm Go.Mo
set_option maxHeartbeats 1000000
set_option maxRecDepth 100000
set_option linter.unusedSimpArgs false
set_option linter.unusedVariables false
variable{a b:Prop}
theorem Gn(a0:ZO)(a1:Z9)(a2:List ZT)(a3:Zl)(u0:Sm 2314240 a0)(u1:Sm 2314240 a1)(u2:Sm 2314240 a2):Sa 216 [a0.row,a1.row,rL 3 ZT.row a2,a3.row] [rI (Xv a0 a1 a2 a3)]:=by
 have f:=me (Xv.eq_1 a0 a1 a2 a3);refine so func216 ntmps216 ?_;refine cRs (Jz a0.Zt a3.Key) ?_;refine cFf f ?_ ?_<;>intro k1 h1 f
 ·have i1:(Z6 a0.Zt a3.Key).toNat<a0.Zt.length:=by have:=zz a0.Zt a3.Key;exact il
  simp[i1,ZD];refine rpS ?_;refine lp2 (xr.eq_2 a0 a1 a2 a3) (fun J U=>Yx 92 [eL 2 3 a2 ZT.row,eX 4 (a0.row.map .d),eX 7 (a3.row.map .d),eI 9 J,eL 32 1 a1.XI (slR 5 Zm.row),eI 33 (a1.XI.length:Int),eI 34 (U:Int)]) (fun n1 J U=>a1.XI.length<n1+U/\U<=a1.XI.length) (a1.XI.length+1) (nth a0.Zt (Z6 a0.Zt a3.Key).toNat).VO 0 (fun p1 J U e1 j1=>?_);refine cFf e1 ?_ ?_<;>intro k3 h2 e1
  ·have i2:=ix h2;have m2:=ml a1.XI (k3 32 _ rfl);have c1:=sl 2314240 a1.XI (an u0 (an u1 u2));have w1:=wr U;simp[i2,ZD];refine rpS ?_;refine dIs mixed ?_;refine cGs (fun gg=>xM (nth a1.XI U)) ?_;refine cGs (fun gg=>U8 a3.Method (nth a1.XI U) (sg (Zr (Z9.NS u1)))) ?_;refine cF e1 ?_ ?_<;>intro k5 h3 e1
   ·exact ny2 w1 e1
   refine lp2 (TZ.eq_2 a0 a1 a2 U) (fun iF iI=>Yx 92 [eL 2 3 a2 ZT.row,eX 4 (a0.row.map .d),eX 7 (a3.row.map .d),eI 9 J,eL 12 5 (nth a1.XI U) Zm.row,eB 13 iF,eL 32 1 a1.XI (slR 5 Zm.row),eI 33 (a1.XI.length:Int),eI 34 (U:Int),eL 55 5 (nth a1.XI U) Zm.row,eI 56 ((nth a1.XI U).length:Int),eI 57 (iI:Int)]) (fun n2 iF iI=>(nth a1.XI U).length<n2+iI/\iI<=(nth a1.XI U).length) ((nth a1.XI U).length+1) true 0 (fun p2 iF iI e2 j2=>?_);refine cFf e2 ?_ ?_<;>intro k7 h4 e2
   ·have i3:=ix h4;have m4:=ml (nth a1.XI U) (k7 12 _ rfl);have c2:=sl 2314240 (nth a1.XI U) (an u0 (an u1 u2));have w2:=wr iI;simp[i3,ZD];refine rpS ?_;refine dIs mixed ?_;refine cGs (fun gg=>Tb a0.ZC (nth (nth a1.XI U) iI)) ?_;refine cGs (fun gg=>Yg.rd (RN (X9 a0.ZC (nth (nth a1.XI U) iI)) (nth (nth a1.XI U) iI))) ?_;refine cGs (fun gg=>Wd a2 (jA (X9 a0.ZC (nth (nth a1.XI U) iI)) (nth (nth a1.XI U) iI))) ?_;exact ny2 (an w1 w2) e2
   have c3:=sl 2314240 (nth a1.XI U) (an u0 (an u1 u2));have e1:=ms e1 e2;refine cRs (Ta a0.ZC (nth a1.XI U) a0.XJ (sg (ZO.XW u0)) (sg (Zr (Z9.NS u1)))) ?_;refine cF e1 ?_ ?_<;>intro k9 h5 e1
   ·exact ny2 w1 e1
   exact ny2 w1 e1
  have c4:=sl 2314240 a1.XI (an u0 (an u1 u2));exact rt [.tmp 8] (ms f e1)
 refine lp2 (xu.eq_2 a0 a1 a2 a3) (fun hH hG=>Yx 92 [eL 2 3 a2 ZT.row,eX 4 (a0.row.map .d),eX 7 (a3.row.map .d),eI 9 hH,eL 32 1 a1.XI (slR 5 Zm.row),eI 33 (a1.XI.length:Int),eI 34 (hG:Int)]) (fun n3 hH hG=>a1.XI.length<n3+hG/\hG<=a1.XI.length) (a1.XI.length+1) 0 0 (fun p3 hH hG e3 j3=>?_);refine cFf e3 ?_ ?_<;>intro k11 h6 e3
 ·have i4:=ix h6;have m6:=ml a1.XI (k11 32 _ rfl);have c5:=sl 2314240 a1.XI (an u0 (an u1 u2));have w3:=wr hG;simp[i4,ZD];refine rpS ?_;refine dIs mixed ?_;refine cGs (fun gg=>xM (nth a1.XI hG)) ?_;refine cGs (fun gg=>U8 a3.Method (nth a1.XI hG) (sg (Zr (Z9.NS u1)))) ?_;refine cF e3 ?_ ?_<;>intro aY h7 e3
  ·exact ny2 w3 e3
  refine lp2 (Tg.eq_2 a0 a1 a2 hG) (fun fJ fP=>Yx 92 [eL 2 3 a2 ZT.row,eX 4 (a0.row.map .d),eX 7 (a3.row.map .d),eI 9 hH,eL 12 5 (nth a1.XI hG) Zm.row,eB 13 fJ,eL 32 1 a1.XI (slR 5 Zm.row),eI 33 (a1.XI.length:Int),eI 34 (hG:Int),eL 55 5 (nth a1.XI hG) Zm.row,eI 56 ((nth a1.XI hG).length:Int),eI 57 (fP:Int)]) (fun n4 fJ fP=>(nth a1.XI hG).length<n4+fP/\fP<=(nth a1.XI hG).length) ((nth a1.XI hG).length+1) true 0 (fun p4 fJ fP e4 j4=>?_);refine cFf e4 ?_ ?_<;>intro k15 h8 e4
  ·have i5:=ix h8;have m8:=ml (nth a1.XI hG) (k15 12 _ rfl);have c6:=sl 2314240 (nth a1.XI hG) (an u0 (an u1 u2));have w4:=wr fP;simp[i5,ZD];refine rpS ?_;refine dIs mixed ?_;refine cGs (fun gg=>Tb a0.ZC (nth (nth a1.XI hG) fP)) ?_;refine cGs (fun gg=>Yg.rd (RN (X9 a0.ZC (nth (nth a1.XI hG) fP)) (nth (nth a1.XI hG) fP))) ?_;refine cGs (fun gg=>Wd a2 (jA (X9 a0.ZC (nth (nth a1.XI hG) fP)) (nth (nth a1.XI hG) fP))) ?_;exact ny2 (an w3 w4) e4
  have c7:=sl 2314240 (nth a1.XI hG) (an u0 (an u1 u2));have e3:=ms e3 e4;refine cRs (Ta a0.ZC (nth a1.XI hG) a0.XJ (sg (ZO.XW u0)) (sg (Zr (Z9.NS u1)))) ?_;refine cF e3 ?_ ?_<;>intro k17 h9 e3
  ·exact ny2 w3 e3
  exact ny2 w3 e3
 have c8:=sl 2314240 a1.XI (an u0 (an u1 u2));exact rt [.tmp 8] (ms f e3)
theorem Ld(a0:List ZT)(a1:YN)(u0:Sm 2330624 a0):Sd 217 [rL 3 ZT.row a0,a1.row] [rL 5 Zp.row (QB a0 a1)]:=by
 have f:=me (QB.eq_1 a0 a1);refine soD func217 ntmps217 ?_;refine lp2 (J8.eq_2 a0 a1) (fun J U=>Yx 42 [eX 3 (a1.row.map .d),(5,.one (.sref 5 0 0 J.length),[.arr false 5 (J.map Zp.row)]),eL 10 3 a0 ZT.row,eI 11 (a0.length:Int),eI 12 (U:Int)]) (fun n1 J U=>a0.length<n1+U/\U<=a0.length/\J.length<=0+1*U) (a0.length+1) ([]:List Zp) 0 (fun p1 J U e1 j1=>?_) (h0:=wkS [((5,0),none)] []);refine cFf e1 ?_ ?_<;>intro k2 h1 e1
 ·have i1:=ix h1;have m2:=ml a0 (k2 10 _ rfl);have c1:=sl 2330624 a0 u0;have w1:=wr U;simp[i1,ZD];refine rpS ?_;refine cRs (T7 (nth a0 U)) ?_;refine cF e1 ?_ ?_<;>intro k3 h2 e1
  ·exact nx2 e1 (hw:=XO [((5,0),some (39,0))] [] rfl zAd)
  exact ny2 w1 e1
 exact rtD [.tmp 4] (ms f e1)
theorem KG(a0 a1:Int)(a2:List Ze)(u0:Sm 2326528 a2):FR prog 292 [rI a0,rI a1] [.sl 2 (a2.map Ze.row)] [.sl 2 ((Zu a0 a1 a2).map Ze.row)]:=by
 refine uA func292 rfl zAV [false] zAE (fun v=>?_);simp[ntmps292];refine cR (Tj a0 a1) ?_;simp;refine cC (zT a0 a1).2 (fun k1 h1=>?_) (fun k1 h1=>?_)
 ·have q1:=h1;try simp at q1
  have c1:a2.length<=2326528:=YQ (xs u0);simp;refine rpS ?_;refine n8 (dW:=[.sref 17 0 0 (a2++([(zT a0 a1).1]:List Ze)).length]) rfl ?_ (.inr rfl);have f1:=Zu.eq_1 a0 a1 a2;simp only[h1,XA,XE]at f1;simp[f1];all_goals(rintro r (⟨a,_,rfl⟩|rfl) x hx<;>simp at hx<;>rcases hx with rfl|rfl<;>rfl)
 ·have q1:=h1;try simp at q1
  simp;refine n8 (dW:=[.sref 2 1 0 a2.length]) rfl ?_ (.inr rfl);have f2:=Zu.eq_1 a0 a1 a2
  simp only[h1,XA,XE]at f2;simp[f2];all_goals(rintro r (⟨a,_,rfl⟩|rfl) x hx<;>simp at hx<;>rcases hx with rfl|rfl<;>rfl)
theorem DH(a0:List Zp)(a1:Int):Sa 299 [rL 5 Zp.row a0,rI a1] [rI (qP a0 a1).1,rI (qP a0 a1).2.1,rI (qP a0 a1).2.2]:=by
 have f:=me (qP.eq_1 a0 a1);refine so func299 ntmps299 ?_;refine lp4 (jP.eq_2 a0 a1) (fun J U iD iG=>Yx 49 [eI 1 a1,eI 7 J,eI 8 U,eI 9 iD,eL 12 5 a0 Zp.row,eI 13 (a0.length:Int),eI 14 (iG:Int)]) (fun n1 J U iD iG=>a0.length<n1+iG/\iG<=a0.length) (a0.length+1) (-1) (-1) (-1) 0 (fun p1 J U iD iG e1 j1=>?_);refine cFf e1 ?_ ?_<;>intro k2 h1 e1
 ·have i1:=ix h1;have m2:=ml a0 (k2 12 _ rfl);have w1:=wr iG;simp[i1,ZD];refine rpS ?_;refine cF e1 ?_ ?_<;>intro k3 h2 e1
  ·exact ny4 w1 e1
  refine cF e1 ?_ ?_<;>intro k4 h3 e1
  ·exact ny4 w1 e1
  refine cF e1 ?_ ?_<;>intro k5 h4 e1
  ·exact ny4 w1 e1
  exact ny4 w1 e1
 exact rt _ (ms f e1)
theorem VS(a0:List Zp)(a1:Int):Sa 293 [rL 5 Zp.row a0,rI a1] [rI (Qb a0 a1)]:=by
 have f:=me (Qb.eq_1 a0 a1);refine so func293 ntmps293 ?_;refine cRs (DH a0 a1) ?_;refine cF f ?_ ?_<;>intro k1 h1 f
 ·exact rt [.tmp 4] f
 exact rt [.tmp 4] f
theorem Sx(h:b)(k:a:=by(intros;first|omega|with_unfolding_all (first|(first|omega|(have z:=YQ u0;omega)|(have z:=YQ u0;simp at*;omega)))|((try simp only[Y0,show ∀x,IntKind.i64.wrap x=W x from fun _=>rfl]at*);omega))):a/\b:=⟨k,h⟩
theorem xN(h:b)(k:a:=by(intros;first|omega|with_unfolding_all (first|(first|omega|(have z:=YQ u0;omega)|(have z:=YQ u0;simp at*;omega)))|(simp_all;done)|(simp_all;omega)|grind|((try simp only[Y0,show ∀x,IntKind.i64.wrap x=W x from fun _=>rfl]at*);omega))):a/\b:=⟨k,h⟩
theorem xV(a0:List Ze)(u0:Sm 2330624 a0):Sd 290 [rL 2 Ze.row a0] [rL 2 Ze.row (Xg a0)]:=by
 have f:=me (Xg.eq_1 a0);refine soD func290 ntmps290 ?_;refine lp2 (z8.eq_2 a0) (fun J U=>Yx 85 [(3,.one (.sref 3 0 0 J.length),[.arr false 2 (J.map Ze.row)]),eL 10 2 a0 Ze.row,eI 11 (a0.length:Int),eI 12 (U:Int)]) (fun n1 J U=>a0.length<n1+U/\U<=a0.length/\J.length<=U) (a0.length+1) ([]:List Ze) 0 (fun p1 J U e1 j1=>?_) (h0:=wkS [((3,0),none)] []);try dsimp only at j1
 refine cFf e1 ?_ ?_<;>intro k2 h1 e1
 ·have i1:=ix h1;have m2:=ml a0 (k2 10 _ rfl);have c1:=sl 2330624 a0 u0;have w1:=wr U;simp[i1,ZD];repeat with_reducible refine Sx ?_
  refine cRs (Kb (nth a0 U)) ?_;refine cF e1 ?_ ?_<;>intro k3 h2 e1
  ·exact ny2 w1 e1 (hI:=by first|omega|(simp at*;omega))
  refine lp4 (Qc.eq_2 J) (fun iF iI gq gv=>Yx 85 [(3,.any,[.arr false 2 (J.map Ze.row)]),(5,.one (.bptr 5 0),[.box [.d (.int .i64 gq),.d (.int .i64 gv)]]),(6,.one (.sref 6 0 0 iF.length),[.arr false 2 (iF.map Ze.row)]),eL 10 2 a0 Ze.row,eI 11 (a0.length:Int),eI 12 (U:Int),(19,.one (.sref 3 0 0 J.length),[]),eI 20 (J.length:Int),eI 21 (iI:Int)]) (fun n2 iF iI gq gv=>J.length<n2+iI/\iI<=J.length/\iF.length<=iI) (J.length+1) ([]:List Ze) 0 (nth a0 U).XH (nth a0 U).To (fun p2 iF iI gq gv e2 j2=>?_) (h0:=wkS [((6,0),none)] []);try dsimp only at j2
  refine cFf e2 ?_ ?_<;>intro k5 h3 e2
  ·have i2:=ix h3;have m4:=ml J (k5 19 _ rfl);have w2:=wr iI;simp[i2,ZD];repeat with_reducible refine Sx ?_
   refine cFf e2 ?_ ?_<;>intro k6 h4 e2
   ·simp;repeat with_reducible refine Sx ?_
    exact nx4 e2 (hI:=by first|omega|(simp at*;omega)) (hw:=XO [((6,0),some (42,0))] [] rfl zB1)
   exact ny4 (an w1 w2) e2 (hI:=by first|omega|(simp at*;omega))
  have e1:=ms e1 e2;refine lp1 (TI.eq_2 iF gq) (fun hH=>Yx 85 [(5,.one (.bptr 5 0),[.box [.d (.int .i64 gq),.d (.int .i64 gv)]]),(6,.one (.sref 6 0 0 iF.length),[.arr false 2 (iF.map Ze.row)]),eI 9 (hH:Int),eL 10 2 a0 Ze.row,eI 11 (a0.length:Int),eI 12 (U:Int)]) (fun n3 hH=>iF.length<n3+hH/\hH<=iF.length) (iF.length+1) 0 (fun p3 hH e3 j3=>?_);try dsimp only at j3
  refine dIs mixed ?_;refine gIo ?_ ?_<;>intro G
  ·have fD:=G;have g1:=G;try simp at g1
   have i3:=ik hH iF;simp[i3,ZD,G];repeat with_reducible refine xN ?_
   refine cKo e3 ?_ ?_<;>intro k9 h5 e3
   ·have i4:hH<iF.length:=by(simp at h5;omega)
    have m6:=ml iF (k9 6 _ rfl);have w3:=wr hH;simp[G];repeat with_reducible refine xN ?_
    exact ny1 (an w1 (an w3 G)) e3
   ·have e1:=ms e1 e3;simp[G];repeat with_reducible refine xN ?_
    refine dIo mixed ?_;simp[G];repeat with_reducible refine xN ?_
    exact nx2 e1 (hI:=by first|omega|(simp at*;omega)) (hw:=XO [((3,0),some (82,0))] [] rfl zB4)
  ·have fD:=G;simp[G];repeat with_reducible refine xN ?_
   refine cKo e3 ?_ ?_<;>intro k11 h6 e3
   ·simp[G]at h6
   ·have e1:=ms e1 e3;simp[G];repeat with_reducible refine xN ?_
    refine dIo mixed ?_;simp[G];repeat with_reducible refine xN ?_
    exact nx2 e1 (hI:=by first|omega|(simp at*;omega)) (hw:=XO [((3,0),some (82,0))] [] rfl zB4)
 have c2:=sl 2330624 a0 u0;have f:=ms f e1;refine Il (rv:=[.tmp 2]) rfl ?_;simp[f.h];all_goals(rintro r (hr|rfl|hr) x hx<;>(first|(simp at hx;rcases hx with rfl|rfl<;>rfl)|((first|(replace hr:=List.mem_of_mem_take hr)|(replace hr:=List.mem_of_mem_drop hr));simp at hr;obtain⟨a,_,rfl⟩:=hr;simp at hx;rcases hx with rfl|rfl<;>rfl)))
theorem Fe(a0:YN)(a1:List Zp)(u0:Sm 2322432 a1):Sd 272 [a0.row,rL 5 Zp.row a1] [rL 2 Ze.row (jj a0 a1)]:=by
 have f:=me (jj.eq_1 a0 a1);refine soD func272 ntmps272 ?_;refine np (t:=5) (cells:=[.nil 2]) rfl rfl rfl rfl zAE zAE ?_;simp;refine cF f ?_ ?_<;>intro k1 h1 f
 ·refine GY (tf:=11) (u:=5) (row:=[.sl 2 (([]:List Ze).map Ze.row)]) (iO:=[.sl 2 ((Zu 0 (W (a0.XH-1)) ([]:List Ze)).map Ze.row)]) (cells:=[.nil 2]) [false] rfl rfl rfl rfl (KG 0 (W (a0.XH-1)) ([]:List Ze) zAC) zAE zAE zAE zAE zAE zAE zAE zAE zAE zAE zB7 zAE zAE ?_;simp;refine cF f ?_ ?_<;>intro k2 h2 f
  ·refine GY (tf:=19) (u:=5) (row:=[.sl 2 ((Zu 0 (W (a0.XH-1)) ([]:List Ze)).map Ze.row)]) (iO:=[.sl 2 ((Zu (W (a0.To+1)) 10000 (Zu 0 (W (a0.XH-1)) ([]:List Ze))).map Ze.row)]) (cells:=[.sref 5 1 0 (Zu 0 (W (a0.XH-1)) ([]:List Ze)).length]) [false] rfl rfl rfl rfl (KG (W (a0.To+1)) 10000 (Zu 0 (W (a0.XH-1)) ([]:List Ze)) zAC) zAE zAE zAE zAE zAE zAE zAE zAE zAE zAE zB7 zAE zAE ?_;simp;refine cRs (VS a1 a0.Za) ?_;refine GY (tf:=24) (u:=5) (row:=[.sl 2 ((Zu (W (a0.To+1)) 10000 (Zu 0 (W (a0.XH-1)) ([]:List Ze))).map Ze.row)]) (iO:=[.sl 2 ((Zu (Qb a1 a0.Za) 10000 (Zu (W (a0.To+1)) 10000 (Zu 0 (W (a0.XH-1)) ([]:List Ze)))).map Ze.row)]) (cells:=[.sref 5 1 0 (Zu (W (a0.To+1)) 10000 (Zu 0 (W (a0.XH-1)) ([]:List Ze))).length]) [false] rfl rfl rfl rfl (KG (Qb a1 a0.Za) 10000 (Zu (W (a0.To+1)) 10000 (Zu 0 (W (a0.XH-1)) ([]:List Ze))) zAC) zAE zAE zAE zAE zAE zAE zAE zAE zAE zAE zB7 zAE zAE ?_;simp;refine cDs [false] (xV (Zu (Qb a1 a0.Za) 10000 (Zu (W (a0.To+1)) 10000 (Zu 0 (W (a0.XH-1)) ([]:List Ze)))) zAC) ?_;exact rtD [.tmp 4] f
  refine cRs (VS a1 a0.Za) ?_;refine GY (tf:=24) (u:=5) (row:=[.sl 2 ((Zu 0 (W (a0.XH-1)) ([]:List Ze)).map Ze.row)]) (iO:=[.sl 2 ((Zu (Qb a1 a0.Za) 10000 (Zu 0 (W (a0.XH-1)) ([]:List Ze))).map Ze.row)]) (cells:=[.sref 5 1 0 (Zu 0 (W (a0.XH-1)) ([]:List Ze)).length]) [false] rfl rfl rfl rfl (KG (Qb a1 a0.Za) 10000 (Zu 0 (W (a0.XH-1)) ([]:List Ze)) zAC) zAE zAE zAE zAE zAE zAE zAE zAE zAE zAE zB7 zAE zAE ?_;simp;refine cDs [false] (xV (Zu (Qb a1 a0.Za) 10000 (Zu 0 (W (a0.XH-1)) ([]:List Ze))) zAC) ?_;exact rtD [.tmp 4] f
 refine cF f ?_ ?_<;>intro k3 h3 f
 ·refine GY (tf:=19) (u:=5) (row:=[.sl 2 (([]:List Ze).map Ze.row)]) (iO:=[.sl 2 ((Zu (W (a0.To+1)) 10000 ([]:List Ze)).map Ze.row)]) (cells:=[.nil 2]) [false] rfl rfl rfl rfl (KG (W (a0.To+1)) 10000 ([]:List Ze) zAC) zAE zAE zAE zAE zAE zAE zAE zAE zAE zAE zB7 zAE zAE ?_;simp;refine cRs (VS a1 a0.Za) ?_;refine GY (tf:=24) (u:=5) (row:=[.sl 2 ((Zu (W (a0.To+1)) 10000 ([]:List Ze)).map Ze.row)]) (iO:=[.sl 2 ((Zu (Qb a1 a0.Za) 10000 (Zu (W (a0.To+1)) 10000 ([]:List Ze))).map Ze.row)]) (cells:=[.sref 5 1 0 (Zu (W (a0.To+1)) 10000 ([]:List Ze)).length]) [false] rfl rfl rfl rfl (KG (Qb a1 a0.Za) 10000 (Zu (W (a0.To+1)) 10000 ([]:List Ze)) zAC) zAE zAE zAE zAE zAE zAE zAE zAE zAE zAE zB7 zAE zAE ?_;simp;refine cDs [false] (xV (Zu (Qb a1 a0.Za) 10000 (Zu (W (a0.To+1)) 10000 ([]:List Ze))) zAC) ?_;exact rtD [.tmp 4] f
 refine cRs (VS a1 a0.Za) ?_;refine GY (tf:=24) (u:=5) (row:=[.sl 2 (([]:List Ze).map Ze.row)]) (iO:=[.sl 2 ((Zu (Qb a1 a0.Za) 10000 ([]:List Ze)).map Ze.row)]) (cells:=[.nil 2]) [false] rfl rfl rfl rfl (KG (Qb a1 a0.Za) 10000 ([]:List Ze) zAC) zAE zAE zAE zAE zAE zAE zAE zAE zAE zAE zB7 zAE zAE ?_;simp;refine cDs [false] (xV (Zu (Qb a1 a0.Za) 10000 ([]:List Ze)) zAC) ?_;exact rtD [.tmp 4] f
theorem Fp(a0 a1:Ze):Sa 291 [a0.row,a1.row] [rB (jn a0 a1)]:=by
 have f:=me (jn.eq_1 a0 a1);refine so func291 ntmps291 ?_;refine cRs (Kb a0) ?_;refine cGs (fun gg=>Kb a1) ?_;exact rt [.tmp 4] f
theorem VD(a0:List Ze)(a1:Ze)(u0:Sm 2326528 a0):Sa 271 [rL 2 Ze.row a0,a1.row] [rB (yI a0 a1)]:=by
 have f:=me (yI.eq_1 a0 a1);refine so func271 ntmps271 ?_;refine cRs (Yg.rd (xV a0 (sg u0))) ?_;refine lp1 (kP.eq_2 a0 a1) (fun J=>Yx 18 [eX 3 (a1.row.map .d),eL 8 2 (Xg a0) Ze.row,eI 9 ((Xg a0).length:Int),eI 10 (J:Int)]) (fun n1 J=>(Xg a0).length<n1+J/\J<=(Xg a0).length) ((Xg a0).length+1) 0 (fun p1 J e1 j1=>?_);refine cFf e1 ?_ ?_<;>intro k2 h1 e1
 ·have i1:=ix h1;have m2:=ml (Xg a0) (k2 8 _ rfl);have w1:=wr J;simp[i1,ZD];refine rpS ?_;refine cRs (Fp a1 (nth (Xg a0) J)) ?_;refine cF e1 ?_ ?_<;>intro k3 h2 e1
  ·exact rt [.tmp 4] (ms f e1)
  exact ny1 w1 e1
 exact rt [.tmp 4] (ms f e1)
theorem F2(a0:YN)(a1:List Zp)(a2:Ze)(u0:Sm 2318336 a1):Sa 218 [a0.row,rL 5 Zp.row a1,a2.row] [rB (V8 a0 a1 a2)]:=by
 have f:=me (V8.eq_1 a0 a1 a2);refine so func218 ntmps218 ?_;refine dIs mixed ?_;refine cRs (Yg.rd (Fe a0 a1 (sg u0))) ?_;refine cRs (VD (jj a0 a1) a2 (by exact ED zAD)) ?_;exact rt [.tmp 6] f
theorem GR(a0:List Zp)(a1:Int):Sa 295 [rL 5 Zp.row a0,rI a1] [rI (Ji a0 a1)]:=by
 have f:=me (Ji.eq_1 a0 a1);refine so func295 ntmps295 ?_;refine cRs (DH a0 a1) ?_;refine cF f ?_ ?_<;>intro k1 h1 f
 ·exact rt [.tmp 4] f
 exact rt [.tmp 4] f
theorem Hk(a0 a1:Ze):Sa 300 [a0.row,a1.row] [(X5 a0 a1).1.row,rB (X5 a0 a1).2]:=by
 have f:=me (X5.eq_1 a0 a1);refine so func300 ntmps300 ?_;refine cRs (Kb a0) ?_;refine cGs (fun gg=>Kb a1) ?_;refine cGs (fun gg=>Kb (Ze.mk (if a1.XH>a0.XH then a1.XH else a0.XH) (if a1.To<a0.To then a1.To else a0.To))) ?_;refine cF f ?_ ?_<;>intro k1 h1 f
 ·exact rt [.cell 4 60,.tmp 5] f
 exact rt [.cell 4 60,.tmp 5] f
theorem CX(h:b)(k:a:=by(intros;first|omega|with_unfolding_all (first|(first|omega|(simp at*;omega)))|((try simp only[Y0,show ∀x,IntKind.i64.wrap x=W x from fun _=>rfl]at*);omega))):a/\b:=⟨k,h⟩
theorem D6(a0 a1:List Ze)(u0:Sm 2326528 a0)(u1:Sm 2326528 a1)(u2:a0.length<=1/\a1.length<=1):Sd 294 [rL 2 Ze.row a0,rL 2 Ze.row a1] [rL 2 Ze.row (Vw a0 a1)]:=by
 have f:=me (Vw.eq_1 a0 a1);refine soD func294 ntmps294 ?_;refine lp2 (Ww.eq_2 a0 a1) (fun J U=>Yx 39 [eL 1 2 a1 Ze.row,(5,.one (.sref 5 0 0 J.length),[.arr false 2 (J.map Ze.row)]),eL 12 2 a0 Ze.row,eI 13 (a0.length:Int),eI 14 (U:Int)]) (fun n1 J U=>a0.length<n1+U/\U<=a0.length/\J.length<=U) (a0.length+1) ([]:List Ze) 0 (fun p1 J U e1 j1=>?_) (h0:=wkS [((5,0),none)] []);refine cFf e1 ?_ ?_<;>intro k2 h1 e1
 ·have i1:=ix h1;have w1:=wr U;simp[i1,ZD];refine lp2 (j9.eq_2 a0 a1 U) (fun iF iI=>Yx 39 [eL 1 2 a1 Ze.row,(5,.one (.sref 5 0 0 iF.length),[.arr false 2 (iF.map Ze.row)]),eX 7 ((nth a0 U).row.map .d),eL 12 2 a0 Ze.row,eI 13 (a0.length:Int),eI 14 (U:Int),eL 18 2 a1 Ze.row,eI 19 (a1.length:Int),eI 20 (iI:Int)]) (fun n2 iF iI=>a1.length<n2+iI/\iI<=a1.length/\iF.length<=U+iI) (a1.length+1) J 0 (fun p2 iF iI e2 j2=>?_);refine cFf e2 ?_ ?_<;>intro k4 h2 e2
  ·have i2:=ix h2;have w2:=wr iI;simp[i2,ZD];refine cRs (Hk (nth a0 U) (nth a1 iI)) ?_;refine cFf e2 ?_ ?_<;>intro k5 h3 e2
   ·simp;repeat with_reducible refine CX ?_
    exact nx2 e2 (hI:=by first|omega|(simp at*;omega)) (hw:=XO [((5,0),some (34,0))] [] rfl zB1)
   exact ny2 (an w1 w2) e2 (hI:=by first|omega|(simp at*;omega))
  have e1:=ms e1 e2;exact ny2 w1 e1
 have f:=ms f e1;refine cDs [false] (xV J (by exact⟨zAA,fun _ _=>trivial⟩)) ?_;exact rtD [.tmp 4] f
theorem Gr(a0:YN)(a1:List Zp)(u0:Sm 2322432 a1):Sd 273 [a0.row,rL 5 Zp.row a1] [rL 2 Ze.row (qR a0 a1)]:=by
 have f:=me (qR.eq_1 a0 a1);refine soD func273 ntmps273 ?_;refine dIs mixed ?_;refine cRs (OF a0) ?_;refine cRs (GR a1 a0.Za) ?_;refine cDs [false] (D6 ([JI a0]:List Ze) ([Ze.mk 0 (Ji a1 a0.Za)]:List Ze) zAj zAj (by exact⟨Nat.le_refl _,Nat.le_refl _⟩)) ?_;exact rtD [.tmp 4] f
theorem I7(a0:YN)(a1:List Zp)(a2:Ze)(u0:Sm 2318336 a1):Sa 219 [a0.row,rL 5 Zp.row a1,a2.row] [rB (qj a0 a1 a2)]:=by
 have f:=me (qj.eq_1 a0 a1 a2);refine so func219 ntmps219 ?_;refine dIs mixed ?_;refine cRs (Yg.rd (Gr a0 a1 (sg u0))) ?_;refine cRs (VD (qR a0 a1) a2 (by exact Gi zAD)) ?_;exact rt [.tmp 6] f
theorem I9(a0:List ZT)(u0:Sm 2330624 a0):Sd 221 [rL 3 ZT.row a0] [rL 6 Xd.row (K1 a0)]:=by
 have f:=me (K1.eq_1 a0);refine soD func221 ntmps221 ?_;refine lp2 (zU.eq_2 a0) (fun J U=>Yx 26 [(3,.one (.sref 3 0 0 J.length),[.arr false 6 (J.map Xd.row)]),eL 8 3 a0 ZT.row,eI 9 (a0.length:Int),eI 10 (U:Int)]) (fun n1 J U=>a0.length<n1+U/\U<=a0.length/\J.length<=0+1*U) (a0.length+1) ([]:List Xd) 0 (fun p1 J U e1 j1=>?_) (h0:=wkS [((3,0),none)] []);refine cFf e1 ?_ ?_<;>intro k2 h1 e1
 ·have i1:=ix h1;have m2:=ml a0 (k2 8 _ rfl);have c1:=sl 2330624 a0 u0;have w1:=wr U;simp[i1,ZD];refine rpS ?_;refine cRs (Uu (nth a0 U)) ?_;refine cF e1 ?_ ?_<;>intro k3 h2 e1
  ·exact nx2 e1 (hw:=XO [((3,0),some (23,0))] [] rfl zAd)
  exact ny2 w1 e1
 exact rtD [.tmp 2] (ms f e1)
theorem Gf(a0:Xd):Sa 301 [a0.row] [rB (Rz a0)]:=by
 have f:=me (Rz.eq_1 a0);refine so func301 ntmps301 ?_;refine cRs (Zv a0.Org 1 99) ?_;refine cGs (fun gg=>Zv a0.LJ 0 99) ?_;refine cGs (fun gg=>Zv a0.Key 1 99) ?_;refine cGs (fun gg=>Kb (Ze.mk a0.XH a0.To)) ?_;exact rt [.tmp 2] f
theorem Mx(a0:Xd):Sd 302 [a0.row] [rL 1 iR (yT a0)]:=by
 have f:=me (yT.eq_1 a0);refine soD func302 ntmps302 ?_;exact rtD [.tmp 2] f
theorem MF(a0:List Y4)(a1:Xd)(u0:Sm 2314240 a0):Sa 296 [rL 5 Y4.row a0,a1.row] [rB (V5 a0 a1)]:=by
 have f:=me (V5.eq_1 a0 a1);refine so func296 ntmps296 ?_;refine dIs mixed ?_;refine cRs (Gf a1) ?_;refine cGs (fun gg=>MQ a0 a1.Key) ?_;refine cGs (fun gg=>Yg.rd (Mx a1)) ?_;refine cGs (fun gg=>J1 a0 a1.Key (yT a1) a1.Mark (sg u0) (by simp(maxDischargeDepth:=12) [Le];try omega)) ?_;exact rt [.tmp 4] f
theorem MC(a0:List Y4)(a1:List Xd)(a2 a3:Int)(u0:Sm 2310144 a0)(u1:Sm 2310144 a1):Sd 274 [rL 5 Y4.row a0,rL 6 Xd.row a1,rI a2,rI a3] [rL 2 Ze.row (qT a0 a1 a2 a3)]:=by
 have f:=me (qT.eq_1 a0 a1 a2 a3);refine soD func274 ntmps274 ?_;refine lp2 (yi.eq_2 a0 a1 a2 a3) (fun J U=>Yx 44 [eL 0 5 a0 Y4.row,eI 2 a2,eI 3 a3,(9,.one (.sref 9 0 0 J.length),[.arr false 2 (J.map Ze.row)]),eL 12 6 a1 Xd.row,eI 13 (a1.length:Int),eI 14 (U:Int)]) (fun n1 J U=>a1.length<n1+U/\U<=a1.length/\J.length<=0+1*U) (a1.length+1) ([]:List Ze) 0 (fun p1 J U e1 j1=>?_) (h0:=wkS [((9,0),none)] []);refine cFf e1 ?_ ?_<;>intro k2 h1 e1
 ·have i1:=ix h1;have m2:=ml a1 (k2 12 _ rfl);have c1:=sl 2310144 a1 (an u0 u1);have w1:=wr U;simp[i1,ZD];refine rpS ?_;refine cGs (fun gg=>MF a0 (nth a1 U) (sg u0)) ?_;refine cF e1 ?_ ?_<;>intro k3 h2 e1
  ·exact nx2 e1 (hw:=XO [((9,0),some (40,0))] [] rfl zAd)
  exact ny2 w1 e1
 have c2:=sl 2310144 a1 (an u0 u1);have f:=ms f e1;refine cDs [false] (xV J (by first|(simp(maxDischargeDepth:=12) [XM];omega)|(simp(maxDischargeDepth:=12) [ZQ (m:=2330624) zAD u0,ZQ (m:=2330624) zAD u1];done))) ?_;exact rtD [.tmp 8] f
theorem IS(a0:List Y4)(a1:List Xd)(a2 a3:Int)(a4:Ze)(u0:Sm 2306048 a0)(u1:Sm 2306048 a1):Sa 220 [rL 5 Y4.row a0,rL 6 Xd.row a1,rI a2,rI a3,a4.row] [rB (VW a0 a1 a2 a3 a4)]:=by
 have f:=me (VW.eq_1 a0 a1 a2 a3 a4);refine so func220 ntmps220 ?_;refine dIs mixed ?_;refine cGs (fun gg=>Kb a4) ?_;refine cGs (fun gg=>Yg.rd (MC a0 a1 a2 a3 (by first|exact sg u0|exact sg u1) (by first|exact sg u0|exact sg u1))) ?_;refine cGs (fun gg=>VD (qT a0 a1 a2 a3) a4 (by exact MN (by have z:=YQ u1;omega))) ?_;refine⟨by by_cases h:a2=0<;>simp[h],?_⟩;exact rt [.tmp 10] f
theorem MK(a0:ZO)(a1:Z9)(a2:List (List Int))(a3:Int)(a4:Zl)(u0:Sm 2281472 a0)(u1:Sm 2281472 a1)(u2:Sm 2281472 a2)(u3:ph a1<=2097152):Sa 136 [a0.row,a1.row,rL 1 (slR 1 iR) a2,rI a3,a4.row] [(qG a0 a1 a2 a3 a4).row]:=by
 have f:=me (qG.eq_1 a0 a1 a2 a3 a4);refine so func136 ntmps136 ?_;refine cRs (NN a0) ?_;refine cF f ?_ ?_<;>intro k1 h1 f
 ·refine cRs (V0 1) ?_;exact rt [.cell 10 62] f
 refine cRs (WM a4) ?_;refine cF f ?_ ?_<;>intro k2 h2 f
 ·refine cRs (SS 1) ?_;exact rt [.cell 10 62] f
 refine cF f ?_ ?_<;>intro k3 h3 f
 ·refine cRs (V0 2) ?_;exact rt [.cell 10 62] f
 refine cF f ?_ ?_<;>intro k4 h4 f
 ·refine cRs (SS 2) ?_;exact rt [.cell 10 62] f
 refine cRs (Jz a0.Zt a4.Key) ?_;refine cF f ?_ ?_<;>intro k5 h5 f
 ·refine cRs (V0 3) ?_;exact rt [.cell 10 62] f
 refine cRs (P8 a0.Zt a4 zAB) ?_;refine cF f ?_ ?_<;>intro k6 h6 f
 ·refine cRs (SS 4) ?_;exact rt [.cell 10 62] f
 refine dIs mixed ?_;refine cRs (Yg.rd (Ua a4)) ?_;refine cRs (Uf a0 a1 a2 (Yf a4) zAB zAB zAB zAB) ?_;refine cRs (VL a0 a4.Key) ?_;refine cGs (fun gg=>VQ a0.Methods a4.Method) ?_;refine cF f ?_ ?_<;>intro k8 h7 f
 ·refine cRs (V0 5) ?_;exact rt [.cell 10 62] f
 refine cRs (N2 a0 a1 a2 zAB zAB zAB zAB) ?_;refine cRs (CL a0 (Zq a0 a1 a2) a4 zAB zAB) ?_;refine cF f ?_ ?_<;>intro k9 h8 f
 ·refine cRs (V0 6) ?_;exact rt [.cell 10 62] f
 refine cRs (Gn a0 a1 (Zq a0 a1 a2) a4 zAB zAB zAB) ?_;refine cF f ?_ ?_<;>intro aZ h9 f
 ·refine cRs (V0 7) ?_;exact rt [.cell 10 62] f
 refine cRs (Yg.rd (Ld (Zq a0 a1 a2) (Qm a0 (Zq a0 a1 a2) a4).1 zAB)) ?_;refine cRs (F2 (Qm a0 (Zq a0 a1 a2) a4).1 (QB (Zq a0 a1 a2) (Qm a0 (Zq a0 a1 a2) a4).1) (Ze.mk (Xv a0 a1 (Zq a0 a1 a2) a4) (Zz a0 a1 a2 (Yf a4))) zAB) ?_;refine cF f ?_ ?_<;>intro k11 cA f
 ·exact rt [.cell 10 62] f
 refine cRs (I7 (Qm a0 (Zq a0 a1 a2) a4).1 (QB (Zq a0 a1 a2) (Qm a0 (Zq a0 a1 a2) a4).1) (Ze.mk (Xv a0 a1 (Zq a0 a1 a2) a4) (Zz a0 a1 a2 (Yf a4))) zAB) ?_;refine cF f ?_ ?_<;>intro k12 h11 f
 ·exact rt [.cell 10 62] f
 refine dIs mixed ?_;refine cRs (Yg.rd (I9 (Zq a0 a1 a2) zAB)) ?_;refine cRs (IS a0.Zt (K1 (Zq a0 a1 a2)) a4.Org (Qm a0 (Zq a0 a1 a2) a4).1.jE (Ze.mk (Xv a0 a1 (Zq a0 a1 a2) a4) (Zz a0 a1 a2 (Yf a4))) zAB zAB) ?_;refine cF f ?_ ?_<;>intro k14 h12 f
 ·exact rt [.cell 10 62] f
 exact rt [.cell 10 62] f
theorem Aj(a0:ZO)(a1:Z9)(a2:ZR)(a3:Zl)(u0:Sm 2277376 a0)(u1:Sm 2277376 a1)(u2:Sm 2277376 a2)(u3:ph a1<=2097152):Sa 73 [a0.row,a1.row,a2.row,a3.row] [(Nn a0 a1 a2 a3).row]:=by
 have f:=me (Nn.eq_1 a0 a1 a2 a3);refine so func73 ntmps73 ?_;refine dIs mixed ?_;refine cRs (Yg.rd (Ot a1 a2 zAb zAb)) ?_;refine cRs (yW a3.Method a2 zAb) ?_;refine cRs (MK a0 a1 (Z3 a1 a2) (Yb a3.Method a2) a3 zAb zAb zAb zAb) ?_;exact rt [.cell 8 62] f
theorem GJ(a0:ZO)(a1:ZN)(u0:Sm 2273280 a0)(u1:Sm 2097152 a1):Sa 30 [a0.row,a1.row] [(yD a0 a1).row]:=by
 have f:=me (yD.eq_1 a0 a1);refine so func30 ntmps30 ?_;refine dIs mixed ?_;refine cRs (Yg.rd (Nt a1 zAG)) ?_;refine cRs (Aj a0 (ZU a1) a1.Doc a1.Sig zAG zAG zAG zAG) ?_;exact rt [.cell 4 62] f
theorem LS(h:b)(k:a:=by(intros;first|omega|with_unfolding_all (first|first|omega|(have fi:=XT a0 a1 zBq;omega))|((try simp only[Y0,show ∀x,IntKind.i64.wrap x=W x from fun _=>rfl]at*);omega))):a/\b:=⟨k,h⟩
theorem WC(a0:ZF)(a1:Int)(u0:Sm 1048576 a0):Sa 15 [a0.row,rI a1] [(Yr a0 a1).row]:=by
 have f:=me (Yr.eq_1 a0 a1);refine so func15 ntmps15 ?_;refine cRs (Ws a0 a1) ?_;refine cFo f ?_ ?_<;>intro k1 h1 f
 ·have q1:=h1;try simp at q1
  simp;exact rt [.cell 4 62] f
 have q1:=h1;try simp at q1
 simp;refine dIo mixed ?_;have i1:(ZK a0 a1).1.toNat<a0.ZA.length:=zBR
 have i2:(ZK a0 a1).2.toNat<(nth a0.ZA (ZK a0 a1).1.toNat).ZB.length:=zBR;simp[i1,ZD,i2];repeat with_reducible refine LS ?_
 refine cRs (GJ a0.Frame (nth (nth a0.ZA (ZK a0 a1).1.toNat).ZB (ZK a0 a1).2.toNat) (sg (ZF.Xr u0)) (sg (Zr (ZE.YO (Zr (ZF.YR u0)))))) ?_;exact rt [.cell 4 62] f
theorem HP(h:b)(k:a:=by(intros;first|omega|with_unfolding_all (first|(first|omega|(have z:=Of a0;omega)))|((try simp only[Y0,show ∀x,IntKind.i64.wrap x=W x from fun _=>rfl]at*);omega))):a/\b:=⟨k,h⟩
theorem RI(a0:ZF)(u0:Sm 1048576 a0)(u1:itn a0.ZA<=1048576):Sd 10 [a0.row] [rL 1 iR (Zn a0)]:=by
 have f:=me (Zn.eq_1 a0);refine soD func10 ntmps10 ?_;refine cRs (D1 a0 (sg u0) zAX) ?_;refine lp2 (Jq.eq_2 a0) (fun J U=>Yx 26 [eX 1 (a0.row.map .d),(3,.one (.sref 3 0 0 J.length),[.arr false 1 (J.map iR)]),eL 7 16 (Q0 a0) ZN.row,eI 8 ((Q0 a0).length:Int),eI 9 (U:Int)]) (fun n1 J U=>(Q0 a0).length<n1+U/\U<=(Q0 a0).length/\J.length<=U) ((Q0 a0).length+1) ([]:List Int) 0 (fun p1 J U e1 j1=>?_) (h0:=wkS [((3,0),none)] []);refine cFf e1 ?_ ?_<;>intro k2 h1 e1
 ·have i1:=ix h1;have m2:=ml (Q0 a0) (k2 7 _ rfl);have w1:=wr U;simp[i1,ZD];refine cRs (WC a0 (nth (Q0 a0) U).Id u0) ?_;refine cFf e1 ?_ ?_<;>intro k3 h2 e1
  ·simp;repeat with_reducible refine HP ?_
   exact nx2 e1 (hw:=XO [((3,0),some (23,0))] [] rfl zAd)
  exact ny2 w1 e1
 exact rtD [.tmp 2] (ms f e1)
theorem Mn(h:b)(k:a:=by(intros;first|omega|with_unfolding_all (first|(first|omega|(have z:=M1 a0;omega)))|((try simp only[Y0,show ∀x,IntKind.i64.wrap x=W x from fun _=>rfl]at*);omega))):a/\b:=⟨k,h⟩
theorem LY(a0:ZF)(u0:Sm 1048576 a0)(u1:itn a0.ZA<=1048576):Sd 52 [a0.row] [rL 1 iR (We a0)]:=by
 have f:=me (We.eq_1 a0);refine soD func52 ntmps52 ?_;refine cRs (Yg.rd (RI a0 u0 zAX)) ?_;refine lp2 (zk.eq_2 a0) (fun J U=>Yx 23 [eX 1 (a0.row.map .d),(3,.one (.sref 3 0 0 J.length),[.arr false 1 (J.map iR)]),eL 7 1 (Zn a0) iR,eI 8 ((Zn a0).length:Int),eI 9 (U:Int)]) (fun n1 J U=>(Zn a0).length<n1+U/\U<=(Zn a0).length/\J.length<=0+1*U) ((Zn a0).length+1) ([]:List Int) 0 (fun p1 J U e1 j1=>?_) (h0:=wkS [((3,0),none)] []);refine cFf e1 ?_ ?_<;>intro k2 h1 e1
 ·have i1:=ix h1;have m2:=ml (Zn a0) (k2 7 _ rfl);have w1:=wr U;simp[i1,ZD];refine cRs (Wj a0.YL (nth (Zn a0) U)) ?_;refine cFf e1 ?_ ?_<;>intro k3 h2 e1
  ·simp;repeat with_reducible refine Mn ?_
   exact nx2 e1 (hw:=XO [((3,0),some (20,0))] [] rfl zAd)
  exact ny2 w1 e1
 exact rtD [.tmp 2] (ms f e1)
theorem C0(a0:ZF)(u0:Sm 1048576 a0)(u1:itn a0.ZA<=1048576):Sa 18 [a0.row] [rS (Vt a0)]:=by
 have f:=me (Vt.eq_1 a0);refine so func18 ntmps18 ?_;refine cRs (Ct a0 (sg u0)) ?_;refine cF f ?_ ?_<;>intro k1 h1 f
 ·exact rt [.tmp 2] f
 refine cRs (Yg.rd (LY a0 u0 zAX)) ?_;refine cF f ?_ ?_<;>intro k2 h2 f
 ·exact rt [.tmp 2] f
 exact rt [.tmp 2] f
theorem RA(a0:ZO)(a1:ZW)(a2:List Int)(u0:Sm 2297856 a0)(u1:Sm 2297856 a1)(u2:Sm 2297856 a2):Sa 27 [a0.row,a1.row,rL 1 iR a2] [rB (K4 a0 a1 a2)]:=by
 have f:=me (K4.eq_1 a0 a1 a2);refine so func27 ntmps27 ?_;refine cGs (fun gg=>Rc a0 a1 a2 (sg u0) (sg u1) (sg u2)) ?_;exact rt [.tmp 6] f
theorem P4(h:b)(k:a:=by(intros;first|omega|with_unfolding_all (first|first|omega|(have fi:=XT a0 a1 (by(try simp at q1);omega);omega))|((try simp only[Y0,show ∀x,IntKind.i64.wrap x=W x from fun _=>rfl]at*);omega))):a/\b:=⟨k,h⟩
theorem P6(a0:ZF)(a1:Int)(u0:Sm 2293760 a0):Sa 14 [a0.row,rI a1] [rB (zM a0 a1)]:=by
 have f:=me (zM.eq_1 a0 a1);refine so func14 ntmps14 ?_;refine cRs (Ws a0 a1) ?_;refine cFo f ?_ ?_<;>intro k1 h1 f
 ·have q1:=h1;try simp at q1
  simp;exact rt [.tmp 4] f
 have q1:=h1;try simp at q1
 have i1:(ZK a0 a1).1.toNat<a0.ZA.length:=by(have fi:=XT a0 a1 (by(try simp at q1);omega);omega)
 have i2:(ZK a0 a1).2.toNat<(nth a0.ZA (ZK a0 a1).1.toNat).ZB.length:=by(have fi:=XT a0 a1 (by(try simp at q1);omega);omega)
 simp[i1,ZD,i2];repeat with_reducible refine P4 ?_
 refine dIs mixed ?_;refine cRs (Yg.rd (VB (nth (nth a0.ZA (ZK a0 a1).1.toNat).ZB (ZK a0 a1).2.toNat).ZG (nth (nth a0.ZA (ZK a0 a1).1.toNat).ZB (ZK a0 a1).2.toNat).Doc (sg (ZN.XY (Zr (ZE.YO (Zr (ZF.YR u0)))))) (sg (ZN.xx (Zr (ZE.YO (Zr (ZF.YR u0)))))))) ?_;refine cRs (RA a0.Frame (nth (nth a0.ZA (ZK a0 a1).1.toNat).ZB (ZK a0 a1).2.toNat).ZG (XU (nth (nth a0.ZA (ZK a0 a1).1.toNat).ZB (ZK a0 a1).2.toNat).ZG (nth (nth a0.ZA (ZK a0 a1).1.toNat).ZB (ZK a0 a1).2.toNat).Doc) (sg (ZF.Xr u0)) (sg (ZN.XY (Zr (ZE.YO (Zr (ZF.YR u0)))))) (by simp(maxDischargeDepth:=12) [VH,ZQ (m:=2297856) zAD u0];try omega)) ?_;exact rt [.tmp 4] f
end Go.Proofs.YthecodaabaaaoaaGreat
