/- Contracts of the functions Hz the abstract machine, part A1. No condition. -/
import Derived.Test.YtfhmpplolpejnaaGreatL
import Derived.Test.YtfhmpplolpejnaaGreatTy
namespace Go.Proofs.YtfhmpplolpejnaaGreat
open Go.Vm Go.Mo
set_option maxHeartbeats 1000000
set_option maxRecDepth 100000
set_option linter.unusedSimpArgs false
set_option linter.unusedVariables false
theorem BG (a0 : List Zy) (a1 : Int) : Sa 44 [rL 5 Zy.row a0, rI a1] [rI (Xv a0 a1)] := by
 have f := me (Xv.eq_1 a0 a1)
 refine so Tryz.func44 Tryz.ntmps44 ?_
 refine cF f ?_ ?_ <;> intro k1 h1 f
 ·exact rt [.tmp 4] f
 exact rt [.tmp 4] f
theorem NO (a0 : List ZF) (a1 : Int) : Sa 45 [rL 3 ZF.row a0, rI a1] [rI (Y6 a0 a1)] := by
 have f := me (Y6.eq_1 a0 a1)
 refine so Tryz.func45 Tryz.ntmps45 ?_
 refine cF f ?_ ?_ <;> intro k1 h1 f
 ·exact rt [.tmp 4] f
 exact rt [.tmp 4] f
theorem Ig (a0 : List Zg) (a1 : Int) : Sa 46 [rL 4 Zg.row a0, rI a1] [rI (zW a0 a1)] := by
 have f := me (zW.eq_1 a0 a1)
 refine so Tryz.func46 Tryz.ntmps46 ?_
 refine cF f ?_ ?_ <;> intro k1 h1 f
 ·exact rt [.tmp 4] f
 exact rt [.tmp 4] f
theorem E9 (a0 : ZH) (a1 : Int) : Sa 11 [a0.row, rI a1] [rI (Z0 a0 a1)] := by
 have f := me (Z0.eq_1 a0 a1)
 refine so Tryz.func11 Tryz.ntmps11 ?_
 refine cRs (BG a0.Yb a1) ?_
 refine cF f ?_ ?_ <;> intro k1 h1 f
 ·exact rt [.tmp 4] f
 refine cRs (NO a0.ZU (Xv a0.Yb a1)) ?_
 refine cF f ?_ ?_ <;> intro k2 h2 f
 ·exact rt [.tmp 4] f
 refine cRs (Ig a0.Methods (Y6 a0.ZU (Xv a0.Yb a1))) ?_
 refine cF f ?_ ?_ <;> intro k3 h3 f
 ·exact rt [.tmp 4] f
 exact rt [.tmp 4] f
theorem EZ (a0 : List Zs) (a1 : Int) : Sa 71 [rL 7 Zs.row a0, rI a1] [rI (YC a0 a1)] := by
 have f := me (YC.eq_1 a0 a1)
 refine so Tryz.func71 Tryz.ntmps71 ?_
 refine cF f ?_ ?_ <;> intro k1 h1 f
 ·exact rt [.tmp 4] f
 exact rt [.tmp 4] f
theorem qN (a0 : List Int) (a1 : Int) : Sa 72 [rL 1 iR a0, rI a1] [rI (Zk a0 a1)] := by
 have f := me (Zk.eq_1 a0 a1)
 refine so Tryz.func72 Tryz.ntmps72 ?_
 refine cF f ?_ ?_ <;> intro k1 h1 f
 ·exact rt [.tmp 4] f
 exact rt [.tmp 4] f
theorem Hu (a0 : List ByteArray) (a1 : Int) : Sa 92 [rL 1 sR a0, rI a1] [rI (Xh a0 a1)] := by
 have f := me (Xh.eq_1 a0 a1)
 refine so Tryz.func92 Tryz.ntmps92 ?_
 refine cF f ?_ ?_ <;> intro k1 h1 f
 ·exact rt [.tmp 4] f
 refine lp2 (xj.eq_2 a0) (fun v1_0 v1_1 => Z9 28 [eL 0 1 a0 sR, eI 1 v1_0, eI 5 (↑v1_1 : Int)]) (fun n1 v1_0 v1_1 => a0.length < n1 + v1_1 ∧ v1_1 ≤ a0.length) (a0.length + 1) (W (a1 - (↑a0.length : Int))) 0 (fun p1 v1_0 v1_1 e1 j1 => ?_)
 refine cFf e1 ?_ ?_ <;> intro k3 h2 e1
 ·have i1 := ix h2
  have m2 := ml a0 (k3 0 _ rfl)
  have w1 := wr v1_1
  simp [i1, ZA]
  repeat with_reducible refine sd ?_
  refine cF e1 ?_ ?_ <;> intro k4 h3 e1
  ·have f := ms f e1
   exact rt [.tmp 4] f
  exact ny2 w1 e1
 have f := ms f e1
 exact rt [.tmp 4] f
theorem Lg (a0 : Zd) (a1 : Int) : Sa 47 [a0.row, rI a1] [rI (XD a0 a1)] := by
 have f := me (XD.eq_1 a0 a1)
 refine so Tryz.func47 Tryz.ntmps47 ?_
 refine cRs (Hu a0.YY a1) ?_
 refine cF f ?_ ?_ <;> intro k1 h1 f
 ·exact rt [.tmp 4] f
 refine cRs (qN a0.XI (Xh a0.YY a1)) ?_
 refine cF f ?_ ?_ <;> intro k2 h2 f
 ·exact rt [.tmp 4] f
 exact rt [.tmp 4] f
theorem Dw (a0 : ZB) (a1 : Int) : Sa 135 [a0.row, rI a1] [rI (qS a0 a1)] := by
 have f := me (qS.eq_1 a0 a1)
 refine so Tryz.func135 Tryz.ntmps135 ?_
 refine cRs (qN a0.Zb a1) ?_
 refine cF f ?_ ?_ <;> intro k1 h1 f
 ·exact rt [.tmp 4] f
 exact rt [.tmp 4] f
theorem Gy (a0 : List ZB) (a1 : Int) : Sa 93 [rL 3 ZB.row a0, rI a1] [rI (QF a0 a1)] := by
 have f := me (QF.eq_1 a0 a1)
 refine so Tryz.func93 Tryz.ntmps93 ?_
 refine cF f ?_ ?_ <;> intro k1 h1 f
 ·exact rt [.tmp 4] f
 refine lp2 (jD.eq_2 a0) (fun v1_0 v1_1 => Z9 27 [eL 0 3 a0 ZB.row, eI 1 v1_0, eI 5 (↑v1_1 : Int)]) (fun n1 v1_0 v1_1 => a0.length < n1 + v1_1 ∧ v1_1 ≤ a0.length) (a0.length + 1) (W (a1 - (↑a0.length : Int))) 0 (fun p1 v1_0 v1_1 e1 j1 => ?_)
 refine cFf e1 ?_ ?_ <;> intro k3 h2 e1
 ·have i1 := ix h2
  have m2 := ml a0 (k3 0 _ rfl)
  have w1 := wr v1_1
  simp [i1, ZA]
  repeat with_reducible refine sd ?_
  refine cRs (Dw (nth a0 v1_1) v1_0) ?_
  refine cF e1 ?_ ?_ <;> intro k4 h3 e1
  ·have f := ms f e1
   exact rt [.tmp 4] f
  exact ny2 w1 e1
 have f := ms f e1
 exact rt [.tmp 4] f
theorem Ez (a0 : List Yq) (a1 : Int) : Sa 169 [rL 2 Yq.row a0, rI a1] [rI (Qx a0 a1)] := by
 have f := me (Qx.eq_1 a0 a1)
 refine so Tryz.func169 Tryz.ntmps169 ?_
 refine cF f ?_ ?_ <;> intro k1 h1 f
 ·exact rt [.tmp 4] f
 exact rt [.tmp 4] f
theorem Gw (a0 : List ZZ) (a1 : Int) : Sa 170 [rL 5 ZZ.row a0, rI a1] [rI (yR a0 a1)] := by
 have f := me (yR.eq_1 a0 a1)
 refine so Tryz.func170 Tryz.ntmps170 ?_
 refine cF f ?_ ?_ <;> intro k1 h1 f
 ·exact rt [.tmp 4] f
 exact rt [.tmp 4] f
theorem HD (a0 : ZV) (a1 : Int) : Sa 136 [a0.row, rI a1] [rI (zS a0 a1)] := by
 have f := me (zS.eq_1 a0 a1)
 refine so Tryz.func136 Tryz.ntmps136 ?_
 refine cRs (Ez a0.Path a1) ?_
 refine cF f ?_ ?_ <;> intro k1 h1 f
 ·exact rt [.tmp 4] f
 refine cRs (Gw a0.Zf (Qx a0.Path a1)) ?_
 refine cF f ?_ ?_ <;> intro k2 h2 f
 ·exact rt [.tmp 4] f
 exact rt [.tmp 4] f
theorem LO (a0 : List ZV) (a1 : Int) : Sa 94 [rL 5 ZV.row a0, rI a1] [rI (KR a0 a1)] := by
 have f := me (KR.eq_1 a0 a1)
 refine so Tryz.func94 Tryz.ntmps94 ?_
 refine cF f ?_ ?_ <;> intro k1 h1 f
 ·exact rt [.tmp 4] f
 refine lp2 (yd.eq_2 a0) (fun v1_0 v1_1 => Z9 27 [eL 0 5 a0 ZV.row, eI 1 v1_0, eI 5 (↑v1_1 : Int)]) (fun n1 v1_0 v1_1 => a0.length < n1 + v1_1 ∧ v1_1 ≤ a0.length) (a0.length + 1) (W (a1 - (↑a0.length : Int))) 0 (fun p1 v1_0 v1_1 e1 j1 => ?_)
 refine cFf e1 ?_ ?_ <;> intro k3 h2 e1
 ·have i1 := ix h2
  have m2 := ml a0 (k3 0 _ rfl)
  have w1 := wr v1_1
  simp [i1, ZA]
  repeat with_reducible refine sd ?_
  refine cRs (HD (nth a0 v1_1) v1_0) ?_
  refine cF e1 ?_ ?_ <;> intro k4 h3 e1
  ·have f := ms f e1
   exact rt [.tmp 4] f
  exact ny2 w1 e1
 have f := ms f e1
 exact rt [.tmp 4] f
theorem Gr (a0 : ZK) (a1 : Int) : Sa 48 [a0.row, rI a1] [rI (KY a0 a1)] := by
 have f := me (KY.eq_1 a0 a1)
 refine so Tryz.func48 Tryz.ntmps48 ?_
 refine cRs (Gy a0.ZT a1) ?_
 refine cF f ?_ ?_ <;> intro k1 h1 f
 ·exact rt [.tmp 4] f
 refine cRs (LO a0.ZM (QF a0.ZT a1)) ?_
 refine cF f ?_ ?_ <;> intro k2 h2 f
 ·exact rt [.tmp 4] f
 exact rt [.tmp 4] f
theorem CK (a0 : Zt) (a1 : Int) : Sa 12 [a0.row, rI a1] [rI (xt a0 a1)] := by
 have f := me (xt.eq_1 a0 a1)
 refine so Tryz.func12 Tryz.ntmps12 ?_
 refine cRs (Lg a0.Doc a1) ?_
 refine cF f ?_ ?_ <;> intro k1 h1 f
 ·exact rt [.tmp 4] f
 refine cRs (Gr a0.Yl (XD a0.Doc a1)) ?_
 refine cF f ?_ ?_ <;> intro k2 h2 f
 ·exact rt [.tmp 4] f
 exact rt [.tmp 4] f
theorem Er (a0 : List Zt) (a1 : Int) : Sa 67 [rL 16 Zt.row a0, rI a1] [rI (J2 a0 a1)] := by
 have f := me (J2.eq_1 a0 a1)
 refine so Tryz.func67 Tryz.ntmps67 ?_
 refine cF f ?_ ?_ <;> intro k1 h1 f
 ·exact rt [.tmp 4] f
 refine lp2 (qg.eq_2 a0) (fun v1_0 v1_1 => Z9 27 [eL 0 16 a0 Zt.row, eI 1 v1_0, eI 5 (↑v1_1 : Int)]) (fun n1 v1_0 v1_1 => a0.length < n1 + v1_1 ∧ v1_1 ≤ a0.length) (a0.length + 1) (W (a1 - (↑a0.length : Int))) 0 (fun p1 v1_0 v1_1 e1 j1 => ?_)
 refine cFf e1 ?_ ?_ <;> intro k3 h2 e1
 ·have i1 := ix h2
  have m2 := ml a0 (k3 0 _ rfl)
  have w1 := wr v1_1
  simp [i1, ZA]
  repeat with_reducible refine sd ?_
  refine cRs (CK (nth a0 v1_1) v1_0) ?_
  refine cF e1 ?_ ?_ <;> intro k4 h3 e1
  ·have f := ms f e1
   exact rt [.tmp 4] f
  exact ny2 w1 e1
 have f := ms f e1
 exact rt [.tmp 4] f
theorem IS (a0 : Zc) (a1 : Int) : Sa 19 [a0.row, rI a1] [rI (Qn a0 a1)] := by
 have f := me (Qn.eq_1 a0 a1)
 refine so Tryz.func19 Tryz.ntmps19 ?_
 refine cRs (Er a0.Zh a1) ?_
 refine cF f ?_ ?_ <;> intro k1 h1 f
 ·exact rt [.tmp 4] f
 exact rt [.tmp 4] f
theorem ID (a0 : List Zc) (a1 : Int) : Sa 73 [rL 2 Zc.row a0, rI a1] [rI (YG a0 a1)] := by
 have f := me (YG.eq_1 a0 a1)
 refine so Tryz.func73 Tryz.ntmps73 ?_
 refine cF f ?_ ?_ <;> intro k1 h1 f
 ·exact rt [.tmp 4] f
 refine lp2 (K9.eq_2 a0) (fun v1_0 v1_1 => Z9 27 [eL 0 2 a0 Zc.row, eI 1 v1_0, eI 5 (↑v1_1 : Int)]) (fun n1 v1_0 v1_1 => a0.length < n1 + v1_1 ∧ v1_1 ≤ a0.length) (a0.length + 1) (W (a1 - (↑a0.length : Int))) 0 (fun p1 v1_0 v1_1 e1 j1 => ?_)
 refine cFf e1 ?_ ?_ <;> intro k3 h2 e1
 ·have i1 := ix h2
  have m2 := ml a0 (k3 0 _ rfl)
  have w1 := wr v1_1
  simp [i1, ZA]
  repeat with_reducible refine sd ?_
  refine cRs (IS (nth a0 v1_1) v1_0) ?_
  refine cF e1 ?_ ?_ <;> intro k4 h3 e1
  ·have f := ms f e1
   exact rt [.tmp 4] f
  exact ny2 w1 e1
 have f := ms f e1
 exact rt [.tmp 4] f
theorem DL (a0 : Zi) (a1 : Int) : Sa 24 [a0.row, rI a1] [rI (zC a0 a1)] := by
 have f := me (zC.eq_1 a0 a1)
 refine so Tryz.func24 Tryz.ntmps24 ?_
 refine cRs (E9 a0.Frame a1) ?_
 refine cF f ?_ ?_ <;> intro k1 h1 f
 ·exact rt [.tmp 4] f
 refine cRs (EZ a0.YN (Z0 a0.Frame a1)) ?_
 refine cF f ?_ ?_ <;> intro k2 h2 f
 ·exact rt [.tmp 4] f
 refine cRs (qN a0.YX (YC a0.YN (Z0 a0.Frame a1))) ?_
 refine cF f ?_ ?_ <;> intro k3 h3 f
 ·exact rt [.tmp 4] f
 refine cRs (ID a0.ZE (Zk a0.YX (YC a0.YN (Z0 a0.Frame a1)))) ?_
 refine cF f ?_ ?_ <;> intro k4 h4 f
 ·exact rt [.tmp 4] f
 refine cRs (qN a0.Qg (YG a0.ZE (Zk a0.YX (YC a0.YN (Z0 a0.Frame a1))))) ?_
 refine cF f ?_ ?_ <;> intro k5 h5 f
 ·exact rt [.tmp 4] f
 refine cRs (qN a0.Y4 (Zk a0.Qg (YG a0.ZE (Zk a0.YX (YC a0.YN (Z0 a0.Frame a1)))))) ?_
 refine cF f ?_ ?_ <;> intro k6 h6 f
 ·exact rt [.tmp 4] f
 refine cRs (qN a0.XQ (Zk a0.Y4 (Zk a0.Qg (YG a0.ZE (Zk a0.YX (YC a0.YN (Z0 a0.Frame a1))))))) ?_
 refine cF f ?_ ?_ <;> intro k7 h7 f
 ·exact rt [.tmp 4] f
 exact rt [.tmp 4] f
theorem Ah (a0 : Zy) : Sa 99 [a0.row] [(IK a0).row] := by
 have f := me (IK.eq_1 a0)
 refine so Tryz.func99 Tryz.ntmps99 ?_
 exact rt [.cell 2 146] f
theorem CL (a0 : Zy) : Sa 99 [a0.row] [a0.row] := by
  have h := Ah a0
  rwa [qG] at h
theorem Bh (a0 : List Zy) (u0 : Sm 2338816 a0) : Sd 52 [rL 5 Zy.row a0] [rL 5 Zy.row (Hj a0)] := by
 have f := me (Hj.eq_1 a0)
 have c1 := sl 2338816 a0 u0
 refine soD Tryz.func52 Tryz.ntmps52 ?_
 refine lp2 (SF.eq_2 a0) (fun v1_0 v1_1 => Z9 23 [eL 0 5 a0 Zy.row, (3, .one (.sref 7 0 0 v1_1.length), []), eI 4 (↑v1_0 : Int), (7, .any, [.arr false 5 (v1_1.map Zy.row)])]) (fun n1 v1_0 v1_1 => a0.length < n1 + v1_0 ∧ v1_0 ≤ a0.length ∧ v1_1.length = a0.length) (a0.length + 1) 0 (List.replicate a0.length (Zy.mk 0 0 0 0 0)) (fun p1 v1_0 v1_1 e1 j1 => ?_)
 refine cFf e1 ?_ ?_ <;> intro k2 h1 e1
 ·have i1 := ix h1
  have m2 := ml a0 (k2 0 _ rfl)
  have w1 := wr v1_0
  simp [i1, ZA]
  repeat with_reducible refine sd ?_
  refine cR (CL (nth a0 v1_0)) ?_
  have i2 := ik v1_0 v1_1
  simp [i2, ZA, qA (x := (nth a0 v1_0)) rfl]
  repeat with_reducible refine sd ?_
  exact ny2 w1 e1
 have f := ms f e1
 exact rtD [.tmp 2] f
theorem Di (a0 : List Zy) (u0 : Sm 2338816 a0) : Sd 52 [rL 5 Zy.row a0] [rL 5 Zy.row a0] := by
  have h := Bh a0 u0
  rwa [yb] at h
theorem Nc (a0 : ZF) : Sa 100 [a0.row] [(kQ a0).row] := by
 have f := me (kQ.eq_1 a0)
 refine so Tryz.func100 Tryz.ntmps100 ?_
 exact rt [.cell 2 150] f
theorem OE (a0 : ZF) : Sa 100 [a0.row] [a0.row] := by
  have h := Nc a0
  rwa [QV] at h
theorem Og (a0 : List ZF) (u0 : Sm 2338816 a0) : Sd 53 [rL 3 ZF.row a0] [rL 3 ZF.row (VP a0)] := by
 have f := me (VP.eq_1 a0)
 have c1 := sl 2338816 a0 u0
 refine soD Tryz.func53 Tryz.ntmps53 ?_
 refine lp2 (y6.eq_2 a0) (fun v1_0 v1_1 => Z9 23 [eL 0 3 a0 ZF.row, (3, .one (.sref 7 0 0 v1_1.length), []), eI 4 (↑v1_0 : Int), (7, .any, [.arr false 3 (v1_1.map ZF.row)])]) (fun n1 v1_0 v1_1 => a0.length < n1 + v1_0 ∧ v1_0 ≤ a0.length ∧ v1_1.length = a0.length) (a0.length + 1) 0 (List.replicate a0.length (ZF.mk 0 0 0)) (fun p1 v1_0 v1_1 e1 j1 => ?_)
 refine cFf e1 ?_ ?_ <;> intro k2 h1 e1
 ·have i1 := ix h1
  have m2 := ml a0 (k2 0 _ rfl)
  have w1 := wr v1_0
  simp [i1, ZA]
  repeat with_reducible refine sd ?_
  refine cR (OE (nth a0 v1_0)) ?_
  have i2 := ik v1_0 v1_1
  simp [i2, ZA, qA (x := (nth a0 v1_0)) rfl]
  repeat with_reducible refine sd ?_
  exact ny2 w1 e1
 have f := ms f e1
 exact rtD [.tmp 2] f
theorem P0 (a0 : List ZF) (u0 : Sm 2338816 a0) : Sd 53 [rL 3 ZF.row a0] [rL 3 ZF.row a0] := by
  have h := Og a0 u0
  rwa [QC] at h
theorem G3 (a0 : Zg) : Sa 101 [a0.row] [(SB a0).row] := by
 have f := me (SB.eq_1 a0)
 refine so Tryz.func101 Tryz.ntmps101 ?_
 exact rt [.cell 2 154] f
theorem Hn (a0 : Zg) : Sa 101 [a0.row] [a0.row] := by
  have h := G3 a0
  rwa [Kd] at h
theorem IU (a0 : List Zg) (u0 : Sm 2338816 a0) : Sd 54 [rL 4 Zg.row a0] [rL 4 Zg.row (RJ a0)] := by
 have f := me (RJ.eq_1 a0)
 have c1 := sl 2338816 a0 u0
 refine soD Tryz.func54 Tryz.ntmps54 ?_
 refine lp2 (kO.eq_2 a0) (fun v1_0 v1_1 => Z9 23 [eL 0 4 a0 Zg.row, (3, .one (.sref 7 0 0 v1_1.length), []), eI 4 (↑v1_0 : Int), (7, .any, [.arr false 4 (v1_1.map Zg.row)])]) (fun n1 v1_0 v1_1 => a0.length < n1 + v1_0 ∧ v1_0 ≤ a0.length ∧ v1_1.length = a0.length) (a0.length + 1) 0 (List.replicate a0.length (Zg.mk 0 0 0 0)) (fun p1 v1_0 v1_1 e1 j1 => ?_)
 refine cFf e1 ?_ ?_ <;> intro k2 h1 e1
 ·have i1 := ix h1
  have m2 := ml a0 (k2 0 _ rfl)
  have w1 := wr v1_0
  simp [i1, ZA]
  repeat with_reducible refine sd ?_
  refine cR (Hn (nth a0 v1_0)) ?_
  have i2 := ik v1_0 v1_1
  simp [i2, ZA, qA (x := (nth a0 v1_0)) rfl]
  repeat with_reducible refine sd ?_
  exact ny2 w1 e1
 have f := ms f e1
 exact rtD [.tmp 2] f
theorem LR (a0 : List Zg) (u0 : Sm 2338816 a0) : Sd 54 [rL 4 Zg.row a0] [rL 4 Zg.row a0] := by
  have h := IU a0 u0
  rwa [Jd] at h
theorem EW (a0 : ZH) (u0 : Sm 2334720 a0) : Sd 14 [a0.row] [(R9 a0).row] := by
 have f := me (R9.eq_1 a0)
 refine soD Tryz.func14 Tryz.ntmps14 ?_
 refine cDs [false] (Di a0.Yb (sg (ZH.YL u0))) ?_
 refine cDs [false] (P0 a0.ZU (sg (ZH.X9 u0))) ?_
 refine cDs [false] (LR a0.Methods (sg (ZH.Z6 u0))) ?_
 exact rtD [.cell 2 46] f
theorem Fe (a0 : ZH) (u0 : Sm 2334720 a0) : Sd 14 [a0.row] [a0.row] := by
  have h := EW a0 u0
  rwa [zg] at h
theorem C0 (a0 : Zs) : Sa 116 [a0.row] [(Oj a0).row] := by
 have f := me (Oj.eq_1 a0)
 refine so Tryz.func116 Tryz.ntmps116 ?_
 exact rt [.cell 2 168] f
theorem DQ (a0 : Zs) : Sa 116 [a0.row] [a0.row] := by
  have h := C0 a0
  rwa [yT] at h
theorem D2 (a0 : List Zs) (u0 : Sm 2338816 a0) : Sd 75 [rL 7 Zs.row a0] [rL 7 Zs.row (ML a0)] := by
 have f := me (ML.eq_1 a0)
 have c1 := sl 2338816 a0 u0
 refine soD Tryz.func75 Tryz.ntmps75 ?_
 refine lp2 (Vq.eq_2 a0) (fun v1_0 v1_1 => Z9 23 [eL 0 7 a0 Zs.row, (3, .one (.sref 7 0 0 v1_1.length), []), eI 4 (↑v1_0 : Int), (7, .any, [.arr false 7 (v1_1.map Zs.row)])]) (fun n1 v1_0 v1_1 => a0.length < n1 + v1_0 ∧ v1_0 ≤ a0.length ∧ v1_1.length = a0.length) (a0.length + 1) 0 (List.replicate a0.length (Zs.mk 0 0 0 0 0 0 0)) (fun p1 v1_0 v1_1 e1 j1 => ?_)
 refine cFf e1 ?_ ?_ <;> intro k2 h1 e1
 ·have i1 := ix h1
  have m2 := ml a0 (k2 0 _ rfl)
  have w1 := wr v1_0
  simp [i1, ZA]
  repeat with_reducible refine sd ?_
  refine cR (DQ (nth a0 v1_0)) ?_
  have i2 := ik v1_0 v1_1
  simp [i2, ZA, qA (x := (nth a0 v1_0)) rfl]
  repeat with_reducible refine sd ?_
  exact ny2 w1 e1
 have f := ms f e1
 exact rtD [.tmp 2] f
theorem FM (a0 : List Zs) (u0 : Sm 2338816 a0) : Sd 75 [rL 7 Zs.row a0] [rL 7 Zs.row a0] := by
  have h := D2 a0 u0
  rwa [zo] at h
theorem Cv (a0 : List Int) (u0 : Sm 2342912 a0) : Sd 76 [rL 1 iR a0] [rL 1 iR (Iz a0)] := by
 have f := me (Iz.eq_1 a0)
 have c1 := sl 2342912 a0 u0
 refine soD Tryz.func76 Tryz.ntmps76 ?_
 refine lp2 (TZ.eq_2 a0) (fun v1_0 v1_1 => Z9 22 [eL 0 1 a0 iR, (3, .one (.sref 7 0 0 v1_1.length), []), eI 4 (↑v1_0 : Int), (7, .any, [.arr false 1 (v1_1.map iR)])]) (fun n1 v1_0 v1_1 => a0.length < n1 + v1_0 ∧ v1_0 ≤ a0.length ∧ v1_1.length = a0.length) (a0.length + 1) 0 (List.replicate a0.length 0) (fun p1 v1_0 v1_1 e1 j1 => ?_)
 refine cFf e1 ?_ ?_ <;> intro k2 h1 e1
 ·have i1 := ix h1
  have m2 := ml a0 (k2 0 _ rfl)
  have w1 := wr v1_0
  have i2 := ik v1_0 v1_1
  simp [i1, ZA, i2, qA (x := (nth a0 v1_0)) rfl]
  repeat with_reducible refine sd ?_
  exact ny2 w1 e1
 have f := ms f e1
 exact rtD [.tmp 2] f
theorem xA (a0 : List Int) (u0 : Sm 2342912 a0) : Sd 76 [rL 1 iR a0] [rL 1 iR a0] := by
  have h := Cv a0 u0
  rwa [yI] at h
theorem H6 (a0 : List ByteArray) (u0 : Sm 2342912 a0) : Sd 102 [rL 1 sR a0] [rL 1 sR (S7 a0)] := by
 have f := me (S7.eq_1 a0)
 have c1 := sl 2342912 a0 u0
 refine soD Tryz.func102 Tryz.ntmps102 ?_
 refine lp2 (kI.eq_2 a0) (fun v1_0 v1_1 => Z9 22 [eL 0 1 a0 sR, (3, .one (.sref 7 0 0 v1_1.length), []), eI 4 (↑v1_0 : Int), (7, .any, [.arr false 1 (v1_1.map sR)])]) (fun n1 v1_0 v1_1 => a0.length < n1 + v1_0 ∧ v1_0 ≤ a0.length ∧ v1_1.length = a0.length) (a0.length + 1) 0 (List.replicate a0.length (⟨#[]⟩ : ByteArray)) (fun p1 v1_0 v1_1 e1 j1 => ?_)
 refine cFf e1 ?_ ?_ <;> intro k2 h1 e1
 ·have i1 := ix h1
  have m2 := ml a0 (k2 0 _ rfl)
  have w1 := wr v1_0
  have i2 := ik v1_0 v1_1
  simp [i1, ZA, i2, qA (x := (nth a0 v1_0)) rfl]
  repeat with_reducible refine sd ?_
  exact ny2 w1 e1
 have f := ms f e1
 exact rtD [.tmp 2] f
theorem LZ (a0 : List ByteArray) (u0 : Sm 2342912 a0) : Sd 102 [rL 1 sR a0] [rL 1 sR a0] := by
  have h := H6 a0 u0
  rwa [Jm] at h
theorem Lj (a0 : Zd) (u0 : Sm 2338816 a0) : Sd 55 [a0.row] [(WZ a0).row] := by
 have f := me (WZ.eq_1 a0)
 refine soD Tryz.func55 Tryz.ntmps55 ?_
 refine cDs [false] (LZ a0.YY (sg (Zd.NW u0))) ?_
 refine cDs [false] (xA a0.XI (sg (Zd.BX u0))) ?_
 exact rtD [.cell 2 48] f
theorem MQ (a0 : Zd) (u0 : Sm 2338816 a0) : Sd 55 [a0.row] [a0.row] := by
  have h := Lj a0 u0
  rwa [Qz] at h
theorem N8 (a0 : ZY) : Sa 56 [a0.row] [(kD a0).row] := by
 have f := me (kD.eq_1 a0)
 refine so Tryz.func56 Tryz.ntmps56 ?_
 exact rt [.cell 2 49] f
theorem ON (a0 : ZY) : Sa 56 [a0.row] [a0.row] := by
  have h := N8 a0
  rwa [QU] at h
theorem Dc (a0 : ZB) (u0 : Sm 2338816 a0) : Sd 142 [a0.row] [(R7 a0).row] := by
 have f := me (R7.eq_1 a0)
 refine soD Tryz.func142 Tryz.ntmps142 ?_
 refine cDs [false] (xA a0.Zb (sg (ZB.Wl u0))) ?_
 exact rtD [.cell 2 194] f
theorem G4 (a0 : ZB) (u0 : Sm 2338816 a0) : Sd 142 [a0.row] [a0.row] := by
  have h := Dc a0 u0
  rwa [zk] at h
theorem FQ (a0 : List ZB) (u0 : Sm 2334720 a0) : Sd 103 [rL 3 ZB.row a0] [rL 3 ZB.row (P5 a0)] := by
 have f := me (P5.eq_1 a0)
 refine soD Tryz.func103 Tryz.ntmps103 ?_
 have c1 := sl 2334720 a0 u0
 refine tw (n := a0.length) rfl rfl rfl rfl rfl rfl (by simp) (by simp) (by simp; omega) (by omega) ?_
 simp
 refine lp2 (We.eq_2 a0) (fun v1_0 v1_1 => Z9 23 [eL 0 3 a0 ZB.row, (3, .one (.sref 7 0 0 v1_1.length), []), eI 4 (↑v1_0 : Int), (7, .any, [.arr true 3 (v1_1.map ZB.row)])]) (fun n1 v1_0 v1_1 => a0.length < n1 + v1_0 ∧ v1_0 ≤ a0.length ∧ v1_1.length = a0.length) (a0.length + 1) 0 (List.replicate a0.length (ZB.mk 0 ([] : List Int) 0)) (fun p1 v1_0 v1_1 e1 j1 => ?_)
 refine cFf e1 ?_ ?_ <;> intro k2 h1 e1
 ·have i1 := ix h1
  have m2 := ml a0 (k2 0 _ rfl)
  have w1 := wr v1_0
  simp [i1, ZA]
  repeat with_reducible refine sd ?_
  have i2 := ik v1_0 v1_1
  refine cDf i2 [true, false] (G4 (nth a0 v1_0) (sg (Zx u0))) ?_
  refine tP (t := 7) (j := 0) (i := v1_0) (c := 0) (size := 3) (rows := (v1_1.map ZB.row)) (ds := (nth a0 v1_0).row) (L := [(20, 1)]) rfl rfl rfl rfl (by simp) (by simp) (by simp; try omega) (by simp) (by simp) (by simp) (by simp) (by simp) (by simp) ?_
  simp [qA (x := (nth a0 v1_0)) rfl, i2, ZA, jF]
  repeat with_reducible refine sd ?_
  exact ny2 w1 e1
 have f := ms f e1
 exact rtD [.tmp 2] f
theorem HL (a0 : List ZB) (u0 : Sm 2334720 a0) : Sd 103 [rL 3 ZB.row a0] [rL 3 ZB.row a0] := by
  have h := FQ a0 u0
  rwa [Kh] at h
theorem C6 (a0 : Yq) : Sa 257 [a0.row] [(OV a0).row] := by
 have f := me (OV.eq_1 a0)
 refine so Tryz.func257 Tryz.ntmps257 ?_
 exact rt [.cell 2 275] f
theorem E0 (a0 : Yq) : Sa 257 [a0.row] [a0.row] := by
  have h := C6 a0
  rwa [yq] at h
theorem Dl (a0 : List Yq) (u0 : Sm 2338816 a0) : Sd 191 [rL 2 Yq.row a0] [rL 2 Yq.row (Nd a0)] := by
 have f := me (Nd.eq_1 a0)
 have c1 := sl 2338816 a0 u0
 refine soD Tryz.func191 Tryz.ntmps191 ?_
 refine lp2 (Vn.eq_2 a0) (fun v1_0 v1_1 => Z9 23 [eL 0 2 a0 Yq.row, (3, .one (.sref 7 0 0 v1_1.length), []), eI 4 (↑v1_0 : Int), (7, .any, [.arr false 2 (v1_1.map Yq.row)])]) (fun n1 v1_0 v1_1 => a0.length < n1 + v1_0 ∧ v1_0 ≤ a0.length ∧ v1_1.length = a0.length) (a0.length + 1) 0 (List.replicate a0.length (Yq.mk 0 false)) (fun p1 v1_0 v1_1 e1 j1 => ?_)
 refine cFf e1 ?_ ?_ <;> intro k2 h1 e1
 ·have i1 := ix h1
  have m2 := ml a0 (k2 0 _ rfl)
  have w1 := wr v1_0
  simp [i1, ZA]
  repeat with_reducible refine sd ?_
  refine cR (E0 (nth a0 v1_0)) ?_
  have i2 := ik v1_0 v1_1
  simp [i2, ZA, qA (x := (nth a0 v1_0)) rfl]
  repeat with_reducible refine sd ?_
  exact ny2 w1 e1
 have f := ms f e1
 exact rtD [.tmp 2] f
theorem G8 (a0 : List Yq) (u0 : Sm 2338816 a0) : Sd 191 [rL 2 Yq.row a0] [rL 2 Yq.row a0] := by
  have h := Dl a0 u0
  rwa [zl] at h
theorem DA (a0 : ZZ) : Sa 258 [a0.row] [(R6 a0).row] := by
 have f := me (R6.eq_1 a0)
 refine so Tryz.func258 Tryz.ntmps258 ?_
 exact rt [.cell 2 279] f
theorem G9 (a0 : ZZ) : Sa 258 [a0.row] [a0.row] := by
  have h := DA a0
  rwa [zx] at h
theorem FU (a0 : List ZZ) (u0 : Sm 2338816 a0) : Sd 192 [rL 5 ZZ.row a0] [rL 5 ZZ.row (Pu a0)] := by
 have f := me (Pu.eq_1 a0)
 have c1 := sl 2338816 a0 u0
 refine soD Tryz.func192 Tryz.ntmps192 ?_
 refine lp2 (Wo.eq_2 a0) (fun v1_0 v1_1 => Z9 23 [eL 0 5 a0 ZZ.row, (3, .one (.sref 7 0 0 v1_1.length), []), eI 4 (↑v1_0 : Int), (7, .any, [.arr false 5 (v1_1.map ZZ.row)])]) (fun n1 v1_0 v1_1 => a0.length < n1 + v1_0 ∧ v1_0 ≤ a0.length ∧ v1_1.length = a0.length) (a0.length + 1) 0 (List.replicate a0.length (ZZ.mk 0 0 0 0 0)) (fun p1 v1_0 v1_1 e1 j1 => ?_)
 refine cFf e1 ?_ ?_ <;> intro k2 h1 e1
 ·have i1 := ix h1
  have m2 := ml a0 (k2 0 _ rfl)
  have w1 := wr v1_0
  simp [i1, ZA]
  repeat with_reducible refine sd ?_
  refine cR (G9 (nth a0 v1_0)) ?_
  have i2 := ik v1_0 v1_1
  simp [i2, ZA, qA (x := (nth a0 v1_0)) rfl]
  repeat with_reducible refine sd ?_
  exact ny2 w1 e1
 have f := ms f e1
 exact rtD [.tmp 2] f
theorem Ik (a0 : List ZZ) (u0 : Sm 2338816 a0) : Sd 192 [rL 5 ZZ.row a0] [rL 5 ZZ.row a0] := by
  have h := FU a0 u0
  rwa [KV] at h
theorem Ha (a0 : ZV) (u0 : Sm 2334720 a0) : Sd 143 [a0.row] [(V7 a0).row] := by
 have f := me (V7.eq_1 a0)
 refine soD Tryz.func143 Tryz.ntmps143 ?_
 refine cDs [false] (G8 a0.Path (sg (ZV.sB u0))) ?_
 refine cDs [false] (Ik a0.Zf (sg (ZV.R4 u0))) ?_
 exact rtD [.cell 2 199] f
theorem LH (a0 : ZV) (u0 : Sm 2334720 a0) : Sd 143 [a0.row] [a0.row] := by
  have h := Ha a0 u0
  rwa [Jj] at h
theorem LC (a0 : List ZV) (u0 : Sm 2330624 a0) : Sd 104 [rL 5 ZV.row a0] [rL 5 ZV.row (Tp a0)] := by
 have f := me (Tp.eq_1 a0)
 refine soD Tryz.func104 Tryz.ntmps104 ?_
 have c1 := sl 2330624 a0 u0
 refine tw (n := a0.length) rfl rfl rfl rfl rfl rfl (by simp) (by simp) (by simp; omega) (by omega) ?_
 simp
 refine lp2 (jC.eq_2 a0) (fun v1_0 v1_1 => Z9 23 [eL 0 5 a0 ZV.row, (3, .one (.sref 7 0 0 v1_1.length), []), eI 4 (↑v1_0 : Int), (7, .any, [.arr true 5 (v1_1.map ZV.row)])]) (fun n1 v1_0 v1_1 => a0.length < n1 + v1_0 ∧ v1_0 ≤ a0.length ∧ v1_1.length = a0.length) (a0.length + 1) 0 (List.replicate a0.length (ZV.mk 0 0 0 ([] : List Yq) ([] : List ZZ))) (fun p1 v1_0 v1_1 e1 j1 => ?_)
 refine cFf e1 ?_ ?_ <;> intro k2 h1 e1
 ·have i1 := ix h1
  have m2 := ml a0 (k2 0 _ rfl)
  have w1 := wr v1_0
  simp [i1, ZA]
  repeat with_reducible refine sd ?_
  have i2 := ik v1_0 v1_1
  refine cDf i2 [true, true, true, false, false] (LH (nth a0 v1_0) (sg (Zx u0))) ?_
  refine tP (t := 7) (j := 0) (i := v1_0) (c := 0) (size := 5) (rows := (v1_1.map ZV.row)) (ds := (nth a0 v1_0).row) (L := [(20, 3), (20, 4)]) rfl rfl rfl rfl (by simp) (by simp) (by simp; try omega) (by simp) (by simp) (by simp) (by simp) (by simp) (by simp) ?_
  simp [qA (x := (nth a0 v1_0)) rfl, i2, ZA, jF]
  repeat with_reducible refine sd ?_
  exact ny2 w1 e1
 have f := ms f e1
 exact rtD [.tmp 2] f
theorem Nb (a0 : List ZV) (u0 : Sm 2330624 a0) : Sd 104 [rL 5 ZV.row a0] [rL 5 ZV.row a0] := by
  have h := LC a0 u0
  rwa [Qy] at h
theorem Gu (a0 : ZK) (u0 : Sm 2326528 a0) : Sd 57 [a0.row] [(Tl a0).row] := by
 have f := me (Tl.eq_1 a0)
 refine soD Tryz.func57 Tryz.ntmps57 ?_
 refine cDs [] (HL a0.ZT (sg (ZK.Yh u0))) ?_
 refine cDs [] (Nb a0.ZM (sg (ZK.Xo u0))) ?_
 exact rtD [.cell 2 53] f
theorem HO (a0 : ZK) (u0 : Sm 2326528 a0) : Sd 57 [a0.row] [a0.row] := by
  have h := Gu a0 u0
  rwa [Ka] at h
theorem BW (a0 : Zt) (u0 : Sm 2322432 a0) : Sd 15 [a0.row] [(OX a0).row] := by
 have f := me (OX.eq_1 a0)
 refine soD Tryz.func15 Tryz.ntmps15 ?_
 refine cDs [true, false, false] (MQ a0.Doc (sg (Zt.WC u0))) ?_
 refine cRs (ON a0.Sig) ?_
 refine cDs [] (HO a0.Yl (sg (Zt.Y8 u0))) ?_
 exact rtD [.cell 2 55] f
theorem E5 (a0 : Zt) (u0 : Sm 2322432 a0) : Sd 15 [a0.row] [a0.row] := by
  have h := BW a0 u0
  rwa [yx] at h
theorem Dr (a0 : List Zt) (u0 : Sm 2318336 a0) : Sd 68 [rL 16 Zt.row a0] [rL 16 Zt.row (Nm a0)] := by
 have f := me (Nm.eq_1 a0)
 refine soD Tryz.func68 Tryz.ntmps68 ?_
 have c1 := sl 2318336 a0 u0
 refine tw (n := a0.length) rfl rfl rfl rfl rfl rfl (by simp) (by simp) (by simp; omega) (by omega) ?_
 simp
 refine lp2 (UM.eq_2 a0) (fun v1_0 v1_1 => Z9 23 [eL 0 16 a0 Zt.row, (3, .one (.sref 7 0 0 v1_1.length), []), eI 4 (↑v1_0 : Int), (7, .any, [.arr true 16 (v1_1.map Zt.row)])]) (fun n1 v1_0 v1_1 => a0.length < n1 + v1_0 ∧ v1_0 ≤ a0.length ∧ v1_1.length = a0.length) (a0.length + 1) 0 (List.replicate a0.length (Zt.mk 0 0 (Zd.mk 0 ([] : List ByteArray) ([] : List Int)) (ZY.mk 0 0 0 0 0 0 0 0 0) (ZK.mk ([] : List ZB) ([] : List ZV)))) (fun p1 v1_0 v1_1 e1 j1 => ?_)
 refine cFf e1 ?_ ?_ <;> intro k2 h1 e1
 ·have i1 := ix h1
  have m2 := ml a0 (k2 0 _ rfl)
  have w1 := wr v1_0
  simp [i1, ZA]
  repeat with_reducible refine sd ?_
  have i2 := ik v1_0 v1_1
  refine cDf i2 [true, true, true, false, false] (E5 (nth a0 v1_0) (sg (Zx u0))) ?_
  refine tP (t := 7) (j := 0) (i := v1_0) (c := 0) (size := 16) (rows := (v1_1.map Zt.row)) (ds := (nth a0 v1_0).row) (L := [(20, 3), (20, 4), (20, 14), (20, 15)]) rfl rfl rfl rfl (by simp) (by simp) (by simp; try omega) (by simp) (by simp) (by simp) (by simp) (by simp) (by simp) ?_
  simp [qA (x := (nth a0 v1_0)) rfl, i2, ZA, jF]
  repeat with_reducible refine sd ?_
  exact ny2 w1 e1
 have f := ms f e1
 exact rtD [.tmp 2] f
theorem GY (a0 : List Zt) (u0 : Sm 2318336 a0) : Sd 68 [rL 16 Zt.row a0] [rL 16 Zt.row a0] := by
  have h := Dr a0 u0
  rwa [z5] at h
theorem Ij (a0 : Zc) (u0 : Sm 2314240 a0) : Sd 21 [a0.row] [(V4 a0).row] := by
 have f := me (V4.eq_1 a0)
 refine soD Tryz.func21 Tryz.ntmps21 ?_
 refine cDs [] (GY a0.Zh (sg (Zc.Ra u0))) ?_
 exact rtD [.cell 2 67] f
theorem M1 (a0 : Zc) (u0 : Sm 2314240 a0) : Sd 21 [a0.row] [a0.row] := by
  have h := Ij a0 u0
  rwa [Ji] at h
theorem IF (a0 : List Zc) (u0 : Sm 2310144 a0) : Sd 77 [rL 2 Zc.row a0] [rL 2 Zc.row (T3 a0)] := by
 have f := me (T3.eq_1 a0)
 refine soD Tryz.func77 Tryz.ntmps77 ?_
 have c1 := sl 2310144 a0 u0
 refine tw (n := a0.length) rfl rfl rfl rfl rfl rfl (by simp) (by simp) (by simp; omega) (by omega) ?_
 simp
 refine lp2 (jS.eq_2 a0) (fun v1_0 v1_1 => Z9 23 [eL 0 2 a0 Zc.row, (3, .one (.sref 7 0 0 v1_1.length), []), eI 4 (↑v1_0 : Int), (7, .any, [.arr true 2 (v1_1.map Zc.row)])]) (fun n1 v1_0 v1_1 => a0.length < n1 + v1_0 ∧ v1_0 ≤ a0.length ∧ v1_1.length = a0.length) (a0.length + 1) 0 (List.replicate a0.length (Zc.mk 0 ([] : List Zt))) (fun p1 v1_0 v1_1 e1 j1 => ?_)
 refine cFf e1 ?_ ?_ <;> intro k2 h1 e1
 ·have i1 := ix h1
  have m2 := ml a0 (k2 0 _ rfl)
  have w1 := wr v1_0
  simp [i1, ZA]
  repeat with_reducible refine sd ?_
  have i2 := ik v1_0 v1_1
  refine cDf i2 [] (M1 (nth a0 v1_0) (sg (Zx u0))) ?_
  refine tP (t := 7) (j := 0) (i := v1_0) (c := 0) (size := 2) (rows := (v1_1.map Zc.row)) (ds := (nth a0 v1_0).row) (L := [(20, 1)]) rfl rfl rfl rfl (by simp) (by simp) (by simp; try omega) (by simp) (by simp) (by simp) (by simp) (by simp) (by simp) ?_
  simp [qA (x := (nth a0 v1_0)) rfl, i2, ZA, jF]
  repeat with_reducible refine sd ?_
  exact ny2 w1 e1
 have f := ms f e1
 exact rtD [.tmp 2] f
theorem N5 (a0 : List Zc) (u0 : Sm 2310144 a0) : Sd 77 [rL 2 Zc.row a0] [rL 2 Zc.row a0] := by
  have h := IF a0 u0
  rwa [JC] at h
theorem DJ (a0 : Zi) (u0 : Sm 2306048 a0) : Sd 26 [a0.row] [(R8 a0).row] := by
 have f := me (R8.eq_1 a0)
 refine soD Tryz.func26 Tryz.ntmps26 ?_
 refine cDs [false, false, false] (Fe a0.Frame (sg (Zi.S9 u0))) ?_
 refine cDs [false] (FM a0.YN (sg (Zi.v9 u0))) ?_
 refine cDs [false] (xA a0.YX (sg (Zi.uS u0))) ?_
 refine cDs [] (N5 a0.ZE (sg (Zi.V8 u0))) ?_
 refine cDs [false] (xA a0.Qg (sg (Zi.tv u0))) ?_
 refine cDs [false] (xA a0.Y4 (sg (Zi.ur u0))) ?_
 refine cDs [false] (xA a0.XQ (sg (Zi.vT u0))) ?_
 exact rtD [.cell 2 84] f
theorem Ua (a0 : Zi) (u0 : Sm 2306048 a0) : Sd 26 [a0.row] [a0.row] := by
  have h := DJ a0 u0
  rwa [ze] at h
theorem Ad (a0 : Zy) (a1 : Zy) : Sa 109 [a0.row, a1.row] [rB (PD a0 a1)] := by
 have f := me (PD.eq_1 a0 a1)
 refine so Tryz.func109 Tryz.ntmps109 ?_
 refine cF f ?_ ?_ <;> intro k1 h1 f
 ·exact rt [.tmp 4] f
 refine cF f ?_ ?_ <;> intro k2 h2 f
 ·exact rt [.tmp 4] f
 refine cF f ?_ ?_ <;> intro k3 h3 f
 ·exact rt [.tmp 4] f
 refine cF f ?_ ?_ <;> intro k4 h4 f
 ·exact rt [.tmp 4] f
 refine cF f ?_ ?_ <;> intro k5 h5 f
 ·exact rt [.tmp 4] f
 exact rt [.tmp 4] f
theorem C1 (a0 : List Zy) (a1 : List Zy) : Sa 61 [rL 5 Zy.row a0, rL 5 Zy.row a1] [rB (Rb a0 a1)] := by
 have f := me (Rb.eq_1 a0 a1)
 refine so Tryz.func61 Tryz.ntmps61 ?_
 refine cF f ?_ ?_ <;> intro k1 h1 f
 ·exact rt [.tmp 4] f
 refine lp1 (T4.eq_2 a0 a1) (fun v1_0 => Z9 27 [eL 0 5 a0 Zy.row, eL 1 5 a1 Zy.row, eI 5 (↑v1_0 : Int)]) (fun n1 v1_0 => a0.length < n1 + v1_0 ∧ v1_0 ≤ a0.length) (a0.length + 1) 0 (fun p1 v1_0 e1 j1 => ?_)
 refine cF e1 ?_ ?_ <;> intro k3 h2 e1
 ·have i1 := ix h2
  have m2 := ml a0 (k3 0 _ rfl)
  have w1 := wr v1_0
  refine dIo mixed ?_
  have i2 := ik v1_0 a1
  simp [i1, ZA, i2]
  repeat with_reducible refine sd ?_
  refine cRs (Ad (nth a0 v1_0) (nth a1 v1_0)) ?_
  refine cF e1 ?_ ?_ <;> intro k5 h3 e1
  ·have f := ms f e1
   exact rt [.tmp 4] f
  exact ny1 w1 e1
 have f := ms f e1
 exact rt [.tmp 4] f
theorem N0 (a0 : ZF) (a1 : ZF) : Sa 110 [a0.row, a1.row] [rB (yA a0 a1)] := by
 have f := me (yA.eq_1 a0 a1)
 refine so Tryz.func110 Tryz.ntmps110 ?_
 refine cF f ?_ ?_ <;> intro k1 h1 f
 ·exact rt [.tmp 4] f
 refine cF f ?_ ?_ <;> intro k2 h2 f
 ·exact rt [.tmp 4] f
 refine cF f ?_ ?_ <;> intro k3 h3 f
 ·exact rt [.tmp 4] f
 exact rt [.tmp 4] f
theorem OL (a0 : List ZF) (a1 : List ZF) : Sa 62 [rL 3 ZF.row a0, rL 3 ZF.row a1] [rB (yP a0 a1)] := by
 have f := me (yP.eq_1 a0 a1)
 refine so Tryz.func62 Tryz.ntmps62 ?_
 refine cF f ?_ ?_ <;> intro k1 h1 f
 ·exact rt [.tmp 4] f
 refine lp1 (xV.eq_2 a0 a1) (fun v1_0 => Z9 27 [eL 0 3 a0 ZF.row, eL 1 3 a1 ZF.row, eI 5 (↑v1_0 : Int)]) (fun n1 v1_0 => a0.length < n1 + v1_0 ∧ v1_0 ≤ a0.length) (a0.length + 1) 0 (fun p1 v1_0 e1 j1 => ?_)
 refine cF e1 ?_ ?_ <;> intro k3 h2 e1
 ·have i1 := ix h2
  have m2 := ml a0 (k3 0 _ rfl)
  have w1 := wr v1_0
  refine dIo mixed ?_
  have i2 := ik v1_0 a1
  simp [i1, ZA, i2]
  repeat with_reducible refine sd ?_
  refine cRs (N0 (nth a0 v1_0) (nth a1 v1_0)) ?_
  refine cF e1 ?_ ?_ <;> intro k5 h3 e1
  ·have f := ms f e1
   exact rt [.tmp 4] f
  exact ny1 w1 e1
 have f := ms f e1
 exact rt [.tmp 4] f
theorem G2 (a0 : Zg) (a1 : Zg) : Sa 111 [a0.row, a1.row] [rB (kA a0 a1)] := by
 have f := me (kA.eq_1 a0 a1)
 refine so Tryz.func111 Tryz.ntmps111 ?_
 refine cF f ?_ ?_ <;> intro k1 h1 f
 ·exact rt [.tmp 4] f
 refine cF f ?_ ?_ <;> intro k2 h2 f
 ·exact rt [.tmp 4] f
 refine cF f ?_ ?_ <;> intro k3 h3 f
 ·exact rt [.tmp 4] f
 refine cF f ?_ ?_ <;> intro k4 h4 f
 ·exact rt [.tmp 4] f
 exact rt [.tmp 4] f
theorem GC (a0 : List Zg) (a1 : List Zg) : Sa 63 [rL 4 Zg.row a0, rL 4 Zg.row a1] [rB (ks a0 a1)] := by
 have f := me (ks.eq_1 a0 a1)
 refine so Tryz.func63 Tryz.ntmps63 ?_
 refine cF f ?_ ?_ <;> intro k1 h1 f
 ·exact rt [.tmp 4] f
 refine lp1 (kP.eq_2 a0 a1) (fun v1_0 => Z9 27 [eL 0 4 a0 Zg.row, eL 1 4 a1 Zg.row, eI 5 (↑v1_0 : Int)]) (fun n1 v1_0 => a0.length < n1 + v1_0 ∧ v1_0 ≤ a0.length) (a0.length + 1) 0 (fun p1 v1_0 e1 j1 => ?_)
 refine cF e1 ?_ ?_ <;> intro k3 h2 e1
 ·have i1 := ix h2
  have m2 := ml a0 (k3 0 _ rfl)
  have w1 := wr v1_0
  refine dIo mixed ?_
  have i2 := ik v1_0 a1
  simp [i1, ZA, i2]
  repeat with_reducible refine sd ?_
  refine cRs (G2 (nth a0 v1_0) (nth a1 v1_0)) ?_
  refine cF e1 ?_ ?_ <;> intro k5 h3 e1
  ·have f := ms f e1
   exact rt [.tmp 4] f
  exact ny1 w1 e1
 have f := ms f e1
 exact rt [.tmp 4] f
theorem E2 (a0 : ZH) (a1 : ZH) : Sa 17 [a0.row, a1.row] [rB (Ul a0 a1)] := by
 have f := me (Ul.eq_1 a0 a1)
 refine so Tryz.func17 Tryz.ntmps17 ?_
 refine cRs (C1 a0.Yb a1.Yb) ?_
 refine cF f ?_ ?_ <;> intro k1 h1 f
 ·exact rt [.tmp 4] f
 refine cRs (OL a0.ZU a1.ZU) ?_
 refine cF f ?_ ?_ <;> intro k2 h2 f
 ·exact rt [.tmp 4] f
 refine cRs (GC a0.Methods a1.Methods) ?_
 refine cF f ?_ ?_ <;> intro k3 h3 f
 ·exact rt [.tmp 4] f
 refine cF f ?_ ?_ <;> intro k4 h4 f
 ·exact rt [.tmp 4] f
 refine cF f ?_ ?_ <;> intro k5 h5 f
 ·exact rt [.tmp 4] f
 exact rt [.tmp 4] f
theorem BP (a0 : Zs) (a1 : Zs) : Sa 118 [a0.row, a1.row] [rB (TV a0 a1)] := by
 have f := me (TV.eq_1 a0 a1)
 refine so Tryz.func118 Tryz.ntmps118 ?_
 refine cF f ?_ ?_ <;> intro k1 h1 f
 ·exact rt [.tmp 4] f
 refine cF f ?_ ?_ <;> intro k2 h2 f
 ·exact rt [.tmp 4] f
 refine cF f ?_ ?_ <;> intro k3 h3 f
 ·exact rt [.tmp 4] f
 refine cF f ?_ ?_ <;> intro k4 h4 f
 ·exact rt [.tmp 4] f
 refine cF f ?_ ?_ <;> intro k5 h5 f
 ·exact rt [.tmp 4] f
 refine cF f ?_ ?_ <;> intro k6 h6 f
 ·exact rt [.tmp 4] f
 refine cF f ?_ ?_ <;> intro k7 h7 f
 ·exact rt [.tmp 4] f
 exact rt [.tmp 4] f
theorem Dz (a0 : List Zs) (a1 : List Zs) : Sa 80 [rL 7 Zs.row a0, rL 7 Zs.row a1] [rB (U6 a0 a1)] := by
 have f := me (U6.eq_1 a0 a1)
 refine so Tryz.func80 Tryz.ntmps80 ?_
 refine cF f ?_ ?_ <;> intro k1 h1 f
 ·exact rt [.tmp 4] f
 refine lp1 (UD.eq_2 a0 a1) (fun v1_0 => Z9 27 [eL 0 7 a0 Zs.row, eL 1 7 a1 Zs.row, eI 5 (↑v1_0 : Int)]) (fun n1 v1_0 => a0.length < n1 + v1_0 ∧ v1_0 ≤ a0.length) (a0.length + 1) 0 (fun p1 v1_0 e1 j1 => ?_)
 refine cF e1 ?_ ?_ <;> intro k3 h2 e1
 ·have i1 := ix h2
  have m2 := ml a0 (k3 0 _ rfl)
  have w1 := wr v1_0
  refine dIo mixed ?_
  have i2 := ik v1_0 a1
  simp [i1, ZA, i2]
  repeat with_reducible refine sd ?_
  refine cRs (BP (nth a0 v1_0) (nth a1 v1_0)) ?_
  refine cF e1 ?_ ?_ <;> intro k5 h3 e1
  ·have f := ms f e1
   exact rt [.tmp 4] f
  exact ny1 w1 e1
 have f := ms f e1
 exact rt [.tmp 4] f
theorem qO (a0 : List Int) (a1 : List Int) : Sa 36 [rL 1 iR a0, rL 1 iR a1] [rB (xr a0 a1)] := by
 have f := me (xr.eq_1 a0 a1)
 refine so Tryz.func36 Tryz.ntmps36 ?_
 refine cF f ?_ ?_ <;> intro k1 h1 f
 ·exact rt [.tmp 4] f
 refine lp1 (Tj.eq_2 a0 a1) (fun v1_0 => Z9 26 [eL 0 1 a0 iR, eL 1 1 a1 iR, eI 5 (↑v1_0 : Int)]) (fun n1 v1_0 => a0.length < n1 + v1_0 ∧ v1_0 ≤ a0.length) (a0.length + 1) 0 (fun p1 v1_0 e1 j1 => ?_)
 refine cF e1 ?_ ?_ <;> intro k3 h2 e1
 ·have i1 := ix h2
  have m2 := ml a0 (k3 0 _ rfl)
  have w1 := wr v1_0
  refine dIo mixed ?_
  have i2 := ik v1_0 a1
  simp [i1, ZA, i2]
  repeat with_reducible refine sd ?_
  refine cF e1 ?_ ?_ <;> intro k5 h3 e1
  ·have f := ms f e1
   exact rt [.tmp 4] f
  exact ny1 w1 e1
 have f := ms f e1
 exact rt [.tmp 4] f
theorem GR (a0 : List ByteArray) (a1 : List ByteArray) : Sa 112 [rL 1 sR a0, rL 1 sR a1] [rB (kg a0 a1)] := by
 have f := me (kg.eq_1 a0 a1)
 refine so Tryz.func112 Tryz.ntmps112 ?_
 refine cF f ?_ ?_ <;> intro k1 h1 f
 ·exact rt [.tmp 4] f
 refine lp1 (kH.eq_2 a0 a1) (fun v1_0 => Z9 26 [eL 0 1 a0 sR, eL 1 1 a1 sR, eI 5 (↑v1_0 : Int)]) (fun n1 v1_0 => a0.length < n1 + v1_0 ∧ v1_0 ≤ a0.length) (a0.length + 1) 0 (fun p1 v1_0 e1 j1 => ?_)
 refine cF e1 ?_ ?_ <;> intro k3 h2 e1
 ·have i1 := ix h2
  have m2 := ml a0 (k3 0 _ rfl)
  have w1 := wr v1_0
  refine dIo mixed ?_
  have i2 := ik v1_0 a1
  simp [i1, ZA, i2]
  repeat with_reducible refine sd ?_
  refine cF e1 ?_ ?_ <;> intro k5 h3 e1
  ·have f := ms f e1
   exact rt [.tmp 4] f
  exact ny1 w1 e1
 have f := ms f e1
 exact rt [.tmp 4] f
theorem Lu (a0 : Zd) (a1 : Zd) : Sa 64 [a0.row, a1.row] [rB (qq a0 a1)] := by
 have f := me (qq.eq_1 a0 a1)
 refine so Tryz.func64 Tryz.ntmps64 ?_
 refine cF f ?_ ?_ <;> intro k1 h1 f
 ·exact rt [.tmp 4] f
 refine cRs (GR a0.YY a1.YY) ?_
 refine cF f ?_ ?_ <;> intro k2 h2 f
 ·exact rt [.tmp 4] f
 refine cRs (qO a0.XI a1.XI) ?_
 refine cF f ?_ ?_ <;> intro k3 h3 f
 ·exact rt [.tmp 4] f
 exact rt [.tmp 4] f
theorem ME (a0 : ZY) (a1 : ZY) : Sa 65 [a0.row, a1.row] [rB (xl a0 a1)] := by
 have f := me (xl.eq_1 a0 a1)
 refine so Tryz.func65 Tryz.ntmps65 ?_
 refine cF f ?_ ?_ <;> intro k1 h1 f
 ·exact rt [.tmp 4] f
 refine cF f ?_ ?_ <;> intro k2 h2 f
 ·exact rt [.tmp 4] f
 refine cF f ?_ ?_ <;> intro k3 h3 f
 ·exact rt [.tmp 4] f
 refine cF f ?_ ?_ <;> intro k4 h4 f
 ·exact rt [.tmp 4] f
 refine cF f ?_ ?_ <;> intro k5 h5 f
 ·exact rt [.tmp 4] f
 refine cF f ?_ ?_ <;> intro k6 h6 f
 ·exact rt [.tmp 4] f
 refine cF f ?_ ?_ <;> intro k7 h7 f
 ·exact rt [.tmp 4] f
 refine cF f ?_ ?_ <;> intro k8 h8 f
 ·exact rt [.tmp 4] f
 refine cF f ?_ ?_ <;> intro k9 h9 f
 ·exact rt [.tmp 4] f
 exact rt [.tmp 4] f
theorem Dh (a0 : ZB) (a1 : ZB) : Sa 148 [a0.row, a1.row] [rB (Wr a0 a1)] := by
 have f := me (Wr.eq_1 a0 a1)
 refine so Tryz.func148 Tryz.ntmps148 ?_
 refine cF f ?_ ?_ <;> intro k1 h1 f
 ·exact rt [.tmp 4] f
 refine cRs (qO a0.Zb a1.Zb) ?_
 refine cF f ?_ ?_ <;> intro k2 h2 f
 ·exact rt [.tmp 4] f
 refine cF f ?_ ?_ <;> intro k3 h3 f
 ·exact rt [.tmp 4] f
 exact rt [.tmp 4] f
theorem G5 (a0 : List ZB) (a1 : List ZB) : Sa 113 [rL 3 ZB.row a0, rL 3 ZB.row a1] [rB (VC a0 a1)] := by
 have f := me (VC.eq_1 a0 a1)
 refine so Tryz.func113 Tryz.ntmps113 ?_
 refine cF f ?_ ?_ <;> intro k1 h1 f
 ·exact rt [.tmp 4] f
 refine lp1 (Wj.eq_2 a0 a1) (fun v1_0 => Z9 27 [eL 0 3 a0 ZB.row, eL 1 3 a1 ZB.row, eI 5 (↑v1_0 : Int)]) (fun n1 v1_0 => a0.length < n1 + v1_0 ∧ v1_0 ≤ a0.length) (a0.length + 1) 0 (fun p1 v1_0 e1 j1 => ?_)
 refine cF e1 ?_ ?_ <;> intro k3 h2 e1
 ·have i1 := ix h2
  have m2 := ml a0 (k3 0 _ rfl)
  have w1 := wr v1_0
  refine dIo mixed ?_
  have i2 := ik v1_0 a1
  simp [i1, ZA, i2]
  repeat with_reducible refine sd ?_
  refine cRs (Dh (nth a0 v1_0) (nth a1 v1_0)) ?_
  refine cF e1 ?_ ?_ <;> intro k5 h3 e1
  ·have f := ms f e1
   exact rt [.tmp 4] f
  exact ny1 w1 e1
 have f := ms f e1
 exact rt [.tmp 4] f
theorem Bd (a0 : Yq) (a1 : Yq) : Sa 281 [a0.row, a1.row] [rB (Uq a0 a1)] := by
 have f := me (Uq.eq_1 a0 a1)
 refine so Tryz.func281 Tryz.ntmps281 ?_
 refine cF f ?_ ?_ <;> intro k1 h1 f
 ·exact rt [.tmp 4] f
 refine cF f ?_ ?_ <;> intro k2 h2 f
 ·exact rt [.tmp 4] f
 exact rt [.tmp 4] f
theorem DP (a0 : List Yq) (a1 : List Yq) : Sa 216 [rL 2 Yq.row a0, rL 2 Yq.row a1] [rB (TC a0 a1)] := by
 have f := me (TC.eq_1 a0 a1)
 refine so Tryz.func216 Tryz.ntmps216 ?_
 refine cF f ?_ ?_ <;> intro k1 h1 f
 ·exact rt [.tmp 4] f
 refine lp1 (UP.eq_2 a0 a1) (fun v1_0 => Z9 27 [eL 0 2 a0 Yq.row, eL 1 2 a1 Yq.row, eI 5 (↑v1_0 : Int)]) (fun n1 v1_0 => a0.length < n1 + v1_0 ∧ v1_0 ≤ a0.length) (a0.length + 1) 0 (fun p1 v1_0 e1 j1 => ?_)
 refine cF e1 ?_ ?_ <;> intro k3 h2 e1
 ·have i1 := ix h2
  have m2 := ml a0 (k3 0 _ rfl)
  have w1 := wr v1_0
  refine dIo mixed ?_
  have i2 := ik v1_0 a1
  simp [i1, ZA, i2]
  repeat with_reducible refine sd ?_
  refine cRs (Bd (nth a0 v1_0) (nth a1 v1_0)) ?_
  refine cF e1 ?_ ?_ <;> intro k5 h3 e1
  ·have f := ms f e1
   exact rt [.tmp 4] f
  exact ny1 w1 e1
 have f := ms f e1
 exact rt [.tmp 4] f
theorem D9 (a0 : ZZ) (a1 : ZZ) : Sa 282 [a0.row, a1.row] [rB (Wv a0 a1)] := by
 have f := me (Wv.eq_1 a0 a1)
 refine so Tryz.func282 Tryz.ntmps282 ?_
 refine cF f ?_ ?_ <;> intro k1 h1 f
 ·exact rt [.tmp 4] f
 refine cF f ?_ ?_ <;> intro k2 h2 f
 ·exact rt [.tmp 4] f
 refine cF f ?_ ?_ <;> intro k3 h3 f
 ·exact rt [.tmp 4] f
 refine cF f ?_ ?_ <;> intro k4 h4 f
 ·exact rt [.tmp 4] f
 refine cF f ?_ ?_ <;> intro k5 h5 f
 ·exact rt [.tmp 4] f
 exact rt [.tmp 4] f
theorem GX (a0 : List ZZ) (a1 : List ZZ) : Sa 217 [rL 5 ZZ.row a0, rL 5 ZZ.row a1] [rB (Wz a0 a1)] := by
 have f := me (Wz.eq_1 a0 a1)
 refine so Tryz.func217 Tryz.ntmps217 ?_
 refine cF f ?_ ?_ <;> intro k1 h1 f
 ·exact rt [.tmp 4] f
 refine lp1 (Wi.eq_2 a0 a1) (fun v1_0 => Z9 27 [eL 0 5 a0 ZZ.row, eL 1 5 a1 ZZ.row, eI 5 (↑v1_0 : Int)]) (fun n1 v1_0 => a0.length < n1 + v1_0 ∧ v1_0 ≤ a0.length) (a0.length + 1) 0 (fun p1 v1_0 e1 j1 => ?_)
 refine cF e1 ?_ ?_ <;> intro k3 h2 e1
 ·have i1 := ix h2
  have m2 := ml a0 (k3 0 _ rfl)
  have w1 := wr v1_0
  refine dIo mixed ?_
  have i2 := ik v1_0 a1
  simp [i1, ZA, i2]
  repeat with_reducible refine sd ?_
  refine cRs (D9 (nth a0 v1_0) (nth a1 v1_0)) ?_
  refine cF e1 ?_ ?_ <;> intro k5 h3 e1
  ·have f := ms f e1
   exact rt [.tmp 4] f
  exact ny1 w1 e1
 have f := ms f e1
 exact rt [.tmp 4] f
theorem HY (a0 : ZV) (a1 : ZV) : Sa 149 [a0.row, a1.row] [rB (qH a0 a1)] := by
 have f := me (qH.eq_1 a0 a1)
 refine so Tryz.func149 Tryz.ntmps149 ?_
 refine cF f ?_ ?_ <;> intro k1 h1 f
 ·exact rt [.tmp 4] f
 refine cF f ?_ ?_ <;> intro k2 h2 f
 ·exact rt [.tmp 4] f
 refine cF f ?_ ?_ <;> intro k3 h3 f
 ·exact rt [.tmp 4] f
 refine cRs (DP a0.Path a1.Path) ?_
 refine cF f ?_ ?_ <;> intro k4 h4 f
 ·exact rt [.tmp 4] f
 refine cRs (GX a0.Zf a1.Zf) ?_
 refine cF f ?_ ?_ <;> intro k5 h5 f
 ·exact rt [.tmp 4] f
 exact rt [.tmp 4] f
theorem Ly (a0 : List ZV) (a1 : List ZV) : Sa 114 [rL 5 ZV.row a0, rL 5 ZV.row a1] [rB (qm a0 a1)] := by
 have f := me (qm.eq_1 a0 a1)
 refine so Tryz.func114 Tryz.ntmps114 ?_
 refine cF f ?_ ?_ <;> intro k1 h1 f
 ·exact rt [.tmp 4] f
 refine lp1 (jd.eq_2 a0 a1) (fun v1_0 => Z9 27 [eL 0 5 a0 ZV.row, eL 1 5 a1 ZV.row, eI 5 (↑v1_0 : Int)]) (fun n1 v1_0 => a0.length < n1 + v1_0 ∧ v1_0 ≤ a0.length) (a0.length + 1) 0 (fun p1 v1_0 e1 j1 => ?_)
 refine cF e1 ?_ ?_ <;> intro k3 h2 e1
 ·have i1 := ix h2
  have m2 := ml a0 (k3 0 _ rfl)
  have w1 := wr v1_0
  refine dIo mixed ?_
  have i2 := ik v1_0 a1
  simp [i1, ZA, i2]
  repeat with_reducible refine sd ?_
  refine cRs (HY (nth a0 v1_0) (nth a1 v1_0)) ?_
  refine cF e1 ?_ ?_ <;> intro k5 h3 e1
  ·have f := ms f e1
   exact rt [.tmp 4] f
  exact ny1 w1 e1
 have f := ms f e1
 exact rt [.tmp 4] f
theorem FK (a0 : ZK) (a1 : ZK) : Sa 66 [a0.row, a1.row] [rB (Wy a0 a1)] := by
 have f := me (Wy.eq_1 a0 a1)
 refine so Tryz.func66 Tryz.ntmps66 ?_
 refine cRs (G5 a0.ZT a1.ZT) ?_
 refine cF f ?_ ?_ <;> intro k1 h1 f
 ·exact rt [.tmp 4] f
 refine cRs (Ly a0.ZM a1.ZM) ?_
 refine cF f ?_ ?_ <;> intro k2 h2 f
 ·exact rt [.tmp 4] f
 exact rt [.tmp 4] f
theorem Co (a0 : Zt) (a1 : Zt) : Sa 18 [a0.row, a1.row] [rB (TP a0 a1)] := by
 have f := me (TP.eq_1 a0 a1)
 refine so Tryz.func18 Tryz.ntmps18 ?_
 refine cF f ?_ ?_ <;> intro k1 h1 f
 ·exact rt [.tmp 4] f
 refine cF f ?_ ?_ <;> intro k2 h2 f
 ·exact rt [.tmp 4] f
 refine cRs (Lu a0.Doc a1.Doc) ?_
 refine cF f ?_ ?_ <;> intro k3 h3 f
 ·exact rt [.tmp 4] f
 refine cRs (ME a0.Sig a1.Sig) ?_
 refine cF f ?_ ?_ <;> intro k4 h4 f
 ·exact rt [.tmp 4] f
 refine cRs (FK a0.Yl a1.Yl) ?_
 refine cF f ?_ ?_ <;> intro k5 h5 f
 ·exact rt [.tmp 4] f
 exact rt [.tmp 4] f
theorem DT (a0 : List Zt) (a1 : List Zt) : Sa 70 [rL 16 Zt.row a0, rL 16 Zt.row a1] [rB (TY a0 a1)] := by
 have f := me (TY.eq_1 a0 a1)
 refine so Tryz.func70 Tryz.ntmps70 ?_
 refine cF f ?_ ?_ <;> intro k1 h1 f
 ·exact rt [.tmp 4] f
 refine lp1 (Vo.eq_2 a0 a1) (fun v1_0 => Z9 27 [eL 0 16 a0 Zt.row, eL 1 16 a1 Zt.row, eI 5 (↑v1_0 : Int)]) (fun n1 v1_0 => a0.length < n1 + v1_0 ∧ v1_0 ≤ a0.length) (a0.length + 1) 0 (fun p1 v1_0 e1 j1 => ?_)
 refine cF e1 ?_ ?_ <;> intro k3 h2 e1
 ·have i1 := ix h2
  have m2 := ml a0 (k3 0 _ rfl)
  have w1 := wr v1_0
  refine dIo mixed ?_
  have i2 := ik v1_0 a1
  simp [i1, ZA, i2]
  repeat with_reducible refine sd ?_
  refine cRs (Co (nth a0 v1_0) (nth a1 v1_0)) ?_
  refine cF e1 ?_ ?_ <;> intro k5 h3 e1
  ·have f := ms f e1
   exact rt [.tmp 4] f
  exact ny1 w1 e1
 have f := ms f e1
 exact rt [.tmp 4] f
theorem H2 (a0 : Zc) (a1 : Zc) : Sa 23 [a0.row, a1.row] [rB (qb a0 a1)] := by
 have f := me (qb.eq_1 a0 a1)
 refine so Tryz.func23 Tryz.ntmps23 ?_
 refine cF f ?_ ?_ <;> intro k1 h1 f
 ·exact rt [.tmp 4] f
 refine cRs (DT a0.Zh a1.Zh) ?_
 refine cF f ?_ ?_ <;> intro k2 h2 f
 ·exact rt [.tmp 4] f
 exact rt [.tmp 4] f
theorem Lz (a0 : List Zc) (a1 : List Zc) : Sa 81 [rL 2 Zc.row a0, rL 2 Zc.row a1] [rB (jP a0 a1)] := by
 have f := me (jP.eq_1 a0 a1)
 refine so Tryz.func81 Tryz.ntmps81 ?_
 refine cF f ?_ ?_ <;> intro k1 h1 f
 ·exact rt [.tmp 4] f
 refine lp1 (ql.eq_2 a0 a1) (fun v1_0 => Z9 27 [eL 0 2 a0 Zc.row, eL 1 2 a1 Zc.row, eI 5 (↑v1_0 : Int)]) (fun n1 v1_0 => a0.length < n1 + v1_0 ∧ v1_0 ≤ a0.length) (a0.length + 1) 0 (fun p1 v1_0 e1 j1 => ?_)
 refine cF e1 ?_ ?_ <;> intro k3 h2 e1
 ·have i1 := ix h2
  have m2 := ml a0 (k3 0 _ rfl)
  have w1 := wr v1_0
  refine dIo mixed ?_
  have i2 := ik v1_0 a1
  simp [i1, ZA, i2]
  repeat with_reducible refine sd ?_
  refine cRs (H2 (nth a0 v1_0) (nth a1 v1_0)) ?_
  refine cF e1 ?_ ?_ <;> intro k5 h3 e1
  ·have f := ms f e1
   exact rt [.tmp 4] f
  exact ny1 w1 e1
 have f := ms f e1
 exact rt [.tmp 4] f
theorem EX (a0 : Zi) (a1 : Zi) : Sa 29 [a0.row, a1.row] [rB (TK a0 a1)] := by
 have f := me (TK.eq_1 a0 a1)
 refine so Tryz.func29 Tryz.ntmps29 ?_
 refine cRs (E2 a0.Frame a1.Frame) ?_
 refine cF f ?_ ?_ <;> intro k1 h1 f
 ·exact rt [.tmp 4] f
 refine cRs (Dz a0.YN a1.YN) ?_
 refine cF f ?_ ?_ <;> intro k2 h2 f
 ·exact rt [.tmp 4] f
 refine cRs (qO a0.YX a1.YX) ?_
 refine cF f ?_ ?_ <;> intro k3 h3 f
 ·exact rt [.tmp 4] f
 refine cRs (Lz a0.ZE a1.ZE) ?_
 refine cF f ?_ ?_ <;> intro k4 h4 f
 ·exact rt [.tmp 4] f
 refine cRs (qO a0.Qg a1.Qg) ?_
 refine cF f ?_ ?_ <;> intro k5 h5 f
 ·exact rt [.tmp 4] f
 refine cRs (qO a0.Y4 a1.Y4) ?_
 refine cF f ?_ ?_ <;> intro k6 h6 f
 ·exact rt [.tmp 4] f
 refine cF f ?_ ?_ <;> intro k7 h7 f
 ·exact rt [.tmp 4] f
 refine cRs (qO a0.XQ a1.XQ) ?_
 refine cF f ?_ ?_ <;> intro k8 h8 f
 ·exact rt [.tmp 4] f
 exact rt [.tmp 4] f
end Go.Proofs.YtfhmpplolpejnaaGreat
