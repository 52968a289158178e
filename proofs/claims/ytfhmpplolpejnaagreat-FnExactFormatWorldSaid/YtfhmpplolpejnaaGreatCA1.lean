/- Contracts of the functions ZEa the abstract machine, part A1. No condition. -/
import Derived.Test.YtfhmpplolpejnaaGreatL
import Derived.Test.YtfhmpplolpejnaaGreatTy
namespace Go.Proofs.YtfhmpplolpejnaaGreat
open Go.Vm Go.Mo
set_option maxHeartbeats 1000000
set_option maxRecDepth 100000
set_option linter.unusedSimpArgs false
set_option linter.unusedVariables false
theorem ZQv (a0 : List YC) (a1 : Int) : Sa 44 [rL 5 YC.row a0, rI a1] [rI (QO a0 a1)] := by
 have f := me (QO.eq_1 a0 a1)
 refine so Tryz.func44 Tryz.ntmps44 ?_
 refine cF f (fun k1 h1 f => ?_) (fun k1 h1 f => ?_)
 ·exact rt [.tmp 4] f
 exact rt [.tmp 4] f
theorem ZHh (a0 : List ZE) (a1 : Int) : Sa 45 [rL 3 ZE.row a0, rI a1] [rI (XX a0 a1)] := by
 have f := me (XX.eq_1 a0 a1)
 refine so Tryz.func45 Tryz.ntmps45 ?_
 refine cF f (fun k1 h1 f => ?_) (fun k1 h1 f => ?_)
 ·exact rt [.tmp 4] f
 exact rt [.tmp 4] f
theorem ZMC (a0 : List Zl) (a1 : Int) : Sa 46 [rL 4 Zl.row a0, rI a1] [rI (yU a0 a1)] := by
 have f := me (yU.eq_1 a0 a1)
 refine so Tryz.func46 Tryz.ntmps46 ?_
 refine cF f (fun k1 h1 f => ?_) (fun k1 h1 f => ?_)
 ·exact rt [.tmp 4] f
 exact rt [.tmp 4] f
theorem ZED (a0 : ZF) (a1 : Int) : Sa 11 [a0.row, rI a1] [rI (Zx a0 a1)] := by
 have f := me (Zx.eq_1 a0 a1)
 refine so Tryz.func11 Tryz.ntmps11 ?_
 refine cRs (ZQv a0.Y3 a1) ?_
 refine cF f (fun k1 h1 f => ?_) (fun k1 h1 f => ?_)
 ·exact rt [.tmp 4] f
 refine cRs (ZHh a0.ZT (QO a0.Y3 a1)) ?_
 refine cF f (fun k2 h2 f => ?_) (fun k2 h2 f => ?_)
 ·exact rt [.tmp 4] f
 refine cRs (ZMC a0.Methods (XX a0.ZT (QO a0.Y3 a1))) ?_
 refine cF f (fun k3 h3 f => ?_) (fun k3 h3 f => ?_)
 ·exact rt [.tmp 4] f
 exact rt [.tmp 4] f
theorem ZLJ (a0 : List ByteArray) (a1 : Int) : Sa 92 [rL 1 sR a0, rI a1] [rI (QA a0 a1)] := by
 have f := me (QA.eq_1 a0 a1)
 refine so Tryz.func92 Tryz.ntmps92 ?_
 refine cF f (fun k1 h1 f => ?_) (fun k1 h1 f => ?_)
 ·exact rt [.tmp 4] f
 refine lp2 (qd.eq_2 a0) (fun v1_0 v1_1 => Yc 28 [eL 0 1 a0 sR, eI 1 v1_0, eI 5 (↑v1_1 : Int)]) (fun n1 v1_0 v1_1 => a0.length < n1 + v1_1 ∧ v1_1 ≤ a0.length) (a0.length + 1) (W (a1 - (↑a0.length : Int))) 0 (fun p1 v1_0 v1_1 e1 j1 => ?_)
 refine cFf e1 (fun k3 h2 e1 => ?_) (fun k3 h2 e1 => ?_)
 ·have i1 := ix h2
  have m2 := ml a0 (k3 0 _ rfl)
  have w1 := wr v1_1
  simp [i1, ZA]
  repeat with_reducible refine sd ?_
  refine cF e1 (fun k4 h3 e1 => ?_) (fun k4 h3 e1 => ?_)
  ·have f := ms f e1
   exact rt [.tmp 4] f
  exact ny2 w1 e1
 have f := ms f e1
 exact rt [.tmp 4] f
theorem jb (a0 : List Int) (a1 : Int) : Sa 72 [rL 1 iR a0, rI a1] [rI (Zv a0 a1)] := by
 have f := me (Zv.eq_1 a0 a1)
 refine so Tryz.func72 Tryz.ntmps72 ?_
 refine cF f (fun k1 h1 f => ?_) (fun k1 h1 f => ?_)
 ·exact rt [.tmp 4] f
 exact rt [.tmp 4] f
theorem ZJf (a0 : Zg) (a1 : Int) : Sa 47 [a0.row, rI a1] [rI (Xe a0 a1)] := by
 have f := me (Xe.eq_1 a0 a1)
 refine so Tryz.func47 Tryz.ntmps47 ?_
 refine cRs (ZLJ a0.Yx a1) ?_
 refine cF f (fun k1 h1 f => ?_) (fun k1 h1 f => ?_)
 ·exact rt [.tmp 4] f
 refine cRs (jb a0.Xl (QA a0.Yx a1)) ?_
 refine cF f (fun k2 h2 f => ?_) (fun k2 h2 f => ?_)
 ·exact rt [.tmp 4] f
 exact rt [.tmp 4] f
theorem ZPb (a0 : ZB) (a1 : Int) : Sa 135 [a0.row, rI a1] [rI (jZ a0 a1)] := by
 have f := me (jZ.eq_1 a0 a1)
 refine so Tryz.func135 Tryz.ntmps135 ?_
 refine cRs (jb a0.Zb a1) ?_
 refine cF f (fun k1 h1 f => ?_) (fun k1 h1 f => ?_)
 ·exact rt [.tmp 4] f
 exact rt [.tmp 4] f
theorem ZM3 (a0 : List ZB) (a1 : Int) : Sa 93 [rL 3 ZB.row a0, rI a1] [rI (Qc a0 a1)] := by
 have f := me (Qc.eq_1 a0 a1)
 refine so Tryz.func93 Tryz.ntmps93 ?_
 refine cF f (fun k1 h1 f => ?_) (fun k1 h1 f => ?_)
 ·exact rt [.tmp 4] f
 refine lp2 (kC.eq_2 a0) (fun v1_0 v1_1 => Yc 27 [eL 0 3 a0 ZB.row, eI 1 v1_0, eI 5 (↑v1_1 : Int)]) (fun n1 v1_0 v1_1 => a0.length < n1 + v1_1 ∧ v1_1 ≤ a0.length) (a0.length + 1) (W (a1 - (↑a0.length : Int))) 0 (fun p1 v1_0 v1_1 e1 j1 => ?_)
 refine cFf e1 (fun k3 h2 e1 => ?_) (fun k3 h2 e1 => ?_)
 ·have i1 := ix h2
  have m2 := ml a0 (k3 0 _ rfl)
  have w1 := wr v1_1
  simp [i1, ZA]
  repeat with_reducible refine sd ?_
  refine cRs (ZPb (nth a0 v1_1) v1_0) ?_
  refine cF e1 (fun k4 h3 e1 => ?_) (fun k4 h3 e1 => ?_)
  ·have f := ms f e1
   exact rt [.tmp 4] f
  exact ny2 w1 e1
 have f := ms f e1
 exact rt [.tmp 4] f
theorem ZPm (a0 : List XG) (a1 : Int) : Sa 169 [rL 2 XG.row a0, rI a1] [rI (JR a0 a1)] := by
 have f := me (JR.eq_1 a0 a1)
 refine so Tryz.func169 Tryz.ntmps169 ?_
 refine cF f (fun k1 h1 f => ?_) (fun k1 h1 f => ?_)
 ·exact rt [.tmp 4] f
 exact rt [.tmp 4] f
theorem ZM7 (a0 : List Za) (a1 : Int) : Sa 170 [rL 5 Za.row a0, rI a1] [rI (xO a0 a1)] := by
 have f := me (xO.eq_1 a0 a1)
 refine so Tryz.func170 Tryz.ntmps170 ?_
 refine cF f (fun k1 h1 f => ?_) (fun k1 h1 f => ?_)
 ·exact rt [.tmp 4] f
 exact rt [.tmp 4] f
theorem ZMX (a0 : ZS) (a1 : Int) : Sa 136 [a0.row, rI a1] [rI (yQ a0 a1)] := by
 have f := me (yQ.eq_1 a0 a1)
 refine so Tryz.func136 Tryz.ntmps136 ?_
 refine cRs (ZPm a0.Path a1) ?_
 refine cF f (fun k1 h1 f => ?_) (fun k1 h1 f => ?_)
 ·exact rt [.tmp 4] f
 refine cRs (ZM7 a0.Zi (JR a0.Path a1)) ?_
 refine cF f (fun k2 h2 f => ?_) (fun k2 h2 f => ?_)
 ·exact rt [.tmp 4] f
 exact rt [.tmp 4] f
theorem ZJg (a0 : List ZS) (a1 : Int) : Sa 94 [rL 5 ZS.row a0, rI a1] [rI (Kx a0 a1)] := by
 have f := me (Kx.eq_1 a0 a1)
 refine so Tryz.func94 Tryz.ntmps94 ?_
 refine cF f (fun k1 h1 f => ?_) (fun k1 h1 f => ?_)
 ·exact rt [.tmp 4] f
 refine lp2 (xv.eq_2 a0) (fun v1_0 v1_1 => Yc 27 [eL 0 5 a0 ZS.row, eI 1 v1_0, eI 5 (↑v1_1 : Int)]) (fun n1 v1_0 v1_1 => a0.length < n1 + v1_1 ∧ v1_1 ≤ a0.length) (a0.length + 1) (W (a1 - (↑a0.length : Int))) 0 (fun p1 v1_0 v1_1 e1 j1 => ?_)
 refine cFf e1 (fun k3 h2 e1 => ?_) (fun k3 h2 e1 => ?_)
 ·have i1 := ix h2
  have m2 := ml a0 (k3 0 _ rfl)
  have w1 := wr v1_1
  simp [i1, ZA]
  repeat with_reducible refine sd ?_
  refine cRs (ZMX (nth a0 v1_1) v1_0) ?_
  refine cF e1 (fun k4 h3 e1 => ?_) (fun k4 h3 e1 => ?_)
  ·have f := ms f e1
   exact rt [.tmp 4] f
  exact ny2 w1 e1
 have f := ms f e1
 exact rt [.tmp 4] f
theorem ZNM (a0 : ZN) (a1 : Int) : Sa 48 [a0.row, rI a1] [rI (zK a0 a1)] := by
 have f := me (zK.eq_1 a0 a1)
 refine so Tryz.func48 Tryz.ntmps48 ?_
 refine cRs (ZM3 a0.ZZ a1) ?_
 refine cF f (fun k1 h1 f => ?_) (fun k1 h1 f => ?_)
 ·exact rt [.tmp 4] f
 refine cRs (ZJg a0.ZR (Qc a0.ZZ a1)) ?_
 refine cF f (fun k2 h2 f => ?_) (fun k2 h2 f => ?_)
 ·exact rt [.tmp 4] f
 exact rt [.tmp 4] f
theorem ZI4 (a0 : Z3) (a1 : Int) : Sa 12 [a0.row, rI a1] [rI (xY a0 a1)] := by
 have f := me (xY.eq_1 a0 a1)
 refine so Tryz.func12 Tryz.ntmps12 ?_
 refine cRs (ZJf a0.Doc a1) ?_
 refine cF f (fun k1 h1 f => ?_) (fun k1 h1 f => ?_)
 ·exact rt [.tmp 4] f
 refine cRs (ZNM a0.Y7 (Xe a0.Doc a1)) ?_
 refine cF f (fun k2 h2 f => ?_) (fun k2 h2 f => ?_)
 ·exact rt [.tmp 4] f
 exact rt [.tmp 4] f
theorem ZRT (a0 : YC) : Sa 99 [a0.row] [(ZKq a0).row] := by
 have f := me (ZKq.eq_1 a0)
 refine so Tryz.func99 Tryz.ntmps99 ?_
 exact rt [.cell 2 146] f
theorem ZQd (a0 : YC) : Sa 99 [a0.row] [a0.row] := by
  have h := ZRT a0
  rwa [YV] at h
theorem ZQh (a0 : List YC) (u0 : Sm 2338816 a0) : Sd 52 [rL 5 YC.row a0] [rL 5 YC.row (ZLu a0)] := by
 have f := me (ZLu.eq_1 a0)
 have c1 := sl 2338816 a0 u0
 refine soD Tryz.func52 Tryz.ntmps52 ?_
 refine lp2 (ZD8.eq_2 a0) (fun v1_0 v1_1 => Yc 23 [eL 0 5 a0 YC.row, (3, .one (.sref 7 0 0 v1_1.length), []), eI 4 (↑v1_0 : Int), (7, .any, [.arr false 5 (v1_1.map YC.row)])]) (fun n1 v1_0 v1_1 => a0.length < n1 + v1_0 ∧ v1_0 ≤ a0.length ∧ v1_1.length = a0.length) (a0.length + 1) 0 (List.replicate a0.length (YC.mk 0 0 0 0 0)) (fun p1 v1_0 v1_1 e1 j1 => ?_)
 refine cFf e1 (fun k2 h1 e1 => ?_) (fun k2 h1 e1 => ?_)
 ·have i1 := ix h1
  have m2 := ml a0 (k2 0 _ rfl)
  have w1 := wr v1_0
  simp [i1, ZA]
  repeat with_reducible refine sd ?_
  refine cR (ZQd (nth a0 v1_0)) ?_
  have i2 := ik v1_0 v1_1
  simp [i2, ZA, qw (x := (nth a0 v1_0)) rfl]
  repeat with_reducible refine sd ?_
  exact ny2 w1 e1
 have f := ms f e1
 exact rtD [.tmp 2] f
theorem ZOt (a0 : List YC) (u0 : Sm 2338816 a0) : Sd 52 [rL 5 YC.row a0] [rL 5 YC.row a0] := by
  have h := ZQh a0 u0
  rwa [YK] at h
theorem ZIr (a0 : ZE) : Sa 100 [a0.row] [(ZAD a0).row] := by
 have f := me (ZAD.eq_1 a0)
 refine so Tryz.func100 Tryz.ntmps100 ?_
 exact rt [.cell 2 150] f
theorem ZHW (a0 : ZE) : Sa 100 [a0.row] [a0.row] := by
  have h := ZIr a0
  rwa [Zf] at h
theorem ZHX (a0 : List ZE) (u0 : Sm 2338816 a0) : Sd 53 [rL 3 ZE.row a0] [rL 3 ZE.row (ZBi a0)] := by
 have f := me (ZBi.eq_1 a0)
 have c1 := sl 2338816 a0 u0
 refine soD Tryz.func53 Tryz.ntmps53 ?_
 refine lp2 (qF.eq_2 a0) (fun v1_0 v1_1 => Yc 23 [eL 0 3 a0 ZE.row, (3, .one (.sref 7 0 0 v1_1.length), []), eI 4 (↑v1_0 : Int), (7, .any, [.arr false 3 (v1_1.map ZE.row)])]) (fun n1 v1_0 v1_1 => a0.length < n1 + v1_0 ∧ v1_0 ≤ a0.length ∧ v1_1.length = a0.length) (a0.length + 1) 0 (List.replicate a0.length (ZE.mk 0 0 0)) (fun p1 v1_0 v1_1 e1 j1 => ?_)
 refine cFf e1 (fun k2 h1 e1 => ?_) (fun k2 h1 e1 => ?_)
 ·have i1 := ix h1
  have m2 := ml a0 (k2 0 _ rfl)
  have w1 := wr v1_0
  simp [i1, ZA]
  repeat with_reducible refine sd ?_
  refine cR (ZHW (nth a0 v1_0)) ?_
  have i2 := ik v1_0 v1_1
  simp [i2, ZA, qw (x := (nth a0 v1_0)) rfl]
  repeat with_reducible refine sd ?_
  exact ny2 w1 e1
 have f := ms f e1
 exact rtD [.tmp 2] f
theorem ZGr (a0 : List ZE) (u0 : Sm 2338816 a0) : Sd 53 [rL 3 ZE.row a0] [rL 3 ZE.row a0] := by
  have h := ZHX a0 u0
  rwa [Zd] at h
theorem ZMp (a0 : Zl) : Sa 101 [a0.row] [(ZEW a0).row] := by
 have f := me (ZEW.eq_1 a0)
 refine so Tryz.func101 Tryz.ntmps101 ?_
 exact rt [.cell 2 154] f
theorem ZLy (a0 : Zl) : Sa 101 [a0.row] [a0.row] := by
  have h := ZMp a0
  rwa [Zp] at h
theorem ZKy (a0 : List Zl) (u0 : Sm 2338816 a0) : Sd 54 [rL 4 Zl.row a0] [rL 4 Zl.row (ZE0 a0)] := by
 have f := me (ZE0.eq_1 a0)
 have c1 := sl 2338816 a0 u0
 refine soD Tryz.func54 Tryz.ntmps54 ?_
 refine lp2 (ZAH.eq_2 a0) (fun v1_0 v1_1 => Yc 23 [eL 0 4 a0 Zl.row, (3, .one (.sref 7 0 0 v1_1.length), []), eI 4 (↑v1_0 : Int), (7, .any, [.arr false 4 (v1_1.map Zl.row)])]) (fun n1 v1_0 v1_1 => a0.length < n1 + v1_0 ∧ v1_0 ≤ a0.length ∧ v1_1.length = a0.length) (a0.length + 1) 0 (List.replicate a0.length (Zl.mk 0 0 0 0)) (fun p1 v1_0 v1_1 e1 j1 => ?_)
 refine cFf e1 (fun k2 h1 e1 => ?_) (fun k2 h1 e1 => ?_)
 ·have i1 := ix h1
  have m2 := ml a0 (k2 0 _ rfl)
  have w1 := wr v1_0
  simp [i1, ZA]
  repeat with_reducible refine sd ?_
  refine cR (ZLy (nth a0 v1_0)) ?_
  have i2 := ik v1_0 v1_1
  simp [i2, ZA, qw (x := (nth a0 v1_0)) rfl]
  repeat with_reducible refine sd ?_
  exact ny2 w1 e1
 have f := ms f e1
 exact rtD [.tmp 2] f
theorem ZJz (a0 : List Zl) (u0 : Sm 2338816 a0) : Sd 54 [rL 4 Zl.row a0] [rL 4 Zl.row a0] := by
  have h := ZKy a0 u0
  rwa [Zn] at h
theorem ZPC (a0 : ZF) (u0 : Sm 2334720 a0) : Sd 14 [a0.row] [(ZF5 a0).row] := by
 have f := me (ZF5.eq_1 a0)
 refine soD Tryz.func14 Tryz.ntmps14 ?_
 refine cDs [false] (ZOt a0.Y3 (sg (ZF.Ym u0))) ?_
 refine cDs [false] (ZGr a0.ZT (sg (ZF.Qf u0))) ?_
 refine cDs [false] (ZJz a0.Methods (sg (ZF.YS u0))) ?_
 exact rtD [.cell 2 46] f
theorem zF (a0 : ZF) (u0 : Sm 2334720 a0) : Sd 14 [a0.row] [a0.row] := by
  have h := ZPC a0 u0
  rwa [Z7] at h
theorem ZK0 (a0 : List ByteArray) (u0 : Sm 2342912 a0) : Sd 102 [rL 1 sR a0] [rL 1 sR (ZFw a0)] := by
 have f := me (ZFw.eq_1 a0)
 have c1 := sl 2342912 a0 u0
 refine soD Tryz.func102 Tryz.ntmps102 ?_
 refine lp2 (ZAC.eq_2 a0) (fun v1_0 v1_1 => Yc 22 [eL 0 1 a0 sR, (3, .one (.sref 7 0 0 v1_1.length), []), eI 4 (↑v1_0 : Int), (7, .any, [.arr false 1 (v1_1.map sR)])]) (fun n1 v1_0 v1_1 => a0.length < n1 + v1_0 ∧ v1_0 ≤ a0.length ∧ v1_1.length = a0.length) (a0.length + 1) 0 (List.replicate a0.length (⟨#[]⟩ : ByteArray)) (fun p1 v1_0 v1_1 e1 j1 => ?_)
 refine cFf e1 (fun k2 h1 e1 => ?_) (fun k2 h1 e1 => ?_)
 ·have i1 := ix h1
  have m2 := ml a0 (k2 0 _ rfl)
  have w1 := wr v1_0
  have i2 := ik v1_0 v1_1
  simp [i1, ZA, i2, qw (x := (nth a0 v1_0)) rfl]
  repeat with_reducible refine sd ?_
  exact ny2 w1 e1
 have f := ms f e1
 exact rtD [.tmp 2] f
theorem ZKB (a0 : List ByteArray) (u0 : Sm 2342912 a0) : Sd 102 [rL 1 sR a0] [rL 1 sR a0] := by
  have h := ZK0 a0 u0
  rwa [Zm] at h
theorem ZQi (a0 : List Int) (u0 : Sm 2342912 a0) : Sd 76 [rL 1 iR a0] [rL 1 iR (ZLo a0)] := by
 have f := me (ZLo.eq_1 a0)
 have c1 := sl 2342912 a0 u0
 refine soD Tryz.func76 Tryz.ntmps76 ?_
 refine lp2 (ZD5.eq_2 a0) (fun v1_0 v1_1 => Yc 22 [eL 0 1 a0 iR, (3, .one (.sref 7 0 0 v1_1.length), []), eI 4 (↑v1_0 : Int), (7, .any, [.arr false 1 (v1_1.map iR)])]) (fun n1 v1_0 v1_1 => a0.length < n1 + v1_0 ∧ v1_0 ≤ a0.length ∧ v1_1.length = a0.length) (a0.length + 1) 0 (List.replicate a0.length 0) (fun p1 v1_0 v1_1 e1 j1 => ?_)
 refine cFf e1 (fun k2 h1 e1 => ?_) (fun k2 h1 e1 => ?_)
 ·have i1 := ix h1
  have m2 := ml a0 (k2 0 _ rfl)
  have w1 := wr v1_0
  have i2 := ik v1_0 v1_1
  simp [i1, ZA, i2, qw (x := (nth a0 v1_0)) rfl]
  repeat with_reducible refine sd ?_
  exact ny2 w1 e1
 have f := ms f e1
 exact rtD [.tmp 2] f
theorem qG (a0 : List Int) (u0 : Sm 2342912 a0) : Sd 76 [rL 1 iR a0] [rL 1 iR a0] := by
  have h := ZQi a0 u0
  rwa [YJ] at h
theorem ZJi (a0 : Zg) (u0 : Sm 2338816 a0) : Sd 55 [a0.row] [(ZBM a0).row] := by
 have f := me (ZBM.eq_1 a0)
 refine soD Tryz.func55 Tryz.ntmps55 ?_
 refine cDs [false] (ZKB a0.Yx (sg (Zg.ZH5 u0))) ?_
 refine cDs [false] (qG a0.Xl (sg (Zg.ZQO u0))) ?_
 exact rtD [.cell 2 48] f
theorem ZIh (a0 : Zg) (u0 : Sm 2338816 a0) : Sd 55 [a0.row] [a0.row] := by
  have h := ZJi a0 u0
  rwa [Zk] at h
theorem ZIq (a0 : ZY) : Sa 56 [a0.row] [(ZAJ a0).row] := by
 have f := me (ZAJ.eq_1 a0)
 refine so Tryz.func56 Tryz.ntmps56 ?_
 exact rt [.cell 2 49] f
theorem ZHo (a0 : ZY) : Sa 56 [a0.row] [a0.row] := by
  have h := ZIq a0
  rwa [Ze] at h
theorem ZO6 (a0 : ZB) (u0 : Sm 2338816 a0) : Sd 142 [a0.row] [(ZF2 a0).row] := by
 have f := me (ZF2.eq_1 a0)
 refine soD Tryz.func142 Tryz.ntmps142 ?_
 refine cDs [false] (qG a0.Zb (sg (ZB.ZBN u0))) ?_
 exact rtD [.cell 2 194] f
theorem ZM4 (a0 : ZB) (u0 : Sm 2338816 a0) : Sd 142 [a0.row] [a0.row] := by
  have h := ZO6 a0 u0
  rwa [Z6] at h
theorem ZNe (a0 : List ZB) (u0 : Sm 2334720 a0) : Sd 103 [rL 3 ZB.row a0] [rL 3 ZB.row (ZGi a0)] := by
 have f := me (ZGi.eq_1 a0)
 refine soD Tryz.func103 Tryz.ntmps103 ?_
 have c1 := sl 2334720 a0 u0
 refine ZVT (n := a0.length) rfl rfl rfl rfl rfl rfl (by simp) (by simp) (by simp; omega) (by omega) ?_
 simp
 refine lp2 (ZBL.eq_2 a0) (fun v1_0 v1_1 => Yc 23 [eL 0 3 a0 ZB.row, (3, .one (.sref 7 0 0 v1_1.length), []), eI 4 (↑v1_0 : Int), (7, .any, [.arr true 3 (v1_1.map ZB.row)])]) (fun n1 v1_0 v1_1 => a0.length < n1 + v1_0 ∧ v1_0 ≤ a0.length ∧ v1_1.length = a0.length) (a0.length + 1) 0 (List.replicate a0.length (ZB.mk 0 ([] : List Int) 0)) (fun p1 v1_0 v1_1 e1 j1 => ?_)
 refine cFf e1 (fun k2 h1 e1 => ?_) (fun k2 h1 e1 => ?_)
 ·have i1 := ix h1
  have m2 := ml a0 (k2 0 _ rfl)
  have w1 := wr v1_0
  simp [i1, ZA]
  repeat with_reducible refine sd ?_
  have i2 := ik v1_0 v1_1
  refine cDf i2 [true, false] (ZM4 (nth a0 v1_0) (sg (Z2 u0))) ?_
  refine ZVC (t := 7) (j := 0) (i := v1_0) (c := 0) (size := 3) (rows := (v1_1.map ZB.row)) (ds := (nth a0 v1_0).row) (L := [(20, 1)]) rfl rfl rfl rfl (by simp) (by simp) (by simp; try omega) (by simp) (by simp) (by simp) (by simp) (by simp) (by simp) ?_
  simp [qw (x := (nth a0 v1_0)) rfl, i2, ZA, jj]
  repeat with_reducible refine sd ?_
  exact ny2 w1 e1
 have f := ms f e1
 exact rtD [.tmp 2] f
theorem ZMa (a0 : List ZB) (u0 : Sm 2334720 a0) : Sd 103 [rL 3 ZB.row a0] [rL 3 ZB.row a0] := by
  have h := ZNe a0 u0
  rwa [Zq] at h
theorem ZQj (a0 : XG) : Sa 257 [a0.row] [(ZHk a0).row] := by
 have f := me (ZHk.eq_1 a0)
 refine so Tryz.func257 Tryz.ntmps257 ?_
 exact rt [.cell 2 275] f
theorem ZOT (a0 : XG) : Sa 257 [a0.row] [a0.row] := by
  have h := ZQj a0
  rwa [YI] at h
theorem ZOd (a0 : List XG) (u0 : Sm 2338816 a0) : Sd 191 [rL 2 XG.row a0] [rL 2 XG.row (ZIc a0)] := by
 have f := me (ZIc.eq_1 a0)
 have c1 := sl 2338816 a0 u0
 refine soD Tryz.func191 Tryz.ntmps191 ?_
 refine lp2 (ZCK.eq_2 a0) (fun v1_0 v1_1 => Yc 23 [eL 0 2 a0 XG.row, (3, .one (.sref 7 0 0 v1_1.length), []), eI 4 (↑v1_0 : Int), (7, .any, [.arr false 2 (v1_1.map XG.row)])]) (fun n1 v1_0 v1_1 => a0.length < n1 + v1_0 ∧ v1_0 ≤ a0.length ∧ v1_1.length = a0.length) (a0.length + 1) 0 (List.replicate a0.length (XG.mk 0 false)) (fun p1 v1_0 v1_1 e1 j1 => ?_)
 refine cFf e1 (fun k2 h1 e1 => ?_) (fun k2 h1 e1 => ?_)
 ·have i1 := ix h1
  have m2 := ml a0 (k2 0 _ rfl)
  have w1 := wr v1_0
  simp [i1, ZA]
  repeat with_reducible refine sd ?_
  refine cR (ZOT (nth a0 v1_0)) ?_
  have i2 := ik v1_0 v1_1
  simp [i2, ZA, qw (x := (nth a0 v1_0)) rfl]
  repeat with_reducible refine sd ?_
  exact ny2 w1 e1
 have f := ms f e1
 exact rtD [.tmp 2] f
theorem ZMy (a0 : List XG) (u0 : Sm 2338816 a0) : Sd 191 [rL 2 XG.row a0] [rL 2 XG.row a0] := by
  have h := ZOd a0 u0
  rwa [Z4] at h
theorem ZOV (a0 : Za) : Sa 258 [a0.row] [(ZF0 a0).row] := by
 have f := me (ZF0.eq_1 a0)
 refine so Tryz.func258 Tryz.ntmps258 ?_
 exact rt [.cell 2 279] f
theorem ZMw (a0 : Za) : Sa 258 [a0.row] [a0.row] := by
  have h := ZOV a0
  rwa [Z8] at h
theorem ZM1 (a0 : List Za) (u0 : Sm 2338816 a0) : Sd 192 [rL 5 Za.row a0] [rL 5 Za.row (ZGm a0)] := by
 have f := me (ZGm.eq_1 a0)
 have c1 := sl 2338816 a0 u0
 refine soD Tryz.func192 Tryz.ntmps192 ?_
 refine lp2 (ZBP.eq_2 a0) (fun v1_0 v1_1 => Yc 23 [eL 0 5 a0 Za.row, (3, .one (.sref 7 0 0 v1_1.length), []), eI 4 (↑v1_0 : Int), (7, .any, [.arr false 5 (v1_1.map Za.row)])]) (fun n1 v1_0 v1_1 => a0.length < n1 + v1_0 ∧ v1_0 ≤ a0.length ∧ v1_1.length = a0.length) (a0.length + 1) 0 (List.replicate a0.length (Za.mk 0 0 0 0 0)) (fun p1 v1_0 v1_1 e1 j1 => ?_)
 refine cFf e1 (fun k2 h1 e1 => ?_) (fun k2 h1 e1 => ?_)
 ·have i1 := ix h1
  have m2 := ml a0 (k2 0 _ rfl)
  have w1 := wr v1_0
  simp [i1, ZA]
  repeat with_reducible refine sd ?_
  refine cR (ZMw (nth a0 v1_0)) ?_
  have i2 := ik v1_0 v1_1
  simp [i2, ZA, qw (x := (nth a0 v1_0)) rfl]
  repeat with_reducible refine sd ?_
  exact ny2 w1 e1
 have f := ms f e1
 exact rtD [.tmp 2] f
theorem ZMD (a0 : List Za) (u0 : Sm 2338816 a0) : Sd 192 [rL 5 Za.row a0] [rL 5 Za.row a0] := by
  have h := ZM1 a0 u0
  rwa [Zr] at h
theorem ZLV (a0 : ZS) (u0 : Sm 2334720 a0) : Sd 143 [a0.row] [(ZCJ a0).row] := by
 have f := me (ZCJ.eq_1 a0)
 refine soD Tryz.func143 Tryz.ntmps143 ?_
 refine cDs [false] (ZMy a0.Path (sg (ZS.ZVA u0))) ?_
 refine cDs [false] (ZMD a0.Zi (sg (ZS.ZF3 u0))) ?_
 exact rtD [.cell 2 199] f
theorem ZKP (a0 : ZS) (u0 : Sm 2334720 a0) : Sd 143 [a0.row] [a0.row] := by
  have h := ZLV a0 u0
  rwa [Zo] at h
theorem ZJX (a0 : List ZS) (u0 : Sm 2330624 a0) : Sd 104 [rL 5 ZS.row a0] [rL 5 ZS.row (ZD1 a0)] := by
 have f := me (ZD1.eq_1 a0)
 refine soD Tryz.func104 Tryz.ntmps104 ?_
 have c1 := sl 2330624 a0 u0
 refine ZVT (n := a0.length) rfl rfl rfl rfl rfl rfl (by simp) (by simp) (by simp; omega) (by omega) ?_
 simp
 refine lp2 (kI.eq_2 a0) (fun v1_0 v1_1 => Yc 23 [eL 0 5 a0 ZS.row, (3, .one (.sref 7 0 0 v1_1.length), []), eI 4 (↑v1_0 : Int), (7, .any, [.arr true 5 (v1_1.map ZS.row)])]) (fun n1 v1_0 v1_1 => a0.length < n1 + v1_0 ∧ v1_0 ≤ a0.length ∧ v1_1.length = a0.length) (a0.length + 1) 0 (List.replicate a0.length (ZS.mk 0 0 0 ([] : List XG) ([] : List Za))) (fun p1 v1_0 v1_1 e1 j1 => ?_)
 refine cFf e1 (fun k2 h1 e1 => ?_) (fun k2 h1 e1 => ?_)
 ·have i1 := ix h1
  have m2 := ml a0 (k2 0 _ rfl)
  have w1 := wr v1_0
  simp [i1, ZA]
  repeat with_reducible refine sd ?_
  have i2 := ik v1_0 v1_1
  refine cDf i2 [true, true, true, false, false] (ZKP (nth a0 v1_0) (sg (Z2 u0))) ?_
  refine ZVC (t := 7) (j := 0) (i := v1_0) (c := 0) (size := 5) (rows := (v1_1.map ZS.row)) (ds := (nth a0 v1_0).row) (L := [(20, 3), (20, 4)]) rfl rfl rfl rfl (by simp) (by simp) (by simp; try omega) (by simp) (by simp) (by simp) (by simp) (by simp) (by simp) ?_
  simp [qw (x := (nth a0 v1_0)) rfl, i2, ZA, jj]
  repeat with_reducible refine sd ?_
  exact ny2 w1 e1
 have f := ms f e1
 exact rtD [.tmp 2] f
theorem ZIL (a0 : List ZS) (u0 : Sm 2330624 a0) : Sd 104 [rL 5 ZS.row a0] [rL 5 ZS.row a0] := by
  have h := ZJX a0 u0
  rwa [Zj] at h
theorem ZMs (a0 : ZN) (u0 : Sm 2326528 a0) : Sd 57 [a0.row] [(ZDu a0).row] := by
 have f := me (ZDu.eq_1 a0)
 refine soD Tryz.func57 Tryz.ntmps57 ?_
 refine cDs [] (ZMa a0.ZZ (sg (ZN.Y4 u0))) ?_
 refine cDs [] (ZIL a0.ZR (sg (ZN.QG u0))) ?_
 exact rtD [.cell 2 53] f
theorem ZMB (a0 : ZN) (u0 : Sm 2326528 a0) : Sd 57 [a0.row] [a0.row] := by
  have h := ZMs a0 u0
  rwa [Zs] at h
theorem ZQI (a0 : Z3) (u0 : Sm 2322432 a0) : Sd 15 [a0.row] [(ZH8 a0).row] := by
 have f := me (ZH8.eq_1 a0)
 refine soD Tryz.func15 Tryz.ntmps15 ?_
 refine cDs [true, false, false] (ZIh a0.Doc (sg (Z3.ZAz u0))) ?_
 refine cRs (ZHo a0.Sig) ?_
 refine cDs [] (ZMB a0.Y7 (sg (Z3.XZ u0))) ?_
 exact rtD [.cell 2 55] f
theorem ZBF (a0 : Z3) (u0 : Sm 2322432 a0) : Sd 15 [a0.row] [a0.row] := by
  have h := ZQI a0 u0
  rwa [YL] at h
theorem ZRg (a0 : YC) (a1 : YC) : Sa 109 [a0.row, a1.row] [rB (ZF6 a0 a1)] := by
 have f := me (ZF6.eq_1 a0 a1)
 refine so Tryz.func109 Tryz.ntmps109 ?_
 refine cF f (fun k1 h1 f => ?_) (fun k1 h1 f => ?_)
 ·exact rt [.tmp 4] f
 refine cF f (fun k2 h2 f => ?_) (fun k2 h2 f => ?_)
 ·exact rt [.tmp 4] f
 refine cF f (fun k3 h3 f => ?_) (fun k3 h3 f => ?_)
 ·exact rt [.tmp 4] f
 refine cF f (fun k4 h4 f => ?_) (fun k4 h4 f => ?_)
 ·exact rt [.tmp 4] f
 refine cF f (fun k5 h5 f => ?_) (fun k5 h5 f => ?_)
 ·exact rt [.tmp 4] f
 exact rt [.tmp 4] f
theorem ZQ7 (a0 : List YC) (a1 : List YC) : Sa 61 [rL 5 YC.row a0, rL 5 YC.row a1] [rB (ZFi a0 a1)] := by
 have f := me (ZFi.eq_1 a0 a1)
 refine so Tryz.func61 Tryz.ntmps61 ?_
 refine cF f (fun k1 h1 f => ?_) (fun k1 h1 f => ?_)
 ·exact rt [.tmp 4] f
 refine lp1 (ZEK.eq_2 a0 a1) (fun v1_0 => Yc 27 [eL 0 5 a0 YC.row, eL 1 5 a1 YC.row, eI 5 (↑v1_0 : Int)]) (fun n1 v1_0 => a0.length < n1 + v1_0 ∧ v1_0 ≤ a0.length) (a0.length + 1) 0 (fun p1 v1_0 e1 j1 => ?_)
 refine cF e1 (fun k3 h2 e1 => ?_) (fun k3 h2 e1 => ?_)
 ·have i1 := ix h2
  have m2 := ml a0 (k3 0 _ rfl)
  have w1 := wr v1_0
  refine dIo mixed ?_
  have i2 := ik v1_0 a1
  simp [i1, ZA, i2]
  repeat with_reducible refine sd ?_
  refine cRs (ZRg (nth a0 v1_0) (nth a1 v1_0)) ?_
  refine cF e1 (fun k5 h3 e1 => ?_) (fun k5 h3 e1 => ?_)
  ·have f := ms f e1
   exact rt [.tmp 4] f
  exact ny1 w1 e1
 have f := ms f e1
 exact rt [.tmp 4] f
theorem ZI2 (a0 : ZE) (a1 : ZE) : Sa 110 [a0.row, a1.row] [rB (y9 a0 a1)] := by
 have f := me (y9.eq_1 a0 a1)
 refine so Tryz.func110 Tryz.ntmps110 ?_
 refine cF f (fun k1 h1 f => ?_) (fun k1 h1 f => ?_)
 ·exact rt [.tmp 4] f
 refine cF f (fun k2 h2 f => ?_) (fun k2 h2 f => ?_)
 ·exact rt [.tmp 4] f
 refine cF f (fun k3 h3 f => ?_) (fun k3 h3 f => ?_)
 ·exact rt [.tmp 4] f
 exact rt [.tmp 4] f
theorem ZHp (a0 : List ZE) (a1 : List ZE) : Sa 62 [rL 3 ZE.row a0, rL 3 ZE.row a1] [rB (xN a0 a1)] := by
 have f := me (xN.eq_1 a0 a1)
 refine so Tryz.func62 Tryz.ntmps62 ?_
 refine cF f (fun k1 h1 f => ?_) (fun k1 h1 f => ?_)
 ·exact rt [.tmp 4] f
 refine lp1 (qH.eq_2 a0 a1) (fun v1_0 => Yc 27 [eL 0 3 a0 ZE.row, eL 1 3 a1 ZE.row, eI 5 (↑v1_0 : Int)]) (fun n1 v1_0 => a0.length < n1 + v1_0 ∧ v1_0 ≤ a0.length) (a0.length + 1) 0 (fun p1 v1_0 e1 j1 => ?_)
 refine cF e1 (fun k3 h2 e1 => ?_) (fun k3 h2 e1 => ?_)
 ·have i1 := ix h2
  have m2 := ml a0 (k3 0 _ rfl)
  have w1 := wr v1_0
  refine dIo mixed ?_
  have i2 := ik v1_0 a1
  simp [i1, ZA, i2]
  repeat with_reducible refine sd ?_
  refine cRs (ZI2 (nth a0 v1_0) (nth a1 v1_0)) ?_
  refine cF e1 (fun k5 h3 e1 => ?_) (fun k5 h3 e1 => ?_)
  ·have f := ms f e1
   exact rt [.tmp 4] f
  exact ny1 w1 e1
 have f := ms f e1
 exact rt [.tmp 4] f
theorem ZNa (a0 : Zl) (a1 : Zl) : Sa 111 [a0.row, a1.row] [rB (kc a0 a1)] := by
 have f := me (kc.eq_1 a0 a1)
 refine so Tryz.func111 Tryz.ntmps111 ?_
 refine cF f (fun k1 h1 f => ?_) (fun k1 h1 f => ?_)
 ·exact rt [.tmp 4] f
 refine cF f (fun k2 h2 f => ?_) (fun k2 h2 f => ?_)
 ·exact rt [.tmp 4] f
 refine cF f (fun k3 h3 f => ?_) (fun k3 h3 f => ?_)
 ·exact rt [.tmp 4] f
 refine cF f (fun k4 h4 f => ?_) (fun k4 h4 f => ?_)
 ·exact rt [.tmp 4] f
 exact rt [.tmp 4] f
theorem ZMj (a0 : List Zl) (a1 : List Zl) : Sa 63 [rL 4 Zl.row a0, rL 4 Zl.row a1] [rB (ZAm a0 a1)] := by
 have f := me (ZAm.eq_1 a0 a1)
 refine so Tryz.func63 Tryz.ntmps63 ?_
 refine cF f (fun k1 h1 f => ?_) (fun k1 h1 f => ?_)
 ·exact rt [.tmp 4] f
 refine lp1 (ZAN.eq_2 a0 a1) (fun v1_0 => Yc 27 [eL 0 4 a0 Zl.row, eL 1 4 a1 Zl.row, eI 5 (↑v1_0 : Int)]) (fun n1 v1_0 => a0.length < n1 + v1_0 ∧ v1_0 ≤ a0.length) (a0.length + 1) 0 (fun p1 v1_0 e1 j1 => ?_)
 refine cF e1 (fun k3 h2 e1 => ?_) (fun k3 h2 e1 => ?_)
 ·have i1 := ix h2
  have m2 := ml a0 (k3 0 _ rfl)
  have w1 := wr v1_0
  refine dIo mixed ?_
  have i2 := ik v1_0 a1
  simp [i1, ZA, i2]
  repeat with_reducible refine sd ?_
  refine cRs (ZNa (nth a0 v1_0) (nth a1 v1_0)) ?_
  refine cF e1 (fun k5 h3 e1 => ?_) (fun k5 h3 e1 => ?_)
  ·have f := ms f e1
   exact rt [.tmp 4] f
  exact ny1 w1 e1
 have f := ms f e1
 exact rt [.tmp 4] f
theorem ZEh (a0 : ZF) (a1 : ZF) : Sa 17 [a0.row, a1.row] [rB (km a0 a1)] := by
 have f := me (km.eq_1 a0 a1)
 refine so Tryz.func17 Tryz.ntmps17 ?_
 refine cRs (ZQ7 a0.Y3 a1.Y3) ?_
 refine cF f (fun k1 h1 f => ?_) (fun k1 h1 f => ?_)
 ·exact rt [.tmp 4] f
 refine cRs (ZHp a0.ZT a1.ZT) ?_
 refine cF f (fun k2 h2 f => ?_) (fun k2 h2 f => ?_)
 ·exact rt [.tmp 4] f
 refine cRs (ZMj a0.Methods a1.Methods) ?_
 refine cF f (fun k3 h3 f => ?_) (fun k3 h3 f => ?_)
 ·exact rt [.tmp 4] f
 refine cF f (fun k4 h4 f => ?_) (fun k4 h4 f => ?_)
 ·exact rt [.tmp 4] f
 refine cF f (fun k5 h5 f => ?_) (fun k5 h5 f => ?_)
 ·exact rt [.tmp 4] f
 exact rt [.tmp 4] f
theorem ZL7 (a0 : List ByteArray) (a1 : List ByteArray) : Sa 112 [rL 1 sR a0, rL 1 sR a1] [rB (ZAR a0 a1)] := by
 have f := me (ZAR.eq_1 a0 a1)
 refine so Tryz.func112 Tryz.ntmps112 ?_
 refine cF f (fun k1 h1 f => ?_) (fun k1 h1 f => ?_)
 ·exact rt [.tmp 4] f
 refine lp1 (ZAG.eq_2 a0 a1) (fun v1_0 => Yc 26 [eL 0 1 a0 sR, eL 1 1 a1 sR, eI 5 (↑v1_0 : Int)]) (fun n1 v1_0 => a0.length < n1 + v1_0 ∧ v1_0 ≤ a0.length) (a0.length + 1) 0 (fun p1 v1_0 e1 j1 => ?_)
 refine cF e1 (fun k3 h2 e1 => ?_) (fun k3 h2 e1 => ?_)
 ·have i1 := ix h2
  have m2 := ml a0 (k3 0 _ rfl)
  have w1 := wr v1_0
  refine dIo mixed ?_
  have i2 := ik v1_0 a1
  simp [i1, ZA, i2]
  repeat with_reducible refine sd ?_
  refine cF e1 (fun k5 h3 e1 => ?_) (fun k5 h3 e1 => ?_)
  ·have f := ms f e1
   exact rt [.tmp 4] f
  exact ny1 w1 e1
 have f := ms f e1
 exact rt [.tmp 4] f
theorem jL (a0 : List Int) (a1 : List Int) : Sa 36 [rL 1 iR a0, rL 1 iR a1] [rB (qY a0 a1)] := by
 have f := me (qY.eq_1 a0 a1)
 refine so Tryz.func36 Tryz.ntmps36 ?_
 refine cF f (fun k1 h1 f => ?_) (fun k1 h1 f => ?_)
 ·exact rt [.tmp 4] f
 refine lp1 (ZEO.eq_2 a0 a1) (fun v1_0 => Yc 26 [eL 0 1 a0 iR, eL 1 1 a1 iR, eI 5 (↑v1_0 : Int)]) (fun n1 v1_0 => a0.length < n1 + v1_0 ∧ v1_0 ≤ a0.length) (a0.length + 1) 0 (fun p1 v1_0 e1 j1 => ?_)
 refine cF e1 (fun k3 h2 e1 => ?_) (fun k3 h2 e1 => ?_)
 ·have i1 := ix h2
  have m2 := ml a0 (k3 0 _ rfl)
  have w1 := wr v1_0
  refine dIo mixed ?_
  have i2 := ik v1_0 a1
  simp [i1, ZA, i2]
  repeat with_reducible refine sd ?_
  refine cF e1 (fun k5 h3 e1 => ?_) (fun k5 h3 e1 => ?_)
  ·have f := ms f e1
   exact rt [.tmp 4] f
  exact ny1 w1 e1
 have f := ms f e1
 exact rt [.tmp 4] f
theorem ZKe (a0 : Zg) (a1 : Zg) : Sa 64 [a0.row, a1.row] [rB (jv a0 a1)] := by
 have f := me (jv.eq_1 a0 a1)
 refine so Tryz.func64 Tryz.ntmps64 ?_
 refine cF f (fun k1 h1 f => ?_) (fun k1 h1 f => ?_)
 ·exact rt [.tmp 4] f
 refine cRs (ZL7 a0.Yx a1.Yx) ?_
 refine cF f (fun k2 h2 f => ?_) (fun k2 h2 f => ?_)
 ·exact rt [.tmp 4] f
 refine cRs (jL a0.Xl a1.Xl) ?_
 refine cF f (fun k3 h3 f => ?_) (fun k3 h3 f => ?_)
 ·exact rt [.tmp 4] f
 exact rt [.tmp 4] f
theorem ZIT (a0 : ZY) (a1 : ZY) : Sa 65 [a0.row, a1.row] [rB (qm a0 a1)] := by
 have f := me (qm.eq_1 a0 a1)
 refine so Tryz.func65 Tryz.ntmps65 ?_
 refine cF f (fun k1 h1 f => ?_) (fun k1 h1 f => ?_)
 ·exact rt [.tmp 4] f
 refine cF f (fun k2 h2 f => ?_) (fun k2 h2 f => ?_)
 ·exact rt [.tmp 4] f
 refine cF f (fun k3 h3 f => ?_) (fun k3 h3 f => ?_)
 ·exact rt [.tmp 4] f
 refine cF f (fun k4 h4 f => ?_) (fun k4 h4 f => ?_)
 ·exact rt [.tmp 4] f
 refine cF f (fun k5 h5 f => ?_) (fun k5 h5 f => ?_)
 ·exact rt [.tmp 4] f
 refine cF f (fun k6 h6 f => ?_) (fun k6 h6 f => ?_)
 ·exact rt [.tmp 4] f
 refine cF f (fun k7 h7 f => ?_) (fun k7 h7 f => ?_)
 ·exact rt [.tmp 4] f
 refine cF f (fun k8 h8 f => ?_) (fun k8 h8 f => ?_)
 ·exact rt [.tmp 4] f
 refine cF f (fun k9 h9 f => ?_) (fun k9 h9 f => ?_)
 ·exact rt [.tmp 4] f
 exact rt [.tmp 4] f
theorem ZPG (a0 : ZB) (a1 : ZB) : Sa 148 [a0.row, a1.row] [rB (ZBU a0 a1)] := by
 have f := me (ZBU.eq_1 a0 a1)
 refine so Tryz.func148 Tryz.ntmps148 ?_
 refine cF f (fun k1 h1 f => ?_) (fun k1 h1 f => ?_)
 ·exact rt [.tmp 4] f
 refine cRs (jL a0.Zb a1.Zb) ?_
 refine cF f (fun k2 h2 f => ?_) (fun k2 h2 f => ?_)
 ·exact rt [.tmp 4] f
 refine cF f (fun k3 h3 f => ?_) (fun k3 h3 f => ?_)
 ·exact rt [.tmp 4] f
 exact rt [.tmp 4] f
theorem ZMr (a0 : List ZB) (a1 : List ZB) : Sa 113 [rL 3 ZB.row a0, rL 3 ZB.row a1] [rB (ZBu a0 a1)] := by
 have f := me (ZBu.eq_1 a0 a1)
 refine so Tryz.func113 Tryz.ntmps113 ?_
 refine cF f (fun k1 h1 f => ?_) (fun k1 h1 f => ?_)
 ·exact rt [.tmp 4] f
 refine lp1 (ZBK.eq_2 a0 a1) (fun v1_0 => Yc 27 [eL 0 3 a0 ZB.row, eL 1 3 a1 ZB.row, eI 5 (↑v1_0 : Int)]) (fun n1 v1_0 => a0.length < n1 + v1_0 ∧ v1_0 ≤ a0.length) (a0.length + 1) 0 (fun p1 v1_0 e1 j1 => ?_)
 refine cF e1 (fun k3 h2 e1 => ?_) (fun k3 h2 e1 => ?_)
 ·have i1 := ix h2
  have m2 := ml a0 (k3 0 _ rfl)
  have w1 := wr v1_0
  refine dIo mixed ?_
  have i2 := ik v1_0 a1
  simp [i1, ZA, i2]
  repeat with_reducible refine sd ?_
  refine cRs (ZPG (nth a0 v1_0) (nth a1 v1_0)) ?_
  refine cF e1 (fun k5 h3 e1 => ?_) (fun k5 h3 e1 => ?_)
  ·have f := ms f e1
   exact rt [.tmp 4] f
  exact ny1 w1 e1
 have f := ms f e1
 exact rt [.tmp 4] f
theorem ZQB (a0 : XG) (a1 : XG) : Sa 281 [a0.row, a1.row] [rB (ZDa a0 a1)] := by
 have f := me (ZDa.eq_1 a0 a1)
 refine so Tryz.func281 Tryz.ntmps281 ?_
 refine cF f (fun k1 h1 f => ?_) (fun k1 h1 f => ?_)
 ·exact rt [.tmp 4] f
 refine cF f (fun k2 h2 f => ?_) (fun k2 h2 f => ?_)
 ·exact rt [.tmp 4] f
 exact rt [.tmp 4] f
theorem ZPA (a0 : List XG) (a1 : List XG) : Sa 216 [rL 2 XG.row a0, rL 2 XG.row a1] [rB (ZDp a0 a1)] := by
 have f := me (ZDp.eq_1 a0 a1)
 refine so Tryz.func216 Tryz.ntmps216 ?_
 refine cF f (fun k1 h1 f => ?_) (fun k1 h1 f => ?_)
 ·exact rt [.tmp 4] f
 refine lp1 (ZCn.eq_2 a0 a1) (fun v1_0 => Yc 27 [eL 0 2 a0 XG.row, eL 1 2 a1 XG.row, eI 5 (↑v1_0 : Int)]) (fun n1 v1_0 => a0.length < n1 + v1_0 ∧ v1_0 ≤ a0.length) (a0.length + 1) 0 (fun p1 v1_0 e1 j1 => ?_)
 refine cF e1 (fun k3 h2 e1 => ?_) (fun k3 h2 e1 => ?_)
 ·have i1 := ix h2
  have m2 := ml a0 (k3 0 _ rfl)
  have w1 := wr v1_0
  refine dIo mixed ?_
  have i2 := ik v1_0 a1
  simp [i1, ZA, i2]
  repeat with_reducible refine sd ?_
  refine cRs (ZQB (nth a0 v1_0) (nth a1 v1_0)) ?_
  refine cF e1 (fun k5 h3 e1 => ?_) (fun k5 h3 e1 => ?_)
  ·have f := ms f e1
   exact rt [.tmp 4] f
  exact ny1 w1 e1
 have f := ms f e1
 exact rt [.tmp 4] f
theorem ZOh (a0 : Za) (a1 : Za) : Sa 282 [a0.row, a1.row] [rB (ZBS a0 a1)] := by
 have f := me (ZBS.eq_1 a0 a1)
 refine so Tryz.func282 Tryz.ntmps282 ?_
 refine cF f (fun k1 h1 f => ?_) (fun k1 h1 f => ?_)
 ·exact rt [.tmp 4] f
 refine cF f (fun k2 h2 f => ?_) (fun k2 h2 f => ?_)
 ·exact rt [.tmp 4] f
 refine cF f (fun k3 h3 f => ?_) (fun k3 h3 f => ?_)
 ·exact rt [.tmp 4] f
 refine cF f (fun k4 h4 f => ?_) (fun k4 h4 f => ?_)
 ·exact rt [.tmp 4] f
 refine cF f (fun k5 h5 f => ?_) (fun k5 h5 f => ?_)
 ·exact rt [.tmp 4] f
 exact rt [.tmp 4] f
theorem ZM2 (a0 : List Za) (a1 : List Za) : Sa 217 [rL 5 Za.row a0, rL 5 Za.row a1] [rB (ZB6 a0 a1)] := by
 have f := me (ZB6.eq_1 a0 a1)
 refine so Tryz.func217 Tryz.ntmps217 ?_
 refine cF f (fun k1 h1 f => ?_) (fun k1 h1 f => ?_)
 ·exact rt [.tmp 4] f
 refine lp1 (ZBG.eq_2 a0 a1) (fun v1_0 => Yc 27 [eL 0 5 a0 Za.row, eL 1 5 a1 Za.row, eI 5 (↑v1_0 : Int)]) (fun n1 v1_0 => a0.length < n1 + v1_0 ∧ v1_0 ≤ a0.length) (a0.length + 1) 0 (fun p1 v1_0 e1 j1 => ?_)
 refine cF e1 (fun k3 h2 e1 => ?_) (fun k3 h2 e1 => ?_)
 ·have i1 := ix h2
  have m2 := ml a0 (k3 0 _ rfl)
  have w1 := wr v1_0
  refine dIo mixed ?_
  have i2 := ik v1_0 a1
  simp [i1, ZA, i2]
  repeat with_reducible refine sd ?_
  refine cRs (ZOh (nth a0 v1_0) (nth a1 v1_0)) ?_
  refine cF e1 (fun k5 h3 e1 => ?_) (fun k5 h3 e1 => ?_)
  ·have f := ms f e1
   exact rt [.tmp 4] f
  exact ny1 w1 e1
 have f := ms f e1
 exact rt [.tmp 4] f
theorem ZLW (a0 : ZS) (a1 : ZS) : Sa 149 [a0.row, a1.row] [rB (jd a0 a1)] := by
 have f := me (jd.eq_1 a0 a1)
 refine so Tryz.func149 Tryz.ntmps149 ?_
 refine cF f (fun k1 h1 f => ?_) (fun k1 h1 f => ?_)
 ·exact rt [.tmp 4] f
 refine cF f (fun k2 h2 f => ?_) (fun k2 h2 f => ?_)
 ·exact rt [.tmp 4] f
 refine cF f (fun k3 h3 f => ?_) (fun k3 h3 f => ?_)
 ·exact rt [.tmp 4] f
 refine cRs (ZPA a0.Path a1.Path) ?_
 refine cF f (fun k4 h4 f => ?_) (fun k4 h4 f => ?_)
 ·exact rt [.tmp 4] f
 refine cRs (ZM2 a0.Zi a1.Zi) ?_
 refine cF f (fun k5 h5 f => ?_) (fun k5 h5 f => ?_)
 ·exact rt [.tmp 4] f
 exact rt [.tmp 4] f
theorem ZJw (a0 : List ZS) (a1 : List ZS) : Sa 114 [rL 5 ZS.row a0, rL 5 ZS.row a1] [rB (kB a0 a1)] := by
 have f := me (kB.eq_1 a0 a1)
 refine so Tryz.func114 Tryz.ntmps114 ?_
 refine cF f (fun k1 h1 f => ?_) (fun k1 h1 f => ?_)
 ·exact rt [.tmp 4] f
 refine lp1 (kM.eq_2 a0 a1) (fun v1_0 => Yc 27 [eL 0 5 a0 ZS.row, eL 1 5 a1 ZS.row, eI 5 (↑v1_0 : Int)]) (fun n1 v1_0 => a0.length < n1 + v1_0 ∧ v1_0 ≤ a0.length) (a0.length + 1) 0 (fun p1 v1_0 e1 j1 => ?_)
 refine cF e1 (fun k3 h2 e1 => ?_) (fun k3 h2 e1 => ?_)
 ·have i1 := ix h2
  have m2 := ml a0 (k3 0 _ rfl)
  have w1 := wr v1_0
  refine dIo mixed ?_
  have i2 := ik v1_0 a1
  simp [i1, ZA, i2]
  repeat with_reducible refine sd ?_
  refine cRs (ZLW (nth a0 v1_0) (nth a1 v1_0)) ?_
  refine cF e1 (fun k5 h3 e1 => ?_) (fun k5 h3 e1 => ?_)
  ·have f := ms f e1
   exact rt [.tmp 4] f
  exact ny1 w1 e1
 have f := ms f e1
 exact rt [.tmp 4] f
theorem ZNm (a0 : ZN) (a1 : ZN) : Sa 66 [a0.row, a1.row] [rB (ZBb a0 a1)] := by
 have f := me (ZBb.eq_1 a0 a1)
 refine so Tryz.func66 Tryz.ntmps66 ?_
 refine cRs (ZMr a0.ZZ a1.ZZ) ?_
 refine cF f (fun k1 h1 f => ?_) (fun k1 h1 f => ?_)
 ·exact rt [.tmp 4] f
 refine cRs (ZJw a0.ZR a1.ZR) ?_
 refine cF f (fun k2 h2 f => ?_) (fun k2 h2 f => ?_)
 ·exact rt [.tmp 4] f
 exact rt [.tmp 4] f
theorem ZJT (a0 : Z3) (a1 : Z3) : Sa 18 [a0.row, a1.row] [rB (ZCF a0 a1)] := by
 have f := me (ZCF.eq_1 a0 a1)
 refine so Tryz.func18 Tryz.ntmps18 ?_
 refine cF f (fun k1 h1 f => ?_) (fun k1 h1 f => ?_)
 ·exact rt [.tmp 4] f
 refine cF f (fun k2 h2 f => ?_) (fun k2 h2 f => ?_)
 ·exact rt [.tmp 4] f
 refine cRs (ZKe a0.Doc a1.Doc) ?_
 refine cF f (fun k3 h3 f => ?_) (fun k3 h3 f => ?_)
 ·exact rt [.tmp 4] f
 refine cRs (ZIT a0.Sig a1.Sig) ?_
 refine cF f (fun k4 h4 f => ?_) (fun k4 h4 f => ?_)
 ·exact rt [.tmp 4] f
 refine cRs (ZNm a0.Y7 a1.Y7) ?_
 refine cF f (fun k5 h5 f => ?_) (fun k5 h5 f => ?_)
 ·exact rt [.tmp 4] f
 exact rt [.tmp 4] f
theorem ZPR (a0 : List Z3) (a1 : Int) : Sa 67 [rL 16 Z3.row a0, rI a1] [rI (Ko a0 a1)] := by
 have f := me (Ko.eq_1 a0 a1)
 refine so Tryz.func67 Tryz.ntmps67 ?_
 refine cF f (fun k1 h1 f => ?_) (fun k1 h1 f => ?_)
 ·exact rt [.tmp 4] f
 refine lp2 (jh.eq_2 a0) (fun v1_0 v1_1 => Yc 27 [eL 0 16 a0 Z3.row, eI 1 v1_0, eI 5 (↑v1_1 : Int)]) (fun n1 v1_0 v1_1 => a0.length < n1 + v1_1 ∧ v1_1 ≤ a0.length) (a0.length + 1) (W (a1 - (↑a0.length : Int))) 0 (fun p1 v1_0 v1_1 e1 j1 => ?_)
 refine cFf e1 (fun k3 h2 e1 => ?_) (fun k3 h2 e1 => ?_)
 ·have i1 := ix h2
  have m2 := ml a0 (k3 0 _ rfl)
  have w1 := wr v1_1
  simp [i1, ZA]
  repeat with_reducible refine sd ?_
  refine cRs (ZI4 (nth a0 v1_1) v1_0) ?_
  refine cF e1 (fun k4 h3 e1 => ?_) (fun k4 h3 e1 => ?_)
  ·have f := ms f e1
   exact rt [.tmp 4] f
  exact ny2 w1 e1
 have f := ms f e1
 exact rt [.tmp 4] f
theorem ZFD (a0 : Zc) (a1 : Int) : Sa 19 [a0.row, rI a1] [rI (Qn a0 a1)] := by
 have f := me (Qn.eq_1 a0 a1)
 refine so Tryz.func19 Tryz.ntmps19 ?_
 refine cRs (ZPR a0.Z5 a1) ?_
 refine cF f (fun k1 h1 f => ?_) (fun k1 h1 f => ?_)
 ·exact rt [.tmp 4] f
 exact rt [.tmp 4] f
theorem ZOU (a0 : List Z3) (u0 : Sm 2318336 a0) : Sd 68 [rL 16 Z3.row a0] [rL 16 Z3.row (ZID a0)] := by
 have f := me (ZID.eq_1 a0)
 refine soD Tryz.func68 Tryz.ntmps68 ?_
 have c1 := sl 2318336 a0 u0
 refine ZVT (n := a0.length) rfl rfl rfl rfl rfl rfl (by simp) (by simp) (by simp; omega) (by omega) ?_
 simp
 refine lp2 (ZCa.eq_2 a0) (fun v1_0 v1_1 => Yc 23 [eL 0 16 a0 Z3.row, (3, .one (.sref 7 0 0 v1_1.length), []), eI 4 (↑v1_0 : Int), (7, .any, [.arr true 16 (v1_1.map Z3.row)])]) (fun n1 v1_0 v1_1 => a0.length < n1 + v1_0 ∧ v1_0 ≤ a0.length ∧ v1_1.length = a0.length) (a0.length + 1) 0 (List.replicate a0.length (Z3.mk 0 0 (Zg.mk 0 ([] : List ByteArray) ([] : List Int)) (ZY.mk 0 0 0 0 0 0 0 0 0) (ZN.mk ([] : List ZB) ([] : List ZS)))) (fun p1 v1_0 v1_1 e1 j1 => ?_)
 refine cFf e1 (fun k2 h1 e1 => ?_) (fun k2 h1 e1 => ?_)
 ·have i1 := ix h1
  have m2 := ml a0 (k2 0 _ rfl)
  have w1 := wr v1_0
  simp [i1, ZA]
  repeat with_reducible refine sd ?_
  have i2 := ik v1_0 v1_1
  refine cDf i2 [true, true, true, false, false] (ZBF (nth a0 v1_0) (sg (Z2 u0))) ?_
  refine ZVC (t := 7) (j := 0) (i := v1_0) (c := 0) (size := 16) (rows := (v1_1.map Z3.row)) (ds := (nth a0 v1_0).row) (L := [(20, 3), (20, 4), (20, 14), (20, 15)]) rfl rfl rfl rfl (by simp) (by simp) (by simp; try omega) (by simp) (by simp) (by simp) (by simp) (by simp) (by simp) ?_
  simp [qw (x := (nth a0 v1_0)) rfl, i2, ZA, jj]
  repeat with_reducible refine sd ?_
  exact ny2 w1 e1
 have f := ms f e1
 exact rtD [.tmp 2] f
theorem ZND (a0 : List Z3) (u0 : Sm 2318336 a0) : Sd 68 [rL 16 Z3.row a0] [rL 16 Z3.row a0] := by
  have h := ZOU a0 u0
  rwa [YY] at h
theorem ZLj (a0 : Zc) (u0 : Sm 2314240 a0) : Sd 21 [a0.row] [(ZCP a0).row] := by
 have f := me (ZCP.eq_1 a0)
 refine soD Tryz.func21 Tryz.ntmps21 ?_
 refine cDs [] (ZND a0.Z5 (sg (Zc.qt u0))) ?_
 exact rtD [.cell 2 67] f
theorem qx (a0 : Zc) (u0 : Sm 2314240 a0) : Sd 21 [a0.row] [a0.row] := by
  have h := ZLj a0 u0
  rwa [YF] at h
theorem ZPM (a0 : List Z3) (a1 : List Z3) : Sa 70 [rL 16 Z3.row a0, rL 16 Z3.row a1] [rB (ZDR a0 a1)] := by
 have f := me (ZDR.eq_1 a0 a1)
 refine so Tryz.func70 Tryz.ntmps70 ?_
 refine cF f (fun k1 h1 f => ?_) (fun k1 h1 f => ?_)
 ·exact rt [.tmp 4] f
 refine lp1 (ZCk.eq_2 a0 a1) (fun v1_0 => Yc 27 [eL 0 16 a0 Z3.row, eL 1 16 a1 Z3.row, eI 5 (↑v1_0 : Int)]) (fun n1 v1_0 => a0.length < n1 + v1_0 ∧ v1_0 ≤ a0.length) (a0.length + 1) 0 (fun p1 v1_0 e1 j1 => ?_)
 refine cF e1 (fun k3 h2 e1 => ?_) (fun k3 h2 e1 => ?_)
 ·have i1 := ix h2
  have m2 := ml a0 (k3 0 _ rfl)
  have w1 := wr v1_0
  refine dIo mixed ?_
  have i2 := ik v1_0 a1
  simp [i1, ZA, i2]
  repeat with_reducible refine sd ?_
  refine cRs (ZJT (nth a0 v1_0) (nth a1 v1_0)) ?_
  refine cF e1 (fun k5 h3 e1 => ?_) (fun k5 h3 e1 => ?_)
  ·have f := ms f e1
   exact rt [.tmp 4] f
  exact ny1 w1 e1
 have f := ms f e1
 exact rt [.tmp 4] f
theorem ZFm (a0 : Zc) (a1 : Zc) : Sa 23 [a0.row, a1.row] [rB (xn a0 a1)] := by
 have f := me (xn.eq_1 a0 a1)
 refine so Tryz.func23 Tryz.ntmps23 ?_
 refine cF f (fun k1 h1 f => ?_) (fun k1 h1 f => ?_)
 ·exact rt [.tmp 4] f
 refine cRs (ZPM a0.Z5 a1.Z5) ?_
 refine cF f (fun k2 h2 f => ?_) (fun k2 h2 f => ?_)
 ·exact rt [.tmp 4] f
 exact rt [.tmp 4] f
theorem ZO8 (a0 : List YH) (a1 : Int) : Sa 71 [rL 7 YH.row a0, rI a1] [rI (YW a0 a1)] := by
 have f := me (YW.eq_1 a0 a1)
 refine so Tryz.func71 Tryz.ntmps71 ?_
 refine cF f (fun k1 h1 f => ?_) (fun k1 h1 f => ?_)
 ·exact rt [.tmp 4] f
 exact rt [.tmp 4] f
theorem ZKU (a0 : List Zc) (a1 : Int) : Sa 73 [rL 2 Zc.row a0, rI a1] [rI (Ya a0 a1)] := by
 have f := me (Ya.eq_1 a0 a1)
 refine so Tryz.func73 Tryz.ntmps73 ?_
 refine cF f (fun k1 h1 f => ?_) (fun k1 h1 f => ?_)
 ·exact rt [.tmp 4] f
 refine lp2 (yD.eq_2 a0) (fun v1_0 v1_1 => Yc 27 [eL 0 2 a0 Zc.row, eI 1 v1_0, eI 5 (↑v1_1 : Int)]) (fun n1 v1_0 v1_1 => a0.length < n1 + v1_1 ∧ v1_1 ≤ a0.length) (a0.length + 1) (W (a1 - (↑a0.length : Int))) 0 (fun p1 v1_0 v1_1 e1 j1 => ?_)
 refine cFf e1 (fun k3 h2 e1 => ?_) (fun k3 h2 e1 => ?_)
 ·have i1 := ix h2
  have m2 := ml a0 (k3 0 _ rfl)
  have w1 := wr v1_1
  simp [i1, ZA]
  repeat with_reducible refine sd ?_
  refine cRs (ZFD (nth a0 v1_1) v1_0) ?_
  refine cF e1 (fun k4 h3 e1 => ?_) (fun k4 h3 e1 => ?_)
  ·have f := ms f e1
   exact rt [.tmp 4] f
  exact ny2 w1 e1
 have f := ms f e1
 exact rt [.tmp 4] f
theorem ZEE (a0 : YD) (a1 : Int) : Sa 24 [a0.row, rI a1] [rI (Qx a0 a1)] := by
 have f := me (Qx.eq_1 a0 a1)
 refine so Tryz.func24 Tryz.ntmps24 ?_
 refine cRs (ZED a0.Frame a1) ?_
 refine cF f (fun k1 h1 f => ?_) (fun k1 h1 f => ?_)
 ·exact rt [.tmp 4] f
 refine cRs (ZO8 a0.Xg (Zx a0.Frame a1)) ?_
 refine cF f (fun k2 h2 f => ?_) (fun k2 h2 f => ?_)
 ·exact rt [.tmp 4] f
 refine cRs (jb a0.XH (YW a0.Xg (Zx a0.Frame a1))) ?_
 refine cF f (fun k3 h3 f => ?_) (fun k3 h3 f => ?_)
 ·exact rt [.tmp 4] f
 refine cRs (ZKU a0.ZH (Zv a0.XH (YW a0.Xg (Zx a0.Frame a1)))) ?_
 refine cF f (fun k4 h4 f => ?_) (fun k4 h4 f => ?_)
 ·exact rt [.tmp 4] f
 refine cRs (jb a0.kX (Ya a0.ZH (Zv a0.XH (YW a0.Xg (Zx a0.Frame a1))))) ?_
 refine cF f (fun k5 h5 f => ?_) (fun k5 h5 f => ?_)
 ·exact rt [.tmp 4] f
 refine cRs (jb a0.xU (Zv a0.kX (Ya a0.ZH (Zv a0.XH (YW a0.Xg (Zx a0.Frame a1)))))) ?_
 refine cF f (fun k6 h6 f => ?_) (fun k6 h6 f => ?_)
 ·exact rt [.tmp 4] f
 refine cRs (jb a0.KW (Zv a0.xU (Zv a0.kX (Ya a0.ZH (Zv a0.XH (YW a0.Xg (Zx a0.Frame a1))))))) ?_
 refine cF f (fun k7 h7 f => ?_) (fun k7 h7 f => ?_)
 ·exact rt [.tmp 4] f
 exact rt [.tmp 4] f
theorem ZRA (a0 : YH) : Sa 116 [a0.row] [(ZHv a0).row] := by
 have f := me (ZHv.eq_1 a0)
 refine so Tryz.func116 Tryz.ntmps116 ?_
 exact rt [.cell 2 168] f
theorem ZPY (a0 : YH) : Sa 116 [a0.row] [a0.row] := by
  have h := ZRA a0
  rwa [XO] at h
theorem ZOi (a0 : List YH) (u0 : Sm 2338816 a0) : Sd 75 [rL 7 YH.row a0] [rL 7 YH.row (ZIH a0)] := by
 have f := me (ZIH.eq_1 a0)
 have c1 := sl 2338816 a0 u0
 refine soD Tryz.func75 Tryz.ntmps75 ?_
 refine lp2 (ZCe.eq_2 a0) (fun v1_0 v1_1 => Yc 23 [eL 0 7 a0 YH.row, (3, .one (.sref 7 0 0 v1_1.length), []), eI 4 (↑v1_0 : Int), (7, .any, [.arr false 7 (v1_1.map YH.row)])]) (fun n1 v1_0 v1_1 => a0.length < n1 + v1_0 ∧ v1_0 ≤ a0.length ∧ v1_1.length = a0.length) (a0.length + 1) 0 (List.replicate a0.length (YH.mk 0 0 0 0 0 0 0)) (fun p1 v1_0 v1_1 e1 j1 => ?_)
 refine cFf e1 (fun k2 h1 e1 => ?_) (fun k2 h1 e1 => ?_)
 ·have i1 := ix h1
  have m2 := ml a0 (k2 0 _ rfl)
  have w1 := wr v1_0
  simp [i1, ZA]
  repeat with_reducible refine sd ?_
  refine cR (ZPY (nth a0 v1_0)) ?_
  have i2 := ik v1_0 v1_1
  simp [i2, ZA, qw (x := (nth a0 v1_0)) rfl]
  repeat with_reducible refine sd ?_
  exact ny2 w1 e1
 have f := ms f e1
 exact rtD [.tmp 2] f
theorem ZNb (a0 : List YH) (u0 : Sm 2338816 a0) : Sd 75 [rL 7 YH.row a0] [rL 7 YH.row a0] := by
  have h := ZOi a0 u0
  rwa [XD] at h
theorem ZJx (a0 : List Zc) (u0 : Sm 2310144 a0) : Sd 77 [rL 2 Zc.row a0] [rL 2 Zc.row (ZD9 a0)] := by
 have f := me (ZD9.eq_1 a0)
 refine soD Tryz.func77 Tryz.ntmps77 ?_
 have c1 := sl 2310144 a0 u0
 refine ZVT (n := a0.length) rfl rfl rfl rfl rfl rfl (by simp) (by simp) (by simp; omega) (by omega) ?_
 simp
 refine lp2 (jn.eq_2 a0) (fun v1_0 v1_1 => Yc 23 [eL 0 2 a0 Zc.row, (3, .one (.sref 7 0 0 v1_1.length), []), eI 4 (↑v1_0 : Int), (7, .any, [.arr true 2 (v1_1.map Zc.row)])]) (fun n1 v1_0 v1_1 => a0.length < n1 + v1_0 ∧ v1_0 ≤ a0.length ∧ v1_1.length = a0.length) (a0.length + 1) 0 (List.replicate a0.length (Zc.mk 0 ([] : List Z3))) (fun p1 v1_0 v1_1 e1 j1 => ?_)
 refine cFf e1 (fun k2 h1 e1 => ?_) (fun k2 h1 e1 => ?_)
 ·have i1 := ix h1
  have m2 := ml a0 (k2 0 _ rfl)
  have w1 := wr v1_0
  simp [i1, ZA]
  repeat with_reducible refine sd ?_
  have i2 := ik v1_0 v1_1
  refine cDf i2 [] (qx (nth a0 v1_0) (sg (Z2 u0))) ?_
  refine ZVC (t := 7) (j := 0) (i := v1_0) (c := 0) (size := 2) (rows := (v1_1.map Zc.row)) (ds := (nth a0 v1_0).row) (L := [(20, 1)]) rfl rfl rfl rfl (by simp) (by simp) (by simp; try omega) (by simp) (by simp) (by simp) (by simp) (by simp) (by simp) ?_
  simp [qw (x := (nth a0 v1_0)) rfl, i2, ZA, jj]
  repeat with_reducible refine sd ?_
  exact ny2 w1 e1
 have f := ms f e1
 exact rtD [.tmp 2] f
theorem ZIJ (a0 : List Zc) (u0 : Sm 2310144 a0) : Sd 77 [rL 2 Zc.row a0] [rL 2 Zc.row a0] := by
  have h := ZJx a0 u0
  rwa [Yk] at h
theorem ZPP (a0 : YD) (u0 : Sm 2306048 a0) : Sd 26 [a0.row] [(ZF8 a0).row] := by
 have f := me (ZF8.eq_1 a0)
 refine soD Tryz.func26 Tryz.ntmps26 ?_
 refine cDs [false, false, false] (zF a0.Frame (sg (YD.ZMi u0))) ?_
 refine cDs [false] (ZNb a0.Xg (sg (YD.ZTn u0))) ?_
 refine cDs [false] (qG a0.XH (sg (YD.ZUI u0))) ?_
 refine cDs [] (ZIJ a0.ZH (sg (YD.ZCm u0))) ?_
 refine cDs [false] (qG a0.kX (sg (YD.ZVb u0))) ?_
 refine cDs [false] (qG a0.xU (sg (YD.ZTi u0))) ?_
 refine cDs [false] (qG a0.KW (sg (YD.ZTN u0))) ?_
 exact rtD [.cell 2 84] f
theorem JI (a0 : YD) (u0 : Sm 2306048 a0) : Sd 26 [a0.row] [a0.row] := by
  have h := ZPP a0 u0
  rwa [XE] at h
theorem ZQe (a0 : ZD) (a1 : ZD) : Sa 79 [a0.row, a1.row] [rB (ZE9 a0 a1)] := by
 have f := me (ZE9.eq_1 a0 a1)
 refine so Tryz.func79 Tryz.ntmps79 ?_
 refine cF f (fun k1 h1 f => ?_) (fun k1 h1 f => ?_)
 ·exact rt [.tmp 4] f
 refine cF f (fun k2 h2 f => ?_) (fun k2 h2 f => ?_)
 ·exact rt [.tmp 4] f
 exact rt [.tmp 4] f
theorem ZLG (a0 : Yf) (a1 : Yf) : Sa 28 [a0.row, a1.row] [rB (ZAQ a0 a1)] := by
 have f := me (ZAQ.eq_1 a0 a1)
 refine so Tryz.func28 Tryz.ntmps28 ?_
 refine cF f (fun k1 h1 f => ?_) (fun k1 h1 f => ?_)
 ·exact rt [.tmp 4] f
 refine cF f (fun k2 h2 f => ?_) (fun k2 h2 f => ?_)
 ·exact rt [.tmp 4] f
 refine cRs (ZQe a0.Span a1.Span) ?_
 refine cF f (fun k3 h3 f => ?_) (fun k3 h3 f => ?_)
 ·exact rt [.tmp 4] f
 exact rt [.tmp 4] f
theorem ZQ2 (a0 : YH) (a1 : YH) : Sa 118 [a0.row, a1.row] [rB (ZDs a0 a1)] := by
 have f := me (ZDs.eq_1 a0 a1)
 refine so Tryz.func118 Tryz.ntmps118 ?_
 refine cF f (fun k1 h1 f => ?_) (fun k1 h1 f => ?_)
 ·exact rt [.tmp 4] f
 refine cF f (fun k2 h2 f => ?_) (fun k2 h2 f => ?_)
 ·exact rt [.tmp 4] f
 refine cF f (fun k3 h3 f => ?_) (fun k3 h3 f => ?_)
 ·exact rt [.tmp 4] f
 refine cF f (fun k4 h4 f => ?_) (fun k4 h4 f => ?_)
 ·exact rt [.tmp 4] f
 refine cF f (fun k5 h5 f => ?_) (fun k5 h5 f => ?_)
 ·exact rt [.tmp 4] f
 refine cF f (fun k6 h6 f => ?_) (fun k6 h6 f => ?_)
 ·exact rt [.tmp 4] f
 refine cF f (fun k7 h7 f => ?_) (fun k7 h7 f => ?_)
 ·exact rt [.tmp 4] f
 exact rt [.tmp 4] f
theorem ZPD (a0 : List YH) (a1 : List YH) : Sa 80 [rL 7 YH.row a0, rL 7 YH.row a1] [rB (ZDl a0 a1)] := by
 have f := me (ZDl.eq_1 a0 a1)
 refine so Tryz.func80 Tryz.ntmps80 ?_
 refine cF f (fun k1 h1 f => ?_) (fun k1 h1 f => ?_)
 ·exact rt [.tmp 4] f
 refine lp1 (ZCN.eq_2 a0 a1) (fun v1_0 => Yc 27 [eL 0 7 a0 YH.row, eL 1 7 a1 YH.row, eI 5 (↑v1_0 : Int)]) (fun n1 v1_0 => a0.length < n1 + v1_0 ∧ v1_0 ≤ a0.length) (a0.length + 1) 0 (fun p1 v1_0 e1 j1 => ?_)
 refine cF e1 (fun k3 h2 e1 => ?_) (fun k3 h2 e1 => ?_)
 ·have i1 := ix h2
  have m2 := ml a0 (k3 0 _ rfl)
  have w1 := wr v1_0
  refine dIo mixed ?_
  have i2 := ik v1_0 a1
  simp [i1, ZA, i2]
  repeat with_reducible refine sd ?_
  refine cRs (ZQ2 (nth a0 v1_0) (nth a1 v1_0)) ?_
  refine cF e1 (fun k5 h3 e1 => ?_) (fun k5 h3 e1 => ?_)
  ·have f := ms f e1
   exact rt [.tmp 4] f
  exact ny1 w1 e1
 have f := ms f e1
 exact rt [.tmp 4] f
theorem ZJ7 (a0 : List Zc) (a1 : List Zc) : Sa 81 [rL 2 Zc.row a0, rL 2 Zc.row a1] [rB (kR a0 a1)] := by
 have f := me (kR.eq_1 a0 a1)
 refine so Tryz.func81 Tryz.ntmps81 ?_
 refine cF f (fun k1 h1 f => ?_) (fun k1 h1 f => ?_)
 ·exact rt [.tmp 4] f
 refine lp1 (kH.eq_2 a0 a1) (fun v1_0 => Yc 27 [eL 0 2 a0 Zc.row, eL 1 2 a1 Zc.row, eI 5 (↑v1_0 : Int)]) (fun n1 v1_0 => a0.length < n1 + v1_0 ∧ v1_0 ≤ a0.length) (a0.length + 1) 0 (fun p1 v1_0 e1 j1 => ?_)
 refine cF e1 (fun k3 h2 e1 => ?_) (fun k3 h2 e1 => ?_)
 ·have i1 := ix h2
  have m2 := ml a0 (k3 0 _ rfl)
  have w1 := wr v1_0
  refine dIo mixed ?_
  have i2 := ik v1_0 a1
  simp [i1, ZA, i2]
  repeat with_reducible refine sd ?_
  refine cRs (ZFm (nth a0 v1_0) (nth a1 v1_0)) ?_
  refine cF e1 (fun k5 h3 e1 => ?_) (fun k5 h3 e1 => ?_)
  ·have f := ms f e1
   exact rt [.tmp 4] f
  exact ny1 w1 e1
 have f := ms f e1
 exact rt [.tmp 4] f
theorem ZEB (a0 : YD) (a1 : YD) : Sa 29 [a0.row, a1.row] [rB (kb a0 a1)] := by
 have f := me (kb.eq_1 a0 a1)
 refine so Tryz.func29 Tryz.ntmps29 ?_
 refine cRs (ZEh a0.Frame a1.Frame) ?_
 refine cF f (fun k1 h1 f => ?_) (fun k1 h1 f => ?_)
 ·exact rt [.tmp 4] f
 refine cRs (ZPD a0.Xg a1.Xg) ?_
 refine cF f (fun k2 h2 f => ?_) (fun k2 h2 f => ?_)
 ·exact rt [.tmp 4] f
 refine cRs (jL a0.XH a1.XH) ?_
 refine cF f (fun k3 h3 f => ?_) (fun k3 h3 f => ?_)
 ·exact rt [.tmp 4] f
 refine cRs (ZJ7 a0.ZH a1.ZH) ?_
 refine cF f (fun k4 h4 f => ?_) (fun k4 h4 f => ?_)
 ·exact rt [.tmp 4] f
 refine cRs (jL a0.kX a1.kX) ?_
 refine cF f (fun k5 h5 f => ?_) (fun k5 h5 f => ?_)
 ·exact rt [.tmp 4] f
 refine cRs (jL a0.xU a1.xU) ?_
 refine cF f (fun k6 h6 f => ?_) (fun k6 h6 f => ?_)
 ·exact rt [.tmp 4] f
 refine cF f (fun k7 h7 f => ?_) (fun k7 h7 f => ?_)
 ·exact rt [.tmp 4] f
 refine cRs (jL a0.KW a1.KW) ?_
 refine cF f (fun k8 h8 f => ?_) (fun k8 h8 f => ?_)
 ·exact rt [.tmp 4] f
 exact rt [.tmp 4] f
end Go.Proofs.YtfhmpplolpejnaaGreat
