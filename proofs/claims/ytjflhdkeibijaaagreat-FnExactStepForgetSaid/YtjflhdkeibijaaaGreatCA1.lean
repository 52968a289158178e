/- Contracts of the functions SD the abstract machine, part A1. No condition. -/
import Derived.Test.YtjflhdkeibijaaaGreatL
import Derived.Test.YtjflhdkeibijaaaGreatTy
namespace Go.Proofs.YtjflhdkeibijaaaGreat
open Go.Vm Go.Mo
set_option maxHeartbeats 1000000
set_option maxRecDepth 100000
set_option linter.unusedSimpArgs false
set_option linter.unusedVariables false
theorem I6 (a0 : List YG) (a1 : Int) : Sa 75 [rL 5 YG.row a0, rI a1] [rI (Xx a0 a1)] := by
 have f := me (Xx.eq_1 a0 a1)
 refine so Tryz.func75 Tryz.ntmps75 ?_
 refine cF f ?_ ?_ <;> intro k1 h1 f
 ·exact rt [.tmp 4] f
 exact rt [.tmp 4] f
theorem U8 (a0 : List ZJ) (a1 : Int) : Sa 76 [rL 3 ZJ.row a0, rI a1] [rI (Y9 a0 a1)] := by
 have f := me (Y9.eq_1 a0 a1)
 refine so Tryz.func76 Tryz.ntmps76 ?_
 refine cF f ?_ ?_ <;> intro k1 h1 f
 ·exact rt [.tmp 4] f
 exact rt [.tmp 4] f
theorem NU (a0 : List Zc) (a1 : Int) : Sa 77 [rL 4 Zc.row a0, rI a1] [rI (J0 a0 a1)] := by
 have f := me (J0.eq_1 a0 a1)
 refine so Tryz.func77 Tryz.ntmps77 ?_
 refine cF f ?_ ?_ <;> intro k1 h1 f
 ·exact rt [.tmp 4] f
 exact rt [.tmp 4] f
theorem IP (a0 : YF) (a1 : Int) : Sa 23 [a0.row, rI a1] [rI (Z2 a0 a1)] := by
 have f := me (Z2.eq_1 a0 a1)
 refine so Tryz.func23 Tryz.ntmps23 ?_
 refine cRs (I6 a0.YV a1) ?_
 refine cF f ?_ ?_ <;> intro k1 h1 f
 ·exact rt [.tmp 4] f
 refine cRs (U8 a0.ZC (Xx a0.YV a1)) ?_
 refine cF f ?_ ?_ <;> intro k2 h2 f
 ·exact rt [.tmp 4] f
 refine cRs (NU a0.Methods (Y9 a0.ZC (Xx a0.YV a1))) ?_
 refine cF f ?_ ?_ <;> intro k3 h3 f
 ·exact rt [.tmp 4] f
 exact rt [.tmp 4] f
theorem Ii (a0 : List Z0) (a1 : Int) : Sa 24 [rL 7 Z0.row a0, rI a1] [rI (YL a0 a1)] := by
 have f := me (YL.eq_1 a0 a1)
 refine so Tryz.func24 Tryz.ntmps24 ?_
 refine cF f ?_ ?_ <;> intro k1 h1 f
 ·exact rt [.tmp 4] f
 exact rt [.tmp 4] f
theorem z6 (a0 : List Int) (a1 : Int) : Sa 25 [rL 1 iR a0, rI a1] [rI (Zm a0 a1)] := by
 have f := me (Zm.eq_1 a0 a1)
 refine so Tryz.func25 Tryz.ntmps25 ?_
 refine cF f ?_ ?_ <;> intro k1 h1 f
 ·exact rt [.tmp 4] f
 exact rt [.tmp 4] f
theorem Oo (a0 : List ByteArray) (a1 : Int) : Sa 226 [rL 1 sR a0, rI a1] [rI (Xi a0 a1)] := by
 have f := me (Xi.eq_1 a0 a1)
 refine so Tryz.func226 Tryz.ntmps226 ?_
 refine cF f ?_ ?_ <;> intro k1 h1 f
 ·exact rt [.tmp 4] f
 refine lp2 (zJ.eq_2 a0) (fun v1_0 v1_1 => Ya 28 [eL 0 1 a0 sR, eI 1 v1_0, eI 5 (↑v1_1 : Int)]) (fun n1 v1_0 v1_1 => a0.length < n1 + v1_1 ∧ v1_1 ≤ a0.length) (a0.length + 1) (W (a1 - (↑a0.length : Int))) 0 (fun p1 v1_0 v1_1 e1 j1 => ?_)
 refine cFf e1 ?_ ?_ <;> intro k3 h2 e1
 ·have i1 := ix h2
  have m2 := ml a0 (k3 0 _ rfl)
  have w1 := wr v1_1
  simp [i1, ZD]
  repeat with_reducible refine sd ?_
  refine cF e1 ?_ ?_ <;> intro k4 h3 e1
  ·have f := ms f e1
   exact rt [.tmp 4] f
  exact ny2 w1 e1
 have f := ms f e1
 exact rt [.tmp 4] f
theorem Rk (a0 : ZV) (a1 : Int) : Sa 211 [a0.row, rI a1] [rI (XF a0 a1)] := by
 have f := me (XF.eq_1 a0 a1)
 refine so Tryz.func211 Tryz.ntmps211 ?_
 refine cRs (Oo a0.ZE a1) ?_
 refine cF f ?_ ?_ <;> intro k1 h1 f
 ·exact rt [.tmp 4] f
 refine cRs (z6 a0.ZH (Xi a0.ZE a1)) ?_
 refine cF f ?_ ?_ <;> intro k2 h2 f
 ·exact rt [.tmp 4] f
 exact rt [.tmp 4] f
theorem LR (a0 : ZN) (a1 : Int) : Sa 235 [a0.row, rI a1] [rI (z5 a0 a1)] := by
 have f := me (z5.eq_1 a0 a1)
 refine so Tryz.func235 Tryz.ntmps235 ?_
 refine cRs (z6 a0.Y7 a1) ?_
 refine cF f ?_ ?_ <;> intro k1 h1 f
 ·exact rt [.tmp 4] f
 exact rt [.tmp 4] f
theorem N4 (a0 : List ZN) (a1 : Int) : Sa 227 [rL 3 ZN.row a0, rI a1] [rI (X1 a0 a1)] := by
 have f := me (X1.eq_1 a0 a1)
 refine so Tryz.func227 Tryz.ntmps227 ?_
 refine cF f ?_ ?_ <;> intro k1 h1 f
 ·exact rt [.tmp 4] f
 refine lp2 (yQ.eq_2 a0) (fun v1_0 v1_1 => Ya 27 [eL 0 3 a0 ZN.row, eI 1 v1_0, eI 5 (↑v1_1 : Int)]) (fun n1 v1_0 v1_1 => a0.length < n1 + v1_1 ∧ v1_1 ≤ a0.length) (a0.length + 1) (W (a1 - (↑a0.length : Int))) 0 (fun p1 v1_0 v1_1 e1 j1 => ?_)
 refine cFf e1 ?_ ?_ <;> intro k3 h2 e1
 ·have i1 := ix h2
  have m2 := ml a0 (k3 0 _ rfl)
  have w1 := wr v1_1
  simp [i1, ZD]
  repeat with_reducible refine sd ?_
  refine cRs (LR (nth a0 v1_1) v1_0) ?_
  refine cF e1 ?_ ?_ <;> intro k4 h3 e1
  ·have f := ms f e1
   exact rt [.tmp 4] f
  exact ny2 w1 e1
 have f := ms f e1
 exact rt [.tmp 4] f
theorem IA (a0 : List Zk) (a1 : Int) : Sa 241 [rL 2 Zk.row a0, rI a1] [rI (QR a0 a1)] := by
 have f := me (QR.eq_1 a0 a1)
 refine so Tryz.func241 Tryz.ntmps241 ?_
 refine cF f ?_ ?_ <;> intro k1 h1 f
 ·exact rt [.tmp 4] f
 exact rt [.tmp 4] f
theorem MH (a0 : List ZQ) (a1 : Int) : Sa 242 [rL 5 ZQ.row a0, rI a1] [rI (Kn a0 a1)] := by
 have f := me (Kn.eq_1 a0 a1)
 refine so Tryz.func242 Tryz.ntmps242 ?_
 refine cF f ?_ ?_ <;> intro k1 h1 f
 ·exact rt [.tmp 4] f
 exact rt [.tmp 4] f
theorem OE (a0 : ZG) (a1 : Int) : Sa 236 [a0.row, rI a1] [rI (J3 a0 a1)] := by
 have f := me (J3.eq_1 a0 a1)
 refine so Tryz.func236 Tryz.ntmps236 ?_
 refine cRs (IA a0.Path a1) ?_
 refine cF f ?_ ?_ <;> intro k1 h1 f
 ·exact rt [.tmp 4] f
 refine cRs (MH a0.Zx (QR a0.Path a1)) ?_
 refine cF f ?_ ?_ <;> intro k2 h2 f
 ·exact rt [.tmp 4] f
 exact rt [.tmp 4] f
theorem Rl (a0 : List ZG) (a1 : Int) : Sa 228 [rL 5 ZG.row a0, rI a1] [rI (JK a0 a1)] := by
 have f := me (JK.eq_1 a0 a1)
 refine so Tryz.func228 Tryz.ntmps228 ?_
 refine cF f ?_ ?_ <;> intro k1 h1 f
 ·exact rt [.tmp 4] f
 refine lp2 (KY.eq_2 a0) (fun v1_0 v1_1 => Ya 27 [eL 0 5 a0 ZG.row, eI 1 v1_0, eI 5 (↑v1_1 : Int)]) (fun n1 v1_0 v1_1 => a0.length < n1 + v1_1 ∧ v1_1 ≤ a0.length) (a0.length + 1) (W (a1 - (↑a0.length : Int))) 0 (fun p1 v1_0 v1_1 e1 j1 => ?_)
 refine cFf e1 ?_ ?_ <;> intro k3 h2 e1
 ·have i1 := ix h2
  have m2 := ml a0 (k3 0 _ rfl)
  have w1 := wr v1_1
  simp [i1, ZD]
  repeat with_reducible refine sd ?_
  refine cRs (OE (nth a0 v1_1) v1_0) ?_
  refine cF e1 ?_ ?_ <;> intro k4 h3 e1
  ·have f := ms f e1
   exact rt [.tmp 4] f
  exact ny2 w1 e1
 have f := ms f e1
 exact rt [.tmp 4] f
theorem MB (a0 : Za) (a1 : Int) : Sa 212 [a0.row, rI a1] [rI (Jg a0 a1)] := by
 have f := me (Jg.eq_1 a0 a1)
 refine so Tryz.func212 Tryz.ntmps212 ?_
 refine cRs (N4 a0.ZO a1) ?_
 refine cF f ?_ ?_ <;> intro k1 h1 f
 ·exact rt [.tmp 4] f
 refine cRs (Rl a0.ZX (X1 a0.ZO a1)) ?_
 refine cF f ?_ ?_ <;> intro k2 h2 f
 ·exact rt [.tmp 4] f
 exact rt [.tmp 4] f
theorem Hs (a0 : ZY) (a1 : Int) : Sa 183 [a0.row, rI a1] [rI (xh a0 a1)] := by
 have f := me (xh.eq_1 a0 a1)
 refine so Tryz.func183 Tryz.ntmps183 ?_
 refine cRs (Rk a0.Doc a1) ?_
 refine cF f ?_ ?_ <;> intro k1 h1 f
 ·exact rt [.tmp 4] f
 refine cRs (MB a0.ZL (XF a0.Doc a1)) ?_
 refine cF f ?_ ?_ <;> intro k2 h2 f
 ·exact rt [.tmp 4] f
 exact rt [.tmp 4] f
theorem Li (a0 : List ZY) (a1 : Int) : Sa 140 [rL 16 ZY.row a0, rI a1] [rI (zu a0 a1)] := by
 have f := me (zu.eq_1 a0 a1)
 refine so Tryz.func140 Tryz.ntmps140 ?_
 refine cF f ?_ ?_ <;> intro k1 h1 f
 ·exact rt [.tmp 4] f
 refine lp2 (xi.eq_2 a0) (fun v1_0 v1_1 => Ya 27 [eL 0 16 a0 ZY.row, eI 1 v1_0, eI 5 (↑v1_1 : Int)]) (fun n1 v1_0 v1_1 => a0.length < n1 + v1_1 ∧ v1_1 ≤ a0.length) (a0.length + 1) (W (a1 - (↑a0.length : Int))) 0 (fun p1 v1_0 v1_1 e1 j1 => ?_)
 refine cFf e1 ?_ ?_ <;> intro k3 h2 e1
 ·have i1 := ix h2
  have m2 := ml a0 (k3 0 _ rfl)
  have w1 := wr v1_1
  simp [i1, ZD]
  repeat with_reducible refine sd ?_
  refine cRs (Hs (nth a0 v1_1) v1_0) ?_
  refine cF e1 ?_ ?_ <;> intro k4 h3 e1
  ·have f := ms f e1
   exact rt [.tmp 4] f
  exact ny2 w1 e1
 have f := ms f e1
 exact rt [.tmp 4] f
theorem OS (a0 : ZF) (a1 : Int) : Sa 78 [a0.row, rI a1] [rI (Jy a0 a1)] := by
 have f := me (Jy.eq_1 a0 a1)
 refine so Tryz.func78 Tryz.ntmps78 ?_
 refine cRs (Li a0.ZM a1) ?_
 refine cF f ?_ ?_ <;> intro k1 h1 f
 ·exact rt [.tmp 4] f
 exact rt [.tmp 4] f
theorem Rp (a0 : List ZF) (a1 : Int) : Sa 26 [rL 2 ZF.row a0, rI a1] [rI (YN a0 a1)] := by
 have f := me (YN.eq_1 a0 a1)
 refine so Tryz.func26 Tryz.ntmps26 ?_
 refine cF f ?_ ?_ <;> intro k1 h1 f
 ·exact rt [.tmp 4] f
 refine lp2 (Ke.eq_2 a0) (fun v1_0 v1_1 => Ya 27 [eL 0 2 a0 ZF.row, eI 1 v1_0, eI 5 (↑v1_1 : Int)]) (fun n1 v1_0 v1_1 => a0.length < n1 + v1_1 ∧ v1_1 ≤ a0.length) (a0.length + 1) (W (a1 - (↑a0.length : Int))) 0 (fun p1 v1_0 v1_1 e1 j1 => ?_)
 refine cFf e1 ?_ ?_ <;> intro k3 h2 e1
 ·have i1 := ix h2
  have m2 := ml a0 (k3 0 _ rfl)
  have w1 := wr v1_1
  simp [i1, ZD]
  repeat with_reducible refine sd ?_
  refine cRs (OS (nth a0 v1_1) v1_0) ?_
  refine cF e1 ?_ ?_ <;> intro k4 h3 e1
  ·have f := ms f e1
   exact rt [.tmp 4] f
  exact ny2 w1 e1
 have f := ms f e1
 exact rt [.tmp 4] f
theorem TY (a0 : ZZ) (a1 : Int) : Sa 7 [a0.row, rI a1] [rI (KM a0 a1)] := by
 have f := me (KM.eq_1 a0 a1)
 refine so Tryz.func7 Tryz.ntmps7 ?_
 refine cRs (IP a0.Frame a1) ?_
 refine cF f ?_ ?_ <;> intro k1 h1 f
 ·exact rt [.tmp 4] f
 refine cRs (Ii a0.Zy (Z2 a0.Frame a1)) ?_
 refine cF f ?_ ?_ <;> intro k2 h2 f
 ·exact rt [.tmp 4] f
 refine cRs (z6 a0.Z3 (YL a0.Zy (Z2 a0.Frame a1))) ?_
 refine cF f ?_ ?_ <;> intro k3 h3 f
 ·exact rt [.tmp 4] f
 refine cRs (Rp a0.ZI (Zm a0.Z3 (YL a0.Zy (Z2 a0.Frame a1)))) ?_
 refine cF f ?_ ?_ <;> intro k4 h4 f
 ·exact rt [.tmp 4] f
 refine cRs (z6 a0.YZ (YN a0.ZI (Zm a0.Z3 (YL a0.Zy (Z2 a0.Frame a1))))) ?_
 refine cF f ?_ ?_ <;> intro k5 h5 f
 ·exact rt [.tmp 4] f
 refine cRs (z6 a0.Yl (Zm a0.YZ (YN a0.ZI (Zm a0.Z3 (YL a0.Zy (Z2 a0.Frame a1)))))) ?_
 refine cF f ?_ ?_ <;> intro k6 h6 f
 ·exact rt [.tmp 4] f
 refine cRs (z6 a0.Ym (Zm a0.Yl (Zm a0.YZ (YN a0.ZI (Zm a0.Z3 (YL a0.Zy (Z2 a0.Frame a1))))))) ?_
 refine cF f ?_ ?_ <;> intro k7 h7 f
 ·exact rt [.tmp 4] f
 exact rt [.tmp 4] f
theorem Gz (a0 : YG) : Sa 142 [a0.row] [(PW a0).row] := by
 have f := me (PW.eq_1 a0)
 refine so Tryz.func142 Tryz.ntmps142 ?_
 exact rt [.cell 2 118] f
theorem GO (a0 : YG) : Sa 142 [a0.row] [a0.row] := by
  have h := Gz a0
  rwa [Y6] at h
theorem HW (a0 : List YG) (u0 : Sm 2338816 a0) : Sd 82 [rL 5 YG.row a0] [rL 5 YG.row (NQ a0)] := by
 have f := me (NQ.eq_1 a0)
 have c1 := sl 2338816 a0 u0
 refine soD Tryz.func82 Tryz.ntmps82 ?_
 refine lp2 (WZ.eq_2 a0) (fun v1_0 v1_1 => Ya 23 [eL 0 5 a0 YG.row, (3, .one (.sref 7 0 0 v1_1.length), []), eI 4 (↑v1_0 : Int), (7, .any, [.arr false 5 (v1_1.map YG.row)])]) (fun n1 v1_0 v1_1 => a0.length < n1 + v1_0 ∧ v1_0 ≤ a0.length ∧ v1_1.length = a0.length) (a0.length + 1) 0 (List.replicate a0.length (YG.mk 0 0 0 0 0)) (fun p1 v1_0 v1_1 e1 j1 => ?_)
 refine cFf e1 ?_ ?_ <;> intro k2 h1 e1
 ·have i1 := ix h1
  have m2 := ml a0 (k2 0 _ rfl)
  have w1 := wr v1_0
  simp [i1, ZD]
  repeat with_reducible refine sd ?_
  refine cR (GO (nth a0 v1_0)) ?_
  have i2 := ik v1_0 v1_1
  simp [i2, ZD, Zp (x := (nth a0 v1_0)) rfl]
  repeat with_reducible refine sd ?_
  exact ny2 w1 e1
 have f := ms f e1
 exact rtD [.tmp 2] f
theorem Lv (a0 : List YG) (u0 : Sm 2338816 a0) : Sd 82 [rL 5 YG.row a0] [rL 5 YG.row a0] := by
  have h := HW a0 u0
  rwa [Yt] at h
theorem SR (a0 : ZJ) : Sa 143 [a0.row] [(xe a0).row] := by
 have f := me (xe.eq_1 a0)
 refine so Tryz.func143 Tryz.ntmps143 ?_
 exact rt [.cell 2 116] f
theorem TX (a0 : ZJ) : Sa 143 [a0.row] [a0.row] := by
  have h := SR a0
  rwa [Z4] at h
theorem U3 (a0 : List ZJ) (u0 : Sm 2338816 a0) : Sd 83 [rL 3 ZJ.row a0] [rL 3 ZJ.row (jF a0)] := by
 have f := me (jF.eq_1 a0)
 have c1 := sl 2338816 a0 u0
 refine soD Tryz.func83 Tryz.ntmps83 ?_
 refine lp2 (K5.eq_2 a0) (fun v1_0 v1_1 => Ya 23 [eL 0 3 a0 ZJ.row, (3, .one (.sref 7 0 0 v1_1.length), []), eI 4 (↑v1_0 : Int), (7, .any, [.arr false 3 (v1_1.map ZJ.row)])]) (fun n1 v1_0 v1_1 => a0.length < n1 + v1_0 ∧ v1_0 ≤ a0.length ∧ v1_1.length = a0.length) (a0.length + 1) 0 (List.replicate a0.length (ZJ.mk 0 0 0)) (fun p1 v1_0 v1_1 e1 j1 => ?_)
 refine cFf e1 ?_ ?_ <;> intro k2 h1 e1
 ·have i1 := ix h1
  have m2 := ml a0 (k2 0 _ rfl)
  have w1 := wr v1_0
  simp [i1, ZD]
  repeat with_reducible refine sd ?_
  refine cR (TX (nth a0 v1_0)) ?_
  have i2 := ik v1_0 v1_1
  simp [i2, ZD, Zp (x := (nth a0 v1_0)) rfl]
  repeat with_reducible refine sd ?_
  exact ny2 w1 e1
 have f := ms f e1
 exact rtD [.tmp 2] f
theorem Ud (a0 : List ZJ) (u0 : Sm 2338816 a0) : Sd 83 [rL 3 ZJ.row a0] [rL 3 ZJ.row a0] := by
  have h := U3 a0 u0
  rwa [Zz] at h
theorem Nq (a0 : Zc) : Sa 144 [a0.row] [(WY a0).row] := by
 have f := me (WY.eq_1 a0)
 refine so Tryz.func144 Tryz.ntmps144 ?_
 exact rt [.cell 2 144] f
theorem Pn (a0 : Zc) : Sa 144 [a0.row] [a0.row] := by
  have h := Nq a0
  rwa [YS] at h
theorem Ol (a0 : List Zc) (u0 : Sm 2338816 a0) : Sd 84 [rL 4 Zc.row a0] [rL 4 Zc.row (VB a0)] := by
 have f := me (VB.eq_1 a0)
 have c1 := sl 2338816 a0 u0
 refine soD Tryz.func84 Tryz.ntmps84 ?_
 refine lp2 (xb.eq_2 a0) (fun v1_0 v1_1 => Ya 23 [eL 0 4 a0 Zc.row, (3, .one (.sref 7 0 0 v1_1.length), []), eI 4 (↑v1_0 : Int), (7, .any, [.arr false 4 (v1_1.map Zc.row)])]) (fun n1 v1_0 v1_1 => a0.length < n1 + v1_0 ∧ v1_0 ≤ a0.length ∧ v1_1.length = a0.length) (a0.length + 1) 0 (List.replicate a0.length (Zc.mk 0 0 0 0)) (fun p1 v1_0 v1_1 e1 j1 => ?_)
 refine cFf e1 ?_ ?_ <;> intro k2 h1 e1
 ·have i1 := ix h1
  have m2 := ml a0 (k2 0 _ rfl)
  have w1 := wr v1_0
  simp [i1, ZD]
  repeat with_reducible refine sd ?_
  refine cR (Pn (nth a0 v1_0)) ?_
  have i2 := ik v1_0 v1_1
  simp [i2, ZD, Zp (x := (nth a0 v1_0)) rfl]
  repeat with_reducible refine sd ?_
  exact ny2 w1 e1
 have f := ms f e1
 exact rtD [.tmp 2] f
theorem RW (a0 : List Zc) (u0 : Sm 2338816 a0) : Sd 84 [rL 4 Zc.row a0] [rL 4 Zc.row a0] := by
  have h := Ol a0 u0
  rwa [YH] at h
theorem It (a0 : YF) (u0 : Sm 2334720 a0) : Sd 30 [a0.row] [(V5 a0).row] := by
 have f := me (V5.eq_1 a0)
 refine soD Tryz.func30 Tryz.ntmps30 ?_
 refine cDs [false] (Lv a0.YV (sg (YF.WV u0))) ?_
 refine cDs [false] (Ud a0.ZC (sg (YF.Qq u0))) ?_
 refine cDs [false] (RW a0.Methods (sg (YF.OA u0))) ?_
 exact rtD [.cell 2 37] f
theorem MP (a0 : YF) (u0 : Sm 2334720 a0) : Sd 30 [a0.row] [a0.row] := by
  have h := It a0 u0
  rwa [Yg] at h
theorem Hj (a0 : Z0) : Sa 85 [a0.row] [(Tn a0).row] := by
 have f := me (Tn.eq_1 a0)
 refine so Tryz.func85 Tryz.ntmps85 ?_
 exact rt [.cell 2 133] f
theorem Ic (a0 : Z0) : Sa 85 [a0.row] [a0.row] := by
  have h := Hj a0
  rwa [Yq] at h
theorem IG (a0 : List Z0) (u0 : Sm 2338816 a0) : Sd 31 [rL 7 Z0.row a0] [rL 7 Z0.row (SE a0)] := by
 have f := me (SE.eq_1 a0)
 have c1 := sl 2338816 a0 u0
 refine soD Tryz.func31 Tryz.ntmps31 ?_
 refine lp2 (je.eq_2 a0) (fun v1_0 v1_1 => Ya 23 [eL 0 7 a0 Z0.row, (3, .one (.sref 7 0 0 v1_1.length), []), eI 4 (↑v1_0 : Int), (7, .any, [.arr false 7 (v1_1.map Z0.row)])]) (fun n1 v1_0 v1_1 => a0.length < n1 + v1_0 ∧ v1_0 ≤ a0.length ∧ v1_1.length = a0.length) (a0.length + 1) 0 (List.replicate a0.length (Z0.mk 0 0 0 0 0 0 0)) (fun p1 v1_0 v1_1 e1 j1 => ?_)
 refine cFf e1 ?_ ?_ <;> intro k2 h1 e1
 ·have i1 := ix h1
  have m2 := ml a0 (k2 0 _ rfl)
  have w1 := wr v1_0
  simp [i1, ZD]
  repeat with_reducible refine sd ?_
  refine cR (Ic (nth a0 v1_0)) ?_
  have i2 := ik v1_0 v1_1
  simp [i2, ZD, Zp (x := (nth a0 v1_0)) rfl]
  repeat with_reducible refine sd ?_
  exact ny2 w1 e1
 have f := ms f e1
 exact rtD [.tmp 2] f
theorem MJ (a0 : List Z0) (u0 : Sm 2338816 a0) : Sd 31 [rL 7 Z0.row a0] [rL 7 Z0.row a0] := by
  have h := IG a0 u0
  rwa [Yd] at h
theorem I8 (a0 : List Int) (u0 : Sm 2342912 a0) : Sd 19 [rL 1 iR a0] [rL 1 iR (O9 a0)] := by
 have f := me (O9.eq_1 a0)
 have c1 := sl 2342912 a0 u0
 refine soD Tryz.func19 Tryz.ntmps19 ?_
 refine lp2 (We.eq_2 a0) (fun v1_0 v1_1 => Ya 22 [eL 0 1 a0 iR, (3, .one (.sref 7 0 0 v1_1.length), []), eI 4 (↑v1_0 : Int), (7, .any, [.arr false 1 (v1_1.map iR)])]) (fun n1 v1_0 v1_1 => a0.length < n1 + v1_0 ∧ v1_0 ≤ a0.length ∧ v1_1.length = a0.length) (a0.length + 1) 0 (List.replicate a0.length 0) (fun p1 v1_0 v1_1 e1 j1 => ?_)
 refine cFf e1 ?_ ?_ <;> intro k2 h1 e1
 ·have i1 := ix h1
  have m2 := ml a0 (k2 0 _ rfl)
  have w1 := wr v1_0
  have i2 := ik v1_0 v1_1
  simp [i1, ZD, i2, Zp (x := (nth a0 v1_0)) rfl]
  repeat with_reducible refine sd ?_
  exact ny2 w1 e1
 have f := ms f e1
 exact rtD [.tmp 2] f
theorem QI (a0 : List Int) (u0 : Sm 2342912 a0) : Sd 19 [rL 1 iR a0] [rL 1 iR a0] := by
  have h := I8 a0 u0
  rwa [Yr] at h
theorem NX (a0 : List ByteArray) (u0 : Sm 2342912 a0) : Sd 229 [rL 1 sR a0] [rL 1 sR (VV a0)] := by
 have f := me (VV.eq_1 a0)
 have c1 := sl 2342912 a0 u0
 refine soD Tryz.func229 Tryz.ntmps229 ?_
 refine lp2 (xa.eq_2 a0) (fun v1_0 v1_1 => Ya 22 [eL 0 1 a0 sR, (3, .one (.sref 7 0 0 v1_1.length), []), eI 4 (↑v1_0 : Int), (7, .any, [.arr false 1 (v1_1.map sR)])]) (fun n1 v1_0 v1_1 => a0.length < n1 + v1_0 ∧ v1_0 ≤ a0.length ∧ v1_1.length = a0.length) (a0.length + 1) 0 (List.replicate a0.length (⟨#[]⟩ : ByteArray)) (fun p1 v1_0 v1_1 e1 j1 => ?_)
 refine cFf e1 ?_ ?_ <;> intro k2 h1 e1
 ·have i1 := ix h1
  have m2 := ml a0 (k2 0 _ rfl)
  have w1 := wr v1_0
  have i2 := ik v1_0 v1_1
  simp [i1, ZD, i2, Zp (x := (nth a0 v1_0)) rfl]
  repeat with_reducible refine sd ?_
  exact ny2 w1 e1
 have f := ms f e1
 exact rtD [.tmp 2] f
theorem RX (a0 : List ByteArray) (u0 : Sm 2342912 a0) : Sd 229 [rL 1 sR a0] [rL 1 sR a0] := by
  have h := NX a0 u0
  rwa [YK] at h
theorem PJ (a0 : ZV) (u0 : Sm 2338816 a0) : Sd 213 [a0.row] [(qP a0).row] := by
 have f := me (qP.eq_1 a0)
 refine soD Tryz.func213 Tryz.ntmps213 ?_
 refine cDs [false] (RX a0.ZE (sg (ZV.Tq u0))) ?_
 refine cDs [false] (QI a0.ZH (sg (ZV.O3 u0))) ?_
 exact rtD [.cell 2 88] f
theorem SM (a0 : ZV) (u0 : Sm 2338816 a0) : Sd 213 [a0.row] [a0.row] := by
  have h := PJ a0 u0
  rwa [YB] at h
theorem Sx (a0 : Zh) : Sa 214 [a0.row] [(xP a0).row] := by
 have f := me (xP.eq_1 a0)
 refine so Tryz.func214 Tryz.ntmps214 ?_
 exact rt [.cell 2 90] f
theorem TM (a0 : Zh) : Sa 214 [a0.row] [a0.row] := by
  have h := Sx a0
  rwa [Z5] at h
theorem IV (a0 : ZN) (u0 : Sm 2338816 a0) : Sd 237 [a0.row] [(Vs a0).row] := by
 have f := me (Vs.eq_1 a0)
 refine soD Tryz.func237 Tryz.ntmps237 ?_
 refine cDs [false] (QI a0.Y7 (sg (ZN.Fi u0))) ?_
 exact rtD [.cell 2 187] f
theorem MM (a0 : ZN) (u0 : Sm 2338816 a0) : Sd 237 [a0.row] [a0.row] := by
  have h := IV a0 u0
  rwa [Yi] at h
theorem MU (a0 : List ZN) (u0 : Sm 2334720 a0) : Sd 230 [rL 3 ZN.row a0] [rL 3 ZN.row (UU a0)] := by
 have f := me (UU.eq_1 a0)
 refine soD Tryz.func230 Tryz.ntmps230 ?_
 have c1 := sl 2334720 a0 u0
 refine CH (n := a0.length) rfl rfl rfl rfl rfl rfl (by simp) (by simp) (by simp; omega) (by omega) ?_
 simp
 refine lp2 (qV.eq_2 a0) (fun v1_0 v1_1 => Ya 23 [eL 0 3 a0 ZN.row, (3, .one (.sref 7 0 0 v1_1.length), []), eI 4 (↑v1_0 : Int), (7, .any, [.arr true 3 (v1_1.map ZN.row)])]) (fun n1 v1_0 v1_1 => a0.length < n1 + v1_0 ∧ v1_0 ≤ a0.length ∧ v1_1.length = a0.length) (a0.length + 1) 0 (List.replicate a0.length (ZN.mk 0 ([] : List Int) 0)) (fun p1 v1_0 v1_1 e1 j1 => ?_)
 refine cFf e1 ?_ ?_ <;> intro k2 h1 e1
 ·have i1 := ix h1
  have m2 := ml a0 (k2 0 _ rfl)
  have w1 := wr v1_0
  simp [i1, ZD]
  repeat with_reducible refine sd ?_
  have i2 := ik v1_0 v1_1
  refine cDf i2 [true, false] (MM (nth a0 v1_0) (sg (Xm u0))) ?_
  refine Gr (t := 7) (j := 0) (i := v1_0) (c := 0) (size := 3) (rows := (v1_1.map ZN.row)) (ds := (nth a0 v1_0).row) (L := [(20, 1)]) rfl rfl rfl rfl (by simp) (by simp) (by simp; try omega) (by simp) (by simp) (by simp) (by simp) (by simp) (by simp) ?_
  simp [Zp (x := (nth a0 v1_0)) rfl, i2, ZD, Zl]
  repeat with_reducible refine sd ?_
  exact ny2 w1 e1
 have f := ms f e1
 exact rtD [.tmp 2] f
theorem OC (a0 : List ZN) (u0 : Sm 2334720 a0) : Sd 230 [rL 3 ZN.row a0] [rL 3 ZN.row a0] := by
  have h := MU a0 u0
  rwa [YR] at h
theorem HB (a0 : Zk) : Sa 247 [a0.row] [(Ty a0).row] := by
 have f := me (Ty.eq_1 a0)
 refine so Tryz.func247 Tryz.ntmps247 ?_
 exact rt [.cell 2 189] f
theorem L9 (a0 : Zk) : Sa 247 [a0.row] [a0.row] := by
  have h := HB a0
  rwa [Yp] at h
theorem LW (a0 : List Zk) (u0 : Sm 2338816 a0) : Sd 243 [rL 2 Zk.row a0] [rL 2 Zk.row (T4 a0)] := by
 have f := me (T4.eq_1 a0)
 have c1 := sl 2338816 a0 u0
 refine soD Tryz.func243 Tryz.ntmps243 ?_
 refine lp2 (jl.eq_2 a0) (fun v1_0 v1_1 => Ya 23 [eL 0 2 a0 Zk.row, (3, .one (.sref 7 0 0 v1_1.length), []), eI 4 (↑v1_0 : Int), (7, .any, [.arr false 2 (v1_1.map Zk.row)])]) (fun n1 v1_0 v1_1 => a0.length < n1 + v1_0 ∧ v1_0 ≤ a0.length ∧ v1_1.length = a0.length) (a0.length + 1) 0 (List.replicate a0.length (Zk.mk 0 false)) (fun p1 v1_0 v1_1 e1 j1 => ?_)
 refine cFf e1 ?_ ?_ <;> intro k2 h1 e1
 ·have i1 := ix h1
  have m2 := ml a0 (k2 0 _ rfl)
  have w1 := wr v1_0
  simp [i1, ZD]
  repeat with_reducible refine sd ?_
  refine cR (L9 (nth a0 v1_0)) ?_
  have i2 := ik v1_0 v1_1
  simp [i2, ZD, Zp (x := (nth a0 v1_0)) rfl]
  repeat with_reducible refine sd ?_
  exact ny2 w1 e1
 have f := ms f e1
 exact rtD [.tmp 2] f
theorem MT (a0 : List Zk) (u0 : Sm 2338816 a0) : Sd 243 [rL 2 Zk.row a0] [rL 2 Zk.row a0] := by
  have h := LW a0 u0
  rwa [Yh] at h
theorem II (a0 : ZQ) : Sa 248 [a0.row] [(V4 a0).row] := by
 have f := me (V4.eq_1 a0)
 refine so Tryz.func248 Tryz.ntmps248 ?_
 exact rt [.cell 2 98] f
theorem Nm (a0 : ZQ) : Sa 248 [a0.row] [a0.row] := by
  have h := II a0
  rwa [Yf] at h
theorem MF (a0 : List ZQ) (u0 : Sm 2338816 a0) : Sd 244 [rL 5 ZQ.row a0] [rL 5 ZQ.row (UY a0)] := by
 have f := me (UY.eq_1 a0)
 have c1 := sl 2338816 a0 u0
 refine soD Tryz.func244 Tryz.ntmps244 ?_
 refine lp2 (qR.eq_2 a0) (fun v1_0 v1_1 => Ya 23 [eL 0 5 a0 ZQ.row, (3, .one (.sref 7 0 0 v1_1.length), []), eI 4 (↑v1_0 : Int), (7, .any, [.arr false 5 (v1_1.map ZQ.row)])]) (fun n1 v1_0 v1_1 => a0.length < n1 + v1_0 ∧ v1_0 ≤ a0.length ∧ v1_1.length = a0.length) (a0.length + 1) 0 (List.replicate a0.length (ZQ.mk 0 0 0 0 0)) (fun p1 v1_0 v1_1 e1 j1 => ?_)
 refine cFf e1 ?_ ?_ <;> intro k2 h1 e1
 ·have i1 := ix h1
  have m2 := ml a0 (k2 0 _ rfl)
  have w1 := wr v1_0
  simp [i1, ZD]
  repeat with_reducible refine sd ?_
  refine cR (Nm (nth a0 v1_0)) ?_
  have i2 := ik v1_0 v1_1
  simp [i2, ZD, Zp (x := (nth a0 v1_0)) rfl]
  repeat with_reducible refine sd ?_
  exact ny2 w1 e1
 have f := ms f e1
 exact rtD [.tmp 2] f
theorem NR (a0 : List ZQ) (u0 : Sm 2338816 a0) : Sd 244 [rL 5 ZQ.row a0] [rL 5 ZQ.row a0] := by
  have h := MF a0 u0
  rwa [YU] at h
theorem P1 (a0 : ZG) (u0 : Sm 2334720 a0) : Sd 238 [a0.row] [(jf a0).row] := by
 have f := me (jf.eq_1 a0)
 refine soD Tryz.func238 Tryz.ntmps238 ?_
 refine cDs [false] (MT a0.Path (sg (ZG.CF u0))) ?_
 refine cDs [false] (NR a0.Zx (sg (ZG.LF u0))) ?_
 exact rtD [.cell 2 96] f
theorem PL (a0 : ZG) (u0 : Sm 2334720 a0) : Sd 238 [a0.row] [a0.row] := by
  have h := P1 a0 u0
  rwa [YJ] at h
theorem Re (a0 : List ZG) (u0 : Sm 2330624 a0) : Sd 231 [rL 5 ZG.row a0] [rL 5 ZG.row (kn a0)] := by
 have f := me (kn.eq_1 a0)
 refine soD Tryz.func231 Tryz.ntmps231 ?_
 have c1 := sl 2330624 a0 u0
 refine CH (n := a0.length) rfl rfl rfl rfl rfl rfl (by simp) (by simp) (by simp; omega) (by omega) ?_
 simp
 refine lp2 (yd.eq_2 a0) (fun v1_0 v1_1 => Ya 23 [eL 0 5 a0 ZG.row, (3, .one (.sref 7 0 0 v1_1.length), []), eI 4 (↑v1_0 : Int), (7, .any, [.arr true 5 (v1_1.map ZG.row)])]) (fun n1 v1_0 v1_1 => a0.length < n1 + v1_0 ∧ v1_0 ≤ a0.length ∧ v1_1.length = a0.length) (a0.length + 1) 0 (List.replicate a0.length (ZG.mk 0 0 0 ([] : List Zk) ([] : List ZQ))) (fun p1 v1_0 v1_1 e1 j1 => ?_)
 refine cFf e1 ?_ ?_ <;> intro k2 h1 e1
 ·have i1 := ix h1
  have m2 := ml a0 (k2 0 _ rfl)
  have w1 := wr v1_0
  simp [i1, ZD]
  repeat with_reducible refine sd ?_
  have i2 := ik v1_0 v1_1
  refine cDf i2 [true, true, true, false, false] (PL (nth a0 v1_0) (sg (Xm u0))) ?_
  refine Gr (t := 7) (j := 0) (i := v1_0) (c := 0) (size := 5) (rows := (v1_1.map ZG.row)) (ds := (nth a0 v1_0).row) (L := [(20, 3), (20, 4)]) rfl rfl rfl rfl (by simp) (by simp) (by simp; try omega) (by simp) (by simp) (by simp) (by simp) (by simp) (by simp) ?_
  simp [Zp (x := (nth a0 v1_0)) rfl, i2, ZD, Zl]
  repeat with_reducible refine sd ?_
  exact ny2 w1 e1
 have f := ms f e1
 exact rtD [.tmp 2] f
theorem SW (a0 : List ZG) (u0 : Sm 2330624 a0) : Sd 231 [rL 5 ZG.row a0] [rL 5 ZG.row a0] := by
  have h := Re a0 u0
  rwa [Z9] at h
theorem MZ (a0 : Za) (u0 : Sm 2326528 a0) : Sd 215 [a0.row] [(kx a0).row] := by
 have f := me (kx.eq_1 a0)
 refine soD Tryz.func215 Tryz.ntmps215 ?_
 refine cDs [] (OC a0.ZO (sg (Za.kI u0))) ?_
 refine cDs [] (SW a0.ZX (sg (Za.xp u0))) ?_
 exact rtD [.cell 2 85] f
theorem O5 (a0 : Za) (u0 : Sm 2326528 a0) : Sd 215 [a0.row] [a0.row] := by
  have h := MZ a0 u0
  rwa [YT] at h
theorem Hy (a0 : ZY) (u0 : Sm 2322432 a0) : Sd 184 [a0.row] [(U6 a0).row] := by
 have f := me (U6.eq_1 a0)
 refine soD Tryz.func184 Tryz.ntmps184 ?_
 refine cDs [true, false, false] (SM a0.Doc (sg (ZY.SF u0))) ?_
 refine cRs (TM a0.Sig) ?_
 refine cDs [] (O5 a0.ZL (sg (ZY.KF u0))) ?_
 exact rtD [.cell 2 92] f
theorem Lb (a0 : ZY) (u0 : Sm 2322432 a0) : Sd 184 [a0.row] [a0.row] := by
  have h := Hy a0 u0
  rwa [Yo] at h
theorem Lc (a0 : List ZY) (u0 : Sm 2318336 a0) : Sd 145 [rL 16 ZY.row a0] [rL 16 ZY.row (Sw a0)] := by
 have f := me (Sw.eq_1 a0)
 refine soD Tryz.func145 Tryz.ntmps145 ?_
 have c1 := sl 2318336 a0 u0
 refine CH (n := a0.length) rfl rfl rfl rfl rfl rfl (by simp) (by simp) (by simp; omega) (by omega) ?_
 simp
 refine lp2 (jZ.eq_2 a0) (fun v1_0 v1_1 => Ya 23 [eL 0 16 a0 ZY.row, (3, .one (.sref 7 0 0 v1_1.length), []), eI 4 (↑v1_0 : Int), (7, .any, [.arr true 16 (v1_1.map ZY.row)])]) (fun n1 v1_0 v1_1 => a0.length < n1 + v1_0 ∧ v1_0 ≤ a0.length ∧ v1_1.length = a0.length) (a0.length + 1) 0 (List.replicate a0.length (ZY.mk 0 0 (ZV.mk 0 ([] : List ByteArray) ([] : List Int)) (Zh.mk 0 0 0 0 0 0 0 0 0) (Za.mk ([] : List ZN) ([] : List ZG)))) (fun p1 v1_0 v1_1 e1 j1 => ?_)
 refine cFf e1 ?_ ?_ <;> intro k2 h1 e1
 ·have i1 := ix h1
  have m2 := ml a0 (k2 0 _ rfl)
  have w1 := wr v1_0
  simp [i1, ZD]
  repeat with_reducible refine sd ?_
  have i2 := ik v1_0 v1_1
  refine cDf i2 [true, true, true, false, false] (Lb (nth a0 v1_0) (sg (Xm u0))) ?_
  refine Gr (t := 7) (j := 0) (i := v1_0) (c := 0) (size := 16) (rows := (v1_1.map ZY.row)) (ds := (nth a0 v1_0).row) (L := [(20, 3), (20, 4), (20, 14), (20, 15)]) rfl rfl rfl rfl (by simp) (by simp) (by simp; try omega) (by simp) (by simp) (by simp) (by simp) (by simp) (by simp) ?_
  simp [Zp (x := (nth a0 v1_0)) rfl, i2, ZD, Zl]
  repeat with_reducible refine sd ?_
  exact ny2 w1 e1
 have f := ms f e1
 exact rtD [.tmp 2] f
theorem MC (a0 : List ZY) (u0 : Sm 2318336 a0) : Sd 145 [rL 16 ZY.row a0] [rL 16 ZY.row a0] := by
  have h := Lc a0 u0
  rwa [Ye] at h
theorem Px (a0 : ZF) (u0 : Sm 2314240 a0) : Sd 86 [a0.row] [(jd a0).row] := by
 have f := me (jd.eq_1 a0)
 refine soD Tryz.func86 Tryz.ntmps86 ?_
 refine cDs [] (MC a0.ZM (sg (ZF.Kk u0))) ?_
 exact rtD [.cell 2 64] f
theorem R7 (a0 : ZF) (u0 : Sm 2314240 a0) : Sd 86 [a0.row] [a0.row] := by
  have h := Px a0 u0
  rwa [YI] at h
theorem Rb (a0 : List ZF) (u0 : Sm 2310144 a0) : Sd 32 [rL 2 ZF.row a0] [rL 2 ZF.row (ky a0)] := by
 have f := me (ky.eq_1 a0)
 refine soD Tryz.func32 Tryz.ntmps32 ?_
 have c1 := sl 2310144 a0 u0
 refine CH (n := a0.length) rfl rfl rfl rfl rfl rfl (by simp) (by simp) (by simp; omega) (by omega) ?_
 simp
 refine lp2 (yJ.eq_2 a0) (fun v1_0 v1_1 => Ya 23 [eL 0 2 a0 ZF.row, (3, .one (.sref 7 0 0 v1_1.length), []), eI 4 (↑v1_0 : Int), (7, .any, [.arr true 2 (v1_1.map ZF.row)])]) (fun n1 v1_0 v1_1 => a0.length < n1 + v1_0 ∧ v1_0 ≤ a0.length ∧ v1_1.length = a0.length) (a0.length + 1) 0 (List.replicate a0.length (ZF.mk 0 ([] : List ZY))) (fun p1 v1_0 v1_1 e1 j1 => ?_)
 refine cFf e1 ?_ ?_ <;> intro k2 h1 e1
 ·have i1 := ix h1
  have m2 := ml a0 (k2 0 _ rfl)
  have w1 := wr v1_0
  simp [i1, ZD]
  repeat with_reducible refine sd ?_
  have i2 := ik v1_0 v1_1
  refine cDf i2 [] (R7 (nth a0 v1_0) (sg (Xm u0))) ?_
  refine Gr (t := 7) (j := 0) (i := v1_0) (c := 0) (size := 2) (rows := (v1_1.map ZF.row)) (ds := (nth a0 v1_0).row) (L := [(20, 1)]) rfl rfl rfl rfl (by simp) (by simp) (by simp; try omega) (by simp) (by simp) (by simp) (by simp) (by simp) (by simp) ?_
  simp [Zp (x := (nth a0 v1_0)) rfl, i2, ZD, Zl]
  repeat with_reducible refine sd ?_
  exact ny2 w1 e1
 have f := ms f e1
 exact rtD [.tmp 2] f
theorem SG (a0 : List ZF) (u0 : Sm 2310144 a0) : Sd 32 [rL 2 ZF.row a0] [rL 2 ZF.row a0] := by
  have h := Rb a0 u0
  rwa [YA] at h
theorem Ig (a0 : ZZ) (u0 : Sm 2306048 a0) : Sd 9 [a0.row] [(Vt a0).row] := by
 have f := me (Vt.eq_1 a0)
 refine soD Tryz.func9 Tryz.ntmps9 ?_
 refine cDs [false, false, false] (MP a0.Frame (sg (ZZ.Qx u0))) ?_
 refine cDs [false] (MJ a0.Zy (sg (ZZ.E3 u0))) ?_
 refine cDs [false] (QI a0.Z3 (sg (ZZ.Ho u0))) ?_
 refine cDs [] (SG a0.ZI (sg (ZZ.QO u0))) ?_
 refine cDs [false] (QI a0.YZ (sg (ZZ.FT u0))) ?_
 refine cDs [false] (QI a0.Yl (sg (ZZ.Ha u0))) ?_
 refine cDs [false] (QI a0.Ym (sg (ZZ.M6 u0))) ?_
 exact rtD [.cell 2 41] f
theorem Qo (a0 : ZZ) (u0 : Sm 2306048 a0) : Sd 9 [a0.row] [a0.row] := by
  have h := Ig a0 u0
  rwa [Yc] at h
theorem FE (a0 : YG) (a1 : YG) : Sa 147 [a0.row, a1.row] [rB (Vy a0 a1)] := by
 have f := me (Vy.eq_1 a0 a1)
 refine so Tryz.func147 Tryz.ntmps147 ?_
 refine cF f ?_ ?_ <;> intro k1 h1 f
 ·exact rt [.tmp 4] f
 refine cF f ?_ ?_ <;> intro k2 h2 f
 ·exact rt [.tmp 4] f
 refine cF f ?_ ?_ <;> intro k3 h3 f
 ·exact rt [.tmp 4] f
 refine cF f ?_ ?_ <;> intro k4 h4 f
 ·exact rt [.tmp 4] f
 refine cF f ?_ ?_ <;> intro k5 h5 f
 ·exact rt [.tmp 4] f
 exact rt [.tmp 4] f
theorem HE (a0 : List YG) (a1 : List YG) : Sa 91 [rL 5 YG.row a0, rL 5 YG.row a1] [rB (VP a0 a1)] := by
 have f := me (VP.eq_1 a0 a1)
 refine so Tryz.func91 Tryz.ntmps91 ?_
 refine cF f ?_ ?_ <;> intro k1 h1 f
 ·exact rt [.tmp 4] f
 refine lp1 (Wc.eq_2 a0 a1) (fun v1_0 => Ya 27 [eL 0 5 a0 YG.row, eL 1 5 a1 YG.row, eI 5 (↑v1_0 : Int)]) (fun n1 v1_0 => a0.length < n1 + v1_0 ∧ v1_0 ≤ a0.length) (a0.length + 1) 0 (fun p1 v1_0 e1 j1 => ?_)
 refine cF e1 ?_ ?_ <;> intro k3 h2 e1
 ·have i1 := ix h2
  have m2 := ml a0 (k3 0 _ rfl)
  have w1 := wr v1_0
  refine dIo mixed ?_
  have i2 := ik v1_0 a1
  simp [i1, ZD, i2]
  repeat with_reducible refine sd ?_
  refine cRs (FE (nth a0 v1_0) (nth a1 v1_0)) ?_
  refine cF e1 ?_ ?_ <;> intro k5 h3 e1
  ·have f := ms f e1
   exact rt [.tmp 4] f
  exact ny1 w1 e1
 have f := ms f e1
 exact rt [.tmp 4] f
theorem SL (a0 : ZJ) (a1 : ZJ) : Sa 148 [a0.row, a1.row] [rB (KK a0 a1)] := by
 have f := me (KK.eq_1 a0 a1)
 refine so Tryz.func148 Tryz.ntmps148 ?_
 refine cF f ?_ ?_ <;> intro k1 h1 f
 ·exact rt [.tmp 4] f
 refine cF f ?_ ?_ <;> intro k2 h2 f
 ·exact rt [.tmp 4] f
 refine cF f ?_ ?_ <;> intro k3 h3 f
 ·exact rt [.tmp 4] f
 exact rt [.tmp 4] f
theorem U5 (a0 : List ZJ) (a1 : List ZJ) : Sa 92 [rL 3 ZJ.row a0, rL 3 ZJ.row a1] [rB (Kg a0 a1)] := by
 have f := me (Kg.eq_1 a0 a1)
 refine so Tryz.func92 Tryz.ntmps92 ?_
 refine cF f ?_ ?_ <;> intro k1 h1 f
 ·exact rt [.tmp 4] f
 refine lp1 (K7.eq_2 a0 a1) (fun v1_0 => Ya 27 [eL 0 3 a0 ZJ.row, eL 1 3 a1 ZJ.row, eI 5 (↑v1_0 : Int)]) (fun n1 v1_0 => a0.length < n1 + v1_0 ∧ v1_0 ≤ a0.length) (a0.length + 1) 0 (fun p1 v1_0 e1 j1 => ?_)
 refine cF e1 ?_ ?_ <;> intro k3 h2 e1
 ·have i1 := ix h2
  have m2 := ml a0 (k3 0 _ rfl)
  have w1 := wr v1_0
  refine dIo mixed ?_
  have i2 := ik v1_0 a1
  simp [i1, ZD, i2]
  repeat with_reducible refine sd ?_
  refine cRs (SL (nth a0 v1_0) (nth a1 v1_0)) ?_
  refine cF e1 ?_ ?_ <;> intro k5 h3 e1
  ·have f := ms f e1
   exact rt [.tmp 4] f
  exact ny1 w1 e1
 have f := ms f e1
 exact rt [.tmp 4] f
theorem Nj (a0 : Zc) (a1 : Zc) : Sa 149 [a0.row, a1.row] [rB (xH a0 a1)] := by
 have f := me (xH.eq_1 a0 a1)
 refine so Tryz.func149 Tryz.ntmps149 ?_
 refine cF f ?_ ?_ <;> intro k1 h1 f
 ·exact rt [.tmp 4] f
 refine cF f ?_ ?_ <;> intro k2 h2 f
 ·exact rt [.tmp 4] f
 refine cF f ?_ ?_ <;> intro k3 h3 f
 ·exact rt [.tmp 4] f
 refine cF f ?_ ?_ <;> intro k4 h4 f
 ·exact rt [.tmp 4] f
 exact rt [.tmp 4] f
theorem NF (a0 : List Zc) (a1 : List Zc) : Sa 93 [rL 4 Zc.row a0, rL 4 Zc.row a1] [rB (xm a0 a1)] := by
 have f := me (xm.eq_1 a0 a1)
 refine so Tryz.func93 Tryz.ntmps93 ?_
 refine cF f ?_ ?_ <;> intro k1 h1 f
 ·exact rt [.tmp 4] f
 refine lp1 (xY.eq_2 a0 a1) (fun v1_0 => Ya 27 [eL 0 4 a0 Zc.row, eL 1 4 a1 Zc.row, eI 5 (↑v1_0 : Int)]) (fun n1 v1_0 => a0.length < n1 + v1_0 ∧ v1_0 ≤ a0.length) (a0.length + 1) 0 (fun p1 v1_0 e1 j1 => ?_)
 refine cF e1 ?_ ?_ <;> intro k3 h2 e1
 ·have i1 := ix h2
  have m2 := ml a0 (k3 0 _ rfl)
  have w1 := wr v1_0
  refine dIo mixed ?_
  have i2 := ik v1_0 a1
  simp [i1, ZD, i2]
  repeat with_reducible refine sd ?_
  refine cRs (Nj (nth a0 v1_0) (nth a1 v1_0)) ?_
  refine cF e1 ?_ ?_ <;> intro k5 h3 e1
  ·have f := ms f e1
   exact rt [.tmp 4] f
  exact ny1 w1 e1
 have f := ms f e1
 exact rt [.tmp 4] f
theorem Im (a0 : YF) (a1 : YF) : Sa 36 [a0.row, a1.row] [rB (ki a0 a1)] := by
 have f := me (ki.eq_1 a0 a1)
 refine so Tryz.func36 Tryz.ntmps36 ?_
 refine cRs (HE a0.YV a1.YV) ?_
 refine cF f ?_ ?_ <;> intro k1 h1 f
 ·exact rt [.tmp 4] f
 refine cRs (U5 a0.ZC a1.ZC) ?_
 refine cF f ?_ ?_ <;> intro k2 h2 f
 ·exact rt [.tmp 4] f
 refine cRs (NF a0.Methods a1.Methods) ?_
 refine cF f ?_ ?_ <;> intro k3 h3 f
 ·exact rt [.tmp 4] f
 refine cF f ?_ ?_ <;> intro k4 h4 f
 ·exact rt [.tmp 4] f
 refine cF f ?_ ?_ <;> intro k5 h5 f
 ·exact rt [.tmp 4] f
 exact rt [.tmp 4] f
theorem Hg (a0 : Z0) (a1 : Z0) : Sa 94 [a0.row, a1.row] [rB (kU a0 a1)] := by
 have f := me (kU.eq_1 a0 a1)
 refine so Tryz.func94 Tryz.ntmps94 ?_
 refine cF f ?_ ?_ <;> intro k1 h1 f
 ·exact rt [.tmp 4] f
 refine cF f ?_ ?_ <;> intro k2 h2 f
 ·exact rt [.tmp 4] f
 refine cF f ?_ ?_ <;> intro k3 h3 f
 ·exact rt [.tmp 4] f
 refine cF f ?_ ?_ <;> intro k4 h4 f
 ·exact rt [.tmp 4] f
 refine cF f ?_ ?_ <;> intro k5 h5 f
 ·exact rt [.tmp 4] f
 refine cF f ?_ ?_ <;> intro k6 h6 f
 ·exact rt [.tmp 4] f
 refine cF f ?_ ?_ <;> intro k7 h7 f
 ·exact rt [.tmp 4] f
 exact rt [.tmp 4] f
theorem L8 (a0 : List Z0) (a1 : List Z0) : Sa 37 [rL 7 Z0.row a0, rL 7 Z0.row a1] [rB (kO a0 a1)] := by
 have f := me (kO.eq_1 a0 a1)
 refine so Tryz.func37 Tryz.ntmps37 ?_
 refine cF f ?_ ?_ <;> intro k1 h1 f
 ·exact rt [.tmp 4] f
 refine lp1 (jW.eq_2 a0 a1) (fun v1_0 => Ya 27 [eL 0 7 a0 Z0.row, eL 1 7 a1 Z0.row, eI 5 (↑v1_0 : Int)]) (fun n1 v1_0 => a0.length < n1 + v1_0 ∧ v1_0 ≤ a0.length) (a0.length + 1) 0 (fun p1 v1_0 e1 j1 => ?_)
 refine cF e1 ?_ ?_ <;> intro k3 h2 e1
 ·have i1 := ix h2
  have m2 := ml a0 (k3 0 _ rfl)
  have w1 := wr v1_0
  refine dIo mixed ?_
  have i2 := ik v1_0 a1
  simp [i1, ZD, i2]
  repeat with_reducible refine sd ?_
  refine cRs (Hg (nth a0 v1_0) (nth a1 v1_0)) ?_
  refine cF e1 ?_ ?_ <;> intro k5 h3 e1
  ·have f := ms f e1
   exact rt [.tmp 4] f
  exact ny1 w1 e1
 have f := ms f e1
 exact rt [.tmp 4] f
theorem Kl (a0 : List Int) (a1 : List Int) : Sa 21 [rL 1 iR a0, rL 1 iR a1] [rB (Kb a0 a1)] := by
 have f := me (Kb.eq_1 a0 a1)
 refine so Tryz.func21 Tryz.ntmps21 ?_
 refine cF f ?_ ?_ <;> intro k1 h1 f
 ·exact rt [.tmp 4] f
 refine lp1 (kq.eq_2 a0 a1) (fun v1_0 => Ya 26 [eL 0 1 a0 iR, eL 1 1 a1 iR, eI 5 (↑v1_0 : Int)]) (fun n1 v1_0 => a0.length < n1 + v1_0 ∧ v1_0 ≤ a0.length) (a0.length + 1) 0 (fun p1 v1_0 e1 j1 => ?_)
 refine cF e1 ?_ ?_ <;> intro k3 h2 e1
 ·have i1 := ix h2
  have m2 := ml a0 (k3 0 _ rfl)
  have w1 := wr v1_0
  refine dIo mixed ?_
  have i2 := ik v1_0 a1
  simp [i1, ZD, i2]
  repeat with_reducible refine sd ?_
  refine cF e1 ?_ ?_ <;> intro k5 h3 e1
  ·have f := ms f e1
   exact rt [.tmp 4] f
  exact ny1 w1 e1
 have f := ms f e1
 exact rt [.tmp 4] f
theorem Pp (a0 : List ByteArray) (a1 : List ByteArray) : Sa 232 [rL 1 sR a0, rL 1 sR a1] [rB (xv a0 a1)] := by
 have f := me (xv.eq_1 a0 a1)
 refine so Tryz.func232 Tryz.ntmps232 ?_
 refine cF f ?_ ?_ <;> intro k1 h1 f
 ·exact rt [.tmp 4] f
 refine lp1 (xO.eq_2 a0 a1) (fun v1_0 => Ya 26 [eL 0 1 a0 sR, eL 1 1 a1 sR, eI 5 (↑v1_0 : Int)]) (fun n1 v1_0 => a0.length < n1 + v1_0 ∧ v1_0 ≤ a0.length) (a0.length + 1) 0 (fun p1 v1_0 e1 j1 => ?_)
 refine cF e1 ?_ ?_ <;> intro k3 h2 e1
 ·have i1 := ix h2
  have m2 := ml a0 (k3 0 _ rfl)
  have w1 := wr v1_0
  refine dIo mixed ?_
  have i2 := ik v1_0 a1
  simp [i1, ZD, i2]
  repeat with_reducible refine sd ?_
  refine cF e1 ?_ ?_ <;> intro k5 h3 e1
  ·have f := ms f e1
   exact rt [.tmp 4] f
  exact ny1 w1 e1
 have f := ms f e1
 exact rt [.tmp 4] f
theorem PB (a0 : ZV) (a1 : ZV) : Sa 216 [a0.row, a1.row] [rB (yH a0 a1)] := by
 have f := me (yH.eq_1 a0 a1)
 refine so Tryz.func216 Tryz.ntmps216 ?_
 refine cF f ?_ ?_ <;> intro k1 h1 f
 ·exact rt [.tmp 4] f
 refine cRs (Pp a0.ZE a1.ZE) ?_
 refine cF f ?_ ?_ <;> intro k2 h2 f
 ·exact rt [.tmp 4] f
 refine cRs (Kl a0.ZH a1.ZH) ?_
 refine cF f ?_ ?_ <;> intro k3 h3 f
 ·exact rt [.tmp 4] f
 exact rt [.tmp 4] f
theorem SY (a0 : Zh) (a1 : Zh) : Sa 217 [a0.row, a1.row] [rB (zP a0 a1)] := by
 have f := me (zP.eq_1 a0 a1)
 refine so Tryz.func217 Tryz.ntmps217 ?_
 refine cF f ?_ ?_ <;> intro k1 h1 f
 ·exact rt [.tmp 4] f
 refine cF f ?_ ?_ <;> intro k2 h2 f
 ·exact rt [.tmp 4] f
 refine cF f ?_ ?_ <;> intro k3 h3 f
 ·exact rt [.tmp 4] f
 refine cF f ?_ ?_ <;> intro k4 h4 f
 ·exact rt [.tmp 4] f
 refine cF f ?_ ?_ <;> intro k5 h5 f
 ·exact rt [.tmp 4] f
 refine cF f ?_ ?_ <;> intro k6 h6 f
 ·exact rt [.tmp 4] f
 refine cF f ?_ ?_ <;> intro k7 h7 f
 ·exact rt [.tmp 4] f
 refine cF f ?_ ?_ <;> intro k8 h8 f
 ·exact rt [.tmp 4] f
 refine cF f ?_ ?_ <;> intro k9 h9 f
 ·exact rt [.tmp 4] f
 exact rt [.tmp 4] f
theorem IQ (a0 : ZN) (a1 : ZN) : Sa 239 [a0.row, a1.row] [rB (qi a0 a1)] := by
 have f := me (qi.eq_1 a0 a1)
 refine so Tryz.func239 Tryz.ntmps239 ?_
 refine cF f ?_ ?_ <;> intro k1 h1 f
 ·exact rt [.tmp 4] f
 refine cRs (Kl a0.Y7 a1.Y7) ?_
 refine cF f ?_ ?_ <;> intro k2 h2 f
 ·exact rt [.tmp 4] f
 refine cF f ?_ ?_ <;> intro k3 h3 f
 ·exact rt [.tmp 4] f
 exact rt [.tmp 4] f
theorem MQ (a0 : List ZN) (a1 : List ZN) : Sa 233 [rL 3 ZN.row a0, rL 3 ZN.row a1] [rB (jM a0 a1)] := by
 have f := me (jM.eq_1 a0 a1)
 refine so Tryz.func233 Tryz.ntmps233 ?_
 refine cF f ?_ ?_ <;> intro k1 h1 f
 ·exact rt [.tmp 4] f
 refine lp1 (qd.eq_2 a0 a1) (fun v1_0 => Ya 27 [eL 0 3 a0 ZN.row, eL 1 3 a1 ZN.row, eI 5 (↑v1_0 : Int)]) (fun n1 v1_0 => a0.length < n1 + v1_0 ∧ v1_0 ≤ a0.length) (a0.length + 1) 0 (fun p1 v1_0 e1 j1 => ?_)
 refine cF e1 ?_ ?_ <;> intro k3 h2 e1
 ·have i1 := ix h2
  have m2 := ml a0 (k3 0 _ rfl)
  have w1 := wr v1_0
  refine dIo mixed ?_
  have i2 := ik v1_0 a1
  simp [i1, ZD, i2]
  repeat with_reducible refine sd ?_
  refine cRs (IQ (nth a0 v1_0) (nth a1 v1_0)) ?_
  refine cF e1 ?_ ?_ <;> intro k5 h3 e1
  ·have f := ms f e1
   exact rt [.tmp 4] f
  exact ny1 w1 e1
 have f := ms f e1
 exact rt [.tmp 4] f
theorem HU (a0 : Zk) (a1 : Zk) : Sa 249 [a0.row, a1.row] [rB (kg a0 a1)] := by
 have f := me (kg.eq_1 a0 a1)
 refine so Tryz.func249 Tryz.ntmps249 ?_
 refine cF f ?_ ?_ <;> intro k1 h1 f
 ·exact rt [.tmp 4] f
 refine cF f ?_ ?_ <;> intro k2 h2 f
 ·exact rt [.tmp 4] f
 exact rt [.tmp 4] f
theorem Iw (a0 : List Zk) (a1 : List Zk) : Sa 245 [rL 2 Zk.row a0, rL 2 Zk.row a1] [rB (kR a0 a1)] := by
 have f := me (kR.eq_1 a0 a1)
 refine so Tryz.func245 Tryz.ntmps245 ?_
 refine cF f ?_ ?_ <;> intro k1 h1 f
 ·exact rt [.tmp 4] f
 refine lp1 (jn.eq_2 a0 a1) (fun v1_0 => Ya 27 [eL 0 2 a0 Zk.row, eL 1 2 a1 Zk.row, eI 5 (↑v1_0 : Int)]) (fun n1 v1_0 => a0.length < n1 + v1_0 ∧ v1_0 ≤ a0.length) (a0.length + 1) 0 (fun p1 v1_0 e1 j1 => ?_)
 refine cF e1 ?_ ?_ <;> intro k3 h2 e1
 ·have i1 := ix h2
  have m2 := ml a0 (k3 0 _ rfl)
  have w1 := wr v1_0
  refine dIo mixed ?_
  have i2 := ik v1_0 a1
  simp [i1, ZD, i2]
  repeat with_reducible refine sd ?_
  refine cRs (HU (nth a0 v1_0) (nth a1 v1_0)) ?_
  refine cF e1 ?_ ?_ <;> intro k5 h3 e1
  ·have f := ms f e1
   exact rt [.tmp 4] f
  exact ny1 w1 e1
 have f := ms f e1
 exact rt [.tmp 4] f
theorem Lt (a0 : ZQ) (a1 : ZQ) : Sa 250 [a0.row, a1.row] [rB (qg a0 a1)] := by
 have f := me (qg.eq_1 a0 a1)
 refine so Tryz.func250 Tryz.ntmps250 ?_
 refine cF f ?_ ?_ <;> intro k1 h1 f
 ·exact rt [.tmp 4] f
 refine cF f ?_ ?_ <;> intro k2 h2 f
 ·exact rt [.tmp 4] f
 refine cF f ?_ ?_ <;> intro k3 h3 f
 ·exact rt [.tmp 4] f
 refine cF f ?_ ?_ <;> intro k4 h4 f
 ·exact rt [.tmp 4] f
 refine cF f ?_ ?_ <;> intro k5 h5 f
 ·exact rt [.tmp 4] f
 exact rt [.tmp 4] f
theorem Nr (a0 : List ZQ) (a1 : List ZQ) : Sa 246 [rL 5 ZQ.row a0, rL 5 ZQ.row a1] [rB (jK a0 a1)] := by
 have f := me (jK.eq_1 a0 a1)
 refine so Tryz.func246 Tryz.ntmps246 ?_
 refine cF f ?_ ?_ <;> intro k1 h1 f
 ·exact rt [.tmp 4] f
 refine lp1 (qY.eq_2 a0 a1) (fun v1_0 => Ya 27 [eL 0 5 a0 ZQ.row, eL 1 5 a1 ZQ.row, eI 5 (↑v1_0 : Int)]) (fun n1 v1_0 => a0.length < n1 + v1_0 ∧ v1_0 ≤ a0.length) (a0.length + 1) 0 (fun p1 v1_0 e1 j1 => ?_)
 refine cF e1 ?_ ?_ <;> intro k3 h2 e1
 ·have i1 := ix h2
  have m2 := ml a0 (k3 0 _ rfl)
  have w1 := wr v1_0
  refine dIo mixed ?_
  have i2 := ik v1_0 a1
  simp [i1, ZD, i2]
  repeat with_reducible refine sd ?_
  refine cRs (Lt (nth a0 v1_0) (nth a1 v1_0)) ?_
  refine cF e1 ?_ ?_ <;> intro k5 h3 e1
  ·have f := ms f e1
   exact rt [.tmp 4] f
  exact ny1 w1 e1
 have f := ms f e1
 exact rt [.tmp 4] f
theorem OF (a0 : ZG) (a1 : ZG) : Sa 240 [a0.row, a1.row] [rB (zt a0 a1)] := by
 have f := me (zt.eq_1 a0 a1)
 refine so Tryz.func240 Tryz.ntmps240 ?_
 refine cF f ?_ ?_ <;> intro k1 h1 f
 ·exact rt [.tmp 4] f
 refine cF f ?_ ?_ <;> intro k2 h2 f
 ·exact rt [.tmp 4] f
 refine cF f ?_ ?_ <;> intro k3 h3 f
 ·exact rt [.tmp 4] f
 refine cRs (Iw a0.Path a1.Path) ?_
 refine cF f ?_ ?_ <;> intro k4 h4 f
 ·exact rt [.tmp 4] f
 refine cRs (Nr a0.Zx a1.Zx) ?_
 refine cF f ?_ ?_ <;> intro k5 h5 f
 ·exact rt [.tmp 4] f
 exact rt [.tmp 4] f
theorem Ri (a0 : List ZG) (a1 : List ZG) : Sa 234 [rL 5 ZG.row a0, rL 5 ZG.row a1] [rB (yg a0 a1)] := by
 have f := me (yg.eq_1 a0 a1)
 refine so Tryz.func234 Tryz.ntmps234 ?_
 refine cF f ?_ ?_ <;> intro k1 h1 f
 ·exact rt [.tmp 4] f
 refine lp1 (yR.eq_2 a0 a1) (fun v1_0 => Ya 27 [eL 0 5 a0 ZG.row, eL 1 5 a1 ZG.row, eI 5 (↑v1_0 : Int)]) (fun n1 v1_0 => a0.length < n1 + v1_0 ∧ v1_0 ≤ a0.length) (a0.length + 1) 0 (fun p1 v1_0 e1 j1 => ?_)
 refine cF e1 ?_ ?_ <;> intro k3 h2 e1
 ·have i1 := ix h2
  have m2 := ml a0 (k3 0 _ rfl)
  have w1 := wr v1_0
  refine dIo mixed ?_
  have i2 := ik v1_0 a1
  simp [i1, ZD, i2]
  repeat with_reducible refine sd ?_
  refine cRs (OF (nth a0 v1_0) (nth a1 v1_0)) ?_
  refine cF e1 ?_ ?_ <;> intro k5 h3 e1
  ·have f := ms f e1
   exact rt [.tmp 4] f
  exact ny1 w1 e1
 have f := ms f e1
 exact rt [.tmp 4] f
theorem Nk (a0 : Za) (a1 : Za) : Sa 218 [a0.row, a1.row] [rB (qk a0 a1)] := by
 have f := me (qk.eq_1 a0 a1)
 refine so Tryz.func218 Tryz.ntmps218 ?_
 refine cRs (MQ a0.ZO a1.ZO) ?_
 refine cF f ?_ ?_ <;> intro k1 h1 f
 ·exact rt [.tmp 4] f
 refine cRs (Ri a0.ZX a1.ZX) ?_
 refine cF f ?_ ?_ <;> intro k2 h2 f
 ·exact rt [.tmp 4] f
 exact rt [.tmp 4] f
theorem HK (a0 : ZY) (a1 : ZY) : Sa 185 [a0.row, a1.row] [rB (kJ a0 a1)] := by
 have f := me (kJ.eq_1 a0 a1)
 refine so Tryz.func185 Tryz.ntmps185 ?_
 refine cF f ?_ ?_ <;> intro k1 h1 f
 ·exact rt [.tmp 4] f
 refine cF f ?_ ?_ <;> intro k2 h2 f
 ·exact rt [.tmp 4] f
 refine cRs (PB a0.Doc a1.Doc) ?_
 refine cF f ?_ ?_ <;> intro k3 h3 f
 ·exact rt [.tmp 4] f
 refine cRs (SY a0.Sig a1.Sig) ?_
 refine cF f ?_ ?_ <;> intro k4 h4 f
 ·exact rt [.tmp 4] f
 refine cRs (Nk a0.ZL a1.ZL) ?_
 refine cF f ?_ ?_ <;> intro k5 h5 f
 ·exact rt [.tmp 4] f
 exact rt [.tmp 4] f
theorem L5 (a0 : List ZY) (a1 : List ZY) : Sa 150 [rL 16 ZY.row a0, rL 16 ZY.row a1] [rB (kc a0 a1)] := by
 have f := me (kc.eq_1 a0 a1)
 refine so Tryz.func150 Tryz.ntmps150 ?_
 refine cF f ?_ ?_ <;> intro k1 h1 f
 ·exact rt [.tmp 4] f
 refine lp1 (jV.eq_2 a0 a1) (fun v1_0 => Ya 27 [eL 0 16 a0 ZY.row, eL 1 16 a1 ZY.row, eI 5 (↑v1_0 : Int)]) (fun n1 v1_0 => a0.length < n1 + v1_0 ∧ v1_0 ≤ a0.length) (a0.length + 1) 0 (fun p1 v1_0 e1 j1 => ?_)
 refine cF e1 ?_ ?_ <;> intro k3 h2 e1
 ·have i1 := ix h2
  have m2 := ml a0 (k3 0 _ rfl)
  have w1 := wr v1_0
  refine dIo mixed ?_
  have i2 := ik v1_0 a1
  simp [i1, ZD, i2]
  repeat with_reducible refine sd ?_
  refine cRs (HK (nth a0 v1_0) (nth a1 v1_0)) ?_
  refine cF e1 ?_ ?_ <;> intro k5 h3 e1
  ·have f := ms f e1
   exact rt [.tmp 4] f
  exact ny1 w1 e1
 have f := ms f e1
 exact rt [.tmp 4] f
theorem P5 (a0 : ZF) (a1 : ZF) : Sa 95 [a0.row, a1.row] [rB (zz a0 a1)] := by
 have f := me (zz.eq_1 a0 a1)
 refine so Tryz.func95 Tryz.ntmps95 ?_
 refine cF f ?_ ?_ <;> intro k1 h1 f
 ·exact rt [.tmp 4] f
 refine cRs (L5 a0.ZM a1.ZM) ?_
 refine cF f ?_ ?_ <;> intro k2 h2 f
 ·exact rt [.tmp 4] f
 exact rt [.tmp 4] f
theorem Ra (a0 : List ZF) (a1 : List ZF) : Sa 38 [rL 2 ZF.row a0, rL 2 ZF.row a1] [rB (yo a0 a1)] := by
 have f := me (yo.eq_1 a0 a1)
 refine so Tryz.func38 Tryz.ntmps38 ?_
 refine cF f ?_ ?_ <;> intro k1 h1 f
 ·exact rt [.tmp 4] f
 refine lp1 (yO.eq_2 a0 a1) (fun v1_0 => Ya 27 [eL 0 2 a0 ZF.row, eL 1 2 a1 ZF.row, eI 5 (↑v1_0 : Int)]) (fun n1 v1_0 => a0.length < n1 + v1_0 ∧ v1_0 ≤ a0.length) (a0.length + 1) 0 (fun p1 v1_0 e1 j1 => ?_)
 refine cF e1 ?_ ?_ <;> intro k3 h2 e1
 ·have i1 := ix h2
  have m2 := ml a0 (k3 0 _ rfl)
  have w1 := wr v1_0
  refine dIo mixed ?_
  have i2 := ik v1_0 a1
  simp [i1, ZD, i2]
  repeat with_reducible refine sd ?_
  refine cRs (P5 (nth a0 v1_0) (nth a1 v1_0)) ?_
  refine cF e1 ?_ ?_ <;> intro k5 h3 e1
  ·have f := ms f e1
   exact rt [.tmp 4] f
  exact ny1 w1 e1
 have f := ms f e1
 exact rt [.tmp 4] f
theorem JO (a0 : ZZ) (a1 : ZZ) : Sa 11 [a0.row, a1.row] [rB (JD a0 a1)] := by
 have f := me (JD.eq_1 a0 a1)
 refine so Tryz.func11 Tryz.ntmps11 ?_
 refine cRs (Im a0.Frame a1.Frame) ?_
 refine cF f ?_ ?_ <;> intro k1 h1 f
 ·exact rt [.tmp 4] f
 refine cRs (L8 a0.Zy a1.Zy) ?_
 refine cF f ?_ ?_ <;> intro k2 h2 f
 ·exact rt [.tmp 4] f
 refine cRs (Kl a0.Z3 a1.Z3) ?_
 refine cF f ?_ ?_ <;> intro k3 h3 f
 ·exact rt [.tmp 4] f
 refine cRs (Ra a0.ZI a1.ZI) ?_
 refine cF f ?_ ?_ <;> intro k4 h4 f
 ·exact rt [.tmp 4] f
 refine cRs (Kl a0.YZ a1.YZ) ?_
 refine cF f ?_ ?_ <;> intro k5 h5 f
 ·exact rt [.tmp 4] f
 refine cRs (Kl a0.Yl a1.Yl) ?_
 refine cF f ?_ ?_ <;> intro k6 h6 f
 ·exact rt [.tmp 4] f
 refine cF f ?_ ?_ <;> intro k7 h7 f
 ·exact rt [.tmp 4] f
 refine cRs (Kl a0.Ym a1.Ym) ?_
 refine cF f ?_ ?_ <;> intro k8 h8 f
 ·exact rt [.tmp 4] f
 exact rt [.tmp 4] f
theorem Nw (a0 : List YG) (a1 : Int) : Q5 Tryz.prog 96 (rL 5 YG.row a0) [rI a1] (rL 5 YG.row (Yv a0 a1).1) (.int .i64 (Yv a0 a1).2) := by
 refine QS Tryz.func96 rfl (by kernel_rfl) (fun v => ?_)
 simp [Tryz.ntmps96]
 refine okL fun k1 => ?_
 refine Wq (ι := { s : Nat × Int × Nat × (List YG) // JS s.1 s.2.1 s.2.2.1 s.2.2.2 = JS (a0.length + 1) a1 0 a0 ∧ (1 ≤ s.1 ∧ s.2.2.2.length < s.1 + s.2.2.1) }) (fun s => Ya 48 [(0, .fix v (.one (.sref 0 0 0 s.1.2.2.2.length)), [.arr true 5 (s.1.2.2.2.map YG.row)]), eI 1 s.1.2.1, eI 5 (↑s.1.2.2.1 : Int)]) (fun s => s.1.1) ⟨((a0.length + 1), a1, 0, a0), rfl, by first | omega | (dsimp only; omega) | simp⟩ (XG (by simp)) ?_
 rintro ⟨⟨n1, v1_0, v1_1, v1_2⟩, e1, j1⟩
 try dsimp only at e1 j1
 obtain ⟨p1, rfl⟩ : ∃ p, n1 = p + 1 := ⟨n1 - 1, by omega⟩
 simp
 refine cC (decide ((↑v1_1 : Int) < (↑v1_2.length : Int))) (fun k2 h1 => ?_) (fun k2 h1 => ?_)
 ·have q1 := h1; try simp at q1
  have i1 : v1_1 < v1_2.length := by simpa using h1
  have m2 : v1_2.length ≤ 9223372036854775807 := by simpa using k2 0 _ rfl
  have w1 : IntKind.i64.wrap ((v1_1 : Int) + 1) = (v1_1 : Int) + 1 := ZW (by omega) (by omega)
  simp [i1, ZD, Zp (x := (YG.mk v1_0 (nth v1_2 v1_1).zx (nth v1_2 v1_1).Method (nth v1_2 v1_1).VF (nth v1_2 v1_1).zE)) rfl, Zl, List.set_set, Zp (x := (YG.mk v1_0 (W (v1_0 + 1)) (nth v1_2 v1_1).Method (nth v1_2 v1_1).VF (nth v1_2 v1_1).zE)) rfl, Zp (x := (YG.mk v1_0 (W (v1_0 + 1)) (W ((W (v1_0 + 1)) + 1)) (nth v1_2 v1_1).VF (nth v1_2 v1_1).zE)) rfl, Zp (x := (YG.mk v1_0 (W (v1_0 + 1)) (W ((W (v1_0 + 1)) + 1)) (W ((W ((W (v1_0 + 1)) + 1)) + 1)) (nth v1_2 v1_1).zE)) rfl, Zp (x := (YG.mk v1_0 (W (v1_0 + 1)) (W ((W (v1_0 + 1)) + 1)) (W ((W ((W (v1_0 + 1)) + 1)) + 1)) (W ((W ((W ((W (v1_0 + 1)) + 1)) + 1)) + 1)))) rfl]
  repeat with_reducible refine sd ?_
  refine PO ⟨(p1, (W ((W ((W ((W ((W (v1_0 + 1)) + 1)) + 1)) + 1)) + 1)), (v1_1 + 1), (v1_2.set v1_1 (YG.mk v1_0 (W (v1_0 + 1)) (W ((W (v1_0 + 1)) + 1)) (W ((W ((W (v1_0 + 1)) + 1)) + 1)) (W ((W ((W ((W (v1_0 + 1)) + 1)) + 1)) + 1))))), ?_, ?_⟩ (by simp) (XG (by simp [w1]))
  · rw [← e1]; simp only [JS, h1, Yy, Yk]
  · (simp; omega)
 ·have q1 := h1; try simp at q1
  have x1 : JS (a0.length + 1) a1 0 a0 = (v1_0, v1_2) := by rw [← e1]; simp only [JS, h1, Yy, Yk]
  simp
  refine TP (rv := [.tmp 4]) rfl ?_
  have f1 := Yv.eq_1 a0 a1; simp only [x1, Yy, Yk] at f1; simp [f1]
theorem V9 (a0 : List ZJ) (a1 : Int) : Q5 Tryz.prog 97 (rL 3 ZJ.row a0) [rI a1] (rL 3 ZJ.row (YD a0 a1).1) (.int .i64 (YD a0 a1).2) := by
 refine QS Tryz.func97 rfl (by kernel_rfl) (fun v => ?_)
 simp [Tryz.ntmps97]
 refine okL fun k1 => ?_
 refine Wq (ι := { s : Nat × Int × Nat × (List ZJ) // XX s.1 s.2.1 s.2.2.1 s.2.2.2 = XX (a0.length + 1) a1 0 a0 ∧ (1 ≤ s.1 ∧ s.2.2.2.length < s.1 + s.2.2.1) }) (fun s => Ya 34 [(0, .fix v (.one (.sref 0 0 0 s.1.2.2.2.length)), [.arr true 3 (s.1.2.2.2.map ZJ.row)]), eI 1 s.1.2.1, eI 5 (↑s.1.2.2.1 : Int)]) (fun s => s.1.1) ⟨((a0.length + 1), a1, 0, a0), rfl, by first | omega | (dsimp only; omega) | simp⟩ (XG (by simp)) ?_
 rintro ⟨⟨n1, v1_0, v1_1, v1_2⟩, e1, j1⟩
 try dsimp only at e1 j1
 obtain ⟨p1, rfl⟩ : ∃ p, n1 = p + 1 := ⟨n1 - 1, by omega⟩
 simp
 refine cC (decide ((↑v1_1 : Int) < (↑v1_2.length : Int))) (fun k2 h1 => ?_) (fun k2 h1 => ?_)
 ·have q1 := h1; try simp at q1
  have i1 : v1_1 < v1_2.length := by simpa using h1
  have m2 : v1_2.length ≤ 9223372036854775807 := by simpa using k2 0 _ rfl
  have w1 : IntKind.i64.wrap ((v1_1 : Int) + 1) = (v1_1 : Int) + 1 := ZW (by omega) (by omega)
  simp [i1, ZD, Zp (x := (ZJ.mk v1_0 (nth v1_2 v1_1).Key (nth v1_2 v1_1).Error)) rfl, Zl, List.set_set, Zp (x := (ZJ.mk v1_0 (W (v1_0 + 1)) (nth v1_2 v1_1).Error)) rfl, Zp (x := (ZJ.mk v1_0 (W (v1_0 + 1)) (W ((W (v1_0 + 1)) + 1)))) rfl]
  repeat with_reducible refine sd ?_
  refine PO ⟨(p1, (W ((W ((W (v1_0 + 1)) + 1)) + 1)), (v1_1 + 1), (v1_2.set v1_1 (ZJ.mk v1_0 (W (v1_0 + 1)) (W ((W (v1_0 + 1)) + 1))))), ?_, ?_⟩ (by simp) (XG (by simp [w1]))
  · rw [← e1]; simp only [XX, h1, Yy, Yk]
  · (simp; omega)
 ·have q1 := h1; try simp at q1
  have x1 : XX (a0.length + 1) a1 0 a0 = (v1_0, v1_2) := by rw [← e1]; simp only [XX, h1, Yy, Yk]
  simp
  refine TP (rv := [.tmp 4]) rfl ?_
  have f1 := YD.eq_1 a0 a1; simp only [x1, Yy, Yk] at f1; simp [f1]
theorem SV (a0 : List Zc) (a1 : Int) : Q5 Tryz.prog 98 (rL 4 Zc.row a0) [rI a1] (rL 4 Zc.row (XJ a0 a1).1) (.int .i64 (XJ a0 a1).2) := by
 refine QS Tryz.func98 rfl (by kernel_rfl) (fun v => ?_)
 simp [Tryz.ntmps98]
 refine okL fun k1 => ?_
 refine Wq (ι := { s : Nat × Int × Nat × (List Zc) // QA s.1 s.2.1 s.2.2.1 s.2.2.2 = QA (a0.length + 1) a1 0 a0 ∧ (1 ≤ s.1 ∧ s.2.2.2.length < s.1 + s.2.2.1) }) (fun s => Ya 41 [(0, .fix v (.one (.sref 0 0 0 s.1.2.2.2.length)), [.arr true 4 (s.1.2.2.2.map Zc.row)]), eI 1 s.1.2.1, eI 5 (↑s.1.2.2.1 : Int)]) (fun s => s.1.1) ⟨((a0.length + 1), a1, 0, a0), rfl, by first | omega | (dsimp only; omega) | simp⟩ (XG (by simp)) ?_
 rintro ⟨⟨n1, v1_0, v1_1, v1_2⟩, e1, j1⟩
 try dsimp only at e1 j1
 obtain ⟨p1, rfl⟩ : ∃ p, n1 = p + 1 := ⟨n1 - 1, by omega⟩
 simp
 refine cC (decide ((↑v1_1 : Int) < (↑v1_2.length : Int))) (fun k2 h1 => ?_) (fun k2 h1 => ?_)
 ·have q1 := h1; try simp at q1
  have i1 : v1_1 < v1_2.length := by simpa using h1
  have m2 : v1_2.length ≤ 9223372036854775807 := by simpa using k2 0 _ rfl
  have w1 : IntKind.i64.wrap ((v1_1 : Int) + 1) = (v1_1 : Int) + 1 := ZW (by omega) (by omega)
  simp [i1, ZD, Zp (x := (Zc.mk v1_0 (nth v1_2 v1_1).Vp (nth v1_2 v1_1).Ends (nth v1_2 v1_1).jE)) rfl, Zl, List.set_set, Zp (x := (Zc.mk v1_0 (W (v1_0 + 1)) (nth v1_2 v1_1).Ends (nth v1_2 v1_1).jE)) rfl, Zp (x := (Zc.mk v1_0 (W (v1_0 + 1)) (W ((W (v1_0 + 1)) + 1)) (nth v1_2 v1_1).jE)) rfl, Zp (x := (Zc.mk v1_0 (W (v1_0 + 1)) (W ((W (v1_0 + 1)) + 1)) (W ((W ((W (v1_0 + 1)) + 1)) + 1)))) rfl]
  repeat with_reducible refine sd ?_
  refine PO ⟨(p1, (W ((W ((W ((W (v1_0 + 1)) + 1)) + 1)) + 1)), (v1_1 + 1), (v1_2.set v1_1 (Zc.mk v1_0 (W (v1_0 + 1)) (W ((W (v1_0 + 1)) + 1)) (W ((W ((W (v1_0 + 1)) + 1)) + 1))))), ?_, ?_⟩ (by simp) (XG (by simp [w1]))
  · rw [← e1]; simp only [QA, h1, Yy, Yk]
  · (simp; omega)
 ·have q1 := h1; try simp at q1
  have x1 : QA (a0.length + 1) a1 0 a0 = (v1_0, v1_2) := by rw [← e1]; simp only [QA, h1, Yy, Yk]
  simp
  refine TP (rv := [.tmp 4]) rfl ?_
  have f1 := XJ.eq_1 a0 a1; simp only [x1, Yy, Yk] at f1; simp [f1]
theorem NM (a0 : YF) (a1 : Int) : Q5 Tryz.prog 39 a0.row [rI a1] (Zi a0 a1).1.row (.int .i64 (Zi a0 a1).2) := by
 refine QS Tryz.func39 rfl (by kernel_rfl) (fun v => ?_)
 simp [Tryz.ntmps39]
 refine zd (ats := [.sref 0 0 0 a0.YV.length]) rfl rfl rfl rfl rfl rfl rfl (Nw a0.YV a1) (by simp) (by simp) (by simp) (by simp) (by simp) (by simp) (by simp) (by simp) (by simp) ?_
 simp
 refine zd (ats := [.sref 0 1 0 a0.ZC.length]) rfl rfl rfl rfl rfl rfl rfl (V9 a0.ZC (Yv a0.YV a1).2) (by simp) (by simp) (by simp) (by simp) (by simp) (by simp) (by simp) (by simp) (by simp) ?_
 simp
 refine zd (ats := [.sref 0 2 0 a0.Methods.length]) rfl rfl rfl rfl rfl rfl rfl (SV a0.Methods (YD a0.ZC (Yv a0.YV a1).2).2) (by simp) (by simp) (by simp) (by simp) (by simp) (by simp) (by simp) (by simp) (by simp) ?_
 simp
 refine TP (rv := [.tmp 4]) rfl ?_
 have f1 := Zi.eq_1 a0 a1; simp [f1]
theorem Ot (a0 : List Z0) (a1 : Int) : Q5 Tryz.prog 40 (rL 7 Z0.row a0) [rI a1] (rL 7 Z0.row (Zw a0 a1).1) (.int .i64 (Zw a0 a1).2) := by
 refine QS Tryz.func40 rfl (by kernel_rfl) (fun v => ?_)
 simp [Tryz.ntmps40]
 refine okL fun k1 => ?_
 refine Wq (ι := { s : Nat × Int × Nat × (List Z0) // Qj s.1 s.2.1 s.2.2.1 s.2.2.2 = Qj (a0.length + 1) a1 0 a0 ∧ (1 ≤ s.1 ∧ s.2.2.2.length < s.1 + s.2.2.1) }) (fun s => Ya 62 [(0, .fix v (.one (.sref 0 0 0 s.1.2.2.2.length)), [.arr true 7 (s.1.2.2.2.map Z0.row)]), eI 1 s.1.2.1, eI 5 (↑s.1.2.2.1 : Int)]) (fun s => s.1.1) ⟨((a0.length + 1), a1, 0, a0), rfl, by first | omega | (dsimp only; omega) | simp⟩ (XG (by simp)) ?_
 rintro ⟨⟨n1, v1_0, v1_1, v1_2⟩, e1, j1⟩
 try dsimp only at e1 j1
 obtain ⟨p1, rfl⟩ : ∃ p, n1 = p + 1 := ⟨n1 - 1, by omega⟩
 simp
 refine cC (decide ((↑v1_1 : Int) < (↑v1_2.length : Int))) (fun k2 h1 => ?_) (fun k2 h1 => ?_)
 ·have q1 := h1; try simp at q1
  have i1 : v1_1 < v1_2.length := by simpa using h1
  have m2 : v1_2.length ≤ 9223372036854775807 := by simpa using k2 0 _ rfl
  have w1 : IntKind.i64.wrap ((v1_1 : Int) + 1) = (v1_1 : Int) + 1 := ZW (by omega) (by omega)
  simp [i1, ZD, Zp (x := (Z0.mk v1_0 (nth v1_2 v1_1).Key (nth v1_2 v1_1).zx (nth v1_2 v1_1).qQ (nth v1_2 v1_1).To (nth v1_2 v1_1).Kc (nth v1_2 v1_1).Mark)) rfl, Zl, List.set_set, Zp (x := (Z0.mk v1_0 (W (v1_0 + 1)) (nth v1_2 v1_1).zx (nth v1_2 v1_1).qQ (nth v1_2 v1_1).To (nth v1_2 v1_1).Kc (nth v1_2 v1_1).Mark)) rfl, Zp (x := (Z0.mk v1_0 (W (v1_0 + 1)) (W ((W (v1_0 + 1)) + 1)) (nth v1_2 v1_1).qQ (nth v1_2 v1_1).To (nth v1_2 v1_1).Kc (nth v1_2 v1_1).Mark)) rfl, Zp (x := (Z0.mk v1_0 (W (v1_0 + 1)) (W ((W (v1_0 + 1)) + 1)) (W ((W ((W (v1_0 + 1)) + 1)) + 1)) (nth v1_2 v1_1).To (nth v1_2 v1_1).Kc (nth v1_2 v1_1).Mark)) rfl, Zp (x := (Z0.mk v1_0 (W (v1_0 + 1)) (W ((W (v1_0 + 1)) + 1)) (W ((W ((W (v1_0 + 1)) + 1)) + 1)) (W ((W ((W ((W (v1_0 + 1)) + 1)) + 1)) + 1)) (nth v1_2 v1_1).Kc (nth v1_2 v1_1).Mark)) rfl, Zp (x := (Z0.mk v1_0 (W (v1_0 + 1)) (W ((W (v1_0 + 1)) + 1)) (W ((W ((W (v1_0 + 1)) + 1)) + 1)) (W ((W ((W ((W (v1_0 + 1)) + 1)) + 1)) + 1)) (W ((W ((W ((W ((W (v1_0 + 1)) + 1)) + 1)) + 1)) + 1)) (nth v1_2 v1_1).Mark)) rfl, Zp (x := (Z0.mk v1_0 (W (v1_0 + 1)) (W ((W (v1_0 + 1)) + 1)) (W ((W ((W (v1_0 + 1)) + 1)) + 1)) (W ((W ((W ((W (v1_0 + 1)) + 1)) + 1)) + 1)) (W ((W ((W ((W ((W (v1_0 + 1)) + 1)) + 1)) + 1)) + 1)) (W ((W ((W ((W ((W ((W (v1_0 + 1)) + 1)) + 1)) + 1)) + 1)) + 1)))) rfl]
  repeat with_reducible refine sd ?_
  refine PO ⟨(p1, (W ((W ((W ((W ((W ((W ((W (v1_0 + 1)) + 1)) + 1)) + 1)) + 1)) + 1)) + 1)), (v1_1 + 1), (v1_2.set v1_1 (Z0.mk v1_0 (W (v1_0 + 1)) (W ((W (v1_0 + 1)) + 1)) (W ((W ((W (v1_0 + 1)) + 1)) + 1)) (W ((W ((W ((W (v1_0 + 1)) + 1)) + 1)) + 1)) (W ((W ((W ((W ((W (v1_0 + 1)) + 1)) + 1)) + 1)) + 1)) (W ((W ((W ((W ((W ((W (v1_0 + 1)) + 1)) + 1)) + 1)) + 1)) + 1))))), ?_, ?_⟩ (by simp) (XG (by simp [w1]))
  · rw [← e1]; simp only [Qj, h1, Yy, Yk]
  · (simp; omega)
 ·have q1 := h1; try simp at q1
  have x1 : Qj (a0.length + 1) a1 0 a0 = (v1_0, v1_2) := by rw [← e1]; simp only [Qj, h1, Yy, Yk]
  simp
  refine TP (rv := [.tmp 4]) rfl ?_
  have f1 := Zw.eq_1 a0 a1; simp only [x1, Yy, Yk] at f1; simp [f1]
theorem JY (a0 : List Int) (a1 : Int) : Q5 Tryz.prog 22 (rL 1 iR a0) [rI a1] (rL 1 iR (ZB a0 a1).1) (.int .i64 (ZB a0 a1).2) := by
 refine QS Tryz.func22 rfl (by kernel_rfl) (fun v => ?_)
 simp [Tryz.ntmps22]
 refine okL fun k1 => ?_
 refine Wq (ι := { s : Nat × Int × Nat × (List Int) // JQ s.1 s.2.1 s.2.2.1 s.2.2.2 = JQ (a0.length + 1) a1 0 a0 ∧ (1 ≤ s.1 ∧ s.2.2.2.length < s.1 + s.2.2.1) }) (fun s => Ya 19 [(0, .fix v (.one (.sref 0 0 0 s.1.2.2.2.length)), [.arr true 1 (s.1.2.2.2.map iR)]), eI 1 s.1.2.1, eI 5 (↑s.1.2.2.1 : Int)]) (fun s => s.1.1) ⟨((a0.length + 1), a1, 0, a0), rfl, by first | omega | (dsimp only; omega) | simp⟩ (XG (by simp)) ?_
 rintro ⟨⟨n1, v1_0, v1_1, v1_2⟩, e1, j1⟩
 try dsimp only at e1 j1
 obtain ⟨p1, rfl⟩ : ∃ p, n1 = p + 1 := ⟨n1 - 1, by omega⟩
 simp
 refine cC (decide ((↑v1_1 : Int) < (↑v1_2.length : Int))) (fun k2 h1 => ?_) (fun k2 h1 => ?_)
 ·have q1 := h1; try simp at q1
  have i1 : v1_1 < v1_2.length := by simpa using h1
  have m2 : v1_2.length ≤ 9223372036854775807 := by simpa using k2 0 _ rfl
  have w1 : IntKind.i64.wrap ((v1_1 : Int) + 1) = (v1_1 : Int) + 1 := ZW (by omega) (by omega)
  simp [i1, ZD, Zp (x := v1_0) rfl, Zl]
  repeat with_reducible refine sd ?_
  refine PO ⟨(p1, (W (v1_0 + 1)), (v1_1 + 1), (v1_2.set v1_1 v1_0)), ?_, ?_⟩ (by simp) (XG (by simp [w1]))
  · rw [← e1]; simp only [JQ, h1, Yy, Yk]
  · (simp; omega)
 ·have q1 := h1; try simp at q1
  have x1 : JQ (a0.length + 1) a1 0 a0 = (v1_0, v1_2) := by rw [← e1]; simp only [JQ, h1, Yy, Yk]
  simp
  refine TP (rv := [.tmp 4]) rfl ?_
  have f1 := ZB.eq_1 a0 a1; simp only [x1, Yy, Yk] at f1; simp [f1]
theorem UE (a0 : Int) : Sa 186 [rI a0] [rS (Xe a0)] := by
 have f := me (Xe.eq_1 a0)
 refine so Tryz.func186 Tryz.ntmps186 ?_
 refine cF f ?_ ?_ <;> intro k1 h1 f
 ·exact rt [.tmp 2] f
 refine lp2 (WK.eq_2) (fun v1_0 v1_1 => Ya 20 [eI 0 v1_0, (3, .one (.d (.str v1_1)), [])]) (fun n1 v1_0 v1_1 => (n1 = 22 ∨ v1_0.natAbs < 10 ^ (n1 - 1)) ∧ v1_1.size + n1 = 22) 22 a0 (⟨#[]⟩ : ByteArray) (fun p1 v1_0 v1_1 e1 j1 => ?_) (hI := by exact ⟨by omega, .inl rfl, rfl⟩)
 try dsimp only at j1
 refine cF e1 ?_ ?_ <;> intro k3 h2 e1
 ·refine toStr (l := ([(UInt8.ofInt (W (48 + (Int.tmod v1_0 10))))] : List UInt8)) rfl rfl rfl (by simp) (by simp) (by simp) (by simp [Kv, B4]) ?_
  simp
  repeat with_reducible refine sd ?_
  exact nx2 e1 (hI := by (try dsimp only); obtain ⟨s1, s2⟩ := Bu j1.2.1 (show (v1_0 != 0) = true by simp at h2 ⊢; omega); refine ⟨s1, s2, ?_⟩; have := j1.2.2; simp; omega)
 have f := ms f e1
 exact rt [.tmp 2] f
theorem Sp (a0 : List ByteArray) (a1 : Int) : Q5 Tryz.prog 151 (rL 1 sR a0) [rI a1] (rL 1 sR (ZA a0 a1).1) (.int .i64 (ZA a0 a1).2) := by
 refine QS Tryz.func151 rfl (by kernel_rfl) (fun v => ?_)
 simp [Tryz.ntmps151]
 refine okL fun k1 => ?_
 refine Wq (ι := { s : Nat × Int × Nat × (List ByteArray) // QC s.1 s.2.1 s.2.2.1 s.2.2.2 = QC (a0.length + 1) a1 0 a0 ∧ (1 ≤ s.1 ∧ s.2.2.2.length < s.1 + s.2.2.1) }) (fun s => Ya 20 [(0, .fix v (.one (.sref 0 0 0 s.1.2.2.2.length)), [.arr true 1 (s.1.2.2.2.map sR)]), eI 1 s.1.2.1, eI 5 (↑s.1.2.2.1 : Int)]) (fun s => s.1.1) ⟨((a0.length + 1), a1, 0, a0), rfl, by first | omega | (dsimp only; omega) | simp⟩ (XG (by simp)) ?_
 rintro ⟨⟨n1, v1_0, v1_1, v1_2⟩, e1, j1⟩
 try dsimp only at e1 j1
 obtain ⟨p1, rfl⟩ : ∃ p, n1 = p + 1 := ⟨n1 - 1, by omega⟩
 simp
 refine cC (decide ((↑v1_1 : Int) < (↑v1_2.length : Int))) (fun k2 h1 => ?_) (fun k2 h1 => ?_)
 ·have q1 := h1; try simp at q1
  have i1 : v1_1 < v1_2.length := by simpa using h1
  have m2 : v1_2.length ≤ 9223372036854775807 := by simpa using k2 0 _ rfl
  have w1 : IntKind.i64.wrap ((v1_1 : Int) + 1) = (v1_1 : Int) + 1 := ZW (by omega) (by omega)
  simp
  refine cR (UE v1_0) ?_
  simp [i1, ZD, Zp (x := (Xe v1_0)) rfl, Zl]
  repeat with_reducible refine sd ?_
  refine PO ⟨(p1, (W (v1_0 + 1)), (v1_1 + 1), (v1_2.set v1_1 (Xe v1_0))), ?_, ?_⟩ (by simp) (XG (by simp [w1]))
  · rw [← e1]; simp only [QC, h1, Yy, Yk]
  · (simp; omega)
 ·have q1 := h1; try simp at q1
  have x1 : QC (a0.length + 1) a1 0 a0 = (v1_0, v1_2) := by rw [← e1]; simp only [QC, h1, Yy, Yk]
  simp
  refine TP (rv := [.tmp 4]) rfl ?_
  have f1 := ZA.eq_1 a0 a1; simp only [x1, Yy, Yk] at f1; simp [f1]
theorem Rq (a0 : List ZN) (a1 : Int) : Q5 Tryz.prog 152 (rL 3 ZN.row a0) [rI a1] (rL 3 ZN.row (Zd a0 a1).1) (.int .i64 (Zd a0 a1).2) := by
 refine QS Tryz.func152 rfl (by kernel_rfl) (fun v => ?_)
 simp [Tryz.ntmps152]
 refine okL fun k1 => ?_
 refine Wq (ι := { s : Nat × Int × Nat × (List ZN) // QN s.1 s.2.1 s.2.2.1 s.2.2.2 = QN (a0.length + 1) a1 0 a0 ∧ (1 ≤ s.1 ∧ s.2.2.2.length < s.1 + s.2.2.1) }) (fun s => Ya 34 [(0, .fix v (.one (.sref 0 0 0 s.1.2.2.2.length)), [.arr true 3 (s.1.2.2.2.map ZN.row)]), eI 1 s.1.2.1, eI 5 (↑s.1.2.2.1 : Int)]) (fun s => s.1.1) ⟨((a0.length + 1), a1, 0, a0), rfl, by first | omega | (dsimp only; omega) | simp⟩ (XG (by simp)) ?_
 rintro ⟨⟨n1, v1_0, v1_1, v1_2⟩, e1, j1⟩
 try dsimp only at e1 j1
 obtain ⟨p1, rfl⟩ : ∃ p, n1 = p + 1 := ⟨n1 - 1, by omega⟩
 simp
 refine cC (decide ((↑v1_1 : Int) < (↑v1_2.length : Int))) (fun k2 h1 => ?_) (fun k2 h1 => ?_)
 ·have q1 := h1; try simp at q1
  have i1 : v1_1 < v1_2.length := by simpa using h1
  have m2 : v1_2.length ≤ 9223372036854775807 := by simpa using k2 0 _ rfl
  have w1 : IntKind.i64.wrap ((v1_1 : Int) + 1) = (v1_1 : Int) + 1 := ZW (by omega) (by omega)
  simp [i1, ZD, Zp (x := (ZN.mk v1_0 (nth v1_2 v1_1).Y7 (nth v1_2 v1_1).Mark)) rfl, Zl]
  repeat with_reducible refine sd ?_
  refine W2 (t := 0) (j := 0) (i := v1_1) (c := 1) (size := 3) (rows := ((v1_2.set v1_1 (ZN.mk v1_0 (nth v1_2 v1_1).Y7 (nth v1_2 v1_1).Mark)).map ZN.row)) rfl rfl rfl rfl rfl rfl rfl (JY (nth v1_2 v1_1).Y7 (W (v1_0 + 1))) (by simp) (by simp) (by simp [m2, i1]) (by simp [ZD, Zl, m2, i1]) (by simp) (by simp) (by simp) ?_
  simp [List.set_set, Zp (x := (ZN.mk v1_0 (ZB (nth v1_2 v1_1).Y7 (W (v1_0 + 1))).1 (nth v1_2 v1_1).Mark)) rfl, ZD, Zl, m2, i1, Zp (x := (ZN.mk v1_0 (ZB (nth v1_2 v1_1).Y7 (W (v1_0 + 1))).1 (ZB (nth v1_2 v1_1).Y7 (W (v1_0 + 1))).2)) rfl]
  repeat with_reducible refine sd ?_
  refine PO ⟨(p1, (W ((ZB (nth v1_2 v1_1).Y7 (W (v1_0 + 1))).2 + 1)), (v1_1 + 1), (v1_2.set v1_1 (ZN.mk v1_0 (ZB (nth v1_2 v1_1).Y7 (W (v1_0 + 1))).1 (ZB (nth v1_2 v1_1).Y7 (W (v1_0 + 1))).2))), ?_, ?_⟩ (by simp) (XG (by simp [w1]))
  · rw [← e1]; simp only [QN, h1, Yy, Yk]
  · (simp; omega)
 ·have q1 := h1; try simp at q1
  have x1 : QN (a0.length + 1) a1 0 a0 = (v1_0, v1_2) := by rw [← e1]; simp only [QN, h1, Yy, Yk]
  simp
  refine TP (rv := [.tmp 4]) rfl ?_
  have f1 := Zd.eq_1 a0 a1; simp only [x1, Yy, Yk] at f1; simp [f1]
theorem O6 (a0 : List Zk) (a1 : Int) : Q5 Tryz.prog 187 (rL 2 Zk.row a0) [rI a1] (rL 2 Zk.row (Zg a0 a1).1) (.int .i64 (Zg a0 a1).2) := by
 refine QS Tryz.func187 rfl (by kernel_rfl) (fun v => ?_)
 simp [Tryz.ntmps187]
 refine okL fun k1 => ?_
 refine Wq (ι := { s : Nat × Int × Nat × (List Zk) // Ql s.1 s.2.1 s.2.2.1 s.2.2.2 = Ql (a0.length + 1) a1 0 a0 ∧ (1 ≤ s.1 ∧ s.2.2.2.length < s.1 + s.2.2.1) }) (fun s => Ya 29 [(0, .fix v (.one (.sref 0 0 0 s.1.2.2.2.length)), [.arr true 2 (s.1.2.2.2.map Zk.row)]), eI 1 s.1.2.1, eI 5 (↑s.1.2.2.1 : Int)]) (fun s => s.1.1) ⟨((a0.length + 1), a1, 0, a0), rfl, by first | omega | (dsimp only; omega) | simp⟩ (XG (by simp)) ?_
 rintro ⟨⟨n1, v1_0, v1_1, v1_2⟩, e1, j1⟩
 try dsimp only at e1 j1
 obtain ⟨p1, rfl⟩ : ∃ p, n1 = p + 1 := ⟨n1 - 1, by omega⟩
 simp
 refine cC (decide ((↑v1_1 : Int) < (↑v1_2.length : Int))) (fun k2 h1 => ?_) (fun k2 h1 => ?_)
 ·have q1 := h1; try simp at q1
  have i1 : v1_1 < v1_2.length := by simpa using h1
  have m2 : v1_2.length ≤ 9223372036854775807 := by simpa using k2 0 _ rfl
  have w1 : IntKind.i64.wrap ((v1_1 : Int) + 1) = (v1_1 : Int) + 1 := ZW (by omega) (by omega)
  simp [i1, ZD, Zp (x := (Zk.mk v1_0 (nth v1_2 v1_1).Left)) rfl, Zl, List.set_set, Zp (x := (Zk.mk v1_0 ((Int.tmod (W (v1_0 + 1)) 3) == 0))) rfl]
  repeat with_reducible refine sd ?_
  refine PO ⟨(p1, (W ((W (v1_0 + 1)) + 1)), (v1_1 + 1), (v1_2.set v1_1 (Zk.mk v1_0 ((Int.tmod (W (v1_0 + 1)) 3) == 0)))), ?_, ?_⟩ (by simp) (XG (by simp [w1]))
  · rw [← e1]; simp only [Ql, h1, Yy, Yk]
  · (simp; omega)
 ·have q1 := h1; try simp at q1
  have x1 : Ql (a0.length + 1) a1 0 a0 = (v1_0, v1_2) := by rw [← e1]; simp only [Ql, h1, Yy, Yk]
  simp
  refine TP (rv := [.tmp 4]) rfl ?_
  have f1 := Zg.eq_1 a0 a1; simp only [x1, Yy, Yk] at f1; simp [f1]
theorem R1 (a0 : List ZQ) (a1 : Int) : Q5 Tryz.prog 188 (rL 5 ZQ.row a0) [rI a1] (rL 5 ZQ.row (Zs a0 a1).1) (.int .i64 (Zs a0 a1).2) := by
 refine QS Tryz.func188 rfl (by kernel_rfl) (fun v => ?_)
 simp [Tryz.ntmps188]
 refine okL fun k1 => ?_
 refine Wq (ι := { s : Nat × Int × Nat × (List ZQ) // QQ s.1 s.2.1 s.2.2.1 s.2.2.2 = QQ (a0.length + 1) a1 0 a0 ∧ (1 ≤ s.1 ∧ s.2.2.2.length < s.1 + s.2.2.1) }) (fun s => Ya 48 [(0, .fix v (.one (.sref 0 0 0 s.1.2.2.2.length)), [.arr true 5 (s.1.2.2.2.map ZQ.row)]), eI 1 s.1.2.1, eI 5 (↑s.1.2.2.1 : Int)]) (fun s => s.1.1) ⟨((a0.length + 1), a1, 0, a0), rfl, by first | omega | (dsimp only; omega) | simp⟩ (XG (by simp)) ?_
 rintro ⟨⟨n1, v1_0, v1_1, v1_2⟩, e1, j1⟩
 try dsimp only at e1 j1
 obtain ⟨p1, rfl⟩ : ∃ p, n1 = p + 1 := ⟨n1 - 1, by omega⟩
 simp
 refine cC (decide ((↑v1_1 : Int) < (↑v1_2.length : Int))) (fun k2 h1 => ?_) (fun k2 h1 => ?_)
 ·have q1 := h1; try simp at q1
  have i1 : v1_1 < v1_2.length := by simpa using h1
  have m2 : v1_2.length ≤ 9223372036854775807 := by simpa using k2 0 _ rfl
  have w1 : IntKind.i64.wrap ((v1_1 : Int) + 1) = (v1_1 : Int) + 1 := ZW (by omega) (by omega)
  simp [i1, ZD, Zp (x := (ZQ.mk v1_0 (nth v1_2 v1_1).Seq (nth v1_2 v1_1).Time (nth v1_2 v1_1).Yz (nth v1_2 v1_1).Mark)) rfl, Zl, List.set_set, Zp (x := (ZQ.mk v1_0 (W (v1_0 + 1)) (nth v1_2 v1_1).Time (nth v1_2 v1_1).Yz (nth v1_2 v1_1).Mark)) rfl, Zp (x := (ZQ.mk v1_0 (W (v1_0 + 1)) (W ((W (v1_0 + 1)) + 1)) (nth v1_2 v1_1).Yz (nth v1_2 v1_1).Mark)) rfl, Zp (x := (ZQ.mk v1_0 (W (v1_0 + 1)) (W ((W (v1_0 + 1)) + 1)) (W ((W ((W (v1_0 + 1)) + 1)) + 1)) (nth v1_2 v1_1).Mark)) rfl, Zp (x := (ZQ.mk v1_0 (W (v1_0 + 1)) (W ((W (v1_0 + 1)) + 1)) (W ((W ((W (v1_0 + 1)) + 1)) + 1)) (W ((W ((W ((W (v1_0 + 1)) + 1)) + 1)) + 1)))) rfl]
  repeat with_reducible refine sd ?_
  refine PO ⟨(p1, (W ((W ((W ((W ((W (v1_0 + 1)) + 1)) + 1)) + 1)) + 1)), (v1_1 + 1), (v1_2.set v1_1 (ZQ.mk v1_0 (W (v1_0 + 1)) (W ((W (v1_0 + 1)) + 1)) (W ((W ((W (v1_0 + 1)) + 1)) + 1)) (W ((W ((W ((W (v1_0 + 1)) + 1)) + 1)) + 1))))), ?_, ?_⟩ (by simp) (XG (by simp [w1]))
  · rw [← e1]; simp only [QQ, h1, Yy, Yk]
  · (simp; omega)
 ·have q1 := h1; try simp at q1
  have x1 : QQ (a0.length + 1) a1 0 a0 = (v1_0, v1_2) := by rw [← e1]; simp only [QQ, h1, Yy, Yk]
  simp
  refine TP (rv := [.tmp 4]) rfl ?_
  have f1 := Zs.eq_1 a0 a1; simp only [x1, Yy, Yk] at f1; simp [f1]
theorem Tv (a0 : List ZG) (a1 : Int) : Q5 Tryz.prog 153 (rL 5 ZG.row a0) [rI a1] (rL 5 ZG.row (Zj a0 a1).1) (.int .i64 (Zj a0 a1).2) := by
 refine QS Tryz.func153 rfl (by kernel_rfl) (fun v => ?_)
 simp [Tryz.ntmps153]
 refine okL fun k1 => ?_
 refine Wq (ι := { s : Nat × Int × Nat × (List ZG) // Xz s.1 s.2.1 s.2.2.1 s.2.2.2 = Xz (a0.length + 1) a1 0 a0 ∧ (1 ≤ s.1 ∧ s.2.2.2.length < s.1 + s.2.2.1) }) (fun s => Ya 48 [(0, .fix v (.one (.sref 0 0 0 s.1.2.2.2.length)), [.arr true 5 (s.1.2.2.2.map ZG.row)]), eI 1 s.1.2.1, eI 5 (↑s.1.2.2.1 : Int)]) (fun s => s.1.1) ⟨((a0.length + 1), a1, 0, a0), rfl, by first | omega | (dsimp only; omega) | simp⟩ (XG (by simp)) ?_
 rintro ⟨⟨n1, v1_0, v1_1, v1_2⟩, e1, j1⟩
 try dsimp only at e1 j1
 obtain ⟨p1, rfl⟩ : ∃ p, n1 = p + 1 := ⟨n1 - 1, by omega⟩
 simp
 refine cC (decide ((↑v1_1 : Int) < (↑v1_2.length : Int))) (fun k2 h1 => ?_) (fun k2 h1 => ?_)
 ·have q1 := h1; try simp at q1
  have i1 : v1_1 < v1_2.length := by simpa using h1
  have m2 : v1_2.length ≤ 9223372036854775807 := by simpa using k2 0 _ rfl
  have w1 : IntKind.i64.wrap ((v1_1 : Int) + 1) = (v1_1 : Int) + 1 := ZW (by omega) (by omega)
  simp [i1, ZD, Zp (x := (ZG.mk v1_0 (nth v1_2 v1_1).Method (nth v1_2 v1_1).TA (nth v1_2 v1_1).Path (nth v1_2 v1_1).Zx)) rfl, Zl, List.set_set, Zp (x := (ZG.mk v1_0 (W (v1_0 + 1)) (nth v1_2 v1_1).TA (nth v1_2 v1_1).Path (nth v1_2 v1_1).Zx)) rfl, Zp (x := (ZG.mk v1_0 (W (v1_0 + 1)) (W ((W (v1_0 + 1)) + 1)) (nth v1_2 v1_1).Path (nth v1_2 v1_1).Zx)) rfl]
  repeat with_reducible refine sd ?_
  refine W2 (t := 0) (j := 0) (i := v1_1) (c := 3) (size := 5) (rows := ((v1_2.set v1_1 (ZG.mk v1_0 (W (v1_0 + 1)) (W ((W (v1_0 + 1)) + 1)) (nth v1_2 v1_1).Path (nth v1_2 v1_1).Zx)).map ZG.row)) rfl rfl rfl rfl rfl rfl rfl (O6 (nth v1_2 v1_1).Path (W ((W ((W (v1_0 + 1)) + 1)) + 1))) (by simp) (by simp) (by simp [m2, i1]) (by simp [ZD, Zl, m2, i1]) (by simp) (by simp) (by simp) ?_
  simp [List.set_set, Zp (x := (ZG.mk v1_0 (W (v1_0 + 1)) (W ((W (v1_0 + 1)) + 1)) (Zg (nth v1_2 v1_1).Path (W ((W ((W (v1_0 + 1)) + 1)) + 1))).1 (nth v1_2 v1_1).Zx)) rfl, ZD, Zl, m2, i1]
  repeat with_reducible refine sd ?_
  refine W2 (t := 0) (j := 0) (i := v1_1) (c := 4) (size := 5) (rows := ((v1_2.set v1_1 (ZG.mk v1_0 (W (v1_0 + 1)) (W ((W (v1_0 + 1)) + 1)) (Zg (nth v1_2 v1_1).Path (W ((W ((W (v1_0 + 1)) + 1)) + 1))).1 (nth v1_2 v1_1).Zx)).map ZG.row)) rfl rfl rfl rfl rfl rfl rfl (R1 (nth v1_2 v1_1).Zx (Zg (nth v1_2 v1_1).Path (W ((W ((W (v1_0 + 1)) + 1)) + 1))).2) (by simp) (by simp) (by simp [m2, i1]) (by simp [ZD, Zl, m2, i1]) (by simp) (by simp) (by simp) ?_
  simp [List.set_set, Zp (x := (ZG.mk v1_0 (W (v1_0 + 1)) (W ((W (v1_0 + 1)) + 1)) (Zg (nth v1_2 v1_1).Path (W ((W ((W (v1_0 + 1)) + 1)) + 1))).1 (Zs (nth v1_2 v1_1).Zx (Zg (nth v1_2 v1_1).Path (W ((W ((W (v1_0 + 1)) + 1)) + 1))).2).1)) rfl, ZD, Zl, m2, i1]
  repeat with_reducible refine sd ?_
  refine PO ⟨(p1, (Zs (nth v1_2 v1_1).Zx (Zg (nth v1_2 v1_1).Path (W ((W ((W (v1_0 + 1)) + 1)) + 1))).2).2, (v1_1 + 1), (v1_2.set v1_1 (ZG.mk v1_0 (W (v1_0 + 1)) (W ((W (v1_0 + 1)) + 1)) (Zg (nth v1_2 v1_1).Path (W ((W ((W (v1_0 + 1)) + 1)) + 1))).1 (Zs (nth v1_2 v1_1).Zx (Zg (nth v1_2 v1_1).Path (W ((W ((W (v1_0 + 1)) + 1)) + 1))).2).1))), ?_, ?_⟩ (by simp) (XG (by simp [w1]))
  · rw [← e1]; simp only [Xz, h1, Yy, Yk]
  · (simp; omega)
 ·have q1 := h1; try simp at q1
  have x1 : Xz (a0.length + 1) a1 0 a0 = (v1_0, v1_2) := by rw [← e1]; simp only [Xz, h1, Yy, Yk]
  simp
  refine TP (rv := [.tmp 4]) rfl ?_
  have f1 := Zj.eq_1 a0 a1; simp only [x1, Yy, Yk] at f1; simp [f1]
theorem OP (a0 : List ZY) (a1 : Int) : Q5 Tryz.prog 99 (rL 16 ZY.row a0) [rI a1] (rL 16 ZY.row (Z1 a0 a1).1) (.int .i64 (Z1 a0 a1).2) := by
 refine QS Tryz.func99 rfl (by kernel_rfl) (fun v => ?_)
 simp [Tryz.ntmps99]
 refine okL fun k1 => ?_
 refine Wq (ι := { s : Nat × Int × Nat × (List ZY) // Qm s.1 s.2.1 s.2.2.1 s.2.2.2 = Qm (a0.length + 1) a1 0 a0 ∧ (1 ≤ s.1 ∧ s.2.2.2.length < s.1 + s.2.2.1) }) (fun s => Ya 139 [(0, .fix v (.one (.sref 0 0 0 s.1.2.2.2.length)), [.arr true 16 (s.1.2.2.2.map ZY.row)]), eI 1 s.1.2.1, eI 5 (↑s.1.2.2.1 : Int)]) (fun s => s.1.1) ⟨((a0.length + 1), a1, 0, a0), rfl, by first | omega | (dsimp only; omega) | simp⟩ (XG (by simp)) ?_
 rintro ⟨⟨n1, v1_0, v1_1, v1_2⟩, e1, j1⟩
 try dsimp only at e1 j1
 obtain ⟨p1, rfl⟩ : ∃ p, n1 = p + 1 := ⟨n1 - 1, by omega⟩
 simp
 refine cC (decide ((↑v1_1 : Int) < (↑v1_2.length : Int))) (fun k2 h1 => ?_) (fun k2 h1 => ?_)
 ·have q1 := h1; try simp at q1
  have i1 : v1_1 < v1_2.length := by simpa using h1
  have m2 : v1_2.length ≤ 9223372036854775807 := by simpa using k2 0 _ rfl
  have w1 : IntKind.i64.wrap ((v1_1 : Int) + 1) = (v1_1 : Int) + 1 := ZW (by omega) (by omega)
  simp [i1, ZD, Zp (x := (ZY.mk v1_0 (nth v1_2 v1_1).Y8 (nth v1_2 v1_1).Doc (nth v1_2 v1_1).Sig (nth v1_2 v1_1).ZL)) rfl, Zl, List.set_set, Zp (x := (ZY.mk v1_0 (W (v1_0 + 1)) (nth v1_2 v1_1).Doc (nth v1_2 v1_1).Sig (nth v1_2 v1_1).ZL)) rfl, Zp (x := (ZY.mk v1_0 (W (v1_0 + 1)) (ZV.mk (W ((W (v1_0 + 1)) + 1)) (nth v1_2 v1_1).Doc.ZE (nth v1_2 v1_1).Doc.ZH) (nth v1_2 v1_1).Sig (nth v1_2 v1_1).ZL)) rfl]
  repeat with_reducible refine sd ?_
  refine W2 (t := 0) (j := 0) (i := v1_1) (c := 3) (size := 16) (rows := ((v1_2.set v1_1 (ZY.mk v1_0 (W (v1_0 + 1)) (ZV.mk (W ((W (v1_0 + 1)) + 1)) (nth v1_2 v1_1).Doc.ZE (nth v1_2 v1_1).Doc.ZH) (nth v1_2 v1_1).Sig (nth v1_2 v1_1).ZL)).map ZY.row)) rfl rfl rfl rfl rfl rfl rfl (Sp (nth v1_2 v1_1).Doc.ZE (W ((W ((W (v1_0 + 1)) + 1)) + 1))) (by simp) (by simp) (by simp [m2, i1]) (by simp [ZD, Zl, m2, i1]) (by simp) (by simp) (by simp) ?_
  simp [List.set_set, Zp (x := (ZY.mk v1_0 (W (v1_0 + 1)) (ZV.mk (W ((W (v1_0 + 1)) + 1)) (ZA (nth v1_2 v1_1).Doc.ZE (W ((W ((W (v1_0 + 1)) + 1)) + 1))).1 (nth v1_2 v1_1).Doc.ZH) (nth v1_2 v1_1).Sig (nth v1_2 v1_1).ZL)) rfl, ZD, Zl, m2, i1]
  repeat with_reducible refine sd ?_
  refine W2 (t := 0) (j := 0) (i := v1_1) (c := 4) (size := 16) (rows := ((v1_2.set v1_1 (ZY.mk v1_0 (W (v1_0 + 1)) (ZV.mk (W ((W (v1_0 + 1)) + 1)) (ZA (nth v1_2 v1_1).Doc.ZE (W ((W ((W (v1_0 + 1)) + 1)) + 1))).1 (nth v1_2 v1_1).Doc.ZH) (nth v1_2 v1_1).Sig (nth v1_2 v1_1).ZL)).map ZY.row)) rfl rfl rfl rfl rfl rfl rfl (JY (nth v1_2 v1_1).Doc.ZH (ZA (nth v1_2 v1_1).Doc.ZE (W ((W ((W (v1_0 + 1)) + 1)) + 1))).2) (by simp) (by simp) (by simp [m2, i1]) (by simp [ZD, Zl, m2, i1]) (by simp) (by simp) (by simp) ?_
  simp [List.set_set, Zp (x := (ZY.mk v1_0 (W (v1_0 + 1)) (ZV.mk (W ((W (v1_0 + 1)) + 1)) (ZA (nth v1_2 v1_1).Doc.ZE (W ((W ((W (v1_0 + 1)) + 1)) + 1))).1 (ZB (nth v1_2 v1_1).Doc.ZH (ZA (nth v1_2 v1_1).Doc.ZE (W ((W ((W (v1_0 + 1)) + 1)) + 1))).2).1) (nth v1_2 v1_1).Sig (nth v1_2 v1_1).ZL)) rfl, ZD, Zl, m2, i1, Zp (x := (ZY.mk v1_0 (W (v1_0 + 1)) (ZV.mk (W ((W (v1_0 + 1)) + 1)) (ZA (nth v1_2 v1_1).Doc.ZE (W ((W ((W (v1_0 + 1)) + 1)) + 1))).1 (ZB (nth v1_2 v1_1).Doc.ZH (ZA (nth v1_2 v1_1).Doc.ZE (W ((W ((W (v1_0 + 1)) + 1)) + 1))).2).1) (Zh.mk (ZB (nth v1_2 v1_1).Doc.ZH (ZA (nth v1_2 v1_1).Doc.ZE (W ((W ((W (v1_0 + 1)) + 1)) + 1))).2).2 (nth v1_2 v1_1).Sig.QY (nth v1_2 v1_1).Sig.Method (nth v1_2 v1_1).Sig.Yz (nth v1_2 v1_1).Sig.zj (nth v1_2 v1_1).Sig.Org (nth v1_2 v1_1).Sig.KU (nth v1_2 v1_1).Sig.yw (nth v1_2 v1_1).Sig.Mark) (nth v1_2 v1_1).ZL)) rfl, Zp (x := (ZY.mk v1_0 (W (v1_0 + 1)) (ZV.mk (W ((W (v1_0 + 1)) + 1)) (ZA (nth v1_2 v1_1).Doc.ZE (W ((W ((W (v1_0 + 1)) + 1)) + 1))).1 (ZB (nth v1_2 v1_1).Doc.ZH (ZA (nth v1_2 v1_1).Doc.ZE (W ((W ((W (v1_0 + 1)) + 1)) + 1))).2).1) (Zh.mk (ZB (nth v1_2 v1_1).Doc.ZH (ZA (nth v1_2 v1_1).Doc.ZE (W ((W ((W (v1_0 + 1)) + 1)) + 1))).2).2 (W ((ZB (nth v1_2 v1_1).Doc.ZH (ZA (nth v1_2 v1_1).Doc.ZE (W ((W ((W (v1_0 + 1)) + 1)) + 1))).2).2 + 1)) (nth v1_2 v1_1).Sig.Method (nth v1_2 v1_1).Sig.Yz (nth v1_2 v1_1).Sig.zj (nth v1_2 v1_1).Sig.Org (nth v1_2 v1_1).Sig.KU (nth v1_2 v1_1).Sig.yw (nth v1_2 v1_1).Sig.Mark) (nth v1_2 v1_1).ZL)) rfl, Zp (x := (ZY.mk v1_0 (W (v1_0 + 1)) (ZV.mk (W ((W (v1_0 + 1)) + 1)) (ZA (nth v1_2 v1_1).Doc.ZE (W ((W ((W (v1_0 + 1)) + 1)) + 1))).1 (ZB (nth v1_2 v1_1).Doc.ZH (ZA (nth v1_2 v1_1).Doc.ZE (W ((W ((W (v1_0 + 1)) + 1)) + 1))).2).1) (Zh.mk (ZB (nth v1_2 v1_1).Doc.ZH (ZA (nth v1_2 v1_1).Doc.ZE (W ((W ((W (v1_0 + 1)) + 1)) + 1))).2).2 (W ((ZB (nth v1_2 v1_1).Doc.ZH (ZA (nth v1_2 v1_1).Doc.ZE (W ((W ((W (v1_0 + 1)) + 1)) + 1))).2).2 + 1)) (W ((W ((ZB (nth v1_2 v1_1).Doc.ZH (ZA (nth v1_2 v1_1).Doc.ZE (W ((W ((W (v1_0 + 1)) + 1)) + 1))).2).2 + 1)) + 1)) (nth v1_2 v1_1).Sig.Yz (nth v1_2 v1_1).Sig.zj (nth v1_2 v1_1).Sig.Org (nth v1_2 v1_1).Sig.KU (nth v1_2 v1_1).Sig.yw (nth v1_2 v1_1).Sig.Mark) (nth v1_2 v1_1).ZL)) rfl, Zp (x := (ZY.mk v1_0 (W (v1_0 + 1)) (ZV.mk (W ((W (v1_0 + 1)) + 1)) (ZA (nth v1_2 v1_1).Doc.ZE (W ((W ((W (v1_0 + 1)) + 1)) + 1))).1 (ZB (nth v1_2 v1_1).Doc.ZH (ZA (nth v1_2 v1_1).Doc.ZE (W ((W ((W (v1_0 + 1)) + 1)) + 1))).2).1) (Zh.mk (ZB (nth v1_2 v1_1).Doc.ZH (ZA (nth v1_2 v1_1).Doc.ZE (W ((W ((W (v1_0 + 1)) + 1)) + 1))).2).2 (W ((ZB (nth v1_2 v1_1).Doc.ZH (ZA (nth v1_2 v1_1).Doc.ZE (W ((W ((W (v1_0 + 1)) + 1)) + 1))).2).2 + 1)) (W ((W ((ZB (nth v1_2 v1_1).Doc.ZH (ZA (nth v1_2 v1_1).Doc.ZE (W ((W ((W (v1_0 + 1)) + 1)) + 1))).2).2 + 1)) + 1)) (W ((W ((W ((ZB (nth v1_2 v1_1).Doc.ZH (ZA (nth v1_2 v1_1).Doc.ZE (W ((W ((W (v1_0 + 1)) + 1)) + 1))).2).2 + 1)) + 1)) + 1)) (nth v1_2 v1_1).Sig.zj (nth v1_2 v1_1).Sig.Org (nth v1_2 v1_1).Sig.KU (nth v1_2 v1_1).Sig.yw (nth v1_2 v1_1).Sig.Mark) (nth v1_2 v1_1).ZL)) rfl, Zp (x := (ZY.mk v1_0 (W (v1_0 + 1)) (ZV.mk (W ((W (v1_0 + 1)) + 1)) (ZA (nth v1_2 v1_1).Doc.ZE (W ((W ((W (v1_0 + 1)) + 1)) + 1))).1 (ZB (nth v1_2 v1_1).Doc.ZH (ZA (nth v1_2 v1_1).Doc.ZE (W ((W ((W (v1_0 + 1)) + 1)) + 1))).2).1) (Zh.mk (ZB (nth v1_2 v1_1).Doc.ZH (ZA (nth v1_2 v1_1).Doc.ZE (W ((W ((W (v1_0 + 1)) + 1)) + 1))).2).2 (W ((ZB (nth v1_2 v1_1).Doc.ZH (ZA (nth v1_2 v1_1).Doc.ZE (W ((W ((W (v1_0 + 1)) + 1)) + 1))).2).2 + 1)) (W ((W ((ZB (nth v1_2 v1_1).Doc.ZH (ZA (nth v1_2 v1_1).Doc.ZE (W ((W ((W (v1_0 + 1)) + 1)) + 1))).2).2 + 1)) + 1)) (W ((W ((W ((ZB (nth v1_2 v1_1).Doc.ZH (ZA (nth v1_2 v1_1).Doc.ZE (W ((W ((W (v1_0 + 1)) + 1)) + 1))).2).2 + 1)) + 1)) + 1)) (W ((W ((W ((W ((ZB (nth v1_2 v1_1).Doc.ZH (ZA (nth v1_2 v1_1).Doc.ZE (W ((W ((W (v1_0 + 1)) + 1)) + 1))).2).2 + 1)) + 1)) + 1)) + 1)) (nth v1_2 v1_1).Sig.Org (nth v1_2 v1_1).Sig.KU (nth v1_2 v1_1).Sig.yw (nth v1_2 v1_1).Sig.Mark) (nth v1_2 v1_1).ZL)) rfl, Zp (x := (ZY.mk v1_0 (W (v1_0 + 1)) (ZV.mk (W ((W (v1_0 + 1)) + 1)) (ZA (nth v1_2 v1_1).Doc.ZE (W ((W ((W (v1_0 + 1)) + 1)) + 1))).1 (ZB (nth v1_2 v1_1).Doc.ZH (ZA (nth v1_2 v1_1).Doc.ZE (W ((W ((W (v1_0 + 1)) + 1)) + 1))).2).1) (Zh.mk (ZB (nth v1_2 v1_1).Doc.ZH (ZA (nth v1_2 v1_1).Doc.ZE (W ((W ((W (v1_0 + 1)) + 1)) + 1))).2).2 (W ((ZB (nth v1_2 v1_1).Doc.ZH (ZA (nth v1_2 v1_1).Doc.ZE (W ((W ((W (v1_0 + 1)) + 1)) + 1))).2).2 + 1)) (W ((W ((ZB (nth v1_2 v1_1).Doc.ZH (ZA (nth v1_2 v1_1).Doc.ZE (W ((W ((W (v1_0 + 1)) + 1)) + 1))).2).2 + 1)) + 1)) (W ((W ((W ((ZB (nth v1_2 v1_1).Doc.ZH (ZA (nth v1_2 v1_1).Doc.ZE (W ((W ((W (v1_0 + 1)) + 1)) + 1))).2).2 + 1)) + 1)) + 1)) (W ((W ((W ((W ((ZB (nth v1_2 v1_1).Doc.ZH (ZA (nth v1_2 v1_1).Doc.ZE (W ((W ((W (v1_0 + 1)) + 1)) + 1))).2).2 + 1)) + 1)) + 1)) + 1)) (W ((W ((W ((W ((W ((ZB (nth v1_2 v1_1).Doc.ZH (ZA (nth v1_2 v1_1).Doc.ZE (W ((W ((W (v1_0 + 1)) + 1)) + 1))).2).2 + 1)) + 1)) + 1)) + 1)) + 1)) (nth v1_2 v1_1).Sig.KU (nth v1_2 v1_1).Sig.yw (nth v1_2 v1_1).Sig.Mark) (nth v1_2 v1_1).ZL)) rfl, Zp (x := (ZY.mk v1_0 (W (v1_0 + 1)) (ZV.mk (W ((W (v1_0 + 1)) + 1)) (ZA (nth v1_2 v1_1).Doc.ZE (W ((W ((W (v1_0 + 1)) + 1)) + 1))).1 (ZB (nth v1_2 v1_1).Doc.ZH (ZA (nth v1_2 v1_1).Doc.ZE (W ((W ((W (v1_0 + 1)) + 1)) + 1))).2).1) (Zh.mk (ZB (nth v1_2 v1_1).Doc.ZH (ZA (nth v1_2 v1_1).Doc.ZE (W ((W ((W (v1_0 + 1)) + 1)) + 1))).2).2 (W ((ZB (nth v1_2 v1_1).Doc.ZH (ZA (nth v1_2 v1_1).Doc.ZE (W ((W ((W (v1_0 + 1)) + 1)) + 1))).2).2 + 1)) (W ((W ((ZB (nth v1_2 v1_1).Doc.ZH (ZA (nth v1_2 v1_1).Doc.ZE (W ((W ((W (v1_0 + 1)) + 1)) + 1))).2).2 + 1)) + 1)) (W ((W ((W ((ZB (nth v1_2 v1_1).Doc.ZH (ZA (nth v1_2 v1_1).Doc.ZE (W ((W ((W (v1_0 + 1)) + 1)) + 1))).2).2 + 1)) + 1)) + 1)) (W ((W ((W ((W ((ZB (nth v1_2 v1_1).Doc.ZH (ZA (nth v1_2 v1_1).Doc.ZE (W ((W ((W (v1_0 + 1)) + 1)) + 1))).2).2 + 1)) + 1)) + 1)) + 1)) (W ((W ((W ((W ((W ((ZB (nth v1_2 v1_1).Doc.ZH (ZA (nth v1_2 v1_1).Doc.ZE (W ((W ((W (v1_0 + 1)) + 1)) + 1))).2).2 + 1)) + 1)) + 1)) + 1)) + 1)) (W ((W ((W ((W ((W ((W ((ZB (nth v1_2 v1_1).Doc.ZH (ZA (nth v1_2 v1_1).Doc.ZE (W ((W ((W (v1_0 + 1)) + 1)) + 1))).2).2 + 1)) + 1)) + 1)) + 1)) + 1)) + 1)) (nth v1_2 v1_1).Sig.yw (nth v1_2 v1_1).Sig.Mark) (nth v1_2 v1_1).ZL)) rfl, Zp (x := (ZY.mk v1_0 (W (v1_0 + 1)) (ZV.mk (W ((W (v1_0 + 1)) + 1)) (ZA (nth v1_2 v1_1).Doc.ZE (W ((W ((W (v1_0 + 1)) + 1)) + 1))).1 (ZB (nth v1_2 v1_1).Doc.ZH (ZA (nth v1_2 v1_1).Doc.ZE (W ((W ((W (v1_0 + 1)) + 1)) + 1))).2).1) (Zh.mk (ZB (nth v1_2 v1_1).Doc.ZH (ZA (nth v1_2 v1_1).Doc.ZE (W ((W ((W (v1_0 + 1)) + 1)) + 1))).2).2 (W ((ZB (nth v1_2 v1_1).Doc.ZH (ZA (nth v1_2 v1_1).Doc.ZE (W ((W ((W (v1_0 + 1)) + 1)) + 1))).2).2 + 1)) (W ((W ((ZB (nth v1_2 v1_1).Doc.ZH (ZA (nth v1_2 v1_1).Doc.ZE (W ((W ((W (v1_0 + 1)) + 1)) + 1))).2).2 + 1)) + 1)) (W ((W ((W ((ZB (nth v1_2 v1_1).Doc.ZH (ZA (nth v1_2 v1_1).Doc.ZE (W ((W ((W (v1_0 + 1)) + 1)) + 1))).2).2 + 1)) + 1)) + 1)) (W ((W ((W ((W ((ZB (nth v1_2 v1_1).Doc.ZH (ZA (nth v1_2 v1_1).Doc.ZE (W ((W ((W (v1_0 + 1)) + 1)) + 1))).2).2 + 1)) + 1)) + 1)) + 1)) (W ((W ((W ((W ((W ((ZB (nth v1_2 v1_1).Doc.ZH (ZA (nth v1_2 v1_1).Doc.ZE (W ((W ((W (v1_0 + 1)) + 1)) + 1))).2).2 + 1)) + 1)) + 1)) + 1)) + 1)) (W ((W ((W ((W ((W ((W ((ZB (nth v1_2 v1_1).Doc.ZH (ZA (nth v1_2 v1_1).Doc.ZE (W ((W ((W (v1_0 + 1)) + 1)) + 1))).2).2 + 1)) + 1)) + 1)) + 1)) + 1)) + 1)) (W ((W ((W ((W ((W ((W ((W ((ZB (nth v1_2 v1_1).Doc.ZH (ZA (nth v1_2 v1_1).Doc.ZE (W ((W ((W (v1_0 + 1)) + 1)) + 1))).2).2 + 1)) + 1)) + 1)) + 1)) + 1)) + 1)) + 1)) (nth v1_2 v1_1).Sig.Mark) (nth v1_2 v1_1).ZL)) rfl, Zp (x := (ZY.mk v1_0 (W (v1_0 + 1)) (ZV.mk (W ((W (v1_0 + 1)) + 1)) (ZA (nth v1_2 v1_1).Doc.ZE (W ((W ((W (v1_0 + 1)) + 1)) + 1))).1 (ZB (nth v1_2 v1_1).Doc.ZH (ZA (nth v1_2 v1_1).Doc.ZE (W ((W ((W (v1_0 + 1)) + 1)) + 1))).2).1) (Zh.mk (ZB (nth v1_2 v1_1).Doc.ZH (ZA (nth v1_2 v1_1).Doc.ZE (W ((W ((W (v1_0 + 1)) + 1)) + 1))).2).2 (W ((ZB (nth v1_2 v1_1).Doc.ZH (ZA (nth v1_2 v1_1).Doc.ZE (W ((W ((W (v1_0 + 1)) + 1)) + 1))).2).2 + 1)) (W ((W ((ZB (nth v1_2 v1_1).Doc.ZH (ZA (nth v1_2 v1_1).Doc.ZE (W ((W ((W (v1_0 + 1)) + 1)) + 1))).2).2 + 1)) + 1)) (W ((W ((W ((ZB (nth v1_2 v1_1).Doc.ZH (ZA (nth v1_2 v1_1).Doc.ZE (W ((W ((W (v1_0 + 1)) + 1)) + 1))).2).2 + 1)) + 1)) + 1)) (W ((W ((W ((W ((ZB (nth v1_2 v1_1).Doc.ZH (ZA (nth v1_2 v1_1).Doc.ZE (W ((W ((W (v1_0 + 1)) + 1)) + 1))).2).2 + 1)) + 1)) + 1)) + 1)) (W ((W ((W ((W ((W ((ZB (nth v1_2 v1_1).Doc.ZH (ZA (nth v1_2 v1_1).Doc.ZE (W ((W ((W (v1_0 + 1)) + 1)) + 1))).2).2 + 1)) + 1)) + 1)) + 1)) + 1)) (W ((W ((W ((W ((W ((W ((ZB (nth v1_2 v1_1).Doc.ZH (ZA (nth v1_2 v1_1).Doc.ZE (W ((W ((W (v1_0 + 1)) + 1)) + 1))).2).2 + 1)) + 1)) + 1)) + 1)) + 1)) + 1)) (W ((W ((W ((W ((W ((W ((W ((ZB (nth v1_2 v1_1).Doc.ZH (ZA (nth v1_2 v1_1).Doc.ZE (W ((W ((W (v1_0 + 1)) + 1)) + 1))).2).2 + 1)) + 1)) + 1)) + 1)) + 1)) + 1)) + 1)) (W ((W ((W ((W ((W ((W ((W ((W ((ZB (nth v1_2 v1_1).Doc.ZH (ZA (nth v1_2 v1_1).Doc.ZE (W ((W ((W (v1_0 + 1)) + 1)) + 1))).2).2 + 1)) + 1)) + 1)) + 1)) + 1)) + 1)) + 1)) + 1))) (nth v1_2 v1_1).ZL)) rfl]
  repeat with_reducible refine sd ?_
  refine W2 (t := 0) (j := 0) (i := v1_1) (c := 14) (size := 16) (rows := ((v1_2.set v1_1 (ZY.mk v1_0 (W (v1_0 + 1)) (ZV.mk (W ((W (v1_0 + 1)) + 1)) (ZA (nth v1_2 v1_1).Doc.ZE (W ((W ((W (v1_0 + 1)) + 1)) + 1))).1 (ZB (nth v1_2 v1_1).Doc.ZH (ZA (nth v1_2 v1_1).Doc.ZE (W ((W ((W (v1_0 + 1)) + 1)) + 1))).2).1) (Zh.mk (ZB (nth v1_2 v1_1).Doc.ZH (ZA (nth v1_2 v1_1).Doc.ZE (W ((W ((W (v1_0 + 1)) + 1)) + 1))).2).2 (W ((ZB (nth v1_2 v1_1).Doc.ZH (ZA (nth v1_2 v1_1).Doc.ZE (W ((W ((W (v1_0 + 1)) + 1)) + 1))).2).2 + 1)) (W ((W ((ZB (nth v1_2 v1_1).Doc.ZH (ZA (nth v1_2 v1_1).Doc.ZE (W ((W ((W (v1_0 + 1)) + 1)) + 1))).2).2 + 1)) + 1)) (W ((W ((W ((ZB (nth v1_2 v1_1).Doc.ZH (ZA (nth v1_2 v1_1).Doc.ZE (W ((W ((W (v1_0 + 1)) + 1)) + 1))).2).2 + 1)) + 1)) + 1)) (W ((W ((W ((W ((ZB (nth v1_2 v1_1).Doc.ZH (ZA (nth v1_2 v1_1).Doc.ZE (W ((W ((W (v1_0 + 1)) + 1)) + 1))).2).2 + 1)) + 1)) + 1)) + 1)) (W ((W ((W ((W ((W ((ZB (nth v1_2 v1_1).Doc.ZH (ZA (nth v1_2 v1_1).Doc.ZE (W ((W ((W (v1_0 + 1)) + 1)) + 1))).2).2 + 1)) + 1)) + 1)) + 1)) + 1)) (W ((W ((W ((W ((W ((W ((ZB (nth v1_2 v1_1).Doc.ZH (ZA (nth v1_2 v1_1).Doc.ZE (W ((W ((W (v1_0 + 1)) + 1)) + 1))).2).2 + 1)) + 1)) + 1)) + 1)) + 1)) + 1)) (W ((W ((W ((W ((W ((W ((W ((ZB (nth v1_2 v1_1).Doc.ZH (ZA (nth v1_2 v1_1).Doc.ZE (W ((W ((W (v1_0 + 1)) + 1)) + 1))).2).2 + 1)) + 1)) + 1)) + 1)) + 1)) + 1)) + 1)) (W ((W ((W ((W ((W ((W ((W ((W ((ZB (nth v1_2 v1_1).Doc.ZH (ZA (nth v1_2 v1_1).Doc.ZE (W ((W ((W (v1_0 + 1)) + 1)) + 1))).2).2 + 1)) + 1)) + 1)) + 1)) + 1)) + 1)) + 1)) + 1))) (nth v1_2 v1_1).ZL)).map ZY.row)) rfl rfl rfl rfl rfl rfl rfl (Rq (nth v1_2 v1_1).ZL.ZO (W ((W ((W ((W ((W ((W ((W ((W ((W ((ZB (nth v1_2 v1_1).Doc.ZH (ZA (nth v1_2 v1_1).Doc.ZE (W ((W ((W (v1_0 + 1)) + 1)) + 1))).2).2 + 1)) + 1)) + 1)) + 1)) + 1)) + 1)) + 1)) + 1)) + 1))) (by simp) (by simp) (by simp [m2, i1]) (by simp [ZD, Zl, m2, i1]) (by simp) (by simp) (by simp) ?_
  simp [List.set_set, Zp (x := (ZY.mk v1_0 (W (v1_0 + 1)) (ZV.mk (W ((W (v1_0 + 1)) + 1)) (ZA (nth v1_2 v1_1).Doc.ZE (W ((W ((W (v1_0 + 1)) + 1)) + 1))).1 (ZB (nth v1_2 v1_1).Doc.ZH (ZA (nth v1_2 v1_1).Doc.ZE (W ((W ((W (v1_0 + 1)) + 1)) + 1))).2).1) (Zh.mk (ZB (nth v1_2 v1_1).Doc.ZH (ZA (nth v1_2 v1_1).Doc.ZE (W ((W ((W (v1_0 + 1)) + 1)) + 1))).2).2 (W ((ZB (nth v1_2 v1_1).Doc.ZH (ZA (nth v1_2 v1_1).Doc.ZE (W ((W ((W (v1_0 + 1)) + 1)) + 1))).2).2 + 1)) (W ((W ((ZB (nth v1_2 v1_1).Doc.ZH (ZA (nth v1_2 v1_1).Doc.ZE (W ((W ((W (v1_0 + 1)) + 1)) + 1))).2).2 + 1)) + 1)) (W ((W ((W ((ZB (nth v1_2 v1_1).Doc.ZH (ZA (nth v1_2 v1_1).Doc.ZE (W ((W ((W (v1_0 + 1)) + 1)) + 1))).2).2 + 1)) + 1)) + 1)) (W ((W ((W ((W ((ZB (nth v1_2 v1_1).Doc.ZH (ZA (nth v1_2 v1_1).Doc.ZE (W ((W ((W (v1_0 + 1)) + 1)) + 1))).2).2 + 1)) + 1)) + 1)) + 1)) (W ((W ((W ((W ((W ((ZB (nth v1_2 v1_1).Doc.ZH (ZA (nth v1_2 v1_1).Doc.ZE (W ((W ((W (v1_0 + 1)) + 1)) + 1))).2).2 + 1)) + 1)) + 1)) + 1)) + 1)) (W ((W ((W ((W ((W ((W ((ZB (nth v1_2 v1_1).Doc.ZH (ZA (nth v1_2 v1_1).Doc.ZE (W ((W ((W (v1_0 + 1)) + 1)) + 1))).2).2 + 1)) + 1)) + 1)) + 1)) + 1)) + 1)) (W ((W ((W ((W ((W ((W ((W ((ZB (nth v1_2 v1_1).Doc.ZH (ZA (nth v1_2 v1_1).Doc.ZE (W ((W ((W (v1_0 + 1)) + 1)) + 1))).2).2 + 1)) + 1)) + 1)) + 1)) + 1)) + 1)) + 1)) (W ((W ((W ((W ((W ((W ((W ((W ((ZB (nth v1_2 v1_1).Doc.ZH (ZA (nth v1_2 v1_1).Doc.ZE (W ((W ((W (v1_0 + 1)) + 1)) + 1))).2).2 + 1)) + 1)) + 1)) + 1)) + 1)) + 1)) + 1)) + 1))) (Za.mk (Zd (nth v1_2 v1_1).ZL.ZO (W ((W ((W ((W ((W ((W ((W ((W ((W ((ZB (nth v1_2 v1_1).Doc.ZH (ZA (nth v1_2 v1_1).Doc.ZE (W ((W ((W (v1_0 + 1)) + 1)) + 1))).2).2 + 1)) + 1)) + 1)) + 1)) + 1)) + 1)) + 1)) + 1)) + 1))).1 (nth v1_2 v1_1).ZL.ZX))) rfl, ZD, Zl, m2, i1]
  repeat with_reducible refine sd ?_
  refine W2 (t := 0) (j := 0) (i := v1_1) (c := 15) (size := 16) (rows := ((v1_2.set v1_1 (ZY.mk v1_0 (W (v1_0 + 1)) (ZV.mk (W ((W (v1_0 + 1)) + 1)) (ZA (nth v1_2 v1_1).Doc.ZE (W ((W ((W (v1_0 + 1)) + 1)) + 1))).1 (ZB (nth v1_2 v1_1).Doc.ZH (ZA (nth v1_2 v1_1).Doc.ZE (W ((W ((W (v1_0 + 1)) + 1)) + 1))).2).1) (Zh.mk (ZB (nth v1_2 v1_1).Doc.ZH (ZA (nth v1_2 v1_1).Doc.ZE (W ((W ((W (v1_0 + 1)) + 1)) + 1))).2).2 (W ((ZB (nth v1_2 v1_1).Doc.ZH (ZA (nth v1_2 v1_1).Doc.ZE (W ((W ((W (v1_0 + 1)) + 1)) + 1))).2).2 + 1)) (W ((W ((ZB (nth v1_2 v1_1).Doc.ZH (ZA (nth v1_2 v1_1).Doc.ZE (W ((W ((W (v1_0 + 1)) + 1)) + 1))).2).2 + 1)) + 1)) (W ((W ((W ((ZB (nth v1_2 v1_1).Doc.ZH (ZA (nth v1_2 v1_1).Doc.ZE (W ((W ((W (v1_0 + 1)) + 1)) + 1))).2).2 + 1)) + 1)) + 1)) (W ((W ((W ((W ((ZB (nth v1_2 v1_1).Doc.ZH (ZA (nth v1_2 v1_1).Doc.ZE (W ((W ((W (v1_0 + 1)) + 1)) + 1))).2).2 + 1)) + 1)) + 1)) + 1)) (W ((W ((W ((W ((W ((ZB (nth v1_2 v1_1).Doc.ZH (ZA (nth v1_2 v1_1).Doc.ZE (W ((W ((W (v1_0 + 1)) + 1)) + 1))).2).2 + 1)) + 1)) + 1)) + 1)) + 1)) (W ((W ((W ((W ((W ((W ((ZB (nth v1_2 v1_1).Doc.ZH (ZA (nth v1_2 v1_1).Doc.ZE (W ((W ((W (v1_0 + 1)) + 1)) + 1))).2).2 + 1)) + 1)) + 1)) + 1)) + 1)) + 1)) (W ((W ((W ((W ((W ((W ((W ((ZB (nth v1_2 v1_1).Doc.ZH (ZA (nth v1_2 v1_1).Doc.ZE (W ((W ((W (v1_0 + 1)) + 1)) + 1))).2).2 + 1)) + 1)) + 1)) + 1)) + 1)) + 1)) + 1)) (W ((W ((W ((W ((W ((W ((W ((W ((ZB (nth v1_2 v1_1).Doc.ZH (ZA (nth v1_2 v1_1).Doc.ZE (W ((W ((W (v1_0 + 1)) + 1)) + 1))).2).2 + 1)) + 1)) + 1)) + 1)) + 1)) + 1)) + 1)) + 1))) (Za.mk (Zd (nth v1_2 v1_1).ZL.ZO (W ((W ((W ((W ((W ((W ((W ((W ((W ((ZB (nth v1_2 v1_1).Doc.ZH (ZA (nth v1_2 v1_1).Doc.ZE (W ((W ((W (v1_0 + 1)) + 1)) + 1))).2).2 + 1)) + 1)) + 1)) + 1)) + 1)) + 1)) + 1)) + 1)) + 1))).1 (nth v1_2 v1_1).ZL.ZX))).map ZY.row)) rfl rfl rfl rfl rfl rfl rfl (Tv (nth v1_2 v1_1).ZL.ZX (Zd (nth v1_2 v1_1).ZL.ZO (W ((W ((W ((W ((W ((W ((W ((W ((W ((ZB (nth v1_2 v1_1).Doc.ZH (ZA (nth v1_2 v1_1).Doc.ZE (W ((W ((W (v1_0 + 1)) + 1)) + 1))).2).2 + 1)) + 1)) + 1)) + 1)) + 1)) + 1)) + 1)) + 1)) + 1))).2) (by simp) (by simp) (by simp [m2, i1]) (by simp [ZD, Zl, m2, i1]) (by simp) (by simp) (by simp) ?_
  simp [List.set_set, Zp (x := (ZY.mk v1_0 (W (v1_0 + 1)) (ZV.mk (W ((W (v1_0 + 1)) + 1)) (ZA (nth v1_2 v1_1).Doc.ZE (W ((W ((W (v1_0 + 1)) + 1)) + 1))).1 (ZB (nth v1_2 v1_1).Doc.ZH (ZA (nth v1_2 v1_1).Doc.ZE (W ((W ((W (v1_0 + 1)) + 1)) + 1))).2).1) (Zh.mk (ZB (nth v1_2 v1_1).Doc.ZH (ZA (nth v1_2 v1_1).Doc.ZE (W ((W ((W (v1_0 + 1)) + 1)) + 1))).2).2 (W ((ZB (nth v1_2 v1_1).Doc.ZH (ZA (nth v1_2 v1_1).Doc.ZE (W ((W ((W (v1_0 + 1)) + 1)) + 1))).2).2 + 1)) (W ((W ((ZB (nth v1_2 v1_1).Doc.ZH (ZA (nth v1_2 v1_1).Doc.ZE (W ((W ((W (v1_0 + 1)) + 1)) + 1))).2).2 + 1)) + 1)) (W ((W ((W ((ZB (nth v1_2 v1_1).Doc.ZH (ZA (nth v1_2 v1_1).Doc.ZE (W ((W ((W (v1_0 + 1)) + 1)) + 1))).2).2 + 1)) + 1)) + 1)) (W ((W ((W ((W ((ZB (nth v1_2 v1_1).Doc.ZH (ZA (nth v1_2 v1_1).Doc.ZE (W ((W ((W (v1_0 + 1)) + 1)) + 1))).2).2 + 1)) + 1)) + 1)) + 1)) (W ((W ((W ((W ((W ((ZB (nth v1_2 v1_1).Doc.ZH (ZA (nth v1_2 v1_1).Doc.ZE (W ((W ((W (v1_0 + 1)) + 1)) + 1))).2).2 + 1)) + 1)) + 1)) + 1)) + 1)) (W ((W ((W ((W ((W ((W ((ZB (nth v1_2 v1_1).Doc.ZH (ZA (nth v1_2 v1_1).Doc.ZE (W ((W ((W (v1_0 + 1)) + 1)) + 1))).2).2 + 1)) + 1)) + 1)) + 1)) + 1)) + 1)) (W ((W ((W ((W ((W ((W ((W ((ZB (nth v1_2 v1_1).Doc.ZH (ZA (nth v1_2 v1_1).Doc.ZE (W ((W ((W (v1_0 + 1)) + 1)) + 1))).2).2 + 1)) + 1)) + 1)) + 1)) + 1)) + 1)) + 1)) (W ((W ((W ((W ((W ((W ((W ((W ((ZB (nth v1_2 v1_1).Doc.ZH (ZA (nth v1_2 v1_1).Doc.ZE (W ((W ((W (v1_0 + 1)) + 1)) + 1))).2).2 + 1)) + 1)) + 1)) + 1)) + 1)) + 1)) + 1)) + 1))) (Za.mk (Zd (nth v1_2 v1_1).ZL.ZO (W ((W ((W ((W ((W ((W ((W ((W ((W ((ZB (nth v1_2 v1_1).Doc.ZH (ZA (nth v1_2 v1_1).Doc.ZE (W ((W ((W (v1_0 + 1)) + 1)) + 1))).2).2 + 1)) + 1)) + 1)) + 1)) + 1)) + 1)) + 1)) + 1)) + 1))).1 (Zj (nth v1_2 v1_1).ZL.ZX (Zd (nth v1_2 v1_1).ZL.ZO (W ((W ((W ((W ((W ((W ((W ((W ((W ((ZB (nth v1_2 v1_1).Doc.ZH (ZA (nth v1_2 v1_1).Doc.ZE (W ((W ((W (v1_0 + 1)) + 1)) + 1))).2).2 + 1)) + 1)) + 1)) + 1)) + 1)) + 1)) + 1)) + 1)) + 1))).2).1))) rfl, ZD, Zl, m2, i1]
  repeat with_reducible refine sd ?_
  refine PO ⟨(p1, (Zj (nth v1_2 v1_1).ZL.ZX (Zd (nth v1_2 v1_1).ZL.ZO (W ((W ((W ((W ((W ((W ((W ((W ((W ((ZB (nth v1_2 v1_1).Doc.ZH (ZA (nth v1_2 v1_1).Doc.ZE (W ((W ((W (v1_0 + 1)) + 1)) + 1))).2).2 + 1)) + 1)) + 1)) + 1)) + 1)) + 1)) + 1)) + 1)) + 1))).2).2, (v1_1 + 1), (v1_2.set v1_1 (ZY.mk v1_0 (W (v1_0 + 1)) (ZV.mk (W ((W (v1_0 + 1)) + 1)) (ZA (nth v1_2 v1_1).Doc.ZE (W ((W ((W (v1_0 + 1)) + 1)) + 1))).1 (ZB (nth v1_2 v1_1).Doc.ZH (ZA (nth v1_2 v1_1).Doc.ZE (W ((W ((W (v1_0 + 1)) + 1)) + 1))).2).1) (Zh.mk (ZB (nth v1_2 v1_1).Doc.ZH (ZA (nth v1_2 v1_1).Doc.ZE (W ((W ((W (v1_0 + 1)) + 1)) + 1))).2).2 (W ((ZB (nth v1_2 v1_1).Doc.ZH (ZA (nth v1_2 v1_1).Doc.ZE (W ((W ((W (v1_0 + 1)) + 1)) + 1))).2).2 + 1)) (W ((W ((ZB (nth v1_2 v1_1).Doc.ZH (ZA (nth v1_2 v1_1).Doc.ZE (W ((W ((W (v1_0 + 1)) + 1)) + 1))).2).2 + 1)) + 1)) (W ((W ((W ((ZB (nth v1_2 v1_1).Doc.ZH (ZA (nth v1_2 v1_1).Doc.ZE (W ((W ((W (v1_0 + 1)) + 1)) + 1))).2).2 + 1)) + 1)) + 1)) (W ((W ((W ((W ((ZB (nth v1_2 v1_1).Doc.ZH (ZA (nth v1_2 v1_1).Doc.ZE (W ((W ((W (v1_0 + 1)) + 1)) + 1))).2).2 + 1)) + 1)) + 1)) + 1)) (W ((W ((W ((W ((W ((ZB (nth v1_2 v1_1).Doc.ZH (ZA (nth v1_2 v1_1).Doc.ZE (W ((W ((W (v1_0 + 1)) + 1)) + 1))).2).2 + 1)) + 1)) + 1)) + 1)) + 1)) (W ((W ((W ((W ((W ((W ((ZB (nth v1_2 v1_1).Doc.ZH (ZA (nth v1_2 v1_1).Doc.ZE (W ((W ((W (v1_0 + 1)) + 1)) + 1))).2).2 + 1)) + 1)) + 1)) + 1)) + 1)) + 1)) (W ((W ((W ((W ((W ((W ((W ((ZB (nth v1_2 v1_1).Doc.ZH (ZA (nth v1_2 v1_1).Doc.ZE (W ((W ((W (v1_0 + 1)) + 1)) + 1))).2).2 + 1)) + 1)) + 1)) + 1)) + 1)) + 1)) + 1)) (W ((W ((W ((W ((W ((W ((W ((W ((ZB (nth v1_2 v1_1).Doc.ZH (ZA (nth v1_2 v1_1).Doc.ZE (W ((W ((W (v1_0 + 1)) + 1)) + 1))).2).2 + 1)) + 1)) + 1)) + 1)) + 1)) + 1)) + 1)) + 1))) (Za.mk (Zd (nth v1_2 v1_1).ZL.ZO (W ((W ((W ((W ((W ((W ((W ((W ((W ((ZB (nth v1_2 v1_1).Doc.ZH (ZA (nth v1_2 v1_1).Doc.ZE (W ((W ((W (v1_0 + 1)) + 1)) + 1))).2).2 + 1)) + 1)) + 1)) + 1)) + 1)) + 1)) + 1)) + 1)) + 1))).1 (Zj (nth v1_2 v1_1).ZL.ZX (Zd (nth v1_2 v1_1).ZL.ZO (W ((W ((W ((W ((W ((W ((W ((W ((W ((ZB (nth v1_2 v1_1).Doc.ZH (ZA (nth v1_2 v1_1).Doc.ZE (W ((W ((W (v1_0 + 1)) + 1)) + 1))).2).2 + 1)) + 1)) + 1)) + 1)) + 1)) + 1)) + 1)) + 1)) + 1))).2).1)))), ?_, ?_⟩ (by simp) (XG (by simp [w1]))
  · rw [← e1]; simp only [Qm, h1, Yy, Yk]
  · (simp; omega)
 ·have q1 := h1; try simp at q1
  have x1 : Qm (a0.length + 1) a1 0 a0 = (v1_0, v1_2) := by rw [← e1]; simp only [Qm, h1, Yy, Yk]
  simp
  refine TP (rv := [.tmp 4]) rfl ?_
  have f1 := Z1.eq_1 a0 a1; simp only [x1, Yy, Yk] at f1; simp [f1]
theorem TV (a0 : List ZF) (a1 : Int) : Q5 Tryz.prog 41 (rL 2 ZF.row a0) [rI a1] (rL 2 ZF.row (Zv a0 a1).1) (.int .i64 (Zv a0 a1).2) := by
 refine QS Tryz.func41 rfl (by kernel_rfl) (fun v => ?_)
 simp [Tryz.ntmps41]
 refine okL fun k1 => ?_
 refine Wq (ι := { s : Nat × Int × Nat × (List ZF) // Xy s.1 s.2.1 s.2.2.1 s.2.2.2 = Xy (a0.length + 1) a1 0 a0 ∧ (1 ≤ s.1 ∧ s.2.2.2.length < s.1 + s.2.2.1) }) (fun s => Ya 27 [(0, .fix v (.one (.sref 0 0 0 s.1.2.2.2.length)), [.arr true 2 (s.1.2.2.2.map ZF.row)]), eI 1 s.1.2.1, eI 5 (↑s.1.2.2.1 : Int)]) (fun s => s.1.1) ⟨((a0.length + 1), a1, 0, a0), rfl, by first | omega | (dsimp only; omega) | simp⟩ (XG (by simp)) ?_
 rintro ⟨⟨n1, v1_0, v1_1, v1_2⟩, e1, j1⟩
 try dsimp only at e1 j1
 obtain ⟨p1, rfl⟩ : ∃ p, n1 = p + 1 := ⟨n1 - 1, by omega⟩
 simp
 refine cC (decide ((↑v1_1 : Int) < (↑v1_2.length : Int))) (fun k2 h1 => ?_) (fun k2 h1 => ?_)
 ·have q1 := h1; try simp at q1
  have i1 : v1_1 < v1_2.length := by simpa using h1
  have m2 : v1_2.length ≤ 9223372036854775807 := by simpa using k2 0 _ rfl
  have w1 : IntKind.i64.wrap ((v1_1 : Int) + 1) = (v1_1 : Int) + 1 := ZW (by omega) (by omega)
  simp [i1, ZD, Zp (x := (ZF.mk v1_0 (nth v1_2 v1_1).ZM)) rfl, Zl]
  repeat with_reducible refine sd ?_
  refine W2 (t := 0) (j := 0) (i := v1_1) (c := 1) (size := 2) (rows := ((v1_2.set v1_1 (ZF.mk v1_0 (nth v1_2 v1_1).ZM)).map ZF.row)) rfl rfl rfl rfl rfl rfl rfl (OP (nth v1_2 v1_1).ZM (W (v1_0 + 1))) (by simp) (by simp) (by simp [m2, i1]) (by simp [ZD, Zl, m2, i1]) (by simp) (by simp) (by simp) ?_
  simp [List.set_set, Zp (x := (ZF.mk v1_0 (Z1 (nth v1_2 v1_1).ZM (W (v1_0 + 1))).1)) rfl, ZD, Zl, m2, i1]
  repeat with_reducible refine sd ?_
  refine PO ⟨(p1, (Z1 (nth v1_2 v1_1).ZM (W (v1_0 + 1))).2, (v1_1 + 1), (v1_2.set v1_1 (ZF.mk v1_0 (Z1 (nth v1_2 v1_1).ZM (W (v1_0 + 1))).1))), ?_, ?_⟩ (by simp) (XG (by simp [w1]))
  · rw [← e1]; simp only [Xy, h1, Yy, Yk]
  · (simp; omega)
 ·have q1 := h1; try simp at q1
  have x1 : Xy (a0.length + 1) a1 0 a0 = (v1_0, v1_2) := by rw [← e1]; simp only [Xy, h1, Yy, Yk]
  simp
  refine TP (rv := [.tmp 4]) rfl ?_
  have f1 := Zv.eq_1 a0 a1; simp only [x1, Yy, Yk] at f1; simp [f1]
theorem yZ (a0 : ZZ) (a1 : Int) : Q5 Tryz.prog 12 a0.row [rI a1] (Ze a0 a1).1.row (.int .i64 (Ze a0 a1).2) := by
 refine QS Tryz.func12 rfl (by kernel_rfl) (fun v => ?_)
 simp [Tryz.ntmps12]
 refine zd (ats := [.sref 0 0 0 a0.Frame.YV.length, .sref 0 1 0 a0.Frame.ZC.length, .sref 0 2 0 a0.Frame.Methods.length, .d (.int .i64 a0.Frame.zN), .d (.int .i64 a0.Frame.Now)]) rfl rfl rfl rfl rfl rfl rfl (NM a0.Frame a1) (by simp) (by simp) (by simp) (by simp) (by simp) (by simp) (by simp) (by simp) (by simp) ?_
 simp
 refine zd (ats := [.sref 0 5 0 a0.Zy.length]) rfl rfl rfl rfl rfl rfl rfl (Ot a0.Zy (Zi a0.Frame a1).2) (by simp) (by simp) (by simp) (by simp) (by simp) (by simp) (by simp) (by simp) (by simp) ?_
 simp
 refine zd (ats := [.sref 0 6 0 a0.Z3.length]) rfl rfl rfl rfl rfl rfl rfl (JY a0.Z3 (Zw a0.Zy (Zi a0.Frame a1).2).2) (by simp) (by simp) (by simp) (by simp) (by simp) (by simp) (by simp) (by simp) (by simp) ?_
 simp
 refine zd (ats := [.sref 0 7 0 a0.ZI.length]) rfl rfl rfl rfl rfl rfl rfl (TV a0.ZI (ZB a0.Z3 (Zw a0.Zy (Zi a0.Frame a1).2).2).2) (by simp) (by simp) (by simp) (by simp) (by simp) (by simp) (by simp) (by simp) (by simp) ?_
 simp
 refine zd (ats := [.sref 0 8 0 a0.YZ.length]) rfl rfl rfl rfl rfl rfl rfl (JY a0.YZ (Zv a0.ZI (ZB a0.Z3 (Zw a0.Zy (Zi a0.Frame a1).2).2).2).2) (by simp) (by simp) (by simp) (by simp) (by simp) (by simp) (by simp) (by simp) (by simp) ?_
 simp
 refine zd (ats := [.sref 0 9 0 a0.Yl.length]) rfl rfl rfl rfl rfl rfl rfl (JY a0.Yl (ZB a0.YZ (Zv a0.ZI (ZB a0.Z3 (Zw a0.Zy (Zi a0.Frame a1).2).2).2).2).2) (by simp) (by simp) (by simp) (by simp) (by simp) (by simp) (by simp) (by simp) (by simp) ?_
 simp
 refine zd (ats := [.sref 0 11 0 a0.Ym.length]) rfl rfl rfl rfl rfl rfl rfl (JY a0.Ym (ZB a0.Yl (ZB a0.YZ (Zv a0.ZI (ZB a0.Z3 (Zw a0.Zy (Zi a0.Frame a1).2).2).2).2).2).2) (by simp) (by simp) (by simp) (by simp) (by simp) (by simp) (by simp) (by simp) (by simp) ?_
 simp
 refine TP (rv := [.tmp 4]) rfl ?_
 have f1 := Ze.eq_1 a0 a1; simp [f1]
theorem N0 (a0 : List YG) (a1 : Int) : Sa 100 [rL 5 YG.row a0, rI a1] [rI (Jd a0 a1)] := by
 have f := me (Jd.eq_1 a0 a1)
 refine so Tryz.func100 Tryz.ntmps100 ?_
 refine lp2 (qb.eq_2 a0) (fun v1_0 v1_1 => Ya 58 [eL 0 5 a0 YG.row, eI 1 v1_0, eI 5 (↑v1_1 : Int)]) (fun n1 v1_0 v1_1 => a0.length < n1 + v1_1 ∧ v1_1 ≤ a0.length) (a0.length + 1) a1 0 (fun p1 v1_0 v1_1 e1 j1 => ?_)
 refine cFf e1 ?_ ?_ <;> intro k2 h1 e1
 ·have i1 := ix h1
  have m2 := ml a0 (k2 0 _ rfl)
  have w1 := wr v1_1
  simp [i1, ZD]
  repeat with_reducible refine sd ?_
  refine cFt e1 ?_ ?_ <;> intro k3 h2 e1
  ·have f := ms f e1
   exact rt [.tmp 4] f
  simp [i1, ZD]
  repeat with_reducible refine sd ?_
  refine cFt e1 ?_ ?_ <;> intro k4 h3 e1
  ·have f := ms f e1
   exact rt [.tmp 4] f
  simp [i1, ZD]
  repeat with_reducible refine sd ?_
  refine cFt e1 ?_ ?_ <;> intro k5 h4 e1
  ·have f := ms f e1
   exact rt [.tmp 4] f
  simp [i1, ZD]
  repeat with_reducible refine sd ?_
  refine cFt e1 ?_ ?_ <;> intro k6 h5 e1
  ·have f := ms f e1
   exact rt [.tmp 4] f
  simp [i1, ZD]
  repeat with_reducible refine sd ?_
  refine cF e1 ?_ ?_ <;> intro k7 h6 e1
  ·have f := ms f e1
   exact rt [.tmp 4] f
  exact ny2 w1 e1
 have f := ms f e1
 exact rt [.tmp 4] f
theorem V8 (a0 : List ZJ) (a1 : Int) : Sa 101 [rL 3 ZJ.row a0, rI a1] [rI (Xw a0 a1)] := by
 have f := me (Xw.eq_1 a0 a1)
 refine so Tryz.func101 Tryz.ntmps101 ?_
 refine lp2 (J6.eq_2 a0) (fun v1_0 v1_1 => Ya 40 [eL 0 3 a0 ZJ.row, eI 1 v1_0, eI 5 (↑v1_1 : Int)]) (fun n1 v1_0 v1_1 => a0.length < n1 + v1_1 ∧ v1_1 ≤ a0.length) (a0.length + 1) a1 0 (fun p1 v1_0 v1_1 e1 j1 => ?_)
 refine cFf e1 ?_ ?_ <;> intro k2 h1 e1
 ·have i1 := ix h1
  have m2 := ml a0 (k2 0 _ rfl)
  have w1 := wr v1_1
  simp [i1, ZD]
  repeat with_reducible refine sd ?_
  refine cFt e1 ?_ ?_ <;> intro k3 h2 e1
  ·have f := ms f e1
   exact rt [.tmp 4] f
  simp [i1, ZD]
  repeat with_reducible refine sd ?_
  refine cFt e1 ?_ ?_ <;> intro k4 h3 e1
  ·have f := ms f e1
   exact rt [.tmp 4] f
  simp [i1, ZD]
  repeat with_reducible refine sd ?_
  refine cF e1 ?_ ?_ <;> intro k5 h4 e1
  ·have f := ms f e1
   exact rt [.tmp 4] f
  exact ny2 w1 e1
 have f := ms f e1
 exact rt [.tmp 4] f
theorem SK (a0 : List Zc) (a1 : Int) : Sa 102 [rL 4 Zc.row a0, rI a1] [rI (KG a0 a1)] := by
 have f := me (KG.eq_1 a0 a1)
 refine so Tryz.func102 Tryz.ntmps102 ?_
 refine lp2 (zY.eq_2 a0) (fun v1_0 v1_1 => Ya 49 [eL 0 4 a0 Zc.row, eI 1 v1_0, eI 5 (↑v1_1 : Int)]) (fun n1 v1_0 v1_1 => a0.length < n1 + v1_1 ∧ v1_1 ≤ a0.length) (a0.length + 1) a1 0 (fun p1 v1_0 v1_1 e1 j1 => ?_)
 refine cFf e1 ?_ ?_ <;> intro k2 h1 e1
 ·have i1 := ix h1
  have m2 := ml a0 (k2 0 _ rfl)
  have w1 := wr v1_1
  simp [i1, ZD]
  repeat with_reducible refine sd ?_
  refine cFt e1 ?_ ?_ <;> intro k3 h2 e1
  ·have f := ms f e1
   exact rt [.tmp 4] f
  simp [i1, ZD]
  repeat with_reducible refine sd ?_
  refine cFt e1 ?_ ?_ <;> intro k4 h3 e1
  ·have f := ms f e1
   exact rt [.tmp 4] f
  simp [i1, ZD]
  repeat with_reducible refine sd ?_
  refine cFt e1 ?_ ?_ <;> intro k5 h4 e1
  ·have f := ms f e1
   exact rt [.tmp 4] f
  simp [i1, ZD]
  repeat with_reducible refine sd ?_
  refine cF e1 ?_ ?_ <;> intro k6 h5 e1
  ·have f := ms f e1
   exact rt [.tmp 4] f
  exact ny2 w1 e1
 have f := ms f e1
 exact rt [.tmp 4] f
theorem ON (a0 : YF) (a1 : Int) : Sa 42 [a0.row, rI a1] [rI (XE a0 a1)] := by
 have f := me (XE.eq_1 a0 a1)
 refine so Tryz.func42 Tryz.ntmps42 ?_
 refine cRs (N0 a0.YV a1) ?_
 refine cF f ?_ ?_ <;> intro k1 h1 f
 ·exact rt [.tmp 4] f
 refine cRs (V8 a0.ZC (Jd a0.YV a1)) ?_
 refine cF f ?_ ?_ <;> intro k2 h2 f
 ·exact rt [.tmp 4] f
 refine cRs (SK a0.Methods (Xw a0.ZC (Jd a0.YV a1))) ?_
 refine cF f ?_ ?_ <;> intro k3 h3 f
 ·exact rt [.tmp 4] f
 exact rt [.tmp 4] f
theorem OG (a0 : List Z0) (a1 : Int) : Sa 43 [rL 7 Z0.row a0, rI a1] [rI (XP a0 a1)] := by
 have f := me (XP.eq_1 a0 a1)
 refine so Tryz.func43 Tryz.ntmps43 ?_
 refine lp2 (xS.eq_2 a0) (fun v1_0 v1_1 => Ya 76 [eL 0 7 a0 Z0.row, eI 1 v1_0, eI 5 (↑v1_1 : Int)]) (fun n1 v1_0 v1_1 => a0.length < n1 + v1_1 ∧ v1_1 ≤ a0.length) (a0.length + 1) a1 0 (fun p1 v1_0 v1_1 e1 j1 => ?_)
 refine cFf e1 ?_ ?_ <;> intro k2 h1 e1
 ·have i1 := ix h1
  have m2 := ml a0 (k2 0 _ rfl)
  have w1 := wr v1_1
  simp [i1, ZD]
  repeat with_reducible refine sd ?_
  refine cFt e1 ?_ ?_ <;> intro k3 h2 e1
  ·have f := ms f e1
   exact rt [.tmp 4] f
  simp [i1, ZD]
  repeat with_reducible refine sd ?_
  refine cFt e1 ?_ ?_ <;> intro k4 h3 e1
  ·have f := ms f e1
   exact rt [.tmp 4] f
  simp [i1, ZD]
  repeat with_reducible refine sd ?_
  refine cFt e1 ?_ ?_ <;> intro k5 h4 e1
  ·have f := ms f e1
   exact rt [.tmp 4] f
  simp [i1, ZD]
  repeat with_reducible refine sd ?_
  refine cFt e1 ?_ ?_ <;> intro k6 h5 e1
  ·have f := ms f e1
   exact rt [.tmp 4] f
  simp [i1, ZD]
  repeat with_reducible refine sd ?_
  refine cFt e1 ?_ ?_ <;> intro k7 h6 e1
  ·have f := ms f e1
   exact rt [.tmp 4] f
  simp [i1, ZD]
  repeat with_reducible refine sd ?_
  refine cFt e1 ?_ ?_ <;> intro k8 h7 e1
  ·have f := ms f e1
   exact rt [.tmp 4] f
  simp [i1, ZD]
  repeat with_reducible refine sd ?_
  refine cF e1 ?_ ?_ <;> intro k9 h8 e1
  ·have f := ms f e1
   exact rt [.tmp 4] f
  exact ny2 w1 e1
 have f := ms f e1
 exact rt [.tmp 4] f
theorem KJ (a0 : List Int) (a1 : Int) : Sa 44 [rL 1 iR a0, rI a1] [rI (Zb a0 a1)] := by
 have f := me (Zb.eq_1 a0 a1)
 refine so Tryz.func44 Tryz.ntmps44 ?_
 refine lp2 (qN.eq_2 a0) (fun v1_0 v1_1 => Ya 21 [eL 0 1 a0 iR, eI 1 v1_0, eI 5 (↑v1_1 : Int)]) (fun n1 v1_0 v1_1 => a0.length < n1 + v1_1 ∧ v1_1 ≤ a0.length) (a0.length + 1) a1 0 (fun p1 v1_0 v1_1 e1 j1 => ?_)
 refine cFf e1 ?_ ?_ <;> intro k2 h1 e1
 ·have i1 := ix h1
  have m2 := ml a0 (k2 0 _ rfl)
  have w1 := wr v1_1
  simp [i1, ZD]
  repeat with_reducible refine sd ?_
  refine cF e1 ?_ ?_ <;> intro k3 h2 e1
  ·have f := ms f e1
   exact rt [.tmp 4] f
  exact ny2 w1 e1
 have f := ms f e1
 exact rt [.tmp 4] f
theorem Sr (a0 : List ByteArray) (a1 : Int) : Sa 154 [rL 1 sR a0, rI a1] [rI (Zf a0 a1)] := by
 have f := me (Zf.eq_1 a0 a1)
 refine so Tryz.func154 Tryz.ntmps154 ?_
 refine lp2 (zV.eq_2 a0) (fun v1_0 v1_1 => Ya 22 [eL 0 1 a0 sR, eI 1 v1_0, eI 5 (↑v1_1 : Int)]) (fun n1 v1_0 v1_1 => a0.length < n1 + v1_1 ∧ v1_1 ≤ a0.length) (a0.length + 1) a1 0 (fun p1 v1_0 v1_1 e1 j1 => ?_)
 refine cF e1 ?_ ?_ <;> intro k2 h1 e1
 ·have i1 := ix h1
  have m2 := ml a0 (k2 0 _ rfl)
  have w1 := wr v1_1
  refine dIo mixed ?_
  simp [i1, ZD]
  repeat with_reducible refine sd ?_
  refine cRs (UE v1_0) ?_
  refine cF e1 ?_ ?_ <;> intro k4 h2 e1
  ·have f := ms f e1
   exact rt [.tmp 4] f
  exact ny2 w1 e1
 have f := ms f e1
 exact rt [.tmp 4] f
theorem R6 (a0 : List ZN) (a1 : Int) : Sa 155 [rL 3 ZN.row a0, rI a1] [rI (XQ a0 a1)] := by
 have f := me (XQ.eq_1 a0 a1)
 refine so Tryz.func155 Tryz.ntmps155 ?_
 refine lp2 (yG.eq_2 a0) (fun v1_0 v1_1 => Ya 40 [eL 0 3 a0 ZN.row, eI 1 v1_0, eI 5 (↑v1_1 : Int)]) (fun n1 v1_0 v1_1 => a0.length < n1 + v1_1 ∧ v1_1 ≤ a0.length) (a0.length + 1) a1 0 (fun p1 v1_0 v1_1 e1 j1 => ?_)
 refine cFf e1 ?_ ?_ <;> intro k2 h1 e1
 ·have i1 := ix h1
  have m2 := ml a0 (k2 0 _ rfl)
  have w1 := wr v1_1
  simp [i1, ZD]
  repeat with_reducible refine sd ?_
  refine cFt e1 ?_ ?_ <;> intro k3 h2 e1
  ·have f := ms f e1
   exact rt [.tmp 4] f
  simp [i1, ZD]
  repeat with_reducible refine sd ?_
  refine cRs (KJ (nth a0 v1_1).Y7 (W (v1_0 + 1))) ?_ (hrows := by first | (simp; done) | (simp [W, w1]; done))
  refine cFt e1 ?_ ?_ <;> intro k4 h3 e1
  ·have f := ms f e1
   exact rt [.tmp 4] f
  simp [i1, ZD]
  repeat with_reducible refine sd ?_
  refine cF e1 ?_ ?_ <;> intro k5 h4 e1
  ·have f := ms f e1
   exact rt [.tmp 4] f
  exact ny2 w1 e1
 have f := ms f e1
 exact rt [.tmp 4] f
theorem Ov (a0 : List Zk) (a1 : Int) : Sa 189 [rL 2 Zk.row a0, rI a1] [rI (Xh a0 a1)] := by
 have f := me (Xh.eq_1 a0 a1)
 refine so Tryz.func189 Tryz.ntmps189 ?_
 refine lp2 (xX.eq_2 a0) (fun v1_0 v1_1 => Ya 33 [eL 0 2 a0 Zk.row, eI 1 v1_0, eI 5 (↑v1_1 : Int)]) (fun n1 v1_0 v1_1 => a0.length < n1 + v1_1 ∧ v1_1 ≤ a0.length) (a0.length + 1) a1 0 (fun p1 v1_0 v1_1 e1 j1 => ?_)
 refine cFf e1 ?_ ?_ <;> intro k2 h1 e1
 ·have i1 := ix h1
  have m2 := ml a0 (k2 0 _ rfl)
  have w1 := wr v1_1
  simp [i1, ZD]
  repeat with_reducible refine sd ?_
  refine cFt e1 ?_ ?_ <;> intro k3 h2 e1
  ·have f := ms f e1
   exact rt [.tmp 4] f
  simp [i1, ZD]
  repeat with_reducible refine sd ?_
  refine cF e1 ?_ ?_ <;> intro k4 h3 e1
  ·have f := ms f e1
   exact rt [.tmp 4] f
  exact ny2 w1 e1
 have f := ms f e1
 exact rt [.tmp 4] f
theorem Rx (a0 : List ZQ) (a1 : Int) : Sa 190 [rL 5 ZQ.row a0, rI a1] [rI (QK a0 a1)] := by
 have f := me (QK.eq_1 a0 a1)
 refine so Tryz.func190 Tryz.ntmps190 ?_
 refine lp2 (yY.eq_2 a0) (fun v1_0 v1_1 => Ya 58 [eL 0 5 a0 ZQ.row, eI 1 v1_0, eI 5 (↑v1_1 : Int)]) (fun n1 v1_0 v1_1 => a0.length < n1 + v1_1 ∧ v1_1 ≤ a0.length) (a0.length + 1) a1 0 (fun p1 v1_0 v1_1 e1 j1 => ?_)
 refine cFf e1 ?_ ?_ <;> intro k2 h1 e1
 ·have i1 := ix h1
  have m2 := ml a0 (k2 0 _ rfl)
  have w1 := wr v1_1
  simp [i1, ZD]
  repeat with_reducible refine sd ?_
  refine cFt e1 ?_ ?_ <;> intro k3 h2 e1
  ·have f := ms f e1
   exact rt [.tmp 4] f
  simp [i1, ZD]
  repeat with_reducible refine sd ?_
  refine cFt e1 ?_ ?_ <;> intro k4 h3 e1
  ·have f := ms f e1
   exact rt [.tmp 4] f
  simp [i1, ZD]
  repeat with_reducible refine sd ?_
  refine cFt e1 ?_ ?_ <;> intro k5 h4 e1
  ·have f := ms f e1
   exact rt [.tmp 4] f
  simp [i1, ZD]
  repeat with_reducible refine sd ?_
  refine cFt e1 ?_ ?_ <;> intro k6 h5 e1
  ·have f := ms f e1
   exact rt [.tmp 4] f
  simp [i1, ZD]
  repeat with_reducible refine sd ?_
  refine cF e1 ?_ ?_ <;> intro k7 h6 e1
  ·have f := ms f e1
   exact rt [.tmp 4] f
  exact ny2 w1 e1
 have f := ms f e1
 exact rt [.tmp 4] f
theorem Tf (a0 : List ZG) (a1 : Int) : Sa 156 [rL 5 ZG.row a0, rI a1] [rI (Xl a0 a1)] := by
 have f := me (Xl.eq_1 a0 a1)
 refine so Tryz.func156 Tryz.ntmps156 ?_
 refine lp2 (Ks.eq_2 a0) (fun v1_0 v1_1 => Ya 58 [eL 0 5 a0 ZG.row, eI 1 v1_0, eI 5 (↑v1_1 : Int)]) (fun n1 v1_0 v1_1 => a0.length < n1 + v1_1 ∧ v1_1 ≤ a0.length) (a0.length + 1) a1 0 (fun p1 v1_0 v1_1 e1 j1 => ?_)
 refine cFf e1 ?_ ?_ <;> intro k2 h1 e1
 ·have i1 := ix h1
  have m2 := ml a0 (k2 0 _ rfl)
  have w1 := wr v1_1
  simp [i1, ZD]
  repeat with_reducible refine sd ?_
  refine cFt e1 ?_ ?_ <;> intro k3 h2 e1
  ·have f := ms f e1
   exact rt [.tmp 4] f
  simp [i1, ZD]
  repeat with_reducible refine sd ?_
  refine cFt e1 ?_ ?_ <;> intro k4 h3 e1
  ·have f := ms f e1
   exact rt [.tmp 4] f
  simp [i1, ZD]
  repeat with_reducible refine sd ?_
  refine cFt e1 ?_ ?_ <;> intro k5 h4 e1
  ·have f := ms f e1
   exact rt [.tmp 4] f
  simp [i1, ZD]
  repeat with_reducible refine sd ?_
  refine cRs (Ov (nth a0 v1_1).Path (W ((W ((W (v1_0 + 1)) + 1)) + 1))) ?_ (hrows := by first | (simp; done) | (simp [W, w1]; done))
  refine cFt e1 ?_ ?_ <;> intro k6 h5 e1
  ·have f := ms f e1
   exact rt [.tmp 4] f
  simp [i1, ZD]
  repeat with_reducible refine sd ?_
  refine cRs (Rx (nth a0 v1_1).Zx (Xh (nth a0 v1_1).Path (W ((W ((W (v1_0 + 1)) + 1)) + 1)))) ?_ (hrows := by first | (simp; done) | (simp [W, w1]; done))
  refine cF e1 ?_ ?_ <;> intro k7 h6 e1
  ·have f := ms f e1
   exact rt [.tmp 4] f
  exact ny2 w1 e1
 have f := ms f e1
 exact rt [.tmp 4] f
theorem O7 (a0 : List ZY) (a1 : Int) : Sa 103 [rL 16 ZY.row a0, rI a1] [rI (Qp a0 a1)] := by
 have f := me (Qp.eq_1 a0 a1)
 refine so Tryz.func103 Tryz.ntmps103 ?_
 refine lp2 (xL.eq_2 a0) (fun v1_0 v1_1 => Ya 171 [eL 0 16 a0 ZY.row, eI 1 v1_0, eI 5 (↑v1_1 : Int)]) (fun n1 v1_0 v1_1 => a0.length < n1 + v1_1 ∧ v1_1 ≤ a0.length) (a0.length + 1) a1 0 (fun p1 v1_0 v1_1 e1 j1 => ?_)
 refine cFf e1 ?_ ?_ <;> intro k2 h1 e1
 ·have i1 := ix h1
  have m2 := ml a0 (k2 0 _ rfl)
  have w1 := wr v1_1
  simp [i1, ZD]
  repeat with_reducible refine sd ?_
  refine cFt e1 ?_ ?_ <;> intro k3 h2 e1
  ·have f := ms f e1
   exact rt [.tmp 4] f
  simp [i1, ZD]
  repeat with_reducible refine sd ?_
  refine cFt e1 ?_ ?_ <;> intro k4 h3 e1
  ·have f := ms f e1
   exact rt [.tmp 4] f
  simp [i1, ZD]
  repeat with_reducible refine sd ?_
  refine cFt e1 ?_ ?_ <;> intro k5 h4 e1
  ·have f := ms f e1
   exact rt [.tmp 4] f
  simp [i1, ZD]
  repeat with_reducible refine sd ?_
  refine cRs (Sr (nth a0 v1_1).Doc.ZE (W ((W ((W (v1_0 + 1)) + 1)) + 1))) ?_ (hrows := by first | (simp; done) | (simp [W, w1]; done))
  refine cFt e1 ?_ ?_ <;> intro k6 h5 e1
  ·have f := ms f e1
   exact rt [.tmp 4] f
  simp [i1, ZD]
  repeat with_reducible refine sd ?_
  refine cRs (KJ (nth a0 v1_1).Doc.ZH (Zf (nth a0 v1_1).Doc.ZE (W ((W ((W (v1_0 + 1)) + 1)) + 1)))) ?_ (hrows := by first | (simp; done) | (simp [W, w1]; done))
  refine cFt e1 ?_ ?_ <;> intro k7 h6 e1
  ·have f := ms f e1
   exact rt [.tmp 4] f
  simp [i1, ZD]
  repeat with_reducible refine sd ?_
  refine cFt e1 ?_ ?_ <;> intro k8 h7 e1
  ·have f := ms f e1
   exact rt [.tmp 4] f
  simp [i1, ZD]
  repeat with_reducible refine sd ?_
  refine cFt e1 ?_ ?_ <;> intro k9 h8 e1
  ·have f := ms f e1
   exact rt [.tmp 4] f
  simp [i1, ZD]
  repeat with_reducible refine sd ?_
  refine cFt e1 ?_ ?_ <;> intro k10 h9 e1
  ·have f := ms f e1
   exact rt [.tmp 4] f
  simp [i1, ZD]
  repeat with_reducible refine sd ?_
  refine cFt e1 ?_ ?_ <;> intro k11 h10 e1
  ·have f := ms f e1
   exact rt [.tmp 4] f
  simp [i1, ZD]
  repeat with_reducible refine sd ?_
  refine cFt e1 ?_ ?_ <;> intro k12 h11 e1
  ·have f := ms f e1
   exact rt [.tmp 4] f
  simp [i1, ZD]
  repeat with_reducible refine sd ?_
  refine cFt e1 ?_ ?_ <;> intro k13 h12 e1
  ·have f := ms f e1
   exact rt [.tmp 4] f
  simp [i1, ZD]
  repeat with_reducible refine sd ?_
  refine cFt e1 ?_ ?_ <;> intro k14 h13 e1
  ·have f := ms f e1
   exact rt [.tmp 4] f
  simp [i1, ZD]
  repeat with_reducible refine sd ?_
  refine cFt e1 ?_ ?_ <;> intro k15 h14 e1
  ·have f := ms f e1
   exact rt [.tmp 4] f
  simp [i1, ZD]
  repeat with_reducible refine sd ?_
  refine cFt e1 ?_ ?_ <;> intro k16 h15 e1
  ·have f := ms f e1
   exact rt [.tmp 4] f
  simp [i1, ZD]
  repeat with_reducible refine sd ?_
  refine cRs (R6 (nth a0 v1_1).ZL.ZO (W ((W ((W ((W ((W ((W ((W ((W ((W ((Zb (nth a0 v1_1).Doc.ZH (Zf (nth a0 v1_1).Doc.ZE (W ((W ((W (v1_0 + 1)) + 1)) + 1)))) + 1)) + 1)) + 1)) + 1)) + 1)) + 1)) + 1)) + 1)) + 1))) ?_ (hrows := by first | (simp; done) | (simp [W, w1]; done))
  refine cFt e1 ?_ ?_ <;> intro k17 h16 e1
  ·have f := ms f e1
   exact rt [.tmp 4] f
  simp [i1, ZD]
  repeat with_reducible refine sd ?_
  refine cRs (Tf (nth a0 v1_1).ZL.ZX (XQ (nth a0 v1_1).ZL.ZO (W ((W ((W ((W ((W ((W ((W ((W ((W ((Zb (nth a0 v1_1).Doc.ZH (Zf (nth a0 v1_1).Doc.ZE (W ((W ((W (v1_0 + 1)) + 1)) + 1)))) + 1)) + 1)) + 1)) + 1)) + 1)) + 1)) + 1)) + 1)) + 1)))) ?_ (hrows := by first | (simp; done) | (simp [W, w1]; done))
  refine cF e1 ?_ ?_ <;> intro k18 h17 e1
  ·have f := ms f e1
   exact rt [.tmp 4] f
  exact ny2 w1 e1
 have f := ms f e1
 exact rt [.tmp 4] f
theorem Ta (a0 : List ZF) (a1 : Int) : Sa 45 [rL 2 ZF.row a0, rI a1] [rI (XN a0 a1)] := by
 have f := me (XN.eq_1 a0 a1)
 refine so Tryz.func45 Tryz.ntmps45 ?_
 refine lp2 (K0.eq_2 a0) (fun v1_0 v1_1 => Ya 31 [eL 0 2 a0 ZF.row, eI 1 v1_0, eI 5 (↑v1_1 : Int)]) (fun n1 v1_0 v1_1 => a0.length < n1 + v1_1 ∧ v1_1 ≤ a0.length) (a0.length + 1) a1 0 (fun p1 v1_0 v1_1 e1 j1 => ?_)
 refine cFf e1 ?_ ?_ <;> intro k2 h1 e1
 ·have i1 := ix h1
  have m2 := ml a0 (k2 0 _ rfl)
  have w1 := wr v1_1
  simp [i1, ZD]
  repeat with_reducible refine sd ?_
  refine cFt e1 ?_ ?_ <;> intro k3 h2 e1
  ·have f := ms f e1
   exact rt [.tmp 4] f
  simp [i1, ZD]
  repeat with_reducible refine sd ?_
  refine cRs (O7 (nth a0 v1_1).ZM (W (v1_0 + 1))) ?_ (hrows := by first | (simp; done) | (simp [W, w1]; done))
  refine cF e1 ?_ ?_ <;> intro k4 h3 e1
  ·have f := ms f e1
   exact rt [.tmp 4] f
  exact ny2 w1 e1
 have f := ms f e1
 exact rt [.tmp 4] f
theorem yW (a0 : ZZ) (a1 : Int) : Sa 13 [a0.row, rI a1] [rI (QE a0 a1)] := by
 have f := me (QE.eq_1 a0 a1)
 refine so Tryz.func13 Tryz.ntmps13 ?_
 refine cRs (ON a0.Frame a1) ?_
 refine cF f ?_ ?_ <;> intro k1 h1 f
 ·exact rt [.tmp 4] f
 refine cRs (OG a0.Zy (XE a0.Frame a1)) ?_
 refine cF f ?_ ?_ <;> intro k2 h2 f
 ·exact rt [.tmp 4] f
 refine cRs (KJ a0.Z3 (XP a0.Zy (XE a0.Frame a1))) ?_
 refine cF f ?_ ?_ <;> intro k3 h3 f
 ·exact rt [.tmp 4] f
 refine cRs (Ta a0.ZI (Zb a0.Z3 (XP a0.Zy (XE a0.Frame a1)))) ?_
 refine cF f ?_ ?_ <;> intro k4 h4 f
 ·exact rt [.tmp 4] f
 refine cRs (KJ a0.YZ (XN a0.ZI (Zb a0.Z3 (XP a0.Zy (XE a0.Frame a1))))) ?_
 refine cF f ?_ ?_ <;> intro k5 h5 f
 ·exact rt [.tmp 4] f
 refine cRs (KJ a0.Yl (Zb a0.YZ (XN a0.ZI (Zb a0.Z3 (XP a0.Zy (XE a0.Frame a1)))))) ?_
 refine cF f ?_ ?_ <;> intro k6 h6 f
 ·exact rt [.tmp 4] f
 refine cRs (KJ a0.Ym (Zb a0.Yl (Zb a0.YZ (XN a0.ZI (Zb a0.Z3 (XP a0.Zy (XE a0.Frame a1))))))) ?_
 refine cF f ?_ ?_ <;> intro k7 h7 f
 ·exact rt [.tmp 4] f
 exact rt [.tmp 4] f
end Go.Proofs.YtjflhdkeibijaaaGreat
