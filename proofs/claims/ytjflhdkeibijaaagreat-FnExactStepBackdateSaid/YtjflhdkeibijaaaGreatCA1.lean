/- Contracts of the functions RK the abstract machine, part A1. No condition. -/
import Derived.Test.YtjflhdkeibijaaaGreatL
import Derived.Test.YtjflhdkeibijaaaGreatTy
namespace Go.Proofs.YtjflhdkeibijaaaGreat
open Go.Vm Go.Mo
set_option maxHeartbeats 1000000
set_option maxRecDepth 100000
set_option linter.unusedSimpArgs false
set_option linter.unusedVariables false
theorem Il (a0 : List YD) (a1 : Int) : Sa 75 [rL 5 YD.row a0, rI a1] [rI (XL a0 a1)] := by
 have f := me (XL.eq_1 a0 a1)
 refine so Tryz.func75 Tryz.ntmps75 ?_
 refine cF f ?_ ?_ <;> intro k1 h1 f
 ·exact rt [.tmp 4] f
 exact rt [.tmp 4] f
theorem UI (a0 : List ZI) (a1 : Int) : Sa 76 [rL 3 ZI.row a0, rI a1] [rI (Yd a0 a1)] := by
 have f := me (Yd.eq_1 a0 a1)
 refine so Tryz.func76 Tryz.ntmps76 ?_
 refine cF f ?_ ?_ <;> intro k1 h1 f
 ·exact rt [.tmp 4] f
 exact rt [.tmp 4] f
theorem Pl (a0 : List ZU) (a1 : Int) : Sa 77 [rL 4 ZU.row a0, rI a1] [rI (Je a0 a1)] := by
 have f := me (Je.eq_1 a0 a1)
 refine so Tryz.func77 Tryz.ntmps77 ?_
 refine cF f ?_ ?_ <;> intro k1 h1 f
 ·exact rt [.tmp 4] f
 exact rt [.tmp 4] f
theorem LF (a0 : Z4) (a1 : Int) : Sa 23 [a0.row, rI a1] [rI (Z1 a0 a1)] := by
 have f := me (Z1.eq_1 a0 a1)
 refine so Tryz.func23 Tryz.ntmps23 ?_
 refine cRs (Il a0.YR a1) ?_
 refine cF f ?_ ?_ <;> intro k1 h1 f
 ·exact rt [.tmp 4] f
 refine cRs (UI a0.ZL (XL a0.YR a1)) ?_
 refine cF f ?_ ?_ <;> intro k2 h2 f
 ·exact rt [.tmp 4] f
 refine cRs (Pl a0.Methods (Yd a0.ZL (XL a0.YR a1))) ?_
 refine cF f ?_ ?_ <;> intro k3 h3 f
 ·exact rt [.tmp 4] f
 exact rt [.tmp 4] f
theorem LR (a0 : List Z0) (a1 : Int) : Sa 24 [rL 7 Z0.row a0, rI a1] [rI (YE a0 a1)] := by
 have f := me (YE.eq_1 a0 a1)
 refine so Tryz.func24 Tryz.ntmps24 ?_
 refine cF f ?_ ?_ <;> intro k1 h1 f
 ·exact rt [.tmp 4] f
 exact rt [.tmp 4] f
theorem zA (a0 : List Int) (a1 : Int) : Sa 25 [rL 1 iR a0, rI a1] [rI (Zk a0 a1)] := by
 have f := me (Zk.eq_1 a0 a1)
 refine so Tryz.func25 Tryz.ntmps25 ?_
 refine cF f ?_ ?_ <;> intro k1 h1 f
 ·exact rt [.tmp 4] f
 exact rt [.tmp 4] f
theorem OE (a0 : List ByteArray) (a1 : Int) : Sa 226 [rL 1 sR a0, rI a1] [rI (Y9 a0 a1)] := by
 have f := me (Y9.eq_1 a0 a1)
 refine so Tryz.func226 Tryz.ntmps226 ?_
 refine cF f ?_ ?_ <;> intro k1 h1 f
 ·exact rt [.tmp 4] f
 refine lp2 (Kf.eq_2 a0) (fun v1_0 v1_1 => YM 28 [eL 0 1 a0 sR, eI 1 v1_0, eI 5 (↑v1_1 : Int)]) (fun n1 v1_0 v1_1 => a0.length < n1 + v1_1 ∧ v1_1 ≤ a0.length) (a0.length + 1) (W (a1 - (↑a0.length : Int))) 0 (fun p1 v1_0 v1_1 e1 j1 => ?_)
 refine cFf e1 ?_ ?_ <;> intro k3 h2 e1
 ·have i1 := ix h2
  have m2 := ml a0 (k3 0 _ rfl)
  have w1 := wr v1_1
  simp [i1, ZD]
  repeat with_reducible refine sd ?_
  refine cF e1 ?_ ?_ <;> intro k4 h3 e1
  ·have f := ms f e1
   exact rt [.tmp 4] f
  exact ny2 w1 e1
 have f := ms f e1
 exact rt [.tmp 4] f
theorem Si (a0 : ZT) (a1 : Int) : Sa 211 [a0.row, rI a1] [rI (Yj a0 a1)] := by
 have f := me (Yj.eq_1 a0 a1)
 refine so Tryz.func211 Tryz.ntmps211 ?_
 refine cRs (OE a0.ZE a1) ?_
 refine cF f ?_ ?_ <;> intro k1 h1 f
 ·exact rt [.tmp 4] f
 refine cRs (zA a0.ZG (Y9 a0.ZE a1)) ?_
 refine cF f ?_ ?_ <;> intro k2 h2 f
 ·exact rt [.tmp 4] f
 exact rt [.tmp 4] f
theorem MT (a0 : ZO) (a1 : Int) : Sa 235 [a0.row, rI a1] [rI (zG a0 a1)] := by
 have f := me (zG.eq_1 a0 a1)
 refine so Tryz.func235 Tryz.ntmps235 ?_
 refine cRs (zA a0.Ye a1) ?_
 refine cF f ?_ ?_ <;> intro k1 h1 f
 ·exact rt [.tmp 4] f
 exact rt [.tmp 4] f
theorem NM (a0 : List ZO) (a1 : Int) : Sa 227 [rL 3 ZO.row a0, rI a1] [rI (XV a0 a1)] := by
 have f := me (XV.eq_1 a0 a1)
 refine so Tryz.func227 Tryz.ntmps227 ?_
 refine cF f ?_ ?_ <;> intro k1 h1 f
 ·exact rt [.tmp 4] f
 refine lp2 (zc.eq_2 a0) (fun v1_0 v1_1 => YM 27 [eL 0 3 a0 ZO.row, eI 1 v1_0, eI 5 (↑v1_1 : Int)]) (fun n1 v1_0 v1_1 => a0.length < n1 + v1_1 ∧ v1_1 ≤ a0.length) (a0.length + 1) (W (a1 - (↑a0.length : Int))) 0 (fun p1 v1_0 v1_1 e1 j1 => ?_)
 refine cFf e1 ?_ ?_ <;> intro k3 h2 e1
 ·have i1 := ix h2
  have m2 := ml a0 (k3 0 _ rfl)
  have w1 := wr v1_1
  simp [i1, ZD]
  repeat with_reducible refine sd ?_
  refine cRs (MT (nth a0 v1_1) v1_0) ?_
  refine cF e1 ?_ ?_ <;> intro k4 h3 e1
  ·have f := ms f e1
   exact rt [.tmp 4] f
  exact ny2 w1 e1
 have f := ms f e1
 exact rt [.tmp 4] f
theorem M5 (a0 : List Zq) (a1 : Int) : Sa 241 [rL 2 Zq.row a0, rI a1] [rI (Xw a0 a1)] := by
 have f := me (Xw.eq_1 a0 a1)
 refine so Tryz.func241 Tryz.ntmps241 ?_
 refine cF f ?_ ?_ <;> intro k1 h1 f
 ·exact rt [.tmp 4] f
 exact rt [.tmp 4] f
theorem O5 (a0 : List ZX) (a1 : Int) : Sa 242 [rL 5 ZX.row a0, rI a1] [rI (KL a0 a1)] := by
 have f := me (KL.eq_1 a0 a1)
 refine so Tryz.func242 Tryz.ntmps242 ?_
 refine cF f ?_ ?_ <;> intro k1 h1 f
 ·exact rt [.tmp 4] f
 exact rt [.tmp 4] f
theorem Pb (a0 : ZF) (a1 : Int) : Sa 236 [a0.row, rI a1] [rI (JU a0 a1)] := by
 have f := me (JU.eq_1 a0 a1)
 refine so Tryz.func236 Tryz.ntmps236 ?_
 refine cRs (M5 a0.Path a1) ?_
 refine cF f ?_ ?_ <;> intro k1 h1 f
 ·exact rt [.tmp 4] f
 refine cRs (O5 a0.Zv (Xw a0.Path a1)) ?_
 refine cF f ?_ ?_ <;> intro k2 h2 f
 ·exact rt [.tmp 4] f
 exact rt [.tmp 4] f
theorem SH (a0 : List ZF) (a1 : Int) : Sa 228 [rL 5 ZF.row a0, rI a1] [rI (Qs a0 a1)] := by
 have f := me (Qs.eq_1 a0 a1)
 refine so Tryz.func228 Tryz.ntmps228 ?_
 refine cF f ?_ ?_ <;> intro k1 h1 f
 ·exact rt [.tmp 4] f
 refine lp2 (KK.eq_2 a0) (fun v1_0 v1_1 => YM 27 [eL 0 5 a0 ZF.row, eI 1 v1_0, eI 5 (↑v1_1 : Int)]) (fun n1 v1_0 v1_1 => a0.length < n1 + v1_1 ∧ v1_1 ≤ a0.length) (a0.length + 1) (W (a1 - (↑a0.length : Int))) 0 (fun p1 v1_0 v1_1 e1 j1 => ?_)
 refine cFf e1 ?_ ?_ <;> intro k3 h2 e1
 ·have i1 := ix h2
  have m2 := ml a0 (k3 0 _ rfl)
  have w1 := wr v1_1
  simp [i1, ZD]
  repeat with_reducible refine sd ?_
  refine cRs (Pb (nth a0 v1_1) v1_0) ?_
  refine cF e1 ?_ ?_ <;> intro k4 h3 e1
  ·have f := ms f e1
   exact rt [.tmp 4] f
  exact ny2 w1 e1
 have f := ms f e1
 exact rt [.tmp 4] f
theorem OG (a0 : ZY) (a1 : Int) : Sa 212 [a0.row, rI a1] [rI (Q4 a0 a1)] := by
 have f := me (Q4.eq_1 a0 a1)
 refine so Tryz.func212 Tryz.ntmps212 ?_
 refine cRs (NM a0.ZR a1) ?_
 refine cF f ?_ ?_ <;> intro k1 h1 f
 ·exact rt [.tmp 4] f
 refine cRs (SH a0.ZV (XV a0.ZR a1)) ?_
 refine cF f ?_ ?_ <;> intro k2 h2 f
 ·exact rt [.tmp 4] f
 exact rt [.tmp 4] f
theorem IL (a0 : Zb) (a1 : Int) : Sa 183 [a0.row, rI a1] [rI (yo a0 a1)] := by
 have f := me (yo.eq_1 a0 a1)
 refine so Tryz.func183 Tryz.ntmps183 ?_
 refine cRs (Si a0.Doc a1) ?_
 refine cF f ?_ ?_ <;> intro k1 h1 f
 ·exact rt [.tmp 4] f
 refine cRs (OG a0.ZK (Yj a0.Doc a1)) ?_
 refine cF f ?_ ?_ <;> intro k2 h2 f
 ·exact rt [.tmp 4] f
 exact rt [.tmp 4] f
theorem LZ (a0 : List Zb) (a1 : Int) : Sa 140 [rL 16 Zb.row a0, rI a1] [rI (zK a0 a1)] := by
 have f := me (zK.eq_1 a0 a1)
 refine so Tryz.func140 Tryz.ntmps140 ?_
 refine cF f ?_ ?_ <;> intro k1 h1 f
 ·exact rt [.tmp 4] f
 refine lp2 (ym.eq_2 a0) (fun v1_0 v1_1 => YM 27 [eL 0 16 a0 Zb.row, eI 1 v1_0, eI 5 (↑v1_1 : Int)]) (fun n1 v1_0 v1_1 => a0.length < n1 + v1_1 ∧ v1_1 ≤ a0.length) (a0.length + 1) (W (a1 - (↑a0.length : Int))) 0 (fun p1 v1_0 v1_1 e1 j1 => ?_)
 refine cFf e1 ?_ ?_ <;> intro k3 h2 e1
 ·have i1 := ix h2
  have m2 := ml a0 (k3 0 _ rfl)
  have w1 := wr v1_1
  simp [i1, ZD]
  repeat with_reducible refine sd ?_
  refine cRs (IL (nth a0 v1_1) v1_0) ?_
  refine cF e1 ?_ ?_ <;> intro k4 h3 e1
  ·have f := ms f e1
   exact rt [.tmp 4] f
  exact ny2 w1 e1
 have f := ms f e1
 exact rt [.tmp 4] f
theorem OA (a0 : ZH) (a1 : Int) : Sa 78 [a0.row, rI a1] [rI (JT a0 a1)] := by
 have f := me (JT.eq_1 a0 a1)
 refine so Tryz.func78 Tryz.ntmps78 ?_
 refine cRs (LZ a0.ZS a1) ?_
 refine cF f ?_ ?_ <;> intro k1 h1 f
 ·exact rt [.tmp 4] f
 exact rt [.tmp 4] f
theorem Sr (a0 : List ZH) (a1 : Int) : Sa 26 [rL 2 ZH.row a0, rI a1] [rI (YF a0 a1)] := by
 have f := me (YF.eq_1 a0 a1)
 refine so Tryz.func26 Tryz.ntmps26 ?_
 refine cF f ?_ ?_ <;> intro k1 h1 f
 ·exact rt [.tmp 4] f
 refine lp2 (KH.eq_2 a0) (fun v1_0 v1_1 => YM 27 [eL 0 2 a0 ZH.row, eI 1 v1_0, eI 5 (↑v1_1 : Int)]) (fun n1 v1_0 v1_1 => a0.length < n1 + v1_1 ∧ v1_1 ≤ a0.length) (a0.length + 1) (W (a1 - (↑a0.length : Int))) 0 (fun p1 v1_0 v1_1 e1 j1 => ?_)
 refine cFf e1 ?_ ?_ <;> intro k3 h2 e1
 ·have i1 := ix h2
  have m2 := ml a0 (k3 0 _ rfl)
  have w1 := wr v1_1
  simp [i1, ZD]
  repeat with_reducible refine sd ?_
  refine cRs (OA (nth a0 v1_1) v1_0) ?_
  refine cF e1 ?_ ?_ <;> intro k4 h3 e1
  ·have f := ms f e1
   exact rt [.tmp 4] f
  exact ny2 w1 e1
 have f := ms f e1
 exact rt [.tmp 4] f
theorem MQ (a0 : Zc) (a1 : Int) : Sa 7 [a0.row, rI a1] [rI (zO a0 a1)] := by
 have f := me (zO.eq_1 a0 a1)
 refine so Tryz.func7 Tryz.ntmps7 ?_
 refine cRs (LF a0.Frame a1) ?_
 refine cF f ?_ ?_ <;> intro k1 h1 f
 ·exact rt [.tmp 4] f
 refine cRs (LR a0.Zx (Z1 a0.Frame a1)) ?_
 refine cF f ?_ ?_ <;> intro k2 h2 f
 ·exact rt [.tmp 4] f
 refine cRs (zA a0.Z5 (YE a0.Zx (Z1 a0.Frame a1))) ?_
 refine cF f ?_ ?_ <;> intro k3 h3 f
 ·exact rt [.tmp 4] f
 refine cRs (Sr a0.ZC (Zk a0.Z5 (YE a0.Zx (Z1 a0.Frame a1)))) ?_
 refine cF f ?_ ?_ <;> intro k4 h4 f
 ·exact rt [.tmp 4] f
 refine cRs (zA a0.Yz (YF a0.ZC (Zk a0.Z5 (YE a0.Zx (Z1 a0.Frame a1))))) ?_
 refine cF f ?_ ?_ <;> intro k5 h5 f
 ·exact rt [.tmp 4] f
 refine cRs (zA a0.YX (Zk a0.Yz (YF a0.ZC (Zk a0.Z5 (YE a0.Zx (Z1 a0.Frame a1)))))) ?_
 refine cF f ?_ ?_ <;> intro k6 h6 f
 ·exact rt [.tmp 4] f
 refine cRs (zA a0.YT (Zk a0.YX (Zk a0.Yz (YF a0.ZC (Zk a0.Z5 (YE a0.Zx (Z1 a0.Frame a1))))))) ?_
 refine cF f ?_ ?_ <;> intro k7 h7 f
 ·exact rt [.tmp 4] f
 exact rt [.tmp 4] f
theorem HV (a0 : YD) : Sa 142 [a0.row] [(RF a0).row] := by
 have f := me (RF.eq_1 a0)
 refine so Tryz.func142 Tryz.ntmps142 ?_
 exact rt [.cell 2 118] f
theorem Iq (a0 : YD) : Sa 142 [a0.row] [a0.row] := by
  have h := HV a0
  rwa [J3] at h
theorem Ix (a0 : List YD) (u0 : Sm 2338816 a0) : Sd 82 [rL 5 YD.row a0] [rL 5 YD.row (RT a0)] := by
 have f := me (RT.eq_1 a0)
 have c1 := sl 2338816 a0 u0
 refine soD Tryz.func82 Tryz.ntmps82 ?_
 refine lp2 (jn.eq_2 a0) (fun v1_0 v1_1 => YM 23 [eL 0 5 a0 YD.row, (3, .one (.sref 7 0 0 v1_1.length), []), eI 4 (↑v1_0 : Int), (7, .any, [.arr false 5 (v1_1.map YD.row)])]) (fun n1 v1_0 v1_1 => a0.length < n1 + v1_0 ∧ v1_0 ≤ a0.length ∧ v1_1.length = a0.length) (a0.length + 1) 0 (List.replicate a0.length (YD.mk 0 0 0 0 0)) (fun p1 v1_0 v1_1 e1 j1 => ?_)
 refine cFf e1 ?_ ?_ <;> intro k2 h1 e1
 ·have i1 := ix h1
  have m2 := ml a0 (k2 0 _ rfl)
  have w1 := wr v1_0
  simp [i1, ZD]
  repeat with_reducible refine sd ?_
  refine cR (Iq (nth a0 v1_0)) ?_
  have i2 := ik v1_0 v1_1
  simp [i2, ZD, Zw (x := (nth a0 v1_0)) rfl]
  repeat with_reducible refine sd ?_
  exact ny2 w1 e1
 have f := ms f e1
 exact rtD [.tmp 2] f
theorem M0 (a0 : List YD) (u0 : Sm 2338816 a0) : Sd 82 [rL 5 YD.row a0] [rL 5 YD.row a0] := by
  have h := Ix a0 u0
  rwa [Jc] at h
theorem Ut (a0 : ZI) : Sa 143 [a0.row] [(yZ a0).row] := by
 have f := me (yZ.eq_1 a0)
 refine so Tryz.func143 Tryz.ntmps143 ?_
 exact rt [.cell 2 116] f
theorem UL (a0 : ZI) : Sa 143 [a0.row] [a0.row] := by
  have h := Ut a0
  rwa [XH] at h
theorem Vz (a0 : List ZI) (u0 : Sm 2338816 a0) : Sd 83 [rL 3 ZI.row a0] [rL 3 ZI.row (xj a0)] := by
 have f := me (xj.eq_1 a0)
 have c1 := sl 2338816 a0 u0
 refine soD Tryz.func83 Tryz.ntmps83 ?_
 refine lp2 (KN.eq_2 a0) (fun v1_0 v1_1 => YM 23 [eL 0 3 a0 ZI.row, (3, .one (.sref 7 0 0 v1_1.length), []), eI 4 (↑v1_0 : Int), (7, .any, [.arr false 3 (v1_1.map ZI.row)])]) (fun n1 v1_0 v1_1 => a0.length < n1 + v1_0 ∧ v1_0 ≤ a0.length ∧ v1_1.length = a0.length) (a0.length + 1) 0 (List.replicate a0.length (ZI.mk 0 0 0)) (fun p1 v1_0 v1_1 e1 j1 => ?_)
 refine cFf e1 ?_ ?_ <;> intro k2 h1 e1
 ·have i1 := ix h1
  have m2 := ml a0 (k2 0 _ rfl)
  have w1 := wr v1_0
  simp [i1, ZD]
  repeat with_reducible refine sd ?_
  refine cR (UL (nth a0 v1_0)) ?_
  have i2 := ik v1_0 v1_1
  simp [i2, ZD, Zw (x := (nth a0 v1_0)) rfl]
  repeat with_reducible refine sd ?_
  exact ny2 w1 e1
 have f := ms f e1
 exact rtD [.tmp 2] f
theorem VD (a0 : List ZI) (u0 : Sm 2338816 a0) : Sd 83 [rL 3 ZI.row a0] [rL 3 ZI.row a0] := by
  have h := Vz a0 u0
  rwa [Y7] at h
theorem Ou (a0 : ZU) : Sa 144 [a0.row] [(ji a0).row] := by
 have f := me (ji.eq_1 a0)
 refine so Tryz.func144 Tryz.ntmps144 ?_
 exact rt [.cell 2 144] f
theorem Ro (a0 : ZU) : Sa 144 [a0.row] [a0.row] := by
  have h := Ou a0
  rwa [QJ] at h
theorem PM (a0 : List ZU) (u0 : Sm 2338816 a0) : Sd 84 [rL 4 ZU.row a0] [rL 4 ZU.row (kj a0)] := by
 have f := me (kj.eq_1 a0)
 have c1 := sl 2338816 a0 u0
 refine soD Tryz.func84 Tryz.ntmps84 ?_
 refine lp2 (yP.eq_2 a0) (fun v1_0 v1_1 => YM 23 [eL 0 4 a0 ZU.row, (3, .one (.sref 7 0 0 v1_1.length), []), eI 4 (↑v1_0 : Int), (7, .any, [.arr false 4 (v1_1.map ZU.row)])]) (fun n1 v1_0 v1_1 => a0.length < n1 + v1_0 ∧ v1_0 ≤ a0.length ∧ v1_1.length = a0.length) (a0.length + 1) 0 (List.replicate a0.length (ZU.mk 0 0 0 0)) (fun p1 v1_0 v1_1 e1 j1 => ?_)
 refine cFf e1 ?_ ?_ <;> intro k2 h1 e1
 ·have i1 := ix h1
  have m2 := ml a0 (k2 0 _ rfl)
  have w1 := wr v1_0
  simp [i1, ZD]
  repeat with_reducible refine sd ?_
  refine cR (Ro (nth a0 v1_0)) ?_
  have i2 := ik v1_0 v1_1
  simp [i2, ZD, Zw (x := (nth a0 v1_0)) rfl]
  repeat with_reducible refine sd ?_
  exact ny2 w1 e1
 have f := ms f e1
 exact rtD [.tmp 2] f
theorem Sf (a0 : List ZU) (u0 : Sm 2338816 a0) : Sd 84 [rL 4 ZU.row a0] [rL 4 ZU.row a0] := by
  have h := PM a0 u0
  rwa [Xr] at h
theorem Ml (a0 : Z4) (u0 : Sm 2334720 a0) : Sd 30 [a0.row] [(Wp a0).row] := by
 have f := me (Wp.eq_1 a0)
 refine soD Tryz.func30 Tryz.ntmps30 ?_
 refine cDs [false] (M0 a0.YR (sg (Z4.MH u0))) ?_
 refine cDs [false] (VD a0.ZL (sg (Z4.XR u0))) ?_
 refine cDs [false] (Sf a0.Methods (sg (Z4.Px u0))) ?_
 exact rtD [.cell 2 37] f
theorem OX (a0 : Z4) (u0 : Sm 2334720 a0) : Sd 30 [a0.row] [a0.row] := by
  have h := Ml a0 u0
  rwa [Qm] at h
theorem Lv (a0 : Z0) : Sa 85 [a0.row] [(Ub a0).row] := by
 have f := me (Ub.eq_1 a0)
 refine so Tryz.func85 Tryz.ntmps85 ?_
 exact rt [.cell 2 133] f
theorem M6 (a0 : Z0) : Sa 85 [a0.row] [a0.row] := by
  have h := Lv a0
  rwa [Jb] at h
theorem MZ (a0 : List Z0) (u0 : Sm 2338816 a0) : Sd 31 [rL 7 Z0.row a0] [rL 7 Z0.row (TN a0)] := by
 have f := me (TN.eq_1 a0)
 have c1 := sl 2338816 a0 u0
 refine soD Tryz.func31 Tryz.ntmps31 ?_
 refine lp2 (qc.eq_2 a0) (fun v1_0 v1_1 => YM 23 [eL 0 7 a0 Z0.row, (3, .one (.sref 7 0 0 v1_1.length), []), eI 4 (↑v1_0 : Int), (7, .any, [.arr false 7 (v1_1.map Z0.row)])]) (fun n1 v1_0 v1_1 => a0.length < n1 + v1_0 ∧ v1_0 ≤ a0.length ∧ v1_1.length = a0.length) (a0.length + 1) 0 (List.replicate a0.length (Z0.mk 0 0 0 0 0 0 0)) (fun p1 v1_0 v1_1 e1 j1 => ?_)
 refine cFf e1 ?_ ?_ <;> intro k2 h1 e1
 ·have i1 := ix h1
  have m2 := ml a0 (k2 0 _ rfl)
  have w1 := wr v1_0
  simp [i1, ZD]
  repeat with_reducible refine sd ?_
  refine cR (M6 (nth a0 v1_0)) ?_
  have i2 := ik v1_0 v1_1
  simp [i2, ZD, Zw (x := (nth a0 v1_0)) rfl]
  repeat with_reducible refine sd ?_
  exact ny2 w1 e1
 have f := ms f e1
 exact rtD [.tmp 2] f
theorem OY (a0 : List Z0) (u0 : Sm 2338816 a0) : Sd 31 [rL 7 Z0.row a0] [rL 7 Z0.row a0] := by
  have h := MZ a0 u0
  rwa [Qu] at h
theorem IM (a0 : List Int) (u0 : Sm 2342912 a0) : Sd 19 [rL 1 iR a0] [rL 1 iR (PZ a0)] := by
 have f := me (PZ.eq_1 a0)
 have c1 := sl 2342912 a0 u0
 refine soD Tryz.func19 Tryz.ntmps19 ?_
 refine lp2 (kL.eq_2 a0) (fun v1_0 v1_1 => YM 22 [eL 0 1 a0 iR, (3, .one (.sref 7 0 0 v1_1.length), []), eI 4 (↑v1_0 : Int), (7, .any, [.arr false 1 (v1_1.map iR)])]) (fun n1 v1_0 v1_1 => a0.length < n1 + v1_0 ∧ v1_0 ≤ a0.length ∧ v1_1.length = a0.length) (a0.length + 1) 0 (List.replicate a0.length 0) (fun p1 v1_0 v1_1 e1 j1 => ?_)
 refine cFf e1 ?_ ?_ <;> intro k2 h1 e1
 ·have i1 := ix h1
  have m2 := ml a0 (k2 0 _ rfl)
  have w1 := wr v1_0
  have i2 := ik v1_0 v1_1
  simp [i1, ZD, i2, Zw (x := (nth a0 v1_0)) rfl]
  repeat with_reducible refine sd ?_
  exact ny2 w1 e1
 have f := ms f e1
 exact rtD [.tmp 2] f
theorem KT (a0 : List Int) (u0 : Sm 2342912 a0) : Sd 19 [rL 1 iR a0] [rL 1 iR a0] := by
  have h := IM a0 u0
  rwa [Jd] at h
theorem PV (a0 : List ByteArray) (u0 : Sm 2342912 a0) : Sd 229 [rL 1 sR a0] [rL 1 sR (WC a0)] := by
 have f := me (WC.eq_1 a0)
 have c1 := sl 2342912 a0 u0
 refine soD Tryz.func229 Tryz.ntmps229 ?_
 refine lp2 (yO.eq_2 a0) (fun v1_0 v1_1 => YM 22 [eL 0 1 a0 sR, (3, .one (.sref 7 0 0 v1_1.length), []), eI 4 (↑v1_0 : Int), (7, .any, [.arr false 1 (v1_1.map sR)])]) (fun n1 v1_0 v1_1 => a0.length < n1 + v1_0 ∧ v1_0 ≤ a0.length ∧ v1_1.length = a0.length) (a0.length + 1) 0 (List.replicate a0.length (⟨#[]⟩ : ByteArray)) (fun p1 v1_0 v1_1 e1 j1 => ?_)
 refine cFf e1 ?_ ?_ <;> intro k2 h1 e1
 ·have i1 := ix h1
  have m2 := ml a0 (k2 0 _ rfl)
  have w1 := wr v1_0
  have i2 := ik v1_0 v1_1
  simp [i1, ZD, i2, Zw (x := (nth a0 v1_0)) rfl]
  repeat with_reducible refine sd ?_
  exact ny2 w1 e1
 have f := ms f e1
 exact rtD [.tmp 2] f
theorem SF (a0 : List ByteArray) (u0 : Sm 2342912 a0) : Sd 229 [rL 1 sR a0] [rL 1 sR a0] := by
  have h := PV a0 u0
  rwa [Xq] at h
theorem SL (a0 : ZT) (u0 : Sm 2338816 a0) : Sd 213 [a0.row] [(xZ a0).row] := by
 have f := me (xZ.eq_1 a0)
 refine soD Tryz.func213 Tryz.ntmps213 ?_
 refine cDs [false] (SF a0.ZE (sg (ZT.Us u0))) ?_
 refine cDs [false] (KT a0.ZG (sg (ZT.PN u0))) ?_
 exact rtD [.cell 2 88] f
theorem U9 (a0 : ZT) (u0 : Sm 2338816 a0) : Sd 213 [a0.row] [a0.row] := by
  have h := SL a0 u0
  rwa [XY] at h
theorem TX (a0 : Zm) : Sa 214 [a0.row] [(yd a0).row] := by
 have f := me (yd.eq_1 a0)
 refine so Tryz.func214 Tryz.ntmps214 ?_
 exact rt [.cell 2 90] f
theorem UN (a0 : Zm) : Sa 214 [a0.row] [a0.row] := by
  have h := TX a0
  rwa [XM] at h
theorem LH (a0 : ZO) (u0 : Sm 2338816 a0) : Sd 237 [a0.row] [(Wo a0).row] := by
 have f := me (Wo.eq_1 a0)
 refine soD Tryz.func237 Tryz.ntmps237 ?_
 refine cDs [false] (KT a0.Ye (sg (ZO.GF u0))) ?_
 exact rtD [.cell 2 187] f
theorem OQ (a0 : ZO) (u0 : Sm 2338816 a0) : Sd 237 [a0.row] [a0.row] := by
  have h := LH a0 u0
  rwa [Qj] at h
theorem ON (a0 : List ZO) (u0 : Sm 2334720 a0) : Sd 230 [rL 3 ZO.row a0] [rL 3 ZO.row (Vi a0)] := by
 have f := me (Vi.eq_1 a0)
 refine soD Tryz.func230 Tryz.ntmps230 ?_
 have c1 := sl 2334720 a0 u0
 refine EY (n := a0.length) rfl rfl rfl rfl rfl rfl (by simp) (by simp) (by simp; omega) (by omega) ?_
 simp
 refine lp2 (xM.eq_2 a0) (fun v1_0 v1_1 => YM 23 [eL 0 3 a0 ZO.row, (3, .one (.sref 7 0 0 v1_1.length), []), eI 4 (↑v1_0 : Int), (7, .any, [.arr true 3 (v1_1.map ZO.row)])]) (fun n1 v1_0 v1_1 => a0.length < n1 + v1_0 ∧ v1_0 ≤ a0.length ∧ v1_1.length = a0.length) (a0.length + 1) 0 (List.replicate a0.length (ZO.mk 0 ([] : List Int) 0)) (fun p1 v1_0 v1_1 e1 j1 => ?_)
 refine cFf e1 ?_ ?_ <;> intro k2 h1 e1
 ·have i1 := ix h1
  have m2 := ml a0 (k2 0 _ rfl)
  have w1 := wr v1_0
  simp [i1, ZD]
  repeat with_reducible refine sd ?_
  have i2 := ik v1_0 v1_1
  refine cDf i2 [true, false] (OQ (nth a0 v1_0) (sg (QU u0))) ?_
  refine Em (t := 7) (j := 0) (i := v1_0) (c := 0) (size := 3) (rows := (v1_1.map ZO.row)) (ds := (nth a0 v1_0).row) (L := [(20, 1)]) rfl rfl rfl rfl (by simp) (by simp) (by simp; try omega) (by simp) (by simp) (by simp) (by simp) (by simp) (by simp) ?_
  simp [Zw (x := (nth a0 v1_0)) rfl, i2, ZD, Zj]
  repeat with_reducible refine sd ?_
  exact ny2 w1 e1
 have f := ms f e1
 exact rtD [.tmp 2] f
theorem PG (a0 : List ZO) (u0 : Sm 2334720 a0) : Sd 230 [rL 3 ZO.row a0] [rL 3 ZO.row a0] := by
  have h := ON a0 u0
  rwa [QH] at h
theorem Ia (a0 : Zq) : Sa 247 [a0.row] [(UM a0).row] := by
 have f := me (UM.eq_1 a0)
 refine so Tryz.func247 Tryz.ntmps247 ?_
 exact rt [.cell 2 189] f
theorem N7 (a0 : Zq) : Sa 247 [a0.row] [a0.row] := by
  have h := Ia a0
  rwa [JY] at h
theorem MS (a0 : List Zq) (u0 : Sm 2338816 a0) : Sd 243 [rL 2 Zq.row a0] [rL 2 Zq.row (TK a0)] := by
 have f := me (TK.eq_1 a0)
 have c1 := sl 2338816 a0 u0
 refine soD Tryz.func243 Tryz.ntmps243 ?_
 refine lp2 (qk.eq_2 a0) (fun v1_0 v1_1 => YM 23 [eL 0 2 a0 Zq.row, (3, .one (.sref 7 0 0 v1_1.length), []), eI 4 (↑v1_0 : Int), (7, .any, [.arr false 2 (v1_1.map Zq.row)])]) (fun n1 v1_0 v1_1 => a0.length < n1 + v1_0 ∧ v1_0 ≤ a0.length ∧ v1_1.length = a0.length) (a0.length + 1) 0 (List.replicate a0.length (Zq.mk 0 false)) (fun p1 v1_0 v1_1 e1 j1 => ?_)
 refine cFf e1 ?_ ?_ <;> intro k2 h1 e1
 ·have i1 := ix h1
  have m2 := ml a0 (k2 0 _ rfl)
  have w1 := wr v1_0
  simp [i1, ZD]
  repeat with_reducible refine sd ?_
  refine cR (N7 (nth a0 v1_0)) ?_
  have i2 := ik v1_0 v1_1
  simp [i2, ZD, Zw (x := (nth a0 v1_0)) rfl]
  repeat with_reducible refine sd ?_
  exact ny2 w1 e1
 have f := ms f e1
 exact rtD [.tmp 2] f
theorem NK (a0 : List Zq) (u0 : Sm 2338816 a0) : Sd 243 [rL 2 Zq.row a0] [rL 2 Zq.row a0] := by
  have h := MS a0 u0
  rwa [Qh] at h
theorem Mg (a0 : ZX) : Sa 248 [a0.row] [(Wl a0).row] := by
 have f := me (Wl.eq_1 a0)
 refine so Tryz.func248 Tryz.ntmps248 ?_
 exact rt [.cell 2 98] f
theorem NG (a0 : ZX) : Sa 248 [a0.row] [a0.row] := by
  have h := Mg a0
  rwa [Qg] at h
theorem NB (a0 : List ZX) (u0 : Sm 2338816 a0) : Sd 244 [rL 5 ZX.row a0] [rL 5 ZX.row (VB a0)] := by
 have f := me (VB.eq_1 a0)
 have c1 := sl 2338816 a0 u0
 refine soD Tryz.func244 Tryz.ntmps244 ?_
 refine lp2 (xI.eq_2 a0) (fun v1_0 v1_1 => YM 23 [eL 0 5 a0 ZX.row, (3, .one (.sref 7 0 0 v1_1.length), []), eI 4 (↑v1_0 : Int), (7, .any, [.arr false 5 (v1_1.map ZX.row)])]) (fun n1 v1_0 v1_1 => a0.length < n1 + v1_0 ∧ v1_0 ≤ a0.length ∧ v1_1.length = a0.length) (a0.length + 1) 0 (List.replicate a0.length (ZX.mk 0 0 0 0 0)) (fun p1 v1_0 v1_1 e1 j1 => ?_)
 refine cFf e1 ?_ ?_ <;> intro k2 h1 e1
 ·have i1 := ix h1
  have m2 := ml a0 (k2 0 _ rfl)
  have w1 := wr v1_0
  simp [i1, ZD]
  repeat with_reducible refine sd ?_
  refine cR (NG (nth a0 v1_0)) ?_
  have i2 := ik v1_0 v1_1
  simp [i2, ZD, Zw (x := (nth a0 v1_0)) rfl]
  repeat with_reducible refine sd ?_
  exact ny2 w1 e1
 have f := ms f e1
 exact rtD [.tmp 2] f
theorem R3 (a0 : List ZX) (u0 : Sm 2338816 a0) : Sd 244 [rL 5 ZX.row a0] [rL 5 ZX.row a0] := by
  have h := NB a0 u0
  rwa [QI] at h
theorem Rz (a0 : ZF) (u0 : Sm 2334720 a0) : Sd 238 [a0.row] [(qK a0).row] := by
 have f := me (qK.eq_1 a0)
 refine soD Tryz.func238 Tryz.ntmps238 ?_
 refine cDs [false] (NK a0.Path (sg (ZF.Eb u0))) ?_
 refine cDs [false] (R3 a0.Zv (sg (ZF.Nq u0))) ?_
 exact rtD [.cell 2 96] f
theorem S8 (a0 : ZF) (u0 : Sm 2334720 a0) : Sd 238 [a0.row] [a0.row] := by
  have h := Rz a0 u0
  rwa [Xm] at h
theorem SK (a0 : List ZF) (u0 : Sm 2330624 a0) : Sd 231 [rL 5 ZF.row a0] [rL 5 ZF.row (kB a0)] := by
 have f := me (kB.eq_1 a0)
 refine soD Tryz.func231 Tryz.ntmps231 ?_
 have c1 := sl 2330624 a0 u0
 refine EY (n := a0.length) rfl rfl rfl rfl rfl rfl (by simp) (by simp) (by simp; omega) (by omega) ?_
 simp
 refine lp2 (zS.eq_2 a0) (fun v1_0 v1_1 => YM 23 [eL 0 5 a0 ZF.row, (3, .one (.sref 7 0 0 v1_1.length), []), eI 4 (↑v1_0 : Int), (7, .any, [.arr true 5 (v1_1.map ZF.row)])]) (fun n1 v1_0 v1_1 => a0.length < n1 + v1_0 ∧ v1_0 ≤ a0.length ∧ v1_1.length = a0.length) (a0.length + 1) 0 (List.replicate a0.length (ZF.mk 0 0 0 ([] : List Zq) ([] : List ZX))) (fun p1 v1_0 v1_1 e1 j1 => ?_)
 refine cFf e1 ?_ ?_ <;> intro k2 h1 e1
 ·have i1 := ix h1
  have m2 := ml a0 (k2 0 _ rfl)
  have w1 := wr v1_0
  simp [i1, ZD]
  repeat with_reducible refine sd ?_
  have i2 := ik v1_0 v1_1
  refine cDf i2 [true, true, true, false, false] (S8 (nth a0 v1_0) (sg (QU u0))) ?_
  refine Em (t := 7) (j := 0) (i := v1_0) (c := 0) (size := 5) (rows := (v1_1.map ZF.row)) (ds := (nth a0 v1_0).row) (L := [(20, 3), (20, 4)]) rfl rfl rfl rfl (by simp) (by simp) (by simp; try omega) (by simp) (by simp) (by simp) (by simp) (by simp) (by simp) ?_
  simp [Zw (x := (nth a0 v1_0)) rfl, i2, ZD, Zj]
  repeat with_reducible refine sd ?_
  exact ny2 w1 e1
 have f := ms f e1
 exact rtD [.tmp 2] f
theorem TL (a0 : List ZF) (u0 : Sm 2330624 a0) : Sd 231 [rL 5 ZF.row a0] [rL 5 ZF.row a0] := by
  have h := SK a0 u0
  rwa [XX] at h
theorem Oi (a0 : ZY) (u0 : Sm 2326528 a0) : Sd 215 [a0.row] [(kH a0).row] := by
 have f := me (kH.eq_1 a0)
 refine soD Tryz.func215 Tryz.ntmps215 ?_
 refine cDs [] (PG a0.ZR (sg (ZY.jF u0))) ?_
 refine cDs [] (TL a0.ZV (sg (ZY.yp u0))) ?_
 exact rtD [.cell 2 85] f
theorem PW (a0 : ZY) (u0 : Sm 2326528 a0) : Sd 215 [a0.row] [a0.row] := by
  have h := Oi a0 u0
  rwa [QD] at h
theorem Iy (a0 : Zb) (u0 : Sm 2322432 a0) : Sd 184 [a0.row] [(V2 a0).row] := by
 have f := me (V2.eq_1 a0)
 refine soD Tryz.func184 Tryz.ntmps184 ?_
 refine cDs [true, false, false] (U9 a0.Doc (sg (Zb.U3 u0))) ?_
 refine cRs (UN a0.Sig) ?_
 refine cDs [] (PW a0.ZK (sg (Zb.zI u0))) ?_
 exact rtD [.cell 2 92] f
theorem M3 (a0 : Zb) (u0 : Sm 2322432 a0) : Sd 184 [a0.row] [a0.row] := by
  have h := Iy a0 u0
  rwa [JZ] at h
theorem MA (a0 : List Zb) (u0 : Sm 2318336 a0) : Sd 145 [rL 16 Zb.row a0] [rL 16 Zb.row (Td a0)] := by
 have f := me (Td.eq_1 a0)
 refine soD Tryz.func145 Tryz.ntmps145 ?_
 have c1 := sl 2318336 a0 u0
 refine EY (n := a0.length) rfl rfl rfl rfl rfl rfl (by simp) (by simp) (by simp; omega) (by omega) ?_
 simp
 refine lp2 (qV.eq_2 a0) (fun v1_0 v1_1 => YM 23 [eL 0 16 a0 Zb.row, (3, .one (.sref 7 0 0 v1_1.length), []), eI 4 (↑v1_0 : Int), (7, .any, [.arr true 16 (v1_1.map Zb.row)])]) (fun n1 v1_0 v1_1 => a0.length < n1 + v1_0 ∧ v1_0 ≤ a0.length ∧ v1_1.length = a0.length) (a0.length + 1) 0 (List.replicate a0.length (Zb.mk 0 0 (ZT.mk 0 ([] : List ByteArray) ([] : List Int)) (Zm.mk 0 0 0 0 0 0 0 0 0) (ZY.mk ([] : List ZO) ([] : List ZF)))) (fun p1 v1_0 v1_1 e1 j1 => ?_)
 refine cFf e1 ?_ ?_ <;> intro k2 h1 e1
 ·have i1 := ix h1
  have m2 := ml a0 (k2 0 _ rfl)
  have w1 := wr v1_0
  simp [i1, ZD]
  repeat with_reducible refine sd ?_
  have i2 := ik v1_0 v1_1
  refine cDf i2 [true, true, true, false, false] (M3 (nth a0 v1_0) (sg (QU u0))) ?_
  refine Em (t := 7) (j := 0) (i := v1_0) (c := 0) (size := 16) (rows := (v1_1.map Zb.row)) (ds := (nth a0 v1_0).row) (L := [(20, 3), (20, 4), (20, 14), (20, 15)]) rfl rfl rfl rfl (by simp) (by simp) (by simp; try omega) (by simp) (by simp) (by simp) (by simp) (by simp) (by simp) ?_
  simp [Zw (x := (nth a0 v1_0)) rfl, i2, ZD, Zj]
  repeat with_reducible refine sd ?_
  exact ny2 w1 e1
 have f := ms f e1
 exact rtD [.tmp 2] f
theorem Ow (a0 : List Zb) (u0 : Sm 2318336 a0) : Sd 145 [rL 16 Zb.row a0] [rL 16 Zb.row a0] := by
  have h := MA a0 u0
  rwa [Qp] at h
theorem Ri (a0 : ZH) (u0 : Sm 2314240 a0) : Sd 86 [a0.row] [(qh a0).row] := by
 have f := me (qh.eq_1 a0)
 refine soD Tryz.func86 Tryz.ntmps86 ?_
 refine cDs [] (Ow a0.ZS (sg (ZH.xk u0))) ?_
 exact rtD [.cell 2 64] f
theorem Sv (a0 : ZH) (u0 : Sm 2314240 a0) : Sd 86 [a0.row] [a0.row] := by
  have h := Ri a0 u0
  rwa [Xn] at h
theorem T3 (a0 : List ZH) (u0 : Sm 2310144 a0) : Sd 32 [rL 2 ZH.row a0] [rL 2 ZH.row (jx a0)] := by
 have f := me (jx.eq_1 a0)
 refine soD Tryz.func32 Tryz.ntmps32 ?_
 have c1 := sl 2310144 a0 u0
 refine EY (n := a0.length) rfl rfl rfl rfl rfl rfl (by simp) (by simp) (by simp; omega) (by omega) ?_
 simp
 refine lp2 (zR.eq_2 a0) (fun v1_0 v1_1 => YM 23 [eL 0 2 a0 ZH.row, (3, .one (.sref 7 0 0 v1_1.length), []), eI 4 (↑v1_0 : Int), (7, .any, [.arr true 2 (v1_1.map ZH.row)])]) (fun n1 v1_0 v1_1 => a0.length < n1 + v1_0 ∧ v1_0 ≤ a0.length ∧ v1_1.length = a0.length) (a0.length + 1) 0 (List.replicate a0.length (ZH.mk 0 ([] : List Zb))) (fun p1 v1_0 v1_1 e1 j1 => ?_)
 refine cFf e1 ?_ ?_ <;> intro k2 h1 e1
 ·have i1 := ix h1
  have m2 := ml a0 (k2 0 _ rfl)
  have w1 := wr v1_0
  simp [i1, ZD]
  repeat with_reducible refine sd ?_
  have i2 := ik v1_0 v1_1
  refine cDf i2 [] (Sv (nth a0 v1_0) (sg (QU u0))) ?_
  refine Em (t := 7) (j := 0) (i := v1_0) (c := 0) (size := 2) (rows := (v1_1.map ZH.row)) (ds := (nth a0 v1_0).row) (L := [(20, 1)]) rfl rfl rfl rfl (by simp) (by simp) (by simp; try omega) (by simp) (by simp) (by simp) (by simp) (by simp) (by simp) ?_
  simp [Zw (x := (nth a0 v1_0)) rfl, i2, ZD, Zj]
  repeat with_reducible refine sd ?_
  exact ny2 w1 e1
 have f := ms f e1
 exact rtD [.tmp 2] f
theorem Tc (a0 : List ZH) (u0 : Sm 2310144 a0) : Sd 32 [rL 2 ZH.row a0] [rL 2 ZH.row a0] := by
  have h := T3 a0 u0
  rwa [XZ] at h
theorem M9 (a0 : Zc) (u0 : Sm 2306048 a0) : Sd 9 [a0.row] [(Wn a0).row] := by
 have f := me (Wn.eq_1 a0)
 refine soD Tryz.func9 Tryz.ntmps9 ?_
 refine cDs [false, false, false] (OX a0.Frame (sg (Zc.JE u0))) ?_
 refine cDs [false] (OY a0.Zx (sg (Zc.Fi u0))) ?_
 refine cDs [false] (KT a0.Z5 (sg (Zc.Lr u0))) ?_
 refine cDs [] (Tc a0.ZC (sg (Zc.zB u0))) ?_
 refine cDs [false] (KT a0.Yz (sg (Zc.GH u0))) ?_
 refine cDs [false] (KT a0.YX (sg (Zc.HC u0))) ?_
 refine cDs [false] (KT a0.YT (sg (Zc.Np u0))) ?_
 exact rtD [.cell 2 41] f
theorem yj (a0 : Zc) (u0 : Sm 2306048 a0) : Sd 9 [a0.row] [a0.row] := by
  have h := M9 a0 u0
  rwa [Qt] at h
theorem Hk (a0 : YD) (a1 : YD) : Sa 147 [a0.row, a1.row] [rB (Wa a0 a1)] := by
 have f := me (Wa.eq_1 a0 a1)
 refine so Tryz.func147 Tryz.ntmps147 ?_
 refine cF f ?_ ?_ <;> intro k1 h1 f
 ·exact rt [.tmp 4] f
 refine cF f ?_ ?_ <;> intro k2 h2 f
 ·exact rt [.tmp 4] f
 refine cF f ?_ ?_ <;> intro k3 h3 f
 ·exact rt [.tmp 4] f
 refine cF f ?_ ?_ <;> intro k4 h4 f
 ·exact rt [.tmp 4] f
 refine cF f ?_ ?_ <;> intro k5 h5 f
 ·exact rt [.tmp 4] f
 exact rt [.tmp 4] f
theorem IU (a0 : List YD) (a1 : List YD) : Sa 91 [rL 5 YD.row a0, rL 5 YD.row a1] [rB (WH a0 a1)] := by
 have f := me (WH.eq_1 a0 a1)
 refine so Tryz.func91 Tryz.ntmps91 ?_
 refine cF f ?_ ?_ <;> intro k1 h1 f
 ·exact rt [.tmp 4] f
 refine lp1 (kG.eq_2 a0 a1) (fun v1_0 => YM 27 [eL 0 5 a0 YD.row, eL 1 5 a1 YD.row, eI 5 (↑v1_0 : Int)]) (fun n1 v1_0 => a0.length < n1 + v1_0 ∧ v1_0 ≤ a0.length) (a0.length + 1) 0 (fun p1 v1_0 e1 j1 => ?_)
 refine cF e1 ?_ ?_ <;> intro k3 h2 e1
 ·have i1 := ix h2
  have m2 := ml a0 (k3 0 _ rfl)
  have w1 := wr v1_0
  refine dIo mixed ?_
  have i2 := ik v1_0 a1
  simp [i1, ZD, i2]
  repeat with_reducible refine sd ?_
  refine cRs (Hk (nth a0 v1_0) (nth a1 v1_0)) ?_
  refine cF e1 ?_ ?_ <;> intro k5 h3 e1
  ·have f := ms f e1
   exact rt [.tmp 4] f
  exact ny1 w1 e1
 have f := ms f e1
 exact rt [.tmp 4] f
theorem Uw (a0 : ZI) (a1 : ZI) : Sa 148 [a0.row, a1.row] [rB (Ju a0 a1)] := by
 have f := me (Ju.eq_1 a0 a1)
 refine so Tryz.func148 Tryz.ntmps148 ?_
 refine cF f ?_ ?_ <;> intro k1 h1 f
 ·exact rt [.tmp 4] f
 refine cF f ?_ ?_ <;> intro k2 h2 f
 ·exact rt [.tmp 4] f
 refine cF f ?_ ?_ <;> intro k3 h3 f
 ·exact rt [.tmp 4] f
 exact rt [.tmp 4] f
theorem UE (a0 : List ZI) (a1 : List ZI) : Sa 92 [rL 3 ZI.row a0, rL 3 ZI.row a1] [rB (J6 a0 a1)] := by
 have f := me (J6.eq_1 a0 a1)
 refine so Tryz.func92 Tryz.ntmps92 ?_
 refine cF f ?_ ?_ <;> intro k1 h1 f
 ·exact rt [.tmp 4] f
 refine lp1 (KR.eq_2 a0 a1) (fun v1_0 => YM 27 [eL 0 3 a0 ZI.row, eL 1 3 a1 ZI.row, eI 5 (↑v1_0 : Int)]) (fun n1 v1_0 => a0.length < n1 + v1_0 ∧ v1_0 ≤ a0.length) (a0.length + 1) 0 (fun p1 v1_0 e1 j1 => ?_)
 refine cF e1 ?_ ?_ <;> intro k3 h2 e1
 ·have i1 := ix h2
  have m2 := ml a0 (k3 0 _ rfl)
  have w1 := wr v1_0
  refine dIo mixed ?_
  have i2 := ik v1_0 a1
  simp [i1, ZD, i2]
  repeat with_reducible refine sd ?_
  refine cRs (Uw (nth a0 v1_0) (nth a1 v1_0)) ?_
  refine cF e1 ?_ ?_ <;> intro k5 h3 e1
  ·have f := ms f e1
   exact rt [.tmp 4] f
  exact ny1 w1 e1
 have f := ms f e1
 exact rt [.tmp 4] f
theorem NJ (a0 : ZU) (a1 : ZU) : Sa 149 [a0.row, a1.row] [rB (z9 a0 a1)] := by
 have f := me (z9.eq_1 a0 a1)
 refine so Tryz.func149 Tryz.ntmps149 ?_
 refine cF f ?_ ?_ <;> intro k1 h1 f
 ·exact rt [.tmp 4] f
 refine cF f ?_ ?_ <;> intro k2 h2 f
 ·exact rt [.tmp 4] f
 refine cF f ?_ ?_ <;> intro k3 h3 f
 ·exact rt [.tmp 4] f
 refine cF f ?_ ?_ <;> intro k4 h4 f
 ·exact rt [.tmp 4] f
 exact rt [.tmp 4] f
theorem R6 (a0 : List ZU) (a1 : List ZU) : Sa 93 [rL 4 ZU.row a0, rL 4 ZU.row a1] [rB (yw a0 a1)] := by
 have f := me (yw.eq_1 a0 a1)
 refine so Tryz.func93 Tryz.ntmps93 ?_
 refine cF f ?_ ?_ <;> intro k1 h1 f
 ·exact rt [.tmp 4] f
 refine lp1 (yQ.eq_2 a0 a1) (fun v1_0 => YM 27 [eL 0 4 a0 ZU.row, eL 1 4 a1 ZU.row, eI 5 (↑v1_0 : Int)]) (fun n1 v1_0 => a0.length < n1 + v1_0 ∧ v1_0 ≤ a0.length) (a0.length + 1) 0 (fun p1 v1_0 e1 j1 => ?_)
 refine cF e1 ?_ ?_ <;> intro k3 h2 e1
 ·have i1 := ix h2
  have m2 := ml a0 (k3 0 _ rfl)
  have w1 := wr v1_0
  refine dIo mixed ?_
  have i2 := ik v1_0 a1
  simp [i1, ZD, i2]
  repeat with_reducible refine sd ?_
  refine cRs (NJ (nth a0 v1_0) (nth a1 v1_0)) ?_
  refine cF e1 ?_ ?_ <;> intro k5 h3 e1
  ·have f := ms f e1
   exact rt [.tmp 4] f
  exact ny1 w1 e1
 have f := ms f e1
 exact rt [.tmp 4] f
theorem Mp (a0 : Z4) (a1 : Z4) : Sa 36 [a0.row, a1.row] [rB (jM a0 a1)] := by
 have f := me (jM.eq_1 a0 a1)
 refine so Tryz.func36 Tryz.ntmps36 ?_
 refine cRs (IU a0.YR a1.YR) ?_
 refine cF f ?_ ?_ <;> intro k1 h1 f
 ·exact rt [.tmp 4] f
 refine cRs (UE a0.ZL a1.ZL) ?_
 refine cF f ?_ ?_ <;> intro k2 h2 f
 ·exact rt [.tmp 4] f
 refine cRs (R6 a0.Methods a1.Methods) ?_
 refine cF f ?_ ?_ <;> intro k3 h3 f
 ·exact rt [.tmp 4] f
 refine cF f ?_ ?_ <;> intro k4 h4 f
 ·exact rt [.tmp 4] f
 refine cF f ?_ ?_ <;> intro k5 h5 f
 ·exact rt [.tmp 4] f
 exact rt [.tmp 4] f
theorem Ib (a0 : Z0) (a1 : Z0) : Sa 94 [a0.row, a1.row] [rB (jQ a0 a1)] := by
 have f := me (jQ.eq_1 a0 a1)
 refine so Tryz.func94 Tryz.ntmps94 ?_
 refine cF f ?_ ?_ <;> intro k1 h1 f
 ·exact rt [.tmp 4] f
 refine cF f ?_ ?_ <;> intro k2 h2 f
 ·exact rt [.tmp 4] f
 refine cF f ?_ ?_ <;> intro k3 h3 f
 ·exact rt [.tmp 4] f
 refine cF f ?_ ?_ <;> intro k4 h4 f
 ·exact rt [.tmp 4] f
 refine cF f ?_ ?_ <;> intro k5 h5 f
 ·exact rt [.tmp 4] f
 refine cF f ?_ ?_ <;> intro k6 h6 f
 ·exact rt [.tmp 4] f
 refine cF f ?_ ?_ <;> intro k7 h7 f
 ·exact rt [.tmp 4] f
 exact rt [.tmp 4] f
theorem MY (a0 : List Z0) (a1 : List Z0) : Sa 37 [rL 7 Z0.row a0, rL 7 Z0.row a1] [rB (jR a0 a1)] := by
 have f := me (jR.eq_1 a0 a1)
 refine so Tryz.func37 Tryz.ntmps37 ?_
 refine cF f ?_ ?_ <;> intro k1 h1 f
 ·exact rt [.tmp 4] f
 refine lp1 (qY.eq_2 a0 a1) (fun v1_0 => YM 27 [eL 0 7 a0 Z0.row, eL 1 7 a1 Z0.row, eI 5 (↑v1_0 : Int)]) (fun n1 v1_0 => a0.length < n1 + v1_0 ∧ v1_0 ≤ a0.length) (a0.length + 1) 0 (fun p1 v1_0 e1 j1 => ?_)
 refine cF e1 ?_ ?_ <;> intro k3 h2 e1
 ·have i1 := ix h2
  have m2 := ml a0 (k3 0 _ rfl)
  have w1 := wr v1_0
  refine dIo mixed ?_
  have i2 := ik v1_0 a1
  simp [i1, ZD, i2]
  repeat with_reducible refine sd ?_
  refine cRs (Ib (nth a0 v1_0) (nth a1 v1_0)) ?_
  refine cF e1 ?_ ?_ <;> intro k5 h3 e1
  ·have f := ms f e1
   exact rt [.tmp 4] f
  exact ny1 w1 e1
 have f := ms f e1
 exact rt [.tmp 4] f
theorem K9 (a0 : List Int) (a1 : List Int) : Sa 21 [rL 1 iR a0, rL 1 iR a1] [rB (Kj a0 a1)] := by
 have f := me (Kj.eq_1 a0 a1)
 refine so Tryz.func21 Tryz.ntmps21 ?_
 refine cF f ?_ ?_ <;> intro k1 h1 f
 ·exact rt [.tmp 4] f
 refine lp1 (j3.eq_2 a0 a1) (fun v1_0 => YM 26 [eL 0 1 a0 iR, eL 1 1 a1 iR, eI 5 (↑v1_0 : Int)]) (fun n1 v1_0 => a0.length < n1 + v1_0 ∧ v1_0 ≤ a0.length) (a0.length + 1) 0 (fun p1 v1_0 e1 j1 => ?_)
 refine cF e1 ?_ ?_ <;> intro k3 h2 e1
 ·have i1 := ix h2
  have m2 := ml a0 (k3 0 _ rfl)
  have w1 := wr v1_0
  refine dIo mixed ?_
  have i2 := ik v1_0 a1
  simp [i1, ZD, i2]
  repeat with_reducible refine sd ?_
  refine cF e1 ?_ ?_ <;> intro k5 h3 e1
  ·have f := ms f e1
   exact rt [.tmp 4] f
  exact ny1 w1 e1
 have f := ms f e1
 exact rt [.tmp 4] f
theorem P7 (a0 : List ByteArray) (a1 : List ByteArray) : Sa 232 [rL 1 sR a0, rL 1 sR a1] [rB (yx a0 a1)] := by
 have f := me (yx.eq_1 a0 a1)
 refine so Tryz.func232 Tryz.ntmps232 ?_
 refine cF f ?_ ?_ <;> intro k1 h1 f
 ·exact rt [.tmp 4] f
 refine lp1 (yV.eq_2 a0 a1) (fun v1_0 => YM 26 [eL 0 1 a0 sR, eL 1 1 a1 sR, eI 5 (↑v1_0 : Int)]) (fun n1 v1_0 => a0.length < n1 + v1_0 ∧ v1_0 ≤ a0.length) (a0.length + 1) 0 (fun p1 v1_0 e1 j1 => ?_)
 refine cF e1 ?_ ?_ <;> intro k3 h2 e1
 ·have i1 := ix h2
  have m2 := ml a0 (k3 0 _ rfl)
  have w1 := wr v1_0
  refine dIo mixed ?_
  have i2 := ik v1_0 a1
  simp [i1, ZD, i2]
  repeat with_reducible refine sd ?_
  refine cF e1 ?_ ?_ <;> intro k5 h3 e1
  ·have f := ms f e1
   exact rt [.tmp 4] f
  exact ny1 w1 e1
 have f := ms f e1
 exact rt [.tmp 4] f
theorem S6 (a0 : ZT) (a1 : ZT) : Sa 216 [a0.row, a1.row] [rB (zX a0 a1)] := by
 have f := me (zX.eq_1 a0 a1)
 refine so Tryz.func216 Tryz.ntmps216 ?_
 refine cF f ?_ ?_ <;> intro k1 h1 f
 ·exact rt [.tmp 4] f
 refine cRs (P7 a0.ZE a1.ZE) ?_
 refine cF f ?_ ?_ <;> intro k2 h2 f
 ·exact rt [.tmp 4] f
 refine cRs (K9 a0.ZG a1.ZG) ?_
 refine cF f ?_ ?_ <;> intro k3 h3 f
 ·exact rt [.tmp 4] f
 exact rt [.tmp 4] f
theorem TT (a0 : Zm) (a1 : Zm) : Sa 217 [a0.row, a1.row] [rB (Kn a0 a1)] := by
 have f := me (Kn.eq_1 a0 a1)
 refine so Tryz.func217 Tryz.ntmps217 ?_
 refine cF f ?_ ?_ <;> intro k1 h1 f
 ·exact rt [.tmp 4] f
 refine cF f ?_ ?_ <;> intro k2 h2 f
 ·exact rt [.tmp 4] f
 refine cF f ?_ ?_ <;> intro k3 h3 f
 ·exact rt [.tmp 4] f
 refine cF f ?_ ?_ <;> intro k4 h4 f
 ·exact rt [.tmp 4] f
 refine cF f ?_ ?_ <;> intro k5 h5 f
 ·exact rt [.tmp 4] f
 refine cF f ?_ ?_ <;> intro k6 h6 f
 ·exact rt [.tmp 4] f
 refine cF f ?_ ?_ <;> intro k7 h7 f
 ·exact rt [.tmp 4] f
 refine cF f ?_ ?_ <;> intro k8 h8 f
 ·exact rt [.tmp 4] f
 refine cF f ?_ ?_ <;> intro k9 h9 f
 ·exact rt [.tmp 4] f
 exact rt [.tmp 4] f
theorem Mi (a0 : ZO) (a1 : ZO) : Sa 239 [a0.row, a1.row] [rB (xd a0 a1)] := by
 have f := me (xd.eq_1 a0 a1)
 refine so Tryz.func239 Tryz.ntmps239 ?_
 refine cF f ?_ ?_ <;> intro k1 h1 f
 ·exact rt [.tmp 4] f
 refine cRs (K9 a0.Ye a1.Ye) ?_
 refine cF f ?_ ?_ <;> intro k2 h2 f
 ·exact rt [.tmp 4] f
 refine cF f ?_ ?_ <;> intro k3 h3 f
 ·exact rt [.tmp 4] f
 exact rt [.tmp 4] f
theorem OR (a0 : List ZO) (a1 : List ZO) : Sa 233 [rL 3 ZO.row a0, rL 3 ZO.row a1] [rB (xu a0 a1)] := by
 have f := me (xu.eq_1 a0 a1)
 refine so Tryz.func233 Tryz.ntmps233 ?_
 refine cF f ?_ ?_ <;> intro k1 h1 f
 ·exact rt [.tmp 4] f
 refine lp1 (xU.eq_2 a0 a1) (fun v1_0 => YM 27 [eL 0 3 a0 ZO.row, eL 1 3 a1 ZO.row, eI 5 (↑v1_0 : Int)]) (fun n1 v1_0 => a0.length < n1 + v1_0 ∧ v1_0 ≤ a0.length) (a0.length + 1) 0 (fun p1 v1_0 e1 j1 => ?_)
 refine cF e1 ?_ ?_ <;> intro k3 h2 e1
 ·have i1 := ix h2
  have m2 := ml a0 (k3 0 _ rfl)
  have w1 := wr v1_0
  refine dIo mixed ?_
  have i2 := ik v1_0 a1
  simp [i1, ZD, i2]
  repeat with_reducible refine sd ?_
  refine cRs (Mi (nth a0 v1_0) (nth a1 v1_0)) ?_
  refine cF e1 ?_ ?_ <;> intro k5 h3 e1
  ·have f := ms f e1
   exact rt [.tmp 4] f
  exact ny1 w1 e1
 have f := ms f e1
 exact rt [.tmp 4] f
theorem Ig (a0 : Zq) (a1 : Zq) : Sa 249 [a0.row, a1.row] [rB (ja a0 a1)] := by
 have f := me (ja.eq_1 a0 a1)
 refine so Tryz.func249 Tryz.ntmps249 ?_
 refine cF f ?_ ?_ <;> intro k1 h1 f
 ·exact rt [.tmp 4] f
 refine cF f ?_ ?_ <;> intro k2 h2 f
 ·exact rt [.tmp 4] f
 exact rt [.tmp 4] f
theorem Ma (a0 : List Zq) (a1 : List Zq) : Sa 245 [rL 2 Zq.row a0, rL 2 Zq.row a1] [rB (jS a0 a1)] := by
 have f := me (jS.eq_1 a0 a1)
 refine so Tryz.func245 Tryz.ntmps245 ?_
 refine cF f ?_ ?_ <;> intro k1 h1 f
 ·exact rt [.tmp 4] f
 refine lp1 (qU.eq_2 a0 a1) (fun v1_0 => YM 27 [eL 0 2 a0 Zq.row, eL 1 2 a1 Zq.row, eI 5 (↑v1_0 : Int)]) (fun n1 v1_0 => a0.length < n1 + v1_0 ∧ v1_0 ≤ a0.length) (a0.length + 1) 0 (fun p1 v1_0 e1 j1 => ?_)
 refine cF e1 ?_ ?_ <;> intro k3 h2 e1
 ·have i1 := ix h2
  have m2 := ml a0 (k3 0 _ rfl)
  have w1 := wr v1_0
  refine dIo mixed ?_
  have i2 := ik v1_0 a1
  simp [i1, ZD, i2]
  repeat with_reducible refine sd ?_
  refine cRs (Ig (nth a0 v1_0) (nth a1 v1_0)) ?_
  refine cF e1 ?_ ?_ <;> intro k5 h3 e1
  ·have f := ms f e1
   exact rt [.tmp 4] f
  exact ny1 w1 e1
 have f := ms f e1
 exact rt [.tmp 4] f
theorem Mj (a0 : ZX) (a1 : ZX) : Sa 250 [a0.row, a1.row] [rB (xe a0 a1)] := by
 have f := me (xe.eq_1 a0 a1)
 refine so Tryz.func250 Tryz.ntmps250 ?_
 refine cF f ?_ ?_ <;> intro k1 h1 f
 ·exact rt [.tmp 4] f
 refine cF f ?_ ?_ <;> intro k2 h2 f
 ·exact rt [.tmp 4] f
 refine cF f ?_ ?_ <;> intro k3 h3 f
 ·exact rt [.tmp 4] f
 refine cF f ?_ ?_ <;> intro k4 h4 f
 ·exact rt [.tmp 4] f
 refine cF f ?_ ?_ <;> intro k5 h5 f
 ·exact rt [.tmp 4] f
 exact rt [.tmp 4] f
theorem O1 (a0 : List ZX) (a1 : List ZX) : Sa 246 [rL 5 ZX.row a0, rL 5 ZX.row a1] [rB (xl a0 a1)] := by
 have f := me (xl.eq_1 a0 a1)
 refine so Tryz.func246 Tryz.ntmps246 ?_
 refine cF f ?_ ?_ <;> intro k1 h1 f
 ·exact rt [.tmp 4] f
 refine lp1 (xW.eq_2 a0 a1) (fun v1_0 => YM 27 [eL 0 5 a0 ZX.row, eL 1 5 a1 ZX.row, eI 5 (↑v1_0 : Int)]) (fun n1 v1_0 => a0.length < n1 + v1_0 ∧ v1_0 ≤ a0.length) (a0.length + 1) 0 (fun p1 v1_0 e1 j1 => ?_)
 refine cF e1 ?_ ?_ <;> intro k3 h2 e1
 ·have i1 := ix h2
  have m2 := ml a0 (k3 0 _ rfl)
  have w1 := wr v1_0
  refine dIo mixed ?_
  have i2 := ik v1_0 a1
  simp [i1, ZD, i2]
  repeat with_reducible refine sd ?_
  refine cRs (Mj (nth a0 v1_0) (nth a1 v1_0)) ?_
  refine cF e1 ?_ ?_ <;> intro k5 h3 e1
  ·have f := ms f e1
   exact rt [.tmp 4] f
  exact ny1 w1 e1
 have f := ms f e1
 exact rt [.tmp 4] f
theorem Pj (a0 : ZF) (a1 : ZF) : Sa 240 [a0.row, a1.row] [rB (zE a0 a1)] := by
 have f := me (zE.eq_1 a0 a1)
 refine so Tryz.func240 Tryz.ntmps240 ?_
 refine cF f ?_ ?_ <;> intro k1 h1 f
 ·exact rt [.tmp 4] f
 refine cF f ?_ ?_ <;> intro k2 h2 f
 ·exact rt [.tmp 4] f
 refine cF f ?_ ?_ <;> intro k3 h3 f
 ·exact rt [.tmp 4] f
 refine cRs (Ma a0.Path a1.Path) ?_
 refine cF f ?_ ?_ <;> intro k4 h4 f
 ·exact rt [.tmp 4] f
 refine cRs (O1 a0.Zv a1.Zv) ?_
 refine cF f ?_ ?_ <;> intro k5 h5 f
 ·exact rt [.tmp 4] f
 exact rt [.tmp 4] f
theorem Sy (a0 : List ZF) (a1 : List ZF) : Sa 234 [rL 5 ZF.row a0, rL 5 ZF.row a1] [rB (zj a0 a1)] := by
 have f := me (zj.eq_1 a0 a1)
 refine so Tryz.func234 Tryz.ntmps234 ?_
 refine cF f ?_ ?_ <;> intro k1 h1 f
 ·exact rt [.tmp 4] f
 refine lp1 (zU.eq_2 a0 a1) (fun v1_0 => YM 27 [eL 0 5 a0 ZF.row, eL 1 5 a1 ZF.row, eI 5 (↑v1_0 : Int)]) (fun n1 v1_0 => a0.length < n1 + v1_0 ∧ v1_0 ≤ a0.length) (a0.length + 1) 0 (fun p1 v1_0 e1 j1 => ?_)
 refine cF e1 ?_ ?_ <;> intro k3 h2 e1
 ·have i1 := ix h2
  have m2 := ml a0 (k3 0 _ rfl)
  have w1 := wr v1_0
  refine dIo mixed ?_
  have i2 := ik v1_0 a1
  simp [i1, ZD, i2]
  repeat with_reducible refine sd ?_
  refine cRs (Pj (nth a0 v1_0) (nth a1 v1_0)) ?_
  refine cF e1 ?_ ?_ <;> intro k5 h3 e1
  ·have f := ms f e1
   exact rt [.tmp 4] f
  exact ny1 w1 e1
 have f := ms f e1
 exact rt [.tmp 4] f
theorem NI (a0 : ZY) (a1 : ZY) : Sa 218 [a0.row, a1.row] [rB (xo a0 a1)] := by
 have f := me (xo.eq_1 a0 a1)
 refine so Tryz.func218 Tryz.ntmps218 ?_
 refine cRs (OR a0.ZR a1.ZR) ?_
 refine cF f ?_ ?_ <;> intro k1 h1 f
 ·exact rt [.tmp 4] f
 refine cRs (Sy a0.ZV a1.ZV) ?_
 refine cF f ?_ ?_ <;> intro k2 h2 f
 ·exact rt [.tmp 4] f
 exact rt [.tmp 4] f
theorem IX (a0 : Zb) (a1 : Zb) : Sa 185 [a0.row, a1.row] [rB (jW a0 a1)] := by
 have f := me (jW.eq_1 a0 a1)
 refine so Tryz.func185 Tryz.ntmps185 ?_
 refine cF f ?_ ?_ <;> intro k1 h1 f
 ·exact rt [.tmp 4] f
 refine cF f ?_ ?_ <;> intro k2 h2 f
 ·exact rt [.tmp 4] f
 refine cRs (S6 a0.Doc a1.Doc) ?_
 refine cF f ?_ ?_ <;> intro k3 h3 f
 ·exact rt [.tmp 4] f
 refine cRs (TT a0.Sig a1.Sig) ?_
 refine cF f ?_ ?_ <;> intro k4 h4 f
 ·exact rt [.tmp 4] f
 refine cRs (NI a0.ZK a1.ZK) ?_
 refine cF f ?_ ?_ <;> intro k5 h5 f
 ·exact rt [.tmp 4] f
 exact rt [.tmp 4] f
theorem LO (a0 : List Zb) (a1 : List Zb) : Sa 150 [rL 16 Zb.row a0, rL 16 Zb.row a1] [rB (jI a0 a1)] := by
 have f := me (jI.eq_1 a0 a1)
 refine so Tryz.func150 Tryz.ntmps150 ?_
 refine cF f ?_ ?_ <;> intro k1 h1 f
 ·exact rt [.tmp 4] f
 refine lp1 (qP.eq_2 a0 a1) (fun v1_0 => YM 27 [eL 0 16 a0 Zb.row, eL 1 16 a1 Zb.row, eI 5 (↑v1_0 : Int)]) (fun n1 v1_0 => a0.length < n1 + v1_0 ∧ v1_0 ≤ a0.length) (a0.length + 1) 0 (fun p1 v1_0 e1 j1 => ?_)
 refine cF e1 ?_ ?_ <;> intro k3 h2 e1
 ·have i1 := ix h2
  have m2 := ml a0 (k3 0 _ rfl)
  have w1 := wr v1_0
  refine dIo mixed ?_
  have i2 := ik v1_0 a1
  simp [i1, ZD, i2]
  repeat with_reducible refine sd ?_
  refine cRs (IX (nth a0 v1_0) (nth a1 v1_0)) ?_
  refine cF e1 ?_ ?_ <;> intro k5 h3 e1
  ·have f := ms f e1
   exact rt [.tmp 4] f
  exact ny1 w1 e1
 have f := ms f e1
 exact rt [.tmp 4] f
theorem Rc (a0 : ZH) (a1 : ZH) : Sa 95 [a0.row, a1.row] [rB (zF a0 a1)] := by
 have f := me (zF.eq_1 a0 a1)
 refine so Tryz.func95 Tryz.ntmps95 ?_
 refine cF f ?_ ?_ <;> intro k1 h1 f
 ·exact rt [.tmp 4] f
 refine cRs (LO a0.ZS a1.ZS) ?_
 refine cF f ?_ ?_ <;> intro k2 h2 f
 ·exact rt [.tmp 4] f
 exact rt [.tmp 4] f
theorem S5 (a0 : List ZH) (a1 : List ZH) : Sa 38 [rL 2 ZH.row a0, rL 2 ZH.row a1] [rB (zs a0 a1)] := by
 have f := me (zs.eq_1 a0 a1)
 refine so Tryz.func38 Tryz.ntmps38 ?_
 refine cF f ?_ ?_ <;> intro k1 h1 f
 ·exact rt [.tmp 4] f
 refine lp1 (zg.eq_2 a0 a1) (fun v1_0 => YM 27 [eL 0 2 a0 ZH.row, eL 1 2 a1 ZH.row, eI 5 (↑v1_0 : Int)]) (fun n1 v1_0 => a0.length < n1 + v1_0 ∧ v1_0 ≤ a0.length) (a0.length + 1) 0 (fun p1 v1_0 e1 j1 => ?_)
 refine cF e1 ?_ ?_ <;> intro k3 h2 e1
 ·have i1 := ix h2
  have m2 := ml a0 (k3 0 _ rfl)
  have w1 := wr v1_0
  refine dIo mixed ?_
  have i2 := ik v1_0 a1
  simp [i1, ZD, i2]
  repeat with_reducible refine sd ?_
  refine cRs (Rc (nth a0 v1_0) (nth a1 v1_0)) ?_
  refine cF e1 ?_ ?_ <;> intro k5 h3 e1
  ·have f := ms f e1
   exact rt [.tmp 4] f
  exact ny1 w1 e1
 have f := ms f e1
 exact rt [.tmp 4] f
theorem xa (a0 : Zc) (a1 : Zc) : Sa 11 [a0.row, a1.row] [rB (zC a0 a1)] := by
 have f := me (zC.eq_1 a0 a1)
 refine so Tryz.func11 Tryz.ntmps11 ?_
 refine cRs (Mp a0.Frame a1.Frame) ?_
 refine cF f ?_ ?_ <;> intro k1 h1 f
 ·exact rt [.tmp 4] f
 refine cRs (MY a0.Zx a1.Zx) ?_
 refine cF f ?_ ?_ <;> intro k2 h2 f
 ·exact rt [.tmp 4] f
 refine cRs (K9 a0.Z5 a1.Z5) ?_
 refine cF f ?_ ?_ <;> intro k3 h3 f
 ·exact rt [.tmp 4] f
 refine cRs (S5 a0.ZC a1.ZC) ?_
 refine cF f ?_ ?_ <;> intro k4 h4 f
 ·exact rt [.tmp 4] f
 refine cRs (K9 a0.Yz a1.Yz) ?_
 refine cF f ?_ ?_ <;> intro k5 h5 f
 ·exact rt [.tmp 4] f
 refine cRs (K9 a0.YX a1.YX) ?_
 refine cF f ?_ ?_ <;> intro k6 h6 f
 ·exact rt [.tmp 4] f
 refine cF f ?_ ?_ <;> intro k7 h7 f
 ·exact rt [.tmp 4] f
 refine cRs (K9 a0.YT a1.YT) ?_
 refine cF f ?_ ?_ <;> intro k8 h8 f
 ·exact rt [.tmp 4] f
 exact rt [.tmp 4] f
theorem OJ (a0 : List YD) (a1 : Int) : QW Tryz.prog 96 (rL 5 YD.row a0) [rI a1] (rL 5 YD.row (YS a0 a1).1) (.int .i64 (YS a0 a1).2) := by
 refine Xv Tryz.func96 rfl (by kernel_rfl) (fun v => ?_)
 simp [Tryz.ntmps96]
 refine okL fun k1 => ?_
 refine kO (ι := { s : Nat × Int × Nat × (List YD) // Ql s.1 s.2.1 s.2.2.1 s.2.2.2 = Ql (a0.length + 1) a1 0 a0 ∧ (1 ≤ s.1 ∧ s.2.2.2.length < s.1 + s.2.2.1) }) (fun s => YM 48 [(0, .fix v (.one (.sref 0 0 0 s.1.2.2.2.length)), [.arr true 5 (s.1.2.2.2.map YD.row)]), eI 1 s.1.2.1, eI 5 (↑s.1.2.2.1 : Int)]) (fun s => s.1.1) ⟨((a0.length + 1), a1, 0, a0), rfl, by first | omega | (dsimp only; omega) | simp⟩ (Yv (by simp)) ?_
 rintro ⟨⟨n1, v1_0, v1_1, v1_2⟩, e1, j1⟩
 try dsimp only at e1 j1
 obtain ⟨p1, rfl⟩ : ∃ p, n1 = p + 1 := ⟨n1 - 1, by omega⟩
 simp
 refine cC (decide ((↑v1_1 : Int) < (↑v1_2.length : Int))) (fun k2 h1 => ?_) (fun k2 h1 => ?_)
 ·have q1 := h1; try simp at q1
  have i1 : v1_1 < v1_2.length := by simpa using h1
  have m2 : v1_2.length ≤ 9223372036854775807 := by simpa using k2 0 _ rfl
  have w1 : IntKind.i64.wrap ((v1_1 : Int) + 1) = (v1_1 : Int) + 1 := Za (by omega) (by omega)
  simp [i1, ZD, Zw (x := (YD.mk v1_0 (nth v1_2 v1_1).K8 (nth v1_2 v1_1).Method (nth v1_2 v1_1).RY (nth v1_2 v1_1).Kb)) rfl, Zj, List.set_set, Zw (x := (YD.mk v1_0 (W (v1_0 + 1)) (nth v1_2 v1_1).Method (nth v1_2 v1_1).RY (nth v1_2 v1_1).Kb)) rfl, Zw (x := (YD.mk v1_0 (W (v1_0 + 1)) (W ((W (v1_0 + 1)) + 1)) (nth v1_2 v1_1).RY (nth v1_2 v1_1).Kb)) rfl, Zw (x := (YD.mk v1_0 (W (v1_0 + 1)) (W ((W (v1_0 + 1)) + 1)) (W ((W ((W (v1_0 + 1)) + 1)) + 1)) (nth v1_2 v1_1).Kb)) rfl, Zw (x := (YD.mk v1_0 (W (v1_0 + 1)) (W ((W (v1_0 + 1)) + 1)) (W ((W ((W (v1_0 + 1)) + 1)) + 1)) (W ((W ((W ((W (v1_0 + 1)) + 1)) + 1)) + 1)))) rfl]
  repeat with_reducible refine sd ?_
  refine Se ⟨(p1, (W ((W ((W ((W ((W (v1_0 + 1)) + 1)) + 1)) + 1)) + 1)), (v1_1 + 1), (v1_2.set v1_1 (YD.mk v1_0 (W (v1_0 + 1)) (W ((W (v1_0 + 1)) + 1)) (W ((W ((W (v1_0 + 1)) + 1)) + 1)) (W ((W ((W ((W (v1_0 + 1)) + 1)) + 1)) + 1))))), ?_, ?_⟩ (by simp) (Yv (by simp [w1]))
  · rw [← e1]; simp only [Ql, h1, Ys, Yn]
  · (simp; omega)
 ·have q1 := h1; try simp at q1
  have x1 : Ql (a0.length + 1) a1 0 a0 = (v1_0, v1_2) := by rw [← e1]; simp only [Ql, h1, Ys, Yn]
  simp
  refine Ul (rv := [.tmp 4]) rfl ?_
  have f1 := YS.eq_1 a0 a1; simp only [x1, Ys, Yn] at f1; simp [f1]
theorem Wr (a0 : List ZI) (a1 : Int) : QW Tryz.prog 97 (rL 3 ZI.row a0) [rI a1] (rL 3 ZI.row (YB a0 a1).1) (.int .i64 (YB a0 a1).2) := by
 refine Xv Tryz.func97 rfl (by kernel_rfl) (fun v => ?_)
 simp [Tryz.ntmps97]
 refine okL fun k1 => ?_
 refine kO (ι := { s : Nat × Int × Nat × (List ZI) // Y3 s.1 s.2.1 s.2.2.1 s.2.2.2 = Y3 (a0.length + 1) a1 0 a0 ∧ (1 ≤ s.1 ∧ s.2.2.2.length < s.1 + s.2.2.1) }) (fun s => YM 34 [(0, .fix v (.one (.sref 0 0 0 s.1.2.2.2.length)), [.arr true 3 (s.1.2.2.2.map ZI.row)]), eI 1 s.1.2.1, eI 5 (↑s.1.2.2.1 : Int)]) (fun s => s.1.1) ⟨((a0.length + 1), a1, 0, a0), rfl, by first | omega | (dsimp only; omega) | simp⟩ (Yv (by simp)) ?_
 rintro ⟨⟨n1, v1_0, v1_1, v1_2⟩, e1, j1⟩
 try dsimp only at e1 j1
 obtain ⟨p1, rfl⟩ : ∃ p, n1 = p + 1 := ⟨n1 - 1, by omega⟩
 simp
 refine cC (decide ((↑v1_1 : Int) < (↑v1_2.length : Int))) (fun k2 h1 => ?_) (fun k2 h1 => ?_)
 ·have q1 := h1; try simp at q1
  have i1 : v1_1 < v1_2.length := by simpa using h1
  have m2 : v1_2.length ≤ 9223372036854775807 := by simpa using k2 0 _ rfl
  have w1 : IntKind.i64.wrap ((v1_1 : Int) + 1) = (v1_1 : Int) + 1 := Za (by omega) (by omega)
  simp [i1, ZD, Zw (x := (ZI.mk v1_0 (nth v1_2 v1_1).Key (nth v1_2 v1_1).Error)) rfl, Zj, List.set_set, Zw (x := (ZI.mk v1_0 (W (v1_0 + 1)) (nth v1_2 v1_1).Error)) rfl, Zw (x := (ZI.mk v1_0 (W (v1_0 + 1)) (W ((W (v1_0 + 1)) + 1)))) rfl]
  repeat with_reducible refine sd ?_
  refine Se ⟨(p1, (W ((W ((W (v1_0 + 1)) + 1)) + 1)), (v1_1 + 1), (v1_2.set v1_1 (ZI.mk v1_0 (W (v1_0 + 1)) (W ((W (v1_0 + 1)) + 1))))), ?_, ?_⟩ (by simp) (Yv (by simp [w1]))
  · rw [← e1]; simp only [Y3, h1, Ys, Yn]
  · (simp; omega)
 ·have q1 := h1; try simp at q1
  have x1 : Y3 (a0.length + 1) a1 0 a0 = (v1_0, v1_2) := by rw [← e1]; simp only [Y3, h1, Ys, Yn]
  simp
  refine Ul (rv := [.tmp 4]) rfl ?_
  have f1 := YB.eq_1 a0 a1; simp only [x1, Ys, Yn] at f1; simp [f1]
theorem TM (a0 : List ZU) (a1 : Int) : QW Tryz.prog 98 (rL 4 ZU.row a0) [rI a1] (rL 4 ZU.row (Yl a0 a1).1) (.int .i64 (Yl a0 a1).2) := by
 refine Xv Tryz.func98 rfl (by kernel_rfl) (fun v => ?_)
 simp [Tryz.ntmps98]
 refine okL fun k1 => ?_
 refine kO (ι := { s : Nat × Int × Nat × (List ZU) // Xa s.1 s.2.1 s.2.2.1 s.2.2.2 = Xa (a0.length + 1) a1 0 a0 ∧ (1 ≤ s.1 ∧ s.2.2.2.length < s.1 + s.2.2.1) }) (fun s => YM 41 [(0, .fix v (.one (.sref 0 0 0 s.1.2.2.2.length)), [.arr true 4 (s.1.2.2.2.map ZU.row)]), eI 1 s.1.2.1, eI 5 (↑s.1.2.2.1 : Int)]) (fun s => s.1.1) ⟨((a0.length + 1), a1, 0, a0), rfl, by first | omega | (dsimp only; omega) | simp⟩ (Yv (by simp)) ?_
 rintro ⟨⟨n1, v1_0, v1_1, v1_2⟩, e1, j1⟩
 try dsimp only at e1 j1
 obtain ⟨p1, rfl⟩ : ∃ p, n1 = p + 1 := ⟨n1 - 1, by omega⟩
 simp
 refine cC (decide ((↑v1_1 : Int) < (↑v1_2.length : Int))) (fun k2 h1 => ?_) (fun k2 h1 => ?_)
 ·have q1 := h1; try simp at q1
  have i1 : v1_1 < v1_2.length := by simpa using h1
  have m2 : v1_2.length ≤ 9223372036854775807 := by simpa using k2 0 _ rfl
  have w1 : IntKind.i64.wrap ((v1_1 : Int) + 1) = (v1_1 : Int) + 1 := Za (by omega) (by omega)
  simp [i1, ZD, Zw (x := (ZU.mk v1_0 (nth v1_2 v1_1).kr (nth v1_2 v1_1).Ends (nth v1_2 v1_1).yN)) rfl, Zj, List.set_set, Zw (x := (ZU.mk v1_0 (W (v1_0 + 1)) (nth v1_2 v1_1).Ends (nth v1_2 v1_1).yN)) rfl, Zw (x := (ZU.mk v1_0 (W (v1_0 + 1)) (W ((W (v1_0 + 1)) + 1)) (nth v1_2 v1_1).yN)) rfl, Zw (x := (ZU.mk v1_0 (W (v1_0 + 1)) (W ((W (v1_0 + 1)) + 1)) (W ((W ((W (v1_0 + 1)) + 1)) + 1)))) rfl]
  repeat with_reducible refine sd ?_
  refine Se ⟨(p1, (W ((W ((W ((W (v1_0 + 1)) + 1)) + 1)) + 1)), (v1_1 + 1), (v1_2.set v1_1 (ZU.mk v1_0 (W (v1_0 + 1)) (W ((W (v1_0 + 1)) + 1)) (W ((W ((W (v1_0 + 1)) + 1)) + 1))))), ?_, ?_⟩ (by simp) (Yv (by simp [w1]))
  · rw [← e1]; simp only [Xa, h1, Ys, Yn]
  · (simp; omega)
 ·have q1 := h1; try simp at q1
  have x1 : Xa (a0.length + 1) a1 0 a0 = (v1_0, v1_2) := by rw [← e1]; simp only [Xa, h1, Ys, Yn]
  simp
  refine Ul (rv := [.tmp 4]) rfl ?_
  have f1 := Yl.eq_1 a0 a1; simp only [x1, Ys, Yn] at f1; simp [f1]
theorem Pn (a0 : Z4) (a1 : Int) : QW Tryz.prog 39 a0.row [rI a1] (Zh a0 a1).1.row (.int .i64 (Zh a0 a1).2) := by
 refine Xv Tryz.func39 rfl (by kernel_rfl) (fun v => ?_)
 simp [Tryz.ntmps39]
 refine y3 (ats := [.sref 0 0 0 a0.YR.length]) rfl rfl rfl rfl rfl rfl rfl (OJ a0.YR a1) (by simp) (by simp) (by simp) (by simp) (by simp) (by simp) (by simp) (by simp) (by simp) ?_
 simp
 refine y3 (ats := [.sref 0 1 0 a0.ZL.length]) rfl rfl rfl rfl rfl rfl rfl (Wr a0.ZL (YS a0.YR a1).2) (by simp) (by simp) (by simp) (by simp) (by simp) (by simp) (by simp) (by simp) (by simp) ?_
 simp
 refine y3 (ats := [.sref 0 2 0 a0.Methods.length]) rfl rfl rfl rfl rfl rfl rfl (TM a0.Methods (YB a0.ZL (YS a0.YR a1).2).2) (by simp) (by simp) (by simp) (by simp) (by simp) (by simp) (by simp) (by simp) (by simp) ?_
 simp
 refine Ul (rv := [.tmp 4]) rfl ?_
 have f1 := Zh.eq_1 a0 a1; simp [f1]
theorem PQ (a0 : List Z0) (a1 : Int) : QW Tryz.prog 40 (rL 7 Z0.row a0) [rI a1] (rL 7 Z0.row (Zt a0 a1).1) (.int .i64 (Zt a0 a1).2) := by
 refine Xv Tryz.func40 rfl (by kernel_rfl) (fun v => ?_)
 simp [Tryz.ntmps40]
 refine okL fun k1 => ?_
 refine kO (ι := { s : Nat × Int × Nat × (List Z0) // QG s.1 s.2.1 s.2.2.1 s.2.2.2 = QG (a0.length + 1) a1 0 a0 ∧ (1 ≤ s.1 ∧ s.2.2.2.length < s.1 + s.2.2.1) }) (fun s => YM 62 [(0, .fix v (.one (.sref 0 0 0 s.1.2.2.2.length)), [.arr true 7 (s.1.2.2.2.map Z0.row)]), eI 1 s.1.2.1, eI 5 (↑s.1.2.2.1 : Int)]) (fun s => s.1.1) ⟨((a0.length + 1), a1, 0, a0), rfl, by first | omega | (dsimp only; omega) | simp⟩ (Yv (by simp)) ?_
 rintro ⟨⟨n1, v1_0, v1_1, v1_2⟩, e1, j1⟩
 try dsimp only at e1 j1
 obtain ⟨p1, rfl⟩ : ∃ p, n1 = p + 1 := ⟨n1 - 1, by omega⟩
 simp
 refine cC (decide ((↑v1_1 : Int) < (↑v1_2.length : Int))) (fun k2 h1 => ?_) (fun k2 h1 => ?_)
 ·have q1 := h1; try simp at q1
  have i1 : v1_1 < v1_2.length := by simpa using h1
  have m2 : v1_2.length ≤ 9223372036854775807 := by simpa using k2 0 _ rfl
  have w1 : IntKind.i64.wrap ((v1_1 : Int) + 1) = (v1_1 : Int) + 1 := Za (by omega) (by omega)
  simp [i1, ZD, Zw (x := (Z0.mk v1_0 (nth v1_2 v1_1).Key (nth v1_2 v1_1).K8 (nth v1_2 v1_1).xQ (nth v1_2 v1_1).To (nth v1_2 v1_1).J9 (nth v1_2 v1_1).Mark)) rfl, Zj, List.set_set, Zw (x := (Z0.mk v1_0 (W (v1_0 + 1)) (nth v1_2 v1_1).K8 (nth v1_2 v1_1).xQ (nth v1_2 v1_1).To (nth v1_2 v1_1).J9 (nth v1_2 v1_1).Mark)) rfl, Zw (x := (Z0.mk v1_0 (W (v1_0 + 1)) (W ((W (v1_0 + 1)) + 1)) (nth v1_2 v1_1).xQ (nth v1_2 v1_1).To (nth v1_2 v1_1).J9 (nth v1_2 v1_1).Mark)) rfl, Zw (x := (Z0.mk v1_0 (W (v1_0 + 1)) (W ((W (v1_0 + 1)) + 1)) (W ((W ((W (v1_0 + 1)) + 1)) + 1)) (nth v1_2 v1_1).To (nth v1_2 v1_1).J9 (nth v1_2 v1_1).Mark)) rfl, Zw (x := (Z0.mk v1_0 (W (v1_0 + 1)) (W ((W (v1_0 + 1)) + 1)) (W ((W ((W (v1_0 + 1)) + 1)) + 1)) (W ((W ((W ((W (v1_0 + 1)) + 1)) + 1)) + 1)) (nth v1_2 v1_1).J9 (nth v1_2 v1_1).Mark)) rfl, Zw (x := (Z0.mk v1_0 (W (v1_0 + 1)) (W ((W (v1_0 + 1)) + 1)) (W ((W ((W (v1_0 + 1)) + 1)) + 1)) (W ((W ((W ((W (v1_0 + 1)) + 1)) + 1)) + 1)) (W ((W ((W ((W ((W (v1_0 + 1)) + 1)) + 1)) + 1)) + 1)) (nth v1_2 v1_1).Mark)) rfl, Zw (x := (Z0.mk v1_0 (W (v1_0 + 1)) (W ((W (v1_0 + 1)) + 1)) (W ((W ((W (v1_0 + 1)) + 1)) + 1)) (W ((W ((W ((W (v1_0 + 1)) + 1)) + 1)) + 1)) (W ((W ((W ((W ((W (v1_0 + 1)) + 1)) + 1)) + 1)) + 1)) (W ((W ((W ((W ((W ((W (v1_0 + 1)) + 1)) + 1)) + 1)) + 1)) + 1)))) rfl]
  repeat with_reducible refine sd ?_
  refine Se ⟨(p1, (W ((W ((W ((W ((W ((W ((W (v1_0 + 1)) + 1)) + 1)) + 1)) + 1)) + 1)) + 1)), (v1_1 + 1), (v1_2.set v1_1 (Z0.mk v1_0 (W (v1_0 + 1)) (W ((W (v1_0 + 1)) + 1)) (W ((W ((W (v1_0 + 1)) + 1)) + 1)) (W ((W ((W ((W (v1_0 + 1)) + 1)) + 1)) + 1)) (W ((W ((W ((W ((W (v1_0 + 1)) + 1)) + 1)) + 1)) + 1)) (W ((W ((W ((W ((W ((W (v1_0 + 1)) + 1)) + 1)) + 1)) + 1)) + 1))))), ?_, ?_⟩ (by simp) (Yv (by simp [w1]))
  · rw [← e1]; simp only [QG, h1, Ys, Yn]
  · (simp; omega)
 ·have q1 := h1; try simp at q1
  have x1 : QG (a0.length + 1) a1 0 a0 = (v1_0, v1_2) := by rw [← e1]; simp only [QG, h1, Ys, Yn]
  simp
  refine Ul (rv := [.tmp 4]) rfl ?_
  have f1 := Zt.eq_1 a0 a1; simp only [x1, Ys, Yn] at f1; simp [f1]
theorem Jw (a0 : List Int) (a1 : Int) : QW Tryz.prog 22 (rL 1 iR a0) [rI a1] (rL 1 iR (ZB a0 a1).1) (.int .i64 (ZB a0 a1).2) := by
 refine Xv Tryz.func22 rfl (by kernel_rfl) (fun v => ?_)
 simp [Tryz.ntmps22]
 refine okL fun k1 => ?_
 refine kO (ι := { s : Nat × Int × Nat × (List Int) // Qi s.1 s.2.1 s.2.2.1 s.2.2.2 = Qi (a0.length + 1) a1 0 a0 ∧ (1 ≤ s.1 ∧ s.2.2.2.length < s.1 + s.2.2.1) }) (fun s => YM 19 [(0, .fix v (.one (.sref 0 0 0 s.1.2.2.2.length)), [.arr true 1 (s.1.2.2.2.map iR)]), eI 1 s.1.2.1, eI 5 (↑s.1.2.2.1 : Int)]) (fun s => s.1.1) ⟨((a0.length + 1), a1, 0, a0), rfl, by first | omega | (dsimp only; omega) | simp⟩ (Yv (by simp)) ?_
 rintro ⟨⟨n1, v1_0, v1_1, v1_2⟩, e1, j1⟩
 try dsimp only at e1 j1
 obtain ⟨p1, rfl⟩ : ∃ p, n1 = p + 1 := ⟨n1 - 1, by omega⟩
 simp
 refine cC (decide ((↑v1_1 : Int) < (↑v1_2.length : Int))) (fun k2 h1 => ?_) (fun k2 h1 => ?_)
 ·have q1 := h1; try simp at q1
  have i1 : v1_1 < v1_2.length := by simpa using h1
  have m2 : v1_2.length ≤ 9223372036854775807 := by simpa using k2 0 _ rfl
  have w1 : IntKind.i64.wrap ((v1_1 : Int) + 1) = (v1_1 : Int) + 1 := Za (by omega) (by omega)
  simp [i1, ZD, Zw (x := v1_0) rfl, Zj]
  repeat with_reducible refine sd ?_
  refine Se ⟨(p1, (W (v1_0 + 1)), (v1_1 + 1), (v1_2.set v1_1 v1_0)), ?_, ?_⟩ (by simp) (Yv (by simp [w1]))
  · rw [← e1]; simp only [Qi, h1, Ys, Yn]
  · (simp; omega)
 ·have q1 := h1; try simp at q1
  have x1 : Qi (a0.length + 1) a1 0 a0 = (v1_0, v1_2) := by rw [← e1]; simp only [Qi, h1, Ys, Yn]
  simp
  refine Ul (rv := [.tmp 4]) rfl ?_
  have f1 := ZB.eq_1 a0 a1; simp only [x1, Ys, Yn] at f1; simp [f1]
theorem W1 (a0 : Int) : Sa 186 [rI a0] [rS (Y5 a0)] := by
 have f := me (Y5.eq_1 a0)
 refine so Tryz.func186 Tryz.ntmps186 ?_
 refine cF f ?_ ?_ <;> intro k1 h1 f
 ·exact rt [.tmp 2] f
 refine lp2 (j4.eq_2) (fun v1_0 v1_1 => YM 20 [eI 0 v1_0, (3, .one (.d (.str v1_1)), [])]) (fun n1 v1_0 v1_1 => (n1 = 22 ∨ v1_0.natAbs < 10 ^ (n1 - 1)) ∧ v1_1.size + n1 = 22) 22 a0 (⟨#[]⟩ : ByteArray) (fun p1 v1_0 v1_1 e1 j1 => ?_) (hI := by exact ⟨by omega, .inl rfl, rfl⟩)
 try dsimp only at j1
 refine cF e1 ?_ ?_ <;> intro k3 h2 e1
 ·refine toStr (l := ([(UInt8.ofInt (W (48 + (Int.tmod v1_0 10))))] : List UInt8)) rfl rfl rfl (by simp) (by simp) (by simp) (by simp [KZ, Cu]) ?_
  simp
  repeat with_reducible refine sd ?_
  exact nx2 e1 (hI := by (try dsimp only); obtain ⟨s1, s2⟩ := Cj j1.2.1 (show (v1_0 != 0) = true by simp at h2 ⊢; omega); refine ⟨s1, s2, ?_⟩; have := j1.2.2; simp; omega)
 have f := ms f e1
 exact rt [.tmp 2] f
theorem Uy (a0 : List ByteArray) (a1 : Int) : QW Tryz.prog 151 (rL 1 sR a0) [rI a1] (rL 1 sR (ZA a0 a1).1) (.int .i64 (ZA a0 a1).2) := by
 refine Xv Tryz.func151 rfl (by kernel_rfl) (fun v => ?_)
 simp [Tryz.ntmps151]
 refine okL fun k1 => ?_
 refine kO (ι := { s : Nat × Int × Nat × (List ByteArray) // Xb s.1 s.2.1 s.2.2.1 s.2.2.2 = Xb (a0.length + 1) a1 0 a0 ∧ (1 ≤ s.1 ∧ s.2.2.2.length < s.1 + s.2.2.1) }) (fun s => YM 20 [(0, .fix v (.one (.sref 0 0 0 s.1.2.2.2.length)), [.arr true 1 (s.1.2.2.2.map sR)]), eI 1 s.1.2.1, eI 5 (↑s.1.2.2.1 : Int)]) (fun s => s.1.1) ⟨((a0.length + 1), a1, 0, a0), rfl, by first | omega | (dsimp only; omega) | simp⟩ (Yv (by simp)) ?_
 rintro ⟨⟨n1, v1_0, v1_1, v1_2⟩, e1, j1⟩
 try dsimp only at e1 j1
 obtain ⟨p1, rfl⟩ : ∃ p, n1 = p + 1 := ⟨n1 - 1, by omega⟩
 simp
 refine cC (decide ((↑v1_1 : Int) < (↑v1_2.length : Int))) (fun k2 h1 => ?_) (fun k2 h1 => ?_)
 ·have q1 := h1; try simp at q1
  have i1 : v1_1 < v1_2.length := by simpa using h1
  have m2 : v1_2.length ≤ 9223372036854775807 := by simpa using k2 0 _ rfl
  have w1 : IntKind.i64.wrap ((v1_1 : Int) + 1) = (v1_1 : Int) + 1 := Za (by omega) (by omega)
  simp
  refine cR (W1 v1_0) ?_
  simp [i1, ZD, Zw (x := (Y5 v1_0)) rfl, Zj]
  repeat with_reducible refine sd ?_
  refine Se ⟨(p1, (W (v1_0 + 1)), (v1_1 + 1), (v1_2.set v1_1 (Y5 v1_0))), ?_, ?_⟩ (by simp) (Yv (by simp [w1]))
  · rw [← e1]; simp only [Xb, h1, Ys, Yn]
  · (simp; omega)
 ·have q1 := h1; try simp at q1
  have x1 : Xb (a0.length + 1) a1 0 a0 = (v1_0, v1_2) := by rw [← e1]; simp only [Xb, h1, Ys, Yn]
  simp
  refine Ul (rv := [.tmp 4]) rfl ?_
  have f1 := ZA.eq_1 a0 a1; simp only [x1, Ys, Yn] at f1; simp [f1]
theorem Sb (a0 : List ZO) (a1 : Int) : QW Tryz.prog 152 (rL 3 ZO.row a0) [rI a1] (rL 3 ZO.row (Zd a0 a1).1) (.int .i64 (Zd a0 a1).2) := by
 refine Xv Tryz.func152 rfl (by kernel_rfl) (fun v => ?_)
 simp [Tryz.ntmps152]
 refine okL fun k1 => ?_
 refine kO (ι := { s : Nat × Int × Nat × (List ZO) // Xo s.1 s.2.1 s.2.2.1 s.2.2.2 = Xo (a0.length + 1) a1 0 a0 ∧ (1 ≤ s.1 ∧ s.2.2.2.length < s.1 + s.2.2.1) }) (fun s => YM 34 [(0, .fix v (.one (.sref 0 0 0 s.1.2.2.2.length)), [.arr true 3 (s.1.2.2.2.map ZO.row)]), eI 1 s.1.2.1, eI 5 (↑s.1.2.2.1 : Int)]) (fun s => s.1.1) ⟨((a0.length + 1), a1, 0, a0), rfl, by first | omega | (dsimp only; omega) | simp⟩ (Yv (by simp)) ?_
 rintro ⟨⟨n1, v1_0, v1_1, v1_2⟩, e1, j1⟩
 try dsimp only at e1 j1
 obtain ⟨p1, rfl⟩ : ∃ p, n1 = p + 1 := ⟨n1 - 1, by omega⟩
 simp
 refine cC (decide ((↑v1_1 : Int) < (↑v1_2.length : Int))) (fun k2 h1 => ?_) (fun k2 h1 => ?_)
 ·have q1 := h1; try simp at q1
  have i1 : v1_1 < v1_2.length := by simpa using h1
  have m2 : v1_2.length ≤ 9223372036854775807 := by simpa using k2 0 _ rfl
  have w1 : IntKind.i64.wrap ((v1_1 : Int) + 1) = (v1_1 : Int) + 1 := Za (by omega) (by omega)
  simp [i1, ZD, Zw (x := (ZO.mk v1_0 (nth v1_2 v1_1).Ye (nth v1_2 v1_1).Mark)) rfl, Zj]
  repeat with_reducible refine sd ?_
  refine ki (t := 0) (j := 0) (i := v1_1) (c := 1) (size := 3) (rows := ((v1_2.set v1_1 (ZO.mk v1_0 (nth v1_2 v1_1).Ye (nth v1_2 v1_1).Mark)).map ZO.row)) rfl rfl rfl rfl rfl rfl rfl (Jw (nth v1_2 v1_1).Ye (W (v1_0 + 1))) (by simp) (by simp) (by simp [m2, i1]) (by simp [ZD, Zj, m2, i1]) (by simp) (by simp) (by simp) ?_
  simp [List.set_set, Zw (x := (ZO.mk v1_0 (ZB (nth v1_2 v1_1).Ye (W (v1_0 + 1))).1 (nth v1_2 v1_1).Mark)) rfl, ZD, Zj, m2, i1, Zw (x := (ZO.mk v1_0 (ZB (nth v1_2 v1_1).Ye (W (v1_0 + 1))).1 (ZB (nth v1_2 v1_1).Ye (W (v1_0 + 1))).2)) rfl]
  repeat with_reducible refine sd ?_
  refine Se ⟨(p1, (W ((ZB (nth v1_2 v1_1).Ye (W (v1_0 + 1))).2 + 1)), (v1_1 + 1), (v1_2.set v1_1 (ZO.mk v1_0 (ZB (nth v1_2 v1_1).Ye (W (v1_0 + 1))).1 (ZB (nth v1_2 v1_1).Ye (W (v1_0 + 1))).2))), ?_, ?_⟩ (by simp) (Yv (by simp [w1]))
  · rw [← e1]; simp only [Xo, h1, Ys, Yn]
  · (simp; omega)
 ·have q1 := h1; try simp at q1
  have x1 : Xo (a0.length + 1) a1 0 a0 = (v1_0, v1_2) := by rw [← e1]; simp only [Xo, h1, Ys, Yn]
  simp
  refine Ul (rv := [.tmp 4]) rfl ?_
  have f1 := Zd.eq_1 a0 a1; simp only [x1, Ys, Yn] at f1; simp [f1]
theorem Ra (a0 : List Zq) (a1 : Int) : QW Tryz.prog 187 (rL 2 Zq.row a0) [rI a1] (rL 2 Zq.row (Zf a0 a1).1) (.int .i64 (Zf a0 a1).2) := by
 refine Xv Tryz.func187 rfl (by kernel_rfl) (fun v => ?_)
 simp [Tryz.ntmps187]
 refine okL fun k1 => ?_
 refine kO (ι := { s : Nat × Int × Nat × (List Zq) // QC s.1 s.2.1 s.2.2.1 s.2.2.2 = QC (a0.length + 1) a1 0 a0 ∧ (1 ≤ s.1 ∧ s.2.2.2.length < s.1 + s.2.2.1) }) (fun s => YM 29 [(0, .fix v (.one (.sref 0 0 0 s.1.2.2.2.length)), [.arr true 2 (s.1.2.2.2.map Zq.row)]), eI 1 s.1.2.1, eI 5 (↑s.1.2.2.1 : Int)]) (fun s => s.1.1) ⟨((a0.length + 1), a1, 0, a0), rfl, by first | omega | (dsimp only; omega) | simp⟩ (Yv (by simp)) ?_
 rintro ⟨⟨n1, v1_0, v1_1, v1_2⟩, e1, j1⟩
 try dsimp only at e1 j1
 obtain ⟨p1, rfl⟩ : ∃ p, n1 = p + 1 := ⟨n1 - 1, by omega⟩
 simp
 refine cC (decide ((↑v1_1 : Int) < (↑v1_2.length : Int))) (fun k2 h1 => ?_) (fun k2 h1 => ?_)
 ·have q1 := h1; try simp at q1
  have i1 : v1_1 < v1_2.length := by simpa using h1
  have m2 : v1_2.length ≤ 9223372036854775807 := by simpa using k2 0 _ rfl
  have w1 : IntKind.i64.wrap ((v1_1 : Int) + 1) = (v1_1 : Int) + 1 := Za (by omega) (by omega)
  simp [i1, ZD, Zw (x := (Zq.mk v1_0 (nth v1_2 v1_1).Left)) rfl, Zj, List.set_set, Zw (x := (Zq.mk v1_0 ((Int.tmod (W (v1_0 + 1)) 3) == 0))) rfl]
  repeat with_reducible refine sd ?_
  refine Se ⟨(p1, (W ((W (v1_0 + 1)) + 1)), (v1_1 + 1), (v1_2.set v1_1 (Zq.mk v1_0 ((Int.tmod (W (v1_0 + 1)) 3) == 0)))), ?_, ?_⟩ (by simp) (Yv (by simp [w1]))
  · rw [← e1]; simp only [QC, h1, Ys, Yn]
  · (simp; omega)
 ·have q1 := h1; try simp at q1
  have x1 : QC (a0.length + 1) a1 0 a0 = (v1_0, v1_2) := by rw [← e1]; simp only [QC, h1, Ys, Yn]
  simp
  refine Ul (rv := [.tmp 4]) rfl ?_
  have f1 := Zf.eq_1 a0 a1; simp only [x1, Ys, Yn] at f1; simp [f1]
theorem T4 (a0 : List ZX) (a1 : Int) : QW Tryz.prog 188 (rL 5 ZX.row a0) [rI a1] (rL 5 ZX.row (Zr a0 a1).1) (.int .i64 (Zr a0 a1).2) := by
 refine Xv Tryz.func188 rfl (by kernel_rfl) (fun v => ?_)
 simp [Tryz.ntmps188]
 refine okL fun k1 => ?_
 refine kO (ι := { s : Nat × Int × Nat × (List ZX) // Xt s.1 s.2.1 s.2.2.1 s.2.2.2 = Xt (a0.length + 1) a1 0 a0 ∧ (1 ≤ s.1 ∧ s.2.2.2.length < s.1 + s.2.2.1) }) (fun s => YM 48 [(0, .fix v (.one (.sref 0 0 0 s.1.2.2.2.length)), [.arr true 5 (s.1.2.2.2.map ZX.row)]), eI 1 s.1.2.1, eI 5 (↑s.1.2.2.1 : Int)]) (fun s => s.1.1) ⟨((a0.length + 1), a1, 0, a0), rfl, by first | omega | (dsimp only; omega) | simp⟩ (Yv (by simp)) ?_
 rintro ⟨⟨n1, v1_0, v1_1, v1_2⟩, e1, j1⟩
 try dsimp only at e1 j1
 obtain ⟨p1, rfl⟩ : ∃ p, n1 = p + 1 := ⟨n1 - 1, by omega⟩
 simp
 refine cC (decide ((↑v1_1 : Int) < (↑v1_2.length : Int))) (fun k2 h1 => ?_) (fun k2 h1 => ?_)
 ·have q1 := h1; try simp at q1
  have i1 : v1_1 < v1_2.length := by simpa using h1
  have m2 : v1_2.length ≤ 9223372036854775807 := by simpa using k2 0 _ rfl
  have w1 : IntKind.i64.wrap ((v1_1 : Int) + 1) = (v1_1 : Int) + 1 := Za (by omega) (by omega)
  simp [i1, ZD, Zw (x := (ZX.mk v1_0 (nth v1_2 v1_1).Seq (nth v1_2 v1_1).Time (nth v1_2 v1_1).YY (nth v1_2 v1_1).Mark)) rfl, Zj, List.set_set, Zw (x := (ZX.mk v1_0 (W (v1_0 + 1)) (nth v1_2 v1_1).Time (nth v1_2 v1_1).YY (nth v1_2 v1_1).Mark)) rfl, Zw (x := (ZX.mk v1_0 (W (v1_0 + 1)) (W ((W (v1_0 + 1)) + 1)) (nth v1_2 v1_1).YY (nth v1_2 v1_1).Mark)) rfl, Zw (x := (ZX.mk v1_0 (W (v1_0 + 1)) (W ((W (v1_0 + 1)) + 1)) (W ((W ((W (v1_0 + 1)) + 1)) + 1)) (nth v1_2 v1_1).Mark)) rfl, Zw (x := (ZX.mk v1_0 (W (v1_0 + 1)) (W ((W (v1_0 + 1)) + 1)) (W ((W ((W (v1_0 + 1)) + 1)) + 1)) (W ((W ((W ((W (v1_0 + 1)) + 1)) + 1)) + 1)))) rfl]
  repeat with_reducible refine sd ?_
  refine Se ⟨(p1, (W ((W ((W ((W ((W (v1_0 + 1)) + 1)) + 1)) + 1)) + 1)), (v1_1 + 1), (v1_2.set v1_1 (ZX.mk v1_0 (W (v1_0 + 1)) (W ((W (v1_0 + 1)) + 1)) (W ((W ((W (v1_0 + 1)) + 1)) + 1)) (W ((W ((W ((W (v1_0 + 1)) + 1)) + 1)) + 1))))), ?_, ?_⟩ (by simp) (Yv (by simp [w1]))
  · rw [← e1]; simp only [Xt, h1, Ys, Yn]
  · (simp; omega)
 ·have q1 := h1; try simp at q1
  have x1 : Xt (a0.length + 1) a1 0 a0 = (v1_0, v1_2) := by rw [← e1]; simp only [Xt, h1, Ys, Yn]
  simp
  refine Ul (rv := [.tmp 4]) rfl ?_
  have f1 := Zr.eq_1 a0 a1; simp only [x1, Ys, Yn] at f1; simp [f1]
theorem UH (a0 : List ZF) (a1 : Int) : QW Tryz.prog 153 (rL 5 ZF.row a0) [rI a1] (rL 5 ZF.row (Zi a0 a1).1) (.int .i64 (Zi a0 a1).2) := by
 refine Xv Tryz.func153 rfl (by kernel_rfl) (fun v => ?_)
 simp [Tryz.ntmps153]
 refine okL fun k1 => ?_
 refine kO (ι := { s : Nat × Int × Nat × (List ZF) // XN s.1 s.2.1 s.2.2.1 s.2.2.2 = XN (a0.length + 1) a1 0 a0 ∧ (1 ≤ s.1 ∧ s.2.2.2.length < s.1 + s.2.2.1) }) (fun s => YM 48 [(0, .fix v (.one (.sref 0 0 0 s.1.2.2.2.length)), [.arr true 5 (s.1.2.2.2.map ZF.row)]), eI 1 s.1.2.1, eI 5 (↑s.1.2.2.1 : Int)]) (fun s => s.1.1) ⟨((a0.length + 1), a1, 0, a0), rfl, by first | omega | (dsimp only; omega) | simp⟩ (Yv (by simp)) ?_
 rintro ⟨⟨n1, v1_0, v1_1, v1_2⟩, e1, j1⟩
 try dsimp only at e1 j1
 obtain ⟨p1, rfl⟩ : ∃ p, n1 = p + 1 := ⟨n1 - 1, by omega⟩
 simp
 refine cC (decide ((↑v1_1 : Int) < (↑v1_2.length : Int))) (fun k2 h1 => ?_) (fun k2 h1 => ?_)
 ·have q1 := h1; try simp at q1
  have i1 : v1_1 < v1_2.length := by simpa using h1
  have m2 : v1_2.length ≤ 9223372036854775807 := by simpa using k2 0 _ rfl
  have w1 : IntKind.i64.wrap ((v1_1 : Int) + 1) = (v1_1 : Int) + 1 := Za (by omega) (by omega)
  simp [i1, ZD, Zw (x := (ZF.mk v1_0 (nth v1_2 v1_1).Method (nth v1_2 v1_1).V4 (nth v1_2 v1_1).Path (nth v1_2 v1_1).Zv)) rfl, Zj, List.set_set, Zw (x := (ZF.mk v1_0 (W (v1_0 + 1)) (nth v1_2 v1_1).V4 (nth v1_2 v1_1).Path (nth v1_2 v1_1).Zv)) rfl, Zw (x := (ZF.mk v1_0 (W (v1_0 + 1)) (W ((W (v1_0 + 1)) + 1)) (nth v1_2 v1_1).Path (nth v1_2 v1_1).Zv)) rfl]
  repeat with_reducible refine sd ?_
  refine ki (t := 0) (j := 0) (i := v1_1) (c := 3) (size := 5) (rows := ((v1_2.set v1_1 (ZF.mk v1_0 (W (v1_0 + 1)) (W ((W (v1_0 + 1)) + 1)) (nth v1_2 v1_1).Path (nth v1_2 v1_1).Zv)).map ZF.row)) rfl rfl rfl rfl rfl rfl rfl (Ra (nth v1_2 v1_1).Path (W ((W ((W (v1_0 + 1)) + 1)) + 1))) (by simp) (by simp) (by simp [m2, i1]) (by simp [ZD, Zj, m2, i1]) (by simp) (by simp) (by simp) ?_
  simp [List.set_set, Zw (x := (ZF.mk v1_0 (W (v1_0 + 1)) (W ((W (v1_0 + 1)) + 1)) (Zf (nth v1_2 v1_1).Path (W ((W ((W (v1_0 + 1)) + 1)) + 1))).1 (nth v1_2 v1_1).Zv)) rfl, ZD, Zj, m2, i1]
  repeat with_reducible refine sd ?_
  refine ki (t := 0) (j := 0) (i := v1_1) (c := 4) (size := 5) (rows := ((v1_2.set v1_1 (ZF.mk v1_0 (W (v1_0 + 1)) (W ((W (v1_0 + 1)) + 1)) (Zf (nth v1_2 v1_1).Path (W ((W ((W (v1_0 + 1)) + 1)) + 1))).1 (nth v1_2 v1_1).Zv)).map ZF.row)) rfl rfl rfl rfl rfl rfl rfl (T4 (nth v1_2 v1_1).Zv (Zf (nth v1_2 v1_1).Path (W ((W ((W (v1_0 + 1)) + 1)) + 1))).2) (by simp) (by simp) (by simp [m2, i1]) (by simp [ZD, Zj, m2, i1]) (by simp) (by simp) (by simp) ?_
  simp [List.set_set, Zw (x := (ZF.mk v1_0 (W (v1_0 + 1)) (W ((W (v1_0 + 1)) + 1)) (Zf (nth v1_2 v1_1).Path (W ((W ((W (v1_0 + 1)) + 1)) + 1))).1 (Zr (nth v1_2 v1_1).Zv (Zf (nth v1_2 v1_1).Path (W ((W ((W (v1_0 + 1)) + 1)) + 1))).2).1)) rfl, ZD, Zj, m2, i1]
  repeat with_reducible refine sd ?_
  refine Se ⟨(p1, (Zr (nth v1_2 v1_1).Zv (Zf (nth v1_2 v1_1).Path (W ((W ((W (v1_0 + 1)) + 1)) + 1))).2).2, (v1_1 + 1), (v1_2.set v1_1 (ZF.mk v1_0 (W (v1_0 + 1)) (W ((W (v1_0 + 1)) + 1)) (Zf (nth v1_2 v1_1).Path (W ((W ((W (v1_0 + 1)) + 1)) + 1))).1 (Zr (nth v1_2 v1_1).Zv (Zf (nth v1_2 v1_1).Path (W ((W ((W (v1_0 + 1)) + 1)) + 1))).2).1))), ?_, ?_⟩ (by simp) (Yv (by simp [w1]))
  · rw [← e1]; simp only [XN, h1, Ys, Yn]
  · (simp; omega)
 ·have q1 := h1; try simp at q1
  have x1 : XN (a0.length + 1) a1 0 a0 = (v1_0, v1_2) := by rw [← e1]; simp only [XN, h1, Ys, Yn]
  simp
  refine Ul (rv := [.tmp 4]) rfl ?_
  have f1 := Zi.eq_1 a0 a1; simp only [x1, Ys, Yn] at f1; simp [f1]
theorem Pa (a0 : List Zb) (a1 : Int) : QW Tryz.prog 99 (rL 16 Zb.row a0) [rI a1] (rL 16 Zb.row (Zy a0 a1).1) (.int .i64 (Zy a0 a1).2) := by
 refine Xv Tryz.func99 rfl (by kernel_rfl) (fun v => ?_)
 simp [Tryz.ntmps99]
 refine okL fun k1 => ?_
 refine kO (ι := { s : Nat × Int × Nat × (List Zb) // QA s.1 s.2.1 s.2.2.1 s.2.2.2 = QA (a0.length + 1) a1 0 a0 ∧ (1 ≤ s.1 ∧ s.2.2.2.length < s.1 + s.2.2.1) }) (fun s => YM 139 [(0, .fix v (.one (.sref 0 0 0 s.1.2.2.2.length)), [.arr true 16 (s.1.2.2.2.map Zb.row)]), eI 1 s.1.2.1, eI 5 (↑s.1.2.2.1 : Int)]) (fun s => s.1.1) ⟨((a0.length + 1), a1, 0, a0), rfl, by first | omega | (dsimp only; omega) | simp⟩ (Yv (by simp)) ?_
 rintro ⟨⟨n1, v1_0, v1_1, v1_2⟩, e1, j1⟩
 try dsimp only at e1 j1
 obtain ⟨p1, rfl⟩ : ∃ p, n1 = p + 1 := ⟨n1 - 1, by omega⟩
 simp
 refine cC (decide ((↑v1_1 : Int) < (↑v1_2.length : Int))) (fun k2 h1 => ?_) (fun k2 h1 => ?_)
 ·have q1 := h1; try simp at q1
  have i1 : v1_1 < v1_2.length := by simpa using h1
  have m2 : v1_2.length ≤ 9223372036854775807 := by simpa using k2 0 _ rfl
  have w1 : IntKind.i64.wrap ((v1_1 : Int) + 1) = (v1_1 : Int) + 1 := Za (by omega) (by omega)
  simp [i1, ZD, Zw (x := (Zb.mk v1_0 (nth v1_2 v1_1).Yk (nth v1_2 v1_1).Doc (nth v1_2 v1_1).Sig (nth v1_2 v1_1).ZK)) rfl, Zj, List.set_set, Zw (x := (Zb.mk v1_0 (W (v1_0 + 1)) (nth v1_2 v1_1).Doc (nth v1_2 v1_1).Sig (nth v1_2 v1_1).ZK)) rfl, Zw (x := (Zb.mk v1_0 (W (v1_0 + 1)) (ZT.mk (W ((W (v1_0 + 1)) + 1)) (nth v1_2 v1_1).Doc.ZE (nth v1_2 v1_1).Doc.ZG) (nth v1_2 v1_1).Sig (nth v1_2 v1_1).ZK)) rfl]
  repeat with_reducible refine sd ?_
  refine ki (t := 0) (j := 0) (i := v1_1) (c := 3) (size := 16) (rows := ((v1_2.set v1_1 (Zb.mk v1_0 (W (v1_0 + 1)) (ZT.mk (W ((W (v1_0 + 1)) + 1)) (nth v1_2 v1_1).Doc.ZE (nth v1_2 v1_1).Doc.ZG) (nth v1_2 v1_1).Sig (nth v1_2 v1_1).ZK)).map Zb.row)) rfl rfl rfl rfl rfl rfl rfl (Uy (nth v1_2 v1_1).Doc.ZE (W ((W ((W (v1_0 + 1)) + 1)) + 1))) (by simp) (by simp) (by simp [m2, i1]) (by simp [ZD, Zj, m2, i1]) (by simp) (by simp) (by simp) ?_
  simp [List.set_set, Zw (x := (Zb.mk v1_0 (W (v1_0 + 1)) (ZT.mk (W ((W (v1_0 + 1)) + 1)) (ZA (nth v1_2 v1_1).Doc.ZE (W ((W ((W (v1_0 + 1)) + 1)) + 1))).1 (nth v1_2 v1_1).Doc.ZG) (nth v1_2 v1_1).Sig (nth v1_2 v1_1).ZK)) rfl, ZD, Zj, m2, i1]
  repeat with_reducible refine sd ?_
  refine ki (t := 0) (j := 0) (i := v1_1) (c := 4) (size := 16) (rows := ((v1_2.set v1_1 (Zb.mk v1_0 (W (v1_0 + 1)) (ZT.mk (W ((W (v1_0 + 1)) + 1)) (ZA (nth v1_2 v1_1).Doc.ZE (W ((W ((W (v1_0 + 1)) + 1)) + 1))).1 (nth v1_2 v1_1).Doc.ZG) (nth v1_2 v1_1).Sig (nth v1_2 v1_1).ZK)).map Zb.row)) rfl rfl rfl rfl rfl rfl rfl (Jw (nth v1_2 v1_1).Doc.ZG (ZA (nth v1_2 v1_1).Doc.ZE (W ((W ((W (v1_0 + 1)) + 1)) + 1))).2) (by simp) (by simp) (by simp [m2, i1]) (by simp [ZD, Zj, m2, i1]) (by simp) (by simp) (by simp) ?_
  simp [List.set_set, Zw (x := (Zb.mk v1_0 (W (v1_0 + 1)) (ZT.mk (W ((W (v1_0 + 1)) + 1)) (ZA (nth v1_2 v1_1).Doc.ZE (W ((W ((W (v1_0 + 1)) + 1)) + 1))).1 (ZB (nth v1_2 v1_1).Doc.ZG (ZA (nth v1_2 v1_1).Doc.ZE (W ((W ((W (v1_0 + 1)) + 1)) + 1))).2).1) (nth v1_2 v1_1).Sig (nth v1_2 v1_1).ZK)) rfl, ZD, Zj, m2, i1, Zw (x := (Zb.mk v1_0 (W (v1_0 + 1)) (ZT.mk (W ((W (v1_0 + 1)) + 1)) (ZA (nth v1_2 v1_1).Doc.ZE (W ((W ((W (v1_0 + 1)) + 1)) + 1))).1 (ZB (nth v1_2 v1_1).Doc.ZG (ZA (nth v1_2 v1_1).Doc.ZE (W ((W ((W (v1_0 + 1)) + 1)) + 1))).2).1) (Zm.mk (ZB (nth v1_2 v1_1).Doc.ZG (ZA (nth v1_2 v1_1).Doc.ZE (W ((W ((W (v1_0 + 1)) + 1)) + 1))).2).2 (nth v1_2 v1_1).Sig.QO (nth v1_2 v1_1).Sig.Method (nth v1_2 v1_1).Sig.YY (nth v1_2 v1_1).Sig.yB (nth v1_2 v1_1).Sig.Org (nth v1_2 v1_1).Sig.Ky (nth v1_2 v1_1).Sig.xG (nth v1_2 v1_1).Sig.Mark) (nth v1_2 v1_1).ZK)) rfl, Zw (x := (Zb.mk v1_0 (W (v1_0 + 1)) (ZT.mk (W ((W (v1_0 + 1)) + 1)) (ZA (nth v1_2 v1_1).Doc.ZE (W ((W ((W (v1_0 + 1)) + 1)) + 1))).1 (ZB (nth v1_2 v1_1).Doc.ZG (ZA (nth v1_2 v1_1).Doc.ZE (W ((W ((W (v1_0 + 1)) + 1)) + 1))).2).1) (Zm.mk (ZB (nth v1_2 v1_1).Doc.ZG (ZA (nth v1_2 v1_1).Doc.ZE (W ((W ((W (v1_0 + 1)) + 1)) + 1))).2).2 (W ((ZB (nth v1_2 v1_1).Doc.ZG (ZA (nth v1_2 v1_1).Doc.ZE (W ((W ((W (v1_0 + 1)) + 1)) + 1))).2).2 + 1)) (nth v1_2 v1_1).Sig.Method (nth v1_2 v1_1).Sig.YY (nth v1_2 v1_1).Sig.yB (nth v1_2 v1_1).Sig.Org (nth v1_2 v1_1).Sig.Ky (nth v1_2 v1_1).Sig.xG (nth v1_2 v1_1).Sig.Mark) (nth v1_2 v1_1).ZK)) rfl, Zw (x := (Zb.mk v1_0 (W (v1_0 + 1)) (ZT.mk (W ((W (v1_0 + 1)) + 1)) (ZA (nth v1_2 v1_1).Doc.ZE (W ((W ((W (v1_0 + 1)) + 1)) + 1))).1 (ZB (nth v1_2 v1_1).Doc.ZG (ZA (nth v1_2 v1_1).Doc.ZE (W ((W ((W (v1_0 + 1)) + 1)) + 1))).2).1) (Zm.mk (ZB (nth v1_2 v1_1).Doc.ZG (ZA (nth v1_2 v1_1).Doc.ZE (W ((W ((W (v1_0 + 1)) + 1)) + 1))).2).2 (W ((ZB (nth v1_2 v1_1).Doc.ZG (ZA (nth v1_2 v1_1).Doc.ZE (W ((W ((W (v1_0 + 1)) + 1)) + 1))).2).2 + 1)) (W ((W ((ZB (nth v1_2 v1_1).Doc.ZG (ZA (nth v1_2 v1_1).Doc.ZE (W ((W ((W (v1_0 + 1)) + 1)) + 1))).2).2 + 1)) + 1)) (nth v1_2 v1_1).Sig.YY (nth v1_2 v1_1).Sig.yB (nth v1_2 v1_1).Sig.Org (nth v1_2 v1_1).Sig.Ky (nth v1_2 v1_1).Sig.xG (nth v1_2 v1_1).Sig.Mark) (nth v1_2 v1_1).ZK)) rfl, Zw (x := (Zb.mk v1_0 (W (v1_0 + 1)) (ZT.mk (W ((W (v1_0 + 1)) + 1)) (ZA (nth v1_2 v1_1).Doc.ZE (W ((W ((W (v1_0 + 1)) + 1)) + 1))).1 (ZB (nth v1_2 v1_1).Doc.ZG (ZA (nth v1_2 v1_1).Doc.ZE (W ((W ((W (v1_0 + 1)) + 1)) + 1))).2).1) (Zm.mk (ZB (nth v1_2 v1_1).Doc.ZG (ZA (nth v1_2 v1_1).Doc.ZE (W ((W ((W (v1_0 + 1)) + 1)) + 1))).2).2 (W ((ZB (nth v1_2 v1_1).Doc.ZG (ZA (nth v1_2 v1_1).Doc.ZE (W ((W ((W (v1_0 + 1)) + 1)) + 1))).2).2 + 1)) (W ((W ((ZB (nth v1_2 v1_1).Doc.ZG (ZA (nth v1_2 v1_1).Doc.ZE (W ((W ((W (v1_0 + 1)) + 1)) + 1))).2).2 + 1)) + 1)) (W ((W ((W ((ZB (nth v1_2 v1_1).Doc.ZG (ZA (nth v1_2 v1_1).Doc.ZE (W ((W ((W (v1_0 + 1)) + 1)) + 1))).2).2 + 1)) + 1)) + 1)) (nth v1_2 v1_1).Sig.yB (nth v1_2 v1_1).Sig.Org (nth v1_2 v1_1).Sig.Ky (nth v1_2 v1_1).Sig.xG (nth v1_2 v1_1).Sig.Mark) (nth v1_2 v1_1).ZK)) rfl, Zw (x := (Zb.mk v1_0 (W (v1_0 + 1)) (ZT.mk (W ((W (v1_0 + 1)) + 1)) (ZA (nth v1_2 v1_1).Doc.ZE (W ((W ((W (v1_0 + 1)) + 1)) + 1))).1 (ZB (nth v1_2 v1_1).Doc.ZG (ZA (nth v1_2 v1_1).Doc.ZE (W ((W ((W (v1_0 + 1)) + 1)) + 1))).2).1) (Zm.mk (ZB (nth v1_2 v1_1).Doc.ZG (ZA (nth v1_2 v1_1).Doc.ZE (W ((W ((W (v1_0 + 1)) + 1)) + 1))).2).2 (W ((ZB (nth v1_2 v1_1).Doc.ZG (ZA (nth v1_2 v1_1).Doc.ZE (W ((W ((W (v1_0 + 1)) + 1)) + 1))).2).2 + 1)) (W ((W ((ZB (nth v1_2 v1_1).Doc.ZG (ZA (nth v1_2 v1_1).Doc.ZE (W ((W ((W (v1_0 + 1)) + 1)) + 1))).2).2 + 1)) + 1)) (W ((W ((W ((ZB (nth v1_2 v1_1).Doc.ZG (ZA (nth v1_2 v1_1).Doc.ZE (W ((W ((W (v1_0 + 1)) + 1)) + 1))).2).2 + 1)) + 1)) + 1)) (W ((W ((W ((W ((ZB (nth v1_2 v1_1).Doc.ZG (ZA (nth v1_2 v1_1).Doc.ZE (W ((W ((W (v1_0 + 1)) + 1)) + 1))).2).2 + 1)) + 1)) + 1)) + 1)) (nth v1_2 v1_1).Sig.Org (nth v1_2 v1_1).Sig.Ky (nth v1_2 v1_1).Sig.xG (nth v1_2 v1_1).Sig.Mark) (nth v1_2 v1_1).ZK)) rfl, Zw (x := (Zb.mk v1_0 (W (v1_0 + 1)) (ZT.mk (W ((W (v1_0 + 1)) + 1)) (ZA (nth v1_2 v1_1).Doc.ZE (W ((W ((W (v1_0 + 1)) + 1)) + 1))).1 (ZB (nth v1_2 v1_1).Doc.ZG (ZA (nth v1_2 v1_1).Doc.ZE (W ((W ((W (v1_0 + 1)) + 1)) + 1))).2).1) (Zm.mk (ZB (nth v1_2 v1_1).Doc.ZG (ZA (nth v1_2 v1_1).Doc.ZE (W ((W ((W (v1_0 + 1)) + 1)) + 1))).2).2 (W ((ZB (nth v1_2 v1_1).Doc.ZG (ZA (nth v1_2 v1_1).Doc.ZE (W ((W ((W (v1_0 + 1)) + 1)) + 1))).2).2 + 1)) (W ((W ((ZB (nth v1_2 v1_1).Doc.ZG (ZA (nth v1_2 v1_1).Doc.ZE (W ((W ((W (v1_0 + 1)) + 1)) + 1))).2).2 + 1)) + 1)) (W ((W ((W ((ZB (nth v1_2 v1_1).Doc.ZG (ZA (nth v1_2 v1_1).Doc.ZE (W ((W ((W (v1_0 + 1)) + 1)) + 1))).2).2 + 1)) + 1)) + 1)) (W ((W ((W ((W ((ZB (nth v1_2 v1_1).Doc.ZG (ZA (nth v1_2 v1_1).Doc.ZE (W ((W ((W (v1_0 + 1)) + 1)) + 1))).2).2 + 1)) + 1)) + 1)) + 1)) (W ((W ((W ((W ((W ((ZB (nth v1_2 v1_1).Doc.ZG (ZA (nth v1_2 v1_1).Doc.ZE (W ((W ((W (v1_0 + 1)) + 1)) + 1))).2).2 + 1)) + 1)) + 1)) + 1)) + 1)) (nth v1_2 v1_1).Sig.Ky (nth v1_2 v1_1).Sig.xG (nth v1_2 v1_1).Sig.Mark) (nth v1_2 v1_1).ZK)) rfl, Zw (x := (Zb.mk v1_0 (W (v1_0 + 1)) (ZT.mk (W ((W (v1_0 + 1)) + 1)) (ZA (nth v1_2 v1_1).Doc.ZE (W ((W ((W (v1_0 + 1)) + 1)) + 1))).1 (ZB (nth v1_2 v1_1).Doc.ZG (ZA (nth v1_2 v1_1).Doc.ZE (W ((W ((W (v1_0 + 1)) + 1)) + 1))).2).1) (Zm.mk (ZB (nth v1_2 v1_1).Doc.ZG (ZA (nth v1_2 v1_1).Doc.ZE (W ((W ((W (v1_0 + 1)) + 1)) + 1))).2).2 (W ((ZB (nth v1_2 v1_1).Doc.ZG (ZA (nth v1_2 v1_1).Doc.ZE (W ((W ((W (v1_0 + 1)) + 1)) + 1))).2).2 + 1)) (W ((W ((ZB (nth v1_2 v1_1).Doc.ZG (ZA (nth v1_2 v1_1).Doc.ZE (W ((W ((W (v1_0 + 1)) + 1)) + 1))).2).2 + 1)) + 1)) (W ((W ((W ((ZB (nth v1_2 v1_1).Doc.ZG (ZA (nth v1_2 v1_1).Doc.ZE (W ((W ((W (v1_0 + 1)) + 1)) + 1))).2).2 + 1)) + 1)) + 1)) (W ((W ((W ((W ((ZB (nth v1_2 v1_1).Doc.ZG (ZA (nth v1_2 v1_1).Doc.ZE (W ((W ((W (v1_0 + 1)) + 1)) + 1))).2).2 + 1)) + 1)) + 1)) + 1)) (W ((W ((W ((W ((W ((ZB (nth v1_2 v1_1).Doc.ZG (ZA (nth v1_2 v1_1).Doc.ZE (W ((W ((W (v1_0 + 1)) + 1)) + 1))).2).2 + 1)) + 1)) + 1)) + 1)) + 1)) (W ((W ((W ((W ((W ((W ((ZB (nth v1_2 v1_1).Doc.ZG (ZA (nth v1_2 v1_1).Doc.ZE (W ((W ((W (v1_0 + 1)) + 1)) + 1))).2).2 + 1)) + 1)) + 1)) + 1)) + 1)) + 1)) (nth v1_2 v1_1).Sig.xG (nth v1_2 v1_1).Sig.Mark) (nth v1_2 v1_1).ZK)) rfl, Zw (x := (Zb.mk v1_0 (W (v1_0 + 1)) (ZT.mk (W ((W (v1_0 + 1)) + 1)) (ZA (nth v1_2 v1_1).Doc.ZE (W ((W ((W (v1_0 + 1)) + 1)) + 1))).1 (ZB (nth v1_2 v1_1).Doc.ZG (ZA (nth v1_2 v1_1).Doc.ZE (W ((W ((W (v1_0 + 1)) + 1)) + 1))).2).1) (Zm.mk (ZB (nth v1_2 v1_1).Doc.ZG (ZA (nth v1_2 v1_1).Doc.ZE (W ((W ((W (v1_0 + 1)) + 1)) + 1))).2).2 (W ((ZB (nth v1_2 v1_1).Doc.ZG (ZA (nth v1_2 v1_1).Doc.ZE (W ((W ((W (v1_0 + 1)) + 1)) + 1))).2).2 + 1)) (W ((W ((ZB (nth v1_2 v1_1).Doc.ZG (ZA (nth v1_2 v1_1).Doc.ZE (W ((W ((W (v1_0 + 1)) + 1)) + 1))).2).2 + 1)) + 1)) (W ((W ((W ((ZB (nth v1_2 v1_1).Doc.ZG (ZA (nth v1_2 v1_1).Doc.ZE (W ((W ((W (v1_0 + 1)) + 1)) + 1))).2).2 + 1)) + 1)) + 1)) (W ((W ((W ((W ((ZB (nth v1_2 v1_1).Doc.ZG (ZA (nth v1_2 v1_1).Doc.ZE (W ((W ((W (v1_0 + 1)) + 1)) + 1))).2).2 + 1)) + 1)) + 1)) + 1)) (W ((W ((W ((W ((W ((ZB (nth v1_2 v1_1).Doc.ZG (ZA (nth v1_2 v1_1).Doc.ZE (W ((W ((W (v1_0 + 1)) + 1)) + 1))).2).2 + 1)) + 1)) + 1)) + 1)) + 1)) (W ((W ((W ((W ((W ((W ((ZB (nth v1_2 v1_1).Doc.ZG (ZA (nth v1_2 v1_1).Doc.ZE (W ((W ((W (v1_0 + 1)) + 1)) + 1))).2).2 + 1)) + 1)) + 1)) + 1)) + 1)) + 1)) (W ((W ((W ((W ((W ((W ((W ((ZB (nth v1_2 v1_1).Doc.ZG (ZA (nth v1_2 v1_1).Doc.ZE (W ((W ((W (v1_0 + 1)) + 1)) + 1))).2).2 + 1)) + 1)) + 1)) + 1)) + 1)) + 1)) + 1)) (nth v1_2 v1_1).Sig.Mark) (nth v1_2 v1_1).ZK)) rfl, Zw (x := (Zb.mk v1_0 (W (v1_0 + 1)) (ZT.mk (W ((W (v1_0 + 1)) + 1)) (ZA (nth v1_2 v1_1).Doc.ZE (W ((W ((W (v1_0 + 1)) + 1)) + 1))).1 (ZB (nth v1_2 v1_1).Doc.ZG (ZA (nth v1_2 v1_1).Doc.ZE (W ((W ((W (v1_0 + 1)) + 1)) + 1))).2).1) (Zm.mk (ZB (nth v1_2 v1_1).Doc.ZG (ZA (nth v1_2 v1_1).Doc.ZE (W ((W ((W (v1_0 + 1)) + 1)) + 1))).2).2 (W ((ZB (nth v1_2 v1_1).Doc.ZG (ZA (nth v1_2 v1_1).Doc.ZE (W ((W ((W (v1_0 + 1)) + 1)) + 1))).2).2 + 1)) (W ((W ((ZB (nth v1_2 v1_1).Doc.ZG (ZA (nth v1_2 v1_1).Doc.ZE (W ((W ((W (v1_0 + 1)) + 1)) + 1))).2).2 + 1)) + 1)) (W ((W ((W ((ZB (nth v1_2 v1_1).Doc.ZG (ZA (nth v1_2 v1_1).Doc.ZE (W ((W ((W (v1_0 + 1)) + 1)) + 1))).2).2 + 1)) + 1)) + 1)) (W ((W ((W ((W ((ZB (nth v1_2 v1_1).Doc.ZG (ZA (nth v1_2 v1_1).Doc.ZE (W ((W ((W (v1_0 + 1)) + 1)) + 1))).2).2 + 1)) + 1)) + 1)) + 1)) (W ((W ((W ((W ((W ((ZB (nth v1_2 v1_1).Doc.ZG (ZA (nth v1_2 v1_1).Doc.ZE (W ((W ((W (v1_0 + 1)) + 1)) + 1))).2).2 + 1)) + 1)) + 1)) + 1)) + 1)) (W ((W ((W ((W ((W ((W ((ZB (nth v1_2 v1_1).Doc.ZG (ZA (nth v1_2 v1_1).Doc.ZE (W ((W ((W (v1_0 + 1)) + 1)) + 1))).2).2 + 1)) + 1)) + 1)) + 1)) + 1)) + 1)) (W ((W ((W ((W ((W ((W ((W ((ZB (nth v1_2 v1_1).Doc.ZG (ZA (nth v1_2 v1_1).Doc.ZE (W ((W ((W (v1_0 + 1)) + 1)) + 1))).2).2 + 1)) + 1)) + 1)) + 1)) + 1)) + 1)) + 1)) (W ((W ((W ((W ((W ((W ((W ((W ((ZB (nth v1_2 v1_1).Doc.ZG (ZA (nth v1_2 v1_1).Doc.ZE (W ((W ((W (v1_0 + 1)) + 1)) + 1))).2).2 + 1)) + 1)) + 1)) + 1)) + 1)) + 1)) + 1)) + 1))) (nth v1_2 v1_1).ZK)) rfl]
  repeat with_reducible refine sd ?_
  refine ki (t := 0) (j := 0) (i := v1_1) (c := 14) (size := 16) (rows := ((v1_2.set v1_1 (Zb.mk v1_0 (W (v1_0 + 1)) (ZT.mk (W ((W (v1_0 + 1)) + 1)) (ZA (nth v1_2 v1_1).Doc.ZE (W ((W ((W (v1_0 + 1)) + 1)) + 1))).1 (ZB (nth v1_2 v1_1).Doc.ZG (ZA (nth v1_2 v1_1).Doc.ZE (W ((W ((W (v1_0 + 1)) + 1)) + 1))).2).1) (Zm.mk (ZB (nth v1_2 v1_1).Doc.ZG (ZA (nth v1_2 v1_1).Doc.ZE (W ((W ((W (v1_0 + 1)) + 1)) + 1))).2).2 (W ((ZB (nth v1_2 v1_1).Doc.ZG (ZA (nth v1_2 v1_1).Doc.ZE (W ((W ((W (v1_0 + 1)) + 1)) + 1))).2).2 + 1)) (W ((W ((ZB (nth v1_2 v1_1).Doc.ZG (ZA (nth v1_2 v1_1).Doc.ZE (W ((W ((W (v1_0 + 1)) + 1)) + 1))).2).2 + 1)) + 1)) (W ((W ((W ((ZB (nth v1_2 v1_1).Doc.ZG (ZA (nth v1_2 v1_1).Doc.ZE (W ((W ((W (v1_0 + 1)) + 1)) + 1))).2).2 + 1)) + 1)) + 1)) (W ((W ((W ((W ((ZB (nth v1_2 v1_1).Doc.ZG (ZA (nth v1_2 v1_1).Doc.ZE (W ((W ((W (v1_0 + 1)) + 1)) + 1))).2).2 + 1)) + 1)) + 1)) + 1)) (W ((W ((W ((W ((W ((ZB (nth v1_2 v1_1).Doc.ZG (ZA (nth v1_2 v1_1).Doc.ZE (W ((W ((W (v1_0 + 1)) + 1)) + 1))).2).2 + 1)) + 1)) + 1)) + 1)) + 1)) (W ((W ((W ((W ((W ((W ((ZB (nth v1_2 v1_1).Doc.ZG (ZA (nth v1_2 v1_1).Doc.ZE (W ((W ((W (v1_0 + 1)) + 1)) + 1))).2).2 + 1)) + 1)) + 1)) + 1)) + 1)) + 1)) (W ((W ((W ((W ((W ((W ((W ((ZB (nth v1_2 v1_1).Doc.ZG (ZA (nth v1_2 v1_1).Doc.ZE (W ((W ((W (v1_0 + 1)) + 1)) + 1))).2).2 + 1)) + 1)) + 1)) + 1)) + 1)) + 1)) + 1)) (W ((W ((W ((W ((W ((W ((W ((W ((ZB (nth v1_2 v1_1).Doc.ZG (ZA (nth v1_2 v1_1).Doc.ZE (W ((W ((W (v1_0 + 1)) + 1)) + 1))).2).2 + 1)) + 1)) + 1)) + 1)) + 1)) + 1)) + 1)) + 1))) (nth v1_2 v1_1).ZK)).map Zb.row)) rfl rfl rfl rfl rfl rfl rfl (Sb (nth v1_2 v1_1).ZK.ZR (W ((W ((W ((W ((W ((W ((W ((W ((W ((ZB (nth v1_2 v1_1).Doc.ZG (ZA (nth v1_2 v1_1).Doc.ZE (W ((W ((W (v1_0 + 1)) + 1)) + 1))).2).2 + 1)) + 1)) + 1)) + 1)) + 1)) + 1)) + 1)) + 1)) + 1))) (by simp) (by simp) (by simp [m2, i1]) (by simp [ZD, Zj, m2, i1]) (by simp) (by simp) (by simp) ?_
  simp [List.set_set, Zw (x := (Zb.mk v1_0 (W (v1_0 + 1)) (ZT.mk (W ((W (v1_0 + 1)) + 1)) (ZA (nth v1_2 v1_1).Doc.ZE (W ((W ((W (v1_0 + 1)) + 1)) + 1))).1 (ZB (nth v1_2 v1_1).Doc.ZG (ZA (nth v1_2 v1_1).Doc.ZE (W ((W ((W (v1_0 + 1)) + 1)) + 1))).2).1) (Zm.mk (ZB (nth v1_2 v1_1).Doc.ZG (ZA (nth v1_2 v1_1).Doc.ZE (W ((W ((W (v1_0 + 1)) + 1)) + 1))).2).2 (W ((ZB (nth v1_2 v1_1).Doc.ZG (ZA (nth v1_2 v1_1).Doc.ZE (W ((W ((W (v1_0 + 1)) + 1)) + 1))).2).2 + 1)) (W ((W ((ZB (nth v1_2 v1_1).Doc.ZG (ZA (nth v1_2 v1_1).Doc.ZE (W ((W ((W (v1_0 + 1)) + 1)) + 1))).2).2 + 1)) + 1)) (W ((W ((W ((ZB (nth v1_2 v1_1).Doc.ZG (ZA (nth v1_2 v1_1).Doc.ZE (W ((W ((W (v1_0 + 1)) + 1)) + 1))).2).2 + 1)) + 1)) + 1)) (W ((W ((W ((W ((ZB (nth v1_2 v1_1).Doc.ZG (ZA (nth v1_2 v1_1).Doc.ZE (W ((W ((W (v1_0 + 1)) + 1)) + 1))).2).2 + 1)) + 1)) + 1)) + 1)) (W ((W ((W ((W ((W ((ZB (nth v1_2 v1_1).Doc.ZG (ZA (nth v1_2 v1_1).Doc.ZE (W ((W ((W (v1_0 + 1)) + 1)) + 1))).2).2 + 1)) + 1)) + 1)) + 1)) + 1)) (W ((W ((W ((W ((W ((W ((ZB (nth v1_2 v1_1).Doc.ZG (ZA (nth v1_2 v1_1).Doc.ZE (W ((W ((W (v1_0 + 1)) + 1)) + 1))).2).2 + 1)) + 1)) + 1)) + 1)) + 1)) + 1)) (W ((W ((W ((W ((W ((W ((W ((ZB (nth v1_2 v1_1).Doc.ZG (ZA (nth v1_2 v1_1).Doc.ZE (W ((W ((W (v1_0 + 1)) + 1)) + 1))).2).2 + 1)) + 1)) + 1)) + 1)) + 1)) + 1)) + 1)) (W ((W ((W ((W ((W ((W ((W ((W ((ZB (nth v1_2 v1_1).Doc.ZG (ZA (nth v1_2 v1_1).Doc.ZE (W ((W ((W (v1_0 + 1)) + 1)) + 1))).2).2 + 1)) + 1)) + 1)) + 1)) + 1)) + 1)) + 1)) + 1))) (ZY.mk (Zd (nth v1_2 v1_1).ZK.ZR (W ((W ((W ((W ((W ((W ((W ((W ((W ((ZB (nth v1_2 v1_1).Doc.ZG (ZA (nth v1_2 v1_1).Doc.ZE (W ((W ((W (v1_0 + 1)) + 1)) + 1))).2).2 + 1)) + 1)) + 1)) + 1)) + 1)) + 1)) + 1)) + 1)) + 1))).1 (nth v1_2 v1_1).ZK.ZV))) rfl, ZD, Zj, m2, i1]
  repeat with_reducible refine sd ?_
  refine ki (t := 0) (j := 0) (i := v1_1) (c := 15) (size := 16) (rows := ((v1_2.set v1_1 (Zb.mk v1_0 (W (v1_0 + 1)) (ZT.mk (W ((W (v1_0 + 1)) + 1)) (ZA (nth v1_2 v1_1).Doc.ZE (W ((W ((W (v1_0 + 1)) + 1)) + 1))).1 (ZB (nth v1_2 v1_1).Doc.ZG (ZA (nth v1_2 v1_1).Doc.ZE (W ((W ((W (v1_0 + 1)) + 1)) + 1))).2).1) (Zm.mk (ZB (nth v1_2 v1_1).Doc.ZG (ZA (nth v1_2 v1_1).Doc.ZE (W ((W ((W (v1_0 + 1)) + 1)) + 1))).2).2 (W ((ZB (nth v1_2 v1_1).Doc.ZG (ZA (nth v1_2 v1_1).Doc.ZE (W ((W ((W (v1_0 + 1)) + 1)) + 1))).2).2 + 1)) (W ((W ((ZB (nth v1_2 v1_1).Doc.ZG (ZA (nth v1_2 v1_1).Doc.ZE (W ((W ((W (v1_0 + 1)) + 1)) + 1))).2).2 + 1)) + 1)) (W ((W ((W ((ZB (nth v1_2 v1_1).Doc.ZG (ZA (nth v1_2 v1_1).Doc.ZE (W ((W ((W (v1_0 + 1)) + 1)) + 1))).2).2 + 1)) + 1)) + 1)) (W ((W ((W ((W ((ZB (nth v1_2 v1_1).Doc.ZG (ZA (nth v1_2 v1_1).Doc.ZE (W ((W ((W (v1_0 + 1)) + 1)) + 1))).2).2 + 1)) + 1)) + 1)) + 1)) (W ((W ((W ((W ((W ((ZB (nth v1_2 v1_1).Doc.ZG (ZA (nth v1_2 v1_1).Doc.ZE (W ((W ((W (v1_0 + 1)) + 1)) + 1))).2).2 + 1)) + 1)) + 1)) + 1)) + 1)) (W ((W ((W ((W ((W ((W ((ZB (nth v1_2 v1_1).Doc.ZG (ZA (nth v1_2 v1_1).Doc.ZE (W ((W ((W (v1_0 + 1)) + 1)) + 1))).2).2 + 1)) + 1)) + 1)) + 1)) + 1)) + 1)) (W ((W ((W ((W ((W ((W ((W ((ZB (nth v1_2 v1_1).Doc.ZG (ZA (nth v1_2 v1_1).Doc.ZE (W ((W ((W (v1_0 + 1)) + 1)) + 1))).2).2 + 1)) + 1)) + 1)) + 1)) + 1)) + 1)) + 1)) (W ((W ((W ((W ((W ((W ((W ((W ((ZB (nth v1_2 v1_1).Doc.ZG (ZA (nth v1_2 v1_1).Doc.ZE (W ((W ((W (v1_0 + 1)) + 1)) + 1))).2).2 + 1)) + 1)) + 1)) + 1)) + 1)) + 1)) + 1)) + 1))) (ZY.mk (Zd (nth v1_2 v1_1).ZK.ZR (W ((W ((W ((W ((W ((W ((W ((W ((W ((ZB (nth v1_2 v1_1).Doc.ZG (ZA (nth v1_2 v1_1).Doc.ZE (W ((W ((W (v1_0 + 1)) + 1)) + 1))).2).2 + 1)) + 1)) + 1)) + 1)) + 1)) + 1)) + 1)) + 1)) + 1))).1 (nth v1_2 v1_1).ZK.ZV))).map Zb.row)) rfl rfl rfl rfl rfl rfl rfl (UH (nth v1_2 v1_1).ZK.ZV (Zd (nth v1_2 v1_1).ZK.ZR (W ((W ((W ((W ((W ((W ((W ((W ((W ((ZB (nth v1_2 v1_1).Doc.ZG (ZA (nth v1_2 v1_1).Doc.ZE (W ((W ((W (v1_0 + 1)) + 1)) + 1))).2).2 + 1)) + 1)) + 1)) + 1)) + 1)) + 1)) + 1)) + 1)) + 1))).2) (by simp) (by simp) (by simp [m2, i1]) (by simp [ZD, Zj, m2, i1]) (by simp) (by simp) (by simp) ?_
  simp [List.set_set, Zw (x := (Zb.mk v1_0 (W (v1_0 + 1)) (ZT.mk (W ((W (v1_0 + 1)) + 1)) (ZA (nth v1_2 v1_1).Doc.ZE (W ((W ((W (v1_0 + 1)) + 1)) + 1))).1 (ZB (nth v1_2 v1_1).Doc.ZG (ZA (nth v1_2 v1_1).Doc.ZE (W ((W ((W (v1_0 + 1)) + 1)) + 1))).2).1) (Zm.mk (ZB (nth v1_2 v1_1).Doc.ZG (ZA (nth v1_2 v1_1).Doc.ZE (W ((W ((W (v1_0 + 1)) + 1)) + 1))).2).2 (W ((ZB (nth v1_2 v1_1).Doc.ZG (ZA (nth v1_2 v1_1).Doc.ZE (W ((W ((W (v1_0 + 1)) + 1)) + 1))).2).2 + 1)) (W ((W ((ZB (nth v1_2 v1_1).Doc.ZG (ZA (nth v1_2 v1_1).Doc.ZE (W ((W ((W (v1_0 + 1)) + 1)) + 1))).2).2 + 1)) + 1)) (W ((W ((W ((ZB (nth v1_2 v1_1).Doc.ZG (ZA (nth v1_2 v1_1).Doc.ZE (W ((W ((W (v1_0 + 1)) + 1)) + 1))).2).2 + 1)) + 1)) + 1)) (W ((W ((W ((W ((ZB (nth v1_2 v1_1).Doc.ZG (ZA (nth v1_2 v1_1).Doc.ZE (W ((W ((W (v1_0 + 1)) + 1)) + 1))).2).2 + 1)) + 1)) + 1)) + 1)) (W ((W ((W ((W ((W ((ZB (nth v1_2 v1_1).Doc.ZG (ZA (nth v1_2 v1_1).Doc.ZE (W ((W ((W (v1_0 + 1)) + 1)) + 1))).2).2 + 1)) + 1)) + 1)) + 1)) + 1)) (W ((W ((W ((W ((W ((W ((ZB (nth v1_2 v1_1).Doc.ZG (ZA (nth v1_2 v1_1).Doc.ZE (W ((W ((W (v1_0 + 1)) + 1)) + 1))).2).2 + 1)) + 1)) + 1)) + 1)) + 1)) + 1)) (W ((W ((W ((W ((W ((W ((W ((ZB (nth v1_2 v1_1).Doc.ZG (ZA (nth v1_2 v1_1).Doc.ZE (W ((W ((W (v1_0 + 1)) + 1)) + 1))).2).2 + 1)) + 1)) + 1)) + 1)) + 1)) + 1)) + 1)) (W ((W ((W ((W ((W ((W ((W ((W ((ZB (nth v1_2 v1_1).Doc.ZG (ZA (nth v1_2 v1_1).Doc.ZE (W ((W ((W (v1_0 + 1)) + 1)) + 1))).2).2 + 1)) + 1)) + 1)) + 1)) + 1)) + 1)) + 1)) + 1))) (ZY.mk (Zd (nth v1_2 v1_1).ZK.ZR (W ((W ((W ((W ((W ((W ((W ((W ((W ((ZB (nth v1_2 v1_1).Doc.ZG (ZA (nth v1_2 v1_1).Doc.ZE (W ((W ((W (v1_0 + 1)) + 1)) + 1))).2).2 + 1)) + 1)) + 1)) + 1)) + 1)) + 1)) + 1)) + 1)) + 1))).1 (Zi (nth v1_2 v1_1).ZK.ZV (Zd (nth v1_2 v1_1).ZK.ZR (W ((W ((W ((W ((W ((W ((W ((W ((W ((ZB (nth v1_2 v1_1).Doc.ZG (ZA (nth v1_2 v1_1).Doc.ZE (W ((W ((W (v1_0 + 1)) + 1)) + 1))).2).2 + 1)) + 1)) + 1)) + 1)) + 1)) + 1)) + 1)) + 1)) + 1))).2).1))) rfl, ZD, Zj, m2, i1]
  repeat with_reducible refine sd ?_
  refine Se ⟨(p1, (Zi (nth v1_2 v1_1).ZK.ZV (Zd (nth v1_2 v1_1).ZK.ZR (W ((W ((W ((W ((W ((W ((W ((W ((W ((ZB (nth v1_2 v1_1).Doc.ZG (ZA (nth v1_2 v1_1).Doc.ZE (W ((W ((W (v1_0 + 1)) + 1)) + 1))).2).2 + 1)) + 1)) + 1)) + 1)) + 1)) + 1)) + 1)) + 1)) + 1))).2).2, (v1_1 + 1), (v1_2.set v1_1 (Zb.mk v1_0 (W (v1_0 + 1)) (ZT.mk (W ((W (v1_0 + 1)) + 1)) (ZA (nth v1_2 v1_1).Doc.ZE (W ((W ((W (v1_0 + 1)) + 1)) + 1))).1 (ZB (nth v1_2 v1_1).Doc.ZG (ZA (nth v1_2 v1_1).Doc.ZE (W ((W ((W (v1_0 + 1)) + 1)) + 1))).2).1) (Zm.mk (ZB (nth v1_2 v1_1).Doc.ZG (ZA (nth v1_2 v1_1).Doc.ZE (W ((W ((W (v1_0 + 1)) + 1)) + 1))).2).2 (W ((ZB (nth v1_2 v1_1).Doc.ZG (ZA (nth v1_2 v1_1).Doc.ZE (W ((W ((W (v1_0 + 1)) + 1)) + 1))).2).2 + 1)) (W ((W ((ZB (nth v1_2 v1_1).Doc.ZG (ZA (nth v1_2 v1_1).Doc.ZE (W ((W ((W (v1_0 + 1)) + 1)) + 1))).2).2 + 1)) + 1)) (W ((W ((W ((ZB (nth v1_2 v1_1).Doc.ZG (ZA (nth v1_2 v1_1).Doc.ZE (W ((W ((W (v1_0 + 1)) + 1)) + 1))).2).2 + 1)) + 1)) + 1)) (W ((W ((W ((W ((ZB (nth v1_2 v1_1).Doc.ZG (ZA (nth v1_2 v1_1).Doc.ZE (W ((W ((W (v1_0 + 1)) + 1)) + 1))).2).2 + 1)) + 1)) + 1)) + 1)) (W ((W ((W ((W ((W ((ZB (nth v1_2 v1_1).Doc.ZG (ZA (nth v1_2 v1_1).Doc.ZE (W ((W ((W (v1_0 + 1)) + 1)) + 1))).2).2 + 1)) + 1)) + 1)) + 1)) + 1)) (W ((W ((W ((W ((W ((W ((ZB (nth v1_2 v1_1).Doc.ZG (ZA (nth v1_2 v1_1).Doc.ZE (W ((W ((W (v1_0 + 1)) + 1)) + 1))).2).2 + 1)) + 1)) + 1)) + 1)) + 1)) + 1)) (W ((W ((W ((W ((W ((W ((W ((ZB (nth v1_2 v1_1).Doc.ZG (ZA (nth v1_2 v1_1).Doc.ZE (W ((W ((W (v1_0 + 1)) + 1)) + 1))).2).2 + 1)) + 1)) + 1)) + 1)) + 1)) + 1)) + 1)) (W ((W ((W ((W ((W ((W ((W ((W ((ZB (nth v1_2 v1_1).Doc.ZG (ZA (nth v1_2 v1_1).Doc.ZE (W ((W ((W (v1_0 + 1)) + 1)) + 1))).2).2 + 1)) + 1)) + 1)) + 1)) + 1)) + 1)) + 1)) + 1))) (ZY.mk (Zd (nth v1_2 v1_1).ZK.ZR (W ((W ((W ((W ((W ((W ((W ((W ((W ((ZB (nth v1_2 v1_1).Doc.ZG (ZA (nth v1_2 v1_1).Doc.ZE (W ((W ((W (v1_0 + 1)) + 1)) + 1))).2).2 + 1)) + 1)) + 1)) + 1)) + 1)) + 1)) + 1)) + 1)) + 1))).1 (Zi (nth v1_2 v1_1).ZK.ZV (Zd (nth v1_2 v1_1).ZK.ZR (W ((W ((W ((W ((W ((W ((W ((W ((W ((ZB (nth v1_2 v1_1).Doc.ZG (ZA (nth v1_2 v1_1).Doc.ZE (W ((W ((W (v1_0 + 1)) + 1)) + 1))).2).2 + 1)) + 1)) + 1)) + 1)) + 1)) + 1)) + 1)) + 1)) + 1))).2).1)))), ?_, ?_⟩ (by simp) (Yv (by simp [w1]))
  · rw [← e1]; simp only [QA, h1, Ys, Yn]
  · (simp; omega)
 ·have q1 := h1; try simp at q1
  have x1 : QA (a0.length + 1) a1 0 a0 = (v1_0, v1_2) := by rw [← e1]; simp only [QA, h1, Ys, Yn]
  simp
  refine Ul (rv := [.tmp 4]) rfl ?_
  have f1 := Zy.eq_1 a0 a1; simp only [x1, Ys, Yn] at f1; simp [f1]
theorem UT (a0 : List ZH) (a1 : Int) : QW Tryz.prog 41 (rL 2 ZH.row a0) [rI a1] (rL 2 ZH.row (Zu a0 a1).1) (.int .i64 (Zu a0 a1).2) := by
 refine Xv Tryz.func41 rfl (by kernel_rfl) (fun v => ?_)
 simp [Tryz.ntmps41]
 refine okL fun k1 => ?_
 refine kO (ι := { s : Nat × Int × Nat × (List ZH) // XJ s.1 s.2.1 s.2.2.1 s.2.2.2 = XJ (a0.length + 1) a1 0 a0 ∧ (1 ≤ s.1 ∧ s.2.2.2.length < s.1 + s.2.2.1) }) (fun s => YM 27 [(0, .fix v (.one (.sref 0 0 0 s.1.2.2.2.length)), [.arr true 2 (s.1.2.2.2.map ZH.row)]), eI 1 s.1.2.1, eI 5 (↑s.1.2.2.1 : Int)]) (fun s => s.1.1) ⟨((a0.length + 1), a1, 0, a0), rfl, by first | omega | (dsimp only; omega) | simp⟩ (Yv (by simp)) ?_
 rintro ⟨⟨n1, v1_0, v1_1, v1_2⟩, e1, j1⟩
 try dsimp only at e1 j1
 obtain ⟨p1, rfl⟩ : ∃ p, n1 = p + 1 := ⟨n1 - 1, by omega⟩
 simp
 refine cC (decide ((↑v1_1 : Int) < (↑v1_2.length : Int))) (fun k2 h1 => ?_) (fun k2 h1 => ?_)
 ·have q1 := h1; try simp at q1
  have i1 : v1_1 < v1_2.length := by simpa using h1
  have m2 : v1_2.length ≤ 9223372036854775807 := by simpa using k2 0 _ rfl
  have w1 : IntKind.i64.wrap ((v1_1 : Int) + 1) = (v1_1 : Int) + 1 := Za (by omega) (by omega)
  simp [i1, ZD, Zw (x := (ZH.mk v1_0 (nth v1_2 v1_1).ZS)) rfl, Zj]
  repeat with_reducible refine sd ?_
  refine ki (t := 0) (j := 0) (i := v1_1) (c := 1) (size := 2) (rows := ((v1_2.set v1_1 (ZH.mk v1_0 (nth v1_2 v1_1).ZS)).map ZH.row)) rfl rfl rfl rfl rfl rfl rfl (Pa (nth v1_2 v1_1).ZS (W (v1_0 + 1))) (by simp) (by simp) (by simp [m2, i1]) (by simp [ZD, Zj, m2, i1]) (by simp) (by simp) (by simp) ?_
  simp [List.set_set, Zw (x := (ZH.mk v1_0 (Zy (nth v1_2 v1_1).ZS (W (v1_0 + 1))).1)) rfl, ZD, Zj, m2, i1]
  repeat with_reducible refine sd ?_
  refine Se ⟨(p1, (Zy (nth v1_2 v1_1).ZS (W (v1_0 + 1))).2, (v1_1 + 1), (v1_2.set v1_1 (ZH.mk v1_0 (Zy (nth v1_2 v1_1).ZS (W (v1_0 + 1))).1))), ?_, ?_⟩ (by simp) (Yv (by simp [w1]))
  · rw [← e1]; simp only [XJ, h1, Ys, Yn]
  · (simp; omega)
 ·have q1 := h1; try simp at q1
  have x1 : XJ (a0.length + 1) a1 0 a0 = (v1_0, v1_2) := by rw [← e1]; simp only [XJ, h1, Ys, Yn]
  simp
  refine Ul (rv := [.tmp 4]) rfl ?_
  have f1 := Zu.eq_1 a0 a1; simp only [x1, Ys, Yn] at f1; simp [f1]
theorem km (a0 : Zc) (a1 : Int) : QW Tryz.prog 12 a0.row [rI a1] (Zn a0 a1).1.row (.int .i64 (Zn a0 a1).2) := by
 refine Xv Tryz.func12 rfl (by kernel_rfl) (fun v => ?_)
 simp [Tryz.ntmps12]
 refine y3 (ats := [.sref 0 0 0 a0.Frame.YR.length, .sref 0 1 0 a0.Frame.ZL.length, .sref 0 2 0 a0.Frame.Methods.length, .d (.int .i64 a0.Frame.zu), .d (.int .i64 a0.Frame.Now)]) rfl rfl rfl rfl rfl rfl rfl (Pn a0.Frame a1) (by simp) (by simp) (by simp) (by simp) (by simp) (by simp) (by simp) (by simp) (by simp) ?_
 simp
 refine y3 (ats := [.sref 0 5 0 a0.Zx.length]) rfl rfl rfl rfl rfl rfl rfl (PQ a0.Zx (Zh a0.Frame a1).2) (by simp) (by simp) (by simp) (by simp) (by simp) (by simp) (by simp) (by simp) (by simp) ?_
 simp
 refine y3 (ats := [.sref 0 6 0 a0.Z5.length]) rfl rfl rfl rfl rfl rfl rfl (Jw a0.Z5 (Zt a0.Zx (Zh a0.Frame a1).2).2) (by simp) (by simp) (by simp) (by simp) (by simp) (by simp) (by simp) (by simp) (by simp) ?_
 simp
 refine y3 (ats := [.sref 0 7 0 a0.ZC.length]) rfl rfl rfl rfl rfl rfl rfl (UT a0.ZC (ZB a0.Z5 (Zt a0.Zx (Zh a0.Frame a1).2).2).2) (by simp) (by simp) (by simp) (by simp) (by simp) (by simp) (by simp) (by simp) (by simp) ?_
 simp
 refine y3 (ats := [.sref 0 8 0 a0.Yz.length]) rfl rfl rfl rfl rfl rfl rfl (Jw a0.Yz (Zu a0.ZC (ZB a0.Z5 (Zt a0.Zx (Zh a0.Frame a1).2).2).2).2) (by simp) (by simp) (by simp) (by simp) (by simp) (by simp) (by simp) (by simp) (by simp) ?_
 simp
 refine y3 (ats := [.sref 0 9 0 a0.YX.length]) rfl rfl rfl rfl rfl rfl rfl (Jw a0.YX (ZB a0.Yz (Zu a0.ZC (ZB a0.Z5 (Zt a0.Zx (Zh a0.Frame a1).2).2).2).2).2) (by simp) (by simp) (by simp) (by simp) (by simp) (by simp) (by simp) (by simp) (by simp) ?_
 simp
 refine y3 (ats := [.sref 0 11 0 a0.YT.length]) rfl rfl rfl rfl rfl rfl rfl (Jw a0.YT (ZB a0.YX (ZB a0.Yz (Zu a0.ZC (ZB a0.Z5 (Zt a0.Zx (Zh a0.Frame a1).2).2).2).2).2).2) (by simp) (by simp) (by simp) (by simp) (by simp) (by simp) (by simp) (by simp) (by simp) ?_
 simp
 refine Ul (rv := [.tmp 4]) rfl ?_
 have f1 := Zn.eq_1 a0 a1; simp [f1]
theorem O2 (a0 : List YD) (a1 : Int) : Sa 100 [rL 5 YD.row a0, rI a1] [rI (Qz a0 a1)] := by
 have f := me (Qz.eq_1 a0 a1)
 refine so Tryz.func100 Tryz.ntmps100 ?_
 refine lp2 (xX.eq_2 a0) (fun v1_0 v1_1 => YM 58 [eL 0 5 a0 YD.row, eI 1 v1_0, eI 5 (↑v1_1 : Int)]) (fun n1 v1_0 v1_1 => a0.length < n1 + v1_1 ∧ v1_1 ≤ a0.length) (a0.length + 1) a1 0 (fun p1 v1_0 v1_1 e1 j1 => ?_)
 refine cFf e1 ?_ ?_ <;> intro k2 h1 e1
 ·have i1 := ix h1
  have m2 := ml a0 (k2 0 _ rfl)
  have w1 := wr v1_1
  simp [i1, ZD]
  repeat with_reducible refine sd ?_
  refine cFt e1 ?_ ?_ <;> intro k3 h2 e1
  ·have f := ms f e1
   exact rt [.tmp 4] f
  simp [i1, ZD]
  repeat with_reducible refine sd ?_
  refine cFt e1 ?_ ?_ <;> intro k4 h3 e1
  ·have f := ms f e1
   exact rt [.tmp 4] f
  simp [i1, ZD]
  repeat with_reducible refine sd ?_
  refine cFt e1 ?_ ?_ <;> intro k5 h4 e1
  ·have f := ms f e1
   exact rt [.tmp 4] f
  simp [i1, ZD]
  repeat with_reducible refine sd ?_
  refine cFt e1 ?_ ?_ <;> intro k6 h5 e1
  ·have f := ms f e1
   exact rt [.tmp 4] f
  simp [i1, ZD]
  repeat with_reducible refine sd ?_
  refine cF e1 ?_ ?_ <;> intro k7 h6 e1
  ·have f := ms f e1
   exact rt [.tmp 4] f
  exact ny2 w1 e1
 have f := ms f e1
 exact rt [.tmp 4] f
theorem Wv (a0 : List ZI) (a1 : Int) : Sa 101 [rL 3 ZI.row a0, rI a1] [rI (XI a0 a1)] := by
 have f := me (XI.eq_1 a0 a1)
 refine so Tryz.func101 Tryz.ntmps101 ?_
 refine lp2 (Jl.eq_2 a0) (fun v1_0 v1_1 => YM 40 [eL 0 3 a0 ZI.row, eI 1 v1_0, eI 5 (↑v1_1 : Int)]) (fun n1 v1_0 v1_1 => a0.length < n1 + v1_1 ∧ v1_1 ≤ a0.length) (a0.length + 1) a1 0 (fun p1 v1_0 v1_1 e1 j1 => ?_)
 refine cFf e1 ?_ ?_ <;> intro k2 h1 e1
 ·have i1 := ix h1
  have m2 := ml a0 (k2 0 _ rfl)
  have w1 := wr v1_1
  simp [i1, ZD]
  repeat with_reducible refine sd ?_
  refine cFt e1 ?_ ?_ <;> intro k3 h2 e1
  ·have f := ms f e1
   exact rt [.tmp 4] f
  simp [i1, ZD]
  repeat with_reducible refine sd ?_
  refine cFt e1 ?_ ?_ <;> intro k4 h3 e1
  ·have f := ms f e1
   exact rt [.tmp 4] f
  simp [i1, ZD]
  repeat with_reducible refine sd ?_
  refine cF e1 ?_ ?_ <;> intro k5 h4 e1
  ·have f := ms f e1
   exact rt [.tmp 4] f
  exact ny2 w1 e1
 have f := ms f e1
 exact rt [.tmp 4] f
theorem Uv (a0 : List ZU) (a1 : Int) : Sa 102 [rL 4 ZU.row a0, rI a1] [rI (Jz a0 a1)] := by
 have f := me (Jz.eq_1 a0 a1)
 refine so Tryz.func102 Tryz.ntmps102 ?_
 refine lp2 (Kt.eq_2 a0) (fun v1_0 v1_1 => YM 49 [eL 0 4 a0 ZU.row, eI 1 v1_0, eI 5 (↑v1_1 : Int)]) (fun n1 v1_0 v1_1 => a0.length < n1 + v1_1 ∧ v1_1 ≤ a0.length) (a0.length + 1) a1 0 (fun p1 v1_0 v1_1 e1 j1 => ?_)
 refine cFf e1 ?_ ?_ <;> intro k2 h1 e1
 ·have i1 := ix h1
  have m2 := ml a0 (k2 0 _ rfl)
  have w1 := wr v1_1
  simp [i1, ZD]
  repeat with_reducible refine sd ?_
  refine cFt e1 ?_ ?_ <;> intro k3 h2 e1
  ·have f := ms f e1
   exact rt [.tmp 4] f
  simp [i1, ZD]
  repeat with_reducible refine sd ?_
  refine cFt e1 ?_ ?_ <;> intro k4 h3 e1
  ·have f := ms f e1
   exact rt [.tmp 4] f
  simp [i1, ZD]
  repeat with_reducible refine sd ?_
  refine cFt e1 ?_ ?_ <;> intro k5 h4 e1
  ·have f := ms f e1
   exact rt [.tmp 4] f
  simp [i1, ZD]
  repeat with_reducible refine sd ?_
  refine cF e1 ?_ ?_ <;> intro k6 h5 e1
  ·have f := ms f e1
   exact rt [.tmp 4] f
  exact ny2 w1 e1
 have f := ms f e1
 exact rt [.tmp 4] f
theorem RR (a0 : Z4) (a1 : Int) : Sa 42 [a0.row, rI a1] [rI (Yh a0 a1)] := by
 have f := me (Yh.eq_1 a0 a1)
 refine so Tryz.func42 Tryz.ntmps42 ?_
 refine cRs (O2 a0.YR a1) ?_
 refine cF f ?_ ?_ <;> intro k1 h1 f
 ·exact rt [.tmp 4] f
 refine cRs (Wv a0.ZL (Qz a0.YR a1)) ?_
 refine cF f ?_ ?_ <;> intro k2 h2 f
 ·exact rt [.tmp 4] f
 refine cRs (Uv a0.Methods (XI a0.ZL (Qz a0.YR a1))) ?_
 refine cF f ?_ ?_ <;> intro k3 h3 f
 ·exact rt [.tmp 4] f
 exact rt [.tmp 4] f
theorem Pc (a0 : List Z0) (a1 : Int) : Sa 43 [rL 7 Z0.row a0, rI a1] [rI (Yr a0 a1)] := by
 have f := me (Yr.eq_1 a0 a1)
 refine so Tryz.func43 Tryz.ntmps43 ?_
 refine lp2 (yg.eq_2 a0) (fun v1_0 v1_1 => YM 76 [eL 0 7 a0 Z0.row, eI 1 v1_0, eI 5 (↑v1_1 : Int)]) (fun n1 v1_0 v1_1 => a0.length < n1 + v1_1 ∧ v1_1 ≤ a0.length) (a0.length + 1) a1 0 (fun p1 v1_0 v1_1 e1 j1 => ?_)
 refine cFf e1 ?_ ?_ <;> intro k2 h1 e1
 ·have i1 := ix h1
  have m2 := ml a0 (k2 0 _ rfl)
  have w1 := wr v1_1
  simp [i1, ZD]
  repeat with_reducible refine sd ?_
  refine cFt e1 ?_ ?_ <;> intro k3 h2 e1
  ·have f := ms f e1
   exact rt [.tmp 4] f
  simp [i1, ZD]
  repeat with_reducible refine sd ?_
  refine cFt e1 ?_ ?_ <;> intro k4 h3 e1
  ·have f := ms f e1
   exact rt [.tmp 4] f
  simp [i1, ZD]
  repeat with_reducible refine sd ?_
  refine cFt e1 ?_ ?_ <;> intro k5 h4 e1
  ·have f := ms f e1
   exact rt [.tmp 4] f
  simp [i1, ZD]
  repeat with_reducible refine sd ?_
  refine cFt e1 ?_ ?_ <;> intro k6 h5 e1
  ·have f := ms f e1
   exact rt [.tmp 4] f
  simp [i1, ZD]
  repeat with_reducible refine sd ?_
  refine cFt e1 ?_ ?_ <;> intro k7 h6 e1
  ·have f := ms f e1
   exact rt [.tmp 4] f
  simp [i1, ZD]
  repeat with_reducible refine sd ?_
  refine cFt e1 ?_ ?_ <;> intro k8 h7 e1
  ·have f := ms f e1
   exact rt [.tmp 4] f
  simp [i1, ZD]
  repeat with_reducible refine sd ?_
  refine cF e1 ?_ ?_ <;> intro k9 h8 e1
  ·have f := ms f e1
   exact rt [.tmp 4] f
  exact ny2 w1 e1
 have f := ms f e1
 exact rt [.tmp 4] f
theorem Js (a0 : List Int) (a1 : Int) : Sa 44 [rL 1 iR a0, rI a1] [rI (ZZ a0 a1)] := by
 have f := me (ZZ.eq_1 a0 a1)
 refine so Tryz.func44 Tryz.ntmps44 ?_
 refine lp2 (xS.eq_2 a0) (fun v1_0 v1_1 => YM 21 [eL 0 1 a0 iR, eI 1 v1_0, eI 5 (↑v1_1 : Int)]) (fun n1 v1_0 v1_1 => a0.length < n1 + v1_1 ∧ v1_1 ≤ a0.length) (a0.length + 1) a1 0 (fun p1 v1_0 v1_1 e1 j1 => ?_)
 refine cFf e1 ?_ ?_ <;> intro k2 h1 e1
 ·have i1 := ix h1
  have m2 := ml a0 (k2 0 _ rfl)
  have w1 := wr v1_1
  simp [i1, ZD]
  repeat with_reducible refine sd ?_
  refine cF e1 ?_ ?_ <;> intro k3 h2 e1
  ·have f := ms f e1
   exact rt [.tmp 4] f
  exact ny2 w1 e1
 have f := ms f e1
 exact rt [.tmp 4] f
theorem Uz (a0 : List ByteArray) (a1 : Int) : Sa 154 [rL 1 sR a0, rI a1] [rI (Ze a0 a1)] := by
 have f := me (Ze.eq_1 a0 a1)
 refine so Tryz.func154 Tryz.ntmps154 ?_
 refine lp2 (Kr.eq_2 a0) (fun v1_0 v1_1 => YM 22 [eL 0 1 a0 sR, eI 1 v1_0, eI 5 (↑v1_1 : Int)]) (fun n1 v1_0 v1_1 => a0.length < n1 + v1_1 ∧ v1_1 ≤ a0.length) (a0.length + 1) a1 0 (fun p1 v1_0 v1_1 e1 j1 => ?_)
 refine cF e1 ?_ ?_ <;> intro k2 h1 e1
 ·have i1 := ix h1
  have m2 := ml a0 (k2 0 _ rfl)
  have w1 := wr v1_1
  refine dIo mixed ?_
  simp [i1, ZD]
  repeat with_reducible refine sd ?_
  refine cRs (W1 v1_0) ?_
  refine cF e1 ?_ ?_ <;> intro k4 h2 e1
  ·have f := ms f e1
   exact rt [.tmp 4] f
  exact ny2 w1 e1
 have f := ms f e1
 exact rt [.tmp 4] f
theorem SS (a0 : List ZO) (a1 : Int) : Sa 155 [rL 3 ZO.row a0, rI a1] [rI (Yu a0 a1)] := by
 have f := me (Yu.eq_1 a0 a1)
 refine so Tryz.func155 Tryz.ntmps155 ?_
 refine lp2 (zZ.eq_2 a0) (fun v1_0 v1_1 => YM 40 [eL 0 3 a0 ZO.row, eI 1 v1_0, eI 5 (↑v1_1 : Int)]) (fun n1 v1_0 v1_1 => a0.length < n1 + v1_1 ∧ v1_1 ≤ a0.length) (a0.length + 1) a1 0 (fun p1 v1_0 v1_1 e1 j1 => ?_)
 refine cFf e1 ?_ ?_ <;> intro k2 h1 e1
 ·have i1 := ix h1
  have m2 := ml a0 (k2 0 _ rfl)
  have w1 := wr v1_1
  simp [i1, ZD]
  repeat with_reducible refine sd ?_
  refine cFt e1 ?_ ?_ <;> intro k3 h2 e1
  ·have f := ms f e1
   exact rt [.tmp 4] f
  simp [i1, ZD]
  repeat with_reducible refine sd ?_
  refine cRs (Js (nth a0 v1_1).Ye (W (v1_0 + 1))) ?_ (hrows := by first | (simp; done) | (simp [W, w1]; done))
  refine cFt e1 ?_ ?_ <;> intro k4 h3 e1
  ·have f := ms f e1
   exact rt [.tmp 4] f
  simp [i1, ZD]
  repeat with_reducible refine sd ?_
  refine cF e1 ?_ ?_ <;> intro k5 h4 e1
  ·have f := ms f e1
   exact rt [.tmp 4] f
  exact ny2 w1 e1
 have f := ms f e1
 exact rt [.tmp 4] f
theorem RN (a0 : List Zq) (a1 : Int) : Sa 189 [rL 2 Zq.row a0, rI a1] [rI (Y6 a0 a1)] := by
 have f := me (Y6.eq_1 a0 a1)
 refine so Tryz.func189 Tryz.ntmps189 ?_
 refine lp2 (yY.eq_2 a0) (fun v1_0 v1_1 => YM 33 [eL 0 2 a0 Zq.row, eI 1 v1_0, eI 5 (↑v1_1 : Int)]) (fun n1 v1_0 v1_1 => a0.length < n1 + v1_1 ∧ v1_1 ≤ a0.length) (a0.length + 1) a1 0 (fun p1 v1_0 v1_1 e1 j1 => ?_)
 refine cFf e1 ?_ ?_ <;> intro k2 h1 e1
 ·have i1 := ix h1
  have m2 := ml a0 (k2 0 _ rfl)
  have w1 := wr v1_1
  simp [i1, ZD]
  repeat with_reducible refine sd ?_
  refine cFt e1 ?_ ?_ <;> intro k3 h2 e1
  ·have f := ms f e1
   exact rt [.tmp 4] f
  simp [i1, ZD]
  repeat with_reducible refine sd ?_
  refine cF e1 ?_ ?_ <;> intro k4 h3 e1
  ·have f := ms f e1
   exact rt [.tmp 4] f
  exact ny2 w1 e1
 have f := ms f e1
 exact rt [.tmp 4] f
theorem T7 (a0 : List ZX) (a1 : Int) : Sa 190 [rL 5 ZX.row a0, rI a1] [rI (Xh a0 a1)] := by
 have f := me (Xh.eq_1 a0 a1)
 refine so Tryz.func190 Tryz.ntmps190 ?_
 refine lp2 (zt.eq_2 a0) (fun v1_0 v1_1 => YM 58 [eL 0 5 a0 ZX.row, eI 1 v1_0, eI 5 (↑v1_1 : Int)]) (fun n1 v1_0 v1_1 => a0.length < n1 + v1_1 ∧ v1_1 ≤ a0.length) (a0.length + 1) a1 0 (fun p1 v1_0 v1_1 e1 j1 => ?_)
 refine cFf e1 ?_ ?_ <;> intro k2 h1 e1
 ·have i1 := ix h1
  have m2 := ml a0 (k2 0 _ rfl)
  have w1 := wr v1_1
  simp [i1, ZD]
  repeat with_reducible refine sd ?_
  refine cFt e1 ?_ ?_ <;> intro k3 h2 e1
  ·have f := ms f e1
   exact rt [.tmp 4] f
  simp [i1, ZD]
  repeat with_reducible refine sd ?_
  refine cFt e1 ?_ ?_ <;> intro k4 h3 e1
  ·have f := ms f e1
   exact rt [.tmp 4] f
  simp [i1, ZD]
  repeat with_reducible refine sd ?_
  refine cFt e1 ?_ ?_ <;> intro k5 h4 e1
  ·have f := ms f e1
   exact rt [.tmp 4] f
  simp [i1, ZD]
  repeat with_reducible refine sd ?_
  refine cFt e1 ?_ ?_ <;> intro k6 h5 e1
  ·have f := ms f e1
   exact rt [.tmp 4] f
  simp [i1, ZD]
  repeat with_reducible refine sd ?_
  refine cF e1 ?_ ?_ <;> intro k7 h6 e1
  ·have f := ms f e1
   exact rt [.tmp 4] f
  exact ny2 w1 e1
 have f := ms f e1
 exact rt [.tmp 4] f
theorem UK (a0 : List ZF) (a1 : Int) : Sa 156 [rL 5 ZF.row a0, rI a1] [rI (XB a0 a1)] := by
 have f := me (XB.eq_1 a0 a1)
 refine so Tryz.func156 Tryz.ntmps156 ?_
 refine lp2 (KU.eq_2 a0) (fun v1_0 v1_1 => YM 58 [eL 0 5 a0 ZF.row, eI 1 v1_0, eI 5 (↑v1_1 : Int)]) (fun n1 v1_0 v1_1 => a0.length < n1 + v1_1 ∧ v1_1 ≤ a0.length) (a0.length + 1) a1 0 (fun p1 v1_0 v1_1 e1 j1 => ?_)
 refine cFf e1 ?_ ?_ <;> intro k2 h1 e1
 ·have i1 := ix h1
  have m2 := ml a0 (k2 0 _ rfl)
  have w1 := wr v1_1
  simp [i1, ZD]
  repeat with_reducible refine sd ?_
  refine cFt e1 ?_ ?_ <;> intro k3 h2 e1
  ·have f := ms f e1
   exact rt [.tmp 4] f
  simp [i1, ZD]
  repeat with_reducible refine sd ?_
  refine cFt e1 ?_ ?_ <;> intro k4 h3 e1
  ·have f := ms f e1
   exact rt [.tmp 4] f
  simp [i1, ZD]
  repeat with_reducible refine sd ?_
  refine cFt e1 ?_ ?_ <;> intro k5 h4 e1
  ·have f := ms f e1
   exact rt [.tmp 4] f
  simp [i1, ZD]
  repeat with_reducible refine sd ?_
  refine cRs (RN (nth a0 v1_1).Path (W ((W ((W (v1_0 + 1)) + 1)) + 1))) ?_ (hrows := by first | (simp; done) | (simp [W, w1]; done))
  refine cFt e1 ?_ ?_ <;> intro k6 h5 e1
  ·have f := ms f e1
   exact rt [.tmp 4] f
  simp [i1, ZD]
  repeat with_reducible refine sd ?_
  refine cRs (T7 (nth a0 v1_1).Zv (Y6 (nth a0 v1_1).Path (W ((W ((W (v1_0 + 1)) + 1)) + 1)))) ?_ (hrows := by first | (simp; done) | (simp [W, w1]; done))
  refine cF e1 ?_ ?_ <;> intro k7 h6 e1
  ·have f := ms f e1
   exact rt [.tmp 4] f
  exact ny2 w1 e1
 have f := ms f e1
 exact rt [.tmp 4] f
theorem RJ (a0 : List Zb) (a1 : Int) : Sa 103 [rL 16 Zb.row a0, rI a1] [rI (QK a0 a1)] := by
 have f := me (QK.eq_1 a0 a1)
 refine so Tryz.func103 Tryz.ntmps103 ?_
 refine lp2 (ye.eq_2 a0) (fun v1_0 v1_1 => YM 171 [eL 0 16 a0 Zb.row, eI 1 v1_0, eI 5 (↑v1_1 : Int)]) (fun n1 v1_0 v1_1 => a0.length < n1 + v1_1 ∧ v1_1 ≤ a0.length) (a0.length + 1) a1 0 (fun p1 v1_0 v1_1 e1 j1 => ?_)
 refine cFf e1 ?_ ?_ <;> intro k2 h1 e1
 ·have i1 := ix h1
  have m2 := ml a0 (k2 0 _ rfl)
  have w1 := wr v1_1
  simp [i1, ZD]
  repeat with_reducible refine sd ?_
  refine cFt e1 ?_ ?_ <;> intro k3 h2 e1
  ·have f := ms f e1
   exact rt [.tmp 4] f
  simp [i1, ZD]
  repeat with_reducible refine sd ?_
  refine cFt e1 ?_ ?_ <;> intro k4 h3 e1
  ·have f := ms f e1
   exact rt [.tmp 4] f
  simp [i1, ZD]
  repeat with_reducible refine sd ?_
  refine cFt e1 ?_ ?_ <;> intro k5 h4 e1
  ·have f := ms f e1
   exact rt [.tmp 4] f
  simp [i1, ZD]
  repeat with_reducible refine sd ?_
  refine cRs (Uz (nth a0 v1_1).Doc.ZE (W ((W ((W (v1_0 + 1)) + 1)) + 1))) ?_ (hrows := by first | (simp; done) | (simp [W, w1]; done))
  refine cFt e1 ?_ ?_ <;> intro k6 h5 e1
  ·have f := ms f e1
   exact rt [.tmp 4] f
  simp [i1, ZD]
  repeat with_reducible refine sd ?_
  refine cRs (Js (nth a0 v1_1).Doc.ZG (Ze (nth a0 v1_1).Doc.ZE (W ((W ((W (v1_0 + 1)) + 1)) + 1)))) ?_ (hrows := by first | (simp; done) | (simp [W, w1]; done))
  refine cFt e1 ?_ ?_ <;> intro k7 h6 e1
  ·have f := ms f e1
   exact rt [.tmp 4] f
  simp [i1, ZD]
  repeat with_reducible refine sd ?_
  refine cFt e1 ?_ ?_ <;> intro k8 h7 e1
  ·have f := ms f e1
   exact rt [.tmp 4] f
  simp [i1, ZD]
  repeat with_reducible refine sd ?_
  refine cFt e1 ?_ ?_ <;> intro k9 h8 e1
  ·have f := ms f e1
   exact rt [.tmp 4] f
  simp [i1, ZD]
  repeat with_reducible refine sd ?_
  refine cFt e1 ?_ ?_ <;> intro k10 h9 e1
  ·have f := ms f e1
   exact rt [.tmp 4] f
  simp [i1, ZD]
  repeat with_reducible refine sd ?_
  refine cFt e1 ?_ ?_ <;> intro k11 h10 e1
  ·have f := ms f e1
   exact rt [.tmp 4] f
  simp [i1, ZD]
  repeat with_reducible refine sd ?_
  refine cFt e1 ?_ ?_ <;> intro k12 h11 e1
  ·have f := ms f e1
   exact rt [.tmp 4] f
  simp [i1, ZD]
  repeat with_reducible refine sd ?_
  refine cFt e1 ?_ ?_ <;> intro k13 h12 e1
  ·have f := ms f e1
   exact rt [.tmp 4] f
  simp [i1, ZD]
  repeat with_reducible refine sd ?_
  refine cFt e1 ?_ ?_ <;> intro k14 h13 e1
  ·have f := ms f e1
   exact rt [.tmp 4] f
  simp [i1, ZD]
  repeat with_reducible refine sd ?_
  refine cFt e1 ?_ ?_ <;> intro k15 h14 e1
  ·have f := ms f e1
   exact rt [.tmp 4] f
  simp [i1, ZD]
  repeat with_reducible refine sd ?_
  refine cFt e1 ?_ ?_ <;> intro k16 h15 e1
  ·have f := ms f e1
   exact rt [.tmp 4] f
  simp [i1, ZD]
  repeat with_reducible refine sd ?_
  refine cRs (SS (nth a0 v1_1).ZK.ZR (W ((W ((W ((W ((W ((W ((W ((W ((W ((ZZ (nth a0 v1_1).Doc.ZG (Ze (nth a0 v1_1).Doc.ZE (W ((W ((W (v1_0 + 1)) + 1)) + 1)))) + 1)) + 1)) + 1)) + 1)) + 1)) + 1)) + 1)) + 1)) + 1))) ?_ (hrows := by first | (simp; done) | (simp [W, w1]; done))
  refine cFt e1 ?_ ?_ <;> intro k17 h16 e1
  ·have f := ms f e1
   exact rt [.tmp 4] f
  simp [i1, ZD]
  repeat with_reducible refine sd ?_
  refine cRs (UK (nth a0 v1_1).ZK.ZV (Yu (nth a0 v1_1).ZK.ZR (W ((W ((W ((W ((W ((W ((W ((W ((W ((ZZ (nth a0 v1_1).Doc.ZG (Ze (nth a0 v1_1).Doc.ZE (W ((W ((W (v1_0 + 1)) + 1)) + 1)))) + 1)) + 1)) + 1)) + 1)) + 1)) + 1)) + 1)) + 1)) + 1)))) ?_ (hrows := by first | (simp; done) | (simp [W, w1]; done))
  refine cF e1 ?_ ?_ <;> intro k18 h17 e1
  ·have f := ms f e1
   exact rt [.tmp 4] f
  exact ny2 w1 e1
 have f := ms f e1
 exact rt [.tmp 4] f
theorem V9 (a0 : List ZH) (a1 : Int) : Sa 45 [rL 2 ZH.row a0, rI a1] [rI (Yp a0 a1)] := by
 have f := me (Yp.eq_1 a0 a1)
 refine so Tryz.func45 Tryz.ntmps45 ?_
 refine lp2 (KQ.eq_2 a0) (fun v1_0 v1_1 => YM 31 [eL 0 2 a0 ZH.row, eI 1 v1_0, eI 5 (↑v1_1 : Int)]) (fun n1 v1_0 v1_1 => a0.length < n1 + v1_1 ∧ v1_1 ≤ a0.length) (a0.length + 1) a1 0 (fun p1 v1_0 v1_1 e1 j1 => ?_)
 refine cFf e1 ?_ ?_ <;> intro k2 h1 e1
 ·have i1 := ix h1
  have m2 := ml a0 (k2 0 _ rfl)
  have w1 := wr v1_1
  simp [i1, ZD]
  repeat with_reducible refine sd ?_
  refine cFt e1 ?_ ?_ <;> intro k3 h2 e1
  ·have f := ms f e1
   exact rt [.tmp 4] f
  simp [i1, ZD]
  repeat with_reducible refine sd ?_
  refine cRs (RJ (nth a0 v1_1).ZS (W (v1_0 + 1))) ?_ (hrows := by first | (simp; done) | (simp [W, w1]; done))
  refine cF e1 ?_ ?_ <;> intro k4 h3 e1
  ·have f := ms f e1
   exact rt [.tmp 4] f
  exact ny2 w1 e1
 have f := ms f e1
 exact rt [.tmp 4] f
theorem kl (a0 : Zc) (a1 : Int) : Sa 13 [a0.row, rI a1] [rI (Ja a0 a1)] := by
 have f := me (Ja.eq_1 a0 a1)
 refine so Tryz.func13 Tryz.ntmps13 ?_
 refine cRs (RR a0.Frame a1) ?_
 refine cF f ?_ ?_ <;> intro k1 h1 f
 ·exact rt [.tmp 4] f
 refine cRs (Pc a0.Zx (Yh a0.Frame a1)) ?_
 refine cF f ?_ ?_ <;> intro k2 h2 f
 ·exact rt [.tmp 4] f
 refine cRs (Js a0.Z5 (Yr a0.Zx (Yh a0.Frame a1))) ?_
 refine cF f ?_ ?_ <;> intro k3 h3 f
 ·exact rt [.tmp 4] f
 refine cRs (V9 a0.ZC (ZZ a0.Z5 (Yr a0.Zx (Yh a0.Frame a1)))) ?_
 refine cF f ?_ ?_ <;> intro k4 h4 f
 ·exact rt [.tmp 4] f
 refine cRs (Js a0.Yz (Yp a0.ZC (ZZ a0.Z5 (Yr a0.Zx (Yh a0.Frame a1))))) ?_
 refine cF f ?_ ?_ <;> intro k5 h5 f
 ·exact rt [.tmp 4] f
 refine cRs (Js a0.YX (ZZ a0.Yz (Yp a0.ZC (ZZ a0.Z5 (Yr a0.Zx (Yh a0.Frame a1)))))) ?_
 refine cF f ?_ ?_ <;> intro k6 h6 f
 ·exact rt [.tmp 4] f
 refine cRs (Js a0.YT (ZZ a0.YX (ZZ a0.Yz (Yp a0.ZC (ZZ a0.Z5 (Yr a0.Zx (Yh a0.Frame a1))))))) ?_
 refine cF f ?_ ?_ <;> intro k7 h7 f
 ·exact rt [.tmp 4] f
 exact rt [.tmp 4] f
end Go.Proofs.YtjflhdkeibijaaaGreat
