/- Contracts of the functions Oj the abstract machine, part A1. No condition. -/
import Derived.Test.YtjflhdkeibijaaaGreatL
import Derived.Test.YtjflhdkeibijaaaGreatTy
namespace Go.Proofs.YtjflhdkeibijaaaGreat
open Go.Vm Go.Mo
set_option maxHeartbeats 1000000
set_option maxRecDepth 100000
set_option linter.unusedSimpArgs false
set_option linter.unusedVariables false
theorem GA (a0 : List YQ) (a1 : Int) : Sa 75 [rL 5 YQ.row a0, rI a1] [rI (XV a0 a1)] := by
 have f := me (XV.eq_1 a0 a1)
 refine so Tryz.func75 Tryz.ntmps75 ?_
 refine cF f ?_ ?_ <;> intro k1 h1 f
 ·exact rt [.tmp 4] f
 exact rt [.tmp 4] f
theorem U1 (a0 : List ZN) (a1 : Int) : Sa 76 [rL 3 ZN.row a0, rI a1] [rI (Yf a0 a1)] := by
 have f := me (Yf.eq_1 a0 a1)
 refine so Tryz.func76 Tryz.ntmps76 ?_
 refine cF f ?_ ?_ <;> intro k1 h1 f
 ·exact rt [.tmp 4] f
 exact rt [.tmp 4] f
theorem P8 (a0 : List ZV) (a1 : Int) : Sa 77 [rL 4 ZV.row a0, rI a1] [rI (Ju a0 a1)] := by
 have f := me (Ju.eq_1 a0 a1)
 refine so Tryz.func77 Tryz.ntmps77 ?_
 refine cF f ?_ ?_ <;> intro k1 h1 f
 ·exact rt [.tmp 4] f
 exact rt [.tmp 4] f
theorem Lg (a0 : YJ) (a1 : Int) : Sa 23 [a0.row, rI a1] [rI (Zw a0 a1)] := by
 have f := me (Zw.eq_1 a0 a1)
 refine so Tryz.func23 Tryz.ntmps23 ?_
 refine cRs (GA a0.XE a1) ?_
 refine cF f ?_ ?_ <;> intro k1 h1 f
 ·exact rt [.tmp 4] f
 refine cRs (U1 a0.Zc (XV a0.XE a1)) ?_
 refine cF f ?_ ?_ <;> intro k2 h2 f
 ·exact rt [.tmp 4] f
 refine cRs (P8 a0.Methods (Yf a0.Zc (XV a0.XE a1))) ?_
 refine cF f ?_ ?_ <;> intro k3 h3 f
 ·exact rt [.tmp 4] f
 exact rt [.tmp 4] f
theorem LF (a0 : List Zz) (a1 : Int) : Sa 24 [rL 7 Zz.row a0, rI a1] [rI (YB a0 a1)] := by
 have f := me (YB.eq_1 a0 a1)
 refine so Tryz.func24 Tryz.ntmps24 ?_
 refine cF f ?_ ?_ <;> intro k1 h1 f
 ·exact rt [.tmp 4] f
 exact rt [.tmp 4] f
theorem zq (a0 : List Int) (a1 : Int) : Sa 25 [rL 1 iR a0, rI a1] [rI (Zi a0 a1)] := by
 have f := me (Zi.eq_1 a0 a1)
 refine so Tryz.func25 Tryz.ntmps25 ?_
 refine cF f ?_ ?_ <;> intro k1 h1 f
 ·exact rt [.tmp 4] f
 exact rt [.tmp 4] f
theorem PU (a0 : List ByteArray) (a1 : Int) : Sa 226 [rL 1 sR a0, rI a1] [rI (XF a0 a1)] := by
 have f := me (XF.eq_1 a0 a1)
 refine so Tryz.func226 Tryz.ntmps226 ?_
 refine cF f ?_ ?_ <;> intro k1 h1 f
 ·exact rt [.tmp 4] f
 refine lp2 (K9.eq_2 a0) (fun v1_0 v1_1 => YM 28 [eL 0 1 a0 sR, eI 1 v1_0, eI 5 (↑v1_1 : Int)]) (fun n1 v1_0 v1_1 => a0.length < n1 + v1_1 ∧ v1_1 ≤ a0.length) (a0.length + 1) (W (a1 - (↑a0.length : Int))) 0 (fun p1 v1_0 v1_1 e1 j1 => ?_)
 refine cFf e1 ?_ ?_ <;> intro k3 h2 e1
 ·have i1 := ix h2
  have m2 := ml a0 (k3 0 _ rfl)
  have w1 := wr v1_1
  simp [i1, ZD]
  repeat with_reducible refine sd ?_
  refine cF e1 ?_ ?_ <;> intro k4 h3 e1
  ·have f := ms f e1
   exact rt [.tmp 4] f
  exact ny2 w1 e1
 have f := ms f e1
 exact rt [.tmp 4] f
theorem Rj (a0 : ZR) (a1 : Int) : Sa 211 [a0.row, rI a1] [rI (Yp a0 a1)] := by
 have f := me (Yp.eq_1 a0 a1)
 refine so Tryz.func211 Tryz.ntmps211 ?_
 refine cRs (PU a0.ZE a1) ?_
 refine cF f ?_ ?_ <;> intro k1 h1 f
 ·exact rt [.tmp 4] f
 refine cRs (zq a0.ZG (XF a0.ZE a1)) ?_
 refine cF f ?_ ?_ <;> intro k2 h2 f
 ·exact rt [.tmp 4] f
 exact rt [.tmp 4] f
theorem LU (a0 : ZM) (a1 : Int) : Sa 235 [a0.row, rI a1] [rI (zu a0 a1)] := by
 have f := me (zu.eq_1 a0 a1)
 refine so Tryz.func235 Tryz.ntmps235 ?_
 refine cRs (zq a0.Yh a1) ?_
 refine cF f ?_ ?_ <;> intro k1 h1 f
 ·exact rt [.tmp 4] f
 exact rt [.tmp 4] f
theorem Nn (a0 : List ZM) (a1 : Int) : Sa 227 [rL 3 ZM.row a0, rI a1] [rI (Xl a0 a1)] := by
 have f := me (Xl.eq_1 a0 a1)
 refine so Tryz.func227 Tryz.ntmps227 ?_
 refine cF f ?_ ?_ <;> intro k1 h1 f
 ·exact rt [.tmp 4] f
 refine lp2 (yB.eq_2 a0) (fun v1_0 v1_1 => YM 27 [eL 0 3 a0 ZM.row, eI 1 v1_0, eI 5 (↑v1_1 : Int)]) (fun n1 v1_0 v1_1 => a0.length < n1 + v1_1 ∧ v1_1 ≤ a0.length) (a0.length + 1) (W (a1 - (↑a0.length : Int))) 0 (fun p1 v1_0 v1_1 e1 j1 => ?_)
 refine cFf e1 ?_ ?_ <;> intro k3 h2 e1
 ·have i1 := ix h2
  have m2 := ml a0 (k3 0 _ rfl)
  have w1 := wr v1_1
  simp [i1, ZD]
  repeat with_reducible refine sd ?_
  refine cRs (LU (nth a0 v1_1) v1_0) ?_
  refine cF e1 ?_ ?_ <;> intro k4 h3 e1
  ·have f := ms f e1
   exact rt [.tmp 4] f
  exact ny2 w1 e1
 have f := ms f e1
 exact rt [.tmp 4] f
theorem Ll (a0 : List Z4) (a1 : Int) : Sa 241 [rL 2 Z4.row a0, rI a1] [rI (QG a0 a1)] := by
 have f := me (QG.eq_1 a0 a1)
 refine so Tryz.func241 Tryz.ntmps241 ?_
 refine cF f ?_ ?_ <;> intro k1 h1 f
 ·exact rt [.tmp 4] f
 exact rt [.tmp 4] f
theorem NQ (a0 : List Za) (a1 : Int) : Sa 242 [rL 5 Za.row a0, rI a1] [rI (KO a0 a1)] := by
 have f := me (KO.eq_1 a0 a1)
 refine so Tryz.func242 Tryz.ntmps242 ?_
 refine cF f ?_ ?_ <;> intro k1 h1 f
 ·exact rt [.tmp 4] f
 exact rt [.tmp 4] f
theorem O1 (a0 : ZL) (a1 : Int) : Sa 236 [a0.row, rI a1] [rI (Js a0 a1)] := by
 have f := me (Js.eq_1 a0 a1)
 refine so Tryz.func236 Tryz.ntmps236 ?_
 refine cRs (Ll a0.Path a1) ?_
 refine cF f ?_ ?_ <;> intro k1 h1 f
 ·exact rt [.tmp 4] f
 refine cRs (NQ a0.Zu (QG a0.Path a1)) ?_
 refine cF f ?_ ?_ <;> intro k2 h2 f
 ·exact rt [.tmp 4] f
 exact rt [.tmp 4] f
theorem S9 (a0 : List ZL) (a1 : Int) : Sa 228 [rL 5 ZL.row a0, rI a1] [rI (Q0 a0 a1)] := by
 have f := me (Q0.eq_1 a0 a1)
 refine so Tryz.func228 Tryz.ntmps228 ?_
 refine cF f ?_ ?_ <;> intro k1 h1 f
 ·exact rt [.tmp 4] f
 refine lp2 (Kd.eq_2 a0) (fun v1_0 v1_1 => YM 27 [eL 0 5 a0 ZL.row, eI 1 v1_0, eI 5 (↑v1_1 : Int)]) (fun n1 v1_0 v1_1 => a0.length < n1 + v1_1 ∧ v1_1 ≤ a0.length) (a0.length + 1) (W (a1 - (↑a0.length : Int))) 0 (fun p1 v1_0 v1_1 e1 j1 => ?_)
 refine cFf e1 ?_ ?_ <;> intro k3 h2 e1
 ·have i1 := ix h2
  have m2 := ml a0 (k3 0 _ rfl)
  have w1 := wr v1_1
  simp [i1, ZD]
  repeat with_reducible refine sd ?_
  refine cRs (O1 (nth a0 v1_1) v1_0) ?_
  refine cF e1 ?_ ?_ <;> intro k4 h3 e1
  ·have f := ms f e1
   exact rt [.tmp 4] f
  exact ny2 w1 e1
 have f := ms f e1
 exact rt [.tmp 4] f
theorem Nt (a0 : Zf) (a1 : Int) : Sa 212 [a0.row, rI a1] [rI (JP a0 a1)] := by
 have f := me (JP.eq_1 a0 a1)
 refine so Tryz.func212 Tryz.ntmps212 ?_
 refine cRs (Nn a0.ZS a1) ?_
 refine cF f ?_ ?_ <;> intro k1 h1 f
 ·exact rt [.tmp 4] f
 refine cRs (S9 a0.Zj (Xl a0.ZS a1)) ?_
 refine cF f ?_ ?_ <;> intro k2 h2 f
 ·exact rt [.tmp 4] f
 exact rt [.tmp 4] f
theorem I8 (a0 : ZI) (a1 : Int) : Sa 183 [a0.row, rI a1] [rI (xE a0 a1)] := by
 have f := me (xE.eq_1 a0 a1)
 refine so Tryz.func183 Tryz.ntmps183 ?_
 refine cRs (Rj a0.Doc a1) ?_
 refine cF f ?_ ?_ <;> intro k1 h1 f
 ·exact rt [.tmp 4] f
 refine cRs (Nt a0.ZQ (Yp a0.Doc a1)) ?_
 refine cF f ?_ ?_ <;> intro k2 h2 f
 ·exact rt [.tmp 4] f
 exact rt [.tmp 4] f
theorem LW (a0 : List ZI) (a1 : Int) : Sa 140 [rL 16 ZI.row a0, rI a1] [rI (zx a0 a1)] := by
 have f := me (zx.eq_1 a0 a1)
 refine so Tryz.func140 Tryz.ntmps140 ?_
 refine cF f ?_ ?_ <;> intro k1 h1 f
 ·exact rt [.tmp 4] f
 refine lp2 (xJ.eq_2 a0) (fun v1_0 v1_1 => YM 27 [eL 0 16 a0 ZI.row, eI 1 v1_0, eI 5 (↑v1_1 : Int)]) (fun n1 v1_0 v1_1 => a0.length < n1 + v1_1 ∧ v1_1 ≤ a0.length) (a0.length + 1) (W (a1 - (↑a0.length : Int))) 0 (fun p1 v1_0 v1_1 e1 j1 => ?_)
 refine cFf e1 ?_ ?_ <;> intro k3 h2 e1
 ·have i1 := ix h2
  have m2 := ml a0 (k3 0 _ rfl)
  have w1 := wr v1_1
  simp [i1, ZD]
  repeat with_reducible refine sd ?_
  refine cRs (I8 (nth a0 v1_1) v1_0) ?_
  refine cF e1 ?_ ?_ <;> intro k4 h3 e1
  ·have f := ms f e1
   exact rt [.tmp 4] f
  exact ny2 w1 e1
 have f := ms f e1
 exact rt [.tmp 4] f
theorem PR (a0 : ZC) (a1 : Int) : Sa 78 [a0.row, rI a1] [rI (Jj a0 a1)] := by
 have f := me (Jj.eq_1 a0 a1)
 refine so Tryz.func78 Tryz.ntmps78 ?_
 refine cRs (LW a0.ZF a1) ?_
 refine cF f ?_ ?_ <;> intro k1 h1 f
 ·exact rt [.tmp 4] f
 exact rt [.tmp 4] f
theorem RV (a0 : List ZC) (a1 : Int) : Sa 26 [rL 2 ZC.row a0, rI a1] [rI (YC a0 a1)] := by
 have f := me (YC.eq_1 a0 a1)
 refine so Tryz.func26 Tryz.ntmps26 ?_
 refine cF f ?_ ?_ <;> intro k1 h1 f
 ·exact rt [.tmp 4] f
 refine lp2 (Kf.eq_2 a0) (fun v1_0 v1_1 => YM 27 [eL 0 2 a0 ZC.row, eI 1 v1_0, eI 5 (↑v1_1 : Int)]) (fun n1 v1_0 v1_1 => a0.length < n1 + v1_1 ∧ v1_1 ≤ a0.length) (a0.length + 1) (W (a1 - (↑a0.length : Int))) 0 (fun p1 v1_0 v1_1 e1 j1 => ?_)
 refine cFf e1 ?_ ?_ <;> intro k3 h2 e1
 ·have i1 := ix h2
  have m2 := ml a0 (k3 0 _ rfl)
  have w1 := wr v1_1
  simp [i1, ZD]
  repeat with_reducible refine sd ?_
  refine cRs (PR (nth a0 v1_1) v1_0) ?_
  refine cF e1 ?_ ?_ <;> intro k4 h3 e1
  ·have f := ms f e1
   exact rt [.tmp 4] f
  exact ny2 w1 e1
 have f := ms f e1
 exact rt [.tmp 4] f
theorem L2 (a0 : Ze) (a1 : Int) : Sa 7 [a0.row, rI a1] [rI (zf a0 a1)] := by
 have f := me (zf.eq_1 a0 a1)
 refine so Tryz.func7 Tryz.ntmps7 ?_
 refine cRs (Lg a0.Frame a1) ?_
 refine cF f ?_ ?_ <;> intro k1 h1 f
 ·exact rt [.tmp 4] f
 refine cRs (LF a0.Zy (Zw a0.Frame a1)) ?_
 refine cF f ?_ ?_ <;> intro k2 h2 f
 ·exact rt [.tmp 4] f
 refine cRs (zq a0.Z6 (YB a0.Zy (Zw a0.Frame a1))) ?_
 refine cF f ?_ ?_ <;> intro k3 h3 f
 ·exact rt [.tmp 4] f
 refine cRs (RV a0.ZH (Zi a0.Z6 (YB a0.Zy (Zw a0.Frame a1)))) ?_
 refine cF f ?_ ?_ <;> intro k4 h4 f
 ·exact rt [.tmp 4] f
 refine cRs (zq a0.XC (YC a0.ZH (Zi a0.Z6 (YB a0.Zy (Zw a0.Frame a1))))) ?_
 refine cF f ?_ ?_ <;> intro k5 h5 f
 ·exact rt [.tmp 4] f
 refine cRs (zq a0.Yq (Zi a0.XC (YC a0.ZH (Zi a0.Z6 (YB a0.Zy (Zw a0.Frame a1)))))) ?_
 refine cF f ?_ ?_ <;> intro k6 h6 f
 ·exact rt [.tmp 4] f
 refine cRs (zq a0.Ym (Zi a0.Yq (Zi a0.XC (YC a0.ZH (Zi a0.Z6 (YB a0.Zy (Zw a0.Frame a1))))))) ?_
 refine cF f ?_ ?_ <;> intro k7 h7 f
 ·exact rt [.tmp 4] f
 exact rt [.tmp 4] f
theorem Gu (a0 : YQ) : Sa 142 [a0.row] [(Rw a0).row] := by
 have f := me (Rw.eq_1 a0)
 refine so Tryz.func142 Tryz.ntmps142 ?_
 exact rt [.cell 2 118] f
theorem Ik (a0 : YQ) : Sa 142 [a0.row] [a0.row] := by
  have h := Gu a0
  rwa [Kj] at h
theorem Ix (a0 : List YQ) (u0 : Sm 2338816 a0) : Sd 82 [rL 5 YQ.row a0] [rL 5 YQ.row (OR a0)] := by
 have f := me (OR.eq_1 a0)
 have c1 := sl 2338816 a0 u0
 refine soD Tryz.func82 Tryz.ntmps82 ?_
 refine lp2 (kN.eq_2 a0) (fun v1_0 v1_1 => YM 23 [eL 0 5 a0 YQ.row, (3, .one (.sref 7 0 0 v1_1.length), []), eI 4 (↑v1_0 : Int), (7, .any, [.arr false 5 (v1_1.map YQ.row)])]) (fun n1 v1_0 v1_1 => a0.length < n1 + v1_0 ∧ v1_0 ≤ a0.length ∧ v1_1.length = a0.length) (a0.length + 1) 0 (List.replicate a0.length (YQ.mk 0 0 0 0 0)) (fun p1 v1_0 v1_1 e1 j1 => ?_)
 refine cFf e1 ?_ ?_ <;> intro k2 h1 e1
 ·have i1 := ix h1
  have m2 := ml a0 (k2 0 _ rfl)
  have w1 := wr v1_0
  simp [i1, ZD]
  repeat with_reducible refine sd ?_
  refine cR (Ik (nth a0 v1_0)) ?_
  have i2 := ik v1_0 v1_1
  simp [i2, ZD, Zq (x := (nth a0 v1_0)) rfl]
  repeat with_reducible refine sd ?_
  exact ny2 w1 e1
 have f := ms f e1
 exact rtD [.tmp 2] f
theorem IZ (a0 : List YQ) (u0 : Sm 2338816 a0) : Sd 82 [rL 5 YQ.row a0] [rL 5 YQ.row a0] := by
  have h := Ix a0 u0
  rwa [Jv] at h
theorem Tg (a0 : ZN) : Sa 143 [a0.row] [(xC a0).row] := by
 have f := me (xC.eq_1 a0)
 refine so Tryz.func143 Tryz.ntmps143 ?_
 exact rt [.cell 2 116] f
theorem US (a0 : ZN) : Sa 143 [a0.row] [a0.row] := by
  have h := Tg a0
  rwa [XW] at h
theorem Uc (a0 : List ZN) (u0 : Sm 2338816 a0) : Sd 83 [rL 3 ZN.row a0] [rL 3 ZN.row (qa a0)] := by
 have f := me (qa.eq_1 a0)
 have c1 := sl 2338816 a0 u0
 refine soD Tryz.func83 Tryz.ntmps83 ?_
 refine lp2 (K3.eq_2 a0) (fun v1_0 v1_1 => YM 23 [eL 0 3 a0 ZN.row, (3, .one (.sref 7 0 0 v1_1.length), []), eI 4 (↑v1_0 : Int), (7, .any, [.arr false 3 (v1_1.map ZN.row)])]) (fun n1 v1_0 v1_1 => a0.length < n1 + v1_0 ∧ v1_0 ≤ a0.length ∧ v1_1.length = a0.length) (a0.length + 1) 0 (List.replicate a0.length (ZN.mk 0 0 0)) (fun p1 v1_0 v1_1 e1 j1 => ?_)
 refine cFf e1 ?_ ?_ <;> intro k2 h1 e1
 ·have i1 := ix h1
  have m2 := ml a0 (k2 0 _ rfl)
  have w1 := wr v1_0
  simp [i1, ZD]
  repeat with_reducible refine sd ?_
  refine cR (US (nth a0 v1_0)) ?_
  have i2 := ik v1_0 v1_1
  simp [i2, ZD, Zq (x := (nth a0 v1_0)) rfl]
  repeat with_reducible refine sd ?_
  exact ny2 w1 e1
 have f := ms f e1
 exact rtD [.tmp 2] f
theorem UD (a0 : List ZN) (u0 : Sm 2338816 a0) : Sd 83 [rL 3 ZN.row a0] [rL 3 ZN.row a0] := by
  have h := Uc a0 u0
  rwa [XG] at h
theorem Nq (a0 : ZV) : Sa 144 [a0.row] [(kY a0).row] := by
 have f := me (kY.eq_1 a0)
 refine so Tryz.func144 Tryz.ntmps144 ?_
 exact rt [.cell 2 144] f
theorem P2 (a0 : ZV) : Sa 144 [a0.row] [a0.row] := by
  have h := Nq a0
  rwa [Qc] at h
theorem PQ (a0 : List ZV) (u0 : Sm 2338816 a0) : Sd 84 [rL 4 ZV.row a0] [rL 4 ZV.row (WZ a0)] := by
 have f := me (WZ.eq_1 a0)
 have c1 := sl 2338816 a0 u0
 refine soD Tryz.func84 Tryz.ntmps84 ?_
 refine lp2 (y2.eq_2 a0) (fun v1_0 v1_1 => YM 23 [eL 0 4 a0 ZV.row, (3, .one (.sref 7 0 0 v1_1.length), []), eI 4 (↑v1_0 : Int), (7, .any, [.arr false 4 (v1_1.map ZV.row)])]) (fun n1 v1_0 v1_1 => a0.length < n1 + v1_0 ∧ v1_0 ≤ a0.length ∧ v1_1.length = a0.length) (a0.length + 1) 0 (List.replicate a0.length (ZV.mk 0 0 0 0)) (fun p1 v1_0 v1_1 e1 j1 => ?_)
 refine cFf e1 ?_ ?_ <;> intro k2 h1 e1
 ·have i1 := ix h1
  have m2 := ml a0 (k2 0 _ rfl)
  have w1 := wr v1_0
  simp [i1, ZD]
  repeat with_reducible refine sd ?_
  refine cR (P2 (nth a0 v1_0)) ?_
  have i2 := ik v1_0 v1_1
  simp [i2, ZD, Zq (x := (nth a0 v1_0)) rfl]
  repeat with_reducible refine sd ?_
  exact ny2 w1 e1
 have f := ms f e1
 exact rtD [.tmp 2] f
theorem RX (a0 : List ZV) (u0 : Sm 2338816 a0) : Sd 84 [rL 4 ZV.row a0] [rL 4 ZV.row a0] := by
  have h := PQ a0 u0
  rwa [QD] at h
theorem LD (a0 : YJ) (u0 : Sm 2334720 a0) : Sd 30 [a0.row] [(VN a0).row] := by
 have f := me (VN.eq_1 a0)
 refine soD Tryz.func30 Tryz.ntmps30 ?_
 refine cDs [false] (IZ a0.XE (sg (YJ.D6 u0))) ?_
 refine cDs [false] (UD a0.Zc (sg (YJ.PC u0))) ?_
 refine cDs [false] (RX a0.Methods (sg (YJ.Pk u0))) ?_
 exact rtD [.cell 2 37] f
theorem NH (a0 : YJ) (u0 : Sm 2334720 a0) : Sd 30 [a0.row] [a0.row] := by
  have h := LD a0 u0
  rwa [Qz] at h
theorem Hh (a0 : Zz) : Sa 85 [a0.row] [(TH a0).row] := by
 have f := me (TH.eq_1 a0)
 refine so Tryz.func85 Tryz.ntmps85 ?_
 exact rt [.cell 2 133] f
theorem LO (a0 : Zz) : Sa 85 [a0.row] [a0.row] := by
  have h := Hh a0
  rwa [Jn] at h
theorem L7 (a0 : List Zz) (u0 : Sm 2338816 a0) : Sd 31 [rL 7 Zz.row a0] [rL 7 Zz.row (SJ a0)] := by
 have f := me (SJ.eq_1 a0)
 have c1 := sl 2338816 a0 u0
 refine soD Tryz.func31 Tryz.ntmps31 ?_
 refine lp2 (jH.eq_2 a0) (fun v1_0 v1_1 => YM 23 [eL 0 7 a0 Zz.row, (3, .one (.sref 7 0 0 v1_1.length), []), eI 4 (↑v1_0 : Int), (7, .any, [.arr false 7 (v1_1.map Zz.row)])]) (fun n1 v1_0 v1_1 => a0.length < n1 + v1_0 ∧ v1_0 ≤ a0.length ∧ v1_1.length = a0.length) (a0.length + 1) 0 (List.replicate a0.length (Zz.mk 0 0 0 0 0 0 0)) (fun p1 v1_0 v1_1 e1 j1 => ?_)
 refine cFf e1 ?_ ?_ <;> intro k2 h1 e1
 ·have i1 := ix h1
  have m2 := ml a0 (k2 0 _ rfl)
  have w1 := wr v1_0
  simp [i1, ZD]
  repeat with_reducible refine sd ?_
  refine cR (LO (nth a0 v1_0)) ?_
  have i2 := ik v1_0 v1_1
  simp [i2, ZD, Zq (x := (nth a0 v1_0)) rfl]
  repeat with_reducible refine sd ?_
  exact ny2 w1 e1
 have f := ms f e1
 exact rtD [.tmp 2] f
theorem Nf (a0 : List Zz) (u0 : Sm 2338816 a0) : Sd 31 [rL 7 Zz.row a0] [rL 7 Zz.row a0] := by
  have h := L7 a0 u0
  rwa [Q9] at h
theorem I3 (a0 : List Int) (u0 : Sm 2342912 a0) : Sd 19 [rL 1 iR a0] [rL 1 iR (P9 a0)] := by
 have f := me (P9.eq_1 a0)
 have c1 := sl 2342912 a0 u0
 refine soD Tryz.func19 Tryz.ntmps19 ?_
 refine lp2 (kF.eq_2 a0) (fun v1_0 v1_1 => YM 22 [eL 0 1 a0 iR, (3, .one (.sref 7 0 0 v1_1.length), []), eI 4 (↑v1_0 : Int), (7, .any, [.arr false 1 (v1_1.map iR)])]) (fun n1 v1_0 v1_1 => a0.length < n1 + v1_0 ∧ v1_0 ≤ a0.length ∧ v1_1.length = a0.length) (a0.length + 1) 0 (List.replicate a0.length 0) (fun p1 v1_0 v1_1 e1 j1 => ?_)
 refine cFf e1 ?_ ?_ <;> intro k2 h1 e1
 ·have i1 := ix h1
  have m2 := ml a0 (k2 0 _ rfl)
  have w1 := wr v1_0
  have i2 := ik v1_0 v1_1
  simp [i1, ZD, i2, Zq (x := (nth a0 v1_0)) rfl]
  repeat with_reducible refine sd ?_
  exact ny2 w1 e1
 have f := ms f e1
 exact rtD [.tmp 2] f
theorem Kp (a0 : List Int) (u0 : Sm 2342912 a0) : Sd 19 [rL 1 iR a0] [rL 1 iR a0] := by
  have h := I3 a0 u0
  rwa [Jt] at h
theorem PL (a0 : List ByteArray) (u0 : Sm 2342912 a0) : Sd 229 [rL 1 sR a0] [rL 1 sR (Wb a0)] := by
 have f := me (Wb.eq_1 a0)
 have c1 := sl 2342912 a0 u0
 refine soD Tryz.func229 Tryz.ntmps229 ?_
 refine lp2 (y4.eq_2 a0) (fun v1_0 v1_1 => YM 22 [eL 0 1 a0 sR, (3, .one (.sref 7 0 0 v1_1.length), []), eI 4 (↑v1_0 : Int), (7, .any, [.arr false 1 (v1_1.map sR)])]) (fun n1 v1_0 v1_1 => a0.length < n1 + v1_0 ∧ v1_0 ≤ a0.length ∧ v1_1.length = a0.length) (a0.length + 1) 0 (List.replicate a0.length (⟨#[]⟩ : ByteArray)) (fun p1 v1_0 v1_1 e1 j1 => ?_)
 refine cFf e1 ?_ ?_ <;> intro k2 h1 e1
 ·have i1 := ix h1
  have m2 := ml a0 (k2 0 _ rfl)
  have w1 := wr v1_0
  have i2 := ik v1_0 v1_1
  simp [i1, ZD, i2, Zq (x := (nth a0 v1_0)) rfl]
  repeat with_reducible refine sd ?_
  exact ny2 w1 e1
 have f := ms f e1
 exact rtD [.tmp 2] f
theorem RK (a0 : List ByteArray) (u0 : Sm 2342912 a0) : Sd 229 [rL 1 sR a0] [rL 1 sR a0] := by
  have h := PL a0 u0
  rwa [QE] at h
theorem RS (a0 : ZR) (u0 : Sm 2338816 a0) : Sd 213 [a0.row] [(xp a0).row] := by
 have f := me (xp.eq_1 a0)
 refine soD Tryz.func213 Tryz.ntmps213 ?_
 refine cDs [false] (RK a0.ZE (sg (ZR.TS u0))) ?_
 refine cDs [false] (Kp a0.ZG (sg (ZR.Ok u0))) ?_
 exact rtD [.cell 2 88] f
theorem T7 (a0 : ZR) (u0 : Sm 2338816 a0) : Sd 213 [a0.row] [a0.row] := by
  have h := RS a0 u0
  rwa [Xv] at h
theorem Ty (a0 : Zb) : Sa 214 [a0.row] [(y9 a0).row] := by
 have f := me (y9.eq_1 a0)
 refine so Tryz.func214 Tryz.ntmps214 ?_
 exact rt [.cell 2 90] f
theorem U3 (a0 : Zb) : Sa 214 [a0.row] [a0.row] := by
  have h := Ty a0
  rwa [XU] at h
theorem Li (a0 : ZM) (u0 : Sm 2338816 a0) : Sd 237 [a0.row] [(VL a0).row] := by
 have f := me (VL.eq_1 a0)
 refine soD Tryz.func237 Tryz.ntmps237 ?_
 refine cDs [false] (Kp a0.Yh (sg (ZM.FA u0))) ?_
 exact rtD [.cell 2 187] f
theorem Ng (a0 : ZM) (u0 : Sm 2338816 a0) : Sd 237 [a0.row] [a0.row] := by
  have h := Li a0 u0
  rwa [JJ] at h
theorem N6 (a0 : List ZM) (u0 : Sm 2334720 a0) : Sd 230 [rL 3 ZM.row a0] [rL 3 ZM.row (V5 a0)] := by
 have f := me (V5.eq_1 a0)
 refine soD Tryz.func230 Tryz.ntmps230 ?_
 have c1 := sl 2334720 a0 u0
 refine D9 (n := a0.length) rfl rfl rfl rfl rfl rfl (by simp) (by simp) (by simp; omega) (by omega) ?_
 simp
 refine lp2 (xn.eq_2 a0) (fun v1_0 v1_1 => YM 23 [eL 0 3 a0 ZM.row, (3, .one (.sref 7 0 0 v1_1.length), []), eI 4 (↑v1_0 : Int), (7, .any, [.arr true 3 (v1_1.map ZM.row)])]) (fun n1 v1_0 v1_1 => a0.length < n1 + v1_0 ∧ v1_0 ≤ a0.length ∧ v1_1.length = a0.length) (a0.length + 1) 0 (List.replicate a0.length (ZM.mk 0 ([] : List Int) 0)) (fun p1 v1_0 v1_1 e1 j1 => ?_)
 refine cFf e1 ?_ ?_ <;> intro k2 h1 e1
 ·have i1 := ix h1
  have m2 := ml a0 (k2 0 _ rfl)
  have w1 := wr v1_0
  simp [i1, ZD]
  repeat with_reducible refine sd ?_
  have i2 := ik v1_0 v1_1
  refine cDf i2 [true, false] (Ng (nth a0 v1_0) (sg (Yl u0))) ?_
  refine Hv (t := 7) (j := 0) (i := v1_0) (size := 3) (rows := (v1_1.map ZM.row)) (ds := (nth a0 v1_0).row) (L := [(20, 1)]) rfl rfl rfl rfl (by simp) (by simp) (by simp; try omega) (by simp) (by simp) (by simp) (by simp) (by simp) (by simp) ?_
  simp [Zq (x := (nth a0 v1_0)) rfl, i2, ZD, Zh]
  repeat with_reducible refine sd ?_
  exact ny2 w1 e1
 have f := ms f e1
 exact rtD [.tmp 2] f
theorem P0 (a0 : List ZM) (u0 : Sm 2334720 a0) : Sd 230 [rL 3 ZM.row a0] [rL 3 ZM.row a0] := by
  have h := N6 a0 u0
  rwa [QZ] at h
theorem Hb (a0 : Z4) : Sa 247 [a0.row] [(UR a0).row] := by
 have f := me (UR.eq_1 a0)
 refine so Tryz.func247 Tryz.ntmps247 ?_
 exact rt [.cell 2 189] f
theorem M8 (a0 : Z4) : Sa 247 [a0.row] [a0.row] := by
  have h := Hb a0
  rwa [Jm] at h
theorem Lx (a0 : List Z4) (u0 : Sm 2338816 a0) : Sd 243 [rL 2 Z4.row a0] [rL 2 Z4.row (Th a0)] := by
 have f := me (Th.eq_1 a0)
 have c1 := sl 2338816 a0 u0
 refine soD Tryz.func243 Tryz.ntmps243 ?_
 refine lp2 (jB.eq_2 a0) (fun v1_0 v1_1 => YM 23 [eL 0 2 a0 Z4.row, (3, .one (.sref 7 0 0 v1_1.length), []), eI 4 (↑v1_0 : Int), (7, .any, [.arr false 2 (v1_1.map Z4.row)])]) (fun n1 v1_0 v1_1 => a0.length < n1 + v1_0 ∧ v1_0 ≤ a0.length ∧ v1_1.length = a0.length) (a0.length + 1) 0 (List.replicate a0.length (Z4.mk 0 false)) (fun p1 v1_0 v1_1 e1 j1 => ?_)
 refine cFf e1 ?_ ?_ <;> intro k2 h1 e1
 ·have i1 := ix h1
  have m2 := ml a0 (k2 0 _ rfl)
  have w1 := wr v1_0
  simp [i1, ZD]
  repeat with_reducible refine sd ?_
  refine cR (M8 (nth a0 v1_0)) ?_
  have i2 := ik v1_0 v1_1
  simp [i2, ZD, Zq (x := (nth a0 v1_0)) rfl]
  repeat with_reducible refine sd ?_
  exact ny2 w1 e1
 have f := ms f e1
 exact rtD [.tmp 2] f
theorem N9 (a0 : List Z4) (u0 : Sm 2338816 a0) : Sd 243 [rL 2 Z4.row a0] [rL 2 Z4.row a0] := by
  have h := Lx a0 u0
  rwa [JB] at h
theorem IV (a0 : Za) : Sa 248 [a0.row] [(VK a0).row] := by
 have f := me (VK.eq_1 a0)
 refine so Tryz.func248 Tryz.ntmps248 ?_
 exact rt [.cell 2 98] f
theorem NR (a0 : Za) : Sa 248 [a0.row] [a0.row] := by
  have h := IV a0
  rwa [Q6] at h
theorem Nm (a0 : List Za) (u0 : Sm 2338816 a0) : Sd 244 [rL 5 Za.row a0] [rL 5 Za.row (UB a0)] := by
 have f := me (UB.eq_1 a0)
 have c1 := sl 2338816 a0 u0
 refine soD Tryz.func244 Tryz.ntmps244 ?_
 refine lp2 (xt.eq_2 a0) (fun v1_0 v1_1 => YM 23 [eL 0 5 a0 Za.row, (3, .one (.sref 7 0 0 v1_1.length), []), eI 4 (↑v1_0 : Int), (7, .any, [.arr false 5 (v1_1.map Za.row)])]) (fun n1 v1_0 v1_1 => a0.length < n1 + v1_0 ∧ v1_0 ≤ a0.length ∧ v1_1.length = a0.length) (a0.length + 1) 0 (List.replicate a0.length (Za.mk 0 0 0 0 0)) (fun p1 v1_0 v1_1 e1 j1 => ?_)
 refine cFf e1 ?_ ?_ <;> intro k2 h1 e1
 ·have i1 := ix h1
  have m2 := ml a0 (k2 0 _ rfl)
  have w1 := wr v1_0
  simp [i1, ZD]
  repeat with_reducible refine sd ?_
  refine cR (NR (nth a0 v1_0)) ?_
  have i2 := ik v1_0 v1_1
  simp [i2, ZD, Zq (x := (nth a0 v1_0)) rfl]
  repeat with_reducible refine sd ?_
  exact ny2 w1 e1
 have f := ms f e1
 exact rtD [.tmp 2] f
theorem OZ (a0 : List Za) (u0 : Sm 2338816 a0) : Sd 244 [rL 5 Za.row a0] [rL 5 Za.row a0] := by
  have h := Nm a0 u0
  rwa [Qd] at h
theorem OW (a0 : ZL) (u0 : Sm 2334720 a0) : Sd 238 [a0.row] [(qz a0).row] := by
 have f := me (qz.eq_1 a0)
 refine soD Tryz.func238 Tryz.ntmps238 ?_
 refine cDs [false] (N9 a0.Path (sg (ZL.D1 u0))) ?_
 refine cDs [false] (OZ a0.Zu (sg (ZL.M4 u0))) ?_
 exact rtD [.cell 2 96] f
theorem Ra (a0 : ZL) (u0 : Sm 2334720 a0) : Sd 238 [a0.row] [a0.row] := by
  have h := OW a0 u0
  rwa [QA] at h
theorem Rf (a0 : List ZL) (u0 : Sm 2330624 a0) : Sd 231 [rL 5 ZL.row a0] [rL 5 ZL.row (ka a0)] := by
 have f := me (ka.eq_1 a0)
 refine soD Tryz.func231 Tryz.ntmps231 ?_
 have c1 := sl 2330624 a0 u0
 refine D9 (n := a0.length) rfl rfl rfl rfl rfl rfl (by simp) (by simp) (by simp; omega) (by omega) ?_
 simp
 refine lp2 (yW.eq_2 a0) (fun v1_0 v1_1 => YM 23 [eL 0 5 a0 ZL.row, (3, .one (.sref 7 0 0 v1_1.length), []), eI 4 (↑v1_0 : Int), (7, .any, [.arr true 5 (v1_1.map ZL.row)])]) (fun n1 v1_0 v1_1 => a0.length < n1 + v1_0 ∧ v1_0 ≤ a0.length ∧ v1_1.length = a0.length) (a0.length + 1) 0 (List.replicate a0.length (ZL.mk 0 0 0 ([] : List Z4) ([] : List Za))) (fun p1 v1_0 v1_1 e1 j1 => ?_)
 refine cFf e1 ?_ ?_ <;> intro k2 h1 e1
 ·have i1 := ix h1
  have m2 := ml a0 (k2 0 _ rfl)
  have w1 := wr v1_0
  simp [i1, ZD]
  repeat with_reducible refine sd ?_
  have i2 := ik v1_0 v1_1
  refine cDf i2 [true, true, true, false, false] (Ra (nth a0 v1_0) (sg (Yl u0))) ?_
  refine Hv (t := 7) (j := 0) (i := v1_0) (size := 5) (rows := (v1_1.map ZL.row)) (ds := (nth a0 v1_0).row) (L := [(20, 3), (20, 4)]) rfl rfl rfl rfl (by simp) (by simp) (by simp; try omega) (by simp) (by simp) (by simp) (by simp) (by simp) (by simp) ?_
  simp [Zq (x := (nth a0 v1_0)) rfl, i2, ZD, Zh]
  repeat with_reducible refine sd ?_
  exact ny2 w1 e1
 have f := ms f e1
 exact rtD [.tmp 2] f
theorem Tc (a0 : List ZL) (u0 : Sm 2330624 a0) : Sd 231 [rL 5 ZL.row a0] [rL 5 ZL.row a0] := by
  have h := Rf a0 u0
  rwa [Xy] at h
theorem NG (a0 : Zf) (u0 : Sm 2326528 a0) : Sd 215 [a0.row] [(kj a0).row] := by
 have f := me (kj.eq_1 a0)
 refine soD Tryz.func215 Tryz.ntmps215 ?_
 refine cDs [] (P0 a0.ZS (sg (Zf.jt u0))) ?_
 refine cDs [] (Tc a0.Zj (sg (Zf.Wh u0))) ?_
 exact rtD [.cell 2 85] f
theorem Pb (a0 : Zf) (u0 : Sm 2326528 a0) : Sd 215 [a0.row] [a0.row] := by
  have h := NG a0 u0
  rwa [QW] at h
theorem HV (a0 : ZI) (u0 : Sm 2322432 a0) : Sd 184 [a0.row] [(Ui a0).row] := by
 have f := me (Ui.eq_1 a0)
 refine soD Tryz.func184 Tryz.ntmps184 ?_
 refine cDs [true, false, false] (T7 a0.Doc (sg (ZI.TU u0))) ?_
 refine cRs (U3 a0.Sig) ?_
 refine cDs [] (Pb a0.ZQ (sg (ZI.yp u0))) ?_
 exact rtD [.cell 2 92] f
theorem Lb (a0 : ZI) (u0 : Sm 2322432 a0) : Sd 184 [a0.row] [a0.row] := by
  have h := HV a0 u0
  rwa [Jw] at h
theorem ID (a0 : List ZI) (u0 : Sm 2318336 a0) : Sd 145 [rL 16 ZI.row a0] [rL 16 ZI.row (T2 a0)] := by
 have f := me (T2.eq_1 a0)
 refine soD Tryz.func145 Tryz.ntmps145 ?_
 have c1 := sl 2318336 a0 u0
 refine D9 (n := a0.length) rfl rfl rfl rfl rfl rfl (by simp) (by simp) (by simp; omega) (by omega) ?_
 simp
 refine lp2 (jM.eq_2 a0) (fun v1_0 v1_1 => YM 23 [eL 0 16 a0 ZI.row, (3, .one (.sref 7 0 0 v1_1.length), []), eI 4 (↑v1_0 : Int), (7, .any, [.arr true 16 (v1_1.map ZI.row)])]) (fun n1 v1_0 v1_1 => a0.length < n1 + v1_0 ∧ v1_0 ≤ a0.length ∧ v1_1.length = a0.length) (a0.length + 1) 0 (List.replicate a0.length (ZI.mk 0 0 (ZR.mk 0 ([] : List ByteArray) ([] : List Int)) (Zb.mk 0 0 0 0 0 0 0 0 0) (Zf.mk ([] : List ZM) ([] : List ZL)))) (fun p1 v1_0 v1_1 e1 j1 => ?_)
 refine cFf e1 ?_ ?_ <;> intro k2 h1 e1
 ·have i1 := ix h1
  have m2 := ml a0 (k2 0 _ rfl)
  have w1 := wr v1_0
  simp [i1, ZD]
  repeat with_reducible refine sd ?_
  have i2 := ik v1_0 v1_1
  refine cDf i2 [true, true, true, false, false] (Lb (nth a0 v1_0) (sg (Yl u0))) ?_
  refine Hv (t := 7) (j := 0) (i := v1_0) (size := 16) (rows := (v1_1.map ZI.row)) (ds := (nth a0 v1_0).row) (L := [(20, 3), (20, 4), (20, 14), (20, 15)]) rfl rfl rfl rfl (by simp) (by simp) (by simp; try omega) (by simp) (by simp) (by simp) (by simp) (by simp) (by simp) ?_
  simp [Zq (x := (nth a0 v1_0)) rfl, i2, ZD, Zh]
  repeat with_reducible refine sd ?_
  exact ny2 w1 e1
 have f := ms f e1
 exact rtD [.tmp 2] f
theorem Nc (a0 : List ZI) (u0 : Sm 2318336 a0) : Sd 145 [rL 16 ZI.row a0] [rL 16 ZI.row a0] := by
  have h := ID a0 u0
  rwa [JE] at h
theorem O4 (a0 : ZC) (u0 : Sm 2314240 a0) : Sd 86 [a0.row] [(jI a0).row] := by
 have f := me (jI.eq_1 a0)
 refine soD Tryz.func86 Tryz.ntmps86 ?_
 refine cDs [] (Nc a0.ZF (sg (ZC.YW u0))) ?_
 exact rtD [.cell 2 64] f
theorem Rp (a0 : ZC) (u0 : Sm 2314240 a0) : Sd 86 [a0.row] [a0.row] := by
  have h := O4 a0 u0
  rwa [QB] at h
theorem RC (a0 : List ZC) (u0 : Sm 2310144 a0) : Sd 32 [rL 2 ZC.row a0] [rL 2 ZC.row (kd a0)] := by
 have f := me (kd.eq_1 a0)
 refine soD Tryz.func32 Tryz.ntmps32 ?_
 have c1 := sl 2310144 a0 u0
 refine D9 (n := a0.length) rfl rfl rfl rfl rfl rfl (by simp) (by simp) (by simp; omega) (by omega) ?_
 simp
 refine lp2 (zy.eq_2 a0) (fun v1_0 v1_1 => YM 23 [eL 0 2 a0 ZC.row, (3, .one (.sref 7 0 0 v1_1.length), []), eI 4 (↑v1_0 : Int), (7, .any, [.arr true 2 (v1_1.map ZC.row)])]) (fun n1 v1_0 v1_1 => a0.length < n1 + v1_0 ∧ v1_0 ≤ a0.length ∧ v1_1.length = a0.length) (a0.length + 1) 0 (List.replicate a0.length (ZC.mk 0 ([] : List ZI))) (fun p1 v1_0 v1_1 e1 j1 => ?_)
 refine cFf e1 ?_ ?_ <;> intro k2 h1 e1
 ·have i1 := ix h1
  have m2 := ml a0 (k2 0 _ rfl)
  have w1 := wr v1_0
  simp [i1, ZD]
  repeat with_reducible refine sd ?_
  have i2 := ik v1_0 v1_1
  refine cDf i2 [] (Rp (nth a0 v1_0) (sg (Yl u0))) ?_
  refine Hv (t := 7) (j := 0) (i := v1_0) (size := 2) (rows := (v1_1.map ZC.row)) (ds := (nth a0 v1_0).row) (L := [(20, 1)]) rfl rfl rfl rfl (by simp) (by simp) (by simp; try omega) (by simp) (by simp) (by simp) (by simp) (by simp) (by simp) ?_
  simp [Zq (x := (nth a0 v1_0)) rfl, i2, ZD, Zh]
  repeat with_reducible refine sd ?_
  exact ny2 w1 e1
 have f := ms f e1
 exact rtD [.tmp 2] f
theorem Tu (a0 : List ZC) (u0 : Sm 2310144 a0) : Sd 32 [rL 2 ZC.row a0] [rL 2 ZC.row a0] := by
  have h := RC a0 u0
  rwa [Xx] at h
theorem LJ (a0 : Ze) (u0 : Sm 2306048 a0) : Sd 9 [a0.row] [(VC a0).row] := by
 have f := me (VC.eq_1 a0)
 refine soD Tryz.func9 Tryz.ntmps9 ?_
 refine cDs [false, false, false] (NH a0.Frame (sg (Ze.PH u0))) ?_
 refine cDs [false] (Nf a0.Zy (sg (Ze.DU u0))) ?_
 refine cDs [false] (Kp a0.Z6 (sg (Ze.H4 u0))) ?_
 refine cDs [] (Tu a0.ZH (sg (Ze.Jo u0))) ?_
 refine cDs [false] (Kp a0.XC (sg (Ze.G6 u0))) ?_
 refine cDs [false] (Kp a0.Yq (sg (Ze.H6 u0))) ?_
 refine cDs [false] (Kp a0.Ym (sg (Ze.M5 u0))) ?_
 exact rtD [.cell 2 41] f
theorem yx (a0 : Ze) (u0 : Sm 2306048 a0) : Sd 9 [a0.row] [a0.row] := by
  have h := LJ a0 u0
  rwa [JA] at h
theorem Gt (a0 : YQ) (a1 : YQ) : Sa 147 [a0.row, a1.row] [rB (VO a0 a1)] := by
 have f := me (VO.eq_1 a0 a1)
 refine so Tryz.func147 Tryz.ntmps147 ?_
 refine cF f ?_ ?_ <;> intro k1 h1 f
 ·exact rt [.tmp 4] f
 refine cF f ?_ ?_ <;> intro k2 h2 f
 ·exact rt [.tmp 4] f
 refine cF f ?_ ?_ <;> intro k3 h3 f
 ·exact rt [.tmp 4] f
 refine cF f ?_ ?_ <;> intro k4 h4 f
 ·exact rt [.tmp 4] f
 refine cF f ?_ ?_ <;> intro k5 h5 f
 ·exact rt [.tmp 4] f
 exact rt [.tmp 4] f
theorem Ir (a0 : List YQ) (a1 : List YQ) : Sa 91 [rL 5 YQ.row a0, rL 5 YQ.row a1] [rB (We a0 a1)] := by
 have f := me (We.eq_1 a0 a1)
 refine so Tryz.func91 Tryz.ntmps91 ?_
 refine cF f ?_ ?_ <;> intro k1 h1 f
 ·exact rt [.tmp 4] f
 refine lp1 (ko.eq_2 a0 a1) (fun v1_0 => YM 27 [eL 0 5 a0 YQ.row, eL 1 5 a1 YQ.row, eI 5 (↑v1_0 : Int)]) (fun n1 v1_0 => a0.length < n1 + v1_0 ∧ v1_0 ≤ a0.length) (a0.length + 1) 0 (fun p1 v1_0 e1 j1 => ?_)
 refine cF e1 ?_ ?_ <;> intro k3 h2 e1
 ·have i1 := ix h2
  have m2 := ml a0 (k3 0 _ rfl)
  have w1 := wr v1_0
  refine dIo mixed ?_
  have i2 := ik v1_0 a1
  simp [i1, ZD, i2]
  repeat with_reducible refine sd ?_
  refine cRs (Gt (nth a0 v1_0) (nth a1 v1_0)) ?_
  refine cF e1 ?_ ?_ <;> intro k5 h3 e1
  ·have f := ms f e1
   exact rt [.tmp 4] f
  exact ny1 w1 e1
 have f := ms f e1
 exact rt [.tmp 4] f
theorem Tr (a0 : ZN) (a1 : ZN) : Sa 148 [a0.row, a1.row] [rB (KG a0 a1)] := by
 have f := me (KG.eq_1 a0 a1)
 refine so Tryz.func148 Tryz.ntmps148 ?_
 refine cF f ?_ ?_ <;> intro k1 h1 f
 ·exact rt [.tmp 4] f
 refine cF f ?_ ?_ <;> intro k2 h2 f
 ·exact rt [.tmp 4] f
 refine cF f ?_ ?_ <;> intro k3 h3 f
 ·exact rt [.tmp 4] f
 exact rt [.tmp 4] f
theorem Uk (a0 : List ZN) (a1 : List ZN) : Sa 92 [rL 3 ZN.row a0, rL 3 ZN.row a1] [rB (KX a0 a1)] := by
 have f := me (KX.eq_1 a0 a1)
 refine so Tryz.func92 Tryz.ntmps92 ?_
 refine cF f ?_ ?_ <;> intro k1 h1 f
 ·exact rt [.tmp 4] f
 refine lp1 (Ko.eq_2 a0 a1) (fun v1_0 => YM 27 [eL 0 3 a0 ZN.row, eL 1 3 a1 ZN.row, eI 5 (↑v1_0 : Int)]) (fun n1 v1_0 => a0.length < n1 + v1_0 ∧ v1_0 ≤ a0.length) (a0.length + 1) 0 (fun p1 v1_0 e1 j1 => ?_)
 refine cF e1 ?_ ?_ <;> intro k3 h2 e1
 ·have i1 := ix h2
  have m2 := ml a0 (k3 0 _ rfl)
  have w1 := wr v1_0
  refine dIo mixed ?_
  have i2 := ik v1_0 a1
  simp [i1, ZD, i2]
  repeat with_reducible refine sd ?_
  refine cRs (Tr (nth a0 v1_0) (nth a1 v1_0)) ?_
  refine cF e1 ?_ ?_ <;> intro k5 h3 e1
  ·have f := ms f e1
   exact rt [.tmp 4] f
  exact ny1 w1 e1
 have f := ms f e1
 exact rt [.tmp 4] f
theorem Nh (a0 : ZV) (a1 : ZV) : Sa 149 [a0.row, a1.row] [rB (yi a0 a1)] := by
 have f := me (yi.eq_1 a0 a1)
 refine so Tryz.func149 Tryz.ntmps149 ?_
 refine cF f ?_ ?_ <;> intro k1 h1 f
 ·exact rt [.tmp 4] f
 refine cF f ?_ ?_ <;> intro k2 h2 f
 ·exact rt [.tmp 4] f
 refine cF f ?_ ?_ <;> intro k3 h3 f
 ·exact rt [.tmp 4] f
 refine cF f ?_ ?_ <;> intro k4 h4 f
 ·exact rt [.tmp 4] f
 exact rt [.tmp 4] f
theorem Oy (a0 : List ZV) (a1 : List ZV) : Sa 93 [rL 4 ZV.row a0, rL 4 ZV.row a1] [rB (xR a0 a1)] := by
 have f := me (xR.eq_1 a0 a1)
 refine so Tryz.func93 Tryz.ntmps93 ?_
 refine cF f ?_ ?_ <;> intro k1 h1 f
 ·exact rt [.tmp 4] f
 refine lp1 (yy.eq_2 a0 a1) (fun v1_0 => YM 27 [eL 0 4 a0 ZV.row, eL 1 4 a1 ZV.row, eI 5 (↑v1_0 : Int)]) (fun n1 v1_0 => a0.length < n1 + v1_0 ∧ v1_0 ≤ a0.length) (a0.length + 1) 0 (fun p1 v1_0 e1 j1 => ?_)
 refine cF e1 ?_ ?_ <;> intro k3 h2 e1
 ·have i1 := ix h2
  have m2 := ml a0 (k3 0 _ rfl)
  have w1 := wr v1_0
  refine dIo mixed ?_
  have i2 := ik v1_0 a1
  simp [i1, ZD, i2]
  repeat with_reducible refine sd ?_
  refine cRs (Nh (nth a0 v1_0) (nth a1 v1_0)) ?_
  refine cF e1 ?_ ?_ <;> intro k5 h3 e1
  ·have f := ms f e1
   exact rt [.tmp 4] f
  exact ny1 w1 e1
 have f := ms f e1
 exact rt [.tmp 4] f
theorem IM (a0 : YJ) (a1 : YJ) : Sa 36 [a0.row, a1.row] [rB (ju a0 a1)] := by
 have f := me (ju.eq_1 a0 a1)
 refine so Tryz.func36 Tryz.ntmps36 ?_
 refine cRs (Ir a0.XE a1.XE) ?_
 refine cF f ?_ ?_ <;> intro k1 h1 f
 ·exact rt [.tmp 4] f
 refine cRs (Uk a0.Zc a1.Zc) ?_
 refine cF f ?_ ?_ <;> intro k2 h2 f
 ·exact rt [.tmp 4] f
 refine cRs (Oy a0.Methods a1.Methods) ?_
 refine cF f ?_ ?_ <;> intro k3 h3 f
 ·exact rt [.tmp 4] f
 refine cF f ?_ ?_ <;> intro k4 h4 f
 ·exact rt [.tmp 4] f
 refine cF f ?_ ?_ <;> intro k5 h5 f
 ·exact rt [.tmp 4] f
 exact rt [.tmp 4] f
theorem HA (a0 : Zz) (a1 : Zz) : Sa 94 [a0.row, a1.row] [rB (kB a0 a1)] := by
 have f := me (kB.eq_1 a0 a1)
 refine so Tryz.func94 Tryz.ntmps94 ?_
 refine cF f ?_ ?_ <;> intro k1 h1 f
 ·exact rt [.tmp 4] f
 refine cF f ?_ ?_ <;> intro k2 h2 f
 ·exact rt [.tmp 4] f
 refine cF f ?_ ?_ <;> intro k3 h3 f
 ·exact rt [.tmp 4] f
 refine cF f ?_ ?_ <;> intro k4 h4 f
 ·exact rt [.tmp 4] f
 refine cF f ?_ ?_ <;> intro k5 h5 f
 ·exact rt [.tmp 4] f
 refine cF f ?_ ?_ <;> intro k6 h6 f
 ·exact rt [.tmp 4] f
 refine cF f ?_ ?_ <;> intro k7 h7 f
 ·exact rt [.tmp 4] f
 exact rt [.tmp 4] f
theorem Lp (a0 : List Zz) (a1 : List Zz) : Sa 37 [rL 7 Zz.row a0, rL 7 Zz.row a1] [rB (ji a0 a1)] := by
 have f := me (ji.eq_1 a0 a1)
 refine so Tryz.func37 Tryz.ntmps37 ?_
 refine cF f ?_ ?_ <;> intro k1 h1 f
 ·exact rt [.tmp 4] f
 refine lp1 (qo.eq_2 a0 a1) (fun v1_0 => YM 27 [eL 0 7 a0 Zz.row, eL 1 7 a1 Zz.row, eI 5 (↑v1_0 : Int)]) (fun n1 v1_0 => a0.length < n1 + v1_0 ∧ v1_0 ≤ a0.length) (a0.length + 1) 0 (fun p1 v1_0 e1 j1 => ?_)
 refine cF e1 ?_ ?_ <;> intro k3 h2 e1
 ·have i1 := ix h2
  have m2 := ml a0 (k3 0 _ rfl)
  have w1 := wr v1_0
  refine dIo mixed ?_
  have i2 := ik v1_0 a1
  simp [i1, ZD, i2]
  repeat with_reducible refine sd ?_
  refine cRs (HA (nth a0 v1_0) (nth a1 v1_0)) ?_
  refine cF e1 ?_ ?_ <;> intro k5 h3 e1
  ·have f := ms f e1
   exact rt [.tmp 4] f
  exact ny1 w1 e1
 have f := ms f e1
 exact rt [.tmp 4] f
theorem zi (a0 : List Int) (a1 : List Int) : Sa 21 [rL 1 iR a0, rL 1 iR a1] [rB (zF a0 a1)] := by
 have f := me (zF.eq_1 a0 a1)
 refine so Tryz.func21 Tryz.ntmps21 ?_
 refine cF f ?_ ?_ <;> intro k1 h1 f
 ·exact rt [.tmp 4] f
 refine lp1 (kH.eq_2 a0 a1) (fun v1_0 => YM 26 [eL 0 1 a0 iR, eL 1 1 a1 iR, eI 5 (↑v1_0 : Int)]) (fun n1 v1_0 => a0.length < n1 + v1_0 ∧ v1_0 ≤ a0.length) (a0.length + 1) 0 (fun p1 v1_0 e1 j1 => ?_)
 refine cF e1 ?_ ?_ <;> intro k3 h2 e1
 ·have i1 := ix h2
  have m2 := ml a0 (k3 0 _ rfl)
  have w1 := wr v1_0
  refine dIo mixed ?_
  have i2 := ik v1_0 a1
  simp [i1, ZD, i2]
  repeat with_reducible refine sd ?_
  refine cF e1 ?_ ?_ <;> intro k5 h3 e1
  ·have f := ms f e1
   exact rt [.tmp 4] f
  exact ny1 w1 e1
 have f := ms f e1
 exact rt [.tmp 4] f
theorem OU (a0 : List ByteArray) (a1 : List ByteArray) : Sa 232 [rL 1 sR a0, rL 1 sR a1] [rB (xF a0 a1)] := by
 have f := me (xF.eq_1 a0 a1)
 refine so Tryz.func232 Tryz.ntmps232 ?_
 refine cF f ?_ ?_ <;> intro k1 h1 f
 ·exact rt [.tmp 4] f
 refine lp1 (yw.eq_2 a0 a1) (fun v1_0 => YM 26 [eL 0 1 a0 sR, eL 1 1 a1 sR, eI 5 (↑v1_0 : Int)]) (fun n1 v1_0 => a0.length < n1 + v1_0 ∧ v1_0 ≤ a0.length) (a0.length + 1) 0 (fun p1 v1_0 e1 j1 => ?_)
 refine cF e1 ?_ ?_ <;> intro k3 h2 e1
 ·have i1 := ix h2
  have m2 := ml a0 (k3 0 _ rfl)
  have w1 := wr v1_0
  refine dIo mixed ?_
  have i2 := ik v1_0 a1
  simp [i1, ZD, i2]
  repeat with_reducible refine sd ?_
  refine cF e1 ?_ ?_ <;> intro k5 h3 e1
  ·have f := ms f e1
   exact rt [.tmp 4] f
  exact ny1 w1 e1
 have f := ms f e1
 exact rt [.tmp 4] f
theorem Rb (a0 : ZR) (a1 : ZR) : Sa 216 [a0.row, a1.row] [rB (z9 a0 a1)] := by
 have f := me (z9.eq_1 a0 a1)
 refine so Tryz.func216 Tryz.ntmps216 ?_
 refine cF f ?_ ?_ <;> intro k1 h1 f
 ·exact rt [.tmp 4] f
 refine cRs (OU a0.ZE a1.ZE) ?_
 refine cF f ?_ ?_ <;> intro k2 h2 f
 ·exact rt [.tmp 4] f
 refine cRs (zi a0.ZG a1.ZG) ?_
 refine cF f ?_ ?_ <;> intro k3 h3 f
 ·exact rt [.tmp 4] f
 exact rt [.tmp 4] f
theorem T8 (a0 : Zb) (a1 : Zb) : Sa 217 [a0.row, a1.row] [rB (K8 a0 a1)] := by
 have f := me (K8.eq_1 a0 a1)
 refine so Tryz.func217 Tryz.ntmps217 ?_
 refine cF f ?_ ?_ <;> intro k1 h1 f
 ·exact rt [.tmp 4] f
 refine cF f ?_ ?_ <;> intro k2 h2 f
 ·exact rt [.tmp 4] f
 refine cF f ?_ ?_ <;> intro k3 h3 f
 ·exact rt [.tmp 4] f
 refine cF f ?_ ?_ <;> intro k4 h4 f
 ·exact rt [.tmp 4] f
 refine cF f ?_ ?_ <;> intro k5 h5 f
 ·exact rt [.tmp 4] f
 refine cF f ?_ ?_ <;> intro k6 h6 f
 ·exact rt [.tmp 4] f
 refine cF f ?_ ?_ <;> intro k7 h7 f
 ·exact rt [.tmp 4] f
 refine cF f ?_ ?_ <;> intro k8 h8 f
 ·exact rt [.tmp 4] f
 refine cF f ?_ ?_ <;> intro k9 h9 f
 ·exact rt [.tmp 4] f
 exact rt [.tmp 4] f
theorem IK (a0 : ZM) (a1 : ZM) : Sa 239 [a0.row, a1.row] [rB (qG a0 a1)] := by
 have f := me (qG.eq_1 a0 a1)
 refine so Tryz.func239 Tryz.ntmps239 ?_
 refine cF f ?_ ?_ <;> intro k1 h1 f
 ·exact rt [.tmp 4] f
 refine cRs (zi a0.Yh a1.Yh) ?_
 refine cF f ?_ ?_ <;> intro k2 h2 f
 ·exact rt [.tmp 4] f
 refine cF f ?_ ?_ <;> intro k3 h3 f
 ·exact rt [.tmp 4] f
 exact rt [.tmp 4] f
theorem O8 (a0 : List ZM) (a1 : List ZM) : Sa 233 [rL 3 ZM.row a0, rL 3 ZM.row a1] [rB (qO a0 a1)] := by
 have f := me (qO.eq_1 a0 a1)
 refine so Tryz.func233 Tryz.ntmps233 ?_
 refine cF f ?_ ?_ <;> intro k1 h1 f
 ·exact rt [.tmp 4] f
 refine lp1 (xv.eq_2 a0 a1) (fun v1_0 => YM 27 [eL 0 3 a0 ZM.row, eL 1 3 a1 ZM.row, eI 5 (↑v1_0 : Int)]) (fun n1 v1_0 => a0.length < n1 + v1_0 ∧ v1_0 ≤ a0.length) (a0.length + 1) 0 (fun p1 v1_0 e1 j1 => ?_)
 refine cF e1 ?_ ?_ <;> intro k3 h2 e1
 ·have i1 := ix h2
  have m2 := ml a0 (k3 0 _ rfl)
  have w1 := wr v1_0
  refine dIo mixed ?_
  have i2 := ik v1_0 a1
  simp [i1, ZD, i2]
  repeat with_reducible refine sd ?_
  refine cRs (IK (nth a0 v1_0) (nth a1 v1_0)) ?_
  refine cF e1 ?_ ?_ <;> intro k5 h3 e1
  ·have f := ms f e1
   exact rt [.tmp 4] f
  exact ny1 w1 e1
 have f := ms f e1
 exact rt [.tmp 4] f
theorem Hx (a0 : Z4) (a1 : Z4) : Sa 249 [a0.row, a1.row] [rB (jn a0 a1)] := by
 have f := me (jn.eq_1 a0 a1)
 refine so Tryz.func249 Tryz.ntmps249 ?_
 refine cF f ?_ ?_ <;> intro k1 h1 f
 ·exact rt [.tmp 4] f
 refine cF f ?_ ?_ <;> intro k2 h2 f
 ·exact rt [.tmp 4] f
 exact rt [.tmp 4] f
theorem Lo (a0 : List Z4) (a1 : List Z4) : Sa 245 [rL 2 Z4.row a0, rL 2 Z4.row a1] [rB (jv a0 a1)] := by
 have f := me (jv.eq_1 a0 a1)
 refine so Tryz.func245 Tryz.ntmps245 ?_
 refine cF f ?_ ?_ <;> intro k1 h1 f
 ·exact rt [.tmp 4] f
 refine lp1 (jE.eq_2 a0 a1) (fun v1_0 => YM 27 [eL 0 2 a0 Z4.row, eL 1 2 a1 Z4.row, eI 5 (↑v1_0 : Int)]) (fun n1 v1_0 => a0.length < n1 + v1_0 ∧ v1_0 ≤ a0.length) (a0.length + 1) 0 (fun p1 v1_0 e1 j1 => ?_)
 refine cF e1 ?_ ?_ <;> intro k3 h2 e1
 ·have i1 := ix h2
  have m2 := ml a0 (k3 0 _ rfl)
  have w1 := wr v1_0
  refine dIo mixed ?_
  have i2 := ik v1_0 a1
  simp [i1, ZD, i2]
  repeat with_reducible refine sd ?_
  refine cRs (Hx (nth a0 v1_0) (nth a1 v1_0)) ?_
  refine cF e1 ?_ ?_ <;> intro k5 h3 e1
  ·have f := ms f e1
   exact rt [.tmp 4] f
  exact ny1 w1 e1
 have f := ms f e1
 exact rt [.tmp 4] f
theorem Ia (a0 : Za) (a1 : Za) : Sa 250 [a0.row, a1.row] [rB (qH a0 a1)] := by
 have f := me (qH.eq_1 a0 a1)
 refine so Tryz.func250 Tryz.ntmps250 ?_
 refine cF f ?_ ?_ <;> intro k1 h1 f
 ·exact rt [.tmp 4] f
 refine cF f ?_ ?_ <;> intro k2 h2 f
 ·exact rt [.tmp 4] f
 refine cF f ?_ ?_ <;> intro k3 h3 f
 ·exact rt [.tmp 4] f
 refine cF f ?_ ?_ <;> intro k4 h4 f
 ·exact rt [.tmp 4] f
 refine cF f ?_ ?_ <;> intro k5 h5 f
 ·exact rt [.tmp 4] f
 exact rt [.tmp 4] f
theorem O6 (a0 : List Za) (a1 : List Za) : Sa 246 [rL 5 Za.row a0, rL 5 Za.row a1] [rB (qU a0 a1)] := by
 have f := me (qU.eq_1 a0 a1)
 refine so Tryz.func246 Tryz.ntmps246 ?_
 refine cF f ?_ ?_ <;> intro k1 h1 f
 ·exact rt [.tmp 4] f
 refine lp1 (xx.eq_2 a0 a1) (fun v1_0 => YM 27 [eL 0 5 a0 Za.row, eL 1 5 a1 Za.row, eI 5 (↑v1_0 : Int)]) (fun n1 v1_0 => a0.length < n1 + v1_0 ∧ v1_0 ≤ a0.length) (a0.length + 1) 0 (fun p1 v1_0 e1 j1 => ?_)
 refine cF e1 ?_ ?_ <;> intro k3 h2 e1
 ·have i1 := ix h2
  have m2 := ml a0 (k3 0 _ rfl)
  have w1 := wr v1_0
  refine dIo mixed ?_
  have i2 := ik v1_0 a1
  simp [i1, ZD, i2]
  repeat with_reducible refine sd ?_
  refine cRs (Ia (nth a0 v1_0) (nth a1 v1_0)) ?_
  refine cF e1 ?_ ?_ <;> intro k5 h3 e1
  ·have f := ms f e1
   exact rt [.tmp 4] f
  exact ny1 w1 e1
 have f := ms f e1
 exact rt [.tmp 4] f
theorem OT (a0 : ZL) (a1 : ZL) : Sa 240 [a0.row, a1.row] [rB (zZ a0 a1)] := by
 have f := me (zZ.eq_1 a0 a1)
 refine so Tryz.func240 Tryz.ntmps240 ?_
 refine cF f ?_ ?_ <;> intro k1 h1 f
 ·exact rt [.tmp 4] f
 refine cF f ?_ ?_ <;> intro k2 h2 f
 ·exact rt [.tmp 4] f
 refine cF f ?_ ?_ <;> intro k3 h3 f
 ·exact rt [.tmp 4] f
 refine cRs (Lo a0.Path a1.Path) ?_
 refine cF f ?_ ?_ <;> intro k4 h4 f
 ·exact rt [.tmp 4] f
 refine cRs (O6 a0.Zu a1.Zu) ?_
 refine cF f ?_ ?_ <;> intro k5 h5 f
 ·exact rt [.tmp 4] f
 exact rt [.tmp 4] f
theorem Rq (a0 : List ZL) (a1 : List ZL) : Sa 234 [rL 5 ZL.row a0, rL 5 ZL.row a1] [rB (zz a0 a1)] := by
 have f := me (zz.eq_1 a0 a1)
 refine so Tryz.func234 Tryz.ntmps234 ?_
 refine cF f ?_ ?_ <;> intro k1 h1 f
 ·exact rt [.tmp 4] f
 refine lp1 (yH.eq_2 a0 a1) (fun v1_0 => YM 27 [eL 0 5 a0 ZL.row, eL 1 5 a1 ZL.row, eI 5 (↑v1_0 : Int)]) (fun n1 v1_0 => a0.length < n1 + v1_0 ∧ v1_0 ≤ a0.length) (a0.length + 1) 0 (fun p1 v1_0 e1 j1 => ?_)
 refine cF e1 ?_ ?_ <;> intro k3 h2 e1
 ·have i1 := ix h2
  have m2 := ml a0 (k3 0 _ rfl)
  have w1 := wr v1_0
  refine dIo mixed ?_
  have i2 := ik v1_0 a1
  simp [i1, ZD, i2]
  repeat with_reducible refine sd ?_
  refine cRs (OT (nth a0 v1_0) (nth a1 v1_0)) ?_
  refine cF e1 ?_ ?_ <;> intro k5 h3 e1
  ·have f := ms f e1
   exact rt [.tmp 4] f
  exact ny1 w1 e1
 have f := ms f e1
 exact rt [.tmp 4] f
theorem Nk (a0 : Zf) (a1 : Zf) : Sa 218 [a0.row, a1.row] [rB (qT a0 a1)] := by
 have f := me (qT.eq_1 a0 a1)
 refine so Tryz.func218 Tryz.ntmps218 ?_
 refine cRs (O8 a0.ZS a1.ZS) ?_
 refine cF f ?_ ?_ <;> intro k1 h1 f
 ·exact rt [.tmp 4] f
 refine cRs (Rq a0.Zj a1.Zj) ?_
 refine cF f ?_ ?_ <;> intro k2 h2 f
 ·exact rt [.tmp 4] f
 exact rt [.tmp 4] f
theorem He (a0 : ZI) (a1 : ZI) : Sa 185 [a0.row, a1.row] [rB (jm a0 a1)] := by
 have f := me (jm.eq_1 a0 a1)
 refine so Tryz.func185 Tryz.ntmps185 ?_
 refine cF f ?_ ?_ <;> intro k1 h1 f
 ·exact rt [.tmp 4] f
 refine cF f ?_ ?_ <;> intro k2 h2 f
 ·exact rt [.tmp 4] f
 refine cRs (Rb a0.Doc a1.Doc) ?_
 refine cF f ?_ ?_ <;> intro k3 h3 f
 ·exact rt [.tmp 4] f
 refine cRs (T8 a0.Sig a1.Sig) ?_
 refine cF f ?_ ?_ <;> intro k4 h4 f
 ·exact rt [.tmp 4] f
 refine cRs (Nk a0.ZQ a1.ZQ) ?_
 refine cF f ?_ ?_ <;> intro k5 h5 f
 ·exact rt [.tmp 4] f
 exact rt [.tmp 4] f
theorem Ld (a0 : List ZI) (a1 : List ZI) : Sa 150 [rL 16 ZI.row a0, rL 16 ZI.row a1] [rB (j5 a0 a1)] := by
 have f := me (j5.eq_1 a0 a1)
 refine so Tryz.func150 Tryz.ntmps150 ?_
 refine cF f ?_ ?_ <;> intro k1 h1 f
 ·exact rt [.tmp 4] f
 refine lp1 (jD.eq_2 a0 a1) (fun v1_0 => YM 27 [eL 0 16 a0 ZI.row, eL 1 16 a1 ZI.row, eI 5 (↑v1_0 : Int)]) (fun n1 v1_0 => a0.length < n1 + v1_0 ∧ v1_0 ≤ a0.length) (a0.length + 1) 0 (fun p1 v1_0 e1 j1 => ?_)
 refine cF e1 ?_ ?_ <;> intro k3 h2 e1
 ·have i1 := ix h2
  have m2 := ml a0 (k3 0 _ rfl)
  have w1 := wr v1_0
  refine dIo mixed ?_
  have i2 := ik v1_0 a1
  simp [i1, ZD, i2]
  repeat with_reducible refine sd ?_
  refine cRs (He (nth a0 v1_0) (nth a1 v1_0)) ?_
  refine cF e1 ?_ ?_ <;> intro k5 h3 e1
  ·have f := ms f e1
   exact rt [.tmp 4] f
  exact ny1 w1 e1
 have f := ms f e1
 exact rt [.tmp 4] f
theorem OI (a0 : ZC) (a1 : ZC) : Sa 95 [a0.row, a1.row] [rB (zY a0 a1)] := by
 have f := me (zY.eq_1 a0 a1)
 refine so Tryz.func95 Tryz.ntmps95 ?_
 refine cF f ?_ ?_ <;> intro k1 h1 f
 ·exact rt [.tmp 4] f
 refine cRs (Ld a0.ZF a1.ZF) ?_
 refine cF f ?_ ?_ <;> intro k2 h2 f
 ·exact rt [.tmp 4] f
 exact rt [.tmp 4] f
theorem Rc (a0 : List ZC) (a1 : List ZC) : Sa 38 [rL 2 ZC.row a0, rL 2 ZC.row a1] [rB (yY a0 a1)] := by
 have f := me (yY.eq_1 a0 a1)
 refine so Tryz.func38 Tryz.ntmps38 ?_
 refine cF f ?_ ?_ <;> intro k1 h1 f
 ·exact rt [.tmp 4] f
 refine lp1 (yL.eq_2 a0 a1) (fun v1_0 => YM 27 [eL 0 2 a0 ZC.row, eL 1 2 a1 ZC.row, eI 5 (↑v1_0 : Int)]) (fun n1 v1_0 => a0.length < n1 + v1_0 ∧ v1_0 ≤ a0.length) (a0.length + 1) 0 (fun p1 v1_0 e1 j1 => ?_)
 refine cF e1 ?_ ?_ <;> intro k3 h2 e1
 ·have i1 := ix h2
  have m2 := ml a0 (k3 0 _ rfl)
  have w1 := wr v1_0
  refine dIo mixed ?_
  have i2 := ik v1_0 a1
  simp [i1, ZD, i2]
  repeat with_reducible refine sd ?_
  refine cRs (OI (nth a0 v1_0) (nth a1 v1_0)) ?_
  refine cF e1 ?_ ?_ <;> intro k5 h3 e1
  ·have f := ms f e1
   exact rt [.tmp 4] f
  exact ny1 w1 e1
 have f := ms f e1
 exact rt [.tmp 4] f
theorem xl (a0 : Ze) (a1 : Ze) : Sa 11 [a0.row, a1.row] [rB (zw a0 a1)] := by
 have f := me (zw.eq_1 a0 a1)
 refine so Tryz.func11 Tryz.ntmps11 ?_
 refine cRs (IM a0.Frame a1.Frame) ?_
 refine cF f ?_ ?_ <;> intro k1 h1 f
 ·exact rt [.tmp 4] f
 refine cRs (Lp a0.Zy a1.Zy) ?_
 refine cF f ?_ ?_ <;> intro k2 h2 f
 ·exact rt [.tmp 4] f
 refine cRs (zi a0.Z6 a1.Z6) ?_
 refine cF f ?_ ?_ <;> intro k3 h3 f
 ·exact rt [.tmp 4] f
 refine cRs (Rc a0.ZH a1.ZH) ?_
 refine cF f ?_ ?_ <;> intro k4 h4 f
 ·exact rt [.tmp 4] f
 refine cRs (zi a0.XC a1.XC) ?_
 refine cF f ?_ ?_ <;> intro k5 h5 f
 ·exact rt [.tmp 4] f
 refine cRs (zi a0.Yq a1.Yq) ?_
 refine cF f ?_ ?_ <;> intro k6 h6 f
 ·exact rt [.tmp 4] f
 refine cF f ?_ ?_ <;> intro k7 h7 f
 ·exact rt [.tmp 4] f
 refine cRs (zi a0.Ym a1.Ym) ?_
 refine cF f ?_ ?_ <;> intro k8 h8 f
 ·exact rt [.tmp 4] f
 exact rt [.tmp 4] f
theorem MF (a0 : List YQ) (a1 : Int) : Qq Tryz.prog 96 (rL 5 YQ.row a0) [rI a1] (rL 5 YQ.row (YX a0 a1).1) (.int .i64 (YX a0 a1).2) := by
 refine QH Tryz.func96 rfl (by kernel_rfl) (fun v => ?_)
 simp [Tryz.ntmps96]
 refine okL fun k1 => ?_
 refine WC (ι := { s : Nat × Int × Nat × (List YQ) // JI s.1 s.2.1 s.2.2.1 s.2.2.2 = JI (a0.length + 1) a1 0 a0 ∧ (1 ≤ s.1 ∧ s.2.2.2.length < s.1 + s.2.2.1) }) (fun s => YM 48 [(0, .fix v (.one (.sref 0 0 0 s.1.2.2.2.length)), [.arr true 5 (s.1.2.2.2.map YQ.row)]), eI 1 s.1.2.1, eI 5 (↑s.1.2.2.1 : Int)]) (fun s => s.1.1) ⟨((a0.length + 1), a1, 0, a0), rfl, by first | omega | (dsimp only; omega) | simp⟩ (Yi (by simp)) ?_
 rintro ⟨⟨n1, v1_0, v1_1, v1_2⟩, e1, j1⟩
 try dsimp only at e1 j1
 obtain ⟨p1, rfl⟩ : ∃ p, n1 = p + 1 := ⟨n1 - 1, by omega⟩
 simp
 refine cC (decide ((↑v1_1 : Int) < (↑v1_2.length : Int))) (fun k2 h1 => ?_) (fun k2 h1 => ?_)
 ·have q1 := h1; try simp at q1
  have i1 : v1_1 < v1_2.length := by simpa using h1
  have m2 : v1_2.length ≤ 9223372036854775807 := by simpa using k2 0 _ rfl
  have w1 : IntKind.i64.wrap ((v1_1 : Int) + 1) = (v1_1 : Int) + 1 := ZT (by omega) (by omega)
  simp [i1, ZD, Zq (x := (YQ.mk v1_0 (nth v1_2 v1_1).ze (nth v1_2 v1_1).Method (nth v1_2 v1_1).Oz (nth v1_2 v1_1).xf)) rfl, Zh, List.set_set, Zq (x := (YQ.mk v1_0 (W (v1_0 + 1)) (nth v1_2 v1_1).Method (nth v1_2 v1_1).Oz (nth v1_2 v1_1).xf)) rfl, Zq (x := (YQ.mk v1_0 (W (v1_0 + 1)) (W ((W (v1_0 + 1)) + 1)) (nth v1_2 v1_1).Oz (nth v1_2 v1_1).xf)) rfl, Zq (x := (YQ.mk v1_0 (W (v1_0 + 1)) (W ((W (v1_0 + 1)) + 1)) (W ((W ((W (v1_0 + 1)) + 1)) + 1)) (nth v1_2 v1_1).xf)) rfl, Zq (x := (YQ.mk v1_0 (W (v1_0 + 1)) (W ((W (v1_0 + 1)) + 1)) (W ((W ((W (v1_0 + 1)) + 1)) + 1)) (W ((W ((W ((W (v1_0 + 1)) + 1)) + 1)) + 1)))) rfl]
  repeat with_reducible refine sd ?_
  refine Ro ⟨(p1, (W ((W ((W ((W ((W (v1_0 + 1)) + 1)) + 1)) + 1)) + 1)), (v1_1 + 1), (v1_2.set v1_1 (YQ.mk v1_0 (W (v1_0 + 1)) (W ((W (v1_0 + 1)) + 1)) (W ((W ((W (v1_0 + 1)) + 1)) + 1)) (W ((W ((W ((W (v1_0 + 1)) + 1)) + 1)) + 1))))), ?_, ?_⟩ (by simp) (Yi (by simp [w1]))
  · rw [← e1]; simp only [JI, h1, Ye, YR]
  · (simp; omega)
 ·have q1 := h1; try simp at q1
  have x1 : JI (a0.length + 1) a1 0 a0 = (v1_0, v1_2) := by rw [← e1]; simp only [JI, h1, Ye, YR]
  simp
  refine UT (rv := [.tmp 4]) rfl ?_
  have f1 := YX.eq_1 a0 a1; simp only [x1, Ye, YR] at f1; simp [f1]
theorem VU (a0 : List ZN) (a1 : Int) : Qq Tryz.prog 97 (rL 3 ZN.row a0) [rI a1] (rL 3 ZN.row (YA a0 a1).1) (.int .i64 (YA a0 a1).2) := by
 refine QH Tryz.func97 rfl (by kernel_rfl) (fun v => ?_)
 simp [Tryz.ntmps97]
 refine okL fun k1 => ?_
 refine WC (ι := { s : Nat × Int × Nat × (List ZN) // Y9 s.1 s.2.1 s.2.2.1 s.2.2.2 = Y9 (a0.length + 1) a1 0 a0 ∧ (1 ≤ s.1 ∧ s.2.2.2.length < s.1 + s.2.2.1) }) (fun s => YM 34 [(0, .fix v (.one (.sref 0 0 0 s.1.2.2.2.length)), [.arr true 3 (s.1.2.2.2.map ZN.row)]), eI 1 s.1.2.1, eI 5 (↑s.1.2.2.1 : Int)]) (fun s => s.1.1) ⟨((a0.length + 1), a1, 0, a0), rfl, by first | omega | (dsimp only; omega) | simp⟩ (Yi (by simp)) ?_
 rintro ⟨⟨n1, v1_0, v1_1, v1_2⟩, e1, j1⟩
 try dsimp only at e1 j1
 obtain ⟨p1, rfl⟩ : ∃ p, n1 = p + 1 := ⟨n1 - 1, by omega⟩
 simp
 refine cC (decide ((↑v1_1 : Int) < (↑v1_2.length : Int))) (fun k2 h1 => ?_) (fun k2 h1 => ?_)
 ·have q1 := h1; try simp at q1
  have i1 : v1_1 < v1_2.length := by simpa using h1
  have m2 : v1_2.length ≤ 9223372036854775807 := by simpa using k2 0 _ rfl
  have w1 : IntKind.i64.wrap ((v1_1 : Int) + 1) = (v1_1 : Int) + 1 := ZT (by omega) (by omega)
  simp [i1, ZD, Zq (x := (ZN.mk v1_0 (nth v1_2 v1_1).Key (nth v1_2 v1_1).Error)) rfl, Zh, List.set_set, Zq (x := (ZN.mk v1_0 (W (v1_0 + 1)) (nth v1_2 v1_1).Error)) rfl, Zq (x := (ZN.mk v1_0 (W (v1_0 + 1)) (W ((W (v1_0 + 1)) + 1)))) rfl]
  repeat with_reducible refine sd ?_
  refine Ro ⟨(p1, (W ((W ((W (v1_0 + 1)) + 1)) + 1)), (v1_1 + 1), (v1_2.set v1_1 (ZN.mk v1_0 (W (v1_0 + 1)) (W ((W (v1_0 + 1)) + 1))))), ?_, ?_⟩ (by simp) (Yi (by simp [w1]))
  · rw [← e1]; simp only [Y9, h1, Ye, YR]
  · (simp; omega)
 ·have q1 := h1; try simp at q1
  have x1 : Y9 (a0.length + 1) a1 0 a0 = (v1_0, v1_2) := by rw [← e1]; simp only [Y9, h1, Ye, YR]
  simp
  refine UT (rv := [.tmp 4]) rfl ?_
  have f1 := YA.eq_1 a0 a1; simp only [x1, Ye, YR] at f1; simp [f1]
theorem Tj (a0 : List ZV) (a1 : Int) : Qq Tryz.prog 98 (rL 4 ZV.row a0) [rI a1] (rL 4 ZV.row (Ys a0 a1).1) (.int .i64 (Ys a0 a1).2) := by
 refine QH Tryz.func98 rfl (by kernel_rfl) (fun v => ?_)
 simp [Tryz.ntmps98]
 refine okL fun k1 => ?_
 refine WC (ι := { s : Nat × Int × Nat × (List ZV) // Xw s.1 s.2.1 s.2.2.1 s.2.2.2 = Xw (a0.length + 1) a1 0 a0 ∧ (1 ≤ s.1 ∧ s.2.2.2.length < s.1 + s.2.2.1) }) (fun s => YM 41 [(0, .fix v (.one (.sref 0 0 0 s.1.2.2.2.length)), [.arr true 4 (s.1.2.2.2.map ZV.row)]), eI 1 s.1.2.1, eI 5 (↑s.1.2.2.1 : Int)]) (fun s => s.1.1) ⟨((a0.length + 1), a1, 0, a0), rfl, by first | omega | (dsimp only; omega) | simp⟩ (Yi (by simp)) ?_
 rintro ⟨⟨n1, v1_0, v1_1, v1_2⟩, e1, j1⟩
 try dsimp only at e1 j1
 obtain ⟨p1, rfl⟩ : ∃ p, n1 = p + 1 := ⟨n1 - 1, by omega⟩
 simp
 refine cC (decide ((↑v1_1 : Int) < (↑v1_2.length : Int))) (fun k2 h1 => ?_) (fun k2 h1 => ?_)
 ·have q1 := h1; try simp at q1
  have i1 : v1_1 < v1_2.length := by simpa using h1
  have m2 : v1_2.length ≤ 9223372036854775807 := by simpa using k2 0 _ rfl
  have w1 : IntKind.i64.wrap ((v1_1 : Int) + 1) = (v1_1 : Int) + 1 := ZT (by omega) (by omega)
  simp [i1, ZD, Zq (x := (ZV.mk v1_0 (nth v1_2 v1_1).WX (nth v1_2 v1_1).Ends (nth v1_2 v1_1).qd)) rfl, Zh, List.set_set, Zq (x := (ZV.mk v1_0 (W (v1_0 + 1)) (nth v1_2 v1_1).Ends (nth v1_2 v1_1).qd)) rfl, Zq (x := (ZV.mk v1_0 (W (v1_0 + 1)) (W ((W (v1_0 + 1)) + 1)) (nth v1_2 v1_1).qd)) rfl, Zq (x := (ZV.mk v1_0 (W (v1_0 + 1)) (W ((W (v1_0 + 1)) + 1)) (W ((W ((W (v1_0 + 1)) + 1)) + 1)))) rfl]
  repeat with_reducible refine sd ?_
  refine Ro ⟨(p1, (W ((W ((W ((W (v1_0 + 1)) + 1)) + 1)) + 1)), (v1_1 + 1), (v1_2.set v1_1 (ZV.mk v1_0 (W (v1_0 + 1)) (W ((W (v1_0 + 1)) + 1)) (W ((W ((W (v1_0 + 1)) + 1)) + 1))))), ?_, ?_⟩ (by simp) (Yi (by simp [w1]))
  · rw [← e1]; simp only [Xw, h1, Ye, YR]
  · (simp; omega)
 ·have q1 := h1; try simp at q1
  have x1 : Xw (a0.length + 1) a1 0 a0 = (v1_0, v1_2) := by rw [← e1]; simp only [Xw, h1, Ye, YR]
  simp
  refine UT (rv := [.tmp 4]) rfl ?_
  have f1 := Ys.eq_1 a0 a1; simp only [x1, Ye, YR] at f1; simp [f1]
theorem P7 (a0 : YJ) (a1 : Int) : Qq Tryz.prog 39 a0.row [rI a1] (Zd a0 a1).1.row (.int .i64 (Zd a0 a1).2) := by
 refine QH Tryz.func39 rfl (by kernel_rfl) (fun v => ?_)
 simp [Tryz.ntmps39]
 refine xX (ats := [.sref 0 0 0 a0.XE.length]) rfl rfl rfl rfl rfl rfl rfl (MF a0.XE a1) (by simp) (by simp) (by simp) (by simp) (by simp) (by simp) (by simp) (by simp) (by simp) ?_
 simp
 refine xX (ats := [.sref 0 1 0 a0.Zc.length]) rfl rfl rfl rfl rfl rfl rfl (VU a0.Zc (YX a0.XE a1).2) (by simp) (by simp) (by simp) (by simp) (by simp) (by simp) (by simp) (by simp) (by simp) ?_
 simp
 refine xX (ats := [.sref 0 2 0 a0.Methods.length]) rfl rfl rfl rfl rfl rfl rfl (Tj a0.Methods (YA a0.Zc (YX a0.XE a1).2).2) (by simp) (by simp) (by simp) (by simp) (by simp) (by simp) (by simp) (by simp) (by simp) ?_
 simp
 refine UT (rv := [.tmp 4]) rfl ?_
 have f1 := Zd.eq_1 a0 a1; simp [f1]
theorem Pv (a0 : List Zz) (a1 : Int) : Qq Tryz.prog 40 (rL 7 Zz.row a0) [rI a1] (rL 7 Zz.row (Zr a0 a1).1) (.int .i64 (Zr a0 a1).2) := by
 refine QH Tryz.func40 rfl (by kernel_rfl) (fun v => ?_)
 simp [Tryz.ntmps40]
 refine okL fun k1 => ?_
 refine WC (ι := { s : Nat × Int × Nat × (List Zz) // QS s.1 s.2.1 s.2.2.1 s.2.2.2 = QS (a0.length + 1) a1 0 a0 ∧ (1 ≤ s.1 ∧ s.2.2.2.length < s.1 + s.2.2.1) }) (fun s => YM 62 [(0, .fix v (.one (.sref 0 0 0 s.1.2.2.2.length)), [.arr true 7 (s.1.2.2.2.map Zz.row)]), eI 1 s.1.2.1, eI 5 (↑s.1.2.2.1 : Int)]) (fun s => s.1.1) ⟨((a0.length + 1), a1, 0, a0), rfl, by first | omega | (dsimp only; omega) | simp⟩ (Yi (by simp)) ?_
 rintro ⟨⟨n1, v1_0, v1_1, v1_2⟩, e1, j1⟩
 try dsimp only at e1 j1
 obtain ⟨p1, rfl⟩ : ∃ p, n1 = p + 1 := ⟨n1 - 1, by omega⟩
 simp
 refine cC (decide ((↑v1_1 : Int) < (↑v1_2.length : Int))) (fun k2 h1 => ?_) (fun k2 h1 => ?_)
 ·have q1 := h1; try simp at q1
  have i1 : v1_1 < v1_2.length := by simpa using h1
  have m2 : v1_2.length ≤ 9223372036854775807 := by simpa using k2 0 _ rfl
  have w1 : IntKind.i64.wrap ((v1_1 : Int) + 1) = (v1_1 : Int) + 1 := ZT (by omega) (by omega)
  simp [i1, ZD, Zq (x := (Zz.mk v1_0 (nth v1_2 v1_1).Key (nth v1_2 v1_1).ze (nth v1_2 v1_1).xo (nth v1_2 v1_1).To (nth v1_2 v1_1).KW (nth v1_2 v1_1).Mark)) rfl, Zh, List.set_set, Zq (x := (Zz.mk v1_0 (W (v1_0 + 1)) (nth v1_2 v1_1).ze (nth v1_2 v1_1).xo (nth v1_2 v1_1).To (nth v1_2 v1_1).KW (nth v1_2 v1_1).Mark)) rfl, Zq (x := (Zz.mk v1_0 (W (v1_0 + 1)) (W ((W (v1_0 + 1)) + 1)) (nth v1_2 v1_1).xo (nth v1_2 v1_1).To (nth v1_2 v1_1).KW (nth v1_2 v1_1).Mark)) rfl, Zq (x := (Zz.mk v1_0 (W (v1_0 + 1)) (W ((W (v1_0 + 1)) + 1)) (W ((W ((W (v1_0 + 1)) + 1)) + 1)) (nth v1_2 v1_1).To (nth v1_2 v1_1).KW (nth v1_2 v1_1).Mark)) rfl, Zq (x := (Zz.mk v1_0 (W (v1_0 + 1)) (W ((W (v1_0 + 1)) + 1)) (W ((W ((W (v1_0 + 1)) + 1)) + 1)) (W ((W ((W ((W (v1_0 + 1)) + 1)) + 1)) + 1)) (nth v1_2 v1_1).KW (nth v1_2 v1_1).Mark)) rfl, Zq (x := (Zz.mk v1_0 (W (v1_0 + 1)) (W ((W (v1_0 + 1)) + 1)) (W ((W ((W (v1_0 + 1)) + 1)) + 1)) (W ((W ((W ((W (v1_0 + 1)) + 1)) + 1)) + 1)) (W ((W ((W ((W ((W (v1_0 + 1)) + 1)) + 1)) + 1)) + 1)) (nth v1_2 v1_1).Mark)) rfl, Zq (x := (Zz.mk v1_0 (W (v1_0 + 1)) (W ((W (v1_0 + 1)) + 1)) (W ((W ((W (v1_0 + 1)) + 1)) + 1)) (W ((W ((W ((W (v1_0 + 1)) + 1)) + 1)) + 1)) (W ((W ((W ((W ((W (v1_0 + 1)) + 1)) + 1)) + 1)) + 1)) (W ((W ((W ((W ((W ((W (v1_0 + 1)) + 1)) + 1)) + 1)) + 1)) + 1)))) rfl]
  repeat with_reducible refine sd ?_
  refine Ro ⟨(p1, (W ((W ((W ((W ((W ((W ((W (v1_0 + 1)) + 1)) + 1)) + 1)) + 1)) + 1)) + 1)), (v1_1 + 1), (v1_2.set v1_1 (Zz.mk v1_0 (W (v1_0 + 1)) (W ((W (v1_0 + 1)) + 1)) (W ((W ((W (v1_0 + 1)) + 1)) + 1)) (W ((W ((W ((W (v1_0 + 1)) + 1)) + 1)) + 1)) (W ((W ((W ((W ((W (v1_0 + 1)) + 1)) + 1)) + 1)) + 1)) (W ((W ((W ((W ((W ((W (v1_0 + 1)) + 1)) + 1)) + 1)) + 1)) + 1))))), ?_, ?_⟩ (by simp) (Yi (by simp [w1]))
  · rw [← e1]; simp only [QS, h1, Ye, YR]
  · (simp; omega)
 ·have q1 := h1; try simp at q1
  have x1 : QS (a0.length + 1) a1 0 a0 = (v1_0, v1_2) := by rw [← e1]; simp only [QS, h1, Ye, YR]
  simp
  refine UT (rv := [.tmp 4]) rfl ?_
  have f1 := Zr.eq_1 a0 a1; simp only [x1, Ye, YR] at f1; simp [f1]
theorem KI (a0 : List Int) (a1 : Int) : Qq Tryz.prog 22 (rL 1 iR a0) [rI a1] (rL 1 iR (ZB a0 a1).1) (.int .i64 (ZB a0 a1).2) := by
 refine QH Tryz.func22 rfl (by kernel_rfl) (fun v => ?_)
 simp [Tryz.ntmps22]
 refine okL fun k1 => ?_
 refine WC (ι := { s : Nat × Int × Nat × (List Int) // JD s.1 s.2.1 s.2.2.1 s.2.2.2 = JD (a0.length + 1) a1 0 a0 ∧ (1 ≤ s.1 ∧ s.2.2.2.length < s.1 + s.2.2.1) }) (fun s => YM 19 [(0, .fix v (.one (.sref 0 0 0 s.1.2.2.2.length)), [.arr true 1 (s.1.2.2.2.map iR)]), eI 1 s.1.2.1, eI 5 (↑s.1.2.2.1 : Int)]) (fun s => s.1.1) ⟨((a0.length + 1), a1, 0, a0), rfl, by first | omega | (dsimp only; omega) | simp⟩ (Yi (by simp)) ?_
 rintro ⟨⟨n1, v1_0, v1_1, v1_2⟩, e1, j1⟩
 try dsimp only at e1 j1
 obtain ⟨p1, rfl⟩ : ∃ p, n1 = p + 1 := ⟨n1 - 1, by omega⟩
 simp
 refine cC (decide ((↑v1_1 : Int) < (↑v1_2.length : Int))) (fun k2 h1 => ?_) (fun k2 h1 => ?_)
 ·have q1 := h1; try simp at q1
  have i1 : v1_1 < v1_2.length := by simpa using h1
  have m2 : v1_2.length ≤ 9223372036854775807 := by simpa using k2 0 _ rfl
  have w1 : IntKind.i64.wrap ((v1_1 : Int) + 1) = (v1_1 : Int) + 1 := ZT (by omega) (by omega)
  simp [i1, ZD, Zq (x := v1_0) rfl, Zh]
  repeat with_reducible refine sd ?_
  refine Ro ⟨(p1, (W (v1_0 + 1)), (v1_1 + 1), (v1_2.set v1_1 v1_0)), ?_, ?_⟩ (by simp) (Yi (by simp [w1]))
  · rw [← e1]; simp only [JD, h1, Ye, YR]
  · (simp; omega)
 ·have q1 := h1; try simp at q1
  have x1 : JD (a0.length + 1) a1 0 a0 = (v1_0, v1_2) := by rw [← e1]; simp only [JD, h1, Ye, YR]
  simp
  refine UT (rv := [.tmp 4]) rfl ?_
  have f1 := ZB.eq_1 a0 a1; simp only [x1, Ye, YR] at f1; simp [f1]
theorem VW (a0 : Int) : Sa 186 [rI a0] [rS (XD a0)] := by
 have f := me (XD.eq_1 a0)
 refine so Tryz.func186 Tryz.ntmps186 ?_
 refine cF f ?_ ?_ <;> intro k1 h1 f
 ·exact rt [.tmp 2] f
 refine lp2 (kZ.eq_2) (fun v1_0 v1_1 => YM 20 [eI 0 v1_0, (3, .one (.d (.str v1_1)), [])]) (fun n1 v1_0 v1_1 => (n1 = 22 ∨ v1_0.natAbs < 10 ^ (n1 - 1)) ∧ v1_1.size + n1 = 22) 22 a0 (⟨#[]⟩ : ByteArray) (fun p1 v1_0 v1_1 e1 j1 => ?_) (hI := by exact ⟨by omega, .inl rfl, rfl⟩)
 try dsimp only at j1
 refine cF e1 ?_ ?_ <;> intro k3 h2 e1
 ·refine toStr (l := ([(UInt8.ofInt (W (48 + (Int.tmod v1_0 10))))] : List UInt8)) rfl rfl rfl (by simp) (by simp) (by simp) (by simp [Kr, Bk]) ?_
  simp
  repeat with_reducible refine sd ?_
  exact nx2 e1 (hI := by (try dsimp only); obtain ⟨s1, s2⟩ := Bl j1.2.1 (show (v1_0 != 0) = true by simp at h2 ⊢; omega); refine ⟨s1, s2, ?_⟩; have := j1.2.2; simp; omega)
 have f := ms f e1
 exact rt [.tmp 2] f
theorem Tm (a0 : List ByteArray) (a1 : Int) : Qq Tryz.prog 151 (rL 1 sR a0) [rI a1] (rL 1 sR (ZA a0 a1).1) (.int .i64 (ZA a0 a1).2) := by
 refine QH Tryz.func151 rfl (by kernel_rfl) (fun v => ?_)
 simp [Tryz.ntmps151]
 refine okL fun k1 => ?_
 refine WC (ι := { s : Nat × Int × Nat × (List ByteArray) // Xt s.1 s.2.1 s.2.2.1 s.2.2.2 = Xt (a0.length + 1) a1 0 a0 ∧ (1 ≤ s.1 ∧ s.2.2.2.length < s.1 + s.2.2.1) }) (fun s => YM 20 [(0, .fix v (.one (.sref 0 0 0 s.1.2.2.2.length)), [.arr true 1 (s.1.2.2.2.map sR)]), eI 1 s.1.2.1, eI 5 (↑s.1.2.2.1 : Int)]) (fun s => s.1.1) ⟨((a0.length + 1), a1, 0, a0), rfl, by first | omega | (dsimp only; omega) | simp⟩ (Yi (by simp)) ?_
 rintro ⟨⟨n1, v1_0, v1_1, v1_2⟩, e1, j1⟩
 try dsimp only at e1 j1
 obtain ⟨p1, rfl⟩ : ∃ p, n1 = p + 1 := ⟨n1 - 1, by omega⟩
 simp
 refine cC (decide ((↑v1_1 : Int) < (↑v1_2.length : Int))) (fun k2 h1 => ?_) (fun k2 h1 => ?_)
 ·have q1 := h1; try simp at q1
  have i1 : v1_1 < v1_2.length := by simpa using h1
  have m2 : v1_2.length ≤ 9223372036854775807 := by simpa using k2 0 _ rfl
  have w1 : IntKind.i64.wrap ((v1_1 : Int) + 1) = (v1_1 : Int) + 1 := ZT (by omega) (by omega)
  simp
  refine cR (VW v1_0) ?_
  simp [i1, ZD, Zq (x := (XD v1_0)) rfl, Zh]
  repeat with_reducible refine sd ?_
  refine Ro ⟨(p1, (W (v1_0 + 1)), (v1_1 + 1), (v1_2.set v1_1 (XD v1_0))), ?_, ?_⟩ (by simp) (Yi (by simp [w1]))
  · rw [← e1]; simp only [Xt, h1, Ye, YR]
  · (simp; omega)
 ·have q1 := h1; try simp at q1
  have x1 : Xt (a0.length + 1) a1 0 a0 = (v1_0, v1_2) := by rw [← e1]; simp only [Xt, h1, Ye, YR]
  simp
  refine UT (rv := [.tmp 4]) rfl ?_
  have f1 := ZA.eq_1 a0 a1; simp only [x1, Ye, YR] at f1; simp [f1]
theorem Rm (a0 : List ZM) (a1 : Int) : Qq Tryz.prog 152 (rL 3 ZM.row a0) [rI a1] (rL 3 ZM.row (ZW a0 a1).1) (.int .i64 (ZW a0 a1).2) := by
 refine QH Tryz.func152 rfl (by kernel_rfl) (fun v => ?_)
 simp [Tryz.ntmps152]
 refine okL fun k1 => ?_
 refine WC (ι := { s : Nat × Int × Nat × (List ZM) // X9 s.1 s.2.1 s.2.2.1 s.2.2.2 = X9 (a0.length + 1) a1 0 a0 ∧ (1 ≤ s.1 ∧ s.2.2.2.length < s.1 + s.2.2.1) }) (fun s => YM 34 [(0, .fix v (.one (.sref 0 0 0 s.1.2.2.2.length)), [.arr true 3 (s.1.2.2.2.map ZM.row)]), eI 1 s.1.2.1, eI 5 (↑s.1.2.2.1 : Int)]) (fun s => s.1.1) ⟨((a0.length + 1), a1, 0, a0), rfl, by first | omega | (dsimp only; omega) | simp⟩ (Yi (by simp)) ?_
 rintro ⟨⟨n1, v1_0, v1_1, v1_2⟩, e1, j1⟩
 try dsimp only at e1 j1
 obtain ⟨p1, rfl⟩ : ∃ p, n1 = p + 1 := ⟨n1 - 1, by omega⟩
 simp
 refine cC (decide ((↑v1_1 : Int) < (↑v1_2.length : Int))) (fun k2 h1 => ?_) (fun k2 h1 => ?_)
 ·have q1 := h1; try simp at q1
  have i1 : v1_1 < v1_2.length := by simpa using h1
  have m2 : v1_2.length ≤ 9223372036854775807 := by simpa using k2 0 _ rfl
  have w1 : IntKind.i64.wrap ((v1_1 : Int) + 1) = (v1_1 : Int) + 1 := ZT (by omega) (by omega)
  simp [i1, ZD, Zq (x := (ZM.mk v1_0 (nth v1_2 v1_1).Yh (nth v1_2 v1_1).Mark)) rfl, Zh]
  repeat with_reducible refine sd ?_
  refine W8 (t := 0) (j := 0) (i := v1_1) (c := 1) (size := 3) (rows := ((v1_2.set v1_1 (ZM.mk v1_0 (nth v1_2 v1_1).Yh (nth v1_2 v1_1).Mark)).map ZM.row)) rfl rfl rfl rfl rfl rfl rfl (KI (nth v1_2 v1_1).Yh (W (v1_0 + 1))) (by simp) (by simp) (by simp [m2, i1]) (by simp [ZD, Zh, m2, i1]) (by simp) (by simp) (by simp) ?_
  simp [List.set_set, Zq (x := (ZM.mk v1_0 (ZB (nth v1_2 v1_1).Yh (W (v1_0 + 1))).1 (nth v1_2 v1_1).Mark)) rfl, ZD, Zh, m2, i1, Zq (x := (ZM.mk v1_0 (ZB (nth v1_2 v1_1).Yh (W (v1_0 + 1))).1 (ZB (nth v1_2 v1_1).Yh (W (v1_0 + 1))).2)) rfl]
  repeat with_reducible refine sd ?_
  refine Ro ⟨(p1, (W ((ZB (nth v1_2 v1_1).Yh (W (v1_0 + 1))).2 + 1)), (v1_1 + 1), (v1_2.set v1_1 (ZM.mk v1_0 (ZB (nth v1_2 v1_1).Yh (W (v1_0 + 1))).1 (ZB (nth v1_2 v1_1).Yh (W (v1_0 + 1))).2))), ?_, ?_⟩ (by simp) (Yi (by simp [w1]))
  · rw [← e1]; simp only [X9, h1, Ye, YR]
  · (simp; omega)
 ·have q1 := h1; try simp at q1
  have x1 : X9 (a0.length + 1) a1 0 a0 = (v1_0, v1_2) := by rw [← e1]; simp only [X9, h1, Ye, YR]
  simp
  refine UT (rv := [.tmp 4]) rfl ?_
  have f1 := ZW.eq_1 a0 a1; simp only [x1, Ye, YR] at f1; simp [f1]
theorem PG (a0 : List Z4) (a1 : Int) : Qq Tryz.prog 187 (rL 2 Z4.row a0) [rI a1] (rL 2 Z4.row (ZZ a0 a1).1) (.int .i64 (ZZ a0 a1).2) := by
 refine QH Tryz.func187 rfl (by kernel_rfl) (fun v => ?_)
 simp [Tryz.ntmps187]
 refine okL fun k1 => ?_
 refine WC (ι := { s : Nat × Int × Nat × (List Z4) // QT s.1 s.2.1 s.2.2.1 s.2.2.2 = QT (a0.length + 1) a1 0 a0 ∧ (1 ≤ s.1 ∧ s.2.2.2.length < s.1 + s.2.2.1) }) (fun s => YM 29 [(0, .fix v (.one (.sref 0 0 0 s.1.2.2.2.length)), [.arr true 2 (s.1.2.2.2.map Z4.row)]), eI 1 s.1.2.1, eI 5 (↑s.1.2.2.1 : Int)]) (fun s => s.1.1) ⟨((a0.length + 1), a1, 0, a0), rfl, by first | omega | (dsimp only; omega) | simp⟩ (Yi (by simp)) ?_
 rintro ⟨⟨n1, v1_0, v1_1, v1_2⟩, e1, j1⟩
 try dsimp only at e1 j1
 obtain ⟨p1, rfl⟩ : ∃ p, n1 = p + 1 := ⟨n1 - 1, by omega⟩
 simp
 refine cC (decide ((↑v1_1 : Int) < (↑v1_2.length : Int))) (fun k2 h1 => ?_) (fun k2 h1 => ?_)
 ·have q1 := h1; try simp at q1
  have i1 : v1_1 < v1_2.length := by simpa using h1
  have m2 : v1_2.length ≤ 9223372036854775807 := by simpa using k2 0 _ rfl
  have w1 : IntKind.i64.wrap ((v1_1 : Int) + 1) = (v1_1 : Int) + 1 := ZT (by omega) (by omega)
  simp [i1, ZD, Zq (x := (Z4.mk v1_0 (nth v1_2 v1_1).Left)) rfl, Zh, List.set_set, Zq (x := (Z4.mk v1_0 ((Int.tmod (W (v1_0 + 1)) 3) == 0))) rfl]
  repeat with_reducible refine sd ?_
  refine Ro ⟨(p1, (W ((W (v1_0 + 1)) + 1)), (v1_1 + 1), (v1_2.set v1_1 (Z4.mk v1_0 ((Int.tmod (W (v1_0 + 1)) 3) == 0)))), ?_, ?_⟩ (by simp) (Yi (by simp [w1]))
  · rw [← e1]; simp only [QT, h1, Ye, YR]
  · (simp; omega)
 ·have q1 := h1; try simp at q1
  have x1 : QT (a0.length + 1) a1 0 a0 = (v1_0, v1_2) := by rw [← e1]; simp only [QT, h1, Ye, YR]
  simp
  refine UT (rv := [.tmp 4]) rfl ?_
  have f1 := ZZ.eq_1 a0 a1; simp only [x1, Ye, YR] at f1; simp [f1]
theorem RI (a0 : List Za) (a1 : Int) : Qq Tryz.prog 188 (rL 5 Za.row a0) [rI a1] (rL 5 Za.row (Zo a0 a1).1) (.int .i64 (Zo a0 a1).2) := by
 refine QH Tryz.func188 rfl (by kernel_rfl) (fun v => ?_)
 simp [Tryz.ntmps188]
 refine okL fun k1 => ?_
 refine WC (ι := { s : Nat × Int × Nat × (List Za) // QF s.1 s.2.1 s.2.2.1 s.2.2.2 = QF (a0.length + 1) a1 0 a0 ∧ (1 ≤ s.1 ∧ s.2.2.2.length < s.1 + s.2.2.1) }) (fun s => YM 48 [(0, .fix v (.one (.sref 0 0 0 s.1.2.2.2.length)), [.arr true 5 (s.1.2.2.2.map Za.row)]), eI 1 s.1.2.1, eI 5 (↑s.1.2.2.1 : Int)]) (fun s => s.1.1) ⟨((a0.length + 1), a1, 0, a0), rfl, by first | omega | (dsimp only; omega) | simp⟩ (Yi (by simp)) ?_
 rintro ⟨⟨n1, v1_0, v1_1, v1_2⟩, e1, j1⟩
 try dsimp only at e1 j1
 obtain ⟨p1, rfl⟩ : ∃ p, n1 = p + 1 := ⟨n1 - 1, by omega⟩
 simp
 refine cC (decide ((↑v1_1 : Int) < (↑v1_2.length : Int))) (fun k2 h1 => ?_) (fun k2 h1 => ?_)
 ·have q1 := h1; try simp at q1
  have i1 : v1_1 < v1_2.length := by simpa using h1
  have m2 : v1_2.length ≤ 9223372036854775807 := by simpa using k2 0 _ rfl
  have w1 : IntKind.i64.wrap ((v1_1 : Int) + 1) = (v1_1 : Int) + 1 := ZT (by omega) (by omega)
  simp [i1, ZD, Zq (x := (Za.mk v1_0 (nth v1_2 v1_1).Seq (nth v1_2 v1_1).Time (nth v1_2 v1_1).YZ (nth v1_2 v1_1).Mark)) rfl, Zh, List.set_set, Zq (x := (Za.mk v1_0 (W (v1_0 + 1)) (nth v1_2 v1_1).Time (nth v1_2 v1_1).YZ (nth v1_2 v1_1).Mark)) rfl, Zq (x := (Za.mk v1_0 (W (v1_0 + 1)) (W ((W (v1_0 + 1)) + 1)) (nth v1_2 v1_1).YZ (nth v1_2 v1_1).Mark)) rfl, Zq (x := (Za.mk v1_0 (W (v1_0 + 1)) (W ((W (v1_0 + 1)) + 1)) (W ((W ((W (v1_0 + 1)) + 1)) + 1)) (nth v1_2 v1_1).Mark)) rfl, Zq (x := (Za.mk v1_0 (W (v1_0 + 1)) (W ((W (v1_0 + 1)) + 1)) (W ((W ((W (v1_0 + 1)) + 1)) + 1)) (W ((W ((W ((W (v1_0 + 1)) + 1)) + 1)) + 1)))) rfl]
  repeat with_reducible refine sd ?_
  refine Ro ⟨(p1, (W ((W ((W ((W ((W (v1_0 + 1)) + 1)) + 1)) + 1)) + 1)), (v1_1 + 1), (v1_2.set v1_1 (Za.mk v1_0 (W (v1_0 + 1)) (W ((W (v1_0 + 1)) + 1)) (W ((W ((W (v1_0 + 1)) + 1)) + 1)) (W ((W ((W ((W (v1_0 + 1)) + 1)) + 1)) + 1))))), ?_, ?_⟩ (by simp) (Yi (by simp [w1]))
  · rw [← e1]; simp only [QF, h1, Ye, YR]
  · (simp; omega)
 ·have q1 := h1; try simp at q1
  have x1 : QF (a0.length + 1) a1 0 a0 = (v1_0, v1_2) := by rw [← e1]; simp only [QF, h1, Ye, YR]
  simp
  refine UT (rv := [.tmp 4]) rfl ?_
  have f1 := Zo.eq_1 a0 a1; simp only [x1, Ye, YR] at f1; simp [f1]
theorem Ue (a0 : List ZL) (a1 : Int) : Qq Tryz.prog 153 (rL 5 ZL.row a0) [rI a1] (rL 5 ZL.row (Zg a0 a1).1) (.int .i64 (Zg a0 a1).2) := by
 refine QH Tryz.func153 rfl (by kernel_rfl) (fun v => ?_)
 simp [Tryz.ntmps153]
 refine okL fun k1 => ?_
 refine WC (ι := { s : Nat × Int × Nat × (List ZL) // Xc s.1 s.2.1 s.2.2.1 s.2.2.2 = Xc (a0.length + 1) a1 0 a0 ∧ (1 ≤ s.1 ∧ s.2.2.2.length < s.1 + s.2.2.1) }) (fun s => YM 48 [(0, .fix v (.one (.sref 0 0 0 s.1.2.2.2.length)), [.arr true 5 (s.1.2.2.2.map ZL.row)]), eI 1 s.1.2.1, eI 5 (↑s.1.2.2.1 : Int)]) (fun s => s.1.1) ⟨((a0.length + 1), a1, 0, a0), rfl, by first | omega | (dsimp only; omega) | simp⟩ (Yi (by simp)) ?_
 rintro ⟨⟨n1, v1_0, v1_1, v1_2⟩, e1, j1⟩
 try dsimp only at e1 j1
 obtain ⟨p1, rfl⟩ : ∃ p, n1 = p + 1 := ⟨n1 - 1, by omega⟩
 simp
 refine cC (decide ((↑v1_1 : Int) < (↑v1_2.length : Int))) (fun k2 h1 => ?_) (fun k2 h1 => ?_)
 ·have q1 := h1; try simp at q1
  have i1 : v1_1 < v1_2.length := by simpa using h1
  have m2 : v1_2.length ≤ 9223372036854775807 := by simpa using k2 0 _ rfl
  have w1 : IntKind.i64.wrap ((v1_1 : Int) + 1) = (v1_1 : Int) + 1 := ZT (by omega) (by omega)
  simp [i1, ZD, Zq (x := (ZL.mk v1_0 (nth v1_2 v1_1).Method (nth v1_2 v1_1).Ud (nth v1_2 v1_1).Path (nth v1_2 v1_1).Zu)) rfl, Zh, List.set_set, Zq (x := (ZL.mk v1_0 (W (v1_0 + 1)) (nth v1_2 v1_1).Ud (nth v1_2 v1_1).Path (nth v1_2 v1_1).Zu)) rfl, Zq (x := (ZL.mk v1_0 (W (v1_0 + 1)) (W ((W (v1_0 + 1)) + 1)) (nth v1_2 v1_1).Path (nth v1_2 v1_1).Zu)) rfl]
  repeat with_reducible refine sd ?_
  refine W8 (t := 0) (j := 0) (i := v1_1) (c := 3) (size := 5) (rows := ((v1_2.set v1_1 (ZL.mk v1_0 (W (v1_0 + 1)) (W ((W (v1_0 + 1)) + 1)) (nth v1_2 v1_1).Path (nth v1_2 v1_1).Zu)).map ZL.row)) rfl rfl rfl rfl rfl rfl rfl (PG (nth v1_2 v1_1).Path (W ((W ((W (v1_0 + 1)) + 1)) + 1))) (by simp) (by simp) (by simp [m2, i1]) (by simp [ZD, Zh, m2, i1]) (by simp) (by simp) (by simp) ?_
  simp [List.set_set, Zq (x := (ZL.mk v1_0 (W (v1_0 + 1)) (W ((W (v1_0 + 1)) + 1)) (ZZ (nth v1_2 v1_1).Path (W ((W ((W (v1_0 + 1)) + 1)) + 1))).1 (nth v1_2 v1_1).Zu)) rfl, ZD, Zh, m2, i1]
  repeat with_reducible refine sd ?_
  refine W8 (t := 0) (j := 0) (i := v1_1) (c := 4) (size := 5) (rows := ((v1_2.set v1_1 (ZL.mk v1_0 (W (v1_0 + 1)) (W ((W (v1_0 + 1)) + 1)) (ZZ (nth v1_2 v1_1).Path (W ((W ((W (v1_0 + 1)) + 1)) + 1))).1 (nth v1_2 v1_1).Zu)).map ZL.row)) rfl rfl rfl rfl rfl rfl rfl (RI (nth v1_2 v1_1).Zu (ZZ (nth v1_2 v1_1).Path (W ((W ((W (v1_0 + 1)) + 1)) + 1))).2) (by simp) (by simp) (by simp [m2, i1]) (by simp [ZD, Zh, m2, i1]) (by simp) (by simp) (by simp) ?_
  simp [List.set_set, Zq (x := (ZL.mk v1_0 (W (v1_0 + 1)) (W ((W (v1_0 + 1)) + 1)) (ZZ (nth v1_2 v1_1).Path (W ((W ((W (v1_0 + 1)) + 1)) + 1))).1 (Zo (nth v1_2 v1_1).Zu (ZZ (nth v1_2 v1_1).Path (W ((W ((W (v1_0 + 1)) + 1)) + 1))).2).1)) rfl, ZD, Zh, m2, i1]
  repeat with_reducible refine sd ?_
  refine Ro ⟨(p1, (Zo (nth v1_2 v1_1).Zu (ZZ (nth v1_2 v1_1).Path (W ((W ((W (v1_0 + 1)) + 1)) + 1))).2).2, (v1_1 + 1), (v1_2.set v1_1 (ZL.mk v1_0 (W (v1_0 + 1)) (W ((W (v1_0 + 1)) + 1)) (ZZ (nth v1_2 v1_1).Path (W ((W ((W (v1_0 + 1)) + 1)) + 1))).1 (Zo (nth v1_2 v1_1).Zu (ZZ (nth v1_2 v1_1).Path (W ((W ((W (v1_0 + 1)) + 1)) + 1))).2).1))), ?_, ?_⟩ (by simp) (Yi (by simp [w1]))
  · rw [← e1]; simp only [Xc, h1, Ye, YR]
  · (simp; omega)
 ·have q1 := h1; try simp at q1
  have x1 : Xc (a0.length + 1) a1 0 a0 = (v1_0, v1_2) := by rw [← e1]; simp only [Xc, h1, Ye, YR]
  simp
  refine UT (rv := [.tmp 4]) rfl ?_
  have f1 := Zg.eq_1 a0 a1; simp only [x1, Ye, YR] at f1; simp [f1]
theorem R6 (a0 : List ZI) (a1 : Int) : Qq Tryz.prog 99 (rL 16 ZI.row a0) [rI a1] (rL 16 ZI.row (Zv a0 a1).1) (.int .i64 (Zv a0 a1).2) := by
 refine QH Tryz.func99 rfl (by kernel_rfl) (fun v => ?_)
 simp [Tryz.ntmps99]
 refine okL fun k1 => ?_
 refine WC (ι := { s : Nat × Int × Nat × (List ZI) // QX s.1 s.2.1 s.2.2.1 s.2.2.2 = QX (a0.length + 1) a1 0 a0 ∧ (1 ≤ s.1 ∧ s.2.2.2.length < s.1 + s.2.2.1) }) (fun s => YM 139 [(0, .fix v (.one (.sref 0 0 0 s.1.2.2.2.length)), [.arr true 16 (s.1.2.2.2.map ZI.row)]), eI 1 s.1.2.1, eI 5 (↑s.1.2.2.1 : Int)]) (fun s => s.1.1) ⟨((a0.length + 1), a1, 0, a0), rfl, by first | omega | (dsimp only; omega) | simp⟩ (Yi (by simp)) ?_
 rintro ⟨⟨n1, v1_0, v1_1, v1_2⟩, e1, j1⟩
 try dsimp only at e1 j1
 obtain ⟨p1, rfl⟩ : ∃ p, n1 = p + 1 := ⟨n1 - 1, by omega⟩
 simp
 refine cC (decide ((↑v1_1 : Int) < (↑v1_2.length : Int))) (fun k2 h1 => ?_) (fun k2 h1 => ?_)
 ·have q1 := h1; try simp at q1
  have i1 : v1_1 < v1_2.length := by simpa using h1
  have m2 : v1_2.length ≤ 9223372036854775807 := by simpa using k2 0 _ rfl
  have w1 : IntKind.i64.wrap ((v1_1 : Int) + 1) = (v1_1 : Int) + 1 := ZT (by omega) (by omega)
  simp [i1, ZD, Zq (x := (ZI.mk v1_0 (nth v1_2 v1_1).Yo (nth v1_2 v1_1).Doc (nth v1_2 v1_1).Sig (nth v1_2 v1_1).ZQ)) rfl, Zh, List.set_set, Zq (x := (ZI.mk v1_0 (W (v1_0 + 1)) (nth v1_2 v1_1).Doc (nth v1_2 v1_1).Sig (nth v1_2 v1_1).ZQ)) rfl, Zq (x := (ZI.mk v1_0 (W (v1_0 + 1)) (ZR.mk (W ((W (v1_0 + 1)) + 1)) (nth v1_2 v1_1).Doc.ZE (nth v1_2 v1_1).Doc.ZG) (nth v1_2 v1_1).Sig (nth v1_2 v1_1).ZQ)) rfl]
  repeat with_reducible refine sd ?_
  refine W8 (t := 0) (j := 0) (i := v1_1) (c := 3) (size := 16) (rows := ((v1_2.set v1_1 (ZI.mk v1_0 (W (v1_0 + 1)) (ZR.mk (W ((W (v1_0 + 1)) + 1)) (nth v1_2 v1_1).Doc.ZE (nth v1_2 v1_1).Doc.ZG) (nth v1_2 v1_1).Sig (nth v1_2 v1_1).ZQ)).map ZI.row)) rfl rfl rfl rfl rfl rfl rfl (Tm (nth v1_2 v1_1).Doc.ZE (W ((W ((W (v1_0 + 1)) + 1)) + 1))) (by simp) (by simp) (by simp [m2, i1]) (by simp [ZD, Zh, m2, i1]) (by simp) (by simp) (by simp) ?_
  simp [List.set_set, Zq (x := (ZI.mk v1_0 (W (v1_0 + 1)) (ZR.mk (W ((W (v1_0 + 1)) + 1)) (ZA (nth v1_2 v1_1).Doc.ZE (W ((W ((W (v1_0 + 1)) + 1)) + 1))).1 (nth v1_2 v1_1).Doc.ZG) (nth v1_2 v1_1).Sig (nth v1_2 v1_1).ZQ)) rfl, ZD, Zh, m2, i1]
  repeat with_reducible refine sd ?_
  refine W8 (t := 0) (j := 0) (i := v1_1) (c := 4) (size := 16) (rows := ((v1_2.set v1_1 (ZI.mk v1_0 (W (v1_0 + 1)) (ZR.mk (W ((W (v1_0 + 1)) + 1)) (ZA (nth v1_2 v1_1).Doc.ZE (W ((W ((W (v1_0 + 1)) + 1)) + 1))).1 (nth v1_2 v1_1).Doc.ZG) (nth v1_2 v1_1).Sig (nth v1_2 v1_1).ZQ)).map ZI.row)) rfl rfl rfl rfl rfl rfl rfl (KI (nth v1_2 v1_1).Doc.ZG (ZA (nth v1_2 v1_1).Doc.ZE (W ((W ((W (v1_0 + 1)) + 1)) + 1))).2) (by simp) (by simp) (by simp [m2, i1]) (by simp [ZD, Zh, m2, i1]) (by simp) (by simp) (by simp) ?_
  simp [List.set_set, Zq (x := (ZI.mk v1_0 (W (v1_0 + 1)) (ZR.mk (W ((W (v1_0 + 1)) + 1)) (ZA (nth v1_2 v1_1).Doc.ZE (W ((W ((W (v1_0 + 1)) + 1)) + 1))).1 (ZB (nth v1_2 v1_1).Doc.ZG (ZA (nth v1_2 v1_1).Doc.ZE (W ((W ((W (v1_0 + 1)) + 1)) + 1))).2).1) (nth v1_2 v1_1).Sig (nth v1_2 v1_1).ZQ)) rfl, ZD, Zh, m2, i1, Zq (x := (ZI.mk v1_0 (W (v1_0 + 1)) (ZR.mk (W ((W (v1_0 + 1)) + 1)) (ZA (nth v1_2 v1_1).Doc.ZE (W ((W ((W (v1_0 + 1)) + 1)) + 1))).1 (ZB (nth v1_2 v1_1).Doc.ZG (ZA (nth v1_2 v1_1).Doc.ZE (W ((W ((W (v1_0 + 1)) + 1)) + 1))).2).1) (Zb.mk (ZB (nth v1_2 v1_1).Doc.ZG (ZA (nth v1_2 v1_1).Doc.ZE (W ((W ((W (v1_0 + 1)) + 1)) + 1))).2).2 (nth v1_2 v1_1).Sig.QM (nth v1_2 v1_1).Sig.Method (nth v1_2 v1_1).Sig.YZ (nth v1_2 v1_1).Sig.zP (nth v1_2 v1_1).Sig.Org (nth v1_2 v1_1).Sig.KY (nth v1_2 v1_1).Sig.yZ (nth v1_2 v1_1).Sig.Mark) (nth v1_2 v1_1).ZQ)) rfl, Zq (x := (ZI.mk v1_0 (W (v1_0 + 1)) (ZR.mk (W ((W (v1_0 + 1)) + 1)) (ZA (nth v1_2 v1_1).Doc.ZE (W ((W ((W (v1_0 + 1)) + 1)) + 1))).1 (ZB (nth v1_2 v1_1).Doc.ZG (ZA (nth v1_2 v1_1).Doc.ZE (W ((W ((W (v1_0 + 1)) + 1)) + 1))).2).1) (Zb.mk (ZB (nth v1_2 v1_1).Doc.ZG (ZA (nth v1_2 v1_1).Doc.ZE (W ((W ((W (v1_0 + 1)) + 1)) + 1))).2).2 (W ((ZB (nth v1_2 v1_1).Doc.ZG (ZA (nth v1_2 v1_1).Doc.ZE (W ((W ((W (v1_0 + 1)) + 1)) + 1))).2).2 + 1)) (nth v1_2 v1_1).Sig.Method (nth v1_2 v1_1).Sig.YZ (nth v1_2 v1_1).Sig.zP (nth v1_2 v1_1).Sig.Org (nth v1_2 v1_1).Sig.KY (nth v1_2 v1_1).Sig.yZ (nth v1_2 v1_1).Sig.Mark) (nth v1_2 v1_1).ZQ)) rfl, Zq (x := (ZI.mk v1_0 (W (v1_0 + 1)) (ZR.mk (W ((W (v1_0 + 1)) + 1)) (ZA (nth v1_2 v1_1).Doc.ZE (W ((W ((W (v1_0 + 1)) + 1)) + 1))).1 (ZB (nth v1_2 v1_1).Doc.ZG (ZA (nth v1_2 v1_1).Doc.ZE (W ((W ((W (v1_0 + 1)) + 1)) + 1))).2).1) (Zb.mk (ZB (nth v1_2 v1_1).Doc.ZG (ZA (nth v1_2 v1_1).Doc.ZE (W ((W ((W (v1_0 + 1)) + 1)) + 1))).2).2 (W ((ZB (nth v1_2 v1_1).Doc.ZG (ZA (nth v1_2 v1_1).Doc.ZE (W ((W ((W (v1_0 + 1)) + 1)) + 1))).2).2 + 1)) (W ((W ((ZB (nth v1_2 v1_1).Doc.ZG (ZA (nth v1_2 v1_1).Doc.ZE (W ((W ((W (v1_0 + 1)) + 1)) + 1))).2).2 + 1)) + 1)) (nth v1_2 v1_1).Sig.YZ (nth v1_2 v1_1).Sig.zP (nth v1_2 v1_1).Sig.Org (nth v1_2 v1_1).Sig.KY (nth v1_2 v1_1).Sig.yZ (nth v1_2 v1_1).Sig.Mark) (nth v1_2 v1_1).ZQ)) rfl, Zq (x := (ZI.mk v1_0 (W (v1_0 + 1)) (ZR.mk (W ((W (v1_0 + 1)) + 1)) (ZA (nth v1_2 v1_1).Doc.ZE (W ((W ((W (v1_0 + 1)) + 1)) + 1))).1 (ZB (nth v1_2 v1_1).Doc.ZG (ZA (nth v1_2 v1_1).Doc.ZE (W ((W ((W (v1_0 + 1)) + 1)) + 1))).2).1) (Zb.mk (ZB (nth v1_2 v1_1).Doc.ZG (ZA (nth v1_2 v1_1).Doc.ZE (W ((W ((W (v1_0 + 1)) + 1)) + 1))).2).2 (W ((ZB (nth v1_2 v1_1).Doc.ZG (ZA (nth v1_2 v1_1).Doc.ZE (W ((W ((W (v1_0 + 1)) + 1)) + 1))).2).2 + 1)) (W ((W ((ZB (nth v1_2 v1_1).Doc.ZG (ZA (nth v1_2 v1_1).Doc.ZE (W ((W ((W (v1_0 + 1)) + 1)) + 1))).2).2 + 1)) + 1)) (W ((W ((W ((ZB (nth v1_2 v1_1).Doc.ZG (ZA (nth v1_2 v1_1).Doc.ZE (W ((W ((W (v1_0 + 1)) + 1)) + 1))).2).2 + 1)) + 1)) + 1)) (nth v1_2 v1_1).Sig.zP (nth v1_2 v1_1).Sig.Org (nth v1_2 v1_1).Sig.KY (nth v1_2 v1_1).Sig.yZ (nth v1_2 v1_1).Sig.Mark) (nth v1_2 v1_1).ZQ)) rfl, Zq (x := (ZI.mk v1_0 (W (v1_0 + 1)) (ZR.mk (W ((W (v1_0 + 1)) + 1)) (ZA (nth v1_2 v1_1).Doc.ZE (W ((W ((W (v1_0 + 1)) + 1)) + 1))).1 (ZB (nth v1_2 v1_1).Doc.ZG (ZA (nth v1_2 v1_1).Doc.ZE (W ((W ((W (v1_0 + 1)) + 1)) + 1))).2).1) (Zb.mk (ZB (nth v1_2 v1_1).Doc.ZG (ZA (nth v1_2 v1_1).Doc.ZE (W ((W ((W (v1_0 + 1)) + 1)) + 1))).2).2 (W ((ZB (nth v1_2 v1_1).Doc.ZG (ZA (nth v1_2 v1_1).Doc.ZE (W ((W ((W (v1_0 + 1)) + 1)) + 1))).2).2 + 1)) (W ((W ((ZB (nth v1_2 v1_1).Doc.ZG (ZA (nth v1_2 v1_1).Doc.ZE (W ((W ((W (v1_0 + 1)) + 1)) + 1))).2).2 + 1)) + 1)) (W ((W ((W ((ZB (nth v1_2 v1_1).Doc.ZG (ZA (nth v1_2 v1_1).Doc.ZE (W ((W ((W (v1_0 + 1)) + 1)) + 1))).2).2 + 1)) + 1)) + 1)) (W ((W ((W ((W ((ZB (nth v1_2 v1_1).Doc.ZG (ZA (nth v1_2 v1_1).Doc.ZE (W ((W ((W (v1_0 + 1)) + 1)) + 1))).2).2 + 1)) + 1)) + 1)) + 1)) (nth v1_2 v1_1).Sig.Org (nth v1_2 v1_1).Sig.KY (nth v1_2 v1_1).Sig.yZ (nth v1_2 v1_1).Sig.Mark) (nth v1_2 v1_1).ZQ)) rfl, Zq (x := (ZI.mk v1_0 (W (v1_0 + 1)) (ZR.mk (W ((W (v1_0 + 1)) + 1)) (ZA (nth v1_2 v1_1).Doc.ZE (W ((W ((W (v1_0 + 1)) + 1)) + 1))).1 (ZB (nth v1_2 v1_1).Doc.ZG (ZA (nth v1_2 v1_1).Doc.ZE (W ((W ((W (v1_0 + 1)) + 1)) + 1))).2).1) (Zb.mk (ZB (nth v1_2 v1_1).Doc.ZG (ZA (nth v1_2 v1_1).Doc.ZE (W ((W ((W (v1_0 + 1)) + 1)) + 1))).2).2 (W ((ZB (nth v1_2 v1_1).Doc.ZG (ZA (nth v1_2 v1_1).Doc.ZE (W ((W ((W (v1_0 + 1)) + 1)) + 1))).2).2 + 1)) (W ((W ((ZB (nth v1_2 v1_1).Doc.ZG (ZA (nth v1_2 v1_1).Doc.ZE (W ((W ((W (v1_0 + 1)) + 1)) + 1))).2).2 + 1)) + 1)) (W ((W ((W ((ZB (nth v1_2 v1_1).Doc.ZG (ZA (nth v1_2 v1_1).Doc.ZE (W ((W ((W (v1_0 + 1)) + 1)) + 1))).2).2 + 1)) + 1)) + 1)) (W ((W ((W ((W ((ZB (nth v1_2 v1_1).Doc.ZG (ZA (nth v1_2 v1_1).Doc.ZE (W ((W ((W (v1_0 + 1)) + 1)) + 1))).2).2 + 1)) + 1)) + 1)) + 1)) (W ((W ((W ((W ((W ((ZB (nth v1_2 v1_1).Doc.ZG (ZA (nth v1_2 v1_1).Doc.ZE (W ((W ((W (v1_0 + 1)) + 1)) + 1))).2).2 + 1)) + 1)) + 1)) + 1)) + 1)) (nth v1_2 v1_1).Sig.KY (nth v1_2 v1_1).Sig.yZ (nth v1_2 v1_1).Sig.Mark) (nth v1_2 v1_1).ZQ)) rfl, Zq (x := (ZI.mk v1_0 (W (v1_0 + 1)) (ZR.mk (W ((W (v1_0 + 1)) + 1)) (ZA (nth v1_2 v1_1).Doc.ZE (W ((W ((W (v1_0 + 1)) + 1)) + 1))).1 (ZB (nth v1_2 v1_1).Doc.ZG (ZA (nth v1_2 v1_1).Doc.ZE (W ((W ((W (v1_0 + 1)) + 1)) + 1))).2).1) (Zb.mk (ZB (nth v1_2 v1_1).Doc.ZG (ZA (nth v1_2 v1_1).Doc.ZE (W ((W ((W (v1_0 + 1)) + 1)) + 1))).2).2 (W ((ZB (nth v1_2 v1_1).Doc.ZG (ZA (nth v1_2 v1_1).Doc.ZE (W ((W ((W (v1_0 + 1)) + 1)) + 1))).2).2 + 1)) (W ((W ((ZB (nth v1_2 v1_1).Doc.ZG (ZA (nth v1_2 v1_1).Doc.ZE (W ((W ((W (v1_0 + 1)) + 1)) + 1))).2).2 + 1)) + 1)) (W ((W ((W ((ZB (nth v1_2 v1_1).Doc.ZG (ZA (nth v1_2 v1_1).Doc.ZE (W ((W ((W (v1_0 + 1)) + 1)) + 1))).2).2 + 1)) + 1)) + 1)) (W ((W ((W ((W ((ZB (nth v1_2 v1_1).Doc.ZG (ZA (nth v1_2 v1_1).Doc.ZE (W ((W ((W (v1_0 + 1)) + 1)) + 1))).2).2 + 1)) + 1)) + 1)) + 1)) (W ((W ((W ((W ((W ((ZB (nth v1_2 v1_1).Doc.ZG (ZA (nth v1_2 v1_1).Doc.ZE (W ((W ((W (v1_0 + 1)) + 1)) + 1))).2).2 + 1)) + 1)) + 1)) + 1)) + 1)) (W ((W ((W ((W ((W ((W ((ZB (nth v1_2 v1_1).Doc.ZG (ZA (nth v1_2 v1_1).Doc.ZE (W ((W ((W (v1_0 + 1)) + 1)) + 1))).2).2 + 1)) + 1)) + 1)) + 1)) + 1)) + 1)) (nth v1_2 v1_1).Sig.yZ (nth v1_2 v1_1).Sig.Mark) (nth v1_2 v1_1).ZQ)) rfl, Zq (x := (ZI.mk v1_0 (W (v1_0 + 1)) (ZR.mk (W ((W (v1_0 + 1)) + 1)) (ZA (nth v1_2 v1_1).Doc.ZE (W ((W ((W (v1_0 + 1)) + 1)) + 1))).1 (ZB (nth v1_2 v1_1).Doc.ZG (ZA (nth v1_2 v1_1).Doc.ZE (W ((W ((W (v1_0 + 1)) + 1)) + 1))).2).1) (Zb.mk (ZB (nth v1_2 v1_1).Doc.ZG (ZA (nth v1_2 v1_1).Doc.ZE (W ((W ((W (v1_0 + 1)) + 1)) + 1))).2).2 (W ((ZB (nth v1_2 v1_1).Doc.ZG (ZA (nth v1_2 v1_1).Doc.ZE (W ((W ((W (v1_0 + 1)) + 1)) + 1))).2).2 + 1)) (W ((W ((ZB (nth v1_2 v1_1).Doc.ZG (ZA (nth v1_2 v1_1).Doc.ZE (W ((W ((W (v1_0 + 1)) + 1)) + 1))).2).2 + 1)) + 1)) (W ((W ((W ((ZB (nth v1_2 v1_1).Doc.ZG (ZA (nth v1_2 v1_1).Doc.ZE (W ((W ((W (v1_0 + 1)) + 1)) + 1))).2).2 + 1)) + 1)) + 1)) (W ((W ((W ((W ((ZB (nth v1_2 v1_1).Doc.ZG (ZA (nth v1_2 v1_1).Doc.ZE (W ((W ((W (v1_0 + 1)) + 1)) + 1))).2).2 + 1)) + 1)) + 1)) + 1)) (W ((W ((W ((W ((W ((ZB (nth v1_2 v1_1).Doc.ZG (ZA (nth v1_2 v1_1).Doc.ZE (W ((W ((W (v1_0 + 1)) + 1)) + 1))).2).2 + 1)) + 1)) + 1)) + 1)) + 1)) (W ((W ((W ((W ((W ((W ((ZB (nth v1_2 v1_1).Doc.ZG (ZA (nth v1_2 v1_1).Doc.ZE (W ((W ((W (v1_0 + 1)) + 1)) + 1))).2).2 + 1)) + 1)) + 1)) + 1)) + 1)) + 1)) (W ((W ((W ((W ((W ((W ((W ((ZB (nth v1_2 v1_1).Doc.ZG (ZA (nth v1_2 v1_1).Doc.ZE (W ((W ((W (v1_0 + 1)) + 1)) + 1))).2).2 + 1)) + 1)) + 1)) + 1)) + 1)) + 1)) + 1)) (nth v1_2 v1_1).Sig.Mark) (nth v1_2 v1_1).ZQ)) rfl, Zq (x := (ZI.mk v1_0 (W (v1_0 + 1)) (ZR.mk (W ((W (v1_0 + 1)) + 1)) (ZA (nth v1_2 v1_1).Doc.ZE (W ((W ((W (v1_0 + 1)) + 1)) + 1))).1 (ZB (nth v1_2 v1_1).Doc.ZG (ZA (nth v1_2 v1_1).Doc.ZE (W ((W ((W (v1_0 + 1)) + 1)) + 1))).2).1) (Zb.mk (ZB (nth v1_2 v1_1).Doc.ZG (ZA (nth v1_2 v1_1).Doc.ZE (W ((W ((W (v1_0 + 1)) + 1)) + 1))).2).2 (W ((ZB (nth v1_2 v1_1).Doc.ZG (ZA (nth v1_2 v1_1).Doc.ZE (W ((W ((W (v1_0 + 1)) + 1)) + 1))).2).2 + 1)) (W ((W ((ZB (nth v1_2 v1_1).Doc.ZG (ZA (nth v1_2 v1_1).Doc.ZE (W ((W ((W (v1_0 + 1)) + 1)) + 1))).2).2 + 1)) + 1)) (W ((W ((W ((ZB (nth v1_2 v1_1).Doc.ZG (ZA (nth v1_2 v1_1).Doc.ZE (W ((W ((W (v1_0 + 1)) + 1)) + 1))).2).2 + 1)) + 1)) + 1)) (W ((W ((W ((W ((ZB (nth v1_2 v1_1).Doc.ZG (ZA (nth v1_2 v1_1).Doc.ZE (W ((W ((W (v1_0 + 1)) + 1)) + 1))).2).2 + 1)) + 1)) + 1)) + 1)) (W ((W ((W ((W ((W ((ZB (nth v1_2 v1_1).Doc.ZG (ZA (nth v1_2 v1_1).Doc.ZE (W ((W ((W (v1_0 + 1)) + 1)) + 1))).2).2 + 1)) + 1)) + 1)) + 1)) + 1)) (W ((W ((W ((W ((W ((W ((ZB (nth v1_2 v1_1).Doc.ZG (ZA (nth v1_2 v1_1).Doc.ZE (W ((W ((W (v1_0 + 1)) + 1)) + 1))).2).2 + 1)) + 1)) + 1)) + 1)) + 1)) + 1)) (W ((W ((W ((W ((W ((W ((W ((ZB (nth v1_2 v1_1).Doc.ZG (ZA (nth v1_2 v1_1).Doc.ZE (W ((W ((W (v1_0 + 1)) + 1)) + 1))).2).2 + 1)) + 1)) + 1)) + 1)) + 1)) + 1)) + 1)) (W ((W ((W ((W ((W ((W ((W ((W ((ZB (nth v1_2 v1_1).Doc.ZG (ZA (nth v1_2 v1_1).Doc.ZE (W ((W ((W (v1_0 + 1)) + 1)) + 1))).2).2 + 1)) + 1)) + 1)) + 1)) + 1)) + 1)) + 1)) + 1))) (nth v1_2 v1_1).ZQ)) rfl]
  repeat with_reducible refine sd ?_
  refine W8 (t := 0) (j := 0) (i := v1_1) (c := 14) (size := 16) (rows := ((v1_2.set v1_1 (ZI.mk v1_0 (W (v1_0 + 1)) (ZR.mk (W ((W (v1_0 + 1)) + 1)) (ZA (nth v1_2 v1_1).Doc.ZE (W ((W ((W (v1_0 + 1)) + 1)) + 1))).1 (ZB (nth v1_2 v1_1).Doc.ZG (ZA (nth v1_2 v1_1).Doc.ZE (W ((W ((W (v1_0 + 1)) + 1)) + 1))).2).1) (Zb.mk (ZB (nth v1_2 v1_1).Doc.ZG (ZA (nth v1_2 v1_1).Doc.ZE (W ((W ((W (v1_0 + 1)) + 1)) + 1))).2).2 (W ((ZB (nth v1_2 v1_1).Doc.ZG (ZA (nth v1_2 v1_1).Doc.ZE (W ((W ((W (v1_0 + 1)) + 1)) + 1))).2).2 + 1)) (W ((W ((ZB (nth v1_2 v1_1).Doc.ZG (ZA (nth v1_2 v1_1).Doc.ZE (W ((W ((W (v1_0 + 1)) + 1)) + 1))).2).2 + 1)) + 1)) (W ((W ((W ((ZB (nth v1_2 v1_1).Doc.ZG (ZA (nth v1_2 v1_1).Doc.ZE (W ((W ((W (v1_0 + 1)) + 1)) + 1))).2).2 + 1)) + 1)) + 1)) (W ((W ((W ((W ((ZB (nth v1_2 v1_1).Doc.ZG (ZA (nth v1_2 v1_1).Doc.ZE (W ((W ((W (v1_0 + 1)) + 1)) + 1))).2).2 + 1)) + 1)) + 1)) + 1)) (W ((W ((W ((W ((W ((ZB (nth v1_2 v1_1).Doc.ZG (ZA (nth v1_2 v1_1).Doc.ZE (W ((W ((W (v1_0 + 1)) + 1)) + 1))).2).2 + 1)) + 1)) + 1)) + 1)) + 1)) (W ((W ((W ((W ((W ((W ((ZB (nth v1_2 v1_1).Doc.ZG (ZA (nth v1_2 v1_1).Doc.ZE (W ((W ((W (v1_0 + 1)) + 1)) + 1))).2).2 + 1)) + 1)) + 1)) + 1)) + 1)) + 1)) (W ((W ((W ((W ((W ((W ((W ((ZB (nth v1_2 v1_1).Doc.ZG (ZA (nth v1_2 v1_1).Doc.ZE (W ((W ((W (v1_0 + 1)) + 1)) + 1))).2).2 + 1)) + 1)) + 1)) + 1)) + 1)) + 1)) + 1)) (W ((W ((W ((W ((W ((W ((W ((W ((ZB (nth v1_2 v1_1).Doc.ZG (ZA (nth v1_2 v1_1).Doc.ZE (W ((W ((W (v1_0 + 1)) + 1)) + 1))).2).2 + 1)) + 1)) + 1)) + 1)) + 1)) + 1)) + 1)) + 1))) (nth v1_2 v1_1).ZQ)).map ZI.row)) rfl rfl rfl rfl rfl rfl rfl (Rm (nth v1_2 v1_1).ZQ.ZS (W ((W ((W ((W ((W ((W ((W ((W ((W ((ZB (nth v1_2 v1_1).Doc.ZG (ZA (nth v1_2 v1_1).Doc.ZE (W ((W ((W (v1_0 + 1)) + 1)) + 1))).2).2 + 1)) + 1)) + 1)) + 1)) + 1)) + 1)) + 1)) + 1)) + 1))) (by simp) (by simp) (by simp [m2, i1]) (by simp [ZD, Zh, m2, i1]) (by simp) (by simp) (by simp) ?_
  simp [List.set_set, Zq (x := (ZI.mk v1_0 (W (v1_0 + 1)) (ZR.mk (W ((W (v1_0 + 1)) + 1)) (ZA (nth v1_2 v1_1).Doc.ZE (W ((W ((W (v1_0 + 1)) + 1)) + 1))).1 (ZB (nth v1_2 v1_1).Doc.ZG (ZA (nth v1_2 v1_1).Doc.ZE (W ((W ((W (v1_0 + 1)) + 1)) + 1))).2).1) (Zb.mk (ZB (nth v1_2 v1_1).Doc.ZG (ZA (nth v1_2 v1_1).Doc.ZE (W ((W ((W (v1_0 + 1)) + 1)) + 1))).2).2 (W ((ZB (nth v1_2 v1_1).Doc.ZG (ZA (nth v1_2 v1_1).Doc.ZE (W ((W ((W (v1_0 + 1)) + 1)) + 1))).2).2 + 1)) (W ((W ((ZB (nth v1_2 v1_1).Doc.ZG (ZA (nth v1_2 v1_1).Doc.ZE (W ((W ((W (v1_0 + 1)) + 1)) + 1))).2).2 + 1)) + 1)) (W ((W ((W ((ZB (nth v1_2 v1_1).Doc.ZG (ZA (nth v1_2 v1_1).Doc.ZE (W ((W ((W (v1_0 + 1)) + 1)) + 1))).2).2 + 1)) + 1)) + 1)) (W ((W ((W ((W ((ZB (nth v1_2 v1_1).Doc.ZG (ZA (nth v1_2 v1_1).Doc.ZE (W ((W ((W (v1_0 + 1)) + 1)) + 1))).2).2 + 1)) + 1)) + 1)) + 1)) (W ((W ((W ((W ((W ((ZB (nth v1_2 v1_1).Doc.ZG (ZA (nth v1_2 v1_1).Doc.ZE (W ((W ((W (v1_0 + 1)) + 1)) + 1))).2).2 + 1)) + 1)) + 1)) + 1)) + 1)) (W ((W ((W ((W ((W ((W ((ZB (nth v1_2 v1_1).Doc.ZG (ZA (nth v1_2 v1_1).Doc.ZE (W ((W ((W (v1_0 + 1)) + 1)) + 1))).2).2 + 1)) + 1)) + 1)) + 1)) + 1)) + 1)) (W ((W ((W ((W ((W ((W ((W ((ZB (nth v1_2 v1_1).Doc.ZG (ZA (nth v1_2 v1_1).Doc.ZE (W ((W ((W (v1_0 + 1)) + 1)) + 1))).2).2 + 1)) + 1)) + 1)) + 1)) + 1)) + 1)) + 1)) (W ((W ((W ((W ((W ((W ((W ((W ((ZB (nth v1_2 v1_1).Doc.ZG (ZA (nth v1_2 v1_1).Doc.ZE (W ((W ((W (v1_0 + 1)) + 1)) + 1))).2).2 + 1)) + 1)) + 1)) + 1)) + 1)) + 1)) + 1)) + 1))) (Zf.mk (ZW (nth v1_2 v1_1).ZQ.ZS (W ((W ((W ((W ((W ((W ((W ((W ((W ((ZB (nth v1_2 v1_1).Doc.ZG (ZA (nth v1_2 v1_1).Doc.ZE (W ((W ((W (v1_0 + 1)) + 1)) + 1))).2).2 + 1)) + 1)) + 1)) + 1)) + 1)) + 1)) + 1)) + 1)) + 1))).1 (nth v1_2 v1_1).ZQ.Zj))) rfl, ZD, Zh, m2, i1]
  repeat with_reducible refine sd ?_
  refine W8 (t := 0) (j := 0) (i := v1_1) (c := 15) (size := 16) (rows := ((v1_2.set v1_1 (ZI.mk v1_0 (W (v1_0 + 1)) (ZR.mk (W ((W (v1_0 + 1)) + 1)) (ZA (nth v1_2 v1_1).Doc.ZE (W ((W ((W (v1_0 + 1)) + 1)) + 1))).1 (ZB (nth v1_2 v1_1).Doc.ZG (ZA (nth v1_2 v1_1).Doc.ZE (W ((W ((W (v1_0 + 1)) + 1)) + 1))).2).1) (Zb.mk (ZB (nth v1_2 v1_1).Doc.ZG (ZA (nth v1_2 v1_1).Doc.ZE (W ((W ((W (v1_0 + 1)) + 1)) + 1))).2).2 (W ((ZB (nth v1_2 v1_1).Doc.ZG (ZA (nth v1_2 v1_1).Doc.ZE (W ((W ((W (v1_0 + 1)) + 1)) + 1))).2).2 + 1)) (W ((W ((ZB (nth v1_2 v1_1).Doc.ZG (ZA (nth v1_2 v1_1).Doc.ZE (W ((W ((W (v1_0 + 1)) + 1)) + 1))).2).2 + 1)) + 1)) (W ((W ((W ((ZB (nth v1_2 v1_1).Doc.ZG (ZA (nth v1_2 v1_1).Doc.ZE (W ((W ((W (v1_0 + 1)) + 1)) + 1))).2).2 + 1)) + 1)) + 1)) (W ((W ((W ((W ((ZB (nth v1_2 v1_1).Doc.ZG (ZA (nth v1_2 v1_1).Doc.ZE (W ((W ((W (v1_0 + 1)) + 1)) + 1))).2).2 + 1)) + 1)) + 1)) + 1)) (W ((W ((W ((W ((W ((ZB (nth v1_2 v1_1).Doc.ZG (ZA (nth v1_2 v1_1).Doc.ZE (W ((W ((W (v1_0 + 1)) + 1)) + 1))).2).2 + 1)) + 1)) + 1)) + 1)) + 1)) (W ((W ((W ((W ((W ((W ((ZB (nth v1_2 v1_1).Doc.ZG (ZA (nth v1_2 v1_1).Doc.ZE (W ((W ((W (v1_0 + 1)) + 1)) + 1))).2).2 + 1)) + 1)) + 1)) + 1)) + 1)) + 1)) (W ((W ((W ((W ((W ((W ((W ((ZB (nth v1_2 v1_1).Doc.ZG (ZA (nth v1_2 v1_1).Doc.ZE (W ((W ((W (v1_0 + 1)) + 1)) + 1))).2).2 + 1)) + 1)) + 1)) + 1)) + 1)) + 1)) + 1)) (W ((W ((W ((W ((W ((W ((W ((W ((ZB (nth v1_2 v1_1).Doc.ZG (ZA (nth v1_2 v1_1).Doc.ZE (W ((W ((W (v1_0 + 1)) + 1)) + 1))).2).2 + 1)) + 1)) + 1)) + 1)) + 1)) + 1)) + 1)) + 1))) (Zf.mk (ZW (nth v1_2 v1_1).ZQ.ZS (W ((W ((W ((W ((W ((W ((W ((W ((W ((ZB (nth v1_2 v1_1).Doc.ZG (ZA (nth v1_2 v1_1).Doc.ZE (W ((W ((W (v1_0 + 1)) + 1)) + 1))).2).2 + 1)) + 1)) + 1)) + 1)) + 1)) + 1)) + 1)) + 1)) + 1))).1 (nth v1_2 v1_1).ZQ.Zj))).map ZI.row)) rfl rfl rfl rfl rfl rfl rfl (Ue (nth v1_2 v1_1).ZQ.Zj (ZW (nth v1_2 v1_1).ZQ.ZS (W ((W ((W ((W ((W ((W ((W ((W ((W ((ZB (nth v1_2 v1_1).Doc.ZG (ZA (nth v1_2 v1_1).Doc.ZE (W ((W ((W (v1_0 + 1)) + 1)) + 1))).2).2 + 1)) + 1)) + 1)) + 1)) + 1)) + 1)) + 1)) + 1)) + 1))).2) (by simp) (by simp) (by simp [m2, i1]) (by simp [ZD, Zh, m2, i1]) (by simp) (by simp) (by simp) ?_
  simp [List.set_set, Zq (x := (ZI.mk v1_0 (W (v1_0 + 1)) (ZR.mk (W ((W (v1_0 + 1)) + 1)) (ZA (nth v1_2 v1_1).Doc.ZE (W ((W ((W (v1_0 + 1)) + 1)) + 1))).1 (ZB (nth v1_2 v1_1).Doc.ZG (ZA (nth v1_2 v1_1).Doc.ZE (W ((W ((W (v1_0 + 1)) + 1)) + 1))).2).1) (Zb.mk (ZB (nth v1_2 v1_1).Doc.ZG (ZA (nth v1_2 v1_1).Doc.ZE (W ((W ((W (v1_0 + 1)) + 1)) + 1))).2).2 (W ((ZB (nth v1_2 v1_1).Doc.ZG (ZA (nth v1_2 v1_1).Doc.ZE (W ((W ((W (v1_0 + 1)) + 1)) + 1))).2).2 + 1)) (W ((W ((ZB (nth v1_2 v1_1).Doc.ZG (ZA (nth v1_2 v1_1).Doc.ZE (W ((W ((W (v1_0 + 1)) + 1)) + 1))).2).2 + 1)) + 1)) (W ((W ((W ((ZB (nth v1_2 v1_1).Doc.ZG (ZA (nth v1_2 v1_1).Doc.ZE (W ((W ((W (v1_0 + 1)) + 1)) + 1))).2).2 + 1)) + 1)) + 1)) (W ((W ((W ((W ((ZB (nth v1_2 v1_1).Doc.ZG (ZA (nth v1_2 v1_1).Doc.ZE (W ((W ((W (v1_0 + 1)) + 1)) + 1))).2).2 + 1)) + 1)) + 1)) + 1)) (W ((W ((W ((W ((W ((ZB (nth v1_2 v1_1).Doc.ZG (ZA (nth v1_2 v1_1).Doc.ZE (W ((W ((W (v1_0 + 1)) + 1)) + 1))).2).2 + 1)) + 1)) + 1)) + 1)) + 1)) (W ((W ((W ((W ((W ((W ((ZB (nth v1_2 v1_1).Doc.ZG (ZA (nth v1_2 v1_1).Doc.ZE (W ((W ((W (v1_0 + 1)) + 1)) + 1))).2).2 + 1)) + 1)) + 1)) + 1)) + 1)) + 1)) (W ((W ((W ((W ((W ((W ((W ((ZB (nth v1_2 v1_1).Doc.ZG (ZA (nth v1_2 v1_1).Doc.ZE (W ((W ((W (v1_0 + 1)) + 1)) + 1))).2).2 + 1)) + 1)) + 1)) + 1)) + 1)) + 1)) + 1)) (W ((W ((W ((W ((W ((W ((W ((W ((ZB (nth v1_2 v1_1).Doc.ZG (ZA (nth v1_2 v1_1).Doc.ZE (W ((W ((W (v1_0 + 1)) + 1)) + 1))).2).2 + 1)) + 1)) + 1)) + 1)) + 1)) + 1)) + 1)) + 1))) (Zf.mk (ZW (nth v1_2 v1_1).ZQ.ZS (W ((W ((W ((W ((W ((W ((W ((W ((W ((ZB (nth v1_2 v1_1).Doc.ZG (ZA (nth v1_2 v1_1).Doc.ZE (W ((W ((W (v1_0 + 1)) + 1)) + 1))).2).2 + 1)) + 1)) + 1)) + 1)) + 1)) + 1)) + 1)) + 1)) + 1))).1 (Zg (nth v1_2 v1_1).ZQ.Zj (ZW (nth v1_2 v1_1).ZQ.ZS (W ((W ((W ((W ((W ((W ((W ((W ((W ((ZB (nth v1_2 v1_1).Doc.ZG (ZA (nth v1_2 v1_1).Doc.ZE (W ((W ((W (v1_0 + 1)) + 1)) + 1))).2).2 + 1)) + 1)) + 1)) + 1)) + 1)) + 1)) + 1)) + 1)) + 1))).2).1))) rfl, ZD, Zh, m2, i1]
  repeat with_reducible refine sd ?_
  refine Ro ⟨(p1, (Zg (nth v1_2 v1_1).ZQ.Zj (ZW (nth v1_2 v1_1).ZQ.ZS (W ((W ((W ((W ((W ((W ((W ((W ((W ((ZB (nth v1_2 v1_1).Doc.ZG (ZA (nth v1_2 v1_1).Doc.ZE (W ((W ((W (v1_0 + 1)) + 1)) + 1))).2).2 + 1)) + 1)) + 1)) + 1)) + 1)) + 1)) + 1)) + 1)) + 1))).2).2, (v1_1 + 1), (v1_2.set v1_1 (ZI.mk v1_0 (W (v1_0 + 1)) (ZR.mk (W ((W (v1_0 + 1)) + 1)) (ZA (nth v1_2 v1_1).Doc.ZE (W ((W ((W (v1_0 + 1)) + 1)) + 1))).1 (ZB (nth v1_2 v1_1).Doc.ZG (ZA (nth v1_2 v1_1).Doc.ZE (W ((W ((W (v1_0 + 1)) + 1)) + 1))).2).1) (Zb.mk (ZB (nth v1_2 v1_1).Doc.ZG (ZA (nth v1_2 v1_1).Doc.ZE (W ((W ((W (v1_0 + 1)) + 1)) + 1))).2).2 (W ((ZB (nth v1_2 v1_1).Doc.ZG (ZA (nth v1_2 v1_1).Doc.ZE (W ((W ((W (v1_0 + 1)) + 1)) + 1))).2).2 + 1)) (W ((W ((ZB (nth v1_2 v1_1).Doc.ZG (ZA (nth v1_2 v1_1).Doc.ZE (W ((W ((W (v1_0 + 1)) + 1)) + 1))).2).2 + 1)) + 1)) (W ((W ((W ((ZB (nth v1_2 v1_1).Doc.ZG (ZA (nth v1_2 v1_1).Doc.ZE (W ((W ((W (v1_0 + 1)) + 1)) + 1))).2).2 + 1)) + 1)) + 1)) (W ((W ((W ((W ((ZB (nth v1_2 v1_1).Doc.ZG (ZA (nth v1_2 v1_1).Doc.ZE (W ((W ((W (v1_0 + 1)) + 1)) + 1))).2).2 + 1)) + 1)) + 1)) + 1)) (W ((W ((W ((W ((W ((ZB (nth v1_2 v1_1).Doc.ZG (ZA (nth v1_2 v1_1).Doc.ZE (W ((W ((W (v1_0 + 1)) + 1)) + 1))).2).2 + 1)) + 1)) + 1)) + 1)) + 1)) (W ((W ((W ((W ((W ((W ((ZB (nth v1_2 v1_1).Doc.ZG (ZA (nth v1_2 v1_1).Doc.ZE (W ((W ((W (v1_0 + 1)) + 1)) + 1))).2).2 + 1)) + 1)) + 1)) + 1)) + 1)) + 1)) (W ((W ((W ((W ((W ((W ((W ((ZB (nth v1_2 v1_1).Doc.ZG (ZA (nth v1_2 v1_1).Doc.ZE (W ((W ((W (v1_0 + 1)) + 1)) + 1))).2).2 + 1)) + 1)) + 1)) + 1)) + 1)) + 1)) + 1)) (W ((W ((W ((W ((W ((W ((W ((W ((ZB (nth v1_2 v1_1).Doc.ZG (ZA (nth v1_2 v1_1).Doc.ZE (W ((W ((W (v1_0 + 1)) + 1)) + 1))).2).2 + 1)) + 1)) + 1)) + 1)) + 1)) + 1)) + 1)) + 1))) (Zf.mk (ZW (nth v1_2 v1_1).ZQ.ZS (W ((W ((W ((W ((W ((W ((W ((W ((W ((ZB (nth v1_2 v1_1).Doc.ZG (ZA (nth v1_2 v1_1).Doc.ZE (W ((W ((W (v1_0 + 1)) + 1)) + 1))).2).2 + 1)) + 1)) + 1)) + 1)) + 1)) + 1)) + 1)) + 1)) + 1))).1 (Zg (nth v1_2 v1_1).ZQ.Zj (ZW (nth v1_2 v1_1).ZQ.ZS (W ((W ((W ((W ((W ((W ((W ((W ((W ((ZB (nth v1_2 v1_1).Doc.ZG (ZA (nth v1_2 v1_1).Doc.ZE (W ((W ((W (v1_0 + 1)) + 1)) + 1))).2).2 + 1)) + 1)) + 1)) + 1)) + 1)) + 1)) + 1)) + 1)) + 1))).2).1)))), ?_, ?_⟩ (by simp) (Yi (by simp [w1]))
  · rw [← e1]; simp only [QX, h1, Ye, YR]
  · (simp; omega)
 ·have q1 := h1; try simp at q1
  have x1 : QX (a0.length + 1) a1 0 a0 = (v1_0, v1_2) := by rw [← e1]; simp only [QX, h1, Ye, YR]
  simp
  refine UT (rv := [.tmp 4]) rfl ?_
  have f1 := Zv.eq_1 a0 a1; simp only [x1, Ye, YR] at f1; simp [f1]
theorem Uy (a0 : List ZC) (a1 : Int) : Qq Tryz.prog 41 (rL 2 ZC.row a0) [rI a1] (rL 2 ZC.row (Zs a0 a1).1) (.int .i64 (Zs a0 a1).2) := by
 refine QH Tryz.func41 rfl (by kernel_rfl) (fun v => ?_)
 simp [Tryz.ntmps41]
 refine okL fun k1 => ?_
 refine WC (ι := { s : Nat × Int × Nat × (List ZC) // Xa s.1 s.2.1 s.2.2.1 s.2.2.2 = Xa (a0.length + 1) a1 0 a0 ∧ (1 ≤ s.1 ∧ s.2.2.2.length < s.1 + s.2.2.1) }) (fun s => YM 27 [(0, .fix v (.one (.sref 0 0 0 s.1.2.2.2.length)), [.arr true 2 (s.1.2.2.2.map ZC.row)]), eI 1 s.1.2.1, eI 5 (↑s.1.2.2.1 : Int)]) (fun s => s.1.1) ⟨((a0.length + 1), a1, 0, a0), rfl, by first | omega | (dsimp only; omega) | simp⟩ (Yi (by simp)) ?_
 rintro ⟨⟨n1, v1_0, v1_1, v1_2⟩, e1, j1⟩
 try dsimp only at e1 j1
 obtain ⟨p1, rfl⟩ : ∃ p, n1 = p + 1 := ⟨n1 - 1, by omega⟩
 simp
 refine cC (decide ((↑v1_1 : Int) < (↑v1_2.length : Int))) (fun k2 h1 => ?_) (fun k2 h1 => ?_)
 ·have q1 := h1; try simp at q1
  have i1 : v1_1 < v1_2.length := by simpa using h1
  have m2 : v1_2.length ≤ 9223372036854775807 := by simpa using k2 0 _ rfl
  have w1 : IntKind.i64.wrap ((v1_1 : Int) + 1) = (v1_1 : Int) + 1 := ZT (by omega) (by omega)
  simp [i1, ZD, Zq (x := (ZC.mk v1_0 (nth v1_2 v1_1).ZF)) rfl, Zh]
  repeat with_reducible refine sd ?_
  refine W8 (t := 0) (j := 0) (i := v1_1) (c := 1) (size := 2) (rows := ((v1_2.set v1_1 (ZC.mk v1_0 (nth v1_2 v1_1).ZF)).map ZC.row)) rfl rfl rfl rfl rfl rfl rfl (R6 (nth v1_2 v1_1).ZF (W (v1_0 + 1))) (by simp) (by simp) (by simp [m2, i1]) (by simp [ZD, Zh, m2, i1]) (by simp) (by simp) (by simp) ?_
  simp [List.set_set, Zq (x := (ZC.mk v1_0 (Zv (nth v1_2 v1_1).ZF (W (v1_0 + 1))).1)) rfl, ZD, Zh, m2, i1]
  repeat with_reducible refine sd ?_
  refine Ro ⟨(p1, (Zv (nth v1_2 v1_1).ZF (W (v1_0 + 1))).2, (v1_1 + 1), (v1_2.set v1_1 (ZC.mk v1_0 (Zv (nth v1_2 v1_1).ZF (W (v1_0 + 1))).1))), ?_, ?_⟩ (by simp) (Yi (by simp [w1]))
  · rw [← e1]; simp only [Xa, h1, Ye, YR]
  · (simp; omega)
 ·have q1 := h1; try simp at q1
  have x1 : Xa (a0.length + 1) a1 0 a0 = (v1_0, v1_2) := by rw [← e1]; simp only [Xa, h1, Ye, YR]
  simp
  refine UT (rv := [.tmp 4]) rfl ?_
  have f1 := Zs.eq_1 a0 a1; simp only [x1, Ye, YR] at f1; simp [f1]
theorem Wf (a0 : Ze) (a1 : Int) : Qq Tryz.prog 12 a0.row [rI a1] (Zm a0 a1).1.row (.int .i64 (Zm a0 a1).2) := by
 refine QH Tryz.func12 rfl (by kernel_rfl) (fun v => ?_)
 simp [Tryz.ntmps12]
 refine xX (ats := [.sref 0 0 0 a0.Frame.XE.length, .sref 0 1 0 a0.Frame.Zc.length, .sref 0 2 0 a0.Frame.Methods.length, .d (.int .i64 a0.Frame.xh), .d (.int .i64 a0.Frame.Now)]) rfl rfl rfl rfl rfl rfl rfl (P7 a0.Frame a1) (by simp) (by simp) (by simp) (by simp) (by simp) (by simp) (by simp) (by simp) (by simp) ?_
 simp
 refine xX (ats := [.sref 0 5 0 a0.Zy.length]) rfl rfl rfl rfl rfl rfl rfl (Pv a0.Zy (Zd a0.Frame a1).2) (by simp) (by simp) (by simp) (by simp) (by simp) (by simp) (by simp) (by simp) (by simp) ?_
 simp
 refine xX (ats := [.sref 0 6 0 a0.Z6.length]) rfl rfl rfl rfl rfl rfl rfl (KI a0.Z6 (Zr a0.Zy (Zd a0.Frame a1).2).2) (by simp) (by simp) (by simp) (by simp) (by simp) (by simp) (by simp) (by simp) (by simp) ?_
 simp
 refine xX (ats := [.sref 0 7 0 a0.ZH.length]) rfl rfl rfl rfl rfl rfl rfl (Uy a0.ZH (ZB a0.Z6 (Zr a0.Zy (Zd a0.Frame a1).2).2).2) (by simp) (by simp) (by simp) (by simp) (by simp) (by simp) (by simp) (by simp) (by simp) ?_
 simp
 refine xX (ats := [.sref 0 8 0 a0.XC.length]) rfl rfl rfl rfl rfl rfl rfl (KI a0.XC (Zs a0.ZH (ZB a0.Z6 (Zr a0.Zy (Zd a0.Frame a1).2).2).2).2) (by simp) (by simp) (by simp) (by simp) (by simp) (by simp) (by simp) (by simp) (by simp) ?_
 simp
 refine xX (ats := [.sref 0 9 0 a0.Yq.length]) rfl rfl rfl rfl rfl rfl rfl (KI a0.Yq (ZB a0.XC (Zs a0.ZH (ZB a0.Z6 (Zr a0.Zy (Zd a0.Frame a1).2).2).2).2).2) (by simp) (by simp) (by simp) (by simp) (by simp) (by simp) (by simp) (by simp) (by simp) ?_
 simp
 refine xX (ats := [.sref 0 11 0 a0.Ym.length]) rfl rfl rfl rfl rfl rfl rfl (KI a0.Ym (ZB a0.Yq (ZB a0.XC (Zs a0.ZH (ZB a0.Z6 (Zr a0.Zy (Zd a0.Frame a1).2).2).2).2).2).2) (by simp) (by simp) (by simp) (by simp) (by simp) (by simp) (by simp) (by simp) (by simp) ?_
 simp
 refine UT (rv := [.tmp 4]) rfl ?_
 have f1 := Zm.eq_1 a0 a1; simp [f1]
theorem NL (a0 : List YQ) (a1 : Int) : Sa 100 [rL 5 YQ.row a0, rI a1] [rI (JN a0 a1)] := by
 have f := me (JN.eq_1 a0 a1)
 refine so Tryz.func100 Tryz.ntmps100 ?_
 refine lp2 (xy.eq_2 a0) (fun v1_0 v1_1 => YM 58 [eL 0 5 a0 YQ.row, eI 1 v1_0, eI 5 (↑v1_1 : Int)]) (fun n1 v1_0 v1_1 => a0.length < n1 + v1_1 ∧ v1_1 ≤ a0.length) (a0.length + 1) a1 0 (fun p1 v1_0 v1_1 e1 j1 => ?_)
 refine cFf e1 ?_ ?_ <;> intro k2 h1 e1
 ·have i1 := ix h1
  have m2 := ml a0 (k2 0 _ rfl)
  have w1 := wr v1_1
  simp [i1, ZD]
  repeat with_reducible refine sd ?_
  refine cFt e1 ?_ ?_ <;> intro k3 h2 e1
  ·have f := ms f e1
   exact rt [.tmp 4] f
  simp [i1, ZD]
  repeat with_reducible refine sd ?_
  refine cFt e1 ?_ ?_ <;> intro k4 h3 e1
  ·have f := ms f e1
   exact rt [.tmp 4] f
  simp [i1, ZD]
  repeat with_reducible refine sd ?_
  refine cFt e1 ?_ ?_ <;> intro k5 h4 e1
  ·have f := ms f e1
   exact rt [.tmp 4] f
  simp [i1, ZD]
  repeat with_reducible refine sd ?_
  refine cFt e1 ?_ ?_ <;> intro k6 h5 e1
  ·have f := ms f e1
   exact rt [.tmp 4] f
  simp [i1, ZD]
  repeat with_reducible refine sd ?_
  refine cF e1 ?_ ?_ <;> intro k7 h6 e1
  ·have f := ms f e1
   exact rt [.tmp 4] f
  exact ny2 w1 e1
 have f := ms f e1
 exact rt [.tmp 4] f
theorem VT (a0 : List ZN) (a1 : Int) : Sa 101 [rL 3 ZN.row a0, rI a1] [rI (Xb a0 a1)] := by
 have f := me (Xb.eq_1 a0 a1)
 refine so Tryz.func101 Tryz.ntmps101 ?_
 refine lp2 (J3.eq_2 a0) (fun v1_0 v1_1 => YM 40 [eL 0 3 a0 ZN.row, eI 1 v1_0, eI 5 (↑v1_1 : Int)]) (fun n1 v1_0 v1_1 => a0.length < n1 + v1_1 ∧ v1_1 ≤ a0.length) (a0.length + 1) a1 0 (fun p1 v1_0 v1_1 e1 j1 => ?_)
 refine cFf e1 ?_ ?_ <;> intro k2 h1 e1
 ·have i1 := ix h1
  have m2 := ml a0 (k2 0 _ rfl)
  have w1 := wr v1_1
  simp [i1, ZD]
  repeat with_reducible refine sd ?_
  refine cFt e1 ?_ ?_ <;> intro k3 h2 e1
  ·have f := ms f e1
   exact rt [.tmp 4] f
  simp [i1, ZD]
  repeat with_reducible refine sd ?_
  refine cFt e1 ?_ ?_ <;> intro k4 h3 e1
  ·have f := ms f e1
   exact rt [.tmp 4] f
  simp [i1, ZD]
  repeat with_reducible refine sd ?_
  refine cF e1 ?_ ?_ <;> intro k5 h4 e1
  ·have f := ms f e1
   exact rt [.tmp 4] f
  exact ny2 w1 e1
 have f := ms f e1
 exact rt [.tmp 4] f
theorem T4 (a0 : List ZV) (a1 : Int) : Sa 102 [rL 4 ZV.row a0, rI a1] [rI (KK a0 a1)] := by
 have f := me (KK.eq_1 a0 a1)
 refine so Tryz.func102 Tryz.ntmps102 ?_
 refine lp2 (zH.eq_2 a0) (fun v1_0 v1_1 => YM 49 [eL 0 4 a0 ZV.row, eI 1 v1_0, eI 5 (↑v1_1 : Int)]) (fun n1 v1_0 v1_1 => a0.length < n1 + v1_1 ∧ v1_1 ≤ a0.length) (a0.length + 1) a1 0 (fun p1 v1_0 v1_1 e1 j1 => ?_)
 refine cFf e1 ?_ ?_ <;> intro k2 h1 e1
 ·have i1 := ix h1
  have m2 := ml a0 (k2 0 _ rfl)
  have w1 := wr v1_1
  simp [i1, ZD]
  repeat with_reducible refine sd ?_
  refine cFt e1 ?_ ?_ <;> intro k3 h2 e1
  ·have f := ms f e1
   exact rt [.tmp 4] f
  simp [i1, ZD]
  repeat with_reducible refine sd ?_
  refine cFt e1 ?_ ?_ <;> intro k4 h3 e1
  ·have f := ms f e1
   exact rt [.tmp 4] f
  simp [i1, ZD]
  repeat with_reducible refine sd ?_
  refine cFt e1 ?_ ?_ <;> intro k5 h4 e1
  ·have f := ms f e1
   exact rt [.tmp 4] f
  simp [i1, ZD]
  repeat with_reducible refine sd ?_
  refine cF e1 ?_ ?_ <;> intro k6 h5 e1
  ·have f := ms f e1
   exact rt [.tmp 4] f
  exact ny2 w1 e1
 have f := ms f e1
 exact rt [.tmp 4] f
theorem OY (a0 : YJ) (a1 : Int) : Sa 42 [a0.row, rI a1] [rI (Yn a0 a1)] := by
 have f := me (Yn.eq_1 a0 a1)
 refine so Tryz.func42 Tryz.ntmps42 ?_
 refine cRs (NL a0.XE a1) ?_
 refine cF f ?_ ?_ <;> intro k1 h1 f
 ·exact rt [.tmp 4] f
 refine cRs (VT a0.Zc (JN a0.XE a1)) ?_
 refine cF f ?_ ?_ <;> intro k2 h2 f
 ·exact rt [.tmp 4] f
 refine cRs (T4 a0.Methods (Xb a0.Zc (JN a0.XE a1))) ?_
 refine cF f ?_ ?_ <;> intro k3 h3 f
 ·exact rt [.tmp 4] f
 exact rt [.tmp 4] f
theorem O0 (a0 : List Zz) (a1 : Int) : Sa 43 [rL 7 Zz.row a0, rI a1] [rI (Yz a0 a1)] := by
 have f := me (Yz.eq_1 a0 a1)
 refine so Tryz.func43 Tryz.ntmps43 ?_
 refine lp2 (y5.eq_2 a0) (fun v1_0 v1_1 => YM 76 [eL 0 7 a0 Zz.row, eI 1 v1_0, eI 5 (↑v1_1 : Int)]) (fun n1 v1_0 v1_1 => a0.length < n1 + v1_1 ∧ v1_1 ≤ a0.length) (a0.length + 1) a1 0 (fun p1 v1_0 v1_1 e1 j1 => ?_)
 refine cFf e1 ?_ ?_ <;> intro k2 h1 e1
 ·have i1 := ix h1
  have m2 := ml a0 (k2 0 _ rfl)
  have w1 := wr v1_1
  simp [i1, ZD]
  repeat with_reducible refine sd ?_
  refine cFt e1 ?_ ?_ <;> intro k3 h2 e1
  ·have f := ms f e1
   exact rt [.tmp 4] f
  simp [i1, ZD]
  repeat with_reducible refine sd ?_
  refine cFt e1 ?_ ?_ <;> intro k4 h3 e1
  ·have f := ms f e1
   exact rt [.tmp 4] f
  simp [i1, ZD]
  repeat with_reducible refine sd ?_
  refine cFt e1 ?_ ?_ <;> intro k5 h4 e1
  ·have f := ms f e1
   exact rt [.tmp 4] f
  simp [i1, ZD]
  repeat with_reducible refine sd ?_
  refine cFt e1 ?_ ?_ <;> intro k6 h5 e1
  ·have f := ms f e1
   exact rt [.tmp 4] f
  simp [i1, ZD]
  repeat with_reducible refine sd ?_
  refine cFt e1 ?_ ?_ <;> intro k7 h6 e1
  ·have f := ms f e1
   exact rt [.tmp 4] f
  simp [i1, ZD]
  repeat with_reducible refine sd ?_
  refine cFt e1 ?_ ?_ <;> intro k8 h7 e1
  ·have f := ms f e1
   exact rt [.tmp 4] f
  simp [i1, ZD]
  repeat with_reducible refine sd ?_
  refine cF e1 ?_ ?_ <;> intro k9 h8 e1
  ·have f := ms f e1
   exact rt [.tmp 4] f
  exact ny2 w1 e1
 have f := ms f e1
 exact rt [.tmp 4] f
theorem KB (a0 : List Int) (a1 : Int) : Sa 44 [rL 1 iR a0, rI a1] [rI (ZU a0 a1)] := by
 have f := me (ZU.eq_1 a0 a1)
 refine so Tryz.func44 Tryz.ntmps44 ?_
 refine lp2 (qA.eq_2 a0) (fun v1_0 v1_1 => YM 21 [eL 0 1 a0 iR, eI 1 v1_0, eI 5 (↑v1_1 : Int)]) (fun n1 v1_0 v1_1 => a0.length < n1 + v1_1 ∧ v1_1 ≤ a0.length) (a0.length + 1) a1 0 (fun p1 v1_0 v1_1 e1 j1 => ?_)
 refine cFf e1 ?_ ?_ <;> intro k2 h1 e1
 ·have i1 := ix h1
  have m2 := ml a0 (k2 0 _ rfl)
  have w1 := wr v1_1
  simp [i1, ZD]
  repeat with_reducible refine sd ?_
  refine cF e1 ?_ ?_ <;> intro k3 h2 e1
  ·have f := ms f e1
   exact rt [.tmp 4] f
  exact ny2 w1 e1
 have f := ms f e1
 exact rt [.tmp 4] f
theorem SE (a0 : List ByteArray) (a1 : Int) : Sa 154 [rL 1 sR a0, rI a1] [rI (ZY a0 a1)] := by
 have f := me (ZY.eq_1 a0 a1)
 refine so Tryz.func154 Tryz.ntmps154 ?_
 refine lp2 (zJ.eq_2 a0) (fun v1_0 v1_1 => YM 22 [eL 0 1 a0 sR, eI 1 v1_0, eI 5 (↑v1_1 : Int)]) (fun n1 v1_0 v1_1 => a0.length < n1 + v1_1 ∧ v1_1 ≤ a0.length) (a0.length + 1) a1 0 (fun p1 v1_0 v1_1 e1 j1 => ?_)
 refine cF e1 ?_ ?_ <;> intro k2 h1 e1
 ·have i1 := ix h1
  have m2 := ml a0 (k2 0 _ rfl)
  have w1 := wr v1_1
  refine dIo mixed ?_
  simp [i1, ZD]
  repeat with_reducible refine sd ?_
  refine cRs (VW v1_0) ?_
  refine cF e1 ?_ ?_ <;> intro k4 h2 e1
  ·have f := ms f e1
   exact rt [.tmp 4] f
  exact ny2 w1 e1
 have f := ms f e1
 exact rt [.tmp 4] f
theorem Rk (a0 : List ZM) (a1 : Int) : Sa 155 [rL 3 ZM.row a0, rI a1] [rI (Y0 a0 a1)] := by
 have f := me (Y0.eq_1 a0 a1)
 refine so Tryz.func155 Tryz.ntmps155 ?_
 refine lp2 (yU.eq_2 a0) (fun v1_0 v1_1 => YM 40 [eL 0 3 a0 ZM.row, eI 1 v1_0, eI 5 (↑v1_1 : Int)]) (fun n1 v1_0 v1_1 => a0.length < n1 + v1_1 ∧ v1_1 ≤ a0.length) (a0.length + 1) a1 0 (fun p1 v1_0 v1_1 e1 j1 => ?_)
 refine cFf e1 ?_ ?_ <;> intro k2 h1 e1
 ·have i1 := ix h1
  have m2 := ml a0 (k2 0 _ rfl)
  have w1 := wr v1_1
  simp [i1, ZD]
  repeat with_reducible refine sd ?_
  refine cFt e1 ?_ ?_ <;> intro k3 h2 e1
  ·have f := ms f e1
   exact rt [.tmp 4] f
  simp [i1, ZD]
  repeat with_reducible refine sd ?_
  refine cRs (KB (nth a0 v1_1).Yh (W (v1_0 + 1))) ?_ (hrows := by first | (simp; done) | (simp [W, w1]; done))
  refine cFt e1 ?_ ?_ <;> intro k4 h3 e1
  ·have f := ms f e1
   exact rt [.tmp 4] f
  simp [i1, ZD]
  repeat with_reducible refine sd ?_
  refine cF e1 ?_ ?_ <;> intro k5 h4 e1
  ·have f := ms f e1
   exact rt [.tmp 4] f
  exact ny2 w1 e1
 have f := ms f e1
 exact rt [.tmp 4] f
theorem OS (a0 : List Z4) (a1 : Int) : Sa 189 [rL 2 Z4.row a0, rI a1] [rI (XH a0 a1)] := by
 have f := me (XH.eq_1 a0 a1)
 refine so Tryz.func189 Tryz.ntmps189 ?_
 refine lp2 (y1.eq_2 a0) (fun v1_0 v1_1 => YM 33 [eL 0 2 a0 Z4.row, eI 1 v1_0, eI 5 (↑v1_1 : Int)]) (fun n1 v1_0 v1_1 => a0.length < n1 + v1_1 ∧ v1_1 ≤ a0.length) (a0.length + 1) a1 0 (fun p1 v1_0 v1_1 e1 j1 => ?_)
 refine cFf e1 ?_ ?_ <;> intro k2 h1 e1
 ·have i1 := ix h1
  have m2 := ml a0 (k2 0 _ rfl)
  have w1 := wr v1_1
  simp [i1, ZD]
  repeat with_reducible refine sd ?_
  refine cFt e1 ?_ ?_ <;> intro k3 h2 e1
  ·have f := ms f e1
   exact rt [.tmp 4] f
  simp [i1, ZD]
  repeat with_reducible refine sd ?_
  refine cF e1 ?_ ?_ <;> intro k4 h3 e1
  ·have f := ms f e1
   exact rt [.tmp 4] f
  exact ny2 w1 e1
 have f := ms f e1
 exact rt [.tmp 4] f
theorem Rr (a0 : List Za) (a1 : Int) : Sa 190 [rL 5 Za.row a0, rI a1] [rI (X7 a0 a1)] := by
 have f := me (X7.eq_1 a0 a1)
 refine so Tryz.func190 Tryz.ntmps190 ?_
 refine lp2 (yT.eq_2 a0) (fun v1_0 v1_1 => YM 58 [eL 0 5 a0 Za.row, eI 1 v1_0, eI 5 (↑v1_1 : Int)]) (fun n1 v1_0 v1_1 => a0.length < n1 + v1_1 ∧ v1_1 ≤ a0.length) (a0.length + 1) a1 0 (fun p1 v1_0 v1_1 e1 j1 => ?_)
 refine cFf e1 ?_ ?_ <;> intro k2 h1 e1
 ·have i1 := ix h1
  have m2 := ml a0 (k2 0 _ rfl)
  have w1 := wr v1_1
  simp [i1, ZD]
  repeat with_reducible refine sd ?_
  refine cFt e1 ?_ ?_ <;> intro k3 h2 e1
  ·have f := ms f e1
   exact rt [.tmp 4] f
  simp [i1, ZD]
  repeat with_reducible refine sd ?_
  refine cFt e1 ?_ ?_ <;> intro k4 h3 e1
  ·have f := ms f e1
   exact rt [.tmp 4] f
  simp [i1, ZD]
  repeat with_reducible refine sd ?_
  refine cFt e1 ?_ ?_ <;> intro k5 h4 e1
  ·have f := ms f e1
   exact rt [.tmp 4] f
  simp [i1, ZD]
  repeat with_reducible refine sd ?_
  refine cFt e1 ?_ ?_ <;> intro k6 h5 e1
  ·have f := ms f e1
   exact rt [.tmp 4] f
  simp [i1, ZD]
  repeat with_reducible refine sd ?_
  refine cF e1 ?_ ?_ <;> intro k7 h6 e1
  ·have f := ms f e1
   exact rt [.tmp 4] f
  exact ny2 w1 e1
 have f := ms f e1
 exact rt [.tmp 4] f
theorem UU (a0 : List ZL) (a1 : Int) : Sa 156 [rL 5 ZL.row a0, rI a1] [rI (XN a0 a1)] := by
 have f := me (XN.eq_1 a0 a1)
 refine so Tryz.func156 Tryz.ntmps156 ?_
 refine lp2 (Kt.eq_2 a0) (fun v1_0 v1_1 => YM 58 [eL 0 5 a0 ZL.row, eI 1 v1_0, eI 5 (↑v1_1 : Int)]) (fun n1 v1_0 v1_1 => a0.length < n1 + v1_1 ∧ v1_1 ≤ a0.length) (a0.length + 1) a1 0 (fun p1 v1_0 v1_1 e1 j1 => ?_)
 refine cFf e1 ?_ ?_ <;> intro k2 h1 e1
 ·have i1 := ix h1
  have m2 := ml a0 (k2 0 _ rfl)
  have w1 := wr v1_1
  simp [i1, ZD]
  repeat with_reducible refine sd ?_
  refine cFt e1 ?_ ?_ <;> intro k3 h2 e1
  ·have f := ms f e1
   exact rt [.tmp 4] f
  simp [i1, ZD]
  repeat with_reducible refine sd ?_
  refine cFt e1 ?_ ?_ <;> intro k4 h3 e1
  ·have f := ms f e1
   exact rt [.tmp 4] f
  simp [i1, ZD]
  repeat with_reducible refine sd ?_
  refine cFt e1 ?_ ?_ <;> intro k5 h4 e1
  ·have f := ms f e1
   exact rt [.tmp 4] f
  simp [i1, ZD]
  repeat with_reducible refine sd ?_
  refine cRs (OS (nth a0 v1_1).Path (W ((W ((W (v1_0 + 1)) + 1)) + 1))) ?_ (hrows := by first | (simp; done) | (simp [W, w1]; done))
  refine cFt e1 ?_ ?_ <;> intro k6 h5 e1
  ·have f := ms f e1
   exact rt [.tmp 4] f
  simp [i1, ZD]
  repeat with_reducible refine sd ?_
  refine cRs (Rr (nth a0 v1_1).Zu (XH (nth a0 v1_1).Path (W ((W ((W (v1_0 + 1)) + 1)) + 1)))) ?_ (hrows := by first | (simp; done) | (simp [W, w1]; done))
  refine cF e1 ?_ ?_ <;> intro k7 h6 e1
  ·have f := ms f e1
   exact rt [.tmp 4] f
  exact ny2 w1 e1
 have f := ms f e1
 exact rt [.tmp 4] f
theorem OL (a0 : List ZI) (a1 : Int) : Sa 103 [rL 16 ZI.row a0, rI a1] [rI (QY a0 a1)] := by
 have f := me (QY.eq_1 a0 a1)
 refine so Tryz.func103 Tryz.ntmps103 ?_
 refine lp2 (xD.eq_2 a0) (fun v1_0 v1_1 => YM 171 [eL 0 16 a0 ZI.row, eI 1 v1_0, eI 5 (↑v1_1 : Int)]) (fun n1 v1_0 v1_1 => a0.length < n1 + v1_1 ∧ v1_1 ≤ a0.length) (a0.length + 1) a1 0 (fun p1 v1_0 v1_1 e1 j1 => ?_)
 refine cFf e1 ?_ ?_ <;> intro k2 h1 e1
 ·have i1 := ix h1
  have m2 := ml a0 (k2 0 _ rfl)
  have w1 := wr v1_1
  simp [i1, ZD]
  repeat with_reducible refine sd ?_
  refine cFt e1 ?_ ?_ <;> intro k3 h2 e1
  ·have f := ms f e1
   exact rt [.tmp 4] f
  simp [i1, ZD]
  repeat with_reducible refine sd ?_
  refine cFt e1 ?_ ?_ <;> intro k4 h3 e1
  ·have f := ms f e1
   exact rt [.tmp 4] f
  simp [i1, ZD]
  repeat with_reducible refine sd ?_
  refine cFt e1 ?_ ?_ <;> intro k5 h4 e1
  ·have f := ms f e1
   exact rt [.tmp 4] f
  simp [i1, ZD]
  repeat with_reducible refine sd ?_
  refine cRs (SE (nth a0 v1_1).Doc.ZE (W ((W ((W (v1_0 + 1)) + 1)) + 1))) ?_ (hrows := by first | (simp; done) | (simp [W, w1]; done))
  refine cFt e1 ?_ ?_ <;> intro k6 h5 e1
  ·have f := ms f e1
   exact rt [.tmp 4] f
  simp [i1, ZD]
  repeat with_reducible refine sd ?_
  refine cRs (KB (nth a0 v1_1).Doc.ZG (ZY (nth a0 v1_1).Doc.ZE (W ((W ((W (v1_0 + 1)) + 1)) + 1)))) ?_ (hrows := by first | (simp; done) | (simp [W, w1]; done))
  refine cFt e1 ?_ ?_ <;> intro k7 h6 e1
  ·have f := ms f e1
   exact rt [.tmp 4] f
  simp [i1, ZD]
  repeat with_reducible refine sd ?_
  refine cFt e1 ?_ ?_ <;> intro k8 h7 e1
  ·have f := ms f e1
   exact rt [.tmp 4] f
  simp [i1, ZD]
  repeat with_reducible refine sd ?_
  refine cFt e1 ?_ ?_ <;> intro k9 h8 e1
  ·have f := ms f e1
   exact rt [.tmp 4] f
  simp [i1, ZD]
  repeat with_reducible refine sd ?_
  refine cFt e1 ?_ ?_ <;> intro k10 h9 e1
  ·have f := ms f e1
   exact rt [.tmp 4] f
  simp [i1, ZD]
  repeat with_reducible refine sd ?_
  refine cFt e1 ?_ ?_ <;> intro k11 h10 e1
  ·have f := ms f e1
   exact rt [.tmp 4] f
  simp [i1, ZD]
  repeat with_reducible refine sd ?_
  refine cFt e1 ?_ ?_ <;> intro k12 h11 e1
  ·have f := ms f e1
   exact rt [.tmp 4] f
  simp [i1, ZD]
  repeat with_reducible refine sd ?_
  refine cFt e1 ?_ ?_ <;> intro k13 h12 e1
  ·have f := ms f e1
   exact rt [.tmp 4] f
  simp [i1, ZD]
  repeat with_reducible refine sd ?_
  refine cFt e1 ?_ ?_ <;> intro k14 h13 e1
  ·have f := ms f e1
   exact rt [.tmp 4] f
  simp [i1, ZD]
  repeat with_reducible refine sd ?_
  refine cFt e1 ?_ ?_ <;> intro k15 h14 e1
  ·have f := ms f e1
   exact rt [.tmp 4] f
  simp [i1, ZD]
  repeat with_reducible refine sd ?_
  refine cFt e1 ?_ ?_ <;> intro k16 h15 e1
  ·have f := ms f e1
   exact rt [.tmp 4] f
  simp [i1, ZD]
  repeat with_reducible refine sd ?_
  refine cRs (Rk (nth a0 v1_1).ZQ.ZS (W ((W ((W ((W ((W ((W ((W ((W ((W ((ZU (nth a0 v1_1).Doc.ZG (ZY (nth a0 v1_1).Doc.ZE (W ((W ((W (v1_0 + 1)) + 1)) + 1)))) + 1)) + 1)) + 1)) + 1)) + 1)) + 1)) + 1)) + 1)) + 1))) ?_ (hrows := by first | (simp; done) | (simp [W, w1]; done))
  refine cFt e1 ?_ ?_ <;> intro k17 h16 e1
  ·have f := ms f e1
   exact rt [.tmp 4] f
  simp [i1, ZD]
  repeat with_reducible refine sd ?_
  refine cRs (UU (nth a0 v1_1).ZQ.Zj (Y0 (nth a0 v1_1).ZQ.ZS (W ((W ((W ((W ((W ((W ((W ((W ((W ((ZU (nth a0 v1_1).Doc.ZG (ZY (nth a0 v1_1).Doc.ZE (W ((W ((W (v1_0 + 1)) + 1)) + 1)))) + 1)) + 1)) + 1)) + 1)) + 1)) + 1)) + 1)) + 1)) + 1)))) ?_ (hrows := by first | (simp; done) | (simp [W, w1]; done))
  refine cF e1 ?_ ?_ <;> intro k18 h17 e1
  ·have f := ms f e1
   exact rt [.tmp 4] f
  exact ny2 w1 e1
 have f := ms f e1
 exact rt [.tmp 4] f
theorem TB (a0 : List ZC) (a1 : Int) : Sa 45 [rL 2 ZC.row a0, rI a1] [rI (Yu a0 a1)] := by
 have f := me (Yu.eq_1 a0 a1)
 refine so Tryz.func45 Tryz.ntmps45 ?_
 refine lp2 (Ks.eq_2 a0) (fun v1_0 v1_1 => YM 31 [eL 0 2 a0 ZC.row, eI 1 v1_0, eI 5 (↑v1_1 : Int)]) (fun n1 v1_0 v1_1 => a0.length < n1 + v1_1 ∧ v1_1 ≤ a0.length) (a0.length + 1) a1 0 (fun p1 v1_0 v1_1 e1 j1 => ?_)
 refine cFf e1 ?_ ?_ <;> intro k2 h1 e1
 ·have i1 := ix h1
  have m2 := ml a0 (k2 0 _ rfl)
  have w1 := wr v1_1
  simp [i1, ZD]
  repeat with_reducible refine sd ?_
  refine cFt e1 ?_ ?_ <;> intro k3 h2 e1
  ·have f := ms f e1
   exact rt [.tmp 4] f
  simp [i1, ZD]
  repeat with_reducible refine sd ?_
  refine cRs (OL (nth a0 v1_1).ZF (W (v1_0 + 1))) ?_ (hrows := by first | (simp; done) | (simp [W, w1]; done))
  refine cF e1 ?_ ?_ <;> intro k4 h3 e1
  ·have f := ms f e1
   exact rt [.tmp 4] f
  exact ny2 w1 e1
 have f := ms f e1
 exact rt [.tmp 4] f
theorem W6 (a0 : Ze) (a1 : Int) : Sa 13 [a0.row, rI a1] [rI (Jp a0 a1)] := by
 have f := me (Jp.eq_1 a0 a1)
 refine so Tryz.func13 Tryz.ntmps13 ?_
 refine cRs (OY a0.Frame a1) ?_
 refine cF f ?_ ?_ <;> intro k1 h1 f
 ·exact rt [.tmp 4] f
 refine cRs (O0 a0.Zy (Yn a0.Frame a1)) ?_
 refine cF f ?_ ?_ <;> intro k2 h2 f
 ·exact rt [.tmp 4] f
 refine cRs (KB a0.Z6 (Yz a0.Zy (Yn a0.Frame a1))) ?_
 refine cF f ?_ ?_ <;> intro k3 h3 f
 ·exact rt [.tmp 4] f
 refine cRs (TB a0.ZH (ZU a0.Z6 (Yz a0.Zy (Yn a0.Frame a1)))) ?_
 refine cF f ?_ ?_ <;> intro k4 h4 f
 ·exact rt [.tmp 4] f
 refine cRs (KB a0.XC (Yu a0.ZH (ZU a0.Z6 (Yz a0.Zy (Yn a0.Frame a1))))) ?_
 refine cF f ?_ ?_ <;> intro k5 h5 f
 ·exact rt [.tmp 4] f
 refine cRs (KB a0.Yq (ZU a0.XC (Yu a0.ZH (ZU a0.Z6 (Yz a0.Zy (Yn a0.Frame a1)))))) ?_
 refine cF f ?_ ?_ <;> intro k6 h6 f
 ·exact rt [.tmp 4] f
 refine cRs (KB a0.Ym (ZU a0.Yq (ZU a0.XC (Yu a0.ZH (ZU a0.Z6 (Yz a0.Zy (Yn a0.Frame a1))))))) ?_
 refine cF f ?_ ?_ <;> intro k7 h7 f
 ·exact rt [.tmp 4] f
 exact rt [.tmp 4] f
end Go.Proofs.YtjflhdkeibijaaaGreat
