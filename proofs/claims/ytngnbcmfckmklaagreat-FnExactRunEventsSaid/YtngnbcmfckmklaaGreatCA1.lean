/- Contracts of the functions GP the abstract machine, part A1. No condition. -/
import Derived.Test.YtngnbcmfckmklaaGreatL
import Derived.Test.YtngnbcmfckmklaaGreatTy
namespace Go.Proofs.YtngnbcmfckmklaaGreat
open Tryz
open Go.Vm Go.Mo
set_option maxHeartbeats 1000000
set_option maxRecDepth 100000
set_option linter.unusedSimpArgs false
set_option linter.unusedVariables false
theorem wJ (a0 : List YZ) (a1 : Int) : Sa 43 [rL 5 YZ.row a0, rI a1] [rI (JU a0 a1)] := by
 have f := me (JU.eq_1 a0 a1)
 refine so func43 ntmps43 ?_
 refine cF f ?_ ?_ <;> intro k1 h1 f
 ·exact rt [.tmp 4] f
 exact rt [.tmp 4] f
theorem Nk (a0 : List ZR) (a1 : Int) : Sa 44 [rL 3 ZR.row a0, rI a1] [rI (Xh a0 a1)] := by
 have f := me (Xh.eq_1 a0 a1)
 refine so func44 ntmps44 ?_
 refine cF f ?_ ?_ <;> intro k1 h1 f
 ·exact rt [.tmp 4] f
 exact rt [.tmp 4] f
theorem G0 (a0 : List Zj) (a1 : Int) : Sa 45 [rL 4 Zj.row a0, rI a1] [rI (yR a0 a1)] := by
 have f := me (yR.eq_1 a0 a1)
 refine so func45 ntmps45 ?_
 refine cF f ?_ ?_ <;> intro k1 h1 f
 ·exact rt [.tmp 4] f
 exact rt [.tmp 4] f
theorem B0 (a0 : Zq) (a1 : Int) : Sa 15 [a0.row, rI a1] [rI (YH a0 a1)] := by
 have f := me (YH.eq_1 a0 a1)
 refine so func15 ntmps15 ?_
 refine cRs (wJ a0.Zm a1) ?_
 refine cF f ?_ ?_ <;> intro k1 h1 f
 ·exact rt [.tmp 4] f
 refine cRs (Nk a0.ZE (JU a0.Zm a1)) ?_
 refine cF f ?_ ?_ <;> intro k2 h2 f
 ·exact rt [.tmp 4] f
 refine cRs (G0 a0.Methods (Xh a0.ZE (JU a0.Zm a1))) ?_
 refine cF f ?_ ?_ <;> intro k3 h3 f
 ·exact rt [.tmp 4] f
 exact rt [.tmp 4] f
theorem AE (a0 : List Z1) (a1 : Int) : Sa 16 [rL 7 Z1.row a0, rI a1] [rI (Yl a0 a1)] := by
 have f := me (Yl.eq_1 a0 a1)
 refine so func16 ntmps16 ?_
 refine cF f ?_ ?_ <;> intro k1 h1 f
 ·exact rt [.tmp 4] f
 exact rt [.tmp 4] f
theorem xe (a0 : List Int) (a1 : Int) : Sa 17 [rL 1 iR a0, rI a1] [rI (Zv a0 a1)] := by
 have f := me (Zv.eq_1 a0 a1)
 refine so func17 ntmps17 ?_
 refine cF f ?_ ?_ <;> intro k1 h1 f
 ·exact rt [.tmp 4] f
 exact rt [.tmp 4] f
theorem GS (a0 : List ByteArray) (a1 : Int) : Sa 95 [rL 1 sR a0, rI a1] [rI (Qv a0 a1)] := by
 have f := me (Qv.eq_1 a0 a1)
 refine so func95 ntmps95 ?_
 refine cF f ?_ ?_ <;> intro k1 h1 f
 ·exact rt [.tmp 4] f
 refine lp2 (qZ.eq_2 a0) (fun J U => YT 28 [eL 0 1 a0 sR, eI 1 J, eI 5 (U : Int)]) (fun n1 J U => a0.length < n1 + U /\ U <= a0.length) (a0.length + 1) (W (a1 - (a0.length : Int))) 0 (fun p1 J U e1 j1 => ?_)
 refine cFf e1 ?_ ?_ <;> intro k3 h2 e1
 ·have i1 := ix h2
  have m2 := ml a0 (k3 0 _ rfl)
  have w1 := wr U
  simp [i1, ZB]
  refine rpS ?_
  refine cF e1 ?_ ?_ <;> intro k4 h3 e1
  ·have f := ms f e1
   exact rt [.tmp 4] f
  exact ny2 w1 e1
 have f := ms f e1
 exact rt [.tmp 4] f
theorem RU (a0 : ZT) (a1 : Int) : Sa 47 [a0.row, rI a1] [rI (Yo a0 a1)] := by
 have f := me (Yo.eq_1 a0 a1)
 refine so func47 ntmps47 ?_
 refine cRs (GS a0.ZU a1) ?_
 refine cF f ?_ ?_ <;> intro k1 h1 f
 ·exact rt [.tmp 4] f
 refine cRs (xe a0.Zk (Qv a0.ZU a1)) ?_
 refine cF f ?_ ?_ <;> intro k2 h2 f
 ·exact rt [.tmp 4] f
 exact rt [.tmp 4] f
theorem Bd (a0 : ZO) (a1 : Int) : Sa 282 [a0.row, rI a1] [rI (jW a0 a1)] := by
 have f := me (jW.eq_1 a0 a1)
 refine so func282 ntmps282 ?_
 refine cRs (xe a0.Ys a1) ?_
 refine cF f ?_ ?_ <;> intro k1 h1 f
 ·exact rt [.tmp 4] f
 exact rt [.tmp 4] f
theorem EW (a0 : List ZO) (a1 : Int) : Sa 263 [rL 3 ZO.row a0, rI a1] [rI (Jf a0 a1)] := by
 have f := me (Jf.eq_1 a0 a1)
 refine so func263 ntmps263 ?_
 refine cF f ?_ ?_ <;> intro k1 h1 f
 ·exact rt [.tmp 4] f
 refine lp2 (jr.eq_2 a0) (fun J U => YT 27 [eL 0 3 a0 ZO.row, eI 1 J, eI 5 (U : Int)]) (fun n1 J U => a0.length < n1 + U /\ U <= a0.length) (a0.length + 1) (W (a1 - (a0.length : Int))) 0 (fun p1 J U e1 j1 => ?_)
 refine cFf e1 ?_ ?_ <;> intro k3 h2 e1
 ·have i1 := ix h2
  have m2 := ml a0 (k3 0 _ rfl)
  have w1 := wr U
  simp [i1, ZB]
  refine rpS ?_
  refine cRs (Bd (nth a0 U) J) ?_
  refine cF e1 ?_ ?_ <;> intro k4 h3 e1
  ·have f := ms f e1
   exact rt [.tmp 4] f
  exact ny2 w1 e1
 have f := ms f e1
 exact rt [.tmp 4] f
theorem AR (a0 : List Zy) (a1 : Int) : Sa 292 [rL 2 Zy.row a0, rI a1] [rI (KP a0 a1)] := by
 have f := me (KP.eq_1 a0 a1)
 refine so func292 ntmps292 ?_
 refine cF f ?_ ?_ <;> intro k1 h1 f
 ·exact rt [.tmp 4] f
 exact rt [.tmp 4] f
theorem E3 (a0 : List ZW) (a1 : Int) : Sa 293 [rL 5 ZW.row a0, rI a1] [rI (xP a0 a1)] := by
 have f := me (xP.eq_1 a0 a1)
 refine so func293 ntmps293 ?_
 refine cF f ?_ ?_ <;> intro k1 h1 f
 ·exact rt [.tmp 4] f
 exact rt [.tmp 4] f
theorem EG (a0 : ZK) (a1 : Int) : Sa 283 [a0.row, rI a1] [rI (yM a0 a1)] := by
 have f := me (yM.eq_1 a0 a1)
 refine so func283 ntmps283 ?_
 refine cRs (AR a0.Path a1) ?_
 refine cF f ?_ ?_ <;> intro k1 h1 f
 ·exact rt [.tmp 4] f
 refine cRs (E3 a0.Yi (KP a0.Path a1)) ?_
 refine cF f ?_ ?_ <;> intro k2 h2 f
 ·exact rt [.tmp 4] f
 exact rt [.tmp 4] f
theorem Io (a0 : List ZK) (a1 : Int) : Sa 264 [rL 5 ZK.row a0, rI a1] [rI (zd a0 a1)] := by
 have f := me (zd.eq_1 a0 a1)
 refine so func264 ntmps264 ?_
 refine cF f ?_ ?_ <;> intro k1 h1 f
 ·exact rt [.tmp 4] f
 refine lp2 (xW.eq_2 a0) (fun J U => YT 27 [eL 0 5 a0 ZK.row, eI 1 J, eI 5 (U : Int)]) (fun n1 J U => a0.length < n1 + U /\ U <= a0.length) (a0.length + 1) (W (a1 - (a0.length : Int))) 0 (fun p1 J U e1 j1 => ?_)
 refine cFf e1 ?_ ?_ <;> intro k3 h2 e1
 ·have i1 := ix h2
  have m2 := ml a0 (k3 0 _ rfl)
  have w1 := wr U
  simp [i1, ZB]
  refine rpS ?_
  refine cRs (EG (nth a0 U) J) ?_
  refine cF e1 ?_ ?_ <;> intro k4 h3 e1
  ·have f := ms f e1
   exact rt [.tmp 4] f
  exact ny2 w1 e1
 have f := ms f e1
 exact rt [.tmp 4] f
theorem DF (a0 : Za) (a1 : Int) : Sa 221 [a0.row, rI a1] [rI (zk a0 a1)] := by
 have f := me (zk.eq_1 a0 a1)
 refine so func221 ntmps221 ?_
 refine cRs (EW a0.ZL a1) ?_
 refine cF f ?_ ?_ <;> intro k1 h1 f
 ·exact rt [.tmp 4] f
 refine cRs (Io a0.Zf (Jf a0.ZL a1)) ?_
 refine cF f ?_ ?_ <;> intro k2 h2 f
 ·exact rt [.tmp 4] f
 exact rt [.tmp 4] f
theorem wg (a0 : ZM) (a1 : Int) : Sa 159 [a0.row, rI a1] [rI (WU a0 a1)] := by
 have f := me (WU.eq_1 a0 a1)
 refine so func159 ntmps159 ?_
 refine cRs (RU a0.Doc a1) ?_
 refine cF f ?_ ?_ <;> intro k1 h1 f
 ·exact rt [.tmp 4] f
 refine cRs (DF a0.ZJ (Yo a0.Doc a1)) ?_
 refine cF f ?_ ?_ <;> intro k2 h2 f
 ·exact rt [.tmp 4] f
 exact rt [.tmp 4] f
theorem Bk (a0 : List ZM) (a1 : Int) : Sa 94 [rL 16 ZM.row a0, rI a1] [rI (jO a0 a1)] := by
 have f := me (jO.eq_1 a0 a1)
 refine so func94 ntmps94 ?_
 refine cF f ?_ ?_ <;> intro k1 h1 f
 ·exact rt [.tmp 4] f
 refine lp2 (We.eq_2 a0) (fun J U => YT 27 [eL 0 16 a0 ZM.row, eI 1 J, eI 5 (U : Int)]) (fun n1 J U => a0.length < n1 + U /\ U <= a0.length) (a0.length + 1) (W (a1 - (a0.length : Int))) 0 (fun p1 J U e1 j1 => ?_)
 refine cFf e1 ?_ ?_ <;> intro k3 h2 e1
 ·have i1 := ix h2
  have m2 := ml a0 (k3 0 _ rfl)
  have w1 := wr U
  simp [i1, ZB]
  refine rpS ?_
  refine cRs (wg (nth a0 U) J) ?_
  refine cF e1 ?_ ?_ <;> intro k4 h3 e1
  ·have f := ms f e1
   exact rt [.tmp 4] f
  exact ny2 w1 e1
 have f := ms f e1
 exact rt [.tmp 4] f
theorem EH (a0 : ZC) (a1 : Int) : Sa 46 [a0.row, rI a1] [rI (yN a0 a1)] := by
 have f := me (yN.eq_1 a0 a1)
 refine so func46 ntmps46 ?_
 refine cRs (Bk a0.ZD a1) ?_
 refine cF f ?_ ?_ <;> intro k1 h1 f
 ·exact rt [.tmp 4] f
 exact rt [.tmp 4] f
theorem Hj (a0 : List ZC) (a1 : Int) : Sa 18 [rL 2 ZC.row a0, rI a1] [rI (Yn a0 a1)] := by
 have f := me (Yn.eq_1 a0 a1)
 refine so func18 ntmps18 ?_
 refine cF f ?_ ?_ <;> intro k1 h1 f
 ·exact rt [.tmp 4] f
 refine lp2 (xq.eq_2 a0) (fun J U => YT 27 [eL 0 2 a0 ZC.row, eI 1 J, eI 5 (U : Int)]) (fun n1 J U => a0.length < n1 + U /\ U <= a0.length) (a0.length + 1) (W (a1 - (a0.length : Int))) 0 (fun p1 J U e1 j1 => ?_)
 refine cFf e1 ?_ ?_ <;> intro k3 h2 e1
 ·have i1 := ix h2
  have m2 := ml a0 (k3 0 _ rfl)
  have w1 := wr U
  simp [i1, ZB]
  refine rpS ?_
  refine cRs (EH (nth a0 U) J) ?_
  refine cF e1 ?_ ?_ <;> intro k4 h3 e1
  ·have f := ms f e1
   exact rt [.tmp 4] f
  exact ny2 w1 e1
 have f := ms f e1
 exact rt [.tmp 4] f
theorem Bf (a0 : ZH) (a1 : Int) : Sa 4 [a0.row, rI a1] [rI (KQ a0 a1)] := by
 have f := me (KQ.eq_1 a0 a1)
 refine so func4 ntmps4 ?_
 refine cRs (B0 a0.Frame a1) ?_
 refine cF f ?_ ?_ <;> intro k1 h1 f
 ·exact rt [.tmp 4] f
 refine cRs (AE a0.ZN (YH a0.Frame a1)) ?_
 refine cF f ?_ ?_ <;> intro k2 h2 f
 ·exact rt [.tmp 4] f
 refine cRs (xe a0.Zl (Yl a0.ZN (YH a0.Frame a1))) ?_
 refine cF f ?_ ?_ <;> intro k3 h3 f
 ·exact rt [.tmp 4] f
 refine cRs (Hj a0.ZA (Zv a0.Zl (Yl a0.ZN (YH a0.Frame a1)))) ?_
 refine cF f ?_ ?_ <;> intro k4 h4 f
 ·exact rt [.tmp 4] f
 refine cRs (xe a0.YX (Yn a0.ZA (Zv a0.Zl (Yl a0.ZN (YH a0.Frame a1))))) ?_
 refine cF f ?_ ?_ <;> intro k5 h5 f
 ·exact rt [.tmp 4] f
 refine cRs (xe a0.YJ (Zv a0.YX (Yn a0.ZA (Zv a0.Zl (Yl a0.ZN (YH a0.Frame a1)))))) ?_
 refine cF f ?_ ?_ <;> intro k6 h6 f
 ·exact rt [.tmp 4] f
 refine cRs (xe a0.Z4 (Zv a0.YJ (Zv a0.YX (Yn a0.ZA (Zv a0.Zl (Yl a0.ZN (YH a0.Frame a1))))))) ?_
 refine cF f ?_ ?_ <;> intro k7 h7 f
 ·exact rt [.tmp 4] f
 exact rt [.tmp 4] f
theorem BT (a0 : Zp) (a1 : Int) : Sa 19 [a0.row, rI a1] [rI (jS a0 a1)] := by
 have f := me (jS.eq_1 a0 a1)
 refine so func19 ntmps19 ?_
 refine cRs (RU a0.Doc a1) ?_
 refine cF f ?_ ?_ <;> intro k1 h1 f
 ·exact rt [.tmp 4] f
 refine cRs (xe a0.Ids (Yo a0.Doc a1)) ?_
 refine cF f ?_ ?_ <;> intro k2 h2 f
 ·exact rt [.tmp 4] f
 exact rt [.tmp 4] f
theorem Dv (a0 : List Zp) (a1 : Int) : Sa 5 [rL 9 Zp.row a0, rI a1] [rI (kV a0 a1)] := by
 have f := me (kV.eq_1 a0 a1)
 refine so func5 ntmps5 ?_
 refine cF f ?_ ?_ <;> intro k1 h1 f
 ·exact rt [.tmp 4] f
 refine lp2 (jj.eq_2 a0) (fun J U => YT 27 [eL 0 9 a0 Zp.row, eI 1 J, eI 5 (U : Int)]) (fun n1 J U => a0.length < n1 + U /\ U <= a0.length) (a0.length + 1) (W (a1 - (a0.length : Int))) 0 (fun p1 J U e1 j1 => ?_)
 refine cFf e1 ?_ ?_ <;> intro k3 h2 e1
 ·have i1 := ix h2
  have m2 := ml a0 (k3 0 _ rfl)
  have w1 := wr U
  simp [i1, ZB]
  refine rpS ?_
  refine cRs (BT (nth a0 U) J) ?_
  refine cF e1 ?_ ?_ <;> intro k4 h3 e1
  ·have f := ms f e1
   exact rt [.tmp 4] f
  exact ny2 w1 e1
 have f := ms f e1
 exact rt [.tmp 4] f
theorem uN (a0 : YZ) : Sa 123 [a0.row] [(Hr a0).row] := by
 have f := me (Hr.eq_1 a0)
 refine so func123 ntmps123 ?_
 exact rt [.cell 2 135] f
theorem vF (a0 : YZ) : Sa 123 [a0.row] [a0.row] := by
  have h := uN a0
  rwa [JI] at h
theorem vK (a0 : List YZ) (u0 : Sm 2338816 a0) : Sd 60 [rL 5 YZ.row a0] [rL 5 YZ.row (Fh a0)] := by
 have f := me (Fh.eq_1 a0)
 have c1 := sl 2338816 a0 u0
 refine soD func60 ntmps60 ?_
 refine lp2 (Sp.eq_2 a0) (fun J U => YT 23 [eL 0 5 a0 YZ.row, (3, .one (.sref 7 0 0 U.length), []), eI 4 (J : Int), (7, .any, [.arr false 5 (U.map YZ.row)])]) (fun n1 J U => a0.length < n1 + J /\ J <= a0.length /\ U.length = a0.length) (a0.length + 1) 0 (List.replicate a0.length (YZ.mk 0 0 0 0 0)) (fun p1 J U e1 j1 => ?_)
 refine cFf e1 ?_ ?_ <;> intro k2 h1 e1
 ·have i1 := ix h1
  have m2 := ml a0 (k2 0 _ rfl)
  have w1 := wr J
  simp [i1, ZB]
  refine rpS ?_
  refine cR (vF (nth a0 J)) ?_
  have i2 := ik J U
  simp [i2, ZB, YL (x := (nth a0 J)) rfl]
  refine rpS ?_
  exact ny2 w1 e1
 have f := ms f e1
 exact rtD [.tmp 2] f
theorem BF (a0 : List YZ) (u0 : Sm 2338816 a0) : Sd 60 [rL 5 YZ.row a0] [rL 5 YZ.row a0] := by
  have h := vK a0 u0
  rwa [QX] at h
theorem M0 (a0 : ZR) : Sa 124 [a0.row] [(WL a0).row] := by
 have f := me (WL.eq_1 a0)
 refine so func124 ntmps124 ?_
 exact rt [.cell 2 177] f
theorem MM (a0 : ZR) : Sa 124 [a0.row] [a0.row] := by
  have h := M0 a0
  rwa [Y3] at h
theorem MC (a0 : List ZR) (u0 : Sm 2338816 a0) : Sd 61 [rL 3 ZR.row a0] [rL 3 ZR.row (VW a0)] := by
 have f := me (VW.eq_1 a0)
 have c1 := sl 2338816 a0 u0
 refine soD func61 ntmps61 ?_
 refine lp2 (qB.eq_2 a0) (fun J U => YT 23 [eL 0 3 a0 ZR.row, (3, .one (.sref 7 0 0 U.length), []), eI 4 (J : Int), (7, .any, [.arr false 3 (U.map ZR.row)])]) (fun n1 J U => a0.length < n1 + J /\ J <= a0.length /\ U.length = a0.length) (a0.length + 1) 0 (List.replicate a0.length (ZR.mk 0 0 0)) (fun p1 J U e1 j1 => ?_)
 refine cFf e1 ?_ ?_ <;> intro k2 h1 e1
 ·have i1 := ix h1
  have m2 := ml a0 (k2 0 _ rfl)
  have w1 := wr J
  simp [i1, ZB]
  refine rpS ?_
  refine cR (MM (nth a0 J)) ?_
  have i2 := ik J U
  simp [i2, ZB, YL (x := (nth a0 J)) rfl]
  refine rpS ?_
  exact ny2 w1 e1
 have f := ms f e1
 exact rtD [.tmp 2] f
theorem Ow (a0 : List ZR) (u0 : Sm 2338816 a0) : Sd 61 [rL 3 ZR.row a0] [rL 3 ZR.row a0] := by
  have h := MC a0 u0
  rwa [Yw] at h
theorem Dj (a0 : Zj) : Sa 125 [a0.row] [(SX a0).row] := by
 have f := me (SX.eq_1 a0)
 refine so func125 ntmps125 ?_
 exact rt [.cell 2 181] f
theorem GW (a0 : Zj) : Sa 125 [a0.row] [a0.row] := by
  have h := Dj a0
  rwa [Xt] at h
theorem EN (a0 : List Zj) (u0 : Sm 2338816 a0) : Sd 62 [rL 4 Zj.row a0] [rL 4 Zj.row (PG a0)] := by
 have f := me (PG.eq_1 a0)
 have c1 := sl 2338816 a0 u0
 refine soD func62 ntmps62 ?_
 refine lp2 (WJ.eq_2 a0) (fun J U => YT 23 [eL 0 4 a0 Zj.row, (3, .one (.sref 7 0 0 U.length), []), eI 4 (J : Int), (7, .any, [.arr false 4 (U.map Zj.row)])]) (fun n1 J U => a0.length < n1 + J /\ J <= a0.length /\ U.length = a0.length) (a0.length + 1) 0 (List.replicate a0.length (Zj.mk 0 0 0 0)) (fun p1 J U e1 j1 => ?_)
 refine cFf e1 ?_ ?_ <;> intro k2 h1 e1
 ·have i1 := ix h1
  have m2 := ml a0 (k2 0 _ rfl)
  have w1 := wr J
  simp [i1, ZB]
  refine rpS ?_
  refine cR (GW (nth a0 J)) ?_
  have i2 := ik J U
  simp [i2, ZB, YL (x := (nth a0 J)) rfl]
  refine rpS ?_
  exact ny2 w1 e1
 have f := ms f e1
 exact rtD [.tmp 2] f
theorem Il (a0 : List Zj) (u0 : Sm 2338816 a0) : Sd 62 [rL 4 Zj.row a0] [rL 4 Zj.row a0] := by
  have h := EN a0 u0
  rwa [XU] at h
theorem C7 (a0 : Zq) (u0 : Sm 2334720 a0) : Sd 22 [a0.row] [(P5 a0).row] := by
 have f := me (P5.eq_1 a0)
 refine soD func22 ntmps22 ?_
 refine cDs [false] (BF a0.Zm (sg (Zq.xw u0))) ?_
 refine cDs [false] (Ow a0.ZE (sg (Zq.XV u0))) ?_
 refine cDs [false] (Il a0.Methods (sg (Zq.GZ u0))) ?_
 exact rtD [.cell 2 39] f
theorem DL (a0 : Zq) (u0 : Sm 2334720 a0) : Sd 22 [a0.row] [a0.row] := by
  have h := C7 a0 u0
  rwa [X2] at h
theorem Ay (a0 : Z1) : Sa 63 [a0.row] [(Nq a0).row] := by
 have f := me (Nq.eq_1 a0)
 refine so func63 ntmps63 ?_
 exact rt [.cell 2 106] f
theorem BZ (a0 : Z1) : Sa 63 [a0.row] [a0.row] := by
  have h := Ay a0
  rwa [QT] at h
theorem AW (a0 : List Z1) (u0 : Sm 2338816 a0) : Sd 23 [rL 7 Z1.row a0] [rL 7 Z1.row (LJ a0)] := by
 have f := me (LJ.eq_1 a0)
 have c1 := sl 2338816 a0 u0
 refine soD func23 ntmps23 ?_
 refine lp2 (Up.eq_2 a0) (fun J U => YT 23 [eL 0 7 a0 Z1.row, (3, .one (.sref 7 0 0 U.length), []), eI 4 (J : Int), (7, .any, [.arr false 7 (U.map Z1.row)])]) (fun n1 J U => a0.length < n1 + J /\ J <= a0.length /\ U.length = a0.length) (a0.length + 1) 0 (List.replicate a0.length (Z1.mk 0 0 0 0 0 0 0)) (fun p1 J U e1 j1 => ?_)
 refine cFf e1 ?_ ?_ <;> intro k2 h1 e1
 ·have i1 := ix h1
  have m2 := ml a0 (k2 0 _ rfl)
  have w1 := wr J
  simp [i1, ZB]
  refine rpS ?_
  refine cR (BZ (nth a0 J)) ?_
  have i2 := ik J U
  simp [i2, ZB, YL (x := (nth a0 J)) rfl]
  refine rpS ?_
  exact ny2 w1 e1
 have f := ms f e1
 exact rtD [.tmp 2] f
theorem D3 (a0 : List Z1) (u0 : Sm 2338816 a0) : Sd 23 [rL 7 Z1.row a0] [rL 7 Z1.row a0] := by
  have h := AW a0 u0
  rwa [X6] at h
theorem wm (a0 : List Int) (u0 : Sm 2342912 a0) : Sd 24 [rL 1 iR a0] [rL 1 iR (Hv a0)] := by
 have f := me (Hv.eq_1 a0)
 have c1 := sl 2342912 a0 u0
 refine soD func24 ntmps24 ?_
 refine lp2 (SZ.eq_2 a0) (fun J U => YT 22 [eL 0 1 a0 iR, (3, .one (.sref 7 0 0 U.length), []), eI 4 (J : Int), (7, .any, [.arr false 1 (U.map iR)])]) (fun n1 J U => a0.length < n1 + J /\ J <= a0.length /\ U.length = a0.length) (a0.length + 1) 0 (List.replicate a0.length 0) (fun p1 J U e1 j1 => ?_)
 refine cFf e1 ?_ ?_ <;> intro k2 h1 e1
 ·have i1 := ix h1
  have m2 := ml a0 (k2 0 _ rfl)
  have w1 := wr J
  have i2 := ik J U
  simp [i1, ZB, i2, YL (x := (nth a0 J)) rfl]
  refine rpS ?_
  exact ny2 w1 e1
 have f := ms f e1
 exact rtD [.tmp 2] f
theorem yn (a0 : List Int) (u0 : Sm 2342912 a0) : Sd 24 [rL 1 iR a0] [rL 1 iR a0] := by
  have h := wm a0 u0
  rwa [QS] at h
theorem Fq (a0 : List ByteArray) (u0 : Sm 2342912 a0) : Sd 127 [rL 1 sR a0] [rL 1 sR (Pa a0)] := by
 have f := me (Pa.eq_1 a0)
 have c1 := sl 2342912 a0 u0
 refine soD func127 ntmps127 ?_
 refine lp2 (WM.eq_2 a0) (fun J U => YT 22 [eL 0 1 a0 sR, (3, .one (.sref 7 0 0 U.length), []), eI 4 (J : Int), (7, .any, [.arr false 1 (U.map sR)])]) (fun n1 J U => a0.length < n1 + J /\ J <= a0.length /\ U.length = a0.length) (a0.length + 1) 0 (List.replicate a0.length (⟨#[]⟩ : ByteArray)) (fun p1 J U e1 j1 => ?_)
 refine cFf e1 ?_ ?_ <;> intro k2 h1 e1
 ·have i1 := ix h1
  have m2 := ml a0 (k2 0 _ rfl)
  have w1 := wr J
  have i2 := ik J U
  simp [i1, ZB, i2, YL (x := (nth a0 J)) rfl]
  refine rpS ?_
  exact ny2 w1 e1
 have f := ms f e1
 exact rtD [.tmp 2] f
theorem Hk (a0 : List ByteArray) (u0 : Sm 2342912 a0) : Sd 127 [rL 1 sR a0] [rL 1 sR a0] := by
  have h := Fq a0 u0
  rwa [XW] at h
theorem IK (a0 : ZT) (u0 : Sm 2338816 a0) : Sd 65 [a0.row] [(W3 a0).row] := by
 have f := me (W3.eq_1 a0)
 refine soD func65 ntmps65 ?_
 refine cDs [false] (Hk a0.ZU (sg (ZT.NZ u0))) ?_
 refine cDs [false] (yn a0.Zk (sg (ZT.GM u0))) ?_
 exact rtD [.cell 2 66] f
theorem T5 (a0 : ZT) (u0 : Sm 2338816 a0) : Sd 65 [a0.row] [a0.row] := by
  have h := IK a0 u0
  rwa [XE] at h
theorem Mf (a0 : Zc) : Sa 239 [a0.row] [(kv a0).row] := by
 have f := me (kv.eq_1 a0)
 refine so func239 ntmps239 ?_
 exact rt [.cell 2 124] f
theorem Ni (a0 : Zc) : Sa 239 [a0.row] [a0.row] := by
  have h := Mf a0
  rwa [Y1] at h
theorem C3 (a0 : ZO) (u0 : Sm 2338816 a0) : Sd 286 [a0.row] [(P4 a0).row] := by
 have f := me (P4.eq_1 a0)
 refine soD func286 ntmps286 ?_
 refine cDs [false] (yn a0.Ys (sg (ZO.uv u0))) ?_
 exact rtD [.cell 2 145] f
theorem D4 (a0 : ZO) (u0 : Sm 2338816 a0) : Sd 286 [a0.row] [a0.row] := by
  have h := C3 a0 u0
  rwa [X1] at h
theorem DB (a0 : List ZO) (u0 : Sm 2334720 a0) : Sd 270 [rL 3 ZO.row a0] [rL 3 ZO.row (Oz a0)] := by
 have f := me (Oz.eq_1 a0)
 refine soD func270 ntmps270 ?_
 have c1 := sl 2334720 a0 u0
 refine rA (n := a0.length) rfl rfl rfl rfl rfl rfl (by simp) (by simp) (by simp; omega) (by omega) ?_
 simp
 refine lp2 (W4.eq_2 a0) (fun J U => YT 23 [eL 0 3 a0 ZO.row, (3, .one (.sref 7 0 0 U.length), []), eI 4 (J : Int), (7, .any, [.arr true 3 (U.map ZO.row)])]) (fun n1 J U => a0.length < n1 + J /\ J <= a0.length /\ U.length = a0.length) (a0.length + 1) 0 (List.replicate a0.length (ZO.mk 0 ([] : List Int) 0)) (fun p1 J U e1 j1 => ?_)
 refine cFf e1 ?_ ?_ <;> intro k2 h1 e1
 ·have i1 := ix h1
  have m2 := ml a0 (k2 0 _ rfl)
  have w1 := wr J
  simp [i1, ZB]
  refine rpS ?_
  have i2 := ik J U
  refine cDf i2 [true, false] (D4 (nth a0 J) (sg (Z7 u0))) ?_
  refine SE (t := 7) (j := 0) (i := J) (size := 3) (rows := (U.map ZO.row)) (ds := (nth a0 J).row) (L := [(20, 1)]) ?_
  simp [YL (x := (nth a0 J)) rfl, i2, ZB, Zd]
  refine rpS ?_
  exact ny2 w1 e1
 have f := ms f e1
 exact rtD [.tmp 2] f
theorem Ft (a0 : List ZO) (u0 : Sm 2334720 a0) : Sd 270 [rL 3 ZO.row a0] [rL 3 ZO.row a0] := by
  have h := DB a0 u0
  rwa [Xn] at h
theorem vQ (a0 : Zy) : Sa 298 [a0.row] [(Nw a0).row] := by
 have f := me (Nw.eq_1 a0)
 refine so func298 ntmps298 ?_
 exact rt [.cell 2 253] f
theorem Bm (a0 : Zy) : Sa 298 [a0.row] [a0.row] := by
  have h := vQ a0
  rwa [Qc] at h
theorem C5 (a0 : List Zy) (u0 : Sm 2338816 a0) : Sd 294 [rL 2 Zy.row a0] [rL 2 Zy.row (Mi a0)] := by
 have f := me (Mi.eq_1 a0)
 have c1 := sl 2338816 a0 u0
 refine soD func294 ntmps294 ?_
 refine lp2 (Uc.eq_2 a0) (fun J U => YT 23 [eL 0 2 a0 Zy.row, (3, .one (.sref 7 0 0 U.length), []), eI 4 (J : Int), (7, .any, [.arr false 2 (U.map Zy.row)])]) (fun n1 J U => a0.length < n1 + J /\ J <= a0.length /\ U.length = a0.length) (a0.length + 1) 0 (List.replicate a0.length (Zy.mk 0 false)) (fun p1 J U e1 j1 => ?_)
 refine cFf e1 ?_ ?_ <;> intro k2 h1 e1
 ·have i1 := ix h1
  have m2 := ml a0 (k2 0 _ rfl)
  have w1 := wr J
  simp [i1, ZB]
  refine rpS ?_
  refine cR (Bm (nth a0 J)) ?_
  have i2 := ik J U
  simp [i2, ZB, YL (x := (nth a0 J)) rfl]
  refine rpS ?_
  exact ny2 w1 e1
 have f := ms f e1
 exact rtD [.tmp 2] f
theorem Ej (a0 : List Zy) (u0 : Sm 2338816 a0) : Sd 294 [rL 2 Zy.row a0] [rL 2 Zy.row a0] := by
  have h := C5 a0 u0
  rwa [Xz] at h
theorem C9 (a0 : ZW) : Sa 299 [a0.row] [(Ps a0).row] := by
 have f := me (Ps.eq_1 a0)
 refine so func299 ntmps299 ?_
 exact rt [.cell 2 158] f
theorem Er (a0 : ZW) : Sa 299 [a0.row] [a0.row] := by
  have h := C9 a0
  rwa [Xy] at h
theorem Eb (a0 : List ZW) (u0 : Sm 2338816 a0) : Sd 295 [rL 5 ZW.row a0] [rL 5 ZW.row (Om a0)] := by
 have f := me (Om.eq_1 a0)
 have c1 := sl 2338816 a0 u0
 refine soD func295 ntmps295 ?_
 refine lp2 (VB.eq_2 a0) (fun J U => YT 23 [eL 0 5 a0 ZW.row, (3, .one (.sref 7 0 0 U.length), []), eI 4 (J : Int), (7, .any, [.arr false 5 (U.map ZW.row)])]) (fun n1 J U => a0.length < n1 + J /\ J <= a0.length /\ U.length = a0.length) (a0.length + 1) 0 (List.replicate a0.length (ZW.mk 0 0 0 0 0)) (fun p1 J U e1 j1 => ?_)
 refine cFf e1 ?_ ?_ <;> intro k2 h1 e1
 ·have i1 := ix h1
  have m2 := ml a0 (k2 0 _ rfl)
  have w1 := wr J
  simp [i1, ZB]
  refine rpS ?_
  refine cR (Er (nth a0 J)) ?_
  have i2 := ik J U
  simp [i2, ZB, YL (x := (nth a0 J)) rfl]
  refine rpS ?_
  exact ny2 w1 e1
 have f := ms f e1
 exact rtD [.tmp 2] f
theorem F3 (a0 : List ZW) (u0 : Sm 2338816 a0) : Sd 295 [rL 5 ZW.row a0] [rL 5 ZW.row a0] := by
  have h := Eb a0 u0
  rwa [Xq] at h
theorem FJ (a0 : ZK) (u0 : Sm 2334720 a0) : Sd 287 [a0.row] [(UY a0).row] := by
 have f := me (UY.eq_1 a0)
 refine soD func287 ntmps287 ?_
 refine cDs [false] (Ej a0.Path (sg (ZK.pz u0))) ?_
 refine cDs [false] (F3 a0.Yi (sg (ZK.Cv u0))) ?_
 exact rtD [.cell 2 171] f
theorem I6 (a0 : ZK) (u0 : Sm 2334720 a0) : Sd 287 [a0.row] [a0.row] := by
  have h := FJ a0 u0
  rwa [XR] at h
theorem Iq (a0 : List ZK) (u0 : Sm 2330624 a0) : Sd 271 [rL 5 ZK.row a0] [rL 5 ZK.row (SU a0)] := by
 have f := me (SU.eq_1 a0)
 refine soD func271 ntmps271 ?_
 have c1 := sl 2330624 a0 u0
 refine rA (n := a0.length) rfl rfl rfl rfl rfl rfl (by simp) (by simp) (by simp; omega) (by omega) ?_
 simp
 refine lp2 (ji.eq_2 a0) (fun J U => YT 23 [eL 0 5 a0 ZK.row, (3, .one (.sref 7 0 0 U.length), []), eI 4 (J : Int), (7, .any, [.arr true 5 (U.map ZK.row)])]) (fun n1 J U => a0.length < n1 + J /\ J <= a0.length /\ U.length = a0.length) (a0.length + 1) 0 (List.replicate a0.length (ZK.mk 0 0 0 ([] : List Zy) ([] : List ZW))) (fun p1 J U e1 j1 => ?_)
 refine cFf e1 ?_ ?_ <;> intro k2 h1 e1
 ·have i1 := ix h1
  have m2 := ml a0 (k2 0 _ rfl)
  have w1 := wr J
  simp [i1, ZB]
  refine rpS ?_
  have i2 := ik J U
  refine cDf i2 [true, true, true, false, false] (I6 (nth a0 J) (sg (Z7 u0))) ?_
  refine SE (t := 7) (j := 0) (i := J) (size := 5) (rows := (U.map ZK.row)) (ds := (nth a0 J).row) (L := [(20, 3), (20, 4)]) ?_
  simp [YL (x := (nth a0 J)) rfl, i2, ZB, Zd]
  refine rpS ?_
  exact ny2 w1 e1
 have f := ms f e1
 exact rtD [.tmp 2] f
theorem LM (a0 : List ZK) (u0 : Sm 2330624 a0) : Sd 271 [rL 5 ZK.row a0] [rL 5 ZK.row a0] := by
  have h := Iq a0 u0
  rwa [XD] at h
theorem Es (a0 : Za) (u0 : Sm 2326528 a0) : Sd 240 [a0.row] [(Sw a0).row] := by
 have f := me (Sw.eq_1 a0)
 refine soD func240 ntmps240 ?_
 refine cDs [] (Ft a0.ZL (sg (Za.km u0))) ?_
 refine cDs [] (LM a0.Zf (sg (Za.kH u0))) ?_
 exact rtD [.cell 2 128] f
theorem Gv (a0 : Za) (u0 : Sm 2326528 a0) : Sd 240 [a0.row] [a0.row] := by
  have h := Es a0 u0
  rwa [Xo] at h
theorem wU (a0 : ZM) (u0 : Sm 2322432 a0) : Sd 186 [a0.row] [(MH a0).row] := by
 have f := me (MH.eq_1 a0)
 refine soD func186 ntmps186 ?_
 refine cDs [true, false, false] (T5 a0.Doc (sg (ZM.kp u0))) ?_
 refine cRs (Ni a0.Sig) ?_
 refine cDs [] (Gv a0.ZJ (sg (ZM.Jo u0))) ?_
 exact rtD [.cell 2 130] f
theorem AZ (a0 : ZM) (u0 : Sm 2322432 a0) : Sd 186 [a0.row] [a0.row] := by
  have h := wU a0 u0
  rwa [QU] at h
theorem BX (a0 : List ZM) (u0 : Sm 2318336 a0) : Sd 126 [rL 16 ZM.row a0] [rL 16 ZM.row (LN a0)] := by
 have f := me (LN.eq_1 a0)
 refine soD func126 ntmps126 ?_
 have c1 := sl 2318336 a0 u0
 refine rA (n := a0.length) rfl rfl rfl rfl rfl rfl (by simp) (by simp) (by simp; omega) (by omega) ?_
 simp
 refine lp2 (UU.eq_2 a0) (fun J U => YT 23 [eL 0 16 a0 ZM.row, (3, .one (.sref 7 0 0 U.length), []), eI 4 (J : Int), (7, .any, [.arr true 16 (U.map ZM.row)])]) (fun n1 J U => a0.length < n1 + J /\ J <= a0.length /\ U.length = a0.length) (a0.length + 1) 0 (List.replicate a0.length (ZM.mk 0 0 (ZT.mk 0 ([] : List ByteArray) ([] : List Int)) (Zc.mk 0 0 0 0 0 0 0 0 0) (Za.mk ([] : List ZO) ([] : List ZK)))) (fun p1 J U e1 j1 => ?_)
 refine cFf e1 ?_ ?_ <;> intro k2 h1 e1
 ·have i1 := ix h1
  have m2 := ml a0 (k2 0 _ rfl)
  have w1 := wr J
  simp [i1, ZB]
  refine rpS ?_
  have i2 := ik J U
  refine cDf i2 [true, true, true, false, false] (AZ (nth a0 J) (sg (Z7 u0))) ?_
  refine SE (t := 7) (j := 0) (i := J) (size := 16) (rows := (U.map ZM.row)) (ds := (nth a0 J).row) (L := [(20, 3), (20, 4), (20, 14), (20, 15)]) ?_
  simp [YL (x := (nth a0 J)) rfl, i2, ZB, Zd]
  refine rpS ?_
  exact ny2 w1 e1
 have f := ms f e1
 exact rtD [.tmp 2] f
theorem Dc (a0 : List ZM) (u0 : Sm 2318336 a0) : Sd 126 [rL 16 ZM.row a0] [rL 16 ZM.row a0] := by
  have h := BX a0 u0
  rwa [X3] at h
theorem FD (a0 : ZC) (u0 : Sm 2314240 a0) : Sd 64 [a0.row] [(Uo a0).row] := by
 have f := me (Uo.eq_1 a0)
 refine soD func64 ntmps64 ?_
 refine cDs [] (Dc a0.ZD (sg (ZC.YO u0))) ?_
 exact rtD [.cell 2 94] f
theorem HU (a0 : ZC) (u0 : Sm 2314240 a0) : Sd 64 [a0.row] [a0.row] := by
  have h := FD a0 u0
  rwa [XT] at h
theorem Iu (a0 : List ZC) (u0 : Sm 2310144 a0) : Sd 25 [rL 2 ZC.row a0] [rL 2 ZC.row (SM a0)] := by
 have f := me (SM.eq_1 a0)
 refine soD func25 ntmps25 ?_
 have c1 := sl 2310144 a0 u0
 refine rA (n := a0.length) rfl rfl rfl rfl rfl rfl (by simp) (by simp) (by simp; omega) (by omega) ?_
 simp
 refine lp2 (kB.eq_2 a0) (fun J U => YT 23 [eL 0 2 a0 ZC.row, (3, .one (.sref 7 0 0 U.length), []), eI 4 (J : Int), (7, .any, [.arr true 2 (U.map ZC.row)])]) (fun n1 J U => a0.length < n1 + J /\ J <= a0.length /\ U.length = a0.length) (a0.length + 1) 0 (List.replicate a0.length (ZC.mk 0 ([] : List ZM))) (fun p1 J U e1 j1 => ?_)
 refine cFf e1 ?_ ?_ <;> intro k2 h1 e1
 ·have i1 := ix h1
  have m2 := ml a0 (k2 0 _ rfl)
  have w1 := wr J
  simp [i1, ZB]
  refine rpS ?_
  have i2 := ik J U
  refine cDf i2 [] (HU (nth a0 J) (sg (Z7 u0))) ?_
  refine SE (t := 7) (j := 0) (i := J) (size := 2) (rows := (U.map ZC.row)) (ds := (nth a0 J).row) (L := [(20, 1)]) ?_
  simp [YL (x := (nth a0 J)) rfl, i2, ZB, Zd]
  refine rpS ?_
  exact ny2 w1 e1
 have f := ms f e1
 exact rtD [.tmp 2] f
theorem Lg (a0 : List ZC) (u0 : Sm 2310144 a0) : Sd 25 [rL 2 ZC.row a0] [rL 2 ZC.row a0] := by
  have h := Iu a0 u0
  rwa [XF] at h
theorem Bg (a0 : ZH) (u0 : Sm 2306048 a0) : Sd 7 [a0.row] [(Pn a0).row] := by
 have f := me (Pn.eq_1 a0)
 refine soD func7 ntmps7 ?_
 refine cDs [false, false, false] (DL a0.Frame (sg (ZH.Xj u0))) ?_
 refine cDs [false] (D3 a0.ZN (sg (ZH.sj u0))) ?_
 refine cDs [false] (yn a0.Zl (sg (ZH.wL u0))) ?_
 refine cDs [] (Lg a0.ZA (sg (ZH.YW u0))) ?_
 refine cDs [false] (yn a0.YX (sg (ZH.Cy u0))) ?_
 refine cDs [false] (yn a0.YJ (sg (ZH.wC u0))) ?_
 refine cDs [false] (yn a0.Z4 (sg (ZH.Pw u0))) ?_
 exact rtD [.cell 2 43] f
theorem WB (a0 : ZH) (u0 : Sm 2306048 a0) : Sd 7 [a0.row] [a0.row] := by
  have h := Bg a0 u0
  rwa [X0] at h
theorem B9 (a0 : Zp) (u0 : Sm 2334720 a0) : Sd 26 [a0.row] [(Pm a0).row] := by
 have f := me (Pm.eq_1 a0)
 refine soD func26 ntmps26 ?_
 refine cDs [true, false, false] (T5 a0.Doc (sg (Zp.kp u0))) ?_
 refine cDs [false] (yn a0.Ids (sg (Zp.vu u0))) ?_
 exact rtD [.cell 2 68] f
theorem D0 (a0 : Zp) (u0 : Sm 2334720 a0) : Sd 26 [a0.row] [a0.row] := by
  have h := B9 a0 u0
  rwa [X8] at h
theorem DT (a0 : List Zp) (u0 : Sm 2330624 a0) : Sd 8 [rL 9 Zp.row a0] [rL 9 Zp.row (Oo a0)] := by
 have f := me (Oo.eq_1 a0)
 refine soD func8 ntmps8 ?_
 have c1 := sl 2330624 a0 u0
 refine rA (n := a0.length) rfl rfl rfl rfl rfl rfl (by simp) (by simp) (by simp; omega) (by omega) ?_
 simp
 refine lp2 (W6.eq_2 a0) (fun J U => YT 23 [eL 0 9 a0 Zp.row, (3, .one (.sref 7 0 0 U.length), []), eI 4 (J : Int), (7, .any, [.arr true 9 (U.map Zp.row)])]) (fun n1 J U => a0.length < n1 + J /\ J <= a0.length /\ U.length = a0.length) (a0.length + 1) 0 (List.replicate a0.length (Zp.mk 0 0 0 0 0 (ZT.mk 0 ([] : List ByteArray) ([] : List Int)) ([] : List Int))) (fun p1 J U e1 j1 => ?_)
 refine cFf e1 ?_ ?_ <;> intro k2 h1 e1
 ·have i1 := ix h1
  have m2 := ml a0 (k2 0 _ rfl)
  have w1 := wr J
  simp [i1, ZB]
  refine rpS ?_
  have i2 := ik J U
  refine cDf i2 [true, true, true, true, true, true, false, false, false] (D0 (nth a0 J) (sg (Z7 u0))) ?_
  refine SE (t := 7) (j := 0) (i := J) (size := 9) (rows := (U.map Zp.row)) (ds := (nth a0 J).row) (L := [(20, 6), (20, 7), (20, 8)]) ?_
  simp [YL (x := (nth a0 J)) rfl, i2, ZB, Zd]
  refine rpS ?_
  exact ny2 w1 e1
 have f := ms f e1
 exact rtD [.tmp 2] f
theorem jt (a0 : List Zp) (u0 : Sm 2330624 a0) : Sd 8 [rL 9 Zp.row a0] [rL 9 Zp.row a0] := by
  have h := DT a0 u0
  rwa [Xs] at h
theorem vj (a0 : YZ) (a1 : YZ) : Sa 149 [a0.row, a1.row] [rB (P1 a0 a1)] := by
 have f := me (P1.eq_1 a0 a1)
 refine so func149 ntmps149 ?_
 refine cF f ?_ ?_ <;> intro k1 h1 f
 ·exact rt [.tmp 4] f
 refine cF f ?_ ?_ <;> intro k2 h2 f
 ·exact rt [.tmp 4] f
 refine cF f ?_ ?_ <;> intro k3 h3 f
 ·exact rt [.tmp 4] f
 refine cF f ?_ ?_ <;> intro k4 h4 f
 ·exact rt [.tmp 4] f
 refine cF f ?_ ?_ <;> intro k5 h5 f
 ·exact rt [.tmp 4] f
 exact rt [.tmp 4] f
theorem Ai (a0 : List YZ) (a1 : List YZ) : Sa 79 [rL 5 YZ.row a0, rL 5 YZ.row a1] [rB (Ry a0 a1)] := by
 have f := me (Ry.eq_1 a0 a1)
 refine so func79 ntmps79 ?_
 refine cF f ?_ ?_ <;> intro k1 h1 f
 ·exact rt [.tmp 4] f
 refine lp1 (SV.eq_2 a0 a1) (fun J => YT 27 [eL 0 5 a0 YZ.row, eL 1 5 a1 YZ.row, eI 5 (J : Int)]) (fun n1 J => a0.length < n1 + J /\ J <= a0.length) (a0.length + 1) 0 (fun p1 J e1 j1 => ?_)
 refine cF e1 ?_ ?_ <;> intro k3 h2 e1
 ·have i1 := ix h2
  have m2 := ml a0 (k3 0 _ rfl)
  have w1 := wr J
  refine dIo mixed ?_
  have i2 := ik J a1
  simp [i1, ZB, i2]
  refine rpS ?_
  refine cRs (vj (nth a0 J) (nth a1 J)) ?_
  refine cF e1 ?_ ?_ <;> intro k5 h3 e1
  ·have f := ms f e1
   exact rt [.tmp 4] f
  exact ny1 w1 e1
 have f := ms f e1
 exact rt [.tmp 4] f
theorem Li (a0 : ZR) (a1 : ZR) : Sa 150 [a0.row, a1.row] [rB (xC a0 a1)] := by
 have f := me (xC.eq_1 a0 a1)
 refine so func150 ntmps150 ?_
 refine cF f ?_ ?_ <;> intro k1 h1 f
 ·exact rt [.tmp 4] f
 refine cF f ?_ ?_ <;> intro k2 h2 f
 ·exact rt [.tmp 4] f
 refine cF f ?_ ?_ <;> intro k3 h3 f
 ·exact rt [.tmp 4] f
 exact rt [.tmp 4] f
theorem MT (a0 : List ZR) (a1 : List ZR) : Sa 80 [rL 3 ZR.row a0, rL 3 ZR.row a1] [rB (xb a0 a1)] := by
 have f := me (xb.eq_1 a0 a1)
 refine so func80 ntmps80 ?_
 refine cF f ?_ ?_ <;> intro k1 h1 f
 ·exact rt [.tmp 4] f
 refine lp1 (xv.eq_2 a0 a1) (fun J => YT 27 [eL 0 3 a0 ZR.row, eL 1 3 a1 ZR.row, eI 5 (J : Int)]) (fun n1 J => a0.length < n1 + J /\ J <= a0.length) (a0.length + 1) 0 (fun p1 J e1 j1 => ?_)
 refine cF e1 ?_ ?_ <;> intro k3 h2 e1
 ·have i1 := ix h2
  have m2 := ml a0 (k3 0 _ rfl)
  have w1 := wr J
  refine dIo mixed ?_
  have i2 := ik J a1
  simp [i1, ZB, i2]
  refine rpS ?_
  refine cRs (Li (nth a0 J) (nth a1 J)) ?_
  refine cF e1 ?_ ?_ <;> intro k5 h3 e1
  ·have f := ms f e1
   exact rt [.tmp 4] f
  exact ny1 w1 e1
 have f := ms f e1
 exact rt [.tmp 4] f
theorem Dk (a0 : Zj) (a1 : Zj) : Sa 151 [a0.row, a1.row] [rB (ki a0 a1)] := by
 have f := me (ki.eq_1 a0 a1)
 refine so func151 ntmps151 ?_
 refine cF f ?_ ?_ <;> intro k1 h1 f
 ·exact rt [.tmp 4] f
 refine cF f ?_ ?_ <;> intro k2 h2 f
 ·exact rt [.tmp 4] f
 refine cF f ?_ ?_ <;> intro k3 h3 f
 ·exact rt [.tmp 4] f
 refine cF f ?_ ?_ <;> intro k4 h4 f
 ·exact rt [.tmp 4] f
 exact rt [.tmp 4] f
theorem H0 (a0 : List Zj) (a1 : List Zj) : Sa 81 [rL 4 Zj.row a0, rL 4 Zj.row a1] [rB (Wg a0 a1)] := by
 have f := me (Wg.eq_1 a0 a1)
 refine so func81 ntmps81 ?_
 refine cF f ?_ ?_ <;> intro k1 h1 f
 ·exact rt [.tmp 4] f
 refine lp1 (WQ.eq_2 a0 a1) (fun J => YT 27 [eL 0 4 a0 Zj.row, eL 1 4 a1 Zj.row, eI 5 (J : Int)]) (fun n1 J => a0.length < n1 + J /\ J <= a0.length) (a0.length + 1) 0 (fun p1 J e1 j1 => ?_)
 refine cF e1 ?_ ?_ <;> intro k3 h2 e1
 ·have i1 := ix h2
  have m2 := ml a0 (k3 0 _ rfl)
  have w1 := wr J
  refine dIo mixed ?_
  have i2 := ik J a1
  simp [i1, ZB, i2]
  refine rpS ?_
  refine cRs (Dk (nth a0 J) (nth a1 J)) ?_
  refine cF e1 ?_ ?_ <;> intro k5 h3 e1
  ·have f := ms f e1
   exact rt [.tmp 4] f
  exact ny1 w1 e1
 have f := ms f e1
 exact rt [.tmp 4] f
theorem Bh (a0 : Zq) (a1 : Zq) : Sa 29 [a0.row, a1.row] [rB (Tz a0 a1)] := by
 have f := me (Tz.eq_1 a0 a1)
 refine so func29 ntmps29 ?_
 refine cRs (Ai a0.Zm a1.Zm) ?_
 refine cF f ?_ ?_ <;> intro k1 h1 f
 ·exact rt [.tmp 4] f
 refine cRs (MT a0.ZE a1.ZE) ?_
 refine cF f ?_ ?_ <;> intro k2 h2 f
 ·exact rt [.tmp 4] f
 refine cRs (H0 a0.Methods a1.Methods) ?_
 refine cF f ?_ ?_ <;> intro k3 h3 f
 ·exact rt [.tmp 4] f
 refine cF f ?_ ?_ <;> intro k4 h4 f
 ·exact rt [.tmp 4] f
 refine cF f ?_ ?_ <;> intro k5 h5 f
 ·exact rt [.tmp 4] f
 exact rt [.tmp 4] f
theorem wN (a0 : Z1) (a1 : Z1) : Sa 82 [a0.row, a1.row] [rB (T8 a0 a1)] := by
 have f := me (T8.eq_1 a0 a1)
 refine so func82 ntmps82 ?_
 refine cF f ?_ ?_ <;> intro k1 h1 f
 ·exact rt [.tmp 4] f
 refine cF f ?_ ?_ <;> intro k2 h2 f
 ·exact rt [.tmp 4] f
 refine cF f ?_ ?_ <;> intro k3 h3 f
 ·exact rt [.tmp 4] f
 refine cF f ?_ ?_ <;> intro k4 h4 f
 ·exact rt [.tmp 4] f
 refine cF f ?_ ?_ <;> intro k5 h5 f
 ·exact rt [.tmp 4] f
 refine cF f ?_ ?_ <;> intro k6 h6 f
 ·exact rt [.tmp 4] f
 refine cF f ?_ ?_ <;> intro k7 h7 f
 ·exact rt [.tmp 4] f
 exact rt [.tmp 4] f
theorem BR (a0 : List Z1) (a1 : List Z1) : Sa 30 [rL 7 Z1.row a0, rL 7 Z1.row a1] [rB (Tr a0 a1)] := by
 have f := me (Tr.eq_1 a0 a1)
 refine so func30 ntmps30 ?_
 refine cF f ?_ ?_ <;> intro k1 h1 f
 ·exact rt [.tmp 4] f
 refine lp1 (Ub.eq_2 a0 a1) (fun J => YT 27 [eL 0 7 a0 Z1.row, eL 1 7 a1 Z1.row, eI 5 (J : Int)]) (fun n1 J => a0.length < n1 + J /\ J <= a0.length) (a0.length + 1) 0 (fun p1 J e1 j1 => ?_)
 refine cF e1 ?_ ?_ <;> intro k3 h2 e1
 ·have i1 := ix h2
  have m2 := ml a0 (k3 0 _ rfl)
  have w1 := wr J
  refine dIo mixed ?_
  have i2 := ik J a1
  simp [i1, ZB, i2]
  refine rpS ?_
  refine cRs (wN (nth a0 J) (nth a1 J)) ?_
  refine cF e1 ?_ ?_ <;> intro k5 h3 e1
  ·have f := ms f e1
   exact rt [.tmp 4] f
  exact ny1 w1 e1
 have f := ms f e1
 exact rt [.tmp 4] f
theorem xL (a0 : List Int) (a1 : List Int) : Sa 31 [rL 1 iR a0, rL 1 iR a1] [rB (xr a0 a1)] := by
 have f := me (xr.eq_1 a0 a1)
 refine so func31 ntmps31 ?_
 refine cF f ?_ ?_ <;> intro k1 h1 f
 ·exact rt [.tmp 4] f
 refine lp1 (SB.eq_2 a0 a1) (fun J => YT 26 [eL 0 1 a0 iR, eL 1 1 a1 iR, eI 5 (J : Int)]) (fun n1 J => a0.length < n1 + J /\ J <= a0.length) (a0.length + 1) 0 (fun p1 J e1 j1 => ?_)
 refine cF e1 ?_ ?_ <;> intro k3 h2 e1
 ·have i1 := ix h2
  have m2 := ml a0 (k3 0 _ rfl)
  have w1 := wr J
  refine dIo mixed ?_
  have i2 := ik J a1
  simp [i1, ZB, i2]
  refine rpS ?_
  refine cF e1 ?_ ?_ <;> intro k5 h3 e1
  ·have f := ms f e1
   exact rt [.tmp 4] f
  exact ny1 w1 e1
 have f := ms f e1
 exact rt [.tmp 4] f
theorem Fc (a0 : List ByteArray) (a1 : List ByteArray) : Sa 153 [rL 1 sR a0, rL 1 sR a1] [rB (Wc a0 a1)] := by
 have f := me (Wc.eq_1 a0 a1)
 refine so func153 ntmps153 ?_
 refine cF f ?_ ?_ <;> intro k1 h1 f
 ·exact rt [.tmp 4] f
 refine lp1 (kx.eq_2 a0 a1) (fun J => YT 26 [eL 0 1 a0 sR, eL 1 1 a1 sR, eI 5 (J : Int)]) (fun n1 J => a0.length < n1 + J /\ J <= a0.length) (a0.length + 1) 0 (fun p1 J e1 j1 => ?_)
 refine cF e1 ?_ ?_ <;> intro k3 h2 e1
 ·have i1 := ix h2
  have m2 := ml a0 (k3 0 _ rfl)
  have w1 := wr J
  refine dIo mixed ?_
  have i2 := ik J a1
  simp [i1, ZB, i2]
  refine rpS ?_
  refine cF e1 ?_ ?_ <;> intro k5 h3 e1
  ·have f := ms f e1
   exact rt [.tmp 4] f
  exact ny1 w1 e1
 have f := ms f e1
 exact rt [.tmp 4] f
theorem S4 (a0 : ZT) (a1 : ZT) : Sa 84 [a0.row, a1.row] [rB (qL a0 a1)] := by
 have f := me (qL.eq_1 a0 a1)
 refine so func84 ntmps84 ?_
 refine cF f ?_ ?_ <;> intro k1 h1 f
 ·exact rt [.tmp 4] f
 refine cRs (Fc a0.ZU a1.ZU) ?_
 refine cF f ?_ ?_ <;> intro k2 h2 f
 ·exact rt [.tmp 4] f
 refine cRs (xL a0.Zk a1.Zk) ?_
 refine cF f ?_ ?_ <;> intro k3 h3 f
 ·exact rt [.tmp 4] f
 exact rt [.tmp 4] f
theorem Mp (a0 : Zc) (a1 : Zc) : Sa 261 [a0.row, a1.row] [rB (qm a0 a1)] := by
 have f := me (qm.eq_1 a0 a1)
 refine so func261 ntmps261 ?_
 refine cF f ?_ ?_ <;> intro k1 h1 f
 ·exact rt [.tmp 4] f
 refine cF f ?_ ?_ <;> intro k2 h2 f
 ·exact rt [.tmp 4] f
 refine cF f ?_ ?_ <;> intro k3 h3 f
 ·exact rt [.tmp 4] f
 refine cF f ?_ ?_ <;> intro k4 h4 f
 ·exact rt [.tmp 4] f
 refine cF f ?_ ?_ <;> intro k5 h5 f
 ·exact rt [.tmp 4] f
 refine cF f ?_ ?_ <;> intro k6 h6 f
 ·exact rt [.tmp 4] f
 refine cF f ?_ ?_ <;> intro k7 h7 f
 ·exact rt [.tmp 4] f
 refine cF f ?_ ?_ <;> intro k8 h8 f
 ·exact rt [.tmp 4] f
 refine cF f ?_ ?_ <;> intro k9 h9 f
 ·exact rt [.tmp 4] f
 exact rt [.tmp 4] f
theorem BU (a0 : ZO) (a1 : ZO) : Sa 290 [a0.row, a1.row] [rB (VQ a0 a1)] := by
 have f := me (VQ.eq_1 a0 a1)
 refine so func290 ntmps290 ?_
 refine cF f ?_ ?_ <;> intro k1 h1 f
 ·exact rt [.tmp 4] f
 refine cRs (xL a0.Ys a1.Ys) ?_
 refine cF f ?_ ?_ <;> intro k2 h2 f
 ·exact rt [.tmp 4] f
 refine cF f ?_ ?_ <;> intro k3 h3 f
 ·exact rt [.tmp 4] f
 exact rt [.tmp 4] f
theorem E5 (a0 : List ZO) (a1 : List ZO) : Sa 280 [rL 3 ZO.row a0, rL 3 ZO.row a1] [rB (VX a0 a1)] := by
 have f := me (VX.eq_1 a0 a1)
 refine so func280 ntmps280 ?_
 refine cF f ?_ ?_ <;> intro k1 h1 f
 ·exact rt [.tmp 4] f
 refine lp1 (W9.eq_2 a0 a1) (fun J => YT 27 [eL 0 3 a0 ZO.row, eL 1 3 a1 ZO.row, eI 5 (J : Int)]) (fun n1 J => a0.length < n1 + J /\ J <= a0.length) (a0.length + 1) 0 (fun p1 J e1 j1 => ?_)
 refine cF e1 ?_ ?_ <;> intro k3 h2 e1
 ·have i1 := ix h2
  have m2 := ml a0 (k3 0 _ rfl)
  have w1 := wr J
  refine dIo mixed ?_
  have i2 := ik J a1
  simp [i1, ZB, i2]
  refine rpS ?_
  refine cRs (BU (nth a0 J) (nth a1 J)) ?_
  refine cF e1 ?_ ?_ <;> intro k5 h3 e1
  ·have f := ms f e1
   exact rt [.tmp 4] f
  exact ny1 w1 e1
 have f := ms f e1
 exact rt [.tmp 4] f
theorem wH (a0 : Zy) (a1 : Zy) : Sa 300 [a0.row, a1.row] [rB (T7 a0 a1)] := by
 have f := me (T7.eq_1 a0 a1)
 refine so func300 ntmps300 ?_
 refine cF f ?_ ?_ <;> intro k1 h1 f
 ·exact rt [.tmp 4] f
 refine cF f ?_ ?_ <;> intro k2 h2 f
 ·exact rt [.tmp 4] f
 exact rt [.tmp 4] f
theorem Bz (a0 : List Zy) (a1 : List Zy) : Sa 296 [rL 2 Zy.row a0, rL 2 Zy.row a1] [rB (Th a0 a1)] := by
 have f := me (Th.eq_1 a0 a1)
 refine so func296 ntmps296 ?_
 refine cF f ?_ ?_ <;> intro k1 h1 f
 ·exact rt [.tmp 4] f
 refine lp1 (UT.eq_2 a0 a1) (fun J => YT 27 [eL 0 2 a0 Zy.row, eL 1 2 a1 Zy.row, eI 5 (J : Int)]) (fun n1 J => a0.length < n1 + J /\ J <= a0.length) (a0.length + 1) 0 (fun p1 J e1 j1 => ?_)
 refine cF e1 ?_ ?_ <;> intro k3 h2 e1
 ·have i1 := ix h2
  have m2 := ml a0 (k3 0 _ rfl)
  have w1 := wr J
  refine dIo mixed ?_
  have i2 := ik J a1
  simp [i1, ZB, i2]
  refine rpS ?_
  refine cRs (wH (nth a0 J) (nth a1 J)) ?_
  refine cF e1 ?_ ?_ <;> intro k5 h3 e1
  ·have f := ms f e1
   exact rt [.tmp 4] f
  exact ny1 w1 e1
 have f := ms f e1
 exact rt [.tmp 4] f
theorem AI (a0 : ZW) (a1 : ZW) : Sa 301 [a0.row, a1.row] [rB (VR a0 a1)] := by
 have f := me (VR.eq_1 a0 a1)
 refine so func301 ntmps301 ?_
 refine cF f ?_ ?_ <;> intro k1 h1 f
 ·exact rt [.tmp 4] f
 refine cF f ?_ ?_ <;> intro k2 h2 f
 ·exact rt [.tmp 4] f
 refine cF f ?_ ?_ <;> intro k3 h3 f
 ·exact rt [.tmp 4] f
 refine cF f ?_ ?_ <;> intro k4 h4 f
 ·exact rt [.tmp 4] f
 refine cF f ?_ ?_ <;> intro k5 h5 f
 ·exact rt [.tmp 4] f
 exact rt [.tmp 4] f
theorem DK (a0 : List ZW) (a1 : List ZW) : Sa 297 [rL 5 ZW.row a0, rL 5 ZW.row a1] [rB (UE a0 a1)] := by
 have f := me (UE.eq_1 a0 a1)
 refine so func297 ntmps297 ?_
 refine cF f ?_ ?_ <;> intro k1 h1 f
 ·exact rt [.tmp 4] f
 refine lp1 (VL.eq_2 a0 a1) (fun J => YT 27 [eL 0 5 a0 ZW.row, eL 1 5 a1 ZW.row, eI 5 (J : Int)]) (fun n1 J => a0.length < n1 + J /\ J <= a0.length) (a0.length + 1) 0 (fun p1 J e1 j1 => ?_)
 refine cF e1 ?_ ?_ <;> intro k3 h2 e1
 ·have i1 := ix h2
  have m2 := ml a0 (k3 0 _ rfl)
  have w1 := wr J
  refine dIo mixed ?_
  have i2 := ik J a1
  simp [i1, ZB, i2]
  refine rpS ?_
  refine cRs (AI (nth a0 J) (nth a1 J)) ?_
  refine cF e1 ?_ ?_ <;> intro k5 h3 e1
  ·have f := ms f e1
   exact rt [.tmp 4] f
  exact ny1 w1 e1
 have f := ms f e1
 exact rt [.tmp 4] f
theorem GL (a0 : ZK) (a1 : ZK) : Sa 291 [a0.row, a1.row] [rB (jR a0 a1)] := by
 have f := me (jR.eq_1 a0 a1)
 refine so func291 ntmps291 ?_
 refine cF f ?_ ?_ <;> intro k1 h1 f
 ·exact rt [.tmp 4] f
 refine cF f ?_ ?_ <;> intro k2 h2 f
 ·exact rt [.tmp 4] f
 refine cF f ?_ ?_ <;> intro k3 h3 f
 ·exact rt [.tmp 4] f
 refine cRs (Bz a0.Path a1.Path) ?_
 refine cF f ?_ ?_ <;> intro k4 h4 f
 ·exact rt [.tmp 4] f
 refine cRs (DK a0.Yi a1.Yi) ?_
 refine cF f ?_ ?_ <;> intro k5 h5 f
 ·exact rt [.tmp 4] f
 exact rt [.tmp 4] f
theorem Hg (a0 : List ZK) (a1 : List ZK) : Sa 281 [rL 5 ZK.row a0, rL 5 ZK.row a1] [rB (kO a0 a1)] := by
 have f := me (kO.eq_1 a0 a1)
 refine so func281 ntmps281 ?_
 refine cF f ?_ ?_ <;> intro k1 h1 f
 ·exact rt [.tmp 4] f
 refine lp1 (jq.eq_2 a0 a1) (fun J => YT 27 [eL 0 5 a0 ZK.row, eL 1 5 a1 ZK.row, eI 5 (J : Int)]) (fun n1 J => a0.length < n1 + J /\ J <= a0.length) (a0.length + 1) 0 (fun p1 J e1 j1 => ?_)
 refine cF e1 ?_ ?_ <;> intro k3 h2 e1
 ·have i1 := ix h2
  have m2 := ml a0 (k3 0 _ rfl)
  have w1 := wr J
  refine dIo mixed ?_
  have i2 := ik J a1
  simp [i1, ZB, i2]
  refine rpS ?_
  refine cRs (GL (nth a0 J) (nth a1 J)) ?_
  refine cF e1 ?_ ?_ <;> intro k5 h3 e1
  ·have f := ms f e1
   exact rt [.tmp 4] f
  exact ny1 w1 e1
 have f := ms f e1
 exact rt [.tmp 4] f
theorem DS (a0 : Za) (a1 : Za) : Sa 262 [a0.row, a1.row] [rB (Vq a0 a1)] := by
 have f := me (Vq.eq_1 a0 a1)
 refine so func262 ntmps262 ?_
 refine cRs (E5 a0.ZL a1.ZL) ?_
 refine cF f ?_ ?_ <;> intro k1 h1 f
 ·exact rt [.tmp 4] f
 refine cRs (Hg a0.Zf a1.Zf) ?_
 refine cF f ?_ ?_ <;> intro k2 h2 f
 ·exact rt [.tmp 4] f
 exact rt [.tmp 4] f
theorem wM (a0 : ZM) (a1 : ZM) : Sa 216 [a0.row, a1.row] [rB (T4 a0 a1)] := by
 have f := me (T4.eq_1 a0 a1)
 refine so func216 ntmps216 ?_
 refine cF f ?_ ?_ <;> intro k1 h1 f
 ·exact rt [.tmp 4] f
 refine cF f ?_ ?_ <;> intro k2 h2 f
 ·exact rt [.tmp 4] f
 refine cRs (S4 a0.Doc a1.Doc) ?_
 refine cF f ?_ ?_ <;> intro k3 h3 f
 ·exact rt [.tmp 4] f
 refine cRs (Mp a0.Sig a1.Sig) ?_
 refine cF f ?_ ?_ <;> intro k4 h4 f
 ·exact rt [.tmp 4] f
 refine cRs (DS a0.ZJ a1.ZJ) ?_
 refine cF f ?_ ?_ <;> intro k5 h5 f
 ·exact rt [.tmp 4] f
 exact rt [.tmp 4] f
theorem BG (a0 : List ZM) (a1 : List ZM) : Sa 152 [rL 16 ZM.row a0, rL 16 ZM.row a1] [rB (Tt a0 a1)] := by
 have f := me (Tt.eq_1 a0 a1)
 refine so func152 ntmps152 ?_
 refine cF f ?_ ?_ <;> intro k1 h1 f
 ·exact rt [.tmp 4] f
 refine lp1 (Uj.eq_2 a0 a1) (fun J => YT 27 [eL 0 16 a0 ZM.row, eL 1 16 a1 ZM.row, eI 5 (J : Int)]) (fun n1 J => a0.length < n1 + J /\ J <= a0.length) (a0.length + 1) 0 (fun p1 J e1 j1 => ?_)
 refine cF e1 ?_ ?_ <;> intro k3 h2 e1
 ·have i1 := ix h2
  have m2 := ml a0 (k3 0 _ rfl)
  have w1 := wr J
  refine dIo mixed ?_
  have i2 := ik J a1
  simp [i1, ZB, i2]
  refine rpS ?_
  refine cRs (wM (nth a0 J) (nth a1 J)) ?_
  refine cF e1 ?_ ?_ <;> intro k5 h3 e1
  ·have f := ms f e1
   exact rt [.tmp 4] f
  exact ny1 w1 e1
 have f := ms f e1
 exact rt [.tmp 4] f
theorem H8 (a0 : ZC) (a1 : ZC) : Sa 83 [a0.row, a1.row] [rB (jV a0 a1)] := by
 have f := me (jV.eq_1 a0 a1)
 refine so func83 ntmps83 ?_
 refine cF f ?_ ?_ <;> intro k1 h1 f
 ·exact rt [.tmp 4] f
 refine cRs (BG a0.ZD a1.ZD) ?_
 refine cF f ?_ ?_ <;> intro k2 h2 f
 ·exact rt [.tmp 4] f
 exact rt [.tmp 4] f
theorem HB (a0 : List ZC) (a1 : List ZC) : Sa 32 [rL 2 ZC.row a0, rL 2 ZC.row a1] [rB (jn a0 a1)] := by
 have f := me (jn.eq_1 a0 a1)
 refine so func32 ntmps32 ?_
 refine cF f ?_ ?_ <;> intro k1 h1 f
 ·exact rt [.tmp 4] f
 refine lp1 (jg.eq_2 a0 a1) (fun J => YT 27 [eL 0 2 a0 ZC.row, eL 1 2 a1 ZC.row, eI 5 (J : Int)]) (fun n1 J => a0.length < n1 + J /\ J <= a0.length) (a0.length + 1) 0 (fun p1 J e1 j1 => ?_)
 refine cF e1 ?_ ?_ <;> intro k3 h2 e1
 ·have i1 := ix h2
  have m2 := ml a0 (k3 0 _ rfl)
  have w1 := wr J
  refine dIo mixed ?_
  have i2 := ik J a1
  simp [i1, ZB, i2]
  refine rpS ?_
  refine cRs (H8 (nth a0 J) (nth a1 J)) ?_
  refine cF e1 ?_ ?_ <;> intro k5 h3 e1
  ·have f := ms f e1
   exact rt [.tmp 4] f
  exact ny1 w1 e1
 have f := ms f e1
 exact rt [.tmp 4] f
theorem VD (a0 : ZH) (a1 : ZH) : Sa 10 [a0.row, a1.row] [rB (jZ a0 a1)] := by
 have f := me (jZ.eq_1 a0 a1)
 refine so func10 ntmps10 ?_
 refine cRs (Bh a0.Frame a1.Frame) ?_
 refine cF f ?_ ?_ <;> intro k1 h1 f
 ·exact rt [.tmp 4] f
 refine cRs (BR a0.ZN a1.ZN) ?_
 refine cF f ?_ ?_ <;> intro k2 h2 f
 ·exact rt [.tmp 4] f
 refine cRs (xL a0.Zl a1.Zl) ?_
 refine cF f ?_ ?_ <;> intro k3 h3 f
 ·exact rt [.tmp 4] f
 refine cRs (HB a0.ZA a1.ZA) ?_
 refine cF f ?_ ?_ <;> intro k4 h4 f
 ·exact rt [.tmp 4] f
 refine cRs (xL a0.YX a1.YX) ?_
 refine cF f ?_ ?_ <;> intro k5 h5 f
 ·exact rt [.tmp 4] f
 refine cRs (xL a0.YJ a1.YJ) ?_
 refine cF f ?_ ?_ <;> intro k6 h6 f
 ·exact rt [.tmp 4] f
 refine cF f ?_ ?_ <;> intro k7 h7 f
 ·exact rt [.tmp 4] f
 refine cRs (xL a0.Z4 a1.Z4) ?_
 refine cF f ?_ ?_ <;> intro k8 h8 f
 ·exact rt [.tmp 4] f
 exact rt [.tmp 4] f
theorem B2 (a0 : Zp) (a1 : Zp) : Sa 33 [a0.row, a1.row] [rB (VS a0 a1)] := by
 have f := me (VS.eq_1 a0 a1)
 refine so func33 ntmps33 ?_
 refine cF f ?_ ?_ <;> intro k1 h1 f
 ·exact rt [.tmp 4] f
 refine cF f ?_ ?_ <;> intro k2 h2 f
 ·exact rt [.tmp 4] f
 refine cF f ?_ ?_ <;> intro k3 h3 f
 ·exact rt [.tmp 4] f
 refine cF f ?_ ?_ <;> intro k4 h4 f
 ·exact rt [.tmp 4] f
 refine cF f ?_ ?_ <;> intro k5 h5 f
 ·exact rt [.tmp 4] f
 refine cRs (S4 a0.Doc a1.Doc) ?_
 refine cF f ?_ ?_ <;> intro k6 h6 f
 ·exact rt [.tmp 4] f
 refine cRs (xL a0.Ids a1.Ids) ?_
 refine cF f ?_ ?_ <;> intro k7 h7 f
 ·exact rt [.tmp 4] f
 exact rt [.tmp 4] f
theorem D5 (a0 : List Zp) (a1 : List Zp) : Sa 11 [rL 9 Zp.row a0, rL 9 Zp.row a1] [rB (UK a0 a1)] := by
 have f := me (UK.eq_1 a0 a1)
 refine so func11 ntmps11 ?_
 refine cF f ?_ ?_ <;> intro k1 h1 f
 ·exact rt [.tmp 4] f
 refine lp1 (VM.eq_2 a0 a1) (fun J => YT 27 [eL 0 9 a0 Zp.row, eL 1 9 a1 Zp.row, eI 5 (J : Int)]) (fun n1 J => a0.length < n1 + J /\ J <= a0.length) (a0.length + 1) 0 (fun p1 J e1 j1 => ?_)
 refine cF e1 ?_ ?_ <;> intro k3 h2 e1
 ·have i1 := ix h2
  have m2 := ml a0 (k3 0 _ rfl)
  have w1 := wr J
  refine dIo mixed ?_
  have i2 := ik J a1
  simp [i1, ZB, i2]
  refine rpS ?_
  refine cRs (B2 (nth a0 J) (nth a1 J)) ?_
  refine cF e1 ?_ ?_ <;> intro k5 h3 e1
  ·have f := ms f e1
   exact rt [.tmp 4] f
  exact ny1 w1 e1
 have f := ms f e1
 exact rt [.tmp 4] f
theorem Ed (a0 : List YZ) (a1 : Int) : K5 prog 85 (rL 5 YZ.row a0) [rI a1] (rL 5 YZ.row (XM a0 a1).1) (.int .i64 (XM a0 a1).2) := by
 refine Jz func85 rfl (by kernel_rfl) (fun v => ?_)
 simp [ntmps85]
 refine okL fun k1 => ?_
 refine TY (ι := { s : Nat × Int × Nat × (List YZ) // zW s.1 s.2.1 s.2.2.1 s.2.2.2 = zW (a0.length + 1) a1 0 a0 /\ (1 <= s.1 /\ s.2.2.2.length < s.1 + s.2.2.1) }) (fun s => YT 48 [(0, .fix v (.one (.sref 0 0 0 s.1.2.2.2.length)), [.arr true 5 (s.1.2.2.2.map YZ.row)]), eI 1 s.1.2.1, eI 5 (s.1.2.2.1 : Int)]) (fun s => s.1.1) ⟨((a0.length + 1), a1, 0, a0), rfl, by first | omega | (dsimp only; omega) | simp⟩ (XI (by simp)) ?_
 rintro ⟨⟨n1, J, U, iQ⟩, e1, j1⟩
 try dsimp only at e1 j1
 obtain ⟨p1, rfl⟩ : ∃ p, n1 = p + 1 := ⟨n1 - 1, by omega⟩
 simp
 refine cC (decide ((U : Int) < (iQ.length : Int))) (fun k2 h1 => ?_) (fun k2 h1 => ?_)
 ·have q1 := h1; try simp at q1
  have i1 : U < iQ.length := by simpa using h1
  have m2 : iQ.length <= 9223372036854775807 := by simpa using k2 0 _ rfl
  have w1 : IntKind.i64.wrap ((U : Int) + 1) = (U : Int) + 1 := YG (by omega) (by omega)
  simp [i1, ZB, Zd, List.set_set, YL (x := (YZ.mk J (W (J + 1)) (W ((W (J + 1)) + 1)) (W ((W ((W (J + 1)) + 1)) + 1)) (W ((W ((W ((W (J + 1)) + 1)) + 1)) + 1)))) rfl]
  refine rpS ?_
  refine LC ⟨(p1, (W ((W ((W ((W ((W (J + 1)) + 1)) + 1)) + 1)) + 1)), (U + 1), (iQ.set U (YZ.mk J (W (J + 1)) (W ((W (J + 1)) + 1)) (W ((W ((W (J + 1)) + 1)) + 1)) (W ((W ((W ((W (J + 1)) + 1)) + 1)) + 1))))), ?_, ?_⟩ (by simp) (XI (by simp [w1]))
  · rw [<- e1]; simp only [zW, h1, Yu, YY]
  · (simp; omega)
 ·have q1 := h1; try simp at q1
  have x1 : zW (a0.length + 1) a1 0 a0 = (J, iQ) := by rw [<- e1]; simp only [zW, h1, Yu, YY]
  simp
  refine NL (rv := [.tmp 4]) rfl ?_
  have f1 := XM.eq_1 a0 a1; simp only [x1, Yu, YY] at f1; simp [f1]
theorem P7 (a0 : List ZR) (a1 : Int) : K5 prog 86 (rL 3 ZR.row a0) [rI a1] (rL 3 ZR.row (Yk a0 a1).1) (.int .i64 (Yk a0 a1).2) := by
 refine Jz func86 rfl (by kernel_rfl) (fun v => ?_)
 simp [ntmps86]
 refine okL fun k1 => ?_
 refine TY (ι := { s : Nat × Int × Nat × (List ZR) // QQ s.1 s.2.1 s.2.2.1 s.2.2.2 = QQ (a0.length + 1) a1 0 a0 /\ (1 <= s.1 /\ s.2.2.2.length < s.1 + s.2.2.1) }) (fun s => YT 34 [(0, .fix v (.one (.sref 0 0 0 s.1.2.2.2.length)), [.arr true 3 (s.1.2.2.2.map ZR.row)]), eI 1 s.1.2.1, eI 5 (s.1.2.2.1 : Int)]) (fun s => s.1.1) ⟨((a0.length + 1), a1, 0, a0), rfl, by first | omega | (dsimp only; omega) | simp⟩ (XI (by simp)) ?_
 rintro ⟨⟨n1, J, U, iQ⟩, e1, j1⟩
 try dsimp only at e1 j1
 obtain ⟨p1, rfl⟩ : ∃ p, n1 = p + 1 := ⟨n1 - 1, by omega⟩
 simp
 refine cC (decide ((U : Int) < (iQ.length : Int))) (fun k2 h1 => ?_) (fun k2 h1 => ?_)
 ·have q1 := h1; try simp at q1
  have i1 : U < iQ.length := by simpa using h1
  have m2 : iQ.length <= 9223372036854775807 := by simpa using k2 0 _ rfl
  have w1 : IntKind.i64.wrap ((U : Int) + 1) = (U : Int) + 1 := YG (by omega) (by omega)
  simp [i1, ZB, Zd, List.set_set, YL (x := (ZR.mk J (W (J + 1)) (W ((W (J + 1)) + 1)))) rfl]
  refine rpS ?_
  refine LC ⟨(p1, (W ((W ((W (J + 1)) + 1)) + 1)), (U + 1), (iQ.set U (ZR.mk J (W (J + 1)) (W ((W (J + 1)) + 1))))), ?_, ?_⟩ (by simp) (XI (by simp [w1]))
  · rw [<- e1]; simp only [QQ, h1, Yu, YY]
  · (simp; omega)
 ·have q1 := h1; try simp at q1
  have x1 : QQ (a0.length + 1) a1 0 a0 = (J, iQ) := by rw [<- e1]; simp only [QQ, h1, Yu, YY]
  simp
  refine NL (rv := [.tmp 4]) rfl ?_
  have f1 := Yk.eq_1 a0 a1; simp only [x1, Yu, YY] at f1; simp [f1]
theorem LB (a0 : List Zj) (a1 : Int) : K5 prog 87 (rL 4 Zj.row a0) [rI a1] (rL 4 Zj.row (Xw a0 a1).1) (.int .i64 (Xw a0 a1).2) := by
 refine Jz func87 rfl (by kernel_rfl) (fun v => ?_)
 simp [ntmps87]
 refine okL fun k1 => ?_
 refine TY (ι := { s : Nat × Int × Nat × (List Zj) // Jr s.1 s.2.1 s.2.2.1 s.2.2.2 = Jr (a0.length + 1) a1 0 a0 /\ (1 <= s.1 /\ s.2.2.2.length < s.1 + s.2.2.1) }) (fun s => YT 41 [(0, .fix v (.one (.sref 0 0 0 s.1.2.2.2.length)), [.arr true 4 (s.1.2.2.2.map Zj.row)]), eI 1 s.1.2.1, eI 5 (s.1.2.2.1 : Int)]) (fun s => s.1.1) ⟨((a0.length + 1), a1, 0, a0), rfl, by first | omega | (dsimp only; omega) | simp⟩ (XI (by simp)) ?_
 rintro ⟨⟨n1, J, U, iQ⟩, e1, j1⟩
 try dsimp only at e1 j1
 obtain ⟨p1, rfl⟩ : ∃ p, n1 = p + 1 := ⟨n1 - 1, by omega⟩
 simp
 refine cC (decide ((U : Int) < (iQ.length : Int))) (fun k2 h1 => ?_) (fun k2 h1 => ?_)
 ·have q1 := h1; try simp at q1
  have i1 : U < iQ.length := by simpa using h1
  have m2 : iQ.length <= 9223372036854775807 := by simpa using k2 0 _ rfl
  have w1 : IntKind.i64.wrap ((U : Int) + 1) = (U : Int) + 1 := YG (by omega) (by omega)
  simp [i1, ZB, Zd, List.set_set, YL (x := (Zj.mk J (W (J + 1)) (W ((W (J + 1)) + 1)) (W ((W ((W (J + 1)) + 1)) + 1)))) rfl]
  refine rpS ?_
  refine LC ⟨(p1, (W ((W ((W ((W (J + 1)) + 1)) + 1)) + 1)), (U + 1), (iQ.set U (Zj.mk J (W (J + 1)) (W ((W (J + 1)) + 1)) (W ((W ((W (J + 1)) + 1)) + 1))))), ?_, ?_⟩ (by simp) (XI (by simp [w1]))
  · rw [<- e1]; simp only [Jr, h1, Yu, YY]
  · (simp; omega)
 ·have q1 := h1; try simp at q1
  have x1 : Jr (a0.length + 1) a1 0 a0 = (J, iQ) := by rw [<- e1]; simp only [Jr, h1, Yu, YY]
  simp
  refine NL (rv := [.tmp 4]) rfl ?_
  have f1 := Xw.eq_1 a0 a1; simp only [x1, Yu, YY] at f1; simp [f1]
theorem Gr (a0 : Zq) (a1 : Int) : K5 prog 34 a0.row [rI a1] (Zu a0 a1).1.row (.int .i64 (Zu a0 a1).2) := by
 refine Jz func34 rfl (by kernel_rfl) (fun v => ?_)
 simp [ntmps34]
 refine ke (gZ := [.sref 0 0 0 a0.Zm.length]) rfl rfl rfl rfl rfl rfl rfl (Ed a0.Zm a1) (by simp) (by simp) (by simp) (by simp) (by simp) (by simp) (by simp) (by simp) (by simp) ?_
 simp
 refine ke (gZ := [.sref 0 1 0 a0.ZE.length]) rfl rfl rfl rfl rfl rfl rfl (P7 a0.ZE (XM a0.Zm a1).2) (by simp) (by simp) (by simp) (by simp) (by simp) (by simp) (by simp) (by simp) (by simp) ?_
 simp
 refine ke (gZ := [.sref 0 2 0 a0.Methods.length]) rfl rfl rfl rfl rfl rfl rfl (LB a0.Methods (Yk a0.ZE (XM a0.Zm a1).2).2) (by simp) (by simp) (by simp) (by simp) (by simp) (by simp) (by simp) (by simp) (by simp) ?_
 simp
 refine NL (rv := [.tmp 4]) rfl ?_
 have f1 := Zu.eq_1 a0 a1; simp [f1]
theorem GF (a0 : List Z1) (a1 : Int) : K5 prog 35 (rL 7 Z1.row a0) [rI a1] (rL 7 Z1.row (Z8 a0 a1).1) (.int .i64 (Z8 a0 a1).2) := by
 refine Jz func35 rfl (by kernel_rfl) (fun v => ?_)
 simp [ntmps35]
 refine okL fun k1 => ?_
 refine TY (ι := { s : Nat × Int × Nat × (List Z1) // Ks s.1 s.2.1 s.2.2.1 s.2.2.2 = Ks (a0.length + 1) a1 0 a0 /\ (1 <= s.1 /\ s.2.2.2.length < s.1 + s.2.2.1) }) (fun s => YT 62 [(0, .fix v (.one (.sref 0 0 0 s.1.2.2.2.length)), [.arr true 7 (s.1.2.2.2.map Z1.row)]), eI 1 s.1.2.1, eI 5 (s.1.2.2.1 : Int)]) (fun s => s.1.1) ⟨((a0.length + 1), a1, 0, a0), rfl, by first | omega | (dsimp only; omega) | simp⟩ (XI (by simp)) ?_
 rintro ⟨⟨n1, J, U, iQ⟩, e1, j1⟩
 try dsimp only at e1 j1
 obtain ⟨p1, rfl⟩ : ∃ p, n1 = p + 1 := ⟨n1 - 1, by omega⟩
 simp
 refine cC (decide ((U : Int) < (iQ.length : Int))) (fun k2 h1 => ?_) (fun k2 h1 => ?_)
 ·have q1 := h1; try simp at q1
  have i1 : U < iQ.length := by simpa using h1
  have m2 : iQ.length <= 9223372036854775807 := by simpa using k2 0 _ rfl
  have w1 : IntKind.i64.wrap ((U : Int) + 1) = (U : Int) + 1 := YG (by omega) (by omega)
  simp [i1, ZB, Zd, List.set_set, YL (x := (Z1.mk J (W (J + 1)) (W ((W (J + 1)) + 1)) (W ((W ((W (J + 1)) + 1)) + 1)) (W ((W ((W ((W (J + 1)) + 1)) + 1)) + 1)) (W ((W ((W ((W ((W (J + 1)) + 1)) + 1)) + 1)) + 1)) (W ((W ((W ((W ((W ((W (J + 1)) + 1)) + 1)) + 1)) + 1)) + 1)))) rfl]
  refine rpS ?_
  refine LC ⟨(p1, (W ((W ((W ((W ((W ((W ((W (J + 1)) + 1)) + 1)) + 1)) + 1)) + 1)) + 1)), (U + 1), (iQ.set U (Z1.mk J (W (J + 1)) (W ((W (J + 1)) + 1)) (W ((W ((W (J + 1)) + 1)) + 1)) (W ((W ((W ((W (J + 1)) + 1)) + 1)) + 1)) (W ((W ((W ((W ((W (J + 1)) + 1)) + 1)) + 1)) + 1)) (W ((W ((W ((W ((W ((W (J + 1)) + 1)) + 1)) + 1)) + 1)) + 1))))), ?_, ?_⟩ (by simp) (XI (by simp [w1]))
  · rw [<- e1]; simp only [Ks, h1, Yu, YY]
  · (simp; omega)
 ·have q1 := h1; try simp at q1
  have x1 : Ks (a0.length + 1) a1 0 a0 = (J, iQ) := by rw [<- e1]; simp only [Ks, h1, Yu, YY]
  simp
  refine NL (rv := [.tmp 4]) rfl ?_
  have f1 := Z8.eq_1 a0 a1; simp only [x1, Yu, YY] at f1; simp [f1]
theorem Kp (a0 : List Int) (a1 : Int) : K5 prog 36 (rL 1 iR a0) [rI a1] (rL 1 iR (ZI a0 a1).1) (.int .i64 (ZI a0 a1).2) := by
 refine Jz func36 rfl (by kernel_rfl) (fun v => ?_)
 simp [ntmps36]
 refine okL fun k1 => ?_
 refine TY (ι := { s : Nat × Int × Nat × (List Int) // zT s.1 s.2.1 s.2.2.1 s.2.2.2 = zT (a0.length + 1) a1 0 a0 /\ (1 <= s.1 /\ s.2.2.2.length < s.1 + s.2.2.1) }) (fun s => YT 19 [(0, .fix v (.one (.sref 0 0 0 s.1.2.2.2.length)), [.arr true 1 (s.1.2.2.2.map iR)]), eI 1 s.1.2.1, eI 5 (s.1.2.2.1 : Int)]) (fun s => s.1.1) ⟨((a0.length + 1), a1, 0, a0), rfl, by first | omega | (dsimp only; omega) | simp⟩ (XI (by simp)) ?_
 rintro ⟨⟨n1, J, U, iQ⟩, e1, j1⟩
 try dsimp only at e1 j1
 obtain ⟨p1, rfl⟩ : ∃ p, n1 = p + 1 := ⟨n1 - 1, by omega⟩
 simp
 refine cC (decide ((U : Int) < (iQ.length : Int))) (fun k2 h1 => ?_) (fun k2 h1 => ?_)
 ·have q1 := h1; try simp at q1
  have i1 : U < iQ.length := by simpa using h1
  have m2 : iQ.length <= 9223372036854775807 := by simpa using k2 0 _ rfl
  have w1 : IntKind.i64.wrap ((U : Int) + 1) = (U : Int) + 1 := YG (by omega) (by omega)
  simp [i1, ZB, YL (x := J) rfl, Zd]
  refine rpS ?_
  refine LC ⟨(p1, (W (J + 1)), (U + 1), (iQ.set U J)), ?_, ?_⟩ (by simp) (XI (by simp [w1]))
  · rw [<- e1]; simp only [zT, h1, Yu, YY]
  · (simp; omega)
 ·have q1 := h1; try simp at q1
  have x1 : zT (a0.length + 1) a1 0 a0 = (J, iQ) := by rw [<- e1]; simp only [zT, h1, Yu, YY]
  simp
  refine NL (rv := [.tmp 4]) rfl ?_
  have f1 := ZI.eq_1 a0 a1; simp only [x1, Yu, YY] at f1; simp [f1]
theorem OS (a0 : Int) : Sa 89 [rI a0] [rS (xI a0)] := by
 have f := me (xI.eq_1 a0)
 refine so func89 ntmps89 ?_
 refine cF f ?_ ?_ <;> intro k1 h1 f
 ·exact rt [.tmp 2] f
 refine lp2 (Sf.eq_2) (fun J U => YT 20 [eI 0 J, (3, .one (.d (.str U)), [])]) (fun n1 J U => (n1 = 22 \/ J.natAbs < 10 ^ (n1 - 1)) /\ U.size + n1 = 22) 22 a0 (⟨#[]⟩ : ByteArray) (fun p1 J U e1 j1 => ?_) (hI := by exact ⟨by omega, .inl rfl, rfl⟩)
 try dsimp only at j1
 refine cF e1 ?_ ?_ <;> intro k3 h2 e1
 ·refine toStr (l := ([(UInt8.ofInt (W (48 + (Int.tmod J 10))))] : List UInt8)) rfl rfl rfl (by simp) (by simp) (by simp) (by simp [qJ, nr]) ?_
  simp
  refine rpS ?_
  exact nx2 e1 (hI := by (try dsimp only); obtain ⟨s1, s2⟩ := np j1.2.1 (show (J != 0) = true by simp at h2 ⊢; omega); refine ⟨s1, s2, ?_⟩; have := j1.2.2; simp; omega)
 have f := ms f e1
 exact rt [.tmp 2] f
theorem T3 (a0 : List ByteArray) (a1 : Int) : K5 prog 38 (rL 1 sR a0) [rI a1] (rL 1 sR (ZG a0 a1).1) (.int .i64 (ZG a0 a1).2) := by
 refine Jz func38 rfl (by kernel_rfl) (fun v => ?_)
 simp [ntmps38]
 refine okL fun k1 => ?_
 refine TY (ι := { s : Nat × Int × Nat × (List ByteArray) // Jt s.1 s.2.1 s.2.2.1 s.2.2.2 = Jt (a0.length + 1) a1 0 a0 /\ (1 <= s.1 /\ s.2.2.2.length < s.1 + s.2.2.1) }) (fun s => YT 20 [(0, .fix v (.one (.sref 0 0 0 s.1.2.2.2.length)), [.arr true 1 (s.1.2.2.2.map sR)]), eI 1 s.1.2.1, eI 5 (s.1.2.2.1 : Int)]) (fun s => s.1.1) ⟨((a0.length + 1), a1, 0, a0), rfl, by first | omega | (dsimp only; omega) | simp⟩ (XI (by simp)) ?_
 rintro ⟨⟨n1, J, U, iQ⟩, e1, j1⟩
 try dsimp only at e1 j1
 obtain ⟨p1, rfl⟩ : ∃ p, n1 = p + 1 := ⟨n1 - 1, by omega⟩
 simp
 refine cC (decide ((U : Int) < (iQ.length : Int))) (fun k2 h1 => ?_) (fun k2 h1 => ?_)
 ·have q1 := h1; try simp at q1
  have i1 : U < iQ.length := by simpa using h1
  have m2 : iQ.length <= 9223372036854775807 := by simpa using k2 0 _ rfl
  have w1 : IntKind.i64.wrap ((U : Int) + 1) = (U : Int) + 1 := YG (by omega) (by omega)
  simp
  refine cR (OS J) ?_
  simp [i1, ZB, YL (x := (xI J)) rfl, Zd]
  refine rpS ?_
  refine LC ⟨(p1, (W (J + 1)), (U + 1), (iQ.set U (xI J))), ?_, ?_⟩ (by simp) (XI (by simp [w1]))
  · rw [<- e1]; simp only [Jt, h1, Yu, YY]
  · (simp; omega)
 ·have q1 := h1; try simp at q1
  have x1 : Jt (a0.length + 1) a1 0 a0 = (J, iQ) := by rw [<- e1]; simp only [Jt, h1, Yu, YY]
  simp
  refine NL (rv := [.tmp 4]) rfl ?_
  have f1 := ZG.eq_1 a0 a1; simp only [x1, Yu, YY] at f1; simp [f1]
theorem HZ (a0 : List ZO) (a1 : Int) : K5 prog 154 (rL 3 ZO.row a0) [rI a1] (rL 3 ZO.row (YC a0 a1).1) (.int .i64 (YC a0 a1).2) := by
 refine Jz func154 rfl (by kernel_rfl) (fun v => ?_)
 simp [ntmps154]
 refine okL fun k1 => ?_
 refine TY (ι := { s : Nat × Int × Nat × (List ZO) // KH s.1 s.2.1 s.2.2.1 s.2.2.2 = KH (a0.length + 1) a1 0 a0 /\ (1 <= s.1 /\ s.2.2.2.length < s.1 + s.2.2.1) }) (fun s => YT 34 [(0, .fix v (.one (.sref 0 0 0 s.1.2.2.2.length)), [.arr true 3 (s.1.2.2.2.map ZO.row)]), eI 1 s.1.2.1, eI 5 (s.1.2.2.1 : Int)]) (fun s => s.1.1) ⟨((a0.length + 1), a1, 0, a0), rfl, by first | omega | (dsimp only; omega) | simp⟩ (XI (by simp)) ?_
 rintro ⟨⟨n1, J, U, iQ⟩, e1, j1⟩
 try dsimp only at e1 j1
 obtain ⟨p1, rfl⟩ : ∃ p, n1 = p + 1 := ⟨n1 - 1, by omega⟩
 simp
 refine cC (decide ((U : Int) < (iQ.length : Int))) (fun k2 h1 => ?_) (fun k2 h1 => ?_)
 ·have q1 := h1; try simp at q1
  have i1 : U < iQ.length := by simpa using h1
  have m2 : iQ.length <= 9223372036854775807 := by simpa using k2 0 _ rfl
  have w1 : IntKind.i64.wrap ((U : Int) + 1) = (U : Int) + 1 := YG (by omega) (by omega)
  simp [i1, ZB, YL (x := (ZO.mk J (nth iQ U).Ys (nth iQ U).Mark)) rfl, Zd]
  refine rpS ?_
  refine V7 (t := 0) (j := 0) (i := U) (c := 1) (size := 3) (rows := ((iQ.set U (ZO.mk J (nth iQ U).Ys (nth iQ U).Mark)).map ZO.row)) rfl rfl rfl rfl rfl rfl rfl (Kp (nth iQ U).Ys (W (J + 1))) (by simp) (by simp) (by simp [m2, i1]) (by simp [ZB, Zd, m2, i1]) (by simp) (by simp) (by simp) ?_
  simp [List.set_set, ZB, Zd, m2, i1, YL (x := (ZO.mk J (ZI (nth iQ U).Ys (W (J + 1))).1 (ZI (nth iQ U).Ys (W (J + 1))).2)) rfl]
  refine rpS ?_
  refine LC ⟨(p1, (W ((ZI (nth iQ U).Ys (W (J + 1))).2 + 1)), (U + 1), (iQ.set U (ZO.mk J (ZI (nth iQ U).Ys (W (J + 1))).1 (ZI (nth iQ U).Ys (W (J + 1))).2))), ?_, ?_⟩ (by simp) (XI (by simp [w1]))
  · rw [<- e1]; simp only [KH, h1, Yu, YY]
  · (simp; omega)
 ·have q1 := h1; try simp at q1
  have x1 : KH (a0.length + 1) a1 0 a0 = (J, iQ) := by rw [<- e1]; simp only [KH, h1, Yu, YY]
  simp
  refine NL (rv := [.tmp 4]) rfl ?_
  have f1 := YC.eq_1 a0 a1; simp only [x1, Yu, YY] at f1; simp [f1]
theorem Fb (a0 : List Zy) (a1 : Int) : K5 prog 217 (rL 2 Zy.row a0) [rI a1] (rL 2 Zy.row (YS a0 a1).1) (.int .i64 (YS a0 a1).2) := by
 refine Jz func217 rfl (by kernel_rfl) (fun v => ?_)
 simp [ntmps217]
 refine okL fun k1 => ?_
 refine TY (ι := { s : Nat × Int × Nat × (List Zy) // Kv s.1 s.2.1 s.2.2.1 s.2.2.2 = Kv (a0.length + 1) a1 0 a0 /\ (1 <= s.1 /\ s.2.2.2.length < s.1 + s.2.2.1) }) (fun s => YT 29 [(0, .fix v (.one (.sref 0 0 0 s.1.2.2.2.length)), [.arr true 2 (s.1.2.2.2.map Zy.row)]), eI 1 s.1.2.1, eI 5 (s.1.2.2.1 : Int)]) (fun s => s.1.1) ⟨((a0.length + 1), a1, 0, a0), rfl, by first | omega | (dsimp only; omega) | simp⟩ (XI (by simp)) ?_
 rintro ⟨⟨n1, J, U, iQ⟩, e1, j1⟩
 try dsimp only at e1 j1
 obtain ⟨p1, rfl⟩ : ∃ p, n1 = p + 1 := ⟨n1 - 1, by omega⟩
 simp
 refine cC (decide ((U : Int) < (iQ.length : Int))) (fun k2 h1 => ?_) (fun k2 h1 => ?_)
 ·have q1 := h1; try simp at q1
  have i1 : U < iQ.length := by simpa using h1
  have m2 : iQ.length <= 9223372036854775807 := by simpa using k2 0 _ rfl
  have w1 : IntKind.i64.wrap ((U : Int) + 1) = (U : Int) + 1 := YG (by omega) (by omega)
  simp [i1, ZB, Zd, List.set_set, YL (x := (Zy.mk J ((Int.tmod (W (J + 1)) 3) == 0))) rfl]
  refine rpS ?_
  refine LC ⟨(p1, (W ((W (J + 1)) + 1)), (U + 1), (iQ.set U (Zy.mk J ((Int.tmod (W (J + 1)) 3) == 0)))), ?_, ?_⟩ (by simp) (XI (by simp [w1]))
  · rw [<- e1]; simp only [Kv, h1, Yu, YY]
  · (simp; omega)
 ·have q1 := h1; try simp at q1
  have x1 : Kv (a0.length + 1) a1 0 a0 = (J, iQ) := by rw [<- e1]; simp only [Kv, h1, Yu, YY]
  simp
  refine NL (rv := [.tmp 4]) rfl ?_
  have f1 := YS.eq_1 a0 a1; simp only [x1, Yu, YY] at f1; simp [f1]
theorem Ij (a0 : List ZW) (a1 : Int) : K5 prog 218 (rL 5 ZW.row a0) [rI a1] (rL 5 ZW.row (Y4 a0 a1).1) (.int .i64 (Y4 a0 a1).2) := by
 refine Jz func218 rfl (by kernel_rfl) (fun v => ?_)
 simp [ntmps218]
 refine okL fun k1 => ?_
 refine TY (ι := { s : Nat × Int × Nat × (List ZW) // KD s.1 s.2.1 s.2.2.1 s.2.2.2 = KD (a0.length + 1) a1 0 a0 /\ (1 <= s.1 /\ s.2.2.2.length < s.1 + s.2.2.1) }) (fun s => YT 48 [(0, .fix v (.one (.sref 0 0 0 s.1.2.2.2.length)), [.arr true 5 (s.1.2.2.2.map ZW.row)]), eI 1 s.1.2.1, eI 5 (s.1.2.2.1 : Int)]) (fun s => s.1.1) ⟨((a0.length + 1), a1, 0, a0), rfl, by first | omega | (dsimp only; omega) | simp⟩ (XI (by simp)) ?_
 rintro ⟨⟨n1, J, U, iQ⟩, e1, j1⟩
 try dsimp only at e1 j1
 obtain ⟨p1, rfl⟩ : ∃ p, n1 = p + 1 := ⟨n1 - 1, by omega⟩
 simp
 refine cC (decide ((U : Int) < (iQ.length : Int))) (fun k2 h1 => ?_) (fun k2 h1 => ?_)
 ·have q1 := h1; try simp at q1
  have i1 : U < iQ.length := by simpa using h1
  have m2 : iQ.length <= 9223372036854775807 := by simpa using k2 0 _ rfl
  have w1 : IntKind.i64.wrap ((U : Int) + 1) = (U : Int) + 1 := YG (by omega) (by omega)
  simp [i1, ZB, Zd, List.set_set, YL (x := (ZW.mk J (W (J + 1)) (W ((W (J + 1)) + 1)) (W ((W ((W (J + 1)) + 1)) + 1)) (W ((W ((W ((W (J + 1)) + 1)) + 1)) + 1)))) rfl]
  refine rpS ?_
  refine LC ⟨(p1, (W ((W ((W ((W ((W (J + 1)) + 1)) + 1)) + 1)) + 1)), (U + 1), (iQ.set U (ZW.mk J (W (J + 1)) (W ((W (J + 1)) + 1)) (W ((W ((W (J + 1)) + 1)) + 1)) (W ((W ((W ((W (J + 1)) + 1)) + 1)) + 1))))), ?_, ?_⟩ (by simp) (XI (by simp [w1]))
  · rw [<- e1]; simp only [KD, h1, Yu, YY]
  · (simp; omega)
 ·have q1 := h1; try simp at q1
  have x1 : KD (a0.length + 1) a1 0 a0 = (J, iQ) := by rw [<- e1]; simp only [KD, h1, Yu, YY]
  simp
  refine NL (rv := [.tmp 4]) rfl ?_
  have f1 := Y4.eq_1 a0 a1; simp only [x1, Yu, YY] at f1; simp [f1]
theorem MV (a0 : List ZK) (a1 : Int) : K5 prog 155 (rL 5 ZK.row a0) [rI a1] (rL 5 ZK.row (Yr a0 a1).1) (.int .i64 (Yr a0 a1).2) := by
 refine Jz func155 rfl (by kernel_rfl) (fun v => ?_)
 simp [ntmps155]
 refine okL fun k1 => ?_
 refine TY (ι := { s : Nat × Int × Nat × (List ZK) // JR s.1 s.2.1 s.2.2.1 s.2.2.2 = JR (a0.length + 1) a1 0 a0 /\ (1 <= s.1 /\ s.2.2.2.length < s.1 + s.2.2.1) }) (fun s => YT 48 [(0, .fix v (.one (.sref 0 0 0 s.1.2.2.2.length)), [.arr true 5 (s.1.2.2.2.map ZK.row)]), eI 1 s.1.2.1, eI 5 (s.1.2.2.1 : Int)]) (fun s => s.1.1) ⟨((a0.length + 1), a1, 0, a0), rfl, by first | omega | (dsimp only; omega) | simp⟩ (XI (by simp)) ?_
 rintro ⟨⟨n1, J, U, iQ⟩, e1, j1⟩
 try dsimp only at e1 j1
 obtain ⟨p1, rfl⟩ : ∃ p, n1 = p + 1 := ⟨n1 - 1, by omega⟩
 simp
 refine cC (decide ((U : Int) < (iQ.length : Int))) (fun k2 h1 => ?_) (fun k2 h1 => ?_)
 ·have q1 := h1; try simp at q1
  have i1 : U < iQ.length := by simpa using h1
  have m2 : iQ.length <= 9223372036854775807 := by simpa using k2 0 _ rfl
  have w1 : IntKind.i64.wrap ((U : Int) + 1) = (U : Int) + 1 := YG (by omega) (by omega)
  simp [i1, ZB, Zd, List.set_set, YL (x := (ZK.mk J (W (J + 1)) (W ((W (J + 1)) + 1)) (nth iQ U).Path (nth iQ U).Yi)) rfl]
  refine rpS ?_
  refine V7 (t := 0) (j := 0) (i := U) (c := 3) (size := 5) (rows := ((iQ.set U (ZK.mk J (W (J + 1)) (W ((W (J + 1)) + 1)) (nth iQ U).Path (nth iQ U).Yi)).map ZK.row)) rfl rfl rfl rfl rfl rfl rfl (Fb (nth iQ U).Path (W ((W ((W (J + 1)) + 1)) + 1))) (by simp) (by simp) (by simp [m2, i1]) (by simp [ZB, Zd, m2, i1]) (by simp) (by simp) (by simp) ?_
  simp [List.set_set, YL (x := (ZK.mk J (W (J + 1)) (W ((W (J + 1)) + 1)) (YS (nth iQ U).Path (W ((W ((W (J + 1)) + 1)) + 1))).1 (nth iQ U).Yi)) rfl, ZB, Zd, m2, i1]
  refine rpS ?_
  refine V7 (t := 0) (j := 0) (i := U) (c := 4) (size := 5) (rows := ((iQ.set U (ZK.mk J (W (J + 1)) (W ((W (J + 1)) + 1)) (YS (nth iQ U).Path (W ((W ((W (J + 1)) + 1)) + 1))).1 (nth iQ U).Yi)).map ZK.row)) rfl rfl rfl rfl rfl rfl rfl (Ij (nth iQ U).Yi (YS (nth iQ U).Path (W ((W ((W (J + 1)) + 1)) + 1))).2) (by simp) (by simp) (by simp [m2, i1]) (by simp [ZB, Zd, m2, i1]) (by simp) (by simp) (by simp) ?_
  simp [List.set_set, YL (x := (ZK.mk J (W (J + 1)) (W ((W (J + 1)) + 1)) (YS (nth iQ U).Path (W ((W ((W (J + 1)) + 1)) + 1))).1 (Y4 (nth iQ U).Yi (YS (nth iQ U).Path (W ((W ((W (J + 1)) + 1)) + 1))).2).1)) rfl, ZB, Zd, m2, i1]
  refine rpS ?_
  refine LC ⟨(p1, (Y4 (nth iQ U).Yi (YS (nth iQ U).Path (W ((W ((W (J + 1)) + 1)) + 1))).2).2, (U + 1), (iQ.set U (ZK.mk J (W (J + 1)) (W ((W (J + 1)) + 1)) (YS (nth iQ U).Path (W ((W ((W (J + 1)) + 1)) + 1))).1 (Y4 (nth iQ U).Yi (YS (nth iQ U).Path (W ((W ((W (J + 1)) + 1)) + 1))).2).1))), ?_, ?_⟩ (by simp) (XI (by simp [w1]))
  · rw [<- e1]; simp only [JR, h1, Yu, YY]
  · (simp; omega)
 ·have q1 := h1; try simp at q1
  have x1 : JR (a0.length + 1) a1 0 a0 = (J, iQ) := by rw [<- e1]; simp only [JR, h1, Yu, YY]
  simp
  refine NL (rv := [.tmp 4]) rfl ?_
  have f1 := Yr.eq_1 a0 a1; simp only [x1, Yu, YY] at f1; simp [f1]
theorem ET (a0 : List ZM) (a1 : Int) : K5 prog 88 (rL 16 ZM.row a0) [rI a1] (rL 16 ZM.row (XN a0 a1).1) (.int .i64 (XN a0 a1).2) := by
 refine Jz func88 rfl (by kernel_rfl) (fun v => ?_)
 simp [ntmps88]
 refine okL fun k1 => ?_
 refine TY (ι := { s : Nat × Int × Nat × (List ZM) // Ko s.1 s.2.1 s.2.2.1 s.2.2.2 = Ko (a0.length + 1) a1 0 a0 /\ (1 <= s.1 /\ s.2.2.2.length < s.1 + s.2.2.1) }) (fun s => YT 139 [(0, .fix v (.one (.sref 0 0 0 s.1.2.2.2.length)), [.arr true 16 (s.1.2.2.2.map ZM.row)]), eI 1 s.1.2.1, eI 5 (s.1.2.2.1 : Int)]) (fun s => s.1.1) ⟨((a0.length + 1), a1, 0, a0), rfl, by first | omega | (dsimp only; omega) | simp⟩ (XI (by simp)) ?_
 rintro ⟨⟨n1, J, U, iQ⟩, e1, j1⟩
 try dsimp only at e1 j1
 obtain ⟨p1, rfl⟩ : ∃ p, n1 = p + 1 := ⟨n1 - 1, by omega⟩
 simp
 refine cC (decide ((U : Int) < (iQ.length : Int))) (fun k2 h1 => ?_) (fun k2 h1 => ?_)
 ·have q1 := h1; try simp at q1
  have i1 : U < iQ.length := by simpa using h1
  have m2 : iQ.length <= 9223372036854775807 := by simpa using k2 0 _ rfl
  have w1 : IntKind.i64.wrap ((U : Int) + 1) = (U : Int) + 1 := YG (by omega) (by omega)
  simp [i1, ZB, Zd, List.set_set, YL (x := (ZM.mk J (W (J + 1)) (ZT.mk (W ((W (J + 1)) + 1)) (nth iQ U).Doc.ZU (nth iQ U).Doc.Zk) (nth iQ U).Sig (nth iQ U).ZJ)) rfl]
  refine rpS ?_
  refine V7 (t := 0) (j := 0) (i := U) (c := 3) (size := 16) (rows := ((iQ.set U (ZM.mk J (W (J + 1)) (ZT.mk (W ((W (J + 1)) + 1)) (nth iQ U).Doc.ZU (nth iQ U).Doc.Zk) (nth iQ U).Sig (nth iQ U).ZJ)).map ZM.row)) rfl rfl rfl rfl rfl rfl rfl (T3 (nth iQ U).Doc.ZU (W ((W ((W (J + 1)) + 1)) + 1))) (by simp) (by simp) (by simp [m2, i1]) (by simp [ZB, Zd, m2, i1]) (by simp) (by simp) (by simp) ?_
  simp [List.set_set, YL (x := (ZM.mk J (W (J + 1)) (ZT.mk (W ((W (J + 1)) + 1)) (ZG (nth iQ U).Doc.ZU (W ((W ((W (J + 1)) + 1)) + 1))).1 (nth iQ U).Doc.Zk) (nth iQ U).Sig (nth iQ U).ZJ)) rfl, ZB, Zd, m2, i1]
  refine rpS ?_
  refine V7 (t := 0) (j := 0) (i := U) (c := 4) (size := 16) (rows := ((iQ.set U (ZM.mk J (W (J + 1)) (ZT.mk (W ((W (J + 1)) + 1)) (ZG (nth iQ U).Doc.ZU (W ((W ((W (J + 1)) + 1)) + 1))).1 (nth iQ U).Doc.Zk) (nth iQ U).Sig (nth iQ U).ZJ)).map ZM.row)) rfl rfl rfl rfl rfl rfl rfl (Kp (nth iQ U).Doc.Zk (ZG (nth iQ U).Doc.ZU (W ((W ((W (J + 1)) + 1)) + 1))).2) (by simp) (by simp) (by simp [m2, i1]) (by simp [ZB, Zd, m2, i1]) (by simp) (by simp) (by simp) ?_
  simp [List.set_set, ZB, Zd, m2, i1, YL (x := (ZM.mk J (W (J + 1)) (ZT.mk (W ((W (J + 1)) + 1)) (ZG (nth iQ U).Doc.ZU (W ((W ((W (J + 1)) + 1)) + 1))).1 (ZI (nth iQ U).Doc.Zk (ZG (nth iQ U).Doc.ZU (W ((W ((W (J + 1)) + 1)) + 1))).2).1) (Zc.mk (ZI (nth iQ U).Doc.Zk (ZG (nth iQ U).Doc.ZU (W ((W ((W (J + 1)) + 1)) + 1))).2).2 (W ((ZI (nth iQ U).Doc.Zk (ZG (nth iQ U).Doc.ZU (W ((W ((W (J + 1)) + 1)) + 1))).2).2 + 1)) (W ((W ((ZI (nth iQ U).Doc.Zk (ZG (nth iQ U).Doc.ZU (W ((W ((W (J + 1)) + 1)) + 1))).2).2 + 1)) + 1)) (W ((W ((W ((ZI (nth iQ U).Doc.Zk (ZG (nth iQ U).Doc.ZU (W ((W ((W (J + 1)) + 1)) + 1))).2).2 + 1)) + 1)) + 1)) (W ((W ((W ((W ((ZI (nth iQ U).Doc.Zk (ZG (nth iQ U).Doc.ZU (W ((W ((W (J + 1)) + 1)) + 1))).2).2 + 1)) + 1)) + 1)) + 1)) (W ((W ((W ((W ((W ((ZI (nth iQ U).Doc.Zk (ZG (nth iQ U).Doc.ZU (W ((W ((W (J + 1)) + 1)) + 1))).2).2 + 1)) + 1)) + 1)) + 1)) + 1)) (W ((W ((W ((W ((W ((W ((ZI (nth iQ U).Doc.Zk (ZG (nth iQ U).Doc.ZU (W ((W ((W (J + 1)) + 1)) + 1))).2).2 + 1)) + 1)) + 1)) + 1)) + 1)) + 1)) (W ((W ((W ((W ((W ((W ((W ((ZI (nth iQ U).Doc.Zk (ZG (nth iQ U).Doc.ZU (W ((W ((W (J + 1)) + 1)) + 1))).2).2 + 1)) + 1)) + 1)) + 1)) + 1)) + 1)) + 1)) (W ((W ((W ((W ((W ((W ((W ((W ((ZI (nth iQ U).Doc.Zk (ZG (nth iQ U).Doc.ZU (W ((W ((W (J + 1)) + 1)) + 1))).2).2 + 1)) + 1)) + 1)) + 1)) + 1)) + 1)) + 1)) + 1))) (nth iQ U).ZJ)) rfl]
  refine rpS ?_
  refine V7 (t := 0) (j := 0) (i := U) (c := 14) (size := 16) (rows := ((iQ.set U (ZM.mk J (W (J + 1)) (ZT.mk (W ((W (J + 1)) + 1)) (ZG (nth iQ U).Doc.ZU (W ((W ((W (J + 1)) + 1)) + 1))).1 (ZI (nth iQ U).Doc.Zk (ZG (nth iQ U).Doc.ZU (W ((W ((W (J + 1)) + 1)) + 1))).2).1) (Zc.mk (ZI (nth iQ U).Doc.Zk (ZG (nth iQ U).Doc.ZU (W ((W ((W (J + 1)) + 1)) + 1))).2).2 (W ((ZI (nth iQ U).Doc.Zk (ZG (nth iQ U).Doc.ZU (W ((W ((W (J + 1)) + 1)) + 1))).2).2 + 1)) (W ((W ((ZI (nth iQ U).Doc.Zk (ZG (nth iQ U).Doc.ZU (W ((W ((W (J + 1)) + 1)) + 1))).2).2 + 1)) + 1)) (W ((W ((W ((ZI (nth iQ U).Doc.Zk (ZG (nth iQ U).Doc.ZU (W ((W ((W (J + 1)) + 1)) + 1))).2).2 + 1)) + 1)) + 1)) (W ((W ((W ((W ((ZI (nth iQ U).Doc.Zk (ZG (nth iQ U).Doc.ZU (W ((W ((W (J + 1)) + 1)) + 1))).2).2 + 1)) + 1)) + 1)) + 1)) (W ((W ((W ((W ((W ((ZI (nth iQ U).Doc.Zk (ZG (nth iQ U).Doc.ZU (W ((W ((W (J + 1)) + 1)) + 1))).2).2 + 1)) + 1)) + 1)) + 1)) + 1)) (W ((W ((W ((W ((W ((W ((ZI (nth iQ U).Doc.Zk (ZG (nth iQ U).Doc.ZU (W ((W ((W (J + 1)) + 1)) + 1))).2).2 + 1)) + 1)) + 1)) + 1)) + 1)) + 1)) (W ((W ((W ((W ((W ((W ((W ((ZI (nth iQ U).Doc.Zk (ZG (nth iQ U).Doc.ZU (W ((W ((W (J + 1)) + 1)) + 1))).2).2 + 1)) + 1)) + 1)) + 1)) + 1)) + 1)) + 1)) (W ((W ((W ((W ((W ((W ((W ((W ((ZI (nth iQ U).Doc.Zk (ZG (nth iQ U).Doc.ZU (W ((W ((W (J + 1)) + 1)) + 1))).2).2 + 1)) + 1)) + 1)) + 1)) + 1)) + 1)) + 1)) + 1))) (nth iQ U).ZJ)).map ZM.row)) rfl rfl rfl rfl rfl rfl rfl (HZ (nth iQ U).ZJ.ZL (W ((W ((W ((W ((W ((W ((W ((W ((W ((ZI (nth iQ U).Doc.Zk (ZG (nth iQ U).Doc.ZU (W ((W ((W (J + 1)) + 1)) + 1))).2).2 + 1)) + 1)) + 1)) + 1)) + 1)) + 1)) + 1)) + 1)) + 1))) (by simp) (by simp) (by simp [m2, i1]) (by simp [ZB, Zd, m2, i1]) (by simp) (by simp) (by simp) ?_
  simp [List.set_set, YL (x := (ZM.mk J (W (J + 1)) (ZT.mk (W ((W (J + 1)) + 1)) (ZG (nth iQ U).Doc.ZU (W ((W ((W (J + 1)) + 1)) + 1))).1 (ZI (nth iQ U).Doc.Zk (ZG (nth iQ U).Doc.ZU (W ((W ((W (J + 1)) + 1)) + 1))).2).1) (Zc.mk (ZI (nth iQ U).Doc.Zk (ZG (nth iQ U).Doc.ZU (W ((W ((W (J + 1)) + 1)) + 1))).2).2 (W ((ZI (nth iQ U).Doc.Zk (ZG (nth iQ U).Doc.ZU (W ((W ((W (J + 1)) + 1)) + 1))).2).2 + 1)) (W ((W ((ZI (nth iQ U).Doc.Zk (ZG (nth iQ U).Doc.ZU (W ((W ((W (J + 1)) + 1)) + 1))).2).2 + 1)) + 1)) (W ((W ((W ((ZI (nth iQ U).Doc.Zk (ZG (nth iQ U).Doc.ZU (W ((W ((W (J + 1)) + 1)) + 1))).2).2 + 1)) + 1)) + 1)) (W ((W ((W ((W ((ZI (nth iQ U).Doc.Zk (ZG (nth iQ U).Doc.ZU (W ((W ((W (J + 1)) + 1)) + 1))).2).2 + 1)) + 1)) + 1)) + 1)) (W ((W ((W ((W ((W ((ZI (nth iQ U).Doc.Zk (ZG (nth iQ U).Doc.ZU (W ((W ((W (J + 1)) + 1)) + 1))).2).2 + 1)) + 1)) + 1)) + 1)) + 1)) (W ((W ((W ((W ((W ((W ((ZI (nth iQ U).Doc.Zk (ZG (nth iQ U).Doc.ZU (W ((W ((W (J + 1)) + 1)) + 1))).2).2 + 1)) + 1)) + 1)) + 1)) + 1)) + 1)) (W ((W ((W ((W ((W ((W ((W ((ZI (nth iQ U).Doc.Zk (ZG (nth iQ U).Doc.ZU (W ((W ((W (J + 1)) + 1)) + 1))).2).2 + 1)) + 1)) + 1)) + 1)) + 1)) + 1)) + 1)) (W ((W ((W ((W ((W ((W ((W ((W ((ZI (nth iQ U).Doc.Zk (ZG (nth iQ U).Doc.ZU (W ((W ((W (J + 1)) + 1)) + 1))).2).2 + 1)) + 1)) + 1)) + 1)) + 1)) + 1)) + 1)) + 1))) (Za.mk (YC (nth iQ U).ZJ.ZL (W ((W ((W ((W ((W ((W ((W ((W ((W ((ZI (nth iQ U).Doc.Zk (ZG (nth iQ U).Doc.ZU (W ((W ((W (J + 1)) + 1)) + 1))).2).2 + 1)) + 1)) + 1)) + 1)) + 1)) + 1)) + 1)) + 1)) + 1))).1 (nth iQ U).ZJ.Zf))) rfl, ZB, Zd, m2, i1]
  refine rpS ?_
  refine V7 (t := 0) (j := 0) (i := U) (c := 15) (size := 16) (rows := ((iQ.set U (ZM.mk J (W (J + 1)) (ZT.mk (W ((W (J + 1)) + 1)) (ZG (nth iQ U).Doc.ZU (W ((W ((W (J + 1)) + 1)) + 1))).1 (ZI (nth iQ U).Doc.Zk (ZG (nth iQ U).Doc.ZU (W ((W ((W (J + 1)) + 1)) + 1))).2).1) (Zc.mk (ZI (nth iQ U).Doc.Zk (ZG (nth iQ U).Doc.ZU (W ((W ((W (J + 1)) + 1)) + 1))).2).2 (W ((ZI (nth iQ U).Doc.Zk (ZG (nth iQ U).Doc.ZU (W ((W ((W (J + 1)) + 1)) + 1))).2).2 + 1)) (W ((W ((ZI (nth iQ U).Doc.Zk (ZG (nth iQ U).Doc.ZU (W ((W ((W (J + 1)) + 1)) + 1))).2).2 + 1)) + 1)) (W ((W ((W ((ZI (nth iQ U).Doc.Zk (ZG (nth iQ U).Doc.ZU (W ((W ((W (J + 1)) + 1)) + 1))).2).2 + 1)) + 1)) + 1)) (W ((W ((W ((W ((ZI (nth iQ U).Doc.Zk (ZG (nth iQ U).Doc.ZU (W ((W ((W (J + 1)) + 1)) + 1))).2).2 + 1)) + 1)) + 1)) + 1)) (W ((W ((W ((W ((W ((ZI (nth iQ U).Doc.Zk (ZG (nth iQ U).Doc.ZU (W ((W ((W (J + 1)) + 1)) + 1))).2).2 + 1)) + 1)) + 1)) + 1)) + 1)) (W ((W ((W ((W ((W ((W ((ZI (nth iQ U).Doc.Zk (ZG (nth iQ U).Doc.ZU (W ((W ((W (J + 1)) + 1)) + 1))).2).2 + 1)) + 1)) + 1)) + 1)) + 1)) + 1)) (W ((W ((W ((W ((W ((W ((W ((ZI (nth iQ U).Doc.Zk (ZG (nth iQ U).Doc.ZU (W ((W ((W (J + 1)) + 1)) + 1))).2).2 + 1)) + 1)) + 1)) + 1)) + 1)) + 1)) + 1)) (W ((W ((W ((W ((W ((W ((W ((W ((ZI (nth iQ U).Doc.Zk (ZG (nth iQ U).Doc.ZU (W ((W ((W (J + 1)) + 1)) + 1))).2).2 + 1)) + 1)) + 1)) + 1)) + 1)) + 1)) + 1)) + 1))) (Za.mk (YC (nth iQ U).ZJ.ZL (W ((W ((W ((W ((W ((W ((W ((W ((W ((ZI (nth iQ U).Doc.Zk (ZG (nth iQ U).Doc.ZU (W ((W ((W (J + 1)) + 1)) + 1))).2).2 + 1)) + 1)) + 1)) + 1)) + 1)) + 1)) + 1)) + 1)) + 1))).1 (nth iQ U).ZJ.Zf))).map ZM.row)) rfl rfl rfl rfl rfl rfl rfl (MV (nth iQ U).ZJ.Zf (YC (nth iQ U).ZJ.ZL (W ((W ((W ((W ((W ((W ((W ((W ((W ((ZI (nth iQ U).Doc.Zk (ZG (nth iQ U).Doc.ZU (W ((W ((W (J + 1)) + 1)) + 1))).2).2 + 1)) + 1)) + 1)) + 1)) + 1)) + 1)) + 1)) + 1)) + 1))).2) (by simp) (by simp) (by simp [m2, i1]) (by simp [ZB, Zd, m2, i1]) (by simp) (by simp) (by simp) ?_
  simp [List.set_set, YL (x := (ZM.mk J (W (J + 1)) (ZT.mk (W ((W (J + 1)) + 1)) (ZG (nth iQ U).Doc.ZU (W ((W ((W (J + 1)) + 1)) + 1))).1 (ZI (nth iQ U).Doc.Zk (ZG (nth iQ U).Doc.ZU (W ((W ((W (J + 1)) + 1)) + 1))).2).1) (Zc.mk (ZI (nth iQ U).Doc.Zk (ZG (nth iQ U).Doc.ZU (W ((W ((W (J + 1)) + 1)) + 1))).2).2 (W ((ZI (nth iQ U).Doc.Zk (ZG (nth iQ U).Doc.ZU (W ((W ((W (J + 1)) + 1)) + 1))).2).2 + 1)) (W ((W ((ZI (nth iQ U).Doc.Zk (ZG (nth iQ U).Doc.ZU (W ((W ((W (J + 1)) + 1)) + 1))).2).2 + 1)) + 1)) (W ((W ((W ((ZI (nth iQ U).Doc.Zk (ZG (nth iQ U).Doc.ZU (W ((W ((W (J + 1)) + 1)) + 1))).2).2 + 1)) + 1)) + 1)) (W ((W ((W ((W ((ZI (nth iQ U).Doc.Zk (ZG (nth iQ U).Doc.ZU (W ((W ((W (J + 1)) + 1)) + 1))).2).2 + 1)) + 1)) + 1)) + 1)) (W ((W ((W ((W ((W ((ZI (nth iQ U).Doc.Zk (ZG (nth iQ U).Doc.ZU (W ((W ((W (J + 1)) + 1)) + 1))).2).2 + 1)) + 1)) + 1)) + 1)) + 1)) (W ((W ((W ((W ((W ((W ((ZI (nth iQ U).Doc.Zk (ZG (nth iQ U).Doc.ZU (W ((W ((W (J + 1)) + 1)) + 1))).2).2 + 1)) + 1)) + 1)) + 1)) + 1)) + 1)) (W ((W ((W ((W ((W ((W ((W ((ZI (nth iQ U).Doc.Zk (ZG (nth iQ U).Doc.ZU (W ((W ((W (J + 1)) + 1)) + 1))).2).2 + 1)) + 1)) + 1)) + 1)) + 1)) + 1)) + 1)) (W ((W ((W ((W ((W ((W ((W ((W ((ZI (nth iQ U).Doc.Zk (ZG (nth iQ U).Doc.ZU (W ((W ((W (J + 1)) + 1)) + 1))).2).2 + 1)) + 1)) + 1)) + 1)) + 1)) + 1)) + 1)) + 1))) (Za.mk (YC (nth iQ U).ZJ.ZL (W ((W ((W ((W ((W ((W ((W ((W ((W ((ZI (nth iQ U).Doc.Zk (ZG (nth iQ U).Doc.ZU (W ((W ((W (J + 1)) + 1)) + 1))).2).2 + 1)) + 1)) + 1)) + 1)) + 1)) + 1)) + 1)) + 1)) + 1))).1 (Yr (nth iQ U).ZJ.Zf (YC (nth iQ U).ZJ.ZL (W ((W ((W ((W ((W ((W ((W ((W ((W ((ZI (nth iQ U).Doc.Zk (ZG (nth iQ U).Doc.ZU (W ((W ((W (J + 1)) + 1)) + 1))).2).2 + 1)) + 1)) + 1)) + 1)) + 1)) + 1)) + 1)) + 1)) + 1))).2).1))) rfl, ZB, Zd, m2, i1]
  refine rpS ?_
  refine LC ⟨(p1, (Yr (nth iQ U).ZJ.Zf (YC (nth iQ U).ZJ.ZL (W ((W ((W ((W ((W ((W ((W ((W ((W ((ZI (nth iQ U).Doc.Zk (ZG (nth iQ U).Doc.ZU (W ((W ((W (J + 1)) + 1)) + 1))).2).2 + 1)) + 1)) + 1)) + 1)) + 1)) + 1)) + 1)) + 1)) + 1))).2).2, (U + 1), (iQ.set U (ZM.mk J (W (J + 1)) (ZT.mk (W ((W (J + 1)) + 1)) (ZG (nth iQ U).Doc.ZU (W ((W ((W (J + 1)) + 1)) + 1))).1 (ZI (nth iQ U).Doc.Zk (ZG (nth iQ U).Doc.ZU (W ((W ((W (J + 1)) + 1)) + 1))).2).1) (Zc.mk (ZI (nth iQ U).Doc.Zk (ZG (nth iQ U).Doc.ZU (W ((W ((W (J + 1)) + 1)) + 1))).2).2 (W ((ZI (nth iQ U).Doc.Zk (ZG (nth iQ U).Doc.ZU (W ((W ((W (J + 1)) + 1)) + 1))).2).2 + 1)) (W ((W ((ZI (nth iQ U).Doc.Zk (ZG (nth iQ U).Doc.ZU (W ((W ((W (J + 1)) + 1)) + 1))).2).2 + 1)) + 1)) (W ((W ((W ((ZI (nth iQ U).Doc.Zk (ZG (nth iQ U).Doc.ZU (W ((W ((W (J + 1)) + 1)) + 1))).2).2 + 1)) + 1)) + 1)) (W ((W ((W ((W ((ZI (nth iQ U).Doc.Zk (ZG (nth iQ U).Doc.ZU (W ((W ((W (J + 1)) + 1)) + 1))).2).2 + 1)) + 1)) + 1)) + 1)) (W ((W ((W ((W ((W ((ZI (nth iQ U).Doc.Zk (ZG (nth iQ U).Doc.ZU (W ((W ((W (J + 1)) + 1)) + 1))).2).2 + 1)) + 1)) + 1)) + 1)) + 1)) (W ((W ((W ((W ((W ((W ((ZI (nth iQ U).Doc.Zk (ZG (nth iQ U).Doc.ZU (W ((W ((W (J + 1)) + 1)) + 1))).2).2 + 1)) + 1)) + 1)) + 1)) + 1)) + 1)) (W ((W ((W ((W ((W ((W ((W ((ZI (nth iQ U).Doc.Zk (ZG (nth iQ U).Doc.ZU (W ((W ((W (J + 1)) + 1)) + 1))).2).2 + 1)) + 1)) + 1)) + 1)) + 1)) + 1)) + 1)) (W ((W ((W ((W ((W ((W ((W ((W ((ZI (nth iQ U).Doc.Zk (ZG (nth iQ U).Doc.ZU (W ((W ((W (J + 1)) + 1)) + 1))).2).2 + 1)) + 1)) + 1)) + 1)) + 1)) + 1)) + 1)) + 1))) (Za.mk (YC (nth iQ U).ZJ.ZL (W ((W ((W ((W ((W ((W ((W ((W ((W ((ZI (nth iQ U).Doc.Zk (ZG (nth iQ U).Doc.ZU (W ((W ((W (J + 1)) + 1)) + 1))).2).2 + 1)) + 1)) + 1)) + 1)) + 1)) + 1)) + 1)) + 1)) + 1))).1 (Yr (nth iQ U).ZJ.Zf (YC (nth iQ U).ZJ.ZL (W ((W ((W ((W ((W ((W ((W ((W ((W ((ZI (nth iQ U).Doc.Zk (ZG (nth iQ U).Doc.ZU (W ((W ((W (J + 1)) + 1)) + 1))).2).2 + 1)) + 1)) + 1)) + 1)) + 1)) + 1)) + 1)) + 1)) + 1))).2).1)))), ?_, ?_⟩ (by simp) (XI (by simp [w1]))
  · rw [<- e1]; simp only [Ko, h1, Yu, YY]
  · (simp; omega)
 ·have q1 := h1; try simp at q1
  have x1 : Ko (a0.length + 1) a1 0 a0 = (J, iQ) := by rw [<- e1]; simp only [Ko, h1, Yu, YY]
  simp
  refine NL (rv := [.tmp 4]) rfl ?_
  have f1 := XN.eq_1 a0 a1; simp only [x1, Yu, YY] at f1; simp [f1]
theorem Na (a0 : List ZC) (a1 : Int) : K5 prog 37 (rL 2 ZC.row a0) [rI a1] (rL 2 ZC.row (Z9 a0 a1).1) (.int .i64 (Z9 a0 a1).2) := by
 refine Jz func37 rfl (by kernel_rfl) (fun v => ?_)
 simp [ntmps37]
 refine okL fun k1 => ?_
 refine TY (ι := { s : Nat × Int × Nat × (List ZC) // JO s.1 s.2.1 s.2.2.1 s.2.2.2 = JO (a0.length + 1) a1 0 a0 /\ (1 <= s.1 /\ s.2.2.2.length < s.1 + s.2.2.1) }) (fun s => YT 27 [(0, .fix v (.one (.sref 0 0 0 s.1.2.2.2.length)), [.arr true 2 (s.1.2.2.2.map ZC.row)]), eI 1 s.1.2.1, eI 5 (s.1.2.2.1 : Int)]) (fun s => s.1.1) ⟨((a0.length + 1), a1, 0, a0), rfl, by first | omega | (dsimp only; omega) | simp⟩ (XI (by simp)) ?_
 rintro ⟨⟨n1, J, U, iQ⟩, e1, j1⟩
 try dsimp only at e1 j1
 obtain ⟨p1, rfl⟩ : ∃ p, n1 = p + 1 := ⟨n1 - 1, by omega⟩
 simp
 refine cC (decide ((U : Int) < (iQ.length : Int))) (fun k2 h1 => ?_) (fun k2 h1 => ?_)
 ·have q1 := h1; try simp at q1
  have i1 : U < iQ.length := by simpa using h1
  have m2 : iQ.length <= 9223372036854775807 := by simpa using k2 0 _ rfl
  have w1 : IntKind.i64.wrap ((U : Int) + 1) = (U : Int) + 1 := YG (by omega) (by omega)
  simp [i1, ZB, YL (x := (ZC.mk J (nth iQ U).ZD)) rfl, Zd]
  refine rpS ?_
  refine V7 (t := 0) (j := 0) (i := U) (c := 1) (size := 2) (rows := ((iQ.set U (ZC.mk J (nth iQ U).ZD)).map ZC.row)) rfl rfl rfl rfl rfl rfl rfl (ET (nth iQ U).ZD (W (J + 1))) (by simp) (by simp) (by simp [m2, i1]) (by simp [ZB, Zd, m2, i1]) (by simp) (by simp) (by simp) ?_
  simp [List.set_set, YL (x := (ZC.mk J (XN (nth iQ U).ZD (W (J + 1))).1)) rfl, ZB, Zd, m2, i1]
  refine rpS ?_
  refine LC ⟨(p1, (XN (nth iQ U).ZD (W (J + 1))).2, (U + 1), (iQ.set U (ZC.mk J (XN (nth iQ U).ZD (W (J + 1))).1))), ?_, ?_⟩ (by simp) (XI (by simp [w1]))
  · rw [<- e1]; simp only [JO, h1, Yu, YY]
  · (simp; omega)
 ·have q1 := h1; try simp at q1
  have x1 : JO (a0.length + 1) a1 0 a0 = (J, iQ) := by rw [<- e1]; simp only [JO, h1, Yu, YY]
  simp
  refine NL (rv := [.tmp 4]) rfl ?_
  have f1 := Z9.eq_1 a0 a1; simp only [x1, Yu, YY] at f1; simp [f1]
theorem PR (a0 : ZH) (a1 : Int) : K5 prog 12 a0.row [rI a1] (Zz a0 a1).1.row (.int .i64 (Zz a0 a1).2) := by
 refine Jz func12 rfl (by kernel_rfl) (fun v => ?_)
 simp [ntmps12]
 refine ke (gZ := [.sref 0 0 0 a0.Frame.Zm.length, .sref 0 1 0 a0.Frame.ZE.length, .sref 0 2 0 a0.Frame.Methods.length, .d (.int .i64 a0.Frame.KZ), .d (.int .i64 a0.Frame.Now)]) rfl rfl rfl rfl rfl rfl rfl (Gr a0.Frame a1) (by simp) (by simp) (by simp) (by simp) (by simp) (by simp) (by simp) (by simp) (by simp) ?_
 simp
 refine ke (gZ := [.sref 0 5 0 a0.ZN.length]) rfl rfl rfl rfl rfl rfl rfl (GF a0.ZN (Zu a0.Frame a1).2) (by simp) (by simp) (by simp) (by simp) (by simp) (by simp) (by simp) (by simp) (by simp) ?_
 simp
 refine ke (gZ := [.sref 0 6 0 a0.Zl.length]) rfl rfl rfl rfl rfl rfl rfl (Kp a0.Zl (Z8 a0.ZN (Zu a0.Frame a1).2).2) (by simp) (by simp) (by simp) (by simp) (by simp) (by simp) (by simp) (by simp) (by simp) ?_
 simp
 refine ke (gZ := [.sref 0 7 0 a0.ZA.length]) rfl rfl rfl rfl rfl rfl rfl (Na a0.ZA (ZI a0.Zl (Z8 a0.ZN (Zu a0.Frame a1).2).2).2) (by simp) (by simp) (by simp) (by simp) (by simp) (by simp) (by simp) (by simp) (by simp) ?_
 simp
 refine ke (gZ := [.sref 0 8 0 a0.YX.length]) rfl rfl rfl rfl rfl rfl rfl (Kp a0.YX (Z9 a0.ZA (ZI a0.Zl (Z8 a0.ZN (Zu a0.Frame a1).2).2).2).2) (by simp) (by simp) (by simp) (by simp) (by simp) (by simp) (by simp) (by simp) (by simp) ?_
 simp
 refine ke (gZ := [.sref 0 9 0 a0.YJ.length]) rfl rfl rfl rfl rfl rfl rfl (Kp a0.YJ (ZI a0.YX (Z9 a0.ZA (ZI a0.Zl (Z8 a0.ZN (Zu a0.Frame a1).2).2).2).2).2) (by simp) (by simp) (by simp) (by simp) (by simp) (by simp) (by simp) (by simp) (by simp) ?_
 simp
 refine ke (gZ := [.sref 0 11 0 a0.Z4.length]) rfl rfl rfl rfl rfl rfl rfl (Kp a0.Z4 (ZI a0.YJ (ZI a0.YX (Z9 a0.ZA (ZI a0.Zl (Z8 a0.ZN (Zu a0.Frame a1).2).2).2).2).2).2) (by simp) (by simp) (by simp) (by simp) (by simp) (by simp) (by simp) (by simp) (by simp) ?_
 simp
 refine NL (rv := [.tmp 4]) rfl ?_
 have f1 := Zz.eq_1 a0 a1; simp [f1]
theorem IJ (a0 : List Zp) (a1 : Int) : K5 prog 13 (rL 9 Zp.row a0) [rI a1] (rL 9 Zp.row (JD a0 a1).1) (.int .i64 (JD a0 a1).2) := by
 refine Jz func13 rfl (by kernel_rfl) (fun v => ?_)
 simp [ntmps13]
 refine okL fun k1 => ?_
 refine TY (ι := { s : Nat × Int × Nat × (List Zp) // KE s.1 s.2.1 s.2.2.1 s.2.2.2 = KE (a0.length + 1) a1 0 a0 /\ (1 <= s.1 /\ s.2.2.2.length < s.1 + s.2.2.1) }) (fun s => YT 79 [(0, .fix v (.one (.sref 0 0 0 s.1.2.2.2.length)), [.arr true 9 (s.1.2.2.2.map Zp.row)]), eI 1 s.1.2.1, eI 5 (s.1.2.2.1 : Int)]) (fun s => s.1.1) ⟨((a0.length + 1), a1, 0, a0), rfl, by first | omega | (dsimp only; omega) | simp⟩ (XI (by simp)) ?_
 rintro ⟨⟨n1, J, U, iQ⟩, e1, j1⟩
 try dsimp only at e1 j1
 obtain ⟨p1, rfl⟩ : ∃ p, n1 = p + 1 := ⟨n1 - 1, by omega⟩
 simp
 refine cC (decide ((U : Int) < (iQ.length : Int))) (fun k2 h1 => ?_) (fun k2 h1 => ?_)
 ·have q1 := h1; try simp at q1
  have i1 : U < iQ.length := by simpa using h1
  have m2 : iQ.length <= 9223372036854775807 := by simpa using k2 0 _ rfl
  have w1 : IntKind.i64.wrap ((U : Int) + 1) = (U : Int) + 1 := YG (by omega) (by omega)
  simp [i1, ZB, Zd, List.set_set, YL (x := (Zp.mk J (W (J + 1)) (W ((W (J + 1)) + 1)) (W ((W ((W (J + 1)) + 1)) + 1)) (W ((W ((W ((W (J + 1)) + 1)) + 1)) + 1)) (ZT.mk (W ((W ((W ((W ((W (J + 1)) + 1)) + 1)) + 1)) + 1)) (nth iQ U).Doc.ZU (nth iQ U).Doc.Zk) (nth iQ U).Ids)) rfl]
  refine rpS ?_
  refine V7 (t := 0) (j := 0) (i := U) (c := 6) (size := 9) (rows := ((iQ.set U (Zp.mk J (W (J + 1)) (W ((W (J + 1)) + 1)) (W ((W ((W (J + 1)) + 1)) + 1)) (W ((W ((W ((W (J + 1)) + 1)) + 1)) + 1)) (ZT.mk (W ((W ((W ((W ((W (J + 1)) + 1)) + 1)) + 1)) + 1)) (nth iQ U).Doc.ZU (nth iQ U).Doc.Zk) (nth iQ U).Ids)).map Zp.row)) rfl rfl rfl rfl rfl rfl rfl (T3 (nth iQ U).Doc.ZU (W ((W ((W ((W ((W ((W (J + 1)) + 1)) + 1)) + 1)) + 1)) + 1))) (by simp) (by simp) (by simp [m2, i1]) (by simp [ZB, Zd, m2, i1]) (by simp) (by simp) (by simp) ?_
  simp [List.set_set, YL (x := (Zp.mk J (W (J + 1)) (W ((W (J + 1)) + 1)) (W ((W ((W (J + 1)) + 1)) + 1)) (W ((W ((W ((W (J + 1)) + 1)) + 1)) + 1)) (ZT.mk (W ((W ((W ((W ((W (J + 1)) + 1)) + 1)) + 1)) + 1)) (ZG (nth iQ U).Doc.ZU (W ((W ((W ((W ((W ((W (J + 1)) + 1)) + 1)) + 1)) + 1)) + 1))).1 (nth iQ U).Doc.Zk) (nth iQ U).Ids)) rfl, ZB, Zd, m2, i1]
  refine rpS ?_
  refine V7 (t := 0) (j := 0) (i := U) (c := 7) (size := 9) (rows := ((iQ.set U (Zp.mk J (W (J + 1)) (W ((W (J + 1)) + 1)) (W ((W ((W (J + 1)) + 1)) + 1)) (W ((W ((W ((W (J + 1)) + 1)) + 1)) + 1)) (ZT.mk (W ((W ((W ((W ((W (J + 1)) + 1)) + 1)) + 1)) + 1)) (ZG (nth iQ U).Doc.ZU (W ((W ((W ((W ((W ((W (J + 1)) + 1)) + 1)) + 1)) + 1)) + 1))).1 (nth iQ U).Doc.Zk) (nth iQ U).Ids)).map Zp.row)) rfl rfl rfl rfl rfl rfl rfl (Kp (nth iQ U).Doc.Zk (ZG (nth iQ U).Doc.ZU (W ((W ((W ((W ((W ((W (J + 1)) + 1)) + 1)) + 1)) + 1)) + 1))).2) (by simp) (by simp) (by simp [m2, i1]) (by simp [ZB, Zd, m2, i1]) (by simp) (by simp) (by simp) ?_
  simp [List.set_set, YL (x := (Zp.mk J (W (J + 1)) (W ((W (J + 1)) + 1)) (W ((W ((W (J + 1)) + 1)) + 1)) (W ((W ((W ((W (J + 1)) + 1)) + 1)) + 1)) (ZT.mk (W ((W ((W ((W ((W (J + 1)) + 1)) + 1)) + 1)) + 1)) (ZG (nth iQ U).Doc.ZU (W ((W ((W ((W ((W ((W (J + 1)) + 1)) + 1)) + 1)) + 1)) + 1))).1 (ZI (nth iQ U).Doc.Zk (ZG (nth iQ U).Doc.ZU (W ((W ((W ((W ((W ((W (J + 1)) + 1)) + 1)) + 1)) + 1)) + 1))).2).1) (nth iQ U).Ids)) rfl, ZB, Zd, m2, i1]
  refine rpS ?_
  refine V7 (t := 0) (j := 0) (i := U) (c := 8) (size := 9) (rows := ((iQ.set U (Zp.mk J (W (J + 1)) (W ((W (J + 1)) + 1)) (W ((W ((W (J + 1)) + 1)) + 1)) (W ((W ((W ((W (J + 1)) + 1)) + 1)) + 1)) (ZT.mk (W ((W ((W ((W ((W (J + 1)) + 1)) + 1)) + 1)) + 1)) (ZG (nth iQ U).Doc.ZU (W ((W ((W ((W ((W ((W (J + 1)) + 1)) + 1)) + 1)) + 1)) + 1))).1 (ZI (nth iQ U).Doc.Zk (ZG (nth iQ U).Doc.ZU (W ((W ((W ((W ((W ((W (J + 1)) + 1)) + 1)) + 1)) + 1)) + 1))).2).1) (nth iQ U).Ids)).map Zp.row)) rfl rfl rfl rfl rfl rfl rfl (Kp (nth iQ U).Ids (ZI (nth iQ U).Doc.Zk (ZG (nth iQ U).Doc.ZU (W ((W ((W ((W ((W ((W (J + 1)) + 1)) + 1)) + 1)) + 1)) + 1))).2).2) (by simp) (by simp) (by simp [m2, i1]) (by simp [ZB, Zd, m2, i1]) (by simp) (by simp) (by simp) ?_
  simp [List.set_set, YL (x := (Zp.mk J (W (J + 1)) (W ((W (J + 1)) + 1)) (W ((W ((W (J + 1)) + 1)) + 1)) (W ((W ((W ((W (J + 1)) + 1)) + 1)) + 1)) (ZT.mk (W ((W ((W ((W ((W (J + 1)) + 1)) + 1)) + 1)) + 1)) (ZG (nth iQ U).Doc.ZU (W ((W ((W ((W ((W ((W (J + 1)) + 1)) + 1)) + 1)) + 1)) + 1))).1 (ZI (nth iQ U).Doc.Zk (ZG (nth iQ U).Doc.ZU (W ((W ((W ((W ((W ((W (J + 1)) + 1)) + 1)) + 1)) + 1)) + 1))).2).1) (ZI (nth iQ U).Ids (ZI (nth iQ U).Doc.Zk (ZG (nth iQ U).Doc.ZU (W ((W ((W ((W ((W ((W (J + 1)) + 1)) + 1)) + 1)) + 1)) + 1))).2).2).1)) rfl, ZB, Zd, m2, i1]
  refine rpS ?_
  refine LC ⟨(p1, (ZI (nth iQ U).Ids (ZI (nth iQ U).Doc.Zk (ZG (nth iQ U).Doc.ZU (W ((W ((W ((W ((W ((W (J + 1)) + 1)) + 1)) + 1)) + 1)) + 1))).2).2).2, (U + 1), (iQ.set U (Zp.mk J (W (J + 1)) (W ((W (J + 1)) + 1)) (W ((W ((W (J + 1)) + 1)) + 1)) (W ((W ((W ((W (J + 1)) + 1)) + 1)) + 1)) (ZT.mk (W ((W ((W ((W ((W (J + 1)) + 1)) + 1)) + 1)) + 1)) (ZG (nth iQ U).Doc.ZU (W ((W ((W ((W ((W ((W (J + 1)) + 1)) + 1)) + 1)) + 1)) + 1))).1 (ZI (nth iQ U).Doc.Zk (ZG (nth iQ U).Doc.ZU (W ((W ((W ((W ((W ((W (J + 1)) + 1)) + 1)) + 1)) + 1)) + 1))).2).1) (ZI (nth iQ U).Ids (ZI (nth iQ U).Doc.Zk (ZG (nth iQ U).Doc.ZU (W ((W ((W ((W ((W ((W (J + 1)) + 1)) + 1)) + 1)) + 1)) + 1))).2).2).1))), ?_, ?_⟩ (by simp) (XI (by simp [w1]))
  · rw [<- e1]; simp only [KE, h1, Yu, YY]
  · (simp; omega)
 ·have q1 := h1; try simp at q1
  have x1 : KE (a0.length + 1) a1 0 a0 = (J, iQ) := by rw [<- e1]; simp only [KE, h1, Yu, YY]
  simp
  refine NL (rv := [.tmp 4]) rfl ?_
  have f1 := JD.eq_1 a0 a1; simp only [x1, Yu, YY] at f1; simp [f1]
theorem Dy (a0 : List YZ) (a1 : Int) : Sa 90 [rL 5 YZ.row a0, rI a1] [rI (zt a0 a1)] := by
 have f := me (zt.eq_1 a0 a1)
 refine so func90 ntmps90 ?_
 refine lp2 (VJ.eq_2 a0) (fun J U => YT 58 [eL 0 5 a0 YZ.row, eI 1 J, eI 5 (U : Int)]) (fun n1 J U => a0.length < n1 + U /\ U <= a0.length) (a0.length + 1) a1 0 (fun p1 J U e1 j1 => ?_)
 refine cFf e1 ?_ ?_ <;> intro k2 h1 e1
 ·have i1 := ix h1
  have m2 := ml a0 (k2 0 _ rfl)
  have w1 := wr U
  simp [i1, ZB]
  refine rpS ?_
  refine cFt e1 ?_ ?_ <;> intro k3 h2 e1
  ·have f := ms f e1
   exact rt [.tmp 4] f
  simp [i1, ZB]
  refine rpS ?_
  refine cFt e1 ?_ ?_ <;> intro k4 h3 e1
  ·have f := ms f e1
   exact rt [.tmp 4] f
  simp [i1, ZB]
  refine rpS ?_
  refine cFt e1 ?_ ?_ <;> intro k5 h4 e1
  ·have f := ms f e1
   exact rt [.tmp 4] f
  simp [i1, ZB]
  refine rpS ?_
  refine cFt e1 ?_ ?_ <;> intro k6 h5 e1
  ·have f := ms f e1
   exact rt [.tmp 4] f
  simp [i1, ZB]
  refine rpS ?_
  refine cF e1 ?_ ?_ <;> intro k7 h6 e1
  ·have f := ms f e1
   exact rt [.tmp 4] f
  exact ny2 w1 e1
 have f := ms f e1
 exact rt [.tmp 4] f
theorem P8 (a0 : List ZR) (a1 : Int) : Sa 91 [rL 3 ZR.row a0, rI a1] [rI (JS a0 a1)] := by
 have f := me (JS.eq_1 a0 a1)
 refine so func91 ntmps91 ?_
 refine lp2 (yk.eq_2 a0) (fun J U => YT 40 [eL 0 3 a0 ZR.row, eI 1 J, eI 5 (U : Int)]) (fun n1 J U => a0.length < n1 + U /\ U <= a0.length) (a0.length + 1) a1 0 (fun p1 J U e1 j1 => ?_)
 refine cFf e1 ?_ ?_ <;> intro k2 h1 e1
 ·have i1 := ix h1
  have m2 := ml a0 (k2 0 _ rfl)
  have w1 := wr U
  simp [i1, ZB]
  refine rpS ?_
  refine cFt e1 ?_ ?_ <;> intro k3 h2 e1
  ·have f := ms f e1
   exact rt [.tmp 4] f
  simp [i1, ZB]
  refine rpS ?_
  refine cFt e1 ?_ ?_ <;> intro k4 h3 e1
  ·have f := ms f e1
   exact rt [.tmp 4] f
  simp [i1, ZB]
  refine rpS ?_
  refine cF e1 ?_ ?_ <;> intro k5 h4 e1
  ·have f := ms f e1
   exact rt [.tmp 4] f
  exact ny2 w1 e1
 have f := ms f e1
 exact rt [.tmp 4] f
theorem LR (a0 : List Zj) (a1 : Int) : Sa 92 [rL 4 Zj.row a0, rI a1] [rI (xA a0 a1)] := by
 have f := me (xA.eq_1 a0 a1)
 refine so func92 ntmps92 ?_
 refine lp2 (qw.eq_2 a0) (fun J U => YT 49 [eL 0 4 a0 Zj.row, eI 1 J, eI 5 (U : Int)]) (fun n1 J U => a0.length < n1 + U /\ U <= a0.length) (a0.length + 1) a1 0 (fun p1 J U e1 j1 => ?_)
 refine cFf e1 ?_ ?_ <;> intro k2 h1 e1
 ·have i1 := ix h1
  have m2 := ml a0 (k2 0 _ rfl)
  have w1 := wr U
  simp [i1, ZB]
  refine rpS ?_
  refine cFt e1 ?_ ?_ <;> intro k3 h2 e1
  ·have f := ms f e1
   exact rt [.tmp 4] f
  simp [i1, ZB]
  refine rpS ?_
  refine cFt e1 ?_ ?_ <;> intro k4 h3 e1
  ·have f := ms f e1
   exact rt [.tmp 4] f
  simp [i1, ZB]
  refine rpS ?_
  refine cFt e1 ?_ ?_ <;> intro k5 h4 e1
  ·have f := ms f e1
   exact rt [.tmp 4] f
  simp [i1, ZB]
  refine rpS ?_
  refine cF e1 ?_ ?_ <;> intro k6 h5 e1
  ·have f := ms f e1
   exact rt [.tmp 4] f
  exact ny2 w1 e1
 have f := ms f e1
 exact rt [.tmp 4] f
theorem G8 (a0 : Zq) (a1 : Int) : Sa 39 [a0.row, rI a1] [rI (Xu a0 a1)] := by
 have f := me (Xu.eq_1 a0 a1)
 refine so func39 ntmps39 ?_
 refine cRs (Dy a0.Zm a1) ?_
 refine cF f ?_ ?_ <;> intro k1 h1 f
 ·exact rt [.tmp 4] f
 refine cRs (P8 a0.ZE (zt a0.Zm a1)) ?_
 refine cF f ?_ ?_ <;> intro k2 h2 f
 ·exact rt [.tmp 4] f
 refine cRs (LR a0.Methods (JS a0.ZE (zt a0.Zm a1))) ?_
 refine cF f ?_ ?_ <;> intro k3 h3 f
 ·exact rt [.tmp 4] f
 exact rt [.tmp 4] f
theorem Gd (a0 : List Z1) (a1 : Int) : Sa 40 [rL 7 Z1.row a0, rI a1] [rI (QJ a0 a1)] := by
 have f := me (QJ.eq_1 a0 a1)
 refine so func40 ntmps40 ?_
 refine lp2 (WH.eq_2 a0) (fun J U => YT 76 [eL 0 7 a0 Z1.row, eI 1 J, eI 5 (U : Int)]) (fun n1 J U => a0.length < n1 + U /\ U <= a0.length) (a0.length + 1) a1 0 (fun p1 J U e1 j1 => ?_)
 refine cFf e1 ?_ ?_ <;> intro k2 h1 e1
 ·have i1 := ix h1
  have m2 := ml a0 (k2 0 _ rfl)
  have w1 := wr U
  simp [i1, ZB]
  refine rpS ?_
  refine cFt e1 ?_ ?_ <;> intro k3 h2 e1
  ·have f := ms f e1
   exact rt [.tmp 4] f
  simp [i1, ZB]
  refine rpS ?_
  refine cFt e1 ?_ ?_ <;> intro k4 h3 e1
  ·have f := ms f e1
   exact rt [.tmp 4] f
  simp [i1, ZB]
  refine rpS ?_
  refine cFt e1 ?_ ?_ <;> intro k5 h4 e1
  ·have f := ms f e1
   exact rt [.tmp 4] f
  simp [i1, ZB]
  refine rpS ?_
  refine cFt e1 ?_ ?_ <;> intro k6 h5 e1
  ·have f := ms f e1
   exact rt [.tmp 4] f
  simp [i1, ZB]
  refine rpS ?_
  refine cFt e1 ?_ ?_ <;> intro k7 h6 e1
  ·have f := ms f e1
   exact rt [.tmp 4] f
  simp [i1, ZB]
  refine rpS ?_
  refine cFt e1 ?_ ?_ <;> intro k8 h7 e1
  ·have f := ms f e1
   exact rt [.tmp 4] f
  simp [i1, ZB]
  refine rpS ?_
  refine cF e1 ?_ ?_ <;> intro k9 h8 e1
  ·have f := ms f e1
   exact rt [.tmp 4] f
  exact ny2 w1 e1
 have f := ms f e1
 exact rt [.tmp 4] f
theorem y5 (a0 : List Int) (a1 : Int) : Sa 41 [rL 1 iR a0, rI a1] [rI (Zr a0 a1)] := by
 have f := me (Zr.eq_1 a0 a1)
 refine so func41 ntmps41 ?_
 refine lp2 (VA.eq_2 a0) (fun J U => YT 21 [eL 0 1 a0 iR, eI 1 J, eI 5 (U : Int)]) (fun n1 J U => a0.length < n1 + U /\ U <= a0.length) (a0.length + 1) a1 0 (fun p1 J U e1 j1 => ?_)
 refine cFf e1 ?_ ?_ <;> intro k2 h1 e1
 ·have i1 := ix h1
  have m2 := ml a0 (k2 0 _ rfl)
  have w1 := wr U
  simp [i1, ZB]
  refine rpS ?_
  refine cF e1 ?_ ?_ <;> intro k3 h2 e1
  ·have f := ms f e1
   exact rt [.tmp 4] f
  exact ny2 w1 e1
 have f := ms f e1
 exact rt [.tmp 4] f
theorem Ld (a0 : List ByteArray) (a1 : Int) : Sa 156 [rL 1 sR a0, rI a1] [rI (Z3 a0 a1)] := by
 have f := me (Z3.eq_1 a0 a1)
 refine so func156 ntmps156 ?_
 refine lp2 (qx.eq_2 a0) (fun J U => YT 22 [eL 0 1 a0 sR, eI 1 J, eI 5 (U : Int)]) (fun n1 J U => a0.length < n1 + U /\ U <= a0.length) (a0.length + 1) a1 0 (fun p1 J U e1 j1 => ?_)
 refine cF e1 ?_ ?_ <;> intro k2 h1 e1
 ·have i1 := ix h1
  have m2 := ml a0 (k2 0 _ rfl)
  have w1 := wr U
  refine dIo mixed ?_
  simp [i1, ZB]
  refine rpS ?_
  refine cRs (OS J) ?_
  refine cF e1 ?_ ?_ <;> intro k4 h2 e1
  ·have f := ms f e1
   exact rt [.tmp 4] f
  exact ny2 w1 e1
 have f := ms f e1
 exact rt [.tmp 4] f
theorem HV (a0 : List ZO) (a1 : Int) : Sa 157 [rL 3 ZO.row a0, rI a1] [rI (Jg a0 a1)] := by
 have f := me (Jg.eq_1 a0 a1)
 refine so func157 ntmps157 ?_
 refine lp2 (j5.eq_2 a0) (fun J U => YT 40 [eL 0 3 a0 ZO.row, eI 1 J, eI 5 (U : Int)]) (fun n1 J U => a0.length < n1 + U /\ U <= a0.length) (a0.length + 1) a1 0 (fun p1 J U e1 j1 => ?_)
 refine cFf e1 ?_ ?_ <;> intro k2 h1 e1
 ·have i1 := ix h1
  have m2 := ml a0 (k2 0 _ rfl)
  have w1 := wr U
  simp [i1, ZB]
  refine rpS ?_
  refine cFt e1 ?_ ?_ <;> intro k3 h2 e1
  ·have f := ms f e1
   exact rt [.tmp 4] f
  simp [i1, ZB]
  refine rpS ?_
  refine cRs (y5 (nth a0 U).Ys (W (J + 1))) ?_ (iq := by first | (simp; done) | (simp [W, w1]; done))
  refine cFt e1 ?_ ?_ <;> intro k4 h3 e1
  ·have f := ms f e1
   exact rt [.tmp 4] f
  simp [i1, ZB]
  refine rpS ?_
  refine cF e1 ?_ ?_ <;> intro k5 h4 e1
  ·have f := ms f e1
   exact rt [.tmp 4] f
  exact ny2 w1 e1
 have f := ms f e1
 exact rt [.tmp 4] f
theorem F6 (a0 : List Zy) (a1 : Int) : Sa 219 [rL 2 Zy.row a0, rI a1] [rI (KG a0 a1)] := by
 have f := me (KG.eq_1 a0 a1)
 refine so func219 ntmps219 ?_
 refine lp2 (kz.eq_2 a0) (fun J U => YT 33 [eL 0 2 a0 Zy.row, eI 1 J, eI 5 (U : Int)]) (fun n1 J U => a0.length < n1 + U /\ U <= a0.length) (a0.length + 1) a1 0 (fun p1 J U e1 j1 => ?_)
 refine cFf e1 ?_ ?_ <;> intro k2 h1 e1
 ·have i1 := ix h1
  have m2 := ml a0 (k2 0 _ rfl)
  have w1 := wr U
  simp [i1, ZB]
  refine rpS ?_
  refine cFt e1 ?_ ?_ <;> intro k3 h2 e1
  ·have f := ms f e1
   exact rt [.tmp 4] f
  simp [i1, ZB]
  refine rpS ?_
  refine cF e1 ?_ ?_ <;> intro k4 h3 e1
  ·have f := ms f e1
   exact rt [.tmp 4] f
  exact ny2 w1 e1
 have f := ms f e1
 exact rt [.tmp 4] f
theorem Hh (a0 : List ZW) (a1 : Int) : Sa 220 [rL 5 ZW.row a0, rI a1] [rI (zX a0 a1)] := by
 have f := me (zX.eq_1 a0 a1)
 refine so func220 ntmps220 ?_
 refine lp2 (jf.eq_2 a0) (fun J U => YT 58 [eL 0 5 a0 ZW.row, eI 1 J, eI 5 (U : Int)]) (fun n1 J U => a0.length < n1 + U /\ U <= a0.length) (a0.length + 1) a1 0 (fun p1 J U e1 j1 => ?_)
 refine cFf e1 ?_ ?_ <;> intro k2 h1 e1
 ·have i1 := ix h1
  have m2 := ml a0 (k2 0 _ rfl)
  have w1 := wr U
  simp [i1, ZB]
  refine rpS ?_
  refine cFt e1 ?_ ?_ <;> intro k3 h2 e1
  ·have f := ms f e1
   exact rt [.tmp 4] f
  simp [i1, ZB]
  refine rpS ?_
  refine cFt e1 ?_ ?_ <;> intro k4 h3 e1
  ·have f := ms f e1
   exact rt [.tmp 4] f
  simp [i1, ZB]
  refine rpS ?_
  refine cFt e1 ?_ ?_ <;> intro k5 h4 e1
  ·have f := ms f e1
   exact rt [.tmp 4] f
  simp [i1, ZB]
  refine rpS ?_
  refine cFt e1 ?_ ?_ <;> intro k6 h5 e1
  ·have f := ms f e1
   exact rt [.tmp 4] f
  simp [i1, ZB]
  refine rpS ?_
  refine cF e1 ?_ ?_ <;> intro k7 h6 e1
  ·have f := ms f e1
   exact rt [.tmp 4] f
  exact ny2 w1 e1
 have f := ms f e1
 exact rt [.tmp 4] f
theorem N5 (a0 : List ZK) (a1 : Int) : Sa 158 [rL 5 ZK.row a0, rI a1] [rI (KK a0 a1)] := by
 have f := me (KK.eq_1 a0 a1)
 refine so func158 ntmps158 ?_
 refine lp2 (qE.eq_2 a0) (fun J U => YT 58 [eL 0 5 a0 ZK.row, eI 1 J, eI 5 (U : Int)]) (fun n1 J U => a0.length < n1 + U /\ U <= a0.length) (a0.length + 1) a1 0 (fun p1 J U e1 j1 => ?_)
 refine cFf e1 ?_ ?_ <;> intro k2 h1 e1
 ·have i1 := ix h1
  have m2 := ml a0 (k2 0 _ rfl)
  have w1 := wr U
  simp [i1, ZB]
  refine rpS ?_
  refine cFt e1 ?_ ?_ <;> intro k3 h2 e1
  ·have f := ms f e1
   exact rt [.tmp 4] f
  simp [i1, ZB]
  refine rpS ?_
  refine cFt e1 ?_ ?_ <;> intro k4 h3 e1
  ·have f := ms f e1
   exact rt [.tmp 4] f
  simp [i1, ZB]
  refine rpS ?_
  refine cFt e1 ?_ ?_ <;> intro k5 h4 e1
  ·have f := ms f e1
   exact rt [.tmp 4] f
  simp [i1, ZB]
  refine rpS ?_
  refine cRs (F6 (nth a0 U).Path (W ((W ((W (J + 1)) + 1)) + 1))) ?_ (iq := by first | (simp; done) | (simp [W, w1]; done))
  refine cFt e1 ?_ ?_ <;> intro k6 h5 e1
  ·have f := ms f e1
   exact rt [.tmp 4] f
  simp [i1, ZB]
  refine rpS ?_
  refine cRs (Hh (nth a0 U).Yi (KG (nth a0 U).Path (W ((W ((W (J + 1)) + 1)) + 1)))) ?_ (iq := by first | (simp; done) | (simp [W, w1]; done))
  refine cF e1 ?_ ?_ <;> intro k7 h6 e1
  ·have f := ms f e1
   exact rt [.tmp 4] f
  exact ny2 w1 e1
 have f := ms f e1
 exact rt [.tmp 4] f
theorem ED (a0 : List ZM) (a1 : Int) : Sa 93 [rL 16 ZM.row a0, rI a1] [rI (yU a0 a1)] := by
 have f := me (yU.eq_1 a0 a1)
 refine so func93 ntmps93 ?_
 refine lp2 (WR.eq_2 a0) (fun J U => YT 171 [eL 0 16 a0 ZM.row, eI 1 J, eI 5 (U : Int)]) (fun n1 J U => a0.length < n1 + U /\ U <= a0.length) (a0.length + 1) a1 0 (fun p1 J U e1 j1 => ?_)
 refine cFf e1 ?_ ?_ <;> intro k2 h1 e1
 ·have i1 := ix h1
  have m2 := ml a0 (k2 0 _ rfl)
  have w1 := wr U
  simp [i1, ZB]
  refine rpS ?_
  refine cFt e1 ?_ ?_ <;> intro k3 h2 e1
  ·have f := ms f e1
   exact rt [.tmp 4] f
  simp [i1, ZB]
  refine rpS ?_
  refine cFt e1 ?_ ?_ <;> intro k4 h3 e1
  ·have f := ms f e1
   exact rt [.tmp 4] f
  simp [i1, ZB]
  refine rpS ?_
  refine cFt e1 ?_ ?_ <;> intro k5 h4 e1
  ·have f := ms f e1
   exact rt [.tmp 4] f
  simp [i1, ZB]
  refine rpS ?_
  refine cRs (Ld (nth a0 U).Doc.ZU (W ((W ((W (J + 1)) + 1)) + 1))) ?_ (iq := by first | (simp; done) | (simp [W, w1]; done))
  refine cFt e1 ?_ ?_ <;> intro k6 h5 e1
  ·have f := ms f e1
   exact rt [.tmp 4] f
  simp [i1, ZB]
  refine rpS ?_
  refine cRs (y5 (nth a0 U).Doc.Zk (Z3 (nth a0 U).Doc.ZU (W ((W ((W (J + 1)) + 1)) + 1)))) ?_ (iq := by first | (simp; done) | (simp [W, w1]; done))
  refine cFt e1 ?_ ?_ <;> intro k7 h6 e1
  ·have f := ms f e1
   exact rt [.tmp 4] f
  simp [i1, ZB]
  refine rpS ?_
  refine cFt e1 ?_ ?_ <;> intro k8 h7 e1
  ·have f := ms f e1
   exact rt [.tmp 4] f
  simp [i1, ZB]
  refine rpS ?_
  refine cFt e1 ?_ ?_ <;> intro k9 h8 e1
  ·have f := ms f e1
   exact rt [.tmp 4] f
  simp [i1, ZB]
  refine rpS ?_
  refine cFt e1 ?_ ?_ <;> intro aH h9 e1
  ·have f := ms f e1
   exact rt [.tmp 4] f
  simp [i1, ZB]
  refine rpS ?_
  refine cFt e1 ?_ ?_ <;> intro k11 dY e1
  ·have f := ms f e1
   exact rt [.tmp 4] f
  simp [i1, ZB]
  refine rpS ?_
  refine cFt e1 ?_ ?_ <;> intro k12 aI e1
  ·have f := ms f e1
   exact rt [.tmp 4] f
  simp [i1, ZB]
  refine rpS ?_
  refine cFt e1 ?_ ?_ <;> intro k13 h12 e1
  ·have f := ms f e1
   exact rt [.tmp 4] f
  simp [i1, ZB]
  refine rpS ?_
  refine cFt e1 ?_ ?_ <;> intro k14 h13 e1
  ·have f := ms f e1
   exact rt [.tmp 4] f
  simp [i1, ZB]
  refine rpS ?_
  refine cFt e1 ?_ ?_ <;> intro k15 h14 e1
  ·have f := ms f e1
   exact rt [.tmp 4] f
  simp [i1, ZB]
  refine rpS ?_
  refine cFt e1 ?_ ?_ <;> intro k16 h15 e1
  ·have f := ms f e1
   exact rt [.tmp 4] f
  simp [i1, ZB]
  refine rpS ?_
  refine cRs (HV (nth a0 U).ZJ.ZL (W ((W ((W ((W ((W ((W ((W ((W ((W ((Zr (nth a0 U).Doc.Zk (Z3 (nth a0 U).Doc.ZU (W ((W ((W (J + 1)) + 1)) + 1)))) + 1)) + 1)) + 1)) + 1)) + 1)) + 1)) + 1)) + 1)) + 1))) ?_ (iq := by first | (simp; done) | (simp [W, w1]; done))
  refine cFt e1 ?_ ?_ <;> intro k17 h16 e1
  ·have f := ms f e1
   exact rt [.tmp 4] f
  simp [i1, ZB]
  refine rpS ?_
  refine cRs (N5 (nth a0 U).ZJ.Zf (Jg (nth a0 U).ZJ.ZL (W ((W ((W ((W ((W ((W ((W ((W ((W ((Zr (nth a0 U).Doc.Zk (Z3 (nth a0 U).Doc.ZU (W ((W ((W (J + 1)) + 1)) + 1)))) + 1)) + 1)) + 1)) + 1)) + 1)) + 1)) + 1)) + 1)) + 1)))) ?_ (iq := by first | (simp; done) | (simp [W, w1]; done))
  refine cF e1 ?_ ?_ <;> intro k18 h17 e1
  ·have f := ms f e1
   exact rt [.tmp 4] f
  exact ny2 w1 e1
 have f := ms f e1
 exact rt [.tmp 4] f
theorem Nr (a0 : List ZC) (a1 : Int) : Sa 42 [rL 2 ZC.row a0, rI a1] [rI (X9 a0 a1)] := by
 have f := me (X9.eq_1 a0 a1)
 refine so func42 ntmps42 ?_
 refine lp2 (qF.eq_2 a0) (fun J U => YT 31 [eL 0 2 a0 ZC.row, eI 1 J, eI 5 (U : Int)]) (fun n1 J U => a0.length < n1 + U /\ U <= a0.length) (a0.length + 1) a1 0 (fun p1 J U e1 j1 => ?_)
 refine cFf e1 ?_ ?_ <;> intro k2 h1 e1
 ·have i1 := ix h1
  have m2 := ml a0 (k2 0 _ rfl)
  have w1 := wr U
  simp [i1, ZB]
  refine rpS ?_
  refine cFt e1 ?_ ?_ <;> intro k3 h2 e1
  ·have f := ms f e1
   exact rt [.tmp 4] f
  simp [i1, ZB]
  refine rpS ?_
  refine cRs (ED (nth a0 U).ZD (W (J + 1))) ?_ (iq := by first | (simp; done) | (simp [W, w1]; done))
  refine cF e1 ?_ ?_ <;> intro k4 h3 e1
  ·have f := ms f e1
   exact rt [.tmp 4] f
  exact ny2 w1 e1
 have f := ms f e1
 exact rt [.tmp 4] f
theorem PW (a0 : ZH) (a1 : Int) : Sa 14 [a0.row, rI a1] [rI (yS a0 a1)] := by
 have f := me (yS.eq_1 a0 a1)
 refine so func14 ntmps14 ?_
 refine cRs (G8 a0.Frame a1) ?_
 refine cF f ?_ ?_ <;> intro k1 h1 f
 ·exact rt [.tmp 4] f
 refine cRs (Gd a0.ZN (Xu a0.Frame a1)) ?_
 refine cF f ?_ ?_ <;> intro k2 h2 f
 ·exact rt [.tmp 4] f
 refine cRs (y5 a0.Zl (QJ a0.ZN (Xu a0.Frame a1))) ?_
 refine cF f ?_ ?_ <;> intro k3 h3 f
 ·exact rt [.tmp 4] f
 refine cRs (Nr a0.ZA (Zr a0.Zl (QJ a0.ZN (Xu a0.Frame a1)))) ?_
 refine cF f ?_ ?_ <;> intro k4 h4 f
 ·exact rt [.tmp 4] f
 refine cRs (y5 a0.YX (X9 a0.ZA (Zr a0.Zl (QJ a0.ZN (Xu a0.Frame a1))))) ?_
 refine cF f ?_ ?_ <;> intro k5 h5 f
 ·exact rt [.tmp 4] f
 refine cRs (y5 a0.YJ (Zr a0.YX (X9 a0.ZA (Zr a0.Zl (QJ a0.ZN (Xu a0.Frame a1)))))) ?_
 refine cF f ?_ ?_ <;> intro k6 h6 f
 ·exact rt [.tmp 4] f
 refine cRs (y5 a0.Z4 (Zr a0.YJ (Zr a0.YX (X9 a0.ZA (Zr a0.Zl (QJ a0.ZN (Xu a0.Frame a1))))))) ?_
 refine cF f ?_ ?_ <;> intro k7 h7 f
 ·exact rt [.tmp 4] f
 exact rt [.tmp 4] f
end Go.Proofs.YtngnbcmfckmklaaGreat
