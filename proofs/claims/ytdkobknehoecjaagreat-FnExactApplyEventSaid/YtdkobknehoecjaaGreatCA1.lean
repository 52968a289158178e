/- Contracts of the functions GQ the abstract machine, part A1. No condition. -/
import Derived.Test.YtdkobknehoecjaaGreatL
import Derived.Test.YtdkobknehoecjaaGreatTy
namespace Go.Proofs.YtdkobknehoecjaaGreat
open Tryz
open Go.Vm Go.Mo
set_option maxHeartbeats 1000000
set_option maxRecDepth 100000
set_option linter.unusedSimpArgs false
set_option linter.unusedVariables false
theorem B2 (a0 : List YR) (a1 : Int) : Sa 69 [rL 5 YR.row a0, rI a1] [rI (JL a0 a1)] := by
 have f := me (JL.eq_1 a0 a1)
 refine so func69 ntmps69 ?_
 refine cF f ?_ ?_ <;> intro k1 h1 f
 ·exact rt [.tmp 4] f
 exact rt [.tmp 4] f
theorem OZ (a0 : List ZQ) (a1 : Int) : Sa 70 [rL 3 ZQ.row a0, rI a1] [rI (Xg a0 a1)] := by
 have f := me (Xg.eq_1 a0 a1)
 refine so func70 ntmps70 ?_
 refine cF f ?_ ?_ <;> intro k1 h1 f
 ·exact rt [.tmp 4] f
 exact rt [.tmp 4] f
theorem GO (a0 : List Zf) (a1 : Int) : Sa 71 [rL 4 Zf.row a0, rI a1] [rI (z8 a0 a1)] := by
 have f := me (z8.eq_1 a0 a1)
 refine so func71 ntmps71 ?_
 refine cF f ?_ ?_ <;> intro k1 h1 f
 ·exact rt [.tmp 4] f
 exact rt [.tmp 4] f
theorem CA (a0 : Z8) (a1 : Int) : Sa 22 [a0.row, rI a1] [rI (YJ a0 a1)] := by
 have f := me (YJ.eq_1 a0 a1)
 refine so func22 ntmps22 ?_
 refine cRs (B2 a0.Zq a1) ?_
 refine cF f ?_ ?_ <;> intro k1 h1 f
 ·exact rt [.tmp 4] f
 refine cRs (OZ a0.ZG (JL a0.Zq a1)) ?_
 refine cF f ?_ ?_ <;> intro k2 h2 f
 ·exact rt [.tmp 4] f
 refine cRs (GO a0.Methods (Xg a0.ZG (JL a0.Zq a1))) ?_
 refine cF f ?_ ?_ <;> intro k3 h3 f
 ·exact rt [.tmp 4] f
 exact rt [.tmp 4] f
theorem CG (a0 : List Z1) (a1 : Int) : Sa 23 [rL 7 Z1.row a0, rI a1] [rI (Yl a0 a1)] := by
 have f := me (Yl.eq_1 a0 a1)
 refine so func23 ntmps23 ?_
 refine cF f ?_ ?_ <;> intro k1 h1 f
 ·exact rt [.tmp 4] f
 exact rt [.tmp 4] f
theorem xV (a0 : List Int) (a1 : Int) : Sa 24 [rL 1 iR a0, rI a1] [rI (Zy a0 a1)] := by
 have f := me (Zy.eq_1 a0 a1)
 refine so func24 ntmps24 ?_
 refine cF f ?_ ?_ <;> intro k1 h1 f
 ·exact rt [.tmp 4] f
 exact rt [.tmp 4] f
theorem GJ (a0 : List ByteArray) (a1 : Int) : Sa 73 [rL 1 sR a0, rI a1] [rI (Qo a0 a1)] := by
 have f := me (Qo.eq_1 a0 a1)
 refine so func73 ntmps73 ?_
 refine cF f ?_ ?_ <;> intro k1 h1 f
 ·exact rt [.tmp 4] f
 refine lp2 (qM.eq_2 a0) (fun J U => YX 28 [eL 0 1 a0 sR, eI 1 J, eI 5 (U : Int)]) (fun n1 J U => a0.length < n1 + U /\ U <= a0.length) (a0.length + 1) (W (a1 - (a0.length : Int))) 0 (fun p1 J U e1 j1 => ?_)
 refine cFf e1 ?_ ?_ <;> intro k3 h2 e1
 ·have i1 := ix h2
  have m2 := ml a0 (k3 0 _ rfl)
  have w1 := wr U
  simp [i1, ZE]
  refine rpS ?_
  refine cF e1 ?_ ?_ <;> intro k4 h3 e1
  ·have f := ms f e1
   exact rt [.tmp 4] f
  exact ny2 w1 e1
 have f := ms f e1
 exact rt [.tmp 4] f
theorem SF (a0 : ZV) (a1 : Int) : Sa 26 [a0.row, rI a1] [rI (Yq a0 a1)] := by
 have f := me (Yq.eq_1 a0 a1)
 refine so func26 ntmps26 ?_
 refine cRs (GJ a0.ZN a1) ?_
 refine cF f ?_ ?_ <;> intro k1 h1 f
 ·exact rt [.tmp 4] f
 refine cRs (xV a0.ZR (Qo a0.ZN a1)) ?_
 refine cF f ?_ ?_ <;> intro k2 h2 f
 ·exact rt [.tmp 4] f
 exact rt [.tmp 4] f
theorem Dt (a0 : ZO) (a1 : Int) : Sa 289 [a0.row, rI a1] [rI (jE a0 a1)] := by
 have f := me (jE.eq_1 a0 a1)
 refine so func289 ntmps289 ?_
 refine cRs (xV a0.YP a1) ?_
 refine cF f ?_ ?_ <;> intro k1 h1 f
 ·exact rt [.tmp 4] f
 exact rt [.tmp 4] f
theorem Fi (a0 : List ZO) (a1 : Int) : Sa 279 [rL 3 ZO.row a0, rI a1] [rI (Je a0 a1)] := by
 have f := me (Je.eq_1 a0 a1)
 refine so func279 ntmps279 ?_
 refine cF f ?_ ?_ <;> intro k1 h1 f
 ·exact rt [.tmp 4] f
 refine lp2 (jn.eq_2 a0) (fun J U => YX 27 [eL 0 3 a0 ZO.row, eI 1 J, eI 5 (U : Int)]) (fun n1 J U => a0.length < n1 + U /\ U <= a0.length) (a0.length + 1) (W (a1 - (a0.length : Int))) 0 (fun p1 J U e1 j1 => ?_)
 refine cFf e1 ?_ ?_ <;> intro k3 h2 e1
 ·have i1 := ix h2
  have m2 := ml a0 (k3 0 _ rfl)
  have w1 := wr U
  simp [i1, ZE]
  refine rpS ?_
  refine cRs (Dt (nth a0 U) J) ?_
  refine cF e1 ?_ ?_ <;> intro k4 h3 e1
  ·have f := ms f e1
   exact rt [.tmp 4] f
  exact ny2 w1 e1
 have f := ms f e1
 exact rt [.tmp 4] f
theorem C5 (a0 : List Zv) (a1 : Int) : Sa 295 [rL 2 Zv.row a0, rI a1] [rI (KD a0 a1)] := by
 have f := me (KD.eq_1 a0 a1)
 refine so func295 ntmps295 ?_
 refine cF f ?_ ?_ <;> intro k1 h1 f
 ·exact rt [.tmp 4] f
 exact rt [.tmp 4] f
theorem F4 (a0 : List ZX) (a1 : Int) : Sa 296 [rL 5 ZX.row a0, rI a1] [rI (xI a0 a1)] := by
 have f := me (xI.eq_1 a0 a1)
 refine so func296 ntmps296 ?_
 refine cF f ?_ ?_ <;> intro k1 h1 f
 ·exact rt [.tmp 4] f
 exact rt [.tmp 4] f
theorem GG (a0 : ZK) (a1 : Int) : Sa 290 [a0.row, rI a1] [rI (yD a0 a1)] := by
 have f := me (yD.eq_1 a0 a1)
 refine so func290 ntmps290 ?_
 refine cRs (C5 a0.Path a1) ?_
 refine cF f ?_ ?_ <;> intro k1 h1 f
 ·exact rt [.tmp 4] f
 refine cRs (F4 a0.YE (KD a0.Path a1)) ?_
 refine cF f ?_ ?_ <;> intro k2 h2 f
 ·exact rt [.tmp 4] f
 exact rt [.tmp 4] f
theorem IX (a0 : List ZK) (a1 : Int) : Sa 280 [rL 5 ZK.row a0, rI a1] [rI (zF a0 a1)] := by
 have f := me (zF.eq_1 a0 a1)
 refine so func280 ntmps280 ?_
 refine cF f ?_ ?_ <;> intro k1 h1 f
 ·exact rt [.tmp 4] f
 refine lp2 (xC.eq_2 a0) (fun J U => YX 27 [eL 0 5 a0 ZK.row, eI 1 J, eI 5 (U : Int)]) (fun n1 J U => a0.length < n1 + U /\ U <= a0.length) (a0.length + 1) (W (a1 - (a0.length : Int))) 0 (fun p1 J U e1 j1 => ?_)
 refine cFf e1 ?_ ?_ <;> intro k3 h2 e1
 ·have i1 := ix h2
  have m2 := ml a0 (k3 0 _ rfl)
  have w1 := wr U
  simp [i1, ZE]
  refine rpS ?_
  refine cRs (GG (nth a0 U) J) ?_
  refine cF e1 ?_ ?_ <;> intro k4 h3 e1
  ·have f := ms f e1
   exact rt [.tmp 4] f
  exact ny2 w1 e1
 have f := ms f e1
 exact rt [.tmp 4] f
theorem FU (a0 : Za) (a1 : Int) : Sa 261 [a0.row, rI a1] [rI (zT a0 a1)] := by
 have f := me (zT.eq_1 a0 a1)
 refine so func261 ntmps261 ?_
 refine cRs (Fi a0.ZL a1) ?_
 refine cF f ?_ ?_ <;> intro k1 h1 f
 ·exact rt [.tmp 4] f
 refine cRs (IX a0.Zd (Je a0.ZL a1)) ?_
 refine cF f ?_ ?_ <;> intro k2 h2 f
 ·exact rt [.tmp 4] f
 exact rt [.tmp 4] f
theorem Bc (a0 : ZM) (a1 : Int) : Sa 216 [a0.row, rI a1] [rI (kv a0 a1)] := by
 have f := me (kv.eq_1 a0 a1)
 refine so func216 ntmps216 ?_
 refine cRs (SF a0.Doc a1) ?_
 refine cF f ?_ ?_ <;> intro k1 h1 f
 ·exact rt [.tmp 4] f
 refine cRs (FU a0.ZI (Yq a0.Doc a1)) ?_
 refine cF f ?_ ?_ <;> intro k2 h2 f
 ·exact rt [.tmp 4] f
 exact rt [.tmp 4] f
theorem C0 (a0 : List ZM) (a1 : Int) : Sa 146 [rL 16 ZM.row a0, rI a1] [rI (qv a0 a1)] := by
 have f := me (qv.eq_1 a0 a1)
 refine so func146 ntmps146 ?_
 refine cF f ?_ ?_ <;> intro k1 h1 f
 ·exact rt [.tmp 4] f
 refine lp2 (ks.eq_2 a0) (fun J U => YX 27 [eL 0 16 a0 ZM.row, eI 1 J, eI 5 (U : Int)]) (fun n1 J U => a0.length < n1 + U /\ U <= a0.length) (a0.length + 1) (W (a1 - (a0.length : Int))) 0 (fun p1 J U e1 j1 => ?_)
 refine cFf e1 ?_ ?_ <;> intro k3 h2 e1
 ·have i1 := ix h2
  have m2 := ml a0 (k3 0 _ rfl)
  have w1 := wr U
  simp [i1, ZE]
  refine rpS ?_
  refine cRs (Bc (nth a0 U) J) ?_
  refine cF e1 ?_ ?_ <;> intro k4 h3 e1
  ·have f := ms f e1
   exact rt [.tmp 4] f
  exact ny2 w1 e1
 have f := ms f e1
 exact rt [.tmp 4] f
theorem H0 (a0 : ZD) (a1 : Int) : Sa 72 [a0.row, rI a1] [rI (z5 a0 a1)] := by
 have f := me (z5.eq_1 a0 a1)
 refine so func72 ntmps72 ?_
 refine cRs (C0 a0.ZF a1) ?_
 refine cF f ?_ ?_ <;> intro k1 h1 f
 ·exact rt [.tmp 4] f
 exact rt [.tmp 4] f
theorem IV (a0 : List ZD) (a1 : Int) : Sa 25 [rL 2 ZD.row a0, rI a1] [rI (Yo a0 a1)] := by
 have f := me (Yo.eq_1 a0 a1)
 refine so func25 ntmps25 ?_
 refine cF f ?_ ?_ <;> intro k1 h1 f
 ·exact rt [.tmp 4] f
 refine lp2 (xU.eq_2 a0) (fun J U => YX 27 [eL 0 2 a0 ZD.row, eI 1 J, eI 5 (U : Int)]) (fun n1 J U => a0.length < n1 + U /\ U <= a0.length) (a0.length + 1) (W (a1 - (a0.length : Int))) 0 (fun p1 J U e1 j1 => ?_)
 refine cFf e1 ?_ ?_ <;> intro k3 h2 e1
 ·have i1 := ix h2
  have m2 := ml a0 (k3 0 _ rfl)
  have w1 := wr U
  simp [i1, ZE]
  refine rpS ?_
  refine cRs (H0 (nth a0 U) J) ?_
  refine cF e1 ?_ ?_ <;> intro k4 h3 e1
  ·have f := ms f e1
   exact rt [.tmp 4] f
  exact ny2 w1 e1
 have f := ms f e1
 exact rt [.tmp 4] f
theorem Cq (a0 : ZJ) (a1 : Int) : Sa 5 [a0.row, rI a1] [rI (KB a0 a1)] := by
 have f := me (KB.eq_1 a0 a1)
 refine so func5 ntmps5 ?_
 refine cRs (CA a0.Frame a1) ?_
 refine cF f ?_ ?_ <;> intro k1 h1 f
 ·exact rt [.tmp 4] f
 refine cRs (CG a0.ZS (YJ a0.Frame a1)) ?_
 refine cF f ?_ ?_ <;> intro k2 h2 f
 ·exact rt [.tmp 4] f
 refine cRs (xV a0.Zr (Yl a0.ZS (YJ a0.Frame a1))) ?_
 refine cF f ?_ ?_ <;> intro k3 h3 f
 ·exact rt [.tmp 4] f
 refine cRs (IV a0.ZA (Zy a0.Zr (Yl a0.ZS (YJ a0.Frame a1)))) ?_
 refine cF f ?_ ?_ <;> intro k4 h4 f
 ·exact rt [.tmp 4] f
 refine cRs (xV a0.Ym (Yo a0.ZA (Zy a0.Zr (Yl a0.ZS (YJ a0.Frame a1))))) ?_
 refine cF f ?_ ?_ <;> intro k5 h5 f
 ·exact rt [.tmp 4] f
 refine cRs (xV a0.YW (Zy a0.Ym (Yo a0.ZA (Zy a0.Zr (Yl a0.ZS (YJ a0.Frame a1)))))) ?_
 refine cF f ?_ ?_ <;> intro k6 h6 f
 ·exact rt [.tmp 4] f
 refine cRs (xV a0.YN (Zy a0.YW (Zy a0.Ym (Yo a0.ZA (Zy a0.Zr (Yl a0.ZS (YJ a0.Frame a1))))))) ?_
 refine cF f ?_ ?_ <;> intro k7 h7 f
 ·exact rt [.tmp 4] f
 exact rt [.tmp 4] f
theorem CL (a0 : Yu) (a1 : Int) : Sa 6 [a0.row, rI a1] [rI (jB a0 a1)] := by
 have f := me (jB.eq_1 a0 a1)
 refine so func6 ntmps6 ?_
 refine cRs (SF a0.Doc a1) ?_
 refine cF f ?_ ?_ <;> intro k1 h1 f
 ·exact rt [.tmp 4] f
 refine cRs (xV a0.Ids (Yq a0.Doc a1)) ?_
 refine cF f ?_ ?_ <;> intro k2 h2 f
 ·exact rt [.tmp 4] f
 exact rt [.tmp 4] f
theorem wv (a0 : YR) : Sa 174 [a0.row] [(Iu a0).row] := by
 have f := me (Iu.eq_1 a0)
 refine so func174 ntmps174 ?_
 exact rt [.cell 2 106] f
theorem Ag (a0 : YR) : Sa 174 [a0.row] [a0.row] := by
  have h := wv a0
  rwa [Q9] at h
theorem AZ (a0 : List YR) (u0 : Sm 2338816 a0) : Sd 102 [rL 5 YR.row a0] [rL 5 YR.row (GL a0)] := by
 have f := me (GL.eq_1 a0)
 have c1 := sl 2338816 a0 u0
 refine soD func102 ntmps102 ?_
 refine lp2 (Td.eq_2 a0) (fun J U => YX 23 [eL 0 5 a0 YR.row, (3, .one (.sref 7 0 0 U.length), []), eI 4 (J : Int), (7, .any, [.arr false 5 (U.map YR.row)])]) (fun n1 J U => a0.length < n1 + J /\ J <= a0.length /\ U.length = a0.length) (a0.length + 1) 0 (List.replicate a0.length (YR.mk 0 0 0 0 0)) (fun p1 J U e1 j1 => ?_)
 refine cFf e1 ?_ ?_ <;> intro k2 h1 e1
 ·have i1 := ix h1
  have m2 := ml a0 (k2 0 _ rfl)
  have w1 := wr J
  simp [i1, ZE]
  refine rpS ?_
  refine cR (Ag (nth a0 J)) ?_
  have i2 := ik J U
  simp [i2, ZE, YV (x := (nth a0 J)) rfl]
  refine rpS ?_
  exact ny2 w1 e1
 have f := ms f e1
 exact rtD [.tmp 2] f
theorem D4 (a0 : List YR) (u0 : Sm 2338816 a0) : Sd 102 [rL 5 YR.row a0] [rL 5 YR.row a0] := by
  have h := AZ a0 u0
  rwa [QV] at h
theorem N2 (a0 : ZQ) : Sa 175 [a0.row] [(kZ a0).row] := by
 have f := me (kZ.eq_1 a0)
 refine so func175 ntmps175 ?_
 exact rt [.cell 2 174] f
theorem Oz (a0 : ZQ) : Sa 175 [a0.row] [a0.row] := by
  have h := N2 a0
  rwa [Y3] at h
theorem Oq (a0 : List ZQ) (u0 : Sm 2338816 a0) : Sd 103 [rL 3 ZQ.row a0] [rL 3 ZQ.row (VC a0)] := by
 have f := me (VC.eq_1 a0)
 have c1 := sl 2338816 a0 u0
 refine soD func103 ntmps103 ?_
 refine lp2 (xt.eq_2 a0) (fun J U => YX 23 [eL 0 3 a0 ZQ.row, (3, .one (.sref 7 0 0 U.length), []), eI 4 (J : Int), (7, .any, [.arr false 3 (U.map ZQ.row)])]) (fun n1 J U => a0.length < n1 + J /\ J <= a0.length /\ U.length = a0.length) (a0.length + 1) 0 (List.replicate a0.length (ZQ.mk 0 0 0)) (fun p1 J U e1 j1 => ?_)
 refine cFf e1 ?_ ?_ <;> intro k2 h1 e1
 ·have i1 := ix h1
  have m2 := ml a0 (k2 0 _ rfl)
  have w1 := wr J
  simp [i1, ZE]
  refine rpS ?_
  refine cR (Oz (nth a0 J)) ?_
  have i2 := ik J U
  simp [i2, ZE, YV (x := (nth a0 J)) rfl]
  refine rpS ?_
  exact ny2 w1 e1
 have f := ms f e1
 exact rtD [.tmp 2] f
theorem Pv (a0 : List ZQ) (u0 : Sm 2338816 a0) : Sd 103 [rL 3 ZQ.row a0] [rL 3 ZQ.row a0] := by
  have h := Oq a0 u0
  rwa [Yx] at h
theorem EX (a0 : Zf) : Sa 176 [a0.row] [(T7 a0).row] := by
 have f := me (T7.eq_1 a0)
 refine so func176 ntmps176 ?_
 exact rt [.cell 2 199] f
theorem HX (a0 : Zf) : Sa 176 [a0.row] [a0.row] := by
  have h := EX a0
  rwa [Xk] at h
theorem GH (a0 : List Zf) (u0 : Sm 2338816 a0) : Sd 104 [rL 4 Zf.row a0] [rL 4 Zf.row (Rx a0)] := by
 have f := me (Rx.eq_1 a0)
 have c1 := sl 2338816 a0 u0
 refine soD func104 ntmps104 ?_
 refine lp2 (kc.eq_2 a0) (fun J U => YX 23 [eL 0 4 a0 Zf.row, (3, .one (.sref 7 0 0 U.length), []), eI 4 (J : Int), (7, .any, [.arr false 4 (U.map Zf.row)])]) (fun n1 J U => a0.length < n1 + J /\ J <= a0.length /\ U.length = a0.length) (a0.length + 1) 0 (List.replicate a0.length (Zf.mk 0 0 0 0)) (fun p1 J U e1 j1 => ?_)
 refine cFf e1 ?_ ?_ <;> intro k2 h1 e1
 ·have i1 := ix h1
  have m2 := ml a0 (k2 0 _ rfl)
  have w1 := wr J
  simp [i1, ZE]
  refine rpS ?_
  refine cR (HX (nth a0 J)) ?_
  have i2 := ik J U
  simp [i2, ZE, YV (x := (nth a0 J)) rfl]
  refine rpS ?_
  exact ny2 w1 e1
 have f := ms f e1
 exact rtD [.tmp 2] f
theorem Ic (a0 : List Zf) (u0 : Sm 2338816 a0) : Sd 104 [rL 4 Zf.row a0] [rL 4 Zf.row a0] := by
  have h := GH a0 u0
  rwa [XR] at h
theorem D3 (a0 : Z8) (u0 : Sm 2334720 a0) : Sd 38 [a0.row] [(PI a0).row] := by
 have f := me (PI.eq_1 a0)
 refine soD func38 ntmps38 ?_
 refine cDs [false] (D4 a0.Zq (sg (Z8.xw u0))) ?_
 refine cDs [false] (Pv a0.ZG (sg (Z8.Xo u0))) ?_
 refine cDs [false] (Ic a0.Methods (sg (Z8.G6 u0))) ?_
 exact rtD [.cell 2 43] f
theorem Ed (a0 : Z8) (u0 : Sm 2334720 a0) : Sd 38 [a0.row] [a0.row] := by
  have h := D3 a0 u0
  rwa [Xz] at h
theorem Bk (a0 : Z1) : Sa 105 [a0.row] [(NL a0).row] := by
 have f := me (NL.eq_1 a0)
 refine so func105 ntmps105 ?_
 exact rt [.cell 2 125] f
theorem Dv (a0 : Z1) : Sa 105 [a0.row] [a0.row] := by
  have h := Bk a0
  rwa [QT] at h
theorem BB (a0 : List Z1) (u0 : Sm 2338816 a0) : Sd 39 [rL 7 Z1.row a0] [rL 7 Z1.row (MD a0)] := by
 have f := me (MD.eq_1 a0)
 have c1 := sl 2338816 a0 u0
 refine soD func39 ntmps39 ?_
 refine lp2 (UB.eq_2 a0) (fun J U => YX 23 [eL 0 7 a0 Z1.row, (3, .one (.sref 7 0 0 U.length), []), eI 4 (J : Int), (7, .any, [.arr false 7 (U.map Z1.row)])]) (fun n1 J U => a0.length < n1 + J /\ J <= a0.length /\ U.length = a0.length) (a0.length + 1) 0 (List.replicate a0.length (Z1.mk 0 0 0 0 0 0 0)) (fun p1 J U e1 j1 => ?_)
 refine cFf e1 ?_ ?_ <;> intro k2 h1 e1
 ·have i1 := ix h1
  have m2 := ml a0 (k2 0 _ rfl)
  have w1 := wr J
  simp [i1, ZE]
  refine rpS ?_
  refine cR (Dv (nth a0 J)) ?_
  have i2 := ik J U
  simp [i2, ZE, YV (x := (nth a0 J)) rfl]
  refine rpS ?_
  exact ny2 w1 e1
 have f := ms f e1
 exact rtD [.tmp 2] f
theorem EW (a0 : List Z1) (u0 : Sm 2338816 a0) : Sd 39 [rL 7 Z1.row a0] [rL 7 Z1.row a0] := by
  have h := BB a0 u0
  rwa [Xw] at h
theorem Bd (a0 : List Int) (u0 : Sm 2342912 a0) : Sd 40 [rL 1 iR a0] [rL 1 iR (I9 a0)] := by
 have f := me (I9.eq_1 a0)
 have c1 := sl 2342912 a0 u0
 refine soD func40 ntmps40 ?_
 refine lp2 (T1.eq_2 a0) (fun J U => YX 22 [eL 0 1 a0 iR, (3, .one (.sref 7 0 0 U.length), []), eI 4 (J : Int), (7, .any, [.arr false 1 (U.map iR)])]) (fun n1 J U => a0.length < n1 + J /\ J <= a0.length /\ U.length = a0.length) (a0.length + 1) 0 (List.replicate a0.length 0) (fun p1 J U e1 j1 => ?_)
 refine cFf e1 ?_ ?_ <;> intro k2 h1 e1
 ·have i1 := ix h1
  have m2 := ml a0 (k2 0 _ rfl)
  have w1 := wr J
  have i2 := ik J U
  simp [i1, ZE, i2, YV (x := (nth a0 J)) rfl]
  refine rpS ?_
  exact ny2 w1 e1
 have f := ms f e1
 exact rtD [.tmp 2] f
theorem yT (a0 : List Int) (u0 : Sm 2342912 a0) : Sd 40 [rL 1 iR a0] [rL 1 iR a0] := by
  have h := Bd a0 u0
  rwa [QM] at h
theorem HY (a0 : List ByteArray) (u0 : Sm 2342912 a0) : Sd 107 [rL 1 sR a0] [rL 1 sR (Ra a0)] := by
 have f := me (Ra.eq_1 a0)
 have c1 := sl 2342912 a0 u0
 refine soD func107 ntmps107 ?_
 refine lp2 (ke.eq_2 a0) (fun J U => YX 22 [eL 0 1 a0 sR, (3, .one (.sref 7 0 0 U.length), []), eI 4 (J : Int), (7, .any, [.arr false 1 (U.map sR)])]) (fun n1 J U => a0.length < n1 + J /\ J <= a0.length /\ U.length = a0.length) (a0.length + 1) 0 (List.replicate a0.length (⟨#[]⟩ : ByteArray)) (fun p1 J U e1 j1 => ?_)
 refine cFf e1 ?_ ?_ <;> intro k2 h1 e1
 ·have i1 := ix h1
  have m2 := ml a0 (k2 0 _ rfl)
  have w1 := wr J
  have i2 := ik J U
  simp [i1, ZE, i2, YV (x := (nth a0 J)) rfl]
  refine rpS ?_
  exact ny2 w1 e1
 have f := ms f e1
 exact rtD [.tmp 2] f
theorem Lg (a0 : List ByteArray) (u0 : Sm 2342912 a0) : Sd 107 [rL 1 sR a0] [rL 1 sR a0] := by
  have h := HY a0 u0
  rwa [XU] at h
theorem Le (a0 : ZV) (u0 : Sm 2338816 a0) : Sd 42 [a0.row] [(Wf a0).row] := by
 have f := me (Wf.eq_1 a0)
 refine soD func42 ntmps42 ?_
 refine cDs [false] (Lg a0.ZN (sg (ZV.NC u0))) ?_
 refine cDs [false] (yT a0.ZR (sg (ZV.Hg u0))) ?_
 exact rtD [.cell 2 51] f
theorem U2 (a0 : ZV) (u0 : Sm 2338816 a0) : Sd 42 [a0.row] [a0.row] := by
  have h := Le a0 u0
  rwa [XE] at h
theorem Np (a0 : ZY) : Sa 267 [a0.row] [(km a0).row] := by
 have f := me (km.eq_1 a0)
 refine so func267 ntmps267 ?_
 exact rt [.cell 2 108] f
theorem NA (a0 : ZY) : Sa 267 [a0.row] [a0.row] := by
  have h := Np a0
  rwa [Y4] at h
theorem Dx (a0 : ZO) (u0 : Sm 2338816 a0) : Sd 291 [a0.row] [(R0 a0).row] := by
 have f := me (R0.eq_1 a0)
 refine soD func291 ntmps291 ?_
 refine cDs [false] (yT a0.YP (sg (ZO.vK u0))) ?_
 exact rtD [.cell 2 129] f
theorem Ez (a0 : ZO) (u0 : Sm 2338816 a0) : Sd 291 [a0.row] [a0.row] := by
  have h := Dx a0 u0
  rwa [X0] at h
theorem EC (a0 : List ZO) (u0 : Sm 2334720 a0) : Sd 283 [rL 3 ZO.row a0] [rL 3 ZO.row (OP a0)] := by
 have f := me (OP.eq_1 a0)
 refine soD func283 ntmps283 ?_
 have c1 := sl 2334720 a0 u0
 refine ra (n := a0.length) rfl rfl rfl rfl rfl rfl (by simp) (by simp) (by simp; omega) (by omega) ?_
 simp
 refine lp2 (We.eq_2 a0) (fun J U => YX 23 [eL 0 3 a0 ZO.row, (3, .one (.sref 7 0 0 U.length), []), eI 4 (J : Int), (7, .any, [.arr true 3 (U.map ZO.row)])]) (fun n1 J U => a0.length < n1 + J /\ J <= a0.length /\ U.length = a0.length) (a0.length + 1) 0 (List.replicate a0.length (ZO.mk 0 ([] : List Int) 0)) (fun p1 J U e1 j1 => ?_)
 refine cFf e1 ?_ ?_ <;> intro k2 h1 e1
 ·have i1 := ix h1
  have m2 := ml a0 (k2 0 _ rfl)
  have w1 := wr J
  simp [i1, ZE]
  refine rpS ?_
  have i2 := ik J U
  refine cDf i2 [true, false] (Ez (nth a0 J) (sg (Yf u0))) ?_
  refine Si (t := 7) (j := 0) (i := J) (size := 3) (rows := (U.map ZO.row)) (ds := (nth a0 J).row) (L := [(20, 1)]) ?_
  simp [YV (x := (nth a0 J)) rfl, i2, ZE, Zj]
  refine rpS ?_
  exact ny2 w1 e1
 have f := ms f e1
 exact rtD [.tmp 2] f
theorem GM (a0 : List ZO) (u0 : Sm 2334720 a0) : Sd 283 [rL 3 ZO.row a0] [rL 3 ZO.row a0] := by
  have h := EC a0 u0
  rwa [Xj] at h
theorem A5 (a0 : Zv) : Sa 301 [a0.row] [(NM a0).row] := by
 have f := me (NM.eq_1 a0)
 refine so func301 ntmps301 ?_
 exact rt [.cell 2 250] f
theorem Cz (a0 : Zv) : Sa 301 [a0.row] [a0.row] := by
  have h := A5 a0
  rwa [QS] at h
theorem C7 (a0 : List Zv) (u0 : Sm 2338816 a0) : Sd 297 [rL 2 Zv.row a0] [rL 2 Zv.row (ML a0)] := by
 have f := me (ML.eq_1 a0)
 have c1 := sl 2338816 a0 u0
 refine soD func297 ntmps297 ?_
 refine lp2 (Vz.eq_2 a0) (fun J U => YX 23 [eL 0 2 a0 Zv.row, (3, .one (.sref 7 0 0 U.length), []), eI 4 (J : Int), (7, .any, [.arr false 2 (U.map Zv.row)])]) (fun n1 J U => a0.length < n1 + J /\ J <= a0.length /\ U.length = a0.length) (a0.length + 1) 0 (List.replicate a0.length (Zv.mk 0 false)) (fun p1 J U e1 j1 => ?_)
 refine cFf e1 ?_ ?_ <;> intro k2 h1 e1
 ·have i1 := ix h1
  have m2 := ml a0 (k2 0 _ rfl)
  have w1 := wr J
  simp [i1, ZE]
  refine rpS ?_
  refine cR (Cz (nth a0 J)) ?_
  have i2 := ik J U
  simp [i2, ZE, YV (x := (nth a0 J)) rfl]
  refine rpS ?_
  exact ny2 w1 e1
 have f := ms f e1
 exact rtD [.tmp 2] f
theorem Es (a0 : List Zv) (u0 : Sm 2338816 a0) : Sd 297 [rL 2 Zv.row a0] [rL 2 Zv.row a0] := by
  have h := C7 a0 u0
  rwa [X3] at h
theorem Du (a0 : ZX) : Sa 302 [a0.row] [(R1 a0).row] := by
 have f := me (R1.eq_1 a0)
 refine so func302 ntmps302 ?_
 exact rt [.cell 2 144] f
theorem ES (a0 : ZX) : Sa 302 [a0.row] [a0.row] := by
  have h := Du a0
  rwa [Xx] at h
theorem Ef (a0 : List ZX) (u0 : Sm 2338816 a0) : Sd 298 [rL 5 ZX.row a0] [rL 5 ZX.row (OF a0)] := by
 have f := me (OF.eq_1 a0)
 have c1 := sl 2338816 a0 u0
 refine soD func298 ntmps298 ?_
 refine lp2 (Wr.eq_2 a0) (fun J U => YX 23 [eL 0 5 a0 ZX.row, (3, .one (.sref 7 0 0 U.length), []), eI 4 (J : Int), (7, .any, [.arr false 5 (U.map ZX.row)])]) (fun n1 J U => a0.length < n1 + J /\ J <= a0.length /\ U.length = a0.length) (a0.length + 1) 0 (List.replicate a0.length (ZX.mk 0 0 0 0 0)) (fun p1 J U e1 j1 => ?_)
 refine cFf e1 ?_ ?_ <;> intro k2 h1 e1
 ·have i1 := ix h1
  have m2 := ml a0 (k2 0 _ rfl)
  have w1 := wr J
  simp [i1, ZE]
  refine rpS ?_
  refine cR (ES (nth a0 J)) ?_
  have i2 := ik J U
  simp [i2, ZE, YV (x := (nth a0 J)) rfl]
  refine rpS ?_
  exact ny2 w1 e1
 have f := ms f e1
 exact rtD [.tmp 2] f
theorem HH (a0 : List ZX) (u0 : Sm 2338816 a0) : Sd 298 [rL 5 ZX.row a0] [rL 5 ZX.row a0] := by
  have h := Ef a0 u0
  rwa [Xl] at h
theorem GR (a0 : ZK) (u0 : Sm 2334720 a0) : Sd 292 [a0.row] [(V1 a0).row] := by
 have f := me (V1.eq_1 a0)
 refine soD func292 ntmps292 ?_
 refine cDs [false] (Es a0.Path (sg (ZK.rJ u0))) ?_
 refine cDs [false] (HH a0.YE (sg (ZK.Dg u0))) ?_
 exact rtD [.cell 2 157] f
theorem IM (a0 : ZK) (u0 : Sm 2334720 a0) : Sd 292 [a0.row] [a0.row] := by
  have h := GR a0 u0
  rwa [XT] at h
theorem Lk (a0 : List ZK) (u0 : Sm 2330624 a0) : Sd 284 [rL 5 ZK.row a0] [rL 5 ZK.row (Tk a0)] := by
 have f := me (Tk.eq_1 a0)
 refine soD func284 ntmps284 ?_
 have c1 := sl 2330624 a0 u0
 refine ra (n := a0.length) rfl rfl rfl rfl rfl rfl (by simp) (by simp) (by simp; omega) (by omega) ?_
 simp
 refine lp2 (jh.eq_2 a0) (fun J U => YX 23 [eL 0 5 a0 ZK.row, (3, .one (.sref 7 0 0 U.length), []), eI 4 (J : Int), (7, .any, [.arr true 5 (U.map ZK.row)])]) (fun n1 J U => a0.length < n1 + J /\ J <= a0.length /\ U.length = a0.length) (a0.length + 1) 0 (List.replicate a0.length (ZK.mk 0 0 0 ([] : List Zv) ([] : List ZX))) (fun p1 J U e1 j1 => ?_)
 refine cFf e1 ?_ ?_ <;> intro k2 h1 e1
 ·have i1 := ix h1
  have m2 := ml a0 (k2 0 _ rfl)
  have w1 := wr J
  simp [i1, ZE]
  refine rpS ?_
  have i2 := ik J U
  refine cDf i2 [true, true, true, false, false] (IM (nth a0 J) (sg (Yf u0))) ?_
  refine Si (t := 7) (j := 0) (i := J) (size := 5) (rows := (U.map ZK.row)) (ds := (nth a0 J).row) (L := [(20, 3), (20, 4)]) ?_
  simp [YV (x := (nth a0 J)) rfl, i2, ZE, Zj]
  refine rpS ?_
  exact ny2 w1 e1
 have f := ms f e1
 exact rtD [.tmp 2] f
theorem Nw (a0 : List ZK) (u0 : Sm 2330624 a0) : Sd 284 [rL 5 ZK.row a0] [rL 5 ZK.row a0] := by
  have h := Lk a0 u0
  rwa [XG] at h
theorem Fz (a0 : Za) (u0 : Sm 2326528 a0) : Sd 268 [a0.row] [(Tc a0).row] := by
 have f := me (Tc.eq_1 a0)
 refine soD func268 ntmps268 ?_
 refine cDs [] (GM a0.ZL (sg (Za.kB u0))) ?_
 refine cDs [] (Nw a0.Zd (sg (Za.jO u0))) ?_
 exact rtD [.cell 2 112] f
theorem Ge (a0 : Za) (u0 : Sm 2326528 a0) : Sd 268 [a0.row] [a0.row] := by
  have h := Fz a0 u0
  rwa [Xi] at h
theorem Aj (a0 : ZM) (u0 : Sm 2322432 a0) : Sd 234 [a0.row] [(Oc a0).row] := by
 have f := me (Oc.eq_1 a0)
 refine soD func234 ntmps234 ?_
 refine cDs [true, false, false] (U2 a0.Doc (sg (ZM.kH u0))) ?_
 refine cRs (NA a0.Sig) ?_
 refine cDs [] (Ge a0.ZI (sg (ZM.Jf u0))) ?_
 exact rtD [.cell 2 114] f
theorem Cj (a0 : ZM) (u0 : Sm 2322432 a0) : Sd 234 [a0.row] [a0.row] := by
  have h := Aj a0 u0
  rwa [QO] at h
theorem D2 (a0 : List ZM) (u0 : Sm 2318336 a0) : Sd 177 [rL 16 ZM.row a0] [rL 16 ZM.row (N3 a0)] := by
 have f := me (N3.eq_1 a0)
 refine soD func177 ntmps177 ?_
 have c1 := sl 2318336 a0 u0
 refine ra (n := a0.length) rfl rfl rfl rfl rfl rfl (by simp) (by simp) (by simp; omega) (by omega) ?_
 simp
 refine lp2 (V8.eq_2 a0) (fun J U => YX 23 [eL 0 16 a0 ZM.row, (3, .one (.sref 7 0 0 U.length), []), eI 4 (J : Int), (7, .any, [.arr true 16 (U.map ZM.row)])]) (fun n1 J U => a0.length < n1 + J /\ J <= a0.length /\ U.length = a0.length) (a0.length + 1) 0 (List.replicate a0.length (ZM.mk 0 0 (ZV.mk 0 ([] : List ByteArray) ([] : List Int)) (ZY.mk 0 0 0 0 0 0 0 0 0) (Za.mk ([] : List ZO) ([] : List ZK)))) (fun p1 J U e1 j1 => ?_)
 refine cFf e1 ?_ ?_ <;> intro k2 h1 e1
 ·have i1 := ix h1
  have m2 := ml a0 (k2 0 _ rfl)
  have w1 := wr J
  simp [i1, ZE]
  refine rpS ?_
  have i2 := ik J U
  refine cDf i2 [true, true, true, false, false] (Cj (nth a0 J) (sg (Yf u0))) ?_
  refine Si (t := 7) (j := 0) (i := J) (size := 16) (rows := (U.map ZM.row)) (ds := (nth a0 J).row) (L := [(20, 3), (20, 4), (20, 14), (20, 15)]) ?_
  simp [YV (x := (nth a0 J)) rfl, i2, ZE, Zj]
  refine rpS ?_
  exact ny2 w1 e1
 have f := ms f e1
 exact rtD [.tmp 2] f
theorem Fu (a0 : List ZM) (u0 : Sm 2318336 a0) : Sd 177 [rL 16 ZM.row a0] [rL 16 ZM.row a0] := by
  have h := D2 a0 u0
  rwa [X1] at h
theorem Hq (a0 : ZD) (u0 : Sm 2314240 a0) : Sd 106 [a0.row] [(Vu a0).row] := by
 have f := me (Vu.eq_1 a0)
 refine soD func106 ntmps106 ?_
 refine cDs [] (Fu a0.ZF (sg (ZD.Ys u0))) ?_
 exact rtD [.cell 2 119] f
theorem IG (a0 : ZD) (u0 : Sm 2314240 a0) : Sd 106 [a0.row] [a0.row] := by
  have h := Hq a0 u0
  rwa [XV] at h
theorem L5 (a0 : List ZD) (u0 : Sm 2310144 a0) : Sd 41 [rL 2 ZD.row a0] [rL 2 ZD.row (T3 a0)] := by
 have f := me (T3.eq_1 a0)
 refine soD func41 ntmps41 ?_
 have c1 := sl 2310144 a0 u0
 refine ra (n := a0.length) rfl rfl rfl rfl rfl rfl (by simp) (by simp) (by simp; omega) (by omega) ?_
 simp
 refine lp2 (jS.eq_2 a0) (fun J U => YX 23 [eL 0 2 a0 ZD.row, (3, .one (.sref 7 0 0 U.length), []), eI 4 (J : Int), (7, .any, [.arr true 2 (U.map ZD.row)])]) (fun n1 J U => a0.length < n1 + J /\ J <= a0.length /\ U.length = a0.length) (a0.length + 1) 0 (List.replicate a0.length (ZD.mk 0 ([] : List ZM))) (fun p1 J U e1 j1 => ?_)
 refine cFf e1 ?_ ?_ <;> intro k2 h1 e1
 ·have i1 := ix h1
  have m2 := ml a0 (k2 0 _ rfl)
  have w1 := wr J
  simp [i1, ZE]
  refine rpS ?_
  have i2 := ik J U
  refine cDf i2 [] (IG (nth a0 J) (sg (Yf u0))) ?_
  refine Si (t := 7) (j := 0) (i := J) (size := 2) (rows := (U.map ZD.row)) (ds := (nth a0 J).row) (L := [(20, 1)]) ?_
  simp [YV (x := (nth a0 J)) rfl, i2, ZE, Zj]
  refine rpS ?_
  exact ny2 w1 e1
 have f := ms f e1
 exact rtD [.tmp 2] f
theorem Ns (a0 : List ZD) (u0 : Sm 2310144 a0) : Sd 41 [rL 2 ZD.row a0] [rL 2 ZD.row a0] := by
  have h := L5 a0 u0
  rwa [XF] at h
theorem Ce (a0 : ZJ) (u0 : Sm 2306048 a0) : Sd 8 [a0.row] [(R9 a0).row] := by
 have f := me (R9.eq_1 a0)
 refine soD func8 ntmps8 ?_
 refine cDs [false, false, false] (Ed a0.Frame (sg (ZJ.Xq u0))) ?_
 refine cDs [false] (EW a0.ZS (sg (ZJ.sV u0))) ?_
 refine cDs [false] (yT a0.Zr (sg (ZJ.Bu u0))) ?_
 refine cDs [] (Ns a0.ZA (sg (ZJ.Y1 u0))) ?_
 refine cDs [false] (yT a0.Ym (sg (ZJ.vi u0))) ?_
 refine cDs [false] (yT a0.YW (sg (ZJ.Af u0))) ?_
 refine cDs [false] (yT a0.YN (sg (ZJ.MN u0))) ?_
 exact rtD [.cell 2 47] f
theorem ki (a0 : ZJ) (u0 : Sm 2306048 a0) : Sd 8 [a0.row] [a0.row] := by
  have h := Ce a0 u0
  rwa [X4] at h
theorem CV (a0 : Yu) (u0 : Sm 2334720 a0) : Sd 9 [a0.row] [(R3 a0).row] := by
 have f := me (R3.eq_1 a0)
 refine soD func9 ntmps9 ?_
 refine cDs [true, false, false] (U2 a0.Doc (sg (Yu.kH u0))) ?_
 refine cDs [false] (yT a0.Ids (sg (Yu.wU u0))) ?_
 exact rtD [.cell 2 53] f
theorem kU (a0 : Yu) (u0 : Sm 2334720 a0) : Sd 9 [a0.row] [a0.row] := by
  have h := CV a0 u0
  rwa [X2] at h
theorem wP (a0 : YR) (a1 : YR) : Sa 207 [a0.row, a1.row] [rB (PH a0 a1)] := by
 have f := me (PH.eq_1 a0 a1)
 refine so func207 ntmps207 ?_
 refine cF f ?_ ?_ <;> intro k1 h1 f
 ·exact rt [.tmp 4] f
 refine cF f ?_ ?_ <;> intro k2 h2 f
 ·exact rt [.tmp 4] f
 refine cF f ?_ ?_ <;> intro k3 h3 f
 ·exact rt [.tmp 4] f
 refine cF f ?_ ?_ <;> intro k4 h4 f
 ·exact rt [.tmp 4] f
 refine cF f ?_ ?_ <;> intro k5 h5 f
 ·exact rt [.tmp 4] f
 exact rt [.tmp 4] f
theorem Ac (a0 : List YR) (a1 : List YR) : Sa 131 [rL 5 YR.row a0, rL 5 YR.row a1] [rB (RA a0 a1)] := by
 have f := me (RA.eq_1 a0 a1)
 refine so func131 ntmps131 ?_
 refine cF f ?_ ?_ <;> intro k1 h1 f
 ·exact rt [.tmp 4] f
 refine lp1 (Tm.eq_2 a0 a1) (fun J => YX 27 [eL 0 5 a0 YR.row, eL 1 5 a1 YR.row, eI 5 (J : Int)]) (fun n1 J => a0.length < n1 + J /\ J <= a0.length) (a0.length + 1) 0 (fun p1 J e1 j1 => ?_)
 refine cF e1 ?_ ?_ <;> intro k3 h2 e1
 ·have i1 := ix h2
  have m2 := ml a0 (k3 0 _ rfl)
  have w1 := wr J
  refine dIo mixed ?_
  have i2 := ik J a1
  simp [i1, ZE, i2]
  refine rpS ?_
  refine cRs (wP (nth a0 J) (nth a1 J)) ?_
  refine cF e1 ?_ ?_ <;> intro k5 h3 e1
  ·have f := ms f e1
   exact rt [.tmp 4] f
  exact ny1 w1 e1
 have f := ms f e1
 exact rt [.tmp 4] f
theorem Mm (a0 : ZQ) (a1 : ZQ) : Sa 208 [a0.row, a1.row] [rB (yn a0 a1)] := by
 have f := me (yn.eq_1 a0 a1)
 refine so func208 ntmps208 ?_
 refine cF f ?_ ?_ <;> intro k1 h1 f
 ·exact rt [.tmp 4] f
 refine cF f ?_ ?_ <;> intro k2 h2 f
 ·exact rt [.tmp 4] f
 refine cF f ?_ ?_ <;> intro k3 h3 f
 ·exact rt [.tmp 4] f
 exact rt [.tmp 4] f
theorem Ng (a0 : List ZQ) (a1 : List ZQ) : Sa 132 [rL 3 ZQ.row a0, rL 3 ZQ.row a1] [rB (yx a0 a1)] := by
 have f := me (yx.eq_1 a0 a1)
 refine so func132 ntmps132 ?_
 refine cF f ?_ ?_ <;> intro k1 h1 f
 ·exact rt [.tmp 4] f
 refine lp1 (xq.eq_2 a0 a1) (fun J => YX 27 [eL 0 3 a0 ZQ.row, eL 1 3 a1 ZQ.row, eI 5 (J : Int)]) (fun n1 J => a0.length < n1 + J /\ J <= a0.length) (a0.length + 1) 0 (fun p1 J e1 j1 => ?_)
 refine cF e1 ?_ ?_ <;> intro k3 h2 e1
 ·have i1 := ix h2
  have m2 := ml a0 (k3 0 _ rfl)
  have w1 := wr J
  refine dIo mixed ?_
  have i2 := ik J a1
  simp [i1, ZE, i2]
  refine rpS ?_
  refine cRs (Mm (nth a0 J) (nth a1 J)) ?_
  refine cF e1 ?_ ?_ <;> intro k5 h3 e1
  ·have f := ms f e1
   exact rt [.tmp 4] f
  exact ny1 w1 e1
 have f := ms f e1
 exact rt [.tmp 4] f
theorem FR (a0 : Zf) (a1 : Zf) : Sa 209 [a0.row, a1.row] [rB (j9 a0 a1)] := by
 have f := me (j9.eq_1 a0 a1)
 refine so func209 ntmps209 ?_
 refine cF f ?_ ?_ <;> intro k1 h1 f
 ·exact rt [.tmp 4] f
 refine cF f ?_ ?_ <;> intro k2 h2 f
 ·exact rt [.tmp 4] f
 refine cF f ?_ ?_ <;> intro k3 h3 f
 ·exact rt [.tmp 4] f
 refine cF f ?_ ?_ <;> intro k4 h4 f
 ·exact rt [.tmp 4] f
 exact rt [.tmp 4] f
theorem Gt (a0 : List Zf) (a1 : List Zf) : Sa 133 [rL 4 Zf.row a0, rL 4 Zf.row a1] [rB (ky a0 a1)] := by
 have f := me (ky.eq_1 a0 a1)
 refine so func133 ntmps133 ?_
 refine cF f ?_ ?_ <;> intro k1 h1 f
 ·exact rt [.tmp 4] f
 refine lp1 (kY.eq_2 a0 a1) (fun J => YX 27 [eL 0 4 a0 Zf.row, eL 1 4 a1 Zf.row, eI 5 (J : Int)]) (fun n1 J => a0.length < n1 + J /\ J <= a0.length) (a0.length + 1) 0 (fun p1 J e1 j1 => ?_)
 refine cF e1 ?_ ?_ <;> intro k3 h2 e1
 ·have i1 := ix h2
  have m2 := ml a0 (k3 0 _ rfl)
  have w1 := wr J
  refine dIo mixed ?_
  have i2 := ik J a1
  simp [i1, ZE, i2]
  refine rpS ?_
  refine cRs (FR (nth a0 J) (nth a1 J)) ?_
  refine cF e1 ?_ ?_ <;> intro k5 h3 e1
  ·have f := ms f e1
   exact rt [.tmp 4] f
  exact ny1 w1 e1
 have f := ms f e1
 exact rt [.tmp 4] f
theorem C4 (a0 : Z8) (a1 : Z8) : Sa 54 [a0.row, a1.row] [rB (U8 a0 a1)] := by
 have f := me (U8.eq_1 a0 a1)
 refine so func54 ntmps54 ?_
 refine cRs (Ac a0.Zq a1.Zq) ?_
 refine cF f ?_ ?_ <;> intro k1 h1 f
 ·exact rt [.tmp 4] f
 refine cRs (Ng a0.ZG a1.ZG) ?_
 refine cF f ?_ ?_ <;> intro k2 h2 f
 ·exact rt [.tmp 4] f
 refine cRs (Gt a0.Methods a1.Methods) ?_
 refine cF f ?_ ?_ <;> intro k3 h3 f
 ·exact rt [.tmp 4] f
 refine cF f ?_ ?_ <;> intro k4 h4 f
 ·exact rt [.tmp 4] f
 refine cF f ?_ ?_ <;> intro k5 h5 f
 ·exact rt [.tmp 4] f
 exact rt [.tmp 4] f
theorem Am (a0 : Z1) (a1 : Z1) : Sa 134 [a0.row, a1.row] [rB (U0 a0 a1)] := by
 have f := me (U0.eq_1 a0 a1)
 refine so func134 ntmps134 ?_
 refine cF f ?_ ?_ <;> intro k1 h1 f
 ·exact rt [.tmp 4] f
 refine cF f ?_ ?_ <;> intro k2 h2 f
 ·exact rt [.tmp 4] f
 refine cF f ?_ ?_ <;> intro k3 h3 f
 ·exact rt [.tmp 4] f
 refine cF f ?_ ?_ <;> intro k4 h4 f
 ·exact rt [.tmp 4] f
 refine cF f ?_ ?_ <;> intro k5 h5 f
 ·exact rt [.tmp 4] f
 refine cF f ?_ ?_ <;> intro k6 h6 f
 ·exact rt [.tmp 4] f
 refine cF f ?_ ?_ <;> intro k7 h7 f
 ·exact rt [.tmp 4] f
 exact rt [.tmp 4] f
theorem CM (a0 : List Z1) (a1 : List Z1) : Sa 55 [rL 7 Z1.row a0, rL 7 Z1.row a1] [rB (Uy a0 a1)] := by
 have f := me (Uy.eq_1 a0 a1)
 refine so func55 ntmps55 ?_
 refine cF f ?_ ?_ <;> intro k1 h1 f
 ·exact rt [.tmp 4] f
 refine lp1 (V7.eq_2 a0 a1) (fun J => YX 27 [eL 0 7 a0 Z1.row, eL 1 7 a1 Z1.row, eI 5 (J : Int)]) (fun n1 J => a0.length < n1 + J /\ J <= a0.length) (a0.length + 1) 0 (fun p1 J e1 j1 => ?_)
 refine cF e1 ?_ ?_ <;> intro k3 h2 e1
 ·have i1 := ix h2
  have m2 := ml a0 (k3 0 _ rfl)
  have w1 := wr J
  refine dIo mixed ?_
  have i2 := ik J a1
  simp [i1, ZE, i2]
  refine rpS ?_
  refine cRs (Am (nth a0 J) (nth a1 J)) ?_
  refine cF e1 ?_ ?_ <;> intro k5 h3 e1
  ·have f := ms f e1
   exact rt [.tmp 4] f
  exact ny1 w1 e1
 have f := ms f e1
 exact rt [.tmp 4] f
theorem xD (a0 : List Int) (a1 : List Int) : Sa 56 [rL 1 iR a0, rL 1 iR a1] [rB (xX a0 a1)] := by
 have f := me (xX.eq_1 a0 a1)
 refine so func56 ntmps56 ?_
 refine cF f ?_ ?_ <;> intro k1 h1 f
 ·exact rt [.tmp 4] f
 refine lp1 (T4.eq_2 a0 a1) (fun J => YX 26 [eL 0 1 a0 iR, eL 1 1 a1 iR, eI 5 (J : Int)]) (fun n1 J => a0.length < n1 + J /\ J <= a0.length) (a0.length + 1) 0 (fun p1 J e1 j1 => ?_)
 refine cF e1 ?_ ?_ <;> intro k3 h2 e1
 ·have i1 := ix h2
  have m2 := ml a0 (k3 0 _ rfl)
  have w1 := wr J
  refine dIo mixed ?_
  have i2 := ik J a1
  simp [i1, ZE, i2]
  refine rpS ?_
  refine cF e1 ?_ ?_ <;> intro k5 h3 e1
  ·have f := ms f e1
   exact rt [.tmp 4] f
  exact ny1 w1 e1
 have f := ms f e1
 exact rt [.tmp 4] f
theorem FB (a0 : List ByteArray) (a1 : List ByteArray) : Sa 136 [rL 1 sR a0, rL 1 sR a1] [rB (WC a0 a1)] := by
 have f := me (WC.eq_1 a0 a1)
 refine so func136 ntmps136 ?_
 refine cF f ?_ ?_ <;> intro k1 h1 f
 ·exact rt [.tmp 4] f
 refine lp1 (kh.eq_2 a0 a1) (fun J => YX 26 [eL 0 1 a0 sR, eL 1 1 a1 sR, eI 5 (J : Int)]) (fun n1 J => a0.length < n1 + J /\ J <= a0.length) (a0.length + 1) 0 (fun p1 J e1 j1 => ?_)
 refine cF e1 ?_ ?_ <;> intro k3 h2 e1
 ·have i1 := ix h2
  have m2 := ml a0 (k3 0 _ rfl)
  have w1 := wr J
  refine dIo mixed ?_
  have i2 := ik J a1
  simp [i1, ZE, i2]
  refine rpS ?_
  refine cF e1 ?_ ?_ <;> intro k5 h3 e1
  ·have f := ms f e1
   exact rt [.tmp 4] f
  exact ny1 w1 e1
 have f := ms f e1
 exact rt [.tmp 4] f
theorem SQ (a0 : ZV) (a1 : ZV) : Sa 58 [a0.row, a1.row] [rB (qD a0 a1)] := by
 have f := me (qD.eq_1 a0 a1)
 refine so func58 ntmps58 ?_
 refine cF f ?_ ?_ <;> intro k1 h1 f
 ·exact rt [.tmp 4] f
 refine cRs (FB a0.ZN a1.ZN) ?_
 refine cF f ?_ ?_ <;> intro k2 h2 f
 ·exact rt [.tmp 4] f
 refine cRs (xD a0.ZR a1.ZR) ?_
 refine cF f ?_ ?_ <;> intro k3 h3 f
 ·exact rt [.tmp 4] f
 exact rt [.tmp 4] f
theorem Nr (a0 : ZY) (a1 : ZY) : Sa 277 [a0.row, a1.row] [rB (qG a0 a1)] := by
 have f := me (qG.eq_1 a0 a1)
 refine so func277 ntmps277 ?_
 refine cF f ?_ ?_ <;> intro k1 h1 f
 ·exact rt [.tmp 4] f
 refine cF f ?_ ?_ <;> intro k2 h2 f
 ·exact rt [.tmp 4] f
 refine cF f ?_ ?_ <;> intro k3 h3 f
 ·exact rt [.tmp 4] f
 refine cF f ?_ ?_ <;> intro k4 h4 f
 ·exact rt [.tmp 4] f
 refine cF f ?_ ?_ <;> intro k5 h5 f
 ·exact rt [.tmp 4] f
 refine cF f ?_ ?_ <;> intro k6 h6 f
 ·exact rt [.tmp 4] f
 refine cF f ?_ ?_ <;> intro k7 h7 f
 ·exact rt [.tmp 4] f
 refine cF f ?_ ?_ <;> intro k8 h8 f
 ·exact rt [.tmp 4] f
 refine cF f ?_ ?_ <;> intro k9 h9 f
 ·exact rt [.tmp 4] f
 exact rt [.tmp 4] f
theorem Cc (a0 : ZO) (a1 : ZO) : Sa 293 [a0.row, a1.row] [rB (Ww a0 a1)] := by
 have f := me (Ww.eq_1 a0 a1)
 refine so func293 ntmps293 ?_
 refine cF f ?_ ?_ <;> intro k1 h1 f
 ·exact rt [.tmp 4] f
 refine cRs (xD a0.YP a1.YP) ?_
 refine cF f ?_ ?_ <;> intro k2 h2 f
 ·exact rt [.tmp 4] f
 refine cF f ?_ ?_ <;> intro k3 h3 f
 ·exact rt [.tmp 4] f
 exact rt [.tmp 4] f
theorem FT (a0 : List ZO) (a1 : List ZO) : Sa 287 [rL 3 ZO.row a0, rL 3 ZO.row a1] [rB (W7 a0 a1)] := by
 have f := me (W7.eq_1 a0 a1)
 refine so func287 ntmps287 ?_
 refine cF f ?_ ?_ <;> intro k1 h1 f
 ·exact rt [.tmp 4] f
 refine lp1 (Wg.eq_2 a0 a1) (fun J => YX 27 [eL 0 3 a0 ZO.row, eL 1 3 a1 ZO.row, eI 5 (J : Int)]) (fun n1 J => a0.length < n1 + J /\ J <= a0.length) (a0.length + 1) 0 (fun p1 J e1 j1 => ?_)
 refine cF e1 ?_ ?_ <;> intro k3 h2 e1
 ·have i1 := ix h2
  have m2 := ml a0 (k3 0 _ rfl)
  have w1 := wr J
  refine dIo mixed ?_
  have i2 := ik J a1
  simp [i1, ZE, i2]
  refine rpS ?_
  refine cRs (Cc (nth a0 J) (nth a1 J)) ?_
  refine cF e1 ?_ ?_ <;> intro k5 h3 e1
  ·have f := ms f e1
   exact rt [.tmp 4] f
  exact ny1 w1 e1
 have f := ms f e1
 exact rt [.tmp 4] f
theorem Aq (a0 : Zv) (a1 : Zv) : Sa 303 [a0.row, a1.row] [rB (TO a0 a1)] := by
 have f := me (TO.eq_1 a0 a1)
 refine so func303 ntmps303 ?_
 refine cF f ?_ ?_ <;> intro k1 h1 f
 ·exact rt [.tmp 4] f
 refine cF f ?_ ?_ <;> intro k2 h2 f
 ·exact rt [.tmp 4] f
 exact rt [.tmp 4] f
theorem CC (a0 : List Zv) (a1 : List Zv) : Sa 299 [rL 2 Zv.row a0, rL 2 Zv.row a1] [rB (TF a0 a1)] := by
 have f := me (TF.eq_1 a0 a1)
 refine so func299 ntmps299 ?_
 refine cF f ?_ ?_ <;> intro k1 h1 f
 ·exact rt [.tmp 4] f
 refine lp1 (V6.eq_2 a0 a1) (fun J => YX 27 [eL 0 2 a0 Zv.row, eL 1 2 a1 Zv.row, eI 5 (J : Int)]) (fun n1 J => a0.length < n1 + J /\ J <= a0.length) (a0.length + 1) 0 (fun p1 J e1 j1 => ?_)
 refine cF e1 ?_ ?_ <;> intro k3 h2 e1
 ·have i1 := ix h2
  have m2 := ml a0 (k3 0 _ rfl)
  have w1 := wr J
  refine dIo mixed ?_
  have i2 := ik J a1
  simp [i1, ZE, i2]
  refine rpS ?_
  refine cRs (Aq (nth a0 J) (nth a1 J)) ?_
  refine cF e1 ?_ ?_ <;> intro k5 h3 e1
  ·have f := ms f e1
   exact rt [.tmp 4] f
  exact ny1 w1 e1
 have f := ms f e1
 exact rt [.tmp 4] f
theorem Dw (a0 : ZX) (a1 : ZX) : Sa 304 [a0.row, a1.row] [rB (Wu a0 a1)] := by
 have f := me (Wu.eq_1 a0 a1)
 refine so func304 ntmps304 ?_
 refine cF f ?_ ?_ <;> intro k1 h1 f
 ·exact rt [.tmp 4] f
 refine cF f ?_ ?_ <;> intro k2 h2 f
 ·exact rt [.tmp 4] f
 refine cF f ?_ ?_ <;> intro k3 h3 f
 ·exact rt [.tmp 4] f
 refine cF f ?_ ?_ <;> intro k4 h4 f
 ·exact rt [.tmp 4] f
 refine cF f ?_ ?_ <;> intro k5 h5 f
 ·exact rt [.tmp 4] f
 exact rt [.tmp 4] f
theorem EM (a0 : List ZX) (a1 : List ZX) : Sa 300 [rL 5 ZX.row a0, rL 5 ZX.row a1] [rB (VY a0 a1)] := by
 have f := me (VY.eq_1 a0 a1)
 refine so func300 ntmps300 ?_
 refine cF f ?_ ?_ <;> intro k1 h1 f
 ·exact rt [.tmp 4] f
 refine lp1 (WW.eq_2 a0 a1) (fun J => YX 27 [eL 0 5 a0 ZX.row, eL 1 5 a1 ZX.row, eI 5 (J : Int)]) (fun n1 J => a0.length < n1 + J /\ J <= a0.length) (a0.length + 1) 0 (fun p1 J e1 j1 => ?_)
 refine cF e1 ?_ ?_ <;> intro k3 h2 e1
 ·have i1 := ix h2
  have m2 := ml a0 (k3 0 _ rfl)
  have w1 := wr J
  refine dIo mixed ?_
  have i2 := ik J a1
  simp [i1, ZE, i2]
  refine rpS ?_
  refine cRs (Dw (nth a0 J) (nth a1 J)) ?_
  refine cF e1 ?_ ?_ <;> intro k5 h3 e1
  ·have f := ms f e1
   exact rt [.tmp 4] f
  exact ny1 w1 e1
 have f := ms f e1
 exact rt [.tmp 4] f
theorem Hl (a0 : ZK) (a1 : ZK) : Sa 294 [a0.row, a1.row] [rB (jL a0 a1)] := by
 have f := me (jL.eq_1 a0 a1)
 refine so func294 ntmps294 ?_
 refine cF f ?_ ?_ <;> intro k1 h1 f
 ·exact rt [.tmp 4] f
 refine cF f ?_ ?_ <;> intro k2 h2 f
 ·exact rt [.tmp 4] f
 refine cF f ?_ ?_ <;> intro k3 h3 f
 ·exact rt [.tmp 4] f
 refine cRs (CC a0.Path a1.Path) ?_
 refine cF f ?_ ?_ <;> intro k4 h4 f
 ·exact rt [.tmp 4] f
 refine cRs (EM a0.YE a1.YE) ?_
 refine cF f ?_ ?_ <;> intro k5 h5 f
 ·exact rt [.tmp 4] f
 exact rt [.tmp 4] f
theorem IE (a0 : List ZK) (a1 : List ZK) : Sa 288 [rL 5 ZK.row a0, rL 5 ZK.row a1] [rB (jw a0 a1)] := by
 have f := me (jw.eq_1 a0 a1)
 refine so func288 ntmps288 ?_
 refine cF f ?_ ?_ <;> intro k1 h1 f
 ·exact rt [.tmp 4] f
 refine lp1 (jm.eq_2 a0 a1) (fun J => YX 27 [eL 0 5 a0 ZK.row, eL 1 5 a1 ZK.row, eI 5 (J : Int)]) (fun n1 J => a0.length < n1 + J /\ J <= a0.length) (a0.length + 1) 0 (fun p1 J e1 j1 => ?_)
 refine cF e1 ?_ ?_ <;> intro k3 h2 e1
 ·have i1 := ix h2
  have m2 := ml a0 (k3 0 _ rfl)
  have w1 := wr J
  refine dIo mixed ?_
  have i2 := ik J a1
  simp [i1, ZE, i2]
  refine rpS ?_
  refine cRs (Hl (nth a0 J) (nth a1 J)) ?_
  refine cF e1 ?_ ?_ <;> intro k5 h3 e1
  ·have f := ms f e1
   exact rt [.tmp 4] f
  exact ny1 w1 e1
 have f := ms f e1
 exact rt [.tmp 4] f
theorem ET (a0 : Za) (a1 : Za) : Sa 278 [a0.row, a1.row] [rB (Vk a0 a1)] := by
 have f := me (Vk.eq_1 a0 a1)
 refine so func278 ntmps278 ?_
 refine cRs (FT a0.ZL a1.ZL) ?_
 refine cF f ?_ ?_ <;> intro k1 h1 f
 ·exact rt [.tmp 4] f
 refine cRs (IE a0.Zd a1.Zd) ?_
 refine cF f ?_ ?_ <;> intro k2 h2 f
 ·exact rt [.tmp 4] f
 exact rt [.tmp 4] f
theorem Aw (a0 : ZM) (a1 : ZM) : Sa 256 [a0.row, a1.row] [rB (TG a0 a1)] := by
 have f := me (TG.eq_1 a0 a1)
 refine so func256 ntmps256 ?_
 refine cF f ?_ ?_ <;> intro k1 h1 f
 ·exact rt [.tmp 4] f
 refine cF f ?_ ?_ <;> intro k2 h2 f
 ·exact rt [.tmp 4] f
 refine cRs (SQ a0.Doc a1.Doc) ?_
 refine cF f ?_ ?_ <;> intro k3 h3 f
 ·exact rt [.tmp 4] f
 refine cRs (Nr a0.Sig a1.Sig) ?_
 refine cF f ?_ ?_ <;> intro k4 h4 f
 ·exact rt [.tmp 4] f
 refine cRs (ET a0.ZI a1.ZI) ?_
 refine cF f ?_ ?_ <;> intro k5 h5 f
 ·exact rt [.tmp 4] f
 exact rt [.tmp 4] f
theorem Cs (a0 : List ZM) (a1 : List ZM) : Sa 210 [rL 16 ZM.row a0, rL 16 ZM.row a1] [rB (Uz a0 a1)] := by
 have f := me (Uz.eq_1 a0 a1)
 refine so func210 ntmps210 ?_
 refine cF f ?_ ?_ <;> intro k1 h1 f
 ·exact rt [.tmp 4] f
 refine lp1 (Vq.eq_2 a0 a1) (fun J => YX 27 [eL 0 16 a0 ZM.row, eL 1 16 a1 ZM.row, eI 5 (J : Int)]) (fun n1 J => a0.length < n1 + J /\ J <= a0.length) (a0.length + 1) 0 (fun p1 J e1 j1 => ?_)
 refine cF e1 ?_ ?_ <;> intro k3 h2 e1
 ·have i1 := ix h2
  have m2 := ml a0 (k3 0 _ rfl)
  have w1 := wr J
  refine dIo mixed ?_
  have i2 := ik J a1
  simp [i1, ZE, i2]
  refine rpS ?_
  refine cRs (Aw (nth a0 J) (nth a1 J)) ?_
  refine cF e1 ?_ ?_ <;> intro k5 h3 e1
  ·have f := ms f e1
   exact rt [.tmp 4] f
  exact ny1 w1 e1
 have f := ms f e1
 exact rt [.tmp 4] f
theorem GU (a0 : ZD) (a1 : ZD) : Sa 135 [a0.row, a1.row] [rB (qx a0 a1)] := by
 have f := me (qx.eq_1 a0 a1)
 refine so func135 ntmps135 ?_
 refine cF f ?_ ?_ <;> intro k1 h1 f
 ·exact rt [.tmp 4] f
 refine cRs (Cs a0.ZF a1.ZF) ?_
 refine cF f ?_ ?_ <;> intro k2 h2 f
 ·exact rt [.tmp 4] f
 exact rt [.tmp 4] f
theorem IJ (a0 : List ZD) (a1 : List ZD) : Sa 57 [rL 2 ZD.row a0, rL 2 ZD.row a1] [rB (jR a0 a1)] := by
 have f := me (jR.eq_1 a0 a1)
 refine so func57 ntmps57 ?_
 refine cF f ?_ ?_ <;> intro k1 h1 f
 ·exact rt [.tmp 4] f
 refine lp1 (jP.eq_2 a0 a1) (fun J => YX 27 [eL 0 2 a0 ZD.row, eL 1 2 a1 ZD.row, eI 5 (J : Int)]) (fun n1 J => a0.length < n1 + J /\ J <= a0.length) (a0.length + 1) 0 (fun p1 J e1 j1 => ?_)
 refine cF e1 ?_ ?_ <;> intro k3 h2 e1
 ·have i1 := ix h2
  have m2 := ml a0 (k3 0 _ rfl)
  have w1 := wr J
  refine dIo mixed ?_
  have i2 := ik J a1
  simp [i1, ZE, i2]
  refine rpS ?_
  refine cRs (GU (nth a0 J) (nth a1 J)) ?_
  refine cF e1 ?_ ?_ <;> intro k5 h3 e1
  ·have f := ms f e1
   exact rt [.tmp 4] f
  exact ny1 w1 e1
 have f := ms f e1
 exact rt [.tmp 4] f
theorem Ws (a0 : ZJ) (a1 : ZJ) : Sa 11 [a0.row, a1.row] [rB (jJ a0 a1)] := by
 have f := me (jJ.eq_1 a0 a1)
 refine so func11 ntmps11 ?_
 refine cRs (C4 a0.Frame a1.Frame) ?_
 refine cF f ?_ ?_ <;> intro k1 h1 f
 ·exact rt [.tmp 4] f
 refine cRs (CM a0.ZS a1.ZS) ?_
 refine cF f ?_ ?_ <;> intro k2 h2 f
 ·exact rt [.tmp 4] f
 refine cRs (xD a0.Zr a1.Zr) ?_
 refine cF f ?_ ?_ <;> intro k3 h3 f
 ·exact rt [.tmp 4] f
 refine cRs (IJ a0.ZA a1.ZA) ?_
 refine cF f ?_ ?_ <;> intro k4 h4 f
 ·exact rt [.tmp 4] f
 refine cRs (xD a0.Ym a1.Ym) ?_
 refine cF f ?_ ?_ <;> intro k5 h5 f
 ·exact rt [.tmp 4] f
 refine cRs (xD a0.YW a1.YW) ?_
 refine cF f ?_ ?_ <;> intro k6 h6 f
 ·exact rt [.tmp 4] f
 refine cF f ?_ ?_ <;> intro k7 h7 f
 ·exact rt [.tmp 4] f
 refine cRs (xD a0.YN a1.YN) ?_
 refine cF f ?_ ?_ <;> intro k8 h8 f
 ·exact rt [.tmp 4] f
 exact rt [.tmp 4] f
theorem BS (a0 : Yu) (a1 : Yu) : Sa 12 [a0.row, a1.row] [rB (TA a0 a1)] := by
 have f := me (TA.eq_1 a0 a1)
 refine so func12 ntmps12 ?_
 refine cF f ?_ ?_ <;> intro k1 h1 f
 ·exact rt [.tmp 4] f
 refine cF f ?_ ?_ <;> intro k2 h2 f
 ·exact rt [.tmp 4] f
 refine cF f ?_ ?_ <;> intro k3 h3 f
 ·exact rt [.tmp 4] f
 refine cF f ?_ ?_ <;> intro k4 h4 f
 ·exact rt [.tmp 4] f
 refine cF f ?_ ?_ <;> intro k5 h5 f
 ·exact rt [.tmp 4] f
 refine cRs (SQ a0.Doc a1.Doc) ?_
 refine cF f ?_ ?_ <;> intro k6 h6 f
 ·exact rt [.tmp 4] f
 refine cRs (xD a0.Ids a1.Ids) ?_
 refine cF f ?_ ?_ <;> intro k7 h7 f
 ·exact rt [.tmp 4] f
 exact rt [.tmp 4] f
theorem F3 (a0 : List YR) (a1 : Int) : KQ prog 137 (rL 5 YR.row a0) [rI a1] (rL 5 YR.row (XM a0 a1).1) (.int .i64 (XM a0 a1).2) := by
 refine Jg func137 rfl (by kernel_rfl) (fun v => ?_)
 simp [ntmps137]
 refine okL fun k1 => ?_
 refine SY (ι := { s : Nat × Int × Nat × (List YR) // zM s.1 s.2.1 s.2.2.1 s.2.2.2 = zM (a0.length + 1) a1 0 a0 /\ (1 <= s.1 /\ s.2.2.2.length < s.1 + s.2.2.1) }) (fun s => YX 48 [(0, .fix v (.one (.sref 0 0 0 s.1.2.2.2.length)), [.arr true 5 (s.1.2.2.2.map YR.row)]), eI 1 s.1.2.1, eI 5 (s.1.2.2.1 : Int)]) (fun s => s.1.1) ⟨((a0.length + 1), a1, 0, a0), rfl, by first | omega | (dsimp only; omega) | simp⟩ (Xf (by simp)) ?_
 rintro ⟨⟨n1, J, U, lA⟩, e1, j1⟩
 try dsimp only at e1 j1
 obtain ⟨p1, rfl⟩ : ∃ p, n1 = p + 1 := ⟨n1 - 1, by omega⟩
 simp
 refine cC (decide ((U : Int) < (lA.length : Int))) (fun k2 h1 => ?_) (fun k2 h1 => ?_)
 ·have q1 := h1; try simp at q1
  have i1 : U < lA.length := by simpa using h1
  have m2 : lA.length <= 9223372036854775807 := by simpa using k2 0 _ rfl
  have w1 : IntKind.i64.wrap ((U : Int) + 1) = (U : Int) + 1 := Zb (by omega) (by omega)
  simp [i1, ZE, Zj, List.set_set, YV (x := (YR.mk J (W (J + 1)) (W ((W (J + 1)) + 1)) (W ((W ((W (J + 1)) + 1)) + 1)) (W ((W ((W ((W (J + 1)) + 1)) + 1)) + 1)))) rfl]
  refine rpS ?_
  refine Il ⟨(p1, (W ((W ((W ((W ((W (J + 1)) + 1)) + 1)) + 1)) + 1)), (U + 1), (lA.set U (YR.mk J (W (J + 1)) (W ((W (J + 1)) + 1)) (W ((W ((W (J + 1)) + 1)) + 1)) (W ((W ((W ((W (J + 1)) + 1)) + 1)) + 1))))), ?_, ?_⟩ (by simp) (Xf (by simp [w1]))
  · rw [<- e1]; simp only [zM, h1, Y0, Yi]
  · (simp; omega)
 ·have q1 := h1; try simp at q1
  have x1 : zM (a0.length + 1) a1 0 a0 = (J, lA) := by rw [<- e1]; simp only [zM, h1, Y0, Yi]
  simp
  refine PK (rv := [.tmp 4]) rfl ?_
  have f1 := XM.eq_1 a0 a1; simp only [x1, Y0, Yi] at f1; simp [f1]
theorem PO (a0 : List ZQ) (a1 : Int) : KQ prog 138 (rL 3 ZQ.row a0) [rI a1] (rL 3 ZQ.row (Yj a0 a1).1) (.int .i64 (Yj a0 a1).2) := by
 refine Jg func138 rfl (by kernel_rfl) (fun v => ?_)
 simp [ntmps138]
 refine okL fun k1 => ?_
 refine SY (ι := { s : Nat × Int × Nat × (List ZQ) // QW s.1 s.2.1 s.2.2.1 s.2.2.2 = QW (a0.length + 1) a1 0 a0 /\ (1 <= s.1 /\ s.2.2.2.length < s.1 + s.2.2.1) }) (fun s => YX 34 [(0, .fix v (.one (.sref 0 0 0 s.1.2.2.2.length)), [.arr true 3 (s.1.2.2.2.map ZQ.row)]), eI 1 s.1.2.1, eI 5 (s.1.2.2.1 : Int)]) (fun s => s.1.1) ⟨((a0.length + 1), a1, 0, a0), rfl, by first | omega | (dsimp only; omega) | simp⟩ (Xf (by simp)) ?_
 rintro ⟨⟨n1, J, U, lA⟩, e1, j1⟩
 try dsimp only at e1 j1
 obtain ⟨p1, rfl⟩ : ∃ p, n1 = p + 1 := ⟨n1 - 1, by omega⟩
 simp
 refine cC (decide ((U : Int) < (lA.length : Int))) (fun k2 h1 => ?_) (fun k2 h1 => ?_)
 ·have q1 := h1; try simp at q1
  have i1 : U < lA.length := by simpa using h1
  have m2 : lA.length <= 9223372036854775807 := by simpa using k2 0 _ rfl
  have w1 : IntKind.i64.wrap ((U : Int) + 1) = (U : Int) + 1 := Zb (by omega) (by omega)
  simp [i1, ZE, Zj, List.set_set, YV (x := (ZQ.mk J (W (J + 1)) (W ((W (J + 1)) + 1)))) rfl]
  refine rpS ?_
  refine Il ⟨(p1, (W ((W ((W (J + 1)) + 1)) + 1)), (U + 1), (lA.set U (ZQ.mk J (W (J + 1)) (W ((W (J + 1)) + 1))))), ?_, ?_⟩ (by simp) (Xf (by simp [w1]))
  · rw [<- e1]; simp only [QW, h1, Y0, Yi]
  · (simp; omega)
 ·have q1 := h1; try simp at q1
  have x1 : QW (a0.length + 1) a1 0 a0 = (J, lA) := by rw [<- e1]; simp only [QW, h1, Y0, Yi]
  simp
  refine PK (rv := [.tmp 4]) rfl ?_
  have f1 := Yj.eq_1 a0 a1; simp only [x1, Y0, Yi] at f1; simp [f1]
theorem Mh (a0 : List Zf) (a1 : Int) : KQ prog 139 (rL 4 Zf.row a0) [rI a1] (rL 4 Zf.row (Xs a0 a1).1) (.int .i64 (Xs a0 a1).2) := by
 refine Jg func139 rfl (by kernel_rfl) (fun v => ?_)
 simp [ntmps139]
 refine okL fun k1 => ?_
 refine SY (ι := { s : Nat × Int × Nat × (List Zf) // Jj s.1 s.2.1 s.2.2.1 s.2.2.2 = Jj (a0.length + 1) a1 0 a0 /\ (1 <= s.1 /\ s.2.2.2.length < s.1 + s.2.2.1) }) (fun s => YX 41 [(0, .fix v (.one (.sref 0 0 0 s.1.2.2.2.length)), [.arr true 4 (s.1.2.2.2.map Zf.row)]), eI 1 s.1.2.1, eI 5 (s.1.2.2.1 : Int)]) (fun s => s.1.1) ⟨((a0.length + 1), a1, 0, a0), rfl, by first | omega | (dsimp only; omega) | simp⟩ (Xf (by simp)) ?_
 rintro ⟨⟨n1, J, U, lA⟩, e1, j1⟩
 try dsimp only at e1 j1
 obtain ⟨p1, rfl⟩ : ∃ p, n1 = p + 1 := ⟨n1 - 1, by omega⟩
 simp
 refine cC (decide ((U : Int) < (lA.length : Int))) (fun k2 h1 => ?_) (fun k2 h1 => ?_)
 ·have q1 := h1; try simp at q1
  have i1 : U < lA.length := by simpa using h1
  have m2 : lA.length <= 9223372036854775807 := by simpa using k2 0 _ rfl
  have w1 : IntKind.i64.wrap ((U : Int) + 1) = (U : Int) + 1 := Zb (by omega) (by omega)
  simp [i1, ZE, Zj, List.set_set, YV (x := (Zf.mk J (W (J + 1)) (W ((W (J + 1)) + 1)) (W ((W ((W (J + 1)) + 1)) + 1)))) rfl]
  refine rpS ?_
  refine Il ⟨(p1, (W ((W ((W ((W (J + 1)) + 1)) + 1)) + 1)), (U + 1), (lA.set U (Zf.mk J (W (J + 1)) (W ((W (J + 1)) + 1)) (W ((W ((W (J + 1)) + 1)) + 1))))), ?_, ?_⟩ (by simp) (Xf (by simp [w1]))
  · rw [<- e1]; simp only [Jj, h1, Y0, Yi]
  · (simp; omega)
 ·have q1 := h1; try simp at q1
  have x1 : Jj (a0.length + 1) a1 0 a0 = (J, lA) := by rw [<- e1]; simp only [Jj, h1, Y0, Yi]
  simp
  refine PK (rv := [.tmp 4]) rfl ?_
  have f1 := Xs.eq_1 a0 a1; simp only [x1, Y0, Yi] at f1; simp [f1]
theorem HR (a0 : Z8) (a1 : Int) : KQ prog 59 a0.row [rI a1] (Zu a0 a1).1.row (.int .i64 (Zu a0 a1).2) := by
 refine Jg func59 rfl (by kernel_rfl) (fun v => ?_)
 simp [ntmps59]
 refine xO (l6 := [.sref 0 0 0 a0.Zq.length]) rfl rfl rfl rfl rfl rfl rfl (F3 a0.Zq a1) (by simp) (by simp) (by simp) (by simp) (by simp) (by simp) (by simp) (by simp) (by simp) ?_
 simp
 refine xO (l6 := [.sref 0 1 0 a0.ZG.length]) rfl rfl rfl rfl rfl rfl rfl (PO a0.ZG (XM a0.Zq a1).2) (by simp) (by simp) (by simp) (by simp) (by simp) (by simp) (by simp) (by simp) (by simp) ?_
 simp
 refine xO (l6 := [.sref 0 2 0 a0.Methods.length]) rfl rfl rfl rfl rfl rfl rfl (Mh a0.Methods (Yj a0.ZG (XM a0.Zq a1).2).2) (by simp) (by simp) (by simp) (by simp) (by simp) (by simp) (by simp) (by simp) (by simp) ?_
 simp
 refine PK (rv := [.tmp 4]) rfl ?_
 have f1 := Zu.eq_1 a0 a1; simp [f1]
theorem H9 (a0 : List Z1) (a1 : Int) : KQ prog 60 (rL 7 Z1.row a0) [rI a1] (rL 7 Z1.row (YC a0 a1).1) (.int .i64 (YC a0 a1).2) := by
 refine Jg func60 rfl (by kernel_rfl) (fun v => ?_)
 simp [ntmps60]
 refine okL fun k1 => ?_
 refine SY (ι := { s : Nat × Int × Nat × (List Z1) // Ki s.1 s.2.1 s.2.2.1 s.2.2.2 = Ki (a0.length + 1) a1 0 a0 /\ (1 <= s.1 /\ s.2.2.2.length < s.1 + s.2.2.1) }) (fun s => YX 62 [(0, .fix v (.one (.sref 0 0 0 s.1.2.2.2.length)), [.arr true 7 (s.1.2.2.2.map Z1.row)]), eI 1 s.1.2.1, eI 5 (s.1.2.2.1 : Int)]) (fun s => s.1.1) ⟨((a0.length + 1), a1, 0, a0), rfl, by first | omega | (dsimp only; omega) | simp⟩ (Xf (by simp)) ?_
 rintro ⟨⟨n1, J, U, lA⟩, e1, j1⟩
 try dsimp only at e1 j1
 obtain ⟨p1, rfl⟩ : ∃ p, n1 = p + 1 := ⟨n1 - 1, by omega⟩
 simp
 refine cC (decide ((U : Int) < (lA.length : Int))) (fun k2 h1 => ?_) (fun k2 h1 => ?_)
 ·have q1 := h1; try simp at q1
  have i1 : U < lA.length := by simpa using h1
  have m2 : lA.length <= 9223372036854775807 := by simpa using k2 0 _ rfl
  have w1 : IntKind.i64.wrap ((U : Int) + 1) = (U : Int) + 1 := Zb (by omega) (by omega)
  simp [i1, ZE, Zj, List.set_set, YV (x := (Z1.mk J (W (J + 1)) (W ((W (J + 1)) + 1)) (W ((W ((W (J + 1)) + 1)) + 1)) (W ((W ((W ((W (J + 1)) + 1)) + 1)) + 1)) (W ((W ((W ((W ((W (J + 1)) + 1)) + 1)) + 1)) + 1)) (W ((W ((W ((W ((W ((W (J + 1)) + 1)) + 1)) + 1)) + 1)) + 1)))) rfl]
  refine rpS ?_
  refine Il ⟨(p1, (W ((W ((W ((W ((W ((W ((W (J + 1)) + 1)) + 1)) + 1)) + 1)) + 1)) + 1)), (U + 1), (lA.set U (Z1.mk J (W (J + 1)) (W ((W (J + 1)) + 1)) (W ((W ((W (J + 1)) + 1)) + 1)) (W ((W ((W ((W (J + 1)) + 1)) + 1)) + 1)) (W ((W ((W ((W ((W (J + 1)) + 1)) + 1)) + 1)) + 1)) (W ((W ((W ((W ((W ((W (J + 1)) + 1)) + 1)) + 1)) + 1)) + 1))))), ?_, ?_⟩ (by simp) (Xf (by simp [w1]))
  · rw [<- e1]; simp only [Ki, h1, Y0, Yi]
  · (simp; omega)
 ·have q1 := h1; try simp at q1
  have x1 : Ki (a0.length + 1) a1 0 a0 = (J, lA) := by rw [<- e1]; simp only [Ki, h1, Y0, Yi]
  simp
  refine PK (rv := [.tmp 4]) rfl ?_
  have f1 := YC.eq_1 a0 a1; simp only [x1, Y0, Yi] at f1; simp [f1]
theorem Kd (a0 : List Int) (a1 : Int) : KQ prog 61 (rL 1 iR a0) [rI a1] (rL 1 iR (ZC a0 a1).1) (.int .i64 (ZC a0 a1).2) := by
 refine Jg func61 rfl (by kernel_rfl) (fun v => ?_)
 simp [ntmps61]
 refine okL fun k1 => ?_
 refine SY (ι := { s : Nat × Int × Nat × (List Int) // zN s.1 s.2.1 s.2.2.1 s.2.2.2 = zN (a0.length + 1) a1 0 a0 /\ (1 <= s.1 /\ s.2.2.2.length < s.1 + s.2.2.1) }) (fun s => YX 19 [(0, .fix v (.one (.sref 0 0 0 s.1.2.2.2.length)), [.arr true 1 (s.1.2.2.2.map iR)]), eI 1 s.1.2.1, eI 5 (s.1.2.2.1 : Int)]) (fun s => s.1.1) ⟨((a0.length + 1), a1, 0, a0), rfl, by first | omega | (dsimp only; omega) | simp⟩ (Xf (by simp)) ?_
 rintro ⟨⟨n1, J, U, lA⟩, e1, j1⟩
 try dsimp only at e1 j1
 obtain ⟨p1, rfl⟩ : ∃ p, n1 = p + 1 := ⟨n1 - 1, by omega⟩
 simp
 refine cC (decide ((U : Int) < (lA.length : Int))) (fun k2 h1 => ?_) (fun k2 h1 => ?_)
 ·have q1 := h1; try simp at q1
  have i1 : U < lA.length := by simpa using h1
  have m2 : lA.length <= 9223372036854775807 := by simpa using k2 0 _ rfl
  have w1 : IntKind.i64.wrap ((U : Int) + 1) = (U : Int) + 1 := Zb (by omega) (by omega)
  simp [i1, ZE, YV (x := J) rfl, Zj]
  refine rpS ?_
  refine Il ⟨(p1, (W (J + 1)), (U + 1), (lA.set U J)), ?_, ?_⟩ (by simp) (Xf (by simp [w1]))
  · rw [<- e1]; simp only [zN, h1, Y0, Yi]
  · (simp; omega)
 ·have q1 := h1; try simp at q1
  have x1 : zN (a0.length + 1) a1 0 a0 = (J, lA) := by rw [<- e1]; simp only [zN, h1, Y0, Yi]
  simp
  refine PK (rv := [.tmp 4]) rfl ?_
  have f1 := ZC.eq_1 a0 a1; simp only [x1, Y0, Yi] at f1; simp [f1]
theorem PX (a0 : Int) : Sa 145 [rI a0] [rS (Qk a0)] := by
 have f := me (Qk.eq_1 a0)
 refine so func145 ntmps145 ?_
 refine cF f ?_ ?_ <;> intro k1 h1 f
 ·exact rt [.tmp 2] f
 refine lp2 (Ts.eq_2) (fun J U => YX 20 [eI 0 J, (3, .one (.d (.str U)), [])]) (fun n1 J U => (n1 = 22 \/ J.natAbs < 10 ^ (n1 - 1)) /\ U.size + n1 = 22) 22 a0 (⟨#[]⟩ : ByteArray) (fun p1 J U e1 j1 => ?_) (hI := by exact ⟨by omega, .inl rfl, rfl⟩)
 try dsimp only at j1
 refine cF e1 ?_ ?_ <;> intro k3 h2 e1
 ·refine toStr (l := ([(UInt8.ofInt (W (48 + (Int.tmod J 10))))] : List UInt8)) rfl rfl rfl (by simp) (by simp) (by simp) (by simp [xh, nF]) ?_
  simp
  refine rpS ?_
  exact nx2 e1 (hI := by (try dsimp only); obtain ⟨s1, s2⟩ := oh j1.2.1 (show (J != 0) = true by simp at h2 ⊢; omega); refine ⟨s1, s2, ?_⟩; have := j1.2.2; simp; omega)
 have f := ms f e1
 exact rt [.tmp 2] f
theorem TN (a0 : List ByteArray) (a1 : Int) : KQ prog 68 (rL 1 sR a0) [rI a1] (rL 1 sR (ZB a0 a1).1) (.int .i64 (ZB a0 a1).2) := by
 refine Jg func68 rfl (by kernel_rfl) (fun v => ?_)
 simp [ntmps68]
 refine okL fun k1 => ?_
 refine SY (ι := { s : Nat × Int × Nat × (List ByteArray) // Jh s.1 s.2.1 s.2.2.1 s.2.2.2 = Jh (a0.length + 1) a1 0 a0 /\ (1 <= s.1 /\ s.2.2.2.length < s.1 + s.2.2.1) }) (fun s => YX 20 [(0, .fix v (.one (.sref 0 0 0 s.1.2.2.2.length)), [.arr true 1 (s.1.2.2.2.map sR)]), eI 1 s.1.2.1, eI 5 (s.1.2.2.1 : Int)]) (fun s => s.1.1) ⟨((a0.length + 1), a1, 0, a0), rfl, by first | omega | (dsimp only; omega) | simp⟩ (Xf (by simp)) ?_
 rintro ⟨⟨n1, J, U, lA⟩, e1, j1⟩
 try dsimp only at e1 j1
 obtain ⟨p1, rfl⟩ : ∃ p, n1 = p + 1 := ⟨n1 - 1, by omega⟩
 simp
 refine cC (decide ((U : Int) < (lA.length : Int))) (fun k2 h1 => ?_) (fun k2 h1 => ?_)
 ·have q1 := h1; try simp at q1
  have i1 : U < lA.length := by simpa using h1
  have m2 : lA.length <= 9223372036854775807 := by simpa using k2 0 _ rfl
  have w1 : IntKind.i64.wrap ((U : Int) + 1) = (U : Int) + 1 := Zb (by omega) (by omega)
  simp
  refine cR (PX J) ?_
  simp [i1, ZE, YV (x := (Qk J)) rfl, Zj]
  refine rpS ?_
  refine Il ⟨(p1, (W (J + 1)), (U + 1), (lA.set U (Qk J))), ?_, ?_⟩ (by simp) (Xf (by simp [w1]))
  · rw [<- e1]; simp only [Jh, h1, Y0, Yi]
  · (simp; omega)
 ·have q1 := h1; try simp at q1
  have x1 : Jh (a0.length + 1) a1 0 a0 = (J, lA) := by rw [<- e1]; simp only [Jh, h1, Y0, Yi]
  simp
  refine PK (rv := [.tmp 4]) rfl ?_
  have f1 := ZB.eq_1 a0 a1; simp only [x1, Y0, Yi] at f1; simp [f1]
theorem Lc (a0 : List ZO) (a1 : Int) : KQ prog 211 (rL 3 ZO.row a0) [rI a1] (rL 3 ZO.row (Zn a0 a1).1) (.int .i64 (Zn a0 a1).2) := by
 refine Jg func211 rfl (by kernel_rfl) (fun v => ?_)
 simp [ntmps211]
 refine okL fun k1 => ?_
 refine SY (ι := { s : Nat × Int × Nat × (List ZO) // J4 s.1 s.2.1 s.2.2.1 s.2.2.2 = J4 (a0.length + 1) a1 0 a0 /\ (1 <= s.1 /\ s.2.2.2.length < s.1 + s.2.2.1) }) (fun s => YX 34 [(0, .fix v (.one (.sref 0 0 0 s.1.2.2.2.length)), [.arr true 3 (s.1.2.2.2.map ZO.row)]), eI 1 s.1.2.1, eI 5 (s.1.2.2.1 : Int)]) (fun s => s.1.1) ⟨((a0.length + 1), a1, 0, a0), rfl, by first | omega | (dsimp only; omega) | simp⟩ (Xf (by simp)) ?_
 rintro ⟨⟨n1, J, U, lA⟩, e1, j1⟩
 try dsimp only at e1 j1
 obtain ⟨p1, rfl⟩ : ∃ p, n1 = p + 1 := ⟨n1 - 1, by omega⟩
 simp
 refine cC (decide ((U : Int) < (lA.length : Int))) (fun k2 h1 => ?_) (fun k2 h1 => ?_)
 ·have q1 := h1; try simp at q1
  have i1 : U < lA.length := by simpa using h1
  have m2 : lA.length <= 9223372036854775807 := by simpa using k2 0 _ rfl
  have w1 : IntKind.i64.wrap ((U : Int) + 1) = (U : Int) + 1 := Zb (by omega) (by omega)
  simp [i1, ZE, YV (x := (ZO.mk J (nth lA U).YP (nth lA U).Mark)) rfl, Zj]
  refine rpS ?_
  refine Ro (t := 0) (j := 0) (i := U) (c := 1) (size := 3) (rows := ((lA.set U (ZO.mk J (nth lA U).YP (nth lA U).Mark)).map ZO.row)) rfl rfl rfl rfl rfl rfl rfl (Kd (nth lA U).YP (W (J + 1))) (by simp) (by simp) (by simp [m2, i1]) (by simp [ZE, Zj, m2, i1]) (by simp) (by simp) (by simp) ?_
  simp [List.set_set, ZE, Zj, m2, i1, YV (x := (ZO.mk J (ZC (nth lA U).YP (W (J + 1))).1 (ZC (nth lA U).YP (W (J + 1))).2)) rfl]
  refine rpS ?_
  refine Il ⟨(p1, (W ((ZC (nth lA U).YP (W (J + 1))).2 + 1)), (U + 1), (lA.set U (ZO.mk J (ZC (nth lA U).YP (W (J + 1))).1 (ZC (nth lA U).YP (W (J + 1))).2))), ?_, ?_⟩ (by simp) (Xf (by simp [w1]))
  · rw [<- e1]; simp only [J4, h1, Y0, Yi]
  · (simp; omega)
 ·have q1 := h1; try simp at q1
  have x1 : J4 (a0.length + 1) a1 0 a0 = (J, lA) := by rw [<- e1]; simp only [J4, h1, Y0, Yi]
  simp
  refine PK (rv := [.tmp 4]) rfl ?_
  have f1 := Zn.eq_1 a0 a1; simp only [x1, Y0, Yi] at f1; simp [f1]
theorem Gw (a0 : List Zv) (a1 : Int) : KQ prog 257 (rL 2 Zv.row a0) [rI a1] (rL 2 Zv.row (Zt a0 a1).1) (.int .i64 (Zt a0 a1).2) := by
 refine Jg func257 rfl (by kernel_rfl) (fun v => ?_)
 simp [ntmps257]
 refine okL fun k1 => ?_
 refine SY (ι := { s : Nat × Int × Nat × (List Zv) // Ke s.1 s.2.1 s.2.2.1 s.2.2.2 = Ke (a0.length + 1) a1 0 a0 /\ (1 <= s.1 /\ s.2.2.2.length < s.1 + s.2.2.1) }) (fun s => YX 29 [(0, .fix v (.one (.sref 0 0 0 s.1.2.2.2.length)), [.arr true 2 (s.1.2.2.2.map Zv.row)]), eI 1 s.1.2.1, eI 5 (s.1.2.2.1 : Int)]) (fun s => s.1.1) ⟨((a0.length + 1), a1, 0, a0), rfl, by first | omega | (dsimp only; omega) | simp⟩ (Xf (by simp)) ?_
 rintro ⟨⟨n1, J, U, lA⟩, e1, j1⟩
 try dsimp only at e1 j1
 obtain ⟨p1, rfl⟩ : ∃ p, n1 = p + 1 := ⟨n1 - 1, by omega⟩
 simp
 refine cC (decide ((U : Int) < (lA.length : Int))) (fun k2 h1 => ?_) (fun k2 h1 => ?_)
 ·have q1 := h1; try simp at q1
  have i1 : U < lA.length := by simpa using h1
  have m2 : lA.length <= 9223372036854775807 := by simpa using k2 0 _ rfl
  have w1 : IntKind.i64.wrap ((U : Int) + 1) = (U : Int) + 1 := Zb (by omega) (by omega)
  simp [i1, ZE, Zj, List.set_set, YV (x := (Zv.mk J ((Int.tmod (W (J + 1)) 3) == 0))) rfl]
  refine rpS ?_
  refine Il ⟨(p1, (W ((W (J + 1)) + 1)), (U + 1), (lA.set U (Zv.mk J ((Int.tmod (W (J + 1)) 3) == 0)))), ?_, ?_⟩ (by simp) (Xf (by simp [w1]))
  · rw [<- e1]; simp only [Ke, h1, Y0, Yi]
  · (simp; omega)
 ·have q1 := h1; try simp at q1
  have x1 : Ke (a0.length + 1) a1 0 a0 = (J, lA) := by rw [<- e1]; simp only [Ke, h1, Y0, Yi]
  simp
  refine PK (rv := [.tmp 4]) rfl ?_
  have f1 := Zt.eq_1 a0 a1; simp only [x1, Y0, Yi] at f1; simp [f1]
theorem Ld (a0 : List ZX) (a1 : Int) : KQ prog 258 (rL 5 ZX.row a0) [rI a1] (rL 5 ZX.row (Z9 a0 a1).1) (.int .i64 (Z9 a0 a1).2) := by
 refine Jg func258 rfl (by kernel_rfl) (fun v => ?_)
 simp [ntmps258]
 refine okL fun k1 => ?_
 refine SY (ι := { s : Nat × Int × Nat × (List ZX) // J7 s.1 s.2.1 s.2.2.1 s.2.2.2 = J7 (a0.length + 1) a1 0 a0 /\ (1 <= s.1 /\ s.2.2.2.length < s.1 + s.2.2.1) }) (fun s => YX 48 [(0, .fix v (.one (.sref 0 0 0 s.1.2.2.2.length)), [.arr true 5 (s.1.2.2.2.map ZX.row)]), eI 1 s.1.2.1, eI 5 (s.1.2.2.1 : Int)]) (fun s => s.1.1) ⟨((a0.length + 1), a1, 0, a0), rfl, by first | omega | (dsimp only; omega) | simp⟩ (Xf (by simp)) ?_
 rintro ⟨⟨n1, J, U, lA⟩, e1, j1⟩
 try dsimp only at e1 j1
 obtain ⟨p1, rfl⟩ : ∃ p, n1 = p + 1 := ⟨n1 - 1, by omega⟩
 simp
 refine cC (decide ((U : Int) < (lA.length : Int))) (fun k2 h1 => ?_) (fun k2 h1 => ?_)
 ·have q1 := h1; try simp at q1
  have i1 : U < lA.length := by simpa using h1
  have m2 : lA.length <= 9223372036854775807 := by simpa using k2 0 _ rfl
  have w1 : IntKind.i64.wrap ((U : Int) + 1) = (U : Int) + 1 := Zb (by omega) (by omega)
  simp [i1, ZE, Zj, List.set_set, YV (x := (ZX.mk J (W (J + 1)) (W ((W (J + 1)) + 1)) (W ((W ((W (J + 1)) + 1)) + 1)) (W ((W ((W ((W (J + 1)) + 1)) + 1)) + 1)))) rfl]
  refine rpS ?_
  refine Il ⟨(p1, (W ((W ((W ((W ((W (J + 1)) + 1)) + 1)) + 1)) + 1)), (U + 1), (lA.set U (ZX.mk J (W (J + 1)) (W ((W (J + 1)) + 1)) (W ((W ((W (J + 1)) + 1)) + 1)) (W ((W ((W ((W (J + 1)) + 1)) + 1)) + 1))))), ?_, ?_⟩ (by simp) (Xf (by simp [w1]))
  · rw [<- e1]; simp only [J7, h1, Y0, Yi]
  · (simp; omega)
 ·have q1 := h1; try simp at q1
  have x1 : J7 (a0.length + 1) a1 0 a0 = (J, lA) := by rw [<- e1]; simp only [J7, h1, Y0, Yi]
  simp
  refine PK (rv := [.tmp 4]) rfl ?_
  have f1 := Z9.eq_1 a0 a1; simp only [x1, Y0, Yi] at f1; simp [f1]
theorem NU (a0 : List ZK) (a1 : Int) : KQ prog 212 (rL 5 ZK.row a0) [rI a1] (rL 5 ZK.row (Zz a0 a1).1) (.int .i64 (Zz a0 a1).2) := by
 refine Jg func212 rfl (by kernel_rfl) (fun v => ?_)
 simp [ntmps212]
 refine okL fun k1 => ?_
 refine SY (ι := { s : Nat × Int × Nat × (List ZK) // JE s.1 s.2.1 s.2.2.1 s.2.2.2 = JE (a0.length + 1) a1 0 a0 /\ (1 <= s.1 /\ s.2.2.2.length < s.1 + s.2.2.1) }) (fun s => YX 48 [(0, .fix v (.one (.sref 0 0 0 s.1.2.2.2.length)), [.arr true 5 (s.1.2.2.2.map ZK.row)]), eI 1 s.1.2.1, eI 5 (s.1.2.2.1 : Int)]) (fun s => s.1.1) ⟨((a0.length + 1), a1, 0, a0), rfl, by first | omega | (dsimp only; omega) | simp⟩ (Xf (by simp)) ?_
 rintro ⟨⟨n1, J, U, lA⟩, e1, j1⟩
 try dsimp only at e1 j1
 obtain ⟨p1, rfl⟩ : ∃ p, n1 = p + 1 := ⟨n1 - 1, by omega⟩
 simp
 refine cC (decide ((U : Int) < (lA.length : Int))) (fun k2 h1 => ?_) (fun k2 h1 => ?_)
 ·have q1 := h1; try simp at q1
  have i1 : U < lA.length := by simpa using h1
  have m2 : lA.length <= 9223372036854775807 := by simpa using k2 0 _ rfl
  have w1 : IntKind.i64.wrap ((U : Int) + 1) = (U : Int) + 1 := Zb (by omega) (by omega)
  simp [i1, ZE, Zj, List.set_set, YV (x := (ZK.mk J (W (J + 1)) (W ((W (J + 1)) + 1)) (nth lA U).Path (nth lA U).YE)) rfl]
  refine rpS ?_
  refine Ro (t := 0) (j := 0) (i := U) (c := 3) (size := 5) (rows := ((lA.set U (ZK.mk J (W (J + 1)) (W ((W (J + 1)) + 1)) (nth lA U).Path (nth lA U).YE)).map ZK.row)) rfl rfl rfl rfl rfl rfl rfl (Gw (nth lA U).Path (W ((W ((W (J + 1)) + 1)) + 1))) (by simp) (by simp) (by simp [m2, i1]) (by simp [ZE, Zj, m2, i1]) (by simp) (by simp) (by simp) ?_
  simp [List.set_set, YV (x := (ZK.mk J (W (J + 1)) (W ((W (J + 1)) + 1)) (Zt (nth lA U).Path (W ((W ((W (J + 1)) + 1)) + 1))).1 (nth lA U).YE)) rfl, ZE, Zj, m2, i1]
  refine rpS ?_
  refine Ro (t := 0) (j := 0) (i := U) (c := 4) (size := 5) (rows := ((lA.set U (ZK.mk J (W (J + 1)) (W ((W (J + 1)) + 1)) (Zt (nth lA U).Path (W ((W ((W (J + 1)) + 1)) + 1))).1 (nth lA U).YE)).map ZK.row)) rfl rfl rfl rfl rfl rfl rfl (Ld (nth lA U).YE (Zt (nth lA U).Path (W ((W ((W (J + 1)) + 1)) + 1))).2) (by simp) (by simp) (by simp [m2, i1]) (by simp [ZE, Zj, m2, i1]) (by simp) (by simp) (by simp) ?_
  simp [List.set_set, YV (x := (ZK.mk J (W (J + 1)) (W ((W (J + 1)) + 1)) (Zt (nth lA U).Path (W ((W ((W (J + 1)) + 1)) + 1))).1 (Z9 (nth lA U).YE (Zt (nth lA U).Path (W ((W ((W (J + 1)) + 1)) + 1))).2).1)) rfl, ZE, Zj, m2, i1]
  refine rpS ?_
  refine Il ⟨(p1, (Z9 (nth lA U).YE (Zt (nth lA U).Path (W ((W ((W (J + 1)) + 1)) + 1))).2).2, (U + 1), (lA.set U (ZK.mk J (W (J + 1)) (W ((W (J + 1)) + 1)) (Zt (nth lA U).Path (W ((W ((W (J + 1)) + 1)) + 1))).1 (Z9 (nth lA U).YE (Zt (nth lA U).Path (W ((W ((W (J + 1)) + 1)) + 1))).2).1))), ?_, ?_⟩ (by simp) (Xf (by simp [w1]))
  · rw [<- e1]; simp only [JE, h1, Y0, Yi]
  · (simp; omega)
 ·have q1 := h1; try simp at q1
  have x1 : JE (a0.length + 1) a1 0 a0 = (J, lA) := by rw [<- e1]; simp only [JE, h1, Y0, Yi]
  simp
  refine PK (rv := [.tmp 4]) rfl ?_
  have f1 := Zz.eq_1 a0 a1; simp only [x1, Y0, Yi] at f1; simp [f1]
theorem GD (a0 : List ZM) (a1 : Int) : KQ prog 140 (rL 16 ZM.row a0) [rI a1] (rL 16 ZM.row (YI a0 a1).1) (.int .i64 (YI a0 a1).2) := by
 refine Jg func140 rfl (by kernel_rfl) (fun v => ?_)
 simp [ntmps140]
 refine okL fun k1 => ?_
 refine SY (ι := { s : Nat × Int × Nat × (List ZM) // Kf s.1 s.2.1 s.2.2.1 s.2.2.2 = Kf (a0.length + 1) a1 0 a0 /\ (1 <= s.1 /\ s.2.2.2.length < s.1 + s.2.2.1) }) (fun s => YX 139 [(0, .fix v (.one (.sref 0 0 0 s.1.2.2.2.length)), [.arr true 16 (s.1.2.2.2.map ZM.row)]), eI 1 s.1.2.1, eI 5 (s.1.2.2.1 : Int)]) (fun s => s.1.1) ⟨((a0.length + 1), a1, 0, a0), rfl, by first | omega | (dsimp only; omega) | simp⟩ (Xf (by simp)) ?_
 rintro ⟨⟨n1, J, U, lA⟩, e1, j1⟩
 try dsimp only at e1 j1
 obtain ⟨p1, rfl⟩ : ∃ p, n1 = p + 1 := ⟨n1 - 1, by omega⟩
 simp
 refine cC (decide ((U : Int) < (lA.length : Int))) (fun k2 h1 => ?_) (fun k2 h1 => ?_)
 ·have q1 := h1; try simp at q1
  have i1 : U < lA.length := by simpa using h1
  have m2 : lA.length <= 9223372036854775807 := by simpa using k2 0 _ rfl
  have w1 : IntKind.i64.wrap ((U : Int) + 1) = (U : Int) + 1 := Zb (by omega) (by omega)
  simp [i1, ZE, Zj, List.set_set, YV (x := (ZM.mk J (W (J + 1)) (ZV.mk (W ((W (J + 1)) + 1)) (nth lA U).Doc.ZN (nth lA U).Doc.ZR) (nth lA U).Sig (nth lA U).ZI)) rfl]
  refine rpS ?_
  refine Ro (t := 0) (j := 0) (i := U) (c := 3) (size := 16) (rows := ((lA.set U (ZM.mk J (W (J + 1)) (ZV.mk (W ((W (J + 1)) + 1)) (nth lA U).Doc.ZN (nth lA U).Doc.ZR) (nth lA U).Sig (nth lA U).ZI)).map ZM.row)) rfl rfl rfl rfl rfl rfl rfl (TN (nth lA U).Doc.ZN (W ((W ((W (J + 1)) + 1)) + 1))) (by simp) (by simp) (by simp [m2, i1]) (by simp [ZE, Zj, m2, i1]) (by simp) (by simp) (by simp) ?_
  simp [List.set_set, YV (x := (ZM.mk J (W (J + 1)) (ZV.mk (W ((W (J + 1)) + 1)) (ZB (nth lA U).Doc.ZN (W ((W ((W (J + 1)) + 1)) + 1))).1 (nth lA U).Doc.ZR) (nth lA U).Sig (nth lA U).ZI)) rfl, ZE, Zj, m2, i1]
  refine rpS ?_
  refine Ro (t := 0) (j := 0) (i := U) (c := 4) (size := 16) (rows := ((lA.set U (ZM.mk J (W (J + 1)) (ZV.mk (W ((W (J + 1)) + 1)) (ZB (nth lA U).Doc.ZN (W ((W ((W (J + 1)) + 1)) + 1))).1 (nth lA U).Doc.ZR) (nth lA U).Sig (nth lA U).ZI)).map ZM.row)) rfl rfl rfl rfl rfl rfl rfl (Kd (nth lA U).Doc.ZR (ZB (nth lA U).Doc.ZN (W ((W ((W (J + 1)) + 1)) + 1))).2) (by simp) (by simp) (by simp [m2, i1]) (by simp [ZE, Zj, m2, i1]) (by simp) (by simp) (by simp) ?_
  simp [List.set_set, ZE, Zj, m2, i1, YV (x := (ZM.mk J (W (J + 1)) (ZV.mk (W ((W (J + 1)) + 1)) (ZB (nth lA U).Doc.ZN (W ((W ((W (J + 1)) + 1)) + 1))).1 (ZC (nth lA U).Doc.ZR (ZB (nth lA U).Doc.ZN (W ((W ((W (J + 1)) + 1)) + 1))).2).1) (ZY.mk (ZC (nth lA U).Doc.ZR (ZB (nth lA U).Doc.ZN (W ((W ((W (J + 1)) + 1)) + 1))).2).2 (W ((ZC (nth lA U).Doc.ZR (ZB (nth lA U).Doc.ZN (W ((W ((W (J + 1)) + 1)) + 1))).2).2 + 1)) (W ((W ((ZC (nth lA U).Doc.ZR (ZB (nth lA U).Doc.ZN (W ((W ((W (J + 1)) + 1)) + 1))).2).2 + 1)) + 1)) (W ((W ((W ((ZC (nth lA U).Doc.ZR (ZB (nth lA U).Doc.ZN (W ((W ((W (J + 1)) + 1)) + 1))).2).2 + 1)) + 1)) + 1)) (W ((W ((W ((W ((ZC (nth lA U).Doc.ZR (ZB (nth lA U).Doc.ZN (W ((W ((W (J + 1)) + 1)) + 1))).2).2 + 1)) + 1)) + 1)) + 1)) (W ((W ((W ((W ((W ((ZC (nth lA U).Doc.ZR (ZB (nth lA U).Doc.ZN (W ((W ((W (J + 1)) + 1)) + 1))).2).2 + 1)) + 1)) + 1)) + 1)) + 1)) (W ((W ((W ((W ((W ((W ((ZC (nth lA U).Doc.ZR (ZB (nth lA U).Doc.ZN (W ((W ((W (J + 1)) + 1)) + 1))).2).2 + 1)) + 1)) + 1)) + 1)) + 1)) + 1)) (W ((W ((W ((W ((W ((W ((W ((ZC (nth lA U).Doc.ZR (ZB (nth lA U).Doc.ZN (W ((W ((W (J + 1)) + 1)) + 1))).2).2 + 1)) + 1)) + 1)) + 1)) + 1)) + 1)) + 1)) (W ((W ((W ((W ((W ((W ((W ((W ((ZC (nth lA U).Doc.ZR (ZB (nth lA U).Doc.ZN (W ((W ((W (J + 1)) + 1)) + 1))).2).2 + 1)) + 1)) + 1)) + 1)) + 1)) + 1)) + 1)) + 1))) (nth lA U).ZI)) rfl]
  refine rpS ?_
  refine Ro (t := 0) (j := 0) (i := U) (c := 14) (size := 16) (rows := ((lA.set U (ZM.mk J (W (J + 1)) (ZV.mk (W ((W (J + 1)) + 1)) (ZB (nth lA U).Doc.ZN (W ((W ((W (J + 1)) + 1)) + 1))).1 (ZC (nth lA U).Doc.ZR (ZB (nth lA U).Doc.ZN (W ((W ((W (J + 1)) + 1)) + 1))).2).1) (ZY.mk (ZC (nth lA U).Doc.ZR (ZB (nth lA U).Doc.ZN (W ((W ((W (J + 1)) + 1)) + 1))).2).2 (W ((ZC (nth lA U).Doc.ZR (ZB (nth lA U).Doc.ZN (W ((W ((W (J + 1)) + 1)) + 1))).2).2 + 1)) (W ((W ((ZC (nth lA U).Doc.ZR (ZB (nth lA U).Doc.ZN (W ((W ((W (J + 1)) + 1)) + 1))).2).2 + 1)) + 1)) (W ((W ((W ((ZC (nth lA U).Doc.ZR (ZB (nth lA U).Doc.ZN (W ((W ((W (J + 1)) + 1)) + 1))).2).2 + 1)) + 1)) + 1)) (W ((W ((W ((W ((ZC (nth lA U).Doc.ZR (ZB (nth lA U).Doc.ZN (W ((W ((W (J + 1)) + 1)) + 1))).2).2 + 1)) + 1)) + 1)) + 1)) (W ((W ((W ((W ((W ((ZC (nth lA U).Doc.ZR (ZB (nth lA U).Doc.ZN (W ((W ((W (J + 1)) + 1)) + 1))).2).2 + 1)) + 1)) + 1)) + 1)) + 1)) (W ((W ((W ((W ((W ((W ((ZC (nth lA U).Doc.ZR (ZB (nth lA U).Doc.ZN (W ((W ((W (J + 1)) + 1)) + 1))).2).2 + 1)) + 1)) + 1)) + 1)) + 1)) + 1)) (W ((W ((W ((W ((W ((W ((W ((ZC (nth lA U).Doc.ZR (ZB (nth lA U).Doc.ZN (W ((W ((W (J + 1)) + 1)) + 1))).2).2 + 1)) + 1)) + 1)) + 1)) + 1)) + 1)) + 1)) (W ((W ((W ((W ((W ((W ((W ((W ((ZC (nth lA U).Doc.ZR (ZB (nth lA U).Doc.ZN (W ((W ((W (J + 1)) + 1)) + 1))).2).2 + 1)) + 1)) + 1)) + 1)) + 1)) + 1)) + 1)) + 1))) (nth lA U).ZI)).map ZM.row)) rfl rfl rfl rfl rfl rfl rfl (Lc (nth lA U).ZI.ZL (W ((W ((W ((W ((W ((W ((W ((W ((W ((ZC (nth lA U).Doc.ZR (ZB (nth lA U).Doc.ZN (W ((W ((W (J + 1)) + 1)) + 1))).2).2 + 1)) + 1)) + 1)) + 1)) + 1)) + 1)) + 1)) + 1)) + 1))) (by simp) (by simp) (by simp [m2, i1]) (by simp [ZE, Zj, m2, i1]) (by simp) (by simp) (by simp) ?_
  simp [List.set_set, YV (x := (ZM.mk J (W (J + 1)) (ZV.mk (W ((W (J + 1)) + 1)) (ZB (nth lA U).Doc.ZN (W ((W ((W (J + 1)) + 1)) + 1))).1 (ZC (nth lA U).Doc.ZR (ZB (nth lA U).Doc.ZN (W ((W ((W (J + 1)) + 1)) + 1))).2).1) (ZY.mk (ZC (nth lA U).Doc.ZR (ZB (nth lA U).Doc.ZN (W ((W ((W (J + 1)) + 1)) + 1))).2).2 (W ((ZC (nth lA U).Doc.ZR (ZB (nth lA U).Doc.ZN (W ((W ((W (J + 1)) + 1)) + 1))).2).2 + 1)) (W ((W ((ZC (nth lA U).Doc.ZR (ZB (nth lA U).Doc.ZN (W ((W ((W (J + 1)) + 1)) + 1))).2).2 + 1)) + 1)) (W ((W ((W ((ZC (nth lA U).Doc.ZR (ZB (nth lA U).Doc.ZN (W ((W ((W (J + 1)) + 1)) + 1))).2).2 + 1)) + 1)) + 1)) (W ((W ((W ((W ((ZC (nth lA U).Doc.ZR (ZB (nth lA U).Doc.ZN (W ((W ((W (J + 1)) + 1)) + 1))).2).2 + 1)) + 1)) + 1)) + 1)) (W ((W ((W ((W ((W ((ZC (nth lA U).Doc.ZR (ZB (nth lA U).Doc.ZN (W ((W ((W (J + 1)) + 1)) + 1))).2).2 + 1)) + 1)) + 1)) + 1)) + 1)) (W ((W ((W ((W ((W ((W ((ZC (nth lA U).Doc.ZR (ZB (nth lA U).Doc.ZN (W ((W ((W (J + 1)) + 1)) + 1))).2).2 + 1)) + 1)) + 1)) + 1)) + 1)) + 1)) (W ((W ((W ((W ((W ((W ((W ((ZC (nth lA U).Doc.ZR (ZB (nth lA U).Doc.ZN (W ((W ((W (J + 1)) + 1)) + 1))).2).2 + 1)) + 1)) + 1)) + 1)) + 1)) + 1)) + 1)) (W ((W ((W ((W ((W ((W ((W ((W ((ZC (nth lA U).Doc.ZR (ZB (nth lA U).Doc.ZN (W ((W ((W (J + 1)) + 1)) + 1))).2).2 + 1)) + 1)) + 1)) + 1)) + 1)) + 1)) + 1)) + 1))) (Za.mk (Zn (nth lA U).ZI.ZL (W ((W ((W ((W ((W ((W ((W ((W ((W ((ZC (nth lA U).Doc.ZR (ZB (nth lA U).Doc.ZN (W ((W ((W (J + 1)) + 1)) + 1))).2).2 + 1)) + 1)) + 1)) + 1)) + 1)) + 1)) + 1)) + 1)) + 1))).1 (nth lA U).ZI.Zd))) rfl, ZE, Zj, m2, i1]
  refine rpS ?_
  refine Ro (t := 0) (j := 0) (i := U) (c := 15) (size := 16) (rows := ((lA.set U (ZM.mk J (W (J + 1)) (ZV.mk (W ((W (J + 1)) + 1)) (ZB (nth lA U).Doc.ZN (W ((W ((W (J + 1)) + 1)) + 1))).1 (ZC (nth lA U).Doc.ZR (ZB (nth lA U).Doc.ZN (W ((W ((W (J + 1)) + 1)) + 1))).2).1) (ZY.mk (ZC (nth lA U).Doc.ZR (ZB (nth lA U).Doc.ZN (W ((W ((W (J + 1)) + 1)) + 1))).2).2 (W ((ZC (nth lA U).Doc.ZR (ZB (nth lA U).Doc.ZN (W ((W ((W (J + 1)) + 1)) + 1))).2).2 + 1)) (W ((W ((ZC (nth lA U).Doc.ZR (ZB (nth lA U).Doc.ZN (W ((W ((W (J + 1)) + 1)) + 1))).2).2 + 1)) + 1)) (W ((W ((W ((ZC (nth lA U).Doc.ZR (ZB (nth lA U).Doc.ZN (W ((W ((W (J + 1)) + 1)) + 1))).2).2 + 1)) + 1)) + 1)) (W ((W ((W ((W ((ZC (nth lA U).Doc.ZR (ZB (nth lA U).Doc.ZN (W ((W ((W (J + 1)) + 1)) + 1))).2).2 + 1)) + 1)) + 1)) + 1)) (W ((W ((W ((W ((W ((ZC (nth lA U).Doc.ZR (ZB (nth lA U).Doc.ZN (W ((W ((W (J + 1)) + 1)) + 1))).2).2 + 1)) + 1)) + 1)) + 1)) + 1)) (W ((W ((W ((W ((W ((W ((ZC (nth lA U).Doc.ZR (ZB (nth lA U).Doc.ZN (W ((W ((W (J + 1)) + 1)) + 1))).2).2 + 1)) + 1)) + 1)) + 1)) + 1)) + 1)) (W ((W ((W ((W ((W ((W ((W ((ZC (nth lA U).Doc.ZR (ZB (nth lA U).Doc.ZN (W ((W ((W (J + 1)) + 1)) + 1))).2).2 + 1)) + 1)) + 1)) + 1)) + 1)) + 1)) + 1)) (W ((W ((W ((W ((W ((W ((W ((W ((ZC (nth lA U).Doc.ZR (ZB (nth lA U).Doc.ZN (W ((W ((W (J + 1)) + 1)) + 1))).2).2 + 1)) + 1)) + 1)) + 1)) + 1)) + 1)) + 1)) + 1))) (Za.mk (Zn (nth lA U).ZI.ZL (W ((W ((W ((W ((W ((W ((W ((W ((W ((ZC (nth lA U).Doc.ZR (ZB (nth lA U).Doc.ZN (W ((W ((W (J + 1)) + 1)) + 1))).2).2 + 1)) + 1)) + 1)) + 1)) + 1)) + 1)) + 1)) + 1)) + 1))).1 (nth lA U).ZI.Zd))).map ZM.row)) rfl rfl rfl rfl rfl rfl rfl (NU (nth lA U).ZI.Zd (Zn (nth lA U).ZI.ZL (W ((W ((W ((W ((W ((W ((W ((W ((W ((ZC (nth lA U).Doc.ZR (ZB (nth lA U).Doc.ZN (W ((W ((W (J + 1)) + 1)) + 1))).2).2 + 1)) + 1)) + 1)) + 1)) + 1)) + 1)) + 1)) + 1)) + 1))).2) (by simp) (by simp) (by simp [m2, i1]) (by simp [ZE, Zj, m2, i1]) (by simp) (by simp) (by simp) ?_
  simp [List.set_set, YV (x := (ZM.mk J (W (J + 1)) (ZV.mk (W ((W (J + 1)) + 1)) (ZB (nth lA U).Doc.ZN (W ((W ((W (J + 1)) + 1)) + 1))).1 (ZC (nth lA U).Doc.ZR (ZB (nth lA U).Doc.ZN (W ((W ((W (J + 1)) + 1)) + 1))).2).1) (ZY.mk (ZC (nth lA U).Doc.ZR (ZB (nth lA U).Doc.ZN (W ((W ((W (J + 1)) + 1)) + 1))).2).2 (W ((ZC (nth lA U).Doc.ZR (ZB (nth lA U).Doc.ZN (W ((W ((W (J + 1)) + 1)) + 1))).2).2 + 1)) (W ((W ((ZC (nth lA U).Doc.ZR (ZB (nth lA U).Doc.ZN (W ((W ((W (J + 1)) + 1)) + 1))).2).2 + 1)) + 1)) (W ((W ((W ((ZC (nth lA U).Doc.ZR (ZB (nth lA U).Doc.ZN (W ((W ((W (J + 1)) + 1)) + 1))).2).2 + 1)) + 1)) + 1)) (W ((W ((W ((W ((ZC (nth lA U).Doc.ZR (ZB (nth lA U).Doc.ZN (W ((W ((W (J + 1)) + 1)) + 1))).2).2 + 1)) + 1)) + 1)) + 1)) (W ((W ((W ((W ((W ((ZC (nth lA U).Doc.ZR (ZB (nth lA U).Doc.ZN (W ((W ((W (J + 1)) + 1)) + 1))).2).2 + 1)) + 1)) + 1)) + 1)) + 1)) (W ((W ((W ((W ((W ((W ((ZC (nth lA U).Doc.ZR (ZB (nth lA U).Doc.ZN (W ((W ((W (J + 1)) + 1)) + 1))).2).2 + 1)) + 1)) + 1)) + 1)) + 1)) + 1)) (W ((W ((W ((W ((W ((W ((W ((ZC (nth lA U).Doc.ZR (ZB (nth lA U).Doc.ZN (W ((W ((W (J + 1)) + 1)) + 1))).2).2 + 1)) + 1)) + 1)) + 1)) + 1)) + 1)) + 1)) (W ((W ((W ((W ((W ((W ((W ((W ((ZC (nth lA U).Doc.ZR (ZB (nth lA U).Doc.ZN (W ((W ((W (J + 1)) + 1)) + 1))).2).2 + 1)) + 1)) + 1)) + 1)) + 1)) + 1)) + 1)) + 1))) (Za.mk (Zn (nth lA U).ZI.ZL (W ((W ((W ((W ((W ((W ((W ((W ((W ((ZC (nth lA U).Doc.ZR (ZB (nth lA U).Doc.ZN (W ((W ((W (J + 1)) + 1)) + 1))).2).2 + 1)) + 1)) + 1)) + 1)) + 1)) + 1)) + 1)) + 1)) + 1))).1 (Zz (nth lA U).ZI.Zd (Zn (nth lA U).ZI.ZL (W ((W ((W ((W ((W ((W ((W ((W ((W ((ZC (nth lA U).Doc.ZR (ZB (nth lA U).Doc.ZN (W ((W ((W (J + 1)) + 1)) + 1))).2).2 + 1)) + 1)) + 1)) + 1)) + 1)) + 1)) + 1)) + 1)) + 1))).2).1))) rfl, ZE, Zj, m2, i1]
  refine rpS ?_
  refine Il ⟨(p1, (Zz (nth lA U).ZI.Zd (Zn (nth lA U).ZI.ZL (W ((W ((W ((W ((W ((W ((W ((W ((W ((ZC (nth lA U).Doc.ZR (ZB (nth lA U).Doc.ZN (W ((W ((W (J + 1)) + 1)) + 1))).2).2 + 1)) + 1)) + 1)) + 1)) + 1)) + 1)) + 1)) + 1)) + 1))).2).2, (U + 1), (lA.set U (ZM.mk J (W (J + 1)) (ZV.mk (W ((W (J + 1)) + 1)) (ZB (nth lA U).Doc.ZN (W ((W ((W (J + 1)) + 1)) + 1))).1 (ZC (nth lA U).Doc.ZR (ZB (nth lA U).Doc.ZN (W ((W ((W (J + 1)) + 1)) + 1))).2).1) (ZY.mk (ZC (nth lA U).Doc.ZR (ZB (nth lA U).Doc.ZN (W ((W ((W (J + 1)) + 1)) + 1))).2).2 (W ((ZC (nth lA U).Doc.ZR (ZB (nth lA U).Doc.ZN (W ((W ((W (J + 1)) + 1)) + 1))).2).2 + 1)) (W ((W ((ZC (nth lA U).Doc.ZR (ZB (nth lA U).Doc.ZN (W ((W ((W (J + 1)) + 1)) + 1))).2).2 + 1)) + 1)) (W ((W ((W ((ZC (nth lA U).Doc.ZR (ZB (nth lA U).Doc.ZN (W ((W ((W (J + 1)) + 1)) + 1))).2).2 + 1)) + 1)) + 1)) (W ((W ((W ((W ((ZC (nth lA U).Doc.ZR (ZB (nth lA U).Doc.ZN (W ((W ((W (J + 1)) + 1)) + 1))).2).2 + 1)) + 1)) + 1)) + 1)) (W ((W ((W ((W ((W ((ZC (nth lA U).Doc.ZR (ZB (nth lA U).Doc.ZN (W ((W ((W (J + 1)) + 1)) + 1))).2).2 + 1)) + 1)) + 1)) + 1)) + 1)) (W ((W ((W ((W ((W ((W ((ZC (nth lA U).Doc.ZR (ZB (nth lA U).Doc.ZN (W ((W ((W (J + 1)) + 1)) + 1))).2).2 + 1)) + 1)) + 1)) + 1)) + 1)) + 1)) (W ((W ((W ((W ((W ((W ((W ((ZC (nth lA U).Doc.ZR (ZB (nth lA U).Doc.ZN (W ((W ((W (J + 1)) + 1)) + 1))).2).2 + 1)) + 1)) + 1)) + 1)) + 1)) + 1)) + 1)) (W ((W ((W ((W ((W ((W ((W ((W ((ZC (nth lA U).Doc.ZR (ZB (nth lA U).Doc.ZN (W ((W ((W (J + 1)) + 1)) + 1))).2).2 + 1)) + 1)) + 1)) + 1)) + 1)) + 1)) + 1)) + 1))) (Za.mk (Zn (nth lA U).ZI.ZL (W ((W ((W ((W ((W ((W ((W ((W ((W ((ZC (nth lA U).Doc.ZR (ZB (nth lA U).Doc.ZN (W ((W ((W (J + 1)) + 1)) + 1))).2).2 + 1)) + 1)) + 1)) + 1)) + 1)) + 1)) + 1)) + 1)) + 1))).1 (Zz (nth lA U).ZI.Zd (Zn (nth lA U).ZI.ZL (W ((W ((W ((W ((W ((W ((W ((W ((W ((ZC (nth lA U).Doc.ZR (ZB (nth lA U).Doc.ZN (W ((W ((W (J + 1)) + 1)) + 1))).2).2 + 1)) + 1)) + 1)) + 1)) + 1)) + 1)) + 1)) + 1)) + 1))).2).1)))), ?_, ?_⟩ (by simp) (Xf (by simp [w1]))
  · rw [<- e1]; simp only [Kf, h1, Y0, Yi]
  · (simp; omega)
 ·have q1 := h1; try simp at q1
  have x1 : Kf (a0.length + 1) a1 0 a0 = (J, lA) := by rw [<- e1]; simp only [Kf, h1, Y0, Yi]
  simp
  refine PK (rv := [.tmp 4]) rfl ?_
  have f1 := YI.eq_1 a0 a1; simp only [x1, Y0, Yi] at f1; simp [f1]
theorem Og (a0 : List ZD) (a1 : Int) : KQ prog 62 (rL 2 ZD.row a0) [rI a1] (rL 2 ZD.row (YB a0 a1).1) (.int .i64 (YB a0 a1).2) := by
 refine Jg func62 rfl (by kernel_rfl) (fun v => ?_)
 simp [ntmps62]
 refine okL fun k1 => ?_
 refine SY (ι := { s : Nat × Int × Nat × (List ZD) // JJ s.1 s.2.1 s.2.2.1 s.2.2.2 = JJ (a0.length + 1) a1 0 a0 /\ (1 <= s.1 /\ s.2.2.2.length < s.1 + s.2.2.1) }) (fun s => YX 27 [(0, .fix v (.one (.sref 0 0 0 s.1.2.2.2.length)), [.arr true 2 (s.1.2.2.2.map ZD.row)]), eI 1 s.1.2.1, eI 5 (s.1.2.2.1 : Int)]) (fun s => s.1.1) ⟨((a0.length + 1), a1, 0, a0), rfl, by first | omega | (dsimp only; omega) | simp⟩ (Xf (by simp)) ?_
 rintro ⟨⟨n1, J, U, lA⟩, e1, j1⟩
 try dsimp only at e1 j1
 obtain ⟨p1, rfl⟩ : ∃ p, n1 = p + 1 := ⟨n1 - 1, by omega⟩
 simp
 refine cC (decide ((U : Int) < (lA.length : Int))) (fun k2 h1 => ?_) (fun k2 h1 => ?_)
 ·have q1 := h1; try simp at q1
  have i1 : U < lA.length := by simpa using h1
  have m2 : lA.length <= 9223372036854775807 := by simpa using k2 0 _ rfl
  have w1 : IntKind.i64.wrap ((U : Int) + 1) = (U : Int) + 1 := Zb (by omega) (by omega)
  simp [i1, ZE, YV (x := (ZD.mk J (nth lA U).ZF)) rfl, Zj]
  refine rpS ?_
  refine Ro (t := 0) (j := 0) (i := U) (c := 1) (size := 2) (rows := ((lA.set U (ZD.mk J (nth lA U).ZF)).map ZD.row)) rfl rfl rfl rfl rfl rfl rfl (GD (nth lA U).ZF (W (J + 1))) (by simp) (by simp) (by simp [m2, i1]) (by simp [ZE, Zj, m2, i1]) (by simp) (by simp) (by simp) ?_
  simp [List.set_set, YV (x := (ZD.mk J (YI (nth lA U).ZF (W (J + 1))).1)) rfl, ZE, Zj, m2, i1]
  refine rpS ?_
  refine Il ⟨(p1, (YI (nth lA U).ZF (W (J + 1))).2, (U + 1), (lA.set U (ZD.mk J (YI (nth lA U).ZF (W (J + 1))).1))), ?_, ?_⟩ (by simp) (Xf (by simp [w1]))
  · rw [<- e1]; simp only [JJ, h1, Y0, Yi]
  · (simp; omega)
 ·have q1 := h1; try simp at q1
  have x1 : JJ (a0.length + 1) a1 0 a0 = (J, lA) := by rw [<- e1]; simp only [JJ, h1, Y0, Yi]
  simp
  refine PK (rv := [.tmp 4]) rfl ?_
  have f1 := YB.eq_1 a0 a1; simp only [x1, Y0, Yi] at f1; simp [f1]
theorem Rk (a0 : ZJ) (a1 : Int) : KQ prog 13 a0.row [rI a1] (Z0 a0 a1).1.row (.int .i64 (Z0 a0 a1).2) := by
 refine Jg func13 rfl (by kernel_rfl) (fun v => ?_)
 simp [ntmps13]
 refine xO (l6 := [.sref 0 0 0 a0.Frame.Zq.length, .sref 0 1 0 a0.Frame.ZG.length, .sref 0 2 0 a0.Frame.Methods.length, .d (.int .i64 a0.Frame.y9), .d (.int .i64 a0.Frame.Now)]) rfl rfl rfl rfl rfl rfl rfl (HR a0.Frame a1) (by simp) (by simp) (by simp) (by simp) (by simp) (by simp) (by simp) (by simp) (by simp) ?_
 simp
 refine xO (l6 := [.sref 0 5 0 a0.ZS.length]) rfl rfl rfl rfl rfl rfl rfl (H9 a0.ZS (Zu a0.Frame a1).2) (by simp) (by simp) (by simp) (by simp) (by simp) (by simp) (by simp) (by simp) (by simp) ?_
 simp
 refine xO (l6 := [.sref 0 6 0 a0.Zr.length]) rfl rfl rfl rfl rfl rfl rfl (Kd a0.Zr (YC a0.ZS (Zu a0.Frame a1).2).2) (by simp) (by simp) (by simp) (by simp) (by simp) (by simp) (by simp) (by simp) (by simp) ?_
 simp
 refine xO (l6 := [.sref 0 7 0 a0.ZA.length]) rfl rfl rfl rfl rfl rfl rfl (Og a0.ZA (ZC a0.Zr (YC a0.ZS (Zu a0.Frame a1).2).2).2) (by simp) (by simp) (by simp) (by simp) (by simp) (by simp) (by simp) (by simp) (by simp) ?_
 simp
 refine xO (l6 := [.sref 0 8 0 a0.Ym.length]) rfl rfl rfl rfl rfl rfl rfl (Kd a0.Ym (YB a0.ZA (ZC a0.Zr (YC a0.ZS (Zu a0.Frame a1).2).2).2).2) (by simp) (by simp) (by simp) (by simp) (by simp) (by simp) (by simp) (by simp) (by simp) ?_
 simp
 refine xO (l6 := [.sref 0 9 0 a0.YW.length]) rfl rfl rfl rfl rfl rfl rfl (Kd a0.YW (ZC a0.Ym (YB a0.ZA (ZC a0.Zr (YC a0.ZS (Zu a0.Frame a1).2).2).2).2).2) (by simp) (by simp) (by simp) (by simp) (by simp) (by simp) (by simp) (by simp) (by simp) ?_
 simp
 refine xO (l6 := [.sref 0 11 0 a0.YN.length]) rfl rfl rfl rfl rfl rfl rfl (Kd a0.YN (ZC a0.YW (ZC a0.Ym (YB a0.ZA (ZC a0.Zr (YC a0.ZS (Zu a0.Frame a1).2).2).2).2).2).2) (by simp) (by simp) (by simp) (by simp) (by simp) (by simp) (by simp) (by simp) (by simp) ?_
 simp
 refine PK (rv := [.tmp 4]) rfl ?_
 have f1 := Z0.eq_1 a0 a1; simp [f1]
theorem Ot (a0 : ZV) (a1 : Int) : KQ prog 63 a0.row [rI a1] (Yt a0 a1).1.row (.int .i64 (Yt a0 a1).2) := by
 refine Jg func63 rfl (by kernel_rfl) (fun v => ?_)
 simp [ntmps63]
 refine xO (l6 := [.sref 0 1 0 a0.ZN.length]) rfl rfl rfl rfl rfl rfl rfl (TN a0.ZN a1) (by simp) (by simp) (by simp) (by simp) (by simp) (by simp) (by simp) (by simp) (by simp) ?_
 simp
 refine xO (l6 := [.sref 0 2 0 a0.ZR.length]) rfl rfl rfl rfl rfl rfl rfl (Kd a0.ZR (ZB a0.ZN a1).2) (by simp) (by simp) (by simp) (by simp) (by simp) (by simp) (by simp) (by simp) (by simp) ?_
 simp
 refine PK (rv := [.tmp 4]) rfl ?_
 have f1 := Yt.eq_1 a0 a1; simp [f1]
theorem Gf (a0 : Yu) (a1 : Int) : KQ prog 14 a0.row [rI a1] (XI a0 a1).1.row (.int .i64 (XI a0 a1).2) := by
 refine Jg func14 rfl (by kernel_rfl) (fun v => ?_)
 simp [ntmps14]
 refine xO (l6 := [.d (.int .i64 a0.Doc.zA), .sref 0 6 0 a0.Doc.ZN.length, .sref 0 7 0 a0.Doc.ZR.length]) rfl rfl rfl rfl rfl rfl rfl (Ot a0.Doc a1) (by simp) (by simp) (by simp) (by simp) (by simp) (by simp) (by simp) (by simp) (by simp) ?_
 simp
 refine xO (l6 := [.sref 0 8 0 a0.Ids.length]) rfl rfl rfl rfl rfl rfl rfl (Kd a0.Ids (Yt a0.Doc a1).2) (by simp) (by simp) (by simp) (by simp) (by simp) (by simp) (by simp) (by simp) (by simp) ?_
 simp
 refine PK (rv := [.tmp 4]) rfl ?_
 have f1 := XI.eq_1 a0 a1; simp [f1]
theorem Fv (a0 : List YR) (a1 : Int) : Sa 141 [rL 5 YR.row a0, rI a1] [rI (zZ a0 a1)] := by
 have f := me (zZ.eq_1 a0 a1)
 refine so func141 ntmps141 ?_
 refine lp2 (WY.eq_2 a0) (fun J U => YX 58 [eL 0 5 a0 YR.row, eI 1 J, eI 5 (U : Int)]) (fun n1 J U => a0.length < n1 + U /\ U <= a0.length) (a0.length + 1) a1 0 (fun p1 J U e1 j1 => ?_)
 refine cFf e1 ?_ ?_ <;> intro k2 h1 e1
 ·have i1 := ix h1
  have m2 := ml a0 (k2 0 _ rfl)
  have w1 := wr U
  simp [i1, ZE]
  refine rpS ?_
  refine cFt e1 ?_ ?_ <;> intro k3 h2 e1
  ·have f := ms f e1
   exact rt [.tmp 4] f
  simp [i1, ZE]
  refine rpS ?_
  refine cFt e1 ?_ ?_ <;> intro k4 h3 e1
  ·have f := ms f e1
   exact rt [.tmp 4] f
  simp [i1, ZE]
  refine rpS ?_
  refine cFt e1 ?_ ?_ <;> intro k5 h4 e1
  ·have f := ms f e1
   exact rt [.tmp 4] f
  simp [i1, ZE]
  refine rpS ?_
  refine cFt e1 ?_ ?_ <;> intro k6 h5 e1
  ·have f := ms f e1
   exact rt [.tmp 4] f
  simp [i1, ZE]
  refine rpS ?_
  refine cF e1 ?_ ?_ <;> intro k7 h6 e1
  ·have f := ms f e1
   exact rt [.tmp 4] f
  exact ny2 w1 e1
 have f := ms f e1
 exact rt [.tmp 4] f
theorem PJ (a0 : List ZQ) (a1 : Int) : Sa 142 [rL 3 ZQ.row a0, rI a1] [rI (JM a0 a1)] := by
 have f := me (JM.eq_1 a0 a1)
 refine so func142 ntmps142 ?_
 refine lp2 (yK.eq_2 a0) (fun J U => YX 40 [eL 0 3 a0 ZQ.row, eI 1 J, eI 5 (U : Int)]) (fun n1 J U => a0.length < n1 + U /\ U <= a0.length) (a0.length + 1) a1 0 (fun p1 J U e1 j1 => ?_)
 refine cFf e1 ?_ ?_ <;> intro k2 h1 e1
 ·have i1 := ix h1
  have m2 := ml a0 (k2 0 _ rfl)
  have w1 := wr U
  simp [i1, ZE]
  refine rpS ?_
  refine cFt e1 ?_ ?_ <;> intro k3 h2 e1
  ·have f := ms f e1
   exact rt [.tmp 4] f
  simp [i1, ZE]
  refine rpS ?_
  refine cFt e1 ?_ ?_ <;> intro k4 h3 e1
  ·have f := ms f e1
   exact rt [.tmp 4] f
  simp [i1, ZE]
  refine rpS ?_
  refine cF e1 ?_ ?_ <;> intro k5 h4 e1
  ·have f := ms f e1
   exact rt [.tmp 4] f
  exact ny2 w1 e1
 have f := ms f e1
 exact rt [.tmp 4] f
theorem Mp (a0 : List Zf) (a1 : Int) : Sa 143 [rL 4 Zf.row a0, rI a1] [rI (yj a0 a1)] := by
 have f := me (yj.eq_1 a0 a1)
 refine so func143 ntmps143 ?_
 refine lp2 (qZ.eq_2 a0) (fun J U => YX 49 [eL 0 4 a0 Zf.row, eI 1 J, eI 5 (U : Int)]) (fun n1 J U => a0.length < n1 + U /\ U <= a0.length) (a0.length + 1) a1 0 (fun p1 J U e1 j1 => ?_)
 refine cFf e1 ?_ ?_ <;> intro k2 h1 e1
 ·have i1 := ix h1
  have m2 := ml a0 (k2 0 _ rfl)
  have w1 := wr U
  simp [i1, ZE]
  refine rpS ?_
  refine cFt e1 ?_ ?_ <;> intro k3 h2 e1
  ·have f := ms f e1
   exact rt [.tmp 4] f
  simp [i1, ZE]
  refine rpS ?_
  refine cFt e1 ?_ ?_ <;> intro k4 h3 e1
  ·have f := ms f e1
   exact rt [.tmp 4] f
  simp [i1, ZE]
  refine rpS ?_
  refine cFt e1 ?_ ?_ <;> intro k5 h4 e1
  ·have f := ms f e1
   exact rt [.tmp 4] f
  simp [i1, ZE]
  refine rpS ?_
  refine cF e1 ?_ ?_ <;> intro k6 h5 e1
  ·have f := ms f e1
   exact rt [.tmp 4] f
  exact ny2 w1 e1
 have f := ms f e1
 exact rt [.tmp 4] f
theorem HK (a0 : Z8) (a1 : Int) : Sa 64 [a0.row, rI a1] [rI (Xn a0 a1)] := by
 have f := me (Xn.eq_1 a0 a1)
 refine so func64 ntmps64 ?_
 refine cRs (Fv a0.Zq a1) ?_
 refine cF f ?_ ?_ <;> intro k1 h1 f
 ·exact rt [.tmp 4] f
 refine cRs (PJ a0.ZG (zZ a0.Zq a1)) ?_
 refine cF f ?_ ?_ <;> intro k2 h2 f
 ·exact rt [.tmp 4] f
 refine cRs (Mp a0.Methods (JM a0.ZG (zZ a0.Zq a1))) ?_
 refine cF f ?_ ?_ <;> intro k3 h3 f
 ·exact rt [.tmp 4] f
 exact rt [.tmp 4] f
theorem I4 (a0 : List Z1) (a1 : Int) : Sa 65 [rL 7 Z1.row a0, rI a1] [rI (QE a0 a1)] := by
 have f := me (QE.eq_1 a0 a1)
 refine so func65 ntmps65 ?_
 refine lp2 (kQ.eq_2 a0) (fun J U => YX 76 [eL 0 7 a0 Z1.row, eI 1 J, eI 5 (U : Int)]) (fun n1 J U => a0.length < n1 + U /\ U <= a0.length) (a0.length + 1) a1 0 (fun p1 J U e1 j1 => ?_)
 refine cFf e1 ?_ ?_ <;> intro k2 h1 e1
 ·have i1 := ix h1
  have m2 := ml a0 (k2 0 _ rfl)
  have w1 := wr U
  simp [i1, ZE]
  refine rpS ?_
  refine cFt e1 ?_ ?_ <;> intro k3 h2 e1
  ·have f := ms f e1
   exact rt [.tmp 4] f
  simp [i1, ZE]
  refine rpS ?_
  refine cFt e1 ?_ ?_ <;> intro k4 h3 e1
  ·have f := ms f e1
   exact rt [.tmp 4] f
  simp [i1, ZE]
  refine rpS ?_
  refine cFt e1 ?_ ?_ <;> intro k5 h4 e1
  ·have f := ms f e1
   exact rt [.tmp 4] f
  simp [i1, ZE]
  refine rpS ?_
  refine cFt e1 ?_ ?_ <;> intro k6 h5 e1
  ·have f := ms f e1
   exact rt [.tmp 4] f
  simp [i1, ZE]
  refine rpS ?_
  refine cFt e1 ?_ ?_ <;> intro k7 h6 e1
  ·have f := ms f e1
   exact rt [.tmp 4] f
  simp [i1, ZE]
  refine rpS ?_
  refine cFt e1 ?_ ?_ <;> intro k8 h7 e1
  ·have f := ms f e1
   exact rt [.tmp 4] f
  simp [i1, ZE]
  refine rpS ?_
  refine cF e1 ?_ ?_ <;> intro k9 h8 e1
  ·have f := ms f e1
   exact rt [.tmp 4] f
  exact ny2 w1 e1
 have f := ms f e1
 exact rt [.tmp 4] f
theorem yd (a0 : List Int) (a1 : Int) : Sa 66 [rL 1 iR a0, rI a1] [rI (Zl a0 a1)] := by
 have f := me (Zl.eq_1 a0 a1)
 refine so func66 ntmps66 ?_
 refine lp2 (Wq.eq_2 a0) (fun J U => YX 21 [eL 0 1 a0 iR, eI 1 J, eI 5 (U : Int)]) (fun n1 J U => a0.length < n1 + U /\ U <= a0.length) (a0.length + 1) a1 0 (fun p1 J U e1 j1 => ?_)
 refine cFf e1 ?_ ?_ <;> intro k2 h1 e1
 ·have i1 := ix h1
  have m2 := ml a0 (k2 0 _ rfl)
  have w1 := wr U
  simp [i1, ZE]
  refine rpS ?_
  refine cF e1 ?_ ?_ <;> intro k3 h2 e1
  ·have f := ms f e1
   exact rt [.tmp 4] f
  exact ny2 w1 e1
 have f := ms f e1
 exact rt [.tmp 4] f
theorem MZ (a0 : List ByteArray) (a1 : Int) : Sa 213 [rL 1 sR a0, rI a1] [rI (Zo a0 a1)] := by
 have f := me (Zo.eq_1 a0 a1)
 refine so func213 ntmps213 ?_
 refine lp2 (qa.eq_2 a0) (fun J U => YX 22 [eL 0 1 a0 sR, eI 1 J, eI 5 (U : Int)]) (fun n1 J U => a0.length < n1 + U /\ U <= a0.length) (a0.length + 1) a1 0 (fun p1 J U e1 j1 => ?_)
 refine cF e1 ?_ ?_ <;> intro k2 h1 e1
 ·have i1 := ix h1
  have m2 := ml a0 (k2 0 _ rfl)
  have w1 := wr U
  refine dIo mixed ?_
  simp [i1, ZE]
  refine rpS ?_
  refine cRs (PX J) ?_
  refine cF e1 ?_ ?_ <;> intro k4 h2 e1
  ·have f := ms f e1
   exact rt [.tmp 4] f
  exact ny2 w1 e1
 have f := ms f e1
 exact rt [.tmp 4] f
theorem IP (a0 : List ZO) (a1 : Int) : Sa 214 [rL 3 ZO.row a0, rI a1] [rI (QI a0 a1)] := by
 have f := me (QI.eq_1 a0 a1)
 refine so func214 ntmps214 ?_
 refine lp2 (jY.eq_2 a0) (fun J U => YX 40 [eL 0 3 a0 ZO.row, eI 1 J, eI 5 (U : Int)]) (fun n1 J U => a0.length < n1 + U /\ U <= a0.length) (a0.length + 1) a1 0 (fun p1 J U e1 j1 => ?_)
 refine cFf e1 ?_ ?_ <;> intro k2 h1 e1
 ·have i1 := ix h1
  have m2 := ml a0 (k2 0 _ rfl)
  have w1 := wr U
  simp [i1, ZE]
  refine rpS ?_
  refine cFt e1 ?_ ?_ <;> intro k3 h2 e1
  ·have f := ms f e1
   exact rt [.tmp 4] f
  simp [i1, ZE]
  refine rpS ?_
  refine cRs (yd (nth a0 U).YP (W (J + 1))) ?_ (lP := by first | (simp; done) | (simp [W, w1]; done))
  refine cFt e1 ?_ ?_ <;> intro k4 h3 e1
  ·have f := ms f e1
   exact rt [.tmp 4] f
  simp [i1, ZE]
  refine rpS ?_
  refine cF e1 ?_ ?_ <;> intro k5 h4 e1
  ·have f := ms f e1
   exact rt [.tmp 4] f
  exact ny2 w1 e1
 have f := ms f e1
 exact rt [.tmp 4] f
theorem Hr (a0 : List Zv) (a1 : Int) : Sa 259 [rL 2 Zv.row a0, rI a1] [rI (Ql a0 a1)] := by
 have f := me (Ql.eq_1 a0 a1)
 refine so func259 ntmps259 ?_
 refine lp2 (kj.eq_2 a0) (fun J U => YX 33 [eL 0 2 a0 Zv.row, eI 1 J, eI 5 (U : Int)]) (fun n1 J U => a0.length < n1 + U /\ U <= a0.length) (a0.length + 1) a1 0 (fun p1 J U e1 j1 => ?_)
 refine cFf e1 ?_ ?_ <;> intro k2 h1 e1
 ·have i1 := ix h1
  have m2 := ml a0 (k2 0 _ rfl)
  have w1 := wr U
  simp [i1, ZE]
  refine rpS ?_
  refine cFt e1 ?_ ?_ <;> intro k3 h2 e1
  ·have f := ms f e1
   exact rt [.tmp 4] f
  simp [i1, ZE]
  refine rpS ?_
  refine cF e1 ?_ ?_ <;> intro k4 h3 e1
  ·have f := ms f e1
   exact rt [.tmp 4] f
  exact ny2 w1 e1
 have f := ms f e1
 exact rt [.tmp 4] f
theorem LU (a0 : List ZX) (a1 : Int) : Sa 260 [rL 5 ZX.row a0, rI a1] [rI (Jz a0 a1)] := by
 have f := me (Jz.eq_1 a0 a1)
 refine so func260 ntmps260 ?_
 refine lp2 (jt.eq_2 a0) (fun J U => YX 58 [eL 0 5 a0 ZX.row, eI 1 J, eI 5 (U : Int)]) (fun n1 J U => a0.length < n1 + U /\ U <= a0.length) (a0.length + 1) a1 0 (fun p1 J U e1 j1 => ?_)
 refine cFf e1 ?_ ?_ <;> intro k2 h1 e1
 ·have i1 := ix h1
  have m2 := ml a0 (k2 0 _ rfl)
  have w1 := wr U
  simp [i1, ZE]
  refine rpS ?_
  refine cFt e1 ?_ ?_ <;> intro k3 h2 e1
  ·have f := ms f e1
   exact rt [.tmp 4] f
  simp [i1, ZE]
  refine rpS ?_
  refine cFt e1 ?_ ?_ <;> intro k4 h3 e1
  ·have f := ms f e1
   exact rt [.tmp 4] f
  simp [i1, ZE]
  refine rpS ?_
  refine cFt e1 ?_ ?_ <;> intro k5 h4 e1
  ·have f := ms f e1
   exact rt [.tmp 4] f
  simp [i1, ZE]
  refine rpS ?_
  refine cFt e1 ?_ ?_ <;> intro k6 h5 e1
  ·have f := ms f e1
   exact rt [.tmp 4] f
  simp [i1, ZE]
  refine rpS ?_
  refine cF e1 ?_ ?_ <;> intro k7 h6 e1
  ·have f := ms f e1
   exact rt [.tmp 4] f
  exact ny2 w1 e1
 have f := ms f e1
 exact rt [.tmp 4] f
theorem O6 (a0 : List ZK) (a1 : Int) : Sa 215 [rL 5 ZK.row a0, rI a1] [rI (Qu a0 a1)] := by
 have f := me (Qu.eq_1 a0 a1)
 refine so func215 ntmps215 ?_
 refine lp2 (xo.eq_2 a0) (fun J U => YX 58 [eL 0 5 a0 ZK.row, eI 1 J, eI 5 (U : Int)]) (fun n1 J U => a0.length < n1 + U /\ U <= a0.length) (a0.length + 1) a1 0 (fun p1 J U e1 j1 => ?_)
 refine cFf e1 ?_ ?_ <;> intro k2 h1 e1
 ·have i1 := ix h1
  have m2 := ml a0 (k2 0 _ rfl)
  have w1 := wr U
  simp [i1, ZE]
  refine rpS ?_
  refine cFt e1 ?_ ?_ <;> intro k3 h2 e1
  ·have f := ms f e1
   exact rt [.tmp 4] f
  simp [i1, ZE]
  refine rpS ?_
  refine cFt e1 ?_ ?_ <;> intro k4 h3 e1
  ·have f := ms f e1
   exact rt [.tmp 4] f
  simp [i1, ZE]
  refine rpS ?_
  refine cFt e1 ?_ ?_ <;> intro k5 h4 e1
  ·have f := ms f e1
   exact rt [.tmp 4] f
  simp [i1, ZE]
  refine rpS ?_
  refine cRs (Hr (nth a0 U).Path (W ((W ((W (J + 1)) + 1)) + 1))) ?_ (lP := by first | (simp; done) | (simp [W, w1]; done))
  refine cFt e1 ?_ ?_ <;> intro k6 h5 e1
  ·have f := ms f e1
   exact rt [.tmp 4] f
  simp [i1, ZE]
  refine rpS ?_
  refine cRs (LU (nth a0 U).YE (Ql (nth a0 U).Path (W ((W ((W (J + 1)) + 1)) + 1)))) ?_ (lP := by first | (simp; done) | (simp [W, w1]; done))
  refine cF e1 ?_ ?_ <;> intro k7 h6 e1
  ·have f := ms f e1
   exact rt [.tmp 4] f
  exact ny2 w1 e1
 have f := ms f e1
 exact rt [.tmp 4] f
theorem GK (a0 : List ZM) (a1 : Int) : Sa 144 [rL 16 ZM.row a0, rI a1] [rI (Kh a0 a1)] := by
 have f := me (Kh.eq_1 a0 a1)
 refine so func144 ntmps144 ?_
 refine lp2 (kW.eq_2 a0) (fun J U => YX 171 [eL 0 16 a0 ZM.row, eI 1 J, eI 5 (U : Int)]) (fun n1 J U => a0.length < n1 + U /\ U <= a0.length) (a0.length + 1) a1 0 (fun p1 J U e1 j1 => ?_)
 refine cFf e1 ?_ ?_ <;> intro k2 h1 e1
 ·have i1 := ix h1
  have m2 := ml a0 (k2 0 _ rfl)
  have w1 := wr U
  simp [i1, ZE]
  refine rpS ?_
  refine cFt e1 ?_ ?_ <;> intro k3 h2 e1
  ·have f := ms f e1
   exact rt [.tmp 4] f
  simp [i1, ZE]
  refine rpS ?_
  refine cFt e1 ?_ ?_ <;> intro k4 h3 e1
  ·have f := ms f e1
   exact rt [.tmp 4] f
  simp [i1, ZE]
  refine rpS ?_
  refine cFt e1 ?_ ?_ <;> intro k5 h4 e1
  ·have f := ms f e1
   exact rt [.tmp 4] f
  simp [i1, ZE]
  refine rpS ?_
  refine cRs (MZ (nth a0 U).Doc.ZN (W ((W ((W (J + 1)) + 1)) + 1))) ?_ (lP := by first | (simp; done) | (simp [W, w1]; done))
  refine cFt e1 ?_ ?_ <;> intro k6 h5 e1
  ·have f := ms f e1
   exact rt [.tmp 4] f
  simp [i1, ZE]
  refine rpS ?_
  refine cRs (yd (nth a0 U).Doc.ZR (Zo (nth a0 U).Doc.ZN (W ((W ((W (J + 1)) + 1)) + 1)))) ?_ (lP := by first | (simp; done) | (simp [W, w1]; done))
  refine cFt e1 ?_ ?_ <;> intro k7 h6 e1
  ·have f := ms f e1
   exact rt [.tmp 4] f
  simp [i1, ZE]
  refine rpS ?_
  refine cFt e1 ?_ ?_ <;> intro k8 h7 e1
  ·have f := ms f e1
   exact rt [.tmp 4] f
  simp [i1, ZE]
  refine rpS ?_
  refine cFt e1 ?_ ?_ <;> intro k9 h8 e1
  ·have f := ms f e1
   exact rt [.tmp 4] f
  simp [i1, ZE]
  refine rpS ?_
  refine cFt e1 ?_ ?_ <;> intro cO h9 e1
  ·have f := ms f e1
   exact rt [.tmp 4] f
  simp [i1, ZE]
  refine rpS ?_
  refine cFt e1 ?_ ?_ <;> intro k11 fg e1
  ·have f := ms f e1
   exact rt [.tmp 4] f
  simp [i1, ZE]
  refine rpS ?_
  refine cFt e1 ?_ ?_ <;> intro k12 bl e1
  ·have f := ms f e1
   exact rt [.tmp 4] f
  simp [i1, ZE]
  refine rpS ?_
  refine cFt e1 ?_ ?_ <;> intro cw h12 e1
  ·have f := ms f e1
   exact rt [.tmp 4] f
  simp [i1, ZE]
  refine rpS ?_
  refine cFt e1 ?_ ?_ <;> intro k14 h13 e1
  ·have f := ms f e1
   exact rt [.tmp 4] f
  simp [i1, ZE]
  refine rpS ?_
  refine cFt e1 ?_ ?_ <;> intro k15 h14 e1
  ·have f := ms f e1
   exact rt [.tmp 4] f
  simp [i1, ZE]
  refine rpS ?_
  refine cFt e1 ?_ ?_ <;> intro k16 h15 e1
  ·have f := ms f e1
   exact rt [.tmp 4] f
  simp [i1, ZE]
  refine rpS ?_
  refine cRs (IP (nth a0 U).ZI.ZL (W ((W ((W ((W ((W ((W ((W ((W ((W ((Zl (nth a0 U).Doc.ZR (Zo (nth a0 U).Doc.ZN (W ((W ((W (J + 1)) + 1)) + 1)))) + 1)) + 1)) + 1)) + 1)) + 1)) + 1)) + 1)) + 1)) + 1))) ?_ (lP := by first | (simp; done) | (simp [W, w1]; done))
  refine cFt e1 ?_ ?_ <;> intro k17 h16 e1
  ·have f := ms f e1
   exact rt [.tmp 4] f
  simp [i1, ZE]
  refine rpS ?_
  refine cRs (O6 (nth a0 U).ZI.Zd (QI (nth a0 U).ZI.ZL (W ((W ((W ((W ((W ((W ((W ((W ((W ((Zl (nth a0 U).Doc.ZR (Zo (nth a0 U).Doc.ZN (W ((W ((W (J + 1)) + 1)) + 1)))) + 1)) + 1)) + 1)) + 1)) + 1)) + 1)) + 1)) + 1)) + 1)))) ?_ (lP := by first | (simp; done) | (simp [W, w1]; done))
  refine cF e1 ?_ ?_ <;> intro k18 h17 e1
  ·have f := ms f e1
   exact rt [.tmp 4] f
  exact ny2 w1 e1
 have f := ms f e1
 exact rt [.tmp 4] f
theorem Nh (a0 : List ZD) (a1 : Int) : Sa 67 [rL 2 ZD.row a0, rI a1] [rI (X5 a0 a1)] := by
 have f := me (X5.eq_1 a0 a1)
 refine so func67 ntmps67 ?_
 refine lp2 (xn.eq_2 a0) (fun J U => YX 31 [eL 0 2 a0 ZD.row, eI 1 J, eI 5 (U : Int)]) (fun n1 J U => a0.length < n1 + U /\ U <= a0.length) (a0.length + 1) a1 0 (fun p1 J U e1 j1 => ?_)
 refine cFf e1 ?_ ?_ <;> intro k2 h1 e1
 ·have i1 := ix h1
  have m2 := ml a0 (k2 0 _ rfl)
  have w1 := wr U
  simp [i1, ZE]
  refine rpS ?_
  refine cFt e1 ?_ ?_ <;> intro k3 h2 e1
  ·have f := ms f e1
   exact rt [.tmp 4] f
  simp [i1, ZE]
  refine rpS ?_
  refine cRs (GK (nth a0 U).ZF (W (J + 1))) ?_ (lP := by first | (simp; done) | (simp [W, w1]; done))
  refine cF e1 ?_ ?_ <;> intro k4 h3 e1
  ·have f := ms f e1
   exact rt [.tmp 4] f
  exact ny2 w1 e1
 have f := ms f e1
 exact rt [.tmp 4] f
theorem Sv (a0 : ZJ) (a1 : Int) : Sa 15 [a0.row, rI a1] [rI (yA a0 a1)] := by
 have f := me (yA.eq_1 a0 a1)
 refine so func15 ntmps15 ?_
 refine cRs (HK a0.Frame a1) ?_
 refine cF f ?_ ?_ <;> intro k1 h1 f
 ·exact rt [.tmp 4] f
 refine cRs (I4 a0.ZS (Xn a0.Frame a1)) ?_
 refine cF f ?_ ?_ <;> intro k2 h2 f
 ·exact rt [.tmp 4] f
 refine cRs (yd a0.Zr (QE a0.ZS (Xn a0.Frame a1))) ?_
 refine cF f ?_ ?_ <;> intro k3 h3 f
 ·exact rt [.tmp 4] f
 refine cRs (Nh a0.ZA (Zl a0.Zr (QE a0.ZS (Xn a0.Frame a1)))) ?_
 refine cF f ?_ ?_ <;> intro k4 h4 f
 ·exact rt [.tmp 4] f
 refine cRs (yd a0.Ym (X5 a0.ZA (Zl a0.Zr (QE a0.ZS (Xn a0.Frame a1))))) ?_
 refine cF f ?_ ?_ <;> intro k5 h5 f
 ·exact rt [.tmp 4] f
 refine cRs (yd a0.YW (Zl a0.Ym (X5 a0.ZA (Zl a0.Zr (QE a0.ZS (Xn a0.Frame a1)))))) ?_
 refine cF f ?_ ?_ <;> intro k6 h6 f
 ·exact rt [.tmp 4] f
 refine cRs (yd a0.YN (Zl a0.YW (Zl a0.Ym (X5 a0.ZA (Zl a0.Zr (QE a0.ZS (Xn a0.Frame a1))))))) ?_
 refine cF f ?_ ?_ <;> intro k7 h7 f
 ·exact rt [.tmp 4] f
 exact rt [.tmp 4] f
end Go.Proofs.YtdkobknehoecjaaGreat
