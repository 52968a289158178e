/- Contracts of the functions LG the abstract machine, part A1. No condition. -/
import Derived.Test.YtfhmpplolpejnaaGreatL
import Derived.Test.YtfhmpplolpejnaaGreatTy
namespace Go.Proofs.YtfhmpplolpejnaaGreat
open Go.Vm Go.Mo
set_option maxHeartbeats 1000000
set_option maxRecDepth 100000
set_option linter.unusedSimpArgs false
set_option linter.unusedVariables false
theorem B0 (a0 : List Zs) (a1 : Int) : Sa 44 [rL 5 Zs.row a0, rI a1] [rI (Qr a0 a1)] := by
 have f := me (Qr.eq_1 a0 a1)
 refine so Tryz.func44 Tryz.ntmps44 ?_
 refine cF f ?_ ?_ <;> intro k1 h1 f
 ·exact rt [.tmp 4] f
 exact rt [.tmp 4] f
theorem NZ (a0 : List ZG) (a1 : Int) : Sa 45 [rL 3 ZG.row a0, rI a1] [rI (XW a0 a1)] := by
 have f := me (XW.eq_1 a0 a1)
 refine so Tryz.func45 Tryz.ntmps45 ?_
 refine cF f ?_ ?_ <;> intro k1 h1 f
 ·exact rt [.tmp 4] f
 exact rt [.tmp 4] f
theorem GO (a0 : List Zh) (a1 : Int) : Sa 46 [rL 4 Zh.row a0, rI a1] [rI (yK a0 a1)] := by
 have f := me (yK.eq_1 a0 a1)
 refine so Tryz.func46 Tryz.ntmps46 ?_
 refine cF f ?_ ?_ <;> intro k1 h1 f
 ·exact rt [.tmp 4] f
 exact rt [.tmp 4] f
theorem DZ (a0 : ZI) (a1 : Int) : Sa 11 [a0.row, rI a1] [rI (Z6 a0 a1)] := by
 have f := me (Z6.eq_1 a0 a1)
 refine so Tryz.func11 Tryz.ntmps11 ?_
 refine cRs (B0 a0.YY a1) ?_
 refine cF f ?_ ?_ <;> intro k1 h1 f
 ·exact rt [.tmp 4] f
 refine cRs (NZ a0.ZN (Qr a0.YY a1)) ?_
 refine cF f ?_ ?_ <;> intro k2 h2 f
 ·exact rt [.tmp 4] f
 refine cRs (GO a0.Methods (XW a0.ZN (Qr a0.YY a1))) ?_
 refine cF f ?_ ?_ <;> intro k3 h3 f
 ·exact rt [.tmp 4] f
 exact rt [.tmp 4] f
theorem Dv (a0 : List Zn) (a1 : Int) : Sa 71 [rL 7 Zn.row a0, rI a1] [rI (YO a0 a1)] := by
 have f := me (YO.eq_1 a0 a1)
 refine so Tryz.func71 Tryz.ntmps71 ?_
 refine cF f ?_ ?_ <;> intro k1 h1 f
 ·exact rt [.tmp 4] f
 exact rt [.tmp 4] f
theorem jS (a0 : List Int) (a1 : Int) : Sa 72 [rL 1 iR a0, rI a1] [rI (Zp a0 a1)] := by
 have f := me (Zp.eq_1 a0 a1)
 refine so Tryz.func72 Tryz.ntmps72 ?_
 refine cF f ?_ ?_ <;> intro k1 h1 f
 ·exact rt [.tmp 4] f
 exact rt [.tmp 4] f
theorem Hz (a0 : List ByteArray) (a1 : Int) : Sa 92 [rL 1 sR a0, rI a1] [rI (QU a0 a1)] := by
 have f := me (QU.eq_1 a0 a1)
 refine so Tryz.func92 Tryz.ntmps92 ?_
 refine cF f ?_ ?_ <;> intro k1 h1 f
 ·exact rt [.tmp 4] f
 refine lp2 (qc.eq_2 a0) (fun v1_0 v1_1 => YP 28 [eL 0 1 a0 sR, eI 1 v1_0, eI 5 (↑v1_1 : Int)]) (fun n1 v1_0 v1_1 => a0.length < n1 + v1_1 ∧ v1_1 ≤ a0.length) (a0.length + 1) (W (a1 - (↑a0.length : Int))) 0 (fun p1 v1_0 v1_1 e1 j1 => ?_)
 refine cFf e1 ?_ ?_ <;> intro k3 h2 e1
 ·have i1 := ix h2
  have m2 := ml a0 (k3 0 _ rfl)
  have w1 := wr v1_1
  simp [i1, ZA]
  repeat with_reducible refine sd ?_
  refine cF e1 ?_ ?_ <;> intro k4 h3 e1
  ·have f := ms f e1
   exact rt [.tmp 4] f
  exact ny2 w1 e1
 have f := ms f e1
 exact rt [.tmp 4] f
theorem IS (a0 : Zc) (a1 : Int) : Sa 47 [a0.row, rI a1] [rI (Xk a0 a1)] := by
 have f := me (Xk.eq_1 a0 a1)
 refine so Tryz.func47 Tryz.ntmps47 ?_
 refine cRs (Hz a0.ZQ a1) ?_
 refine cF f ?_ ?_ <;> intro k1 h1 f
 ·exact rt [.tmp 4] f
 refine cRs (jS a0.Zb (QU a0.ZQ a1)) ?_
 refine cF f ?_ ?_ <;> intro k2 h2 f
 ·exact rt [.tmp 4] f
 exact rt [.tmp 4] f
theorem Ck (a0 : ZD) (a1 : Int) : Sa 135 [a0.row, rI a1] [rI (jR a0 a1)] := by
 have f := me (jR.eq_1 a0 a1)
 refine so Tryz.func135 Tryz.ntmps135 ?_
 refine cRs (jS a0.Zg a1) ?_
 refine cF f ?_ ?_ <;> intro k1 h1 f
 ·exact rt [.tmp 4] f
 exact rt [.tmp 4] f
theorem Fh (a0 : List ZD) (a1 : Int) : Sa 93 [rL 3 ZD.row a0, rI a1] [rI (JB a0 a1)] := by
 have f := me (JB.eq_1 a0 a1)
 refine so Tryz.func93 Tryz.ntmps93 ?_
 refine cF f ?_ ?_ <;> intro k1 h1 f
 ·exact rt [.tmp 4] f
 refine lp2 (jl.eq_2 a0) (fun v1_0 v1_1 => YP 27 [eL 0 3 a0 ZD.row, eI 1 v1_0, eI 5 (↑v1_1 : Int)]) (fun n1 v1_0 v1_1 => a0.length < n1 + v1_1 ∧ v1_1 ≤ a0.length) (a0.length + 1) (W (a1 - (↑a0.length : Int))) 0 (fun p1 v1_0 v1_1 e1 j1 => ?_)
 refine cFf e1 ?_ ?_ <;> intro k3 h2 e1
 ·have i1 := ix h2
  have m2 := ml a0 (k3 0 _ rfl)
  have w1 := wr v1_1
  simp [i1, ZA]
  repeat with_reducible refine sd ?_
  refine cRs (Ck (nth a0 v1_1) v1_0) ?_
  refine cF e1 ?_ ?_ <;> intro k4 h3 e1
  ·have f := ms f e1
   exact rt [.tmp 4] f
  exact ny2 w1 e1
 have f := ms f e1
 exact rt [.tmp 4] f
theorem Cr (a0 : List Ya) (a1 : Int) : Sa 169 [rL 2 Ya.row a0, rI a1] [rI (Jp a0 a1)] := by
 have f := me (Jp.eq_1 a0 a1)
 refine so Tryz.func169 Tryz.ntmps169 ?_
 refine cF f ?_ ?_ <;> intro k1 h1 f
 ·exact rt [.tmp 4] f
 exact rt [.tmp 4] f
theorem F5 (a0 : List ZY) (a1 : Int) : Sa 170 [rL 5 ZY.row a0, rI a1] [rI (xe a0 a1)] := by
 have f := me (xe.eq_1 a0 a1)
 refine so Tryz.func170 Tryz.ntmps170 ?_
 refine cF f ?_ ?_ <;> intro k1 h1 f
 ·exact rt [.tmp 4] f
 exact rt [.tmp 4] f
theorem G8 (a0 : ZK) (a1 : Int) : Sa 136 [a0.row, rI a1] [rI (yS a0 a1)] := by
 have f := me (yS.eq_1 a0 a1)
 refine so Tryz.func136 Tryz.ntmps136 ?_
 refine cRs (Cr a0.Path a1) ?_
 refine cF f ?_ ?_ <;> intro k1 h1 f
 ·exact rt [.tmp 4] f
 refine cRs (F5 a0.Zj (Jp a0.Path a1)) ?_
 refine cF f ?_ ?_ <;> intro k2 h2 f
 ·exact rt [.tmp 4] f
 exact rt [.tmp 4] f
theorem IE (a0 : List ZK) (a1 : Int) : Sa 94 [rL 5 ZK.row a0, rI a1] [rI (zL a0 a1)] := by
 have f := me (zL.eq_1 a0 a1)
 refine so Tryz.func94 Tryz.ntmps94 ?_
 refine cF f ?_ ?_ <;> intro k1 h1 f
 ·exact rt [.tmp 4] f
 refine lp2 (xH.eq_2 a0) (fun v1_0 v1_1 => YP 27 [eL 0 5 a0 ZK.row, eI 1 v1_0, eI 5 (↑v1_1 : Int)]) (fun n1 v1_0 v1_1 => a0.length < n1 + v1_1 ∧ v1_1 ≤ a0.length) (a0.length + 1) (W (a1 - (↑a0.length : Int))) 0 (fun p1 v1_0 v1_1 e1 j1 => ?_)
 refine cFf e1 ?_ ?_ <;> intro k3 h2 e1
 ·have i1 := ix h2
  have m2 := ml a0 (k3 0 _ rfl)
  have w1 := wr v1_1
  simp [i1, ZA]
  repeat with_reducible refine sd ?_
  refine cRs (G8 (nth a0 v1_1) v1_0) ?_
  refine cF e1 ?_ ?_ <;> intro k4 h3 e1
  ·have f := ms f e1
   exact rt [.tmp 4] f
  exact ny2 w1 e1
 have f := ms f e1
 exact rt [.tmp 4] f
theorem Fg (a0 : ZP) (a1 : Int) : Sa 48 [a0.row, rI a1] [rI (zP a0 a1)] := by
 have f := me (zP.eq_1 a0 a1)
 refine so Tryz.func48 Tryz.ntmps48 ?_
 refine cRs (Fh a0.Zd a1) ?_
 refine cF f ?_ ?_ <;> intro k1 h1 f
 ·exact rt [.tmp 4] f
 refine cRs (IE a0.ZX (JB a0.Zd a1)) ?_
 refine cF f ?_ ?_ <;> intro k2 h2 f
 ·exact rt [.tmp 4] f
 exact rt [.tmp 4] f
theorem Bg (a0 : Zm) (a1 : Int) : Sa 12 [a0.row, rI a1] [rI (ql a0 a1)] := by
 have f := me (ql.eq_1 a0 a1)
 refine so Tryz.func12 Tryz.ntmps12 ?_
 refine cRs (IS a0.Doc a1) ?_
 refine cF f ?_ ?_ <;> intro k1 h1 f
 ·exact rt [.tmp 4] f
 refine cRs (Fg a0.Z0 (Xk a0.Doc a1)) ?_
 refine cF f ?_ ?_ <;> intro k2 h2 f
 ·exact rt [.tmp 4] f
 exact rt [.tmp 4] f
theorem Cq (a0 : List Zm) (a1 : Int) : Sa 67 [rL 16 Zm.row a0, rI a1] [rI (Kx a0 a1)] := by
 have f := me (Kx.eq_1 a0 a1)
 refine so Tryz.func67 Tryz.ntmps67 ?_
 refine cF f ?_ ?_ <;> intro k1 h1 f
 ·exact rt [.tmp 4] f
 refine lp2 (jD.eq_2 a0) (fun v1_0 v1_1 => YP 27 [eL 0 16 a0 Zm.row, eI 1 v1_0, eI 5 (↑v1_1 : Int)]) (fun n1 v1_0 v1_1 => a0.length < n1 + v1_1 ∧ v1_1 ≤ a0.length) (a0.length + 1) (W (a1 - (↑a0.length : Int))) 0 (fun p1 v1_0 v1_1 e1 j1 => ?_)
 refine cFf e1 ?_ ?_ <;> intro k3 h2 e1
 ·have i1 := ix h2
  have m2 := ml a0 (k3 0 _ rfl)
  have w1 := wr v1_1
  simp [i1, ZA]
  repeat with_reducible refine sd ?_
  refine cRs (Bg (nth a0 v1_1) v1_0) ?_
  refine cF e1 ?_ ?_ <;> intro k4 h3 e1
  ·have f := ms f e1
   exact rt [.tmp 4] f
  exact ny2 w1 e1
 have f := ms f e1
 exact rt [.tmp 4] f
theorem Ht (a0 : Zf) (a1 : Int) : Sa 19 [a0.row, rI a1] [rI (Jf a0 a1)] := by
 have f := me (Jf.eq_1 a0 a1)
 refine so Tryz.func19 Tryz.ntmps19 ?_
 refine cRs (Cq a0.YM a1) ?_
 refine cF f ?_ ?_ <;> intro k1 h1 f
 ·exact rt [.tmp 4] f
 exact rt [.tmp 4] f
theorem L7 (a0 : List Zf) (a1 : Int) : Sa 73 [rL 2 Zf.row a0, rI a1] [rI (YT a0 a1)] := by
 have f := me (YT.eq_1 a0 a1)
 refine so Tryz.func73 Tryz.ntmps73 ?_
 refine cF f ?_ ?_ <;> intro k1 h1 f
 ·exact rt [.tmp 4] f
 refine lp2 (zh.eq_2 a0) (fun v1_0 v1_1 => YP 27 [eL 0 2 a0 Zf.row, eI 1 v1_0, eI 5 (↑v1_1 : Int)]) (fun n1 v1_0 v1_1 => a0.length < n1 + v1_1 ∧ v1_1 ≤ a0.length) (a0.length + 1) (W (a1 - (↑a0.length : Int))) 0 (fun p1 v1_0 v1_1 e1 j1 => ?_)
 refine cFf e1 ?_ ?_ <;> intro k3 h2 e1
 ·have i1 := ix h2
  have m2 := ml a0 (k3 0 _ rfl)
  have w1 := wr v1_1
  simp [i1, ZA]
  repeat with_reducible refine sd ?_
  refine cRs (Ht (nth a0 v1_1) v1_0) ?_
  refine cF e1 ?_ ?_ <;> intro k4 h3 e1
  ·have f := ms f e1
   exact rt [.tmp 4] f
  exact ny2 w1 e1
 have f := ms f e1
 exact rt [.tmp 4] f
theorem NR (a0 : Zo) (a1 : Int) : Sa 24 [a0.row, rI a1] [rI (QX a0 a1)] := by
 have f := me (QX.eq_1 a0 a1)
 refine so Tryz.func24 Tryz.ntmps24 ?_
 refine cRs (DZ a0.Frame a1) ?_
 refine cF f ?_ ?_ <;> intro k1 h1 f
 ·exact rt [.tmp 4] f
 refine cRs (Dv a0.Yg (Z6 a0.Frame a1)) ?_
 refine cF f ?_ ?_ <;> intro k2 h2 f
 ·exact rt [.tmp 4] f
 refine cRs (jS a0.YW (YO a0.Yg (Z6 a0.Frame a1))) ?_
 refine cF f ?_ ?_ <;> intro k3 h3 f
 ·exact rt [.tmp 4] f
 refine cRs (L7 a0.ZJ (Zp a0.YW (YO a0.Yg (Z6 a0.Frame a1)))) ?_
 refine cF f ?_ ?_ <;> intro k4 h4 f
 ·exact rt [.tmp 4] f
 refine cRs (jS a0.J8 (YT a0.ZJ (Zp a0.YW (YO a0.Yg (Z6 a0.Frame a1))))) ?_
 refine cF f ?_ ?_ <;> intro k5 h5 f
 ·exact rt [.tmp 4] f
 refine cRs (jS a0.Q6 (Zp a0.J8 (YT a0.ZJ (Zp a0.YW (YO a0.Yg (Z6 a0.Frame a1)))))) ?_
 refine cF f ?_ ?_ <;> intro k6 h6 f
 ·exact rt [.tmp 4] f
 refine cRs (jS a0.QP (Zp a0.Q6 (Zp a0.J8 (YT a0.ZJ (Zp a0.YW (YO a0.Yg (Z6 a0.Frame a1))))))) ?_
 refine cF f ?_ ?_ <;> intro k7 h7 f
 ·exact rt [.tmp 4] f
 exact rt [.tmp 4] f
theorem wi (a0 : Zs) : Sa 99 [a0.row] [(HF a0).row] := by
 have f := me (HF.eq_1 a0)
 refine so Tryz.func99 Tryz.ntmps99 ?_
 exact rt [.cell 2 146] f
theorem Bm (a0 : Zs) : Sa 99 [a0.row] [a0.row] := by
  have h := wi a0
  rwa [Qj] at h
theorem Bv (a0 : List Zs) (u0 : Sm 2338816 a0) : Sd 52 [rL 5 Zs.row a0] [rL 5 Zs.row (FY a0)] := by
 have f := me (FY.eq_1 a0)
 have c1 := sl 2338816 a0 u0
 refine soD Tryz.func52 Tryz.ntmps52 ?_
 refine lp2 (S6.eq_2 a0) (fun v1_0 v1_1 => YP 23 [eL 0 5 a0 Zs.row, (3, .one (.sref 7 0 0 v1_1.length), []), eI 4 (↑v1_0 : Int), (7, .any, [.arr false 5 (v1_1.map Zs.row)])]) (fun n1 v1_0 v1_1 => a0.length < n1 + v1_0 ∧ v1_0 ≤ a0.length ∧ v1_1.length = a0.length) (a0.length + 1) 0 (List.replicate a0.length (Zs.mk 0 0 0 0 0)) (fun p1 v1_0 v1_1 e1 j1 => ?_)
 refine cFf e1 ?_ ?_ <;> intro k2 h1 e1
 ·have i1 := ix h1
  have m2 := ml a0 (k2 0 _ rfl)
  have w1 := wr v1_0
  simp [i1, ZA]
  repeat with_reducible refine sd ?_
  refine cR (Bm (nth a0 v1_0)) ?_
  have i2 := ik v1_0 v1_1
  simp [i2, ZA, YL (x := (nth a0 v1_0)) rfl]
  repeat with_reducible refine sd ?_
  exact ny2 w1 e1
 have f := ms f e1
 exact rtD [.tmp 2] f
theorem BC (a0 : List Zs) (u0 : Sm 2338816 a0) : Sd 52 [rL 5 Zs.row a0] [rL 5 Zs.row a0] := by
  have h := Bv a0 u0
  rwa [QE] at h
theorem MN (a0 : ZG) : Sa 100 [a0.row] [(WB a0).row] := by
 have f := me (WB.eq_1 a0)
 refine so Tryz.func100 Tryz.ntmps100 ?_
 exact rt [.cell 2 150] f
theorem NM (a0 : ZG) : Sa 100 [a0.row] [a0.row] := by
  have h := MN a0
  rwa [Y6] at h
theorem Oq (a0 : List ZG) (u0 : Sm 2338816 a0) : Sd 53 [rL 3 ZG.row a0] [rL 3 ZG.row (UB a0)] := by
 have f := me (UB.eq_1 a0)
 have c1 := sl 2338816 a0 u0
 refine soD Tryz.func53 Tryz.ntmps53 ?_
 refine lp2 (xp.eq_2 a0) (fun v1_0 v1_1 => YP 23 [eL 0 3 a0 ZG.row, (3, .one (.sref 7 0 0 v1_1.length), []), eI 4 (↑v1_0 : Int), (7, .any, [.arr false 3 (v1_1.map ZG.row)])]) (fun n1 v1_0 v1_1 => a0.length < n1 + v1_0 ∧ v1_0 ≤ a0.length ∧ v1_1.length = a0.length) (a0.length + 1) 0 (List.replicate a0.length (ZG.mk 0 0 0)) (fun p1 v1_0 v1_1 e1 j1 => ?_)
 refine cFf e1 ?_ ?_ <;> intro k2 h1 e1
 ·have i1 := ix h1
  have m2 := ml a0 (k2 0 _ rfl)
  have w1 := wr v1_0
  simp [i1, ZA]
  repeat with_reducible refine sd ?_
  refine cR (NM (nth a0 v1_0)) ?_
  have i2 := ik v1_0 v1_1
  simp [i2, ZA, YL (x := (nth a0 v1_0)) rfl]
  repeat with_reducible refine sd ?_
  exact ny2 w1 e1
 have f := ms f e1
 exact rtD [.tmp 2] f
theorem OT (a0 : List ZG) (u0 : Sm 2338816 a0) : Sd 53 [rL 3 ZG.row a0] [rL 3 ZG.row a0] := by
  have h := Oq a0 u0
  rwa [Y1] at h
theorem EU (a0 : Zh) : Sa 101 [a0.row] [(SS a0).row] := by
 have f := me (SS.eq_1 a0)
 refine so Tryz.func101 Tryz.ntmps101 ?_
 exact rt [.cell 2 154] f
theorem FL (a0 : Zh) : Sa 101 [a0.row] [a0.row] := by
  have h := EU a0
  rwa [Xb] at h
theorem GY (a0 : List Zh) (u0 : Sm 2338816 a0) : Sd 54 [rL 4 Zh.row a0] [rL 4 Zh.row (R6 a0)] := by
 have f := me (R6.eq_1 a0)
 have c1 := sl 2338816 a0 u0
 refine soD Tryz.func54 Tryz.ntmps54 ?_
 refine lp2 (WE.eq_2 a0) (fun v1_0 v1_1 => YP 23 [eL 0 4 a0 Zh.row, (3, .one (.sref 7 0 0 v1_1.length), []), eI 4 (↑v1_0 : Int), (7, .any, [.arr false 4 (v1_1.map Zh.row)])]) (fun n1 v1_0 v1_1 => a0.length < n1 + v1_0 ∧ v1_0 ≤ a0.length ∧ v1_1.length = a0.length) (a0.length + 1) 0 (List.replicate a0.length (Zh.mk 0 0 0 0)) (fun p1 v1_0 v1_1 e1 j1 => ?_)
 refine cFf e1 ?_ ?_ <;> intro k2 h1 e1
 ·have i1 := ix h1
  have m2 := ml a0 (k2 0 _ rfl)
  have w1 := wr v1_0
  simp [i1, ZA]
  repeat with_reducible refine sd ?_
  refine cR (FL (nth a0 v1_0)) ?_
  have i2 := ik v1_0 v1_1
  simp [i2, ZA, YL (x := (nth a0 v1_0)) rfl]
  repeat with_reducible refine sd ?_
  exact ny2 w1 e1
 have f := ms f e1
 exact rtD [.tmp 2] f
theorem IJ (a0 : List Zh) (u0 : Sm 2338816 a0) : Sd 54 [rL 4 Zh.row a0] [rL 4 Zh.row a0] := by
  have h := GY a0 u0
  rwa [XM] at h
theorem Dg (a0 : ZI) (u0 : Sm 2334720 a0) : Sd 14 [a0.row] [(Pv a0).row] := by
 have f := me (Pv.eq_1 a0)
 refine soD Tryz.func14 Tryz.ntmps14 ?_
 refine cDs [false] (BC a0.YY (sg (ZI.Ye u0))) ?_
 refine cDs [false] (OT a0.ZN (sg (ZI.Q7 u0))) ?_
 refine cDs [false] (IJ a0.Methods (sg (ZI.YH u0))) ?_
 exact rtD [.cell 2 46] f
theorem F4 (a0 : ZI) (u0 : Sm 2334720 a0) : Sd 14 [a0.row] [a0.row] := by
  have h := Dg a0 u0
  rwa [Xm] at h
theorem Aj (a0 : Zn) : Sa 116 [a0.row] [(Nm a0).row] := by
 have f := me (Nm.eq_1 a0)
 refine so Tryz.func116 Tryz.ntmps116 ?_
 exact rt [.cell 2 168] f
theorem Dp (a0 : Zn) : Sa 116 [a0.row] [a0.row] := by
  have h := Aj a0
  rwa [X7] at h
theorem Dh (a0 : List Zn) (u0 : Sm 2338816 a0) : Sd 75 [rL 7 Zn.row a0] [rL 7 Zn.row (Mc a0)] := by
 have f := me (Mc.eq_1 a0)
 have c1 := sl 2338816 a0 u0
 refine soD Tryz.func75 Tryz.ntmps75 ?_
 refine lp2 (U8.eq_2 a0) (fun v1_0 v1_1 => YP 23 [eL 0 7 a0 Zn.row, (3, .one (.sref 7 0 0 v1_1.length), []), eI 4 (↑v1_0 : Int), (7, .any, [.arr false 7 (v1_1.map Zn.row)])]) (fun n1 v1_0 v1_1 => a0.length < n1 + v1_0 ∧ v1_0 ≤ a0.length ∧ v1_1.length = a0.length) (a0.length + 1) 0 (List.replicate a0.length (Zn.mk 0 0 0 0 0 0 0)) (fun p1 v1_0 v1_1 e1 j1 => ?_)
 refine cFf e1 ?_ ?_ <;> intro k2 h1 e1
 ·have i1 := ix h1
  have m2 := ml a0 (k2 0 _ rfl)
  have w1 := wr v1_0
  simp [i1, ZA]
  repeat with_reducible refine sd ?_
  refine cR (Dp (nth a0 v1_0)) ?_
  have i2 := ik v1_0 v1_1
  simp [i2, ZA, YL (x := (nth a0 v1_0)) rfl]
  repeat with_reducible refine sd ?_
  exact ny2 w1 e1
 have f := ms f e1
 exact rtD [.tmp 2] f
theorem Ff (a0 : List Zn) (u0 : Sm 2338816 a0) : Sd 75 [rL 7 Zn.row a0] [rL 7 Zn.row a0] := by
  have h := Dh a0 u0
  rwa [Xq] at h
theorem BY (a0 : List Int) (u0 : Sm 2342912 a0) : Sd 76 [rL 1 iR a0] [rL 1 iR (GS a0)] := by
 have f := me (GS.eq_1 a0)
 have c1 := sl 2342912 a0 u0
 refine soD Tryz.func76 Tryz.ntmps76 ?_
 refine lp2 (Sw.eq_2 a0) (fun v1_0 v1_1 => YP 22 [eL 0 1 a0 iR, (3, .one (.sref 7 0 0 v1_1.length), []), eI 4 (↑v1_0 : Int), (7, .any, [.arr false 1 (v1_1.map iR)])]) (fun n1 v1_0 v1_1 => a0.length < n1 + v1_0 ∧ v1_0 ≤ a0.length ∧ v1_1.length = a0.length) (a0.length + 1) 0 (List.replicate a0.length 0) (fun p1 v1_0 v1_1 e1 j1 => ?_)
 refine cFf e1 ?_ ?_ <;> intro k2 h1 e1
 ·have i1 := ix h1
  have m2 := ml a0 (k2 0 _ rfl)
  have w1 := wr v1_0
  have i2 := ik v1_0 v1_1
  simp [i1, ZA, i2, YL (x := (nth a0 v1_0)) rfl]
  repeat with_reducible refine sd ?_
  exact ny2 w1 e1
 have f := ms f e1
 exact rtD [.tmp 2] f
theorem qH (a0 : List Int) (u0 : Sm 2342912 a0) : Sd 76 [rL 1 iR a0] [rL 1 iR a0] := by
  have h := BY a0 u0
  rwa [QC] at h
theorem FK (a0 : List ByteArray) (u0 : Sm 2342912 a0) : Sd 102 [rL 1 sR a0] [rL 1 sR (Rq a0)] := by
 have f := me (Rq.eq_1 a0)
 have c1 := sl 2342912 a0 u0
 refine soD Tryz.func102 Tryz.ntmps102 ?_
 refine lp2 (ky.eq_2 a0) (fun v1_0 v1_1 => YP 22 [eL 0 1 a0 sR, (3, .one (.sref 7 0 0 v1_1.length), []), eI 4 (↑v1_0 : Int), (7, .any, [.arr false 1 (v1_1.map sR)])]) (fun n1 v1_0 v1_1 => a0.length < n1 + v1_0 ∧ v1_0 ≤ a0.length ∧ v1_1.length = a0.length) (a0.length + 1) 0 (List.replicate a0.length (⟨#[]⟩ : ByteArray)) (fun p1 v1_0 v1_1 e1 j1 => ?_)
 refine cFf e1 ?_ ?_ <;> intro k2 h1 e1
 ·have i1 := ix h1
  have m2 := ml a0 (k2 0 _ rfl)
  have w1 := wr v1_0
  have i2 := ik v1_0 v1_1
  simp [i1, ZA, i2, YL (x := (nth a0 v1_0)) rfl]
  repeat with_reducible refine sd ?_
  exact ny2 w1 e1
 have f := ms f e1
 exact rtD [.tmp 2] f
theorem Lm (a0 : List ByteArray) (u0 : Sm 2342912 a0) : Sd 102 [rL 1 sR a0] [rL 1 sR a0] := by
  have h := FK a0 u0
  rwa [XN] at h
theorem L2 (a0 : Zc) (u0 : Sm 2338816 a0) : Sd 55 [a0.row] [(VE a0).row] := by
 have f := me (VE.eq_1 a0)
 refine soD Tryz.func55 Tryz.ntmps55 ?_
 refine cDs [false] (Lm a0.ZQ (sg (Zc.NA u0))) ?_
 refine cDs [false] (qH a0.Zb (sg (Zc.Aa u0))) ?_
 exact rtD [.cell 2 48] f
theorem Mj (a0 : Zc) (u0 : Sm 2338816 a0) : Sd 55 [a0.row] [a0.row] := by
  have h := L2 a0 u0
  rwa [XE] at h
theorem MJ (a0 : ZV) : Sa 56 [a0.row] [(WD a0).row] := by
 have f := me (WD.eq_1 a0)
 refine so Tryz.func56 Tryz.ntmps56 ?_
 exact rt [.cell 2 49] f
theorem NH (a0 : ZV) : Sa 56 [a0.row] [a0.row] := by
  have h := MJ a0
  rwa [Y5] at h
theorem CZ (a0 : ZD) (u0 : Sm 2338816 a0) : Sd 142 [a0.row] [(Pm a0).row] := by
 have f := me (Pm.eq_1 a0)
 refine soD Tryz.func142 Tryz.ntmps142 ?_
 refine cDs [false] (qH a0.Zg (sg (ZD.VP u0))) ?_
 exact rtD [.cell 2 194] f
theorem Fc (a0 : ZD) (u0 : Sm 2338816 a0) : Sd 142 [a0.row] [a0.row] := by
  have h := CZ a0 u0
  rwa [Xo] at h
theorem Fw (a0 : List ZD) (u0 : Sm 2334720 a0) : Sd 103 [rL 3 ZD.row a0] [rL 3 ZD.row (OU a0)] := by
 have f := me (OU.eq_1 a0)
 refine soD Tryz.func103 Tryz.ntmps103 ?_
 have c1 := sl 2334720 a0 u0
 refine r7 (n := a0.length) rfl rfl rfl rfl rfl rfl (by simp) (by simp) (by simp; omega) (by omega) ?_
 simp
 refine lp2 (VD.eq_2 a0) (fun v1_0 v1_1 => YP 23 [eL 0 3 a0 ZD.row, (3, .one (.sref 7 0 0 v1_1.length), []), eI 4 (↑v1_0 : Int), (7, .any, [.arr true 3 (v1_1.map ZD.row)])]) (fun n1 v1_0 v1_1 => a0.length < n1 + v1_0 ∧ v1_0 ≤ a0.length ∧ v1_1.length = a0.length) (a0.length + 1) 0 (List.replicate a0.length (ZD.mk 0 ([] : List Int) 0)) (fun p1 v1_0 v1_1 e1 j1 => ?_)
 refine cFf e1 ?_ ?_ <;> intro k2 h1 e1
 ·have i1 := ix h1
  have m2 := ml a0 (k2 0 _ rfl)
  have w1 := wr v1_0
  simp [i1, ZA]
  repeat with_reducible refine sd ?_
  have i2 := ik v1_0 v1_1
  refine cDf i2 [true, false] (Fc (nth a0 v1_0) (sg (Z3 u0))) ?_
  refine rK (t := 7) (j := 0) (i := v1_0) (c := 0) (size := 3) (rows := (v1_1.map ZD.row)) (ds := (nth a0 v1_0).row) (L := [(20, 1)]) rfl rfl rfl rfl (by simp) (by simp) (by simp; try omega) (by simp) (by simp) (by simp) (by simp) (by simp) (by simp) ?_
  simp [YL (x := (nth a0 v1_0)) rfl, i2, ZA, Z4]
  repeat with_reducible refine sd ?_
  exact ny2 w1 e1
 have f := ms f e1
 exact rtD [.tmp 2] f
theorem HU (a0 : List ZD) (u0 : Sm 2334720 a0) : Sd 103 [rL 3 ZD.row a0] [rL 3 ZD.row a0] := by
  have h := Fw a0 u0
  rwa [Xa] at h
theorem B6 (a0 : Ya) : Sa 257 [a0.row] [(MA a0).row] := by
 have f := me (MA.eq_1 a0)
 refine so Tryz.func257 Tryz.ntmps257 ?_
 exact rt [.cell 2 275] f
theorem Co (a0 : Ya) : Sa 257 [a0.row] [a0.row] := by
  have h := B6 a0
  rwa [QA] at h
theorem CL (a0 : List Ya) (u0 : Sm 2338816 a0) : Sd 191 [rL 2 Ya.row a0] [rL 2 Ya.row (Mn a0)] := by
 have f := me (Mn.eq_1 a0)
 have c1 := sl 2338816 a0 u0
 refine soD Tryz.func191 Tryz.ntmps191 ?_
 refine lp2 (Uj.eq_2 a0) (fun v1_0 v1_1 => YP 23 [eL 0 2 a0 Ya.row, (3, .one (.sref 7 0 0 v1_1.length), []), eI 4 (↑v1_0 : Int), (7, .any, [.arr false 2 (v1_1.map Ya.row)])]) (fun n1 v1_0 v1_1 => a0.length < n1 + v1_0 ∧ v1_0 ≤ a0.length ∧ v1_1.length = a0.length) (a0.length + 1) 0 (List.replicate a0.length (Ya.mk 0 false)) (fun p1 v1_0 v1_1 e1 j1 => ?_)
 refine cFf e1 ?_ ?_ <;> intro k2 h1 e1
 ·have i1 := ix h1
  have m2 := ml a0 (k2 0 _ rfl)
  have w1 := wr v1_0
  simp [i1, ZA]
  repeat with_reducible refine sd ?_
  refine cR (Co (nth a0 v1_0)) ?_
  have i2 := ik v1_0 v1_1
  simp [i2, ZA, YL (x := (nth a0 v1_0)) rfl]
  repeat with_reducible refine sd ?_
  exact ny2 w1 e1
 have f := ms f e1
 exact rtD [.tmp 2] f
theorem Eh (a0 : List Ya) (u0 : Sm 2338816 a0) : Sd 191 [rL 2 Ya.row a0] [rL 2 Ya.row a0] := by
  have h := CL a0 u0
  rwa [Xr] at h
theorem Cl (a0 : ZY) : Sa 258 [a0.row] [(Pu a0).row] := by
 have f := me (Pu.eq_1 a0)
 refine so Tryz.func258 Tryz.ntmps258 ?_
 exact rt [.cell 2 279] f
theorem Ek (a0 : ZY) : Sa 258 [a0.row] [a0.row] := by
  have h := Cl a0
  rwa [Xp] at h
theorem EX (a0 : List ZY) (u0 : Sm 2338816 a0) : Sd 192 [rL 5 ZY.row a0] [rL 5 ZY.row (Oc a0)] := by
 have f := me (Oc.eq_1 a0)
 have c1 := sl 2338816 a0 u0
 refine soD Tryz.func192 Tryz.ntmps192 ?_
 refine lp2 (VT.eq_2 a0) (fun v1_0 v1_1 => YP 23 [eL 0 5 a0 ZY.row, (3, .one (.sref 7 0 0 v1_1.length), []), eI 4 (↑v1_0 : Int), (7, .any, [.arr false 5 (v1_1.map ZY.row)])]) (fun n1 v1_0 v1_1 => a0.length < n1 + v1_0 ∧ v1_0 ≤ a0.length ∧ v1_1.length = a0.length) (a0.length + 1) 0 (List.replicate a0.length (ZY.mk 0 0 0 0 0)) (fun p1 v1_0 v1_1 e1 j1 => ?_)
 refine cFf e1 ?_ ?_ <;> intro k2 h1 e1
 ·have i1 := ix h1
  have m2 := ml a0 (k2 0 _ rfl)
  have w1 := wr v1_0
  simp [i1, ZA]
  repeat with_reducible refine sd ?_
  refine cR (Ek (nth a0 v1_0)) ?_
  have i2 := ik v1_0 v1_1
  simp [i2, ZA, YL (x := (nth a0 v1_0)) rfl]
  repeat with_reducible refine sd ?_
  exact ny2 w1 e1
 have f := ms f e1
 exact rtD [.tmp 2] f
theorem GQ (a0 : List ZY) (u0 : Sm 2338816 a0) : Sd 192 [rL 5 ZY.row a0] [rL 5 ZY.row a0] := by
  have h := EX a0 u0
  rwa [Xc] at h
theorem FG (a0 : ZK) (u0 : Sm 2334720 a0) : Sd 143 [a0.row] [(Un a0).row] := by
 have f := me (Un.eq_1 a0)
 refine soD Tryz.func143 Tryz.ntmps143 ?_
 refine cDs [false] (Eh a0.Path (sg (ZK.rT u0))) ?_
 refine cDs [false] (GQ a0.Zj (sg (ZK.P1 u0))) ?_
 exact rtD [.cell 2 199] f
theorem IW (a0 : ZK) (u0 : Sm 2334720 a0) : Sd 143 [a0.row] [a0.row] := by
  have h := FG a0 u0
  rwa [XO] at h
theorem Ic (a0 : List ZK) (u0 : Sm 2330624 a0) : Sd 104 [rL 5 ZK.row a0] [rL 5 ZK.row (Si a0)] := by
 have f := me (Si.eq_1 a0)
 refine soD Tryz.func104 Tryz.ntmps104 ?_
 have c1 := sl 2330624 a0 u0
 refine r7 (n := a0.length) rfl rfl rfl rfl rfl rfl (by simp) (by simp) (by simp; omega) (by omega) ?_
 simp
 refine lp2 (jc.eq_2 a0) (fun v1_0 v1_1 => YP 23 [eL 0 5 a0 ZK.row, (3, .one (.sref 7 0 0 v1_1.length), []), eI 4 (↑v1_0 : Int), (7, .any, [.arr true 5 (v1_1.map ZK.row)])]) (fun n1 v1_0 v1_1 => a0.length < n1 + v1_0 ∧ v1_0 ≤ a0.length ∧ v1_1.length = a0.length) (a0.length + 1) 0 (List.replicate a0.length (ZK.mk 0 0 0 ([] : List Ya) ([] : List ZY))) (fun p1 v1_0 v1_1 e1 j1 => ?_)
 refine cFf e1 ?_ ?_ <;> intro k2 h1 e1
 ·have i1 := ix h1
  have m2 := ml a0 (k2 0 _ rfl)
  have w1 := wr v1_0
  simp [i1, ZA]
  repeat with_reducible refine sd ?_
  have i2 := ik v1_0 v1_1
  refine cDf i2 [true, true, true, false, false] (IW (nth a0 v1_0) (sg (Z3 u0))) ?_
  refine rK (t := 7) (j := 0) (i := v1_0) (c := 0) (size := 5) (rows := (v1_1.map ZK.row)) (ds := (nth a0 v1_0).row) (L := [(20, 3), (20, 4)]) rfl rfl rfl rfl (by simp) (by simp) (by simp; try omega) (by simp) (by simp) (by simp) (by simp) (by simp) (by simp) ?_
  simp [YL (x := (nth a0 v1_0)) rfl, i2, ZA, Z4]
  repeat with_reducible refine sd ?_
  exact ny2 w1 e1
 have f := ms f e1
 exact rtD [.tmp 2] f
theorem MP (a0 : List ZK) (u0 : Sm 2330624 a0) : Sd 104 [rL 5 ZK.row a0] [rL 5 ZK.row a0] := by
  have h := Ic a0 u0
  rwa [XC] at h
theorem EW (a0 : ZP) (u0 : Sm 2326528 a0) : Sd 57 [a0.row] [(Sv a0).row] := by
 have f := me (Sv.eq_1 a0)
 refine soD Tryz.func57 Tryz.ntmps57 ?_
 refine cDs [] (HU a0.Zd (sg (ZP.Yy u0))) ?_
 refine cDs [] (MP a0.ZX (sg (ZP.Qc u0))) ?_
 exact rtD [.cell 2 53] f
theorem Hs (a0 : ZP) (u0 : Sm 2326528 a0) : Sd 57 [a0.row] [a0.row] := by
  have h := EW a0 u0
  rwa [XZ] at h
theorem BI (a0 : Zm) (u0 : Sm 2322432 a0) : Sd 15 [a0.row] [(Na a0).row] := by
 have f := me (Na.eq_1 a0)
 refine soD Tryz.func15 Tryz.ntmps15 ?_
 refine cDs [true, false, false] (Mj a0.Doc (sg (Zm.Wt u0))) ?_
 refine cRs (NH a0.Sig) ?_
 refine cDs [] (Hs a0.Z0 (sg (Zm.Xd u0))) ?_
 exact rtD [.cell 2 55] f
theorem BA (a0 : Zm) (u0 : Sm 2322432 a0) : Sd 15 [a0.row] [a0.row] := by
  have h := BI a0 u0
  rwa [X8] at h
theorem Cx (a0 : List Zm) (u0 : Sm 2318336 a0) : Sd 68 [rL 16 Zm.row a0] [rL 16 Zm.row (M5 a0)] := by
 have f := me (M5.eq_1 a0)
 refine soD Tryz.func68 Tryz.ntmps68 ?_
 have c1 := sl 2318336 a0 u0
 refine r7 (n := a0.length) rfl rfl rfl rfl rfl rfl (by simp) (by simp) (by simp; omega) (by omega) ?_
 simp
 refine lp2 (U0.eq_2 a0) (fun v1_0 v1_1 => YP 23 [eL 0 16 a0 Zm.row, (3, .one (.sref 7 0 0 v1_1.length), []), eI 4 (↑v1_0 : Int), (7, .any, [.arr true 16 (v1_1.map Zm.row)])]) (fun n1 v1_0 v1_1 => a0.length < n1 + v1_0 ∧ v1_0 ≤ a0.length ∧ v1_1.length = a0.length) (a0.length + 1) 0 (List.replicate a0.length (Zm.mk 0 0 (Zc.mk 0 ([] : List ByteArray) ([] : List Int)) (ZV.mk 0 0 0 0 0 0 0 0 0) (ZP.mk ([] : List ZD) ([] : List ZK)))) (fun p1 v1_0 v1_1 e1 j1 => ?_)
 refine cFf e1 ?_ ?_ <;> intro k2 h1 e1
 ·have i1 := ix h1
  have m2 := ml a0 (k2 0 _ rfl)
  have w1 := wr v1_0
  simp [i1, ZA]
  repeat with_reducible refine sd ?_
  have i2 := ik v1_0 v1_1
  refine cDf i2 [true, true, true, false, false] (BA (nth a0 v1_0) (sg (Z3 u0))) ?_
  refine rK (t := 7) (j := 0) (i := v1_0) (c := 0) (size := 16) (rows := (v1_1.map Zm.row)) (ds := (nth a0 v1_0).row) (L := [(20, 3), (20, 4), (20, 14), (20, 15)]) rfl rfl rfl rfl (by simp) (by simp) (by simp; try omega) (by simp) (by simp) (by simp) (by simp) (by simp) (by simp) ?_
  simp [YL (x := (nth a0 v1_0)) rfl, i2, ZA, Z4]
  repeat with_reducible refine sd ?_
  exact ny2 w1 e1
 have f := ms f e1
 exact rtD [.tmp 2] f
theorem F9 (a0 : List Zm) (u0 : Sm 2318336 a0) : Sd 68 [rL 16 Zm.row a0] [rL 16 Zm.row a0] := by
  have h := Cx a0 u0
  rwa [Xt] at h
theorem Gn (a0 : Zf) (u0 : Sm 2314240 a0) : Sd 21 [a0.row] [(Ux a0).row] := by
 have f := me (Ux.eq_1 a0)
 refine soD Tryz.func21 Tryz.ntmps21 ?_
 refine cDs [] (F9 a0.YM (sg (Zf.Rs u0))) ?_
 exact rtD [.cell 2 67] f
theorem Ii (a0 : Zf) (u0 : Sm 2314240 a0) : Sd 21 [a0.row] [a0.row] := by
  have h := Gn a0 u0
  rwa [XL] at h
theorem IY (a0 : List Zf) (u0 : Sm 2310144 a0) : Sd 77 [rL 2 Zf.row a0] [rL 2 Zf.row (RJ a0)] := by
 have f := me (RJ.eq_1 a0)
 refine soD Tryz.func77 Tryz.ntmps77 ?_
 have c1 := sl 2310144 a0 u0
 refine r7 (n := a0.length) rfl rfl rfl rfl rfl rfl (by simp) (by simp) (by simp; omega) (by omega) ?_
 simp
 refine lp2 (jz.eq_2 a0) (fun v1_0 v1_1 => YP 23 [eL 0 2 a0 Zf.row, (3, .one (.sref 7 0 0 v1_1.length), []), eI 4 (↑v1_0 : Int), (7, .any, [.arr true 2 (v1_1.map Zf.row)])]) (fun n1 v1_0 v1_1 => a0.length < n1 + v1_0 ∧ v1_0 ≤ a0.length ∧ v1_1.length = a0.length) (a0.length + 1) 0 (List.replicate a0.length (Zf.mk 0 ([] : List Zm))) (fun p1 v1_0 v1_1 e1 j1 => ?_)
 refine cFf e1 ?_ ?_ <;> intro k2 h1 e1
 ·have i1 := ix h1
  have m2 := ml a0 (k2 0 _ rfl)
  have w1 := wr v1_0
  simp [i1, ZA]
  repeat with_reducible refine sd ?_
  have i2 := ik v1_0 v1_1
  refine cDf i2 [] (Ii (nth a0 v1_0) (sg (Z3 u0))) ?_
  refine rK (t := 7) (j := 0) (i := v1_0) (c := 0) (size := 2) (rows := (v1_1.map Zf.row)) (ds := (nth a0 v1_0).row) (L := [(20, 1)]) rfl rfl rfl rfl (by simp) (by simp) (by simp; try omega) (by simp) (by simp) (by simp) (by simp) (by simp) (by simp) ?_
  simp [YL (x := (nth a0 v1_0)) rfl, i2, ZA, Z4]
  repeat with_reducible refine sd ?_
  exact ny2 w1 e1
 have f := ms f e1
 exact rtD [.tmp 2] f
theorem MZ (a0 : List Zf) (u0 : Sm 2310144 a0) : Sd 77 [rL 2 Zf.row a0] [rL 2 Zf.row a0] := by
  have h := IY a0 u0
  rwa [XD] at h
theorem CC (a0 : Zo) (u0 : Sm 2306048 a0) : Sd 26 [a0.row] [(Pn a0).row] := by
 have f := me (Pn.eq_1 a0)
 refine soD Tryz.func26 Tryz.ntmps26 ?_
 refine cDs [false, false, false] (F4 a0.Frame (sg (Zo.GC u0))) ?_
 refine cDs [false] (Ff a0.Yg (sg (Zo.sS u0))) ?_
 refine cDs [false] (qH a0.YW (sg (Zo.si u0))) ?_
 refine cDs [] (MZ a0.ZJ (sg (Zo.Uh u0))) ?_
 refine cDs [false] (qH a0.J8 (sg (Zo.rl u0))) ?_
 refine cDs [false] (qH a0.Q6 (sg (Zo.tE u0))) ?_
 refine cDs [false] (qH a0.QP (sg (Zo.uD u0))) ?_
 exact rtD [.cell 2 84] f
theorem KP (a0 : Zo) (u0 : Sm 2306048 a0) : Sd 26 [a0.row] [a0.row] := by
  have h := CC a0 u0
  rwa [Xn] at h
theorem JF (a0 : List Int) (a1 : List Int) : Sa 36 [rL 1 iR a0, rL 1 iR a1] [rB (KC a0 a1)] := by
 have f := me (KC.eq_1 a0 a1)
 refine so Tryz.func36 Tryz.ntmps36 ?_
 refine cF f ?_ ?_ <;> intro k1 h1 f
 ·exact rt [.tmp 4] f
 refine lp1 (Sr.eq_2 a0 a1) (fun v1_0 => YP 26 [eL 0 1 a0 iR, eL 1 1 a1 iR, eI 5 (↑v1_0 : Int)]) (fun n1 v1_0 => a0.length < n1 + v1_0 ∧ v1_0 ≤ a0.length) (a0.length + 1) 0 (fun p1 v1_0 e1 j1 => ?_)
 refine cF e1 ?_ ?_ <;> intro k3 h2 e1
 ·have i1 := ix h2
  have m2 := ml a0 (k3 0 _ rfl)
  have w1 := wr v1_0
  refine dIo mixed ?_
  have i2 := ik v1_0 a1
  simp [i1, ZA, i2]
  repeat with_reducible refine sd ?_
  refine cF e1 ?_ ?_ <;> intro k5 h3 e1
  ·have f := ms f e1
   exact rt [.tmp 4] f
  exact ny1 w1 e1
 have f := ms f e1
 exact rt [.tmp 4] f
theorem wA (a0 : Zs) (a1 : Zs) : Sa 109 [a0.row, a1.row] [rB (Ph a0 a1)] := by
 have f := me (Ph.eq_1 a0 a1)
 refine so Tryz.func109 Tryz.ntmps109 ?_
 refine cF f ?_ ?_ <;> intro k1 h1 f
 ·exact rt [.tmp 4] f
 refine cF f ?_ ?_ <;> intro k2 h2 f
 ·exact rt [.tmp 4] f
 refine cF f ?_ ?_ <;> intro k3 h3 f
 ·exact rt [.tmp 4] f
 refine cF f ?_ ?_ <;> intro k4 h4 f
 ·exact rt [.tmp 4] f
 refine cF f ?_ ?_ <;> intro k5 h5 f
 ·exact rt [.tmp 4] f
 exact rt [.tmp 4] f
theorem B5 (a0 : List Zs) (a1 : List Zs) : Sa 61 [rL 5 Zs.row a0, rL 5 Zs.row a1] [rB (PR a0 a1)] := by
 have f := me (PR.eq_1 a0 a1)
 refine so Tryz.func61 Tryz.ntmps61 ?_
 refine cF f ?_ ?_ <;> intro k1 h1 f
 ·exact rt [.tmp 4] f
 refine lp1 (SU.eq_2 a0 a1) (fun v1_0 => YP 27 [eL 0 5 a0 Zs.row, eL 1 5 a1 Zs.row, eI 5 (↑v1_0 : Int)]) (fun n1 v1_0 => a0.length < n1 + v1_0 ∧ v1_0 ≤ a0.length) (a0.length + 1) 0 (fun p1 v1_0 e1 j1 => ?_)
 refine cF e1 ?_ ?_ <;> intro k3 h2 e1
 ·have i1 := ix h2
  have m2 := ml a0 (k3 0 _ rfl)
  have w1 := wr v1_0
  refine dIo mixed ?_
  have i2 := ik v1_0 a1
  simp [i1, ZA, i2]
  repeat with_reducible refine sd ?_
  refine cRs (wA (nth a0 v1_0) (nth a1 v1_0)) ?_
  refine cF e1 ?_ ?_ <;> intro k5 h3 e1
  ·have f := ms f e1
   exact rt [.tmp 4] f
  exact ny1 w1 e1
 have f := ms f e1
 exact rt [.tmp 4] f
theorem MW (a0 : ZG) (a1 : ZG) : Sa 110 [a0.row, a1.row] [rB (yz a0 a1)] := by
 have f := me (yz.eq_1 a0 a1)
 refine so Tryz.func110 Tryz.ntmps110 ?_
 refine cF f ?_ ?_ <;> intro k1 h1 f
 ·exact rt [.tmp 4] f
 refine cF f ?_ ?_ <;> intro k2 h2 f
 ·exact rt [.tmp 4] f
 refine cF f ?_ ?_ <;> intro k3 h3 f
 ·exact rt [.tmp 4] f
 exact rt [.tmp 4] f
theorem Nu (a0 : List ZG) (a1 : List ZG) : Sa 62 [rL 3 ZG.row a0, rL 3 ZG.row a1] [rB (xk a0 a1)] := by
 have f := me (xk.eq_1 a0 a1)
 refine so Tryz.func62 Tryz.ntmps62 ?_
 refine cF f ?_ ?_ <;> intro k1 h1 f
 ·exact rt [.tmp 4] f
 refine lp1 (qK.eq_2 a0 a1) (fun v1_0 => YP 27 [eL 0 3 a0 ZG.row, eL 1 3 a1 ZG.row, eI 5 (↑v1_0 : Int)]) (fun n1 v1_0 => a0.length < n1 + v1_0 ∧ v1_0 ≤ a0.length) (a0.length + 1) 0 (fun p1 v1_0 e1 j1 => ?_)
 refine cF e1 ?_ ?_ <;> intro k3 h2 e1
 ·have i1 := ix h2
  have m2 := ml a0 (k3 0 _ rfl)
  have w1 := wr v1_0
  refine dIo mixed ?_
  have i2 := ik v1_0 a1
  simp [i1, ZA, i2]
  repeat with_reducible refine sd ?_
  refine cRs (MW (nth a0 v1_0) (nth a1 v1_0)) ?_
  refine cF e1 ?_ ?_ <;> intro k5 h3 e1
  ·have f := ms f e1
   exact rt [.tmp 4] f
  exact ny1 w1 e1
 have f := ms f e1
 exact rt [.tmp 4] f
theorem ET (a0 : Zh) (a1 : Zh) : Sa 111 [a0.row, a1.row] [rB (kU a0 a1)] := by
 have f := me (kU.eq_1 a0 a1)
 refine so Tryz.func111 Tryz.ntmps111 ?_
 refine cF f ?_ ?_ <;> intro k1 h1 f
 ·exact rt [.tmp 4] f
 refine cF f ?_ ?_ <;> intro k2 h2 f
 ·exact rt [.tmp 4] f
 refine cF f ?_ ?_ <;> intro k3 h3 f
 ·exact rt [.tmp 4] f
 refine cF f ?_ ?_ <;> intro k4 h4 f
 ·exact rt [.tmp 4] f
 exact rt [.tmp 4] f
theorem GN (a0 : List Zh) (a1 : List Zh) : Sa 63 [rL 4 Zh.row a0, rL 4 Zh.row a1] [rB (Wi a0 a1)] := by
 have f := me (Wi.eq_1 a0 a1)
 refine so Tryz.func63 Tryz.ntmps63 ?_
 refine cF f ?_ ?_ <;> intro k1 h1 f
 ·exact rt [.tmp 4] f
 refine lp1 (kv.eq_2 a0 a1) (fun v1_0 => YP 27 [eL 0 4 a0 Zh.row, eL 1 4 a1 Zh.row, eI 5 (↑v1_0 : Int)]) (fun n1 v1_0 => a0.length < n1 + v1_0 ∧ v1_0 ≤ a0.length) (a0.length + 1) 0 (fun p1 v1_0 e1 j1 => ?_)
 refine cF e1 ?_ ?_ <;> intro k3 h2 e1
 ·have i1 := ix h2
  have m2 := ml a0 (k3 0 _ rfl)
  have w1 := wr v1_0
  refine dIo mixed ?_
  have i2 := ik v1_0 a1
  simp [i1, ZA, i2]
  repeat with_reducible refine sd ?_
  refine cRs (ET (nth a0 v1_0) (nth a1 v1_0)) ?_
  refine cF e1 ?_ ?_ <;> intro k5 h3 e1
  ·have f := ms f e1
   exact rt [.tmp 4] f
  exact ny1 w1 e1
 have f := ms f e1
 exact rt [.tmp 4] f
theorem CB (a0 : ZI) (a1 : ZI) : Sa 17 [a0.row, a1.row] [rB (Tb a0 a1)] := by
 have f := me (Tb.eq_1 a0 a1)
 refine so Tryz.func17 Tryz.ntmps17 ?_
 refine cRs (B5 a0.YY a1.YY) ?_
 refine cF f ?_ ?_ <;> intro k1 h1 f
 ·exact rt [.tmp 4] f
 refine cRs (Nu a0.ZN a1.ZN) ?_
 refine cF f ?_ ?_ <;> intro k2 h2 f
 ·exact rt [.tmp 4] f
 refine cRs (GN a0.Methods a1.Methods) ?_
 refine cF f ?_ ?_ <;> intro k3 h3 f
 ·exact rt [.tmp 4] f
 refine cF f ?_ ?_ <;> intro k4 h4 f
 ·exact rt [.tmp 4] f
 refine cF f ?_ ?_ <;> intro k5 h5 f
 ·exact rt [.tmp 4] f
 exact rt [.tmp 4] f
theorem Af (a0 : Zn) (a1 : Zn) : Sa 118 [a0.row, a1.row] [rB (Tx a0 a1)] := by
 have f := me (Tx.eq_1 a0 a1)
 refine so Tryz.func118 Tryz.ntmps118 ?_
 refine cF f ?_ ?_ <;> intro k1 h1 f
 ·exact rt [.tmp 4] f
 refine cF f ?_ ?_ <;> intro k2 h2 f
 ·exact rt [.tmp 4] f
 refine cF f ?_ ?_ <;> intro k3 h3 f
 ·exact rt [.tmp 4] f
 refine cF f ?_ ?_ <;> intro k4 h4 f
 ·exact rt [.tmp 4] f
 refine cF f ?_ ?_ <;> intro k5 h5 f
 ·exact rt [.tmp 4] f
 refine cF f ?_ ?_ <;> intro k6 h6 f
 ·exact rt [.tmp 4] f
 refine cF f ?_ ?_ <;> intro k7 h7 f
 ·exact rt [.tmp 4] f
 exact rt [.tmp 4] f
theorem Ch (a0 : List Zn) (a1 : List Zn) : Sa 80 [rL 7 Zn.row a0, rL 7 Zn.row a1] [rB (T8 a0 a1)] := by
 have f := me (T8.eq_1 a0 a1)
 refine so Tryz.func80 Tryz.ntmps80 ?_
 refine cF f ?_ ?_ <;> intro k1 h1 f
 ·exact rt [.tmp 4] f
 refine lp1 (Um.eq_2 a0 a1) (fun v1_0 => YP 27 [eL 0 7 a0 Zn.row, eL 1 7 a1 Zn.row, eI 5 (↑v1_0 : Int)]) (fun n1 v1_0 => a0.length < n1 + v1_0 ∧ v1_0 ≤ a0.length) (a0.length + 1) 0 (fun p1 v1_0 e1 j1 => ?_)
 refine cF e1 ?_ ?_ <;> intro k3 h2 e1
 ·have i1 := ix h2
  have m2 := ml a0 (k3 0 _ rfl)
  have w1 := wr v1_0
  refine dIo mixed ?_
  have i2 := ik v1_0 a1
  simp [i1, ZA, i2]
  repeat with_reducible refine sd ?_
  refine cRs (Af (nth a0 v1_0) (nth a1 v1_0)) ?_
  refine cF e1 ?_ ?_ <;> intro k5 h3 e1
  ·have f := ms f e1
   exact rt [.tmp 4] f
  exact ny1 w1 e1
 have f := ms f e1
 exact rt [.tmp 4] f
theorem Gz (a0 : List ByteArray) (a1 : List ByteArray) : Sa 112 [rL 1 sR a0, rL 1 sR a1] [rB (Wf a0 a1)] := by
 have f := me (Wf.eq_1 a0 a1)
 refine so Tryz.func112 Tryz.ntmps112 ?_
 refine cF f ?_ ?_ <;> intro k1 h1 f
 ·exact rt [.tmp 4] f
 refine lp1 (kr.eq_2 a0 a1) (fun v1_0 => YP 26 [eL 0 1 a0 sR, eL 1 1 a1 sR, eI 5 (↑v1_0 : Int)]) (fun n1 v1_0 => a0.length < n1 + v1_0 ∧ v1_0 ≤ a0.length) (a0.length + 1) 0 (fun p1 v1_0 e1 j1 => ?_)
 refine cF e1 ?_ ?_ <;> intro k3 h2 e1
 ·have i1 := ix h2
  have m2 := ml a0 (k3 0 _ rfl)
  have w1 := wr v1_0
  refine dIo mixed ?_
  have i2 := ik v1_0 a1
  simp [i1, ZA, i2]
  repeat with_reducible refine sd ?_
  refine cF e1 ?_ ?_ <;> intro k5 h3 e1
  ·have f := ms f e1
   exact rt [.tmp 4] f
  exact ny1 w1 e1
 have f := ms f e1
 exact rt [.tmp 4] f
theorem Iu (a0 : Zc) (a1 : Zc) : Sa 64 [a0.row, a1.row] [rB (jd a0 a1)] := by
 have f := me (jd.eq_1 a0 a1)
 refine so Tryz.func64 Tryz.ntmps64 ?_
 refine cF f ?_ ?_ <;> intro k1 h1 f
 ·exact rt [.tmp 4] f
 refine cRs (Gz a0.ZQ a1.ZQ) ?_
 refine cF f ?_ ?_ <;> intro k2 h2 f
 ·exact rt [.tmp 4] f
 refine cRs (JF a0.Zb a1.Zb) ?_
 refine cF f ?_ ?_ <;> intro k3 h3 f
 ·exact rt [.tmp 4] f
 exact rt [.tmp 4] f
theorem Mz (a0 : ZV) (a1 : ZV) : Sa 65 [a0.row, a1.row] [rB (qW a0 a1)] := by
 have f := me (qW.eq_1 a0 a1)
 refine so Tryz.func65 Tryz.ntmps65 ?_
 refine cF f ?_ ?_ <;> intro k1 h1 f
 ·exact rt [.tmp 4] f
 refine cF f ?_ ?_ <;> intro k2 h2 f
 ·exact rt [.tmp 4] f
 refine cF f ?_ ?_ <;> intro k3 h3 f
 ·exact rt [.tmp 4] f
 refine cF f ?_ ?_ <;> intro k4 h4 f
 ·exact rt [.tmp 4] f
 refine cF f ?_ ?_ <;> intro k5 h5 f
 ·exact rt [.tmp 4] f
 refine cF f ?_ ?_ <;> intro k6 h6 f
 ·exact rt [.tmp 4] f
 refine cF f ?_ ?_ <;> intro k7 h7 f
 ·exact rt [.tmp 4] f
 refine cF f ?_ ?_ <;> intro k8 h8 f
 ·exact rt [.tmp 4] f
 refine cF f ?_ ?_ <;> intro k9 h9 f
 ·exact rt [.tmp 4] f
 exact rt [.tmp 4] f
theorem C5 (a0 : ZD) (a1 : ZD) : Sa 148 [a0.row, a1.row] [rB (VV a0 a1)] := by
 have f := me (VV.eq_1 a0 a1)
 refine so Tryz.func148 Tryz.ntmps148 ?_
 refine cF f ?_ ?_ <;> intro k1 h1 f
 ·exact rt [.tmp 4] f
 refine cRs (JF a0.Zg a1.Zg) ?_
 refine cF f ?_ ?_ <;> intro k2 h2 f
 ·exact rt [.tmp 4] f
 refine cF f ?_ ?_ <;> intro k3 h3 f
 ·exact rt [.tmp 4] f
 exact rt [.tmp 4] f
theorem Fe (a0 : List ZD) (a1 : List ZD) : Sa 113 [rL 3 ZD.row a0, rL 3 ZD.row a1] [rB (Vr a0 a1)] := by
 have f := me (Vr.eq_1 a0 a1)
 refine so Tryz.func113 Tryz.ntmps113 ?_
 refine cF f ?_ ?_ <;> intro k1 h1 f
 ·exact rt [.tmp 4] f
 refine lp1 (VK.eq_2 a0 a1) (fun v1_0 => YP 27 [eL 0 3 a0 ZD.row, eL 1 3 a1 ZD.row, eI 5 (↑v1_0 : Int)]) (fun n1 v1_0 => a0.length < n1 + v1_0 ∧ v1_0 ≤ a0.length) (a0.length + 1) 0 (fun p1 v1_0 e1 j1 => ?_)
 refine cF e1 ?_ ?_ <;> intro k3 h2 e1
 ·have i1 := ix h2
  have m2 := ml a0 (k3 0 _ rfl)
  have w1 := wr v1_0
  refine dIo mixed ?_
  have i2 := ik v1_0 a1
  simp [i1, ZA, i2]
  repeat with_reducible refine sd ?_
  refine cRs (C5 (nth a0 v1_0) (nth a1 v1_0)) ?_
  refine cF e1 ?_ ?_ <;> intro k5 h3 e1
  ·have f := ms f e1
   exact rt [.tmp 4] f
  exact ny1 w1 e1
 have f := ms f e1
 exact rt [.tmp 4] f
theorem AR (a0 : Ya) (a1 : Ya) : Sa 281 [a0.row, a1.row] [rB (Tn a0 a1)] := by
 have f := me (Tn.eq_1 a0 a1)
 refine so Tryz.func281 Tryz.ntmps281 ?_
 refine cF f ?_ ?_ <;> intro k1 h1 f
 ·exact rt [.tmp 4] f
 refine cF f ?_ ?_ <;> intro k2 h2 f
 ·exact rt [.tmp 4] f
 exact rt [.tmp 4] f
theorem CU (a0 : List Ya) (a1 : List Ya) : Sa 216 [rL 2 Ya.row a0, rL 2 Ya.row a1] [rB (Tu a0 a1)] := by
 have f := me (Tu.eq_1 a0 a1)
 refine so Tryz.func216 Tryz.ntmps216 ?_
 refine cF f ?_ ?_ <;> intro k1 h1 f
 ·exact rt [.tmp 4] f
 refine lp1 (TA.eq_2 a0 a1) (fun v1_0 => YP 27 [eL 0 2 a0 Ya.row, eL 1 2 a1 Ya.row, eI 5 (↑v1_0 : Int)]) (fun n1 v1_0 => a0.length < n1 + v1_0 ∧ v1_0 ≤ a0.length) (a0.length + 1) 0 (fun p1 v1_0 e1 j1 => ?_)
 refine cF e1 ?_ ?_ <;> intro k3 h2 e1
 ·have i1 := ix h2
  have m2 := ml a0 (k3 0 _ rfl)
  have w1 := wr v1_0
  refine dIo mixed ?_
  have i2 := ik v1_0 a1
  simp [i1, ZA, i2]
  repeat with_reducible refine sd ?_
  refine cRs (AR (nth a0 v1_0) (nth a1 v1_0)) ?_
  refine cF e1 ?_ ?_ <;> intro k5 h3 e1
  ·have f := ms f e1
   exact rt [.tmp 4] f
  exact ny1 w1 e1
 have f := ms f e1
 exact rt [.tmp 4] f
theorem De (a0 : ZY) (a1 : ZY) : Sa 282 [a0.row, a1.row] [rB (Vg a0 a1)] := by
 have f := me (Vg.eq_1 a0 a1)
 refine so Tryz.func282 Tryz.ntmps282 ?_
 refine cF f ?_ ?_ <;> intro k1 h1 f
 ·exact rt [.tmp 4] f
 refine cF f ?_ ?_ <;> intro k2 h2 f
 ·exact rt [.tmp 4] f
 refine cF f ?_ ?_ <;> intro k3 h3 f
 ·exact rt [.tmp 4] f
 refine cF f ?_ ?_ <;> intro k4 h4 f
 ·exact rt [.tmp 4] f
 refine cF f ?_ ?_ <;> intro k5 h5 f
 ·exact rt [.tmp 4] f
 exact rt [.tmp 4] f
theorem EM (a0 : List ZY) (a1 : List ZY) : Sa 217 [rL 5 ZY.row a0, rL 5 ZY.row a1] [rB (Vl a0 a1)] := by
 have f := me (Vl.eq_1 a0 a1)
 refine so Tryz.func217 Tryz.ntmps217 ?_
 refine cF f ?_ ?_ <;> intro k1 h1 f
 ·exact rt [.tmp 4] f
 refine lp1 (VQ.eq_2 a0 a1) (fun v1_0 => YP 27 [eL 0 5 a0 ZY.row, eL 1 5 a1 ZY.row, eI 5 (↑v1_0 : Int)]) (fun n1 v1_0 => a0.length < n1 + v1_0 ∧ v1_0 ≤ a0.length) (a0.length + 1) 0 (fun p1 v1_0 e1 j1 => ?_)
 refine cF e1 ?_ ?_ <;> intro k3 h2 e1
 ·have i1 := ix h2
  have m2 := ml a0 (k3 0 _ rfl)
  have w1 := wr v1_0
  refine dIo mixed ?_
  have i2 := ik v1_0 a1
  simp [i1, ZA, i2]
  repeat with_reducible refine sd ?_
  refine cRs (De (nth a0 v1_0) (nth a1 v1_0)) ?_
  refine cF e1 ?_ ?_ <;> intro k5 h3 e1
  ·have f := ms f e1
   exact rt [.tmp 4] f
  exact ny1 w1 e1
 have f := ms f e1
 exact rt [.tmp 4] f
theorem HW (a0 : ZK) (a1 : ZK) : Sa 149 [a0.row, a1.row] [rB (jI a0 a1)] := by
 have f := me (jI.eq_1 a0 a1)
 refine so Tryz.func149 Tryz.ntmps149 ?_
 refine cF f ?_ ?_ <;> intro k1 h1 f
 ·exact rt [.tmp 4] f
 refine cF f ?_ ?_ <;> intro k2 h2 f
 ·exact rt [.tmp 4] f
 refine cF f ?_ ?_ <;> intro k3 h3 f
 ·exact rt [.tmp 4] f
 refine cRs (CU a0.Path a1.Path) ?_
 refine cF f ?_ ?_ <;> intro k4 h4 f
 ·exact rt [.tmp 4] f
 refine cRs (EM a0.Zj a1.Zj) ?_
 refine cF f ?_ ?_ <;> intro k5 h5 f
 ·exact rt [.tmp 4] f
 exact rt [.tmp 4] f
theorem Ib (a0 : List ZK) (a1 : List ZK) : Sa 114 [rL 5 ZK.row a0, rL 5 ZK.row a1] [rB (kH a0 a1)] := by
 have f := me (kH.eq_1 a0 a1)
 refine so Tryz.func114 Tryz.ntmps114 ?_
 refine cF f ?_ ?_ <;> intro k1 h1 f
 ·exact rt [.tmp 4] f
 refine lp1 (kA.eq_2 a0 a1) (fun v1_0 => YP 27 [eL 0 5 a0 ZK.row, eL 1 5 a1 ZK.row, eI 5 (↑v1_0 : Int)]) (fun n1 v1_0 => a0.length < n1 + v1_0 ∧ v1_0 ≤ a0.length) (a0.length + 1) 0 (fun p1 v1_0 e1 j1 => ?_)
 refine cF e1 ?_ ?_ <;> intro k3 h2 e1
 ·have i1 := ix h2
  have m2 := ml a0 (k3 0 _ rfl)
  have w1 := wr v1_0
  refine dIo mixed ?_
  have i2 := ik v1_0 a1
  simp [i1, ZA, i2]
  repeat with_reducible refine sd ?_
  refine cRs (HW (nth a0 v1_0) (nth a1 v1_0)) ?_
  refine cF e1 ?_ ?_ <;> intro k5 h3 e1
  ·have f := ms f e1
   exact rt [.tmp 4] f
  exact ny1 w1 e1
 have f := ms f e1
 exact rt [.tmp 4] f
theorem F3 (a0 : ZP) (a1 : ZP) : Sa 66 [a0.row, a1.row] [rB (UE a0 a1)] := by
 have f := me (UE.eq_1 a0 a1)
 refine so Tryz.func66 Tryz.ntmps66 ?_
 refine cRs (Fe a0.Zd a1.Zd) ?_
 refine cF f ?_ ?_ <;> intro k1 h1 f
 ·exact rt [.tmp 4] f
 refine cRs (Ib a0.ZX a1.ZX) ?_
 refine cF f ?_ ?_ <;> intro k2 h2 f
 ·exact rt [.tmp 4] f
 exact rt [.tmp 4] f
theorem Ai (a0 : Zm) (a1 : Zm) : Sa 18 [a0.row, a1.row] [rB (SF a0 a1)] := by
 have f := me (SF.eq_1 a0 a1)
 refine so Tryz.func18 Tryz.ntmps18 ?_
 refine cF f ?_ ?_ <;> intro k1 h1 f
 ·exact rt [.tmp 4] f
 refine cF f ?_ ?_ <;> intro k2 h2 f
 ·exact rt [.tmp 4] f
 refine cRs (Iu a0.Doc a1.Doc) ?_
 refine cF f ?_ ?_ <;> intro k3 h3 f
 ·exact rt [.tmp 4] f
 refine cRs (Mz a0.Sig a1.Sig) ?_
 refine cF f ?_ ?_ <;> intro k4 h4 f
 ·exact rt [.tmp 4] f
 refine cRs (F3 a0.Z0 a1.Z0) ?_
 refine cF f ?_ ?_ <;> intro k5 h5 f
 ·exact rt [.tmp 4] f
 exact rt [.tmp 4] f
theorem D4 (a0 : List Zm) (a1 : List Zm) : Sa 70 [rL 16 Zm.row a0, rL 16 Zm.row a1] [rB (SQ a0 a1)] := by
 have f := me (SQ.eq_1 a0 a1)
 refine so Tryz.func70 Tryz.ntmps70 ?_
 refine cF f ?_ ?_ <;> intro k1 h1 f
 ·exact rt [.tmp 4] f
 refine lp1 (UZ.eq_2 a0 a1) (fun v1_0 => YP 27 [eL 0 16 a0 Zm.row, eL 1 16 a1 Zm.row, eI 5 (↑v1_0 : Int)]) (fun n1 v1_0 => a0.length < n1 + v1_0 ∧ v1_0 ≤ a0.length) (a0.length + 1) 0 (fun p1 v1_0 e1 j1 => ?_)
 refine cF e1 ?_ ?_ <;> intro k3 h2 e1
 ·have i1 := ix h2
  have m2 := ml a0 (k3 0 _ rfl)
  have w1 := wr v1_0
  refine dIo mixed ?_
  have i2 := ik v1_0 a1
  simp [i1, ZA, i2]
  repeat with_reducible refine sd ?_
  refine cRs (Ai (nth a0 v1_0) (nth a1 v1_0)) ?_
  refine cF e1 ?_ ?_ <;> intro k5 h3 e1
  ·have f := ms f e1
   exact rt [.tmp 4] f
  exact ny1 w1 e1
 have f := ms f e1
 exact rt [.tmp 4] f
theorem HK (a0 : Zf) (a1 : Zf) : Sa 23 [a0.row, a1.row] [rB (jL a0 a1)] := by
 have f := me (jL.eq_1 a0 a1)
 refine so Tryz.func23 Tryz.ntmps23 ?_
 refine cF f ?_ ?_ <;> intro k1 h1 f
 ·exact rt [.tmp 4] f
 refine cRs (D4 a0.YM a1.YM) ?_
 refine cF f ?_ ?_ <;> intro k2 h2 f
 ·exact rt [.tmp 4] f
 exact rt [.tmp 4] f
theorem IC (a0 : List Zf) (a1 : List Zf) : Sa 81 [rL 2 Zf.row a0, rL 2 Zf.row a1] [rB (kN a0 a1)] := by
 have f := me (kN.eq_1 a0 a1)
 refine so Tryz.func81 Tryz.ntmps81 ?_
 refine cF f ?_ ?_ <;> intro k1 h1 f
 ·exact rt [.tmp 4] f
 refine lp1 (jr.eq_2 a0 a1) (fun v1_0 => YP 27 [eL 0 2 a0 Zf.row, eL 1 2 a1 Zf.row, eI 5 (↑v1_0 : Int)]) (fun n1 v1_0 => a0.length < n1 + v1_0 ∧ v1_0 ≤ a0.length) (a0.length + 1) 0 (fun p1 v1_0 e1 j1 => ?_)
 refine cF e1 ?_ ?_ <;> intro k3 h2 e1
 ·have i1 := ix h2
  have m2 := ml a0 (k3 0 _ rfl)
  have w1 := wr v1_0
  refine dIo mixed ?_
  have i2 := ik v1_0 a1
  simp [i1, ZA, i2]
  repeat with_reducible refine sd ?_
  refine cRs (HK (nth a0 v1_0) (nth a1 v1_0)) ?_
  refine cF e1 ?_ ?_ <;> intro k5 h3 e1
  ·have f := ms f e1
   exact rt [.tmp 4] f
  exact ny1 w1 e1
 have f := ms f e1
 exact rt [.tmp 4] f
theorem Ny (a0 : Zo) (a1 : Zo) : Sa 29 [a0.row, a1.row] [rB (VZ a0 a1)] := by
 have f := me (VZ.eq_1 a0 a1)
 refine so Tryz.func29 Tryz.ntmps29 ?_
 refine cRs (CB a0.Frame a1.Frame) ?_
 refine cF f ?_ ?_ <;> intro k1 h1 f
 ·exact rt [.tmp 4] f
 refine cRs (Ch a0.Yg a1.Yg) ?_
 refine cF f ?_ ?_ <;> intro k2 h2 f
 ·exact rt [.tmp 4] f
 refine cRs (JF a0.YW a1.YW) ?_
 refine cF f ?_ ?_ <;> intro k3 h3 f
 ·exact rt [.tmp 4] f
 refine cRs (IC a0.ZJ a1.ZJ) ?_
 refine cF f ?_ ?_ <;> intro k4 h4 f
 ·exact rt [.tmp 4] f
 refine cRs (JF a0.J8 a1.J8) ?_
 refine cF f ?_ ?_ <;> intro k5 h5 f
 ·exact rt [.tmp 4] f
 refine cRs (JF a0.Q6 a1.Q6) ?_
 refine cF f ?_ ?_ <;> intro k6 h6 f
 ·exact rt [.tmp 4] f
 refine cF f ?_ ?_ <;> intro k7 h7 f
 ·exact rt [.tmp 4] f
 refine cRs (JF a0.QP a1.QP) ?_
 refine cF f ?_ ?_ <;> intro k8 h8 f
 ·exact rt [.tmp 4] f
 exact rt [.tmp 4] f
theorem F1 (a0 : List Zs) (a1 : Int) : Kt Tryz.prog 119 (rL 5 Zs.row a0) [rI a1] (rL 5 Zs.row (XT a0 a1).1) (.int .i64 (XT a0 a1).2) := by
 refine Jq Tryz.func119 rfl (by kernel_rfl) (fun v => ?_)
 simp [Tryz.ntmps119]
 refine okL fun k1 => ?_
 refine RT (ι := { s : Nat × Int × Nat × (List Zs) // K7 s.1 s.2.1 s.2.2.1 s.2.2.2 = K7 (a0.length + 1) a1 0 a0 ∧ (1 ≤ s.1 ∧ s.2.2.2.length < s.1 + s.2.2.1) }) (fun s => YP 48 [(0, .fix v (.one (.sref 0 0 0 s.1.2.2.2.length)), [.arr true 5 (s.1.2.2.2.map Zs.row)]), eI 1 s.1.2.1, eI 5 (↑s.1.2.2.1 : Int)]) (fun s => s.1.1) ⟨((a0.length + 1), a1, 0, a0), rfl, by first | omega | (dsimp only; omega) | simp⟩ (XP (by simp)) ?_
 rintro ⟨⟨n1, v1_0, v1_1, v1_2⟩, e1, j1⟩
 try dsimp only at e1 j1
 obtain ⟨p1, rfl⟩ : ∃ p, n1 = p + 1 := ⟨n1 - 1, by omega⟩
 simp
 refine cC (decide ((↑v1_1 : Int) < (↑v1_2.length : Int))) (fun k2 h1 => ?_) (fun k2 h1 => ?_)
 ·have q1 := h1; try simp at q1
  have i1 : v1_1 < v1_2.length := by simpa using h1
  have m2 : v1_2.length ≤ 9223372036854775807 := by simpa using k2 0 _ rfl
  have w1 : IntKind.i64.wrap ((v1_1 : Int) + 1) = (v1_1 : Int) + 1 := Zk (by omega) (by omega)
  simp [i1, ZA, YL (x := (Zs.mk v1_0 (nth v1_2 v1_1).Js (nth v1_2 v1_1).Method (nth v1_2 v1_1).OC (nth v1_2 v1_1).xg)) rfl, Z4, List.set_set, YL (x := (Zs.mk v1_0 (W (v1_0 + 1)) (nth v1_2 v1_1).Method (nth v1_2 v1_1).OC (nth v1_2 v1_1).xg)) rfl, YL (x := (Zs.mk v1_0 (W (v1_0 + 1)) (W ((W (v1_0 + 1)) + 1)) (nth v1_2 v1_1).OC (nth v1_2 v1_1).xg)) rfl, YL (x := (Zs.mk v1_0 (W (v1_0 + 1)) (W ((W (v1_0 + 1)) + 1)) (W ((W ((W (v1_0 + 1)) + 1)) + 1)) (nth v1_2 v1_1).xg)) rfl, YL (x := (Zs.mk v1_0 (W (v1_0 + 1)) (W ((W (v1_0 + 1)) + 1)) (W ((W ((W (v1_0 + 1)) + 1)) + 1)) (W ((W ((W ((W (v1_0 + 1)) + 1)) + 1)) + 1)))) rfl]
  repeat with_reducible refine sd ?_
  refine IK ⟨(p1, (W ((W ((W ((W ((W (v1_0 + 1)) + 1)) + 1)) + 1)) + 1)), (v1_1 + 1), (v1_2.set v1_1 (Zs.mk v1_0 (W (v1_0 + 1)) (W ((W (v1_0 + 1)) + 1)) (W ((W ((W (v1_0 + 1)) + 1)) + 1)) (W ((W ((W ((W (v1_0 + 1)) + 1)) + 1)) + 1))))), ?_, ?_⟩ (by simp) (XP (by simp [w1]))
  · rw [← e1]; simp only [K7, h1, Xf, Xg]
  · (simp; omega)
 ·have q1 := h1; try simp at q1
  have x1 : K7 (a0.length + 1) a1 0 a0 = (v1_0, v1_2) := by rw [← e1]; simp only [K7, h1, Xf, Xg]
  simp
  refine N3 (rv := [.tmp 4]) rfl ?_
  have f1 := XT.eq_1 a0 a1; simp only [x1, Xf, Xg] at f1; simp [f1]
theorem P9 (a0 : List ZG) (a1 : Int) : Kt Tryz.prog 120 (rL 3 ZG.row a0) [rI a1] (rL 3 ZG.row (Yt a0 a1).1) (.int .i64 (Yt a0 a1).2) := by
 refine Jq Tryz.func120 rfl (by kernel_rfl) (fun v => ?_)
 simp [Tryz.ntmps120]
 refine okL fun k1 => ?_
 refine RT (ι := { s : Nat × Int × Nat × (List ZG) // QB s.1 s.2.1 s.2.2.1 s.2.2.2 = QB (a0.length + 1) a1 0 a0 ∧ (1 ≤ s.1 ∧ s.2.2.2.length < s.1 + s.2.2.1) }) (fun s => YP 34 [(0, .fix v (.one (.sref 0 0 0 s.1.2.2.2.length)), [.arr true 3 (s.1.2.2.2.map ZG.row)]), eI 1 s.1.2.1, eI 5 (↑s.1.2.2.1 : Int)]) (fun s => s.1.1) ⟨((a0.length + 1), a1, 0, a0), rfl, by first | omega | (dsimp only; omega) | simp⟩ (XP (by simp)) ?_
 rintro ⟨⟨n1, v1_0, v1_1, v1_2⟩, e1, j1⟩
 try dsimp only at e1 j1
 obtain ⟨p1, rfl⟩ : ∃ p, n1 = p + 1 := ⟨n1 - 1, by omega⟩
 simp
 refine cC (decide ((↑v1_1 : Int) < (↑v1_2.length : Int))) (fun k2 h1 => ?_) (fun k2 h1 => ?_)
 ·have q1 := h1; try simp at q1
  have i1 : v1_1 < v1_2.length := by simpa using h1
  have m2 : v1_2.length ≤ 9223372036854775807 := by simpa using k2 0 _ rfl
  have w1 : IntKind.i64.wrap ((v1_1 : Int) + 1) = (v1_1 : Int) + 1 := Zk (by omega) (by omega)
  simp [i1, ZA, YL (x := (ZG.mk v1_0 (nth v1_2 v1_1).Key (nth v1_2 v1_1).Error)) rfl, Z4, List.set_set, YL (x := (ZG.mk v1_0 (W (v1_0 + 1)) (nth v1_2 v1_1).Error)) rfl, YL (x := (ZG.mk v1_0 (W (v1_0 + 1)) (W ((W (v1_0 + 1)) + 1)))) rfl]
  repeat with_reducible refine sd ?_
  refine IK ⟨(p1, (W ((W ((W (v1_0 + 1)) + 1)) + 1)), (v1_1 + 1), (v1_2.set v1_1 (ZG.mk v1_0 (W (v1_0 + 1)) (W ((W (v1_0 + 1)) + 1))))), ?_, ?_⟩ (by simp) (XP (by simp [w1]))
  · rw [← e1]; simp only [QB, h1, Xf, Xg]
  · (simp; omega)
 ·have q1 := h1; try simp at q1
  have x1 : QB (a0.length + 1) a1 0 a0 = (v1_0, v1_2) := by rw [← e1]; simp only [QB, h1, Xf, Xg]
  simp
  refine N3 (rv := [.tmp 4]) rfl ?_
  have f1 := Yt.eq_1 a0 a1; simp only [x1, Xf, Xg] at f1; simp [f1]
theorem MI (a0 : List Zh) (a1 : Int) : Kt Tryz.prog 121 (rL 4 Zh.row a0) [rI a1] (rL 4 Zh.row (QI a0 a1).1) (.int .i64 (QI a0 a1).2) := by
 refine Jq Tryz.func121 rfl (by kernel_rfl) (fun v => ?_)
 simp [Tryz.ntmps121]
 refine okL fun k1 => ?_
 refine RT (ι := { s : Nat × Int × Nat × (List Zh) // JH s.1 s.2.1 s.2.2.1 s.2.2.2 = JH (a0.length + 1) a1 0 a0 ∧ (1 ≤ s.1 ∧ s.2.2.2.length < s.1 + s.2.2.1) }) (fun s => YP 41 [(0, .fix v (.one (.sref 0 0 0 s.1.2.2.2.length)), [.arr true 4 (s.1.2.2.2.map Zh.row)]), eI 1 s.1.2.1, eI 5 (↑s.1.2.2.1 : Int)]) (fun s => s.1.1) ⟨((a0.length + 1), a1, 0, a0), rfl, by first | omega | (dsimp only; omega) | simp⟩ (XP (by simp)) ?_
 rintro ⟨⟨n1, v1_0, v1_1, v1_2⟩, e1, j1⟩
 try dsimp only at e1 j1
 obtain ⟨p1, rfl⟩ : ∃ p, n1 = p + 1 := ⟨n1 - 1, by omega⟩
 simp
 refine cC (decide ((↑v1_1 : Int) < (↑v1_2.length : Int))) (fun k2 h1 => ?_) (fun k2 h1 => ?_)
 ·have q1 := h1; try simp at q1
  have i1 : v1_1 < v1_2.length := by simpa using h1
  have m2 : v1_2.length ≤ 9223372036854775807 := by simpa using k2 0 _ rfl
  have w1 : IntKind.i64.wrap ((v1_1 : Int) + 1) = (v1_1 : Int) + 1 := Zk (by omega) (by omega)
  simp [i1, ZA, YL (x := (Zh.mk v1_0 (nth v1_2 v1_1).Ui (nth v1_2 v1_1).Ends (nth v1_2 v1_1).qO)) rfl, Z4, List.set_set, YL (x := (Zh.mk v1_0 (W (v1_0 + 1)) (nth v1_2 v1_1).Ends (nth v1_2 v1_1).qO)) rfl, YL (x := (Zh.mk v1_0 (W (v1_0 + 1)) (W ((W (v1_0 + 1)) + 1)) (nth v1_2 v1_1).qO)) rfl, YL (x := (Zh.mk v1_0 (W (v1_0 + 1)) (W ((W (v1_0 + 1)) + 1)) (W ((W ((W (v1_0 + 1)) + 1)) + 1)))) rfl]
  repeat with_reducible refine sd ?_
  refine IK ⟨(p1, (W ((W ((W ((W (v1_0 + 1)) + 1)) + 1)) + 1)), (v1_1 + 1), (v1_2.set v1_1 (Zh.mk v1_0 (W (v1_0 + 1)) (W ((W (v1_0 + 1)) + 1)) (W ((W ((W (v1_0 + 1)) + 1)) + 1))))), ?_, ?_⟩ (by simp) (XP (by simp [w1]))
  · rw [← e1]; simp only [JH, h1, Xf, Xg]
  · (simp; omega)
 ·have q1 := h1; try simp at q1
  have x1 : JH (a0.length + 1) a1 0 a0 = (v1_0, v1_2) := by rw [← e1]; simp only [JH, h1, Xf, Xg]
  simp
  refine N3 (rv := [.tmp 4]) rfl ?_
  have f1 := QI.eq_1 a0 a1; simp only [x1, Xf, Xg] at f1; simp [f1]
theorem Hb (a0 : ZI) (a1 : Int) : Kt Tryz.prog 85 a0.row [rI a1] (Zw a0 a1).1.row (.int .i64 (Zw a0 a1).2) := by
 refine Jq Tryz.func85 rfl (by kernel_rfl) (fun v => ?_)
 simp [Tryz.ntmps85]
 refine kB (ats := [.sref 0 0 0 a0.YY.length]) rfl rfl rfl rfl rfl rfl rfl (F1 a0.YY a1) (by simp) (by simp) (by simp) (by simp) (by simp) (by simp) (by simp) (by simp) (by simp) ?_
 simp
 refine kB (ats := [.sref 0 1 0 a0.ZN.length]) rfl rfl rfl rfl rfl rfl rfl (P9 a0.ZN (XT a0.YY a1).2) (by simp) (by simp) (by simp) (by simp) (by simp) (by simp) (by simp) (by simp) (by simp) ?_
 simp
 refine kB (ats := [.sref 0 2 0 a0.Methods.length]) rfl rfl rfl rfl rfl rfl rfl (MI a0.Methods (Yt a0.ZN (XT a0.YY a1).2).2) (by simp) (by simp) (by simp) (by simp) (by simp) (by simp) (by simp) (by simp) (by simp) ?_
 simp
 refine N3 (rv := [.tmp 4]) rfl ?_
 have f1 := Zw.eq_1 a0 a1; simp [f1]
theorem Hp (a0 : List Zn) (a1 : Int) : Kt Tryz.prog 86 (rL 7 Zn.row a0) [rI a1] (rL 7 Zn.row (YI a0 a1).1) (.int .i64 (YI a0 a1).2) := by
 refine Jq Tryz.func86 rfl (by kernel_rfl) (fun v => ?_)
 simp [Tryz.ntmps86]
 refine okL fun k1 => ?_
 refine RT (ι := { s : Nat × Int × Nat × (List Zn) // KT s.1 s.2.1 s.2.2.1 s.2.2.2 = KT (a0.length + 1) a1 0 a0 ∧ (1 ≤ s.1 ∧ s.2.2.2.length < s.1 + s.2.2.1) }) (fun s => YP 62 [(0, .fix v (.one (.sref 0 0 0 s.1.2.2.2.length)), [.arr true 7 (s.1.2.2.2.map Zn.row)]), eI 1 s.1.2.1, eI 5 (↑s.1.2.2.1 : Int)]) (fun s => s.1.1) ⟨((a0.length + 1), a1, 0, a0), rfl, by first | omega | (dsimp only; omega) | simp⟩ (XP (by simp)) ?_
 rintro ⟨⟨n1, v1_0, v1_1, v1_2⟩, e1, j1⟩
 try dsimp only at e1 j1
 obtain ⟨p1, rfl⟩ : ∃ p, n1 = p + 1 := ⟨n1 - 1, by omega⟩
 simp
 refine cC (decide ((↑v1_1 : Int) < (↑v1_2.length : Int))) (fun k2 h1 => ?_) (fun k2 h1 => ?_)
 ·have q1 := h1; try simp at q1
  have i1 : v1_1 < v1_2.length := by simpa using h1
  have m2 : v1_2.length ≤ 9223372036854775807 := by simpa using k2 0 _ rfl
  have w1 : IntKind.i64.wrap ((v1_1 : Int) + 1) = (v1_1 : Int) + 1 := Zk (by omega) (by omega)
  simp [i1, ZA, YL (x := (Zn.mk v1_0 (nth v1_2 v1_1).Key (nth v1_2 v1_1).Js (nth v1_2 v1_1).YN (nth v1_2 v1_1).To (nth v1_2 v1_1).Qd (nth v1_2 v1_1).Mark)) rfl, Z4, List.set_set, YL (x := (Zn.mk v1_0 (W (v1_0 + 1)) (nth v1_2 v1_1).Js (nth v1_2 v1_1).YN (nth v1_2 v1_1).To (nth v1_2 v1_1).Qd (nth v1_2 v1_1).Mark)) rfl, YL (x := (Zn.mk v1_0 (W (v1_0 + 1)) (W ((W (v1_0 + 1)) + 1)) (nth v1_2 v1_1).YN (nth v1_2 v1_1).To (nth v1_2 v1_1).Qd (nth v1_2 v1_1).Mark)) rfl, YL (x := (Zn.mk v1_0 (W (v1_0 + 1)) (W ((W (v1_0 + 1)) + 1)) (W ((W ((W (v1_0 + 1)) + 1)) + 1)) (nth v1_2 v1_1).To (nth v1_2 v1_1).Qd (nth v1_2 v1_1).Mark)) rfl, YL (x := (Zn.mk v1_0 (W (v1_0 + 1)) (W ((W (v1_0 + 1)) + 1)) (W ((W ((W (v1_0 + 1)) + 1)) + 1)) (W ((W ((W ((W (v1_0 + 1)) + 1)) + 1)) + 1)) (nth v1_2 v1_1).Qd (nth v1_2 v1_1).Mark)) rfl, YL (x := (Zn.mk v1_0 (W (v1_0 + 1)) (W ((W (v1_0 + 1)) + 1)) (W ((W ((W (v1_0 + 1)) + 1)) + 1)) (W ((W ((W ((W (v1_0 + 1)) + 1)) + 1)) + 1)) (W ((W ((W ((W ((W (v1_0 + 1)) + 1)) + 1)) + 1)) + 1)) (nth v1_2 v1_1).Mark)) rfl, YL (x := (Zn.mk v1_0 (W (v1_0 + 1)) (W ((W (v1_0 + 1)) + 1)) (W ((W ((W (v1_0 + 1)) + 1)) + 1)) (W ((W ((W ((W (v1_0 + 1)) + 1)) + 1)) + 1)) (W ((W ((W ((W ((W (v1_0 + 1)) + 1)) + 1)) + 1)) + 1)) (W ((W ((W ((W ((W ((W (v1_0 + 1)) + 1)) + 1)) + 1)) + 1)) + 1)))) rfl]
  repeat with_reducible refine sd ?_
  refine IK ⟨(p1, (W ((W ((W ((W ((W ((W ((W (v1_0 + 1)) + 1)) + 1)) + 1)) + 1)) + 1)) + 1)), (v1_1 + 1), (v1_2.set v1_1 (Zn.mk v1_0 (W (v1_0 + 1)) (W ((W (v1_0 + 1)) + 1)) (W ((W ((W (v1_0 + 1)) + 1)) + 1)) (W ((W ((W ((W (v1_0 + 1)) + 1)) + 1)) + 1)) (W ((W ((W ((W ((W (v1_0 + 1)) + 1)) + 1)) + 1)) + 1)) (W ((W ((W ((W ((W ((W (v1_0 + 1)) + 1)) + 1)) + 1)) + 1)) + 1))))), ?_, ?_⟩ (by simp) (XP (by simp [w1]))
  · rw [← e1]; simp only [KT, h1, Xf, Xg]
  · (simp; omega)
 ·have q1 := h1; try simp at q1
  have x1 : KT (a0.length + 1) a1 0 a0 = (v1_0, v1_2) := by rw [← e1]; simp only [KT, h1, Xf, Xg]
  simp
  refine N3 (rv := [.tmp 4]) rfl ?_
  have f1 := YI.eq_1 a0 a1; simp only [x1, Xf, Xg] at f1; simp [f1]
theorem KM (a0 : List Int) (a1 : Int) : Kt Tryz.prog 38 (rL 1 iR a0) [rI a1] (rL 1 iR (ZC a0 a1).1) (.int .i64 (ZC a0 a1).2) := by
 refine Jq Tryz.func38 rfl (by kernel_rfl) (fun v => ?_)
 simp [Tryz.ntmps38]
 refine okL fun k1 => ?_
 refine RT (ι := { s : Nat × Int × Nat × (List Int) // zF s.1 s.2.1 s.2.2.1 s.2.2.2 = zF (a0.length + 1) a1 0 a0 ∧ (1 ≤ s.1 ∧ s.2.2.2.length < s.1 + s.2.2.1) }) (fun s => YP 19 [(0, .fix v (.one (.sref 0 0 0 s.1.2.2.2.length)), [.arr true 1 (s.1.2.2.2.map iR)]), eI 1 s.1.2.1, eI 5 (↑s.1.2.2.1 : Int)]) (fun s => s.1.1) ⟨((a0.length + 1), a1, 0, a0), rfl, by first | omega | (dsimp only; omega) | simp⟩ (XP (by simp)) ?_
 rintro ⟨⟨n1, v1_0, v1_1, v1_2⟩, e1, j1⟩
 try dsimp only at e1 j1
 obtain ⟨p1, rfl⟩ : ∃ p, n1 = p + 1 := ⟨n1 - 1, by omega⟩
 simp
 refine cC (decide ((↑v1_1 : Int) < (↑v1_2.length : Int))) (fun k2 h1 => ?_) (fun k2 h1 => ?_)
 ·have q1 := h1; try simp at q1
  have i1 : v1_1 < v1_2.length := by simpa using h1
  have m2 : v1_2.length ≤ 9223372036854775807 := by simpa using k2 0 _ rfl
  have w1 : IntKind.i64.wrap ((v1_1 : Int) + 1) = (v1_1 : Int) + 1 := Zk (by omega) (by omega)
  simp [i1, ZA, YL (x := v1_0) rfl, Z4]
  repeat with_reducible refine sd ?_
  refine IK ⟨(p1, (W (v1_0 + 1)), (v1_1 + 1), (v1_2.set v1_1 v1_0)), ?_, ?_⟩ (by simp) (XP (by simp [w1]))
  · rw [← e1]; simp only [zF, h1, Xf, Xg]
  · (simp; omega)
 ·have q1 := h1; try simp at q1
  have x1 : zF (a0.length + 1) a1 0 a0 = (v1_0, v1_2) := by rw [← e1]; simp only [zF, h1, Xf, Xg]
  simp
  refine N3 (rv := [.tmp 4]) rfl ?_
  have f1 := ZC.eq_1 a0 a1; simp only [x1, Xf, Xg] at f1; simp [f1]
theorem Ep (a0 : Int) : Sa 218 [rI a0] [rS (xS a0)] := by
 have f := me (xS.eq_1 a0)
 refine so Tryz.func218 Tryz.ntmps218 ?_
 refine cF f ?_ ?_ <;> intro k1 h1 f
 ·exact rt [.tmp 2] f
 refine lp2 (Sn.eq_2) (fun v1_0 v1_1 => YP 20 [eI 0 v1_0, (3, .one (.d (.str v1_1)), [])]) (fun n1 v1_0 v1_1 => (n1 = 22 ∨ v1_0.natAbs < 10 ^ (n1 - 1)) ∧ v1_1.size + n1 = 22) 22 a0 (⟨#[]⟩ : ByteArray) (fun p1 v1_0 v1_1 e1 j1 => ?_) (hI := by exact ⟨by omega, .inl rfl, rfl⟩)
 try dsimp only at j1
 refine cF e1 ?_ ?_ <;> intro k3 h2 e1
 ·refine toStr (l := ([(UInt8.ofInt (W (48 + (Int.tmod v1_0 10))))] : List UInt8)) rfl rfl rfl (by simp) (by simp) (by simp) (by simp [xx, nF]) ?_
  simp
  repeat with_reducible refine sd ?_
  exact nx2 e1 (hI := by (try dsimp only); obtain ⟨s1, s2⟩ := nK j1.2.1 (show (v1_0 != 0) = true by simp at h2 ⊢; omega); refine ⟨s1, s2, ?_⟩; have := j1.2.2; simp; omega)
 have f := ms f e1
 exact rt [.tmp 2] f
theorem Mh (a0 : List ByteArray) (a1 : Int) : Kt Tryz.prog 150 (rL 1 sR a0) [rI a1] (rL 1 sR (ZB a0 a1).1) (.int .i64 (ZB a0 a1).2) := by
 refine Jq Tryz.func150 rfl (by kernel_rfl) (fun v => ?_)
 simp [Tryz.ntmps150]
 refine okL fun k1 => ?_
 refine RT (ι := { s : Nat × Int × Nat × (List ByteArray) // JJ s.1 s.2.1 s.2.2.1 s.2.2.2 = JJ (a0.length + 1) a1 0 a0 ∧ (1 ≤ s.1 ∧ s.2.2.2.length < s.1 + s.2.2.1) }) (fun s => YP 20 [(0, .fix v (.one (.sref 0 0 0 s.1.2.2.2.length)), [.arr true 1 (s.1.2.2.2.map sR)]), eI 1 s.1.2.1, eI 5 (↑s.1.2.2.1 : Int)]) (fun s => s.1.1) ⟨((a0.length + 1), a1, 0, a0), rfl, by first | omega | (dsimp only; omega) | simp⟩ (XP (by simp)) ?_
 rintro ⟨⟨n1, v1_0, v1_1, v1_2⟩, e1, j1⟩
 try dsimp only at e1 j1
 obtain ⟨p1, rfl⟩ : ∃ p, n1 = p + 1 := ⟨n1 - 1, by omega⟩
 simp
 refine cC (decide ((↑v1_1 : Int) < (↑v1_2.length : Int))) (fun k2 h1 => ?_) (fun k2 h1 => ?_)
 ·have q1 := h1; try simp at q1
  have i1 : v1_1 < v1_2.length := by simpa using h1
  have m2 : v1_2.length ≤ 9223372036854775807 := by simpa using k2 0 _ rfl
  have w1 : IntKind.i64.wrap ((v1_1 : Int) + 1) = (v1_1 : Int) + 1 := Zk (by omega) (by omega)
  simp
  refine cR (Ep v1_0) ?_
  simp [i1, ZA, YL (x := (xS v1_0)) rfl, Z4]
  repeat with_reducible refine sd ?_
  refine IK ⟨(p1, (W (v1_0 + 1)), (v1_1 + 1), (v1_2.set v1_1 (xS v1_0))), ?_, ?_⟩ (by simp) (XP (by simp [w1]))
  · rw [← e1]; simp only [JJ, h1, Xf, Xg]
  · (simp; omega)
 ·have q1 := h1; try simp at q1
  have x1 : JJ (a0.length + 1) a1 0 a0 = (v1_0, v1_2) := by rw [← e1]; simp only [JJ, h1, Xf, Xg]
  simp
  refine N3 (rv := [.tmp 4]) rfl ?_
  have f1 := ZB.eq_1 a0 a1; simp only [x1, Xf, Xg] at f1; simp [f1]
theorem Iv (a0 : List ZD) (a1 : Int) : Kt Tryz.prog 151 (rL 3 ZD.row a0) [rI a1] (rL 3 ZD.row (YJ a0 a1).1) (.int .i64 (YJ a0 a1).2) := by
 refine Jq Tryz.func151 rfl (by kernel_rfl) (fun v => ?_)
 simp [Tryz.ntmps151]
 refine okL fun k1 => ?_
 refine RT (ι := { s : Nat × Int × Nat × (List ZD) // Jl s.1 s.2.1 s.2.2.1 s.2.2.2 = Jl (a0.length + 1) a1 0 a0 ∧ (1 ≤ s.1 ∧ s.2.2.2.length < s.1 + s.2.2.1) }) (fun s => YP 34 [(0, .fix v (.one (.sref 0 0 0 s.1.2.2.2.length)), [.arr true 3 (s.1.2.2.2.map ZD.row)]), eI 1 s.1.2.1, eI 5 (↑s.1.2.2.1 : Int)]) (fun s => s.1.1) ⟨((a0.length + 1), a1, 0, a0), rfl, by first | omega | (dsimp only; omega) | simp⟩ (XP (by simp)) ?_
 rintro ⟨⟨n1, v1_0, v1_1, v1_2⟩, e1, j1⟩
 try dsimp only at e1 j1
 obtain ⟨p1, rfl⟩ : ∃ p, n1 = p + 1 := ⟨n1 - 1, by omega⟩
 simp
 refine cC (decide ((↑v1_1 : Int) < (↑v1_2.length : Int))) (fun k2 h1 => ?_) (fun k2 h1 => ?_)
 ·have q1 := h1; try simp at q1
  have i1 : v1_1 < v1_2.length := by simpa using h1
  have m2 : v1_2.length ≤ 9223372036854775807 := by simpa using k2 0 _ rfl
  have w1 : IntKind.i64.wrap ((v1_1 : Int) + 1) = (v1_1 : Int) + 1 := Zk (by omega) (by omega)
  simp [i1, ZA, YL (x := (ZD.mk v1_0 (nth v1_2 v1_1).Zg (nth v1_2 v1_1).Mark)) rfl, Z4]
  repeat with_reducible refine sd ?_
  refine R7 (t := 0) (j := 0) (i := v1_1) (c := 1) (size := 3) (rows := ((v1_2.set v1_1 (ZD.mk v1_0 (nth v1_2 v1_1).Zg (nth v1_2 v1_1).Mark)).map ZD.row)) rfl rfl rfl rfl rfl rfl rfl (KM (nth v1_2 v1_1).Zg (W (v1_0 + 1))) (by simp) (by simp) (by simp [m2, i1]) (by simp [ZA, Z4, m2, i1]) (by simp) (by simp) (by simp) ?_
  simp [List.set_set, YL (x := (ZD.mk v1_0 (ZC (nth v1_2 v1_1).Zg (W (v1_0 + 1))).1 (nth v1_2 v1_1).Mark)) rfl, ZA, Z4, m2, i1, YL (x := (ZD.mk v1_0 (ZC (nth v1_2 v1_1).Zg (W (v1_0 + 1))).1 (ZC (nth v1_2 v1_1).Zg (W (v1_0 + 1))).2)) rfl]
  repeat with_reducible refine sd ?_
  refine IK ⟨(p1, (W ((ZC (nth v1_2 v1_1).Zg (W (v1_0 + 1))).2 + 1)), (v1_1 + 1), (v1_2.set v1_1 (ZD.mk v1_0 (ZC (nth v1_2 v1_1).Zg (W (v1_0 + 1))).1 (ZC (nth v1_2 v1_1).Zg (W (v1_0 + 1))).2))), ?_, ?_⟩ (by simp) (XP (by simp [w1]))
  · rw [← e1]; simp only [Jl, h1, Xf, Xg]
  · (simp; omega)
 ·have q1 := h1; try simp at q1
  have x1 : Jl (a0.length + 1) a1 0 a0 = (v1_0, v1_2) := by rw [← e1]; simp only [Jl, h1, Xf, Xg]
  simp
  refine N3 (rv := [.tmp 4]) rfl ?_
  have f1 := YJ.eq_1 a0 a1; simp only [x1, Xf, Xg] at f1; simp [f1]
theorem H7 (a0 : List Ya) (a1 : Int) : Kt Tryz.prog 219 (rL 2 Ya.row a0) [rI a1] (rL 2 Ya.row (YV a0 a1).1) (.int .i64 (YV a0 a1).2) := by
 refine Jq Tryz.func219 rfl (by kernel_rfl) (fun v => ?_)
 simp [Tryz.ntmps219]
 refine okL fun k1 => ?_
 refine RT (ι := { s : Nat × Int × Nat × (List Ya) // KO s.1 s.2.1 s.2.2.1 s.2.2.2 = KO (a0.length + 1) a1 0 a0 ∧ (1 ≤ s.1 ∧ s.2.2.2.length < s.1 + s.2.2.1) }) (fun s => YP 29 [(0, .fix v (.one (.sref 0 0 0 s.1.2.2.2.length)), [.arr true 2 (s.1.2.2.2.map Ya.row)]), eI 1 s.1.2.1, eI 5 (↑s.1.2.2.1 : Int)]) (fun s => s.1.1) ⟨((a0.length + 1), a1, 0, a0), rfl, by first | omega | (dsimp only; omega) | simp⟩ (XP (by simp)) ?_
 rintro ⟨⟨n1, v1_0, v1_1, v1_2⟩, e1, j1⟩
 try dsimp only at e1 j1
 obtain ⟨p1, rfl⟩ : ∃ p, n1 = p + 1 := ⟨n1 - 1, by omega⟩
 simp
 refine cC (decide ((↑v1_1 : Int) < (↑v1_2.length : Int))) (fun k2 h1 => ?_) (fun k2 h1 => ?_)
 ·have q1 := h1; try simp at q1
  have i1 : v1_1 < v1_2.length := by simpa using h1
  have m2 : v1_2.length ≤ 9223372036854775807 := by simpa using k2 0 _ rfl
  have w1 : IntKind.i64.wrap ((v1_1 : Int) + 1) = (v1_1 : Int) + 1 := Zk (by omega) (by omega)
  simp [i1, ZA, YL (x := (Ya.mk v1_0 (nth v1_2 v1_1).Left)) rfl, Z4, List.set_set, YL (x := (Ya.mk v1_0 ((Int.tmod (W (v1_0 + 1)) 3) == 0))) rfl]
  repeat with_reducible refine sd ?_
  refine IK ⟨(p1, (W ((W (v1_0 + 1)) + 1)), (v1_1 + 1), (v1_2.set v1_1 (Ya.mk v1_0 ((Int.tmod (W (v1_0 + 1)) 3) == 0)))), ?_, ?_⟩ (by simp) (XP (by simp [w1]))
  · rw [← e1]; simp only [KO, h1, Xf, Xg]
  · (simp; omega)
 ·have q1 := h1; try simp at q1
  have x1 : KO (a0.length + 1) a1 0 a0 = (v1_0, v1_2) := by rw [← e1]; simp only [KO, h1, Xf, Xg]
  simp
  refine N3 (rv := [.tmp 4]) rfl ?_
  have f1 := YV.eq_1 a0 a1; simp only [x1, Xf, Xg] at f1; simp [f1]
theorem Lw (a0 : List ZY) (a1 : Int) : Kt Tryz.prog 220 (rL 5 ZY.row a0) [rI a1] (rL 5 ZY.row (Y9 a0 a1).1) (.int .i64 (Y9 a0 a1).2) := by
 refine Jq Tryz.func220 rfl (by kernel_rfl) (fun v => ?_)
 simp [Tryz.ntmps220]
 refine okL fun k1 => ?_
 refine RT (ι := { s : Nat × Int × Nat × (List ZY) // Jh s.1 s.2.1 s.2.2.1 s.2.2.2 = Jh (a0.length + 1) a1 0 a0 ∧ (1 ≤ s.1 ∧ s.2.2.2.length < s.1 + s.2.2.1) }) (fun s => YP 48 [(0, .fix v (.one (.sref 0 0 0 s.1.2.2.2.length)), [.arr true 5 (s.1.2.2.2.map ZY.row)]), eI 1 s.1.2.1, eI 5 (↑s.1.2.2.1 : Int)]) (fun s => s.1.1) ⟨((a0.length + 1), a1, 0, a0), rfl, by first | omega | (dsimp only; omega) | simp⟩ (XP (by simp)) ?_
 rintro ⟨⟨n1, v1_0, v1_1, v1_2⟩, e1, j1⟩
 try dsimp only at e1 j1
 obtain ⟨p1, rfl⟩ : ∃ p, n1 = p + 1 := ⟨n1 - 1, by omega⟩
 simp
 refine cC (decide ((↑v1_1 : Int) < (↑v1_2.length : Int))) (fun k2 h1 => ?_) (fun k2 h1 => ?_)
 ·have q1 := h1; try simp at q1
  have i1 : v1_1 < v1_2.length := by simpa using h1
  have m2 : v1_2.length ≤ 9223372036854775807 := by simpa using k2 0 _ rfl
  have w1 : IntKind.i64.wrap ((v1_1 : Int) + 1) = (v1_1 : Int) + 1 := Zk (by omega) (by omega)
  simp [i1, ZA, YL (x := (ZY.mk v1_0 (nth v1_2 v1_1).Seq (nth v1_2 v1_1).Time (nth v1_2 v1_1).Yz (nth v1_2 v1_1).Mark)) rfl, Z4, List.set_set, YL (x := (ZY.mk v1_0 (W (v1_0 + 1)) (nth v1_2 v1_1).Time (nth v1_2 v1_1).Yz (nth v1_2 v1_1).Mark)) rfl, YL (x := (ZY.mk v1_0 (W (v1_0 + 1)) (W ((W (v1_0 + 1)) + 1)) (nth v1_2 v1_1).Yz (nth v1_2 v1_1).Mark)) rfl, YL (x := (ZY.mk v1_0 (W (v1_0 + 1)) (W ((W (v1_0 + 1)) + 1)) (W ((W ((W (v1_0 + 1)) + 1)) + 1)) (nth v1_2 v1_1).Mark)) rfl, YL (x := (ZY.mk v1_0 (W (v1_0 + 1)) (W ((W (v1_0 + 1)) + 1)) (W ((W ((W (v1_0 + 1)) + 1)) + 1)) (W ((W ((W ((W (v1_0 + 1)) + 1)) + 1)) + 1)))) rfl]
  repeat with_reducible refine sd ?_
  refine IK ⟨(p1, (W ((W ((W ((W ((W (v1_0 + 1)) + 1)) + 1)) + 1)) + 1)), (v1_1 + 1), (v1_2.set v1_1 (ZY.mk v1_0 (W (v1_0 + 1)) (W ((W (v1_0 + 1)) + 1)) (W ((W ((W (v1_0 + 1)) + 1)) + 1)) (W ((W ((W ((W (v1_0 + 1)) + 1)) + 1)) + 1))))), ?_, ?_⟩ (by simp) (XP (by simp [w1]))
  · rw [← e1]; simp only [Jh, h1, Xf, Xg]
  · (simp; omega)
 ·have q1 := h1; try simp at q1
  have x1 : Jh (a0.length + 1) a1 0 a0 = (v1_0, v1_2) := by rw [← e1]; simp only [Jh, h1, Xf, Xg]
  simp
  refine N3 (rv := [.tmp 4]) rfl ?_
  have f1 := Y9.eq_1 a0 a1; simp only [x1, Xf, Xg] at f1; simp [f1]
theorem Nw (a0 : List ZK) (a1 : Int) : Kt Tryz.prog 152 (rL 5 ZK.row a0) [rI a1] (rL 5 ZK.row (Yp a0 a1).1) (.int .i64 (Yp a0 a1).2) := by
 refine Jq Tryz.func152 rfl (by kernel_rfl) (fun v => ?_)
 simp [Tryz.ntmps152]
 refine okL fun k1 => ?_
 refine RT (ι := { s : Nat × Int × Nat × (List ZK) // Qn s.1 s.2.1 s.2.2.1 s.2.2.2 = Qn (a0.length + 1) a1 0 a0 ∧ (1 ≤ s.1 ∧ s.2.2.2.length < s.1 + s.2.2.1) }) (fun s => YP 48 [(0, .fix v (.one (.sref 0 0 0 s.1.2.2.2.length)), [.arr true 5 (s.1.2.2.2.map ZK.row)]), eI 1 s.1.2.1, eI 5 (↑s.1.2.2.1 : Int)]) (fun s => s.1.1) ⟨((a0.length + 1), a1, 0, a0), rfl, by first | omega | (dsimp only; omega) | simp⟩ (XP (by simp)) ?_
 rintro ⟨⟨n1, v1_0, v1_1, v1_2⟩, e1, j1⟩
 try dsimp only at e1 j1
 obtain ⟨p1, rfl⟩ : ∃ p, n1 = p + 1 := ⟨n1 - 1, by omega⟩
 simp
 refine cC (decide ((↑v1_1 : Int) < (↑v1_2.length : Int))) (fun k2 h1 => ?_) (fun k2 h1 => ?_)
 ·have q1 := h1; try simp at q1
  have i1 : v1_1 < v1_2.length := by simpa using h1
  have m2 : v1_2.length ≤ 9223372036854775807 := by simpa using k2 0 _ rfl
  have w1 : IntKind.i64.wrap ((v1_1 : Int) + 1) = (v1_1 : Int) + 1 := Zk (by omega) (by omega)
  simp [i1, ZA, YL (x := (ZK.mk v1_0 (nth v1_2 v1_1).Method (nth v1_2 v1_1).OY (nth v1_2 v1_1).Path (nth v1_2 v1_1).Zj)) rfl, Z4, List.set_set, YL (x := (ZK.mk v1_0 (W (v1_0 + 1)) (nth v1_2 v1_1).OY (nth v1_2 v1_1).Path (nth v1_2 v1_1).Zj)) rfl, YL (x := (ZK.mk v1_0 (W (v1_0 + 1)) (W ((W (v1_0 + 1)) + 1)) (nth v1_2 v1_1).Path (nth v1_2 v1_1).Zj)) rfl]
  repeat with_reducible refine sd ?_
  refine R7 (t := 0) (j := 0) (i := v1_1) (c := 3) (size := 5) (rows := ((v1_2.set v1_1 (ZK.mk v1_0 (W (v1_0 + 1)) (W ((W (v1_0 + 1)) + 1)) (nth v1_2 v1_1).Path (nth v1_2 v1_1).Zj)).map ZK.row)) rfl rfl rfl rfl rfl rfl rfl (H7 (nth v1_2 v1_1).Path (W ((W ((W (v1_0 + 1)) + 1)) + 1))) (by simp) (by simp) (by simp [m2, i1]) (by simp [ZA, Z4, m2, i1]) (by simp) (by simp) (by simp) ?_
  simp [List.set_set, YL (x := (ZK.mk v1_0 (W (v1_0 + 1)) (W ((W (v1_0 + 1)) + 1)) (YV (nth v1_2 v1_1).Path (W ((W ((W (v1_0 + 1)) + 1)) + 1))).1 (nth v1_2 v1_1).Zj)) rfl, ZA, Z4, m2, i1]
  repeat with_reducible refine sd ?_
  refine R7 (t := 0) (j := 0) (i := v1_1) (c := 4) (size := 5) (rows := ((v1_2.set v1_1 (ZK.mk v1_0 (W (v1_0 + 1)) (W ((W (v1_0 + 1)) + 1)) (YV (nth v1_2 v1_1).Path (W ((W ((W (v1_0 + 1)) + 1)) + 1))).1 (nth v1_2 v1_1).Zj)).map ZK.row)) rfl rfl rfl rfl rfl rfl rfl (Lw (nth v1_2 v1_1).Zj (YV (nth v1_2 v1_1).Path (W ((W ((W (v1_0 + 1)) + 1)) + 1))).2) (by simp) (by simp) (by simp [m2, i1]) (by simp [ZA, Z4, m2, i1]) (by simp) (by simp) (by simp) ?_
  simp [List.set_set, YL (x := (ZK.mk v1_0 (W (v1_0 + 1)) (W ((W (v1_0 + 1)) + 1)) (YV (nth v1_2 v1_1).Path (W ((W ((W (v1_0 + 1)) + 1)) + 1))).1 (Y9 (nth v1_2 v1_1).Zj (YV (nth v1_2 v1_1).Path (W ((W ((W (v1_0 + 1)) + 1)) + 1))).2).1)) rfl, ZA, Z4, m2, i1]
  repeat with_reducible refine sd ?_
  refine IK ⟨(p1, (Y9 (nth v1_2 v1_1).Zj (YV (nth v1_2 v1_1).Path (W ((W ((W (v1_0 + 1)) + 1)) + 1))).2).2, (v1_1 + 1), (v1_2.set v1_1 (ZK.mk v1_0 (W (v1_0 + 1)) (W ((W (v1_0 + 1)) + 1)) (YV (nth v1_2 v1_1).Path (W ((W ((W (v1_0 + 1)) + 1)) + 1))).1 (Y9 (nth v1_2 v1_1).Zj (YV (nth v1_2 v1_1).Path (W ((W ((W (v1_0 + 1)) + 1)) + 1))).2).1))), ?_, ?_⟩ (by simp) (XP (by simp [w1]))
  · rw [← e1]; simp only [Qn, h1, Xf, Xg]
  · (simp; omega)
 ·have q1 := h1; try simp at q1
  have x1 : Qn (a0.length + 1) a1 0 a0 = (v1_0, v1_2) := by rw [← e1]; simp only [Qn, h1, Xf, Xg]
  simp
  refine N3 (rv := [.tmp 4]) rfl ?_
  have f1 := Yp.eq_1 a0 a1; simp only [x1, Xf, Xg] at f1; simp [f1]
theorem G6 (a0 : List Zm) (a1 : Int) : Kt Tryz.prog 122 (rL 16 Zm.row a0) [rI a1] (rL 16 Zm.row (XJ a0 a1).1) (.int .i64 (XJ a0 a1).2) := by
 refine Jq Tryz.func122 rfl (by kernel_rfl) (fun v => ?_)
 simp [Tryz.ntmps122]
 refine okL fun k1 => ?_
 refine RT (ι := { s : Nat × Int × Nat × (List Zm) // KN s.1 s.2.1 s.2.2.1 s.2.2.2 = KN (a0.length + 1) a1 0 a0 ∧ (1 ≤ s.1 ∧ s.2.2.2.length < s.1 + s.2.2.1) }) (fun s => YP 139 [(0, .fix v (.one (.sref 0 0 0 s.1.2.2.2.length)), [.arr true 16 (s.1.2.2.2.map Zm.row)]), eI 1 s.1.2.1, eI 5 (↑s.1.2.2.1 : Int)]) (fun s => s.1.1) ⟨((a0.length + 1), a1, 0, a0), rfl, by first | omega | (dsimp only; omega) | simp⟩ (XP (by simp)) ?_
 rintro ⟨⟨n1, v1_0, v1_1, v1_2⟩, e1, j1⟩
 try dsimp only at e1 j1
 obtain ⟨p1, rfl⟩ : ∃ p, n1 = p + 1 := ⟨n1 - 1, by omega⟩
 simp
 refine cC (decide ((↑v1_1 : Int) < (↑v1_2.length : Int))) (fun k2 h1 => ?_) (fun k2 h1 => ?_)
 ·have q1 := h1; try simp at q1
  have i1 : v1_1 < v1_2.length := by simpa using h1
  have m2 : v1_2.length ≤ 9223372036854775807 := by simpa using k2 0 _ rfl
  have w1 : IntKind.i64.wrap ((v1_1 : Int) + 1) = (v1_1 : Int) + 1 := Zk (by omega) (by omega)
  simp [i1, ZA, YL (x := (Zm.mk v1_0 (nth v1_2 v1_1).Xu (nth v1_2 v1_1).Doc (nth v1_2 v1_1).Sig (nth v1_2 v1_1).Z0)) rfl, Z4, List.set_set, YL (x := (Zm.mk v1_0 (W (v1_0 + 1)) (nth v1_2 v1_1).Doc (nth v1_2 v1_1).Sig (nth v1_2 v1_1).Z0)) rfl, YL (x := (Zm.mk v1_0 (W (v1_0 + 1)) (Zc.mk (W ((W (v1_0 + 1)) + 1)) (nth v1_2 v1_1).Doc.ZQ (nth v1_2 v1_1).Doc.Zb) (nth v1_2 v1_1).Sig (nth v1_2 v1_1).Z0)) rfl]
  repeat with_reducible refine sd ?_
  refine R7 (t := 0) (j := 0) (i := v1_1) (c := 3) (size := 16) (rows := ((v1_2.set v1_1 (Zm.mk v1_0 (W (v1_0 + 1)) (Zc.mk (W ((W (v1_0 + 1)) + 1)) (nth v1_2 v1_1).Doc.ZQ (nth v1_2 v1_1).Doc.Zb) (nth v1_2 v1_1).Sig (nth v1_2 v1_1).Z0)).map Zm.row)) rfl rfl rfl rfl rfl rfl rfl (Mh (nth v1_2 v1_1).Doc.ZQ (W ((W ((W (v1_0 + 1)) + 1)) + 1))) (by simp) (by simp) (by simp [m2, i1]) (by simp [ZA, Z4, m2, i1]) (by simp) (by simp) (by simp) ?_
  simp [List.set_set, YL (x := (Zm.mk v1_0 (W (v1_0 + 1)) (Zc.mk (W ((W (v1_0 + 1)) + 1)) (ZB (nth v1_2 v1_1).Doc.ZQ (W ((W ((W (v1_0 + 1)) + 1)) + 1))).1 (nth v1_2 v1_1).Doc.Zb) (nth v1_2 v1_1).Sig (nth v1_2 v1_1).Z0)) rfl, ZA, Z4, m2, i1]
  repeat with_reducible refine sd ?_
  refine R7 (t := 0) (j := 0) (i := v1_1) (c := 4) (size := 16) (rows := ((v1_2.set v1_1 (Zm.mk v1_0 (W (v1_0 + 1)) (Zc.mk (W ((W (v1_0 + 1)) + 1)) (ZB (nth v1_2 v1_1).Doc.ZQ (W ((W ((W (v1_0 + 1)) + 1)) + 1))).1 (nth v1_2 v1_1).Doc.Zb) (nth v1_2 v1_1).Sig (nth v1_2 v1_1).Z0)).map Zm.row)) rfl rfl rfl rfl rfl rfl rfl (KM (nth v1_2 v1_1).Doc.Zb (ZB (nth v1_2 v1_1).Doc.ZQ (W ((W ((W (v1_0 + 1)) + 1)) + 1))).2) (by simp) (by simp) (by simp [m2, i1]) (by simp [ZA, Z4, m2, i1]) (by simp) (by simp) (by simp) ?_
  simp [List.set_set, YL (x := (Zm.mk v1_0 (W (v1_0 + 1)) (Zc.mk (W ((W (v1_0 + 1)) + 1)) (ZB (nth v1_2 v1_1).Doc.ZQ (W ((W ((W (v1_0 + 1)) + 1)) + 1))).1 (ZC (nth v1_2 v1_1).Doc.Zb (ZB (nth v1_2 v1_1).Doc.ZQ (W ((W ((W (v1_0 + 1)) + 1)) + 1))).2).1) (nth v1_2 v1_1).Sig (nth v1_2 v1_1).Z0)) rfl, ZA, Z4, m2, i1, YL (x := (Zm.mk v1_0 (W (v1_0 + 1)) (Zc.mk (W ((W (v1_0 + 1)) + 1)) (ZB (nth v1_2 v1_1).Doc.ZQ (W ((W ((W (v1_0 + 1)) + 1)) + 1))).1 (ZC (nth v1_2 v1_1).Doc.Zb (ZB (nth v1_2 v1_1).Doc.ZQ (W ((W ((W (v1_0 + 1)) + 1)) + 1))).2).1) (ZV.mk (ZC (nth v1_2 v1_1).Doc.Zb (ZB (nth v1_2 v1_1).Doc.ZQ (W ((W ((W (v1_0 + 1)) + 1)) + 1))).2).2 (nth v1_2 v1_1).Sig.YA (nth v1_2 v1_1).Sig.Method (nth v1_2 v1_1).Sig.Yz (nth v1_2 v1_1).Sig.qS (nth v1_2 v1_1).Sig.Org (nth v1_2 v1_1).Sig.y3 (nth v1_2 v1_1).Sig.Kd (nth v1_2 v1_1).Sig.Mark) (nth v1_2 v1_1).Z0)) rfl, YL (x := (Zm.mk v1_0 (W (v1_0 + 1)) (Zc.mk (W ((W (v1_0 + 1)) + 1)) (ZB (nth v1_2 v1_1).Doc.ZQ (W ((W ((W (v1_0 + 1)) + 1)) + 1))).1 (ZC (nth v1_2 v1_1).Doc.Zb (ZB (nth v1_2 v1_1).Doc.ZQ (W ((W ((W (v1_0 + 1)) + 1)) + 1))).2).1) (ZV.mk (ZC (nth v1_2 v1_1).Doc.Zb (ZB (nth v1_2 v1_1).Doc.ZQ (W ((W ((W (v1_0 + 1)) + 1)) + 1))).2).2 (W ((ZC (nth v1_2 v1_1).Doc.Zb (ZB (nth v1_2 v1_1).Doc.ZQ (W ((W ((W (v1_0 + 1)) + 1)) + 1))).2).2 + 1)) (nth v1_2 v1_1).Sig.Method (nth v1_2 v1_1).Sig.Yz (nth v1_2 v1_1).Sig.qS (nth v1_2 v1_1).Sig.Org (nth v1_2 v1_1).Sig.y3 (nth v1_2 v1_1).Sig.Kd (nth v1_2 v1_1).Sig.Mark) (nth v1_2 v1_1).Z0)) rfl, YL (x := (Zm.mk v1_0 (W (v1_0 + 1)) (Zc.mk (W ((W (v1_0 + 1)) + 1)) (ZB (nth v1_2 v1_1).Doc.ZQ (W ((W ((W (v1_0 + 1)) + 1)) + 1))).1 (ZC (nth v1_2 v1_1).Doc.Zb (ZB (nth v1_2 v1_1).Doc.ZQ (W ((W ((W (v1_0 + 1)) + 1)) + 1))).2).1) (ZV.mk (ZC (nth v1_2 v1_1).Doc.Zb (ZB (nth v1_2 v1_1).Doc.ZQ (W ((W ((W (v1_0 + 1)) + 1)) + 1))).2).2 (W ((ZC (nth v1_2 v1_1).Doc.Zb (ZB (nth v1_2 v1_1).Doc.ZQ (W ((W ((W (v1_0 + 1)) + 1)) + 1))).2).2 + 1)) (W ((W ((ZC (nth v1_2 v1_1).Doc.Zb (ZB (nth v1_2 v1_1).Doc.ZQ (W ((W ((W (v1_0 + 1)) + 1)) + 1))).2).2 + 1)) + 1)) (nth v1_2 v1_1).Sig.Yz (nth v1_2 v1_1).Sig.qS (nth v1_2 v1_1).Sig.Org (nth v1_2 v1_1).Sig.y3 (nth v1_2 v1_1).Sig.Kd (nth v1_2 v1_1).Sig.Mark) (nth v1_2 v1_1).Z0)) rfl, YL (x := (Zm.mk v1_0 (W (v1_0 + 1)) (Zc.mk (W ((W (v1_0 + 1)) + 1)) (ZB (nth v1_2 v1_1).Doc.ZQ (W ((W ((W (v1_0 + 1)) + 1)) + 1))).1 (ZC (nth v1_2 v1_1).Doc.Zb (ZB (nth v1_2 v1_1).Doc.ZQ (W ((W ((W (v1_0 + 1)) + 1)) + 1))).2).1) (ZV.mk (ZC (nth v1_2 v1_1).Doc.Zb (ZB (nth v1_2 v1_1).Doc.ZQ (W ((W ((W (v1_0 + 1)) + 1)) + 1))).2).2 (W ((ZC (nth v1_2 v1_1).Doc.Zb (ZB (nth v1_2 v1_1).Doc.ZQ (W ((W ((W (v1_0 + 1)) + 1)) + 1))).2).2 + 1)) (W ((W ((ZC (nth v1_2 v1_1).Doc.Zb (ZB (nth v1_2 v1_1).Doc.ZQ (W ((W ((W (v1_0 + 1)) + 1)) + 1))).2).2 + 1)) + 1)) (W ((W ((W ((ZC (nth v1_2 v1_1).Doc.Zb (ZB (nth v1_2 v1_1).Doc.ZQ (W ((W ((W (v1_0 + 1)) + 1)) + 1))).2).2 + 1)) + 1)) + 1)) (nth v1_2 v1_1).Sig.qS (nth v1_2 v1_1).Sig.Org (nth v1_2 v1_1).Sig.y3 (nth v1_2 v1_1).Sig.Kd (nth v1_2 v1_1).Sig.Mark) (nth v1_2 v1_1).Z0)) rfl, YL (x := (Zm.mk v1_0 (W (v1_0 + 1)) (Zc.mk (W ((W (v1_0 + 1)) + 1)) (ZB (nth v1_2 v1_1).Doc.ZQ (W ((W ((W (v1_0 + 1)) + 1)) + 1))).1 (ZC (nth v1_2 v1_1).Doc.Zb (ZB (nth v1_2 v1_1).Doc.ZQ (W ((W ((W (v1_0 + 1)) + 1)) + 1))).2).1) (ZV.mk (ZC (nth v1_2 v1_1).Doc.Zb (ZB (nth v1_2 v1_1).Doc.ZQ (W ((W ((W (v1_0 + 1)) + 1)) + 1))).2).2 (W ((ZC (nth v1_2 v1_1).Doc.Zb (ZB (nth v1_2 v1_1).Doc.ZQ (W ((W ((W (v1_0 + 1)) + 1)) + 1))).2).2 + 1)) (W ((W ((ZC (nth v1_2 v1_1).Doc.Zb (ZB (nth v1_2 v1_1).Doc.ZQ (W ((W ((W (v1_0 + 1)) + 1)) + 1))).2).2 + 1)) + 1)) (W ((W ((W ((ZC (nth v1_2 v1_1).Doc.Zb (ZB (nth v1_2 v1_1).Doc.ZQ (W ((W ((W (v1_0 + 1)) + 1)) + 1))).2).2 + 1)) + 1)) + 1)) (W ((W ((W ((W ((ZC (nth v1_2 v1_1).Doc.Zb (ZB (nth v1_2 v1_1).Doc.ZQ (W ((W ((W (v1_0 + 1)) + 1)) + 1))).2).2 + 1)) + 1)) + 1)) + 1)) (nth v1_2 v1_1).Sig.Org (nth v1_2 v1_1).Sig.y3 (nth v1_2 v1_1).Sig.Kd (nth v1_2 v1_1).Sig.Mark) (nth v1_2 v1_1).Z0)) rfl, YL (x := (Zm.mk v1_0 (W (v1_0 + 1)) (Zc.mk (W ((W (v1_0 + 1)) + 1)) (ZB (nth v1_2 v1_1).Doc.ZQ (W ((W ((W (v1_0 + 1)) + 1)) + 1))).1 (ZC (nth v1_2 v1_1).Doc.Zb (ZB (nth v1_2 v1_1).Doc.ZQ (W ((W ((W (v1_0 + 1)) + 1)) + 1))).2).1) (ZV.mk (ZC (nth v1_2 v1_1).Doc.Zb (ZB (nth v1_2 v1_1).Doc.ZQ (W ((W ((W (v1_0 + 1)) + 1)) + 1))).2).2 (W ((ZC (nth v1_2 v1_1).Doc.Zb (ZB (nth v1_2 v1_1).Doc.ZQ (W ((W ((W (v1_0 + 1)) + 1)) + 1))).2).2 + 1)) (W ((W ((ZC (nth v1_2 v1_1).Doc.Zb (ZB (nth v1_2 v1_1).Doc.ZQ (W ((W ((W (v1_0 + 1)) + 1)) + 1))).2).2 + 1)) + 1)) (W ((W ((W ((ZC (nth v1_2 v1_1).Doc.Zb (ZB (nth v1_2 v1_1).Doc.ZQ (W ((W ((W (v1_0 + 1)) + 1)) + 1))).2).2 + 1)) + 1)) + 1)) (W ((W ((W ((W ((ZC (nth v1_2 v1_1).Doc.Zb (ZB (nth v1_2 v1_1).Doc.ZQ (W ((W ((W (v1_0 + 1)) + 1)) + 1))).2).2 + 1)) + 1)) + 1)) + 1)) (W ((W ((W ((W ((W ((ZC (nth v1_2 v1_1).Doc.Zb (ZB (nth v1_2 v1_1).Doc.ZQ (W ((W ((W (v1_0 + 1)) + 1)) + 1))).2).2 + 1)) + 1)) + 1)) + 1)) + 1)) (nth v1_2 v1_1).Sig.y3 (nth v1_2 v1_1).Sig.Kd (nth v1_2 v1_1).Sig.Mark) (nth v1_2 v1_1).Z0)) rfl, YL (x := (Zm.mk v1_0 (W (v1_0 + 1)) (Zc.mk (W ((W (v1_0 + 1)) + 1)) (ZB (nth v1_2 v1_1).Doc.ZQ (W ((W ((W (v1_0 + 1)) + 1)) + 1))).1 (ZC (nth v1_2 v1_1).Doc.Zb (ZB (nth v1_2 v1_1).Doc.ZQ (W ((W ((W (v1_0 + 1)) + 1)) + 1))).2).1) (ZV.mk (ZC (nth v1_2 v1_1).Doc.Zb (ZB (nth v1_2 v1_1).Doc.ZQ (W ((W ((W (v1_0 + 1)) + 1)) + 1))).2).2 (W ((ZC (nth v1_2 v1_1).Doc.Zb (ZB (nth v1_2 v1_1).Doc.ZQ (W ((W ((W (v1_0 + 1)) + 1)) + 1))).2).2 + 1)) (W ((W ((ZC (nth v1_2 v1_1).Doc.Zb (ZB (nth v1_2 v1_1).Doc.ZQ (W ((W ((W (v1_0 + 1)) + 1)) + 1))).2).2 + 1)) + 1)) (W ((W ((W ((ZC (nth v1_2 v1_1).Doc.Zb (ZB (nth v1_2 v1_1).Doc.ZQ (W ((W ((W (v1_0 + 1)) + 1)) + 1))).2).2 + 1)) + 1)) + 1)) (W ((W ((W ((W ((ZC (nth v1_2 v1_1).Doc.Zb (ZB (nth v1_2 v1_1).Doc.ZQ (W ((W ((W (v1_0 + 1)) + 1)) + 1))).2).2 + 1)) + 1)) + 1)) + 1)) (W ((W ((W ((W ((W ((ZC (nth v1_2 v1_1).Doc.Zb (ZB (nth v1_2 v1_1).Doc.ZQ (W ((W ((W (v1_0 + 1)) + 1)) + 1))).2).2 + 1)) + 1)) + 1)) + 1)) + 1)) (W ((W ((W ((W ((W ((W ((ZC (nth v1_2 v1_1).Doc.Zb (ZB (nth v1_2 v1_1).Doc.ZQ (W ((W ((W (v1_0 + 1)) + 1)) + 1))).2).2 + 1)) + 1)) + 1)) + 1)) + 1)) + 1)) (nth v1_2 v1_1).Sig.Kd (nth v1_2 v1_1).Sig.Mark) (nth v1_2 v1_1).Z0)) rfl, YL (x := (Zm.mk v1_0 (W (v1_0 + 1)) (Zc.mk (W ((W (v1_0 + 1)) + 1)) (ZB (nth v1_2 v1_1).Doc.ZQ (W ((W ((W (v1_0 + 1)) + 1)) + 1))).1 (ZC (nth v1_2 v1_1).Doc.Zb (ZB (nth v1_2 v1_1).Doc.ZQ (W ((W ((W (v1_0 + 1)) + 1)) + 1))).2).1) (ZV.mk (ZC (nth v1_2 v1_1).Doc.Zb (ZB (nth v1_2 v1_1).Doc.ZQ (W ((W ((W (v1_0 + 1)) + 1)) + 1))).2).2 (W ((ZC (nth v1_2 v1_1).Doc.Zb (ZB (nth v1_2 v1_1).Doc.ZQ (W ((W ((W (v1_0 + 1)) + 1)) + 1))).2).2 + 1)) (W ((W ((ZC (nth v1_2 v1_1).Doc.Zb (ZB (nth v1_2 v1_1).Doc.ZQ (W ((W ((W (v1_0 + 1)) + 1)) + 1))).2).2 + 1)) + 1)) (W ((W ((W ((ZC (nth v1_2 v1_1).Doc.Zb (ZB (nth v1_2 v1_1).Doc.ZQ (W ((W ((W (v1_0 + 1)) + 1)) + 1))).2).2 + 1)) + 1)) + 1)) (W ((W ((W ((W ((ZC (nth v1_2 v1_1).Doc.Zb (ZB (nth v1_2 v1_1).Doc.ZQ (W ((W ((W (v1_0 + 1)) + 1)) + 1))).2).2 + 1)) + 1)) + 1)) + 1)) (W ((W ((W ((W ((W ((ZC (nth v1_2 v1_1).Doc.Zb (ZB (nth v1_2 v1_1).Doc.ZQ (W ((W ((W (v1_0 + 1)) + 1)) + 1))).2).2 + 1)) + 1)) + 1)) + 1)) + 1)) (W ((W ((W ((W ((W ((W ((ZC (nth v1_2 v1_1).Doc.Zb (ZB (nth v1_2 v1_1).Doc.ZQ (W ((W ((W (v1_0 + 1)) + 1)) + 1))).2).2 + 1)) + 1)) + 1)) + 1)) + 1)) + 1)) (W ((W ((W ((W ((W ((W ((W ((ZC (nth v1_2 v1_1).Doc.Zb (ZB (nth v1_2 v1_1).Doc.ZQ (W ((W ((W (v1_0 + 1)) + 1)) + 1))).2).2 + 1)) + 1)) + 1)) + 1)) + 1)) + 1)) + 1)) (nth v1_2 v1_1).Sig.Mark) (nth v1_2 v1_1).Z0)) rfl, YL (x := (Zm.mk v1_0 (W (v1_0 + 1)) (Zc.mk (W ((W (v1_0 + 1)) + 1)) (ZB (nth v1_2 v1_1).Doc.ZQ (W ((W ((W (v1_0 + 1)) + 1)) + 1))).1 (ZC (nth v1_2 v1_1).Doc.Zb (ZB (nth v1_2 v1_1).Doc.ZQ (W ((W ((W (v1_0 + 1)) + 1)) + 1))).2).1) (ZV.mk (ZC (nth v1_2 v1_1).Doc.Zb (ZB (nth v1_2 v1_1).Doc.ZQ (W ((W ((W (v1_0 + 1)) + 1)) + 1))).2).2 (W ((ZC (nth v1_2 v1_1).Doc.Zb (ZB (nth v1_2 v1_1).Doc.ZQ (W ((W ((W (v1_0 + 1)) + 1)) + 1))).2).2 + 1)) (W ((W ((ZC (nth v1_2 v1_1).Doc.Zb (ZB (nth v1_2 v1_1).Doc.ZQ (W ((W ((W (v1_0 + 1)) + 1)) + 1))).2).2 + 1)) + 1)) (W ((W ((W ((ZC (nth v1_2 v1_1).Doc.Zb (ZB (nth v1_2 v1_1).Doc.ZQ (W ((W ((W (v1_0 + 1)) + 1)) + 1))).2).2 + 1)) + 1)) + 1)) (W ((W ((W ((W ((ZC (nth v1_2 v1_1).Doc.Zb (ZB (nth v1_2 v1_1).Doc.ZQ (W ((W ((W (v1_0 + 1)) + 1)) + 1))).2).2 + 1)) + 1)) + 1)) + 1)) (W ((W ((W ((W ((W ((ZC (nth v1_2 v1_1).Doc.Zb (ZB (nth v1_2 v1_1).Doc.ZQ (W ((W ((W (v1_0 + 1)) + 1)) + 1))).2).2 + 1)) + 1)) + 1)) + 1)) + 1)) (W ((W ((W ((W ((W ((W ((ZC (nth v1_2 v1_1).Doc.Zb (ZB (nth v1_2 v1_1).Doc.ZQ (W ((W ((W (v1_0 + 1)) + 1)) + 1))).2).2 + 1)) + 1)) + 1)) + 1)) + 1)) + 1)) (W ((W ((W ((W ((W ((W ((W ((ZC (nth v1_2 v1_1).Doc.Zb (ZB (nth v1_2 v1_1).Doc.ZQ (W ((W ((W (v1_0 + 1)) + 1)) + 1))).2).2 + 1)) + 1)) + 1)) + 1)) + 1)) + 1)) + 1)) (W ((W ((W ((W ((W ((W ((W ((W ((ZC (nth v1_2 v1_1).Doc.Zb (ZB (nth v1_2 v1_1).Doc.ZQ (W ((W ((W (v1_0 + 1)) + 1)) + 1))).2).2 + 1)) + 1)) + 1)) + 1)) + 1)) + 1)) + 1)) + 1))) (nth v1_2 v1_1).Z0)) rfl]
  repeat with_reducible refine sd ?_
  refine R7 (t := 0) (j := 0) (i := v1_1) (c := 14) (size := 16) (rows := ((v1_2.set v1_1 (Zm.mk v1_0 (W (v1_0 + 1)) (Zc.mk (W ((W (v1_0 + 1)) + 1)) (ZB (nth v1_2 v1_1).Doc.ZQ (W ((W ((W (v1_0 + 1)) + 1)) + 1))).1 (ZC (nth v1_2 v1_1).Doc.Zb (ZB (nth v1_2 v1_1).Doc.ZQ (W ((W ((W (v1_0 + 1)) + 1)) + 1))).2).1) (ZV.mk (ZC (nth v1_2 v1_1).Doc.Zb (ZB (nth v1_2 v1_1).Doc.ZQ (W ((W ((W (v1_0 + 1)) + 1)) + 1))).2).2 (W ((ZC (nth v1_2 v1_1).Doc.Zb (ZB (nth v1_2 v1_1).Doc.ZQ (W ((W ((W (v1_0 + 1)) + 1)) + 1))).2).2 + 1)) (W ((W ((ZC (nth v1_2 v1_1).Doc.Zb (ZB (nth v1_2 v1_1).Doc.ZQ (W ((W ((W (v1_0 + 1)) + 1)) + 1))).2).2 + 1)) + 1)) (W ((W ((W ((ZC (nth v1_2 v1_1).Doc.Zb (ZB (nth v1_2 v1_1).Doc.ZQ (W ((W ((W (v1_0 + 1)) + 1)) + 1))).2).2 + 1)) + 1)) + 1)) (W ((W ((W ((W ((ZC (nth v1_2 v1_1).Doc.Zb (ZB (nth v1_2 v1_1).Doc.ZQ (W ((W ((W (v1_0 + 1)) + 1)) + 1))).2).2 + 1)) + 1)) + 1)) + 1)) (W ((W ((W ((W ((W ((ZC (nth v1_2 v1_1).Doc.Zb (ZB (nth v1_2 v1_1).Doc.ZQ (W ((W ((W (v1_0 + 1)) + 1)) + 1))).2).2 + 1)) + 1)) + 1)) + 1)) + 1)) (W ((W ((W ((W ((W ((W ((ZC (nth v1_2 v1_1).Doc.Zb (ZB (nth v1_2 v1_1).Doc.ZQ (W ((W ((W (v1_0 + 1)) + 1)) + 1))).2).2 + 1)) + 1)) + 1)) + 1)) + 1)) + 1)) (W ((W ((W ((W ((W ((W ((W ((ZC (nth v1_2 v1_1).Doc.Zb (ZB (nth v1_2 v1_1).Doc.ZQ (W ((W ((W (v1_0 + 1)) + 1)) + 1))).2).2 + 1)) + 1)) + 1)) + 1)) + 1)) + 1)) + 1)) (W ((W ((W ((W ((W ((W ((W ((W ((ZC (nth v1_2 v1_1).Doc.Zb (ZB (nth v1_2 v1_1).Doc.ZQ (W ((W ((W (v1_0 + 1)) + 1)) + 1))).2).2 + 1)) + 1)) + 1)) + 1)) + 1)) + 1)) + 1)) + 1))) (nth v1_2 v1_1).Z0)).map Zm.row)) rfl rfl rfl rfl rfl rfl rfl (Iv (nth v1_2 v1_1).Z0.Zd (W ((W ((W ((W ((W ((W ((W ((W ((W ((ZC (nth v1_2 v1_1).Doc.Zb (ZB (nth v1_2 v1_1).Doc.ZQ (W ((W ((W (v1_0 + 1)) + 1)) + 1))).2).2 + 1)) + 1)) + 1)) + 1)) + 1)) + 1)) + 1)) + 1)) + 1))) (by simp) (by simp) (by simp [m2, i1]) (by simp [ZA, Z4, m2, i1]) (by simp) (by simp) (by simp) ?_
  simp [List.set_set, YL (x := (Zm.mk v1_0 (W (v1_0 + 1)) (Zc.mk (W ((W (v1_0 + 1)) + 1)) (ZB (nth v1_2 v1_1).Doc.ZQ (W ((W ((W (v1_0 + 1)) + 1)) + 1))).1 (ZC (nth v1_2 v1_1).Doc.Zb (ZB (nth v1_2 v1_1).Doc.ZQ (W ((W ((W (v1_0 + 1)) + 1)) + 1))).2).1) (ZV.mk (ZC (nth v1_2 v1_1).Doc.Zb (ZB (nth v1_2 v1_1).Doc.ZQ (W ((W ((W (v1_0 + 1)) + 1)) + 1))).2).2 (W ((ZC (nth v1_2 v1_1).Doc.Zb (ZB (nth v1_2 v1_1).Doc.ZQ (W ((W ((W (v1_0 + 1)) + 1)) + 1))).2).2 + 1)) (W ((W ((ZC (nth v1_2 v1_1).Doc.Zb (ZB (nth v1_2 v1_1).Doc.ZQ (W ((W ((W (v1_0 + 1)) + 1)) + 1))).2).2 + 1)) + 1)) (W ((W ((W ((ZC (nth v1_2 v1_1).Doc.Zb (ZB (nth v1_2 v1_1).Doc.ZQ (W ((W ((W (v1_0 + 1)) + 1)) + 1))).2).2 + 1)) + 1)) + 1)) (W ((W ((W ((W ((ZC (nth v1_2 v1_1).Doc.Zb (ZB (nth v1_2 v1_1).Doc.ZQ (W ((W ((W (v1_0 + 1)) + 1)) + 1))).2).2 + 1)) + 1)) + 1)) + 1)) (W ((W ((W ((W ((W ((ZC (nth v1_2 v1_1).Doc.Zb (ZB (nth v1_2 v1_1).Doc.ZQ (W ((W ((W (v1_0 + 1)) + 1)) + 1))).2).2 + 1)) + 1)) + 1)) + 1)) + 1)) (W ((W ((W ((W ((W ((W ((ZC (nth v1_2 v1_1).Doc.Zb (ZB (nth v1_2 v1_1).Doc.ZQ (W ((W ((W (v1_0 + 1)) + 1)) + 1))).2).2 + 1)) + 1)) + 1)) + 1)) + 1)) + 1)) (W ((W ((W ((W ((W ((W ((W ((ZC (nth v1_2 v1_1).Doc.Zb (ZB (nth v1_2 v1_1).Doc.ZQ (W ((W ((W (v1_0 + 1)) + 1)) + 1))).2).2 + 1)) + 1)) + 1)) + 1)) + 1)) + 1)) + 1)) (W ((W ((W ((W ((W ((W ((W ((W ((ZC (nth v1_2 v1_1).Doc.Zb (ZB (nth v1_2 v1_1).Doc.ZQ (W ((W ((W (v1_0 + 1)) + 1)) + 1))).2).2 + 1)) + 1)) + 1)) + 1)) + 1)) + 1)) + 1)) + 1))) (ZP.mk (YJ (nth v1_2 v1_1).Z0.Zd (W ((W ((W ((W ((W ((W ((W ((W ((W ((ZC (nth v1_2 v1_1).Doc.Zb (ZB (nth v1_2 v1_1).Doc.ZQ (W ((W ((W (v1_0 + 1)) + 1)) + 1))).2).2 + 1)) + 1)) + 1)) + 1)) + 1)) + 1)) + 1)) + 1)) + 1))).1 (nth v1_2 v1_1).Z0.ZX))) rfl, ZA, Z4, m2, i1]
  repeat with_reducible refine sd ?_
  refine R7 (t := 0) (j := 0) (i := v1_1) (c := 15) (size := 16) (rows := ((v1_2.set v1_1 (Zm.mk v1_0 (W (v1_0 + 1)) (Zc.mk (W ((W (v1_0 + 1)) + 1)) (ZB (nth v1_2 v1_1).Doc.ZQ (W ((W ((W (v1_0 + 1)) + 1)) + 1))).1 (ZC (nth v1_2 v1_1).Doc.Zb (ZB (nth v1_2 v1_1).Doc.ZQ (W ((W ((W (v1_0 + 1)) + 1)) + 1))).2).1) (ZV.mk (ZC (nth v1_2 v1_1).Doc.Zb (ZB (nth v1_2 v1_1).Doc.ZQ (W ((W ((W (v1_0 + 1)) + 1)) + 1))).2).2 (W ((ZC (nth v1_2 v1_1).Doc.Zb (ZB (nth v1_2 v1_1).Doc.ZQ (W ((W ((W (v1_0 + 1)) + 1)) + 1))).2).2 + 1)) (W ((W ((ZC (nth v1_2 v1_1).Doc.Zb (ZB (nth v1_2 v1_1).Doc.ZQ (W ((W ((W (v1_0 + 1)) + 1)) + 1))).2).2 + 1)) + 1)) (W ((W ((W ((ZC (nth v1_2 v1_1).Doc.Zb (ZB (nth v1_2 v1_1).Doc.ZQ (W ((W ((W (v1_0 + 1)) + 1)) + 1))).2).2 + 1)) + 1)) + 1)) (W ((W ((W ((W ((ZC (nth v1_2 v1_1).Doc.Zb (ZB (nth v1_2 v1_1).Doc.ZQ (W ((W ((W (v1_0 + 1)) + 1)) + 1))).2).2 + 1)) + 1)) + 1)) + 1)) (W ((W ((W ((W ((W ((ZC (nth v1_2 v1_1).Doc.Zb (ZB (nth v1_2 v1_1).Doc.ZQ (W ((W ((W (v1_0 + 1)) + 1)) + 1))).2).2 + 1)) + 1)) + 1)) + 1)) + 1)) (W ((W ((W ((W ((W ((W ((ZC (nth v1_2 v1_1).Doc.Zb (ZB (nth v1_2 v1_1).Doc.ZQ (W ((W ((W (v1_0 + 1)) + 1)) + 1))).2).2 + 1)) + 1)) + 1)) + 1)) + 1)) + 1)) (W ((W ((W ((W ((W ((W ((W ((ZC (nth v1_2 v1_1).Doc.Zb (ZB (nth v1_2 v1_1).Doc.ZQ (W ((W ((W (v1_0 + 1)) + 1)) + 1))).2).2 + 1)) + 1)) + 1)) + 1)) + 1)) + 1)) + 1)) (W ((W ((W ((W ((W ((W ((W ((W ((ZC (nth v1_2 v1_1).Doc.Zb (ZB (nth v1_2 v1_1).Doc.ZQ (W ((W ((W (v1_0 + 1)) + 1)) + 1))).2).2 + 1)) + 1)) + 1)) + 1)) + 1)) + 1)) + 1)) + 1))) (ZP.mk (YJ (nth v1_2 v1_1).Z0.Zd (W ((W ((W ((W ((W ((W ((W ((W ((W ((ZC (nth v1_2 v1_1).Doc.Zb (ZB (nth v1_2 v1_1).Doc.ZQ (W ((W ((W (v1_0 + 1)) + 1)) + 1))).2).2 + 1)) + 1)) + 1)) + 1)) + 1)) + 1)) + 1)) + 1)) + 1))).1 (nth v1_2 v1_1).Z0.ZX))).map Zm.row)) rfl rfl rfl rfl rfl rfl rfl (Nw (nth v1_2 v1_1).Z0.ZX (YJ (nth v1_2 v1_1).Z0.Zd (W ((W ((W ((W ((W ((W ((W ((W ((W ((ZC (nth v1_2 v1_1).Doc.Zb (ZB (nth v1_2 v1_1).Doc.ZQ (W ((W ((W (v1_0 + 1)) + 1)) + 1))).2).2 + 1)) + 1)) + 1)) + 1)) + 1)) + 1)) + 1)) + 1)) + 1))).2) (by simp) (by simp) (by simp [m2, i1]) (by simp [ZA, Z4, m2, i1]) (by simp) (by simp) (by simp) ?_
  simp [List.set_set, YL (x := (Zm.mk v1_0 (W (v1_0 + 1)) (Zc.mk (W ((W (v1_0 + 1)) + 1)) (ZB (nth v1_2 v1_1).Doc.ZQ (W ((W ((W (v1_0 + 1)) + 1)) + 1))).1 (ZC (nth v1_2 v1_1).Doc.Zb (ZB (nth v1_2 v1_1).Doc.ZQ (W ((W ((W (v1_0 + 1)) + 1)) + 1))).2).1) (ZV.mk (ZC (nth v1_2 v1_1).Doc.Zb (ZB (nth v1_2 v1_1).Doc.ZQ (W ((W ((W (v1_0 + 1)) + 1)) + 1))).2).2 (W ((ZC (nth v1_2 v1_1).Doc.Zb (ZB (nth v1_2 v1_1).Doc.ZQ (W ((W ((W (v1_0 + 1)) + 1)) + 1))).2).2 + 1)) (W ((W ((ZC (nth v1_2 v1_1).Doc.Zb (ZB (nth v1_2 v1_1).Doc.ZQ (W ((W ((W (v1_0 + 1)) + 1)) + 1))).2).2 + 1)) + 1)) (W ((W ((W ((ZC (nth v1_2 v1_1).Doc.Zb (ZB (nth v1_2 v1_1).Doc.ZQ (W ((W ((W (v1_0 + 1)) + 1)) + 1))).2).2 + 1)) + 1)) + 1)) (W ((W ((W ((W ((ZC (nth v1_2 v1_1).Doc.Zb (ZB (nth v1_2 v1_1).Doc.ZQ (W ((W ((W (v1_0 + 1)) + 1)) + 1))).2).2 + 1)) + 1)) + 1)) + 1)) (W ((W ((W ((W ((W ((ZC (nth v1_2 v1_1).Doc.Zb (ZB (nth v1_2 v1_1).Doc.ZQ (W ((W ((W (v1_0 + 1)) + 1)) + 1))).2).2 + 1)) + 1)) + 1)) + 1)) + 1)) (W ((W ((W ((W ((W ((W ((ZC (nth v1_2 v1_1).Doc.Zb (ZB (nth v1_2 v1_1).Doc.ZQ (W ((W ((W (v1_0 + 1)) + 1)) + 1))).2).2 + 1)) + 1)) + 1)) + 1)) + 1)) + 1)) (W ((W ((W ((W ((W ((W ((W ((ZC (nth v1_2 v1_1).Doc.Zb (ZB (nth v1_2 v1_1).Doc.ZQ (W ((W ((W (v1_0 + 1)) + 1)) + 1))).2).2 + 1)) + 1)) + 1)) + 1)) + 1)) + 1)) + 1)) (W ((W ((W ((W ((W ((W ((W ((W ((ZC (nth v1_2 v1_1).Doc.Zb (ZB (nth v1_2 v1_1).Doc.ZQ (W ((W ((W (v1_0 + 1)) + 1)) + 1))).2).2 + 1)) + 1)) + 1)) + 1)) + 1)) + 1)) + 1)) + 1))) (ZP.mk (YJ (nth v1_2 v1_1).Z0.Zd (W ((W ((W ((W ((W ((W ((W ((W ((W ((ZC (nth v1_2 v1_1).Doc.Zb (ZB (nth v1_2 v1_1).Doc.ZQ (W ((W ((W (v1_0 + 1)) + 1)) + 1))).2).2 + 1)) + 1)) + 1)) + 1)) + 1)) + 1)) + 1)) + 1)) + 1))).1 (Yp (nth v1_2 v1_1).Z0.ZX (YJ (nth v1_2 v1_1).Z0.Zd (W ((W ((W ((W ((W ((W ((W ((W ((W ((ZC (nth v1_2 v1_1).Doc.Zb (ZB (nth v1_2 v1_1).Doc.ZQ (W ((W ((W (v1_0 + 1)) + 1)) + 1))).2).2 + 1)) + 1)) + 1)) + 1)) + 1)) + 1)) + 1)) + 1)) + 1))).2).1))) rfl, ZA, Z4, m2, i1]
  repeat with_reducible refine sd ?_
  refine IK ⟨(p1, (Yp (nth v1_2 v1_1).Z0.ZX (YJ (nth v1_2 v1_1).Z0.Zd (W ((W ((W ((W ((W ((W ((W ((W ((W ((ZC (nth v1_2 v1_1).Doc.Zb (ZB (nth v1_2 v1_1).Doc.ZQ (W ((W ((W (v1_0 + 1)) + 1)) + 1))).2).2 + 1)) + 1)) + 1)) + 1)) + 1)) + 1)) + 1)) + 1)) + 1))).2).2, (v1_1 + 1), (v1_2.set v1_1 (Zm.mk v1_0 (W (v1_0 + 1)) (Zc.mk (W ((W (v1_0 + 1)) + 1)) (ZB (nth v1_2 v1_1).Doc.ZQ (W ((W ((W (v1_0 + 1)) + 1)) + 1))).1 (ZC (nth v1_2 v1_1).Doc.Zb (ZB (nth v1_2 v1_1).Doc.ZQ (W ((W ((W (v1_0 + 1)) + 1)) + 1))).2).1) (ZV.mk (ZC (nth v1_2 v1_1).Doc.Zb (ZB (nth v1_2 v1_1).Doc.ZQ (W ((W ((W (v1_0 + 1)) + 1)) + 1))).2).2 (W ((ZC (nth v1_2 v1_1).Doc.Zb (ZB (nth v1_2 v1_1).Doc.ZQ (W ((W ((W (v1_0 + 1)) + 1)) + 1))).2).2 + 1)) (W ((W ((ZC (nth v1_2 v1_1).Doc.Zb (ZB (nth v1_2 v1_1).Doc.ZQ (W ((W ((W (v1_0 + 1)) + 1)) + 1))).2).2 + 1)) + 1)) (W ((W ((W ((ZC (nth v1_2 v1_1).Doc.Zb (ZB (nth v1_2 v1_1).Doc.ZQ (W ((W ((W (v1_0 + 1)) + 1)) + 1))).2).2 + 1)) + 1)) + 1)) (W ((W ((W ((W ((ZC (nth v1_2 v1_1).Doc.Zb (ZB (nth v1_2 v1_1).Doc.ZQ (W ((W ((W (v1_0 + 1)) + 1)) + 1))).2).2 + 1)) + 1)) + 1)) + 1)) (W ((W ((W ((W ((W ((ZC (nth v1_2 v1_1).Doc.Zb (ZB (nth v1_2 v1_1).Doc.ZQ (W ((W ((W (v1_0 + 1)) + 1)) + 1))).2).2 + 1)) + 1)) + 1)) + 1)) + 1)) (W ((W ((W ((W ((W ((W ((ZC (nth v1_2 v1_1).Doc.Zb (ZB (nth v1_2 v1_1).Doc.ZQ (W ((W ((W (v1_0 + 1)) + 1)) + 1))).2).2 + 1)) + 1)) + 1)) + 1)) + 1)) + 1)) (W ((W ((W ((W ((W ((W ((W ((ZC (nth v1_2 v1_1).Doc.Zb (ZB (nth v1_2 v1_1).Doc.ZQ (W ((W ((W (v1_0 + 1)) + 1)) + 1))).2).2 + 1)) + 1)) + 1)) + 1)) + 1)) + 1)) + 1)) (W ((W ((W ((W ((W ((W ((W ((W ((ZC (nth v1_2 v1_1).Doc.Zb (ZB (nth v1_2 v1_1).Doc.ZQ (W ((W ((W (v1_0 + 1)) + 1)) + 1))).2).2 + 1)) + 1)) + 1)) + 1)) + 1)) + 1)) + 1)) + 1))) (ZP.mk (YJ (nth v1_2 v1_1).Z0.Zd (W ((W ((W ((W ((W ((W ((W ((W ((W ((ZC (nth v1_2 v1_1).Doc.Zb (ZB (nth v1_2 v1_1).Doc.ZQ (W ((W ((W (v1_0 + 1)) + 1)) + 1))).2).2 + 1)) + 1)) + 1)) + 1)) + 1)) + 1)) + 1)) + 1)) + 1))).1 (Yp (nth v1_2 v1_1).Z0.ZX (YJ (nth v1_2 v1_1).Z0.Zd (W ((W ((W ((W ((W ((W ((W ((W ((W ((ZC (nth v1_2 v1_1).Doc.Zb (ZB (nth v1_2 v1_1).Doc.ZQ (W ((W ((W (v1_0 + 1)) + 1)) + 1))).2).2 + 1)) + 1)) + 1)) + 1)) + 1)) + 1)) + 1)) + 1)) + 1))).2).1)))), ?_, ?_⟩ (by simp) (XP (by simp [w1]))
  · rw [← e1]; simp only [KN, h1, Xf, Xg]
  · (simp; omega)
 ·have q1 := h1; try simp at q1
  have x1 : KN (a0.length + 1) a1 0 a0 = (v1_0, v1_2) := by rw [← e1]; simp only [KN, h1, Xf, Xg]
  simp
  refine N3 (rv := [.tmp 4]) rfl ?_
  have f1 := XJ.eq_1 a0 a1; simp only [x1, Xf, Xg] at f1; simp [f1]
theorem NB (a0 : List Zf) (a1 : Int) : Kt Tryz.prog 87 (rL 2 Zf.row a0) [rI a1] (rL 2 Zf.row (YK a0 a1).1) (.int .i64 (YK a0 a1).2) := by
 refine Jq Tryz.func87 rfl (by kernel_rfl) (fun v => ?_)
 simp [Tryz.ntmps87]
 refine okL fun k1 => ?_
 refine RT (ι := { s : Nat × Int × Nat × (List Zf) // Qo s.1 s.2.1 s.2.2.1 s.2.2.2 = Qo (a0.length + 1) a1 0 a0 ∧ (1 ≤ s.1 ∧ s.2.2.2.length < s.1 + s.2.2.1) }) (fun s => YP 27 [(0, .fix v (.one (.sref 0 0 0 s.1.2.2.2.length)), [.arr true 2 (s.1.2.2.2.map Zf.row)]), eI 1 s.1.2.1, eI 5 (↑s.1.2.2.1 : Int)]) (fun s => s.1.1) ⟨((a0.length + 1), a1, 0, a0), rfl, by first | omega | (dsimp only; omega) | simp⟩ (XP (by simp)) ?_
 rintro ⟨⟨n1, v1_0, v1_1, v1_2⟩, e1, j1⟩
 try dsimp only at e1 j1
 obtain ⟨p1, rfl⟩ : ∃ p, n1 = p + 1 := ⟨n1 - 1, by omega⟩
 simp
 refine cC (decide ((↑v1_1 : Int) < (↑v1_2.length : Int))) (fun k2 h1 => ?_) (fun k2 h1 => ?_)
 ·have q1 := h1; try simp at q1
  have i1 : v1_1 < v1_2.length := by simpa using h1
  have m2 : v1_2.length ≤ 9223372036854775807 := by simpa using k2 0 _ rfl
  have w1 : IntKind.i64.wrap ((v1_1 : Int) + 1) = (v1_1 : Int) + 1 := Zk (by omega) (by omega)
  simp [i1, ZA, YL (x := (Zf.mk v1_0 (nth v1_2 v1_1).YM)) rfl, Z4]
  repeat with_reducible refine sd ?_
  refine R7 (t := 0) (j := 0) (i := v1_1) (c := 1) (size := 2) (rows := ((v1_2.set v1_1 (Zf.mk v1_0 (nth v1_2 v1_1).YM)).map Zf.row)) rfl rfl rfl rfl rfl rfl rfl (G6 (nth v1_2 v1_1).YM (W (v1_0 + 1))) (by simp) (by simp) (by simp [m2, i1]) (by simp [ZA, Z4, m2, i1]) (by simp) (by simp) (by simp) ?_
  simp [List.set_set, YL (x := (Zf.mk v1_0 (XJ (nth v1_2 v1_1).YM (W (v1_0 + 1))).1)) rfl, ZA, Z4, m2, i1]
  repeat with_reducible refine sd ?_
  refine IK ⟨(p1, (XJ (nth v1_2 v1_1).YM (W (v1_0 + 1))).2, (v1_1 + 1), (v1_2.set v1_1 (Zf.mk v1_0 (XJ (nth v1_2 v1_1).YM (W (v1_0 + 1))).1))), ?_, ?_⟩ (by simp) (XP (by simp [w1]))
  · rw [← e1]; simp only [Qo, h1, Xf, Xg]
  · (simp; omega)
 ·have q1 := h1; try simp at q1
  have x1 : Qo (a0.length + 1) a1 0 a0 = (v1_0, v1_2) := by rw [← e1]; simp only [Qo, h1, Xf, Xg]
  simp
  refine N3 (rv := [.tmp 4]) rfl ?_
  have f1 := YK.eq_1 a0 a1; simp only [x1, Xf, Xg] at f1; simp [f1]
theorem PZ (a0 : Zo) (a1 : Int) : Kt Tryz.prog 37 a0.row [rI a1] (YQ a0 a1).1.row (.int .i64 (YQ a0 a1).2) := by
 refine Jq Tryz.func37 rfl (by kernel_rfl) (fun v => ?_)
 simp [Tryz.ntmps37]
 refine kB (ats := [.sref 0 0 0 a0.Frame.YY.length, .sref 0 1 0 a0.Frame.ZN.length, .sref 0 2 0 a0.Frame.Methods.length, .d (.int .i64 a0.Frame.QR), .d (.int .i64 a0.Frame.Now)]) rfl rfl rfl rfl rfl rfl rfl (Hb a0.Frame a1) (by simp) (by simp) (by simp) (by simp) (by simp) (by simp) (by simp) (by simp) (by simp) ?_
 simp
 refine kB (ats := [.sref 0 5 0 a0.Yg.length]) rfl rfl rfl rfl rfl rfl rfl (Hp a0.Yg (Zw a0.Frame a1).2) (by simp) (by simp) (by simp) (by simp) (by simp) (by simp) (by simp) (by simp) (by simp) ?_
 simp
 refine kB (ats := [.sref 0 6 0 a0.YW.length]) rfl rfl rfl rfl rfl rfl rfl (KM a0.YW (YI a0.Yg (Zw a0.Frame a1).2).2) (by simp) (by simp) (by simp) (by simp) (by simp) (by simp) (by simp) (by simp) (by simp) ?_
 simp
 refine kB (ats := [.sref 0 7 0 a0.ZJ.length]) rfl rfl rfl rfl rfl rfl rfl (NB a0.ZJ (ZC a0.YW (YI a0.Yg (Zw a0.Frame a1).2).2).2) (by simp) (by simp) (by simp) (by simp) (by simp) (by simp) (by simp) (by simp) (by simp) ?_
 simp
 refine kB (ats := [.sref 0 8 0 a0.J8.length]) rfl rfl rfl rfl rfl rfl rfl (KM a0.J8 (YK a0.ZJ (ZC a0.YW (YI a0.Yg (Zw a0.Frame a1).2).2).2).2) (by simp) (by simp) (by simp) (by simp) (by simp) (by simp) (by simp) (by simp) (by simp) ?_
 simp
 refine kB (ats := [.sref 0 9 0 a0.Q6.length]) rfl rfl rfl rfl rfl rfl rfl (KM a0.Q6 (ZC a0.J8 (YK a0.ZJ (ZC a0.YW (YI a0.Yg (Zw a0.Frame a1).2).2).2).2).2) (by simp) (by simp) (by simp) (by simp) (by simp) (by simp) (by simp) (by simp) (by simp) ?_
 simp
 refine kB (ats := [.sref 0 11 0 a0.QP.length]) rfl rfl rfl rfl rfl rfl rfl (KM a0.QP (ZC a0.Q6 (ZC a0.J8 (YK a0.ZJ (ZC a0.YW (YI a0.Yg (Zw a0.Frame a1).2).2).2).2).2).2) (by simp) (by simp) (by simp) (by simp) (by simp) (by simp) (by simp) (by simp) (by simp) ?_
 simp
 refine N3 (rv := [.tmp 4]) rfl ?_
 have f1 := YQ.eq_1 a0 a1; simp [f1]
theorem ks (a0 : List Int) (a1 : Int) : Sa 39 [rL 1 iR a0, rI a1] [rI (Jz a0 a1)] := by
 have f := me (Jz.eq_1 a0 a1)
 refine so Tryz.func39 Tryz.ntmps39 ?_
 refine lp2 (VI.eq_2 a0) (fun v1_0 v1_1 => YP 21 [eL 0 1 a0 iR, eI 1 v1_0, eI 5 (↑v1_1 : Int)]) (fun n1 v1_0 v1_1 => a0.length < n1 + v1_1 ∧ v1_1 ≤ a0.length) (a0.length + 1) a1 0 (fun p1 v1_0 v1_1 e1 j1 => ?_)
 refine cFf e1 ?_ ?_ <;> intro k2 h1 e1
 ·have i1 := ix h1
  have m2 := ml a0 (k2 0 _ rfl)
  have w1 := wr v1_1
  simp [i1, ZA]
  repeat with_reducible refine sd ?_
  refine cF e1 ?_ ?_ <;> intro k3 h2 e1
  ·have f := ms f e1
   exact rt [.tmp 4] f
  exact ny2 w1 e1
 have f := ms f e1
 exact rt [.tmp 4] f
end Go.Proofs.YtfhmpplolpejnaaGreat
