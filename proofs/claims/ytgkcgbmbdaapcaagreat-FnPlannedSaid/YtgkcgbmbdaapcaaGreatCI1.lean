/- Contracts of the functions U3 the abstract machine, part I1. No condition. -/
import Derived.Test.YtgkcgbmbdaapcaaGreatL
import Derived.Test.YtgkcgbmbdaapcaaGreatTy
namespace Go.Proofs.YtgkcgbmbdaapcaaGreat
open Tryz
open Go.Vm Go.Mo
set_option maxHeartbeats 1000000
set_option maxRecDepth 100000
set_option linter.unusedSimpArgs false
set_option linter.unusedVariables false
theorem zm (a0 : Za) : Sa 31 [a0.row] [(Z5 a0).1.row, rB (Z5 a0).2] := by
 have f := me (Z5.eq_1 a0)
 refine so func31 ntmps31 ?_
 refine cFt f ?_ ?_ <;> intro k1 h1 f
 ·exact rt [.cell 2 83, .tmp 3] f
 have i1 := ik (a0.YD.ZN.length - 1) a0.YD.ZN
 have m1 := ml a0.YD.ZN (k1 7 _ rfl)
 have w1 : IntKind.i64.wrap ((a0.YD.ZN.length : Int) - 1) = (a0.YD.ZN.length : Int) - 1 := Yi (by omega) (by omega)
 simp [i1, ZC, w1, JA]
 refine rpS ?_
 exact rt [.cell 2 83, .tmp 3] f
theorem yZ (a0 : List Zj) (a1 : Int) : Sa 61 [rL 4 Zj.row a0, rI a1] [rI (Yq a0 a1)] := by
 have f := me (Yq.eq_1 a0 a1)
 refine so func61 ntmps61 ?_
 refine lp1 (zH.eq_2 a0 a1) (fun J => Yd 20 [eI 1 a1, eL 7 4 a0 Zj.row, eI 8 (a0.length : Int), eI 9 (J : Int)]) (fun n1 J => a0.length < n1 + J /\ J <= a0.length) (a0.length + 1) 0 (fun p1 J e1 j1 => ?_)
 refine cFf e1 ?_ ?_ <;> intro k2 h1 e1
 ·have i1 := ix h1
  have m2 := ml a0 (k2 7 _ rfl)
  have w1 := wr J
  simp [i1, ZC]
  refine rpS ?_
  refine cF e1 ?_ ?_ <;> intro k3 h2 e1
  ·have f := ms f e1
   exact rt [.tmp 4] f
  exact ny1 w1 e1
 have f := ms f e1
 exact rt [.tmp 4] f
theorem VL (a0 : ZY) (a1 : Int) : Sa 38 [a0.row, rI a1] [rI (KI a0 a1)] := by
 have f := me (KI.eq_1 a0 a1)
 refine so func38 ntmps38 ?_
 refine cRs (yZ a0.Methods a1) ?_
 refine cFf f ?_ ?_ <;> intro k1 h1 f
 ·have i1 : (Yq a0.Methods a1).toNat < a0.Methods.length := by have := KZ a0.Methods a1; exact il
  simp [i1, ZC]
  refine rpS ?_
  exact rt [.tmp 4] f
 exact rt [.tmp 4] f
theorem JC (a0 : List ZJ) (a1 : Int) : Sa 14 [rL 3 ZJ.row a0, rI a1] [rI (Zm a0 a1)] := by
 have f := me (Zm.eq_1 a0 a1)
 refine so func14 ntmps14 ?_
 refine lp1 (QM.eq_2 a0 a1) (fun J => Yd 20 [eI 1 a1, eL 7 3 a0 ZJ.row, eI 8 (a0.length : Int), eI 9 (J : Int)]) (fun n1 J => a0.length < n1 + J /\ J <= a0.length) (a0.length + 1) 0 (fun p1 J e1 j1 => ?_)
 refine cFf e1 ?_ ?_ <;> intro k2 h1 e1
 ·have i1 := ix h1
  have m2 := ml a0 (k2 7 _ rfl)
  have w1 := wr J
  simp [i1, ZC]
  refine rpS ?_
  refine cF e1 ?_ ?_ <;> intro k3 h2 e1
  ·have f := ms f e1
   exact rt [.tmp 4] f
  exact ny1 w1 e1
 have f := ms f e1
 exact rt [.tmp 4] f
theorem Wu (a0 : List ZJ) (a1 : Zf) : Sa 58 [rL 3 ZJ.row a0, a1.row] [rI (Ys a0 a1)] := by
 have f := me (Ys.eq_1 a0 a1)
 refine so func58 ntmps58 ?_
 refine cRs (JC a0 a1.Authority) ?_
 refine cFf f ?_ ?_ <;> intro k1 h1 f
 ·have i1 : (Zm a0 a1.Authority).toNat < a0.length := by have := Qt a0 a1.Authority; exact il
  simp [i1, ZC]
  refine rpS ?_
  exact rt [.tmp 4] f
 exact rt [.tmp 4] f
theorem Jx (a0 : List Z3) (a1 : Int) : Sa 36 [rL 5 Z3.row a0, rI a1] [rI (Zu a0 a1)] := by
 have f := me (Zu.eq_1 a0 a1)
 refine so func36 ntmps36 ?_
 refine lp1 (qI.eq_2 a0 a1) (fun J => Yd 20 [eI 1 a1, eL 7 5 a0 Z3.row, eI 8 (a0.length : Int), eI 9 (J : Int)]) (fun n1 J => a0.length < n1 + J /\ J <= a0.length) (a0.length + 1) 0 (fun p1 J e1 j1 => ?_)
 refine cFf e1 ?_ ?_ <;> intro k2 h1 e1
 ·have i1 := ix h1
  have m2 := ml a0 (k2 7 _ rfl)
  have w1 := wr J
  simp [i1, ZC]
  refine rpS ?_
  refine cF e1 ?_ ?_ <;> intro k3 h2 e1
  ·have f := ms f e1
   exact rt [.tmp 4] f
  exact ny1 w1 e1
 have f := ms f e1
 exact rt [.tmp 4] f
theorem Th (a0 : ZY) (a1 : ZM) : Sa 32 [a0.row, a1.row] [rI (Jl a0 a1)] := by
 have f := me (Jl.eq_1 a0 a1)
 refine so func32 ntmps32 ?_
 refine cRs (VL a0 a1.Method) ?_
 refine lp2 (zd.eq_2 a0 a1) (fun J U => Yd 41 [eX 2 (a0.row.map .d), eI 5 J, eL 14 5 a1.Z8 Zf.row, eI 15 (a1.Z8.length : Int), eI 16 (U : Int)]) (fun n1 J U => a1.Z8.length < n1 + U /\ U <= a1.Z8.length) (a1.Z8.length + 1) (KI a0 a1.Method) 0 (fun p1 J U e1 j1 => ?_)
 refine cFf e1 ?_ ?_ <;> intro k2 h1 e1
 ·have i1 := ix h1
  have m2 := ml a1.Z8 (k2 14 _ rfl)
  have w1 := wr U
  simp [i1, ZC]
  refine rpS ?_
  refine dIs mixed ?_
  refine cRs (Wu a0.ZF (nth a1.Z8 U)) ?_
  refine cRs (Jx a0.YE (Ys a0.ZF (nth a1.Z8 U))) ?_
  refine cF e1 ?_ ?_ <;> intro k4 h2 e1
  ·have f := ms f e1
   exact rt [.tmp 4] f
  refine dIo mixed ?_
  have i2 : (Zu a0.YE (Ys a0.ZF (nth a1.Z8 U))).toNat < a0.YE.length := by have := J9 a0.YE (Ys a0.ZF (nth a1.Z8 U)); exact il
  simp [i2, ZC]
  refine rpS ?_
  refine cRs (VL a0 (nth a0.YE (Zu a0.YE (Ys a0.ZF (nth a1.Z8 U))).toNat).Method) ?_
  exact ny2 w1 e1
 have f := ms f e1
 exact rt [.tmp 4] f
theorem qN (a0 : ZY) (a1 : Za) (a2 : Int) : Sa 10 [a0.row, a1.row, rI a2] [rB (Yv a0 a1 a2)] := by
 have f := me (Yv.eq_1 a0 a1 a2)
 refine so func10 ntmps10 ?_
 refine cRs (zm a1) ?_
 refine dIs mixed ?_
 refine cGs (fun gg => (Th a0 (Z5 a1).1)) ?_
 exact rt [.tmp 6] f
theorem PL (a0 : ZY) (a1 : ZH) (a2 : Int) (u0 : Sm 2326528 a0) (u1 : Sm 2326528 a1) : Sd 7 [a0.row, a1.row, rI a2] [rL 1 iR (XR a0 a1 a2)] := by
 have f := me (XR.eq_1 a0 a1 a2)
 refine soD func7 ntmps7 ?_
 refine lp2 (KD.eq_2 a0 a1 a2) (fun J U => Yd 28 [eI 2 a2, eX 3 (a0.row.map .d), (7, .one (.sref 7 0 0 J.length), [.arr false 1 (J.map iR)]), eL 11 16 a1.ZK Za.row, eI 12 (a1.ZK.length : Int), eI 13 (U : Int)]) (fun n1 J U => a1.ZK.length < n1 + U /\ U <= a1.ZK.length /\ J.length <= 0 + 1 * U) (a1.ZK.length + 1) ([] : List Int) 0 (fun p1 J U e1 j1 => ?_) (h0 := wkS [((7, 0), none)] [])
 refine cFf e1 ?_ ?_ <;> intro k2 h1 e1
 ·have i1 := ix h1
  have m2 := ml a1.ZK (k2 11 _ rfl)
  have c1 := sl 2326528 a1.ZK (an u0 u1)
  have w1 := wr U
  simp [i1, ZC]
  refine rpS ?_
  refine cRs (qN a0 (nth a1.ZK U) a2) ?_
  refine cF e1 ?_ ?_ <;> intro k3 h2 e1
  ·exact nx2 e1 (hw := X1 [((7, 0), some (25, 0))] [] rfl (by simp [w1]))
  exact ny2 w1 e1
 have c2 := sl 2326528 a1.ZK (an u0 u1)
 have f := ms f e1
 exact rtD [.tmp 6] f
theorem OM (a0 : ZY) (a1 : ZH) : Sa 8 [a0.row, a1.row] [rI (JL a0 a1)] := by
 have f := me (JL.eq_1 a0 a1)
 refine so func8 ntmps8 ?_
 refine lp2 (Y9.eq_2 a0 a1) (fun J U => Yd 32 [eX 2 (a0.row.map .d), eI 5 J, eL 12 16 a1.ZK Za.row, eI 13 (a1.ZK.length : Int), eI 14 (U : Int)]) (fun n1 J U => a1.ZK.length < n1 + U /\ U <= a1.ZK.length) (a1.ZK.length + 1) 10001 0 (fun p1 J U e1 j1 => ?_)
 refine cFf e1 ?_ ?_ <;> intro k2 h1 e1
 ·have i1 := ix h1
  have m2 := ml a1.ZK (k2 12 _ rfl)
  have w1 := wr U
  simp [i1, ZC]
  refine rpS ?_
  refine cRs (zm (nth a1.ZK U)) ?_
  refine cF e1 ?_ ?_ <;> intro k3 h2 e1
  ·refine cRs (Th a0 (Z5 (nth a1.ZK U)).1) ?_
   exact ny2 w1 e1
  exact ny2 w1 e1
 have f := ms f e1
 exact rt [.tmp 4] f
theorem V6 (a0 : List Zj) (a1 : Int) : Sa 59 [rL 4 Zj.row a0, rI a1] [rI (y3 a0 a1)] := by
 have f := me (y3.eq_1 a0 a1)
 refine so func59 ntmps59 ?_
 refine cRs (yZ a0 a1) ?_
 refine cFf f ?_ ?_ <;> intro k1 h1 f
 ·have i1 : (Yq a0 a1).toNat < a0.length := by have := KZ a0 a1; exact il
  simp [i1, ZC]
  refine rpS ?_
  exact rt [.tmp 4] f
 exact rt [.tmp 4] f
theorem xy (a0 : List Z3) (a1 : List ZJ) (a2 : List Zj) (a3 : ZM) : Sa 33 [rL 5 Z3.row a0, rL 3 ZJ.row a1, rL 4 Zj.row a2, a3.row] [rI (Jk a0 a1 a2 a3)] := by
 have f := me (Jk.eq_1 a0 a1 a2 a3)
 refine so func33 ntmps33 ?_
 refine cRs (V6 a2 a3.Method) ?_
 refine lp2 (zp.eq_2 a0 a1 a2 a3) (fun J U => Yd 42 [eL 0 5 a0 Z3.row, eL 1 3 a1 ZJ.row, eL 2 4 a2 Zj.row, eI 9 J, eL 18 5 a3.Z8 Zf.row, eI 19 (a3.Z8.length : Int), eI 20 (U : Int)]) (fun n1 J U => a3.Z8.length < n1 + U /\ U <= a3.Z8.length) (a3.Z8.length + 1) (y3 a2 a3.Method) 0 (fun p1 J U e1 j1 => ?_)
 refine cFf e1 ?_ ?_ <;> intro k2 h1 e1
 ·have i1 := ix h1
  have m2 := ml a3.Z8 (k2 18 _ rfl)
  have w1 := wr U
  simp [i1, ZC]
  refine rpS ?_
  refine cRs (Wu a1 (nth a3.Z8 U)) ?_
  refine cRs (Jx a0 (Ys a1 (nth a3.Z8 U))) ?_
  refine cFt e1 ?_ ?_ <;> intro k3 h2 e1
  ·have f := ms f e1
   exact rt [.tmp 8] f
  have i2 : (Zu a0 (Ys a1 (nth a3.Z8 U))).toNat < a0.length := by have := J9 a0 (Ys a1 (nth a3.Z8 U)); exact il
  simp [i2, ZC]
  refine rpS ?_
  refine cRs (V6 a2 (nth a0 (Zu a0 (Ys a1 (nth a3.Z8 U))).toNat).Method) ?_
  exact ny2 w1 e1
 have f := ms f e1
 exact rt [.tmp 8] f
theorem S4 (a0 : ZY) (a1 : Za) : Sa 11 [a0.row, a1.row] [rB (yB a0 a1)] := by
 have f := me (yB.eq_1 a0 a1)
 refine so func11 ntmps11 ?_
 refine cRs (zm a1) ?_
 refine dIs mixed ?_
 refine cGs (fun gg => (xy a0.YE a0.ZF a0.Methods (Z5 a1).1)) ?_
 exact rt [.tmp 4] f
theorem Zv (a0 : Int) (a1 : Int) (a2 : Int) : Sa 34 [rI a0, rI a1, rI a2] [rB (ZU a0 a1 a2)] := by
 have f := me (ZU.eq_1 a0 a1 a2)
 refine so func34 ntmps34 ?_
 exact rt [.tmp 6] f
theorem Qs (a0 : Int) : Sa 62 [rI a0] [rB (K3 a0)] := by
 have f := me (K3.eq_1 a0)
 refine so func62 ntmps62 ?_
 refine cRs (Zv a0 0 10000) ?_
 exact rt [.tmp 2] f
theorem kq (a0 : Yk) : Sa 87 [a0.row] [rB (jx a0)] := by
 have f := me (jx.eq_1 a0)
 refine so func87 ntmps87 ?_
 refine cRs (Qs a0.Jz) ?_
 refine cGs (fun gg => (Qs a0.To)) ?_
 exact rt [.tmp 2] f
theorem W0 (a0 : Int) (a1 : Int) : Sa 136 [rI a0, rI a1] [(xL a0 a1).1.row, rB (xL a0 a1).2] := by
 have f := me (xL.eq_1 a0 a1)
 refine so func136 ntmps136 ?_
 refine cGs (fun gg => (kq (Yk.mk (if 0 > a0 then 0 else a0) (if 10000 < a1 then 10000 else a1)))) ?_
 refine cF f ?_ ?_ <;> intro k1 h1 f
 ·exact rt [.cell 4 90, .tmp 5] f
 exact rt [.cell 4 90, .tmp 5] f
theorem RH (a0 : List ZJ) (a1 : Zf) : Sa 109 [rL 3 ZJ.row a0, a1.row] [(yL a0 a1).1.row, rB (yL a0 a1).2] := by
 have f := me (yL.eq_1 a0 a1)
 refine so func109 ntmps109 ?_
 refine cRs (JC a0 a1.Authority) ?_
 refine gIf ?_ ?_ <;> intro G
 ·have i1 : (Zm a0 a1.Authority).toNat < a0.length := by have := Qt a0 a1.Authority; exact il
  simp [i1, ZC, G]
  refine rpG ?_
  refine cGg (fun gg => (Qs a1.Time)) ?_
  refine cK f ?_ ?_ <;> intro k1 h1 f
  ·try (simp [G] at h1; done)
   all_goals
    exact rtg [.cell 4 90, .tmp 5] f
  ·try (simp [G] at h1; done)
   all_goals
    refine dIo mixed ?_
    simp [i1, ZC, G]
    refine rpG ?_
    refine cRg (W0 (W (a1.Time - (nth a0 (Zm a0 a1.Authority).toNat).Error)) (W (a1.Time + (nth a0 (Zm a0 a1.Authority).toNat).Error))) ?_
    exact rtg [.cell 4 90, .tmp 5] f
 ·refine cGg (fun gg => (Qs a1.Time)) ?_
  refine cK f ?_ ?_ <;> intro k3 h2 f
  ·try (simp [G] at h2; done)
   all_goals
    exact rtg [.cell 4 90, .tmp 5] f
  ·try (simp [G] at h2; done)
   all_goals
    refine dIo mixed ?_
    have i3 : (Zm a0 a1.Authority).toNat < a0.length := by have := Qt a0 a1.Authority; exact il
    simp [i3, ZC, G]
    refine rpG ?_
    refine cRg (W0 (W (a1.Time - (nth a0 (Zm a0 a1.Authority).toNat).Error)) (W (a1.Time + (nth a0 (Zm a0 a1.Authority).toNat).Error))) ?_
    exact rtg [.cell 4 90, .tmp 5] f
theorem O3 (a0 : List Yk) (a1 : Int) : Sa 164 [rL 2 Yk.row a0, rI a1] [rI (TD a0 a1)] := by
 have f := me (TD.eq_1 a0 a1)
 refine so func164 ntmps164 ?_
 refine lp2 (xz.eq_2 a0 a1) (fun J U => Yd 28 [eI 1 a1, eI 5 J, eL 8 2 a0 Yk.row, eI 9 (a0.length : Int), eI 10 (U : Int)]) (fun n1 J U => a0.length < n1 + U /\ U <= a0.length) (a0.length + 1) 0 0 (fun p1 J U e1 j1 => ?_)
 refine cFf e1 ?_ ?_ <;> intro k2 h1 e1
 ·have i1 := ix h1
  have m2 := ml a0 (k2 8 _ rfl)
  have w1 := wr U
  simp [i1, ZC]
  refine rpS ?_
  refine cRs (kq (nth a0 U)) ?_
  refine cGs (fun gg => (Zv a1 (nth a0 U).Jz (nth a0 U).To)) ?_
  refine cFo e1 ?_ ?_ <;> intro k3 h2 e1
  ·have q2 := h2; try simp [ZU] at q2
   simp
   exact ny2 w1 e1
  have q2 := h2; try simp [ZU] at q2
  simp
  exact ny2 w1 e1
 have f := ms f e1
 exact rt [.tmp 4] f
theorem TO (a0 : List Yk) (a1 : Int) (a2 : Int) : Sa 137 [rL 2 Yk.row a0, rI a1, rI a2] [rB (qf a0 a1 a2)] := by
 have f := me (qf.eq_1 a0 a1 a2)
 refine so func137 ntmps137 ?_
 refine cRs (Zv a2 0 (W ((a0.length : Int) - 1))) ?_
 refine cGs (fun gg => (O3 a0 a1)) ?_
 exact rt [.tmp 6] f
theorem T9 (a0 : List Yk) (a1 : Int) : Sa 110 [rL 2 Yk.row a0, rI a1] [(K8 a0 a1).1.row, rB (K8 a0 a1).2] := by
 have f := me (K8.eq_1 a0 a1)
 refine so func110 ntmps110 ?_
 refine lp4 (Jq.eq_2 a0 a1) (fun J U wF wQ => Yd 25 [eL 0 2 a0 Yk.row, eI 1 a1, (4, .one (.bptr 4 0), [.box [.d (.int .i64 0), .d (.int .i64 0)]]), (6, .one (.bptr 6 0), [.box [.d (.int .i64 wF), .d (.int .i64 wQ)]]), eB 7 J, eI 8 (U : Int)]) (fun n1 J U wF wQ => 10001 < n1 + U) 10002 false 0 0 0 (fun p1 J U wF wQ e1 j1 => ?_)
 refine cF e1 ?_ ?_ <;> intro k2 h1 e1
 ·have w1 := wr U
  refine cRs (TO a0 (U : Int) a1) ?_
  refine cF e1 ?_ ?_ <;> intro k3 h2 e1
  ·refine cF e1 ?_ ?_ <;> intro k4 h3 e1
   ·exact ny4 w1 e1
   exact ny4 w1 e1
  exact ny4 w1 e1
 have f := ms f e1
 exact rt [.cell 4 90, .tmp 5] f
theorem R1 (a0 : List ZJ) (a1 : List Zf) (a2 : Int) (u0 : Sm 2318336 a0) (u1 : Sm 2318336 a1) : Sa 85 [rL 3 ZJ.row a0, rL 5 Zf.row a1, rI a2] [(xE a0 a1 a2).1.row, rB (xE a0 a1 a2).2] := by
 have f := me (xE.eq_1 a0 a1 a2)
 refine so func85 ntmps85 ?_
 refine lp2 (jW.eq_2 a0 a1) (fun J U => Yd 38 [eL 0 3 a0 ZJ.row, eI 2 a2, (6, .one (.bptr 6 0), [.box [.d (.int .i64 0), .d (.int .i64 0)]]), (8, .one (.sref 8 0 0 J.length), [.arr false 2 (J.map Yk.row)]), eL 13 5 a1 Zf.row, eI 14 (a1.length : Int), eI 15 (U : Int)]) (fun n1 J U => a1.length < n1 + U /\ U <= a1.length /\ J.length <= 0 + 1 * U) (a1.length + 1) ([] : List Yk) 0 (fun p1 J U e1 j1 => ?_) (h0 := wkS [((8, 0), none)] [])
 refine cFf e1 ?_ ?_ <;> intro k2 h1 e1
 ·have i1 := ix h1
  have m2 := ml a1 (k2 13 _ rfl)
  have c1 := sl 2318336 a1 (an u0 u1)
  have w1 := wr U
  simp [i1, ZC]
  refine rpS ?_
  refine cRs (RH a0 (nth a1 U)) ?_
  refine cF e1 ?_ ?_ <;> intro k3 h2 e1
  ·have f := ms f e1
   exact rt [.cell 6 90, .tmp 7] f
  exact nx2 e1 (hw := X1 [((8, 0), some (31, 0))] [] rfl (by simp [w1]))
 have c2 := sl 2318336 a1 (an u0 u1)
 have f := ms f e1
 refine cRs (T9 J a2) ?_
 exact rt [.cell 6 90, .tmp 7] f
theorem Us (a0 : List ZJ) (a1 : ZM) (a2 : Int) (u0 : Sm 2314240 a0) (u1 : Sm 2314240 a1) : Sa 60 [rL 3 ZJ.row a0, a1.row, rI a2] [(KQ a0 a1 a2).1.row, rB (KQ a0 a1 a2).2] := by
 have f := me (KQ.eq_1 a0 a1 a2)
 refine so func60 ntmps60 ?_
 refine cRs (R1 a0 a1.Z8 a2 (sg u0) (sg (ZM.IB u1))) ?_
 exact rt [.cell 6 90, .tmp 7] f
theorem UU (a0 : ZY) (a1 : ZM) (u0 : Sm 2310144 a0) (u1 : Sm 2310144 a1) : Sa 35 [a0.row, a1.row] [(Jb a0 a1).1.row, rB (Jb a0 a1).2] := by
 have f := me (Jb.eq_1 a0 a1)
 refine so func35 ntmps35 ?_
 refine cRs (Us a0.ZF a1 a0.zZ (sg (ZY.xb u0)) (sg u1)) ?_
 exact rt [.cell 4 90, .tmp 5] f
theorem kJ {a b : Prop} (h : b) (k : a := by (intros; first | omega | with_unfolding_all (first | (first | omega | (have mm : a1.ZN.length <= 2306048 := Je (xs u1); have ww := Oy a1.ZN.length (by omega); (try rw [ww] at q1); (try rw [ww] at q2); have w3 : W (a2 + 1) = a2 + 1 := Yi (by omega) (by omega); have w4 : IntKind.i64.wrap (a2 + 1) = a2 + 1 := w3; omega))) | ((try simp only [XJ, show ∀ x, IntKind.i64.wrap x = W x from fun _ => rfl] at *); omega))) : a /\ b := ⟨k, h⟩
theorem SW (a0 : ZY) (a1 : ZO) (a2 : Int) (u0 : Sm 2306048 a0) (u1 : Sm 2306048 a1) : Sa 12 [a0.row, a1.row, rI a2] [rB (yK a0 a1 a2)] := by
 have f := me (yK.eq_1 a0 a1 a2)
 refine so func12 ntmps12 ?_
 refine cRs (Zv a2 0 (W ((a1.ZN.length : Int) - 1))) ?_
 have c1 := sl 2306048 a1.ZN (an u0 u1)
 have w1 : IntKind.i64.wrap ((a1.ZN.length : Int) - 1) = (a1.ZN.length : Int) - 1 := Yi (by omega) (by omega)
 refine cFo f ?_ ?_ <;> intro k1 h1 f
 ·have q1 := h1; try simp [ZU, w1] at q1
  simp
  exact rt [.tmp 6] f
 have q1 := h1; try simp [ZU, w1] at q1
 simp
 refine dIo mixed ?_
 have i1 : a2.toNat < a1.ZN.length := by (have mm : a1.ZN.length <= 2306048 := Je (xs u1); (try simp [ZU] at q1); have ww := Oy a1.ZN.length (by omega); first | omega | ((try rw [ww] at q1); (try rw [ww] at q2); have w3 : W (a2 + 1) = a2 + 1 := Yi (by omega) (by omega); omega))
 simp [i1, ZC]
 repeat with_reducible refine kJ ?_
 refine cRs (xy a0.YE a0.ZF a0.Methods (nth a1.ZN a2.toNat)) ?_
 refine cFo f ?_ ?_ <;> intro k3 h2 f
 ·have q2 := h2; try simp [w1] at q2
  simp
  exact rt [.tmp 6] f
 have q2 := h2; try simp [w1] at q2
 simp
 refine dIo mixed ?_
 have i2 : (W (a2 + 1)).toNat < a1.ZN.length := by (have mm : a1.ZN.length <= 2306048 := Je (xs u1); (try simp [ZU] at q1); have ww := Oy a1.ZN.length (by omega); first | omega | ((try rw [ww] at q1); (try rw [ww] at q2); have w3 : W (a2 + 1) = a2 + 1 := Yi (by omega) (by omega); omega))
 simp [i2, ZC]
 repeat with_reducible refine kJ ?_
 refine cRs (UU a0 (nth a1.ZN (W (a2 + 1)).toNat) (sg u0) (sg (yX (ZO.V2 u1)))) ?_ (wR := by first | (simp; done) | (simp [W, w1]; done))
 exact rt [.tmp 6] f
theorem OQ (a0 : List Zj) (a1 : Int) (a2 : Int) : Sa 37 [rL 4 Zj.row a0, rI a1, rI a2] [rB (WV a0 a1 a2)] := by
 have f := me (WV.eq_1 a0 a1 a2)
 refine so func37 ntmps37 ?_
 refine cRs (yZ a0 a1) ?_
 refine gIf ?_ ?_ <;> intro G
 ·have i1 : (Yq a0 a1).toNat < a0.length := by have := KZ a0 a1; exact il
  simp [i1, ZC, G]
  refine rpG ?_
  refine gJf G ?_ ?_ <;> intro G
  ·try (simp at G; done)
   all_goals
    simp [i1, ZC, G]
    refine rpG ?_
    exact rtg [.tmp 6] f
  ·try (simp at G; done)
   all_goals
    exact rtg [.tmp 6] f
 ·refine gJf G ?_ ?_ <;> intro G
  ·try (simp at G; done)
   all_goals
    have i3 : (Yq a0 a1).toNat < a0.length := by have := KZ a0 a1; exact il
    simp [i3, ZC, G]
    refine rpG ?_
    exact rtg [.tmp 6] f
  ·try (simp at G; done)
   all_goals
    exact rtg [.tmp 6] f
theorem kV (a0 : ZY) (u0 : Sm 2334720 a0) : Sd 13 [a0.row] [rL 1 iR (Zq a0)] := by
 have f := me (Zq.eq_1 a0)
 refine soD func13 ntmps13 ?_
 refine lp2 (Y3.eq_2 a0) (fun J U => Yd 57 [eX 1 (a0.row.map .d), (3, .one (.sref 3 0 0 J.length), [.arr false 1 (J.map iR)]), eL 9 3 a0.ZF ZJ.row, eI 10 (a0.ZF.length : Int), eI 11 (U : Int)]) (fun n1 J U => a0.ZF.length < n1 + U /\ U <= a0.ZF.length /\ J.length <= 0 + 1 * U) (a0.ZF.length + 1) ([] : List Int) 0 (fun p1 J U e1 j1 => ?_) (h0 := wkS [((3, 0), none)] [])
 refine cFf e1 ?_ ?_ <;> intro k2 h1 e1
 ·have i1 := ix h1
  have m2 := ml a0.ZF (k2 9 _ rfl)
  have c1 := sl 2334720 a0.ZF u0
  have w1 := wr U
  simp [i1, ZC]
  refine rpS ?_
  refine cRs (Jx a0.YE (nth a0.ZF U).Key) ?_
  refine cFt e1 ?_ ?_ <;> intro k3 h2 e1
  ·exact ny2 w1 e1
  have i2 : (Zu a0.YE (nth a0.ZF U).Key).toNat < a0.YE.length := by have := J9 a0.YE (nth a0.ZF U).Key; exact il
  simp [i2, ZC]
  refine rpS ?_
  refine dIs mixed ?_
  refine cGs (fun gg => (OQ a0.Methods (nth a0.YE (Zu a0.YE (nth a0.ZF U).Key).toNat).Method a0.Now)) ?_
  refine cGs (fun gg => (VL a0 (nth a0.YE (Zu a0.YE (nth a0.ZF U).Key).toNat).Method)) ?_
  refine cF e1 ?_ ?_ <;> intro k5 h3 e1
  ·exact nx2 e1 (hw := X1 [((3, 0), some (54, 0))] [] rfl (by simp [w1]))
  exact ny2 w1 e1
 have c2 := sl 2334720 a0.ZF u0
 have f := ms f e1
 exact rtD [.tmp 2] f
theorem V5 (a0 : List Z3) (a1 : Int) : Sa 15 [rL 5 Z3.row a0, rI a1] [rI (ze a0 a1)] := by
 have f := me (ze.eq_1 a0 a1)
 refine so func15 ntmps15 ?_
 refine cRs (Jx a0 a1) ?_
 refine cFf f ?_ ?_ <;> intro k1 h1 f
 ·have i1 : (Zu a0 a1).toNat < a0.length := by have := J9 a0 a1; exact il
  simp [i1, ZC]
  refine rpS ?_
  exact rt [.tmp 4] f
 exact rt [.tmp 4] f
theorem T8 (a0 : Int) : Sa 63 [rI a0] [rB (jI a0)] := by
 have f := me (jI.eq_1 a0)
 refine so func63 ntmps63 ?_
 refine cRs (Zv a0 1 2147483646) ?_
 exact rt [.tmp 2] f
theorem LW (a0 : Z3) : Sa 39 [a0.row] [rB (UB a0)] := by
 have f := me (UB.eq_1 a0)
 refine so func39 ntmps39 ?_
 refine cRs (Zv a0.Number 1 99) ?_
 refine cGs (fun gg => (Zv a0.Xn 0 99)) ?_
 refine cGs (fun gg => (Zv a0.Method 0 99)) ?_
 refine cGs (fun gg => (Qs a0.jw)) ?_
 refine cGs (fun gg => (T8 a0.Qe)) ?_
 exact rt [.tmp 2] f
theorem yo (a0 : List Z3) : Sa 16 [rL 5 Z3.row a0] [rB (JN a0)] := by
 have f := me (JN.eq_1 a0)
 refine so func16 ntmps16 ?_
 refine lp1 (qL.eq_2 a0) (fun J => Yd 34 [eL 0 5 a0 Z3.row, eL 5 5 a0 Z3.row, eI 6 (a0.length : Int), eI 7 (J : Int)]) (fun n1 J => a0.length < n1 + J /\ J <= a0.length) (a0.length + 1) 0 (fun p1 J e1 j1 => ?_)
 refine cFf e1 ?_ ?_ <;> intro k2 h1 e1
 ·have i1 := ix h1
  have m2 := ml a0 (k2 0 _ rfl)
  have w1 := wr J
  simp [i1, ZC]
  refine rpS ?_
  refine dIs mixed ?_
  refine cRs (LW (nth a0 J)) ?_
  refine gIf ?_ ?_ <;> intro G
  ·have i2 := ik (J - 1) a0
   have w2 : IntKind.i64.wrap ((J : Int) - 1) = (J : Int) - 1 := Yi (by omega) (by omega)
   simp [i2, ZC, w2, JA, G]
   refine rpG ?_
   refine cK e1 ?_ ?_ <;> intro k4 h2 e1
   ·try (simp [G] at h2; done)
    all_goals
     have f := ms f e1
     exact rtg [.tmp 2] f
   ·try (simp [G] at h2; done)
    all_goals
     exact ny1 (an w1 (an w2 G)) e1
  ·refine cK e1 ?_ ?_ <;> intro k5 h3 e1
   ·try (simp [G] at h3; done)
    all_goals
     have f := ms f e1
     exact rtg [.tmp 2] f
   ·try (simp [G] at h3; done)
    all_goals
     exact ny1 (an w1 G) e1
 have f := ms f e1
 exact rt [.tmp 2] f
theorem y9 : Sd 23 [] [rL 5 Z3.row Ye] := by
 have f := me (Ye.eq_1)
 refine soD func23 ntmps23 ?_
 exact rtD [.tmp 0] f
theorem K5 : Sd 25 [] [rL 4 Zj.row YT] := by
 have f := me (YT.eq_1)
 refine soD func25 ntmps25 ?_
 exact rtD [.tmp 0] f
theorem Wq (a0 : Z1) : Sd 65 [a0.row] [rL 1 iR (QU a0)] := by
 have f := me (QU.eq_1 a0)
 refine soD func65 ntmps65 ?_
 exact rtD [.tmp 2] f
theorem Iv (a0 : Int) (a1 : Int) : Sa 165 [rI a0, rI a1] [rI (I7 a0 a1)] := by
 have f := me (I7.eq_1 a0 a1)
 refine so func165 ntmps165 ?_
 refine cRs (Zv a1 1 1000000000000) ?_
 refine cFo f ?_ ?_ <;> intro k1 h1 f
 ·have q1 := h1; try simp [ZU] at q1
  simp
  exact rt [.tmp 4] f
 have q1 := h1; try simp [ZU] at q1
 simp
 refine rpS ?_
 exact rt [.tmp 4] f
theorem IE (a0 : List Int) : Sa 138 [rL 1 iR a0] [rI (LQ a0)] := by
 have f := me (LQ.eq_1 a0)
 refine so func138 ntmps138 ?_
 refine lp2 (Sq.eq_2 a0) (fun J U => Yd 21 [eI 3 J, eL 6 1 a0 iR, eI 7 (a0.length : Int), eI 8 (U : Int)]) (fun n1 J U => a0.length < n1 + U /\ U <= a0.length) (a0.length + 1) 11 0 (fun p1 J U e1 j1 => ?_)
 refine cFf e1 ?_ ?_ <;> intro k2 h1 e1
 ·have i1 := ix h1
  have m2 := ml a0 (k2 6 _ rfl)
  have w1 := wr U
  simp [i1, ZC]
  refine rpS ?_
  refine cRs (Iv (nth a0 U) 2147483647) ?_
  exact ny2 w1 e1
 have f := ms f e1
 exact rt [.tmp 2] f
theorem SY (a0 : Int) (a1 : List Int) (u0 : Sm 2330624 a1) : Sa 111 [rI a0, rL 1 iR a1] [rI (kb a0 a1)] := by
 have f := me (kb.eq_1 a0 a1)
 have c1 := sl 2330624 a1 u0
 refine so func111 ntmps111 ?_
 refine cRs (IE ((([a0] : List Int) ++ a1) ++ ([a0] : List Int))) ?_
 exact rt [.tmp 4] f
theorem R8 (a0 : Z3) (a1 : List Int) (u0 : Sm 2326528 a1) : Sa 86 [a0.row, rL 1 iR a1] [rI (Vi a0 a1)] := by
 have f := me (Vi.eq_1 a0 a1)
 refine so func86 ntmps86 ?_
 refine P7 [2, 3, 4, 5, 6, 0, 1, 7, 8] mixed (by kernel_rfl) (by kernel_rfl) (by kernel_rfl) ?_
 have c1 := sl 2326528 a1 u0
 simp
 refine rpS ?_
 refine cRs (SY a0.Qe (([a0.Method] : List Int) ++ a1) (by simp (maxDischargeDepth := 12) [Xx, XM, ZW (m := 2330624) (by decide) u0]; try omega)) ?_
 exact rt [.tmp 4] f
theorem TY (a0 : List Z3) (a1 : Int) (a2 : List Int) (u0 : Sm 2322432 a0) (u1 : Sm 2322432 a2) : Sa 64 [rL 5 Z3.row a0, rI a1, rL 1 iR a2] [rI (xB a0 a1 a2).1, rB (xB a0 a1 a2).2] := by
 have f := me (xB.eq_1 a0 a1 a2)
 refine so func64 ntmps64 ?_
 refine cRs (Jx a0 a1) ?_
 refine cFt f ?_ ?_ <;> intro k1 h1 f
 ·exact rt [.tmp 6, .tmp 7] f
 have i1 : (Zu a0 a1).toNat < a0.length := by have := J9 a0 a1; exact il
 simp [i1, ZC]
 refine rpS ?_
 refine cRs (R8 (nth a0 (Zu a0 a1).toNat) a2 (sg u1)) ?_
 exact rt [.tmp 6, .tmp 7] f
theorem R7 (a0 : Z1) : Sa 88 [a0.row] [(ja a0).row] := by
 have f := me (ja.eq_1 a0)
 refine so func88 ntmps88 ?_
 exact rt [.cell 2 90] f
theorem Ts (a0 : Z1) : Sa 66 [a0.row] [rB (V3 a0)] := by
 have f := me (V3.eq_1 a0)
 refine so func66 ntmps66 ?_
 refine cRs (Zv a0.Z9 1 999) ?_
 refine cGs (fun gg => (Zv a0.Key 1 99)) ?_
 refine cGs (fun gg => (Zv a0.YI 1 99)) ?_
 refine cGs (fun gg => (Zv a0.Xn 0 99)) ?_
 refine cGs (fun gg => (R7 a0)) ?_
 refine cGs (fun gg => (kq (ja a0))) ?_
 exact rt [.tmp 2] f
theorem SN (a0 : List Z3) (a1 : Z1) (u0 : Sm 2318336 a0) : Sa 40 [rL 5 Z3.row a0, a1.row] [(qE a0 a1).1.row, rB (qE a0 a1).2] := by
 have f := me (qE.eq_1 a0 a1)
 refine so func40 ntmps40 ?_
 refine dIs mixed ?_
 refine cRs (YC.rd (Wq a1)) ?_
 refine cRs (TY a0 a1.YI (QU a1) (sg u0) (by simp (maxDischargeDepth := 12) [W4, ZW (m := 2322432) (by decide) u0]; try omega)) ?_
 refine cRs (Ts a1) ?_
 refine cGs (fun gg => (Jx a0 a1.Key)) ?_
 refine cF f ?_ ?_ <;> intro k2 h1 f
 ·exact rt [.cell 4 99, .tmp 5] f
 exact rt [.cell 4 99, .tmp 5] f
theorem PG (a0 : Int) : Sd 17 [rI a0] [(Yb a0).row] := by
 have f := me (Yb.eq_1 a0)
 refine soD func17 ntmps17 ?_
 refine dIs mixed ?_
 refine cDs [false] (y9) ?_
 refine cDs [false] (K5) ?_
 refine Vr ?_
 simp
 refine lp2 (K4.eq_2) (fun J U => Yd 73 [eI 0 (if (if a0 < 1 then a0 else 1) > 0 then (if a0 < 1 then a0 else 1) else 0), (2, .one (.bptr 2 0), [.box [.nil 5, .nil 3, .nil 4, .d (.int .i64 0), .d (.int .i64 0), .nil 7, .nil 1, .nil 2, .nil 1, .nil 1, .d (.int .i64 0), .nil 1]]), (3, .one (.bptr 3 0), [.box [.sref 13 0 0 Ye.length, .sref 3 2 0 U.length, .sref 14 0 0 YT.length, .d (.int .i64 (if (if a0 < 1 then a0 else 1) > 0 then (if a0 < 1 then a0 else 1) else 0)), .d (.int .i64 0), .nil 7, .sref 18 0 0 3, .sref 21 0 0 2, .sref 17 0 0 4, .nil 1, .d (.int .i64 1), .nil 1], .none, .arr false 3 (U.map ZJ.row)]), (13, .any, [.arr false 5 (Ye.map Z3.row)]), (14, .any, [.arr false 4 (YT.map Zj.row)]), (17, .any, [.arr false 1 ((List.replicate 4 0).map iR)]), (18, .any, [.arr false 1 (([(-1), (-1), (-1)] : List Int).map iR)]), (21, .any, [.arr true 2 (([(ZH.mk 0 ([] : List Za)), (ZH.mk 1 ([] : List Za))] : List ZH).map ZH.row)]), (23, .one (.sref 23 0 0 4), [.arr false 1 (([1, 2, 1, 0] : List Int).map iR)]), eI 24 4, eI 25 (J : Int)]) (fun n1 J U => 4 < n1 + J /\ U.length <= 0 + 1 * J) 5 0 ([] : List ZJ) (fun p1 J U e1 j1 => ?_) (h0 := G8 (t := 21) (size := 2) (rows := [[.d (.int .i64 0), .nil 16], [.d (.int .i64 1), .nil 16]]) (news := (([(ZH.mk 0 ([] : List Za)), (ZH.mk 1 ([] : List Za))] : List ZH).map ZH.row)) (L := []) (by simp) (by simp) (by simp) (by simp) (by simp) (by simp) (wkS [((3, 2), none)] []))
 refine cFf e1 ?_ ?_ <;> intro k3 h1 e1
 ·have w1 := wr J
  have i2 := ik J ([1, 2, 1, 0] : List Int)
  have r1 := ZC (f := iR) i2; try simp at r1
  simp [i2, r1, ZC]
  refine rpS ?_
  exact nx2 e1 (hw := X1 [((3, 2), some (40, 0))] [] rfl (by simp [w1]))
 have f := ms f e1
 refine lp2 (zN.eq_2) (fun wB wT => Yd 73 [eI 0 (if (if a0 < 1 then a0 else 1) > 0 then (if a0 < 1 then a0 else 1) else 0), (2, .one (.bptr 2 0), [.box [.nil 5, .nil 3, .nil 4, .d (.int .i64 0), .d (.int .i64 0), .nil 7, .nil 1, .nil 2, .nil 1, .nil 1, .d (.int .i64 0), .nil 1]]), (3, .one (.bptr 3 0), [.box [.sref 13 0 0 Ye.length, .sref 3 2 0 U.length, .sref 14 0 0 YT.length, .d (.int .i64 (if (if a0 < 1 then a0 else 1) > 0 then (if a0 < 1 then a0 else 1) else 0)), .d (.int .i64 0), .sref 3 6 0 wT.length, .sref 18 0 0 3, .sref 21 0 0 2, .sref 17 0 0 4, .nil 1, .d (.int .i64 1), .nil 1], .none, .arr false 3 (U.map ZJ.row), .none, .none, .none, .arr false 7 (wT.map Z1.row)]), (13, .any, [.arr false 5 (Ye.map Z3.row)]), (14, .any, [.arr false 4 (YT.map Zj.row)]), (17, .any, [.arr false 1 ((List.replicate 4 0).map iR)]), (18, .any, [.arr false 1 (([(-1), (-1), (-1)] : List Int).map iR)]), (21, .any, [.arr true 2 (([(ZH.mk 0 ([] : List Za)), (ZH.mk 1 ([] : List Za))] : List ZH).map ZH.row)]), (47, .one (.sref 47 0 0 3), [.arr false 7 (([(Z1.mk 1 11 1 0 60 1 0), (Z1.mk 2 12 1 20 100 1 0), (Z1.mk 3 13 2 40 150 2 0)] : List Z1).map Z1.row)]), eI 48 3, eI 49 (wB : Int)]) (fun n2 wB wT => 3 < n2 + wB /\ wT.length <= 0 + 1 * wB) 4 0 ([] : List Z1) (fun p2 wB wT e2 j2 => ?_) (h0 := wkS [((3, 6), none)] [])
 refine cFf e2 ?_ ?_ <;> intro k5 h2 e2
 ·have w2 := wr wB
  have i4 := ik wB ([(Z1.mk 1 11 1 0 60 1 0), (Z1.mk 2 12 1 20 100 1 0), (Z1.mk 3 13 2 40 150 2 0)] : List Z1)
  have r2 := ZC (f := Z1.row) i4; try simp at r2
  simp [i4, r2, ZC]
  refine rpS ?_
  refine cRs (SN Ye (nth ([(Z1.mk 1 11 1 0 60 1 0), (Z1.mk 2 12 1 20 100 1 0), (Z1.mk 3 13 2 40 150 2 0)] : List Z1) wB) (by simp (maxDischargeDepth := 12) [RY]; try omega)) ?_
  exact nx2 e2 (hw := X1 [((3, 6), some (65, 0))] [] rfl (by simp [w2]))
 have f := ms f e2
 refine cF f ?_ ?_ <;> intro k6 h3 f
 ·exact rtD [.cell 2 61] f
 exact rtD [.cell 2 61] f
theorem PA (a0 : ZH) (a1 : Int) : Sa 44 [a0.row, rI a1] [rI (QT a0 a1)] := by
 have f := me (QT.eq_1 a0 a1)
 refine so func44 ntmps44 ?_
 refine lp1 (Qu.eq_2 a0 a1) (fun J => Yd 21 [eI 1 a1, eL 8 16 a0.ZK Za.row, eI 9 (a0.ZK.length : Int), eI 10 (J : Int)]) (fun n1 J => a0.ZK.length < n1 + J /\ J <= a0.ZK.length) (a0.ZK.length + 1) 0 (fun p1 J e1 j1 => ?_)
 refine cFf e1 ?_ ?_ <;> intro k2 h1 e1
 ·have i1 := ix h1
  have m2 := ml a0.ZK (k2 8 _ rfl)
  have w1 := wr J
  simp [i1, ZC]
  refine rpS ?_
  refine cF e1 ?_ ?_ <;> intro k3 h2 e1
  ·have f := ms f e1
   exact rt [.tmp 4] f
  exact ny1 w1 e1
 have f := ms f e1
 exact rt [.tmp 4] f
theorem MN (a0 : Zw) (a1 : Int) : Sa 21 [a0.row, rI a1] [rI (Yx a0 a1).1, rI (Yx a0 a1).2] := by
 have f := me (Yx.eq_1 a0 a1)
 refine so func21 ntmps21 ?_
 refine lp1 (Qz.eq_2 a0 a1) (fun J => Yd 25 [eI 1 a1, eL 10 2 a0.ZL ZH.row, eI 11 (a0.ZL.length : Int), eI 12 (J : Int)]) (fun n1 J => a0.ZL.length < n1 + J /\ J <= a0.ZL.length) (a0.ZL.length + 1) 0 (fun p1 J e1 j1 => ?_)
 refine cFf e1 ?_ ?_ <;> intro k2 h1 e1
 ·have i1 := ix h1
  have m2 := ml a0.ZL (k2 10 _ rfl)
  have w1 := wr J
  simp [i1, ZC]
  refine rpS ?_
  refine cRs (PA (nth a0.ZL J) a1) ?_
  refine cF e1 ?_ ?_ <;> intro k3 h2 e1
  ·have f := ms f e1
   exact rt [.tmp 4, .tmp 5] f
  exact ny1 w1 e1
 have f := ms f e1
 exact rt [.tmp 4, .tmp 5] f
theorem Wl (a0 : List ZJ) : Sa 71 [rL 3 ZJ.row a0] [rB (zf a0)] := by
 have f := me (zf.eq_1 a0)
 refine so func71 ntmps71 ?_
 refine lp1 (Kn.eq_2 a0) (fun J => Yd 47 [eL 0 3 a0 ZJ.row, eL 5 3 a0 ZJ.row, eI 6 (a0.length : Int), eI 7 (J : Int)]) (fun n1 J => a0.length < n1 + J /\ J <= a0.length) (a0.length + 1) 0 (fun p1 J e1 j1 => ?_)
 refine cFf e1 ?_ ?_ <;> intro k2 h1 e1
 ·have i1 := ix h1
  have m2 := ml a0 (k2 0 _ rfl)
  have w1 := wr J
  simp [i1, ZC]
  refine rpS ?_
  refine dIs mixed ?_
  refine cRs (Zv (nth a0 J).Id 0 99) ?_
  refine cGs (fun gg => (Zv (nth a0 J).Key 1 99)) ?_
  refine cGs (fun gg => (Zv (nth a0 J).Error 0 100)) ?_
  refine gIf ?_ ?_ <;> intro G
  ·have i2 := ik (J - 1) a0
   have w2 : IntKind.i64.wrap ((J : Int) - 1) = (J : Int) - 1 := Yi (by omega) (by omega)
   simp [i2, ZC, w2, JA, G]
   refine rpG ?_
   refine cKo e1 ?_ ?_ <;> intro k4 h2 e1
   ·try (simp [G] at h2; done)
    all_goals
     have q2 := h2; try simp [ZU] at q2
     have f := ms f e1
     simp [G]
     refine rpG ?_
     exact rtg [.tmp 2] f
   ·try (simp [G] at h2; done)
    all_goals
     have q2 := h2; try simp [ZU] at q2
     simp [G]
     refine rpG ?_
     exact ny1 (an w1 (an w2 G)) e1
  ·refine cKo e1 ?_ ?_ <;> intro k5 h3 e1
   ·try (simp [G] at h3; done)
    all_goals
     have q3 := h3; try simp [ZU] at q3
     have f := ms f e1
     simp [G]
     refine rpG ?_
     exact rtg [.tmp 2] f
   ·try (simp [G] at h3; done)
    all_goals
     have q3 := h3; try simp [ZU] at q3
     simp [G]
     refine rpG ?_
     exact ny1 (an w1 G) e1
 have f := ms f e1
 exact rt [.tmp 2] f
theorem PI (a0 : Zj) : Sa 51 [a0.row] [rB (VH a0)] := by
 have f := me (VH.eq_1 a0)
 refine so func51 ntmps51 ?_
 refine cRs (Zv a0.Id 0 99) ?_
 refine cGs (fun gg => (Qs a0.yF)) ?_
 refine cGs (fun gg => (Zv a0.Ends 1 10001)) ?_
 refine cGs (fun gg => (Zv a0.Ju 1 10001)) ?_
 exact rt [.tmp 2] f
theorem yV (a0 : List Zj) : Sa 24 [rL 4 Zj.row a0] [rB (zL a0)] := by
 have f := me (zL.eq_1 a0)
 refine so func24 ntmps24 ?_
 refine lp1 (xI.eq_2 a0) (fun J => Yd 34 [eL 0 4 a0 Zj.row, eL 5 4 a0 Zj.row, eI 6 (a0.length : Int), eI 7 (J : Int)]) (fun n1 J => a0.length < n1 + J /\ J <= a0.length) (a0.length + 1) 0 (fun p1 J e1 j1 => ?_)
 refine cFf e1 ?_ ?_ <;> intro k2 h1 e1
 ·have i1 := ix h1
  have m2 := ml a0 (k2 0 _ rfl)
  have w1 := wr J
  simp [i1, ZC]
  refine rpS ?_
  refine dIs mixed ?_
  refine cRs (PI (nth a0 J)) ?_
  refine gIf ?_ ?_ <;> intro G
  ·have i2 := ik (J - 1) a0
   have w2 : IntKind.i64.wrap ((J : Int) - 1) = (J : Int) - 1 := Yi (by omega) (by omega)
   simp [i2, ZC, w2, JA, G]
   refine rpG ?_
   refine cK e1 ?_ ?_ <;> intro k4 h2 e1
   ·try (simp [G] at h2; done)
    all_goals
     have f := ms f e1
     exact rtg [.tmp 2] f
   ·try (simp [G] at h2; done)
    all_goals
     exact ny1 (an w1 (an w2 G)) e1
  ·refine cK e1 ?_ ?_ <;> intro k5 h3 e1
   ·try (simp [G] at h3; done)
    all_goals
     have f := ms f e1
     exact rtg [.tmp 2] f
   ·try (simp [G] at h3; done)
    all_goals
     exact ny1 (an w1 G) e1
 have f := ms f e1
 exact rt [.tmp 2] f
theorem OL (a0 : ZY) : Sa 45 [a0.row] [rB (Uh a0)] := by
 have f := me (Uh.eq_1 a0)
 refine so func45 ntmps45 ?_
 refine cRs (yo a0.YE) ?_
 refine cGs (fun gg => (Wl a0.ZF)) ?_
 refine cGs (fun gg => (yV a0.Methods)) ?_
 refine cGs (fun gg => (Zv a0.zZ 0 6)) ?_
 refine cGs (fun gg => (Qs a0.Now)) ?_
 exact rt [.tmp 2] f
theorem kF (a0 : List Int) : Sa 46 [rL 1 iR a0] [rB (xn a0)] := by
 have f := me (xn.eq_1 a0)
 refine so func46 ntmps46 ?_
 refine lp1 (qc.eq_2 a0) (fun J => Yd 20 [eL 0 1 a0 iR, eI 3 (J : Int)]) (fun n1 J => a0.length < n1 + J /\ 1 <= J) (a0.length + 1) 1 (fun p1 J e1 j1 => ?_)
 refine cF e1 ?_ ?_ <;> intro k2 h1 e1
 ·have i1 := ix h1
  have m2 := ml a0 (k2 0 _ rfl)
  have w1 := wr J
  refine dIo mixed ?_
  have i2 := ik (J - 1) a0
  have w2 : IntKind.i64.wrap ((J : Int) - 1) = (J : Int) - 1 := Yi (by omega) (by omega)
  simp [i2, ZC, w2, JA, i1]
  refine rpS ?_
  refine cF e1 ?_ ?_ <;> intro k4 h2 e1
  ·have f := ms f e1
   exact rt [.tmp 2] f
  exact ny1 (an w1 w2) e1
 have f := ms f e1
 exact rt [.tmp 2] f
theorem Ss (a0 : List Z3) (a1 : Int) (a2 : List Int) (a3 : Int) (u0 : Sm 2318336 a0) (u1 : Sm 2318336 a2) : Sa 72 [rL 5 Z3.row a0, rI a1, rL 1 iR a2, rI a3] [rB (WC a0 a1 a2 a3)] := by
 have f := me (WC.eq_1 a0 a1 a2 a3)
 refine so func72 ntmps72 ?_
 refine cRs (TY a0 a1 a2 (sg u0) (sg u1)) ?_
 exact rt [.tmp 8] f
theorem SS (a0 : List Z3) (a1 : Z1) (u0 : Sm 2314240 a0) : Sa 47 [rL 5 Z3.row a0, a1.row] [rB (kU a0 a1)] := by
 have f := me (kU.eq_1 a0 a1)
 refine so func47 ntmps47 ?_
 refine dIs mixed ?_
 refine cRs (Ts a1) ?_
 refine cGs (fun gg => YC.rd (Wq a1)) ?_
 refine cGs (fun gg => (Ss a0 a1.YI (QU a1) a1.Mark (sg u0) (by simp (maxDischargeDepth := 12) [W4, ZW (m := 2318336) (by decide) u0]; try omega))) ?_
 refine cGs (fun gg => (V5 a0 a1.Key)) ?_
 exact rt [.tmp 4] f
theorem PW (a0 : List Z1) (a1 : Int) : Sa 48 [rL 7 Z1.row a0, rI a1] [rI (VR a0 a1)] := by
 have f := me (VR.eq_1 a0 a1)
 refine so func48 ntmps48 ?_
 refine lp1 (jT.eq_2 a0 a1) (fun J => Yd 20 [eI 1 a1, eL 7 7 a0 Z1.row, eI 8 (a0.length : Int), eI 9 (J : Int)]) (fun n1 J => a0.length < n1 + J /\ J <= a0.length) (a0.length + 1) 0 (fun p1 J e1 j1 => ?_)
 refine cFf e1 ?_ ?_ <;> intro k2 h1 e1
 ·have i1 := ix h1
  have m2 := ml a0 (k2 7 _ rfl)
  have w1 := wr J
  simp [i1, ZC]
  refine rpS ?_
  refine cF e1 ?_ ?_ <;> intro k3 h2 e1
  ·have f := ms f e1
   exact rt [.tmp 4] f
  exact ny1 w1 e1
 have f := ms f e1
 exact rt [.tmp 4] f
theorem T2 (a0 : ZV) : Sa 95 [a0.row] [rB (jM a0)] := by
 have f := me (jM.eq_1 a0)
 refine so func95 ntmps95 ?_
 refine cRs (Zv a0.yH 0 999) ?_
 refine cGs (fun gg => (Zv (a0.YO.length : Int) 1 6)) ?_
 refine cFo f ?_ ?_ <;> intro k1 h1 f
 ·have q1 := h1; try simp [ZU] at q1
  simp
  exact rt [.tmp 2] f
 have q1 := h1; try simp [ZU] at q1
 simp
 refine lp1 (xH.eq_2 a0) (fun J => Yd 46 [eX 1 (a0.row.map .d), eL 26 1 a0.YO sR, eI 27 (a0.YO.length : Int), eI 28 (J : Int)]) (fun n1 J => a0.YO.length < n1 + J /\ J <= a0.YO.length) (a0.YO.length + 1) 0 (fun p1 J e1 j1 => ?_)
 refine cFf e1 ?_ ?_ <;> intro k3 h2 e1
 ·have i1 := ix h2
  have m2 := ml a0.YO (k3 26 _ rfl)
  have w1 := wr J
  simp [i1, ZC]
  refine rpS ?_
  refine gIf ?_ ?_ <;> intro G
  ·have i2 := ik J a0.XB
   simp [i2, ZC, G]
   refine rpG ?_
   refine cGg (fun gg => (Zv (nth a0.XB J) 1 1000000000000)) ?_
   refine cKo e1 ?_ ?_ <;> intro k4 h3 e1
   ·have q3 := h3; try simp [ZU] at q3
    have f := ms f e1
    simp [G]
    refine rpG ?_
    exact rtg [.tmp 2] f
   ·have q3 := h3; try simp [ZU] at q3
    simp [G]
    refine rpG ?_
    exact ny1 (an w1 G) e1
  ·refine sGo ?_
   simp [G]
   refine rpG ?_
   refine cKo e1 ?_ ?_ <;> intro k5 h4 e1
   ·have q4 := h4; try simp [ZU] at q4
    have f := ms f e1
    simp [G]
    refine rpG ?_
    exact rtg [.tmp 2] f
   ·simp [G] at h4
 have f := ms f e1
 exact rt [.tmp 2] f
theorem Qk (a0 : List Int) (a1 : List Int) : Sa 53 [rL 1 iR a0, rL 1 iR a1] [rB (QL a0 a1)] := by
 have f := me (QL.eq_1 a0 a1)
 refine so func53 ntmps53 ?_
 refine cF f ?_ ?_ <;> intro k1 h1 f
 ·exact rt [.tmp 4] f
 refine lp1 (zt.eq_2 a0 a1) (fun J => Yd 26 [eL 0 1 a0 iR, eL 1 1 a1 iR, eI 12 (a0.length : Int), eI 13 (J : Int)]) (fun n1 J => a0.length < n1 + J /\ J <= a0.length) (a0.length + 1) 0 (fun p1 J e1 j1 => ?_)
 refine cF e1 ?_ ?_ <;> intro k3 h2 e1
 ·have i1 := ix h2
  have m2 := ml a0 (k3 0 _ rfl)
  have w1 := wr J
  refine dIo mixed ?_
  have i2 := ik J a1
  simp [i1, ZC, i2]
  refine rpS ?_
  refine cF e1 ?_ ?_ <;> intro k5 h3 e1
  ·have f := ms f e1
   exact rt [.tmp 4] f
  exact ny1 w1 e1
 have f := ms f e1
 exact rt [.tmp 4] f
theorem zk (a0 : ZS) (a1 : ZS) : Sa 97 [a0.row, a1.row] [rB (Xt a0 a1)] := by
 have f := me (Xt.eq_1 a0 a1)
 refine so func97 ntmps97 ?_
 refine cGs (fun gg => (Qk a0.Wm a1.Wm)) ?_
 exact rt [.tmp 4] f
theorem PD (a0 : List ZS) (a1 : ZS) : Sa 113 [rL 3 ZS.row a0, a1.row] [rB (VJ a0 a1)] := by
 have f := me (VJ.eq_1 a0 a1)
 refine so func113 ntmps113 ?_
 refine lp1 (jh.eq_2 a0 a1) (fun J => Yd 17 [eX 3 (a1.row.map .d), eL 7 3 a0 ZS.row, eI 8 (a0.length : Int), eI 9 (J : Int)]) (fun n1 J => a0.length < n1 + J /\ J <= a0.length) (a0.length + 1) 0 (fun p1 J e1 j1 => ?_)
 refine cFf e1 ?_ ?_ <;> intro k2 h1 e1
 ·have i1 := ix h1
  have m2 := ml a0 (k2 7 _ rfl)
  have w1 := wr J
  simp [i1, ZC]
  refine rpS ?_
  refine cRs (zk (nth a0 J) a1) ?_
  refine cF e1 ?_ ?_ <;> intro k3 h2 e1
  ·have f := ms f e1
   exact rt [.tmp 4] f
  exact ny1 w1 e1
 have f := ms f e1
 exact rt [.tmp 4] f
theorem Pb (a0 : ZO) : Sa 96 [a0.row] [rB (xe a0)] := by
 have f := me (xe.eq_1 a0)
 refine so func96 ntmps96 ?_
 refine cRs (Zv (a0.ZT.length : Int) 1 12) ?_
 refine cFo f ?_ ?_ <;> intro k1 h1 f
 ·have q1 := h1; try simp [ZU] at q1
  simp
  exact rt [.tmp 2] f
 have q1 := h1; try simp [ZU] at q1
 simp
 refine lp1 (yj.eq_2 a0) (fun J => Yd 65 [eX 1 (a0.row.map .d), eL 19 3 a0.ZT ZS.row, eI 20 (a0.ZT.length : Int), eI 21 (J : Int)]) (fun n1 J => a0.ZT.length < n1 + J /\ J <= a0.ZT.length) (a0.ZT.length + 1) 0 (fun p1 J e1 j1 => ?_)
 refine cFf e1 ?_ ?_ <;> intro k3 h2 e1
 ·have i1 := ix h2
  have m2 := ml a0.ZT (k3 19 _ rfl)
  have w1 := wr J
  simp [i1, ZC]
  refine rpS ?_
  refine dIs mixed ?_
  refine cRs (PD (a0.ZT.take J) (nth a0.ZT J)) ?_
  refine cF e1 ?_ ?_ <;> intro k5 h3 e1
  ·have f := ms f e1
   exact rt [.tmp 2] f
  exact ny1 w1 e1
 have f := ms f e1
 refine lp1 (yi.eq_2 a0) (fun wB => Yd 65 [eX 1 (a0.row.map .d), eL 34 5 a0.ZN ZM.row, eI 35 (a0.ZN.length : Int), eI 36 (wB : Int)]) (fun n2 wB => a0.ZN.length < n2 + wB /\ wB <= a0.ZN.length) (a0.ZN.length + 1) 0 (fun p2 wB e2 j2 => ?_)
 refine cFf e2 ?_ ?_ <;> intro k7 h4 e2
 ·have i2 := ix h4
  have m4 := ml a0.ZN (k7 34 _ rfl)
  have w2 := wr wB
  simp [i2, ZC]
  refine rpS ?_
  refine dIs mixed ?_
  refine cRs (Zv (nth a0.ZN wB).Count 1 (a0.ZT.length : Int)) ?_
  refine gIf ?_ ?_ <;> intro G
  ·have i3 := ik (wB - 1) a0.ZN
   have w3 : IntKind.i64.wrap ((wB : Int) - 1) = (wB : Int) - 1 := Yi (by omega) (by omega)
   simp [i3, ZC, w3, JA, G]
   refine rpG ?_
   refine cKo e2 ?_ ?_ <;> intro k9 h5 e2
   ·have q5 := h5; try simp [ZU] at q5
    have f := ms f e2
    simp [G]
    refine rpG ?_
    exact rtg [.tmp 2] f
   ·have q5 := h5; try simp [ZU] at q5
    simp [G]
    refine rpG ?_
    exact ny1 (an w2 (an w3 G)) e2
  ·refine cKo e2 ?_ ?_ <;> intro nc h6 e2
   ·have q6 := h6; try simp [ZU] at q6
    have f := ms f e2
    simp [G]
    refine rpG ?_
    exact rtg [.tmp 2] f
   ·have q6 := h6; try simp [ZU] at q6
    simp [G]
    refine rpG ?_
    exact ny1 (an w2 G) e2
 have f := ms f e2
 exact rt [.tmp 2] f
theorem VV (a0 : Zk) : Sd 114 [a0.row] [rL 1 iR (Ka a0)] := by
 have f := me (Ka.eq_1 a0)
 refine soD func114 ntmps114 ?_
 exact rtD [.tmp 2] f
theorem Sy (a0 : Zk) : Sd 98 [a0.row] [(xr a0).row] := by
 have f := me (xr.eq_1 a0)
 refine soD func98 ntmps98 ?_
 refine dIs mixed ?_
 refine cDs [false] (VV a0) ?_
 exact rtD [.cell 2 158] f
theorem ML (a0 : Za) : Sa 73 [a0.row] [rB (SP a0)] := by
 have f := me (SP.eq_1 a0)
 refine so func73 ntmps73 ?_
 refine dIs mixed ?_
 refine cRs (Zv a0.Id 1 999) ?_
 refine cGs (fun gg => (Qs a0.Yj)) ?_
 refine cGs (fun gg => (T2 a0.Doc)) ?_
 refine cGs (fun gg => (Pb a0.YD)) ?_
 refine gIf ?_ ?_ <;> intro G
 ·have tc := G
  have g1 := G; try simp [ZU] at g1
  have i1 : 0 < a0.YD.ZT.length := by have := RE (a := a0.YD); simp_all
  simp [i1, ZC, G]
  refine rpG ?_
  refine cGg (fun gg => YC.rd (Sy a0.Sig)) ?_
  refine cGg (fun gg => (zk (nth a0.YD.ZT 0) (xr a0.Sig))) ?_
  exact rtg [.tmp 2] f
 ·have tc := G
  refine sGo ?_
  simp [G]
  refine rpG ?_
  refine sGo ?_
  simp [G]
  refine rpG ?_
  exact rtg [.tmp 2] f
theorem Si (a0 : ZH) : Sa 49 [a0.row] [rB (kA a0)] := by
 have f := me (kA.eq_1 a0)
 refine so func49 ntmps49 ?_
 refine lp1 (qj.eq_2 a0) (fun J => Yd 42 [eX 1 (a0.row.map .d), eL 6 16 a0.ZK Za.row, eI 7 (a0.ZK.length : Int), eI 8 (J : Int)]) (fun n1 J => a0.ZK.length < n1 + J /\ J <= a0.ZK.length) (a0.ZK.length + 1) 0 (fun p1 J e1 j1 => ?_)
 refine cFf e1 ?_ ?_ <;> intro k2 h1 e1
 ·have i1 := ix h1
  have m2 := ml a0.ZK (k2 6 _ rfl)
  have w1 := wr J
  simp [i1, ZC]
  refine rpS ?_
  refine dIs mixed ?_
  refine cRs (ML (nth a0.ZK J)) ?_
  refine gIf ?_ ?_ <;> intro G
  ·have i2 := ik (J - 1) a0.ZK
   have w2 : IntKind.i64.wrap ((J : Int) - 1) = (J : Int) - 1 := Yi (by omega) (by omega)
   simp [i2, ZC, w2, JA, G]
   refine rpG ?_
   refine cK e1 ?_ ?_ <;> intro k4 h2 e1
   ·have f := ms f e1
    exact rtg [.tmp 2] f
   ·exact ny1 (an w1 (an w2 G)) e1
  ·refine cK e1 ?_ ?_ <;> intro k5 h3 e1
   ·have f := ms f e1
    exact rtg [.tmp 2] f
   ·exact ny1 (an w1 G) e1
 have f := ms f e1
 refine cRs (Zv a0.Id 0 99) ?_
 exact rt [.tmp 2] f
theorem Oz (a0 : List Int) (a1 : Int) : Sa 74 [rL 1 iR a0, rI a1] [rI (TF a0 a1)] := by
 have f := me (TF.eq_1 a0 a1)
 refine so func74 ntmps74 ?_
 refine lp1 (kC.eq_2 a0 a1) (fun J => Yd 19 [eI 1 a1, eL 7 1 a0 iR, eI 8 (a0.length : Int), eI 9 (J : Int)]) (fun n1 J => a0.length < n1 + J /\ J <= a0.length) (a0.length + 1) 0 (fun p1 J e1 j1 => ?_)
 refine cFf e1 ?_ ?_ <;> intro k2 h1 e1
 ·have i1 := ix h1
  have m2 := ml a0 (k2 7 _ rfl)
  have w1 := wr J
  simp [i1, ZC]
  refine rpS ?_
  refine cF e1 ?_ ?_ <;> intro k3 h2 e1
  ·have f := ms f e1
   exact rt [.tmp 4] f
  exact ny1 w1 e1
 have f := ms f e1
 exact rt [.tmp 4] f
theorem Mg (a0 : List Int) (a1 : Int) : Sa 50 [rL 1 iR a0, rI a1] [rB (Rc a0 a1)] := by
 have f := me (Rc.eq_1 a0 a1)
 refine so func50 ntmps50 ?_
 refine cRs (Oz a0 a1) ?_
 exact rt [.tmp 4] f
theorem J1 {a b : Prop} (h : b) (k : a := by (intros; first | omega | with_unfolding_all (first | first | omega | (have o : (nth a0.ZL wT).ZK.length <= 2310144 := Je (xs u0); have o2 : a0.ZL.length <= 2310144 := Je (xs u0); omega)) | ((try simp only [XJ, show ∀ x, IntKind.i64.wrap x = W x from fun _ => rfl] at *); omega))) : a /\ b := ⟨k, h⟩
theorem QP {a b : Prop} (h : b) (k : a := by (intros; first | omega | with_unfolding_all (first | first | omega | (have o : (nth a0.ZL wT).ZK.length <= 2310144 := Je (xs u0); have o2 : a0.ZL.length <= 2310144 := Je (xs u0); omega)) | (simp_all; done) | (simp_all; omega) | grind | ((try simp only [XJ, show ∀ x, IntKind.i64.wrap x = W x from fun _ => rfl] at *); omega))) : a /\ b := ⟨k, h⟩
theorem V8 (a0 : Zw) (u0 : Sm 2310144 a0) : Sa 22 [a0.row] [rB (WT a0)] := by
 have f := me (WT.eq_1 a0)
 refine so func22 ntmps22 ?_
 refine cRs (OL a0.Frame) ?_
 refine cGs (fun gg => (Zv (a0.ZL.length : Int) 1 4)) ?_
 refine cGs (fun gg => (kF a0.X9)) ?_
 refine cGs (fun gg => (kF a0.Jp)) ?_
 refine cFo f ?_ ?_ <;> intro k1 h1 f
 ·have q1 := h1; try simp [ZU] at q1
  simp
  exact rt [.tmp 2] f
 have q1 := h1; try simp [ZU] at q1
 simp
 refine lp1 (kd.eq_2 a0) (fun J => Yd 167 [eX 1 (a0.row.map .d), eX 3 (a0.Frame.row.map .d), eL 71 7 a0.YV Z1.row, eI 72 (a0.YV.length : Int), eI 73 (J : Int)]) (fun n1 J => a0.YV.length < n1 + J /\ J <= a0.YV.length) (a0.YV.length + 1) 0 (fun p1 J e1 j1 => ?_)
 try dsimp only at j1
 refine cFf e1 ?_ ?_ <;> intro k3 h2 e1
 ·have i1 := ix h2
  have m2 := ml a0.YV (k3 71 _ rfl)
  have c1 := sl 2310144 a0.YV u0
  have w1 := wr J
  simp [i1, ZC]
  repeat with_reducible refine J1 ?_
  refine cRs (SS a0.Frame.YE (nth a0.YV J) (sg (ZY.OV (Zw.Mi u0)))) ?_
  refine cGs (fun gg => (PW a0.YV (nth a0.YV J).Z9)) ?_
  refine gIo ?_ ?_ <;> intro G
  ·have tc := G
   have g1 := G; try simp at g1
   have i2 := ik J a0.QB
   simp [i2, ZC, G]
   repeat with_reducible refine QP ?_
   refine cGo (fun gg => (Zv (nth a0.QB J) (-1) 10001)) ?_
   simp [G]
   repeat with_reducible refine QP ?_
   refine cKo e1 ?_ ?_ <;> intro k4 h3 e1
   ·try (simp [G] at h3; done)
    all_goals
     have q3 := h3; try simp [ZU] at q3
     have f := ms f e1
     simp [G]
     repeat with_reducible refine QP ?_
     exact rtg [.tmp 2] f
   ·try (simp [G] at h3; done)
    all_goals
     have q3 := h3; try simp [ZU] at q3
     simp [G]
     repeat with_reducible refine QP ?_
     exact ny1 (an w1 G) e1
  ·have tc := G
   simp [G]
   repeat with_reducible refine QP ?_
   refine sGo ?_
   simp [G]
   repeat with_reducible refine QP ?_
   refine cKo e1 ?_ ?_ <;> intro k5 h4 e1
   ·try (simp [G] at h4; done)
    all_goals
     have q4 := h4; try simp [ZU] at q4
     have f := ms f e1
     simp [G]
     repeat with_reducible refine QP ?_
     exact rtg [.tmp 2] f
   ·try (simp [G] at h4; done)
    all_goals
     have q4 := h4; try simp [ZU] at q4
     simp [G]
     repeat with_reducible refine QP ?_
     exact ny1 (an w1 G) e1
 have c2 := sl 2310144 a0.YV u0
 have f := ms f e1
 refine lp2 (WO.eq_2 a0) (fun wB wT => Yd 167 [eX 1 (a0.row.map .d), eX 3 (a0.Frame.row.map .d), (6, .one (.sref 6 0 0 wB.length), [.arr false 1 (wB.map iR)]), eL 103 2 a0.ZL ZH.row, eI 104 (a0.ZL.length : Int), eI 105 (wT : Int)]) (fun n2 wB wT => a0.ZL.length < n2 + wT /\ wB.length <= 2310144 * wT) (a0.ZL.length + 1) ([] : List Int) 0 (fun p2 wB wT e2 j2 => ?_) (h0 := wkS [((6, 0), none)] [])
 try dsimp only at j2
 refine cFf e2 ?_ ?_ <;> intro k7 h5 e2
 ·have i4 := ix h5
  have m4 := ml a0.ZL (k7 103 _ rfl)
  have c3 := sl 2310144 a0.ZL u0
  have w2 := wr wT
  simp [i4, ZC]
  repeat with_reducible refine J1 ?_
  refine cRs (Si (nth a0.ZL wT)) ?_
  refine cF e2 ?_ ?_ <;> intro k8 h6 e2
  ·have f := ms f e2
   exact rt [.tmp 2] f
  refine lp2 (j7.eq_2 a0 wT) (fun w7 vv => Yd 167 [eX 1 (a0.row.map .d), eX 3 (a0.Frame.row.map .d), (6, .one (.sref 6 0 0 w7.length), [.arr false 1 (w7.map iR)]), eL 103 2 a0.ZL ZH.row, eI 104 (a0.ZL.length : Int), eI 105 (wT : Int), eL 120 16 (nth a0.ZL wT).ZK Za.row, eI 121 ((nth a0.ZL wT).ZK.length : Int), eI 122 (vv : Int)]) (fun n3 w7 vv => (nth a0.ZL wT).ZK.length < n3 + vv /\ vv <= (nth a0.ZL wT).ZK.length /\ w7.length <= 2310144 * wT + vv) ((nth a0.ZL wT).ZK.length + 1) wB 0 (fun p3 w7 vv e3 j3 => ?_)
  try dsimp only at j3
  refine cFf e3 ?_ ?_ <;> intro nc h7 e3
  ·have i5 := ix h7
   have m6 := ml (nth a0.ZL wT).ZK (nc 120 _ rfl)
   have c4 := sl 2310144 (nth a0.ZL wT).ZK u0
   have w3 := wr vv
   simp [i5, ZC]
   repeat with_reducible refine J1 ?_
   refine cRs (Mg w7 (nth (nth a0.ZL wT).ZK vv).Id) ?_
   refine cFt e3 ?_ ?_ <;> intro m9 h8 e3
   ·have e2 := ms e2 e3
    have f := ms f e2
    exact rt [.tmp 2] f
   simp
   repeat with_reducible refine J1 ?_
   exact nx2 e3 (hI := by (have o : (nth a0.ZL wT).ZK.length <= 2310144 := Je (xs u0); first | omega | (simp at *; omega))) (hw := X1 [((6, 0), some (141, 0))] [] rfl (by simp [w2, w3]))
  have c5 := sl 2310144 (nth a0.ZL wT).ZK u0
  have e2 := ms e2 e3
  exact ny2 w2 e2 (hI := by (have o : (nth a0.ZL wT).ZK.length <= 2310144 := Je (xs u0); first | omega | (simp at *; omega)))
 have c6 := sl 2310144 a0.ZL u0
 have f := ms f e2
 refine lp1 (kh.eq_2 a0) (fun um => Yd 167 [eX 1 (a0.row.map .d), eX 3 (a0.Frame.row.map .d), eL 145 1 a0.KL iR, eI 146 (a0.KL.length : Int), eI 147 (um : Int)]) (fun n4 um => a0.KL.length < n4 + um /\ um <= a0.KL.length) (a0.KL.length + 1) 0 (fun p4 um e4 j4 => ?_)
 try dsimp only at j4
 refine cFf e4 ?_ ?_ <;> intro lW h9 e4
 ·have i6 := ix h9
  have m8 := ml a0.KL (lW 145 _ rfl)
  have c7 := sl 2310144 a0.KL u0
  have w4 := wr um
  simp [i6, ZC]
  repeat with_reducible refine J1 ?_
  refine cF e4 ?_ ?_ <;> intro l6 rX e4
  ·have f := ms f e4
   exact rt [.tmp 2] f
  exact ny1 w4 e4
 have c8 := sl 2310144 a0.KL u0
 have f := ms f e4
 refine lp1 (ka.eq_2 a0) (fun uT => Yd 167 [eX 3 (a0.Frame.row.map .d), eL 155 1 a0.X9 iR, eI 156 (a0.X9.length : Int), eI 157 (uT : Int)]) (fun n5 uT => a0.X9.length < n5 + uT /\ uT <= a0.X9.length) (a0.X9.length + 1) 0 (fun p5 uT e5 j5 => ?_)
 try dsimp only at j5
 refine cFf e5 ?_ ?_ <;> intro iF gk e5
 ·have i7 := ix gk
  have fI := ml a0.X9 (iF 155 _ rfl)
  have c9 := sl 2310144 a0.X9 u0
  have w5 := wr uT
  simp [i7, ZC]
  repeat with_reducible refine J1 ?_
  refine cRs (JC a0.Frame.ZF (nth a0.X9 uT)) ?_
  refine cF e5 ?_ ?_ <;> intro fG fH e5
  ·have f := ms f e5
   exact rt [.tmp 2] f
  exact ny1 w5 e5
 have fJ := sl 2310144 a0.X9 u0
 have f := ms f e5
 exact rt [.tmp 2] f
theorem U4 (a0 : ZY) (a1 : ZY) : Sa 52 [a0.row, a1.row] [rB (KM a0 a1)] := by
 have f := me (KM.eq_1 a0 a1)
 refine so func52 ntmps52 ?_
 refine cF f ?_ ?_ <;> intro k1 h1 f
 ·exact rt [.tmp 4] f
 refine okL fun k2 => ?_
 refine lp1 (Kh.eq_2 a0 a1) (fun J => Yd 101 [eX 2 (a0.row.map .d), eX 3 (a1.row.map .d), eI 49 (a0.YE.length : Int), eI 50 (J : Int)]) (fun n1 J => a0.YE.length < n1 + J /\ J <= a0.YE.length) (a0.YE.length + 1) 0 (fun p1 J e1 j1 => ?_)
 refine cF e1 ?_ ?_ <;> intro k3 h2 e1
 ·have i1 := ix h2
  have m2 := ml a0.YE (k2 9 _ rfl)
  have w1 := wr J
  refine dIo mixed ?_
  have i2 := ik J a1.YE
  simp [i1, ZC, i2]
  refine rpS ?_
  refine cF e1 ?_ ?_ <;> intro k5 h3 e1
  ·have f := ms f e1
   exact rt [.tmp 4] f
  exact ny1 w1 e1
 have f := ms f e1
 refine okL fun k6 => ?_
 refine lp1 (Kd.eq_2 a0 a1) (fun wB => Yd 101 [eX 2 (a0.row.map .d), eX 3 (a1.row.map .d), eI 67 (a0.ZF.length : Int), eI 68 (wB : Int)]) (fun n2 wB => a0.ZF.length < n2 + wB /\ wB <= a0.ZF.length) (a0.ZF.length + 1) 0 (fun p2 wB e2 j2 => ?_)
 refine cF e2 ?_ ?_ <;> intro k7 h4 e2
 ·have i3 := ix h4
  have m4 := ml a0.ZF (k6 66 _ rfl)
  have w2 := wr wB
  refine dIo mixed ?_
  have i4 := ik wB a1.ZF
  simp [i3, ZC, i4]
  refine rpS ?_
  refine cF e2 ?_ ?_ <;> intro k9 h5 e2
  ·have f := ms f e2
   exact rt [.tmp 4] f
  exact ny1 w2 e2
 have f := ms f e2
 refine okL fun nc => ?_
 refine lp1 (KX.eq_2 a0 a1) (fun w7 => Yd 101 [eX 2 (a0.row.map .d), eX 3 (a1.row.map .d), eI 85 (a0.Methods.length : Int), eI 86 (w7 : Int)]) (fun n3 w7 => a0.Methods.length < n3 + w7 /\ w7 <= a0.Methods.length) (a0.Methods.length + 1) 0 (fun p3 w7 e3 j3 => ?_)
 refine cF e3 ?_ ?_ <;> intro m9 h6 e3
 ·have i5 := ix h6
  have m6 := ml a0.Methods (nc 84 _ rfl)
  have w3 := wr w7
  refine dIo mixed ?_
  have i6 := ik w7 a1.Methods
  simp [i5, ZC, i6]
  refine rpS ?_
  refine cF e3 ?_ ?_ <;> intro lW h7 e3
  ·have f := ms f e3
   exact rt [.tmp 4] f
  exact ny1 w3 e3
 have f := ms f e3
 exact rt [.tmp 4] f
theorem Vy (a0 : List ByteArray) (a1 : List ByteArray) : Sa 115 [rL 1 sR a0, rL 1 sR a1] [rB (K9 a0 a1)] := by
 have f := me (K9.eq_1 a0 a1)
 refine so func115 ntmps115 ?_
 refine cF f ?_ ?_ <;> intro k1 h1 f
 ·exact rt [.tmp 4] f
 refine lp1 (KF.eq_2 a0 a1) (fun J => Yd 26 [eL 0 1 a0 sR, eL 1 1 a1 sR, eI 12 (a0.length : Int), eI 13 (J : Int)]) (fun n1 J => a0.length < n1 + J /\ J <= a0.length) (a0.length + 1) 0 (fun p1 J e1 j1 => ?_)
 refine cF e1 ?_ ?_ <;> intro k3 h2 e1
 ·have i1 := ix h2
  have m2 := ml a0 (k3 0 _ rfl)
  have w1 := wr J
  refine dIo mixed ?_
  have i2 := ik J a1
  simp [i1, ZC, i2]
  refine rpS ?_
  refine cF e1 ?_ ?_ <;> intro k5 h3 e1
  ·have f := ms f e1
   exact rt [.tmp 4] f
  exact ny1 w1 e1
 have f := ms f e1
 exact rt [.tmp 4] f
theorem Wg (a0 : ZV) (a1 : ZV) : Sa 99 [a0.row, a1.row] [rB (Qm a0 a1)] := by
 have f := me (Qm.eq_1 a0 a1)
 refine so func99 ntmps99 ?_
 refine cGs (fun gg => (Vy a0.YO a1.YO)) ?_
 refine cGs (fun gg => (Qk a0.XB a1.XB)) ?_
 exact rt [.tmp 4] f
theorem WG (a0 : List ZS) (a1 : List ZS) : Sa 116 [rL 3 ZS.row a0, rL 3 ZS.row a1] [rB (JU a0 a1)] := by
 have f := me (JU.eq_1 a0 a1)
 refine so func116 ntmps116 ?_
 refine cF f ?_ ?_ <;> intro k1 h1 f
 ·exact rt [.tmp 4] f
 refine lp1 (Qd.eq_2 a0 a1) (fun J => Yd 27 [eL 0 3 a0 ZS.row, eL 1 3 a1 ZS.row, eI 12 (a0.length : Int), eI 13 (J : Int)]) (fun n1 J => a0.length < n1 + J /\ J <= a0.length) (a0.length + 1) 0 (fun p1 J e1 j1 => ?_)
 refine cF e1 ?_ ?_ <;> intro k3 h2 e1
 ·have i1 := ix h2
  have m2 := ml a0 (k3 0 _ rfl)
  have w1 := wr J
  refine dIo mixed ?_
  have i2 := ik J a1
  simp [i1, ZC, i2]
  refine rpS ?_
  refine cRs (zk (nth a0 J) (nth a1 J)) ?_
  refine cF e1 ?_ ?_ <;> intro k5 h3 e1
  ·have f := ms f e1
   exact rt [.tmp 4] f
  exact ny1 w1 e1
 have f := ms f e1
 exact rt [.tmp 4] f
theorem Uu (a0 : List Zf) (a1 : List Zf) : Sa 143 [rL 5 Zf.row a0, rL 5 Zf.row a1] [rB (zw a0 a1)] := by
 have f := me (zw.eq_1 a0 a1)
 refine so func143 ntmps143 ?_
 refine cF f ?_ ?_ <;> intro k1 h1 f
 ·exact rt [.tmp 4] f
 refine lp1 (Kc.eq_2 a0 a1) (fun J => Yd 26 [eL 0 5 a0 Zf.row, eL 1 5 a1 Zf.row, eI 12 (a0.length : Int), eI 13 (J : Int)]) (fun n1 J => a0.length < n1 + J /\ J <= a0.length) (a0.length + 1) 0 (fun p1 J e1 j1 => ?_)
 refine cF e1 ?_ ?_ <;> intro k3 h2 e1
 ·have i1 := ix h2
  have m2 := ml a0 (k3 0 _ rfl)
  have w1 := wr J
  refine dIo mixed ?_
  have i2 := ik J a1
  simp [i1, ZC, i2]
  refine rpS ?_
  refine cF e1 ?_ ?_ <;> intro k5 h3 e1
  ·have f := ms f e1
   exact rt [.tmp 4] f
  exact ny1 w1 e1
 have f := ms f e1
 exact rt [.tmp 4] f
theorem VQ (a0 : ZM) (a1 : ZM) : Sa 117 [a0.row, a1.row] [rB (QE a0 a1)] := by
 have f := me (QE.eq_1 a0 a1)
 refine so func117 ntmps117 ?_
 refine cF f ?_ ?_ <;> intro k1 h1 f
 ·exact rt [.tmp 4] f
 refine okL fun k2 => ?_
 refine lp1 (JS.eq_2 a0 a1) (fun J => Yd 57 [eX 2 (a0.row.map .d), eX 3 (a1.row.map .d), eI 36 (a0.Path.length : Int), eI 37 (J : Int)]) (fun n1 J => a0.Path.length < n1 + J /\ J <= a0.Path.length) (a0.Path.length + 1) 0 (fun p1 J e1 j1 => ?_)
 refine cF e1 ?_ ?_ <;> intro k3 h2 e1
 ·have i1 := ix h2
  have m2 := ml a0.Path (k2 35 _ rfl)
  have w1 := wr J
  refine dIo mixed ?_
  have i2 := ik J a1.Path
  simp [i1, ZC, i2]
  refine rpS ?_
  refine cF e1 ?_ ?_ <;> intro k5 h3 e1
  ·have f := ms f e1
   exact rt [.tmp 4] f
  exact ny1 w1 e1
 have f := ms f e1
 refine cRs (Uu a0.Z8 a1.Z8) ?_
 exact rt [.tmp 4] f
theorem UJ (a0 : ZO) (a1 : ZO) : Sa 100 [a0.row, a1.row] [rB (Js a0 a1)] := by
 have f := me (Js.eq_1 a0 a1)
 refine so func100 ntmps100 ?_
 refine cRs (WG a0.ZT a1.ZT) ?_
 refine cF f ?_ ?_ <;> intro k1 h1 f
 ·exact rt [.tmp 4] f
 refine okL fun k2 => ?_
 refine lp1 (J2.eq_2 a0 a1) (fun J => Yd 40 [eX 2 (a0.row.map .d), eX 3 (a1.row.map .d), eI 23 (a0.ZN.length : Int), eI 24 (J : Int)]) (fun n1 J => a0.ZN.length < n1 + J /\ J <= a0.ZN.length) (a0.ZN.length + 1) 0 (fun p1 J e1 j1 => ?_)
 refine cF e1 ?_ ?_ <;> intro k3 h2 e1
 ·have i1 := ix h2
  have m2 := ml a0.ZN (k2 22 _ rfl)
  have w1 := wr J
  refine dIo mixed ?_
  have i2 := ik J a1.ZN
  simp [i1, ZC, i2]
  refine rpS ?_
  refine cRs (VQ (nth a0.ZN J) (nth a1.ZN J)) ?_
  refine cF e1 ?_ ?_ <;> intro k5 h3 e1
  ·have f := ms f e1
   exact rt [.tmp 4] f
  exact ny1 w1 e1
 have f := ms f e1
 exact rt [.tmp 4] f
theorem Tz (a0 : Za) (a1 : Za) : Sa 75 [a0.row, a1.row] [rB (KH a0 a1)] := by
 have f := me (KH.eq_1 a0 a1)
 refine so func75 ntmps75 ?_
 refine cGs (fun gg => (Wg a0.Doc a1.Doc)) ?_
 refine cGs (fun gg => (UJ a0.YD a1.YD)) ?_
 exact rt [.tmp 4] f
theorem VY (a0 : ZH) (a1 : ZH) : Sa 54 [a0.row, a1.row] [rB (QD a0 a1)] := by
 have f := me (QD.eq_1 a0 a1)
 refine so func54 ntmps54 ?_
 refine cF f ?_ ?_ <;> intro k1 h1 f
 ·exact rt [.tmp 4] f
 refine okL fun k2 => ?_
 refine lp1 (JW.eq_2 a0 a1) (fun J => Yd 39 [eX 2 (a0.row.map .d), eX 3 (a1.row.map .d), eI 22 (a0.ZK.length : Int), eI 23 (J : Int)]) (fun n1 J => a0.ZK.length < n1 + J /\ J <= a0.ZK.length) (a0.ZK.length + 1) 0 (fun p1 J e1 j1 => ?_)
 refine cF e1 ?_ ?_ <;> intro k3 h2 e1
 ·have i1 := ix h2
  have m2 := ml a0.ZK (k2 21 _ rfl)
  have w1 := wr J
  refine dIo mixed ?_
  have i2 := ik J a1.ZK
  simp [i1, ZC, i2]
  refine rpS ?_
  refine cRs (Tz (nth a0.ZK J) (nth a1.ZK J)) ?_
  refine cF e1 ?_ ?_ <;> intro k5 h3 e1
  ·have f := ms f e1
   exact rt [.tmp 4] f
  exact ny1 w1 e1
 have f := ms f e1
 exact rt [.tmp 4] f
theorem Xy (a0 : Zw) (a1 : Zw) : Sa 26 [a0.row, a1.row] [rB (XO a0 a1)] := by
 have f := me (XO.eq_1 a0 a1)
 refine so func26 ntmps26 ?_
 refine cRs (U4 a0.Frame a1.Frame) ?_
 refine cGs (fun gg => (Qk a0.QB a1.QB)) ?_
 refine cGs (fun gg => (Qk a0.KL a1.KL)) ?_
 refine cGs (fun gg => (Qk a0.X9 a1.X9)) ?_
 refine cGs (fun gg => (Qk a0.Jp a1.Jp)) ?_
 refine cF f ?_ ?_ <;> intro k1 h1 f
 ·exact rt [.tmp 4] f
 refine okL fun k2 => ?_
 refine lp1 (Ke.eq_2 a0 a1) (fun J => Yd 107 [eX 2 (a0.row.map .d), eX 3 (a1.row.map .d), eI 72 (a0.YV.length : Int), eI 73 (J : Int)]) (fun n1 J => a0.YV.length < n1 + J /\ J <= a0.YV.length) (a0.YV.length + 1) 0 (fun p1 J e1 j1 => ?_)
 refine cF e1 ?_ ?_ <;> intro k3 h2 e1
 ·have i1 := ix h2
  have m2 := ml a0.YV (k2 71 _ rfl)
  have w1 := wr J
  refine dIo mixed ?_
  have i2 := ik J a1.YV
  simp [i1, ZC, i2]
  refine rpS ?_
  refine cF e1 ?_ ?_ <;> intro k5 h3 e1
  ·have f := ms f e1
   exact rt [.tmp 4] f
  exact ny1 w1 e1
 have f := ms f e1
 refine okL fun k6 => ?_
 refine lp1 (Kb.eq_2 a0 a1) (fun wB => Yd 107 [eX 2 (a0.row.map .d), eX 3 (a1.row.map .d), eI 90 (a0.ZL.length : Int), eI 91 (wB : Int)]) (fun n2 wB => a0.ZL.length < n2 + wB /\ wB <= a0.ZL.length) (a0.ZL.length + 1) 0 (fun p2 wB e2 j2 => ?_)
 refine cF e2 ?_ ?_ <;> intro k7 h4 e2
 ·have i3 := ix h4
  have m4 := ml a0.ZL (k6 89 _ rfl)
  have w2 := wr wB
  refine dIo mixed ?_
  have i4 := ik wB a1.ZL
  simp [i3, ZC, i4]
  refine rpS ?_
  refine cRs (VY (nth a0.ZL wB) (nth a1.ZL wB)) ?_
  refine cF e2 ?_ ?_ <;> intro k9 h5 e2
  ·have f := ms f e2
   exact rt [.tmp 4] f
  exact ny1 w2 e2
 have f := ms f e2
 exact rt [.tmp 4] f
end Go.Proofs.YtgkcgbmbdaapcaaGreat
