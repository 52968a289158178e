/- Contracts of the functions RK the abstract machine, part I1. No condition. -/
import Derived.Test.YtjflhdkeibijaaaGreatL
import Derived.Test.YtjflhdkeibijaaaGreatTy
namespace Go.Proofs.YtjflhdkeibijaaaGreat
open Go.Vm Go.Mo
set_option maxHeartbeats 1000000
set_option maxRecDepth 100000
set_option linter.unusedSimpArgs false
set_option linter.unusedVariables false
theorem R1 (a0 : Z4) (u0 : Sm 2342912 a0) : Sd 87 [a0.row] [(WX a0).row] := by
 have f := me (WX.eq_1 a0)
 have c1 := sl 2342912 a0.YR u0
 have c2 := sl 2342912 a0.ZL u0
 have c3 := sl 2342912 a0.Methods u0
 refine soD Tryz.func87 Tryz.ntmps87 ?_
 exact rtD [.cell 2 37] f
theorem SY (a0 : Z4) (u0 : Sm 2342912 a0) : Sd 87 [a0.row] [a0.row] := by
  have h := R1 a0 u0
  rwa [P9] at h
theorem OL (a0 : List Int) (u0 : Sm 2342912 a0) : Sd 88 [rL 1 iR a0] [rL 1 iR (VW a0)] := by
 have f := me (VW.eq_1 a0)
 have c1 := sl 2342912 a0 u0
 refine soD Tryz.func88 Tryz.ntmps88 ?_
 exact rtD [.tmp 2] f
theorem JB (a0 : List Int) (u0 : Sm 2342912 a0) : Sd 88 [rL 1 iR a0] [rL 1 iR a0] := by
  have h := OL a0 u0
  rwa [OZ] at h
theorem V0 (a0 : ZT) (u0 : Sm 2338816 a0) : Sd 146 [a0.row] [(qF a0).row] := by
 have f := me (qF.eq_1 a0)
 refine soD Tryz.func146 Tryz.ntmps146 ?_
 refine Pt [2, 3, 4, 5, 0, 1, 6, 7, 8, 9, 10] mixed (by kernel_rfl) (by kernel_rfl) (by kernel_rfl) ?_
 have c1 := sl 2338816 a0.ZE u0
 simp
 repeat with_reducible refine sd ?_
 refine cDs [false] (JB a0.ZG (sg (ZT.PN u0))) ?_
 exact rtD [.cell 2 88] f
theorem VX (a0 : ZT) (u0 : Sm 2338816 a0) : Sd 146 [a0.row] [a0.row] := by
  have h := V0 a0 u0
  rwa [UA] at h
theorem Py (a0 : ZO) (u0 : Sm 2338816 a0) : Sd 203 [a0.row] [(WR a0).row] := by
 have f := me (WR.eq_1 a0)
 refine soD Tryz.func203 Tryz.ntmps203 ?_
 refine cDs [false] (JB a0.Ye (sg (ZO.GF u0))) ?_
 exact rtD [.cell 2 187] f
theorem SJ (a0 : ZO) (u0 : Sm 2338816 a0) : Sd 203 [a0.row] [a0.row] := by
  have h := Py a0 u0
  rwa [Rr] at h
theorem S7 (a0 : List ZO) (u0 : Sm 2334720 a0) : Sd 170 [rL 3 ZO.row a0] [rL 3 ZO.row (xR a0)] := by
 have f := me (xR.eq_1 a0)
 refine soD Tryz.func170 Tryz.ntmps170 ?_
 refine lp2 (zb.eq_2 a0) (fun v1_0 v1_1 => YM 19 [(3, .one (.sref 3 0 0 v1_0.length), [.arr true 3 (v1_0.map ZO.row)]), eL 6 3 a0 ZO.row, eI 7 (↑a0.length : Int), eI 8 (↑v1_1 : Int)]) (fun n1 v1_0 v1_1 => a0.length < n1 + v1_1 ∧ v1_1 ≤ a0.length ∧ v1_0.length ≤ 0 + 1 * v1_1) (a0.length + 1) ([] : List ZO) 0 (fun p1 v1_0 v1_1 e1 j1 => ?_) (h0 := Yq [((3, 0), none)] [] rfl (by simp))
 refine cFf e1 ?_ ?_ <;> intro k2 h1 e1
 ·have i1 := ix h1
  have m2 := ml a0 (k2 6 _ rfl)
  have c1 := sl 2334720 a0 u0
  have w1 := wr v1_1
  simp [i1, ZD]
  repeat with_reducible refine sd ?_
  refine cDs [true, false] (SJ (nth a0 v1_1) (sg (QU u0))) ?_
  refine Of rfl rfl rfl (by simp) (by simp) (by simp) ?_
  simp
  refine O9 (olds := (v1_0.map ZO.row)) (news := (([(nth a0 v1_1)] : List ZO).map ZO.row)) (l1 := [(3, 0)]) (l2 := [(14, 1)]) (size := 3) rfl rfl rfl rfl (by simp) (by simp) (by simp) (by simp) (by simp) (by simp; omega) ?_
  simp
  exact nx2 e1 (hw := Yq [((3, 0), some (16, 0))] [] rfl (by simp [w1]))
 have c2 := sl 2334720 a0 u0
 have f := ms f e1
 exact rtD [.tmp 2] f
theorem Ux (a0 : List ZO) (u0 : Sm 2334720 a0) : Sd 170 [rL 3 ZO.row a0] [rL 3 ZO.row a0] := by
  have h := S7 a0 u0
  rwa [SD] at h
theorem SA (a0 : List ZX) (u0 : Sm 2342912 a0) : Sd 171 [rL 5 ZX.row a0] [rL 5 ZX.row (kK a0)] := by
 have f := me (kK.eq_1 a0)
 have c1 := sl 2342912 a0 u0
 refine soD Tryz.func171 Tryz.ntmps171 ?_
 exact rtD [.tmp 2] f
theorem U1 (a0 : List ZX) (u0 : Sm 2342912 a0) : Sd 171 [rL 5 ZX.row a0] [rL 5 ZX.row a0] := by
  have h := SA a0 u0
  rwa [SZ] at h
theorem TJ (a0 : ZF) (u0 : Sm 2338816 a0) : Sd 125 [a0.row] [(qw a0).row] := by
 have f := me (qw.eq_1 a0)
 have c1 := sl 2338816 a0.Path u0
 refine soD Tryz.func125 Tryz.ntmps125 ?_
 refine cDs [false] (U1 a0.Zv (sg (ZF.Nq u0))) ?_
 exact rtD [.cell 2 96] f
theorem qe (a0 : ZF) (u0 : Sm 2338816 a0) : Sd 125 [a0.row] [a0.row] := by
  have h := TJ a0 u0
  rwa [TH] at h
theorem SO (a0 : ZY) (u0 : Sm 2330624 a0) : Sd 124 [a0.row] [(xK a0).row] := by
 have f := me (xK.eq_1 a0)
 refine soD Tryz.func124 Tryz.ntmps124 ?_
 refine cDs [] (Ux a0.ZR (sg (ZY.jF u0))) ?_
 refine lp2 (zY.eq_2 a0) (fun v1_0 v1_1 => YM 26 [(2, .one (.bptr 2 0), [.box [.nil 3, .nil 5]]), (3, .one (.bptr 3 0), [.box [.sref 8 0 0 a0.ZR.length, .sref 3 2 0 v1_1.length], .none, .arr true 5 (v1_1.map ZF.row)]), (8, .any, [.arr true 3 (a0.ZR.map ZO.row)]), eL 11 5 a0.ZV ZF.row, eI 12 (↑a0.ZV.length : Int), eI 13 (↑v1_0 : Int)]) (fun n1 v1_0 v1_1 => a0.ZV.length < n1 + v1_0 ∧ v1_0 ≤ a0.ZV.length ∧ v1_1.length ≤ 0 + 1 * v1_0) (a0.ZV.length + 1) 0 ([] : List ZF) (fun p1 v1_0 v1_1 e1 j1 => ?_) (h0 := Yq [((3, 2), none)] [] rfl (by simp))
 refine cFf e1 ?_ ?_ <;> intro k2 h1 e1
 ·have i1 := ix h1
  have m2 := ml a0.ZV (k2 11 _ rfl)
  have c1 := sl 2330624 a0.ZV u0
  have w1 := wr v1_0
  simp [i1, ZD]
  repeat with_reducible refine sd ?_
  refine W6 [22] mixed (by kernel_rfl) (by kernel_rfl) ?_
  simp
  refine cDs [true, true, true, false, false] (qe (nth a0.ZV v1_0) (sg (QU (ZY.yp u0)))) ?_
  refine Of rfl rfl rfl (by simp) (by simp) (by simp) ?_
  simp
  refine O9 (olds := (v1_1.map ZF.row)) (news := (([(nth a0.ZV v1_0)] : List ZF).map ZF.row)) (l1 := [(3, 2)]) (l2 := [(20, 3), (20, 4)]) (size := 5) rfl rfl rfl rfl (by simp) (by simp) (by simp) (by simp) (by simp) (by simp; omega) ?_
  simp
  exact nx2 e1 (hw := Yq [((3, 2), some (22, 0))] [] rfl (by simp [w1]))
 have c2 := sl 2330624 a0.ZV u0
 have f := ms f e1
 exact rtD [.cell 2 85] f
theorem yC (a0 : ZY) (u0 : Sm 2330624 a0) : Sd 124 [a0.row] [a0.row] := by
  have h := SO a0 u0
  rwa [SP] at h
theorem On (a0 : Zb) (u0 : Sm 2326528 a0) : Sd 90 [a0.row] [(Vh a0).row] := by
 have f := me (Vh.eq_1 a0)
 refine soD Tryz.func90 Tryz.ntmps90 ?_
 refine cDs [true, false, false] (VX a0.Doc (sg (Zb.U3 u0))) ?_
 refine cDs [] (yC a0.ZK (sg (Zb.zI u0))) ?_
 exact rtD [.cell 2 92] f
theorem PH (a0 : Zb) (u0 : Sm 2326528 a0) : Sd 90 [a0.row] [a0.row] := by
  have h := On a0 u0
  rwa [Oj] at h
theorem U7 (a0 : ZH) (u0 : Sm 2322432 a0) : Sd 89 [a0.row] [(yS a0).row] := by
 have f := me (yS.eq_1 a0)
 refine soD Tryz.func89 Tryz.ntmps89 ?_
 refine lp2 (Ks.eq_2 a0) (fun v1_0 v1_1 => YM 25 [(2, .one (.bptr 2 0), [.box [.d (.int .i64 0), .nil 16]]), (3, .one (.bptr 3 0), [.box [.d (.int .i64 a0.Id), .sref 3 2 0 v1_1.length], .none, .arr true 16 (v1_1.map Zb.row)]), eL 10 16 a0.ZS Zb.row, eI 11 (↑a0.ZS.length : Int), eI 12 (↑v1_0 : Int)]) (fun n1 v1_0 v1_1 => a0.ZS.length < n1 + v1_0 ∧ v1_0 ≤ a0.ZS.length ∧ v1_1.length ≤ 0 + 1 * v1_0) (a0.ZS.length + 1) 0 ([] : List Zb) (fun p1 v1_0 v1_1 e1 j1 => ?_) (h0 := Yq [((3, 2), none)] [] rfl (by simp))
 refine cFf e1 ?_ ?_ <;> intro k2 h1 e1
 ·have i1 := ix h1
  have m2 := ml a0.ZS (k2 10 _ rfl)
  have c1 := sl 2322432 a0.ZS u0
  have w1 := wr v1_0
  simp [i1, ZD]
  repeat with_reducible refine sd ?_
  refine W6 [21] mixed (by kernel_rfl) (by kernel_rfl) ?_
  simp
  refine cDs [true, true, true, false, false] (PH (nth a0.ZS v1_0) (sg (QU (ZH.xk u0)))) ?_
  refine Of rfl rfl rfl (by simp) (by simp) (by simp) ?_
  simp
  refine O9 (olds := (v1_1.map Zb.row)) (news := (([(nth a0.ZS v1_0)] : List Zb).map Zb.row)) (l1 := [(3, 2)]) (l2 := [(19, 3), (19, 4), (19, 14), (19, 15)]) (size := 16) rfl rfl rfl rfl (by simp) (by simp) (by simp) (by simp) (by simp) (by simp; omega) ?_
  simp
  exact nx2 e1 (hw := Yq [((3, 2), some (21, 0))] [] rfl (by simp [w1]))
 have c2 := sl 2322432 a0.ZS u0
 have f := ms f e1
 exact rtD [.cell 2 64] f
theorem Vx (a0 : ZH) (u0 : Sm 2322432 a0) : Sd 89 [a0.row] [a0.row] := by
  have h := U7 a0 u0
  rwa [U5] at h
theorem Pf (a0 : Zc) (u0 : Sm 2318336 a0) : Sd 33 [a0.row] [(qW a0).row] := by
 have f := me (qW.eq_1 a0)
 refine soD Tryz.func33 Tryz.ntmps33 ?_
 refine dIs mixed ?_
 have c1 := sl 2318336 a0.Zx u0
 refine cDs [false, false, false] (SY a0.Frame (sg (Zc.JE u0))) ?_
 refine cDs [false] (JB a0.Z5 (sg (Zc.Lr u0))) ?_
 refine cDs [false] (JB a0.Yz (sg (Zc.GH u0))) ?_
 refine cDs [false] (JB a0.YX (sg (Zc.HC u0))) ?_
 refine cDs [false] (JB a0.YT (sg (Zc.Np u0))) ?_
 refine lp2 (ya.eq_2 a0) (fun v1_0 v1_1 => YM 44 [(2, .one (.bptr 2 0), [.box [.nil 5, .nil 3, .nil 4, .d (.int .i64 0), .d (.int .i64 0), .nil 7, .nil 1, .nil 2, .nil 1, .nil 1, .d (.int .i64 0), .nil 1]]), (3, .one (.bptr 3 0), [.box [.sref 8 0 0 a0.Frame.YR.length, .sref 8 1 0 a0.Frame.ZL.length, .sref 8 2 0 a0.Frame.Methods.length, .d (.int .i64 a0.Frame.zu), .d (.int .i64 a0.Frame.Now), .sref 12 0 0 a0.Zx.length, .sref 15 0 0 a0.Z5.length, .sref 3 8 0 v1_1.length, .sref 18 0 0 a0.Yz.length, .sref 21 0 0 a0.YX.length, .d (.int .i64 a0.Next), .sref 26 0 0 a0.YT.length], .none, .none, .none, .none, .none, .none, .none, .arr true 2 (v1_1.map ZH.row)]), (8, .any, [.arr false 5 (a0.Frame.YR.map YD.row), .arr false 3 (a0.Frame.ZL.map ZI.row), .arr false 4 (a0.Frame.Methods.map ZU.row)]), (12, .any, [.arr false 7 (a0.Zx.map Z0.row)]), (15, .any, [.arr false 1 (a0.Z5.map iR)]), (18, .any, [.arr false 1 (a0.Yz.map iR)]), (21, .any, [.arr false 1 (a0.YX.map iR)]), (26, .any, [.arr false 1 (a0.YT.map iR)]), eL 29 2 a0.ZC ZH.row, eI 30 (↑a0.ZC.length : Int), eI 31 (↑v1_0 : Int)]) (fun n1 v1_0 v1_1 => a0.ZC.length < n1 + v1_0 ∧ v1_0 ≤ a0.ZC.length ∧ v1_1.length ≤ 0 + 1 * v1_0) (a0.ZC.length + 1) 0 ([] : List ZH) (fun p1 v1_0 v1_1 e1 j1 => ?_) (h0 := Yq [((3, 8), none)] [] rfl (by simp))
 refine cFf e1 ?_ ?_ <;> intro k3 h1 e1
 ·have i1 := ix h1
  have m2 := ml a0.ZC (k3 29 _ rfl)
  have c2 := sl 2318336 a0.ZC u0
  have w1 := wr v1_0
  simp [i1, ZD]
  repeat with_reducible refine sd ?_
  refine W6 [40] mixed (by kernel_rfl) (by kernel_rfl) ?_
  simp
  refine cDs [] (Vx (nth a0.ZC v1_0) (sg (QU (Zc.zB u0)))) ?_
  refine Of rfl rfl rfl (by simp) (by simp) (by simp) ?_
  simp
  refine O9 (olds := (v1_1.map ZH.row)) (news := (([(nth a0.ZC v1_0)] : List ZH).map ZH.row)) (l1 := [(3, 8)]) (l2 := [(38, 1)]) (size := 2) rfl rfl rfl rfl (by simp) (by simp) (by simp) (by simp) (by simp) (by simp; omega) ?_
  simp
  exact nx2 e1 (hw := Yq [((3, 8), some (40, 0))] [] rfl (by simp [w1]))
 have c3 := sl 2318336 a0.ZC u0
 have f := ms f e1
 exact rtD [.cell 2 41] f
theorem SM (a0 : Zc) (u0 : Sm 2318336 a0) : Sd 33 [a0.row] [a0.row] := by
  have h := Pf a0 u0
  rwa [RV] at h
theorem Ot (a0 : ZH) (a1 : Int) : Sa 115 [a0.row, rI a1] [rI (KG a0 a1)] := by
 have f := me (KG.eq_1 a0 a1)
 refine so Tryz.func115 Tryz.ntmps115 ?_
 refine lp1 (KY.eq_2 a0 a1) (fun v1_0 => YM 21 [eI 1 a1, eL 8 16 a0.ZS Zb.row, eI 9 (↑a0.ZS.length : Int), eI 10 (↑v1_0 : Int)]) (fun n1 v1_0 => a0.ZS.length < n1 + v1_0 ∧ v1_0 ≤ a0.ZS.length) (a0.ZS.length + 1) 0 (fun p1 v1_0 e1 j1 => ?_)
 refine cFf e1 ?_ ?_ <;> intro k2 h1 e1
 ·have i1 := ix h1
  have m2 := ml a0.ZS (k2 8 _ rfl)
  have w1 := wr v1_0
  simp [i1, ZD]
  repeat with_reducible refine sd ?_
  refine cF e1 ?_ ?_ <;> intro k3 h2 e1
  ·have f := ms f e1
   exact rt [.tmp 4] f
  exact ny1 w1 e1
 have f := ms f e1
 exact rt [.tmp 4] f
theorem L8 (a0 : Zc) (a1 : Int) : Sa 53 [a0.row, rI a1] [rI (ZN a0 a1).1, rI (ZN a0 a1).2] := by
 have f := me (ZN.eq_1 a0 a1)
 refine so Tryz.func53 Tryz.ntmps53 ?_
 refine lp1 (KJ.eq_2 a0 a1) (fun v1_0 => YM 25 [eI 1 a1, eL 10 2 a0.ZC ZH.row, eI 11 (↑a0.ZC.length : Int), eI 12 (↑v1_0 : Int)]) (fun n1 v1_0 => a0.ZC.length < n1 + v1_0 ∧ v1_0 ≤ a0.ZC.length) (a0.ZC.length + 1) 0 (fun p1 v1_0 e1 j1 => ?_)
 refine cFf e1 ?_ ?_ <;> intro k2 h1 e1
 ·have i1 := ix h1
  have m2 := ml a0.ZC (k2 10 _ rfl)
  have w1 := wr v1_0
  simp [i1, ZD]
  repeat with_reducible refine sd ?_
  refine cRs (Ot (nth a0.ZC v1_0) a1) ?_
  refine cF e1 ?_ ?_ <;> intro k3 h2 e1
  ·have f := ms f e1
   exact rt [.tmp 4, .tmp 5] f
  exact ny1 w1 e1
 have f := ms f e1
 exact rt [.tmp 4, .tmp 5] f
theorem T6 (a0 : List ZU) (a1 : Int) : Sa 54 [rL 4 ZU.row a0, rI a1] [rI (Zz a0 a1)] := by
 have f := me (Zz.eq_1 a0 a1)
 refine so Tryz.func54 Tryz.ntmps54 ?_
 refine lp2 (JC.eq_2 a0 a1) (fun v1_0 v1_1 => YM 48 [eL 0 4 a0 ZU.row, eI 1 a1, eI 5 v1_0, eL 8 4 a0 ZU.row, eI 9 (↑a0.length : Int), eI 10 (↑v1_1 : Int)]) (fun n1 v1_0 v1_1 => a0.length < n1 + v1_1 ∧ v1_1 ≤ a0.length ∧ -1 ≤ v1_0 ∧ v1_0 < (a0.length : Int)) (a0.length + 1) (-1) 0 (fun p1 v1_0 v1_1 e1 j1 => ?_)
 try dsimp only at j1
 refine cFf e1 ?_ ?_ <;> intro k2 h1 e1
 ·have i1 := ix h1
  have m2 := ml a0 (k2 0 _ rfl)
  have w1 := wr v1_1
  simp [i1, ZD]
  repeat with_reducible refine sd ?_
  refine dIs mixed ?_
  refine gIf ?_ ?_ <;> intro G
  ·have i2 := ik v1_0.toNat a0
   simp [i2, ZD, G]
   repeat with_reducible refine sdg ?_
   refine cK e1 ?_ ?_ <;> intro k4 h2 e1
   ·try (simp [G] at h2; done)
    all_goals
     exact ny2 (an w1 G) e1 (hI := by first | omega | (simp at *; omega))
   ·try (simp [G] at h2; done)
    all_goals
     exact ny2 (an w1 G) e1 (hI := by first | omega | (simp at *; omega))
  ·refine cK e1 ?_ ?_ <;> intro k5 h3 e1
   ·try (simp [G] at h3; done)
    all_goals
     exact ny2 (an w1 G) e1 (hI := by first | omega | (simp at *; omega))
   ·try (simp [G] at h3; done)
    all_goals
     exact ny2 (an w1 G) e1 (hI := by first | omega | (simp at *; omega))
 have f := ms f e1
 refine cFt f ?_ ?_ <;> intro k6 h4 f
 ·exact rt [.tmp 4] f
 have i4 := ik v1_0.toNat a0
 simp [i4, ZD]
 repeat with_reducible refine sd ?_
 exact rt [.tmp 4] f
theorem Lh (a0 : List Int) (a1 : Int) : Sa 117 [rL 1 iR a0, rI a1] [rI (Wm a0 a1)] := by
 have f := me (Wm.eq_1 a0 a1)
 refine so Tryz.func117 Tryz.ntmps117 ?_
 refine lp1 (qI.eq_2 a0 a1) (fun v1_0 => YM 19 [eI 1 a1, eL 7 1 a0 iR, eI 8 (↑a0.length : Int), eI 9 (↑v1_0 : Int)]) (fun n1 v1_0 => a0.length < n1 + v1_0 ∧ v1_0 ≤ a0.length) (a0.length + 1) 0 (fun p1 v1_0 e1 j1 => ?_)
 refine cFf e1 ?_ ?_ <;> intro k2 h1 e1
 ·have i1 := ix h1
  have m2 := ml a0 (k2 7 _ rfl)
  have w1 := wr v1_0
  simp [i1, ZD]
  repeat with_reducible refine sd ?_
  refine cF e1 ?_ ?_ <;> intro k3 h2 e1
  ·have f := ms f e1
   exact rt [.tmp 4] f
  exact ny1 w1 e1
 have f := ms f e1
 exact rt [.tmp 4] f
theorem Th (a0 : List Int) (a1 : Int) : Sa 56 [rL 1 iR a0, rI a1] [rB (xq a0 a1)] := by
 have f := me (xq.eq_1 a0 a1)
 refine so Tryz.func56 Tryz.ntmps56 ?_
 refine cRs (Lh a0 a1) ?_
 exact rt [.tmp 4] f
theorem kD (a0 : List YD) (a1 : Int) : Sa 73 [rL 5 YD.row a0, rI a1] [rI (XK a0 a1)] := by
 have f := me (XK.eq_1 a0 a1)
 refine so Tryz.func73 Tryz.ntmps73 ?_
 refine lp1 (zJ.eq_2 a0 a1) (fun v1_0 => YM 20 [eI 1 a1, eL 7 5 a0 YD.row, eI 8 (↑a0.length : Int), eI 9 (↑v1_0 : Int)]) (fun n1 v1_0 => a0.length < n1 + v1_0 ∧ v1_0 ≤ a0.length) (a0.length + 1) 0 (fun p1 v1_0 e1 j1 => ?_)
 refine cFf e1 ?_ ?_ <;> intro k2 h1 e1
 ·have i1 := ix h1
  have m2 := ml a0 (k2 7 _ rfl)
  have w1 := wr v1_0
  simp [i1, ZD]
  repeat with_reducible refine sd ?_
  refine cF e1 ?_ ?_ <;> intro k3 h2 e1
  ·have f := ms f e1
   exact rt [.tmp 4] f
  exact ny1 w1 e1
 have f := ms f e1
 exact rt [.tmp 4] f
theorem Sp (a0 : List ZU) (a1 : Int) : Sa 221 [rL 4 ZU.row a0, rI a1] [rI (Qy a0 a1)] := by
 have f := me (Qy.eq_1 a0 a1)
 refine so Tryz.func221 Tryz.ntmps221 ?_
 refine lp1 (JI.eq_2 a0 a1) (fun v1_0 => YM 20 [eI 1 a1, eL 7 4 a0 ZU.row, eI 8 (↑a0.length : Int), eI 9 (↑v1_0 : Int)]) (fun n1 v1_0 => a0.length < n1 + v1_0 ∧ v1_0 ≤ a0.length) (a0.length + 1) 0 (fun p1 v1_0 e1 j1 => ?_)
 refine cFf e1 ?_ ?_ <;> intro k2 h1 e1
 ·have i1 := ix h1
  have m2 := ml a0 (k2 7 _ rfl)
  have w1 := wr v1_0
  simp [i1, ZD]
  repeat with_reducible refine sd ?_
  refine cF e1 ?_ ?_ <;> intro k3 h2 e1
  ·have f := ms f e1
   exact rt [.tmp 4] f
  exact ny1 w1 e1
 have f := ms f e1
 exact rt [.tmp 4] f
theorem MW (a0 : List ZU) (a1 : Int) : Sa 199 [rL 4 ZU.row a0, rI a1] [rI (jN a0 a1)] := by
 have f := me (jN.eq_1 a0 a1)
 refine so Tryz.func199 Tryz.ntmps199 ?_
 refine cRs (Sp a0 a1) ?_
 refine cFf f ?_ ?_ <;> intro k1 h1 f
 ·have i1 : (Qy a0 a1).toNat < a0.length := by have := Sl a0 a1; exact il
  simp [i1, ZD]
  repeat with_reducible refine sd ?_
  exact rt [.tmp 4] f
 exact rt [.tmp 4] f
theorem SG (a0 : Z4) (a1 : Int) : Sa 164 [a0.row, rI a1] [rI (xV a0 a1)] := by
 have f := me (xV.eq_1 a0 a1)
 refine so Tryz.func164 Tryz.ntmps164 ?_
 refine cRs (kD a0.YR a1) ?_
 refine cF f ?_ ?_ <;> intro k1 h1 f
 ·exact rt [.tmp 4] f
 refine dIo mixed ?_
 have i1 : (XK a0.YR a1).toNat < a0.YR.length := by have := V5 a0.YR a1; exact il
 simp [i1, ZD]
 repeat with_reducible refine sd ?_
 refine cRs (MW a0.Methods (nth a0.YR (XK a0.YR a1).toNat).Method) ?_
 exact rt [.tmp 4] f
theorem NL (a0 : Z4) (a1 : Int) : Sa 116 [a0.row, rI a1] [rB (xv a0 a1)] := by
 have f := me (xv.eq_1 a0 a1)
 refine so Tryz.func116 Tryz.ntmps116 ?_
 refine dIs mixed ?_
 refine cRs (kD a0.YR a1) ?_
 refine cGs (fun gg => (SG a0 a1)) ?_
 exact rt [.tmp 4] f
theorem kW (a0 : Zc) (u0 : Sm 2326528 a0) : Sd 55 [a0.row] [rL 1 iR (Zo a0)] := by
 have f := me (Zo.eq_1 a0)
 refine soD Tryz.func55 Tryz.ntmps55 ?_
 refine lp2 (Ym.eq_2 a0) (fun v1_0 v1_1 => YM 33 [eX 1 (a0.row.map .d), (3, .one (.sref 3 0 0 v1_0.length), [.arr false 1 (v1_0.map iR)]), eL 8 3 a0.Frame.ZL ZI.row, eI 9 (↑a0.Frame.ZL.length : Int), eI 10 (↑v1_1 : Int)]) (fun n1 v1_0 v1_1 => a0.Frame.ZL.length < n1 + v1_1 ∧ v1_1 ≤ a0.Frame.ZL.length ∧ v1_0.length ≤ 0 + 1 * v1_1) (a0.Frame.ZL.length + 1) ([] : List Int) 0 (fun p1 v1_0 v1_1 e1 j1 => ?_) (h0 := Yq [((3, 0), none)] [] rfl (by simp))
 refine cFf e1 ?_ ?_ <;> intro k2 h1 e1
 ·have i1 := ix h1
  have m2 := ml a0.Frame.ZL (k2 8 _ rfl)
  have c1 := sl 2326528 a0.Frame.ZL u0
  have w1 := wr v1_1
  simp [i1, ZD]
  repeat with_reducible refine sd ?_
  refine cRs (Th a0.YX (nth a0.Frame.ZL v1_1).Id) ?_
  refine cGs (fun gg => (NL a0.Frame (nth a0.Frame.ZL v1_1).Key)) ?_
  refine cF e1 ?_ ?_ <;> intro k3 h2 e1
  ·exact nx2 e1 (hw := Yq [((3, 0), some (30, 0))] [] rfl (by simp [w1]))
  exact ny2 w1 e1
 have c2 := sl 2326528 a0.Frame.ZL u0
 have f := ms f e1
 exact rtD [.tmp 2] f
theorem WY (a0 : ZX) : Sd 123 [a0.row] [rL 1 iR (Xs a0)] := by
 have f := me (Xs.eq_1 a0)
 refine soD Tryz.func123 Tryz.ntmps123 ?_
 exact rtD [.tmp 2] f
theorem Jg (a0 : Int) (a1 : Int) (a2 : Int) : Sa 70 [rI a0, rI a1, rI a2] [rB (YZ a0 a1 a2)] := by
 have f := me (YZ.eq_1 a0 a1 a2)
 refine so Tryz.func70 Tryz.ntmps70 ?_
 exact rt [.tmp 6] f
theorem EP (a0 : Int) (a1 : Int) : Sa 222 [rI a0, rI a1] [rI (IK a0 a1)] := by
 have f := me (IK.eq_1 a0 a1)
 refine so Tryz.func222 Tryz.ntmps222 ?_
 refine cRs (Jg a1 1 1000000000000) ?_
 refine cFo f ?_ ?_ <;> intro k1 h1 f
 ·have q1 := h1; try simp [YZ] at q1
  simp
  exact rt [.tmp 4] f
 have q1 := h1; try simp [YZ] at q1
 simp
 repeat with_reducible refine sd ?_
 exact rt [.tmp 4] f
theorem NR (a0 : List Int) : Sa 200 [rL 1 iR a0] [rI (U8 a0)] := by
 have f := me (U8.eq_1 a0)
 refine so Tryz.func200 Tryz.ntmps200 ?_
 refine lp2 (WB.eq_2 a0) (fun v1_0 v1_1 => YM 21 [eI 3 v1_0, eL 6 1 a0 iR, eI 7 (↑a0.length : Int), eI 8 (↑v1_1 : Int)]) (fun n1 v1_0 v1_1 => a0.length < n1 + v1_1 ∧ v1_1 ≤ a0.length) (a0.length + 1) 11 0 (fun p1 v1_0 v1_1 e1 j1 => ?_)
 refine cFf e1 ?_ ?_ <;> intro k2 h1 e1
 ·have i1 := ix h1
  have m2 := ml a0 (k2 6 _ rfl)
  have w1 := wr v1_1
  simp [i1, ZD]
  repeat with_reducible refine sd ?_
  refine cRs (EP (nth a0 v1_1) 2147483647) ?_
  exact ny2 w1 e1
 have f := ms f e1
 exact rt [.tmp 2] f
theorem Jq (a0 : Int) (a1 : List Int) (u0 : Sm 68719476736 a1) : Sa 165 [rI a0, rL 1 iR a1] [rI (Q8 a0 a1)] := by
 have f := me (Q8.eq_1 a0 a1)
 have c1 := sl 68719476736 a1 u0
 refine so Tryz.func165 Tryz.ntmps165 ?_
 refine cRs (NR (([7, a0] : List Int) ++ a1)) ?_
 exact rt [.tmp 4] f
theorem VN (a0 : Int) (a1 : ZF) (u0 : Sm 2326528 a1) : Sa 118 [rI a0, a1.row] [rI (Qe a0 a1)] := by
 have f := me (Qe.eq_1 a0 a1)
 refine so Tryz.func118 Tryz.ntmps118 ?_
 refine lp2 (Xu.eq_2 a1) (fun v1_0 v1_1 => YM 59 [eI 0 a0, eX 3 (a1.row.map .d), (5, .one (.sref 5 0 0 v1_0.length), [.arr false 1 (v1_0.map iR)]), eL 19 2 a1.Path Zq.row, eI 20 (↑a1.Path.length : Int), eI 21 (↑v1_1 : Int)]) (fun n1 v1_0 v1_1 => a1.Path.length < n1 + v1_1 ∧ v1_1 ≤ a1.Path.length ∧ v1_0.length ≤ 4 + 2 * v1_1) (a1.Path.length + 1) ([4, a1.Count, a1.Method, a1.V4] : List Int) 0 (fun p1 v1_0 v1_1 e1 j1 => ?_) (h0 := Yq [((5, 0), some (17, 0))] [] rfl (by simp))
 refine cFo e1 ?_ ?_ <;> intro k2 h1 e1
 ·have q1 := h1; try simp at q1
  have i1 := ix h1
  have m2 := ml a1.Path (k2 19 _ rfl)
  have c1 := sl 2326528 a1.Path u0
  have w1 := wr v1_1
  simp [i1, ZD]
  repeat with_reducible refine sd ?_
  refine cFo e1 ?_ ?_ <;> intro k3 h2 e1
  ·have q2 := h2; try simp at q2
   simp
   repeat with_reducible refine sd ?_
   exact nx2 e1 (hw := Yq [((5, 0), some (32, 0))] [] rfl (by simp [w1]))
  have q2 := h2; try simp at q2
  simp
  repeat with_reducible refine sd ?_
  exact nx2 e1 (hw := Yq [((5, 0), some (32, 0))] [] rfl (by simp [w1]))
 have q1 := h1; try simp at q1
 have c2 := sl 2326528 a1.Path u0
 have f := ms f e1
 simp
 repeat with_reducible refine sd ?_
 refine lp2 (Qk.eq_2 a1) (fun v2_0 v2_1 => YM 59 [eI 0 a0, (5, .one (.sref 5 0 0 v2_0.length), [.arr false 1 (v2_0.map iR)]), eL 41 5 a1.Zv ZX.row, eI 42 (↑a1.Zv.length : Int), eI 43 (↑v2_1 : Int)]) (fun n2 v2_0 v2_1 => a1.Zv.length < n2 + v2_1 ∧ v2_1 ≤ a1.Zv.length ∧ v2_0.length ≤ 5 + 2 * 2326528 + 6 * v2_1) (a1.Zv.length + 1) (v1_0 ++ ([(↑a1.Zv.length : Int)] : List Int)) 0 (fun p2 v2_0 v2_1 e2 j2 => ?_) (hI := by (have o : a1.Path.length ≤ 2326528 := JQ (by simp (maxDischargeDepth := 12) [u0]); simp at *; omega)) (h0 := Yq [((5, 0), some (39, 0))] [] rfl (by simp))
 try dsimp only at j2
 refine cFo e2 ?_ ?_ <;> intro k5 h3 e2
 ·have q3 := h3; try simp at q3
  have i2 := ix h3
  have m4 := ml a1.Zv (k5 41 _ rfl)
  have c3 := sl 2326528 a1.Zv u0
  have w2 := wr v2_1
  simp [i2, ZD]
  repeat with_reducible refine sd ?_
  refine dIs mixed ?_
  refine cRs (Xf.rd (WY (nth a1.Zv v2_1))) ?_
  exact nx2 e2 (hI := by (simp; omega)) (hw := Yq [((5, 0), some (54, 0))] [] rfl (by simp [w2]))
 have q3 := h3; try simp at q3
 have c4 := sl 2326528 a1.Zv u0
 have f := ms f e2
 simp
 refine cRs (Jq a0 v2_0 (by first | (simp (maxDischargeDepth := 12) [X0]; omega) | (simp (maxDischargeDepth := 12) [YO (m := 68719476736) (by decide) u0]; done))) ?_
 exact rt [.tmp 4] f
theorem Sh (a0 : ZT) : Sa 167 [a0.row] [rB (Jj a0)] := by
 have f := me (Jj.eq_1 a0)
 refine so Tryz.func167 Tryz.ntmps167 ?_
 refine cRs (Jg a0.Ka 0 999) ?_
 refine cGs (fun gg => (Jg (↑a0.ZE.length : Int) 1 6)) ?_
 refine cFo f ?_ ?_ <;> intro k1 h1 f
 ·have q1 := h1; try simp [YZ] at q1
  simp
  exact rt [.tmp 2] f
 have q1 := h1; try simp [YZ] at q1
 simp
 refine lp1 (JA.eq_2 a0) (fun v1_0 => YM 46 [eX 1 (a0.row.map .d), eL 26 1 a0.ZE sR, eI 27 (↑a0.ZE.length : Int), eI 28 (↑v1_0 : Int)]) (fun n1 v1_0 => a0.ZE.length < n1 + v1_0 ∧ v1_0 ≤ a0.ZE.length) (a0.ZE.length + 1) 0 (fun p1 v1_0 e1 j1 => ?_)
 refine cFf e1 ?_ ?_ <;> intro k3 h2 e1
 ·have i1 := ix h2
  have m2 := ml a0.ZE (k3 26 _ rfl)
  have w1 := wr v1_0
  simp [i1, ZD]
  repeat with_reducible refine sd ?_
  refine gIf ?_ ?_ <;> intro G
  ·have i2 := ik v1_0 a0.ZG
   simp [i2, ZD, G]
   repeat with_reducible refine sdg ?_
   refine cGg (fun gg => (Jg (nth a0.ZG v1_0) 1 1000000000000)) ?_
   refine cKo e1 ?_ ?_ <;> intro k4 h3 e1
   ·try (simp [G] at h3; done)
    all_goals
     have q3 := h3; try simp [YZ] at q3
     have f := ms f e1
     simp [G]
     repeat with_reducible refine sdg ?_
     exact rtg [.tmp 2] f
   ·try (simp [G] at h3; done)
    all_goals
     have q3 := h3; try simp [YZ] at q3
     simp [G]
     repeat with_reducible refine sdg ?_
     exact ny1 (an w1 G) e1
  ·refine sGo ?_
   simp [G]
   repeat with_reducible refine sdg ?_
   refine cKo e1 ?_ ?_ <;> intro k5 h4 e1
   ·try (simp [G] at h4; done)
    all_goals
     have q4 := h4; try simp [YZ] at q4
     have f := ms f e1
     simp [G]
     repeat with_reducible refine sdg ?_
     exact rtg [.tmp 2] f
   ·try (simp [G] at h4; done)
    all_goals
     have q4 := h4; try simp [YZ] at q4
     simp [G]
     repeat with_reducible refine sdg ?_
     exact ny1 (an w1 G) e1
 have f := ms f e1
 exact rt [.tmp 2] f
theorem LL (a0 : List UInt8) (u0 : Sm 2342912 a0) : Sd 201 [rL 1 bR a0] [rL 1 iR (z3 a0)] := by
 have f := me (z3.eq_1 a0)
 refine soD Tryz.func201 Tryz.ntmps201 ?_
 refine lp2 (J7.eq_2 a0) (fun v1_0 v1_1 => YM 19 [(3, .one (.sref 3 0 0 v1_0.length), [.arr false 1 (v1_0.map iR)]), eL 6 1 a0 bR, eI 7 (↑a0.length : Int), eI 8 (↑v1_1 : Int)]) (fun n1 v1_0 v1_1 => a0.length < n1 + v1_1 ∧ v1_1 ≤ a0.length ∧ v1_0.length ≤ 0 + 1 * v1_1) (a0.length + 1) ([] : List Int) 0 (fun p1 v1_0 v1_1 e1 j1 => ?_) (h0 := Yq [((3, 0), none)] [] rfl (by simp))
 refine cFf e1 ?_ ?_ <;> intro k2 h1 e1
 ·have i1 := ix h1
  have m2 := ml a0 (k2 6 _ rfl)
  have c1 := sl 2342912 a0 u0
  have w1 := wr v1_1
  simp [i1, ZD]
  repeat with_reducible refine sd ?_
  exact nx2 e1 (hw := Yq [((3, 0), some (16, 0))] [] rfl (by simp [w1]))
 have c2 := sl 2342912 a0 u0
 have f := ms f e1
 exact rtD [.tmp 2] f
theorem S4 (a0 : Int) (a1 : ByteArray) (a2 : Int) (u0 : Sm 2326528 a1) : Sa 168 [rI a0, rS a1, rI a2] [rI (zn a0 a1 a2)] := by
 have f := me (zn.eq_1 a0 a1 a2)
 refine so Tryz.func168 Tryz.ntmps168 ?_
 have c1 : a1.size ≤ 2326528 := MR (by simp (maxDischargeDepth := 12) [u0])
 refine Eo (s := a1) rfl rfl rfl (by simp) (by simp) (by simp) (by simp) (by omega) ?_
 simp
 refine cRs (Xf.rd (LL a1.data.toList (by simp [X0]; first | omega | (simp [ByteArray.size] at *; omega)))) ?_
 refine cRs (Jq a0 (([a2] : List Int) ++ (z3 a1.data.toList)) (by simp (maxDischargeDepth := 12) [z8, X0, YO (m := 68719476736) (by decide) u0]; try omega)) ?_
 exact rt [.tmp 6] f
theorem WJ (a0 : Int) (a1 : ZT) (u0 : Sm 2322432 a1) : Sa 120 [rI a0, a1.row] [rI (Xd a0 a1)] := by
 have f := me (Xd.eq_1 a0 a1)
 refine so Tryz.func120 Tryz.ntmps120 ?_
 refine cRs (Sh a1) ?_
 refine cF f ?_ ?_ <;> intro k1 h1 f
 ·exact rt [.tmp 4] f
 refine lp2 (Ki.eq_2 a0 a1) (fun v1_0 v1_1 => YM 37 [eI 0 a0, eX 3 (a1.row.map .d), (5, .one (.sref 5 0 0 v1_0.length), [.arr false 1 (v1_0.map iR)]), eL 15 1 a1.ZE sR, eI 16 (↑a1.ZE.length : Int), eI 17 (↑v1_1 : Int)]) (fun n1 v1_0 v1_1 => a1.ZE.length < n1 + v1_1 ∧ v1_1 ≤ a1.ZE.length ∧ v1_0.length ≤ 1 + 1 * v1_1) (a1.ZE.length + 1) ([a1.Ka] : List Int) 0 (fun p1 v1_0 v1_1 e1 j1 => ?_) (h0 := Yq [((5, 0), some (13, 0))] [] rfl (by simp))
 try dsimp only at j1
 refine cFf e1 ?_ ?_ <;> intro k3 h2 e1
 ·have i1 := ix h2
  have m2 := ml a1.ZE (k3 15 _ rfl)
  have c1 := sl 2322432 a1.ZE u0
  have w1 := wr v1_1
  have i2 : v1_1 < a1.ZG.length := by (have := TF (a := a1); first | (simp_all; done) | (simp_all; omega))
  simp [i1, ZD, i2]
  repeat with_reducible refine sd ?_
  refine cRs (S4 a0 (nth a1.ZE v1_1) (nth a1.ZG v1_1) (sg (QU (ZT.Us u0)))) ?_
  exact nx2 e1 (hw := Yq [((5, 0), some (32, 0))] [] rfl (by simp [w1]))
 have c2 := sl 2322432 a1.ZE u0
 have f := ms f e1
 refine cRs (Jq a0 v1_0 (by first | (simp (maxDischargeDepth := 12) [X0]; omega) | (simp (maxDischargeDepth := 12) [YO (m := 68719476736) (by decide) u0]; done))) ?_
 exact rt [.tmp 4] f
theorem Ua (a0 : Int) (a1 : List ZO) (u0 : Sm 2326528 a1) : Sa 166 [rI a0, rL 3 ZO.row a1] [rI (JK a0 a1)] := by
 have f := me (JK.eq_1 a0 a1)
 refine so Tryz.func166 Tryz.ntmps166 ?_
 refine lp2 (JF.eq_2 a0 a1) (fun v1_0 v1_1 => YM 32 [eI 0 a0, (5, .one (.sref 5 0 0 v1_0.length), [.arr false 1 (v1_0.map iR)]), eL 9 3 a1 ZO.row, eI 10 (↑a1.length : Int), eI 11 (↑v1_1 : Int)]) (fun n1 v1_0 v1_1 => a1.length < n1 + v1_1 ∧ v1_1 ≤ a1.length ∧ v1_0.length ≤ 1 + 1 * v1_1) (a1.length + 1) ([2] : List Int) 0 (fun p1 v1_0 v1_1 e1 j1 => ?_) (h0 := Yq [((5, 0), some (8, 0))] [] rfl (by simp))
 refine cFf e1 ?_ ?_ <;> intro k2 h1 e1
 ·have i1 := ix h1
  have m2 := ml a1 (k2 9 _ rfl)
  have c1 := sl 2326528 a1 u0
  have w1 := wr v1_1
  have c2 := sl 2326528 (nth a1 v1_1).Ye u0
  simp [i1, ZD]
  repeat with_reducible refine sd ?_
  refine cRs (Jq a0 (([(nth a1 v1_1).Key, (nth a1 v1_1).Mark] : List Int) ++ (nth a1 v1_1).Ye) (by simp (maxDischargeDepth := 12) [z8, X0, YO (m := 68719476736) (by decide) u0]; try omega)) ?_
  exact nx2 e1 (hw := Yq [((5, 0), some (27, 0))] [] rfl (by simp [w1]))
 have c3 := sl 2326528 a1 u0
 have f := ms f e1
 refine cRs (Jq a0 v1_0 (by first | (simp (maxDischargeDepth := 12) [X0]; omega) | (simp (maxDischargeDepth := 12) [YO (m := 68719476736) (by decide) u0]; done))) ?_
 exact rt [.tmp 4] f
theorem Tq (a0 : Int) (a1 : Int) (a2 : List ZO) (a3 : Int) (u0 : Sm 2322432 a2) : Sa 119 [rI a0, rI a1, rL 3 ZO.row a2, rI a3] [rI (jK a0 a1 a2 a3)] := by
 have f := me (jK.eq_1 a0 a1 a2 a3)
 refine so Tryz.func119 Tryz.ntmps119 ?_
 refine cRs (Ua a0 a2 (sg u0)) ?_
 refine cRs (Jq a0 ([3, a1, (JK a0 a2), a3] : List Int) (by simp (maxDischargeDepth := 12) [z8, X0, YO (m := 68719476736) (by decide) u0]; try omega)) ?_
 exact rt [.tmp 8] f
theorem MB (a0 : Zb) (a1 : Int) (u0 : Sm 2318336 a0) : Sa 57 [a0.row, rI a1] [rI (Yy a0 a1)] := by
 have f := me (Yy.eq_1 a0 a1)
 refine so Tryz.func57 Tryz.ntmps57 ?_
 refine cFf f ?_ ?_ <;> intro k1 h1 f
 ·have i1 := ik (a0.ZK.ZV.length - 1) a0.ZK.ZV
  have m1 := ml a0.ZK.ZV (k1 9 _ rfl)
  have w1 : IntKind.i64.wrap ((a0.ZK.ZV.length : Int) - 1) = (a0.ZK.ZV.length : Int) - 1 := Za (by omega) (by omega)
  simp [i1, ZD, w1, VT]
  repeat with_reducible refine sd ?_
  refine cRs (VN a1 (nth a0.ZK.ZV (a0.ZK.ZV.length - 1)) (sg (QU (ZY.yp (Zb.zI u0))))) ?_
  refine dIs mixed ?_
  refine cRs (WJ a1 a0.Doc (sg (Zb.U3 u0))) ?_
  refine cRs (Tq a1 (Xd a1 a0.Doc) a0.ZK.ZR (Qe a1 (nth a0.ZK.ZV (a0.ZK.ZV.length - 1))) (sg (ZY.jF (Zb.zI u0)))) ?_
  exact rt [.tmp 4] f
 refine dIs mixed ?_
 refine cRs (WJ a1 a0.Doc (sg (Zb.U3 u0))) ?_
 refine cRs (Tq a1 (Xd a1 a0.Doc) a0.ZK.ZR 0 (sg (ZY.jF (Zb.zI u0)))) ?_
 exact rt [.tmp 4] f
theorem VL (a0 : List ZI) (a1 : Int) : Sa 72 [rL 3 ZI.row a0, rI a1] [rI (Yo a0 a1)] := by
 have f := me (Yo.eq_1 a0 a1)
 refine so Tryz.func72 Tryz.ntmps72 ?_
 refine lp1 (Xy.eq_2 a0 a1) (fun v1_0 => YM 20 [eI 1 a1, eL 7 3 a0 ZI.row, eI 8 (↑a0.length : Int), eI 9 (↑v1_0 : Int)]) (fun n1 v1_0 => a0.length < n1 + v1_0 ∧ v1_0 ≤ a0.length) (a0.length + 1) 0 (fun p1 v1_0 e1 j1 => ?_)
 refine cFf e1 ?_ ?_ <;> intro k2 h1 e1
 ·have i1 := ix h1
  have m2 := ml a0 (k2 7 _ rfl)
  have w1 := wr v1_0
  simp [i1, ZD]
  repeat with_reducible refine sd ?_
  refine cF e1 ?_ ?_ <;> intro k3 h2 e1
  ·have f := ms f e1
   exact rt [.tmp 4] f
  exact ny1 w1 e1
 have f := ms f e1
 exact rt [.tmp 4] f
theorem L1 (a0 : Int) : Sa 121 [rI a0] [rB (US a0)] := by
 have f := me (US.eq_1 a0)
 refine so Tryz.func121 Tryz.ntmps121 ?_
 refine cRs (Jg a0 0 10000) ?_
 exact rt [.tmp 2] f
theorem P5 (a0 : Int) (a1 : List Int) (u0 : Sm 2330624 a1) : Sa 202 [rI a0, rL 1 iR a1] [rI (yr a0 a1)] := by
 have f := me (yr.eq_1 a0 a1)
 have c1 := sl 2330624 a1 u0
 refine so Tryz.func202 Tryz.ntmps202 ?_
 refine cRs (NR ((([a0] : List Int) ++ a1) ++ ([a0] : List Int))) ?_
 exact rt [.tmp 4] f
theorem Og (a0 : YD) (a1 : List Int) (u0 : Sm 2326528 a1) : Sa 169 [a0.row, rL 1 iR a1] [rI (qG a0 a1)] := by
 have f := me (qG.eq_1 a0 a1)
 refine so Tryz.func169 Tryz.ntmps169 ?_
 refine Pt [2, 3, 4, 5, 6, 0, 1, 7, 8] mixed (by kernel_rfl) (by kernel_rfl) (by kernel_rfl) ?_
 have c1 := sl 2326528 a1 u0
 simp
 repeat with_reducible refine sd ?_
 refine cRs (P5 a0.Kb (([a0.Method] : List Int) ++ a1) (by simp (maxDischargeDepth := 12) [z8, X0, YO (m := 2330624) (by decide) u0]; try omega)) ?_
 exact rt [.tmp 4] f
theorem Lz (a0 : List YD) (a1 : Int) (a2 : List Int) (u0 : Sm 2322432 a0) (u1 : Sm 2322432 a2) : Sa 122 [rL 5 YD.row a0, rI a1, rL 1 iR a2] [rI (jb a0 a1 a2).1, rB (jb a0 a1 a2).2] := by
 have f := me (jb.eq_1 a0 a1 a2)
 refine so Tryz.func122 Tryz.ntmps122 ?_
 refine cRs (kD a0 a1) ?_
 refine cFt f ?_ ?_ <;> intro k1 h1 f
 ·exact rt [.tmp 6, .tmp 7] f
 have i1 : (XK a0 a1).toNat < a0.length := by have := V5 a0 a1; exact il
 simp [i1, ZD]
 repeat with_reducible refine sd ?_
 refine cRs (Og (nth a0 (XK a0 a1).toNat) a2 (sg u1)) ?_
 exact rt [.tmp 6, .tmp 7] f
theorem Rv (a0 : List YD) (a1 : List ZI) (a2 : ZX) (u0 : Sm 2318336 a0) (u1 : Sm 2318336 a1) : Sa 58 [rL 5 YD.row a0, rL 3 ZI.row a1, a2.row] [(JX a0 a1 a2).1.row, rB (JX a0 a1 a2).2] := by
 have f := me (JX.eq_1 a0 a1 a2)
 refine so Tryz.func58 Tryz.ntmps58 ?_
 refine cRs (VL a1 a2.Authority) ?_
 refine cGs (fun gg => (L1 a2.Time)) ?_
 refine cF f ?_ ?_ <;> intro k1 h1 f
 ·exact rt [.cell 6 98, .tmp 7] f
 refine dIo mixed ?_
 have i1 : (Yo a1 a2.Authority).toNat < a1.length := by have := VH a1 a2.Authority; exact il
 simp [i1, ZD]
 repeat with_reducible refine sd ?_
 refine cRs (Xf.rd (WY a2)) ?_
 refine cRs (Lz a0 (nth a1 (Yo a1 a2.Authority).toNat).Key (Xs a2) (sg u0) (by simp (maxDischargeDepth := 12) [Ps, YO (m := 2322432) (by decide) u0, YO (m := 2322432) (by decide) u1]; try omega)) ?_
 refine cF f ?_ ?_ <;> intro k3 h2 f
 ·exact rt [.cell 6 98, .tmp 7] f
 exact rt [.cell 6 98, .tmp 7] f
theorem PS (a0 : List Int) (a1 : List Int) : Sa 223 [rL 1 iR a0, rL 1 iR a1] [rB (qf a0 a1)] := by
 have f := me (qf.eq_1 a0 a1)
 refine so Tryz.func223 Tryz.ntmps223 ?_
 refine cF f ?_ ?_ <;> intro k1 h1 f
 ·exact rt [.tmp 4] f
 refine lp1 (yi.eq_2 a0 a1) (fun v1_0 => YM 26 [eL 0 1 a0 iR, eL 1 1 a1 iR, eI 12 (↑a0.length : Int), eI 13 (↑v1_0 : Int)]) (fun n1 v1_0 => a0.length < n1 + v1_0 ∧ v1_0 ≤ a0.length) (a0.length + 1) 0 (fun p1 v1_0 e1 j1 => ?_)
 refine cF e1 ?_ ?_ <;> intro k3 h2 e1
 ·have i1 := ix h2
  have m2 := ml a0 (k3 0 _ rfl)
  have w1 := wr v1_0
  refine dIo mixed ?_
  have i2 := ik v1_0 a1
  simp [i1, ZD, i2]
  repeat with_reducible refine sd ?_
  refine cF e1 ?_ ?_ <;> intro k5 h3 e1
  ·have f := ms f e1
   exact rt [.tmp 4] f
  exact ny1 w1 e1
 have f := ms f e1
 exact rt [.tmp 4] f
theorem TD (a0 : ZO) (a1 : ZO) : Sa 204 [a0.row, a1.row] [rB (Kh a0 a1)] := by
 have f := me (Kh.eq_1 a0 a1)
 refine so Tryz.func204 Tryz.ntmps204 ?_
 refine cGs (fun gg => (PS a0.Ye a1.Ye)) ?_
 exact rt [.tmp 4] f
theorem OK (a0 : List ZO) (a1 : ZO) : Sa 172 [rL 3 ZO.row a0, a1.row] [rB (xz a0 a1)] := by
 have f := me (xz.eq_1 a0 a1)
 refine so Tryz.func172 Tryz.ntmps172 ?_
 refine lp1 (xb.eq_2 a0 a1) (fun v1_0 => YM 17 [eX 3 (a1.row.map .d), eL 7 3 a0 ZO.row, eI 8 (↑a0.length : Int), eI 9 (↑v1_0 : Int)]) (fun n1 v1_0 => a0.length < n1 + v1_0 ∧ v1_0 ≤ a0.length) (a0.length + 1) 0 (fun p1 v1_0 e1 j1 => ?_)
 refine cFf e1 ?_ ?_ <;> intro k2 h1 e1
 ·have i1 := ix h1
  have m2 := ml a0 (k2 7 _ rfl)
  have w1 := wr v1_0
  simp [i1, ZD]
  repeat with_reducible refine sd ?_
  refine cRs (TD (nth a0 v1_0) a1) ?_
  refine cF e1 ?_ ?_ <;> intro k3 h2 e1
  ·have f := ms f e1
   exact rt [.tmp 4] f
  exact ny1 w1 e1
 have f := ms f e1
 exact rt [.tmp 4] f
theorem OO (a0 : ZY) : Sa 126 [a0.row] [rB (qD a0)] := by
 have f := me (qD.eq_1 a0)
 refine so Tryz.func126 Tryz.ntmps126 ?_
 refine cRs (Jg (↑a0.ZR.length : Int) 1 12) ?_
 refine cFo f ?_ ?_ <;> intro k1 h1 f
 ·have q1 := h1; try simp [YZ] at q1
  simp
  exact rt [.tmp 2] f
 have q1 := h1; try simp [YZ] at q1
 simp
 refine lp1 (zQ.eq_2 a0) (fun v1_0 => YM 65 [eX 1 (a0.row.map .d), eL 19 3 a0.ZR ZO.row, eI 20 (↑a0.ZR.length : Int), eI 21 (↑v1_0 : Int)]) (fun n1 v1_0 => a0.ZR.length < n1 + v1_0 ∧ v1_0 ≤ a0.ZR.length) (a0.ZR.length + 1) 0 (fun p1 v1_0 e1 j1 => ?_)
 refine cFf e1 ?_ ?_ <;> intro k3 h2 e1
 ·have i1 := ix h2
  have m2 := ml a0.ZR (k3 19 _ rfl)
  have w1 := wr v1_0
  simp [i1, ZD]
  repeat with_reducible refine sd ?_
  refine dIs mixed ?_
  refine cRs (OK (a0.ZR.take v1_0) (nth a0.ZR v1_0)) ?_
  refine cF e1 ?_ ?_ <;> intro k5 h3 e1
  ·have f := ms f e1
   exact rt [.tmp 2] f
  exact ny1 w1 e1
 have f := ms f e1
 refine lp1 (ze.eq_2 a0) (fun v2_0 => YM 65 [eX 1 (a0.row.map .d), eL 34 5 a0.ZV ZF.row, eI 35 (↑a0.ZV.length : Int), eI 36 (↑v2_0 : Int)]) (fun n2 v2_0 => a0.ZV.length < n2 + v2_0 ∧ v2_0 ≤ a0.ZV.length) (a0.ZV.length + 1) 0 (fun p2 v2_0 e2 j2 => ?_)
 refine cFf e2 ?_ ?_ <;> intro k7 h4 e2
 ·have i2 := ix h4
  have m4 := ml a0.ZV (k7 34 _ rfl)
  have w2 := wr v2_0
  simp [i2, ZD]
  repeat with_reducible refine sd ?_
  refine dIs mixed ?_
  refine cRs (Jg (nth a0.ZV v2_0).Count 1 (↑a0.ZR.length : Int)) ?_
  refine gIf ?_ ?_ <;> intro G
  ·have i3 := ik (v2_0 - 1) a0.ZV
   have w3 : IntKind.i64.wrap ((v2_0 : Int) - 1) = (v2_0 : Int) - 1 := Za (by omega) (by omega)
   simp [i3, ZD, w3, VT, G]
   repeat with_reducible refine sdg ?_
   refine cKo e2 ?_ ?_ <;> intro k9 h5 e2
   ·try (simp [G] at h5; done)
    all_goals
     have q5 := h5; try simp [YZ] at q5
     have f := ms f e2
     simp [G]
     repeat with_reducible refine sdg ?_
     exact rtg [.tmp 2] f
   ·try (simp [G] at h5; done)
    all_goals
     have q5 := h5; try simp [YZ] at q5
     simp [G]
     repeat with_reducible refine sdg ?_
     exact ny1 (an w2 (an w3 G)) e2
  ·refine cKo e2 ?_ ?_ <;> intro k10 h6 e2
   ·try (simp [G] at h6; done)
    all_goals
     have q6 := h6; try simp [YZ] at q6
     have f := ms f e2
     simp [G]
     repeat with_reducible refine sdg ?_
     exact rtg [.tmp 2] f
   ·try (simp [G] at h6; done)
    all_goals
     have q6 := h6; try simp [YZ] at q6
     simp [G]
     repeat with_reducible refine sdg ?_
     exact ny1 (an w2 G) e2
 have f := ms f e2
 exact rt [.tmp 2] f
theorem T8 (a0 : ZY) (a1 : ZF) (u0 : Sm 2326528 a0) (u1 : Sm 2326528 a1) : Sd 59 [a0.row, a1.row] [(XE a0 a1).1.row, rB (XE a0 a1).2] := by
 have f := me (XE.eq_1 a0 a1)
 refine soD Tryz.func59 Tryz.ntmps59 ?_
 refine cDs [] (yC a0 (sg u0)) ?_
 refine W6 [14] mixed (by kernel_rfl) (by kernel_rfl) ?_
 simp
 refine cDs [true, true, true, false, false] (qe a1 (sg u1)) ?_
 refine Of rfl rfl rfl (by simp) (by simp) (by simp) ?_
 have c1 := sl 2326528 a0.ZV (an u0 u1)
 simp
 refine O9 (olds := (a0.ZV.map ZF.row)) (news := (([a1] : List ZF).map ZF.row)) (l1 := [(8, 1)]) (l2 := [(12, 3), (12, 4)]) (size := 5) rfl rfl rfl rfl (by simp) (by simp) (by simp) (by simp) (by simp) (by simp; omega) ?_
 simp
 refine cRs (OO (ZY.mk a0.ZR (a0.ZV ++ ([a1] : List ZF)))) ?_
 refine cF f ?_ ?_ <;> intro k2 h1 f
 ·refine cDs [] (yC a0 (sg u0)) ?_
  exact rtD [.cell 4 85, .tmp 5] f
 exact rtD [.cell 4 85, .tmp 5] f
theorem Qn {a b : Prop} (h : b) (k : a := by (intros; first | omega | with_unfolding_all (first | first | omega | (have f0 : 0 ≤ (ZN a0 a1).1 := (by first | omega | (simp at *; omega)); have fi := xN a0 a1 f0; omega) | (have fl := X6 a0; have fm := JQ (Z4.XR (Zc.JE u0)); (try dsimp only at *); omega)) | ((try simp only [WQ, show ∀ x, IntKind.i64.wrap x = W x from fun _ => rfl] at *); omega))) : a ∧ b := ⟨k, h⟩
theorem qg (a0 : Zc) (a1 : Int) (a2 : Int) (u0 : Sm 2314240 a0) : Sd 15 [a0.row, rI a1, rI a2] [(Zg a0 a1 a2).1.row, rB (Zg a0 a1 a2).2] := by
 have f := me (Zg.eq_1 a0 a1 a2)
 refine soD Tryz.func15 Tryz.ntmps15 ?_
 refine cDs [false, false, false, true, true, false, false, true, false, false, true, false] (SM a0 (sg u0)) ?_
 refine cRs (L8 a0 a1) ?_
 refine cRs (T6 a0.Frame.Methods a0.Frame.Now) ?_
 refine cRs (Xf.rd (kW a0 (sg u0))) ?_
 refine cRs (Th a0.YT a1) ?_
 refine cFt f ?_ ?_ <;> intro k1 h1 f
 ·exact rtD [.cell 6 41, .tmp 7] f
 have i1 : (ZN a0 a1).1.toNat < a0.ZC.length := by first | omega | (have f0 : 0 ≤ (ZN a0 a1).1 := (by first | omega | (simp at *; omega)); have fi := xN a0 a1 f0; omega)
 have i2 : (ZN a0 a1).2.toNat < (nth a0.ZC (ZN a0 a1).1.toNat).ZS.length := by first | omega | (have f0 : 0 ≤ (ZN a0 a1).1 := (by first | omega | (simp at *; omega)); have fi := xN a0 a1 f0; omega)
 simp [i1, ZD, i2]
 repeat with_reducible refine Qn ?_
 refine dIs mixed ?_
 refine cRs (MB (nth (nth a0.ZC (ZN a0 a1).1.toNat).ZS (ZN a0 a1).2.toNat) (Zz a0.Frame.Methods a0.Frame.Now) (sg (QU (ZH.xk (QU (Zc.zB u0)))))) ?_
 refine lp2 (Y4.eq_2 a0 a1 a2) (fun v1_0 v1_1 => YM 124 [eI 2 a2, (6, .one (.bptr 6 0), [.box [.nil 5, .nil 3, .nil 4, .d (.int .i64 0), .d (.int .i64 0), .nil 7, .nil 1, .nil 2, .nil 1, .nil 1, .d (.int .i64 0), .nil 1]]), eX 8 (a0.Frame.row.map .d), (9, .one (.bptr 9 0), [.box [.sref 25 0 0 a0.Frame.YR.length, .sref 25 1 0 a0.Frame.ZL.length, .sref 25 2 0 a0.Frame.Methods.length, .d (.int .i64 a0.Frame.zu), .d (.int .i64 a0.Frame.Now), .sref 25 5 0 a0.Zx.length, .sref 25 6 0 a0.Z5.length, .sref 25 7 0 a0.ZC.length, .sref 25 8 0 a0.Yz.length, .sref 25 9 0 a0.YX.length, .d (.int .i64 a0.Next), .sref 25 11 0 a0.YT.length]]), eI 10 (ZN a0 a1).1, eI 11 (ZN a0 a1).2, eX 14 ((nth (nth a0.ZC (ZN a0 a1).1.toNat).ZS (ZN a0 a1).2.toNat).row.map .d), (15, .one (.bptr 15 0), [.box [.d (.int .i64 (↑(nth (nth a0.ZC (ZN a0 a1).1.toNat).ZS (ZN a0 a1).2.toNat).ZK.ZR.length : Int)), .d (.int .i64 (Zz a0.Frame.Methods a0.Frame.Now)), .d (.int .i64 (Yy (nth (nth a0.ZC (ZN a0 a1).1.toNat).ZS (ZN a0 a1).2.toNat) (Zz a0.Frame.Methods a0.Frame.Now))), .nil 2, .sref 15 5 0 v1_1.length], .none, .none, .none, .none, .arr false 5 (v1_1.map ZX.row)]), (25, .any, [.arr false 5 (a0.Frame.YR.map YD.row), .arr false 3 (a0.Frame.ZL.map ZI.row), .arr false 4 (a0.Frame.Methods.map ZU.row), .none, .none, .arr false 7 (a0.Zx.map Z0.row), .arr false 1 (a0.Z5.map iR), .arr true 2 (a0.ZC.map ZH.row), .arr false 1 (a0.Yz.map iR), .arr false 1 (a0.YX.map iR), .none, .arr false 1 (a0.YT.map iR)]), eL 76 1 (Zo a0) iR, eI 77 (↑(Zo a0).length : Int), eI 78 (↑v1_0 : Int)]) (fun n1 v1_0 v1_1 => (Zo a0).length < n1 + v1_0 ∧ v1_0 ≤ (Zo a0).length ∧ v1_1.length ≤ 0 + 1 * v1_0) ((Zo a0).length + 1) 0 ([] : List ZX) (fun p1 v1_0 v1_1 e1 j1 => ?_) (h0 := Yq [((15, 5), none)] [] rfl (by simp))
 try dsimp only at j1
 refine cFf e1 ?_ ?_ <;> intro k4 h2 e1
 ·have i3 := ix h2
  have m2 := ml (Zo a0) (k4 76 _ rfl)
  have w1 := wr v1_0
  simp [i3, ZD]
  repeat with_reducible refine Qn ?_
  refine cRs (Rv a0.Frame.YR a0.Frame.ZL (ZX.mk (nth (Zo a0) v1_0) 0 a2 (Yy (nth (nth a0.ZC (ZN a0 a1).1.toNat).ZS (ZN a0 a1).2.toNat) (Zz a0.Frame.Methods a0.Frame.Now)) 0) (sg (Z4.MH (Zc.JE u0))) (sg (Z4.XR (Zc.JE u0)))) ?_
  refine cFt e1 ?_ ?_ <;> intro k5 h3 e1
  ·have f := ms f e1
   exact rtD [.cell 6 41, .tmp 7] f
  simp
  repeat with_reducible refine Qn ?_
  exact nx2 e1 (hw := Yq [((15, 5), some (102, 0))] [] rfl (by simp [w1]))
 have f := ms f e1
 refine cDs [] (T8 (nth (nth a0.ZC (ZN a0 a1).1.toNat).ZS (ZN a0 a1).2.toNat).ZK (ZF.mk (↑(nth (nth a0.ZC (ZN a0 a1).1.toNat).ZS (ZN a0 a1).2.toNat).ZK.ZR.length : Int) (Zz a0.Frame.Methods a0.Frame.Now) (Yy (nth (nth a0.ZC (ZN a0 a1).1.toNat).ZS (ZN a0 a1).2.toNat) (Zz a0.Frame.Methods a0.Frame.Now)) ([] : List Zq) v1_1) (by first | (have fl := X6 a0; have fm := JQ (Z4.XR (Zc.JE u0)); simp [X0]; omega) | (refine YO (n := 2314240) (by decide) ?_; simp (maxDischargeDepth := 12) [u0]; done)) (by first | (have fl := X6 a0; have fm := JQ (Z4.XR (Zc.JE u0)); simp [X0]; omega) | (refine YO (n := 2314240) (by decide) ?_; simp (maxDischargeDepth := 12) [u0]; done))) ?_
 refine W6 [] mixed (by kernel_rfl) (by kernel_rfl) ?_
 simp [i1, ZD, i2]
 repeat with_reducible refine Qn ?_
 refine CJ (t := 25) (j := 7) (i := (ZN a0 a1).1.toNat) (c := 1) (k' := (ZN a0 a1).2.toNat) (q := 14) (n := 16) (size := 2) (s := ((nth a0.ZC (ZN a0 a1).1.toNat).ZS.map Zb.row)) (rows := (a0.ZC.map ZH.row)) (ds := (XE (nth (nth a0.ZC (ZN a0 a1).1.toNat).ZS (ZN a0 a1).2.toNat).ZK (ZF.mk (↑(nth (nth a0.ZC (ZN a0 a1).1.toNat).ZS (ZN a0 a1).2.toNat).ZK.ZR.length : Int) (Zz a0.Frame.Methods a0.Frame.Now) (Yy (nth (nth a0.ZC (ZN a0 a1).1.toNat).ZS (ZN a0 a1).2.toNat) (Zz a0.Frame.Methods a0.Frame.Now)) ([] : List Zq) v1_1)).1.row) (L := [(109, 0), (109, 1)]) rfl rfl rfl rfl (by simp; rfl) (by simp) (by simp) (by simp [i1, i2]) (by simp [ZD, Zj, i1, i2]) (by simp [i1, i2]) (by simp) (by simp) (by simp) (by simp) (by simp) (by simp) ?_
 simp [Zw (x := (Zb.mk (nth (nth a0.ZC (ZN a0 a1).1.toNat).ZS (ZN a0 a1).2.toNat).Id (nth (nth a0.ZC (ZN a0 a1).1.toNat).ZS (ZN a0 a1).2.toNat).Yk (nth (nth a0.ZC (ZN a0 a1).1.toNat).ZS (ZN a0 a1).2.toNat).Doc (nth (nth a0.ZC (ZN a0 a1).1.toNat).ZS (ZN a0 a1).2.toNat).Sig (XE (nth (nth a0.ZC (ZN a0 a1).1.toNat).ZS (ZN a0 a1).2.toNat).ZK (ZF.mk (↑(nth (nth a0.ZC (ZN a0 a1).1.toNat).ZS (ZN a0 a1).2.toNat).ZK.ZR.length : Int) (Zz a0.Frame.Methods a0.Frame.Now) (Yy (nth (nth a0.ZC (ZN a0 a1).1.toNat).ZS (ZN a0 a1).2.toNat) (Zz a0.Frame.Methods a0.Frame.Now)) ([] : List Zq) v1_1)).1)) rfl, Zw (x := (ZH.mk (nth a0.ZC (ZN a0 a1).1.toNat).Id ((nth a0.ZC (ZN a0 a1).1.toNat).ZS.set (ZN a0 a1).2.toNat (Zb.mk (nth (nth a0.ZC (ZN a0 a1).1.toNat).ZS (ZN a0 a1).2.toNat).Id (nth (nth a0.ZC (ZN a0 a1).1.toNat).ZS (ZN a0 a1).2.toNat).Yk (nth (nth a0.ZC (ZN a0 a1).1.toNat).ZS (ZN a0 a1).2.toNat).Doc (nth (nth a0.ZC (ZN a0 a1).1.toNat).ZS (ZN a0 a1).2.toNat).Sig (XE (nth (nth a0.ZC (ZN a0 a1).1.toNat).ZS (ZN a0 a1).2.toNat).ZK (ZF.mk (↑(nth (nth a0.ZC (ZN a0 a1).1.toNat).ZS (ZN a0 a1).2.toNat).ZK.ZR.length : Int) (Zz a0.Frame.Methods a0.Frame.Now) (Yy (nth (nth a0.ZC (ZN a0 a1).1.toNat).ZS (ZN a0 a1).2.toNat) (Zz a0.Frame.Methods a0.Frame.Now)) ([] : List Zq) v1_1)).1)))) rfl, ZD, Zj, i1, i2]
 repeat with_reducible refine Qn ?_
 exact rtD [.cell 6 41, .tmp 7] f
end Go.Proofs.YtjflhdkeibijaaaGreat
