/- Contracts of the functions RK the abstract machine, part S1. No condition. -/
import Derived.Test.YtjflhdkeibijaaaGreatL
import Derived.Test.YtjflhdkeibijaaaGreatTy
namespace Go.Proofs.YtjflhdkeibijaaaGreat
open Go.Vm Go.Mo
set_option maxHeartbeats 1000000
set_option maxRecDepth 100000
set_option linter.unusedSimpArgs false
set_option linter.unusedVariables false
theorem OS (a0 : Z4) (u0 : Sm 2342912 a0) : Sd 79 [a0.row] [(VF a0).row] := by
 have f := me (VF.eq_1 a0)
 have c1 := sl 2342912 a0.YR u0
 have c2 := sl 2342912 a0.ZL u0
 have c3 := sl 2342912 a0.Methods u0
 refine soD Tryz.func79 Tryz.ntmps79 ?_
 exact rtD [.cell 2 37] f
theorem P8 (a0 : Z4) (u0 : Sm 2342912 a0) : Sd 79 [a0.row] [a0.row] := by
  have h := OS a0 u0
  rwa [OT] at h
theorem II (a0 : ZT) (u0 : Sm 2342912 a0) : Sd 141 [a0.row] [(R0 a0).row] := by
 have f := me (R0.eq_1 a0)
 refine soD Tryz.func141 Tryz.ntmps141 ?_
 refine Pt [2, 3, 4, 5, 6, 7, 8, 9, 0, 1, 10, 11] mixed (by kernel_rfl) (by kernel_rfl) (by kernel_rfl) ?_
 have c1 := sl 2342912 a0.ZE u0
 have c2 := sl 2342912 a0.ZG u0
 simp
 repeat with_reducible refine sd ?_
 exact rtD [.cell 2 88] f
theorem Mt (a0 : ZT) (u0 : Sm 2342912 a0) : Sd 141 [a0.row] [a0.row] := by
  have h := II a0 u0
  rwa [Lw] at h
theorem LW (a0 : ZO) (u0 : Sm 2342912 a0) : Sd 192 [a0.row] [(TY a0).row] := by
 have f := me (TY.eq_1 a0)
 refine soD Tryz.func192 Tryz.ntmps192 ?_
 refine Pt [2, 3, 4, 5, 0, 1, 6, 7, 8, 9] mixed (by kernel_rfl) (by kernel_rfl) (by kernel_rfl) ?_
 have c1 := sl 2342912 a0.Ye u0
 simp
 repeat with_reducible refine sd ?_
 exact rtD [.cell 2 187] f
theorem NF (a0 : ZO) (u0 : Sm 2342912 a0) : Sd 192 [a0.row] [a0.row] := by
  have h := LW a0 u0
  rwa [MV] at h
theorem Ly (a0 : List ZO) (u0 : Sm 2338816 a0) : Sd 158 [rL 3 ZO.row a0] [rL 3 ZO.row (V1 a0)] := by
 have f := me (V1.eq_1 a0)
 refine soD Tryz.func158 Tryz.ntmps158 ?_
 refine CN (news := (([] : List ZO).map ZO.row)) (L := []) rfl rfl rfl rfl (by simp) (by simp) (by simp) (by simp) (by simp) (by simp) ?_
 simp
 refine lp2 (jm.eq_2 a0) (fun v1_0 v1_1 => YM 21 [eL 0 3 a0 ZO.row, (3, .one (.sref 3 0 0 v1_0.length), [.arr true 3 (v1_0.map ZO.row)]), eI 4 (↑v1_1 : Int)]) (fun n1 v1_0 v1_1 => a0.length < n1 + v1_1 ∧ v1_1 ≤ a0.length ∧ v1_0.length ≤ 0 + 1 * v1_1) (a0.length + 1) ([] : List ZO) 0 (fun p1 v1_0 v1_1 e1 j1 => ?_) (h0 := Yq [((3, 0), some (5, 0))] [] rfl (by simp))
 refine cFf e1 ?_ ?_ <;> intro k2 h1 e1
 ·have i1 := ix h1
  have m2 := ml a0 (k2 0 _ rfl)
  have c1 := sl 2338816 a0 u0
  have w1 := wr v1_1
  simp [i1, ZD]
  repeat with_reducible refine sd ?_
  refine cDs [true, false] (NF (nth a0 v1_1) (sg (QU u0))) ?_
  refine Of rfl rfl rfl (by simp) (by simp) (by simp) ?_
  simp
  refine O9 (olds := (v1_0.map ZO.row)) (news := (([(nth a0 v1_1)] : List ZO).map ZO.row)) (l1 := [(3, 0)]) (l2 := [(17, 1)]) (size := 3) rfl rfl rfl rfl (by simp) (by simp) (by simp) (by simp) (by simp) (by simp; omega) ?_
  simp
  exact nx2 e1 (hw := Yq [((3, 0), some (19, 0))] [] rfl (by simp [w1]))
 have c2 := sl 2338816 a0 u0
 have f := ms f e1
 exact rtD [.tmp 2] f
theorem LY (a0 : List ZO) (u0 : Sm 2338816 a0) : Sd 158 [rL 3 ZO.row a0] [rL 3 ZO.row a0] := by
  have h := Ly a0 u0
  rwa [I2] at h
theorem Le (a0 : ZF) (u0 : Sm 2342912 a0) : Sd 113 [a0.row] [(TI a0).row] := by
 have f := me (TI.eq_1 a0)
 have c1 := sl 2342912 a0.Path u0
 have c2 := sl 2342912 a0.Zv u0
 refine soD Tryz.func113 Tryz.ntmps113 ?_
 exact rtD [.cell 2 96] f
theorem Wy (a0 : ZF) (u0 : Sm 2342912 a0) : Sd 113 [a0.row] [a0.row] := by
  have h := Le a0 u0
  rwa [M7] at h
theorem MF (a0 : ZY) (u0 : Sm 2334720 a0) : Sd 106 [a0.row] [(Wd a0).row] := by
 have f := me (Wd.eq_1 a0)
 refine soD Tryz.func106 Tryz.ntmps106 ?_
 refine cDs [] (LY a0.ZR (sg (ZY.jF u0))) ?_
 refine lp2 (qL.eq_2 a0) (fun v1_0 v1_1 => YM 28 [eX 1 (a0.row.map .d), (2, .one (.bptr 2 0), [.box [.nil 3, .nil 5]]), (3, .one (.bptr 3 0), [.box [.sref 7 0 0 a0.ZR.length, .sref 3 2 0 v1_1.length], .none, .arr true 5 (v1_1.map ZF.row)]), eI 4 (↑v1_0 : Int), (7, .any, [.arr true 3 (a0.ZR.map ZO.row)])]) (fun n1 v1_0 v1_1 => a0.ZV.length < n1 + v1_0 ∧ v1_0 ≤ a0.ZV.length ∧ v1_1.length ≤ 0 + 1 * v1_0) (a0.ZV.length + 1) 0 ([] : List ZF) (fun p1 v1_0 v1_1 e1 j1 => ?_) (h0 := Yq [((3, 2), none)] [] rfl (by simp))
 refine cF e1 ?_ ?_ <;> intro k2 h1 e1
 ·have i1 := ix h1
  have m2 := ml a0.ZV (k2 11 _ rfl)
  have c1 := sl 2334720 a0.ZV u0
  have w1 := wr v1_0
  refine W6 [25] mixed (by kernel_rfl) (by kernel_rfl) ?_
  simp [i1, ZD]
  repeat with_reducible refine sd ?_
  refine cDs [true, true, true, false, false] (Wy (nth a0.ZV v1_0) (sg (QU (ZY.yp u0)))) ?_
  refine Of rfl rfl rfl (by simp) (by simp) (by simp) ?_
  simp
  refine O9 (olds := (v1_1.map ZF.row)) (news := (([(nth a0.ZV v1_0)] : List ZF).map ZF.row)) (l1 := [(3, 2)]) (l2 := [(23, 3), (23, 4)]) (size := 5) rfl rfl rfl rfl (by simp) (by simp) (by simp) (by simp) (by simp) (by simp; omega) ?_
  simp
  exact nx2 e1 (hw := Yq [((3, 2), some (25, 0))] [] rfl (by simp [w1]))
 have c2 := sl 2334720 a0.ZV u0
 have f := ms f e1
 exact rtD [.cell 2 85] f
theorem yf (a0 : ZY) (u0 : Sm 2334720 a0) : Sd 106 [a0.row] [a0.row] := by
  have h := MF a0 u0
  rwa [Lj] at h
theorem Mf (a0 : Zb) (u0 : Sm 2330624 a0) : Sd 81 [a0.row] [(U2 a0).row] := by
 have f := me (U2.eq_1 a0)
 refine soD Tryz.func81 Tryz.ntmps81 ?_
 refine cDs [true, false, false] (Mt a0.Doc (sg (Zb.U3 u0))) ?_
 refine cDs [] (yf a0.ZK (sg (Zb.zI u0))) ?_
 exact rtD [.cell 2 92] f
theorem OP (a0 : Zb) (u0 : Sm 2330624 a0) : Sd 81 [a0.row] [a0.row] := by
  have h := Mf a0 u0
  rwa [M8] at h
theorem Md (a0 : ZH) (u0 : Sm 2326528 a0) : Sd 80 [a0.row] [(Wh a0).row] := by
 have f := me (Wh.eq_1 a0)
 refine soD Tryz.func80 Tryz.ntmps80 ?_
 refine lp2 (qS.eq_2 a0) (fun v1_0 v1_1 => YM 27 [eX 1 (a0.row.map .d), (2, .one (.bptr 2 0), [.box [.d (.int .i64 0), .nil 16]]), (3, .one (.bptr 3 0), [.box [.d (.int .i64 a0.Id), .sref 3 2 0 v1_1.length], .none, .arr true 16 (v1_1.map Zb.row)]), eI 4 (↑v1_0 : Int)]) (fun n1 v1_0 v1_1 => a0.ZS.length < n1 + v1_0 ∧ v1_0 ≤ a0.ZS.length ∧ v1_1.length ≤ 0 + 1 * v1_0) (a0.ZS.length + 1) 0 ([] : List Zb) (fun p1 v1_0 v1_1 e1 j1 => ?_) (h0 := Yq [((3, 2), none)] [] rfl (by simp))
 refine cF e1 ?_ ?_ <;> intro k2 h1 e1
 ·have i1 := ix h1
  have m2 := ml a0.ZS (k2 10 _ rfl)
  have c1 := sl 2326528 a0.ZS u0
  have w1 := wr v1_0
  refine W6 [24] mixed (by kernel_rfl) (by kernel_rfl) ?_
  simp [i1, ZD]
  repeat with_reducible refine sd ?_
  refine cDs [true, true, true, false, false] (OP (nth a0.ZS v1_0) (sg (QU (ZH.xk u0)))) ?_
  refine Of rfl rfl rfl (by simp) (by simp) (by simp) ?_
  simp
  refine O9 (olds := (v1_1.map Zb.row)) (news := (([(nth a0.ZS v1_0)] : List Zb).map Zb.row)) (l1 := [(3, 2)]) (l2 := [(22, 3), (22, 4), (22, 14), (22, 15)]) (size := 16) rfl rfl rfl rfl (by simp) (by simp) (by simp) (by simp) (by simp) (by simp; omega) ?_
  simp
  exact nx2 e1 (hw := Yq [((3, 2), some (24, 0))] [] rfl (by simp [w1]))
 have c2 := sl 2326528 a0.ZS u0
 have f := ms f e1
 exact rtD [.cell 2 64] f
theorem Oe (a0 : ZH) (u0 : Sm 2326528 a0) : Sd 80 [a0.row] [a0.row] := by
  have h := Md a0 u0
  rwa [LD] at h
theorem MP (a0 : Zc) (u0 : Sm 2322432 a0) : Sd 27 [a0.row] [(We a0).row] := by
 have f := me (We.eq_1 a0)
 refine soD Tryz.func27 Tryz.ntmps27 ?_
 refine Pt [0, 1, 2, 3, 4, 5, 6, 7, 8, 9, 10, 11, 12, 13, 14, 15, 16, 17, 18, 21, 22, 23, 24, 19, 20, 25, 26, 27] mixed (by kernel_rfl) (by kernel_rfl) (by kernel_rfl) ?_
 simp
 have c1 := sl 2322432 a0.Zx u0
 have c2 := sl 2322432 a0.Z5 u0
 have c3 := sl 2322432 a0.Yz u0
 have c4 := sl 2322432 a0.YX u0
 have c5 := sl 2322432 a0.YT u0
 refine cDs [false, false, false] (P8 a0.Frame (sg (Zc.JE u0))) ?_
 refine lp2 (qd.eq_2 a0) (fun v1_0 v1_1 => YM 50 [eX 1 (a0.row.map .d), (2, .one (.bptr 2 0), [.box [.nil 5, .nil 3, .nil 4, .d (.int .i64 0), .d (.int .i64 0), .nil 7, .nil 1, .nil 2, .nil 1, .nil 1, .d (.int .i64 0), .nil 1]]), (3, .one (.bptr 3 0), [.box [.sref 7 0 0 a0.Frame.YR.length, .sref 7 1 0 a0.Frame.ZL.length, .sref 7 2 0 a0.Frame.Methods.length, .d (.int .i64 a0.Frame.zu), .d (.int .i64 a0.Frame.Now), .sref 11 0 0 a0.Zx.length, .sref 15 0 0 a0.Z5.length, .sref 3 8 0 v1_1.length, .sref 19 0 0 a0.Yz.length, .sref 23 0 0 a0.YX.length, .d (.int .i64 a0.Next), .sref 29 0 0 a0.YT.length], .none, .none, .none, .none, .none, .none, .none, .arr true 2 (v1_1.map ZH.row)]), eI 4 (↑v1_0 : Int), (7, .any, [.arr false 5 (a0.Frame.YR.map YD.row), .arr false 3 (a0.Frame.ZL.map ZI.row), .arr false 4 (a0.Frame.Methods.map ZU.row)]), (11, .any, [.arr false 7 (a0.Zx.map Z0.row)]), (15, .any, [.arr false 1 (a0.Z5.map iR)]), (19, .any, [.arr false 1 (a0.Yz.map iR)]), (23, .any, [.arr false 1 (a0.YX.map iR)]), (29, .any, [.arr false 1 (a0.YT.map iR)])]) (fun n1 v1_0 v1_1 => a0.ZC.length < n1 + v1_0 ∧ v1_0 ≤ a0.ZC.length ∧ v1_1.length ≤ 0 + 1 * v1_0) (a0.ZC.length + 1) 0 ([] : List ZH) (fun p1 v1_0 v1_1 e1 j1 => ?_) (h0 := Yq [((3, 8), none)] [] rfl (by simp))
 refine cF e1 ?_ ?_ <;> intro k3 h1 e1
 ·have i1 := ix h1
  have m2 := ml a0.ZC (k3 33 _ rfl)
  have c6 := sl 2322432 a0.ZC u0
  have w1 := wr v1_0
  refine W6 [47] mixed (by kernel_rfl) (by kernel_rfl) ?_
  simp [i1, ZD]
  repeat with_reducible refine sd ?_
  refine cDs [] (Oe (nth a0.ZC v1_0) (sg (QU (Zc.zB u0)))) ?_
  refine Of rfl rfl rfl (by simp) (by simp) (by simp) ?_
  simp
  refine O9 (olds := (v1_1.map ZH.row)) (news := (([(nth a0.ZC v1_0)] : List ZH).map ZH.row)) (l1 := [(3, 8)]) (l2 := [(45, 1)]) (size := 2) rfl rfl rfl rfl (by simp) (by simp) (by simp) (by simp) (by simp) (by simp; omega) ?_
  simp
  exact nx2 e1 (hw := Yq [((3, 8), some (47, 0))] [] rfl (by simp [w1]))
 have c7 := sl 2322432 a0.ZC u0
 have f := ms f e1
 exact rtD [.cell 2 41] f
theorem O0 (a0 : Zc) (u0 : Sm 2322432 a0) : Sd 27 [a0.row] [a0.row] := by
  have h := MP a0 u0
  rwa [LX] at h
theorem Ov (a0 : ZH) (a1 : Int) : Sa 104 [a0.row, rI a1] [rI (J4 a0 a1)] := by
 have f := me (J4.eq_1 a0 a1)
 refine so Tryz.func104 Tryz.ntmps104 ?_
 refine lp1 (KX.eq_2 a0 a1) (fun v1_0 => YM 22 [eI 1 a1, eX 2 (a0.row.map .d), eI 5 (↑v1_0 : Int)]) (fun n1 v1_0 => a0.ZS.length < n1 + v1_0 ∧ v1_0 ≤ a0.ZS.length) (a0.ZS.length + 1) 0 (fun p1 v1_0 e1 j1 => ?_)
 refine cFf e1 ?_ ?_ <;> intro k2 h1 e1
 ·have i1 := ix h1
  have m2 := ml a0.ZS (k2 8 _ rfl)
  have w1 := wr v1_0
  simp [i1, ZD]
  repeat with_reducible refine sd ?_
  refine cF e1 ?_ ?_ <;> intro k3 h2 e1
  ·have f := ms f e1
   exact rt [.tmp 4] f
  exact ny1 w1 e1
 have f := ms f e1
 exact rt [.tmp 4] f
theorem Ip (a0 : Zc) (a1 : Int) : Sa 46 [a0.row, rI a1] [rI (ZW a0 a1).1, rI (ZW a0 a1).2] := by
 have f := me (ZW.eq_1 a0 a1)
 refine so Tryz.func46 Tryz.ntmps46 ?_
 refine lp1 (KB.eq_2 a0 a1) (fun v1_0 => YM 26 [eI 1 a1, eX 2 (a0.row.map .d), eI 6 (↑v1_0 : Int)]) (fun n1 v1_0 => a0.ZC.length < n1 + v1_0 ∧ v1_0 ≤ a0.ZC.length) (a0.ZC.length + 1) 0 (fun p1 v1_0 e1 j1 => ?_)
 refine cFf e1 ?_ ?_ <;> intro k2 h1 e1
 ·have i1 := ix h1
  have m2 := ml a0.ZC (k2 10 _ rfl)
  have w1 := wr v1_0
  simp [i1, ZD]
  repeat with_reducible refine sd ?_
  refine cRs (Ov (nth a0.ZC v1_0) a1) ?_
  refine cF e1 ?_ ?_ <;> intro k3 h2 e1
  ·have f := ms f e1
   exact rt [.tmp 4, .tmp 5] f
  exact ny1 w1 e1
 have f := ms f e1
 exact rt [.tmp 4, .tmp 5] f
theorem Ss (a0 : List ZU) (a1 : Int) : Sa 47 [rL 4 ZU.row a0, rI a1] [rI (Z6 a0 a1)] := by
 have f := me (Z6.eq_1 a0 a1)
 refine so Tryz.func47 Tryz.ntmps47 ?_
 refine lp2 (JN.eq_2 a0 a1) (fun v1_0 v1_1 => YM 54 [eL 0 4 a0 ZU.row, eI 1 a1, eI 5 v1_0, eI 6 (↑v1_1 : Int)]) (fun n1 v1_0 v1_1 => a0.length < n1 + v1_1 ∧ v1_1 ≤ a0.length ∧ -1 ≤ v1_0 ∧ v1_0 < (a0.length : Int)) (a0.length + 1) (-1) 0 (fun p1 v1_0 v1_1 e1 j1 => ?_)
 try dsimp only at j1
 refine cF e1 ?_ ?_ <;> intro k2 h1 e1
 ·have i1 := ix h1
  have m2 := ml a0 (k2 0 _ rfl)
  have w1 := wr v1_1
  refine dIo mixed ?_
  simp [i1, ZD]
  repeat with_reducible refine sd ?_
  refine gIf ?_ ?_ <;> intro G
  ·simp [i1, ZD, G]
   repeat with_reducible refine sdg ?_
   refine gJf G ?_ ?_ <;> intro G
   ·try (simp at G; done)
    all_goals
     simp [i1, ZD, G]
     repeat with_reducible refine sdg ?_
     refine gK (fun _ => ?_)
     have i2 := ik v1_0.toNat a0
     simp [i2, ZD, G]
     repeat with_reducible refine sdg ?_
     refine cK e1 ?_ ?_ <;> intro k4 h2 e1
     ·try (simp [G] at h2; done)
      all_goals
       exact ny2 (an w1 G) e1 (hI := by first | omega | (simp at *; omega))
     ·try (simp [G] at h2; done)
      all_goals
       exact ny2 (an w1 G) e1 (hI := by first | omega | (simp at *; omega))
   ·try (simp at G; done)
    all_goals
     refine sGg ?_
     refine cK e1 ?_ ?_ <;> intro k5 h3 e1
     ·try (simp [G] at h3; done)
      all_goals
       exact ny2 (an w1 G) e1 (hI := by first | omega | (simp at *; omega))
     ·try (simp [G] at h3; done)
      all_goals
       exact ny2 (an w1 G) e1 (hI := by first | omega | (simp at *; omega))
  ·refine gJf G ?_ ?_ <;> intro G
   ·try (simp at G; done)
    all_goals
     simp [i1, ZD, G]
     repeat with_reducible refine sdg ?_
     refine gK (fun _ => ?_)
     have i4 := ik v1_0.toNat a0
     simp [i4, ZD, G]
     repeat with_reducible refine sdg ?_
     refine cK e1 ?_ ?_ <;> intro k6 h4 e1
     ·try (simp [G] at h4; done)
      all_goals
       exact ny2 (an w1 G) e1 (hI := by first | omega | (simp at *; omega))
     ·try (simp [G] at h4; done)
      all_goals
       exact ny2 (an w1 G) e1 (hI := by first | omega | (simp at *; omega))
   ·try (simp at G; done)
    all_goals
     refine sGg ?_
     refine cK e1 ?_ ?_ <;> intro k7 h5 e1
     ·try (simp [G] at h5; done)
      all_goals
       exact ny2 (an w1 G) e1 (hI := by first | omega | (simp at *; omega))
     ·try (simp [G] at h5; done)
      all_goals
       exact ny2 (an w1 G) e1 (hI := by first | omega | (simp at *; omega))
 have f := ms f e1
 refine cFt f ?_ ?_ <;> intro k8 h6 f
 ·exact rt [.tmp 4] f
 have i6 := ik v1_0.toNat a0
 simp [i6, ZD]
 repeat with_reducible refine sd ?_
 exact rt [.tmp 4] f
theorem Ru (a0 : List Int) (a1 : Int) : Sa 49 [rL 1 iR a0, rI a1] [rB (Vy a0 a1)] := by
 have f := me (Vy.eq_1 a0 a1)
 refine so Tryz.func49 Tryz.ntmps49 ?_
 refine lp1 (Wi.eq_2 a0 a1) (fun v1_0 => YM 18 [eL 0 1 a0 iR, eI 1 a1, eI 5 (↑v1_0 : Int)]) (fun n1 v1_0 => a0.length < n1 + v1_0 ∧ v1_0 ≤ a0.length) (a0.length + 1) 0 (fun p1 v1_0 e1 j1 => ?_)
 refine cFf e1 ?_ ?_ <;> intro k2 h1 e1
 ·have i1 := ix h1
  have m2 := ml a0 (k2 0 _ rfl)
  have w1 := wr v1_0
  simp [i1, ZD]
  repeat with_reducible refine sd ?_
  refine cF e1 ?_ ?_ <;> intro k3 h2 e1
  ·have f := ms f e1
   exact rt [.tmp 4] f
  exact ny1 w1 e1
 have f := ms f e1
 exact rt [.tmp 4] f
theorem Vr (a0 : List YD) (a1 : Int) : Sa 110 [rL 5 YD.row a0, rI a1] [rI (QL a0 a1)] := by
 have f := me (QL.eq_1 a0 a1)
 refine so Tryz.func110 Tryz.ntmps110 ?_
 refine lp1 (K5.eq_2 a0 a1) (fun v1_0 => YM 20 [eL 0 5 a0 YD.row, eI 1 a1, eI 5 (↑v1_0 : Int)]) (fun n1 v1_0 => a0.length < n1 + v1_0 ∧ v1_0 ≤ a0.length) (a0.length + 1) 0 (fun p1 v1_0 e1 j1 => ?_)
 refine cFf e1 ?_ ?_ <;> intro k2 h1 e1
 ·have i1 := ix h1
  have m2 := ml a0 (k2 0 _ rfl)
  have w1 := wr v1_0
  simp [i1, ZD]
  repeat with_reducible refine sd ?_
  refine cF e1 ?_ ?_ <;> intro k3 h2 e1
  ·have f := ms f e1
   exact rt [.tmp 4] f
  exact ny1 w1 e1
 have f := ms f e1
 exact rt [.tmp 4] f
theorem SX (a0 : List ZU) (a1 : Int) : Sa 191 [rL 4 ZU.row a0, rI a1] [rI (Qx a0 a1)] := by
 have f := me (Qx.eq_1 a0 a1)
 refine so Tryz.func191 Tryz.ntmps191 ?_
 refine lp1 (JJ.eq_2 a0 a1) (fun v1_0 => YM 20 [eL 0 4 a0 ZU.row, eI 1 a1, eI 5 (↑v1_0 : Int)]) (fun n1 v1_0 => a0.length < n1 + v1_0 ∧ v1_0 ≤ a0.length) (a0.length + 1) 0 (fun p1 v1_0 e1 j1 => ?_)
 refine cFf e1 ?_ ?_ <;> intro k2 h1 e1
 ·have i1 := ix h1
  have m2 := ml a0 (k2 0 _ rfl)
  have w1 := wr v1_0
  simp [i1, ZD]
  repeat with_reducible refine sd ?_
  refine cF e1 ?_ ?_ <;> intro k3 h2 e1
  ·have f := ms f e1
   exact rt [.tmp 4] f
  exact ny1 w1 e1
 have f := ms f e1
 exact rt [.tmp 4] f
theorem LP (a0 : List ZU) (a1 : Int) : Sa 157 [rL 4 ZU.row a0, rI a1] [rI (jh a0 a1)] := by
 have f := me (jh.eq_1 a0 a1)
 refine so Tryz.func157 Tryz.ntmps157 ?_
 refine cRs (SX a0 a1) ?_
 refine cFt f ?_ ?_ <;> intro k1 h1 f
 ·exact rt [.tmp 4] f
 have i1 : (Qx a0 a1).toNat < a0.length := by have := SW a0 a1; exact il
 simp [i1, ZD]
 repeat with_reducible refine sd ?_
 exact rt [.tmp 4] f
theorem OW (a0 : Z4) (a1 : Int) : Sa 105 [a0.row, rI a1] [rB (qH a0 a1)] := by
 have f := me (qH.eq_1 a0 a1)
 refine so Tryz.func105 Tryz.ntmps105 ?_
 refine cRs (Vr a0.YR a1) ?_
 refine dIs mixed ?_
 refine gIf ?_ ?_ <;> intro G
 ·have i1 : (QL a0.YR a1).toNat < a0.YR.length := by have := Ur a0.YR a1; exact il
  simp [i1, ZD, G]
  repeat with_reducible refine sdg ?_
  refine cGg (fun gg => (LP a0.Methods (nth a0.YR (QL a0.YR a1).toNat).Method)) ?_
  exact rtg [.tmp 4] f
 ·refine sGo ?_
  simp [G]
  repeat with_reducible refine sdg ?_
  exact rtg [.tmp 4] f
theorem kX (a0 : Zc) (u0 : Sm 2330624 a0) : Sd 48 [a0.row] [rL 1 iR (Z7 a0)] := by
 have f := me (Z7.eq_1 a0)
 refine soD Tryz.func48 Tryz.ntmps48 ?_
 refine lp2 (Y2.eq_2 a0) (fun v1_0 v1_1 => YM 39 [eX 1 (a0.row.map .d), (3, .one (.sref 3 0 0 v1_0.length), [.arr false 1 (v1_0.map iR)]), eI 4 (↑v1_1 : Int)]) (fun n1 v1_0 v1_1 => a0.Frame.ZL.length < n1 + v1_1 ∧ v1_1 ≤ a0.Frame.ZL.length ∧ v1_0.length ≤ 0 + 1 * v1_1) (a0.Frame.ZL.length + 1) ([] : List Int) 0 (fun p1 v1_0 v1_1 e1 j1 => ?_) (h0 := Yq [((3, 0), some (6, 0))] [] rfl (by simp))
 refine cFf e1 ?_ ?_ <;> intro k2 h1 e1
 ·have i1 := ix h1
  have m2 := ml a0.Frame.ZL (k2 10 _ rfl)
  have c1 := sl 2330624 a0.Frame.ZL u0
  have w1 := wr v1_1
  simp [i1, ZD]
  repeat with_reducible refine sd ?_
  refine cRs (Ru a0.YX (nth a0.Frame.ZL v1_1).Id) ?_
  refine cGs (fun gg => (OW a0.Frame (nth a0.Frame.ZL v1_1).Key)) ?_
  refine cF e1 ?_ ?_ <;> intro k3 h2 e1
  ·exact nx2 e1 (hw := Yq [((3, 0), some (37, 0))] [] rfl (by simp [w1]))
  exact ny2 w1 e1
 have c2 := sl 2330624 a0.Frame.ZL u0
 have f := ms f e1
 exact rtD [.tmp 2] f
theorem KO (a0 : Int) (a1 : Int) (a2 : Int) : Sa 63 [rI a0, rI a1, rI a2] [rB (Xe a0 a1 a2)] := by
 have f := me (Xe.eq_1 a0 a1 a2)
 refine so Tryz.func63 Tryz.ntmps63 ?_
 exact rt [.tmp 6] f
theorem SR (a0 : ZT) : Sa 195 [a0.row] [rB (Ji a0)] := by
 have f := me (Ji.eq_1 a0)
 refine so Tryz.func195 Tryz.ntmps195 ?_
 refine lp1 (JH.eq_2 a0) (fun v1_0 => YM 51 [eX 1 (a0.row.map .d), eI 3 (↑v1_0 : Int)]) (fun n1 v1_0 => a0.ZE.length < n1 + v1_0 ∧ v1_0 ≤ a0.ZE.length) (a0.ZE.length + 1) 0 (fun p1 v1_0 e1 j1 => ?_)
 refine cFf e1 ?_ ?_ <;> intro k2 h1 e1
 ·have i1 := ix h1
  have m2 := ml a0.ZE (k2 7 _ rfl)
  have w1 := wr v1_0
  simp [i1, ZD]
  repeat with_reducible refine sd ?_
  refine cF e1 ?_ ?_ <;> intro k3 h2 e1
  ·have f := ms f e1
   exact rt [.tmp 2] f
  exact ny1 w1 e1
 have f := ms f e1
 refine lp1 (JD.eq_2 a0) (fun v2_0 => YM 51 [eX 1 (a0.row.map .d), eI 4 (↑v2_0 : Int)]) (fun n2 v2_0 => a0.ZG.length < n2 + v2_0 ∧ v2_0 ≤ a0.ZG.length) (a0.ZG.length + 1) 0 (fun p2 v2_0 e2 j2 => ?_)
 refine cFf e2 ?_ ?_ <;> intro k5 h3 e2
 ·have i2 := ix h3
  have m4 := ml a0.ZG (k5 21 _ rfl)
  have w2 := wr v2_0
  simp [i2, ZD]
  repeat with_reducible refine sd ?_
  refine cRs (KO (nth a0.ZG v2_0) 1 1000000000000) ?_
  refine cFo e2 ?_ ?_ <;> intro k6 h4 e2
  ·have q4 := h4; try simp [Xe] at q4
   have f := ms f e2
   simp
   exact rt [.tmp 2] f
  have q4 := h4; try simp [Xe] at q4
  simp
  exact ny1 w2 e2
 have f := ms f e2
 refine cRs (KO a0.Ka 0 999) ?_
 refine cGs (fun gg => (KO (↑a0.ZE.length : Int) 1 6)) ?_
 exact rt [.tmp 2] f
theorem EC (a0 : Int) (a1 : Int) : Sa 219 [rI a0, rI a1] [rI (Ls a0 a1)] := by
 have f := me (Ls.eq_1 a0 a1)
 refine so Tryz.func219 Tryz.ntmps219 ?_
 refine cRs (KO a1 1 1000000000000) ?_
 refine cFo f ?_ ?_ <;> intro k1 h1 f
 ·have q1 := h1; try simp [Xe] at q1
  simp
  exact rt [.tmp 4] f
 have q1 := h1; try simp [Xe] at q1
 simp
 repeat with_reducible refine sd ?_
 exact rt [.tmp 4] f
theorem Nk (a0 : List Int) : Sa 197 [rL 1 iR a0] [rI (U6 a0)] := by
 have f := me (U6.eq_1 a0)
 refine so Tryz.func197 Tryz.ntmps197 ?_
 refine lp2 (kZ.eq_2 a0) (fun v1_0 v1_1 => YM 22 [eL 0 1 a0 iR, eI 3 v1_0, eI 4 (↑v1_1 : Int)]) (fun n1 v1_0 v1_1 => a0.length < n1 + v1_1 ∧ v1_1 ≤ a0.length) (a0.length + 1) 11 0 (fun p1 v1_0 v1_1 e1 j1 => ?_)
 refine cFf e1 ?_ ?_ <;> intro k2 h1 e1
 ·have i1 := ix h1
  have m2 := ml a0 (k2 0 _ rfl)
  have w1 := wr v1_1
  simp [i1, ZD]
  repeat with_reducible refine sd ?_
  refine cRs (EC (nth a0 v1_1) 2147483647) ?_
  exact ny2 w1 e1
 have f := ms f e1
 exact rt [.tmp 2] f
theorem Jy (a0 : Int) (a1 : List Int) (u0 : Sm 68719476736 a1) : Sa 193 [rI a0, rL 1 iR a1] [rI (Q6 a0 a1)] := by
 have f := me (Q6.eq_1 a0 a1)
 have c1 := sl 68719476736 a1 u0
 refine so Tryz.func193 Tryz.ntmps193 ?_
 refine cRs (Nk (([7, a0] : List Int) ++ a1)) ?_
 exact rt [.tmp 4] f
theorem Sw (a0 : Int) (a1 : ByteArray) (a2 : Int) (u0 : Sm 2326528 a1) : Sa 196 [rI a0, rS a1, rI a2] [rI (zf a0 a1 a2)] := by
 have f := me (zf.eq_1 a0 a1 a2)
 refine so Tryz.func196 Tryz.ntmps196 ?_
 refine lp2 (KD.eq_2 a1) (fun v1_0 v1_1 => YM 27 [eI 0 a0, (1, .one (.d (.str a1)), []), (7, .one (.sref 7 0 0 v1_0.length), [.arr false 1 (v1_0.map iR)]), eI 8 (↑v1_1 : Int)]) (fun n1 v1_0 v1_1 => a1.size < n1 + v1_1 ∧ v1_1 ≤ a1.size ∧ v1_0.length ≤ 1 + 1 * v1_1) (a1.size + 1) ([a2] : List Int) 0 (fun p1 v1_0 v1_1 e1 j1 => ?_) (h0 := Yq [((7, 0), some (10, 0))] [] rfl (by simp))
 refine cFo e1 ?_ ?_ <;> intro k2 h1 e1
 ·have q1 := h1; try simp at q1
  have c1 : a1.size ≤ 2326528 := MR (by simp (maxDischargeDepth := 12) [u0])
  have w1 := wr v1_1
  simp
  repeat with_reducible refine sd ?_
  exact nx2 e1 (hw := Yq [((7, 0), some (23, 0))] [] rfl (by simp [w1]))
 have q1 := h1; try simp at q1
 have c2 : a1.size ≤ 2326528 := MR (by simp (maxDischargeDepth := 12) [u0])
 have f := ms f e1
 simp
 refine cRs (Jy a0 v1_0 (by first | (simp (maxDischargeDepth := 12) [X0]; omega) | (simp (maxDischargeDepth := 12) [YO (m := 68719476736) (by decide) u0]; done))) ?_
 exact rt [.tmp 6] f
theorem PR (a0 : Int) (a1 : ZT) (u0 : Sm 2322432 a1) : Sa 161 [rI a0, a1.row] [rI (KE a0 a1)] := by
 have f := me (KE.eq_1 a0 a1)
 refine so Tryz.func161 Tryz.ntmps161 ?_
 refine cRs (SR a1) ?_
 refine cF f ?_ ?_ <;> intro k1 h1 f
 ·exact rt [.tmp 4] f
 refine lp2 (Kg.eq_2 a0 a1) (fun v1_0 v1_1 => YM 38 [eI 0 a0, eX 3 (a1.row.map .d), (5, .one (.sref 5 0 0 v1_0.length), [.arr false 1 (v1_0.map iR)]), eI 6 (↑v1_1 : Int)]) (fun n1 v1_0 v1_1 => a1.ZE.length < n1 + v1_1 ∧ v1_1 ≤ a1.ZE.length ∧ v1_0.length ≤ 1 + 1 * v1_1) (a1.ZE.length + 1) ([a1.Ka] : List Int) 0 (fun p1 v1_0 v1_1 e1 j1 => ?_) (h0 := Yq [((5, 0), some (12, 0))] [] rfl (by simp))
 try dsimp only at j1
 refine cF e1 ?_ ?_ <;> intro k3 h2 e1
 ·have i1 := ix h2
  have m2 := ml a1.ZE (k3 15 _ rfl)
  have c1 := sl 2322432 a1.ZE u0
  have w1 := wr v1_1
  refine dIo mixed ?_
  have i2 : v1_1 < a1.ZG.length := by (have := TE (a := a1); first | (simp_all; done) | (simp_all; omega))
  simp [i1, ZD, i2]
  repeat with_reducible refine sd ?_
  refine cRs (Sw a0 (nth a1.ZE v1_1) (nth a1.ZG v1_1) (sg (QU (ZT.Us u0)))) ?_
  exact nx2 e1 (hw := Yq [((5, 0), some (34, 0))] [] rfl (by simp [w1]))
 have c2 := sl 2322432 a1.ZE u0
 have f := ms f e1
 refine cRs (Jy a0 v1_0 (by first | (simp (maxDischargeDepth := 12) [X0]; omega) | (simp (maxDischargeDepth := 12) [YO (m := 68719476736) (by decide) u0]; done))) ?_
 exact rt [.tmp 4] f
theorem Sg (a0 : ZY) (a1 : ZT) (u0 : Sm 2318336 a0) (u1 : Sm 2318336 a1) : Sd 108 [a0.row, a1.row] [rL 1 iR (Xi a0 a1)] := by
 have f := me (Xi.eq_1 a0 a1)
 refine soD Tryz.func108 Tryz.ntmps108 ?_
 refine lp2 (JS.eq_2 a0 a1) (fun v1_0 v1_1 => YM 27 [eX 2 (a0.row.map .d), eX 3 (a1.row.map .d), (5, .one (.sref 5 0 0 v1_0.length), [.arr false 1 (v1_0.map iR)]), eI 6 (↑v1_1 : Int)]) (fun n1 v1_0 v1_1 => a0.ZV.length < n1 + v1_1 ∧ v1_1 ≤ a0.ZV.length ∧ v1_0.length ≤ 0 + 1 * v1_1) (a0.ZV.length + 1) ([] : List Int) 0 (fun p1 v1_0 v1_1 e1 j1 => ?_) (h0 := Yq [((5, 0), some (7, 0))] [] rfl (by simp))
 refine cF e1 ?_ ?_ <;> intro k2 h1 e1
 ·have i1 := ix h1
  have m2 := ml a0.ZV (k2 10 _ rfl)
  have c1 := sl 2318336 a0.ZV (an u0 u1)
  have w1 := wr v1_1
  refine dIo mixed ?_
  simp [i1, ZD]
  repeat with_reducible refine sd ?_
  refine cRs (PR (nth a0.ZV v1_1).Method a1 (sg u1)) ?_
  exact nx2 e1 (hw := Yq [((5, 0), some (25, 0))] [] rfl (by simp [w1]))
 have c2 := sl 2318336 a0.ZV (an u0 u1)
 have f := ms f e1
 exact rtD [.tmp 4] f
theorem WS (a0 : ZX) : Sd 112 [a0.row] [rL 1 iR (X9 a0)] := by
 have f := me (X9.eq_1 a0)
 refine soD Tryz.func112 Tryz.ntmps112 ?_
 exact rtD [.tmp 2] f
theorem xx (a0 : Int) (a1 : ZF) (u0 : Sm 2326528 a1) : Sa 159 [rI a0, a1.row] [rI (X2 a0 a1)] := by
 have f := me (X2.eq_1 a0 a1)
 refine so Tryz.func159 Tryz.ntmps159 ?_
 refine lp2 (Xz.eq_2 a1) (fun v1_0 v1_1 => YM 75 [eI 0 a0, eX 3 (a1.row.map .d), (5, .one (.sref 5 0 0 v1_0.length), [.arr false 1 (v1_0.map iR)]), eI 6 (↑v1_1 : Int)]) (fun n1 v1_0 v1_1 => a1.Path.length < n1 + v1_1 ∧ v1_1 ≤ a1.Path.length ∧ v1_0.length ≤ 4 + 2 * v1_1) (a1.Path.length + 1) ([4, a1.Count, a1.Method, a1.V4] : List Int) 0 (fun p1 v1_0 v1_1 e1 j1 => ?_) (h0 := Yq [((5, 0), some (14, 0))] [] rfl (by simp))
 refine cFo e1 ?_ ?_ <;> intro k2 h1 e1
 ·have q1 := h1; try simp at q1
  have i1 := ix h1
  have m2 := ml a1.Path (k2 17 _ rfl)
  have c1 := sl 2326528 a1.Path u0
  have w1 := wr v1_1
  simp [i1, ZD]
  repeat with_reducible refine sd ?_
  refine cFo e1 ?_ ?_ <;> intro k3 h2 e1
  ·have q2 := h2; try simp at q2
   simp
   repeat with_reducible refine sd ?_
   exact nx2 e1 (hw := Yq [((5, 0), some (39, 0))] [] rfl (by simp [w1]))
  have q2 := h2; try simp at q2
  simp
  repeat with_reducible refine sd ?_
  exact nx2 e1 (hw := Yq [((5, 0), some (42, 0))] [] rfl (by simp [w1]))
 have q1 := h1; try simp at q1
 have c2 := sl 2326528 a1.Path u0
 have f := ms f e1
 simp
 repeat with_reducible refine sd ?_
 refine lp2 (Qo.eq_2 a1) (fun v2_0 v2_1 => YM 75 [eI 0 a0, eX 3 (a1.row.map .d), (5, .one (.sref 5 0 0 v2_0.length), [.arr false 1 (v2_0.map iR)]), eI 7 (↑v2_1 : Int)]) (fun n2 v2_0 v2_1 => a1.Zv.length < n2 + v2_1 ∧ v2_1 ≤ a1.Zv.length ∧ v2_0.length ≤ 5 + 2 * 2326528 + 6 * v2_1) (a1.Zv.length + 1) (v1_0 ++ ([(↑a1.Zv.length : Int)] : List Int)) 0 (fun p2 v2_0 v2_1 e2 j2 => ?_) (hI := by (have o : a1.Path.length ≤ 2326528 := JQ (by simp (maxDischargeDepth := 12) [u0]); simp at *; omega)) (h0 := Yq [((5, 0), some (48, 0))] [] rfl (by simp))
 try dsimp only at j2
 refine cFo e2 ?_ ?_ <;> intro k5 h3 e2
 ·have q3 := h3; try simp at q3
  have i2 := ix h3
  have m4 := ml a1.Zv (k5 51 _ rfl)
  have c3 := sl 2326528 a1.Zv u0
  have w2 := wr v2_1
  simp
  refine dIo mixed ?_
  simp [i2, ZD]
  repeat with_reducible refine sd ?_
  refine cRf i2 (Xf.rd (WS (nth a1.Zv v2_1))) ?_
  exact nx2 e2 (hI := by (simp; omega)) (hw := Yq [((5, 0), some (71, 0))] [] rfl (by simp [w2]))
 have q3 := h3; try simp at q3
 have c4 := sl 2326528 a1.Zv u0
 have f := ms f e2
 simp
 refine cRs (Jy a0 v2_0 (by first | (simp (maxDischargeDepth := 12) [X0]; omega) | (simp (maxDischargeDepth := 12) [YO (m := 68719476736) (by decide) u0]; done))) ?_
 exact rt [.tmp 4] f
theorem Uk (a0 : Int) (a1 : List ZO) (u0 : Sm 2326528 a1) : Sa 194 [rI a0, rL 3 ZO.row a1] [rI (JG a0 a1)] := by
 have f := me (JG.eq_1 a0 a1)
 refine so Tryz.func194 Tryz.ntmps194 ?_
 refine lp2 (JM.eq_2 a0 a1) (fun v1_0 v1_1 => YM 39 [eI 0 a0, eL 1 3 a1 ZO.row, (5, .one (.sref 5 0 0 v1_0.length), [.arr false 1 (v1_0.map iR)]), eI 6 (↑v1_1 : Int)]) (fun n1 v1_0 v1_1 => a1.length < n1 + v1_1 ∧ v1_1 ≤ a1.length ∧ v1_0.length ≤ 1 + 1 * v1_1) (a1.length + 1) ([2] : List Int) 0 (fun p1 v1_0 v1_1 e1 j1 => ?_) (h0 := Yq [((5, 0), some (7, 0))] [] rfl (by simp))
 refine cF e1 ?_ ?_ <;> intro k2 h1 e1
 ·have i1 := ix h1
  have m2 := ml a1 (k2 1 _ rfl)
  have c1 := sl 2326528 a1 u0
  have w1 := wr v1_1
  refine Pt [2, 3, 4, 5, 6, 7, 8, 9, 10, 11, 12, 13, 14, 15, 16, 17, 18, 0, 1, 19, 20, 21, 22] mixed (by kernel_rfl) (by kernel_rfl) (by kernel_rfl) ?_
  have c2 := sl 2326528 (nth a1 v1_1).Ye u0
  simp [i1, ZD]
  repeat with_reducible refine sd ?_
  refine cRs (Jy a0 (([(nth a1 v1_1).Key, (nth a1 v1_1).Mark] : List Int) ++ (nth a1 v1_1).Ye) (by simp (maxDischargeDepth := 12) [z8, X0, YO (m := 68719476736) (by decide) u0]; try omega)) ?_
  exact nx2 e1 (hw := Yq [((5, 0), some (35, 0))] [] rfl (by simp [w1]))
 have c3 := sl 2326528 a1 u0
 have f := ms f e1
 refine cRs (Jy a0 v1_0 (by first | (simp (maxDischargeDepth := 12) [X0]; omega) | (simp (maxDischargeDepth := 12) [YO (m := 68719476736) (by decide) u0]; done))) ?_
 exact rt [.tmp 4] f
theorem qT (a0 : Int) (a1 : Int) (a2 : List ZO) (a3 : Int) (u0 : Sm 2322432 a2) : Sa 160 [rI a0, rI a1, rL 3 ZO.row a2, rI a3] [rI (jZ a0 a1 a2 a3)] := by
 have f := me (jZ.eq_1 a0 a1 a2 a3)
 refine so Tryz.func160 Tryz.ntmps160 ?_
 refine cRs (Uk a0 a2 (sg u0)) ?_
 refine cRs (Jy a0 ([3, a1, (JG a0 a2), a3] : List Int) (by simp (maxDischargeDepth := 12) [z8, X0, YO (m := 68719476736) (by decide) u0]; try omega)) ?_
 exact rt [.tmp 8] f
theorem YN {a b : Prop} (h : b) (k : a := by (intros; first | omega | with_unfolding_all (first | first | omega | (have cc : a0.ZV.length ≤ 2318336 := JQ (by simp (maxDischargeDepth := 12) [u0]); have z0 := g1x; simp at z0; have z := Jm (by omega) z0.1; have z2 := z0.2; (try have w3 : IntKind.i64.wrap (a2 - 1) = a2 - 1 := Za (by omega) (by omega)); (try have w4 : W (a2 - 1) = a2 - 1 := w3); first | omega | (refine ⟨⟨z0.1, by omega⟩, by omega, by omega⟩) | (simp_all; omega))) | (simp_all; done) | (simp_all; omega) | grind | ((try simp only [WQ, show ∀ x, IntKind.i64.wrap x = W x from fun _ => rfl] at *); omega))) : a ∧ b := ⟨k, h⟩
theorem IT (a0 : ZY) (a1 : List Int) (a2 : Int) (u0 : Sm 2318336 a0) (u1 : Sm 2318336 a1) : Sa 107 [a0.row, rL 1 iR a1, rI a2] [rI (jO a0 a1 a2)] := by
 have f := me (jO.eq_1 a0 a1 a2)
 refine so Tryz.func107 Tryz.ntmps107 ?_
 refine dIs mixed ?_
 refine cRs (KO a2 0 (W ((↑a0.ZV.length : Int) - 1))) ?_
 refine gIo ?_ ?_ <;> intro G
 ·have g1x := G
  have c1 := sl 2318336 a0.ZV (an u0 u1)
  have w1 : IntKind.i64.wrap ((a0.ZV.length : Int) - 1) = (a0.ZV.length : Int) - 1 := Za (by omega) (by omega)
  have g1 := G; try simp [Xe, w1] at g1
  have i1 : a2.toNat < a0.ZV.length := by (have cc : a0.ZV.length ≤ 2318336 := JQ (by simp (maxDischargeDepth := 12) [u0]); have z0 := g1x; simp at z0; have z := Jm (by omega) z0.1; have z2 := z0.2; (try have w3 : IntKind.i64.wrap (a2 - 1) = a2 - 1 := Za (by omega) (by omega)); (try have w4 : W (a2 - 1) = a2 - 1 := w3); omega)
  simp [i1, ZD, G]
  repeat with_reducible refine YN ?_
  refine cGo (fun gg => (KO (nth a0.ZV a2.toNat).Count 0 (↑a0.ZR.length : Int))) ?_
  simp [G]
  repeat with_reducible refine YN ?_
  refine cKo f ?_ ?_ <;> intro k2 h1 f
  ·try (simp [G] at h1; done)
   all_goals
    have q1 := h1; try simp [Xe, w1] at q1
    simp [G]
    repeat with_reducible refine YN ?_
    exact rtg [.tmp 6] f
  ·try (simp [G] at h1; done)
   all_goals
    have q1 := h1; try simp [Xe, w1] at q1
    simp [i1, ZD, G]
    repeat with_reducible refine YN ?_
    refine cKo f ?_ ?_ <;> intro k3 h2 f
    ·try (simp [G] at h2; done)
     all_goals
      have q2 := h2; try simp at q2
      have i2 : (W (a2 - 1)).toNat < a0.ZV.length := by (have cc : a0.ZV.length ≤ 2318336 := JQ (by simp (maxDischargeDepth := 12) [u0]); have z0 := g1x; simp at z0; have z := Jm (by omega) z0.1; have z2 := z0.2; (try have w3 : IntKind.i64.wrap (a2 - 1) = a2 - 1 := Za (by omega) (by omega)); (try have w4 : W (a2 - 1) = a2 - 1 := w3); omega)
      simp [i2, ZD, G]
      repeat with_reducible refine YN ?_
      refine cR (xx (nth a0.ZV a2.toNat).Method (nth a0.ZV (W (a2 - 1)).toNat) (sg (QU (ZY.yp u0)))) ?_ (hrows := by first | (simp; done) | (simp [W, w1]; done))
      simp [G]
      repeat with_reducible refine YN ?_
      refine dIo mixed ?_
      have i3 : a2.toNat < a1.length := by (have cc : a0.ZV.length ≤ 2318336 := JQ (by simp (maxDischargeDepth := 12) [u0]); have z0 := g1x; simp at z0; have z := Jm (by omega) z0.1; have z2 := z0.2; (try have w3 : IntKind.i64.wrap (a2 - 1) = a2 - 1 := Za (by omega) (by omega)); (try have w4 : W (a2 - 1) = a2 - 1 := w3); omega)
      simp [i3, ZD, i1, G]
      repeat with_reducible refine YN ?_
      refine cR (qT (nth a0.ZV a2.toNat).Method (nth a1 a2.toNat) (a0.ZR.take (nth a0.ZV a2.toNat).Count.toNat) (X2 (nth a0.ZV a2.toNat).Method (nth a0.ZV (W (a2 - 1)).toNat)) (YO (n := 2318336) (by decide) (by simp (maxDischargeDepth := 12) [u0, u1]))) ?_ (hrows := by first | (simp; done) | (simp [W, w1]; done))
      simp [G]
      repeat with_reducible refine YN ?_
      exact rtg [.tmp 6] f
    ·try (simp [G] at h2; done)
     all_goals
      have q2 := h2; try simp at q2
      simp [G]
      repeat with_reducible refine YN ?_
      refine dIo mixed ?_
      have i4 : a2.toNat < a1.length := by (have cc : a0.ZV.length ≤ 2318336 := JQ (by simp (maxDischargeDepth := 12) [u0]); have z0 := g1x; simp at z0; have z := Jm (by omega) z0.1; have z2 := z0.2; (try have w3 : IntKind.i64.wrap (a2 - 1) = a2 - 1 := Za (by omega) (by omega)); (try have w4 : W (a2 - 1) = a2 - 1 := w3); omega)
      simp [i4, ZD, i1, G]
      repeat with_reducible refine YN ?_
      refine cR (qT (nth a0.ZV a2.toNat).Method (nth a1 a2.toNat) (a0.ZR.take (nth a0.ZV a2.toNat).Count.toNat) 0 (YO (n := 2318336) (by decide) (by simp (maxDischargeDepth := 12) [u0, u1]))) ?_
      simp [G]
      repeat with_reducible refine YN ?_
      exact rtg [.tmp 6] f
 ·have g1x := G
  simp [G]
  repeat with_reducible refine YN ?_
  refine sGo ?_
  simp [G]
  repeat with_reducible refine YN ?_
  have c2 := sl 2318336 a0.ZV (an u0 u1)
  have w2 : IntKind.i64.wrap ((a0.ZV.length : Int) - 1) = (a0.ZV.length : Int) - 1 := Za (by omega) (by omega)
  refine cKo f ?_ ?_ <;> intro k6 h3 f
  ·try (simp [G] at h3; done)
   all_goals
    have q3 := h3; try simp [Xe, w2] at q3
    simp [G]
    repeat with_reducible refine YN ?_
    exact rtg [.tmp 6] f
  ·try (simp [G] at h3; done)
   all_goals
    have q3 := h3; try simp [Xe, w2] at q3
    have i6 : a2.toNat < a0.ZV.length := by (have cc : a0.ZV.length ≤ 2318336 := JQ (by simp (maxDischargeDepth := 12) [u0]); have z0 := g1x; simp at z0; have z := Jm (by omega) z0.1; have z2 := z0.2; (try have w3 : IntKind.i64.wrap (a2 - 1) = a2 - 1 := Za (by omega) (by omega)); (try have w4 : W (a2 - 1) = a2 - 1 := w3); omega)
    simp [i6, ZD, G]
    repeat with_reducible refine YN ?_
    refine cKo f ?_ ?_ <;> intro k7 h4 f
    ·try (simp [G] at h4; done)
     all_goals
      have q4 := h4; try simp at q4
      have i7 : (W (a2 - 1)).toNat < a0.ZV.length := by (have cc : a0.ZV.length ≤ 2318336 := JQ (by simp (maxDischargeDepth := 12) [u0]); have z0 := g1x; simp at z0; have z := Jm (by omega) z0.1; have z2 := z0.2; (try have w3 : IntKind.i64.wrap (a2 - 1) = a2 - 1 := Za (by omega) (by omega)); (try have w4 : W (a2 - 1) = a2 - 1 := w3); omega)
      simp [i7, ZD, G]
      repeat with_reducible refine YN ?_
      refine cR (xx (nth a0.ZV a2.toNat).Method (nth a0.ZV (W (a2 - 1)).toNat) (sg (QU (ZY.yp u0)))) ?_ (hrows := by first | (simp; done) | (simp [W, w2]; done))
      simp [G]
      repeat with_reducible refine YN ?_
      refine dIo mixed ?_
      have i8 : a2.toNat < a1.length := by (have cc : a0.ZV.length ≤ 2318336 := JQ (by simp (maxDischargeDepth := 12) [u0]); have z0 := g1x; simp at z0; have z := Jm (by omega) z0.1; have z2 := z0.2; (try have w3 : IntKind.i64.wrap (a2 - 1) = a2 - 1 := Za (by omega) (by omega)); (try have w4 : W (a2 - 1) = a2 - 1 := w3); omega)
      simp [i8, ZD, i6, G]
      repeat with_reducible refine YN ?_
      refine cR (qT (nth a0.ZV a2.toNat).Method (nth a1 a2.toNat) (a0.ZR.take (nth a0.ZV a2.toNat).Count.toNat) (X2 (nth a0.ZV a2.toNat).Method (nth a0.ZV (W (a2 - 1)).toNat)) (YO (n := 2318336) (by decide) (by simp (maxDischargeDepth := 12) [u0, u1]))) ?_ (hrows := by first | (simp; done) | (simp [W, w2]; done))
      simp [G]
      repeat with_reducible refine YN ?_
      exact rtg [.tmp 6] f
    ·try (simp [G] at h4; done)
     all_goals
      have q4 := h4; try simp at q4
      simp [G]
      repeat with_reducible refine YN ?_
      refine dIo mixed ?_
      have i9 : a2.toNat < a1.length := by (have cc : a0.ZV.length ≤ 2318336 := JQ (by simp (maxDischargeDepth := 12) [u0]); have z0 := g1x; simp at z0; have z := Jm (by omega) z0.1; have z2 := z0.2; (try have w3 : IntKind.i64.wrap (a2 - 1) = a2 - 1 := Za (by omega) (by omega)); (try have w4 : W (a2 - 1) = a2 - 1 := w3); omega)
      simp [i9, ZD, i6, G]
      repeat with_reducible refine YN ?_
      refine cR (qT (nth a0.ZV a2.toNat).Method (nth a1 a2.toNat) (a0.ZR.take (nth a0.ZV a2.toNat).Count.toNat) 0 (YO (n := 2318336) (by decide) (by simp (maxDischargeDepth := 12) [u0, u1]))) ?_
      simp [G]
      repeat with_reducible refine YN ?_
      exact rtg [.tmp 6] f
theorem Rw (a0 : ZH) (a1 : Int) (u0 : Sm 2314240 a0) : Sd 50 [a0.row, rI a1] [rL 1 iR (Yc a0 a1)] := by
 have f := me (Yc.eq_1 a0 a1)
 refine soD Tryz.func50 Tryz.ntmps50 ?_
 refine lp2 (Jr.eq_2 a0 a1) (fun v1_0 v1_1 => YM 51 [eI 1 a1, eX 2 (a0.row.map .d), (5, .one (.sref 5 0 0 v1_0.length), [.arr false 1 (v1_0.map iR)]), eI 6 (↑v1_1 : Int)]) (fun n1 v1_0 v1_1 => a0.ZS.length < n1 + v1_1 ∧ v1_1 ≤ a0.ZS.length ∧ v1_0.length ≤ 0 + 1 * v1_1) (a0.ZS.length + 1) ([] : List Int) 0 (fun p1 v1_0 v1_1 e1 j1 => ?_) (h0 := Yq [((5, 0), some (8, 0))] [] rfl (by simp))
 refine cFf e1 ?_ ?_ <;> intro k2 h1 e1
 ·have i1 := ix h1
  have m2 := ml a0.ZS (k2 11 _ rfl)
  have c1 := sl 2314240 a0.ZS u0
  have w1 := wr v1_1
  simp [i1, ZD]
  repeat with_reducible refine sd ?_
  refine cOs (Xf.own (yf (nth a0.ZS v1_1).ZK (sg (Zb.zI (QU (ZH.xk u0)))))) ?_
  refine eIs ?_
  have c2 := sl 2314240 (nth a0.ZS v1_1).ZK.ZV u0
  refine eIs ?_
  refine dIo mixed ?_
  simp [i1, ZD]
  repeat with_reducible refine sd ?_
  refine cDs [false] (Sg (ZY.mk (nth a0.ZS v1_1).ZK.ZR ((nth a0.ZS v1_1).ZK.ZV ++ ([(ZF.mk (↑(nth a0.ZS v1_1).ZK.ZR.length : Int) a1 0 ([] : List Zq) ([] : List ZX))] : List ZF))) (nth a0.ZS v1_1).Doc (by (first | (exact QE (s := (nth a0.ZS v1_1).ZK) (by decide) (show Sm 2314240 _ by simp (maxDischargeDepth := 12) [u0]) (by simp)) | (refine Kp ?_; exact QE (s := (nth a0.ZS v1_1).ZK) (by decide) (show Sm 2314240 _ by simp (maxDischargeDepth := 12) [u0]) (by simp)) | (exact YO (n := 2314240) (by decide) (by simp (maxDischargeDepth := 12) [u0])))) (by (first | (exact QE (s := (nth a0.ZS v1_1).ZK) (by decide) (show Sm 2314240 _ by simp (maxDischargeDepth := 12) [u0]) (by simp)) | (refine Kp ?_; exact QE (s := (nth a0.ZS v1_1).ZK) (by decide) (show Sm 2314240 _ by simp (maxDischargeDepth := 12) [u0]) (by simp)) | (exact YO (n := 2314240) (by decide) (by simp (maxDischargeDepth := 12) [u0]))))) ?_
  refine cRs (IT (ZY.mk (nth a0.ZS v1_1).ZK.ZR ((nth a0.ZS v1_1).ZK.ZV ++ ([(ZF.mk (↑(nth a0.ZS v1_1).ZK.ZR.length : Int) a1 0 ([] : List Zq) ([] : List ZX))] : List ZF))) (Xi (ZY.mk (nth a0.ZS v1_1).ZK.ZR ((nth a0.ZS v1_1).ZK.ZV ++ ([(ZF.mk (↑(nth a0.ZS v1_1).ZK.ZR.length : Int) a1 0 ([] : List Zq) ([] : List ZX))] : List ZF))) (nth a0.ZS v1_1).Doc) (W ((↑((nth a0.ZS v1_1).ZK.ZV ++ ([(ZF.mk (↑(nth a0.ZS v1_1).ZK.ZR.length : Int) a1 0 ([] : List Zq) ([] : List ZX))] : List ZF)).length : Int) - 1)) (by (first | (exact QE (s := (nth a0.ZS v1_1).ZK) (by decide) (show Sm 2314240 _ by simp (maxDischargeDepth := 12) [u0]) (by simp)) | (refine Kp ?_; exact QE (s := (nth a0.ZS v1_1).ZK) (by decide) (show Sm 2314240 _ by simp (maxDischargeDepth := 12) [u0]) (by simp)) | (exact YO (n := 2314240) (by decide) (by simp (maxDischargeDepth := 12) [u0])))) (by (first | (exact QE (s := (nth a0.ZS v1_1).ZK) (by decide) (show Sm 2314240 _ by simp (maxDischargeDepth := 12) [u0]) (by simp)) | (refine Kp ?_; exact QE (s := (nth a0.ZS v1_1).ZK) (by decide) (show Sm 2314240 _ by simp (maxDischargeDepth := 12) [u0]) (by simp)) | (exact YO (n := 2314240) (by decide) (by simp (maxDischargeDepth := 12) [u0]))))) ?_ (hrows := by first | (simp; done) | (simp [W, w1]; done))
  exact nx2 e1 (hw := Yq [((5, 0), some (49, 0))] [] rfl (by simp [w1]))
 have c3 := sl 2314240 a0.ZS u0
 have f := ms f e1
 exact rtD [.tmp 4] f
theorem VM (a0 : List ZI) (a1 : Int) : Sa 65 [rL 3 ZI.row a0, rI a1] [rI (Ya a0 a1)] := by
 have f := me (Ya.eq_1 a0 a1)
 refine so Tryz.func65 Tryz.ntmps65 ?_
 refine lp1 (Xx.eq_2 a0 a1) (fun v1_0 => YM 20 [eL 0 3 a0 ZI.row, eI 1 a1, eI 5 (↑v1_0 : Int)]) (fun n1 v1_0 => a0.length < n1 + v1_0 ∧ v1_0 ≤ a0.length) (a0.length + 1) 0 (fun p1 v1_0 e1 j1 => ?_)
 refine cFf e1 ?_ ?_ <;> intro k2 h1 e1
 ·have i1 := ix h1
  have m2 := ml a0 (k2 0 _ rfl)
  have w1 := wr v1_0
  simp [i1, ZD]
  repeat with_reducible refine sd ?_
  refine cF e1 ?_ ?_ <;> intro k3 h2 e1
  ·have f := ms f e1
   exact rt [.tmp 4] f
  exact ny1 w1 e1
 have f := ms f e1
 exact rt [.tmp 4] f
theorem HB (a0 : Int) : Sa 109 [rI a0] [rB (Uo a0)] := by
 have f := me (Uo.eq_1 a0)
 refine so Tryz.func109 Tryz.ntmps109 ?_
 refine cRs (KO a0 0 10000) ?_
 exact rt [.tmp 2] f
theorem RP (a0 : Int) (a1 : List Int) (u0 : Sm 2330624 a1) : Sa 162 [rI a0, rL 1 iR a1] [rI (yz a0 a1)] := by
 have f := me (yz.eq_1 a0 a1)
 have c1 := sl 2330624 a1 u0
 refine so Tryz.func162 Tryz.ntmps162 ?_
 refine cRs (Nk ((([a0] : List Int) ++ a1) ++ ([a0] : List Int))) ?_
 exact rt [.tmp 4] f
theorem O4 (a0 : YD) (a1 : List Int) (u0 : Sm 2326528 a1) : Sa 111 [a0.row, rL 1 iR a1] [rI (qC a0 a1)] := by
 have f := me (qC.eq_1 a0 a1)
 refine so Tryz.func111 Tryz.ntmps111 ?_
 refine Pt [2, 3, 4, 5, 6, 0, 1, 7, 8] mixed (by kernel_rfl) (by kernel_rfl) (by kernel_rfl) ?_
 have c1 := sl 2326528 a1 u0
 simp
 repeat with_reducible refine sd ?_
 refine cRs (RP a0.Kb (([a0.Method] : List Int) ++ a1) (by simp (maxDischargeDepth := 12) [z8, X0, YO (m := 2330624) (by decide) u0]; try omega)) ?_
 exact rt [.tmp 4] f
theorem PL (a0 : List YD) (a1 : List ZI) (a2 : ZX) (u0 : Sm 2322432 a0) (u1 : Sm 2322432 a1) : Sa 51 [rL 5 YD.row a0, rL 3 ZI.row a1, a2.row] [(KM a0 a1 a2).1.row, rB (KM a0 a1 a2).2] := by
 have f := me (KM.eq_1 a0 a1 a2)
 refine so Tryz.func51 Tryz.ntmps51 ?_
 refine cRs (VM a1 a2.Authority) ?_
 refine cGs (fun gg => (HB a2.Time)) ?_
 refine cFt f ?_ ?_ <;> intro k1 h1 f
 ·exact rt [.cell 6 98, .tmp 7] f
 have i1 : (Ya a1 a2.Authority).toNat < a1.length := by have := Vn a1 a2.Authority; exact il
 simp [i1, ZD]
 repeat with_reducible refine sd ?_
 refine cRs (Vr a0 (nth a1 (Ya a1 a2.Authority).toNat).Key) ?_
 refine cF f ?_ ?_ <;> intro k2 h2 f
 ·exact rt [.cell 6 98, .tmp 7] f
 refine dIo mixed ?_
 have i2 : (QL a0 (nth a1 (Ya a1 a2.Authority).toNat).Key).toNat < a0.length := by have := Ur a0 (nth a1 (Ya a1 a2.Authority).toNat).Key; exact il
 simp [i2, ZD]
 repeat with_reducible refine sd ?_
 refine cRs (Xf.rd (WS a2)) ?_
 refine cRs (O4 (nth a0 (QL a0 (nth a1 (Ya a1 a2.Authority).toNat).Key).toNat) (X9 a2) (by simp (maxDischargeDepth := 12) [Rh, YO (m := 2326528) (by decide) u0, YO (m := 2326528) (by decide) u1]; try omega)) ?_
 exact rt [.cell 6 98, .tmp 7] f
theorem Pu (a0 : List Int) (a1 : List Int) : Sa 220 [rL 1 iR a0, rL 1 iR a1] [rB (qZ a0 a1)] := by
 have f := me (qZ.eq_1 a0 a1)
 refine so Tryz.func220 Tryz.ntmps220 ?_
 refine cF f ?_ ?_ <;> intro k1 h1 f
 ·exact rt [.tmp 4] f
 refine lp1 (yR.eq_2 a0 a1) (fun v1_0 => YM 26 [eL 0 1 a0 iR, eL 1 1 a1 iR, eI 5 (↑v1_0 : Int)]) (fun n1 v1_0 => a0.length < n1 + v1_0 ∧ v1_0 ≤ a0.length) (a0.length + 1) 0 (fun p1 v1_0 e1 j1 => ?_)
 refine cF e1 ?_ ?_ <;> intro k3 h2 e1
 ·have i1 := ix h2
  have m2 := ml a0 (k3 0 _ rfl)
  have w1 := wr v1_0
  refine dIo mixed ?_
  have i2 := ik v1_0 a1
  simp [i1, ZD, i2]
  repeat with_reducible refine sd ?_
  refine cF e1 ?_ ?_ <;> intro k5 h3 e1
  ·have f := ms f e1
   exact rt [.tmp 4] f
  exact ny1 w1 e1
 have f := ms f e1
 exact rt [.tmp 4] f
theorem TO (a0 : ZO) (a1 : ZO) : Sa 198 [a0.row, a1.row] [rB (Km a0 a1)] := by
 have f := me (Km.eq_1 a0 a1)
 refine so Tryz.func198 Tryz.ntmps198 ?_
 refine cGs (fun gg => (Pu a0.Ye a1.Ye)) ?_
 exact rt [.tmp 4] f
theorem Pv (a0 : ZY) (a1 : ZO) : Sa 163 [a0.row, a1.row] [rI (y1 a0 a1)] := by
 have f := me (y1.eq_1 a0 a1)
 refine so Tryz.func163 Tryz.ntmps163 ?_
 refine lp1 (yT.eq_2 a0 a1) (fun v1_0 => YM 21 [eX 2 (a0.row.map .d), eX 3 (a1.row.map .d), eI 5 (↑v1_0 : Int)]) (fun n1 v1_0 => a0.ZR.length < n1 + v1_0 ∧ v1_0 ≤ a0.ZR.length) (a0.ZR.length + 1) 0 (fun p1 v1_0 e1 j1 => ?_)
 refine cF e1 ?_ ?_ <;> intro k2 h1 e1
 ·have i1 := ix h1
  have m2 := ml a0.ZR (k2 8 _ rfl)
  have w1 := wr v1_0
  refine dIo mixed ?_
  simp [i1, ZD]
  repeat with_reducible refine sd ?_
  refine cRs (TO (nth a0.ZR v1_0) a1) ?_
  refine cF e1 ?_ ?_ <;> intro k4 h2 e1
  ·have f := ms f e1
   exact rt [.tmp 4] f
  exact ny1 w1 e1
 have f := ms f e1
 exact rt [.tmp 4] f
theorem NC (a0 : ZY) : Sa 114 [a0.row] [rB (qA a0)] := by
 have f := me (qA.eq_1 a0)
 refine so Tryz.func114 Tryz.ntmps114 ?_
 refine lp1 (xO.eq_2 a0) (fun v1_0 => YM 69 [eX 1 (a0.row.map .d), eI 3 (↑v1_0 : Int)]) (fun n1 v1_0 => a0.ZR.length < n1 + v1_0 ∧ v1_0 ≤ a0.ZR.length) (a0.ZR.length + 1) 0 (fun p1 v1_0 e1 j1 => ?_)
 refine cF e1 ?_ ?_ <;> intro k2 h1 e1
 ·have i1 := ix h1
  have m2 := ml a0.ZR (k2 7 _ rfl)
  have w1 := wr v1_0
  refine dIo mixed ?_
  simp [i1, ZD]
  repeat with_reducible refine sd ?_
  refine cRs (Pv a0 (nth a0.ZR v1_0)) ?_
  refine cF e1 ?_ ?_ <;> intro k4 h2 e1
  ·have f := ms f e1
   exact rt [.tmp 2] f
  exact ny1 w1 e1
 have f := ms f e1
 refine lp1 (xT.eq_2 a0) (fun v2_0 => YM 69 [eX 1 (a0.row.map .d), eI 4 (↑v2_0 : Int)]) (fun n2 v2_0 => a0.ZV.length < n2 + v2_0 ∧ v2_0 ≤ a0.ZV.length) (a0.ZV.length + 1) 0 (fun p2 v2_0 e2 j2 => ?_)
 refine cF e2 ?_ ?_ <;> intro k6 h3 e2
 ·have i2 := ix h3
  have m4 := ml a0.ZV (k6 23 _ rfl)
  have w2 := wr v2_0
  refine dIo mixed ?_
  simp [i2, ZD]
  repeat with_reducible refine sd ?_
  refine cRs (KO (nth a0.ZV v2_0).Count 1 (↑a0.ZR.length : Int)) ?_
  refine gIf ?_ ?_ <;> intro G
  ·have i3 := ik (v2_0 - 1) a0.ZV
   have w3 : IntKind.i64.wrap ((v2_0 : Int) - 1) = (v2_0 : Int) - 1 := Za (by omega) (by omega)
   simp [i3, ZD, w3, VT, G]
   repeat with_reducible refine sdg ?_
   refine gK (fun _ => ?_)
   simp [i2, ZD, G]
   repeat with_reducible refine sdg ?_
   refine cKo e2 ?_ ?_ <;> intro k8 h4 e2
   ·try (simp [G] at h4; done)
    all_goals
     have q4 := h4; try simp [Xe] at q4
     have f := ms f e2
     simp [G]
     repeat with_reducible refine sdg ?_
     exact rtg [.tmp 2] f
   ·try (simp [G] at h4; done)
    all_goals
     have q4 := h4; try simp [Xe] at q4
     simp [G]
     repeat with_reducible refine sdg ?_
     exact ny1 (an w2 (an w3 G)) e2
  ·refine sGg ?_
   refine cKo e2 ?_ ?_ <;> intro k9 h5 e2
   ·try (simp [G] at h5; done)
    all_goals
     have q5 := h5; try simp [Xe] at q5
     have f := ms f e2
     simp [G]
     repeat with_reducible refine sdg ?_
     exact rtg [.tmp 2] f
   ·try (simp [G] at h5; done)
    all_goals
     have q5 := h5; try simp [Xe] at q5
     simp [G]
     repeat with_reducible refine sdg ?_
     exact ny1 (an w2 G) e2
 have f := ms f e2
 refine cRs (KO (↑a0.ZR.length : Int) 1 12) ?_
 exact rt [.tmp 2] f
theorem Sx (a0 : ZY) (a1 : ZF) (u0 : Sm 2326528 a0) (u1 : Sm 2326528 a1) : Sd 52 [a0.row, a1.row] [(Xl a0 a1).1.row, rB (Xl a0 a1).2] := by
 have f := me (Xl.eq_1 a0 a1)
 refine soD Tryz.func52 Tryz.ntmps52 ?_
 refine cDs [] (yf a0 (sg u0)) ?_
 refine W6 [14] mixed (by kernel_rfl) (by kernel_rfl) ?_
 simp
 refine cDs [true, true, true, false, false] (Wy a1 (sg u1)) ?_
 refine Of rfl rfl rfl (by simp) (by simp) (by simp) ?_
 have c1 := sl 2326528 a0.ZV (an u0 u1)
 simp
 refine O9 (olds := (a0.ZV.map ZF.row)) (news := (([a1] : List ZF).map ZF.row)) (l1 := [(8, 1)]) (l2 := [(12, 3), (12, 4)]) (size := 5) rfl rfl rfl rfl (by simp) (by simp) (by simp) (by simp) (by simp) (by simp; omega) ?_
 simp
 refine cRs (NC (ZY.mk a0.ZR (a0.ZV ++ ([a1] : List ZF)))) ?_
 refine cF f ?_ ?_ <;> intro k2 h1 f
 ·refine cDs [] (yf a0 (sg u0)) ?_
  exact rtD [.cell 4 85, .tmp 5] f
 exact rtD [.cell 4 85, .tmp 5] f
theorem XS {a b : Prop} (h : b) (k : a := by (intros; first | omega | with_unfolding_all (first | first | omega | (have f0 : 0 ≤ (ZW a0 a1).1 := (by first | omega | (simp at *; omega)); have fi := Qf a0 a1 f0; omega) | (have f0 : 0 ≤ (ZW a0 a1).1 := (by first | omega | (simp at *; omega)); have fi := Qf a0 a1 f0; have ll := Ku (nth a0.ZC (ZW a0 a1).1.toNat) (Z6 a0.Frame.Methods a0.Frame.Now); omega) | (have fl := Jf a0; have fm := JQ (Z4.XR (Zc.JE u0)); (try dsimp only at *); omega)) | ((try simp only [WQ, show ∀ x, IntKind.i64.wrap x = W x from fun _ => rfl] at *); omega))) : a ∧ b := ⟨k, h⟩
theorem Vw (a0 : Zc) (a1 : Int) (a2 : Int) (u0 : Sm 2310144 a0) : Sd 14 [a0.row, rI a1, rI a2] [(Yb a0 a1 a2).1.row, rB (Yb a0 a1 a2).2] := by
 have f := me (Yb.eq_1 a0 a1 a2)
 refine soD Tryz.func14 Tryz.ntmps14 ?_
 refine cDs [false, false, false, true, true, false, false, true, false, false, true, false] (O0 a0 (sg u0)) ?_
 refine cRs (Ip a0 a1) ?_
 refine cRs (Ss a0.Frame.Methods a0.Frame.Now) ?_
 refine cRs (Xf.rd (kX a0 (sg u0))) ?_
 refine cGs (fun gg => (Ru a0.YT a1)) ?_
 refine cFt f ?_ ?_ <;> intro k1 h1 f
 ·exact rtD [.cell 6 41, .tmp 7] f
 have i1 : (ZW a0 a1).1.toNat < a0.ZC.length := by first | omega | (have f0 : 0 ≤ (ZW a0 a1).1 := (by first | omega | (simp at *; omega)); have fi := Qf a0 a1 f0; omega) | (have f0 : 0 ≤ (ZW a0 a1).1 := (by first | omega | (simp at *; omega)); have fi := Qf a0 a1 f0; have ll := Ku (nth a0.ZC (ZW a0 a1).1.toNat) (Z6 a0.Frame.Methods a0.Frame.Now); omega)
 simp [i1, ZD]
 repeat with_reducible refine XS ?_
 refine cR (Xf.rd (Rw (nth a0.ZC (ZW a0 a1).1.toNat) (Z6 a0.Frame.Methods a0.Frame.Now) (sg (QU (Zc.zB u0))))) ?_
 have i2 : (ZW a0 a1).2.toNat < (Yc (nth a0.ZC (ZW a0 a1).1.toNat) (Z6 a0.Frame.Methods a0.Frame.Now)).length := by first | omega | (have f0 : 0 ≤ (ZW a0 a1).1 := (by first | omega | (simp at *; omega)); have fi := Qf a0 a1 f0; omega) | (have f0 : 0 ≤ (ZW a0 a1).1 := (by first | omega | (simp at *; omega)); have fi := Qf a0 a1 f0; have ll := Ku (nth a0.ZC (ZW a0 a1).1.toNat) (Z6 a0.Frame.Methods a0.Frame.Now); omega)
 have i3 : (ZW a0 a1).2.toNat < (nth a0.ZC (ZW a0 a1).1.toNat).ZS.length := by first | omega | (have f0 : 0 ≤ (ZW a0 a1).1 := (by first | omega | (simp at *; omega)); have fi := Qf a0 a1 f0; omega) | (have f0 : 0 ≤ (ZW a0 a1).1 := (by first | omega | (simp at *; omega)); have fi := Qf a0 a1 f0; have ll := Ku (nth a0.ZC (ZW a0 a1).1.toNat) (Z6 a0.Frame.Methods a0.Frame.Now); omega)
 simp [i2, ZD, i1, i3]
 repeat with_reducible refine XS ?_
 refine lp2 (JP.eq_2 a0 a1 a2) (fun v1_0 v1_1 => YM 140 [eI 2 a2, eX 3 (a0.row.map .d), (6, .one (.bptr 6 0), [.box [.nil 5, .nil 3, .nil 4, .d (.int .i64 0), .d (.int .i64 0), .nil 7, .nil 1, .nil 2, .nil 1, .nil 1, .d (.int .i64 0), .nil 1]]), (8, .one (.bptr 8 0), [.box [.sref 21 0 0 a0.Frame.YR.length, .sref 21 1 0 a0.Frame.ZL.length, .sref 21 2 0 a0.Frame.Methods.length, .d (.int .i64 a0.Frame.zu), .d (.int .i64 a0.Frame.Now), .sref 21 5 0 a0.Zx.length, .sref 21 6 0 a0.Z5.length, .sref 21 7 0 a0.ZC.length, .sref 21 8 0 a0.Yz.length, .sref 21 9 0 a0.YX.length, .d (.int .i64 a0.Next), .sref 21 11 0 a0.YT.length]]), eI 9 (ZW a0 a1).1, eI 10 (ZW a0 a1).2, eL 12 1 (Z7 a0) iR, eI 13 (nth (Yc (nth a0.ZC (ZW a0 a1).1.toNat) (Z6 a0.Frame.Methods a0.Frame.Now)) (ZW a0 a1).2.toNat), (14, .one (.bptr 14 0), [.box [.d (.int .i64 (↑(nth (nth a0.ZC (ZW a0 a1).1.toNat).ZS (ZW a0 a1).2.toNat).ZK.ZR.length : Int)), .d (.int .i64 (Z6 a0.Frame.Methods a0.Frame.Now)), .d (.int .i64 (nth (Yc (nth a0.ZC (ZW a0 a1).1.toNat) (Z6 a0.Frame.Methods a0.Frame.Now)) (ZW a0 a1).2.toNat)), .nil 2, .sref 14 5 0 v1_1.length], .none, .none, .none, .none, .arr false 5 (v1_1.map ZX.row)]), eI 15 (↑v1_0 : Int), (21, .any, [.arr false 5 (a0.Frame.YR.map YD.row), .arr false 3 (a0.Frame.ZL.map ZI.row), .arr false 4 (a0.Frame.Methods.map ZU.row), .none, .none, .arr false 7 (a0.Zx.map Z0.row), .arr false 1 (a0.Z5.map iR), .arr true 2 (a0.ZC.map ZH.row), .arr false 1 (a0.Yz.map iR), .arr false 1 (a0.YX.map iR), .none, .arr false 1 (a0.YT.map iR)])]) (fun n1 v1_0 v1_1 => (Z7 a0).length < n1 + v1_0 ∧ v1_0 ≤ (Z7 a0).length ∧ v1_1.length ≤ 0 + 1 * v1_0) ((Z7 a0).length + 1) 0 ([] : List ZX) (fun p1 v1_0 v1_1 e1 j1 => ?_) (h0 := Yq [((14, 5), none)] [] rfl (by simp))
 try dsimp only at j1
 refine cF e1 ?_ ?_ <;> intro k3 h2 e1
 ·have i4 := ix h2
  have m2 := ml (Z7 a0) (k3 12 _ rfl)
  have w1 := wr v1_0
  refine dIo mixed ?_
  simp [i4, ZD]
  repeat with_reducible refine XS ?_
  refine cRs (PL a0.Frame.YR a0.Frame.ZL (ZX.mk (nth (Z7 a0) v1_0) 0 a2 (nth (Yc (nth a0.ZC (ZW a0 a1).1.toNat) (Z6 a0.Frame.Methods a0.Frame.Now)) (ZW a0 a1).2.toNat) 0) (sg (Z4.MH (Zc.JE u0))) (sg (Z4.XR (Zc.JE u0)))) ?_
  refine cFt e1 ?_ ?_ <;> intro k5 h3 e1
  ·have f := ms f e1
   exact rtD [.cell 6 41, .tmp 7] f
  simp
  repeat with_reducible refine XS ?_
  exact nx2 e1 (hw := Yq [((14, 5), some (111, 0))] [] rfl (by simp [w1]))
 have f := ms f e1
 refine dIo mixed ?_
 simp [i1, ZD, i3]
 repeat with_reducible refine XS ?_
 refine cDs [] (Sx (nth (nth a0.ZC (ZW a0 a1).1.toNat).ZS (ZW a0 a1).2.toNat).ZK (ZF.mk (↑(nth (nth a0.ZC (ZW a0 a1).1.toNat).ZS (ZW a0 a1).2.toNat).ZK.ZR.length : Int) (Z6 a0.Frame.Methods a0.Frame.Now) (nth (Yc (nth a0.ZC (ZW a0 a1).1.toNat) (Z6 a0.Frame.Methods a0.Frame.Now)) (ZW a0 a1).2.toNat) ([] : List Zq) v1_1) (by first | (have fl := Jf a0; have fm := JQ (Z4.XR (Zc.JE u0)); simp [X0]; omega) | (refine YO (n := 2310144) (by decide) ?_; simp (maxDischargeDepth := 12) [u0]; done)) (by first | (have fl := Jf a0; have fm := JQ (Z4.XR (Zc.JE u0)); simp [X0]; omega) | (refine YO (n := 2310144) (by decide) ?_; simp (maxDischargeDepth := 12) [u0]; done))) ?_
 refine W6 [] mixed (by kernel_rfl) (by kernel_rfl) ?_
 simp [i1, ZD, i3]
 repeat with_reducible refine XS ?_
 refine CJ (t := 21) (j := 7) (i := (ZW a0 a1).1.toNat) (c := 1) (k' := (ZW a0 a1).2.toNat) (q := 14) (n := 16) (size := 2) (s := ((nth a0.ZC (ZW a0 a1).1.toNat).ZS.map Zb.row)) (rows := (a0.ZC.map ZH.row)) (ds := (Xl (nth (nth a0.ZC (ZW a0 a1).1.toNat).ZS (ZW a0 a1).2.toNat).ZK (ZF.mk (↑(nth (nth a0.ZC (ZW a0 a1).1.toNat).ZS (ZW a0 a1).2.toNat).ZK.ZR.length : Int) (Z6 a0.Frame.Methods a0.Frame.Now) (nth (Yc (nth a0.ZC (ZW a0 a1).1.toNat) (Z6 a0.Frame.Methods a0.Frame.Now)) (ZW a0 a1).2.toNat) ([] : List Zq) v1_1)).1.row) (L := [(125, 0), (125, 1)]) rfl rfl rfl rfl (by simp; rfl) (by simp) (by simp) (by simp [i1, i3]) (by simp [ZD, Zj, i1, i3]) (by simp [i1, i3]) (by simp) (by simp) (by simp) (by simp) (by simp) (by simp) ?_
 simp [Zw (x := (Zb.mk (nth (nth a0.ZC (ZW a0 a1).1.toNat).ZS (ZW a0 a1).2.toNat).Id (nth (nth a0.ZC (ZW a0 a1).1.toNat).ZS (ZW a0 a1).2.toNat).Yk (nth (nth a0.ZC (ZW a0 a1).1.toNat).ZS (ZW a0 a1).2.toNat).Doc (nth (nth a0.ZC (ZW a0 a1).1.toNat).ZS (ZW a0 a1).2.toNat).Sig (Xl (nth (nth a0.ZC (ZW a0 a1).1.toNat).ZS (ZW a0 a1).2.toNat).ZK (ZF.mk (↑(nth (nth a0.ZC (ZW a0 a1).1.toNat).ZS (ZW a0 a1).2.toNat).ZK.ZR.length : Int) (Z6 a0.Frame.Methods a0.Frame.Now) (nth (Yc (nth a0.ZC (ZW a0 a1).1.toNat) (Z6 a0.Frame.Methods a0.Frame.Now)) (ZW a0 a1).2.toNat) ([] : List Zq) v1_1)).1)) rfl, Zw (x := (ZH.mk (nth a0.ZC (ZW a0 a1).1.toNat).Id ((nth a0.ZC (ZW a0 a1).1.toNat).ZS.set (ZW a0 a1).2.toNat (Zb.mk (nth (nth a0.ZC (ZW a0 a1).1.toNat).ZS (ZW a0 a1).2.toNat).Id (nth (nth a0.ZC (ZW a0 a1).1.toNat).ZS (ZW a0 a1).2.toNat).Yk (nth (nth a0.ZC (ZW a0 a1).1.toNat).ZS (ZW a0 a1).2.toNat).Doc (nth (nth a0.ZC (ZW a0 a1).1.toNat).ZS (ZW a0 a1).2.toNat).Sig (Xl (nth (nth a0.ZC (ZW a0 a1).1.toNat).ZS (ZW a0 a1).2.toNat).ZK (ZF.mk (↑(nth (nth a0.ZC (ZW a0 a1).1.toNat).ZS (ZW a0 a1).2.toNat).ZK.ZR.length : Int) (Z6 a0.Frame.Methods a0.Frame.Now) (nth (Yc (nth a0.ZC (ZW a0 a1).1.toNat) (Z6 a0.Frame.Methods a0.Frame.Now)) (ZW a0 a1).2.toNat) ([] : List Zq) v1_1)).1)))) rfl, ZD, Zj, i1, i3]
 repeat with_reducible refine XS ?_
 exact rtD [.cell 6 41, .tmp 7] f
end Go.Proofs.YtjflhdkeibijaaaGreat
