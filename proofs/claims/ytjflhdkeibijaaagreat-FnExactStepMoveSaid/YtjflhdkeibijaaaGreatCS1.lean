/- Contracts of the functions Oj the abstract machine, part S1. No condition. -/
import Derived.Test.YtjflhdkeibijaaaGreatL
import Derived.Test.YtjflhdkeibijaaaGreatTy
namespace Go.Proofs.YtjflhdkeibijaaaGreat
open Go.Vm Go.Mo
set_option maxHeartbeats 1000000
set_option maxRecDepth 100000
set_option linter.unusedSimpArgs false
set_option linter.unusedVariables false
theorem O7 (a0 : YJ) (u0 : Sm 2342912 a0) : Sd 79 [a0.row] [(UI a0).row] := by
 have f := me (UI.eq_1 a0)
 have c1 := sl 2342912 a0.XE u0
 have c2 := sl 2342912 a0.Zc u0
 have c3 := sl 2342912 a0.Methods u0
 refine soD Tryz.func79 Tryz.ntmps79 ?_
 exact rtD [.cell 2 37] f
theorem Py (a0 : YJ) (u0 : Sm 2342912 a0) : Sd 79 [a0.row] [a0.row] := by
  have h := O7 a0 u0
  rwa [N7] at h
theorem HO (a0 : ZR) (u0 : Sm 2342912 a0) : Sd 141 [a0.row] [(Ou a0).row] := by
 have f := me (Ou.eq_1 a0)
 refine soD Tryz.func141 Tryz.ntmps141 ?_
 refine HW [2, 3, 4, 5, 6, 7, 8, 9, 0, 1, 10, 11] mixed (by kernel_rfl) (by kernel_rfl) (by kernel_rfl) ?_
 have c1 := sl 2342912 a0.ZE u0
 have c2 := sl 2342912 a0.ZG u0
 simp
 repeat with_reducible refine sd ?_
 exact rtD [.cell 2 88] f
theorem LA (a0 : ZR) (u0 : Sm 2342912 a0) : Sd 141 [a0.row] [a0.row] := by
  have h := HO a0 u0
  rwa [HL] at h
theorem Lj (a0 : ZM) (u0 : Sm 2342912 a0) : Sd 192 [a0.row] [(Tz a0).row] := by
 have f := me (Tz.eq_1 a0)
 refine soD Tryz.func192 Tryz.ntmps192 ?_
 refine HW [2, 3, 4, 5, 0, 1, 6, 7, 8, 9] mixed (by kernel_rfl) (by kernel_rfl) (by kernel_rfl) ?_
 have c1 := sl 2342912 a0.Yh u0
 simp
 repeat with_reducible refine sd ?_
 exact rtD [.cell 2 187] f
theorem MC (a0 : ZM) (u0 : Sm 2342912 a0) : Sd 192 [a0.row] [a0.row] := by
  have h := Lj a0 u0
  rwa [Lz] at h
theorem Hn (a0 : List ZM) (u0 : Sm 2338816 a0) : Sd 158 [rL 3 ZM.row a0] [rL 3 ZM.row (TM a0)] := by
 have f := me (TM.eq_1 a0)
 refine soD Tryz.func158 Tryz.ntmps158 ?_
 refine Bz (news := (([] : List ZM).map ZM.row)) (L := []) rfl rfl rfl rfl (by simp) (by simp) (by simp) (by simp) (by simp) (by simp) ?_
 simp
 refine lp2 (kO.eq_2 a0) (fun v1_0 v1_1 => YM 21 [eL 0 3 a0 ZM.row, (3, .one (.sref 3 0 0 v1_0.length), [.arr true 3 (v1_0.map ZM.row)]), eI 4 (↑v1_1 : Int)]) (fun n1 v1_0 v1_1 => a0.length < n1 + v1_1 ∧ v1_1 ≤ a0.length ∧ v1_0.length ≤ 0 + 1 * v1_1) (a0.length + 1) ([] : List ZM) 0 (fun p1 v1_0 v1_1 e1 j1 => ?_) (h0 := YO [((3, 0), some (5, 0))] [] rfl (by simp))
 refine cFf e1 ?_ ?_ <;> intro k2 h1 e1
 ·have i1 := ix h1
  have m2 := ml a0 (k2 0 _ rfl)
  have c1 := sl 2338816 a0 u0
  have w1 := wr v1_1
  simp [i1, ZD]
  repeat with_reducible refine sd ?_
  refine cDs [true, false] (MC (nth a0 v1_1) (sg (Yl u0))) ?_
  refine jY rfl rfl rfl (by simp) (by simp) (by simp) ?_
  simp
  refine kE (olds := (v1_0.map ZM.row)) (news := (([(nth a0 v1_1)] : List ZM).map ZM.row)) (l1 := [(3, 0)]) (l2 := [(17, 1)]) (size := 3) rfl rfl rfl rfl (by simp) (by simp) (by simp) (by simp) (by simp) (by simp; omega) ?_
  simp
  exact nx2 e1 (hw := YO [((3, 0), some (19, 0))] [] rfl (by simp [w1]))
 have c2 := sl 2338816 a0 u0
 have f := ms f e1
 exact rtD [.tmp 2] f
theorem II (a0 : List ZM) (u0 : Sm 2338816 a0) : Sd 158 [rL 3 ZM.row a0] [rL 3 ZM.row a0] := by
  have h := Hn a0 u0
  rwa [Ho] at h
theorem LP (a0 : ZL) (u0 : Sm 2342912 a0) : Sd 113 [a0.row] [(Ta a0).row] := by
 have f := me (Ta.eq_1 a0)
 have c1 := sl 2342912 a0.Path u0
 have c2 := sl 2342912 a0.Zu u0
 refine soD Tryz.func113 Tryz.ntmps113 ?_
 exact rtD [.cell 2 96] f
theorem MB (a0 : ZL) (u0 : Sm 2342912 a0) : Sd 113 [a0.row] [a0.row] := by
  have h := LP a0 u0
  rwa [IF] at h
theorem Lr (a0 : Zf) (u0 : Sm 2334720 a0) : Sd 106 [a0.row] [(VG a0).row] := by
 have f := me (VG.eq_1 a0)
 refine soD Tryz.func106 Tryz.ntmps106 ?_
 refine cDs [] (II a0.ZS (sg (Zf.jt u0))) ?_
 refine lp2 (jJ.eq_2 a0) (fun v1_0 v1_1 => YM 28 [eX 1 (a0.row.map .d), (2, .one (.bptr 2 0), [.box [.nil 3, .nil 5]]), (3, .one (.bptr 3 0), [.box [.sref 7 0 0 a0.ZS.length, .sref 3 2 0 v1_1.length], .none, .arr true 5 (v1_1.map ZL.row)]), eI 4 (↑v1_0 : Int), (7, .any, [.arr true 3 (a0.ZS.map ZM.row)])]) (fun n1 v1_0 v1_1 => a0.Zj.length < n1 + v1_0 ∧ v1_0 ≤ a0.Zj.length ∧ v1_1.length ≤ 0 + 1 * v1_0) (a0.Zj.length + 1) 0 ([] : List ZL) (fun p1 v1_0 v1_1 e1 j1 => ?_) (h0 := YO [((3, 2), none)] [] rfl (by simp))
 refine cF e1 ?_ ?_ <;> intro k2 h1 e1
 ·have i1 := ix h1
  have m2 := ml a0.Zj (k2 11 _ rfl)
  have c1 := sl 2334720 a0.Zj u0
  have w1 := wr v1_0
  refine xj [25] mixed (by kernel_rfl) (by kernel_rfl) ?_
  simp [i1, ZD]
  repeat with_reducible refine sd ?_
  refine cDs [true, true, true, false, false] (MB (nth a0.Zj v1_0) (sg (Yl (Zf.Wh u0)))) ?_
  refine jY rfl rfl rfl (by simp) (by simp) (by simp) ?_
  simp
  refine kE (olds := (v1_1.map ZL.row)) (news := (([(nth a0.Zj v1_0)] : List ZL).map ZL.row)) (l1 := [(3, 2)]) (l2 := [(23, 3), (23, 4)]) (size := 5) rfl rfl rfl rfl (by simp) (by simp) (by simp) (by simp) (by simp) (by simp; omega) ?_
  simp
  exact nx2 e1 (hw := YO [((3, 2), some (25, 0))] [] rfl (by simp [w1]))
 have c2 := sl 2334720 a0.Zj u0
 have f := ms f e1
 exact rtD [.cell 2 85] f
theorem N0 (a0 : Zf) (u0 : Sm 2334720 a0) : Sd 106 [a0.row] [a0.row] := by
  have h := Lr a0 u0
  rwa [LG] at h
theorem IA (a0 : ZI) (u0 : Sm 2330624 a0) : Sd 81 [a0.row] [(Tx a0).row] := by
 have f := me (Tx.eq_1 a0)
 refine soD Tryz.func81 Tryz.ntmps81 ?_
 refine cDs [true, false, false] (LA a0.Doc (sg (ZI.TU u0))) ?_
 refine cDs [] (N0 a0.ZQ (sg (ZI.yp u0))) ?_
 exact rtD [.cell 2 92] f
theorem Xg (a0 : ZI) (u0 : Sm 2330624 a0) : Sd 81 [a0.row] [a0.row] := by
  have h := IA a0 u0
  rwa [IU] at h
theorem IT (a0 : ZC) (u0 : Sm 2326528 a0) : Sd 80 [a0.row] [(VE a0).row] := by
 have f := me (VE.eq_1 a0)
 refine soD Tryz.func80 Tryz.ntmps80 ?_
 refine lp2 (jF.eq_2 a0) (fun v1_0 v1_1 => YM 27 [eX 1 (a0.row.map .d), (2, .one (.bptr 2 0), [.box [.d (.int .i64 0), .nil 16]]), (3, .one (.bptr 3 0), [.box [.d (.int .i64 a0.Id), .sref 3 2 0 v1_1.length], .none, .arr true 16 (v1_1.map ZI.row)]), eI 4 (↑v1_0 : Int)]) (fun n1 v1_0 v1_1 => a0.ZF.length < n1 + v1_0 ∧ v1_0 ≤ a0.ZF.length ∧ v1_1.length ≤ 0 + 1 * v1_0) (a0.ZF.length + 1) 0 ([] : List ZI) (fun p1 v1_0 v1_1 e1 j1 => ?_) (h0 := YO [((3, 2), none)] [] rfl (by simp))
 refine cF e1 ?_ ?_ <;> intro k2 h1 e1
 ·have i1 := ix h1
  have m2 := ml a0.ZF (k2 10 _ rfl)
  have c1 := sl 2326528 a0.ZF u0
  have w1 := wr v1_0
  refine xj [24] mixed (by kernel_rfl) (by kernel_rfl) ?_
  simp [i1, ZD]
  repeat with_reducible refine sd ?_
  refine cDs [true, true, true, false, false] (Xg (nth a0.ZF v1_0) (sg (Yl (ZC.YW u0)))) ?_
  refine jY rfl rfl rfl (by simp) (by simp) (by simp) ?_
  simp
  refine kE (olds := (v1_1.map ZI.row)) (news := (([(nth a0.ZF v1_0)] : List ZI).map ZI.row)) (l1 := [(3, 2)]) (l2 := [(22, 3), (22, 4), (22, 14), (22, 15)]) (size := 16) rfl rfl rfl rfl (by simp) (by simp) (by simp) (by simp) (by simp) (by simp; omega) ?_
  simp
  exact nx2 e1 (hw := YO [((3, 2), some (24, 0))] [] rfl (by simp [w1]))
 have c2 := sl 2326528 a0.ZF u0
 have f := ms f e1
 exact rtD [.cell 2 64] f
theorem Xi (a0 : ZC) (u0 : Sm 2326528 a0) : Sd 80 [a0.row] [a0.row] := by
  have h := IT a0 u0
  rwa [M9] at h
theorem IB (a0 : Ze) (u0 : Sm 2322432 a0) : Sd 27 [a0.row] [(VF a0).row] := by
 have f := me (VF.eq_1 a0)
 refine soD Tryz.func27 Tryz.ntmps27 ?_
 refine HW [0, 1, 2, 3, 4, 5, 6, 7, 8, 9, 10, 11, 12, 13, 14, 15, 16, 17, 18, 21, 22, 23, 24, 19, 20, 25, 26, 27] mixed (by kernel_rfl) (by kernel_rfl) (by kernel_rfl) ?_
 simp
 have c1 := sl 2322432 a0.Zy u0
 have c2 := sl 2322432 a0.Z6 u0
 have c3 := sl 2322432 a0.XC u0
 have c4 := sl 2322432 a0.Yq u0
 have c5 := sl 2322432 a0.Ym u0
 refine cDs [false, false, false] (Py a0.Frame (sg (Ze.PH u0))) ?_
 refine lp2 (jN.eq_2 a0) (fun v1_0 v1_1 => YM 50 [eX 1 (a0.row.map .d), (2, .one (.bptr 2 0), [.box [.nil 5, .nil 3, .nil 4, .d (.int .i64 0), .d (.int .i64 0), .nil 7, .nil 1, .nil 2, .nil 1, .nil 1, .d (.int .i64 0), .nil 1]]), (3, .one (.bptr 3 0), [.box [.sref 7 0 0 a0.Frame.XE.length, .sref 7 1 0 a0.Frame.Zc.length, .sref 7 2 0 a0.Frame.Methods.length, .d (.int .i64 a0.Frame.xh), .d (.int .i64 a0.Frame.Now), .sref 11 0 0 a0.Zy.length, .sref 15 0 0 a0.Z6.length, .sref 3 8 0 v1_1.length, .sref 19 0 0 a0.XC.length, .sref 23 0 0 a0.Yq.length, .d (.int .i64 a0.Next), .sref 29 0 0 a0.Ym.length], .none, .none, .none, .none, .none, .none, .none, .arr true 2 (v1_1.map ZC.row)]), eI 4 (↑v1_0 : Int), (7, .any, [.arr false 5 (a0.Frame.XE.map YQ.row), .arr false 3 (a0.Frame.Zc.map ZN.row), .arr false 4 (a0.Frame.Methods.map ZV.row)]), (11, .any, [.arr false 7 (a0.Zy.map Zz.row)]), (15, .any, [.arr false 1 (a0.Z6.map iR)]), (19, .any, [.arr false 1 (a0.XC.map iR)]), (23, .any, [.arr false 1 (a0.Yq.map iR)]), (29, .any, [.arr false 1 (a0.Ym.map iR)])]) (fun n1 v1_0 v1_1 => a0.ZH.length < n1 + v1_0 ∧ v1_0 ≤ a0.ZH.length ∧ v1_1.length ≤ 0 + 1 * v1_0) (a0.ZH.length + 1) 0 ([] : List ZC) (fun p1 v1_0 v1_1 e1 j1 => ?_) (h0 := YO [((3, 8), none)] [] rfl (by simp))
 refine cF e1 ?_ ?_ <;> intro k3 h1 e1
 ·have i1 := ix h1
  have m2 := ml a0.ZH (k3 33 _ rfl)
  have c6 := sl 2322432 a0.ZH u0
  have w1 := wr v1_0
  refine xj [47] mixed (by kernel_rfl) (by kernel_rfl) ?_
  simp [i1, ZD]
  repeat with_reducible refine sd ?_
  refine cDs [] (Xi (nth a0.ZH v1_0) (sg (Yl (Ze.Jo u0)))) ?_
  refine jY rfl rfl rfl (by simp) (by simp) (by simp) ?_
  simp
  refine kE (olds := (v1_1.map ZC.row)) (news := (([(nth a0.ZH v1_0)] : List ZC).map ZC.row)) (l1 := [(3, 8)]) (l2 := [(45, 1)]) (size := 2) rfl rfl rfl rfl (by simp) (by simp) (by simp) (by simp) (by simp) (by simp; omega) ?_
  simp
  exact nx2 e1 (hw := YO [((3, 8), some (47, 0))] [] rfl (by simp [w1]))
 have c7 := sl 2322432 a0.ZH u0
 have f := ms f e1
 exact rtD [.cell 2 41] f
theorem MH (a0 : Ze) (u0 : Sm 2322432 a0) : Sd 27 [a0.row] [a0.row] := by
  have h := IB a0 u0
  rwa [M6] at h
theorem S6 (a0 : List ZV) (a1 : Int) : Sa 47 [rL 4 ZV.row a0, rI a1] [rI (Yt a0 a1)] := by
 have f := me (Yt.eq_1 a0 a1)
 refine so Tryz.func47 Tryz.ntmps47 ?_
 refine lp2 (JX.eq_2 a0 a1) (fun v1_0 v1_1 => YM 54 [eL 0 4 a0 ZV.row, eI 1 a1, eI 5 v1_0, eI 6 (↑v1_1 : Int)]) (fun n1 v1_0 v1_1 => a0.length < n1 + v1_1 ∧ v1_1 ≤ a0.length ∧ -1 ≤ v1_0 ∧ v1_0 < (a0.length : Int)) (a0.length + 1) (-1) 0 (fun p1 v1_0 v1_1 e1 j1 => ?_)
 try dsimp only at j1
 refine cF e1 ?_ ?_ <;> intro k2 h1 e1
 ·have i1 := ix h1
  have m2 := ml a0 (k2 0 _ rfl)
  have w1 := wr v1_1
  refine dIo mixed ?_
  simp [i1, ZD]
  repeat with_reducible refine sd ?_
  refine gIf ?_ ?_ <;> intro G
  ·simp [i1, ZD, G]
   repeat with_reducible refine sdg ?_
   refine gJf G ?_ ?_ <;> intro G
   ·try (simp at G; done)
    all_goals
     simp [i1, ZD, G]
     repeat with_reducible refine sdg ?_
     refine gK (fun _ => ?_)
     have i2 := ik v1_0.toNat a0
     simp [i2, ZD, G]
     repeat with_reducible refine sdg ?_
     refine cK e1 ?_ ?_ <;> intro k4 h2 e1
     ·try (simp [G] at h2; done)
      all_goals
       exact ny2 (an w1 G) e1 (hI := by first | omega | (simp at *; omega))
     ·try (simp [G] at h2; done)
      all_goals
       exact ny2 (an w1 G) e1 (hI := by first | omega | (simp at *; omega))
   ·try (simp at G; done)
    all_goals
     refine sGg ?_
     refine cK e1 ?_ ?_ <;> intro k5 h3 e1
     ·try (simp [G] at h3; done)
      all_goals
       exact ny2 (an w1 G) e1 (hI := by first | omega | (simp at *; omega))
     ·try (simp [G] at h3; done)
      all_goals
       exact ny2 (an w1 G) e1 (hI := by first | omega | (simp at *; omega))
  ·refine gJf G ?_ ?_ <;> intro G
   ·try (simp at G; done)
    all_goals
     simp [i1, ZD, G]
     repeat with_reducible refine sdg ?_
     refine gK (fun _ => ?_)
     have i4 := ik v1_0.toNat a0
     simp [i4, ZD, G]
     repeat with_reducible refine sdg ?_
     refine cK e1 ?_ ?_ <;> intro k6 h4 e1
     ·try (simp [G] at h4; done)
      all_goals
       exact ny2 (an w1 G) e1 (hI := by first | omega | (simp at *; omega))
     ·try (simp [G] at h4; done)
      all_goals
       exact ny2 (an w1 G) e1 (hI := by first | omega | (simp at *; omega))
   ·try (simp at G; done)
    all_goals
     refine sGg ?_
     refine cK e1 ?_ ?_ <;> intro k7 h5 e1
     ·try (simp [G] at h5; done)
      all_goals
       exact ny2 (an w1 G) e1 (hI := by first | omega | (simp at *; omega))
     ·try (simp [G] at h5; done)
      all_goals
       exact ny2 (an w1 G) e1 (hI := by first | omega | (simp at *; omega))
 have f := ms f e1
 refine cFt f ?_ ?_ <;> intro k8 h6 f
 ·exact rt [.tmp 4] f
 have i6 := ik v1_0.toNat a0
 simp [i6, ZD]
 repeat with_reducible refine sd ?_
 exact rt [.tmp 4] f
theorem Qs (a0 : Int) (a1 : Int) (a2 : Int) : Sa 63 [rI a0, rI a1, rI a2] [rB (XM a0 a1 a2)] := by
 have f := me (XM.eq_1 a0 a1 a2)
 refine so Tryz.func63 Tryz.ntmps63 ?_
 exact rt [.tmp 6] f
theorem SX (a0 : Ze) (a1 : Int) : Sa 28 [a0.row, rI a1] [rB (xO a0 a1)] := by
 have f := me (xO.eq_1 a0 a1)
 refine so Tryz.func28 Tryz.ntmps28 ?_
 refine cRs (Qs a1 0 (W ((↑a0.ZH.length : Int) - 1))) ?_
 exact rt [.tmp 4] f
theorem jf (a0 : ZC) (a1 : Int) : Sa 104 [a0.row, rI a1] [rI (Xo a0 a1)] := by
 have f := me (Xo.eq_1 a0 a1)
 refine so Tryz.func104 Tryz.ntmps104 ?_
 refine lp1 (K1.eq_2 a0 a1) (fun v1_0 => YM 22 [eI 1 a1, eX 2 (a0.row.map .d), eI 5 (↑v1_0 : Int)]) (fun n1 v1_0 => a0.ZF.length < n1 + v1_0 ∧ v1_0 ≤ a0.ZF.length) (a0.ZF.length + 1) 0 (fun p1 v1_0 e1 j1 => ?_)
 refine cFf e1 ?_ ?_ <;> intro k2 h1 e1
 ·have i1 := ix h1
  have m2 := ml a0.ZF (k2 8 _ rfl)
  have w1 := wr v1_0
  simp [i1, ZD]
  repeat with_reducible refine sd ?_
  refine cF e1 ?_ ?_ <;> intro k3 h2 e1
  ·have f := ms f e1
   exact rt [.tmp 4] f
  exact ny1 w1 e1
 have f := ms f e1
 exact rt [.tmp 4] f
theorem WD (a0 : ZR) : Sa 195 [a0.row] [rB (Q8 a0)] := by
 have f := me (Q8.eq_1 a0)
 refine so Tryz.func195 Tryz.ntmps195 ?_
 refine lp1 (Jd.eq_2 a0) (fun v1_0 => YM 51 [eX 1 (a0.row.map .d), eI 3 (↑v1_0 : Int)]) (fun n1 v1_0 => a0.ZE.length < n1 + v1_0 ∧ v1_0 ≤ a0.ZE.length) (a0.ZE.length + 1) 0 (fun p1 v1_0 e1 j1 => ?_)
 refine cFf e1 ?_ ?_ <;> intro k2 h1 e1
 ·have i1 := ix h1
  have m2 := ml a0.ZE (k2 7 _ rfl)
  have w1 := wr v1_0
  simp [i1, ZD]
  repeat with_reducible refine sd ?_
  refine cF e1 ?_ ?_ <;> intro k3 h2 e1
  ·have f := ms f e1
   exact rt [.tmp 2] f
  exact ny1 w1 e1
 have f := ms f e1
 refine lp1 (Jg.eq_2 a0) (fun v2_0 => YM 51 [eX 1 (a0.row.map .d), eI 4 (↑v2_0 : Int)]) (fun n2 v2_0 => a0.ZG.length < n2 + v2_0 ∧ v2_0 ≤ a0.ZG.length) (a0.ZG.length + 1) 0 (fun p2 v2_0 e2 j2 => ?_)
 refine cFf e2 ?_ ?_ <;> intro k5 h3 e2
 ·have i2 := ix h3
  have m4 := ml a0.ZG (k5 21 _ rfl)
  have w2 := wr v2_0
  simp [i2, ZD]
  repeat with_reducible refine sd ?_
  refine cRs (Qs (nth a0.ZG v2_0) 1 1000000000000) ?_
  refine cFo e2 ?_ ?_ <;> intro k6 h4 e2
  ·have q4 := h4; try simp [XM] at q4
   have f := ms f e2
   simp
   exact rt [.tmp 2] f
  have q4 := h4; try simp [XM] at q4
  simp
  exact ny1 w2 e2
 have f := ms f e2
 refine cRs (Qs a0.K4 0 999) ?_
 refine cGs (fun gg => (Qs (↑a0.ZE.length : Int) 1 6)) ?_
 exact rt [.tmp 2] f
theorem DR (a0 : Int) (a1 : Int) : Sa 219 [rI a0, rI a1] [rI (Iy a0 a1)] := by
 have f := me (Iy.eq_1 a0 a1)
 refine so Tryz.func219 Tryz.ntmps219 ?_
 refine cRs (Qs a1 1 1000000000000) ?_
 refine cFo f ?_ ?_ <;> intro k1 h1 f
 ·have q1 := h1; try simp [XM] at q1
  simp
  exact rt [.tmp 4] f
 have q1 := h1; try simp [XM] at q1
 simp
 repeat with_reducible refine sd ?_
 exact rt [.tmp 4] f
theorem F4 (a0 : List Int) : Sa 197 [rL 1 iR a0] [rI (OX a0)] := by
 have f := me (OX.eq_1 a0)
 refine so Tryz.func197 Tryz.ntmps197 ?_
 refine lp2 (Wa.eq_2 a0) (fun v1_0 v1_1 => YM 22 [eL 0 1 a0 iR, eI 3 v1_0, eI 4 (↑v1_1 : Int)]) (fun n1 v1_0 v1_1 => a0.length < n1 + v1_1 ∧ v1_1 ≤ a0.length) (a0.length + 1) 11 0 (fun p1 v1_0 v1_1 e1 j1 => ?_)
 refine cFf e1 ?_ ?_ <;> intro k2 h1 e1
 ·have i1 := ix h1
  have m2 := ml a0 (k2 0 _ rfl)
  have w1 := wr v1_1
  simp [i1, ZD]
  repeat with_reducible refine sd ?_
  refine cRs (DR (nth a0 v1_1) 2147483647) ?_
  exact ny2 w1 e1
 have f := ms f e1
 exact rt [.tmp 2] f
theorem JS (a0 : Int) (a1 : List Int) (u0 : Sm 68719476736 a1) : Sa 193 [rI a0, rL 1 iR a1] [rI (Qh a0 a1)] := by
 have f := me (Qh.eq_1 a0 a1)
 have c1 := sl 68719476736 a1 u0
 refine so Tryz.func193 Tryz.ntmps193 ?_
 refine cRs (F4 (([7, a0] : List Int) ++ a1)) ?_
 exact rt [.tmp 4] f
theorem Su (a0 : Int) (a1 : ByteArray) (a2 : Int) (u0 : Sm 2326528 a1) : Sa 196 [rI a0, rS a1, rI a2] [rI (yD a0 a1 a2)] := by
 have f := me (yD.eq_1 a0 a1 a2)
 refine so Tryz.func196 Tryz.ntmps196 ?_
 refine lp2 (KV.eq_2 a1) (fun v1_0 v1_1 => YM 27 [eI 0 a0, (1, .one (.d (.str a1)), []), (7, .one (.sref 7 0 0 v1_0.length), [.arr false 1 (v1_0.map iR)]), eI 8 (↑v1_1 : Int)]) (fun n1 v1_0 v1_1 => a1.size < n1 + v1_1 ∧ v1_1 ≤ a1.size ∧ v1_0.length ≤ 1 + 1 * v1_1) (a1.size + 1) ([a2] : List Int) 0 (fun p1 v1_0 v1_1 e1 j1 => ?_) (h0 := YO [((7, 0), some (10, 0))] [] rfl (by simp))
 refine cFo e1 ?_ ?_ <;> intro k2 h1 e1
 ·have q1 := h1; try simp at q1
  have c1 : a1.size ≤ 2326528 := LK (by simp (maxDischargeDepth := 12) [u0])
  have w1 := wr v1_1
  simp
  repeat with_reducible refine sd ?_
  exact nx2 e1 (hw := YO [((7, 0), some (23, 0))] [] rfl (by simp [w1]))
 have q1 := h1; try simp at q1
 have c2 : a1.size ≤ 2326528 := LK (by simp (maxDischargeDepth := 12) [u0])
 have f := ms f e1
 simp
 refine cRs (JS a0 v1_0 (by first | (simp (maxDischargeDepth := 12) [Xd]; omega) | (simp (maxDischargeDepth := 12) [YL (m := 68719476736) (by decide) u0]; done))) ?_
 exact rt [.tmp 6] f
theorem Oh (a0 : Int) (a1 : ZR) (u0 : Sm 2322432 a1) : Sa 161 [rI a0, a1.row] [rI (zj a0 a1)] := by
 have f := me (zj.eq_1 a0 a1)
 refine so Tryz.func161 Tryz.ntmps161 ?_
 refine cRs (WD a1) ?_
 refine cF f ?_ ?_ <;> intro k1 h1 f
 ·exact rt [.tmp 4] f
 refine lp2 (zE.eq_2 a0 a1) (fun v1_0 v1_1 => YM 38 [eI 0 a0, eX 3 (a1.row.map .d), (5, .one (.sref 5 0 0 v1_0.length), [.arr false 1 (v1_0.map iR)]), eI 6 (↑v1_1 : Int)]) (fun n1 v1_0 v1_1 => a1.ZE.length < n1 + v1_1 ∧ v1_1 ≤ a1.ZE.length ∧ v1_0.length ≤ 1 + 1 * v1_1) (a1.ZE.length + 1) ([a1.K4] : List Int) 0 (fun p1 v1_0 v1_1 e1 j1 => ?_) (h0 := YO [((5, 0), some (12, 0))] [] rfl (by simp))
 try dsimp only at j1
 refine cF e1 ?_ ?_ <;> intro k3 h2 e1
 ·have i1 := ix h2
  have m2 := ml a1.ZE (k3 15 _ rfl)
  have c1 := sl 2322432 a1.ZE u0
  have w1 := wr v1_1
  refine dIo mixed ?_
  have i2 : v1_1 < a1.ZG.length := by (have := T6 (a := a1); first | (simp_all; done) | (simp_all; omega))
  simp [i1, ZD, i2]
  repeat with_reducible refine sd ?_
  refine cRs (Su a0 (nth a1.ZE v1_1) (nth a1.ZG v1_1) (sg (Yl (ZR.TS u0)))) ?_
  exact nx2 e1 (hw := YO [((5, 0), some (34, 0))] [] rfl (by simp [w1]))
 have c2 := sl 2322432 a1.ZE u0
 have f := ms f e1
 refine cRs (JS a0 v1_0 (by first | (simp (maxDischargeDepth := 12) [Xd]; omega) | (simp (maxDischargeDepth := 12) [YL (m := 68719476736) (by decide) u0]; done))) ?_
 exact rt [.tmp 4] f
theorem Uz (a0 : Int) (a1 : List ZM) (u0 : Sm 2326528 a1) : Sa 194 [rI a0, rL 3 ZM.row a1] [rI (JZ a0 a1)] := by
 have f := me (JZ.eq_1 a0 a1)
 refine so Tryz.func194 Tryz.ntmps194 ?_
 refine lp2 (Ja.eq_2 a0 a1) (fun v1_0 v1_1 => YM 39 [eI 0 a0, eL 1 3 a1 ZM.row, (5, .one (.sref 5 0 0 v1_0.length), [.arr false 1 (v1_0.map iR)]), eI 6 (↑v1_1 : Int)]) (fun n1 v1_0 v1_1 => a1.length < n1 + v1_1 ∧ v1_1 ≤ a1.length ∧ v1_0.length ≤ 1 + 1 * v1_1) (a1.length + 1) ([2] : List Int) 0 (fun p1 v1_0 v1_1 e1 j1 => ?_) (h0 := YO [((5, 0), some (7, 0))] [] rfl (by simp))
 refine cF e1 ?_ ?_ <;> intro k2 h1 e1
 ·have i1 := ix h1
  have m2 := ml a1 (k2 1 _ rfl)
  have c1 := sl 2326528 a1 u0
  have w1 := wr v1_1
  refine HW [2, 3, 4, 5, 6, 7, 8, 9, 10, 11, 12, 13, 14, 15, 16, 17, 18, 0, 1, 19, 20, 21, 22] mixed (by kernel_rfl) (by kernel_rfl) (by kernel_rfl) ?_
  have c2 := sl 2326528 (nth a1 v1_1).Yh u0
  simp [i1, ZD]
  repeat with_reducible refine sd ?_
  refine cRs (JS a0 (([(nth a1 v1_1).Key, (nth a1 v1_1).Mark] : List Int) ++ (nth a1 v1_1).Yh) (by simp (maxDischargeDepth := 12) [yl, Xd, YL (m := 68719476736) (by decide) u0]; try omega)) ?_
  exact nx2 e1 (hw := YO [((5, 0), some (35, 0))] [] rfl (by simp [w1]))
 have c3 := sl 2326528 a1 u0
 have f := ms f e1
 refine cRs (JS a0 v1_0 (by first | (simp (maxDischargeDepth := 12) [Xd]; omega) | (simp (maxDischargeDepth := 12) [YL (m := 68719476736) (by decide) u0]; done))) ?_
 exact rt [.tmp 4] f
theorem Px (a0 : Za) : Sd 112 [a0.row] [rL 1 iR (zk a0)] := by
 have f := me (zk.eq_1 a0)
 refine soD Tryz.func112 Tryz.ntmps112 ?_
 exact rtD [.tmp 2] f
theorem Vx (a0 : Int) (a1 : ZL) (u0 : Sm 2326528 a1) : Sa 159 [rI a0, a1.row] [rI (J8 a0 a1)] := by
 have f := me (J8.eq_1 a0 a1)
 refine so Tryz.func159 Tryz.ntmps159 ?_
 refine lp2 (QJ.eq_2 a1) (fun v1_0 v1_1 => YM 75 [eI 0 a0, eX 3 (a1.row.map .d), (5, .one (.sref 5 0 0 v1_0.length), [.arr false 1 (v1_0.map iR)]), eI 6 (↑v1_1 : Int)]) (fun n1 v1_0 v1_1 => a1.Path.length < n1 + v1_1 ∧ v1_1 ≤ a1.Path.length ∧ v1_0.length ≤ 4 + 2 * v1_1) (a1.Path.length + 1) ([4, a1.Count, a1.Method, a1.Ud] : List Int) 0 (fun p1 v1_0 v1_1 e1 j1 => ?_) (h0 := YO [((5, 0), some (14, 0))] [] rfl (by simp))
 refine cFo e1 ?_ ?_ <;> intro k2 h1 e1
 ·have q1 := h1; try simp at q1
  have i1 := ix h1
  have m2 := ml a1.Path (k2 17 _ rfl)
  have c1 := sl 2326528 a1.Path u0
  have w1 := wr v1_1
  simp [i1, ZD]
  repeat with_reducible refine sd ?_
  refine cFo e1 ?_ ?_ <;> intro k3 h2 e1
  ·have q2 := h2; try simp at q2
   simp
   repeat with_reducible refine sd ?_
   exact nx2 e1 (hw := YO [((5, 0), some (39, 0))] [] rfl (by simp [w1]))
  have q2 := h2; try simp at q2
  simp
  repeat with_reducible refine sd ?_
  exact nx2 e1 (hw := YO [((5, 0), some (42, 0))] [] rfl (by simp [w1]))
 have q1 := h1; try simp at q1
 have c2 := sl 2326528 a1.Path u0
 have f := ms f e1
 simp
 repeat with_reducible refine sd ?_
 refine lp2 (JH.eq_2 a1) (fun v2_0 v2_1 => YM 75 [eI 0 a0, eX 3 (a1.row.map .d), (5, .one (.sref 5 0 0 v2_0.length), [.arr false 1 (v2_0.map iR)]), eI 7 (↑v2_1 : Int)]) (fun n2 v2_0 v2_1 => a1.Zu.length < n2 + v2_1 ∧ v2_1 ≤ a1.Zu.length ∧ v2_0.length ≤ 5 + 2 * 2326528 + 6 * v2_1) (a1.Zu.length + 1) (v1_0 ++ ([(↑a1.Zu.length : Int)] : List Int)) 0 (fun p2 v2_0 v2_1 e2 j2 => ?_) (hI := by (have o : a1.Path.length ≤ 2326528 := zM (by simp (maxDischargeDepth := 12) [u0]); simp at *; omega)) (h0 := YO [((5, 0), some (48, 0))] [] rfl (by simp))
 try dsimp only at j2
 refine cFo e2 ?_ ?_ <;> intro k5 h3 e2
 ·have q3 := h3; try simp at q3
  have i2 := ix h3
  have m4 := ml a1.Zu (k5 51 _ rfl)
  have c3 := sl 2326528 a1.Zu u0
  have w2 := wr v2_1
  simp
  refine dIo mixed ?_
  simp [i2, ZD]
  repeat with_reducible refine sd ?_
  refine cRf i2 (Xz.rd (Px (nth a1.Zu v2_1))) ?_
  exact nx2 e2 (hI := by (simp; omega)) (hw := YO [((5, 0), some (71, 0))] [] rfl (by simp [w2]))
 have q3 := h3; try simp at q3
 have c4 := sl 2326528 a1.Zu u0
 have f := ms f e2
 simp
 refine cRs (JS a0 v2_0 (by first | (simp (maxDischargeDepth := 12) [Xd]; omega) | (simp (maxDischargeDepth := 12) [YL (m := 68719476736) (by decide) u0]; done))) ?_
 exact rt [.tmp 4] f
theorem S7 (a0 : Int) (a1 : ZI) (u0 : Sm 2318336 a1) : Sa 205 [rI a0, a1.row] [rI (yV a0 a1)] := by
 have f := me (yV.eq_1 a0 a1)
 refine so Tryz.func205 Tryz.ntmps205 ?_
 refine dIs mixed ?_
 refine cRs (Oh a0 a1.Doc (sg (ZI.TU u0))) ?_
 refine cRs (Uz a0 a1.ZQ.ZS (sg (Zf.jt (ZI.yp u0)))) ?_
 refine lp2 (KZ.eq_2 a0 a1) (fun v1_0 v1_1 => YM 43 [eI 0 a0, eX 3 (a1.row.map .d), (5, .one (.sref 5 0 0 v1_0.length), [.arr false 1 (v1_0.map iR)]), eI 6 (↑v1_1 : Int)]) (fun n1 v1_0 v1_1 => a1.ZQ.Zj.length < n1 + v1_1 ∧ v1_1 ≤ a1.ZQ.Zj.length ∧ v1_0.length ≤ 5 + 1 * v1_1) (a1.ZQ.Zj.length + 1) ([5, a1.Id, a1.Yo, (zj a0 a1.Doc), (JZ a0 a1.ZQ.ZS)] : List Int) 0 (fun p1 v1_0 v1_1 e1 j1 => ?_) (h0 := YO [((5, 0), some (20, 0))] [] rfl (by simp))
 refine cFf e1 ?_ ?_ <;> intro k3 h1 e1
 ·have i1 := ix h1
  have m2 := ml a1.ZQ.Zj (k3 24 _ rfl)
  have c1 := sl 2318336 a1.ZQ.Zj u0
  have w1 := wr v1_1
  simp [i1, ZD]
  repeat with_reducible refine sd ?_
  refine cRs (Vx a0 (nth a1.ZQ.Zj v1_1) (sg (Yl (Zf.Wh (ZI.yp u0))))) ?_
  exact nx2 e1 (hw := YO [((5, 0), some (39, 0))] [] rfl (by simp [w1]))
 have c2 := sl 2318336 a1.ZQ.Zj u0
 have f := ms f e1
 refine cRs (JS a0 v1_0 (by first | (simp (maxDischargeDepth := 12) [Xd]; omega) | (simp (maxDischargeDepth := 12) [YL (m := 68719476736) (by decide) u0]; done))) ?_
 exact rt [.tmp 4] f
theorem RA (a0 : Int) (a1 : Int) (a2 : Int) : Sa 207 [rI a0, rI a1, rI a2] [rI (yE a0 a1 a2)] := by
 have f := me (yE.eq_1 a0 a1 a2)
 refine so Tryz.func207 Tryz.ntmps207 ?_
 refine cRs (JS a0 ([1, a1, a2] : List Int) (by simp (maxDischargeDepth := 12) [yl, Xd]; try omega)) ?_
 exact rt [.tmp 6] f
theorem GM (a0 : Int) (a1 : List Int) (u0 : Sm 2322432 a1) : Sd 179 [rI a0, rL 1 iR a1] [rL 1 iR (kP a0 a1)] := by
 have f := me (kP.eq_1 a0 a1)
 refine soD Tryz.func179 Tryz.ntmps179 ?_
 refine lp2 (Kn.eq_2 a0 a1) (fun v1_0 v1_1 => YM 41 [eI 0 a0, eL 1 1 a1 iR, (5, .one (.sref 5 0 0 v1_0.length), [.arr false 1 (v1_0.map iR)]), eI 6 (↑v1_1 : Int)]) (fun n1 v1_0 v1_1 => a1.length < n1 + v1_1 ∧ v1_1 ≤ a1.length + 1 ∧ v1_0.length ≤ v1_1) (a1.length + 1) ([] : List Int) 0 (fun p1 v1_0 v1_1 e1 j1 => ?_) (h0 := YO [((5, 0), some (7, 0))] [] rfl (by simp))
 try dsimp only at j1
 refine cF e1 ?_ ?_ <;> intro k2 h1 e1
 ·have i1 := ix h1
  have m2 := ml a1 (k2 1 _ rfl)
  have c1 := sl 2322432 a1 u0
  have w1 := wr v1_1
  refine cFt e1 ?_ ?_ <;> intro k3 h2 e1
  ·refine okD fun k4 => ?_
   refine dIo mixed ?_
   have i2 := ik (W ((↑v1_1 : Int) + 1)).toNat a1
   simp [i1, ZD, i2]
   repeat with_reducible refine sd ?_
   refine cRs (RA a0 (nth a1 v1_1) (nth a1 (W ((↑v1_1 : Int) + 1)).toNat)) ?_ (hrows := by first | (simp; done) | (simp [W, w1]; done))
   have w2 : IntKind.i64.wrap ((v1_1 : Int) + 2) = (v1_1 : Int) + 2 := ZT (by omega) (by omega)
   exact nx2 e1 (hI := by first | omega | (simp at *; omega)) (hw := YO [((5, 0), some (32, 0))] [] rfl (by simp [w1, w2]))
  simp [i1, ZD]
  repeat with_reducible refine sd ?_
  have w3 : IntKind.i64.wrap ((v1_1 : Int) + 2) = (v1_1 : Int) + 2 := ZT (by omega) (by omega)
  exact nx2 e1 (hI := by first | omega | (simp at *; omega)) (hw := YO [((5, 0), some (39, 0))] [] rfl (by simp [w1, w3]))
 have c2 := sl 2322432 a1 u0
 have f := ms f e1
 exact rtD [.tmp 4] f
theorem N8 (a0 : Int) (a1 : List Int) (u0 : Sm 2318336 a1) : Sa 133 [rI a0, rL 1 iR a1] [rI (qW a0 a1)] := by
 have f := me (qW.eq_1 a0 a1)
 refine so Tryz.func133 Tryz.ntmps133 ?_
 refine cRs (Qs (↑a1.length : Int) 1 16) ?_
 refine cFo f ?_ ?_ <;> intro k1 h1 f
 ·have q1 := h1; try simp [XM] at q1
  simp
  exact rt [.tmp 4] f
 have q1 := h1; try simp [XM] at q1
 have c1 := sl 2318336 a1 u0
 simp
 repeat with_reducible refine sd ?_
 refine lp1 (yN.eq_2 a0) (fun v1_0 => YM 22 [eI 0 a0, (5, .one (.sref 5 0 0 v1_0.length), [.arr false 1 (v1_0.map iR)])]) (fun n1 v1_0 => v1_0.length < n1 ∧ 1 ≤ v1_0.length ∧ v1_0.length ≤ 16) (a1.length + 1) a1 (fun p1 v1_0 e1 j1 => ?_) (hI := by first | omega | (simp at *; omega)) (h0 := YO [((5, 0), some (12, 0))] [] rfl (by simp))
 try dsimp only at j1
 refine cFt e1 ?_ ?_ <;> intro k3 h2 e1
 ·refine cDs [false] (GM a0 v1_0 (by first | (simp (maxDischargeDepth := 12) [Xd]; omega) | (simp (maxDischargeDepth := 12) [YL (m := 2322432) (by decide) u0]; done))) ?_
  exact nx1 e1 (hI := by (have z := Ip a0 v1_0 (by omega); (try dsimp only); simp at *; omega)) (hw := YO [((5, 0), some (18, 0))] [] rfl (by simp))
 have f := ms f e1
 have i1 := ik 0 v1_0
 simp [i1, ZD]
 repeat with_reducible refine sd ?_
 exact rt [.tmp 4] f
theorem Ua (a0 : Int) (a1 : List ZI) (u0 : Sm 2314240 a1) : Sa 173 [rI a0, rL 16 ZI.row a1] [rI (qD a0 a1)] := by
 have f := me (qD.eq_1 a0 a1)
 refine so Tryz.func173 Tryz.ntmps173 ?_
 refine lp2 (xN.eq_2 a0 a1) (fun v1_0 v1_1 => YM 26 [eI 0 a0, eL 1 16 a1 ZI.row, (5, .one (.sref 5 0 0 v1_0.length), [.arr false 1 (v1_0.map iR)]), eI 6 (↑v1_1 : Int)]) (fun n1 v1_0 v1_1 => a1.length < n1 + v1_1 ∧ v1_1 ≤ a1.length ∧ v1_0.length ≤ 0 + 1 * v1_1) (a1.length + 1) ([] : List Int) 0 (fun p1 v1_0 v1_1 e1 j1 => ?_) (h0 := YO [((5, 0), some (7, 0))] [] rfl (by simp))
 refine cFf e1 ?_ ?_ <;> intro k2 h1 e1
 ·have i1 := ix h1
  have m2 := ml a1 (k2 1 _ rfl)
  have c1 := sl 2314240 a1 u0
  have w1 := wr v1_1
  simp [i1, ZD]
  repeat with_reducible refine sd ?_
  refine cRs (S7 a0 (nth a1 v1_1) (sg (Yl u0))) ?_
  exact nx2 e1 (hw := YO [((5, 0), some (22, 0))] [] rfl (by simp [w1]))
 have c2 := sl 2314240 a1 u0
 have f := ms f e1
 refine cRs (N8 a0 v1_0 (by first | (simp (maxDischargeDepth := 12) [Xd]; omega) | (simp (maxDischargeDepth := 12) [YL (m := 2318336) (by decide) u0]; done))) ?_
 exact rt [.tmp 4] f
theorem Rg (a0 : ZC) (a1 : Int) (a2 : List Int) (a3 : Int) (u0 : Sm 2310144 a0) (u1 : Sm 2310144 a2) : So 127 [a0.row, rI a1, rL 1 iR a2, rI a3] [(Yg a0 a1 a2 a3).1.row, rB (Yg a0 a1 a2 a3).2] := by
 have f := me (Yg.eq_1 a0 a1 a2 a3)
 refine so Tryz.func127 Tryz.ntmps127 ?_
 refine lp2 (Xq.eq_2 a0 a2) (fun v1_0 v1_1 => YM 53 [eL 2 1 a2 iR, eI 3 a3, eX 4 (a0.row.map .d), (8, .one (.bptr 8 0), [.box [.d (.int .i64 0), .d (.int .i64 0), .nil 16, .d (.int .i64 0)]]), (10, .one (.bptr 10 0), [.box [.d (.int .i64 a0.Id), .d (.int .i64 a1), .sref 10 3 0 v1_1.length, .d (.int .i64 0)], .none, .none, .arr false 16 (v1_1.map ZI.row)]), eI 11 (↑v1_0 : Int)]) (fun n1 v1_0 v1_1 => a2.length < n1 + v1_0 ∧ v1_0 ≤ a2.length ∧ v1_1.length ≤ v1_0 ∧ (∀ x ∈ v1_1, Sm 2310144 x)) (a2.length + 1) 0 ([] : List ZI) (fun p1 v1_0 v1_1 e1 j1 => ?_) (hI := by exact ⟨by omega, by omega, Nat.zero_le _, Nat.zero_le _, fun x h => by cases h⟩) (h0 := YO [((10, 3), none)] [] rfl (by simp))
 try dsimp only at j1
 refine cF e1 ?_ ?_ <;> intro k2 h1 e1
 ·have i1 := ix h1
  have m2 := ml a2 (k2 2 _ rfl)
  have c1 := sl 2310144 a2 (an u0 u1)
  have w1 := wr v1_0
  refine dIo mixed ?_
  simp [i1, ZD]
  repeat with_reducible refine sd ?_
  refine cRs (jf a0 (nth a2 v1_0)) ?_
  refine cF e1 ?_ ?_ <;> intro k4 h2 e1
  ·have f := ms f e1
   exact rtO [.cell 8 160, .tmp 9] f
  refine dIo mixed ?_
  have i2 : (Xo a0 (nth a2 v1_0)).toNat < a0.ZF.length := by have := Na a0 (nth a2 v1_0); exact il
  simp [i2, ZD]
  repeat with_reducible refine sd ?_
  refine cRs (Xz.rd (Xg (nth a0.ZF (Xo a0 (nth a2 v1_0)).toNat) (sg (Yl (ZC.YW u0))))) ?_
  refine eIs ?_
  refine eIs ?_
  exact nx2 e1 (hI := by ((try dsimp only); refine ⟨by omega, by omega, by omega, by simp; omega, fun x hx => ?_⟩; rcases List.mem_append.1 hx with hx | hx; exact j1.2.2.2.2 x hx; have e := List.mem_singleton.1 hx; subst e; exact Yl (ZC.YW u0))) (hw := YO [((10, 3), some (41, 0))] [] rfl (by simp [w1]))
 have c2 := sl 2310144 a2 (an u0 u1)
 have f := ms f e1
 refine cF f ?_ ?_ <;> intro k6 h3 f
 ·exact rtO [.cell 8 160, .tmp 9] f
 refine cRs (Ua a3 v1_1 (by (have q := zM (show Sm 2310144 a2 from u1); exact YL (n := 2310144) (by decide) ⟨by omega, j1.2.2.2.2⟩))) ?_
 exact rtO [.cell 8 160, .tmp 9] f
theorem Il (a0 : Int) : Sa 109 [rI a0] [rB (Ur a0)] := by
 have f := me (Ur.eq_1 a0)
 refine so Tryz.func109 Tryz.ntmps109 ?_
 refine cRs (Qs a0 0 10000) ?_
 exact rt [.tmp 2] f
theorem Oa (a0 : List Int) (a1 : List Int) : Sa 220 [rL 1 iR a0, rL 1 iR a1] [rB (jC a0 a1)] := by
 have f := me (jC.eq_1 a0 a1)
 refine so Tryz.func220 Tryz.ntmps220 ?_
 refine cF f ?_ ?_ <;> intro k1 h1 f
 ·exact rt [.tmp 4] f
 refine lp1 (yv.eq_2 a0 a1) (fun v1_0 => YM 26 [eL 0 1 a0 iR, eL 1 1 a1 iR, eI 5 (↑v1_0 : Int)]) (fun n1 v1_0 => a0.length < n1 + v1_0 ∧ v1_0 ≤ a0.length) (a0.length + 1) 0 (fun p1 v1_0 e1 j1 => ?_)
 refine cF e1 ?_ ?_ <;> intro k3 h2 e1
 ·have i1 := ix h2
  have m2 := ml a0 (k3 0 _ rfl)
  have w1 := wr v1_0
  refine dIo mixed ?_
  have i2 := ik v1_0 a1
  simp [i1, ZD, i2]
  repeat with_reducible refine sd ?_
  refine cF e1 ?_ ?_ <;> intro k5 h3 e1
  ·have f := ms f e1
   exact rt [.tmp 4] f
  exact ny1 w1 e1
 have f := ms f e1
 exact rt [.tmp 4] f
theorem jy (a0 : ZM) (a1 : ZM) : Sa 198 [a0.row, a1.row] [rB (KA a0 a1)] := by
 have f := me (KA.eq_1 a0 a1)
 refine so Tryz.func198 Tryz.ntmps198 ?_
 refine cGs (fun gg => (Oa a0.Yh a1.Yh)) ?_
 exact rt [.tmp 4] f
theorem Om (a0 : Zf) (a1 : ZM) : Sa 163 [a0.row, a1.row] [rI (zp a0 a1)] := by
 have f := me (zp.eq_1 a0 a1)
 refine so Tryz.func163 Tryz.ntmps163 ?_
 refine lp1 (xA.eq_2 a0 a1) (fun v1_0 => YM 21 [eX 2 (a0.row.map .d), eX 3 (a1.row.map .d), eI 5 (↑v1_0 : Int)]) (fun n1 v1_0 => a0.ZS.length < n1 + v1_0 ∧ v1_0 ≤ a0.ZS.length) (a0.ZS.length + 1) 0 (fun p1 v1_0 e1 j1 => ?_)
 refine cF e1 ?_ ?_ <;> intro k2 h1 e1
 ·have i1 := ix h1
  have m2 := ml a0.ZS (k2 8 _ rfl)
  have w1 := wr v1_0
  refine dIo mixed ?_
  simp [i1, ZD]
  repeat with_reducible refine sd ?_
  refine cRs (jy (nth a0.ZS v1_0) a1) ?_
  refine cF e1 ?_ ?_ <;> intro k4 h2 e1
  ·have f := ms f e1
   exact rt [.tmp 4] f
  exact ny1 w1 e1
 have f := ms f e1
 exact rt [.tmp 4] f
theorem Ns (a0 : Zf) : Sa 114 [a0.row] [rB (zV a0)] := by
 have f := me (zV.eq_1 a0)
 refine so Tryz.func114 Tryz.ntmps114 ?_
 refine lp1 (Kv.eq_2 a0) (fun v1_0 => YM 69 [eX 1 (a0.row.map .d), eI 3 (↑v1_0 : Int)]) (fun n1 v1_0 => a0.ZS.length < n1 + v1_0 ∧ v1_0 ≤ a0.ZS.length) (a0.ZS.length + 1) 0 (fun p1 v1_0 e1 j1 => ?_)
 refine cF e1 ?_ ?_ <;> intro k2 h1 e1
 ·have i1 := ix h1
  have m2 := ml a0.ZS (k2 7 _ rfl)
  have w1 := wr v1_0
  refine dIo mixed ?_
  simp [i1, ZD]
  repeat with_reducible refine sd ?_
  refine cRs (Om a0 (nth a0.ZS v1_0)) ?_
  refine cF e1 ?_ ?_ <;> intro k4 h2 e1
  ·have f := ms f e1
   exact rt [.tmp 2] f
  exact ny1 w1 e1
 have f := ms f e1
 refine lp1 (Kw.eq_2 a0) (fun v2_0 => YM 69 [eX 1 (a0.row.map .d), eI 4 (↑v2_0 : Int)]) (fun n2 v2_0 => a0.Zj.length < n2 + v2_0 ∧ v2_0 ≤ a0.Zj.length) (a0.Zj.length + 1) 0 (fun p2 v2_0 e2 j2 => ?_)
 refine cF e2 ?_ ?_ <;> intro k6 h3 e2
 ·have i2 := ix h3
  have m4 := ml a0.Zj (k6 23 _ rfl)
  have w2 := wr v2_0
  refine dIo mixed ?_
  simp [i2, ZD]
  repeat with_reducible refine sd ?_
  refine cRs (Qs (nth a0.Zj v2_0).Count 1 (↑a0.ZS.length : Int)) ?_
  refine gIf ?_ ?_ <;> intro G
  ·have i3 := ik (v2_0 - 1) a0.Zj
   have w3 : IntKind.i64.wrap ((v2_0 : Int) - 1) = (v2_0 : Int) - 1 := ZT (by omega) (by omega)
   simp [i3, ZD, w3, kU, G]
   repeat with_reducible refine sdg ?_
   refine gK (fun _ => ?_)
   simp [i2, ZD, G]
   repeat with_reducible refine sdg ?_
   refine cKo e2 ?_ ?_ <;> intro k8 h4 e2
   ·try (simp [G] at h4; done)
    all_goals
     have q4 := h4; try simp [XM] at q4
     have f := ms f e2
     simp [G]
     repeat with_reducible refine sdg ?_
     exact rtg [.tmp 2] f
   ·try (simp [G] at h4; done)
    all_goals
     have q4 := h4; try simp [XM] at q4
     simp [G]
     repeat with_reducible refine sdg ?_
     exact ny1 (an w2 (an w3 G)) e2
  ·refine sGg ?_
   refine cKo e2 ?_ ?_ <;> intro k9 h5 e2
   ·try (simp [G] at h5; done)
    all_goals
     have q5 := h5; try simp [XM] at q5
     have f := ms f e2
     simp [G]
     repeat with_reducible refine sdg ?_
     exact rtg [.tmp 2] f
   ·try (simp [G] at h5; done)
    all_goals
     have q5 := h5; try simp [XM] at q5
     simp [G]
     repeat with_reducible refine sdg ?_
     exact ny1 (an w2 G) e2
 have f := ms f e2
 refine cRs (Qs (↑a0.ZS.length : Int) 1 12) ?_
 exact rt [.tmp 2] f
theorem UG (a0 : Zb) : Sd 224 [a0.row] [rL 1 iR (Qx a0)] := by
 have f := me (Qx.eq_1 a0)
 refine soD Tryz.func224 Tryz.ntmps224 ?_
 exact rtD [.tmp 2] f
theorem PV (a0 : Zb) : Sd 208 [a0.row] [(zb a0).row] := by
 have f := me (zb.eq_1 a0)
 refine soD Tryz.func208 Tryz.ntmps208 ?_
 refine dIs mixed ?_
 refine cDs [false] (UG a0) ?_
 exact rtD [.cell 2 187] f
theorem Si (a0 : ZI) : Sa 180 [a0.row] [rB (jk a0)] := by
 have f := me (jk.eq_1 a0)
 refine so Tryz.func180 Tryz.ntmps180 ?_
 refine dIs mixed ?_
 refine cRs (Qs a0.Id 1 999) ?_
 refine cGs (fun gg => (Il a0.Yo)) ?_
 refine cGs (fun gg => (WD a0.Doc)) ?_
 refine cGs (fun gg => (Ns a0.ZQ)) ?_
 refine gIf ?_ ?_ <;> intro G
 ·have g1x := G
  have g1 := G; try simp [XM] at g1
  have i1 : 0 < a0.ZQ.ZS.length := by have := PW (a := a0.ZQ); simp_all
  simp [i1, ZD, G]
  repeat with_reducible refine sdg ?_
  refine cGg (fun gg => Xz.rd (PV a0.Sig)) ?_
  refine cGg (fun gg => (jy (nth a0.ZQ.ZS 0) (zb a0.Sig))) ?_
  exact rtg [.tmp 2] f
 ·have g1x := G
  refine sGo ?_
  simp [G]
  repeat with_reducible refine sdg ?_
  refine sGo ?_
  simp [G]
  repeat with_reducible refine sdg ?_
  exact rtg [.tmp 2] f
theorem SA (a0 : Z1) (a1 : Int) (u0 : Sm 2310144 a0) : Sa 174 [a0.row, rI a1] [rB (QU a0 a1)] := by
 have f := me (QU.eq_1 a0 a1)
 refine so Tryz.func174 Tryz.ntmps174 ?_
 refine lp1 (Xs.eq_2 a0) (fun v1_0 => YM 33 [eI 1 a1, eX 2 (a0.row.map .d), eI 5 (↑v1_0 : Int)]) (fun n1 v1_0 => a0.ZF.length < n1 + v1_0 ∧ v1_0 ≤ a0.ZF.length) (a0.ZF.length + 1) 0 (fun p1 v1_0 e1 j1 => ?_)
 refine cFf e1 ?_ ?_ <;> intro k2 h1 e1
 ·have i1 := ix h1
  have m2 := ml a0.ZF (k2 8 _ rfl)
  have c1 := sl 2310144 a0.ZF u0
  have w1 := wr v1_0
  simp [i1, ZD]
  repeat with_reducible refine sd ?_
  refine cRs (Si (nth a0.ZF v1_0)) ?_
  refine cF e1 ?_ ?_ <;> intro k3 h2 e1
  ·have f := ms f e1
   exact rt [.tmp 4] f
  exact ny1 w1 e1
 have c2 := sl 2310144 a0.ZF u0
 have f := ms f e1
 refine dIs mixed ?_
 refine cRs (Qs (↑a0.ZF.length : Int) 1 8) ?_
 refine cGs (fun gg => (Ua a1 a0.ZF (sg (Z1.YW u0)))) ?_
 exact rt [.tmp 4] f
theorem qc (a0 : ZC) : Sa 134 [a0.row] [rB (QV a0)] := by
 have f := me (QV.eq_1 a0)
 refine so Tryz.func134 Tryz.ntmps134 ?_
 refine lp1 (zA.eq_2 a0) (fun v1_0 => YM 47 [eX 1 (a0.row.map .d), eI 3 (↑v1_0 : Int)]) (fun n1 v1_0 => a0.ZF.length < n1 + v1_0 ∧ v1_0 ≤ a0.ZF.length) (a0.ZF.length + 1) 0 (fun p1 v1_0 e1 j1 => ?_)
 refine cF e1 ?_ ?_ <;> intro k2 h1 e1
 ·have i1 := ix h1
  have m2 := ml a0.ZF (k2 6 _ rfl)
  have w1 := wr v1_0
  refine dIo mixed ?_
  simp [i1, ZD]
  repeat with_reducible refine sd ?_
  refine cRs (Si (nth a0.ZF v1_0)) ?_
  refine gIf ?_ ?_ <;> intro G
  ·have i2 := ik (v1_0 - 1) a0.ZF
   have w2 : IntKind.i64.wrap ((v1_0 : Int) - 1) = (v1_0 : Int) - 1 := ZT (by omega) (by omega)
   simp [i2, ZD, w2, kU, G]
   repeat with_reducible refine sdg ?_
   refine gK (fun _ => ?_)
   simp [i1, ZD, G]
   repeat with_reducible refine sdg ?_
   refine cK e1 ?_ ?_ <;> intro k4 h2 e1
   ·try (simp [G] at h2; done)
    all_goals
     have f := ms f e1
     exact rtg [.tmp 2] f
   ·try (simp [G] at h2; done)
    all_goals
     exact ny1 (an w1 (an w2 G)) e1
  ·refine sGg ?_
   refine cK e1 ?_ ?_ <;> intro k5 h3 e1
   ·try (simp [G] at h3; done)
    all_goals
     have f := ms f e1
     exact rtg [.tmp 2] f
   ·try (simp [G] at h3; done)
    all_goals
     exact ny1 (an w1 G) e1
 have f := ms f e1
 refine cRs (Qs a0.Id 0 99) ?_
 exact rt [.tmp 2] f
theorem Lk (a0 : ZC) (a1 : ZI) (u0 : Sm 2318336 a0) (u1 : Sm 2318336 a1) : Sd 175 [a0.row, a1.row] [(KD a0 a1).1.row, rB (KD a0 a1).2] := by
 have f := me (KD.eq_1 a0 a1)
 refine soD Tryz.func175 Tryz.ntmps175 ?_
 refine cRs (qc a0) ?_
 refine cGs (fun gg => (jf a0 a1.Id)) ?_
 refine cF f ?_ ?_ <;> intro k1 h1 f
 ·refine cDs [] (Xi a0 (sg u0)) ?_
  exact rtD [.cell 4 64, .tmp 5] f
 refine lp3 (Y8.eq_2 a0 a1) (fun v1_0 v1_1 v1_2 => YM 77 [eX 2 (a0.row.map .d), eX 3 (a1.row.map .d), (4, .one (.bptr 4 0), [.box [.d (.int .i64 0), .nil 16]]), (6, .one (.bptr 6 0), [.box [.d (.int .i64 a0.Id), .sref 6 2 0 v1_2.length], .none, .arr true 16 (v1_2.map ZI.row)]), eB 7 v1_0, eI 8 (↑v1_1 : Int)]) (fun n1 v1_0 v1_1 v1_2 => a0.ZF.length < n1 + v1_1 ∧ v1_1 ≤ a0.ZF.length ∧ v1_2.length ≤ 0 + 2 * v1_1) (a0.ZF.length + 1) false 0 ([] : List ZI) (fun p1 v1_0 v1_1 v1_2 e1 j1 => ?_) (h0 := YO [((6, 2), none)] [] rfl (by simp))
 refine cF e1 ?_ ?_ <;> intro k3 h2 e1
 ·have i1 := ix h2
  have m2 := ml a0.ZF (k3 26 _ rfl)
  have c1 := sl 2318336 a0.ZF (an u0 u1)
  have w1 := wr v1_1
  refine dIs mixed ?_
  refine gIf ?_ ?_ <;> intro G
  ·simp [i1, ZD, G]
   repeat with_reducible refine sdg ?_
   refine cK e1 ?_ ?_ <;> intro k5 h3 e1
   ·try (simp [G] at h3; done)
    all_goals
     refine xj [49] mixed (by kernel_rfl) (by kernel_rfl) ?_
     simp
     refine cDg [true, true, true, false, false] (Xg a1 (sg u1)) ?_
     refine jY rfl rfl rfl (by simp) (by simp) (by simp) ?_
     simp [G]
     repeat with_reducible refine sdg ?_
     refine kE (olds := (v1_2.map ZI.row)) (news := (([a1] : List ZI).map ZI.row)) (l1 := [(6, 2)]) (l2 := [(47, 3), (47, 4), (47, 14), (47, 15)]) (size := 16) rfl rfl rfl rfl (by simp) (by simp) (by simp) (by simp) (by simp) (by simp; omega) ?_
     simp [G]
     repeat with_reducible refine sdg ?_
     refine xj [60] mixed (by kernel_rfl) (by kernel_rfl) ?_
     simp [i1, ZD, G]
     repeat with_reducible refine sdg ?_
     refine cDg [true, true, true, false, false] (Xg (nth a0.ZF v1_1) (sg (Yl (ZC.YW u0)))) ?_
     refine jY rfl rfl rfl (by simp) (by simp) (by simp) ?_
     simp [G]
     repeat with_reducible refine sdg ?_
     refine kE (olds := ((v1_2 ++ ([a1] : List ZI)).map ZI.row)) (news := (([(nth a0.ZF v1_1)] : List ZI).map ZI.row)) (l1 := [(49, 0)]) (l2 := [(58, 3), (58, 4), (58, 14), (58, 15)]) (size := 16) rfl rfl rfl rfl (by simp) (by simp) (by simp) (by simp) (by simp) (by simp; omega) ?_
     simp [G]
     repeat with_reducible refine sdg ?_
     exact nx3 e1 (hw := YO [((6, 2), some (60, 0))] [] rfl (by simp [w1, G]))
   ·try (simp [G] at h3; done)
    all_goals
     refine xj [60] mixed (by kernel_rfl) (by kernel_rfl) ?_
     simp [i1, ZD, G]
     repeat with_reducible refine sdg ?_
     refine cDg [true, true, true, false, false] (Xg (nth a0.ZF v1_1) (sg (Yl (ZC.YW u0)))) ?_
     refine jY rfl rfl rfl (by simp) (by simp) (by simp) ?_
     simp [G]
     repeat with_reducible refine sdg ?_
     refine kE (olds := (v1_2.map ZI.row)) (news := (([(nth a0.ZF v1_1)] : List ZI).map ZI.row)) (l1 := [(6, 2)]) (l2 := [(58, 3), (58, 4), (58, 14), (58, 15)]) (size := 16) rfl rfl rfl rfl (by simp) (by simp) (by simp) (by simp) (by simp) (by simp; omega) ?_
     simp [G]
     repeat with_reducible refine sdg ?_
     exact nx3 e1 (hw := YO [((6, 2), some (60, 0))] [] rfl (by simp [w1, G]))
  ·refine cK e1 ?_ ?_ <;> intro k9 h4 e1
   ·try (simp [G] at h4; done)
    all_goals
     refine xj [49] mixed (by kernel_rfl) (by kernel_rfl) ?_
     simp
     refine cDg [true, true, true, false, false] (Xg a1 (sg u1)) ?_
     refine jY rfl rfl rfl (by simp) (by simp) (by simp) ?_
     simp [G]
     repeat with_reducible refine sdg ?_
     refine kE (olds := (v1_2.map ZI.row)) (news := (([a1] : List ZI).map ZI.row)) (l1 := [(6, 2)]) (l2 := [(47, 3), (47, 4), (47, 14), (47, 15)]) (size := 16) rfl rfl rfl rfl (by simp) (by simp) (by simp) (by simp) (by simp) (by simp; omega) ?_
     simp [G]
     repeat with_reducible refine sdg ?_
     refine xj [60] mixed (by kernel_rfl) (by kernel_rfl) ?_
     simp [i1, ZD, G]
     repeat with_reducible refine sdg ?_
     refine cDg [true, true, true, false, false] (Xg (nth a0.ZF v1_1) (sg (Yl (ZC.YW u0)))) ?_
     refine jY rfl rfl rfl (by simp) (by simp) (by simp) ?_
     simp [G]
     repeat with_reducible refine sdg ?_
     refine kE (olds := ((v1_2 ++ ([a1] : List ZI)).map ZI.row)) (news := (([(nth a0.ZF v1_1)] : List ZI).map ZI.row)) (l1 := [(49, 0)]) (l2 := [(58, 3), (58, 4), (58, 14), (58, 15)]) (size := 16) rfl rfl rfl rfl (by simp) (by simp) (by simp) (by simp) (by simp) (by simp; omega) ?_
     simp [G]
     repeat with_reducible refine sdg ?_
     exact nx3 e1 (hw := YO [((6, 2), some (60, 0))] [] rfl (by simp [w1, G]))
   ·try (simp [G] at h4; done)
    all_goals
     refine xj [60] mixed (by kernel_rfl) (by kernel_rfl) ?_
     simp [i1, ZD, G]
     repeat with_reducible refine sdg ?_
     refine cDg [true, true, true, false, false] (Xg (nth a0.ZF v1_1) (sg (Yl (ZC.YW u0)))) ?_
     refine jY rfl rfl rfl (by simp) (by simp) (by simp) ?_
     simp [G]
     repeat with_reducible refine sdg ?_
     refine kE (olds := (v1_2.map ZI.row)) (news := (([(nth a0.ZF v1_1)] : List ZI).map ZI.row)) (l1 := [(6, 2)]) (l2 := [(58, 3), (58, 4), (58, 14), (58, 15)]) (size := 16) rfl rfl rfl rfl (by simp) (by simp) (by simp) (by simp) (by simp) (by simp; omega) ?_
     simp [G]
     repeat with_reducible refine sdg ?_
     exact nx3 e1 (hw := YO [((6, 2), some (60, 0))] [] rfl (by simp [w1, G]))
 have c2 := sl 2318336 a0.ZF (an u0 u1)
 have f := ms f e1
 refine cF f ?_ ?_ <;> intro k13 h5 f
 ·refine okD fun k14 => ?_
  refine xj [69] mixed (by kernel_rfl) (by kernel_rfl) ?_
  simp
  refine cDs [true, true, true, false, false] (Xg a1 (sg u1)) ?_
  refine jY rfl rfl rfl (by simp) (by simp) (by simp) ?_
  simp
  refine kE (olds := (v1_2.map ZI.row)) (news := (([a1] : List ZI).map ZI.row)) (l1 := [(6, 2)]) (l2 := [(67, 3), (67, 4), (67, 14), (67, 15)]) (size := 16) rfl rfl rfl rfl (by simp) (by simp) (by simp) (by simp) (by simp) (by simp; omega) ?_
  simp
  refine cRs (qc (ZC.mk a0.Id (v1_2 ++ ([a1] : List ZI)))) ?_
  refine cF f ?_ ?_ <;> intro k15 h6 f
  ·refine cDs [] (Xi a0 (sg u0)) ?_
   exact rtD [.cell 4 64, .tmp 5] f
  exact rtD [.cell 4 64, .tmp 5] f
 refine cRs (qc (ZC.mk a0.Id v1_2)) ?_
 refine cF f ?_ ?_ <;> intro k16 h7 f
 ·refine cDs [] (Xi a0 (sg u0)) ?_
  exact rtD [.cell 4 64, .tmp 5] f
 exact rtD [.cell 4 64, .tmp 5] f
theorem TE (a0 : ZC) (a1 : Z1) (a2 : Int) (u0 : Sm 2306048 a0) (u1 : Sm 2306048 a1) : Sd 128 [a0.row, a1.row, rI a2] [(Y5 a0 a1 a2).1.row, rB (Y5 a0 a1 a2).2] := by
 have f := me (Y5.eq_1 a0 a1 a2)
 refine soD Tryz.func128 Tryz.ntmps128 ?_
 refine cDs [] (Xi a0 (sg u0)) ?_
 refine cRs (SA a1 a2 (sg u1)) ?_
 refine lp4 (Yw.eq_2 a1) (fun v1_0 v1_1 v1_2 v1_3 => YM 52 [eX 3 (a0.row.map .d), eX 4 (a1.row.map .d), (6, .one (.bptr 6 0), [.box [.d (.int .i64 0), .nil 16]]), (8, .one (.bptr 8 0), [.box [.d (.int .i64 v1_2), .sref 8 2 0 v1_3.length], .none, .arr true 16 (v1_3.map ZI.row)]), eB 9 v1_0, eI 10 (↑v1_1 : Int)]) (fun n1 v1_0 v1_1 v1_2 v1_3 => a1.ZF.length < n1 + v1_1 ∧ v1_1 ≤ a1.ZF.length ∧ (v1_0 = true → a1.ZF.length ≤ 8) ∧ Sm (2306048 + v1_1) (ZC.mk v1_2 v1_3)) (a1.ZF.length + 1) ((QU a1 a2) && (a1.To == a0.Id)) 0 a0.Id a0.ZF (fun p1 v1_0 v1_1 v1_2 v1_3 e1 j1 => ?_) (hI := by exact ⟨by omega, by omega, Nat.zero_le _, fun h => U0 a1 a2 (by simp at h; exact h.1), u0⟩) (h0 := YO [((8, 2), some (14, 1))] [] rfl (by simp))
 try dsimp only at j1
 refine cF e1 ?_ ?_ <;> intro k2 h1 e1
 ·have i1 : v1_1 < a1.ZF.length := by (simp at h1; omega)
  have m2 := ml a1.ZF (k2 27 _ rfl)
  have c1 := sl 2306048 a1.ZF (an u0 u1)
  have w1 := wr v1_1
  refine dIo mixed ?_
  simp [i1, ZD]
  repeat with_reducible refine sd ?_
  refine cDs [] (Lk (ZC.mk v1_2 v1_3) (nth a1.ZF v1_1) (by first | (have hc := h1; simp at hc; have hl := j1.2.2.2.1 hc.2; exact YL (n := 2306048 + v1_1) (by omega) j1.2.2.2.2) | exact sg (Yl (Z1.YW u1))) (by first | (have hc := h1; simp at hc; have hl := j1.2.2.2.1 hc.2; exact YL (n := 2306048 + v1_1) (by omega) j1.2.2.2.2) | exact sg (Yl (Z1.YW u1)))) ?_
  exact nx4 e1 (hI := by (have hc := h1; simp at hc; (try dsimp only); refine ⟨by omega, by omega, by omega, fun _ => j1.2.2.2.1 hc.2, ?_⟩; exact LC (n := 2306048 + v1_1) j1.2.2.2.2 (YL (n := 2306048) (by omega) (Yl (Z1.YW u1))))) (hw := YO [((8, 2), some (42, 1))] [] rfl (by simp [w1]))
 have c2 := sl 2306048 a1.ZF (an u0 u1)
 have f := ms f e1
 refine cF f ?_ ?_ <;> intro k4 h2 f
 ·refine cDs [] (Xi a0 (sg u0)) ?_
  exact rtD [.cell 6 64, .tmp 7] f
 exact rtD [.cell 6 64, .tmp 7] f
theorem NI (a0 : ZC) (a1 : Int) (u0 : Sm 2322432 a0) : Sd 129 [a0.row, rI a1] [(JM a0 a1).1.row, rB (JM a0 a1).2] := by
 have f := me (JM.eq_1 a0 a1)
 refine soD Tryz.func129 Tryz.ntmps129 ?_
 refine cRs (jf a0 a1) ?_
 refine cF f ?_ ?_ <;> intro k1 h1 f
 ·refine cDs [] (Xi a0 (sg u0)) ?_
  exact rtD [.cell 4 64, .tmp 5] f
 refine lp2 (QR.eq_2 a0 a1) (fun v1_0 v1_1 => YM 41 [eX 2 (a0.row.map .d), (4, .one (.bptr 4 0), [.box [.d (.int .i64 0), .nil 16]]), eI 6 (Xo a0 a1), (7, .one (.bptr 7 0), [.box [.d (.int .i64 a0.Id), .sref 7 2 0 v1_1.length], .none, .arr true 16 (v1_1.map ZI.row)]), eI 8 (↑v1_0 : Int)]) (fun n1 v1_0 v1_1 => a0.ZF.length < n1 + v1_0 ∧ v1_0 ≤ a0.ZF.length ∧ v1_1.length ≤ 0 + 1 * v1_0) (a0.ZF.length + 1) 0 ([] : List ZI) (fun p1 v1_0 v1_1 e1 j1 => ?_) (h0 := YO [((7, 2), none)] [] rfl (by simp))
 refine cF e1 ?_ ?_ <;> intro k3 h2 e1
 ·have i1 := ix h2
  have m2 := ml a0.ZF (k3 21 _ rfl)
  have c1 := sl 2322432 a0.ZF u0
  have w1 := wr v1_0
  refine cF e1 ?_ ?_ <;> intro k4 h3 e1
  ·refine okD fun k5 => ?_
   refine xj [38] mixed (by kernel_rfl) (by kernel_rfl) ?_
   simp [i1, ZD]
   repeat with_reducible refine sd ?_
   refine cDs [true, true, true, false, false] (Xg (nth a0.ZF v1_0) (sg (Yl (ZC.YW u0)))) ?_
   refine jY rfl rfl rfl (by simp) (by simp) (by simp) ?_
   simp
   refine kE (olds := (v1_1.map ZI.row)) (news := (([(nth a0.ZF v1_0)] : List ZI).map ZI.row)) (l1 := [(7, 2)]) (l2 := [(36, 3), (36, 4), (36, 14), (36, 15)]) (size := 16) rfl rfl rfl rfl (by simp) (by simp) (by simp) (by simp) (by simp) (by simp; omega) ?_
   simp
   exact nx2 e1 (hw := YO [((7, 2), some (38, 0))] [] rfl (by simp [w1]))
  exact ny2 w1 e1
 have c2 := sl 2322432 a0.ZF u0
 have f := ms f e1
 exact rtD [.cell 4 64, .tmp 5] f
theorem R9 (a0 : ZC) (a1 : ZC) (a2 : List Int) (a3 : Int) (u0 : Sm 2301952 a0) (u1 : Sm 2301952 a1) (u2 : Sm 2301952 a2) : Sd 60 [a0.row, a1.row, rL 1 iR a2, rI a3] [(Y7 a0 a1 a2 a3).1.row, (Y7 a0 a1 a2 a3).2.1.row, rB (Y7 a0 a1 a2 a3).2.2] := by
 have f := me (Y7.eq_1 a0 a1 a2 a3)
 refine soD Tryz.func60 Tryz.ntmps60 ?_
 refine cRs (Rg a0 a1.Id a2 a3 (by first | exact sg u0 | exact sg u2) (by first | exact sg u0 | exact sg u2)) ?_
 refine cDs [] (TE a1 (Yg a0 a1.Id a2 a3).1 a3 (by first | exact sg u1 | exact YL (n := 2301952) (by decide) (ky u0 u2)) (by first | exact sg u1 | exact YL (n := 2301952) (by decide) (ky u0 u2))) ?_
 refine cDs [] (Xi a0 (sg u0)) ?_
 refine lp4 (XL.eq_2 a0 a1 a2 a3) (fun v1_0 v1_1 v1_2 v1_3 => YM 72 [eL 2 1 a2 iR, eX 4 (a0.row.map .d), eX 5 (a1.row.map .d), (8, .one (.bptr 8 0), [.box [.d (.int .i64 0), .nil 16]]), (9, .one (.bptr 9 0), [.box [.d (.int .i64 0), .nil 16]]), eB 12 (Yg a0 a1.Id a2 a3).2, (13, .one (.bptr 13 0), [.box [.d (.int .i64 (Y5 a1 (Yg a0 a1.Id a2 a3).1 a3).1.Id), .sref 32 1 0 (Y5 a1 (Yg a0 a1.Id a2 a3).1 a3).1.ZF.length]]), eB 14 v1_0, (15, .one (.bptr 15 0), [.box [.d (.int .i64 v1_2), .sref 15 2 0 v1_3.length], .none, .arr true 16 (v1_3.map ZI.row)]), eI 16 (↑v1_1 : Int), (32, .any, [.none, .arr true 16 ((Y5 a1 (Yg a0 a1.Id a2 a3).1 a3).1.ZF.map ZI.row)])]) (fun n1 v1_0 v1_1 v1_2 v1_3 => a2.length < n1 + v1_1 ∧ v1_1 ≤ a2.length ∧ Sm 2301952 (ZC.mk v1_2 v1_3)) (a2.length + 1) (Y5 a1 (Yg a0 a1.Id a2 a3).1 a3).2 0 a0.Id a0.ZF (fun p1 v1_0 v1_1 v1_2 v1_3 e1 j1 => ?_) (hI := by exact ⟨by omega, by omega, Nat.zero_le _, u0⟩) (h0 := YO [((15, 2), some (36, 1))] [] rfl (by simp))
 try dsimp only at j1
 refine cF e1 ?_ ?_ <;> intro k2 h1 e1
 ·have i1 : v1_1 < a2.length := by (simp at h1; omega)
  have m2 := ml a2 (k2 2 _ rfl)
  have c1 := sl 2301952 a2 (an u0 (an u1 u2))
  have w1 := wr v1_1
  refine dIo mixed ?_
  simp [i1, ZD]
  repeat with_reducible refine sd ?_
  refine cDs [] (NI (ZC.mk v1_2 v1_3) (nth a2 v1_1) (by exact YL (n := 2301952) (by decide) j1.2.2.2)) ?_
  exact nx4 e1 (hI := by ((try dsimp only); refine ⟨by omega, by omega, by omega, ?_⟩; exact NZ j1.2.2.2)) (hw := YO [((15, 2), some (55, 1))] [] rfl (by simp [w1]))
 have c2 := sl 2301952 a2 (an u0 (an u1 u2))
 have f := ms f e1
 refine cF f ?_ ?_ <;> intro k4 h2 f
 ·refine okD fun k5 => ?_
  refine dIs mixed ?_
  refine cDs [] (Xi a0 (sg u0)) ?_
  refine cDs [] (Xi a1 (sg u1)) ?_
  exact rtD [.cell 8 64, .cell 9 64, .tmp 10] f
 refine CJ [(8, 8), (9, 9), (13, 13), (15, 15)] mixed (by kernel_rfl) (by kernel_rfl) (by kernel_rfl) (by kernel_rfl) ?_
 simp
 exact rtD [.cell 8 64, .cell 9 64, .tmp 10] f
theorem N4 (a0 : Ze) (a1 : Int) (a2 : Int) (a3 : Int) (u0 : Sm 2297856 a0) : Sd 16 [a0.row, rI a1, rI a2, rI a3] [(Xj a0 a1 a2 a3).1.row, rB (Xj a0 a1 a2 a3).2] := by
 have f := me (Xj.eq_1 a0 a1 a2 a3)
 refine soD Tryz.func16 Tryz.ntmps16 ?_
 refine cDs [false, false, false, true, true, false, false, true, false, false, true, false] (MH a0 (sg u0)) ?_
 refine cRs (S6 a0.Frame.Methods a0.Frame.Now) ?_
 refine cRs (SX a0 a1) ?_
 refine cGs (fun gg => (SX a0 a2)) ?_
 have c1 := sl 2297856 a0.ZH u0
 have w1 : IntKind.i64.wrap ((a0.ZH.length : Int) - 1) = (a0.ZH.length : Int) - 1 := ZT (by omega) (by omega)
 refine cFo f ?_ ?_ <;> intro k1 h1 f
 ·have q1 := h1; try simp [w1, xO, XM] at q1
  simp
  exact rtD [.cell 8 41, .tmp 9] f
 have q1 := h1; try simp [w1, xO, XM] at q1
 simp
 refine dIo mixed ?_
 have i1 := ik a1.toNat a0.ZH
 have i2 := ik a2.toNat a0.ZH
 simp [i1, ZD, i2]
 repeat with_reducible refine sd ?_
 refine cDf i1 [] (R9 (nth a0.ZH a1.toNat) (nth a0.ZH a2.toNat) ([a3] : List Int) (Yt a0.Frame.Methods a0.Frame.Now) (sg (Yl (Ze.Jo u0))) (sg (Yl (Ze.Jo u0))) (by simp (maxDischargeDepth := 12) [yl, Xd, YL (m := 2301952) (by decide) u0]; try omega)) ?_
 refine Hv (t := 16) (j := 7) (i := a1.toNat) (size := 2) (rows := (a0.ZH.map ZC.row)) (ds := (Y7 (nth a0.ZH a1.toNat) (nth a0.ZH a2.toNat) ([a3] : List Int) (Yt a0.Frame.Methods a0.Frame.Now)).1.row) (L := [(58, 1)]) rfl rfl rfl rfl (by simp) (by simp) (by simp; try omega) (by simp) (by simp) (by simp) (by simp) (by simp) (by simp) ?_
 simp [Zq (x := (Y7 (nth a0.ZH a1.toNat) (nth a0.ZH a2.toNat) ([a3] : List Int) (Yt a0.Frame.Methods a0.Frame.Now)).1) rfl, c1, i1, i2, ZD, Zh]
 repeat with_reducible refine sd ?_
 refine Hv (t := 16) (j := 7) (i := a2.toNat) (size := 2) (rows := ((a0.ZH.set a1.toNat (Y7 (nth a0.ZH a1.toNat) (nth a0.ZH a2.toNat) ([a3] : List Int) (Yt a0.Frame.Methods a0.Frame.Now)).1).map ZC.row)) (ds := (Y7 (nth a0.ZH a1.toNat) (nth a0.ZH a2.toNat) ([a3] : List Int) (Yt a0.Frame.Methods a0.Frame.Now)).2.1.row) (L := [(58, 3)]) rfl rfl rfl rfl (by simp) (by simp) (by simp; try omega) (by simp) (by simp) (by simp) (by simp) (by simp) (by simp) ?_
 simp [Zq (x := (Y7 (nth a0.ZH a1.toNat) (nth a0.ZH a2.toNat) ([a3] : List Int) (Yt a0.Frame.Methods a0.Frame.Now)).2.1) rfl, Zq (x := (Y7 (nth a0.ZH a1.toNat) (nth a0.ZH a2.toNat) ([a3] : List Int) (Yt a0.Frame.Methods a0.Frame.Now)).1) rfl, c1, i1, i2, ZD, Zh]
 repeat with_reducible refine sd ?_
 exact rtD [.cell 8 41, .tmp 9] f
end Go.Proofs.YtjflhdkeibijaaaGreat
