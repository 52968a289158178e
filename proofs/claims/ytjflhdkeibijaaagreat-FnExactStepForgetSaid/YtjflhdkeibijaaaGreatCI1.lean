/- Contracts of the functions SD the abstract machine, part I1. No condition. -/
import Derived.Test.YtjflhdkeibijaaaGreatL
import Derived.Test.YtjflhdkeibijaaaGreatTy
namespace Go.Proofs.YtjflhdkeibijaaaGreat
open Go.Vm Go.Mo
set_option maxHeartbeats 1000000
set_option maxRecDepth 100000
set_option linter.unusedSimpArgs false
set_option linter.unusedVariables false
theorem P6 (a0 : YF) (u0 : Sm 2342912 a0) : Sd 87 [a0.row] [(Vj a0).row] := by
 have f := me (Vj.eq_1 a0)
 have c1 := sl 2342912 a0.YV u0
 have c2 := sl 2342912 a0.ZC u0
 have c3 := sl 2342912 a0.Methods u0
 refine soD Tryz.func87 Tryz.ntmps87 ?_
 exact rtD [.cell 2 37] f
theorem RY (a0 : YF) (u0 : Sm 2342912 a0) : Sd 87 [a0.row] [a0.row] := by
  have h := P6 a0 u0
  rwa [Na] at h
theorem N1 (a0 : List Int) (u0 : Sm 2342912 a0) : Sd 88 [rL 1 iR a0] [rL 1 iR (UW a0)] := by
 have f := me (UW.eq_1 a0)
 have c1 := sl 2342912 a0 u0
 refine soD Tryz.func88 Tryz.ntmps88 ?_
 exact rtD [.tmp 2] f
theorem Jx (a0 : List Int) (u0 : Sm 2342912 a0) : Sd 88 [rL 1 iR a0] [rL 1 iR a0] := by
  have h := N1 a0 u0
  rwa [Nz] at h
theorem U4 (a0 : ZV) (u0 : Sm 2338816 a0) : Sd 146 [a0.row] [(jP a0).row] := by
 have f := me (jP.eq_1 a0)
 refine soD Tryz.func146 Tryz.ntmps146 ?_
 refine NL [2, 3, 4, 5, 0, 1, 6, 7, 8, 9, 10] mixed (by kernel_rfl) (by kernel_rfl) (by kernel_rfl) ?_
 have c1 := sl 2338816 a0.ZE u0
 simp
 repeat with_reducible refine sd ?_
 refine cDs [false] (Jx a0.ZH (sg (ZV.O3 u0))) ?_
 exact rtD [.cell 2 88] f
theorem Un (a0 : ZV) (u0 : Sm 2338816 a0) : Sd 146 [a0.row] [a0.row] := by
  have h := U4 a0 u0
  rwa [Tu] at h
theorem NN (a0 : ZN) (u0 : Sm 2338816 a0) : Sd 203 [a0.row] [(VS a0).row] := by
 have f := me (VS.eq_1 a0)
 refine soD Tryz.func203 Tryz.ntmps203 ?_
 refine cDs [false] (Jx a0.Y7 (sg (ZN.Fi u0))) ?_
 exact rtD [.cell 2 187] f
theorem Rz (a0 : ZN) (u0 : Sm 2338816 a0) : Sd 203 [a0.row] [a0.row] := by
  have h := NN a0 u0
  rwa [NB] at h
theorem PE (a0 : List ZN) (u0 : Sm 2334720 a0) : Sd 170 [rL 3 ZN.row a0] [rL 3 ZN.row (qa a0)] := by
 have f := me (qa.eq_1 a0)
 refine soD Tryz.func170 Tryz.ntmps170 ?_
 refine lp2 (yp.eq_2 a0) (fun v1_0 v1_1 => Ya 19 [(3, .one (.sref 3 0 0 v1_0.length), [.arr true 3 (v1_0.map ZN.row)]), eL 6 3 a0 ZN.row, eI 7 (↑a0.length : Int), eI 8 (↑v1_1 : Int)]) (fun n1 v1_0 v1_1 => a0.length < n1 + v1_1 ∧ v1_1 ≤ a0.length ∧ v1_0.length ≤ 0 + 1 * v1_1) (a0.length + 1) ([] : List ZN) 0 (fun p1 v1_0 v1_1 e1 j1 => ?_) (h0 := Yj [((3, 0), none)] [] rfl (by simp))
 refine cFf e1 ?_ ?_ <;> intro k2 h1 e1
 ·have i1 := ix h1
  have m2 := ml a0 (k2 6 _ rfl)
  have c1 := sl 2334720 a0 u0
  have w1 := wr v1_1
  simp [i1, ZD]
  repeat with_reducible refine sd ?_
  refine cDs [true, false] (Rz (nth a0 v1_1) (sg (Xm u0))) ?_
  refine EM rfl rfl rfl (by simp) (by simp) (by simp) ?_
  simp
  refine EX (olds := (v1_0.map ZN.row)) (news := (([(nth a0 v1_1)] : List ZN).map ZN.row)) (l1 := [(3, 0)]) (l2 := [(14, 1)]) (size := 3) rfl rfl rfl rfl (by simp) (by simp) (by simp) (by simp) (by simp) (by simp; omega) ?_
  simp
  exact nx2 e1 (hw := Yj [((3, 0), some (16, 0))] [] rfl (by simp [w1]))
 have c2 := sl 2334720 a0 u0
 have f := ms f e1
 exact rtD [.tmp 2] f
theorem SS (a0 : List ZN) (u0 : Sm 2334720 a0) : Sd 170 [rL 3 ZN.row a0] [rL 3 ZN.row a0] := by
  have h := PE a0 u0
  rwa [Rw] at h
theorem RZ (a0 : List ZQ) (u0 : Sm 2342912 a0) : Sd 171 [rL 5 ZQ.row a0] [rL 5 ZQ.row (WJ a0)] := by
 have f := me (WJ.eq_1 a0)
 have c1 := sl 2342912 a0 u0
 refine soD Tryz.func171 Tryz.ntmps171 ?_
 exact rtD [.tmp 2] f
theorem SQ (a0 : List ZQ) (u0 : Sm 2342912 a0) : Sd 171 [rL 5 ZQ.row a0] [rL 5 ZQ.row a0] := by
  have h := RZ a0 u0
  rwa [Rf] at h
theorem Sn (a0 : ZG) (u0 : Sm 2338816 a0) : Sd 125 [a0.row] [(kA a0).row] := by
 have f := me (kA.eq_1 a0)
 have c1 := sl 2338816 a0.Path u0
 refine soD Tryz.func125 Tryz.ntmps125 ?_
 refine cDs [false] (SQ a0.Zx (sg (ZG.LF u0))) ?_
 exact rtD [.cell 2 96] f
theorem jk (a0 : ZG) (u0 : Sm 2338816 a0) : Sd 125 [a0.row] [a0.row] := by
  have h := Sn a0 u0
  rwa [T8] at h
theorem PD (a0 : Za) (u0 : Sm 2330624 a0) : Sd 124 [a0.row] [(qT a0).row] := by
 have f := me (qT.eq_1 a0)
 refine soD Tryz.func124 Tryz.ntmps124 ?_
 refine cDs [] (SS a0.ZO (sg (Za.kI u0))) ?_
 refine lp2 (yD.eq_2 a0) (fun v1_0 v1_1 => Ya 26 [(2, .one (.bptr 2 0), [.box [.nil 3, .nil 5]]), (3, .one (.bptr 3 0), [.box [.sref 8 0 0 a0.ZO.length, .sref 3 2 0 v1_1.length], .none, .arr true 5 (v1_1.map ZG.row)]), (8, .any, [.arr true 3 (a0.ZO.map ZN.row)]), eL 11 5 a0.ZX ZG.row, eI 12 (↑a0.ZX.length : Int), eI 13 (↑v1_0 : Int)]) (fun n1 v1_0 v1_1 => a0.ZX.length < n1 + v1_0 ∧ v1_0 ≤ a0.ZX.length ∧ v1_1.length ≤ 0 + 1 * v1_0) (a0.ZX.length + 1) 0 ([] : List ZG) (fun p1 v1_0 v1_1 e1 j1 => ?_) (h0 := Yj [((3, 2), none)] [] rfl (by simp))
 refine cFf e1 ?_ ?_ <;> intro k2 h1 e1
 ·have i1 := ix h1
  have m2 := ml a0.ZX (k2 11 _ rfl)
  have c1 := sl 2330624 a0.ZX u0
  have w1 := wr v1_0
  simp [i1, ZD]
  repeat with_reducible refine sd ?_
  refine LA [22] mixed (by kernel_rfl) (by kernel_rfl) ?_
  simp
  refine cDs [true, true, true, false, false] (jk (nth a0.ZX v1_0) (sg (Xm (Za.xp u0)))) ?_
  refine EM rfl rfl rfl (by simp) (by simp) (by simp) ?_
  simp
  refine EX (olds := (v1_1.map ZG.row)) (news := (([(nth a0.ZX v1_0)] : List ZG).map ZG.row)) (l1 := [(3, 2)]) (l2 := [(20, 3), (20, 4)]) (size := 5) rfl rfl rfl rfl (by simp) (by simp) (by simp) (by simp) (by simp) (by simp; omega) ?_
  simp
  exact nx2 e1 (hw := Yj [((3, 2), some (22, 0))] [] rfl (by simp [w1]))
 have c2 := sl 2330624 a0.ZX u0
 have f := ms f e1
 exact rtD [.cell 2 85] f
theorem xB (a0 : Za) (u0 : Sm 2330624 a0) : Sd 124 [a0.row] [a0.row] := by
  have h := PD a0 u0
  rwa [PI] at h
theorem Nn (a0 : ZY) (u0 : Sm 2326528 a0) : Sd 90 [a0.row] [(Ul a0).row] := by
 have f := me (Ul.eq_1 a0)
 refine soD Tryz.func90 Tryz.ntmps90 ?_
 refine cDs [true, false, false] (Un a0.Doc (sg (ZY.SF u0))) ?_
 refine cDs [] (xB a0.ZL (sg (ZY.KF u0))) ?_
 exact rtD [.cell 2 92] f
theorem VQ (a0 : ZY) (u0 : Sm 2326528 a0) : Sd 90 [a0.row] [a0.row] := by
  have h := Nn a0 u0
  rwa [Nh] at h
theorem SH (a0 : ZF) (u0 : Sm 2322432 a0) : Sd 89 [a0.row] [(xf a0).row] := by
 have f := me (xf.eq_1 a0)
 refine soD Tryz.func89 Tryz.ntmps89 ?_
 refine lp2 (zX.eq_2 a0) (fun v1_0 v1_1 => Ya 25 [(2, .one (.bptr 2 0), [.box [.d (.int .i64 0), .nil 16]]), (3, .one (.bptr 3 0), [.box [.d (.int .i64 a0.Id), .sref 3 2 0 v1_1.length], .none, .arr true 16 (v1_1.map ZY.row)]), eL 10 16 a0.ZM ZY.row, eI 11 (↑a0.ZM.length : Int), eI 12 (↑v1_0 : Int)]) (fun n1 v1_0 v1_1 => a0.ZM.length < n1 + v1_0 ∧ v1_0 ≤ a0.ZM.length ∧ v1_1.length ≤ 0 + 1 * v1_0) (a0.ZM.length + 1) 0 ([] : List ZY) (fun p1 v1_0 v1_1 e1 j1 => ?_) (h0 := Yj [((3, 2), none)] [] rfl (by simp))
 refine cFf e1 ?_ ?_ <;> intro k2 h1 e1
 ·have i1 := ix h1
  have m2 := ml a0.ZM (k2 10 _ rfl)
  have c1 := sl 2322432 a0.ZM u0
  have w1 := wr v1_0
  simp [i1, ZD]
  repeat with_reducible refine sd ?_
  refine LA [21] mixed (by kernel_rfl) (by kernel_rfl) ?_
  simp
  refine cDs [true, true, true, false, false] (VQ (nth a0.ZM v1_0) (sg (Xm (ZF.Kk u0)))) ?_
  refine EM rfl rfl rfl (by simp) (by simp) (by simp) ?_
  simp
  refine EX (olds := (v1_1.map ZY.row)) (news := (([(nth a0.ZM v1_0)] : List ZY).map ZY.row)) (l1 := [(3, 2)]) (l2 := [(19, 3), (19, 4), (19, 14), (19, 15)]) (size := 16) rfl rfl rfl rfl (by simp) (by simp) (by simp) (by simp) (by simp) (by simp; omega) ?_
  simp
  exact nx2 e1 (hw := Yj [((3, 2), some (21, 0))] [] rfl (by simp [w1]))
 have c2 := sl 2322432 a0.ZM u0
 have f := ms f e1
 exact rtD [.cell 2 64] f
theorem JH (a0 : ZF) (u0 : Sm 2322432 a0) : Sd 89 [a0.row] [a0.row] := by
  have h := SH a0 u0
  rwa [Sb] at h
theorem Pz (a0 : ZZ) (u0 : Sm 2318336 a0) : Sd 33 [a0.row] [(js a0).row] := by
 have f := me (js.eq_1 a0)
 refine soD Tryz.func33 Tryz.ntmps33 ?_
 refine dIs mixed ?_
 have c1 := sl 2318336 a0.Zy u0
 refine cDs [false, false, false] (RY a0.Frame (sg (ZZ.Qx u0))) ?_
 refine cDs [false] (Jx a0.Z3 (sg (ZZ.Ho u0))) ?_
 refine cDs [false] (Jx a0.YZ (sg (ZZ.FT u0))) ?_
 refine cDs [false] (Jx a0.Yl (sg (ZZ.Ha u0))) ?_
 refine cDs [false] (Jx a0.Ym (sg (ZZ.M6 u0))) ?_
 refine lp2 (xU.eq_2 a0) (fun v1_0 v1_1 => Ya 44 [(2, .one (.bptr 2 0), [.box [.nil 5, .nil 3, .nil 4, .d (.int .i64 0), .d (.int .i64 0), .nil 7, .nil 1, .nil 2, .nil 1, .nil 1, .d (.int .i64 0), .nil 1]]), (3, .one (.bptr 3 0), [.box [.sref 8 0 0 a0.Frame.YV.length, .sref 8 1 0 a0.Frame.ZC.length, .sref 8 2 0 a0.Frame.Methods.length, .d (.int .i64 a0.Frame.zN), .d (.int .i64 a0.Frame.Now), .sref 12 0 0 a0.Zy.length, .sref 15 0 0 a0.Z3.length, .sref 3 8 0 v1_1.length, .sref 18 0 0 a0.YZ.length, .sref 21 0 0 a0.Yl.length, .d (.int .i64 a0.Next), .sref 26 0 0 a0.Ym.length], .none, .none, .none, .none, .none, .none, .none, .arr true 2 (v1_1.map ZF.row)]), (8, .any, [.arr false 5 (a0.Frame.YV.map YG.row), .arr false 3 (a0.Frame.ZC.map ZJ.row), .arr false 4 (a0.Frame.Methods.map Zc.row)]), (12, .any, [.arr false 7 (a0.Zy.map Z0.row)]), (15, .any, [.arr false 1 (a0.Z3.map iR)]), (18, .any, [.arr false 1 (a0.YZ.map iR)]), (21, .any, [.arr false 1 (a0.Yl.map iR)]), (26, .any, [.arr false 1 (a0.Ym.map iR)]), eL 29 2 a0.ZI ZF.row, eI 30 (↑a0.ZI.length : Int), eI 31 (↑v1_0 : Int)]) (fun n1 v1_0 v1_1 => a0.ZI.length < n1 + v1_0 ∧ v1_0 ≤ a0.ZI.length ∧ v1_1.length ≤ 0 + 1 * v1_0) (a0.ZI.length + 1) 0 ([] : List ZF) (fun p1 v1_0 v1_1 e1 j1 => ?_) (h0 := Yj [((3, 8), none)] [] rfl (by simp))
 refine cFf e1 ?_ ?_ <;> intro k3 h1 e1
 ·have i1 := ix h1
  have m2 := ml a0.ZI (k3 29 _ rfl)
  have c2 := sl 2318336 a0.ZI u0
  have w1 := wr v1_0
  simp [i1, ZD]
  repeat with_reducible refine sd ?_
  refine LA [40] mixed (by kernel_rfl) (by kernel_rfl) ?_
  simp
  refine cDs [] (JH (nth a0.ZI v1_0) (sg (Xm (ZZ.QO u0)))) ?_
  refine EM rfl rfl rfl (by simp) (by simp) (by simp) ?_
  simp
  refine EX (olds := (v1_1.map ZF.row)) (news := (([(nth a0.ZI v1_0)] : List ZF).map ZF.row)) (l1 := [(3, 8)]) (l2 := [(38, 1)]) (size := 2) rfl rfl rfl rfl (by simp) (by simp) (by simp) (by simp) (by simp) (by simp; omega) ?_
  simp
  exact nx2 e1 (hw := Yj [((3, 8), some (40, 0))] [] rfl (by simp [w1]))
 have c3 := sl 2318336 a0.ZI u0
 have f := ms f e1
 exact rtD [.cell 2 41] f
theorem XY (a0 : ZZ) (u0 : Sm 2318336 a0) : Sd 33 [a0.row] [a0.row] := by
  have h := Pz a0 u0
  rwa [NV] at h
theorem Xa (a0 : Int) (a1 : Int) (a2 : Int) : Sa 70 [rI a0, rI a1, rI a2] [rB (Z7 a0 a1 a2)] := by
 have f := me (Z7.eq_1 a0 a1 a2)
 refine so Tryz.func70 Tryz.ntmps70 ?_
 exact rt [.tmp 6] f
theorem kQ (a0 : ZZ) (a1 : Int) : Sa 34 [a0.row, rI a1] [rB (Xn a0 a1)] := by
 have f := me (Xn.eq_1 a0 a1)
 refine so Tryz.func34 Tryz.ntmps34 ?_
 refine cRs (Xa a1 0 (W ((↑a0.ZI.length : Int) - 1))) ?_
 exact rt [.tmp 4] f
theorem Rj (a0 : ZF) (a1 : Int) (u0 : Sm 2322432 a0) : Sd 35 [a0.row, rI a1] [(QJ a0 a1).1.row, rI (QJ a0 a1).2] := by
 have f := me (QJ.eq_1 a0 a1)
 refine soD Tryz.func35 Tryz.ntmps35 ?_
 refine lp2 (X6.eq_2 a0 a1) (fun v1_0 v1_1 => Ya 39 [eI 1 a1, eX 2 (a0.row.map .d), (4, .one (.bptr 4 0), [.box [.d (.int .i64 0), .nil 16]]), (6, .one (.bptr 6 0), [.box [.d (.int .i64 a0.Id), .sref 6 2 0 v1_1.length], .none, .arr true 16 (v1_1.map ZY.row)]), eL 13 16 a0.ZM ZY.row, eI 14 (↑a0.ZM.length : Int), eI 15 (↑v1_0 : Int)]) (fun n1 v1_0 v1_1 => a0.ZM.length < n1 + v1_0 ∧ v1_0 ≤ a0.ZM.length ∧ v1_1.length ≤ 0 + 1 * v1_0) (a0.ZM.length + 1) 0 ([] : List ZY) (fun p1 v1_0 v1_1 e1 j1 => ?_) (h0 := Yj [((6, 2), none)] [] rfl (by simp))
 refine cFf e1 ?_ ?_ <;> intro k2 h1 e1
 ·have i1 := ix h1
  have m2 := ml a0.ZM (k2 13 _ rfl)
  have c1 := sl 2322432 a0.ZM u0
  have w1 := wr v1_0
  simp [i1, ZD]
  repeat with_reducible refine sd ?_
  refine cF e1 ?_ ?_ <;> intro k3 h2 e1
  ·refine okD fun k4 => ?_
   refine LA [28] mixed (by kernel_rfl) (by kernel_rfl) ?_
   simp
   refine cDs [true, true, true, false, false] (VQ (nth a0.ZM v1_0) (sg (Xm (ZF.Kk u0)))) ?_
   refine EM rfl rfl rfl (by simp) (by simp) (by simp) ?_
   simp
   refine EX (olds := (v1_1.map ZY.row)) (news := (([(nth a0.ZM v1_0)] : List ZY).map ZY.row)) (l1 := [(6, 2)]) (l2 := [(26, 3), (26, 4), (26, 14), (26, 15)]) (size := 16) rfl rfl rfl rfl (by simp) (by simp) (by simp) (by simp) (by simp) (by simp; omega) ?_
   simp
   exact nx2 e1 (hw := Yj [((6, 2), some (28, 0))] [] rfl (by simp [w1]))
  exact ny2 w1 e1
 have c2 := sl 2322432 a0.ZM u0
 have f := ms f e1
 refine Bs [(2, 2), (4, 4), (6, 6), (32, 2), (35, 6)] mixed (by kernel_rfl) (by kernel_rfl) (by kernel_rfl) (by kernel_rfl) ?_
 simp
 exact rtD [.cell 4 64, .tmp 5] f
theorem Wn (a0 : ZZ) (a1 : Int) (u0 : Sm 2314240 a0) : Sd 10 [a0.row, rI a1] [(Zo a0 a1).1.row, rB (Zo a0 a1).2] := by
 have f := me (Zo.eq_1 a0 a1)
 refine soD Tryz.func10 Tryz.ntmps10 ?_
 refine cDs [false, false, false, true, true, false, false, true, false, false, true, false] (XY a0 (sg u0)) ?_
 refine cRs (kQ a0 a1) ?_
 have c1 := sl 2314240 a0.ZI u0
 have w1 : IntKind.i64.wrap ((a0.ZI.length : Int) - 1) = (a0.ZI.length : Int) - 1 := ZW (by omega) (by omega)
 refine cFo f ?_ ?_ <;> intro k1 h1 f
 ·have q1 := h1; try simp [w1, Xn, Z7] at q1
  simp
  exact rtD [.cell 4 41, .tmp 5] f
 have q1 := h1; try simp [w1, Xn, Z7] at q1
 simp
 refine LA [] mixed (by kernel_rfl) (by kernel_rfl) ?_
 have i1 := ik a1.toNat a0.ZI
 simp [i1, ZD]
 repeat with_reducible refine sd ?_
 refine cDf i1 [] (Rj (nth a0.ZI a1.toNat) a0.Frame.Now (sg (Xm (ZZ.QO u0)))) ?_
 refine Gr (t := 8) (j := 7) (i := a1.toNat) (c := 0) (size := 2) (rows := (a0.ZI.map ZF.row)) (ds := (QJ (nth a0.ZI a1.toNat) a0.Frame.Now).1.row) (L := [(26, 1)]) rfl rfl rfl rfl (by simp) (by simp) (by simp; try omega) (by simp) (by simp) (by simp) (by simp) (by simp) (by simp) ?_
 simp [Zp (x := (QJ (nth a0.ZI a1.toNat) a0.Frame.Now).1) rfl, c1, i1, ZD, Zl]
 repeat with_reducible refine sd ?_
 exact rtD [.cell 4 41, .tmp 5] f
theorem PC (a0 : List Zc) (a1 : Int) : Sa 54 [rL 4 Zc.row a0, rI a1] [rI (YP a0 a1)] := by
 have f := me (YP.eq_1 a0 a1)
 refine so Tryz.func54 Tryz.ntmps54 ?_
 refine lp2 (Jl.eq_2 a0 a1) (fun v1_0 v1_1 => Ya 48 [eL 0 4 a0 Zc.row, eI 1 a1, eI 5 v1_0, eL 8 4 a0 Zc.row, eI 9 (↑a0.length : Int), eI 10 (↑v1_1 : Int)]) (fun n1 v1_0 v1_1 => a0.length < n1 + v1_1 ∧ v1_1 ≤ a0.length ∧ -1 ≤ v1_0 ∧ v1_0 < (a0.length : Int)) (a0.length + 1) (-1) 0 (fun p1 v1_0 v1_1 e1 j1 => ?_)
 try dsimp only at j1
 refine cFf e1 ?_ ?_ <;> intro k2 h1 e1
 ·have i1 := ix h1
  have m2 := ml a0 (k2 0 _ rfl)
  have w1 := wr v1_1
  simp [i1, ZD]
  repeat with_reducible refine sd ?_
  refine dIs mixed ?_
  refine gIf ?_ ?_ <;> intro G
  ·have i2 := ik v1_0.toNat a0
   simp [i2, ZD, G]
   repeat with_reducible refine sdg ?_
   refine cK e1 ?_ ?_ <;> intro k4 h2 e1
   ·try (simp [G] at h2; done)
    all_goals
     exact ny2 (an w1 G) e1 (hI := by first | omega | (simp at *; omega))
   ·try (simp [G] at h2; done)
    all_goals
     exact ny2 (an w1 G) e1 (hI := by first | omega | (simp at *; omega))
  ·refine cK e1 ?_ ?_ <;> intro k5 h3 e1
   ·try (simp [G] at h3; done)
    all_goals
     exact ny2 (an w1 G) e1 (hI := by first | omega | (simp at *; omega))
   ·try (simp [G] at h3; done)
    all_goals
     exact ny2 (an w1 G) e1 (hI := by first | omega | (simp at *; omega))
 have f := ms f e1
 refine cFt f ?_ ?_ <;> intro k6 h4 f
 ·exact rt [.tmp 4] f
 have i4 := ik v1_0.toNat a0
 simp [i4, ZD]
 repeat with_reducible refine sd ?_
 exact rt [.tmp 4] f
theorem P8 (a0 : List Int) : Sa 69 [rL 1 iR a0] [rB (zp a0)] := by
 have f := me (zp.eq_1 a0)
 refine so Tryz.func69 Tryz.ntmps69 ?_
 refine lp1 (xZ.eq_2 a0) (fun v1_0 => Ya 20 [eL 0 1 a0 iR, eI 3 (↑v1_0 : Int)]) (fun n1 v1_0 => a0.length < n1 + v1_0 ∧ 1 ≤ v1_0) (a0.length + 1) 1 (fun p1 v1_0 e1 j1 => ?_)
 refine cF e1 ?_ ?_ <;> intro k2 h1 e1
 ·have i1 := ix h1
  have m2 := ml a0 (k2 0 _ rfl)
  have w1 := wr v1_0
  refine dIo mixed ?_
  have i2 := ik (v1_0 - 1) a0
  have w2 : IntKind.i64.wrap ((v1_0 : Int) - 1) = (v1_0 : Int) - 1 := ZW (by omega) (by omega)
  simp [i2, ZD, w2, zn, i1]
  repeat with_reducible refine sd ?_
  refine cF e1 ?_ ?_ <;> intro k4 h2 e1
  ·have f := ms f e1
   exact rt [.tmp 2] f
  exact ny1 (an w1 w2) e1
 have f := ms f e1
 exact rt [.tmp 2] f
theorem W5 (a0 : ZQ) : Sd 123 [a0.row] [rL 1 iR (QP a0)] := by
 have f := me (QP.eq_1 a0)
 refine soD Tryz.func123 Tryz.ntmps123 ?_
 exact rtD [.tmp 2] f
theorem Da (a0 : Int) (a1 : Int) : Sa 222 [rI a0, rI a1] [rI (GB a0 a1)] := by
 have f := me (GB.eq_1 a0 a1)
 refine so Tryz.func222 Tryz.ntmps222 ?_
 refine cRs (Xa a1 1 1000000000000) ?_
 refine cFo f ?_ ?_ <;> intro k1 h1 f
 ·have q1 := h1; try simp [Z7] at q1
  simp
  exact rt [.tmp 4] f
 have q1 := h1; try simp [Z7] at q1
 simp
 repeat with_reducible refine sd ?_
 exact rt [.tmp 4] f
theorem Mu (a0 : List Int) : Sa 200 [rL 1 iR a0] [rI (SU a0)] := by
 have f := me (SU.eq_1 a0)
 refine so Tryz.func200 Tryz.ntmps200 ?_
 refine lp2 (VK.eq_2 a0) (fun v1_0 v1_1 => Ya 21 [eI 3 v1_0, eL 6 1 a0 iR, eI 7 (↑a0.length : Int), eI 8 (↑v1_1 : Int)]) (fun n1 v1_0 v1_1 => a0.length < n1 + v1_1 ∧ v1_1 ≤ a0.length) (a0.length + 1) 11 0 (fun p1 v1_0 v1_1 e1 j1 => ?_)
 refine cFf e1 ?_ ?_ <;> intro k2 h1 e1
 ·have i1 := ix h1
  have m2 := ml a0 (k2 6 _ rfl)
  have w1 := wr v1_1
  simp [i1, ZD]
  repeat with_reducible refine sd ?_
  refine cRs (Da (nth a0 v1_1) 2147483647) ?_
  exact ny2 w1 e1
 have f := ms f e1
 exact rt [.tmp 2] f
theorem Jf (a0 : Int) (a1 : List Int) (u0 : Sm 68719476736 a1) : Sa 165 [rI a0, rL 1 iR a1] [rI (Qv a0 a1)] := by
 have f := me (Qv.eq_1 a0 a1)
 have c1 := sl 68719476736 a1 u0
 refine so Tryz.func165 Tryz.ntmps165 ?_
 refine cRs (Mu (([7, a0] : List Int) ++ a1)) ?_
 exact rt [.tmp 4] f
theorem Ur (a0 : Int) (a1 : ZG) (u0 : Sm 2326528 a1) : Sa 118 [rI a0, a1.row] [rI (Q7 a0 a1)] := by
 have f := me (Q7.eq_1 a0 a1)
 refine so Tryz.func118 Tryz.ntmps118 ?_
 refine lp2 (QT.eq_2 a1) (fun v1_0 v1_1 => Ya 59 [eI 0 a0, eX 3 (a1.row.map .d), (5, .one (.sref 5 0 0 v1_0.length), [.arr false 1 (v1_0.map iR)]), eL 19 2 a1.Path Zk.row, eI 20 (↑a1.Path.length : Int), eI 21 (↑v1_1 : Int)]) (fun n1 v1_0 v1_1 => a1.Path.length < n1 + v1_1 ∧ v1_1 ≤ a1.Path.length ∧ v1_0.length ≤ 4 + 2 * v1_1) (a1.Path.length + 1) ([4, a1.Count, a1.Method, a1.TA] : List Int) 0 (fun p1 v1_0 v1_1 e1 j1 => ?_) (h0 := Yj [((5, 0), some (17, 0))] [] rfl (by simp))
 refine cFo e1 ?_ ?_ <;> intro k2 h1 e1
 ·have q1 := h1; try simp at q1
  have i1 := ix h1
  have m2 := ml a1.Path (k2 19 _ rfl)
  have c1 := sl 2326528 a1.Path u0
  have w1 := wr v1_1
  simp [i1, ZD]
  repeat with_reducible refine sd ?_
  refine cFo e1 ?_ ?_ <;> intro k3 h2 e1
  ·have q2 := h2; try simp at q2
   simp
   repeat with_reducible refine sd ?_
   exact nx2 e1 (hw := Yj [((5, 0), some (32, 0))] [] rfl (by simp [w1]))
  have q2 := h2; try simp at q2
  simp
  repeat with_reducible refine sd ?_
  exact nx2 e1 (hw := Yj [((5, 0), some (32, 0))] [] rfl (by simp [w1]))
 have q1 := h1; try simp at q1
 have c2 := sl 2326528 a1.Path u0
 have f := ms f e1
 simp
 repeat with_reducible refine sd ?_
 refine lp2 (JP.eq_2 a1) (fun v2_0 v2_1 => Ya 59 [eI 0 a0, (5, .one (.sref 5 0 0 v2_0.length), [.arr false 1 (v2_0.map iR)]), eL 41 5 a1.Zx ZQ.row, eI 42 (↑a1.Zx.length : Int), eI 43 (↑v2_1 : Int)]) (fun n2 v2_0 v2_1 => a1.Zx.length < n2 + v2_1 ∧ v2_1 ≤ a1.Zx.length ∧ v2_0.length ≤ 5 + 2 * 2326528 + 6 * v2_1) (a1.Zx.length + 1) (v1_0 ++ ([(↑a1.Zx.length : Int)] : List Int)) 0 (fun p2 v2_0 v2_1 e2 j2 => ?_) (hI := by (have o : a1.Path.length ≤ 2326528 := zF (by simp (maxDischargeDepth := 12) [u0]); simp at *; omega)) (h0 := Yj [((5, 0), some (39, 0))] [] rfl (by simp))
 try dsimp only at j2
 refine cFo e2 ?_ ?_ <;> intro k5 h3 e2
 ·have q3 := h3; try simp at q3
  have i2 := ix h3
  have m4 := ml a1.Zx (k5 41 _ rfl)
  have c3 := sl 2326528 a1.Zx u0
  have w2 := wr v2_1
  simp [i2, ZD]
  repeat with_reducible refine sd ?_
  refine dIs mixed ?_
  refine cRs (Y4.rd (W5 (nth a1.Zx v2_1))) ?_
  exact nx2 e2 (hI := by (simp; omega)) (hw := Yj [((5, 0), some (54, 0))] [] rfl (by simp [w2]))
 have q3 := h3; try simp at q3
 have c4 := sl 2326528 a1.Zx u0
 have f := ms f e2
 simp
 refine cRs (Jf a0 v2_0 (by first | (simp (maxDischargeDepth := 12) [XS]; omega) | (simp (maxDischargeDepth := 12) [Zr (m := 68719476736) (by decide) u0]; done))) ?_
 exact rt [.tmp 4] f
theorem Wl (a0 : ZV) : Sa 167 [a0.row] [rB (JG a0)] := by
 have f := me (JG.eq_1 a0)
 refine so Tryz.func167 Tryz.ntmps167 ?_
 refine cRs (Xa a0.K9 0 999) ?_
 refine cGs (fun gg => (Xa (↑a0.ZE.length : Int) 1 6)) ?_
 refine cFo f ?_ ?_ <;> intro k1 h1 f
 ·have q1 := h1; try simp [Z7] at q1
  simp
  exact rt [.tmp 2] f
 have q1 := h1; try simp [Z7] at q1
 simp
 refine lp1 (Ju.eq_2 a0) (fun v1_0 => Ya 46 [eX 1 (a0.row.map .d), eL 26 1 a0.ZE sR, eI 27 (↑a0.ZE.length : Int), eI 28 (↑v1_0 : Int)]) (fun n1 v1_0 => a0.ZE.length < n1 + v1_0 ∧ v1_0 ≤ a0.ZE.length) (a0.ZE.length + 1) 0 (fun p1 v1_0 e1 j1 => ?_)
 refine cFf e1 ?_ ?_ <;> intro k3 h2 e1
 ·have i1 := ix h2
  have m2 := ml a0.ZE (k3 26 _ rfl)
  have w1 := wr v1_0
  simp [i1, ZD]
  repeat with_reducible refine sd ?_
  refine gIf ?_ ?_ <;> intro G
  ·have i2 := ik v1_0 a0.ZH
   simp [i2, ZD, G]
   repeat with_reducible refine sdg ?_
   refine cGg (fun gg => (Xa (nth a0.ZH v1_0) 1 1000000000000)) ?_
   refine cKo e1 ?_ ?_ <;> intro k4 h3 e1
   ·try (simp [G] at h3; done)
    all_goals
     have q3 := h3; try simp [Z7] at q3
     have f := ms f e1
     simp [G]
     repeat with_reducible refine sdg ?_
     exact rtg [.tmp 2] f
   ·try (simp [G] at h3; done)
    all_goals
     have q3 := h3; try simp [Z7] at q3
     simp [G]
     repeat with_reducible refine sdg ?_
     exact ny1 (an w1 G) e1
  ·refine sGo ?_
   simp [G]
   repeat with_reducible refine sdg ?_
   refine cKo e1 ?_ ?_ <;> intro k5 h4 e1
   ·try (simp [G] at h4; done)
    all_goals
     have q4 := h4; try simp [Z7] at q4
     have f := ms f e1
     simp [G]
     repeat with_reducible refine sdg ?_
     exact rtg [.tmp 2] f
   ·try (simp [G] at h4; done)
    all_goals
     have q4 := h4; try simp [Z7] at q4
     simp [G]
     repeat with_reducible refine sdg ?_
     exact ny1 (an w1 G) e1
 have f := ms f e1
 exact rt [.tmp 2] f
theorem Ip (a0 : List UInt8) (u0 : Sm 2342912 a0) : Sd 201 [rL 1 bR a0] [rL 1 iR (y7 a0)] := by
 have f := me (y7.eq_1 a0)
 refine soD Tryz.func201 Tryz.ntmps201 ?_
 refine lp2 (Ka.eq_2 a0) (fun v1_0 v1_1 => Ya 19 [(3, .one (.sref 3 0 0 v1_0.length), [.arr false 1 (v1_0.map iR)]), eL 6 1 a0 bR, eI 7 (↑a0.length : Int), eI 8 (↑v1_1 : Int)]) (fun n1 v1_0 v1_1 => a0.length < n1 + v1_1 ∧ v1_1 ≤ a0.length ∧ v1_0.length ≤ 0 + 1 * v1_1) (a0.length + 1) ([] : List Int) 0 (fun p1 v1_0 v1_1 e1 j1 => ?_) (h0 := Yj [((3, 0), none)] [] rfl (by simp))
 refine cFf e1 ?_ ?_ <;> intro k2 h1 e1
 ·have i1 := ix h1
  have m2 := ml a0 (k2 6 _ rfl)
  have c1 := sl 2342912 a0 u0
  have w1 := wr v1_1
  simp [i1, ZD]
  repeat with_reducible refine sd ?_
  exact nx2 e1 (hw := Yj [((3, 0), some (16, 0))] [] rfl (by simp [w1]))
 have c2 := sl 2342912 a0 u0
 have f := ms f e1
 exact rtD [.tmp 2] f
theorem R3 (a0 : Int) (a1 : ByteArray) (a2 : Int) (u0 : Sm 2326528 a1) : Sa 168 [rI a0, rS a1, rI a2] [rI (yE a0 a1 a2)] := by
 have f := me (yE.eq_1 a0 a1 a2)
 refine so Tryz.func168 Tryz.ntmps168 ?_
 have c1 : a1.size ≤ 2326528 := Lm (by simp (maxDischargeDepth := 12) [u0])
 refine D0 (s := a1) rfl rfl rfl (by simp) (by simp) (by simp) (by simp) (by omega) ?_
 simp
 refine cRs (Y4.rd (Ip a1.data.toList (by simp [XS]; first | omega | (simp [ByteArray.size] at *; omega)))) ?_
 refine cRs (Jf a0 (([a2] : List Int) ++ (y7 a1.data.toList)) (by simp (maxDischargeDepth := 12) [Kx, XS, Zr (m := 68719476736) (by decide) u0]; try omega)) ?_
 exact rt [.tmp 6] f
theorem VG (a0 : Int) (a1 : ZV) (u0 : Sm 2322432 a1) : Sa 120 [rI a0, a1.row] [rI (X8 a0 a1)] := by
 have f := me (X8.eq_1 a0 a1)
 refine so Tryz.func120 Tryz.ntmps120 ?_
 refine cRs (Wl a1) ?_
 refine cF f ?_ ?_ <;> intro k1 h1 f
 ·exact rt [.tmp 4] f
 refine lp2 (zQ.eq_2 a0 a1) (fun v1_0 v1_1 => Ya 37 [eI 0 a0, eX 3 (a1.row.map .d), (5, .one (.sref 5 0 0 v1_0.length), [.arr false 1 (v1_0.map iR)]), eL 15 1 a1.ZE sR, eI 16 (↑a1.ZE.length : Int), eI 17 (↑v1_1 : Int)]) (fun n1 v1_0 v1_1 => a1.ZE.length < n1 + v1_1 ∧ v1_1 ≤ a1.ZE.length ∧ v1_0.length ≤ 1 + 1 * v1_1) (a1.ZE.length + 1) ([a1.K9] : List Int) 0 (fun p1 v1_0 v1_1 e1 j1 => ?_) (h0 := Yj [((5, 0), some (13, 0))] [] rfl (by simp))
 try dsimp only at j1
 refine cFf e1 ?_ ?_ <;> intro k3 h2 e1
 ·have i1 := ix h2
  have m2 := ml a1.ZE (k3 15 _ rfl)
  have c1 := sl 2322432 a1.ZE u0
  have w1 := wr v1_1
  have i2 : v1_1 < a1.ZH.length := by (have := SA (a := a1); first | (simp_all; done) | (simp_all; omega))
  simp [i1, ZD, i2]
  repeat with_reducible refine sd ?_
  refine cRs (R3 a0 (nth a1.ZE v1_1) (nth a1.ZH v1_1) (sg (Xm (ZV.Tq u0)))) ?_
  exact nx2 e1 (hw := Yj [((5, 0), some (32, 0))] [] rfl (by simp [w1]))
 have c2 := sl 2322432 a1.ZE u0
 have f := ms f e1
 refine cRs (Jf a0 v1_0 (by first | (simp (maxDischargeDepth := 12) [XS]; omega) | (simp (maxDischargeDepth := 12) [Zr (m := 68719476736) (by decide) u0]; done))) ?_
 exact rt [.tmp 4] f
theorem TB (a0 : Int) (a1 : List ZN) (u0 : Sm 2326528 a1) : Sa 166 [rI a0, rL 3 ZN.row a1] [rI (Jq a0 a1)] := by
 have f := me (Jq.eq_1 a0 a1)
 refine so Tryz.func166 Tryz.ntmps166 ?_
 refine lp2 (Jo.eq_2 a0 a1) (fun v1_0 v1_1 => Ya 32 [eI 0 a0, (5, .one (.sref 5 0 0 v1_0.length), [.arr false 1 (v1_0.map iR)]), eL 9 3 a1 ZN.row, eI 10 (↑a1.length : Int), eI 11 (↑v1_1 : Int)]) (fun n1 v1_0 v1_1 => a1.length < n1 + v1_1 ∧ v1_1 ≤ a1.length ∧ v1_0.length ≤ 1 + 1 * v1_1) (a1.length + 1) ([2] : List Int) 0 (fun p1 v1_0 v1_1 e1 j1 => ?_) (h0 := Yj [((5, 0), some (8, 0))] [] rfl (by simp))
 refine cFf e1 ?_ ?_ <;> intro k2 h1 e1
 ·have i1 := ix h1
  have m2 := ml a1 (k2 9 _ rfl)
  have c1 := sl 2326528 a1 u0
  have w1 := wr v1_1
  have c2 := sl 2326528 (nth a1 v1_1).Y7 u0
  simp [i1, ZD]
  repeat with_reducible refine sd ?_
  refine cRs (Jf a0 (([(nth a1 v1_1).Key, (nth a1 v1_1).Mark] : List Int) ++ (nth a1 v1_1).Y7) (by simp (maxDischargeDepth := 12) [Kx, XS, Zr (m := 68719476736) (by decide) u0]; try omega)) ?_
  exact nx2 e1 (hw := Yj [((5, 0), some (27, 0))] [] rfl (by simp [w1]))
 have c3 := sl 2326528 a1 u0
 have f := ms f e1
 refine cRs (Jf a0 v1_0 (by first | (simp (maxDischargeDepth := 12) [XS]; omega) | (simp (maxDischargeDepth := 12) [Zr (m := 68719476736) (by decide) u0]; done))) ?_
 exact rt [.tmp 4] f
theorem S4 (a0 : Int) (a1 : Int) (a2 : List ZN) (a3 : Int) (u0 : Sm 2322432 a2) : Sa 119 [rI a0, rI a1, rL 3 ZN.row a2, rI a3] [rI (kY a0 a1 a2 a3)] := by
 have f := me (kY.eq_1 a0 a1 a2 a3)
 refine so Tryz.func119 Tryz.ntmps119 ?_
 refine cRs (TB a0 a2 (sg u0)) ?_
 refine cRs (Jf a0 ([3, a1, (Jq a0 a2), a3] : List Int) (by simp (maxDischargeDepth := 12) [Kx, XS, Zr (m := 68719476736) (by decide) u0]; try omega)) ?_
 exact rt [.tmp 8] f
theorem Iq (a0 : ZY) (a1 : Int) (u0 : Sm 2318336 a0) : Sa 57 [a0.row, rI a1] [rI (kT a0 a1)] := by
 have f := me (kT.eq_1 a0 a1)
 refine so Tryz.func57 Tryz.ntmps57 ?_
 refine cFf f ?_ ?_ <;> intro k1 h1 f
 ·have i1 := ik (a0.ZL.ZX.length - 1) a0.ZL.ZX
  have m1 := ml a0.ZL.ZX (k1 9 _ rfl)
  have w1 : IntKind.i64.wrap ((a0.ZL.ZX.length : Int) - 1) = (a0.ZL.ZX.length : Int) - 1 := ZW (by omega) (by omega)
  simp [i1, ZD, w1, zn]
  repeat with_reducible refine sd ?_
  refine cRs (Ur a1 (nth a0.ZL.ZX (a0.ZL.ZX.length - 1)) (sg (Xm (Za.xp (ZY.KF u0))))) ?_
  refine dIs mixed ?_
  refine cRs (VG a1 a0.Doc (sg (ZY.SF u0))) ?_
  refine cRs (S4 a1 (X8 a1 a0.Doc) a0.ZL.ZO (Q7 a1 (nth a0.ZL.ZX (a0.ZL.ZX.length - 1))) (sg (Za.kI (ZY.KF u0)))) ?_
  exact rt [.tmp 4] f
 refine dIs mixed ?_
 refine cRs (VG a1 a0.Doc (sg (ZY.SF u0))) ?_
 refine cRs (S4 a1 (X8 a1 a0.Doc) a0.ZL.ZO 0 (sg (Za.kI (ZY.KF u0)))) ?_
 exact rt [.tmp 4] f
theorem Vl (a0 : ZF) (a1 : Int) (u0 : Sm 2314240 a0) : Sd 137 [a0.row, rI a1] [rL 1 iR (Y1 a0 a1)] := by
 have f := me (Y1.eq_1 a0 a1)
 refine soD Tryz.func137 Tryz.ntmps137 ?_
 refine lp2 (KN.eq_2 a0 a1) (fun v1_0 v1_1 => Ya 23 [eI 1 a1, (5, .one (.sref 5 0 0 v1_0.length), [.arr false 1 (v1_0.map iR)]), eL 9 16 a0.ZM ZY.row, eI 10 (↑a0.ZM.length : Int), eI 11 (↑v1_1 : Int)]) (fun n1 v1_0 v1_1 => a0.ZM.length < n1 + v1_1 ∧ v1_1 ≤ a0.ZM.length ∧ v1_0.length ≤ 0 + 1 * v1_1) (a0.ZM.length + 1) ([] : List Int) 0 (fun p1 v1_0 v1_1 e1 j1 => ?_) (h0 := Yj [((5, 0), none)] [] rfl (by simp))
 refine cFf e1 ?_ ?_ <;> intro k2 h1 e1
 ·have i1 := ix h1
  have m2 := ml a0.ZM (k2 9 _ rfl)
  have c1 := sl 2314240 a0.ZM u0
  have w1 := wr v1_1
  simp [i1, ZD]
  repeat with_reducible refine sd ?_
  refine cRs (Iq (nth a0.ZM v1_1) a1 (sg (Xm (ZF.Kk u0)))) ?_
  exact nx2 e1 (hw := Yj [((5, 0), some (20, 0))] [] rfl (by simp [w1]))
 have c2 := sl 2314240 a0.ZM u0
 have f := ms f e1
 exact rtD [.tmp 4] f
theorem PS (a0 : Int) (a1 : Int) (a2 : Int) : Sa 209 [rI a0, rI a1, rI a2] [rI (yT a0 a1 a2)] := by
 have f := me (yT.eq_1 a0 a1 a2)
 refine so Tryz.func209 Tryz.ntmps209 ?_
 refine cRs (Jf a0 ([1, a1, a2] : List Int) (by simp (maxDischargeDepth := 12) [Kx, XS]; try omega)) ?_
 exact rt [.tmp 6] f
theorem zb (a0 : Int) (a1 : List Int) (u0 : Sm 2322432 a1) : Sd 181 [rI a0, rL 1 iR a1] [rL 1 iR (QH a0 a1)] := by
 have f := me (QH.eq_1 a0 a1)
 refine soD Tryz.func181 Tryz.ntmps181 ?_
 refine lp2 (X2.eq_2 a0 a1) (fun v1_0 v1_1 => Ya 40 [eI 0 a0, eL 1 1 a1 iR, (5, .one (.sref 5 0 0 v1_0.length), [.arr false 1 (v1_0.map iR)]), eI 6 (↑v1_1 : Int)]) (fun n1 v1_0 v1_1 => a1.length < n1 + v1_1 ∧ v1_1 ≤ a1.length + 1 ∧ v1_0.length ≤ v1_1) (a1.length + 1) ([] : List Int) 0 (fun p1 v1_0 v1_1 e1 j1 => ?_) (h0 := Yj [((5, 0), none)] [] rfl (by simp))
 try dsimp only at j1
 refine cF e1 ?_ ?_ <;> intro k2 h1 e1
 ·have i1 := ix h1
  have m2 := ml a1 (k2 1 _ rfl)
  have c1 := sl 2322432 a1 u0
  have w1 := wr v1_1
  refine cFt e1 ?_ ?_ <;> intro k3 h2 e1
  ·refine okD fun k4 => ?_
   refine dIo mixed ?_
   have i2 := ik (W ((↑v1_1 : Int) + 1)).toNat a1
   simp [i1, ZD, i2]
   repeat with_reducible refine sd ?_
   refine cRs (PS a0 (nth a1 v1_1) (nth a1 (W ((↑v1_1 : Int) + 1)).toNat)) ?_ (hrows := by first | (simp; done) | (simp [W, w1]; done))
   have w2 : IntKind.i64.wrap ((v1_1 : Int) + 2) = (v1_1 : Int) + 2 := ZW (by omega) (by omega)
   exact nx2 e1 (hI := by first | omega | (simp at *; omega)) (hw := Yj [((5, 0), some (31, 0))] [] rfl (by simp [w1, w2]))
  simp [i1, ZD]
  repeat with_reducible refine sd ?_
  have w3 : IntKind.i64.wrap ((v1_1 : Int) + 2) = (v1_1 : Int) + 2 := ZW (by omega) (by omega)
  exact nx2 e1 (hI := by first | omega | (simp at *; omega)) (hw := Yj [((5, 0), some (38, 0))] [] rfl (by simp [w1, w3]))
 have c2 := sl 2322432 a1 u0
 have f := ms f e1
 exact rtD [.tmp 4] f
theorem N6 (a0 : Int) (a1 : List Int) (u0 : Sm 2318336 a1) : Sa 136 [rI a0, rL 1 iR a1] [rI (xF a0 a1)] := by
 have f := me (xF.eq_1 a0 a1)
 refine so Tryz.func136 Tryz.ntmps136 ?_
 refine cRs (Xa (↑a1.length : Int) 1 16) ?_
 refine cFo f ?_ ?_ <;> intro k1 h1 f
 ·have q1 := h1; try simp [Z7] at q1
  simp
  exact rt [.tmp 4] f
 have q1 := h1; try simp [Z7] at q1
 simp
 refine lp1 (ye.eq_2 a0) (fun v1_0 => Ya 18 [eI 0 a0, eL 1 1 v1_0 iR]) (fun n1 v1_0 => v1_0.length < n1 ∧ 1 ≤ v1_0.length ∧ v1_0.length ≤ 16) (a1.length + 1) a1 (fun p1 v1_0 e1 j1 => ?_) (hI := by first | omega | (simp at *; omega))
 try dsimp only at j1
 refine cFt e1 ?_ ?_ <;> intro k3 h2 e1
 ·refine cRs (Y4.rd (zb a0 v1_0 (by first | (simp (maxDischargeDepth := 12) [XS]; omega) | (simp (maxDischargeDepth := 12) [Zr (m := 2322432) (by decide) u0]; done)))) ?_
  exact nx1 e1 (hI := by (have z := Kz a0 v1_0 (by omega); (try dsimp only); simp at *; omega))
 have f := ms f e1
 have i1 := ik 0 v1_0
 simp [i1, ZD]
 repeat with_reducible refine sd ?_
 exact rt [.tmp 4] f
theorem TT (a0 : ZF) (a1 : Int) (u0 : Sm 2310144 a0) : Sa 71 [a0.row, rI a1] [rI (XO a0 a1)] := by
 have f := me (XO.eq_1 a0 a1)
 refine so Tryz.func71 Tryz.ntmps71 ?_
 refine cRs (Y4.rd (Vl a0 a1 (sg u0))) ?_
 refine cRs (N6 a1 (Y1 a0 a1) (by simp (maxDischargeDepth := 12) [jO, Zr (m := 2318336) (by decide) u0]; try omega)) ?_
 exact rt [.tmp 4] f
theorem jJ (a0 : List ZJ) (a1 : Int) : Sa 72 [rL 3 ZJ.row a0, rI a1] [rI (ZR a0 a1)] := by
 have f := me (ZR.eq_1 a0 a1)
 refine so Tryz.func72 Tryz.ntmps72 ?_
 refine lp1 (X7.eq_2 a0 a1) (fun v1_0 => Ya 20 [eI 1 a1, eL 7 3 a0 ZJ.row, eI 8 (↑a0.length : Int), eI 9 (↑v1_0 : Int)]) (fun n1 v1_0 => a0.length < n1 + v1_0 ∧ v1_0 ≤ a0.length) (a0.length + 1) 0 (fun p1 v1_0 e1 j1 => ?_)
 refine cFf e1 ?_ ?_ <;> intro k2 h1 e1
 ·have i1 := ix h1
  have m2 := ml a0 (k2 7 _ rfl)
  have w1 := wr v1_0
  simp [i1, ZD]
  repeat with_reducible refine sd ?_
  refine cF e1 ?_ ?_ <;> intro k3 h2 e1
  ·have f := ms f e1
   exact rt [.tmp 4] f
  exact ny1 w1 e1
 have f := ms f e1
 exact rt [.tmp 4] f
theorem Ts (a0 : List YG) (a1 : Int) : Sa 73 [rL 5 YG.row a0, rI a1] [rI (Xv a0 a1)] := by
 have f := me (Xv.eq_1 a0 a1)
 refine so Tryz.func73 Tryz.ntmps73 ?_
 refine lp1 (z9.eq_2 a0 a1) (fun v1_0 => Ya 20 [eI 1 a1, eL 7 5 a0 YG.row, eI 8 (↑a0.length : Int), eI 9 (↑v1_0 : Int)]) (fun n1 v1_0 => a0.length < n1 + v1_0 ∧ v1_0 ≤ a0.length) (a0.length + 1) 0 (fun p1 v1_0 e1 j1 => ?_)
 refine cFf e1 ?_ ?_ <;> intro k2 h1 e1
 ·have i1 := ix h1
  have m2 := ml a0 (k2 7 _ rfl)
  have w1 := wr v1_0
  simp [i1, ZD]
  repeat with_reducible refine sd ?_
  refine cF e1 ?_ ?_ <;> intro k3 h2 e1
  ·have f := ms f e1
   exact rt [.tmp 4] f
  exact ny1 w1 e1
 have f := ms f e1
 exact rt [.tmp 4] f
theorem IW (a0 : List Int) (a1 : Int) : Sa 117 [rL 1 iR a0, rI a1] [rI (V0 a0 a1)] := by
 have f := me (V0.eq_1 a0 a1)
 refine so Tryz.func117 Tryz.ntmps117 ?_
 refine lp1 (jX.eq_2 a0 a1) (fun v1_0 => Ya 19 [eI 1 a1, eL 7 1 a0 iR, eI 8 (↑a0.length : Int), eI 9 (↑v1_0 : Int)]) (fun n1 v1_0 => a0.length < n1 + v1_0 ∧ v1_0 ≤ a0.length) (a0.length + 1) 0 (fun p1 v1_0 e1 j1 => ?_)
 refine cFf e1 ?_ ?_ <;> intro k2 h1 e1
 ·have i1 := ix h1
  have m2 := ml a0 (k2 7 _ rfl)
  have w1 := wr v1_0
  simp [i1, ZD]
  repeat with_reducible refine sd ?_
  refine cF e1 ?_ ?_ <;> intro k3 h2 e1
  ·have f := ms f e1
   exact rt [.tmp 4] f
  exact ny1 w1 e1
 have f := ms f e1
 exact rt [.tmp 4] f
theorem RP (a0 : List Int) (a1 : Int) : Sa 56 [rL 1 iR a0, rI a1] [rB (jA a0 a1)] := by
 have f := me (jA.eq_1 a0 a1)
 refine so Tryz.func56 Tryz.ntmps56 ?_
 refine cRs (IW a0 a1) ?_
 exact rt [.tmp 4] f
theorem RD (a0 : Int) : Sa 121 [rI a0] [rB (Wt a0)] := by
 have f := me (Wt.eq_1 a0)
 refine so Tryz.func121 Tryz.ntmps121 ?_
 refine cRs (Xa a0 0 10000) ?_
 exact rt [.tmp 2] f
theorem NA (a0 : Int) (a1 : List Int) (u0 : Sm 2330624 a1) : Sa 202 [rI a0, rL 1 iR a1] [rI (xq a0 a1)] := by
 have f := me (xq.eq_1 a0 a1)
 have c1 := sl 2330624 a1 u0
 refine so Tryz.func202 Tryz.ntmps202 ?_
 refine cRs (Mu ((([a0] : List Int) ++ a1) ++ ([a0] : List Int))) ?_
 exact rt [.tmp 4] f
theorem MG (a0 : YG) (a1 : List Int) (u0 : Sm 2326528 a1) : Sa 169 [a0.row, rL 1 iR a1] [rI (jI a0 a1)] := by
 have f := me (jI.eq_1 a0 a1)
 refine so Tryz.func169 Tryz.ntmps169 ?_
 refine NL [2, 3, 4, 5, 6, 0, 1, 7, 8] mixed (by kernel_rfl) (by kernel_rfl) (by kernel_rfl) ?_
 have c1 := sl 2326528 a1 u0
 simp
 repeat with_reducible refine sd ?_
 refine cRs (NA a0.zE (([a0.Method] : List Int) ++ a1) (by simp (maxDischargeDepth := 12) [Kx, XS, Zr (m := 2330624) (by decide) u0]; try omega)) ?_
 exact rt [.tmp 4] f
theorem HX (a0 : List YG) (a1 : Int) (a2 : List Int) (u0 : Sm 2322432 a0) (u1 : Sm 2322432 a2) : Sa 122 [rL 5 YG.row a0, rI a1, rL 1 iR a2] [rI (kj a0 a1 a2).1, rB (kj a0 a1 a2).2] := by
 have f := me (kj.eq_1 a0 a1 a2)
 refine so Tryz.func122 Tryz.ntmps122 ?_
 refine cRs (Ts a0 a1) ?_
 refine cFt f ?_ ?_ <;> intro k1 h1 f
 ·exact rt [.tmp 6, .tmp 7] f
 have i1 : (Xv a0 a1).toNat < a0.length := by have := Tj a0 a1; exact il
 simp [i1, ZD]
 repeat with_reducible refine sd ?_
 refine cRs (MG (nth a0 (Xv a0 a1).toNat) a2 (sg u1)) ?_
 exact rt [.tmp 6, .tmp 7] f
theorem yl (a0 : List YG) (a1 : List ZJ) (a2 : ZQ) (u0 : Sm 2318336 a0) (u1 : Sm 2318336 a1) : Sa 58 [rL 5 YG.row a0, rL 3 ZJ.row a1, a2.row] [(JT a0 a1 a2).1.row, rB (JT a0 a1 a2).2] := by
 have f := me (JT.eq_1 a0 a1 a2)
 refine so Tryz.func58 Tryz.ntmps58 ?_
 refine cRs (jJ a1 a2.Authority) ?_
 refine cGs (fun gg => (RD a2.Time)) ?_
 refine cF f ?_ ?_ <;> intro k1 h1 f
 ·exact rt [.cell 6 98, .tmp 7] f
 refine dIo mixed ?_
 have i1 : (ZR a1 a2.Authority).toNat < a1.length := by have := XA a1 a2.Authority; exact il
 simp [i1, ZD]
 repeat with_reducible refine sd ?_
 refine cRs (Y4.rd (W5 a2)) ?_
 refine cRs (HX a0 (nth a1 (ZR a1 a2.Authority).toNat).Key (QP a2) (sg u0) (by simp (maxDischargeDepth := 12) [NW, Zr (m := 2322432) (by decide) u0, Zr (m := 2322432) (by decide) u1]; try omega)) ?_
 refine cF f ?_ ?_ <;> intro k3 h2 f
 ·exact rt [.cell 6 98, .tmp 7] f
 exact rt [.cell 6 98, .tmp 7] f
theorem Ow (a0 : List Int) (a1 : List Int) : Sa 223 [rL 1 iR a0, rL 1 iR a1] [rB (ja a0 a1)] := by
 have f := me (ja.eq_1 a0 a1)
 refine so Tryz.func223 Tryz.ntmps223 ?_
 refine cF f ?_ ?_ <;> intro k1 h1 f
 ·exact rt [.tmp 4] f
 refine lp1 (xM.eq_2 a0 a1) (fun v1_0 => Ya 26 [eL 0 1 a0 iR, eL 1 1 a1 iR, eI 12 (↑a0.length : Int), eI 13 (↑v1_0 : Int)]) (fun n1 v1_0 => a0.length < n1 + v1_0 ∧ v1_0 ≤ a0.length) (a0.length + 1) 0 (fun p1 v1_0 e1 j1 => ?_)
 refine cF e1 ?_ ?_ <;> intro k3 h2 e1
 ·have i1 := ix h2
  have m2 := ml a0 (k3 0 _ rfl)
  have w1 := wr v1_0
  refine dIo mixed ?_
  have i2 := ik v1_0 a1
  simp [i1, ZD, i2]
  repeat with_reducible refine sd ?_
  refine cF e1 ?_ ?_ <;> intro k5 h3 e1
  ·have f := ms f e1
   exact rt [.tmp 4] f
  exact ny1 w1 e1
 have f := ms f e1
 exact rt [.tmp 4] f
theorem kW (a0 : ZN) (a1 : ZN) : Sa 204 [a0.row, a1.row] [rB (KE a0 a1)] := by
 have f := me (KE.eq_1 a0 a1)
 refine so Tryz.func204 Tryz.ntmps204 ?_
 refine cGs (fun gg => (Ow a0.Y7 a1.Y7)) ?_
 exact rt [.tmp 4] f
theorem MV (a0 : List ZN) (a1 : ZN) : Sa 172 [rL 3 ZN.row a0, a1.row] [rB (qo a0 a1)] := by
 have f := me (qo.eq_1 a0 a1)
 refine so Tryz.func172 Tryz.ntmps172 ?_
 refine lp1 (qZ.eq_2 a0 a1) (fun v1_0 => Ya 17 [eX 3 (a1.row.map .d), eL 7 3 a0 ZN.row, eI 8 (↑a0.length : Int), eI 9 (↑v1_0 : Int)]) (fun n1 v1_0 => a0.length < n1 + v1_0 ∧ v1_0 ≤ a0.length) (a0.length + 1) 0 (fun p1 v1_0 e1 j1 => ?_)
 refine cFf e1 ?_ ?_ <;> intro k2 h1 e1
 ·have i1 := ix h1
  have m2 := ml a0 (k2 7 _ rfl)
  have w1 := wr v1_0
  simp [i1, ZD]
  repeat with_reducible refine sd ?_
  refine cRs (kW (nth a0 v1_0) a1) ?_
  refine cF e1 ?_ ?_ <;> intro k3 h2 e1
  ·have f := ms f e1
   exact rt [.tmp 4] f
  exact ny1 w1 e1
 have f := ms f e1
 exact rt [.tmp 4] f
theorem UL (a0 : Za) : Sa 126 [a0.row] [rB (Kj a0)] := by
 have f := me (Kj.eq_1 a0)
 refine so Tryz.func126 Tryz.ntmps126 ?_
 refine cRs (Xa (↑a0.ZO.length : Int) 1 12) ?_
 refine cFo f ?_ ?_ <;> intro k1 h1 f
 ·have q1 := h1; try simp [Z7] at q1
  simp
  exact rt [.tmp 2] f
 have q1 := h1; try simp [Z7] at q1
 simp
 refine lp1 (Kw.eq_2 a0) (fun v1_0 => Ya 65 [eX 1 (a0.row.map .d), eL 19 3 a0.ZO ZN.row, eI 20 (↑a0.ZO.length : Int), eI 21 (↑v1_0 : Int)]) (fun n1 v1_0 => a0.ZO.length < n1 + v1_0 ∧ v1_0 ≤ a0.ZO.length) (a0.ZO.length + 1) 0 (fun p1 v1_0 e1 j1 => ?_)
 refine cFf e1 ?_ ?_ <;> intro k3 h2 e1
 ·have i1 := ix h2
  have m2 := ml a0.ZO (k3 19 _ rfl)
  have w1 := wr v1_0
  simp [i1, ZD]
  repeat with_reducible refine sd ?_
  refine dIs mixed ?_
  refine cRs (MV (a0.ZO.take v1_0) (nth a0.ZO v1_0)) ?_
  refine cF e1 ?_ ?_ <;> intro k5 h3 e1
  ·have f := ms f e1
   exact rt [.tmp 2] f
  exact ny1 w1 e1
 have f := ms f e1
 refine lp1 (Kr.eq_2 a0) (fun v2_0 => Ya 65 [eX 1 (a0.row.map .d), eL 34 5 a0.ZX ZG.row, eI 35 (↑a0.ZX.length : Int), eI 36 (↑v2_0 : Int)]) (fun n2 v2_0 => a0.ZX.length < n2 + v2_0 ∧ v2_0 ≤ a0.ZX.length) (a0.ZX.length + 1) 0 (fun p2 v2_0 e2 j2 => ?_)
 refine cFf e2 ?_ ?_ <;> intro k7 h4 e2
 ·have i2 := ix h4
  have m4 := ml a0.ZX (k7 34 _ rfl)
  have w2 := wr v2_0
  simp [i2, ZD]
  repeat with_reducible refine sd ?_
  refine dIs mixed ?_
  refine cRs (Xa (nth a0.ZX v2_0).Count 1 (↑a0.ZO.length : Int)) ?_
  refine gIf ?_ ?_ <;> intro G
  ·have i3 := ik (v2_0 - 1) a0.ZX
   have w3 : IntKind.i64.wrap ((v2_0 : Int) - 1) = (v2_0 : Int) - 1 := ZW (by omega) (by omega)
   simp [i3, ZD, w3, zn, G]
   repeat with_reducible refine sdg ?_
   refine cKo e2 ?_ ?_ <;> intro k9 h5 e2
   ·try (simp [G] at h5; done)
    all_goals
     have q5 := h5; try simp [Z7] at q5
     have f := ms f e2
     simp [G]
     repeat with_reducible refine sdg ?_
     exact rtg [.tmp 2] f
   ·try (simp [G] at h5; done)
    all_goals
     have q5 := h5; try simp [Z7] at q5
     simp [G]
     repeat with_reducible refine sdg ?_
     exact ny1 (an w2 (an w3 G)) e2
  ·refine cKo e2 ?_ ?_ <;> intro k10 h6 e2
   ·try (simp [G] at h6; done)
    all_goals
     have q6 := h6; try simp [Z7] at q6
     have f := ms f e2
     simp [G]
     repeat with_reducible refine sdg ?_
     exact rtg [.tmp 2] f
   ·try (simp [G] at h6; done)
    all_goals
     have q6 := h6; try simp [Z7] at q6
     simp [G]
     repeat with_reducible refine sdg ?_
     exact ny1 (an w2 G) e2
 have f := ms f e2
 exact rt [.tmp 2] f
theorem Ua (a0 : Zh) : Sd 225 [a0.row] [rL 1 iR (Q6 a0)] := by
 have f := me (Q6.eq_1 a0)
 refine soD Tryz.func225 Tryz.ntmps225 ?_
 exact rtD [.tmp 2] f
theorem NO (a0 : Zh) : Sd 210 [a0.row] [(z7 a0).row] := by
 have f := me (z7.eq_1 a0)
 refine soD Tryz.func210 Tryz.ntmps210 ?_
 refine dIs mixed ?_
 refine cDs [false] (Ua a0) ?_
 exact rtD [.cell 2 187] f
theorem H5 (a0 : ZY) : Sa 182 [a0.row] [rB (W4 a0)] := by
 have f := me (W4.eq_1 a0)
 refine so Tryz.func182 Tryz.ntmps182 ?_
 refine dIs mixed ?_
 refine cRs (Xa a0.Id 1 999) ?_
 refine cGs (fun gg => (RD a0.Y8)) ?_
 refine cGs (fun gg => (Wl a0.Doc)) ?_
 refine cGs (fun gg => (UL a0.ZL)) ?_
 refine gIf ?_ ?_ <;> intro G
 ·have g1x := G
  have g1 := G; try simp [Z7] at g1
  have i1 : 0 < a0.ZL.ZO.length := by have := Pl (a := a0.ZL); simp_all
  simp [i1, ZD, G]
  repeat with_reducible refine sdg ?_
  refine cGg (fun gg => Y4.rd (NO a0.Sig)) ?_
  refine cGg (fun gg => (kW (nth a0.ZL.ZO 0) (z7 a0.Sig))) ?_
  exact rtg [.tmp 2] f
 ·have g1x := G
  refine sGo ?_
  simp [G]
  repeat with_reducible refine sdg ?_
  refine sGo ?_
  simp [G]
  repeat with_reducible refine sdg ?_
  exact rtg [.tmp 2] f
theorem VE (a0 : ZF) : Sa 138 [a0.row] [rB (Kh a0)] := by
 have f := me (Kh.eq_1 a0)
 refine so Tryz.func138 Tryz.ntmps138 ?_
 refine lp1 (zS.eq_2 a0) (fun v1_0 => Ya 42 [eX 1 (a0.row.map .d), eL 6 16 a0.ZM ZY.row, eI 7 (↑a0.ZM.length : Int), eI 8 (↑v1_0 : Int)]) (fun n1 v1_0 => a0.ZM.length < n1 + v1_0 ∧ v1_0 ≤ a0.ZM.length) (a0.ZM.length + 1) 0 (fun p1 v1_0 e1 j1 => ?_)
 refine cFf e1 ?_ ?_ <;> intro k2 h1 e1
 ·have i1 := ix h1
  have m2 := ml a0.ZM (k2 6 _ rfl)
  have w1 := wr v1_0
  simp [i1, ZD]
  repeat with_reducible refine sd ?_
  refine dIs mixed ?_
  refine cRs (H5 (nth a0.ZM v1_0)) ?_
  refine gIf ?_ ?_ <;> intro G
  ·have i2 := ik (v1_0 - 1) a0.ZM
   have w2 : IntKind.i64.wrap ((v1_0 : Int) - 1) = (v1_0 : Int) - 1 := ZW (by omega) (by omega)
   simp [i2, ZD, w2, zn, G]
   repeat with_reducible refine sdg ?_
   refine cK e1 ?_ ?_ <;> intro k4 h2 e1
   ·try (simp [G] at h2; done)
    all_goals
     have f := ms f e1
     exact rtg [.tmp 2] f
   ·try (simp [G] at h2; done)
    all_goals
     exact ny1 (an w1 (an w2 G)) e1
  ·refine cK e1 ?_ ?_ <;> intro k5 h3 e1
   ·try (simp [G] at h3; done)
    all_goals
     have f := ms f e1
     exact rtg [.tmp 2] f
   ·try (simp [G] at h3; done)
    all_goals
     exact ny1 (an w1 G) e1
 have f := ms f e1
 refine cRs (Xa a0.Id 0 99) ?_
 exact rt [.tmp 2] f
theorem UO {a b : Prop} (h : b) (k : a := by (intros; first | omega | with_unfolding_all (first | first | omega | (have tm := Int.tmod_eq_emod_of_nonneg (b := 2) (show 0 ≤ v1_1 by omega); (try simp only [yv, show ∀ x, IntKind.i64.wrap x = W x from fun _ => rfl] at *); (try simp at *); omega)) | ((try simp only [yv, show ∀ x, IntKind.i64.wrap x = W x from fun _ => rfl] at *); omega))) : a ∧ b := ⟨k, h⟩
theorem Nf (a0 : Int) (a1 : List Int) (a2 : Int) (u0 : Sm 2318336 a1) : Sd 139 [rI a0, rL 1 iR a1, rI a2] [rL 2 Zk.row (Xd a0 a1 a2)] := by
 have f := me (Xd.eq_1 a0 a1 a2)
 refine soD Tryz.func139 Tryz.ntmps139 ?_
 refine cRs (Xa a2 0 (W ((↑a1.length : Int) - 1))) ?_
 have c1 := sl 2318336 a1 u0
 have w1 : IntKind.i64.wrap ((a1.length : Int) - 1) = (a1.length : Int) - 1 := ZW (by omega) (by omega)
 refine cFo f ?_ ?_ <;> intro k1 h1 f
 ·have q1 := h1; try simp [Z7, w1] at q1
  simp
  exact rtD [.tmp 6] f
 have q1 := h1; try simp [Z7, w1] at q1
 simp
 refine lp3 (X5.eq_2 a0) (fun v1_0 v1_1 v1_2 => Ya 54 [eI 0 a0, eL 1 1 v1_0 iR, eI 2 v1_1, (7, .one (.sref 7 0 0 v1_2.length), [.arr false 2 (v1_2.map Zk.row)])]) (fun n1 v1_0 v1_1 v1_2 => v1_0.length < n1 ∧ 0 ≤ v1_1 ∧ v1_1 < (v1_0.length : Int) ∧ v1_0.length ≤ 16 ∧ v1_2.length + n1 ≤ 17) (a1.length + 1) a1 a2 ([] : List Zk) (fun p1 v1_0 v1_1 v1_2 e1 j1 => ?_) (hI := by first | omega | (simp at *; omega)) (h0 := Yj [((7, 0), none)] [] rfl (by simp))
 try dsimp only at j1
 refine cF e1 ?_ ?_ <;> intro k3 h2 e1
 ·refine cFf e1 ?_ ?_ <;> intro k4 h3 e1
  ·have i1 : (W (v1_1 - 1)).toNat < v1_0.length := by first | omega | (have tm := Int.tmod_eq_emod_of_nonneg (b := 2) (show 0 ≤ v1_1 by omega); (try simp only [yv, show ∀ x, IntKind.i64.wrap x = W x from fun _ => rfl] at *); (try simp at *); omega)
   simp [i1, ZD]
   repeat with_reducible refine UO ?_
   refine cRs (Y4.rd (zb a0 v1_0 (by first | (simp (maxDischargeDepth := 12) [XS]; omega) | (simp (maxDischargeDepth := 12) [Zr (m := 2322432) (by decide) u0]; done)))) ?_
   exact nx3 e1 (hI := by (have z := Kz a0 v1_0 (by omega); have td := Int.tdiv_eq_ediv_of_nonneg (b := 2) (show 0 ≤ v1_1 by omega); have w2 : W (Int.tdiv v1_1 2) = Int.tdiv v1_1 2 := ZW (by omega) (by omega); (try dsimp only); rw [w2]; simp at *; omega)) (hw := Yj [((7, 0), some (33, 0))] [] rfl (by simp [w1]))
  refine cFo e1 ?_ ?_ <;> intro k5 h4 e1
  ·have q4 := h4; try simp [w1] at q4
   have i2 : (W (v1_1 + 1)).toNat < v1_0.length := by first | omega | (have tm := Int.tmod_eq_emod_of_nonneg (b := 2) (show 0 ≤ v1_1 by omega); (try simp only [yv, show ∀ x, IntKind.i64.wrap x = W x from fun _ => rfl] at *); (try simp at *); omega)
   simp [i2, ZD]
   repeat with_reducible refine UO ?_
   refine cRs (Y4.rd (zb a0 v1_0 (by first | (simp (maxDischargeDepth := 12) [XS]; omega) | (simp (maxDischargeDepth := 12) [Zr (m := 2322432) (by decide) u0]; done)))) ?_
   exact nx3 e1 (hI := by (have z := Kz a0 v1_0 (by omega); have td := Int.tdiv_eq_ediv_of_nonneg (b := 2) (show 0 ≤ v1_1 by omega); have w2 : W (Int.tdiv v1_1 2) = Int.tdiv v1_1 2 := ZW (by omega) (by omega); (try dsimp only); rw [w2]; simp at *; omega)) (hw := Yj [((7, 0), some (47, 0))] [] rfl (by simp [w1]))
  have q4 := h4; try simp [w1] at q4
  simp
  refine cRs (Y4.rd (zb a0 v1_0 (by first | (simp (maxDischargeDepth := 12) [XS]; omega) | (simp (maxDischargeDepth := 12) [Zr (m := 2322432) (by decide) u0]; done)))) ?_
  exact ny3 w1 e1 (hI := by (have z := Kz a0 v1_0 (by omega); have td := Int.tdiv_eq_ediv_of_nonneg (b := 2) (show 0 ≤ v1_1 by omega); have w2 : W (Int.tdiv v1_1 2) = Int.tdiv v1_1 2 := ZW (by omega) (by omega); (try dsimp only); rw [w2]; simp at *; omega))
 have f := ms f e1
 exact rtD [.tmp 6] f
theorem R2 (a0 : Za) (a1 : ZG) (u0 : Sm 2326528 a0) (u1 : Sm 2326528 a1) : Sd 59 [a0.row, a1.row] [(Xo a0 a1).1.row, rB (Xo a0 a1).2] := by
 have f := me (Xo.eq_1 a0 a1)
 refine soD Tryz.func59 Tryz.ntmps59 ?_
 refine cDs [] (xB a0 (sg u0)) ?_
 refine LA [14] mixed (by kernel_rfl) (by kernel_rfl) ?_
 simp
 refine cDs [true, true, true, false, false] (jk a1 (sg u1)) ?_
 refine EM rfl rfl rfl (by simp) (by simp) (by simp) ?_
 have c1 := sl 2326528 a0.ZX (an u0 u1)
 simp
 refine EX (olds := (a0.ZX.map ZG.row)) (news := (([a1] : List ZG).map ZG.row)) (l1 := [(8, 1)]) (l2 := [(12, 3), (12, 4)]) (size := 5) rfl rfl rfl rfl (by simp) (by simp) (by simp) (by simp) (by simp) (by simp; omega) ?_
 simp
 refine cRs (UL (Za.mk a0.ZO (a0.ZX ++ ([a1] : List ZG)))) ?_
 refine cF f ?_ ?_ <;> intro k2 h1 f
 ·refine cDs [] (xB a0 (sg u0)) ?_
  exact rtD [.cell 4 85, .tmp 5] f
 exact rtD [.cell 4 85, .tmp 5] f
theorem Sj (a0 : ZF) (a1 : Int) (a2 : List ZQ) (u0 : Sm 2306048 a0) (u1 : Sm 2306048 a2) : Sd 74 [a0.row, rI a1, rL 5 ZQ.row a2] [(XZ a0 a1 a2).1.row, rB (XZ a0 a1 a2).2] := by
 have f := me (XZ.eq_1 a0 a1 a2)
 refine soD Tryz.func74 Tryz.ntmps74 ?_
 refine cGs (fun gg => (VE a0)) ?_
 refine cF f ?_ ?_ <;> intro k1 h1 f
 ·refine cDs [] (JH a0 (sg u0)) ?_
  exact rtD [.cell 6 64, .tmp 7] f
 refine cDs [] (JH a0 (sg u0)) ?_
 refine cRs (Y4.rd (Vl a0 a1 (sg u0))) ?_
 refine lp2 (XM.eq_2 a0 a1 a2) (fun v1_0 v1_1 => Ya 75 [eI 1 a1, eL 2 5 a2 ZQ.row, eX 3 (a0.row.map .d), (6, .one (.bptr 6 0), [.box [.d (.int .i64 0), .nil 16]]), (8, .one (.bptr 8 0), [.box [.d (.int .i64 a0.Id), .sref 26 1 0 v1_1.length]]), eL 9 1 (Y1 a0 a1) iR, (26, .any, [.none, .arr true 16 (v1_1.map ZY.row)]), eL 31 16 a0.ZM ZY.row, eI 32 (↑a0.ZM.length : Int), eI 33 (↑v1_0 : Int)]) (fun n1 v1_0 v1_1 => a0.ZM.length < n1 + v1_0 ∧ v1_0 ≤ a0.ZM.length ∧ v1_1.length = a0.ZM.length) (a0.ZM.length + 1) 0 a0.ZM (fun p1 v1_0 v1_1 e1 j1 => ?_)
 refine cFf e1 ?_ ?_ <;> intro k3 h2 e1
 ·have i1 := ix h2
  have m2 := ml a0.ZM (k3 31 _ rfl)
  have c1 := sl 2306048 a0.ZM (an u0 u1)
  have w1 := wr v1_0
  simp [i1, ZD]
  repeat with_reducible refine sd ?_
  refine dIs mixed ?_
  refine cRs (TT a0 a1 (sg u0)) ?_
  refine cRs (Y4.rd (Nf a1 (Y1 a0 a1) (↑v1_0 : Int) (by simp (maxDischargeDepth := 12) [jO, Zr (m := 2318336) (by decide) u0, Zr (m := 2318336) (by decide) u1]; try omega))) ?_
  refine cDs [] (R2 (nth a0.ZM v1_0).ZL (ZG.mk (↑(nth a0.ZM v1_0).ZL.ZO.length : Int) a1 (XO a0 a1) (Xd a1 (Y1 a0 a1) (↑v1_0 : Int)) a2) (sg (ZY.KF (Xm (ZF.Kk u0)))) (by simp (maxDischargeDepth := 12) [ML, jO, Zr (m := 2326528) (by decide) u0, Zr (m := 2326528) (by decide) u1]; try omega)) ?_
  refine cFt e1 ?_ ?_ <;> intro k5 h3 e1
  ·refine cDs [] (JH a0 (sg u0)) ?_
   have f := ms f e1
   exact rtD [.cell 6 64, .tmp 7] f
  have i2 := ik v1_0 v1_1
  simp [i2, ZD]
  repeat with_reducible refine sd ?_
  refine Gr (t := 26) (j := 1) (i := v1_0) (c := 14) (size := 16) (rows := (v1_1.map ZY.row)) (ds := (Xo (nth a0.ZM v1_0).ZL (ZG.mk (↑(nth a0.ZM v1_0).ZL.ZO.length : Int) a1 (XO a0 a1) (Xd a1 (Y1 a0 a1) (↑v1_0 : Int)) a2)).1.row) (L := [(55, 0), (55, 1)]) rfl rfl rfl rfl (by simp) (by simp) (by simp; try omega) (by simp) (by simp) (by simp) (by simp) (by simp) (by simp) ?_
  simp [Zp (x := (ZY.mk (nth v1_1 v1_0).Id (nth v1_1 v1_0).Y8 (nth v1_1 v1_0).Doc (nth v1_1 v1_0).Sig (Xo (nth a0.ZM v1_0).ZL (ZG.mk (↑(nth a0.ZM v1_0).ZL.ZO.length : Int) a1 (XO a0 a1) (Xd a1 (Y1 a0 a1) (↑v1_0 : Int)) a2)).1)) rfl, i2, ZD, Zl]
  repeat with_reducible refine sd ?_
  exact ny2 w1 e1
 have c2 := sl 2306048 a0.ZM (an u0 u1)
 have f := ms f e1
 refine cRs (VE (ZF.mk a0.Id v1_1)) ?_
 refine cF f ?_ ?_ <;> intro k6 h4 f
 ·refine cDs [] (JH a0 (sg u0)) ?_
  exact rtD [.cell 6 64, .tmp 7] f
 exact rtD [.cell 6 64, .tmp 7] f
theorem Wz (a0 : ZZ) (a1 : Int) (a2 : List Int) (a3 : Int) (u0 : Sm 2301952 a0) (u1 : Sm 2301952 a2) : Sd 20 [a0.row, rI a1, rL 1 iR a2, rI a3] [(Zu a0 a1 a2 a3).1.row, rB (Zu a0 a1 a2 a3).2] := by
 have f := me (Zu.eq_1 a0 a1 a2 a3)
 refine soD Tryz.func20 Tryz.ntmps20 ?_
 refine cDs [false, false, false, true, true, false, false, true, false, false, true, false] (XY a0 (sg u0)) ?_
 refine cRs (PC a0.Frame.Methods a0.Frame.Now) ?_
 refine cRs (kQ a0 a1) ?_
 refine cGs (fun gg => (P8 a2)) ?_
 refine cGs (fun gg => (Xa a3 (-10000) 10000)) ?_
 have c1 := sl 2301952 a0.ZI (an u0 u1)
 have w1 : IntKind.i64.wrap ((a0.ZI.length : Int) - 1) = (a0.ZI.length : Int) - 1 := ZW (by omega) (by omega)
 refine cFo f ?_ ?_ <;> intro k1 h1 f
 ·have q1 := h1; try simp [Z7, w1, Xn] at q1
  simp
  exact rtD [.cell 8 41, .tmp 9] f
 have q1 := h1; try simp [Z7, w1, Xn] at q1
 have i1 := ik a1.toNat a0.ZI
 simp [i1, ZD]
 repeat with_reducible refine sd ?_
 refine cRs (TT (nth a0.ZI a1.toNat) (YP a0.Frame.Methods a0.Frame.Now) (sg (Xm (ZZ.QO u0)))) ?_
 refine lp3 (XI.eq_2 a0 a1 a2 a3) (fun v1_0 v1_1 v1_2 => Ya 175 [eI 1 a1, eI 3 a3, eX 4 (a0.row.map .d), (8, .one (.bptr 8 0), [.box [.nil 5, .nil 3, .nil 4, .d (.int .i64 0), .d (.int .i64 0), .nil 7, .nil 1, .nil 2, .nil 1, .nil 1, .d (.int .i64 0), .nil 1]]), eX 10 (a0.Frame.row.map .d), (11, .one (.bptr 11 0), [.box [.sref 27 0 0 a0.Frame.YV.length, .sref 27 1 0 a0.Frame.ZC.length, .sref 27 2 0 a0.Frame.Methods.length, .d (.int .i64 a0.Frame.zN), .d (.int .i64 a0.Frame.Now), .sref 27 5 0 a0.Zy.length, .sref 27 6 0 a0.Z3.length, .sref 27 7 0 a0.ZI.length, .sref 27 8 0 v1_2.length, .sref 27 9 0 a0.Yl.length, .d (.int .i64 a0.Next), .sref 27 11 0 a0.Ym.length]]), eI 12 (YP a0.Frame.Methods a0.Frame.Now), eI 13 (XO (nth a0.ZI a1.toNat) (YP a0.Frame.Methods a0.Frame.Now)), (14, .one (.sref 14 0 0 v1_0.length), [.arr false 5 (v1_0.map ZQ.row)]), (27, .any, [.arr false 5 (a0.Frame.YV.map YG.row), .arr false 3 (a0.Frame.ZC.map ZJ.row), .arr false 4 (a0.Frame.Methods.map Zc.row), .none, .none, .arr false 7 (a0.Zy.map Z0.row), .arr false 1 (a0.Z3.map iR), .arr true 2 (a0.ZI.map ZF.row), .arr false 1 (v1_2.map iR), .arr false 1 (a0.Yl.map iR), .none, .arr false 1 (a0.Ym.map iR)]), eL 64 1 a2 iR, eI 65 (↑a2.length : Int), eI 66 (↑v1_1 : Int)]) (fun n1 v1_0 v1_1 v1_2 => a2.length < n1 + v1_1 ∧ v1_1 ≤ a2.length ∧ v1_0.length ≤ 0 + 1 * v1_1 ∧ v1_2.length = a0.YZ.length) (a2.length + 1) ([] : List ZQ) 0 a0.YZ (fun p1 v1_0 v1_1 v1_2 e1 j1 => ?_) (h0 := Yj [((14, 0), none)] [] rfl (by simp))
 refine cFo e1 ?_ ?_ <;> intro k3 h2 e1
 ·have i2 := ix h2
  have m2 := ml a2 (k3 64 _ rfl)
  have c2 := sl 2301952 a2 (an u0 u1)
  have w2 := wr v1_1
  simp [i2, ZD]
  repeat with_reducible refine sd ?_
  refine cRs (jJ a0.Frame.ZC (nth a2 v1_1)) ?_
  refine cF e1 ?_ ?_ <;> intro k4 h3 e1
  ·refine cDs [false, false, false, true, true, false, false, true, false, false, true, false] (XY a0 (sg u0)) ?_
   have f := ms f e1
   exact rtD [.cell 8 41, .tmp 9] f
  refine dIo mixed ?_
  have i3 : (ZR a0.Frame.ZC (nth a2 v1_1)).toNat < a0.Frame.ZC.length := by have := XA a0.Frame.ZC (nth a2 v1_1); exact il
  simp [i3, ZD]
  repeat with_reducible refine sd ?_
  refine cRs (Ts a0.Frame.YV (nth a0.Frame.ZC (ZR a0.Frame.ZC (nth a2 v1_1)).toNat).Key) ?_
  refine dIs mixed ?_
  refine gIf ?_ ?_ <;> intro G
  ·have i4 : (Xv a0.Frame.YV (nth a0.Frame.ZC (ZR a0.Frame.ZC (nth a2 v1_1)).toNat).Key).toNat < a0.Frame.YV.length := by have := Tj a0.Frame.YV (nth a0.Frame.ZC (ZR a0.Frame.ZC (nth a2 v1_1)).toNat).Key; exact il
   simp [i4, ZD, G]
   repeat with_reducible refine sdg ?_
   refine cK e1 ?_ ?_ <;> intro k7 h4 e1
   ·try (simp [G] at h4; done)
    all_goals
     refine cDg [false, false, false, true, true, false, false, true, false, false, true, false] (XY a0 (sg u0)) ?_
     have f := ms f e1
     exact EL [.cell 8 41, .tmp 9] f
   ·try (simp [G] at h4; done)
    all_goals
     refine cRg (RP a0.Yl (nth a2 v1_1)) ?_
     refine cK e1 ?_ ?_ <;> intro k8 h5 e1
     ·try (simp [G] at h5; done)
      all_goals
       refine dIo mixed ?_
       have i5 : (ZR a0.Frame.ZC (nth a2 v1_1)).toNat < a0.YZ.length := by have := XA a0.Frame.ZC (nth a2 v1_1); exact il
       simp [i5, ZD, G]
       repeat with_reducible refine sdg ?_
       refine cRg (yl a0.Frame.YV a0.Frame.ZC (ZQ.mk (nth a2 v1_1) (nth a0.YZ (ZR a0.Frame.ZC (nth a2 v1_1)).toNat) (if (if (W (a0.Frame.Now + a3)) < 10000 then (W (a0.Frame.Now + a3)) else 10000) > 0 then (if (W (a0.Frame.Now + a3)) < 10000 then (W (a0.Frame.Now + a3)) else 10000) else 0) (XO (nth a0.ZI a1.toNat) (YP a0.Frame.Methods a0.Frame.Now)) 0) (sg (YF.WV (ZZ.Qx u0))) (sg (YF.Qq (ZZ.Qx u0)))) ?_ (hrows := by first | (simp; done) | (simp [W, w1, w2]; done))
       refine cKo e1 ?_ ?_ <;> intro k10 h6 e1
       ·try (simp [G] at h6; done)
        all_goals
         have q6 := h6; try simp [w1] at q6
         simp [G]
         repeat with_reducible refine sdg ?_
         refine cDg [false, false, false, true, true, false, false, true, false, false, true, false] (XY a0 (sg u0)) ?_
         have f := ms f e1
         exact EL [.cell 8 41, .tmp 9] f
       ·try (simp [G] at h6; done)
        all_goals
         have q6 := h6; try simp [w1] at q6
         have i6 : (ZR a0.Frame.ZC (nth a2 v1_1)).toNat < v1_2.length := by have := XA a0.Frame.ZC (nth a2 v1_1); exact il
         simp [i6, ZD, Zp (x := (W ((nth v1_2 (ZR a0.Frame.ZC (nth a2 v1_1)).toNat) + 1))) rfl, G]
         repeat with_reducible refine sdg ?_
         exact nx3 e1 (hw := Yj [((14, 0), some (145, 0))] [] rfl (by simp [w1, w2, G]))
     ·try (simp [G] at h5; done)
      all_goals
       refine dIo mixed ?_
       have i7 : (ZR a0.Frame.ZC (nth a2 v1_1)).toNat < a0.YZ.length := by have := XA a0.Frame.ZC (nth a2 v1_1); exact il
       simp [i7, ZD, G]
       repeat with_reducible refine sdg ?_
       refine cRg (yl a0.Frame.YV a0.Frame.ZC (ZQ.mk (nth a2 v1_1) (nth a0.YZ (ZR a0.Frame.ZC (nth a2 v1_1)).toNat) a0.Frame.Now (XO (nth a0.ZI a1.toNat) (YP a0.Frame.Methods a0.Frame.Now)) 0) (sg (YF.WV (ZZ.Qx u0))) (sg (YF.Qq (ZZ.Qx u0)))) ?_
       refine cKt e1 ?_ ?_ <;> intro k12 h7 e1
       ·try (simp [G] at h7; done)
        all_goals
         refine cDg [false, false, false, true, true, false, false, true, false, false, true, false] (XY a0 (sg u0)) ?_
         have f := ms f e1
         exact EL [.cell 8 41, .tmp 9] f
       ·try (simp [G] at h7; done)
        all_goals
         have i8 : (ZR a0.Frame.ZC (nth a2 v1_1)).toNat < v1_2.length := by have := XA a0.Frame.ZC (nth a2 v1_1); exact il
         simp [i8, ZD, Zp (x := (W ((nth v1_2 (ZR a0.Frame.ZC (nth a2 v1_1)).toNat) + 1))) rfl, G]
         repeat with_reducible refine sdg ?_
         exact nx3 e1 (hw := Yj [((14, 0), some (145, 0))] [] rfl (by simp [w1, w2, G]))
  ·refine cK e1 ?_ ?_ <;> intro k13 h8 e1
   ·try (simp [G] at h8; done)
    all_goals
     refine cDg [false, false, false, true, true, false, false, true, false, false, true, false] (XY a0 (sg u0)) ?_
     have f := ms f e1
     exact EL [.cell 8 41, .tmp 9] f
   ·try (simp [G] at h8; done)
    all_goals
     refine cRg (RP a0.Yl (nth a2 v1_1)) ?_
     refine cK e1 ?_ ?_ <;> intro k14 h9 e1
     ·try (simp [G] at h9; done)
      all_goals
       refine dIo mixed ?_
       have i10 : (ZR a0.Frame.ZC (nth a2 v1_1)).toNat < a0.YZ.length := by have := XA a0.Frame.ZC (nth a2 v1_1); exact il
       simp [i10, ZD, G]
       repeat with_reducible refine sdg ?_
       refine cRg (yl a0.Frame.YV a0.Frame.ZC (ZQ.mk (nth a2 v1_1) (nth a0.YZ (ZR a0.Frame.ZC (nth a2 v1_1)).toNat) (if (if (W (a0.Frame.Now + a3)) < 10000 then (W (a0.Frame.Now + a3)) else 10000) > 0 then (if (W (a0.Frame.Now + a3)) < 10000 then (W (a0.Frame.Now + a3)) else 10000) else 0) (XO (nth a0.ZI a1.toNat) (YP a0.Frame.Methods a0.Frame.Now)) 0) (sg (YF.WV (ZZ.Qx u0))) (sg (YF.Qq (ZZ.Qx u0)))) ?_ (hrows := by first | (simp; done) | (simp [W, w1, w2]; done))
       refine cKo e1 ?_ ?_ <;> intro k16 h10 e1
       ·try (simp [G] at h10; done)
        all_goals
         have q10 := h10; try simp [w1] at q10
         simp [G]
         repeat with_reducible refine sdg ?_
         refine cDg [false, false, false, true, true, false, false, true, false, false, true, false] (XY a0 (sg u0)) ?_
         have f := ms f e1
         exact EL [.cell 8 41, .tmp 9] f
       ·try (simp [G] at h10; done)
        all_goals
         have q10 := h10; try simp [w1] at q10
         have i11 : (ZR a0.Frame.ZC (nth a2 v1_1)).toNat < v1_2.length := by have := XA a0.Frame.ZC (nth a2 v1_1); exact il
         simp [i11, ZD, Zp (x := (W ((nth v1_2 (ZR a0.Frame.ZC (nth a2 v1_1)).toNat) + 1))) rfl, G]
         repeat with_reducible refine sdg ?_
         exact nx3 e1 (hw := Yj [((14, 0), some (145, 0))] [] rfl (by simp [w1, w2, G]))
     ·try (simp [G] at h9; done)
      all_goals
       refine dIo mixed ?_
       have i12 : (ZR a0.Frame.ZC (nth a2 v1_1)).toNat < a0.YZ.length := by have := XA a0.Frame.ZC (nth a2 v1_1); exact il
       simp [i12, ZD, G]
       repeat with_reducible refine sdg ?_
       refine cRg (yl a0.Frame.YV a0.Frame.ZC (ZQ.mk (nth a2 v1_1) (nth a0.YZ (ZR a0.Frame.ZC (nth a2 v1_1)).toNat) a0.Frame.Now (XO (nth a0.ZI a1.toNat) (YP a0.Frame.Methods a0.Frame.Now)) 0) (sg (YF.WV (ZZ.Qx u0))) (sg (YF.Qq (ZZ.Qx u0)))) ?_
       refine cKt e1 ?_ ?_ <;> intro k18 h11 e1
       ·try (simp [G] at h11; done)
        all_goals
         refine cDg [false, false, false, true, true, false, false, true, false, false, true, false] (XY a0 (sg u0)) ?_
         have f := ms f e1
         exact EL [.cell 8 41, .tmp 9] f
       ·try (simp [G] at h11; done)
        all_goals
         have i13 : (ZR a0.Frame.ZC (nth a2 v1_1)).toNat < v1_2.length := by have := XA a0.Frame.ZC (nth a2 v1_1); exact il
         simp [i13, ZD, Zp (x := (W ((nth v1_2 (ZR a0.Frame.ZC (nth a2 v1_1)).toNat) + 1))) rfl, G]
         repeat with_reducible refine sdg ?_
         exact nx3 e1 (hw := Yj [((14, 0), some (145, 0))] [] rfl (by simp [w1, w2, G]))
 have c3 := sl 2301952 a2 (an u0 u1)
 have f := ms f e1
 simp [i1, ZD]
 repeat with_reducible refine sd ?_
 refine cDs [] (Sj (nth a0.ZI a1.toNat) (YP a0.Frame.Methods a0.Frame.Now) v1_0 (sg (Xm (ZZ.QO u0))) (by first | (simp (maxDischargeDepth := 12) [XS]; omega) | (simp (maxDischargeDepth := 12) [Zr (m := 2306048) (by decide) u0, Zr (m := 2306048) (by decide) u1]; done))) ?_
 refine cFt f ?_ ?_ <;> intro k19 h12 f
 ·refine cDs [false, false, false, true, true, false, false, true, false, false, true, false] (XY a0 (sg u0)) ?_
  exact rtD [.cell 8 41, .tmp 9] f
 simp [i1, ZD]
 repeat with_reducible refine sd ?_
 refine Gr (t := 27) (j := 7) (i := a1.toNat) (c := 0) (size := 2) (rows := (a0.ZI.map ZF.row)) (ds := (XZ (nth a0.ZI a1.toNat) (YP a0.Frame.Methods a0.Frame.Now) v1_0).1.row) (L := [(162, 1)]) rfl rfl rfl rfl (by simp) (by simp) (by simp; try omega) (by simp) (by simp) (by simp) (by simp) (by simp) (by simp) ?_
 simp [Zp (x := (XZ (nth a0.ZI a1.toNat) (YP a0.Frame.Methods a0.Frame.Now) v1_0).1) rfl, c1, i1, ZD, Zl]
 repeat with_reducible refine sd ?_
 exact rtD [.cell 8 41, .tmp 9] f
end Go.Proofs.YtjflhdkeibijaaaGreat
