/- Contracts of the functions Oj the abstract machine, part I1. No condition. -/
import Derived.Test.YtjflhdkeibijaaaGreatL
import Derived.Test.YtjflhdkeibijaaaGreatTy
namespace Go.Proofs.YtjflhdkeibijaaaGreat
open Go.Vm Go.Mo
set_option maxHeartbeats 1000000
set_option maxRecDepth 100000
set_option linter.unusedSimpArgs false
set_option linter.unusedVariables false
theorem Pj (a0 : YJ) (u0 : Sm 2342912 a0) : Sd 87 [a0.row] [(Wr a0).row] := by
 have f := me (Wr.eq_1 a0)
 have c1 := sl 2342912 a0.XE u0
 have c2 := sl 2342912 a0.Zc u0
 have c3 := sl 2342912 a0.Methods u0
 refine soD Tryz.func87 Tryz.ntmps87 ?_
 exact rtD [.cell 2 37] f
theorem RG (a0 : YJ) (u0 : Sm 2342912 a0) : Sd 87 [a0.row] [a0.row] := by
  have h := Pj a0 u0
  rwa [OA] at h
theorem NO (a0 : List Int) (u0 : Sm 2342912 a0) : Sd 88 [rL 1 iR a0] [rL 1 iR (Vv a0)] := by
 have f := me (Vv.eq_1 a0)
 have c1 := sl 2342912 a0 u0
 refine soD Tryz.func88 Tryz.ntmps88 ?_
 exact rtD [.tmp 2] f
theorem Je (a0 : List Int) (u0 : Sm 2342912 a0) : Sd 88 [rL 1 iR a0] [rL 1 iR a0] := by
  have h := NO a0 u0
  rwa [Nr] at h
theorem TQ (a0 : ZR) (u0 : Sm 2338816 a0) : Sd 146 [a0.row] [(qZ a0).row] := by
 have f := me (qZ.eq_1 a0)
 refine soD Tryz.func146 Tryz.ntmps146 ?_
 refine HW [2, 3, 4, 5, 0, 1, 6, 7, 8, 9, 10] mixed (by kernel_rfl) (by kernel_rfl) (by kernel_rfl) ?_
 have c1 := sl 2338816 a0.ZE u0
 simp
 repeat with_reducible refine sd ?_
 refine cDs [false] (Je a0.ZG (sg (ZR.Ok u0))) ?_
 exact rtD [.cell 2 88] f
theorem Vz (a0 : ZR) (u0 : Sm 2338816 a0) : Sd 146 [a0.row] [a0.row] := by
  have h := TQ a0 u0
  rwa [Uj] at h
theorem PX (a0 : ZM) (u0 : Sm 2338816 a0) : Sd 203 [a0.row] [(W4 a0).row] := by
 have f := me (W4.eq_1 a0)
 refine soD Tryz.func203 Tryz.ntmps203 ?_
 refine cDs [false] (Je a0.Yh (sg (ZM.FA u0))) ?_
 exact rtD [.cell 2 187] f
theorem RF (a0 : ZM) (u0 : Sm 2338816 a0) : Sd 203 [a0.row] [a0.row] := by
  have h := PX a0 u0
  rwa [Oq] at h
theorem Rs (a0 : List ZM) (u0 : Sm 2334720 a0) : Sd 170 [rL 3 ZM.row a0] [rL 3 ZM.row (qB a0)] := by
 have f := me (qB.eq_1 a0)
 refine soD Tryz.func170 Tryz.ntmps170 ?_
 refine lp2 (yX.eq_2 a0) (fun v1_0 v1_1 => YM 19 [(3, .one (.sref 3 0 0 v1_0.length), [.arr true 3 (v1_0.map ZM.row)]), eL 6 3 a0 ZM.row, eI 7 (↑a0.length : Int), eI 8 (↑v1_1 : Int)]) (fun n1 v1_0 v1_1 => a0.length < n1 + v1_1 ∧ v1_1 ≤ a0.length ∧ v1_0.length ≤ 0 + 1 * v1_1) (a0.length + 1) ([] : List ZM) 0 (fun p1 v1_0 v1_1 e1 j1 => ?_) (h0 := YO [((3, 0), none)] [] rfl (by simp))
 refine cFf e1 ?_ ?_ <;> intro k2 h1 e1
 ·have i1 := ix h1
  have m2 := ml a0 (k2 6 _ rfl)
  have c1 := sl 2334720 a0 u0
  have w1 := wr v1_1
  simp [i1, ZD]
  repeat with_reducible refine sd ?_
  refine cDs [true, false] (RF (nth a0 v1_1) (sg (Yl u0))) ?_
  refine jY rfl rfl rfl (by simp) (by simp) (by simp) ?_
  simp
  refine kE (olds := (v1_0.map ZM.row)) (news := (([(nth a0 v1_1)] : List ZM).map ZM.row)) (l1 := [(3, 0)]) (l2 := [(14, 1)]) (size := 3) rfl rfl rfl rfl (by simp) (by simp) (by simp) (by simp) (by simp) (by simp; omega) ?_
  simp
  exact nx2 e1 (hw := YO [((3, 0), some (16, 0))] [] rfl (by simp [w1]))
 have c2 := sl 2334720 a0 u0
 have f := ms f e1
 exact rtD [.tmp 2] f
theorem Tf (a0 : List ZM) (u0 : Sm 2334720 a0) : Sd 170 [rL 3 ZM.row a0] [rL 3 ZM.row a0] := by
  have h := Rs a0 u0
  rwa [Sy] at h
theorem RJ (a0 : List Za) (u0 : Sm 2342912 a0) : Sd 171 [rL 5 Za.row a0] [rL 5 Za.row (kl a0)] := by
 have f := me (kl.eq_1 a0)
 have c1 := sl 2342912 a0 u0
 refine soD Tryz.func171 Tryz.ntmps171 ?_
 exact rtD [.tmp 2] f
theorem Te (a0 : List Za) (u0 : Sm 2342912 a0) : Sd 171 [rL 5 Za.row a0] [rL 5 Za.row a0] := by
  have h := RJ a0 u0
  rwa [S0] at h
theorem TX (a0 : ZL) (u0 : Sm 2338816 a0) : Sd 125 [a0.row] [(jZ a0).row] := by
 have f := me (jZ.eq_1 a0)
 have c1 := sl 2338816 a0.Path u0
 refine soD Tryz.func125 Tryz.ntmps125 ?_
 refine cDs [false] (Te a0.Zu (sg (ZL.M4 u0))) ?_
 exact rtD [.cell 2 96] f
theorem TG (a0 : ZL) (u0 : Sm 2338816 a0) : Sd 125 [a0.row] [a0.row] := by
  have h := TX a0 u0
  rwa [Tq] at h
theorem Rh (a0 : Zf) (u0 : Sm 2330624 a0) : Sd 124 [a0.row] [(xu a0).row] := by
 have f := me (xu.eq_1 a0)
 refine soD Tryz.func124 Tryz.ntmps124 ?_
 refine cDs [] (Tf a0.ZS (sg (Zf.jt u0))) ?_
 refine lp2 (yC.eq_2 a0) (fun v1_0 v1_1 => YM 26 [(2, .one (.bptr 2 0), [.box [.nil 3, .nil 5]]), (3, .one (.bptr 3 0), [.box [.sref 8 0 0 a0.ZS.length, .sref 3 2 0 v1_1.length], .none, .arr true 5 (v1_1.map ZL.row)]), (8, .any, [.arr true 3 (a0.ZS.map ZM.row)]), eL 11 5 a0.Zj ZL.row, eI 12 (↑a0.Zj.length : Int), eI 13 (↑v1_0 : Int)]) (fun n1 v1_0 v1_1 => a0.Zj.length < n1 + v1_0 ∧ v1_0 ≤ a0.Zj.length ∧ v1_1.length ≤ 0 + 1 * v1_0) (a0.Zj.length + 1) 0 ([] : List ZL) (fun p1 v1_0 v1_1 e1 j1 => ?_) (h0 := YO [((3, 2), none)] [] rfl (by simp))
 refine cFf e1 ?_ ?_ <;> intro k2 h1 e1
 ·have i1 := ix h1
  have m2 := ml a0.Zj (k2 11 _ rfl)
  have c1 := sl 2330624 a0.Zj u0
  have w1 := wr v1_0
  simp [i1, ZD]
  repeat with_reducible refine sd ?_
  refine xj [22] mixed (by kernel_rfl) (by kernel_rfl) ?_
  simp
  refine cDs [true, true, true, false, false] (TG (nth a0.Zj v1_0) (sg (Yl (Zf.Wh u0)))) ?_
  refine jY rfl rfl rfl (by simp) (by simp) (by simp) ?_
  simp
  refine kE (olds := (v1_1.map ZL.row)) (news := (([(nth a0.Zj v1_0)] : List ZL).map ZL.row)) (l1 := [(3, 2)]) (l2 := [(20, 3), (20, 4)]) (size := 5) rfl rfl rfl rfl (by simp) (by simp) (by simp) (by simp) (by simp) (by simp; omega) ?_
  simp
  exact nx2 e1 (hw := YO [((3, 2), some (22, 0))] [] rfl (by simp [w1]))
 have c2 := sl 2330624 a0.Zj u0
 have f := ms f e1
 exact rtD [.cell 2 85] f
theorem SB (a0 : Zf) (u0 : Sm 2330624 a0) : Sd 124 [a0.row] [a0.row] := by
  have h := Rh a0 u0
  rwa [RO] at h
theorem N2 (a0 : ZI) (u0 : Sm 2326528 a0) : Sd 90 [a0.row] [(UF a0).row] := by
 have f := me (UF.eq_1 a0)
 refine soD Tryz.func90 Tryz.ntmps90 ?_
 refine cDs [true, false, false] (Vz a0.Doc (sg (ZI.TU u0))) ?_
 refine cDs [] (SB a0.ZQ (sg (ZI.yp u0))) ?_
 exact rtD [.cell 2 92] f
theorem yM (a0 : ZI) (u0 : Sm 2326528 a0) : Sd 90 [a0.row] [a0.row] := by
  have h := N2 a0 u0
  rwa [Nu] at h
theorem TV (a0 : ZC) (u0 : Sm 2322432 a0) : Sd 89 [a0.row] [(xB a0).row] := by
 have f := me (xB.eq_1 a0)
 refine soD Tryz.func89 Tryz.ntmps89 ?_
 refine lp2 (zL.eq_2 a0) (fun v1_0 v1_1 => YM 25 [(2, .one (.bptr 2 0), [.box [.d (.int .i64 0), .nil 16]]), (3, .one (.bptr 3 0), [.box [.d (.int .i64 a0.Id), .sref 3 2 0 v1_1.length], .none, .arr true 16 (v1_1.map ZI.row)]), eL 10 16 a0.ZF ZI.row, eI 11 (↑a0.ZF.length : Int), eI 12 (↑v1_0 : Int)]) (fun n1 v1_0 v1_1 => a0.ZF.length < n1 + v1_0 ∧ v1_0 ≤ a0.ZF.length ∧ v1_1.length ≤ 0 + 1 * v1_0) (a0.ZF.length + 1) 0 ([] : List ZI) (fun p1 v1_0 v1_1 e1 j1 => ?_) (h0 := YO [((3, 2), none)] [] rfl (by simp))
 refine cFf e1 ?_ ?_ <;> intro k2 h1 e1
 ·have i1 := ix h1
  have m2 := ml a0.ZF (k2 10 _ rfl)
  have c1 := sl 2322432 a0.ZF u0
  have w1 := wr v1_0
  simp [i1, ZD]
  repeat with_reducible refine sd ?_
  refine xj [21] mixed (by kernel_rfl) (by kernel_rfl) ?_
  simp
  refine cDs [true, true, true, false, false] (yM (nth a0.ZF v1_0) (sg (Yl (ZC.YW u0)))) ?_
  refine jY rfl rfl rfl (by simp) (by simp) (by simp) ?_
  simp
  refine kE (olds := (v1_1.map ZI.row)) (news := (([(nth a0.ZF v1_0)] : List ZI).map ZI.row)) (l1 := [(3, 2)]) (l2 := [(19, 3), (19, 4), (19, 14), (19, 15)]) (size := 16) rfl rfl rfl rfl (by simp) (by simp) (by simp) (by simp) (by simp) (by simp; omega) ?_
  simp
  exact nx2 e1 (hw := YO [((3, 2), some (21, 0))] [] rfl (by simp [w1]))
 have c2 := sl 2322432 a0.ZF u0
 have f := ms f e1
 exact rtD [.cell 2 64] f
theorem YN (a0 : ZC) (u0 : Sm 2322432 a0) : Sd 89 [a0.row] [a0.row] := by
  have h := TV a0 u0
  rwa [Tk] at h
theorem Pn (a0 : Ze) (u0 : Sm 2318336 a0) : Sd 33 [a0.row] [(qn a0).row] := by
 have f := me (qn.eq_1 a0)
 refine soD Tryz.func33 Tryz.ntmps33 ?_
 refine dIs mixed ?_
 have c1 := sl 2318336 a0.Zy u0
 refine cDs [false, false, false] (RG a0.Frame (sg (Ze.PH u0))) ?_
 refine cDs [false] (Je a0.Z6 (sg (Ze.H4 u0))) ?_
 refine cDs [false] (Je a0.XC (sg (Ze.G6 u0))) ?_
 refine cDs [false] (Je a0.Yq (sg (Ze.H6 u0))) ?_
 refine cDs [false] (Je a0.Ym (sg (Ze.M5 u0))) ?_
 refine lp2 (y6.eq_2 a0) (fun v1_0 v1_1 => YM 44 [(2, .one (.bptr 2 0), [.box [.nil 5, .nil 3, .nil 4, .d (.int .i64 0), .d (.int .i64 0), .nil 7, .nil 1, .nil 2, .nil 1, .nil 1, .d (.int .i64 0), .nil 1]]), (3, .one (.bptr 3 0), [.box [.sref 8 0 0 a0.Frame.XE.length, .sref 8 1 0 a0.Frame.Zc.length, .sref 8 2 0 a0.Frame.Methods.length, .d (.int .i64 a0.Frame.xh), .d (.int .i64 a0.Frame.Now), .sref 12 0 0 a0.Zy.length, .sref 15 0 0 a0.Z6.length, .sref 3 8 0 v1_1.length, .sref 18 0 0 a0.XC.length, .sref 21 0 0 a0.Yq.length, .d (.int .i64 a0.Next), .sref 26 0 0 a0.Ym.length], .none, .none, .none, .none, .none, .none, .none, .arr true 2 (v1_1.map ZC.row)]), (8, .any, [.arr false 5 (a0.Frame.XE.map YQ.row), .arr false 3 (a0.Frame.Zc.map ZN.row), .arr false 4 (a0.Frame.Methods.map ZV.row)]), (12, .any, [.arr false 7 (a0.Zy.map Zz.row)]), (15, .any, [.arr false 1 (a0.Z6.map iR)]), (18, .any, [.arr false 1 (a0.XC.map iR)]), (21, .any, [.arr false 1 (a0.Yq.map iR)]), (26, .any, [.arr false 1 (a0.Ym.map iR)]), eL 29 2 a0.ZH ZC.row, eI 30 (↑a0.ZH.length : Int), eI 31 (↑v1_0 : Int)]) (fun n1 v1_0 v1_1 => a0.ZH.length < n1 + v1_0 ∧ v1_0 ≤ a0.ZH.length ∧ v1_1.length ≤ 0 + 1 * v1_0) (a0.ZH.length + 1) 0 ([] : List ZC) (fun p1 v1_0 v1_1 e1 j1 => ?_) (h0 := YO [((3, 8), none)] [] rfl (by simp))
 refine cFf e1 ?_ ?_ <;> intro k3 h1 e1
 ·have i1 := ix h1
  have m2 := ml a0.ZH (k3 29 _ rfl)
  have c2 := sl 2318336 a0.ZH u0
  have w1 := wr v1_0
  simp [i1, ZD]
  repeat with_reducible refine sd ?_
  refine xj [40] mixed (by kernel_rfl) (by kernel_rfl) ?_
  simp
  refine cDs [] (YN (nth a0.ZH v1_0) (sg (Yl (Ze.Jo u0)))) ?_
  refine jY rfl rfl rfl (by simp) (by simp) (by simp) ?_
  simp
  refine kE (olds := (v1_1.map ZC.row)) (news := (([(nth a0.ZH v1_0)] : List ZC).map ZC.row)) (l1 := [(3, 8)]) (l2 := [(38, 1)]) (size := 2) rfl rfl rfl rfl (by simp) (by simp) (by simp) (by simp) (by simp) (by simp; omega) ?_
  simp
  exact nx2 e1 (hw := YO [((3, 8), some (40, 0))] [] rfl (by simp [w1]))
 have c3 := sl 2318336 a0.ZH u0
 have f := ms f e1
 exact rtD [.cell 2 41] f
theorem RD (a0 : Ze) (u0 : Sm 2318336 a0) : Sd 33 [a0.row] [a0.row] := by
  have h := Pn a0 u0
  rwa [OD] at h
theorem Sw (a0 : List ZV) (a1 : Int) : Sa 54 [rL 4 ZV.row a0, rI a1] [rI (YK a0 a1)] := by
 have f := me (YK.eq_1 a0 a1)
 refine so Tryz.func54 Tryz.ntmps54 ?_
 refine lp2 (Ji.eq_2 a0 a1) (fun v1_0 v1_1 => YM 48 [eL 0 4 a0 ZV.row, eI 1 a1, eI 5 v1_0, eL 8 4 a0 ZV.row, eI 9 (↑a0.length : Int), eI 10 (↑v1_1 : Int)]) (fun n1 v1_0 v1_1 => a0.length < n1 + v1_1 ∧ v1_1 ≤ a0.length ∧ -1 ≤ v1_0 ∧ v1_0 < (a0.length : Int)) (a0.length + 1) (-1) 0 (fun p1 v1_0 v1_1 e1 j1 => ?_)
 try dsimp only at j1
 refine cFf e1 ?_ ?_ <;> intro k2 h1 e1
 ·have i1 := ix h1
  have m2 := ml a0 (k2 0 _ rfl)
  have w1 := wr v1_1
  simp [i1, ZD]
  repeat with_reducible refine sd ?_
  refine dIs mixed ?_
  refine gIf ?_ ?_ <;> intro G
  ·have i2 := ik v1_0.toNat a0
   simp [i2, ZD, G]
   repeat with_reducible refine sdg ?_
   refine cK e1 ?_ ?_ <;> intro k4 h2 e1
   ·try (simp [G] at h2; done)
    all_goals
     exact ny2 (an w1 G) e1 (hI := by first | omega | (simp at *; omega))
   ·try (simp [G] at h2; done)
    all_goals
     exact ny2 (an w1 G) e1 (hI := by first | omega | (simp at *; omega))
  ·refine cK e1 ?_ ?_ <;> intro k5 h3 e1
   ·try (simp [G] at h3; done)
    all_goals
     exact ny2 (an w1 G) e1 (hI := by first | omega | (simp at *; omega))
   ·try (simp [G] at h3; done)
    all_goals
     exact ny2 (an w1 G) e1 (hI := by first | omega | (simp at *; omega))
 have f := ms f e1
 refine cFt f ?_ ?_ <;> intro k6 h4 f
 ·exact rt [.tmp 4] f
 have i4 := ik v1_0.toNat a0
 simp [i4, ZD]
 repeat with_reducible refine sd ?_
 exact rt [.tmp 4] f
theorem XO (a0 : Int) (a1 : Int) (a2 : Int) : Sa 70 [rI a0, rI a1, rI a2] [rB (YE a0 a1 a2)] := by
 have f := me (YE.eq_1 a0 a1 a2)
 refine so Tryz.func70 Tryz.ntmps70 ?_
 exact rt [.tmp 6] f
theorem kC (a0 : Ze) (a1 : Int) : Sa 34 [a0.row, rI a1] [rB (Xh a0 a1)] := by
 have f := me (Xh.eq_1 a0 a1)
 refine so Tryz.func34 Tryz.ntmps34 ?_
 refine cRs (XO a1 0 (W ((↑a0.ZH.length : Int) - 1))) ?_
 exact rt [.tmp 4] f
theorem je (a0 : ZC) (a1 : Int) : Sa 115 [a0.row, rI a1] [rI (ZX a0 a1)] := by
 have f := me (ZX.eq_1 a0 a1)
 refine so Tryz.func115 Tryz.ntmps115 ?_
 refine lp1 (Jx.eq_2 a0 a1) (fun v1_0 => YM 21 [eI 1 a1, eL 8 16 a0.ZF ZI.row, eI 9 (↑a0.ZF.length : Int), eI 10 (↑v1_0 : Int)]) (fun n1 v1_0 => a0.ZF.length < n1 + v1_0 ∧ v1_0 ≤ a0.ZF.length) (a0.ZF.length + 1) 0 (fun p1 v1_0 e1 j1 => ?_)
 refine cFf e1 ?_ ?_ <;> intro k2 h1 e1
 ·have i1 := ix h1
  have m2 := ml a0.ZF (k2 8 _ rfl)
  have w1 := wr v1_0
  simp [i1, ZD]
  repeat with_reducible refine sd ?_
  refine cF e1 ?_ ?_ <;> intro k3 h2 e1
  ·have f := ms f e1
   exact rt [.tmp 4] f
  exact ny1 w1 e1
 have f := ms f e1
 exact rt [.tmp 4] f
theorem ku (a0 : ZR) : Sa 167 [a0.row] [rB (JK a0)] := by
 have f := me (JK.eq_1 a0)
 refine so Tryz.func167 Tryz.ntmps167 ?_
 refine cRs (XO a0.K4 0 999) ?_
 refine cGs (fun gg => (XO (↑a0.ZE.length : Int) 1 6)) ?_
 refine cFo f ?_ ?_ <;> intro k1 h1 f
 ·have q1 := h1; try simp [YE] at q1
  simp
  exact rt [.tmp 2] f
 have q1 := h1; try simp [YE] at q1
 simp
 refine lp1 (JW.eq_2 a0) (fun v1_0 => YM 46 [eX 1 (a0.row.map .d), eL 26 1 a0.ZE sR, eI 27 (↑a0.ZE.length : Int), eI 28 (↑v1_0 : Int)]) (fun n1 v1_0 => a0.ZE.length < n1 + v1_0 ∧ v1_0 ≤ a0.ZE.length) (a0.ZE.length + 1) 0 (fun p1 v1_0 e1 j1 => ?_)
 refine cFf e1 ?_ ?_ <;> intro k3 h2 e1
 ·have i1 := ix h2
  have m2 := ml a0.ZE (k3 26 _ rfl)
  have w1 := wr v1_0
  simp [i1, ZD]
  repeat with_reducible refine sd ?_
  refine gIf ?_ ?_ <;> intro G
  ·have i2 := ik v1_0 a0.ZG
   simp [i2, ZD, G]
   repeat with_reducible refine sdg ?_
   refine cGg (fun gg => (XO (nth a0.ZG v1_0) 1 1000000000000)) ?_
   refine cKo e1 ?_ ?_ <;> intro k4 h3 e1
   ·try (simp [G] at h3; done)
    all_goals
     have q3 := h3; try simp [YE] at q3
     have f := ms f e1
     simp [G]
     repeat with_reducible refine sdg ?_
     exact rtg [.tmp 2] f
   ·try (simp [G] at h3; done)
    all_goals
     have q3 := h3; try simp [YE] at q3
     simp [G]
     repeat with_reducible refine sdg ?_
     exact ny1 (an w1 G) e1
  ·refine sGo ?_
   simp [G]
   repeat with_reducible refine sdg ?_
   refine cKo e1 ?_ ?_ <;> intro k5 h4 e1
   ·try (simp [G] at h4; done)
    all_goals
     have q4 := h4; try simp [YE] at q4
     have f := ms f e1
     simp [G]
     repeat with_reducible refine sdg ?_
     exact rtg [.tmp 2] f
   ·try (simp [G] at h4; done)
    all_goals
     have q4 := h4; try simp [YE] at q4
     simp [G]
     repeat with_reducible refine sdg ?_
     exact ny1 (an w1 G) e1
 have f := ms f e1
 exact rt [.tmp 2] f
theorem Lv (a0 : List UInt8) (u0 : Sm 2342912 a0) : Sd 201 [rL 1 bR a0] [rL 1 iR (yg a0)] := by
 have f := me (yg.eq_1 a0)
 refine soD Tryz.func201 Tryz.ntmps201 ?_
 refine lp2 (Kc.eq_2 a0) (fun v1_0 v1_1 => YM 19 [(3, .one (.sref 3 0 0 v1_0.length), [.arr false 1 (v1_0.map iR)]), eL 6 1 a0 bR, eI 7 (↑a0.length : Int), eI 8 (↑v1_1 : Int)]) (fun n1 v1_0 v1_1 => a0.length < n1 + v1_1 ∧ v1_1 ≤ a0.length ∧ v1_0.length ≤ 0 + 1 * v1_1) (a0.length + 1) ([] : List Int) 0 (fun p1 v1_0 v1_1 e1 j1 => ?_) (h0 := YO [((3, 0), none)] [] rfl (by simp))
 refine cFf e1 ?_ ?_ <;> intro k2 h1 e1
 ·have i1 := ix h1
  have m2 := ml a0 (k2 6 _ rfl)
  have c1 := sl 2342912 a0 u0
  have w1 := wr v1_1
  simp [i1, ZD]
  repeat with_reducible refine sd ?_
  exact nx2 e1 (hw := YO [((3, 0), some (16, 0))] [] rfl (by simp [w1]))
 have c2 := sl 2342912 a0 u0
 have f := ms f e1
 exact rtD [.tmp 2] f
theorem E0 (a0 : Int) (a1 : Int) : Sa 222 [rI a0, rI a1] [rI (HN a0 a1)] := by
 have f := me (HN.eq_1 a0 a1)
 refine so Tryz.func222 Tryz.ntmps222 ?_
 refine cRs (XO a1 1 1000000000000) ?_
 refine cFo f ?_ ?_ <;> intro k1 h1 f
 ·have q1 := h1; try simp [YE] at q1
  simp
  exact rt [.tmp 4] f
 have q1 := h1; try simp [YE] at q1
 simp
 repeat with_reducible refine sd ?_
 exact rt [.tmp 4] f
theorem Fp (a0 : List Int) : Sa 200 [rL 1 iR a0] [rI (Pq a0)] := by
 have f := me (Pq.eq_1 a0)
 refine so Tryz.func200 Tryz.ntmps200 ?_
 refine lp2 (Wi.eq_2 a0) (fun v1_0 v1_1 => YM 21 [eI 3 v1_0, eL 6 1 a0 iR, eI 7 (↑a0.length : Int), eI 8 (↑v1_1 : Int)]) (fun n1 v1_0 v1_1 => a0.length < n1 + v1_1 ∧ v1_1 ≤ a0.length) (a0.length + 1) 11 0 (fun p1 v1_0 v1_1 e1 j1 => ?_)
 refine cFf e1 ?_ ?_ <;> intro k2 h1 e1
 ·have i1 := ix h1
  have m2 := ml a0 (k2 6 _ rfl)
  have w1 := wr v1_1
  simp [i1, ZD]
  repeat with_reducible refine sd ?_
  refine cRs (E0 (nth a0 v1_1) 2147483647) ?_
  exact ny2 w1 e1
 have f := ms f e1
 exact rt [.tmp 2] f
theorem JQ (a0 : Int) (a1 : List Int) (u0 : Sm 68719476736 a1) : Sa 165 [rI a0, rL 1 iR a1] [rI (Qj a0 a1)] := by
 have f := me (Qj.eq_1 a0 a1)
 have c1 := sl 68719476736 a1 u0
 refine so Tryz.func165 Tryz.ntmps165 ?_
 refine cRs (Fp (([7, a0] : List Int) ++ a1)) ?_
 exact rt [.tmp 4] f
theorem S4 (a0 : Int) (a1 : ByteArray) (a2 : Int) (u0 : Sm 2326528 a1) : Sa 168 [rI a0, rS a1, rI a2] [rI (yJ a0 a1 a2)] := by
 have f := me (yJ.eq_1 a0 a1 a2)
 refine so Tryz.func168 Tryz.ntmps168 ?_
 have c1 : a1.size ≤ 2326528 := LK (by simp (maxDischargeDepth := 12) [u0])
 refine Dy (s := a1) rfl rfl rfl (by simp) (by simp) (by simp) (by simp) (by omega) ?_
 simp
 refine cRs (Xz.rd (Lv a1.data.toList (by simp [Xd]; first | omega | (simp [ByteArray.size] at *; omega)))) ?_
 refine cRs (JQ a0 (([a2] : List Int) ++ (yg a1.data.toList)) (by simp (maxDischargeDepth := 12) [yl, Xd, YL (m := 68719476736) (by decide) u0]; try omega)) ?_
 exact rt [.tmp 6] f
theorem Oc (a0 : Int) (a1 : ZR) (u0 : Sm 2322432 a1) : Sa 120 [rI a0, a1.row] [rI (zc a0 a1)] := by
 have f := me (zc.eq_1 a0 a1)
 refine so Tryz.func120 Tryz.ntmps120 ?_
 refine cRs (ku a1) ?_
 refine cF f ?_ ?_ <;> intro k1 h1 f
 ·exact rt [.tmp 4] f
 refine lp2 (zG.eq_2 a0 a1) (fun v1_0 v1_1 => YM 37 [eI 0 a0, eX 3 (a1.row.map .d), (5, .one (.sref 5 0 0 v1_0.length), [.arr false 1 (v1_0.map iR)]), eL 15 1 a1.ZE sR, eI 16 (↑a1.ZE.length : Int), eI 17 (↑v1_1 : Int)]) (fun n1 v1_0 v1_1 => a1.ZE.length < n1 + v1_1 ∧ v1_1 ≤ a1.ZE.length ∧ v1_0.length ≤ 1 + 1 * v1_1) (a1.ZE.length + 1) ([a1.K4] : List Int) 0 (fun p1 v1_0 v1_1 e1 j1 => ?_) (h0 := YO [((5, 0), some (13, 0))] [] rfl (by simp))
 try dsimp only at j1
 refine cFf e1 ?_ ?_ <;> intro k3 h2 e1
 ·have i1 := ix h2
  have m2 := ml a1.ZE (k3 15 _ rfl)
  have c1 := sl 2322432 a1.ZE u0
  have w1 := wr v1_1
  have i2 : v1_1 < a1.ZG.length := by (have := Tb (a := a1); first | (simp_all; done) | (simp_all; omega))
  simp [i1, ZD, i2]
  repeat with_reducible refine sd ?_
  refine cRs (S4 a0 (nth a1.ZE v1_1) (nth a1.ZG v1_1) (sg (Yl (ZR.TS u0)))) ?_
  exact nx2 e1 (hw := YO [((5, 0), some (32, 0))] [] rfl (by simp [w1]))
 have c2 := sl 2322432 a1.ZE u0
 have f := ms f e1
 refine cRs (JQ a0 v1_0 (by first | (simp (maxDischargeDepth := 12) [Xd]; omega) | (simp (maxDischargeDepth := 12) [YL (m := 68719476736) (by decide) u0]; done))) ?_
 exact rt [.tmp 4] f
theorem TP (a0 : Int) (a1 : List ZM) (u0 : Sm 2326528 a1) : Sa 166 [rI a0, rL 3 ZM.row a1] [rI (Jb a0 a1)] := by
 have f := me (Jb.eq_1 a0 a1)
 refine so Tryz.func166 Tryz.ntmps166 ?_
 refine lp2 (JU.eq_2 a0 a1) (fun v1_0 v1_1 => YM 32 [eI 0 a0, (5, .one (.sref 5 0 0 v1_0.length), [.arr false 1 (v1_0.map iR)]), eL 9 3 a1 ZM.row, eI 10 (↑a1.length : Int), eI 11 (↑v1_1 : Int)]) (fun n1 v1_0 v1_1 => a1.length < n1 + v1_1 ∧ v1_1 ≤ a1.length ∧ v1_0.length ≤ 1 + 1 * v1_1) (a1.length + 1) ([2] : List Int) 0 (fun p1 v1_0 v1_1 e1 j1 => ?_) (h0 := YO [((5, 0), some (8, 0))] [] rfl (by simp))
 refine cFf e1 ?_ ?_ <;> intro k2 h1 e1
 ·have i1 := ix h1
  have m2 := ml a1 (k2 9 _ rfl)
  have c1 := sl 2326528 a1 u0
  have w1 := wr v1_1
  have c2 := sl 2326528 (nth a1 v1_1).Yh u0
  simp [i1, ZD]
  repeat with_reducible refine sd ?_
  refine cRs (JQ a0 (([(nth a1 v1_1).Key, (nth a1 v1_1).Mark] : List Int) ++ (nth a1 v1_1).Yh) (by simp (maxDischargeDepth := 12) [yl, Xd, YL (m := 68719476736) (by decide) u0]; try omega)) ?_
  exact nx2 e1 (hw := YO [((5, 0), some (27, 0))] [] rfl (by simp [w1]))
 have c3 := sl 2326528 a1 u0
 have f := ms f e1
 refine cRs (JQ a0 v1_0 (by first | (simp (maxDischargeDepth := 12) [Xd]; omega) | (simp (maxDischargeDepth := 12) [YL (m := 68719476736) (by decide) u0]; done))) ?_
 exact rt [.tmp 4] f
theorem PI (a0 : Za) : Sd 123 [a0.row] [rL 1 iR (zd a0)] := by
 have f := me (zd.eq_1 a0)
 refine soD Tryz.func123 Tryz.ntmps123 ?_
 exact rtD [.tmp 2] f
theorem UJ (a0 : Int) (a1 : ZL) (u0 : Sm 2326528 a1) : Sa 118 [rI a0, a1.row] [rI (J7 a0 a1)] := by
 have f := me (J7.eq_1 a0 a1)
 refine so Tryz.func118 Tryz.ntmps118 ?_
 refine lp2 (QI.eq_2 a1) (fun v1_0 v1_1 => YM 59 [eI 0 a0, eX 3 (a1.row.map .d), (5, .one (.sref 5 0 0 v1_0.length), [.arr false 1 (v1_0.map iR)]), eL 19 2 a1.Path Z4.row, eI 20 (↑a1.Path.length : Int), eI 21 (↑v1_1 : Int)]) (fun n1 v1_0 v1_1 => a1.Path.length < n1 + v1_1 ∧ v1_1 ≤ a1.Path.length ∧ v1_0.length ≤ 4 + 2 * v1_1) (a1.Path.length + 1) ([4, a1.Count, a1.Method, a1.Ud] : List Int) 0 (fun p1 v1_0 v1_1 e1 j1 => ?_) (h0 := YO [((5, 0), some (17, 0))] [] rfl (by simp))
 refine cFo e1 ?_ ?_ <;> intro k2 h1 e1
 ·have q1 := h1; try simp at q1
  have i1 := ix h1
  have m2 := ml a1.Path (k2 19 _ rfl)
  have c1 := sl 2326528 a1.Path u0
  have w1 := wr v1_1
  simp [i1, ZD]
  repeat with_reducible refine sd ?_
  refine cFo e1 ?_ ?_ <;> intro k3 h2 e1
  ·have q2 := h2; try simp at q2
   simp
   repeat with_reducible refine sd ?_
   exact nx2 e1 (hw := YO [((5, 0), some (32, 0))] [] rfl (by simp [w1]))
  have q2 := h2; try simp at q2
  simp
  repeat with_reducible refine sd ?_
  exact nx2 e1 (hw := YO [((5, 0), some (32, 0))] [] rfl (by simp [w1]))
 have q1 := h1; try simp at q1
 have c2 := sl 2326528 a1.Path u0
 have f := ms f e1
 simp
 repeat with_reducible refine sd ?_
 refine lp2 (JC.eq_2 a1) (fun v2_0 v2_1 => YM 59 [eI 0 a0, (5, .one (.sref 5 0 0 v2_0.length), [.arr false 1 (v2_0.map iR)]), eL 41 5 a1.Zu Za.row, eI 42 (↑a1.Zu.length : Int), eI 43 (↑v2_1 : Int)]) (fun n2 v2_0 v2_1 => a1.Zu.length < n2 + v2_1 ∧ v2_1 ≤ a1.Zu.length ∧ v2_0.length ≤ 5 + 2 * 2326528 + 6 * v2_1) (a1.Zu.length + 1) (v1_0 ++ ([(↑a1.Zu.length : Int)] : List Int)) 0 (fun p2 v2_0 v2_1 e2 j2 => ?_) (hI := by (have o : a1.Path.length ≤ 2326528 := zM (by simp (maxDischargeDepth := 12) [u0]); simp at *; omega)) (h0 := YO [((5, 0), some (39, 0))] [] rfl (by simp))
 try dsimp only at j2
 refine cFo e2 ?_ ?_ <;> intro k5 h3 e2
 ·have q3 := h3; try simp at q3
  have i2 := ix h3
  have m4 := ml a1.Zu (k5 41 _ rfl)
  have c3 := sl 2326528 a1.Zu u0
  have w2 := wr v2_1
  simp [i2, ZD]
  repeat with_reducible refine sd ?_
  refine dIs mixed ?_
  refine cRs (Xz.rd (PI (nth a1.Zu v2_1))) ?_
  exact nx2 e2 (hI := by (simp; omega)) (hw := YO [((5, 0), some (54, 0))] [] rfl (by simp [w2]))
 have q3 := h3; try simp at q3
 have c4 := sl 2326528 a1.Zu u0
 have f := ms f e2
 simp
 refine cRs (JQ a0 v2_0 (by first | (simp (maxDischargeDepth := 12) [Xd]; omega) | (simp (maxDischargeDepth := 12) [YL (m := 68719476736) (by decide) u0]; done))) ?_
 exact rt [.tmp 4] f
theorem Sv (a0 : Int) (a1 : ZI) (u0 : Sm 2318336 a1) : Sa 206 [rI a0, a1.row] [rI (yQ a0 a1)] := by
 have f := me (yQ.eq_1 a0 a1)
 refine so Tryz.func206 Tryz.ntmps206 ?_
 refine dIs mixed ?_
 refine cRs (Oc a0 a1.Doc (sg (ZI.TU u0))) ?_
 refine cRs (TP a0 a1.ZQ.ZS (sg (Zf.jt (ZI.yp u0)))) ?_
 refine lp2 (Ke.eq_2 a0 a1) (fun v1_0 v1_1 => YM 40 [eI 0 a0, (5, .one (.sref 5 0 0 v1_0.length), [.arr false 1 (v1_0.map iR)]), eL 24 5 a1.ZQ.Zj ZL.row, eI 25 (↑a1.ZQ.Zj.length : Int), eI 26 (↑v1_1 : Int)]) (fun n1 v1_0 v1_1 => a1.ZQ.Zj.length < n1 + v1_1 ∧ v1_1 ≤ a1.ZQ.Zj.length ∧ v1_0.length ≤ 5 + 1 * v1_1) (a1.ZQ.Zj.length + 1) ([5, a1.Id, a1.Yo, (zc a0 a1.Doc), (Jb a0 a1.ZQ.ZS)] : List Int) 0 (fun p1 v1_0 v1_1 e1 j1 => ?_) (h0 := YO [((5, 0), some (21, 0))] [] rfl (by simp))
 refine cFf e1 ?_ ?_ <;> intro k3 h1 e1
 ·have i1 := ix h1
  have m2 := ml a1.ZQ.Zj (k3 24 _ rfl)
  have c1 := sl 2318336 a1.ZQ.Zj u0
  have w1 := wr v1_1
  simp [i1, ZD]
  repeat with_reducible refine sd ?_
  refine cRs (UJ a0 (nth a1.ZQ.Zj v1_1) (sg (Yl (Zf.Wh (ZI.yp u0))))) ?_
  exact nx2 e1 (hw := YO [((5, 0), some (35, 0))] [] rfl (by simp [w1]))
 have c2 := sl 2318336 a1.ZQ.Zj u0
 have f := ms f e1
 refine cRs (JQ a0 v1_0 (by first | (simp (maxDischargeDepth := 12) [Xd]; omega) | (simp (maxDischargeDepth := 12) [YL (m := 68719476736) (by decide) u0]; done))) ?_
 exact rt [.tmp 4] f
theorem Rl (a0 : Int) (a1 : Int) (a2 : Int) : Sa 209 [rI a0, rI a1, rI a2] [rI (yR a0 a1 a2)] := by
 have f := me (yR.eq_1 a0 a1 a2)
 refine so Tryz.func209 Tryz.ntmps209 ?_
 refine cRs (JQ a0 ([1, a1, a2] : List Int) (by simp (maxDischargeDepth := 12) [yl, Xd]; try omega)) ?_
 exact rt [.tmp 6] f
theorem RN (a0 : Int) (a1 : List Int) (u0 : Sm 2322432 a1) : Sd 181 [rI a0, rL 1 iR a1] [rL 1 iR (J1 a0 a1)] := by
 have f := me (J1.eq_1 a0 a1)
 refine soD Tryz.func181 Tryz.ntmps181 ?_
 refine lp2 (Xr.eq_2 a0 a1) (fun v1_0 v1_1 => YM 40 [eI 0 a0, eL 1 1 a1 iR, (5, .one (.sref 5 0 0 v1_0.length), [.arr false 1 (v1_0.map iR)]), eI 6 (↑v1_1 : Int)]) (fun n1 v1_0 v1_1 => a1.length < n1 + v1_1 ∧ v1_1 ≤ a1.length + 1 ∧ v1_0.length ≤ v1_1) (a1.length + 1) ([] : List Int) 0 (fun p1 v1_0 v1_1 e1 j1 => ?_) (h0 := YO [((5, 0), none)] [] rfl (by simp))
 try dsimp only at j1
 refine cF e1 ?_ ?_ <;> intro k2 h1 e1
 ·have i1 := ix h1
  have m2 := ml a1 (k2 1 _ rfl)
  have c1 := sl 2322432 a1 u0
  have w1 := wr v1_1
  refine cFt e1 ?_ ?_ <;> intro k3 h2 e1
  ·refine okD fun k4 => ?_
   refine dIo mixed ?_
   have i2 := ik (W ((↑v1_1 : Int) + 1)).toNat a1
   simp [i1, ZD, i2]
   repeat with_reducible refine sd ?_
   refine cRs (Rl a0 (nth a1 v1_1) (nth a1 (W ((↑v1_1 : Int) + 1)).toNat)) ?_ (hrows := by first | (simp; done) | (simp [W, w1]; done))
   have w2 : IntKind.i64.wrap ((v1_1 : Int) + 2) = (v1_1 : Int) + 2 := ZT (by omega) (by omega)
   exact nx2 e1 (hI := by first | omega | (simp at *; omega)) (hw := YO [((5, 0), some (31, 0))] [] rfl (by simp [w1, w2]))
  simp [i1, ZD]
  repeat with_reducible refine sd ?_
  have w3 : IntKind.i64.wrap ((v1_1 : Int) + 2) = (v1_1 : Int) + 2 := ZT (by omega) (by omega)
  exact nx2 e1 (hI := by first | omega | (simp at *; omega)) (hw := YO [((5, 0), some (38, 0))] [] rfl (by simp [w1, w3]))
 have c2 := sl 2322432 a1 u0
 have f := ms f e1
 exact rtD [.tmp 4] f
theorem N1 (a0 : Int) (a1 : List Int) (u0 : Sm 2318336 a1) : Sa 136 [rI a0, rL 1 iR a1] [rI (qN a0 a1)] := by
 have f := me (qN.eq_1 a0 a1)
 refine so Tryz.func136 Tryz.ntmps136 ?_
 refine cRs (XO (↑a1.length : Int) 1 16) ?_
 refine cFo f ?_ ?_ <;> intro k1 h1 f
 ·have q1 := h1; try simp [YE] at q1
  simp
  exact rt [.tmp 4] f
 have q1 := h1; try simp [YE] at q1
 simp
 refine lp1 (yO.eq_2 a0) (fun v1_0 => YM 18 [eI 0 a0, eL 1 1 v1_0 iR]) (fun n1 v1_0 => v1_0.length < n1 ∧ 1 ≤ v1_0.length ∧ v1_0.length ≤ 16) (a1.length + 1) a1 (fun p1 v1_0 e1 j1 => ?_) (hI := by first | omega | (simp at *; omega))
 try dsimp only at j1
 refine cFt e1 ?_ ?_ <;> intro k3 h2 e1
 ·refine cRs (Xz.rd (RN a0 v1_0 (by first | (simp (maxDischargeDepth := 12) [Xd]; omega) | (simp (maxDischargeDepth := 12) [YL (m := 2322432) (by decide) u0]; done)))) ?_
  exact nx1 e1 (hI := by (have z := SG a0 v1_0 (by omega); (try dsimp only); simp at *; omega))
 have f := ms f e1
 have i1 := ik 0 v1_0
 simp [i1, ZD]
 repeat with_reducible refine sd ?_
 exact rt [.tmp 4] f
theorem qh (a0 : Int) (a1 : List ZI) (u0 : Sm 2314240 a1) : Sa 176 [rI a0, rL 16 ZI.row a1] [rI (Qt a0 a1)] := by
 have f := me (Qt.eq_1 a0 a1)
 refine so Tryz.func176 Tryz.ntmps176 ?_
 refine lp2 (Q7.eq_2 a0 a1) (fun v1_0 v1_1 => YM 24 [eI 0 a0, (5, .one (.sref 5 0 0 v1_0.length), [.arr false 1 (v1_0.map iR)]), eL 8 16 a1 ZI.row, eI 9 (↑a1.length : Int), eI 10 (↑v1_1 : Int)]) (fun n1 v1_0 v1_1 => a1.length < n1 + v1_1 ∧ v1_1 ≤ a1.length ∧ v1_0.length ≤ 0 + 1 * v1_1) (a1.length + 1) ([] : List Int) 0 (fun p1 v1_0 v1_1 e1 j1 => ?_) (h0 := YO [((5, 0), none)] [] rfl (by simp))
 refine cFf e1 ?_ ?_ <;> intro k2 h1 e1
 ·have i1 := ix h1
  have m2 := ml a1 (k2 8 _ rfl)
  have c1 := sl 2314240 a1 u0
  have w1 := wr v1_1
  simp [i1, ZD]
  repeat with_reducible refine sd ?_
  refine cRs (Sv a0 (nth a1 v1_1) (sg (Yl u0))) ?_
  exact nx2 e1 (hw := YO [((5, 0), some (19, 0))] [] rfl (by simp [w1]))
 have c2 := sl 2314240 a1 u0
 have f := ms f e1
 refine cRs (N1 a0 v1_0 (by first | (simp (maxDischargeDepth := 12) [Xd]; omega) | (simp (maxDischargeDepth := 12) [YL (m := 2318336) (by decide) u0]; done))) ?_
 exact rt [.tmp 4] f
theorem RY (a0 : ZC) (a1 : Int) (a2 : List Int) (a3 : Int) (u0 : Sm 2310144 a0) (u1 : Sm 2310144 a2) : Sd 130 [a0.row, rI a1, rL 1 iR a2, rI a3] [(YH a0 a1 a2 a3).1.row, rB (YH a0 a1 a2 a3).2] := by
 have f := me (YH.eq_1 a0 a1 a2 a3)
 refine soD Tryz.func130 Tryz.ntmps130 ?_
 refine lp2 (Yr.eq_2 a0 a2) (fun v1_0 v1_1 => YM 52 [eL 2 1 a2 iR, eI 3 a3, eX 4 (a0.row.map .d), (8, .one (.bptr 8 0), [.box [.d (.int .i64 0), .d (.int .i64 0), .nil 16, .d (.int .i64 0)]]), (10, .one (.bptr 10 0), [.box [.d (.int .i64 a0.Id), .d (.int .i64 a1), .sref 10 3 0 v1_1.length, .d (.int .i64 0)], .none, .none, .arr true 16 (v1_1.map ZI.row)]), eL 18 1 a2 iR, eI 19 (↑a2.length : Int), eI 20 (↑v1_0 : Int)]) (fun n1 v1_0 v1_1 => a2.length < n1 + v1_0 ∧ v1_0 ≤ a2.length ∧ v1_1.length ≤ v1_0 ∧ (∀ x ∈ v1_1, Sm 2310144 x)) (a2.length + 1) 0 ([] : List ZI) (fun p1 v1_0 v1_1 e1 j1 => ?_) (hI := by exact ⟨by omega, by omega, Nat.zero_le _, Nat.zero_le _, fun x h => by cases h⟩) (h0 := YO [((10, 3), none)] [] rfl (by simp))
 try dsimp only at j1
 refine cFf e1 ?_ ?_ <;> intro k2 h1 e1
 ·have i1 := ix h1
  have m2 := ml a2 (k2 2 _ rfl)
  have c1 := sl 2310144 a2 (an u0 u1)
  have w1 := wr v1_0
  simp [i1, ZD]
  repeat with_reducible refine sd ?_
  refine cRs (je a0 (nth a2 v1_0)) ?_
  refine cF e1 ?_ ?_ <;> intro k3 h2 e1
  ·have f := ms f e1
   exact rtD [.cell 8 160, .tmp 9] f
  refine xj [39] mixed (by kernel_rfl) (by kernel_rfl) ?_
  have i2 : (ZX a0 (nth a2 v1_0)).toNat < a0.ZF.length := by have := X8 a0 (nth a2 v1_0); exact il
  simp [i2, ZD]
  repeat with_reducible refine sd ?_
  refine cDs [true, true, true, false, false] (yM (nth a0.ZF (ZX a0 (nth a2 v1_0)).toNat) (sg (Yl (ZC.YW u0)))) ?_
  refine jY rfl rfl rfl (by simp) (by simp) (by simp) ?_
  simp
  refine kE (olds := (v1_1.map ZI.row)) (news := (([(nth a0.ZF (ZX a0 (nth a2 v1_0)).toNat)] : List ZI).map ZI.row)) (l1 := [(10, 3)]) (l2 := [(37, 3), (37, 4), (37, 14), (37, 15)]) (size := 16) rfl rfl rfl rfl (by simp) (by simp) (by simp) (by simp) (by simp) (by simp; omega) ?_
  simp
  exact nx2 e1 (hI := by ((try dsimp only); refine ⟨by omega, by omega, by omega, by simp; omega, fun x hx => ?_⟩; rcases List.mem_append.1 hx with hx | hx; exact j1.2.2.2.2 x hx; have e := List.mem_singleton.1 hx; subst e; exact Yl (ZC.YW u0))) (hw := YO [((10, 3), some (39, 0))] [] rfl (by simp [w1]))
 have c2 := sl 2310144 a2 (an u0 u1)
 have f := ms f e1
 refine cF f ?_ ?_ <;> intro k5 h3 f
 ·exact rtD [.cell 8 160, .tmp 9] f
 refine cRs (qh a3 v1_1 (by (have q := zM (show Sm 2310144 a2 from u1); exact YL (n := 2310144) (by decide) ⟨by omega, j1.2.2.2.2⟩))) ?_
 exact rtD [.cell 8 160, .tmp 9] f
theorem Iq (a0 : Int) : Sa 121 [rI a0] [rB (TD a0)] := by
 have f := me (TD.eq_1 a0)
 refine so Tryz.func121 Tryz.ntmps121 ?_
 refine cRs (XO a0 0 10000) ?_
 exact rt [.tmp 2] f
theorem Pw (a0 : List Int) (a1 : List Int) : Sa 223 [rL 1 iR a0, rL 1 iR a1] [rB (jL a0 a1)] := by
 have f := me (jL.eq_1 a0 a1)
 refine so Tryz.func223 Tryz.ntmps223 ?_
 refine cF f ?_ ?_ <;> intro k1 h1 f
 ·exact rt [.tmp 4] f
 refine lp1 (y8.eq_2 a0 a1) (fun v1_0 => YM 26 [eL 0 1 a0 iR, eL 1 1 a1 iR, eI 12 (↑a0.length : Int), eI 13 (↑v1_0 : Int)]) (fun n1 v1_0 => a0.length < n1 + v1_0 ∧ v1_0 ≤ a0.length) (a0.length + 1) 0 (fun p1 v1_0 e1 j1 => ?_)
 refine cF e1 ?_ ?_ <;> intro k3 h2 e1
 ·have i1 := ix h2
  have m2 := ml a0 (k3 0 _ rfl)
  have w1 := wr v1_0
  refine dIo mixed ?_
  have i2 := ik v1_0 a1
  simp [i1, ZD, i2]
  repeat with_reducible refine sd ?_
  refine cF e1 ?_ ?_ <;> intro k5 h3 e1
  ·have f := ms f e1
   exact rt [.tmp 4] f
  exact ny1 w1 e1
 have f := ms f e1
 exact rt [.tmp 4] f
theorem jq (a0 : ZM) (a1 : ZM) : Sa 204 [a0.row, a1.row] [rB (KJ a0 a1)] := by
 have f := me (KJ.eq_1 a0 a1)
 refine so Tryz.func204 Tryz.ntmps204 ?_
 refine cGs (fun gg => (Pw a0.Yh a1.Yh)) ?_
 exact rt [.tmp 4] f
theorem NC (a0 : List ZM) (a1 : ZM) : Sa 172 [rL 3 ZM.row a0, a1.row] [rB (qL a0 a1)] := by
 have f := me (qL.eq_1 a0 a1)
 refine so Tryz.func172 Tryz.ntmps172 ?_
 refine lp1 (xw.eq_2 a0 a1) (fun v1_0 => YM 17 [eX 3 (a1.row.map .d), eL 7 3 a0 ZM.row, eI 8 (↑a0.length : Int), eI 9 (↑v1_0 : Int)]) (fun n1 v1_0 => a0.length < n1 + v1_0 ∧ v1_0 ≤ a0.length) (a0.length + 1) 0 (fun p1 v1_0 e1 j1 => ?_)
 refine cFf e1 ?_ ?_ <;> intro k2 h1 e1
 ·have i1 := ix h1
  have m2 := ml a0 (k2 7 _ rfl)
  have w1 := wr v1_0
  simp [i1, ZD]
  repeat with_reducible refine sd ?_
  refine cRs (jq (nth a0 v1_0) a1) ?_
  refine cF e1 ?_ ?_ <;> intro k3 h2 e1
  ·have f := ms f e1
   exact rt [.tmp 4] f
  exact ny1 w1 e1
 have f := ms f e1
 exact rt [.tmp 4] f
theorem Nw (a0 : Zf) : Sa 126 [a0.row] [rB (zU a0)] := by
 have f := me (zU.eq_1 a0)
 refine so Tryz.func126 Tryz.ntmps126 ?_
 refine cRs (XO (↑a0.ZS.length : Int) 1 12) ?_
 refine cFo f ?_ ?_ <;> intro k1 h1 f
 ·have q1 := h1; try simp [YE] at q1
  simp
  exact rt [.tmp 2] f
 have q1 := h1; try simp [YE] at q1
 simp
 refine lp1 (Kx.eq_2 a0) (fun v1_0 => YM 65 [eX 1 (a0.row.map .d), eL 19 3 a0.ZS ZM.row, eI 20 (↑a0.ZS.length : Int), eI 21 (↑v1_0 : Int)]) (fun n1 v1_0 => a0.ZS.length < n1 + v1_0 ∧ v1_0 ≤ a0.ZS.length) (a0.ZS.length + 1) 0 (fun p1 v1_0 e1 j1 => ?_)
 refine cFf e1 ?_ ?_ <;> intro k3 h2 e1
 ·have i1 := ix h2
  have m2 := ml a0.ZS (k3 19 _ rfl)
  have w1 := wr v1_0
  simp [i1, ZD]
  repeat with_reducible refine sd ?_
  refine dIs mixed ?_
  refine cRs (NC (a0.ZS.take v1_0) (nth a0.ZS v1_0)) ?_
  refine cF e1 ?_ ?_ <;> intro k5 h3 e1
  ·have f := ms f e1
   exact rt [.tmp 2] f
  exact ny1 w1 e1
 have f := ms f e1
 refine lp1 (K0.eq_2 a0) (fun v2_0 => YM 65 [eX 1 (a0.row.map .d), eL 34 5 a0.Zj ZL.row, eI 35 (↑a0.Zj.length : Int), eI 36 (↑v2_0 : Int)]) (fun n2 v2_0 => a0.Zj.length < n2 + v2_0 ∧ v2_0 ≤ a0.Zj.length) (a0.Zj.length + 1) 0 (fun p2 v2_0 e2 j2 => ?_)
 refine cFf e2 ?_ ?_ <;> intro k7 h4 e2
 ·have i2 := ix h4
  have m4 := ml a0.Zj (k7 34 _ rfl)
  have w2 := wr v2_0
  simp [i2, ZD]
  repeat with_reducible refine sd ?_
  refine dIs mixed ?_
  refine cRs (XO (nth a0.Zj v2_0).Count 1 (↑a0.ZS.length : Int)) ?_
  refine gIf ?_ ?_ <;> intro G
  ·have i3 := ik (v2_0 - 1) a0.Zj
   have w3 : IntKind.i64.wrap ((v2_0 : Int) - 1) = (v2_0 : Int) - 1 := ZT (by omega) (by omega)
   simp [i3, ZD, w3, kU, G]
   repeat with_reducible refine sdg ?_
   refine cKo e2 ?_ ?_ <;> intro k9 h5 e2
   ·try (simp [G] at h5; done)
    all_goals
     have q5 := h5; try simp [YE] at q5
     have f := ms f e2
     simp [G]
     repeat with_reducible refine sdg ?_
     exact rtg [.tmp 2] f
   ·try (simp [G] at h5; done)
    all_goals
     have q5 := h5; try simp [YE] at q5
     simp [G]
     repeat with_reducible refine sdg ?_
     exact ny1 (an w2 (an w3 G)) e2
  ·refine cKo e2 ?_ ?_ <;> intro k10 h6 e2
   ·try (simp [G] at h6; done)
    all_goals
     have q6 := h6; try simp [YE] at q6
     have f := ms f e2
     simp [G]
     repeat with_reducible refine sdg ?_
     exact rtg [.tmp 2] f
   ·try (simp [G] at h6; done)
    all_goals
     have q6 := h6; try simp [YE] at q6
     simp [G]
     repeat with_reducible refine sdg ?_
     exact ny1 (an w2 G) e2
 have f := ms f e2
 exact rt [.tmp 2] f
theorem UM (a0 : Zb) : Sd 225 [a0.row] [rL 1 iR (Qy a0)] := by
 have f := me (Qy.eq_1 a0)
 refine soD Tryz.func225 Tryz.ntmps225 ?_
 exact rtD [.tmp 2] f
theorem OP (a0 : Zb) : Sd 210 [a0.row] [(za a0).row] := by
 have f := me (za.eq_1 a0)
 refine soD Tryz.func210 Tryz.ntmps210 ?_
 refine dIs mixed ?_
 refine cDs [false] (UM a0) ?_
 exact rtD [.cell 2 187] f
theorem SQ (a0 : ZI) : Sa 182 [a0.row] [rB (kA a0)] := by
 have f := me (kA.eq_1 a0)
 refine so Tryz.func182 Tryz.ntmps182 ?_
 refine dIs mixed ?_
 refine cRs (XO a0.Id 1 999) ?_
 refine cGs (fun gg => (Iq a0.Yo)) ?_
 refine cGs (fun gg => (ku a0.Doc)) ?_
 refine cGs (fun gg => (Nw a0.ZQ)) ?_
 refine gIf ?_ ?_ <;> intro G
 ·have g1x := G
  have g1 := G; try simp [YE] at g1
  have i1 : 0 < a0.ZQ.ZS.length := by have := OK (a := a0.ZQ); simp_all
  simp [i1, ZD, G]
  repeat with_reducible refine sdg ?_
  refine cGg (fun gg => Xz.rd (OP a0.Sig)) ?_
  refine cGg (fun gg => (jq (nth a0.ZQ.ZS 0) (za a0.Sig))) ?_
  exact rtg [.tmp 2] f
 ·have g1x := G
  refine sGo ?_
  simp [G]
  repeat with_reducible refine sdg ?_
  refine sGo ?_
  simp [G]
  repeat with_reducible refine sdg ?_
  exact rtg [.tmp 2] f
theorem SH (a0 : Z1) (a1 : Int) (u0 : Sm 2310144 a0) : Sa 177 [a0.row, rI a1] [rB (XK a0 a1)] := by
 have f := me (XK.eq_1 a0 a1)
 refine so Tryz.func177 Tryz.ntmps177 ?_
 refine lp1 (Xu.eq_2 a0) (fun v1_0 => YM 31 [eI 1 a1, eX 2 (a0.row.map .d), eL 8 16 a0.ZF ZI.row, eI 9 (↑a0.ZF.length : Int), eI 10 (↑v1_0 : Int)]) (fun n1 v1_0 => a0.ZF.length < n1 + v1_0 ∧ v1_0 ≤ a0.ZF.length) (a0.ZF.length + 1) 0 (fun p1 v1_0 e1 j1 => ?_)
 refine cFf e1 ?_ ?_ <;> intro k2 h1 e1
 ·have i1 := ix h1
  have m2 := ml a0.ZF (k2 8 _ rfl)
  have c1 := sl 2310144 a0.ZF u0
  have w1 := wr v1_0
  simp [i1, ZD]
  repeat with_reducible refine sd ?_
  refine cRs (SQ (nth a0.ZF v1_0)) ?_
  refine cF e1 ?_ ?_ <;> intro k3 h2 e1
  ·have f := ms f e1
   exact rt [.tmp 4] f
  exact ny1 w1 e1
 have c2 := sl 2310144 a0.ZF u0
 have f := ms f e1
 refine dIs mixed ?_
 refine cRs (XO (↑a0.ZF.length : Int) 1 8) ?_
 refine cGs (fun gg => (qh a1 a0.ZF (sg (Z1.YW u0)))) ?_
 exact rt [.tmp 4] f
theorem qg (a0 : ZC) : Sa 138 [a0.row] [rB (JG a0)] := by
 have f := me (JG.eq_1 a0)
 refine so Tryz.func138 Tryz.ntmps138 ?_
 refine lp1 (K7.eq_2 a0) (fun v1_0 => YM 42 [eX 1 (a0.row.map .d), eL 6 16 a0.ZF ZI.row, eI 7 (↑a0.ZF.length : Int), eI 8 (↑v1_0 : Int)]) (fun n1 v1_0 => a0.ZF.length < n1 + v1_0 ∧ v1_0 ≤ a0.ZF.length) (a0.ZF.length + 1) 0 (fun p1 v1_0 e1 j1 => ?_)
 refine cFf e1 ?_ ?_ <;> intro k2 h1 e1
 ·have i1 := ix h1
  have m2 := ml a0.ZF (k2 6 _ rfl)
  have w1 := wr v1_0
  simp [i1, ZD]
  repeat with_reducible refine sd ?_
  refine dIs mixed ?_
  refine cRs (SQ (nth a0.ZF v1_0)) ?_
  refine gIf ?_ ?_ <;> intro G
  ·have i2 := ik (v1_0 - 1) a0.ZF
   have w2 : IntKind.i64.wrap ((v1_0 : Int) - 1) = (v1_0 : Int) - 1 := ZT (by omega) (by omega)
   simp [i2, ZD, w2, kU, G]
   repeat with_reducible refine sdg ?_
   refine cK e1 ?_ ?_ <;> intro k4 h2 e1
   ·try (simp [G] at h2; done)
    all_goals
     have f := ms f e1
     exact rtg [.tmp 2] f
   ·try (simp [G] at h2; done)
    all_goals
     exact ny1 (an w1 (an w2 G)) e1
  ·refine cK e1 ?_ ?_ <;> intro k5 h3 e1
   ·try (simp [G] at h3; done)
    all_goals
     have f := ms f e1
     exact rtg [.tmp 2] f
   ·try (simp [G] at h3; done)
    all_goals
     exact ny1 (an w1 G) e1
 have f := ms f e1
 refine cRs (XO a0.Id 0 99) ?_
 exact rt [.tmp 2] f
theorem LS (a0 : ZC) (a1 : ZI) (u0 : Sm 2318336 a0) (u1 : Sm 2318336 a1) : Sd 178 [a0.row, a1.row] [(X4 a0 a1).1.row, rB (X4 a0 a1).2] := by
 have f := me (X4.eq_1 a0 a1)
 refine soD Tryz.func178 Tryz.ntmps178 ?_
 refine cRs (je a0 a1.Id) ?_
 refine cGs (fun gg => (qg a0)) ?_
 refine cF f ?_ ?_ <;> intro k1 h1 f
 ·refine cDs [] (YN a0 (sg u0)) ?_
  exact rtD [.cell 4 64, .tmp 5] f
 refine cDs [] (YN a0 (sg u0)) ?_
 refine lp1 (YU.eq_2 a0 a1) (fun v1_0 => YM 62 [eX 2 (a0.row.map .d), eX 3 (a1.row.map .d), (4, .one (.bptr 4 0), [.box [.d (.int .i64 0), .nil 16]]), (6, .one (.bptr 6 0), [.box [.d (.int .i64 a0.Id), .sref 21 1 0 a0.ZF.length]]), eI 7 (↑v1_0 : Int), (21, .any, [.none, .arr true 16 (a0.ZF.map ZI.row)])]) (fun n1 v1_0 => a0.ZF.length < n1 + v1_0 ∧ v1_0 ≤ a0.ZF.length) (a0.ZF.length + 1) 0 (fun p1 v1_0 e1 j1 => ?_)
 refine dIs mixed ?_
 refine gIf ?_ ?_ <;> intro G
 ·have i1 := ik v1_0 a0.ZF
  simp [i1, ZD, G]
  repeat with_reducible refine sdg ?_
  refine cK e1 ?_ ?_ <;> intro k4 h2 e1
  ·try (simp [G] at h2; done)
   all_goals
    have i2 : v1_0 < a0.ZF.length := by (simp at h2; omega)
    have m2 := ml a0.ZF (k4 24 _ rfl)
    have c1 := sl 2318336 a0.ZF (an u0 u1)
    have w1 := wr v1_0
    exact ny1 (an w1 G) e1
  ·try (simp [G] at h2; done)
   all_goals
    have c2 := sl 2318336 a0.ZF (an u0 u1)
    have f := ms f e1
    refine E3 [(3, 3), (6, 6), (41, 6), (50, 6), (55, 6)] [] [45, 49, 54] mixed (by kernel_rfl) (by kernel_rfl) (by kernel_rfl) (by kernel_rfl) (by kernel_rfl) (by kernel_rfl) (by kernel_rfl) ?_
    simp [G]
    repeat with_reducible refine sdg ?_
    refine jY rfl rfl rfl (by simp) (by simp) (by simp) ?_
    simp [G]
    repeat with_reducible refine sdg ?_
    refine Dj (olds := (([] : List ZI).map ZI.row)) (rows := (a0.ZF.map ZI.row)) (news := ((a0.ZF.take v1_0).map ZI.row)) (l1 := [(40, 0)]) (size := 16) (u := 21) (j := 1) (lo := 0) (n := v1_0) rfl rfl rfl rfl (by simp) (by simp) (by simp) (by simp) (by simp) (by simp) (by first | omega | (simp; omega)) (by simp [cut]) (by simp) (by first | omega | (simp; omega)) ?_
    simp [G]
    repeat with_reducible refine sdg ?_
    refine cDg [true, true, true, false, false] (yM a1 (sg u1)) ?_
    refine jY rfl rfl rfl (by simp) (by simp) (by simp) ?_
    have c3 := sl 2318336 (a0.ZF.take v1_0) (an u0 u1)
    simp [G]
    repeat with_reducible refine sdg ?_
    refine kE (olds := ((a0.ZF.take v1_0).map ZI.row)) (news := (([a1] : List ZI).map ZI.row)) (l1 := [(45, 0)]) (l2 := [(47, 3), (47, 4), (47, 14), (47, 15)]) (size := 16) rfl rfl rfl rfl (by simp) (by simp) (by simp) (by simp) (by simp) (by simp; omega) ?_
    simp [G]
    repeat with_reducible refine sdg ?_
    refine Dj (olds := (((a0.ZF.take v1_0) ++ ([a1] : List ZI)).map ZI.row)) (rows := (Xm (a0.ZF.map ZI.row) 0 v1_0)) (news := ((a0.ZF.drop v1_0).map ZI.row)) (l1 := [(49, 0)]) (size := 16) (u := 21) (j := 1) (lo := v1_0) (n := (a0.ZF.length - v1_0)) rfl rfl rfl rfl (by simp) (by simp) (by simp) (by simp) (by simp) (by simp) (by rw [Kg (by first | omega | (simp; omega))]; first | omega | (simp; omega)) ((Sn (by first | omega | (simp; omega)) (by first | omega | (simp; omega))).trans (Wc _ _ _)) (by simp) (by first | omega | (simp; omega)) ?_
    simp [G]
    repeat with_reducible refine sdg ?_
    refine cRg (qg (ZC.mk a0.Id (((a0.ZF.take v1_0) ++ ([a1] : List ZI)) ++ (a0.ZF.drop v1_0)))) ?_
    refine cK f ?_ ?_ <;> intro k6 h3 f
    ·try (simp [G] at h3; done)
     all_goals
      refine cDg [] (YN a0 (sg u0)) ?_
      exact Dn [.cell 4 64, .tmp 5] f
    ·try (simp [G] at h3; done)
     all_goals
      exact Dn [.cell 4 64, .tmp 5] f
 ·refine cK e1 ?_ ?_ <;> intro k7 h4 e1
  ·try (simp [G] at h4; done)
   all_goals
    have i4 : v1_0 < a0.ZF.length := by (simp at h4; omega)
    have m4 := ml a0.ZF (k7 24 _ rfl)
    have c4 := sl 2318336 a0.ZF (an u0 u1)
    have w2 := wr v1_0
    exact ny1 (an w2 G) e1
  ·try (simp [G] at h4; done)
   all_goals
    have c5 := sl 2318336 a0.ZF (an u0 u1)
    have f := ms f e1
    refine E3 [(3, 3), (6, 6), (41, 6), (50, 6), (55, 6)] [] [45, 49, 54] mixed (by kernel_rfl) (by kernel_rfl) (by kernel_rfl) (by kernel_rfl) (by kernel_rfl) (by kernel_rfl) (by kernel_rfl) ?_
    simp [G]
    repeat with_reducible refine sdg ?_
    refine jY rfl rfl rfl (by simp) (by simp) (by simp) ?_
    simp [G]
    repeat with_reducible refine sdg ?_
    refine Dj (olds := (([] : List ZI).map ZI.row)) (rows := (a0.ZF.map ZI.row)) (news := ((a0.ZF.take v1_0).map ZI.row)) (l1 := [(40, 0)]) (size := 16) (u := 21) (j := 1) (lo := 0) (n := v1_0) rfl rfl rfl rfl (by simp) (by simp) (by simp) (by simp) (by simp) (by simp) (by first | omega | (simp; omega)) (by simp [cut]) (by simp) (by first | omega | (simp; omega)) ?_
    simp [G]
    repeat with_reducible refine sdg ?_
    refine cDg [true, true, true, false, false] (yM a1 (sg u1)) ?_
    refine jY rfl rfl rfl (by simp) (by simp) (by simp) ?_
    have c6 := sl 2318336 (a0.ZF.take v1_0) (an u0 u1)
    simp [G]
    repeat with_reducible refine sdg ?_
    refine kE (olds := ((a0.ZF.take v1_0).map ZI.row)) (news := (([a1] : List ZI).map ZI.row)) (l1 := [(45, 0)]) (l2 := [(47, 3), (47, 4), (47, 14), (47, 15)]) (size := 16) rfl rfl rfl rfl (by simp) (by simp) (by simp) (by simp) (by simp) (by simp; omega) ?_
    simp [G]
    repeat with_reducible refine sdg ?_
    refine Dj (olds := (((a0.ZF.take v1_0) ++ ([a1] : List ZI)).map ZI.row)) (rows := (Xm (a0.ZF.map ZI.row) 0 v1_0)) (news := ((a0.ZF.drop v1_0).map ZI.row)) (l1 := [(49, 0)]) (size := 16) (u := 21) (j := 1) (lo := v1_0) (n := (a0.ZF.length - v1_0)) rfl rfl rfl rfl (by simp) (by simp) (by simp) (by simp) (by simp) (by simp) (by rw [Kg (by first | omega | (simp; omega))]; first | omega | (simp; omega)) ((Sn (by first | omega | (simp; omega)) (by first | omega | (simp; omega))).trans (Wc _ _ _)) (by simp) (by first | omega | (simp; omega)) ?_
    simp [G]
    repeat with_reducible refine sdg ?_
    refine cRg (qg (ZC.mk a0.Id (((a0.ZF.take v1_0) ++ ([a1] : List ZI)) ++ (a0.ZF.drop v1_0)))) ?_
    refine cK f ?_ ?_ <;> intro k9 h5 f
    ·try (simp [G] at h5; done)
     all_goals
      refine cDg [] (YN a0 (sg u0)) ?_
      exact Dn [.cell 4 64, .tmp 5] f
    ·try (simp [G] at h5; done)
     all_goals
      exact Dn [.cell 4 64, .tmp 5] f
theorem Ub (a0 : ZC) (a1 : Z1) (a2 : Int) (u0 : Sm 2306048 a0) (u1 : Sm 2306048 a1) : Sd 131 [a0.row, a1.row, rI a2] [(YV a0 a1 a2).1.row, rB (YV a0 a1 a2).2] := by
 have f := me (YV.eq_1 a0 a1 a2)
 refine soD Tryz.func131 Tryz.ntmps131 ?_
 refine cRs (SH a1 a2 (sg u1)) ?_
 refine cF f ?_ ?_ <;> intro k1 h1 f
 ·refine cDs [] (YN a0 (sg u0)) ?_
  exact rtD [.cell 6 64, .tmp 7] f
 refine cDs [] (YN a0 (sg u0)) ?_
 refine lp3 (Yx.eq_2 a0 a1) (fun v1_0 v1_1 v1_2 => YM 48 [eX 3 (a0.row.map .d), (6, .one (.bptr 6 0), [.box [.d (.int .i64 0), .nil 16]]), (8, .one (.bptr 8 0), [.box [.d (.int .i64 v1_1), .sref 8 2 0 v1_2.length], .none, .arr true 16 (v1_2.map ZI.row)]), eL 29 16 a1.ZF ZI.row, eI 30 (↑a1.ZF.length : Int), eI 31 (↑v1_0 : Int)]) (fun n1 v1_0 v1_1 v1_2 => a1.ZF.length < n1 + v1_0 ∧ v1_0 ≤ a1.ZF.length ∧ Sm (2306048 + v1_0) (ZC.mk v1_1 v1_2)) (a1.ZF.length + 1) 0 a0.Id a0.ZF (fun p1 v1_0 v1_1 v1_2 e1 j1 => ?_) (hI := by exact ⟨by omega, by omega, Nat.zero_le _, u0⟩) (h0 := YO [((8, 2), some (27, 1))] [] rfl (by simp))
 try dsimp only at j1
 refine cFf e1 ?_ ?_ <;> intro k3 h2 e1
 ·have i1 := ix h2
  have m2 := ml a1.ZF (k3 29 _ rfl)
  have c1 := sl 2306048 a1.ZF (an u0 u1)
  have w1 := wr v1_0
  simp [i1, ZD]
  repeat with_reducible refine sd ?_
  refine cDs [] (LS (ZC.mk v1_1 v1_2) (nth a1.ZF v1_0) (by first | (have hl := qw a1 a2 (by simp at h1; exact h1.1); exact YL (n := 2306048 + v1_0) (by omega) j1.2.2.2) | exact sg (Yl (Z1.YW u1))) (by first | (have hl := qw a1 a2 (by simp at h1; exact h1.1); exact YL (n := 2306048 + v1_0) (by omega) j1.2.2.2) | exact sg (Yl (Z1.YW u1)))) ?_
  refine cF e1 ?_ ?_ <;> intro k4 h3 e1
  ·refine cDs [] (YN a0 (sg u0)) ?_
   have f := ms f e1
   exact rtD [.cell 6 64, .tmp 7] f
  exact nx3 e1 (hI := by ((try dsimp only); refine ⟨by omega, by omega, by omega, ?_⟩; exact L4 (n := 2306048 + v1_0) j1.2.2.2 (YL (n := 2306048) (by omega) (Yl (Z1.YW u1))))) (hw := YO [((8, 2), some (38, 1))] [] rfl (by simp [w1]))
 have c2 := sl 2306048 a1.ZF (an u0 u1)
 have f := ms f e1
 exact rtD [.cell 6 64, .tmp 7] f
theorem NU {a b : Prop} (h : b) (k : a := by (intros; first | omega | with_unfolding_all (first | first | omega | (have h0 := h1; simp only [decide_eq_false_iff_not] at h0; have z := X8 a0 a1; have hc := zM (ZC.YW u0); have w2 : IntKind.i64.wrap ((ZX a0 a1) + 1) = (ZX a0 a1) + 1 := (ZT (by omega) (by omega)); have w : W ((ZX a0 a1) + 1) = (ZX a0 a1) + 1 := w2; omega)) | ((try simp only [SU, show ∀ x, IntKind.i64.wrap x = W x from fun _ => rfl] at *); omega))) : a ∧ b := ⟨k, h⟩
theorem MI (a0 : ZC) (a1 : Int) (u0 : Sm 2318336 a0) : Sd 132 [a0.row, rI a1] [(XS a0 a1).1.row, rB (XS a0 a1).2] := by
 have f := me (XS.eq_1 a0 a1)
 refine soD Tryz.func132 Tryz.ntmps132 ?_
 refine cDs [] (YN a0 (sg u0)) ?_
 refine cRs (je a0 a1) ?_
 refine cF f ?_ ?_ <;> intro k1 h1 f
 ·exact rtD [.cell 4 64, .tmp 5] f
 refine xj [25] mixed (by kernel_rfl) (by kernel_rfl) ?_
 have c1 := sl 2318336 a0.ZF u0
 simp
 repeat with_reducible refine NU ?_
 refine AZ (rows := (a0.ZF.map ZI.row)) (news := ((a0.ZF.drop (W ((ZX a0 a1) + 1)).toNat).map ZI.row)) (size := 16) (u := 9) (j := 1) (len := (ZX a0 a1).toNat) (lo := (W ((ZX a0 a1) + 1)).toNat) (n := (a0.ZF.length - (W ((ZX a0 a1) + 1)).toNat)) rfl rfl rfl rfl (by simp) (by simp) (by simp) (by simp) (by simp) (by first | omega | (first | omega | (have h0 := h1; simp only [decide_eq_false_iff_not] at h0; have z := X8 a0 a1; have hc := zM (ZC.YW u0); have w2 : IntKind.i64.wrap ((ZX a0 a1) + 1) = (ZX a0 a1) + 1 := (ZT (by omega) (by omega)); have w : W ((ZX a0 a1) + 1) = (ZX a0 a1) + 1 := w2; omega)) | (simp; first | omega | (have h0 := h1; simp only [decide_eq_false_iff_not] at h0; have z := X8 a0 a1; have hc := zM (ZC.YW u0); have w2 : IntKind.i64.wrap ((ZX a0 a1) + 1) = (ZX a0 a1) + 1 := (ZT (by omega) (by omega)); have w : W ((ZX a0 a1) + 1) = (ZX a0 a1) + 1 := w2; omega))) (by first | omega | (simp; done) | (simp; first | omega | (have h0 := h1; simp only [decide_eq_false_iff_not] at h0; have z := X8 a0 a1; have hc := zM (ZC.YW u0); have w2 : IntKind.i64.wrap ((ZX a0 a1) + 1) = (ZX a0 a1) + 1 := (ZT (by omega) (by omega)); have w : W ((ZX a0 a1) + 1) = (ZX a0 a1) + 1 := w2; omega))) (Wc _ _ _) (by simp) (by first | omega | (simp; first | omega | (have h0 := h1; simp only [decide_eq_false_iff_not] at h0; have z := X8 a0 a1; have hc := zM (ZC.YW u0); have w2 : IntKind.i64.wrap ((ZX a0 a1) + 1) = (ZX a0 a1) + 1 := (ZT (by omega) (by omega)); have w : W ((ZX a0 a1) + 1) = (ZX a0 a1) + 1 := w2; omega))) ?_
 simp
 exact rtD [.cell 4 64, .tmp 5] f
theorem PF (a0 : ZC) (a1 : ZC) (a2 : List Int) (a3 : Int) (u0 : Sm 2301952 a0) (u1 : Sm 2301952 a1) (u2 : Sm 2301952 a2) : Sd 61 [a0.row, a1.row, rL 1 iR a2, rI a3] [(YG a0 a1 a2 a3).1.row, (YG a0 a1 a2 a3).2.1.row, rB (YG a0 a1 a2 a3).2.2] := by
 have f := me (YG.eq_1 a0 a1 a2 a3)
 refine soD Tryz.func61 Tryz.ntmps61 ?_
 refine cRs (Xz.rd (RY a0 a1.Id a2 a3 (by first | exact sg u0 | exact sg u2) (by first | exact sg u0 | exact sg u2))) ?_
 refine cDs [] (Ub a1 (YH a0 a1.Id a2 a3).1 a3 (by first | exact sg u1 | exact YL (n := 2301952) (by decide) (WA u0 u2)) (by first | exact sg u1 | exact YL (n := 2301952) (by decide) (WA u0 u2))) ?_
 refine cF f ?_ ?_ <;> intro k1 h1 f
 ·refine okD fun k2 => ?_
  refine dIs mixed ?_
  refine cDs [] (YN a0 (sg u0)) ?_
  refine cDs [] (YN a1 (sg u1)) ?_
  exact rtD [.cell 8 64, .cell 9 64, .tmp 10] f
 refine cDs [] (YN a0 (sg u0)) ?_
 refine lp3 (Yy.eq_2 a0 a1 a2) (fun v1_0 v1_1 v1_2 => YM 70 [eX 4 (a0.row.map .d), eX 5 (a1.row.map .d), (8, .one (.bptr 8 0), [.box [.d (.int .i64 0), .nil 16]]), (9, .one (.bptr 9 0), [.box [.d (.int .i64 0), .nil 16]]), (13, .one (.bptr 13 0), [.box [.d (.int .i64 (YV a1 (YH a0 a1.Id a2 a3).1 a3).1.Id), .sref 33 1 0 (YV a1 (YH a0 a1.Id a2 a3).1 a3).1.ZF.length]]), (15, .one (.bptr 15 0), [.box [.d (.int .i64 v1_1), .sref 15 2 0 v1_2.length], .none, .arr true 16 (v1_2.map ZI.row)]), (33, .any, [.none, .arr true 16 ((YV a1 (YH a0 a1.Id a2 a3).1 a3).1.ZF.map ZI.row)]), eL 48 1 a2 iR, eI 49 (↑a2.length : Int), eI 50 (↑v1_0 : Int)]) (fun n1 v1_0 v1_1 v1_2 => a2.length < n1 + v1_0 ∧ v1_0 ≤ a2.length ∧ Sm 2301952 (ZC.mk v1_1 v1_2)) (a2.length + 1) 0 a0.Id a0.ZF (fun p1 v1_0 v1_1 v1_2 e1 j1 => ?_) (hI := by exact ⟨by omega, by omega, Nat.zero_le _, u0⟩) (h0 := YO [((15, 2), some (47, 1))] [] rfl (by simp))
 try dsimp only at j1
 refine cFf e1 ?_ ?_ <;> intro k4 h2 e1
 ·have i1 := ix h2
  have m2 := ml a2 (k4 48 _ rfl)
  have c1 := sl 2301952 a2 (an u0 (an u1 u2))
  have w1 := wr v1_0
  simp [i1, ZD]
  repeat with_reducible refine sd ?_
  refine cDs [] (MI (ZC.mk v1_1 v1_2) (nth a2 v1_0) (by exact YL (n := 2301952) (by decide) j1.2.2.2)) ?_
  refine cF e1 ?_ ?_ <;> intro k5 h3 e1
  ·refine okD fun k6 => ?_
   refine dIs mixed ?_
   refine cDs [] (YN a0 (sg u0)) ?_
   refine cDs [] (YN a1 (sg u1)) ?_
   have f := ms f e1
   exact rtD [.cell 8 64, .cell 9 64, .tmp 10] f
  exact nx3 e1 (hI := by ((try dsimp only); refine ⟨by omega, by omega, by omega, ?_⟩; exact VX (by decide) j1.2.2.2)) (hw := YO [((15, 2), some (57, 1))] [] rfl (by simp [w1]))
 have c2 := sl 2301952 a2 (an u0 (an u1 u2))
 have f := ms f e1
 refine CJ [(8, 8), (9, 9), (13, 13), (15, 15)] mixed (by kernel_rfl) (by kernel_rfl) (by kernel_rfl) (by kernel_rfl) ?_
 simp
 exact rtD [.cell 8 64, .cell 9 64, .tmp 10] f
theorem Vl (a0 : Ze) (a1 : Int) (a2 : Int) (a3 : Int) (u0 : Sm 2297856 a0) : Sd 17 [a0.row, rI a1, rI a2, rI a3] [(Zx a0 a1 a2 a3).1.row, rB (Zx a0 a1 a2 a3).2] := by
 have f := me (Zx.eq_1 a0 a1 a2 a3)
 refine soD Tryz.func17 Tryz.ntmps17 ?_
 refine cDs [false, false, false, true, true, false, false, true, false, false, true, false] (RD a0 (sg u0)) ?_
 refine cRs (Sw a0.Frame.Methods a0.Frame.Now) ?_
 refine cRs (kC a0 a1) ?_
 refine cGs (fun gg => (kC a0 a2)) ?_
 have c1 := sl 2297856 a0.ZH u0
 have w1 : IntKind.i64.wrap ((a0.ZH.length : Int) - 1) = (a0.ZH.length : Int) - 1 := ZT (by omega) (by omega)
 refine cFo f ?_ ?_ <;> intro k1 h1 f
 ·have q1 := h1; try simp [w1, Xh, YE] at q1
  simp
  exact rtD [.cell 8 41, .tmp 9] f
 have q1 := h1; try simp [w1, Xh, YE] at q1
 simp
 refine dIo mixed ?_
 have i1 := ik a1.toNat a0.ZH
 have i2 := ik a2.toNat a0.ZH
 simp [i1, ZD, i2]
 repeat with_reducible refine sd ?_
 refine cDs [] (PF (nth a0.ZH a1.toNat) (nth a0.ZH a2.toNat) ([a3] : List Int) (YK a0.Frame.Methods a0.Frame.Now) (sg (Yl (Ze.Jo u0))) (sg (Yl (Ze.Jo u0))) (by simp (maxDischargeDepth := 12) [yl, Xd, YL (m := 2301952) (by decide) u0]; try omega)) ?_
 refine cF f ?_ ?_ <;> intro k3 h2 f
 ·refine okD fun k4 => ?_
  refine E3 [(10, 10), (12, 12), (13, 13), (63, 10), (66, 10)] [71, 72] [] mixed (by kernel_rfl) (by kernel_rfl) (by kernel_rfl) (by kernel_rfl) (by kernel_rfl) (by kernel_rfl) (by kernel_rfl) ?_
  simp [i1, ZD]
  repeat with_reducible refine sd ?_
  refine Hv (t := 16) (j := 7) (i := a1.toNat) (size := 2) (rows := (a0.ZH.map ZC.row)) (ds := (YG (nth a0.ZH a1.toNat) (nth a0.ZH a2.toNat) ([a3] : List Int) (YK a0.Frame.Methods a0.Frame.Now)).1.row) (L := [(58, 1)]) rfl rfl rfl rfl (by simp) (by simp) (by simp; try omega) (by simp) (by simp) (by simp) (by simp) (by simp) (by simp) ?_
  simp [Zq (x := (YG (nth a0.ZH a1.toNat) (nth a0.ZH a2.toNat) ([a3] : List Int) (YK a0.Frame.Methods a0.Frame.Now)).1) rfl, c1, i1, i2, ZD, Zh]
  repeat with_reducible refine sd ?_
  refine Hv (t := 16) (j := 7) (i := a2.toNat) (size := 2) (rows := ((a0.ZH.set a1.toNat (YG (nth a0.ZH a1.toNat) (nth a0.ZH a2.toNat) ([a3] : List Int) (YK a0.Frame.Methods a0.Frame.Now)).1).map ZC.row)) (ds := (YG (nth a0.ZH a1.toNat) (nth a0.ZH a2.toNat) ([a3] : List Int) (YK a0.Frame.Methods a0.Frame.Now)).2.1.row) (L := [(58, 3)]) rfl rfl rfl rfl (by simp) (by simp) (by simp; try omega) (by simp) (by simp) (by simp) (by simp) (by simp) (by simp) ?_
  simp [Zq (x := (YG (nth a0.ZH a1.toNat) (nth a0.ZH a2.toNat) ([a3] : List Int) (YK a0.Frame.Methods a0.Frame.Now)).2.1) rfl, Zq (x := (YG (nth a0.ZH a1.toNat) (nth a0.ZH a2.toNat) ([a3] : List Int) (YK a0.Frame.Methods a0.Frame.Now)).1) rfl, c1, i1, i2, ZD, Zh]
  repeat with_reducible refine sd ?_
  exact rtD [.cell 8 41, .tmp 9] f
 exact rtD [.cell 8 41, .tmp 9] f
end Go.Proofs.YtjflhdkeibijaaaGreat
