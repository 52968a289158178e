/- Contracts of the functions GP the abstract machine, part S1. No condition. -/
import Derived.Test.YtngnbcmfckmklaaGreatL
import Derived.Test.YtngnbcmfckmklaaGreatTy
namespace Go.Proofs.YtngnbcmfckmklaaGreat
open Tryz
open Go.Vm Go.Mo
set_option maxHeartbeats 1000000
set_option maxRecDepth 100000
set_option linter.unusedSimpArgs false
set_option linter.unusedVariables false
theorem DZ (a0 : Zq) (u0 : Sm 2342912 a0) : Sd 48 [a0.row] [(Ou a0).row] := by
 have f := me (Ou.eq_1 a0)
 have c1 := sl 2342912 a0.Zm u0
 have c2 := sl 2342912 a0.ZE u0
 have c3 := sl 2342912 a0.Methods u0
 refine soD func48 ntmps48 ?_
 exact rtD [.cell 2 39] f
theorem GH (a0 : Zq) (u0 : Sm 2342912 a0) : Sd 48 [a0.row] [a0.row] := by
  have h := DZ a0 u0
  rwa [DA] at h
theorem vS (a0 : ZT) (u0 : Sm 2342912 a0) : Sd 160 [a0.row] [(ES a0).row] := by
 have f := me (ES.eq_1 a0)
 refine soD func160 ntmps160 ?_
 refine FO [2, 3, 4, 5, 6, 7, 8, 9, 0, 1, 10, 11] mixed (by kernel_rfl) (by kernel_rfl) (by kernel_rfl) ?_
 have c1 := sl 2342912 a0.ZU u0
 have c2 := sl 2342912 a0.Zk u0
 simp
 refine rpS ?_
 exact rtD [.cell 2 66] f
theorem NR (a0 : ZT) (u0 : Sm 2342912 a0) : Sd 160 [a0.row] [a0.row] := by
  have h := vS a0 u0
  rwa [wK] at h
theorem BN (a0 : ZO) (u0 : Sm 2342912 a0) : Sd 231 [a0.row] [(LV a0).row] := by
 have f := me (LV.eq_1 a0)
 refine soD func231 ntmps231 ?_
 refine FO [2, 3, 4, 5, 0, 1, 6, 7, 8, 9] mixed (by kernel_rfl) (by kernel_rfl) (by kernel_rfl) ?_
 have c1 := sl 2342912 a0.Ys u0
 simp
 refine rpS ?_
 exact rtD [.cell 2 145] f
theorem OC (a0 : ZO) (u0 : Sm 2342912 a0) : Sd 231 [a0.row] [a0.row] := by
  have h := BN a0 u0
  rwa [AJ] at h
theorem wz (a0 : List ZO) (u0 : Sm 2338816 a0) : Sd 222 [rL 3 ZO.row a0] [rL 3 ZO.row (NY a0)] := by
 have f := me (NY.eq_1 a0)
 refine soD func222 ntmps222 ?_
 refine mn (news := (([] : List ZO).map ZO.row)) (L := []) rfl rfl rfl rfl (by simp) (by simp) (by simp) (by simp) (by simp) (by simp) ?_
 simp
 refine lp2 (Su.eq_2 a0) (fun J U => YT 21 [eL 0 3 a0 ZO.row, (3, .one (.sref 3 0 0 J.length), [.arr true 3 (J.map ZO.row)]), eI 4 (U : Int)]) (fun n1 J U => a0.length < n1 + U /\ U <= a0.length /\ J.length <= 0 + 1 * U) (a0.length + 1) ([] : List ZO) 0 (fun p1 J U e1 j1 => ?_) (h0 := wkS [((3, 0), some (5, 0))] [])
 refine cFf e1 ?_ ?_ <;> intro k2 h1 e1
 ·have i1 := ix h1
  have m2 := ml a0 (k2 0 _ rfl)
  have c1 := sl 2338816 a0 u0
  have w1 := wr U
  simp [i1, ZB]
  refine rpS ?_
  refine cDs [true, false] (OC (nth a0 U) (sg (Z7 u0))) ?_
  refine W2 ?_
  simp
  refine UL (iT := (J.map ZO.row)) (news := (([(nth a0 U)] : List ZO).map ZO.row)) (l1 := [(3, 0)]) (l2 := [(17, 1)]) (size := 3) ?_
  simp
  exact nx2 e1 (hw := Xf [((3, 0), some (19, 0))] [] rfl (by simp [w1]))
 have c2 := sl 2338816 a0 u0
 have f := ms f e1
 exact rtD [.tmp 2] f
theorem Bo (a0 : List ZO) (u0 : Sm 2338816 a0) : Sd 222 [rL 3 ZO.row a0] [rL 3 ZO.row a0] := by
  have h := wz a0 u0
  rwa [wb] at h
theorem B6 (a0 : ZK) (u0 : Sm 2342912 a0) : Sd 184 [a0.row] [(M6 a0).row] := by
 have f := me (M6.eq_1 a0)
 have c1 := sl 2342912 a0.Path u0
 have c2 := sl 2342912 a0.Yi u0
 refine soD func184 ntmps184 ?_
 exact rtD [.cell 2 171] f
theorem Od (a0 : ZK) (u0 : Sm 2342912 a0) : Sd 184 [a0.row] [a0.row] := by
  have h := B6 a0 u0
  rwa [BK] at h
theorem AT (a0 : Za) (u0 : Sm 2334720 a0) : Sd 161 [a0.row] [(Pu a0).row] := by
 have f := me (Pu.eq_1 a0)
 refine soD func161 ntmps161 ?_
 refine cDs [] (Bo a0.ZL (sg (Za.km u0))) ?_
 refine lp2 (Um.eq_2 a0) (fun J U => YT 28 [eX 1 (a0.row.map .d), (2, .one (.bptr 2 0), [.box [.nil 3, .nil 5]]), (3, .one (.bptr 3 0), [.box [.sref 7 0 0 a0.ZL.length, .sref 3 2 0 U.length], .none, .arr true 5 (U.map ZK.row)]), eI 4 (J : Int), (7, .any, [.arr true 3 (a0.ZL.map ZO.row)])]) (fun n1 J U => a0.Zf.length < n1 + J /\ J <= a0.Zf.length /\ U.length <= 0 + 1 * J) (a0.Zf.length + 1) 0 ([] : List ZK) (fun p1 J U e1 j1 => ?_) (h0 := wkS [((3, 2), none)] [])
 refine cF e1 ?_ ?_ <;> intro k2 h1 e1
 ·have i1 := ix h1
  have m2 := ml a0.Zf (k2 11 _ rfl)
  have c1 := sl 2334720 a0.Zf u0
  have w1 := wr J
  refine drJ [25] mixed ?_
  simp [i1, ZB]
  refine rpS ?_
  refine cDs [true, true, true, false, false] (Od (nth a0.Zf J) (sg (Z7 (Za.kH u0)))) ?_
  refine W2 ?_
  simp
  refine UL (iT := (U.map ZK.row)) (news := (([(nth a0.Zf J)] : List ZK).map ZK.row)) (l1 := [(3, 2)]) (l2 := [(23, 3), (23, 4)]) (size := 5) ?_
  simp
  exact nx2 e1 (hw := Xf [((3, 2), some (25, 0))] [] rfl (by simp [w1]))
 have c2 := sl 2334720 a0.Zf u0
 have f := ms f e1
 exact rtD [.cell 2 128] f
theorem y8 (a0 : Za) (u0 : Sm 2334720 a0) : Sd 161 [a0.row] [a0.row] := by
  have h := AT a0 u0
  rwa [C2] at h
theorem BL (a0 : ZM) (u0 : Sm 2330624 a0) : Sd 96 [a0.row] [(M9 a0).row] := by
 have f := me (M9.eq_1 a0)
 refine soD func96 ntmps96 ?_
 refine cDs [true, false, false] (NR a0.Doc (sg (ZM.kp u0))) ?_
 refine cDs [] (y8 a0.ZJ (sg (ZM.Jo u0))) ?_
 exact rtD [.cell 2 130] f
theorem J5 (a0 : ZM) (u0 : Sm 2330624 a0) : Sd 96 [a0.row] [a0.row] := by
  have h := BL a0 u0
  rwa [AQ] at h
theorem BW (a0 : ZC) (u0 : Sm 2326528 a0) : Sd 49 [a0.row] [(Py a0).row] := by
 have f := me (Py.eq_1 a0)
 refine soD func49 ntmps49 ?_
 refine lp2 (Un.eq_2 a0) (fun J U => YT 27 [eX 1 (a0.row.map .d), (2, .one (.bptr 2 0), [.box [.d (.int .i64 0), .nil 16]]), (3, .one (.bptr 3 0), [.box [.d (.int .i64 a0.Id), .sref 3 2 0 U.length], .none, .arr true 16 (U.map ZM.row)]), eI 4 (J : Int)]) (fun n1 J U => a0.ZD.length < n1 + J /\ J <= a0.ZD.length /\ U.length <= 0 + 1 * J) (a0.ZD.length + 1) 0 ([] : List ZM) (fun p1 J U e1 j1 => ?_) (h0 := wkS [((3, 2), none)] [])
 refine cF e1 ?_ ?_ <;> intro k2 h1 e1
 ·have i1 := ix h1
  have m2 := ml a0.ZD (k2 10 _ rfl)
  have c1 := sl 2326528 a0.ZD u0
  have w1 := wr J
  refine drJ [24] mixed ?_
  simp [i1, ZB]
  refine rpS ?_
  refine cDs [true, true, true, false, false] (J5 (nth a0.ZD J) (sg (Z7 (ZC.YO u0)))) ?_
  refine W2 ?_
  simp
  refine UL (iT := (U.map ZM.row)) (news := (([(nth a0.ZD J)] : List ZM).map ZM.row)) (l1 := [(3, 2)]) (l2 := [(22, 3), (22, 4), (22, 14), (22, 15)]) (size := 16) ?_
  simp
  exact nx2 e1 (hw := Xf [((3, 2), some (24, 0))] [] rfl (by simp [w1]))
 have c2 := sl 2326528 a0.ZD u0
 have f := ms f e1
 exact rtD [.cell 2 94] f
theorem QH (a0 : ZC) (u0 : Sm 2326528 a0) : Sd 49 [a0.row] [a0.row] := by
  have h := BW a0 u0
  rwa [B1] at h
theorem BC (a0 : ZH) (u0 : Sm 2322432 a0) : Sd 20 [a0.row] [(Px a0).row] := by
 have f := me (Px.eq_1 a0)
 refine soD func20 ntmps20 ?_
 refine FO [0, 1, 2, 3, 4, 5, 6, 7, 8, 9, 10, 11, 12, 13, 14, 15, 16, 17, 18, 21, 22, 23, 24, 19, 20, 25, 26, 27] mixed (by kernel_rfl) (by kernel_rfl) (by kernel_rfl) ?_
 simp
 have c1 := sl 2322432 a0.ZN u0
 have c2 := sl 2322432 a0.Zl u0
 have c3 := sl 2322432 a0.YX u0
 have c4 := sl 2322432 a0.YJ u0
 have c5 := sl 2322432 a0.Z4 u0
 refine cDs [false, false, false] (GH a0.Frame (sg (ZH.Xj u0))) ?_
 refine lp2 (UO.eq_2 a0) (fun J U => YT 50 [eX 1 (a0.row.map .d), (2, .one (.bptr 2 0), [.box [.nil 5, .nil 3, .nil 4, .d (.int .i64 0), .d (.int .i64 0), .nil 7, .nil 1, .nil 2, .nil 1, .nil 1, .d (.int .i64 0), .nil 1]]), (3, .one (.bptr 3 0), [.box [.sref 7 0 0 a0.Frame.Zm.length, .sref 7 1 0 a0.Frame.ZE.length, .sref 7 2 0 a0.Frame.Methods.length, .d (.int .i64 a0.Frame.KZ), .d (.int .i64 a0.Frame.Now), .sref 11 0 0 a0.ZN.length, .sref 15 0 0 a0.Zl.length, .sref 3 8 0 U.length, .sref 19 0 0 a0.YX.length, .sref 23 0 0 a0.YJ.length, .d (.int .i64 a0.Next), .sref 29 0 0 a0.Z4.length], .none, .none, .none, .none, .none, .none, .none, .arr true 2 (U.map ZC.row)]), eI 4 (J : Int), (7, .any, [.arr false 5 (a0.Frame.Zm.map YZ.row), .arr false 3 (a0.Frame.ZE.map ZR.row), .arr false 4 (a0.Frame.Methods.map Zj.row)]), (11, .any, [.arr false 7 (a0.ZN.map Z1.row)]), (15, .any, [.arr false 1 (a0.Zl.map iR)]), (19, .any, [.arr false 1 (a0.YX.map iR)]), (23, .any, [.arr false 1 (a0.YJ.map iR)]), (29, .any, [.arr false 1 (a0.Z4.map iR)])]) (fun n1 J U => a0.ZA.length < n1 + J /\ J <= a0.ZA.length /\ U.length <= 0 + 1 * J) (a0.ZA.length + 1) 0 ([] : List ZC) (fun p1 J U e1 j1 => ?_) (h0 := wkS [((3, 8), none)] [])
 refine cF e1 ?_ ?_ <;> intro k3 h1 e1
 ·have i1 := ix h1
  have m2 := ml a0.ZA (k3 33 _ rfl)
  have c6 := sl 2322432 a0.ZA u0
  have w1 := wr J
  refine drJ [47] mixed ?_
  simp [i1, ZB]
  refine rpS ?_
  refine cDs [] (QH (nth a0.ZA J) (sg (Z7 (ZH.YW u0)))) ?_
  refine W2 ?_
  simp
  refine UL (iT := (U.map ZC.row)) (news := (([(nth a0.ZA J)] : List ZC).map ZC.row)) (l1 := [(3, 8)]) (l2 := [(45, 1)]) (size := 2) ?_
  simp
  exact nx2 e1 (hw := Xf [((3, 8), some (47, 0))] [] rfl (by simp [w1]))
 have c7 := sl 2322432 a0.ZA u0
 have f := ms f e1
 exact rtD [.cell 2 43] f
theorem Ql (a0 : ZH) (u0 : Sm 2322432 a0) : Sd 20 [a0.row] [a0.row] := by
  have h := BC a0 u0
  rwa [C6] at h
theorem Y9 (a0 : Int) (a1 : Int) (a2 : Int) : Sa 97 [rI a0, rI a1, rI a2] [rB (YN a0 a1 a2)] := by
 have f := me (YN.eq_1 a0 a1 a2)
 refine so func97 ntmps97 ?_
 exact rt [.tmp 6] f
theorem E2 (a0 : ZH) (a1 : Int) (u0 : Sm 2318336 a0) : Sd 50 [a0.row, rI a1] [(qy a0 a1).1.row, rB (qy a0 a1).2] := by
 have f := me (qy.eq_1 a0 a1)
 refine soD func50 ntmps50 ?_
 refine cDs [false, false, false, true, true, false, false, true, false, false, true, false] (Ql a0 (sg u0)) ?_
 refine cRs (Y9 a1 0 100) ?_
 refine cFo f ?_ ?_ <;> intro k1 h1 f
 ·have q1 := h1; try simp [YN] at q1
  simp
  exact rtD [.cell 4 43, .tmp 5] f
 have q1 := h1; try simp [YN] at q1
 simp
 exact rtD [.cell 4 43, .tmp 5] f
theorem zh (a0 : List YZ) (a1 : Int) : Sa 98 [rL 5 YZ.row a0, rI a1] [rI (Ye a0 a1)] := by
 have f := me (Ye.eq_1 a0 a1)
 refine so func98 ntmps98 ?_
 refine lp1 (jY.eq_2 a0 a1) (fun J => YT 20 [eL 0 5 a0 YZ.row, eI 1 a1, eI 5 (J : Int)]) (fun n1 J => a0.length < n1 + J /\ J <= a0.length) (a0.length + 1) 0 (fun p1 J e1 j1 => ?_)
 refine cFf e1 ?_ ?_ <;> intro k2 h1 e1
 ·have i1 := ix h1
  have m2 := ml a0 (k2 0 _ rfl)
  have w1 := wr J
  simp [i1, ZB]
  refine rpS ?_
  refine cF e1 ?_ ?_ <;> intro k3 h2 e1
  ·have f := ms f e1
   exact rt [.tmp 4] f
  exact ny1 w1 e1
 have f := ms f e1
 exact rt [.tmp 4] f
theorem jN (a0 : ZH) (a1 : Int) : Sa 99 [a0.row, rI a1] [rB (Qo a0 a1)] := by
 have f := me (Qo.eq_1 a0 a1)
 refine so func99 ntmps99 ?_
 refine cRs (Y9 a1 0 (W ((a0.ZA.length : Int) - 1))) ?_
 exact rt [.tmp 4] f
theorem qo (a0 : List Zj) (a1 : Int) : Sa 108 [rL 4 Zj.row a0, rI a1] [rI (Zg a0 a1)] := by
 have f := me (Zg.eq_1 a0 a1)
 refine so func108 ntmps108 ?_
 refine lp2 (yD.eq_2 a0 a1) (fun J U => YT 54 [eL 0 4 a0 Zj.row, eI 1 a1, eI 5 J, eI 6 (U : Int)]) (fun n1 J U => a0.length < n1 + U /\ U <= a0.length /\ -1 <= J /\ J < (a0.length : Int)) (a0.length + 1) (-1) 0 (fun p1 J U e1 j1 => ?_)
 try dsimp only at j1
 refine cF e1 ?_ ?_ <;> intro k2 h1 e1
 ·have i1 := ix h1
  have m2 := ml a0 (k2 0 _ rfl)
  have w1 := wr U
  refine dIo mixed ?_
  simp [i1, ZB]
  refine rpS ?_
  refine gIf ?_ ?_ <;> intro G
  ·simp [i1, ZB, G]
   refine rpG ?_
   refine gJf G ?_ ?_ <;> intro G
   ·try (simp at G; done)
    all_goals
     simp [i1, ZB, G]
     refine rpG ?_
     refine gK (fun _ => ?_)
     have i2 := ik J.toNat a0
     simp [i2, ZB, G]
     refine rpG ?_
     refine cK e1 ?_ ?_ <;> intro k4 h2 e1
     ·exact ny2 (an w1 G) e1 (hI := by first | omega | (simp at *; omega))
     ·exact ny2 (an w1 G) e1 (hI := by first | omega | (simp at *; omega))
   ·try (simp at G; done)
    all_goals
     refine sGg ?_
     refine cK e1 ?_ ?_ <;> intro k5 h3 e1
     ·exact ny2 (an w1 G) e1 (hI := by first | omega | (simp at *; omega))
     ·exact ny2 (an w1 G) e1 (hI := by first | omega | (simp at *; omega))
  ·refine gJf G ?_ ?_ <;> intro G
   ·try (simp at G; done)
    all_goals
     simp [i1, ZB, G]
     refine rpG ?_
     refine gK (fun _ => ?_)
     have i4 := ik J.toNat a0
     simp [i4, ZB, G]
     refine rpG ?_
     refine cK e1 ?_ ?_ <;> intro k6 h4 e1
     ·simp [G] at h4
     ·simp [G] at h4
   ·try (simp at G; done)
    all_goals
     refine sGg ?_
     refine cK e1 ?_ ?_ <;> intro k7 h5 e1
     ·simp [G] at h5
     ·exact ny2 (an w1 G) e1 (hI := by first | omega | (simp at *; omega))
 have f := ms f e1
 refine cFt f ?_ ?_ <;> intro k8 h6 f
 ·exact rt [.tmp 4] f
 have i6 := ik J.toNat a0
 simp [i6, ZB]
 refine rpS ?_
 exact rt [.tmp 4] f
theorem EL (a0 : ZH) (a1 : Int) : Sa 162 [a0.row, rI a1] [rI (XY a0 a1)] := by
 have f := me (XY.eq_1 a0 a1)
 refine so func162 ntmps162 ?_
 refine lp1 (J3.eq_2 a0 a1) (fun J => YT 22 [eI 1 a1, eX 2 (a0.row.map .d), eI 5 (J : Int)]) (fun n1 J => a0.ZN.length < n1 + J /\ J <= a0.ZN.length) (a0.ZN.length + 1) 0 (fun p1 J e1 j1 => ?_)
 refine cFf e1 ?_ ?_ <;> intro k2 h1 e1
 ·have i1 := ix h1
  have m2 := ml a0.ZN (k2 8 _ rfl)
  have w1 := wr J
  simp [i1, ZB]
  refine rpS ?_
  refine cF e1 ?_ ?_ <;> intro k3 h2 e1
  ·have f := ms f e1
   exact rt [.tmp 4] f
  exact ny1 w1 e1
 have f := ms f e1
 exact rt [.tmp 4] f
theorem S7 (a0 : ZT) : Sa 225 [a0.row] [rB (ze a0)] := by
 have f := me (ze.eq_1 a0)
 refine so func225 ntmps225 ?_
 refine lp1 (yK.eq_2 a0) (fun J => YT 51 [eX 1 (a0.row.map .d), eI 3 (J : Int)]) (fun n1 J => a0.ZU.length < n1 + J /\ J <= a0.ZU.length) (a0.ZU.length + 1) 0 (fun p1 J e1 j1 => ?_)
 refine cFf e1 ?_ ?_ <;> intro k2 h1 e1
 ·have i1 := ix h1
  have m2 := ml a0.ZU (k2 7 _ rfl)
  have w1 := wr J
  simp [i1, ZB]
  refine rpS ?_
  refine cF e1 ?_ ?_ <;> intro k3 h2 e1
  ·have f := ms f e1
   exact rt [.tmp 2] f
  exact ny1 w1 e1
 have f := ms f e1
 refine lp1 (zy.eq_2 a0) (fun iZ => YT 51 [eX 1 (a0.row.map .d), eI 4 (iZ : Int)]) (fun n2 iZ => a0.Zk.length < n2 + iZ /\ iZ <= a0.Zk.length) (a0.Zk.length + 1) 0 (fun p2 iZ e2 j2 => ?_)
 refine cFf e2 ?_ ?_ <;> intro k5 h3 e2
 ·have i2 := ix h3
  have m4 := ml a0.Zk (k5 21 _ rfl)
  have w2 := wr iZ
  simp [i2, ZB]
  refine rpS ?_
  refine cRs (Y9 (nth a0.Zk iZ) 1 1000000000000) ?_
  refine cFo e2 ?_ ?_ <;> intro k6 h4 e2
  ·have q4 := h4; try simp [YN] at q4
   have f := ms f e2
   simp
   exact rt [.tmp 2] f
  have q4 := h4; try simp [YN] at q4
  simp
  exact ny1 w2 e2
 have f := ms f e2
 refine cRs (Y9 a0.qn 0 999) ?_
 refine cGs (fun gg => (Y9 (a0.ZU.length : Int) 1 6)) ?_
 exact rt [.tmp 2] f
theorem pF (a0 : Int) (a1 : Int) : Sa 284 [rI a0, rI a1] [rI (w8 a0 a1)] := by
 have f := me (w8.eq_1 a0 a1)
 refine so func284 ntmps284 ?_
 refine cRs (Y9 a1 1 1000000000000) ?_
 refine cFo f ?_ ?_ <;> intro k1 h1 f
 ·have q1 := h1; try simp [YN] at q1
  simp
  exact rt [.tmp 4] f
 have q1 := h1; try simp [YN] at q1
 simp
 refine rpS ?_
 exact rt [.tmp 4] f
theorem Cu (a0 : List Int) : Sa 265 [rL 1 iR a0] [rI (Ms a0)] := by
 have f := me (Ms.eq_1 a0)
 refine so func265 ntmps265 ?_
 refine lp2 (Rr.eq_2 a0) (fun J U => YT 22 [eL 0 1 a0 iR, eI 3 J, eI 4 (U : Int)]) (fun n1 J U => a0.length < n1 + U /\ U <= a0.length) (a0.length + 1) 11 0 (fun p1 J U e1 j1 => ?_)
 refine cFf e1 ?_ ?_ <;> intro k2 h1 e1
 ·have i1 := ix h1
  have m2 := ml a0 (k2 0 _ rfl)
  have w1 := wr U
  simp [i1, ZB]
  refine rpS ?_
  refine cRs (pF (nth a0 U) 2147483647) ?_
  exact ny2 w1 e1
 have f := ms f e1
 exact rt [.tmp 2] f
theorem Kt (a0 : Int) (a1 : List Int) (u0 : Sm 68719476736 a1) : Sa 227 [rI a0, rL 1 iR a1] [rI (KX a0 a1)] := by
 have f := me (KX.eq_1 a0 a1)
 have c1 := sl 68719476736 a1 u0
 refine so func227 ntmps227 ?_
 refine cRs (Cu (([7, a0] : List Int) ++ a1)) ?_
 exact rt [.tmp 4] f
theorem IP (a0 : Int) (a1 : ByteArray) (a2 : Int) (u0 : Sm 2326528 a1) : Sa 226 [rI a0, rS a1, rI a2] [rI (jl a0 a1 a2)] := by
 have f := me (jl.eq_1 a0 a1 a2)
 refine so func226 ntmps226 ?_
 refine lp2 (xm.eq_2 a1) (fun J U => YT 27 [eI 0 a0, (1, .one (.d (.str a1)), []), (7, .one (.sref 7 0 0 J.length), [.arr false 1 (J.map iR)]), eI 8 (U : Int)]) (fun n1 J U => a1.size < n1 + U /\ U <= a1.size /\ J.length <= 1 + 1 * U) (a1.size + 1) ([a2] : List Int) 0 (fun p1 J U e1 j1 => ?_) (h0 := wkS [((7, 0), some (10, 0))] [])
 refine cFo e1 ?_ ?_ <;> intro k2 h1 e1
 ·have q1 := h1; try simp at q1
  have c1 : a1.size <= 2326528 := Bu (xs u0)
  have w1 := wr U
  simp
  refine rpS ?_
  exact nx2 e1 (hw := Xf [((7, 0), some (23, 0))] [] rfl (by simp [w1]))
 have q1 := h1; try simp at q1
 have c2 : a1.size <= 2326528 := Bu (xs u0)
 have f := ms f e1
 simp
 refine cRs (Kt a0 J (by first | (simp (maxDischargeDepth := 12) [XC]; omega) | (simp (maxDischargeDepth := 12) [ZZ (m := 68719476736) (by decide) u0]; done))) ?_
 exact rt [.tmp 6] f
theorem Vx (a0 : Int) (a1 : ZT) (u0 : Sm 2322432 a1) : Sa 164 [rI a0, a1.row] [rI (Qr a0 a1)] := by
 have f := me (Qr.eq_1 a0 a1)
 refine so func164 ntmps164 ?_
 refine cRs (S7 a1) ?_
 refine cF f ?_ ?_ <;> intro k1 h1 f
 ·exact rt [.tmp 4] f
 refine lp2 (qe.eq_2 a0 a1) (fun J U => YT 38 [eI 0 a0, eX 3 (a1.row.map .d), (5, .one (.sref 5 0 0 J.length), [.arr false 1 (J.map iR)]), eI 6 (U : Int)]) (fun n1 J U => a1.ZU.length < n1 + U /\ U <= a1.ZU.length /\ J.length <= 1 + 1 * U) (a1.ZU.length + 1) ([a1.qn] : List Int) 0 (fun p1 J U e1 j1 => ?_) (h0 := wkS [((5, 0), some (12, 0))] [])
 try dsimp only at j1
 refine cF e1 ?_ ?_ <;> intro k3 h2 e1
 ·have i1 := ix h2
  have m2 := ml a1.ZU (k3 15 _ rfl)
  have c1 := sl 2322432 a1.ZU u0
  have w1 := wr U
  refine dIo mixed ?_
  have i2 : U < a1.Zk.length := by (have := M3 (a := a1); first | (simp_all; done) | (simp_all; omega))
  simp [i1, ZB, i2]
  refine rpS ?_
  refine cRs (IP a0 (nth a1.ZU U) (nth a1.Zk U) (sg (Z7 (ZT.NZ u0)))) ?_
  exact nx2 e1 (hw := Xf [((5, 0), some (34, 0))] [] rfl (by simp [w1]))
 have c2 := sl 2322432 a1.ZU u0
 have f := ms f e1
 refine cRs (Kt a0 J (by first | (simp (maxDischargeDepth := 12) [XC]; omega) | (simp (maxDischargeDepth := 12) [ZZ (m := 68719476736) (by decide) u0]; done))) ?_
 exact rt [.tmp 4] f
theorem Mu (a0 : Zc) : Sa 223 [a0.row] [rB (qc a0)] := by
 have f := me (qc.eq_1 a0)
 refine so func223 ntmps223 ?_
 refine cRs (Y9 a0.Key 1 99) ?_
 refine cGs (fun gg => (Y9 a0.Zi 1 999)) ?_
 refine cGs (fun gg => (Y9 a0.Method 0 99)) ?_
 refine cGs (fun gg => (Y9 a0.Org 0 99)) ?_
 refine cGs (fun gg => (Y9 a0.qX 1 3)) ?_
 refine cGs (fun gg => (Y9 a0.Xa 0 1000000000000)) ?_
 refine cGs (fun gg => (Y9 a0.qW 0 1000000000000)) ?_
 refine cGs (fun gg => (Y9 a0.Wy 0 1000000000000)) ?_
 exact rt [.tmp 2] f
theorem UC (a0 : Zc) : Sd 224 [a0.row] [rL 1 iR (Qe a0)] := by
 have f := me (Qe.eq_1 a0)
 refine soD func224 ntmps224 ?_
 exact rtD [.tmp 2] f
theorem G7 (a0 : Int) (a1 : List Int) (u0 : Sm 2330624 a1) : Sa 230 [rI a0, rL 1 iR a1] [rI (WT a0 a1)] := by
 have f := me (WT.eq_1 a0 a1)
 have c1 := sl 2330624 a1 u0
 refine so func230 ntmps230 ?_
 refine cRs (Cu ((([a0] : List Int) ++ a1) ++ ([a0] : List Int))) ?_
 exact rt [.tmp 4] f
theorem TE (a0 : YZ) (a1 : List Int) (u0 : Sm 2326528 a1) : Sa 171 [a0.row, rL 1 iR a1] [rI (jB a0 a1)] := by
 have f := me (jB.eq_1 a0 a1)
 refine so func171 ntmps171 ?_
 refine FO [2, 3, 4, 5, 6, 0, 1, 7, 8] mixed (by kernel_rfl) (by kernel_rfl) (by kernel_rfl) ?_
 have c1 := sl 2326528 a1 u0
 simp
 refine rpS ?_
 refine cRs (G7 a0.V8 (([a0.Method] : List Int) ++ a1) (by simp (maxDischargeDepth := 12) [zN, XC, ZZ (m := 2330624) (by decide) u0]; try omega)) ?_
 exact rt [.tmp 4] f
theorem HM (a0 : List YZ) (a1 : Zc) (u0 : Sm 2322432 a0) : Sa 163 [rL 5 YZ.row a0, a1.row] [(Kg a0 a1).1.row, rB (Kg a0 a1).2] := by
 have f := me (Kg.eq_1 a0 a1)
 refine so func163 ntmps163 ?_
 refine cRs (zh a0 a1.Key) ?_
 refine cRs (Mu a1) ?_
 refine cF f ?_ ?_ <;> intro k1 h1 f
 ·exact rt [.cell 4 124, .tmp 5] f
 refine dIo mixed ?_
 have i1 : (Ye a0 a1.Key).toNat < a0.length := by have := Kc a0 a1.Key; exact il
 simp [i1, ZB]
 refine rpS ?_
 refine cRs (Yv.rd (UC a1)) ?_
 refine cRs (TE (nth a0 (Ye a0 a1.Key).toNat) (Qe a1) (by simp (maxDischargeDepth := 12) [Vi, ZZ (m := 2326528) (by decide) u0]; try omega)) ?_
 exact rt [.cell 4 124, .tmp 5] f
theorem Pd (a0 : Zc) : Sd 165 [a0.row] [(yT a0).row] := by
 have f := me (yT.eq_1 a0)
 refine soD func165 ntmps165 ?_
 refine dIs mixed ?_
 refine cDs [false] (UC a0) ?_
 exact rtD [.cell 2 145] f
theorem Ew (a0 : Z1) : Sd 228 [a0.row] [rL 1 iR (xj a0)] := by
 have f := me (xj.eq_1 a0)
 refine soD func228 ntmps228 ?_
 exact rtD [.tmp 2] f
theorem FE (a0 : Z1) : Sd 166 [a0.row] [(jd a0).row] := by
 have f := me (jd.eq_1 a0)
 refine soD func166 ntmps166 ?_
 refine dIs mixed ?_
 refine cDs [false] (Ew a0) ?_
 exact rtD [.cell 2 145] f
theorem MI (a0 : ZH) (a1 : Int) (a2 : ZT) (a3 : Int) (a4 : Int) (u0 : Sm 2318336 a0) (u1 : Sm 2318336 a2) : So 100 [a0.row, rI a1, a2.row, rI a3, rI a4] [(Xv a0 a1 a2 a3 a4).1.row, rB (Xv a0 a1 a2 a3 a4).2] := by
 have f := me (Xv.eq_1 a0 a1 a2 a3 a4)
 refine so func100 ntmps100 ?_
 refine cRs (qo a0.Frame.Methods a0.Frame.Now) ?_
 refine cRs (EL a0 a1) ?_
 refine cF f ?_ ?_ <;> intro k1 h1 f
 ·exact rtO [.cell 10 130, .tmp 11] f
 refine dIo mixed ?_
 have i1 : (XY a0 a1).toNat < a0.ZN.length := by have := FY a0 a1; exact il
 simp [i1, ZB]
 refine rpS ?_
 refine cRs (Vx (Zg a0.Frame.Methods a0.Frame.Now) a2 (sg u1)) ?_
 refine cRs (HM a0.Frame.Zm (Zc.mk a1 (nth a0.ZN (XY a0 a1).toNat).Zi (Zg a0.Frame.Methods a0.Frame.Now) (Qr (Zg a0.Frame.Methods a0.Frame.Now) a2) 1 a3 0 0 0) (sg (Zq.xw (ZH.Xj u0)))) ?_
 refine dIs mixed ?_
 refine cDs [true, false, false] (NR a2 (sg u1)) ?_
 refine cRf i1 (Yv.rd (Pd (Kg a0.Frame.Zm (Zc.mk a1 (nth a0.ZN (XY a0 a1).toNat).Zi (Zg a0.Frame.Methods a0.Frame.Now) (Qr (Zg a0.Frame.Methods a0.Frame.Now) a2) 1 a3 0 0 0)).1)) ?_
 refine cRs (Yv.rd (FE (nth a0.ZN (XY a0 a1).toNat))) ?_
 refine eIs ?_
 exact rtO [.cell 10 130, .tmp 11] f
theorem PH (a0 : Int) : Sa 175 [rI a0] [rB (Ti a0)] := by
 have f := me (Ti.eq_1 a0)
 refine so func175 ntmps175 ?_
 refine cRs (Y9 a0 0 10000) ?_
 exact rt [.tmp 2] f
theorem GD (a0 : List Int) (a1 : List Int) : Sa 285 [rL 1 iR a0, rL 1 iR a1] [rB (UQ a0 a1)] := by
 have f := me (UQ.eq_1 a0 a1)
 refine so func285 ntmps285 ?_
 refine cF f ?_ ?_ <;> intro k1 h1 f
 ·exact rt [.tmp 4] f
 refine lp1 (WG.eq_2 a0 a1) (fun J => YT 26 [eL 0 1 a0 iR, eL 1 1 a1 iR, eI 5 (J : Int)]) (fun n1 J => a0.length < n1 + J /\ J <= a0.length) (a0.length + 1) 0 (fun p1 J e1 j1 => ?_)
 refine cF e1 ?_ ?_ <;> intro k3 h2 e1
 ·have i1 := ix h2
  have m2 := ml a0 (k3 0 _ rfl)
  have w1 := wr J
  refine dIo mixed ?_
  have i2 := ik J a1
  simp [i1, ZB, i2]
  refine rpS ?_
  refine cF e1 ?_ ?_ <;> intro k5 h3 e1
  ·have f := ms f e1
   exact rt [.tmp 4] f
  exact ny1 w1 e1
 have f := ms f e1
 exact rt [.tmp 4] f
theorem Tx (a0 : ZO) (a1 : ZO) : Sa 266 [a0.row, a1.row] [rB (y6 a0 a1)] := by
 have f := me (y6.eq_1 a0 a1)
 refine so func266 ntmps266 ?_
 refine cGs (fun gg => (GD a0.Ys a1.Ys)) ?_
 exact rt [.tmp 4] f
theorem Fk (a0 : Za) (a1 : ZO) : Sa 238 [a0.row, a1.row] [rI (jc a0 a1)] := by
 have f := me (jc.eq_1 a0 a1)
 refine so func238 ntmps238 ?_
 refine lp1 (WN.eq_2 a0 a1) (fun J => YT 21 [eX 2 (a0.row.map .d), eX 3 (a1.row.map .d), eI 5 (J : Int)]) (fun n1 J => a0.ZL.length < n1 + J /\ J <= a0.ZL.length) (a0.ZL.length + 1) 0 (fun p1 J e1 j1 => ?_)
 refine cF e1 ?_ ?_ <;> intro k2 h1 e1
 ·have i1 := ix h1
  have m2 := ml a0.ZL (k2 8 _ rfl)
  have w1 := wr J
  refine dIo mixed ?_
  simp [i1, ZB]
  refine rpS ?_
  refine cRs (Tx (nth a0.ZL J) a1) ?_
  refine cF e1 ?_ ?_ <;> intro k4 h2 e1
  ·have f := ms f e1
   exact rt [.tmp 4] f
  exact ny1 w1 e1
 have f := ms f e1
 exact rt [.tmp 4] f
theorem TB (a0 : Za) : Sa 185 [a0.row] [rB (yj a0)] := by
 have f := me (yj.eq_1 a0)
 refine so func185 ntmps185 ?_
 refine lp1 (qD.eq_2 a0) (fun J => YT 69 [eX 1 (a0.row.map .d), eI 3 (J : Int)]) (fun n1 J => a0.ZL.length < n1 + J /\ J <= a0.ZL.length) (a0.ZL.length + 1) 0 (fun p1 J e1 j1 => ?_)
 refine cF e1 ?_ ?_ <;> intro k2 h1 e1
 ·have i1 := ix h1
  have m2 := ml a0.ZL (k2 7 _ rfl)
  have w1 := wr J
  refine dIo mixed ?_
  simp [i1, ZB]
  refine rpS ?_
  refine cRs (Fk a0 (nth a0.ZL J)) ?_
  refine cF e1 ?_ ?_ <;> intro k4 h2 e1
  ·have f := ms f e1
   exact rt [.tmp 2] f
  exact ny1 w1 e1
 have f := ms f e1
 refine lp1 (qC.eq_2 a0) (fun iZ => YT 69 [eX 1 (a0.row.map .d), eI 4 (iZ : Int)]) (fun n2 iZ => a0.Zf.length < n2 + iZ /\ iZ <= a0.Zf.length) (a0.Zf.length + 1) 0 (fun p2 iZ e2 j2 => ?_)
 refine cF e2 ?_ ?_ <;> intro k6 h3 e2
 ·have i2 := ix h3
  have m4 := ml a0.Zf (k6 23 _ rfl)
  have w2 := wr iZ
  refine dIo mixed ?_
  simp [i2, ZB]
  refine rpS ?_
  refine cRs (Y9 (nth a0.Zf iZ).Count 1 (a0.ZL.length : Int)) ?_
  refine gIf ?_ ?_ <;> intro G
  ·have i3 := ik (iZ - 1) a0.Zf
   have w3 : IntKind.i64.wrap ((iZ : Int) - 1) = (iZ : Int) - 1 := YG (by omega) (by omega)
   simp [i3, ZB, w3, jA, G]
   refine rpG ?_
   refine gK (fun _ => ?_)
   simp [i2, ZB, G]
   refine rpG ?_
   refine cKo e2 ?_ ?_ <;> intro k8 h4 e2
   ·have q4 := h4; try simp [YN] at q4
    have f := ms f e2
    simp [G]
    refine rpG ?_
    exact rtg [.tmp 2] f
   ·have q4 := h4; try simp [YN] at q4
    simp [G]
    refine rpG ?_
    exact ny1 (an w2 (an w3 G)) e2
  ·refine sGg ?_
   refine cKo e2 ?_ ?_ <;> intro k9 h5 e2
   ·have q5 := h5; try simp [YN] at q5
    have f := ms f e2
    simp [G]
    refine rpG ?_
    exact rtg [.tmp 2] f
   ·have q5 := h5; try simp [YN] at q5
    simp [G]
    refine rpG ?_
    exact ny1 (an w2 G) e2
 have f := ms f e2
 refine cRs (Y9 (a0.ZL.length : Int) 1 12) ?_
 exact rt [.tmp 2] f
theorem L3 (a0 : ZM) : Sa 229 [a0.row] [rB (Tj a0)] := by
 have f := me (Tj.eq_1 a0)
 refine so func229 ntmps229 ?_
 refine dIs mixed ?_
 refine cRs (Y9 a0.Id 1 999) ?_
 refine cGs (fun gg => (PH a0.XB)) ?_
 refine cGs (fun gg => (S7 a0.Doc)) ?_
 refine cGs (fun gg => (TB a0.ZJ)) ?_
 refine gIf ?_ ?_ <;> intro G
 ·have fr := G
  have g1 := G; try simp [YN] at g1
  have i1 : 0 < a0.ZJ.ZL.length := by have := GY (a := a0.ZJ); simp_all
  simp [i1, ZB, G]
  refine rpG ?_
  refine cGg (fun gg => Yv.rd (Pd a0.Sig)) ?_
  refine cGg (fun gg => (Tx (nth a0.ZJ.ZL 0) (yT a0.Sig))) ?_
  exact rtg [.tmp 2] f
 ·have fr := G
  refine sGo ?_
  simp [G]
  refine rpG ?_
  refine sGo ?_
  simp [G]
  refine rpG ?_
  exact rtg [.tmp 2] f
theorem xa (a0 : ZC) : Sa 167 [a0.row] [rB (JP a0)] := by
 have f := me (JP.eq_1 a0)
 refine so func167 ntmps167 ?_
 refine lp1 (qg.eq_2 a0) (fun J => YT 47 [eX 1 (a0.row.map .d), eI 3 (J : Int)]) (fun n1 J => a0.ZD.length < n1 + J /\ J <= a0.ZD.length) (a0.ZD.length + 1) 0 (fun p1 J e1 j1 => ?_)
 refine cF e1 ?_ ?_ <;> intro k2 h1 e1
 ·have i1 := ix h1
  have m2 := ml a0.ZD (k2 6 _ rfl)
  have w1 := wr J
  refine dIo mixed ?_
  simp [i1, ZB]
  refine rpS ?_
  refine cRs (L3 (nth a0.ZD J)) ?_
  refine gIf ?_ ?_ <;> intro G
  ·have i2 := ik (J - 1) a0.ZD
   have w2 : IntKind.i64.wrap ((J : Int) - 1) = (J : Int) - 1 := YG (by omega) (by omega)
   simp [i2, ZB, w2, jA, G]
   refine rpG ?_
   refine gK (fun _ => ?_)
   simp [i1, ZB, G]
   refine rpG ?_
   refine cK e1 ?_ ?_ <;> intro k4 h2 e1
   ·have f := ms f e1
    exact rtg [.tmp 2] f
   ·exact ny1 (an w1 (an w2 G)) e1
  ·refine sGg ?_
   refine cK e1 ?_ ?_ <;> intro k5 h3 e1
   ·have f := ms f e1
    exact rtg [.tmp 2] f
   ·exact ny1 (an w1 G) e1
 have f := ms f e1
 refine cRs (Y9 a0.Id 0 99) ?_
 exact rt [.tmp 2] f
theorem ql (a0 : ZC) (a1 : Int) : Sa 168 [a0.row, rI a1] [rI (Yj a0 a1)] := by
 have f := me (Yj.eq_1 a0 a1)
 refine so func168 ntmps168 ?_
 refine lp1 (qI.eq_2 a0 a1) (fun J => YT 22 [eI 1 a1, eX 2 (a0.row.map .d), eI 5 (J : Int)]) (fun n1 J => a0.ZD.length < n1 + J /\ J <= a0.ZD.length) (a0.ZD.length + 1) 0 (fun p1 J e1 j1 => ?_)
 refine cFf e1 ?_ ?_ <;> intro k2 h1 e1
 ·have i1 := ix h1
  have m2 := ml a0.ZD (k2 8 _ rfl)
  have w1 := wr J
  simp [i1, ZB]
  refine rpS ?_
  refine cF e1 ?_ ?_ <;> intro k3 h2 e1
  ·have f := ms f e1
   exact rt [.tmp 4] f
  exact ny1 w1 e1
 have f := ms f e1
 exact rt [.tmp 4] f
theorem Sc (a0 : ZC) (a1 : ZM) (u0 : Sm 2318336 a0) (u1 : Sm 2318336 a1) : Sd 101 [a0.row, a1.row] [(Q0 a0 a1).1.row, rB (Q0 a0 a1).2] := by
 have f := me (Q0.eq_1 a0 a1)
 refine soD func101 ntmps101 ?_
 refine cRs (xa a0) ?_
 refine cGs (fun gg => (ql a0 a1.Id)) ?_
 refine cF f ?_ ?_ <;> intro k1 h1 f
 ·refine cDs [] (QH a0 (sg u0)) ?_
  exact rtD [.cell 4 94, .tmp 5] f
 refine lp3 (QZ.eq_2 a0 a1) (fun J U iQ => YT 77 [eX 2 (a0.row.map .d), eX 3 (a1.row.map .d), (4, .one (.bptr 4 0), [.box [.d (.int .i64 0), .nil 16]]), (6, .one (.bptr 6 0), [.box [.d (.int .i64 a0.Id), .sref 6 2 0 iQ.length], .none, .arr true 16 (iQ.map ZM.row)]), eB 7 J, eI 8 (U : Int)]) (fun n1 J U iQ => a0.ZD.length < n1 + U /\ U <= a0.ZD.length /\ iQ.length <= 0 + 2 * U) (a0.ZD.length + 1) false 0 ([] : List ZM) (fun p1 J U iQ e1 j1 => ?_) (h0 := wkS [((6, 2), none)] [])
 refine cF e1 ?_ ?_ <;> intro k3 h2 e1
 ·have i1 := ix h2
  have m2 := ml a0.ZD (k3 26 _ rfl)
  have c1 := sl 2318336 a0.ZD (an u0 u1)
  have w1 := wr U
  refine dIs mixed ?_
  refine gIf ?_ ?_ <;> intro G
  ·simp [i1, ZB, G]
   refine rpG ?_
   refine cK e1 ?_ ?_ <;> intro k5 h3 e1
   ·refine drJ [49] mixed ?_
    simp
    refine cDg [true, true, true, false, false] (J5 a1 (sg u1)) ?_
    refine W2 ?_
    simp [G]
    refine rpG ?_
    refine UL (iT := (iQ.map ZM.row)) (news := (([a1] : List ZM).map ZM.row)) (l1 := [(6, 2)]) (l2 := [(47, 3), (47, 4), (47, 14), (47, 15)]) (size := 16) ?_
    simp [G]
    refine rpG ?_
    refine drJ [60] mixed ?_
    simp [i1, ZB, G]
    refine rpG ?_
    refine cDg [true, true, true, false, false] (J5 (nth a0.ZD U) (sg (Z7 (ZC.YO u0)))) ?_
    refine W2 ?_
    simp [G]
    refine rpG ?_
    refine UL (iT := ((iQ ++ ([a1] : List ZM)).map ZM.row)) (news := (([(nth a0.ZD U)] : List ZM).map ZM.row)) (l1 := [(49, 0)]) (l2 := [(58, 3), (58, 4), (58, 14), (58, 15)]) (size := 16) ?_
    simp [G]
    refine rpG ?_
    exact nx3 e1 (hw := Xf [((6, 2), some (60, 0))] [] rfl (by simp [w1, G]))
   ·refine drJ [60] mixed ?_
    simp [i1, ZB, G]
    refine rpG ?_
    refine cDg [true, true, true, false, false] (J5 (nth a0.ZD U) (sg (Z7 (ZC.YO u0)))) ?_
    refine W2 ?_
    simp [G]
    refine rpG ?_
    refine UL (iT := (iQ.map ZM.row)) (news := (([(nth a0.ZD U)] : List ZM).map ZM.row)) (l1 := [(6, 2)]) (l2 := [(58, 3), (58, 4), (58, 14), (58, 15)]) (size := 16) ?_
    simp [G]
    refine rpG ?_
    exact nx3 e1 (hw := Xf [((6, 2), some (60, 0))] [] rfl (by simp [w1, G]))
  ·refine cK e1 ?_ ?_ <;> intro k9 h4 e1
   ·simp [G] at h4
   ·refine drJ [60] mixed ?_
    simp [i1, ZB, G]
    refine rpG ?_
    refine cDg [true, true, true, false, false] (J5 (nth a0.ZD U) (sg (Z7 (ZC.YO u0)))) ?_
    refine W2 ?_
    simp [G]
    refine rpG ?_
    refine UL (iT := (iQ.map ZM.row)) (news := (([(nth a0.ZD U)] : List ZM).map ZM.row)) (l1 := [(6, 2)]) (l2 := [(58, 3), (58, 4), (58, 14), (58, 15)]) (size := 16) ?_
    simp [G]
    refine rpG ?_
    exact nx3 e1 (hw := Xf [((6, 2), some (60, 0))] [] rfl (by simp [w1, G]))
 have c2 := sl 2318336 a0.ZD (an u0 u1)
 have f := ms f e1
 refine cF f ?_ ?_ <;> intro k13 h5 f
 ·refine okD fun k14 => ?_
  refine drJ [69] mixed ?_
  simp
  refine cDs [true, true, true, false, false] (J5 a1 (sg u1)) ?_
  refine W2 ?_
  simp
  refine UL (iT := (iQ.map ZM.row)) (news := (([a1] : List ZM).map ZM.row)) (l1 := [(6, 2)]) (l2 := [(67, 3), (67, 4), (67, 14), (67, 15)]) (size := 16) ?_
  simp
  refine cRs (xa (ZC.mk a0.Id (iQ ++ ([a1] : List ZM)))) ?_
  refine cF f ?_ ?_ <;> intro k15 h6 f
  ·refine cDs [] (QH a0 (sg u0)) ?_
   exact rtD [.cell 4 94, .tmp 5] f
  exact rtD [.cell 4 94, .tmp 5] f
 refine cRs (xa (ZC.mk a0.Id iQ)) ?_
 refine cF f ?_ ?_ <;> intro k16 h7 f
 ·refine cDs [] (QH a0 (sg u0)) ?_
  exact rtD [.cell 4 94, .tmp 5] f
 exact rtD [.cell 4 94, .tmp 5] f
theorem Em (a0 : ZH) (a1 : Int) (a2 : Int) (a3 : ZT) (a4 : Int) (a5 : Int) (u0 : Sm 2314240 a0) (u1 : Sm 2314240 a3) : Sd 51 [a0.row, rI a1, rI a2, a3.row, rI a4, rI a5] [(jM a0 a1 a2 a3 a4 a5).1.row, rB (jM a0 a1 a2 a3 a4 a5).2] := by
 have f := me (jM.eq_1 a0 a1 a2 a3 a4 a5)
 refine soD func51 ntmps51 ?_
 refine cDs [false, false, false, true, true, false, false, true, false, false, true, false] (Ql a0 (sg u0)) ?_
 refine cRs (zh a0.Frame.Zm a2) ?_
 refine dIs mixed ?_
 refine cRs (jN a0 a1) ?_
 refine gIf ?_ ?_ <;> intro G
 ·have c1 := sl 2314240 a0.ZA (an u0 u1)
  have w1 : IntKind.i64.wrap ((a0.ZA.length : Int) - 1) = (a0.ZA.length : Int) - 1 := YG (by omega) (by omega)
  have g1 := G; try simp [w1, Qo, YN] at g1
  have i1 : (Ye a0.Frame.Zm a2).toNat < a0.Frame.Zm.length := by have := Kc a0.Frame.Zm a2; exact il
  simp [i1, ZB, G]
  refine rpG ?_
  refine cKo f ?_ ?_ <;> intro k2 h1 f
  ·have q1 := h1; try simp [w1, Qo, YN] at q1
   simp [G]
   refine rpG ?_
   exact zx [.cell 12 43, .tmp 13] f
  ·have q1 := h1; try simp [w1, Qo, YN] at q1
   simp [G]
   refine rpG ?_
   refine cRg (MI a0 a2 a3 a4 a5 (sg u0) (sg u1)) ?_
   refine cK f ?_ ?_ <;> intro k3 h2 f
   ·exact zx [.cell 12 43, .tmp 13] f
   ·refine dIo mixed ?_
    have i2 := ik a1.toNat a0.ZA
    simp [i2, ZB, G]
    refine rpG ?_
    refine cDg [] (Sc (nth a0.ZA a1.toNat) (Xv a0 a2 a3 a4 a5).1 (by first | (exact ZZ (n := 2314240) (by decide) (xs (an u0 u1))) | (exact ZZ (n := 2314240) (by decide) (VF (xs (an u0 u1)) (by decide)))) (by first | (exact ZZ (n := 2314240) (by decide) (xs (an u0 u1))) | (exact ZZ (n := 2314240) (by decide) (VF (xs (an u0 u1)) (by decide))))) ?_
    refine cKt f ?_ ?_ <;> intro k5 h3 f
    ·exact zx [.cell 12 43, .tmp 13] f
    ·simp [i2, ZB, G]
     refine rpG ?_
     refine SE (t := 21) (j := 7) (i := a1.toNat) (size := 2) (rows := (a0.ZA.map ZC.row)) (ds := (Q0 (nth a0.ZA a1.toNat) (Xv a0 a2 a3 a4 a5).1).1.row) (L := [(68, 1)]) ?_
     simp [YL (x := (Q0 (nth a0.ZA a1.toNat) (Xv a0 a2 a3 a4 a5).1).1) rfl, c1, i2, ZB, Zd, G]
     refine rpG ?_
     exact zx [.cell 12 43, .tmp 13] f
 ·have c2 := sl 2314240 a0.ZA (an u0 u1)
  have w2 : IntKind.i64.wrap ((a0.ZA.length : Int) - 1) = (a0.ZA.length : Int) - 1 := YG (by omega) (by omega)
  refine cKo f ?_ ?_ <;> intro k6 h4 f
  ·have q4 := h4; try simp [w2, Qo, YN] at q4
   simp [G]
   refine rpG ?_
   exact zx [.cell 12 43, .tmp 13] f
  ·simp [G] at h4
theorem Pf (a0 : ZH) (a1 : Int) : Sa 102 [a0.row, rI a1] [rI (ZF a0 a1).1, rI (ZF a0 a1).2] := by
 have f := me (ZF.eq_1 a0 a1)
 refine so func102 ntmps102 ?_
 refine lp1 (xS.eq_2 a0 a1) (fun J => YT 26 [eI 1 a1, eX 2 (a0.row.map .d), eI 6 (J : Int)]) (fun n1 J => a0.ZA.length < n1 + J /\ J <= a0.ZA.length) (a0.ZA.length + 1) 0 (fun p1 J e1 j1 => ?_)
 refine cFf e1 ?_ ?_ <;> intro k2 h1 e1
 ·have i1 := ix h1
  have m2 := ml a0.ZA (k2 10 _ rfl)
  have w1 := wr J
  simp [i1, ZB]
  refine rpS ?_
  refine cRs (ql (nth a0.ZA J) a1) ?_
  refine cF e1 ?_ ?_ <;> intro k3 h2 e1
  ·have f := ms f e1
   exact rt [.tmp 4, .tmp 5] f
  exact ny1 w1 e1
 have f := ms f e1
 exact rt [.tmp 4, .tmp 5] f
theorem LZ (a0 : ZO) : Sa 169 [a0.row] [rI (Qj a0)] := by
 have f := me (Qj.eq_1 a0)
 refine so func169 ntmps169 ?_
 refine gIf ?_ ?_ <;> intro G
 ·have i1 := ik 0 a0.Ys
  simp [i1, ZB, G]
  refine rpG ?_
  refine cGg (fun gg => (Y9 (nth a0.Ys 0) 101 105)) ?_
  refine cKo f ?_ ?_ <;> intro k1 h1 f
  ·have q1 := h1; try simp [YN] at q1
   simp [G]
   refine rpG ?_
   exact rtg [.tmp 2] f
  ·have q1 := h1; try simp [YN] at q1
   simp [G]
   refine rpG ?_
   refine dIo mixed ?_
   have i2 := ik (W ((nth a0.Ys 0) - 101)).toNat ([7, 5, 5, 9, 6] : List Int)
   have r1 := ZB (f := iR) i2; try simp at r1
   simp [i1, ZB, i2, r1, G]
   refine rpG ?_
   refine cKt f ?_ ?_ <;> intro k3 h2 f
   ·exact rtg [.tmp 2] f
   ·simp [i1, ZB, G]
    refine rpG ?_
    exact rtg [.tmp 2] f
 ·refine sGo ?_
  simp [G]
  refine rpG ?_
  refine cKo f ?_ ?_ <;> intro k4 h3 f
  ·have q3 := h3; try simp [YN] at q3
   simp [G]
   refine rpG ?_
   exact rtg [.tmp 2] f
  ·simp [G] at h3
theorem PK (a0 : ZO) : Sa 103 [a0.row] [(Zb a0).1.row, rB (Zb a0).2] := by
 have f := me (Zb.eq_1 a0)
 refine so func103 ntmps103 ?_
 refine dIs mixed ?_
 refine cRs (LZ a0) ?_
 refine gIf ?_ ?_ <;> intro G
 ·have fr := G
  have g1 := G; try simp at g1
  have i1 : 6 < a0.Ys.length := by (have z := KS a0; simp_all; done)
  simp [i1, ZB, G]
  refine rpG ?_
  refine cK f ?_ ?_ <;> intro k2 h1 f
  ·exact rtg [.cell 2 106, .tmp 3] f
  ·refine dIo mixed ?_
   have i2 : 1 < a0.Ys.length := by (have z := KS a0; simp_all; done)
   have i3 : 2 < a0.Ys.length := by (have z := KS a0; simp_all; done)
   have i4 : 3 < a0.Ys.length := by (have z := KS a0; simp_all; done)
   have i5 : 4 < a0.Ys.length := by (have z := KS a0; simp_all; done)
   have i6 : 5 < a0.Ys.length := by (have z := KS a0; simp_all; done)
   simp [i2, ZB, i3, i4, i5, i6, i1, G]
   refine rpG ?_
   exact rtg [.cell 2 106, .tmp 3] f
 ·have fr := G
  refine cK f ?_ ?_ <;> intro k4 h2 f
  ·exact rtg [.cell 2 106, .tmp 3] f
  ·simp [G] at h2
theorem OW (a0 : List Z1) (a1 : Int) : Sa 104 [rL 7 Z1.row a0, rI a1] [rI (Zx a0 a1)] := by
 have f := me (Zx.eq_1 a0 a1)
 refine so func104 ntmps104 ?_
 refine lp1 (qA.eq_2 a0 a1) (fun J => YT 20 [eL 0 7 a0 Z1.row, eI 1 a1, eI 5 (J : Int)]) (fun n1 J => a0.length < n1 + J /\ J <= a0.length) (a0.length + 1) 0 (fun p1 J e1 j1 => ?_)
 refine cFf e1 ?_ ?_ <;> intro k2 h1 e1
 ·have i1 := ix h1
  have m2 := ml a0 (k2 0 _ rfl)
  have w1 := wr J
  simp [i1, ZB]
  refine rpS ?_
  refine cF e1 ?_ ?_ <;> intro k3 h2 e1
  ·have f := ms f e1
   exact rt [.tmp 4] f
  exact ny1 w1 e1
 have f := ms f e1
 exact rt [.tmp 4] f
theorem E8 (a0 : Z0) : Sa 170 [a0.row] [rB (kc a0)] := by
 have f := me (kc.eq_1 a0)
 refine so func170 ntmps170 ?_
 refine cRs (Y9 a0.Zi 1 999) ?_
 refine cGs (fun gg => (PH a0.O4)) ?_
 refine cGs (fun gg => (Y9 a0.Zl (-1) (W (a0.O4 + 1)))) ?_
 refine cGs (fun gg => (Y9 a0.Z2 1 99)) ?_
 exact rt [.tmp 2] f
theorem RC (a0 : Z0) : Sd 172 [a0.row] [rL 1 iR (J2 a0)] := by
 have f := me (J2.eq_1 a0)
 refine soD func172 ntmps172 ?_
 exact rtD [.tmp 2] f
theorem Wm (a0 : List YZ) (a1 : Z0) (u0 : Sm 2322432 a0) : Sa 105 [rL 5 YZ.row a0, a1.row] [(Ya a0 a1).1.row, rB (Ya a0 a1).2] := by
 have f := me (Ya.eq_1 a0 a1)
 refine so func105 ntmps105 ?_
 refine cRs (zh a0 a1.Z2) ?_
 refine cRs (E8 a1) ?_
 refine cF f ?_ ?_ <;> intro k1 h1 f
 ·exact rt [.cell 4 147, .tmp 5] f
 refine dIo mixed ?_
 have i1 : (Ye a0 a1.Z2).toNat < a0.length := by have := Kc a0 a1.Z2; exact il
 simp [i1, ZB]
 refine rpS ?_
 refine cRs (Yv.rd (RC a1)) ?_
 refine cRs (TE (nth a0 (Ye a0 a1.Z2).toNat) (J2 a1) (by simp (maxDischargeDepth := 12) [RJ, ZZ (m := 2326528) (by decide) u0]; try omega)) ?_
 exact rt [.cell 4 147, .tmp 5] f
theorem kW (a0 : Z0) : Sd 107 [a0.row] [(Y0 a0).row] := by
 have f := me (Y0.eq_1 a0)
 refine soD func107 ntmps107 ?_
 refine dIs mixed ?_
 refine cDs [false] (RC a0) ?_
 exact rtD [.cell 2 145] f
theorem Du (a0 : Za) (a1 : ZO) (u0 : Sm 2326528 a0) (u1 : Sm 2326528 a1) : Sd 173 [a0.row, a1.row] [(yZ a0 a1).1.row, rB (yZ a0 a1).2] := by
 have f := me (yZ.eq_1 a0 a1)
 refine soD func173 ntmps173 ?_
 refine cDs [] (y8 a0 (sg u0)) ?_
 refine drJ [14] mixed ?_
 simp
 refine cDs [true, false] (OC a1 (sg u1)) ?_
 refine W2 ?_
 have c1 := sl 2326528 a0.ZL (an u0 u1)
 simp
 refine UL (iT := (a0.ZL.map ZO.row)) (news := (([a1] : List ZO).map ZO.row)) (l1 := [(8, 0)]) (l2 := [(12, 1)]) (size := 3) ?_
 simp
 refine cRs (TB (Za.mk (a0.ZL ++ ([a1] : List ZO)) a0.Zf)) ?_
 refine cF f ?_ ?_ <;> intro k2 h1 f
 ·refine cDs [] (y8 a0 (sg u0)) ?_
  exact rtD [.cell 4 128, .tmp 5] f
 exact rtD [.cell 4 128, .tmp 5] f
theorem UA (a0 : ZC) (a1 : Int) (a2 : ZO) (u0 : Sm 2322432 a0) (u1 : Sm 2322432 a2) : Sd 106 [a0.row, rI a1, a2.row] [(Xx a0 a1 a2).1.row, rB (Xx a0 a1 a2).2] := by
 have f := me (Xx.eq_1 a0 a1 a2)
 refine soD func106 ntmps106 ?_
 refine cDs [] (QH a0 (sg u0)) ?_
 refine cRs (ql a0 a1) ?_
 refine cF f ?_ ?_ <;> intro k1 h1 f
 ·exact rtD [.cell 6 94, .tmp 7] f
 refine dIo mixed ?_
 have i1 : (Yj a0 a1).toNat < a0.ZD.length := by have := U3 a0 a1; exact il
 simp [i1, ZB]
 refine rpS ?_
 refine cDf i1 [] (Du (nth a0.ZD (Yj a0 a1).toNat).ZJ a2 (sg (ZM.Jo (Z7 (ZC.YO u0)))) (sg u1)) ?_
 refine pc (t := 13) (j := 1) (i := (Yj a0 a1).toNat) (c := 14) (size := 16) (rows := (a0.ZD.map ZM.row)) (ds := (yZ (nth a0.ZD (Yj a0 a1).toNat).ZJ a2).1.row) (L := [(28, 0), (28, 1)]) rfl rfl rfl rfl (by simp) (by simp) (by simp; try omega) (by simp) (by simp) (by simp) (by simp) (by simp) (by simp) ?_
 simp [YL (x := (ZM.mk (nth a0.ZD (Yj a0 a1).toNat).Id (nth a0.ZD (Yj a0 a1).toNat).XB (nth a0.ZD (Yj a0 a1).toNat).Doc (nth a0.ZD (Yj a0 a1).toNat).Sig (yZ (nth a0.ZD (Yj a0 a1).toNat).ZJ a2).1)) rfl, i1, ZB, Zd]
 refine rpS ?_
 exact rtD [.cell 6 94, .tmp 7] f
theorem Zo {a b : Prop} (h : b) (k : a := by (intros; first | omega | with_unfolding_all (first | first | omega | (have fi := Y8 a0 a1 (by first | omega | (simp at *; omega)); omega) | (simp only [Bool.or_eq_false_iff, decide_eq_false_iff_not] at *; omega) | (have z := ZY G; (try simp only [] at z); omega) | (have z := ZY G.1; (try simp only [] at z); omega) | (have z := ZY G.2; (try simp only [] at z); omega) | (have z := ZY G.2.1; (try simp only [] at z); omega) | (have z := ZY G.2.2; (try simp only [] at z); omega) | (have z := ZY G.1.2; (try simp only [] at z); omega) | (have z := ZY G.2.2.2; (try simp only [] at z); omega) ) | (simp_all; done) | (simp_all; omega) | grind | ((try simp only [K1, show ∀ x, IntKind.i64.wrap x = W x from fun _ => rfl] at *); omega))) : a /\ b := ⟨k, h⟩
theorem HG (a0 : ZH) (a1 : Int) (u0 : Sm 2318336 a0) : Sd 52 [a0.row, rI a1] [(yg a0 a1).1.row, rB (yg a0 a1).2] := by
 have f := me (yg.eq_1 a0 a1)
 refine soD func52 ntmps52 ?_
 refine cDs [false, false, false, true, true, false, false, true, false, false, true, false] (Ql a0 (sg u0)) ?_
 refine cRs (Pf a0 a1) ?_
 refine gIo ?_ ?_ <;> intro G
 ·have fr := G
  have g1 := G; try simp at g1
  have i1 : (ZF a0 a1).1.toNat < a0.ZA.length := by first | omega | (have fi := Y8 a0 a1 (by first | omega | (simp at *; omega)); omega) | (simp only [Bool.or_eq_false_iff, decide_eq_false_iff_not] at *; omega) | (have z := ZY G; (try simp only [] at z); omega) | (have z := ZY G.1; (try simp only [] at z); omega) | (have z := ZY G.2; (try simp only [] at z); omega) | (have z := ZY G.2.1; (try simp only [] at z); omega) | (have z := ZY G.2.2; (try simp only [] at z); omega) | (have z := ZY G.1.2; (try simp only [] at z); omega) | (have z := ZY G.2.2.2; (try simp only [] at z); omega) 
  simp [i1, ZB, G]
  repeat with_reducible refine Zo ?_
  refine gK (fun _ => ?_)
  have i2 : (ZF a0 a1).2.toNat < (nth a0.ZA (ZF a0 a1).1.toNat).ZD.length := by first | omega | (have fi := Y8 a0 a1 (by first | omega | (simp at *; omega)); omega) | (simp only [Bool.or_eq_false_iff, decide_eq_false_iff_not] at *; omega) | (have z := ZY G; (try simp only [] at z); omega) | (have z := ZY G.1; (try simp only [] at z); omega) | (have z := ZY G.2; (try simp only [] at z); omega) | (have z := ZY G.2.1; (try simp only [] at z); omega) | (have z := ZY G.2.2; (try simp only [] at z); omega) | (have z := ZY G.1.2; (try simp only [] at z); omega) | (have z := ZY G.2.2.2; (try simp only [] at z); omega) 
  simp [i2, ZB, G]
  repeat with_reducible refine Zo ?_
  refine cKo f ?_ ?_ <;> intro k1 h1 f
  ·simp [G]
   repeat with_reducible refine Zo ?_
   exact zx [.cell 4 43, .tmp 5] f
  ·have i3 : 1 < (nth (nth a0.ZA (ZF a0 a1).1.toNat).ZD (ZF a0 a1).2.toNat).ZJ.ZL.length := by first | omega | (have fi := Y8 a0 a1 (by first | omega | (simp at *; omega)); omega) | (simp only [Bool.or_eq_false_iff, decide_eq_false_iff_not] at *; omega) | (have z := ZY G; (try simp only [] at z); omega) | (have z := ZY G.1; (try simp only [] at z); omega) | (have z := ZY G.2; (try simp only [] at z); omega) | (have z := ZY G.2.1; (try simp only [] at z); omega) | (have z := ZY G.2.2; (try simp only [] at z); omega) | (have z := ZY G.1.2; (try simp only [] at z); omega) | (have z := ZY G.2.2.2; (try simp only [] at z); omega) 
   simp [i1, ZB, i2, i3, G]
   repeat with_reducible refine Zo ?_
   refine cR (PK (nth (nth (nth a0.ZA (ZF a0 a1).1.toNat).ZD (ZF a0 a1).2.toNat).ZJ.ZL 1)) ?_
   simp [G]
   repeat with_reducible refine Zo ?_
   refine cR (OW a0.ZN (Zb (nth (nth (nth a0.ZA (ZF a0 a1).1.toNat).ZD (ZF a0 a1).2.toNat).ZJ.ZL 1)).1.Zi) ?_
   simp [G]
   repeat with_reducible refine Zo ?_
   refine cKo f ?_ ?_ <;> intro k2 h2 f
   ·simp [G]
    repeat with_reducible refine Zo ?_
    exact zx [.cell 4 43, .tmp 5] f
   ·simp [G]
    repeat with_reducible refine Zo ?_
    refine dIo mixed ?_
    have i4 : (Zx a0.ZN (Zb (nth (nth (nth a0.ZA (ZF a0 a1).1.toNat).ZD (ZF a0 a1).2.toNat).ZJ.ZL 1)).1.Zi).toNat < a0.ZN.length := by have := TD a0.ZN (Zb (nth (nth (nth a0.ZA (ZF a0 a1).1.toNat).ZD (ZF a0 a1).2.toNat).ZJ.ZL 1)).1.Zi; first | omega | (have fi := Y8 a0 a1 (by first | omega | (simp at *; omega)); omega) | (simp only [Bool.or_eq_false_iff, decide_eq_false_iff_not] at *; omega) | (have z := ZY G; (try simp only [] at z); omega) | (have z := ZY G.1; (try simp only [] at z); omega) | (have z := ZY G.2; (try simp only [] at z); omega) | (have z := ZY G.2.1; (try simp only [] at z); omega) | (have z := ZY G.2.2; (try simp only [] at z); omega) | (have z := ZY G.1.2; (try simp only [] at z); omega) | (have z := ZY G.2.2.2; (try simp only [] at z); omega) 
    simp [i4, ZB, G]
    repeat with_reducible refine Zo ?_
    refine cR (zh a0.Frame.Zm (nth a0.ZN (Zx a0.ZN (Zb (nth (nth (nth a0.ZA (ZF a0 a1).1.toNat).ZD (ZF a0 a1).2.toNat).ZJ.ZL 1)).1.Zi).toNat).Z2) ?_
    simp [G]
    repeat with_reducible refine Zo ?_
    refine dIo mixed ?_
    simp [i4, ZB, G]
    repeat with_reducible refine Zo ?_
    refine dIo mixed ?_
    have i5 : (Zx a0.ZN (Zb (nth (nth (nth a0.ZA (ZF a0 a1).1.toNat).ZD (ZF a0 a1).2.toNat).ZJ.ZL 1)).1.Zi).toNat < a0.Zl.length := by have := TD a0.ZN (Zb (nth (nth (nth a0.ZA (ZF a0 a1).1.toNat).ZD (ZF a0 a1).2.toNat).ZJ.ZL 1)).1.Zi; first | omega | (have fi := Y8 a0 a1 (by first | omega | (simp at *; omega)); omega) | (simp only [Bool.or_eq_false_iff, decide_eq_false_iff_not] at *; omega) | (have z := ZY G; (try simp only [] at z); omega) | (have z := ZY G.1; (try simp only [] at z); omega) | (have z := ZY G.2; (try simp only [] at z); omega) | (have z := ZY G.2.1; (try simp only [] at z); omega) | (have z := ZY G.2.2; (try simp only [] at z); omega) | (have z := ZY G.1.2; (try simp only [] at z); omega) | (have z := ZY G.2.2.2; (try simp only [] at z); omega) 
    simp [i5, ZB, G]
    repeat with_reducible refine Zo ?_
    refine cKo f ?_ ?_ <;> intro k6 h3 f
    ·simp [i5, ZB, G]
     repeat with_reducible refine Zo ?_
     refine cR (Wm a0.Frame.Zm (Z0.mk (Zb (nth (nth (nth a0.ZA (ZF a0 a1).1.toNat).ZD (ZF a0 a1).2.toNat).ZJ.ZL 1)).1.Zi a0.Frame.Now (nth a0.Zl (Zx a0.ZN (Zb (nth (nth (nth a0.ZA (ZF a0 a1).1.toNat).ZD (ZF a0 a1).2.toNat).ZJ.ZL 1)).1.Zi).toNat) (nth a0.ZN (Zx a0.ZN (Zb (nth (nth (nth a0.ZA (ZF a0 a1).1.toNat).ZD (ZF a0 a1).2.toNat).ZJ.ZL 1)).1.Zi).toNat).Z2 0) (sg (Zq.xw (ZH.Xj u0)))) ?_
     simp [G]
     repeat with_reducible refine Zo ?_
     refine dIo mixed ?_
     simp [G]
     repeat with_reducible refine Zo ?_
     refine gJo G ?_ ?_ <;> intro G
     ·have g2x := G.2
      try (simp at G; done)
      all_goals
       have g2 := G.2; try simp at g2
       all_goals
        have i6 : (Ye a0.Frame.Zm (nth a0.ZN (Zx a0.ZN (Zb (nth (nth (nth a0.ZA (ZF a0 a1).1.toNat).ZD (ZF a0 a1).2.toNat).ZJ.ZL 1)).1.Zi).toNat).Z2).toNat < a0.Frame.Zm.length := by have := Kc a0.Frame.Zm (nth a0.ZN (Zx a0.ZN (Zb (nth (nth (nth a0.ZA (ZF a0 a1).1.toNat).ZD (ZF a0 a1).2.toNat).ZJ.ZL 1)).1.Zi).toNat).Z2; first | omega | (have fi := Y8 a0 a1 (by first | omega | (simp at *; omega)); omega) | (simp only [Bool.or_eq_false_iff, decide_eq_false_iff_not] at *; omega) | (have z := ZY G; (try simp only [] at z); omega) | (have z := ZY G.1; (try simp only [] at z); omega) | (have z := ZY G.2; (try simp only [] at z); omega) | (have z := ZY G.2.1; (try simp only [] at z); omega) | (have z := ZY G.2.2; (try simp only [] at z); omega) | (have z := ZY G.1.2; (try simp only [] at z); omega) | (have z := ZY G.2.2.2; (try simp only [] at z); omega) 
        simp [i6, ZB, G]
        repeat with_reducible refine Zo ?_
        refine cKo f ?_ ?_ <;> intro k8 h4 f
        ·simp [G]
         repeat with_reducible refine Zo ?_
         exact zx [.cell 4 43, .tmp 5] f
        ·simp [G]
         repeat with_reducible refine Zo ?_
         refine dIo mixed ?_
         simp [i1, ZB, G]
         repeat with_reducible refine Zo ?_
         refine cR (Yv.rd (kW (Ya a0.Frame.Zm (Z0.mk (Zb (nth (nth (nth a0.ZA (ZF a0 a1).1.toNat).ZD (ZF a0 a1).2.toNat).ZJ.ZL 1)).1.Zi a0.Frame.Now (nth a0.Zl (Zx a0.ZN (Zb (nth (nth (nth a0.ZA (ZF a0 a1).1.toNat).ZD (ZF a0 a1).2.toNat).ZJ.ZL 1)).1.Zi).toNat) (nth a0.ZN (Zx a0.ZN (Zb (nth (nth (nth a0.ZA (ZF a0 a1).1.toNat).ZD (ZF a0 a1).2.toNat).ZJ.ZL 1)).1.Zi).toNat).Z2 0)).1)) ?_
         simp [G]
         repeat with_reducible refine Zo ?_
         refine cD [] (UA (nth a0.ZA (ZF a0 a1).1.toNat) a1 (Y0 (Ya a0.Frame.Zm (Z0.mk (Zb (nth (nth (nth a0.ZA (ZF a0 a1).1.toNat).ZD (ZF a0 a1).2.toNat).ZJ.ZL 1)).1.Zi a0.Frame.Now (nth a0.Zl (Zx a0.ZN (Zb (nth (nth (nth a0.ZA (ZF a0 a1).1.toNat).ZD (ZF a0 a1).2.toNat).ZJ.ZL 1)).1.Zi).toNat) (nth a0.ZN (Zx a0.ZN (Zb (nth (nth (nth a0.ZA (ZF a0 a1).1.toNat).ZD (ZF a0 a1).2.toNat).ZJ.ZL 1)).1.Zi).toNat).Z2 0)).1) (sg (Z7 (ZH.YW u0))) (by simp (maxDischargeDepth := 12) [kh, ZZ (m := 2322432) (by decide) u0]; try omega)) ?_
         simp [i1, ZB, G]
         repeat with_reducible refine Zo ?_
         refine SE (t := 18) (j := 7) (i := (ZF a0 a1).1.toNat) (size := 2) (rows := (a0.ZA.map ZC.row)) (ds := (Xx (nth a0.ZA (ZF a0 a1).1.toNat) a1 (Y0 (Ya a0.Frame.Zm (Z0.mk (Zb (nth (nth (nth a0.ZA (ZF a0 a1).1.toNat).ZD (ZF a0 a1).2.toNat).ZJ.ZL 1)).1.Zi a0.Frame.Now (nth a0.Zl (Zx a0.ZN (Zb (nth (nth (nth a0.ZA (ZF a0 a1).1.toNat).ZD (ZF a0 a1).2.toNat).ZJ.ZL 1)).1.Zi).toNat) (nth a0.ZN (Zx a0.ZN (Zb (nth (nth (nth a0.ZA (ZF a0 a1).1.toNat).ZD (ZF a0 a1).2.toNat).ZJ.ZL 1)).1.Zi).toNat).Z2 0)).1)).1.row) (L := [(150, 1)]) ?_
         simp [YL (x := (Xx (nth a0.ZA (ZF a0 a1).1.toNat) a1 (Y0 (Ya a0.Frame.Zm (Z0.mk (Zb (nth (nth (nth a0.ZA (ZF a0 a1).1.toNat).ZD (ZF a0 a1).2.toNat).ZJ.ZL 1)).1.Zi a0.Frame.Now (nth a0.Zl (Zx a0.ZN (Zb (nth (nth (nth a0.ZA (ZF a0 a1).1.toNat).ZD (ZF a0 a1).2.toNat).ZJ.ZL 1)).1.Zi).toNat) (nth a0.ZN (Zx a0.ZN (Zb (nth (nth (nth a0.ZA (ZF a0 a1).1.toNat).ZD (ZF a0 a1).2.toNat).ZJ.ZL 1)).1.Zi).toNat).Z2 0)).1)).1) rfl, i1, ZB, Zd, G]
         repeat with_reducible refine Zo ?_
         exact zx [.cell 4 43, .tmp 5] f
     ·have g2x := G.2
      try (simp at G; done)
      all_goals
       simp [G]
       repeat with_reducible refine Zo ?_
       refine cKo f ?_ ?_ <;> intro aH h5 f
       ·simp [G]
        repeat with_reducible refine Zo ?_
        exact zx [.cell 4 43, .tmp 5] f
       ·simp [G] at h5
    ·simp [G]
     repeat with_reducible refine Zo ?_
     refine cR (Wm a0.Frame.Zm (Z0.mk (Zb (nth (nth (nth a0.ZA (ZF a0 a1).1.toNat).ZD (ZF a0 a1).2.toNat).ZJ.ZL 1)).1.Zi a0.Frame.Now (-1) (nth a0.ZN (Zx a0.ZN (Zb (nth (nth (nth a0.ZA (ZF a0 a1).1.toNat).ZD (ZF a0 a1).2.toNat).ZJ.ZL 1)).1.Zi).toNat).Z2 0) (sg (Zq.xw (ZH.Xj u0)))) ?_
     simp [G]
     repeat with_reducible refine Zo ?_
     refine dIo mixed ?_
     simp [G]
     repeat with_reducible refine Zo ?_
     refine gJo G ?_ ?_ <;> intro G
     ·have g3x := G.2
      try (simp at G; done)
      all_goals
       have g3 := G.2; try simp at g3
       all_goals
        have i8 : (Ye a0.Frame.Zm (nth a0.ZN (Zx a0.ZN (Zb (nth (nth (nth a0.ZA (ZF a0 a1).1.toNat).ZD (ZF a0 a1).2.toNat).ZJ.ZL 1)).1.Zi).toNat).Z2).toNat < a0.Frame.Zm.length := by have := Kc a0.Frame.Zm (nth a0.ZN (Zx a0.ZN (Zb (nth (nth (nth a0.ZA (ZF a0 a1).1.toNat).ZD (ZF a0 a1).2.toNat).ZJ.ZL 1)).1.Zi).toNat).Z2; first | omega | (have fi := Y8 a0 a1 (by first | omega | (simp at *; omega)); omega) | (simp only [Bool.or_eq_false_iff, decide_eq_false_iff_not] at *; omega) | (have z := ZY G; (try simp only [] at z); omega) | (have z := ZY G.1; (try simp only [] at z); omega) | (have z := ZY G.2; (try simp only [] at z); omega) | (have z := ZY G.2.1; (try simp only [] at z); omega) | (have z := ZY G.2.2; (try simp only [] at z); omega) | (have z := ZY G.1.2; (try simp only [] at z); omega) | (have z := ZY G.2.2.2; (try simp only [] at z); omega) 
        simp [i8, ZB, G]
        repeat with_reducible refine Zo ?_
        refine cKo f ?_ ?_ <;> intro k13 h6 f
        ·simp [G]
         repeat with_reducible refine Zo ?_
         exact zx [.cell 4 43, .tmp 5] f
        ·simp [G]
         repeat with_reducible refine Zo ?_
         refine dIo mixed ?_
         simp [i1, ZB, G]
         repeat with_reducible refine Zo ?_
         refine cR (Yv.rd (kW (Ya a0.Frame.Zm (Z0.mk (Zb (nth (nth (nth a0.ZA (ZF a0 a1).1.toNat).ZD (ZF a0 a1).2.toNat).ZJ.ZL 1)).1.Zi a0.Frame.Now (-1) (nth a0.ZN (Zx a0.ZN (Zb (nth (nth (nth a0.ZA (ZF a0 a1).1.toNat).ZD (ZF a0 a1).2.toNat).ZJ.ZL 1)).1.Zi).toNat).Z2 0)).1)) ?_
         simp [G]
         repeat with_reducible refine Zo ?_
         refine cD [] (UA (nth a0.ZA (ZF a0 a1).1.toNat) a1 (Y0 (Ya a0.Frame.Zm (Z0.mk (Zb (nth (nth (nth a0.ZA (ZF a0 a1).1.toNat).ZD (ZF a0 a1).2.toNat).ZJ.ZL 1)).1.Zi a0.Frame.Now (-1) (nth a0.ZN (Zx a0.ZN (Zb (nth (nth (nth a0.ZA (ZF a0 a1).1.toNat).ZD (ZF a0 a1).2.toNat).ZJ.ZL 1)).1.Zi).toNat).Z2 0)).1) (sg (Z7 (ZH.YW u0))) (by simp (maxDischargeDepth := 12) [kh, ZZ (m := 2322432) (by decide) u0]; try omega)) ?_
         simp [i1, ZB, G]
         repeat with_reducible refine Zo ?_
         refine SE (t := 18) (j := 7) (i := (ZF a0 a1).1.toNat) (size := 2) (rows := (a0.ZA.map ZC.row)) (ds := (Xx (nth a0.ZA (ZF a0 a1).1.toNat) a1 (Y0 (Ya a0.Frame.Zm (Z0.mk (Zb (nth (nth (nth a0.ZA (ZF a0 a1).1.toNat).ZD (ZF a0 a1).2.toNat).ZJ.ZL 1)).1.Zi a0.Frame.Now (-1) (nth a0.ZN (Zx a0.ZN (Zb (nth (nth (nth a0.ZA (ZF a0 a1).1.toNat).ZD (ZF a0 a1).2.toNat).ZJ.ZL 1)).1.Zi).toNat).Z2 0)).1)).1.row) (L := [(150, 1)]) ?_
         simp [YL (x := (Xx (nth a0.ZA (ZF a0 a1).1.toNat) a1 (Y0 (Ya a0.Frame.Zm (Z0.mk (Zb (nth (nth (nth a0.ZA (ZF a0 a1).1.toNat).ZD (ZF a0 a1).2.toNat).ZJ.ZL 1)).1.Zi a0.Frame.Now (-1) (nth a0.ZN (Zx a0.ZN (Zb (nth (nth (nth a0.ZA (ZF a0 a1).1.toNat).ZD (ZF a0 a1).2.toNat).ZJ.ZL 1)).1.Zi).toNat).Z2 0)).1)).1) rfl, i1, ZB, Zd, G]
         repeat with_reducible refine Zo ?_
         exact zx [.cell 4 43, .tmp 5] f
     ·have g3x := G.2
      try (simp at G; done)
      all_goals
       simp [G]
       repeat with_reducible refine Zo ?_
       refine cKo f ?_ ?_ <;> intro k15 h7 f
       ·simp [G]
        repeat with_reducible refine Zo ?_
        exact zx [.cell 4 43, .tmp 5] f
       ·simp [G] at h7
 ·have fr := G
  simp [G]
  repeat with_reducible refine Zo ?_
  refine sGo ?_
  simp [G]
  repeat with_reducible refine Zo ?_
  refine cKo f ?_ ?_ <;> intro k17 h8 f
  ·simp [G]
   repeat with_reducible refine Zo ?_
   exact zx [.cell 4 43, .tmp 5] f
  ·simp [G] at h8
theorem IY (a0 : ZH) (a1 : Int) (u0 : Sm 2318336 a0) : Sd 53 [a0.row, rI a1] [(yh a0 a1).1.row, rB (yh a0 a1).2] := by
 have f := me (yh.eq_1 a0 a1)
 refine soD func53 ntmps53 ?_
 refine cDs [false, false, false, true, true, false, false, true, false, false, true, false] (Ql a0 (sg u0)) ?_
 refine cRs (Y9 a1 0 (W ((a0.Zl.length : Int) - 1))) ?_
 refine gIf ?_ ?_ <;> intro G
 ·have c1 := sl 2318336 a0.Zl u0
  have w1 : IntKind.i64.wrap ((a0.Zl.length : Int) - 1) = (a0.Zl.length : Int) - 1 := YG (by omega) (by omega)
  have g1 := G; try simp [YN, w1] at g1
  have i1 := ik a1.toNat a0.Zl
  simp [i1, ZB, G]
  refine rpG ?_
  refine cKo f ?_ ?_ <;> intro k1 h1 f
  ·have q1 := h1; try simp [YN, w1] at q1
   simp [G]
   refine rpG ?_
   exact zx [.cell 4 43, .tmp 5] f
  ·have q1 := h1; try simp [YN, w1] at q1
   simp [i1, ZB, YL (x := (W (a0.Frame.Now + 1))) rfl, G]
   refine rpG ?_
   refine H5 (rv := [.cell 4 43, .tmp 5]) rfl ?_
   simp [f.h, G]
   all_goals (repeat' (first | exact GU (by simp) (by simp) | refine And.intro ?_ ?_))
 ·have c2 := sl 2318336 a0.Zl u0
  have w2 : IntKind.i64.wrap ((a0.Zl.length : Int) - 1) = (a0.Zl.length : Int) - 1 := YG (by omega) (by omega)
  refine cKo f ?_ ?_ <;> intro k2 h2 f
  ·have q2 := h2; try simp [YN, w2] at q2
   simp [G]
   refine rpG ?_
   exact zx [.cell 4 43, .tmp 5] f
  ·simp [G] at h2
theorem yY (a0 : List ZR) (a1 : Int) : Sa 111 [rL 3 ZR.row a0, rI a1] [rI (Ze a0 a1)] := by
 have f := me (Ze.eq_1 a0 a1)
 refine so func111 ntmps111 ?_
 refine lp1 (KM.eq_2 a0 a1) (fun J => YT 20 [eL 0 3 a0 ZR.row, eI 1 a1, eI 5 (J : Int)]) (fun n1 J => a0.length < n1 + J /\ J <= a0.length) (a0.length + 1) 0 (fun p1 J e1 j1 => ?_)
 refine cFf e1 ?_ ?_ <;> intro k2 h1 e1
 ·have i1 := ix h1
  have m2 := ml a0 (k2 0 _ rfl)
  have w1 := wr J
  simp [i1, ZB]
  refine rpS ?_
  refine cF e1 ?_ ?_ <;> intro k3 h2 e1
  ·have f := ms f e1
   exact rt [.tmp 4] f
  exact ny1 w1 e1
 have f := ms f e1
 exact rt [.tmp 4] f
theorem wq (a0 : ZH) (a1 : List Int) : Sa 109 [a0.row, rL 1 iR a1] [rB (zY a0 a1)] := by
 have f := me (zY.eq_1 a0 a1)
 refine so func109 ntmps109 ?_
 refine lp1 (xi.eq_2 a0 a1) (fun J => YT 76 [eL 1 1 a1 iR, eX 2 (a0.row.map .d), eI 5 (J : Int)]) (fun n1 J => a1.length < n1 + J /\ J <= a1.length) (a1.length + 1) 0 (fun p1 J e1 j1 => ?_)
 refine cF e1 ?_ ?_ <;> intro k2 h1 e1
 ·have i1 := ix h1
  have m2 := ml a1 (k2 1 _ rfl)
  have w1 := wr J
  refine dIo mixed ?_
  simp [i1, ZB]
  refine rpS ?_
  refine cRs (yY a0.Frame.ZE (nth a1 J)) ?_
  refine dIs mixed ?_
  refine gIf ?_ ?_ <;> intro G
  ·have i2 := ik (J - 1) a1
   have w2 : IntKind.i64.wrap ((J : Int) - 1) = (J : Int) - 1 := YG (by omega) (by omega)
   simp [i2, ZB, w2, jA, G]
   refine rpG ?_
   refine gK (fun _ => ?_)
   simp [i1, ZB, G]
   refine rpG ?_
   refine cK e1 ?_ ?_ <;> intro k5 h2 e1
   ·have f := ms f e1
    exact rtg [.tmp 4] f
   ·refine dIo mixed ?_
    have i3 : (Ze a0.Frame.ZE (nth a1 J)).toNat < a0.Frame.ZE.length := by have := JG a0.Frame.ZE (nth a1 J); exact il
    simp [i3, ZB, G]
    refine rpG ?_
    refine cRg (zh a0.Frame.Zm (nth a0.Frame.ZE (Ze a0.Frame.ZE (nth a1 J)).toNat).Key) ?_
    refine dIg mixed ?_
    refine gJf G ?_ ?_ <;> intro G
    ·try (simp at G; done)
     all_goals
      have i4 : (Ye a0.Frame.Zm (nth a0.Frame.ZE (Ze a0.Frame.ZE (nth a1 J)).toNat).Key).toNat < a0.Frame.Zm.length := by have := Kc a0.Frame.Zm (nth a0.Frame.ZE (Ze a0.Frame.ZE (nth a1 J)).toNat).Key; exact il
      simp [i4, ZB, G]
      refine rpG ?_
      refine cK e1 ?_ ?_ <;> intro k8 h3 e1
      ·have f := ms f e1
       exact rtg [.tmp 4] f
      ·exact ny1 (an w1 (an w2 G)) e1
    ·try (simp at G; done)
     all_goals
      refine cK e1 ?_ ?_ <;> intro k9 h4 e1
      ·have f := ms f e1
       exact rtg [.tmp 4] f
      ·simp [G] at h4
  ·refine sGg ?_
   refine cK e1 ?_ ?_ <;> intro aH h5 e1
   ·have f := ms f e1
    exact rtg [.tmp 4] f
   ·refine dIo mixed ?_
    have i7 : (Ze a0.Frame.ZE (nth a1 J)).toNat < a0.Frame.ZE.length := by have := JG a0.Frame.ZE (nth a1 J); exact il
    simp [i7, ZB, G]
    refine rpG ?_
    refine cRg (zh a0.Frame.Zm (nth a0.Frame.ZE (Ze a0.Frame.ZE (nth a1 J)).toNat).Key) ?_
    refine dIg mixed ?_
    refine gJf G ?_ ?_ <;> intro G
    ·try (simp at G; done)
     all_goals
      have i8 : (Ye a0.Frame.Zm (nth a0.Frame.ZE (Ze a0.Frame.ZE (nth a1 J)).toNat).Key).toNat < a0.Frame.Zm.length := by have := Kc a0.Frame.Zm (nth a0.Frame.ZE (Ze a0.Frame.ZE (nth a1 J)).toNat).Key; exact il
      simp [i8, ZB, G]
      refine rpG ?_
      refine cK e1 ?_ ?_ <;> intro k13 h6 e1
      ·have f := ms f e1
       exact rtg [.tmp 4] f
      ·exact ny1 (an w1 G) e1
    ·try (simp at G; done)
     all_goals
      refine cK e1 ?_ ?_ <;> intro k14 h7 e1
      ·have f := ms f e1
       exact rtg [.tmp 4] f
      ·simp [G] at h7
 have f := ms f e1
 exact rt [.tmp 4] f
theorem HE (a0 : Za) (a1 : ZT) (u0 : Sm 2318336 a0) (u1 : Sm 2318336 a1) : Sd 183 [a0.row, a1.row] [rL 1 iR (J9 a0 a1)] := by
 have f := me (J9.eq_1 a0 a1)
 refine soD func183 ntmps183 ?_
 refine lp2 (yF.eq_2 a0 a1) (fun J U => YT 27 [eX 2 (a0.row.map .d), eX 3 (a1.row.map .d), (5, .one (.sref 5 0 0 J.length), [.arr false 1 (J.map iR)]), eI 6 (U : Int)]) (fun n1 J U => a0.Zf.length < n1 + U /\ U <= a0.Zf.length /\ J.length <= 0 + 1 * U) (a0.Zf.length + 1) ([] : List Int) 0 (fun p1 J U e1 j1 => ?_) (h0 := wkS [((5, 0), some (7, 0))] [])
 refine cF e1 ?_ ?_ <;> intro k2 h1 e1
 ·have i1 := ix h1
  have m2 := ml a0.Zf (k2 10 _ rfl)
  have c1 := sl 2318336 a0.Zf (an u0 u1)
  have w1 := wr U
  refine dIo mixed ?_
  simp [i1, ZB]
  refine rpS ?_
  refine cRs (Vx (nth a0.Zf U).Method a1 (sg u1)) ?_
  exact nx2 e1 (hw := Xf [((5, 0), some (25, 0))] [] rfl (by simp [w1]))
 have c2 := sl 2318336 a0.Zf (an u0 u1)
 have f := ms f e1
 exact rtD [.tmp 4] f
theorem PL (a0 : ZW) : Sd 176 [a0.row] [rL 1 iR (Kq a0)] := by
 have f := me (Kq.eq_1 a0)
 refine soD func176 ntmps176 ?_
 exact rtD [.tmp 2] f
theorem V9 (a0 : Int) (a1 : ZK) (u0 : Sm 2326528 a1) : Sa 236 [rI a0, a1.row] [rI (KT a0 a1)] := by
 have f := me (KT.eq_1 a0 a1)
 refine so func236 ntmps236 ?_
 refine lp2 (KO.eq_2 a1) (fun J U => YT 75 [eI 0 a0, eX 3 (a1.row.map .d), (5, .one (.sref 5 0 0 J.length), [.arr false 1 (J.map iR)]), eI 6 (U : Int)]) (fun n1 J U => a1.Path.length < n1 + U /\ U <= a1.Path.length /\ J.length <= 4 + 2 * U) (a1.Path.length + 1) ([4, a1.Count, a1.Method, a1.GK] : List Int) 0 (fun p1 J U e1 j1 => ?_) (h0 := wkS [((5, 0), some (14, 0))] [])
 refine cFo e1 ?_ ?_ <;> intro k2 h1 e1
 ·have q1 := h1; try simp at q1
  have i1 := ix h1
  have m2 := ml a1.Path (k2 17 _ rfl)
  have c1 := sl 2326528 a1.Path u0
  have w1 := wr U
  simp [i1, ZB]
  refine rpS ?_
  refine cFo e1 ?_ ?_ <;> intro k3 h2 e1
  ·have q2 := h2; try simp at q2
   simp
   refine rpS ?_
   exact nx2 e1 (hw := Xf [((5, 0), some (39, 0))] [] rfl (by simp [w1]))
  have q2 := h2; try simp at q2
  simp
  refine rpS ?_
  exact nx2 e1 (hw := Xf [((5, 0), some (42, 0))] [] rfl (by simp [w1]))
 have q1 := h1; try simp at q1
 have c2 := sl 2326528 a1.Path u0
 have f := ms f e1
 simp
 refine rpS ?_
 refine lp2 (zU.eq_2 a1) (fun iZ gN => YT 75 [eI 0 a0, eX 3 (a1.row.map .d), (5, .one (.sref 5 0 0 iZ.length), [.arr false 1 (iZ.map iR)]), eI 7 (gN : Int)]) (fun n2 iZ gN => a1.Yi.length < n2 + gN /\ gN <= a1.Yi.length /\ iZ.length <= 5 + 2 * 2326528 + 6 * gN) (a1.Yi.length + 1) (J ++ ([(a1.Yi.length : Int)] : List Int)) 0 (fun p2 iZ gN e2 j2 => ?_) (hI := by (have o : a1.Path.length <= 2326528 := XP (xs u0); simp at *; omega)) (h0 := wkS [((5, 0), some (48, 0))] [])
 try dsimp only at j2
 refine cFo e2 ?_ ?_ <;> intro k5 h3 e2
 ·have q3 := h3; try simp at q3
  have i2 := ix h3
  have m4 := ml a1.Yi (k5 51 _ rfl)
  have c3 := sl 2326528 a1.Yi u0
  have w2 := wr gN
  simp
  refine dIo mixed ?_
  simp [i2, ZB]
  refine rpS ?_
  refine cRf i2 (Yv.rd (PL (nth a1.Yi gN))) ?_
  exact nx2 e2 (hI := by (simp; omega)) (hw := Xf [((5, 0), some (71, 0))] [] rfl (by simp [w2]))
 have q3 := h3; try simp at q3
 have c4 := sl 2326528 a1.Yi u0
 have f := ms f e2
 simp
 refine cRs (Kt a0 iZ (by first | (simp (maxDischargeDepth := 12) [XC]; omega) | (simp (maxDischargeDepth := 12) [ZZ (m := 68719476736) (by decide) u0]; done))) ?_
 exact rt [.tmp 4] f
theorem UZ (a0 : Int) (a1 : List ZO) (u0 : Sm 2326528 a1) : Sa 269 [rI a0, rL 3 ZO.row a1] [rI (KF a0 a1)] := by
 have f := me (KF.eq_1 a0 a1)
 refine so func269 ntmps269 ?_
 refine lp2 (yA.eq_2 a0 a1) (fun J U => YT 39 [eI 0 a0, eL 1 3 a1 ZO.row, (5, .one (.sref 5 0 0 J.length), [.arr false 1 (J.map iR)]), eI 6 (U : Int)]) (fun n1 J U => a1.length < n1 + U /\ U <= a1.length /\ J.length <= 1 + 1 * U) (a1.length + 1) ([2] : List Int) 0 (fun p1 J U e1 j1 => ?_) (h0 := wkS [((5, 0), some (7, 0))] [])
 refine cF e1 ?_ ?_ <;> intro k2 h1 e1
 ·have i1 := ix h1
  have m2 := ml a1 (k2 1 _ rfl)
  have c1 := sl 2326528 a1 u0
  have w1 := wr U
  refine FO [2, 3, 4, 5, 6, 7, 8, 9, 10, 11, 12, 13, 14, 15, 16, 17, 18, 0, 1, 19, 20, 21, 22] mixed (by kernel_rfl) (by kernel_rfl) (by kernel_rfl) ?_
  have c2 := sl 2326528 (nth a1 U).Ys u0
  simp [i1, ZB]
  refine rpS ?_
  refine cRs (Kt a0 (([(nth a1 U).Key, (nth a1 U).Mark] : List Int) ++ (nth a1 U).Ys) (by simp (maxDischargeDepth := 12) [zN, XC, ZZ (m := 68719476736) (by decide) u0]; try omega)) ?_
  exact nx2 e1 (hw := Xf [((5, 0), some (35, 0))] [] rfl (by simp [w1]))
 have c3 := sl 2326528 a1 u0
 have f := ms f e1
 refine cRs (Kt a0 J (by first | (simp (maxDischargeDepth := 12) [XC]; omega) | (simp (maxDischargeDepth := 12) [ZZ (m := 68719476736) (by decide) u0]; done))) ?_
 exact rt [.tmp 4] f
theorem Ly (a0 : Int) (a1 : Int) (a2 : List ZO) (a3 : Int) (u0 : Sm 2322432 a2) : Sa 237 [rI a0, rI a1, rL 3 ZO.row a2, rI a3] [rI (Ta a0 a1 a2 a3)] := by
 have f := me (Ta.eq_1 a0 a1 a2 a3)
 refine so func237 ntmps237 ?_
 refine cRs (UZ a0 a2 (sg u0)) ?_
 refine cRs (Kt a0 ([3, a1, (KF a0 a2), a3] : List Int) (by simp (maxDischargeDepth := 12) [zN, XC, ZZ (m := 68719476736) (by decide) u0]; try omega)) ?_
 exact rt [.tmp 8] f
theorem Qw {a b : Prop} (h : b) (k : a := by (intros; first | omega | with_unfolding_all (first | first | omega | (have cc : a0.Zf.length <= 2318336 := XP (xs u0); have z0 := fr; simp at z0; have z := VV (by omega) z0.1; have z2 := z0.2; (try have w3 : IntKind.i64.wrap (a2 - 1) = a2 - 1 := YG (by omega) (by omega)); (try have w4 : W (a2 - 1) = a2 - 1 := w3); first | omega | (refine ⟨⟨z0.1, by omega⟩, by omega, by omega⟩) | (simp_all; omega))) | (simp_all; done) | (simp_all; omega) | grind | ((try simp only [K1, show ∀ x, IntKind.i64.wrap x = W x from fun _ => rfl] at *); omega))) : a /\ b := ⟨k, h⟩
theorem wF (a0 : Za) (a1 : List Int) (a2 : Int) (u0 : Sm 2318336 a0) (u1 : Sm 2318336 a1) : Sa 182 [a0.row, rL 1 iR a1, rI a2] [rI (TX a0 a1 a2)] := by
 have f := me (TX.eq_1 a0 a1 a2)
 refine so func182 ntmps182 ?_
 refine dIs mixed ?_
 refine cRs (Y9 a2 0 (W ((a0.Zf.length : Int) - 1))) ?_
 refine gIo ?_ ?_ <;> intro G
 ·have fr := G
  have c1 := sl 2318336 a0.Zf (an u0 u1)
  have w1 : IntKind.i64.wrap ((a0.Zf.length : Int) - 1) = (a0.Zf.length : Int) - 1 := YG (by omega) (by omega)
  have g1 := G; try simp [YN, w1] at g1
  have i1 : a2.toNat < a0.Zf.length := by (have cc : a0.Zf.length <= 2318336 := XP (xs u0); have z0 := fr; simp at z0; have z := VV (by omega) z0.1; have z2 := z0.2; (try have w3 : IntKind.i64.wrap (a2 - 1) = a2 - 1 := YG (by omega) (by omega)); (try have w4 : W (a2 - 1) = a2 - 1 := w3); omega)
  simp [i1, ZB, G]
  repeat with_reducible refine Qw ?_
  refine cGo (fun gg => (Y9 (nth a0.Zf a2.toNat).Count 0 (a0.ZL.length : Int))) ?_
  simp [G]
  repeat with_reducible refine Qw ?_
  refine cKo f ?_ ?_ <;> intro k2 h1 f
  ·have q1 := h1; try simp [YN, w1] at q1
   simp [G]
   repeat with_reducible refine Qw ?_
   exact rtg [.tmp 6] f
  ·have q1 := h1; try simp [YN, w1] at q1
   simp [i1, ZB, G]
   repeat with_reducible refine Qw ?_
   refine cKo f ?_ ?_ <;> intro k3 h2 f
   ·have q2 := h2; try simp at q2
    have i2 : (W (a2 - 1)).toNat < a0.Zf.length := by (have cc : a0.Zf.length <= 2318336 := XP (xs u0); have z0 := fr; simp at z0; have z := VV (by omega) z0.1; have z2 := z0.2; (try have w3 : IntKind.i64.wrap (a2 - 1) = a2 - 1 := YG (by omega) (by omega)); (try have w4 : W (a2 - 1) = a2 - 1 := w3); omega)
    simp [i2, ZB, G]
    repeat with_reducible refine Qw ?_
    refine cR (V9 (nth a0.Zf a2.toNat).Method (nth a0.Zf (W (a2 - 1)).toNat) (sg (Z7 (Za.kH u0)))) ?_ (iq := by first | (simp; done) | (simp [W, w1]; done))
    simp [G]
    repeat with_reducible refine Qw ?_
    refine dIo mixed ?_
    have i3 : a2.toNat < a1.length := by (have cc : a0.Zf.length <= 2318336 := XP (xs u0); have z0 := fr; simp at z0; have z := VV (by omega) z0.1; have z2 := z0.2; (try have w3 : IntKind.i64.wrap (a2 - 1) = a2 - 1 := YG (by omega) (by omega)); (try have w4 : W (a2 - 1) = a2 - 1 := w3); omega)
    simp [i3, ZB, i1, G]
    repeat with_reducible refine Qw ?_
    refine cR (Ly (nth a0.Zf a2.toNat).Method (nth a1 a2.toNat) (a0.ZL.take (nth a0.Zf a2.toNat).Count.toNat) (KT (nth a0.Zf a2.toNat).Method (nth a0.Zf (W (a2 - 1)).toNat)) (ZZ (n := 2318336) (by decide) (xs (an u0 u1)))) ?_ (iq := by first | (simp; done) | (simp [W, w1]; done))
    simp [G]
    repeat with_reducible refine Qw ?_
    exact rtg [.tmp 6] f
   ·have q2 := h2; try simp at q2
    simp [G]
    repeat with_reducible refine Qw ?_
    refine dIo mixed ?_
    have i4 : a2.toNat < a1.length := by (have cc : a0.Zf.length <= 2318336 := XP (xs u0); have z0 := fr; simp at z0; have z := VV (by omega) z0.1; have z2 := z0.2; (try have w3 : IntKind.i64.wrap (a2 - 1) = a2 - 1 := YG (by omega) (by omega)); (try have w4 : W (a2 - 1) = a2 - 1 := w3); omega)
    simp [i4, ZB, i1, G]
    repeat with_reducible refine Qw ?_
    refine cR (Ly (nth a0.Zf a2.toNat).Method (nth a1 a2.toNat) (a0.ZL.take (nth a0.Zf a2.toNat).Count.toNat) 0 (ZZ (n := 2318336) (by decide) (xs (an u0 u1)))) ?_
    simp [G]
    repeat with_reducible refine Qw ?_
    exact rtg [.tmp 6] f
 ·have fr := G
  simp [G]
  repeat with_reducible refine Qw ?_
  refine sGo ?_
  simp [G]
  repeat with_reducible refine Qw ?_
  have c2 := sl 2318336 a0.Zf (an u0 u1)
  have w2 : IntKind.i64.wrap ((a0.Zf.length : Int) - 1) = (a0.Zf.length : Int) - 1 := YG (by omega) (by omega)
  refine cKo f ?_ ?_ <;> intro k6 h3 f
  ·have q3 := h3; try simp [YN, w2] at q3
   simp [G]
   repeat with_reducible refine Qw ?_
   exact rtg [.tmp 6] f
  ·simp [G] at h3
theorem Vh (a0 : ZC) (a1 : Int) (u0 : Sm 2314240 a0) : Sd 121 [a0.row, rI a1] [rL 1 iR (YB a0 a1)] := by
 have f := me (YB.eq_1 a0 a1)
 refine soD func121 ntmps121 ?_
 refine lp2 (KA.eq_2 a0 a1) (fun J U => YT 51 [eI 1 a1, eX 2 (a0.row.map .d), (5, .one (.sref 5 0 0 J.length), [.arr false 1 (J.map iR)]), eI 6 (U : Int)]) (fun n1 J U => a0.ZD.length < n1 + U /\ U <= a0.ZD.length /\ J.length <= 0 + 1 * U) (a0.ZD.length + 1) ([] : List Int) 0 (fun p1 J U e1 j1 => ?_) (h0 := wkS [((5, 0), some (8, 0))] [])
 refine cFf e1 ?_ ?_ <;> intro k2 h1 e1
 ·have i1 := ix h1
  have m2 := ml a0.ZD (k2 11 _ rfl)
  have c1 := sl 2314240 a0.ZD u0
  have w1 := wr U
  simp [i1, ZB]
  refine rpS ?_
  refine cOs (Yv.own (y8 (nth a0.ZD U).ZJ (sg (ZM.Jo (Z7 (ZC.YO u0)))))) ?_
  refine eIs ?_
  have c2 := sl 2314240 (nth a0.ZD U).ZJ.Zf u0
  refine eIs ?_
  refine dIo mixed ?_
  simp [i1, ZB]
  refine rpS ?_
  refine cDs [false] (HE (Za.mk (nth a0.ZD U).ZJ.ZL ((nth a0.ZD U).ZJ.Zf ++ ([(ZK.mk ((nth a0.ZD U).ZJ.ZL.length : Int) a1 0 ([] : List Zy) ([] : List ZW))] : List ZK))) (nth a0.ZD U).Doc (by (first | (exact Kx (s := (nth a0.ZD U).ZJ) (by decide) (show Sm 2314240 _ by simp (maxDischargeDepth := 12) [u0]) (by simp)) | (refine qq ?_; exact Kx (s := (nth a0.ZD U).ZJ) (by decide) (show Sm 2314240 _ by simp (maxDischargeDepth := 12) [u0]) (by simp)) | (exact ZZ (n := 2314240) (by decide) (xs u0)))) (by (first | (exact Kx (s := (nth a0.ZD U).ZJ) (by decide) (show Sm 2314240 _ by simp (maxDischargeDepth := 12) [u0]) (by simp)) | (refine qq ?_; exact Kx (s := (nth a0.ZD U).ZJ) (by decide) (show Sm 2314240 _ by simp (maxDischargeDepth := 12) [u0]) (by simp)) | (exact ZZ (n := 2314240) (by decide) (xs u0))))) ?_
  refine cRs (wF (Za.mk (nth a0.ZD U).ZJ.ZL ((nth a0.ZD U).ZJ.Zf ++ ([(ZK.mk ((nth a0.ZD U).ZJ.ZL.length : Int) a1 0 ([] : List Zy) ([] : List ZW))] : List ZK))) (J9 (Za.mk (nth a0.ZD U).ZJ.ZL ((nth a0.ZD U).ZJ.Zf ++ ([(ZK.mk ((nth a0.ZD U).ZJ.ZL.length : Int) a1 0 ([] : List Zy) ([] : List ZW))] : List ZK))) (nth a0.ZD U).Doc) (W ((((nth a0.ZD U).ZJ.Zf ++ ([(ZK.mk ((nth a0.ZD U).ZJ.ZL.length : Int) a1 0 ([] : List Zy) ([] : List ZW))] : List ZK)).length : Int) - 1)) (by (first | (exact Kx (s := (nth a0.ZD U).ZJ) (by decide) (show Sm 2314240 _ by simp (maxDischargeDepth := 12) [u0]) (by simp)) | (refine qq ?_; exact Kx (s := (nth a0.ZD U).ZJ) (by decide) (show Sm 2314240 _ by simp (maxDischargeDepth := 12) [u0]) (by simp)) | (exact ZZ (n := 2314240) (by decide) (xs u0)))) (by (first | (exact Kx (s := (nth a0.ZD U).ZJ) (by decide) (show Sm 2314240 _ by simp (maxDischargeDepth := 12) [u0]) (by simp)) | (refine qq ?_; exact Kx (s := (nth a0.ZD U).ZJ) (by decide) (show Sm 2314240 _ by simp (maxDischargeDepth := 12) [u0]) (by simp)) | (exact ZZ (n := 2314240) (by decide) (xs u0))))) ?_ (iq := by first | (simp; done) | (simp [W, w1]; done))
  exact nx2 e1 (hw := Xf [((5, 0), some (49, 0))] [] rfl (by simp [w1]))
 have c3 := sl 2314240 a0.ZD u0
 have f := ms f e1
 exact rtD [.tmp 4] f
theorem IS (a0 : Int) (a1 : Int) (a2 : Int) : Sa 267 [rI a0, rI a1, rI a2] [rI (kC a0 a1 a2)] := by
 have f := me (kC.eq_1 a0 a1 a2)
 refine so func267 ntmps267 ?_
 refine cRs (Kt a0 ([1, a1, a2] : List Int) (by simp (maxDischargeDepth := 12) [zN, XC]; try omega)) ?_
 exact rt [.tmp 6] f
theorem Sg (a0 : Int) (a1 : List Int) (u0 : Sm 2322432 a1) : Sd 232 [rI a0, rL 1 iR a1] [rL 1 iR (WA a0 a1)] := by
 have f := me (WA.eq_1 a0 a1)
 refine soD func232 ntmps232 ?_
 refine lp2 (xx.eq_2 a0 a1) (fun J U => YT 41 [eI 0 a0, eL 1 1 a1 iR, (5, .one (.sref 5 0 0 J.length), [.arr false 1 (J.map iR)]), eI 6 (U : Int)]) (fun n1 J U => a1.length < n1 + U /\ U <= a1.length + 1 /\ J.length <= U) (a1.length + 1) ([] : List Int) 0 (fun p1 J U e1 j1 => ?_) (h0 := wkS [((5, 0), some (7, 0))] [])
 try dsimp only at j1
 refine cF e1 ?_ ?_ <;> intro k2 h1 e1
 ·have i1 := ix h1
  have m2 := ml a1 (k2 1 _ rfl)
  have c1 := sl 2322432 a1 u0
  have w1 := wr U
  refine cFt e1 ?_ ?_ <;> intro k3 h2 e1
  ·refine okD fun k4 => ?_
   refine dIo mixed ?_
   have i2 := ik (W ((U : Int) + 1)).toNat a1
   simp [i1, ZB, i2]
   refine rpS ?_
   refine cRs (IS a0 (nth a1 U) (nth a1 (W ((U : Int) + 1)).toNat)) ?_ (iq := by first | (simp; done) | (simp [W, w1]; done))
   have w2 : IntKind.i64.wrap ((U : Int) + 2) = (U : Int) + 2 := YG (by omega) (by omega)
   exact nx2 e1 (hI := by first | omega | (simp at *; omega)) (hw := Xf [((5, 0), some (32, 0))] [] rfl (by simp [w1, w2]))
  simp [i1, ZB]
  refine rpS ?_
  have w3 : IntKind.i64.wrap ((U : Int) + 2) = (U : Int) + 2 := YG (by omega) (by omega)
  exact nx2 e1 (hI := by first | omega | (simp at *; omega)) (hw := Xf [((5, 0), some (39, 0))] [] rfl (by simp [w1, w3]))
 have c2 := sl 2322432 a1 u0
 have f := ms f e1
 exact rtD [.tmp 4] f
theorem Ux (a0 : Int) (a1 : List Int) (u0 : Sm 2318336 a1) : Sa 174 [rI a0, rL 1 iR a1] [rI (KW a0 a1)] := by
 have f := me (KW.eq_1 a0 a1)
 refine so func174 ntmps174 ?_
 refine cRs (Y9 (a1.length : Int) 1 16) ?_
 refine cFo f ?_ ?_ <;> intro k1 h1 f
 ·have q1 := h1; try simp [YN] at q1
  simp
  exact rt [.tmp 4] f
 have q1 := h1; try simp [YN] at q1
 have c1 := sl 2318336 a1 u0
 simp
 refine rpS ?_
 refine lp1 (jw.eq_2 a0) (fun J => YT 22 [eI 0 a0, (5, .one (.sref 5 0 0 J.length), [.arr false 1 (J.map iR)])]) (fun n1 J => J.length < n1 /\ 1 <= J.length /\ J.length <= 16) (a1.length + 1) a1 (fun p1 J e1 j1 => ?_) (hI := by first | omega | (simp at *; omega)) (h0 := wkS [((5, 0), some (12, 0))] [])
 try dsimp only at j1
 refine cFt e1 ?_ ?_ <;> intro k3 h2 e1
 ·refine cDs [false] (Sg a0 J (by first | (simp (maxDischargeDepth := 12) [XC]; omega) | (simp (maxDischargeDepth := 12) [ZZ (m := 2322432) (by decide) u0]; done))) ?_
  exact nx1 e1 (hI := by (have z := Ul a0 J (by omega); (try dsimp only); simp at *; omega)) (hw := wkS [((5, 0), some (18, 0))] [])
 have f := ms f e1
 have i1 := ik 0 J
 simp [i1, ZB]
 refine rpS ?_
 exact rt [.tmp 4] f
theorem BI (a0 : ZC) (a1 : Int) (u0 : Sm 2310144 a0) : Sa 110 [a0.row, rI a1] [rI (z5 a0 a1)] := by
 have f := me (z5.eq_1 a0 a1)
 refine so func110 ntmps110 ?_
 refine cRs (Yv.rd (Vh a0 a1 (sg u0))) ?_
 refine cRs (Ux a1 (YB a0 a1) (by simp (maxDischargeDepth := 12) [j3, ZZ (m := 2318336) (by decide) u0]; try omega)) ?_
 exact rt [.tmp 4] f
theorem Oh (a0 : List Int) (a1 : Int) : Sa 112 [rL 1 iR a0, rI a1] [rB (P0 a0 a1)] := by
 have f := me (P0.eq_1 a0 a1)
 refine so func112 ntmps112 ?_
 refine lp1 (P3.eq_2 a0 a1) (fun J => YT 18 [eL 0 1 a0 iR, eI 1 a1, eI 5 (J : Int)]) (fun n1 J => a0.length < n1 + J /\ J <= a0.length) (a0.length + 1) 0 (fun p1 J e1 j1 => ?_)
 refine cFf e1 ?_ ?_ <;> intro k2 h1 e1
 ·have i1 := ix h1
  have m2 := ml a0 (k2 0 _ rfl)
  have w1 := wr J
  simp [i1, ZB]
  refine rpS ?_
  refine cF e1 ?_ ?_ <;> intro k3 h2 e1
  ·have f := ms f e1
   exact rt [.tmp 4] f
  exact ny1 w1 e1
 have f := ms f e1
 exact rt [.tmp 4] f
theorem sb (a0 : Int) (a1 : Int) : Sa 114 [rI a0, rI a1] [rI (OR a0 a1)] := by
 have f := me (OR.eq_1 a0 a1)
 refine so func114 ntmps114 ?_
 refine cF f ?_ ?_ <;> intro k1 h1 f
 ·exact rt [.tmp 4] f
 exact rt [.tmp 4] f
theorem rn (a0 : Int) (a1 : Int) : Sa 113 [rI a0, rI a1] [rI (ME a0 a1)] := by
 have f := me (ME.eq_1 a0 a1)
 refine so func113 ntmps113 ?_
 refine cF f ?_ ?_ <;> intro k1 h1 f
 ·exact rt [.tmp 4] f
 exact rt [.tmp 4] f
theorem UJ (a0 : List YZ) (a1 : List ZR) (a2 : ZW) (u0 : Sm 2322432 a0) (u1 : Sm 2322432 a1) : Sa 115 [rL 5 YZ.row a0, rL 3 ZR.row a1, a2.row] [(KJ a0 a1 a2).1.row, rB (KJ a0 a1 a2).2] := by
 have f := me (KJ.eq_1 a0 a1 a2)
 refine so func115 ntmps115 ?_
 refine cRs (yY a1 a2.Authority) ?_
 refine cGs (fun gg => (PH a2.Time)) ?_
 refine cFt f ?_ ?_ <;> intro k1 h1 f
 ·exact rt [.cell 6 158, .tmp 7] f
 have i1 : (Ze a1 a2.Authority).toNat < a1.length := by have := JG a1 a2.Authority; exact il
 simp [i1, ZB]
 refine rpS ?_
 refine cRs (zh a0 (nth a1 (Ze a1 a2.Authority).toNat).Key) ?_
 refine cF f ?_ ?_ <;> intro k2 h2 f
 ·exact rt [.cell 6 158, .tmp 7] f
 refine dIo mixed ?_
 have i2 : (Ye a0 (nth a1 (Ze a1 a2.Authority).toNat).Key).toNat < a0.length := by have := Kc a0 (nth a1 (Ze a1 a2.Authority).toNat).Key; exact il
 simp [i2, ZB]
 refine rpS ?_
 refine cRs (Yv.rd (PL a2)) ?_
 refine cRs (TE (nth a0 (Ye a0 (nth a1 (Ze a1 a2.Authority).toNat).Key).toNat) (Kq a2) (by simp (maxDischargeDepth := 12) [FF, ZZ (m := 2326528) (by decide) u0, ZZ (m := 2326528) (by decide) u1]; try omega)) ?_
 exact rt [.cell 6 158, .tmp 7] f
theorem TL {a b : Prop} (h : b) (k : a := by (intros; first | omega | with_unfolding_all (first | first | omega | (have tm := Int.tmod_eq_emod_of_nonneg (b := 2) (show 0 <= J by omega); (try simp only [K1, show ∀ x, IntKind.i64.wrap x = W x from fun _ => rfl] at *); (try simp at *); omega)) | ((try simp only [K1, show ∀ x, IntKind.i64.wrap x = W x from fun _ => rfl] at *); omega))) : a /\ b := ⟨k, h⟩
theorem Dt (a0 : Int) (a1 : List Int) (a2 : Int) (u0 : Sm 2318336 a1) : Sd 177 [rI a0, rL 1 iR a1, rI a2] [rL 2 Zy.row (K9 a0 a1 a2)] := by
 have f := me (K9.eq_1 a0 a1 a2)
 refine soD func177 ntmps177 ?_
 refine cGs (fun gg => (Y9 a2 0 (W ((a1.length : Int) - 1)))) ?_
 have c1 := sl 2318336 a1 u0
 have w1 : IntKind.i64.wrap ((a1.length : Int) - 1) = (a1.length : Int) - 1 := YG (by omega) (by omega)
 refine cFo f ?_ ?_ <;> intro k1 h1 f
 ·have q1 := h1; try simp [YN, w1] at q1
  simp
  exact rtD [.tmp 6] f
 have q1 := h1; try simp [YN, w1] at q1
 simp
 repeat with_reducible refine TL ?_
 refine lp3 (Ki.eq_2 a0) (fun J U iQ => YT 60 [eI 0 a0, eI 2 J, (7, .one (.sref 7 0 0 U.length), [.arr false 2 (U.map Zy.row)]), (8, .one (.sref 8 0 0 iQ.length), [.arr false 1 (iQ.map iR)])]) (fun n1 J U iQ => iQ.length < n1 /\ 0 <= J /\ J < (iQ.length : Int) /\ iQ.length <= 16 /\ U.length + n1 <= 17) (a1.length + 1) a2 ([] : List Zy) a1 (fun p1 J U iQ e1 j1 => ?_) (hI := by first | omega | (simp at *; omega)) (h0 := wkS [((7, 0), some (9, 0)), ((8, 0), some (24, 0))] [])
 try dsimp only at j1
 refine cF e1 ?_ ?_ <;> intro k3 h2 e1
 ·refine cFf e1 ?_ ?_ <;> intro k4 h3 e1
  ·have i1 : (W (J - 1)).toNat < iQ.length := by first | omega | (have tm := Int.tmod_eq_emod_of_nonneg (b := 2) (show 0 <= J by omega); (try simp only [K1, show ∀ x, IntKind.i64.wrap x = W x from fun _ => rfl] at *); (try simp at *); omega)
   simp [i1, ZB]
   repeat with_reducible refine TL ?_
   refine cDs [false] (Sg a0 iQ (by first | (simp (maxDischargeDepth := 12) [XC]; omega) | (simp (maxDischargeDepth := 12) [ZZ (m := 2322432) (by decide) u0]; done))) ?_
   exact nx3 e1 (hI := by (have z := Ul a0 iQ (by omega); have td := Int.tdiv_eq_ediv_of_nonneg (b := 2) (show 0 <= J by omega); have w2 : W (Int.tdiv J 2) = Int.tdiv J 2 := YG (by omega) (by omega); (try dsimp only); rw [w2]; simp at *; omega)) (hw := Xf [((7, 0), some (39, 0)), ((8, 0), some (56, 0))] [] rfl (by simp [w1]))
  refine cFo e1 ?_ ?_ <;> intro k5 h4 e1
  ·have q4 := h4; try simp [w1] at q4
   have i2 : (W (J + 1)).toNat < iQ.length := by first | omega | (have tm := Int.tmod_eq_emod_of_nonneg (b := 2) (show 0 <= J by omega); (try simp only [K1, show ∀ x, IntKind.i64.wrap x = W x from fun _ => rfl] at *); (try simp at *); omega)
   simp [i2, ZB]
   repeat with_reducible refine TL ?_
   refine cDs [false] (Sg a0 iQ (by first | (simp (maxDischargeDepth := 12) [XC]; omega) | (simp (maxDischargeDepth := 12) [ZZ (m := 2322432) (by decide) u0]; done))) ?_
   exact nx3 e1 (hI := by (have z := Ul a0 iQ (by omega); have td := Int.tdiv_eq_ediv_of_nonneg (b := 2) (show 0 <= J by omega); have w2 : W (Int.tdiv J 2) = Int.tdiv J 2 := YG (by omega) (by omega); (try dsimp only); rw [w2]; simp at *; omega)) (hw := Xf [((7, 0), some (53, 0)), ((8, 0), some (56, 0))] [] rfl (by simp [w1]))
  have q4 := h4; try simp [w1] at q4
  simp
  refine cDs [false] (Sg a0 iQ (by first | (simp (maxDischargeDepth := 12) [XC]; omega) | (simp (maxDischargeDepth := 12) [ZZ (m := 2322432) (by decide) u0]; done))) ?_
  exact nx3 e1 (hI := by (have z := Ul a0 iQ (by omega); have td := Int.tdiv_eq_ediv_of_nonneg (b := 2) (show 0 <= J by omega); have w2 : W (Int.tdiv J 2) = Int.tdiv J 2 := YG (by omega) (by omega); (try dsimp only); rw [w2]; simp at *; omega)) (hw := Xf [((8, 0), some (56, 0))] [] rfl (by simp [w1]))
 have f := ms f e1
 exact rtD [.tmp 6] f
theorem RL (a0 : Za) (a1 : ZK) (u0 : Sm 2326528 a0) (u1 : Sm 2326528 a1) : Sd 122 [a0.row, a1.row] [(Qm a0 a1).1.row, rB (Qm a0 a1).2] := by
 have f := me (Qm.eq_1 a0 a1)
 refine soD func122 ntmps122 ?_
 refine cDs [] (y8 a0 (sg u0)) ?_
 refine drJ [14] mixed ?_
 simp
 refine cDs [true, true, true, false, false] (Od a1 (sg u1)) ?_
 refine W2 ?_
 have c1 := sl 2326528 a0.Zf (an u0 u1)
 simp
 refine UL (iT := (a0.Zf.map ZK.row)) (news := (([a1] : List ZK).map ZK.row)) (l1 := [(8, 1)]) (l2 := [(12, 3), (12, 4)]) (size := 5) ?_
 simp
 refine cRs (TB (Za.mk a0.ZL (a0.Zf ++ ([a1] : List ZK)))) ?_
 refine cF f ?_ ?_ <;> intro k2 h1 f
 ·refine cDs [] (y8 a0 (sg u0)) ?_
  exact rtD [.cell 4 128, .tmp 5] f
 exact rtD [.cell 4 128, .tmp 5] f
theorem Lb (a0 : ZC) (a1 : Int) (a2 : List ZW) (u0 : Sm 2310144 a0) (u1 : Sm 2310144 a2) : Sd 116 [a0.row, rI a1, rL 5 ZW.row a2] [(Qg a0 a1 a2).1.row, rB (Qg a0 a1 a2).2] := by
 have f := me (Qg.eq_1 a0 a1 a2)
 refine soD func116 ntmps116 ?_
 refine cDs [] (QH a0 (sg u0)) ?_
 refine cRs (Yv.rd (Vh a0 a1 (sg u0))) ?_
 refine cRs (Ux a1 (YB a0 a1) (by simp (maxDischargeDepth := 12) [j3, ZZ (m := 2318336) (by decide) u0, ZZ (m := 2318336) (by decide) u1]; try omega)) ?_
 refine cRs (xa a0) ?_
 refine lp3 (JE.eq_2 a0 a1 a2) (fun J U iQ => YT 84 [eI 1 a1, eL 2 5 a2 ZW.row, eX 3 (a0.row.map .d), (6, .one (.bptr 6 0), [.box [.d (.int .i64 0), .nil 16]]), (8, .one (.bptr 8 0), [.box [.d (.int .i64 a0.Id), .sref 16 1 0 iQ.length]]), eL 9 1 (YB a0 a1) iR, eI 10 (KW a1 (YB a0 a1)), eB 11 J, eI 12 (U : Int), (16, .any, [.none, .arr true 16 (iQ.map ZM.row)])]) (fun n1 J U iQ => a0.ZD.length < n1 + U /\ U <= a0.ZD.length /\ iQ.length = a0.ZD.length) (a0.ZD.length + 1) ((JP a0) && (decide ((a0.ZD.length : Int) > 0))) 0 a0.ZD (fun p1 J U iQ e1 j1 => ?_)
 refine cF e1 ?_ ?_ <;> intro k2 h1 e1
 ·have i1 : U < a0.ZD.length := by (simp at h1; omega)
  have m2 := ml a0.ZD (k2 33 _ rfl)
  have c1 := sl 2310144 a0.ZD (an u0 u1)
  have w1 := wr U
  refine dIo mixed ?_
  simp [i1, ZB]
  refine rpS ?_
  refine cRs (Yv.rd (Dt a1 (YB a0 a1) (U : Int) (by simp (maxDischargeDepth := 12) [j3, ZZ (m := 2318336) (by decide) u0, ZZ (m := 2318336) (by decide) u1]; try omega))) ?_
  have i2 := ik U iQ
  refine cDf i2 [] (RL (nth a0.ZD U).ZJ (ZK.mk ((nth a0.ZD U).ZJ.ZL.length : Int) a1 (KW a1 (YB a0 a1)) (K9 a1 (YB a0 a1) (U : Int)) a2) (sg (ZM.Jo (Z7 (ZC.YO u0)))) (by simp (maxDischargeDepth := 12) [Et, j3, ZZ (m := 2326528) (by decide) u0, ZZ (m := 2326528) (by decide) u1]; try omega)) ?_
  refine pc (t := 16) (j := 1) (i := U) (c := 14) (size := 16) (rows := (iQ.map ZM.row)) (ds := (Qm (nth a0.ZD U).ZJ (ZK.mk ((nth a0.ZD U).ZJ.ZL.length : Int) a1 (KW a1 (YB a0 a1)) (K9 a1 (YB a0 a1) (U : Int)) a2)).1.row) (L := [(64, 0), (64, 1)]) rfl rfl rfl rfl (by simp) (by simp) (by simp; try omega) (by simp) (by simp) (by simp) (by simp) (by simp) (by simp) ?_
  simp [YL (x := (ZM.mk (nth iQ U).Id (nth iQ U).XB (nth iQ U).Doc (nth iQ U).Sig (Qm (nth a0.ZD U).ZJ (ZK.mk ((nth a0.ZD U).ZJ.ZL.length : Int) a1 (KW a1 (YB a0 a1)) (K9 a1 (YB a0 a1) (U : Int)) a2)).1)) rfl, i2, ZB, Zd]
  refine rpS ?_
  exact ny3 w1 e1
 have c2 := sl 2310144 a0.ZD (an u0 u1)
 have f := ms f e1
 refine cGs (fun gg => (xa (ZC.mk a0.Id iQ))) ?_
 refine cF f ?_ ?_ <;> intro k4 h2 f
 ·refine cDs [] (QH a0 (sg u0)) ?_
  exact rtD [.cell 6 94, .tmp 7] f
 exact rtD [.cell 6 94, .tmp 7] f
theorem QA {a b : Prop} (h : b) (k : a := by (intros; first | omega | with_unfolding_all (first | first | omega | (have z := Jw (a0 := a0) (a1 := a2) (j := U) (by have z1 := h1; simp at z1; simp [z1]) (by omega); omega) | (have z := Jw (a0 := a0) (a1 := a2) (j := iZ) (by have z1 := h1; simp at z1; simp [z1]) (by omega); omega)) | ((try simp only [K1, show ∀ x, IntKind.i64.wrap x = W x from fun _ => rfl] at *); omega))) : a /\ b := ⟨k, h⟩
theorem Gg (a0 : ZH) (a1 : Int) (a2 : List Int) (a3 : Int) (u0 : Sm 2306048 a0) (u1 : Sm 2306048 a2) : Sd 54 [a0.row, rI a1, rL 1 iR a2, rI a3] [(xn a0 a1 a2 a3).1.row, rB (xn a0 a1 a2 a3).2] := by
 have f := me (xn.eq_1 a0 a1 a2 a3)
 refine soD func54 ntmps54 ?_
 refine cDs [false, false, false, true, true, false, false, true, false, false, true, false] (Ql a0 (sg u0)) ?_
 refine cRs (qo a0.Frame.Methods a0.Frame.Now) ?_
 refine cRs (jN a0 a1) ?_
 refine cGs (fun gg => (wq a0 a2)) ?_
 refine cGs (fun gg => (Y9 a3 (-10000) 10000)) ?_
 have c1 := sl 2306048 a0.ZA (an u0 u1)
 have w1 : IntKind.i64.wrap ((a0.ZA.length : Int) - 1) = (a0.ZA.length : Int) - 1 := YG (by omega) (by omega)
 refine cFo f ?_ ?_ <;> intro k1 h1 f
 ·have q1 := h1; try simp [YN, w1, Qo] at q1
  simp
  exact rtD [.cell 8 43, .tmp 9] f
 have q1 := h1; try simp [YN, w1, Qo] at q1
 have i1 : a1.toNat < a0.ZA.length := by first | omega | (have z := Jw (a0 := a0) (a1 := a2) (j := U) (by have z1 := h1; simp at z1; simp [z1]) (by omega); omega) | (have z := Jw (a0 := a0) (a1 := a2) (j := iZ) (by have z1 := h1; simp at z1; simp [z1]) (by omega); omega)
 simp [i1, ZB]
 repeat with_reducible refine QA ?_
 refine cRs (BI (nth a0.ZA a1.toNat) (Zg a0.Frame.Methods a0.Frame.Now) (sg (Z7 (ZH.YW u0)))) ?_
 refine lp2 (zm.eq_2 a0 a1 a2 a3) (fun J U => YT 162 [eI 1 a1, eL 2 1 a2 iR, eI 3 a3, eX 4 (a0.row.map .d), (8, .one (.bptr 8 0), [.box [.nil 5, .nil 3, .nil 4, .d (.int .i64 0), .d (.int .i64 0), .nil 7, .nil 1, .nil 2, .nil 1, .nil 1, .d (.int .i64 0), .nil 1]]), (10, .one (.bptr 10 0), [.box [.sref 24 0 0 a0.Frame.Zm.length, .sref 24 1 0 a0.Frame.ZE.length, .sref 24 2 0 a0.Frame.Methods.length, .d (.int .i64 a0.Frame.KZ), .d (.int .i64 a0.Frame.Now), .sref 24 5 0 a0.ZN.length, .sref 24 6 0 a0.Zl.length, .sref 24 7 0 a0.ZA.length, .sref 24 8 0 a0.YX.length, .sref 24 9 0 a0.YJ.length, .d (.int .i64 a0.Next), .sref 24 11 0 a0.Z4.length]]), eI 11 (Zg a0.Frame.Methods a0.Frame.Now), eI 12 (z5 (nth a0.ZA a1.toNat) (Zg a0.Frame.Methods a0.Frame.Now)), (13, .one (.sref 13 0 0 J.length), [.arr false 5 (J.map ZW.row)]), eI 14 (U : Int), (24, .any, [.arr false 5 (a0.Frame.Zm.map YZ.row), .arr false 3 (a0.Frame.ZE.map ZR.row), .arr false 4 (a0.Frame.Methods.map Zj.row), .none, .none, .arr false 7 (a0.ZN.map Z1.row), .arr false 1 (a0.Zl.map iR), .arr true 2 (a0.ZA.map ZC.row), .arr false 1 (a0.YX.map iR), .arr false 1 (a0.YJ.map iR), .none, .arr false 1 (a0.Z4.map iR)])]) (fun n1 J U => a2.length < n1 + U /\ U <= a2.length /\ J.length <= 0 + 1 * U) (a2.length + 1) ([] : List ZW) 0 (fun p1 J U e1 j1 => ?_) (h0 := wkS [((13, 0), some (59, 0))] [])
 try dsimp only at j1
 refine cFt e1 ?_ ?_ <;> intro k3 h2 e1
 ·have i2 := ix h2
  have m2 := ml a2 (k3 2 _ rfl)
  have c2 := sl 2306048 a2 (an u0 u1)
  have w2 := wr U
  refine dIo mixed ?_
  simp [i2, ZB]
  repeat with_reducible refine QA ?_
  refine cRs (yY a0.Frame.ZE (nth a2 U)) ?_
  refine dIo mixed ?_
  simp [i2, ZB]
  repeat with_reducible refine QA ?_
  refine cRs (Oh a0.YJ (nth a2 U)) ?_
  refine cF e1 ?_ ?_ <;> intro k6 h3 e1
  ·refine cRs (sb 0 (W (a0.Frame.Now + a3))) ?_ (iq := by first | (simp; done) | (simp [W, w1, w2]; done))
   refine cRs (rn 10000 (OR 0 (W (a0.Frame.Now + a3)))) ?_ (iq := by first | (simp; done) | (simp [W, w1, w2]; done))
   refine dIo mixed ?_
   have i3 : (Ze a0.Frame.ZE (nth a2 U)).toNat < a0.YX.length := by have := JG a0.Frame.ZE (nth a2 U); first | omega | (have z := Jw (a0 := a0) (a1 := a2) (j := U) (by have z1 := h1; simp at z1; simp [z1]) (by omega); omega) | (have z := Jw (a0 := a0) (a1 := a2) (j := iZ) (by have z1 := h1; simp at z1; simp [z1]) (by omega); omega)
   simp [i2, ZB, i3]
   repeat with_reducible refine QA ?_
   refine cRs (UJ a0.Frame.Zm a0.Frame.ZE (ZW.mk (nth a2 U) (nth a0.YX (Ze a0.Frame.ZE (nth a2 U)).toNat) (ME 10000 (OR 0 (W (a0.Frame.Now + a3)))) (z5 (nth a0.ZA a1.toNat) (Zg a0.Frame.Methods a0.Frame.Now)) 0) (sg (Zq.xw (ZH.Xj u0))) (sg (Zq.XV (ZH.Xj u0)))) ?_ (iq := by first | (simp; done) | (simp [W, w1, w2]; done))
   refine cFo e1 ?_ ?_ <;> intro k8 h4 e1
   ·have q4 := h4; try simp [w1] at q4
    have f := ms f e1
    simp
    exact rtD [.cell 8 43, .tmp 9] f
   have q4 := h4; try simp [w1] at q4
   simp
   repeat with_reducible refine QA ?_
   exact nx2 e1 (hw := Xf [((13, 0), some (117, 0))] [] rfl (by simp [w1, w2]))
  refine dIo mixed ?_
  have i4 : (Ze a0.Frame.ZE (nth a2 U)).toNat < a0.YX.length := by have := JG a0.Frame.ZE (nth a2 U); first | omega | (have z := Jw (a0 := a0) (a1 := a2) (j := U) (by have z1 := h1; simp at z1; simp [z1]) (by omega); omega) | (have z := Jw (a0 := a0) (a1 := a2) (j := iZ) (by have z1 := h1; simp at z1; simp [z1]) (by omega); omega)
  simp [i2, ZB, i4]
  repeat with_reducible refine QA ?_
  refine cRs (UJ a0.Frame.Zm a0.Frame.ZE (ZW.mk (nth a2 U) (nth a0.YX (Ze a0.Frame.ZE (nth a2 U)).toNat) a0.Frame.Now (z5 (nth a0.ZA a1.toNat) (Zg a0.Frame.Methods a0.Frame.Now)) 0) (sg (Zq.xw (ZH.Xj u0))) (sg (Zq.XV (ZH.Xj u0)))) ?_
  refine cFt e1 ?_ ?_ <;> intro aH h5 e1
  ·have f := ms f e1
   exact rtD [.cell 8 43, .tmp 9] f
  simp
  repeat with_reducible refine QA ?_
  exact nx2 e1 (hw := Xf [((13, 0), some (117, 0))] [] rfl (by simp [w1, w2]))
 have c3 := sl 2306048 a2 (an u0 u1)
 have f := ms f e1
 simp [i1, ZB]
 repeat with_reducible refine QA ?_
 refine cDs [] (Lb (nth a0.ZA a1.toNat) (Zg a0.Frame.Methods a0.Frame.Now) J (sg (Z7 (ZH.YW u0))) (by first | (simp (maxDischargeDepth := 12) [XC]; omega) | (simp (maxDischargeDepth := 12) [ZZ (m := 2310144) (by decide) u0, ZZ (m := 2310144) (by decide) u1]; done))) ?_
 refine cF f ?_ ?_ <;> intro k11 h6 f
 ·exact rtD [.cell 8 43, .tmp 9] f
 refine lp2 (qj.eq_2 a0 a2) (fun iZ gN => YT 162 [eI 1 a1, eL 2 1 a2 iR, eX 4 (a0.row.map .d), (8, .one (.bptr 8 0), [.box [.nil 5, .nil 3, .nil 4, .d (.int .i64 0), .d (.int .i64 0), .nil 7, .nil 1, .nil 2, .nil 1, .nil 1, .d (.int .i64 0), .nil 1]]), (10, .one (.bptr 10 0), [.box [.sref 24 0 0 a0.Frame.Zm.length, .sref 24 1 0 a0.Frame.ZE.length, .sref 24 2 0 a0.Frame.Methods.length, .d (.int .i64 a0.Frame.KZ), .d (.int .i64 a0.Frame.Now), .sref 24 5 0 a0.ZN.length, .sref 24 6 0 a0.Zl.length, .sref 24 7 0 a0.ZA.length, .sref 24 8 0 gN.length, .sref 24 9 0 a0.YJ.length, .d (.int .i64 a0.Next), .sref 24 11 0 a0.Z4.length]]), (19, .one (.bptr 19 0), [.box [.d (.int .i64 (Qg (nth a0.ZA a1.toNat) (Zg a0.Frame.Methods a0.Frame.Now) J).1.Id), .sref 126 1 0 (Qg (nth a0.ZA a1.toNat) (Zg a0.Frame.Methods a0.Frame.Now) J).1.ZD.length]]), eI 21 (iZ : Int), (24, .any, [.arr false 5 (a0.Frame.Zm.map YZ.row), .arr false 3 (a0.Frame.ZE.map ZR.row), .arr false 4 (a0.Frame.Methods.map Zj.row), .none, .none, .arr false 7 (a0.ZN.map Z1.row), .arr false 1 (a0.Zl.map iR), .arr true 2 (a0.ZA.map ZC.row), .arr false 1 (gN.map iR), .arr false 1 (a0.YJ.map iR), .none, .arr false 1 (a0.Z4.map iR)]), (126, .any, [.none, .arr true 16 ((Qg (nth a0.ZA a1.toNat) (Zg a0.Frame.Methods a0.Frame.Now) J).1.ZD.map ZM.row)])]) (fun n2 iZ gN => a2.length < n2 + iZ /\ iZ <= a2.length /\ gN.length = a0.YX.length) (a2.length + 1) 0 a0.YX (fun p2 iZ gN e2 j2 => ?_)
 try dsimp only at j2
 refine cFt e2 ?_ ?_ <;> intro k13 h7 e2
 ·have i5 := ix h7
  have m4 := ml a2 (k13 2 _ rfl)
  have w3 := wr iZ
  refine dIo mixed ?_
  simp [i5, ZB]
  repeat with_reducible refine QA ?_
  refine cRs (yY a0.Frame.ZE (nth a2 iZ)) ?_
  refine dIo mixed ?_
  have i6 : (Ze a0.Frame.ZE (nth a2 iZ)).toNat < a0.YX.length := by have := JG a0.Frame.ZE (nth a2 iZ); first | omega | (have z := Jw (a0 := a0) (a1 := a2) (j := U) (by have z1 := h1; simp at z1; simp [z1]) (by omega); omega) | (have z := Jw (a0 := a0) (a1 := a2) (j := iZ) (by have z1 := h1; simp at z1; simp [z1]) (by omega); omega)
  have i7 : (Ze a0.Frame.ZE (nth a2 iZ)).toNat < gN.length := by have := JG a0.Frame.ZE (nth a2 iZ); first | omega | (have z := Jw (a0 := a0) (a1 := a2) (j := U) (by have z1 := h1; simp at z1; simp [z1]) (by omega); omega) | (have z := Jw (a0 := a0) (a1 := a2) (j := iZ) (by have z1 := h1; simp at z1; simp [z1]) (by omega); omega)
  simp [i6, ZB, i7, YL (x := (W ((nth a0.YX (Ze a0.Frame.ZE (nth a2 iZ)).toNat) + 1))) rfl]
  repeat with_reducible refine QA ?_
  exact ny2 (an w1 w3) e2
 have f := ms f e2
 simp [i1, ZB]
 repeat with_reducible refine QA ?_
 refine SE (t := 24) (j := 7) (i := a1.toNat) (size := 2) (rows := (a0.ZA.map ZC.row)) (ds := (Qg (nth a0.ZA a1.toNat) (Zg a0.Frame.Methods a0.Frame.Now) J).1.row) (L := [(126, 1)]) ?_
 simp [YL (x := (Qg (nth a0.ZA a1.toNat) (Zg a0.Frame.Methods a0.Frame.Now) J).1) rfl, c1, i1, ZB, Zd]
 repeat with_reducible refine QA ?_
 exact rtD [.cell 8 43, .tmp 9] f
theorem HH (a0 : Int) (a1 : ZM) (u0 : Sm 2318336 a1) : Sa 268 [rI a0, a1.row] [rI (kK a0 a1)] := by
 have f := me (kK.eq_1 a0 a1)
 refine so func268 ntmps268 ?_
 refine dIs mixed ?_
 refine cRs (Vx a0 a1.Doc (sg (ZM.kp u0))) ?_
 refine cRs (UZ a0 a1.ZJ.ZL (sg (Za.km (ZM.Jo u0)))) ?_
 refine lp2 (xK.eq_2 a0 a1) (fun J U => YT 43 [eI 0 a0, eX 3 (a1.row.map .d), (5, .one (.sref 5 0 0 J.length), [.arr false 1 (J.map iR)]), eI 6 (U : Int)]) (fun n1 J U => a1.ZJ.Zf.length < n1 + U /\ U <= a1.ZJ.Zf.length /\ J.length <= 5 + 1 * U) (a1.ZJ.Zf.length + 1) ([5, a1.Id, a1.XB, (Qr a0 a1.Doc), (KF a0 a1.ZJ.ZL)] : List Int) 0 (fun p1 J U e1 j1 => ?_) (h0 := wkS [((5, 0), some (20, 0))] [])
 refine cFf e1 ?_ ?_ <;> intro k3 h1 e1
 ·have i1 := ix h1
  have m2 := ml a1.ZJ.Zf (k3 24 _ rfl)
  have c1 := sl 2318336 a1.ZJ.Zf u0
  have w1 := wr U
  simp [i1, ZB]
  refine rpS ?_
  refine cRs (V9 a0 (nth a1.ZJ.Zf U) (sg (Z7 (Za.kH (ZM.Jo u0))))) ?_
  exact nx2 e1 (hw := Xf [((5, 0), some (39, 0))] [] rfl (by simp [w1]))
 have c2 := sl 2318336 a1.ZJ.Zf u0
 have f := ms f e1
 refine cRs (Kt a0 J (by first | (simp (maxDischargeDepth := 12) [XC]; omega) | (simp (maxDischargeDepth := 12) [ZZ (m := 68719476736) (by decide) u0]; done))) ?_
 exact rt [.tmp 4] f
theorem NT (a0 : Int) (a1 : List ZM) (u0 : Sm 2314240 a1) : Sa 233 [rI a0, rL 16 ZM.row a1] [rI (VN a0 a1)] := by
 have f := me (VN.eq_1 a0 a1)
 refine so func233 ntmps233 ?_
 refine lp2 (WX.eq_2 a0 a1) (fun J U => YT 26 [eI 0 a0, eL 1 16 a1 ZM.row, (5, .one (.sref 5 0 0 J.length), [.arr false 1 (J.map iR)]), eI 6 (U : Int)]) (fun n1 J U => a1.length < n1 + U /\ U <= a1.length /\ J.length <= 0 + 1 * U) (a1.length + 1) ([] : List Int) 0 (fun p1 J U e1 j1 => ?_) (h0 := wkS [((5, 0), some (7, 0))] [])
 refine cFf e1 ?_ ?_ <;> intro k2 h1 e1
 ·have i1 := ix h1
  have m2 := ml a1 (k2 1 _ rfl)
  have c1 := sl 2314240 a1 u0
  have w1 := wr U
  simp [i1, ZB]
  refine rpS ?_
  refine cRs (HH a0 (nth a1 U) (sg (Z7 u0))) ?_
  exact nx2 e1 (hw := Xf [((5, 0), some (22, 0))] [] rfl (by simp [w1]))
 have c2 := sl 2314240 a1 u0
 have f := ms f e1
 refine cRs (Ux a0 J (by first | (simp (maxDischargeDepth := 12) [XC]; omega) | (simp (maxDischargeDepth := 12) [ZZ (m := 2318336) (by decide) u0]; done))) ?_
 exact rt [.tmp 4] f
theorem IN (a0 : ZC) (a1 : Int) (a2 : List Int) (a3 : Int) (u0 : Sm 2310144 a0) (u1 : Sm 2310144 a2) : So 178 [a0.row, rI a1, rL 1 iR a2, rI a3] [(Xm a0 a1 a2 a3).1.row, rB (Xm a0 a1 a2 a3).2] := by
 have f := me (Xm.eq_1 a0 a1 a2 a3)
 refine so func178 ntmps178 ?_
 refine lp2 (Jl.eq_2 a0 a2) (fun J U => YT 53 [eL 2 1 a2 iR, eI 3 a3, eX 4 (a0.row.map .d), (8, .one (.bptr 8 0), [.box [.d (.int .i64 0), .d (.int .i64 0), .nil 16, .d (.int .i64 0)]]), (10, .one (.bptr 10 0), [.box [.d (.int .i64 a0.Id), .d (.int .i64 a1), .sref 10 3 0 U.length, .d (.int .i64 0)], .none, .none, .arr false 16 (U.map ZM.row)]), eI 11 (J : Int)]) (fun n1 J U => a2.length < n1 + J /\ J <= a2.length /\ U.length <= J /\ (∀ x ∈ U, Sm 2310144 x)) (a2.length + 1) 0 ([] : List ZM) (fun p1 J U e1 j1 => ?_) (hI := by exact ⟨by omega, by omega, Nat.zero_le _, Nat.zero_le _, fun x h => by cases h⟩) (h0 := wkS [((10, 3), none)] [])
 try dsimp only at j1
 refine cF e1 ?_ ?_ <;> intro k2 h1 e1
 ·have i1 := ix h1
  have m2 := ml a2 (k2 2 _ rfl)
  have c1 := sl 2310144 a2 (an u0 u1)
  have w1 := wr J
  refine dIo mixed ?_
  simp [i1, ZB]
  refine rpS ?_
  refine cRs (ql a0 (nth a2 J)) ?_
  refine cF e1 ?_ ?_ <;> intro k4 h2 e1
  ·have f := ms f e1
   exact rtO [.cell 8 225, .tmp 9] f
  refine dIo mixed ?_
  have i2 : (Yj a0 (nth a2 J)).toNat < a0.ZD.length := by have := U3 a0 (nth a2 J); exact il
  simp [i2, ZB]
  refine rpS ?_
  refine cRs (Yv.rd (J5 (nth a0.ZD (Yj a0 (nth a2 J)).toNat) (sg (Z7 (ZC.YO u0))))) ?_
  refine eIs ?_
  refine eIs ?_
  exact nx2 e1 (hI := by ((try dsimp only); refine ⟨by omega, by omega, by omega, by simp; omega, fun x hx => ?_⟩; rcases List.mem_append.1 hx with hx | hx; exact j1.2.2.2.2 x hx; have e := List.mem_singleton.1 hx; subst e; exact Z7 (ZC.YO u0))) (hw := Xf [((10, 3), some (41, 0))] [] rfl (by simp [w1]))
 have c2 := sl 2310144 a2 (an u0 u1)
 have f := ms f e1
 refine cF f ?_ ?_ <;> intro k6 h3 f
 ·exact rtO [.cell 8 225, .tmp 9] f
 refine cRs (NT a3 U (by (have q := XP (show Sm 2310144 a2 from u1); exact ZZ (n := 2310144) (by decide) ⟨by omega, j1.2.2.2.2⟩))) ?_
 exact rtO [.cell 8 225, .tmp 9] f
theorem Mj (a0 : YP) (a1 : Int) (u0 : Sm 2310144 a0) : Sa 234 [a0.row, rI a1] [rB (Ky a0 a1)] := by
 have f := me (Ky.eq_1 a0 a1)
 refine so func234 ntmps234 ?_
 refine lp1 (Jv.eq_2 a0) (fun J => YT 33 [eI 1 a1, eX 2 (a0.row.map .d), eI 5 (J : Int)]) (fun n1 J => a0.ZD.length < n1 + J /\ J <= a0.ZD.length) (a0.ZD.length + 1) 0 (fun p1 J e1 j1 => ?_)
 refine cFf e1 ?_ ?_ <;> intro k2 h1 e1
 ·have i1 := ix h1
  have m2 := ml a0.ZD (k2 8 _ rfl)
  have c1 := sl 2310144 a0.ZD u0
  have w1 := wr J
  simp [i1, ZB]
  refine rpS ?_
  refine cRs (L3 (nth a0.ZD J)) ?_
  refine cF e1 ?_ ?_ <;> intro k3 h2 e1
  ·have f := ms f e1
   exact rt [.tmp 4] f
  exact ny1 w1 e1
 have c2 := sl 2310144 a0.ZD u0
 have f := ms f e1
 refine dIs mixed ?_
 refine cRs (Y9 (a0.ZD.length : Int) 1 8) ?_
 refine cGs (fun gg => (NT a1 a0.ZD (sg (YP.YO u0)))) ?_
 exact rt [.tmp 4] f
theorem N2 (a0 : ZC) (a1 : YP) (a2 : Int) (u0 : Sm 2306048 a0) (u1 : Sm 2306048 a1) : Sd 179 [a0.row, a1.row, rI a2] [(QY a0 a1 a2).1.row, rB (QY a0 a1 a2).2] := by
 have f := me (QY.eq_1 a0 a1 a2)
 refine soD func179 ntmps179 ?_
 refine cDs [] (QH a0 (sg u0)) ?_
 refine cRs (Mj a1 a2 (sg u1)) ?_
 refine lp4 (QE.eq_2 a1) (fun J U iQ iv => YT 52 [eX 3 (a0.row.map .d), eX 4 (a1.row.map .d), (6, .one (.bptr 6 0), [.box [.d (.int .i64 0), .nil 16]]), (8, .one (.bptr 8 0), [.box [.d (.int .i64 iQ), .sref 8 2 0 iv.length], .none, .arr true 16 (iv.map ZM.row)]), eB 9 J, eI 10 (U : Int)]) (fun n1 J U iQ iv => a1.ZD.length < n1 + U /\ U <= a1.ZD.length /\ (J = true -> a1.ZD.length <= 8) /\ Sm (2306048 + U) (ZC.mk iQ iv)) (a1.ZD.length + 1) ((Ky a1 a2) && (a1.To == a0.Id)) 0 a0.Id a0.ZD (fun p1 J U iQ iv e1 j1 => ?_) (hI := by exact ⟨by omega, by omega, Nat.zero_le _, fun h => NS a1 a2 (by simp at h; exact h.1), u0⟩) (h0 := wkS [((8, 2), some (14, 1))] [])
 try dsimp only at j1
 refine cF e1 ?_ ?_ <;> intro k2 h1 e1
 ·have i1 : U < a1.ZD.length := by (simp at h1; omega)
  have m2 := ml a1.ZD (k2 27 _ rfl)
  have c1 := sl 2306048 a1.ZD (an u0 u1)
  have w1 := wr U
  refine dIo mixed ?_
  simp [i1, ZB]
  refine rpS ?_
  refine cDs [] (Sc (ZC.mk iQ iv) (nth a1.ZD U) (by first | (have hc := h1; simp at hc; have hl := j1.2.2.2.1 hc.2; exact ZZ (n := 2306048 + U) (by omega) j1.2.2.2.2) | exact sg (Z7 (YP.YO u1))) (by first | (have hc := h1; simp at hc; have hl := j1.2.2.2.1 hc.2; exact ZZ (n := 2306048 + U) (by omega) j1.2.2.2.2) | exact sg (Z7 (YP.YO u1)))) ?_
  exact nx4 e1 (hI := by (have hc := h1; simp at hc; (try dsimp only); refine ⟨by omega, by omega, by omega, fun _ => j1.2.2.2.1 hc.2, ?_⟩; exact Bn (n := 2306048 + U) j1.2.2.2.2 (ZZ (n := 2306048) (by omega) (Z7 (YP.YO u1))))) (hw := Xf [((8, 2), some (42, 1))] [] rfl (by simp [w1]))
 have c2 := sl 2306048 a1.ZD (an u0 u1)
 have f := ms f e1
 refine cF f ?_ ?_ <;> intro k4 h2 f
 ·refine cDs [] (QH a0 (sg u0)) ?_
  exact rtD [.cell 6 94, .tmp 7] f
 exact rtD [.cell 6 94, .tmp 7] f
theorem E6 (a0 : ZC) (a1 : Int) (u0 : Sm 2322432 a0) : Sd 180 [a0.row, rI a1] [(zo a0 a1).1.row, rB (zo a0 a1).2] := by
 have f := me (zo.eq_1 a0 a1)
 refine soD func180 ntmps180 ?_
 refine cRs (ql a0 a1) ?_
 refine cF f ?_ ?_ <;> intro k1 h1 f
 ·refine cDs [] (QH a0 (sg u0)) ?_
  exact rtD [.cell 4 94, .tmp 5] f
 refine lp2 (Kf.eq_2 a0 a1) (fun J U => YT 41 [eX 2 (a0.row.map .d), (4, .one (.bptr 4 0), [.box [.d (.int .i64 0), .nil 16]]), eI 6 (Yj a0 a1), (7, .one (.bptr 7 0), [.box [.d (.int .i64 a0.Id), .sref 7 2 0 U.length], .none, .arr true 16 (U.map ZM.row)]), eI 8 (J : Int)]) (fun n1 J U => a0.ZD.length < n1 + J /\ J <= a0.ZD.length /\ U.length <= 0 + 1 * J) (a0.ZD.length + 1) 0 ([] : List ZM) (fun p1 J U e1 j1 => ?_) (h0 := wkS [((7, 2), none)] [])
 refine cF e1 ?_ ?_ <;> intro k3 h2 e1
 ·have i1 := ix h2
  have m2 := ml a0.ZD (k3 21 _ rfl)
  have c1 := sl 2322432 a0.ZD u0
  have w1 := wr J
  refine cF e1 ?_ ?_ <;> intro k4 h3 e1
  ·refine okD fun k5 => ?_
   refine drJ [38] mixed ?_
   simp [i1, ZB]
   refine rpS ?_
   refine cDs [true, true, true, false, false] (J5 (nth a0.ZD J) (sg (Z7 (ZC.YO u0)))) ?_
   refine W2 ?_
   simp
   refine UL (iT := (U.map ZM.row)) (news := (([(nth a0.ZD J)] : List ZM).map ZM.row)) (l1 := [(7, 2)]) (l2 := [(36, 3), (36, 4), (36, 14), (36, 15)]) (size := 16) ?_
   simp
   exact nx2 e1 (hw := Xf [((7, 2), some (38, 0))] [] rfl (by simp [w1]))
  exact ny2 w1 e1
 have c2 := sl 2322432 a0.ZD u0
 have f := ms f e1
 exact rtD [.cell 4 94, .tmp 5] f
theorem F0 (a0 : ZC) (a1 : ZC) (a2 : List Int) (a3 : Int) (u0 : Sm 2301952 a0) (u1 : Sm 2301952 a1) (u2 : Sm 2301952 a2) : Sd 117 [a0.row, a1.row, rL 1 iR a2, rI a3] [(Qq a0 a1 a2 a3).1.row, (Qq a0 a1 a2 a3).2.1.row, rB (Qq a0 a1 a2 a3).2.2] := by
 have f := me (Qq.eq_1 a0 a1 a2 a3)
 refine soD func117 ntmps117 ?_
 refine cRs (IN a0 a1.Id a2 a3 (by first | exact sg u0 | exact sg u2) (by first | exact sg u0 | exact sg u2)) ?_
 refine cDs [] (N2 a1 (Xm a0 a1.Id a2 a3).1 a3 (by first | exact sg u1 | exact ZZ (n := 2301952) (by decide) (RB u0 u2)) (by first | exact sg u1 | exact ZZ (n := 2301952) (by decide) (RB u0 u2))) ?_
 refine cDs [] (QH a0 (sg u0)) ?_
 refine lp4 (JB.eq_2 a0 a1 a2 a3) (fun J U iQ iv => YT 72 [eL 2 1 a2 iR, eX 4 (a0.row.map .d), eX 5 (a1.row.map .d), (8, .one (.bptr 8 0), [.box [.d (.int .i64 0), .nil 16]]), (9, .one (.bptr 9 0), [.box [.d (.int .i64 0), .nil 16]]), eB 12 (Xm a0 a1.Id a2 a3).2, (13, .one (.bptr 13 0), [.box [.d (.int .i64 (QY a1 (Xm a0 a1.Id a2 a3).1 a3).1.Id), .sref 32 1 0 (QY a1 (Xm a0 a1.Id a2 a3).1 a3).1.ZD.length]]), eB 14 J, (15, .one (.bptr 15 0), [.box [.d (.int .i64 iQ), .sref 15 2 0 iv.length], .none, .arr true 16 (iv.map ZM.row)]), eI 16 (U : Int), (32, .any, [.none, .arr true 16 ((QY a1 (Xm a0 a1.Id a2 a3).1 a3).1.ZD.map ZM.row)])]) (fun n1 J U iQ iv => a2.length < n1 + U /\ U <= a2.length /\ Sm 2301952 (ZC.mk iQ iv)) (a2.length + 1) (QY a1 (Xm a0 a1.Id a2 a3).1 a3).2 0 a0.Id a0.ZD (fun p1 J U iQ iv e1 j1 => ?_) (hI := by exact ⟨by omega, by omega, Nat.zero_le _, u0⟩) (h0 := wkS [((15, 2), some (36, 1))] [])
 try dsimp only at j1
 refine cF e1 ?_ ?_ <;> intro k2 h1 e1
 ·have i1 : U < a2.length := by (simp at h1; omega)
  have m2 := ml a2 (k2 2 _ rfl)
  have c1 := sl 2301952 a2 (an u0 (an u1 u2))
  have w1 := wr U
  refine dIo mixed ?_
  simp [i1, ZB]
  refine rpS ?_
  refine cDs [] (E6 (ZC.mk iQ iv) (nth a2 U) (by exact ZZ (n := 2301952) (by decide) j1.2.2.2)) ?_
  exact nx4 e1 (hI := by ((try dsimp only); refine ⟨by omega, by omega, by omega, ?_⟩; exact DO j1.2.2.2)) (hw := Xf [((15, 2), some (55, 1))] [] rfl (by simp [w1]))
 have c2 := sl 2301952 a2 (an u0 (an u1 u2))
 have f := ms f e1
 refine cF f ?_ ?_ <;> intro k4 h2 f
 ·refine okD fun k5 => ?_
  refine dIs mixed ?_
  refine cDs [] (QH a0 (sg u0)) ?_
  refine cDs [] (QH a1 (sg u1)) ?_
  exact rtD [.cell 8 94, .cell 9 94, .tmp 10] f
 refine sY [(8, 8), (9, 9), (13, 13), (15, 15)] mixed (by kernel_rfl) (by kernel_rfl) (by kernel_rfl) (by kernel_rfl) ?_
 simp
 exact rtD [.cell 8 94, .cell 9 94, .tmp 10] f
theorem DX (a0 : ZH) (a1 : Int) (a2 : Int) (a3 : Int) (u0 : Sm 2297856 a0) : Sd 55 [a0.row, rI a1, rI a2, rI a3] [(jI a0 a1 a2 a3).1.row, rB (jI a0 a1 a2 a3).2] := by
 have f := me (jI.eq_1 a0 a1 a2 a3)
 refine soD func55 ntmps55 ?_
 refine cDs [false, false, false, true, true, false, false, true, false, false, true, false] (Ql a0 (sg u0)) ?_
 refine cRs (qo a0.Frame.Methods a0.Frame.Now) ?_
 refine cRs (jN a0 a1) ?_
 refine cGs (fun gg => (jN a0 a2)) ?_
 have c1 := sl 2297856 a0.ZA u0
 have w1 : IntKind.i64.wrap ((a0.ZA.length : Int) - 1) = (a0.ZA.length : Int) - 1 := YG (by omega) (by omega)
 refine cFo f ?_ ?_ <;> intro k1 h1 f
 ·have q1 := h1; try simp [w1, Qo, YN] at q1
  simp
  exact rtD [.cell 8 43, .tmp 9] f
 have q1 := h1; try simp [w1, Qo, YN] at q1
 simp
 refine dIo mixed ?_
 have i1 := ik a1.toNat a0.ZA
 have i2 := ik a2.toNat a0.ZA
 simp [i1, ZB, i2]
 refine rpS ?_
 refine cDf i1 [] (F0 (nth a0.ZA a1.toNat) (nth a0.ZA a2.toNat) ([a3] : List Int) (Zg a0.Frame.Methods a0.Frame.Now) (sg (Z7 (ZH.YW u0))) (sg (Z7 (ZH.YW u0))) (by simp (maxDischargeDepth := 12) [zN, XC, ZZ (m := 2301952) (by decide) u0]; try omega)) ?_
 refine SE (t := 16) (j := 7) (i := a1.toNat) (size := 2) (rows := (a0.ZA.map ZC.row)) (ds := (Qq (nth a0.ZA a1.toNat) (nth a0.ZA a2.toNat) ([a3] : List Int) (Zg a0.Frame.Methods a0.Frame.Now)).1.row) (L := [(58, 1)]) ?_
 simp [YL (x := (Qq (nth a0.ZA a1.toNat) (nth a0.ZA a2.toNat) ([a3] : List Int) (Zg a0.Frame.Methods a0.Frame.Now)).1) rfl, c1, i1, i2, ZB, Zd]
 refine rpS ?_
 refine SE (t := 16) (j := 7) (i := a2.toNat) (size := 2) (rows := ((a0.ZA.set a1.toNat (Qq (nth a0.ZA a1.toNat) (nth a0.ZA a2.toNat) ([a3] : List Int) (Zg a0.Frame.Methods a0.Frame.Now)).1).map ZC.row)) (ds := (Qq (nth a0.ZA a1.toNat) (nth a0.ZA a2.toNat) ([a3] : List Int) (Zg a0.Frame.Methods a0.Frame.Now)).2.1.row) (L := [(58, 3)]) ?_
 simp [YL (x := (Qq (nth a0.ZA a1.toNat) (nth a0.ZA a2.toNat) ([a3] : List Int) (Zg a0.Frame.Methods a0.Frame.Now)).1) rfl, c1, i1, i2, ZB, Zd]
 refine rpS ?_
 exact rtD [.cell 8 43, .tmp 9] f
theorem Ir (a0 : ZC) (a1 : Int) (u0 : Sm 2326528 a0) : So 118 [a0.row, rI a1] [(yu a0 a1).1.row, rI (yu a0 a1).2] := by
 have f := me (yu.eq_1 a0 a1)
 refine so func118 ntmps118 ?_
 refine lp3 (K7.eq_2 a0 a1) (fun J U iQ => YT 42 [eI 1 a1, eX 2 (a0.row.map .d), (4, .one (.bptr 4 0), [.box [.d (.int .i64 0), .nil 16]]), (6, .one (.bptr 6 0), [.box [.d (.int .i64 a0.Id), .sref 6 2 0 iQ.length], .none, .arr false 16 (iQ.map ZM.row)]), eI 7 J, eI 8 (U : Int)]) (fun n1 J U iQ => a0.ZD.length < n1 + U /\ U <= a0.ZD.length /\ iQ.length <= 0 + 1 * U) (a0.ZD.length + 1) 0 0 ([] : List ZM) (fun p1 J U iQ e1 j1 => ?_) (h0 := wkS [((6, 2), none)] [])
 refine cFf e1 ?_ ?_ <;> intro k2 h1 e1
 ·have i1 := ix h1
  have m2 := ml a0.ZD (k2 14 _ rfl)
  have c1 := sl 2326528 a0.ZD u0
  have w1 := wr U
  simp [i1, ZB]
  refine rpS ?_
  refine cF e1 ?_ ?_ <;> intro k3 h2 e1
  ·exact ny3 w1 e1
  refine dIo mixed ?_
  simp [i1, ZB]
  refine rpS ?_
  refine cRs (Yv.rd (J5 (nth a0.ZD U) (sg (Z7 (ZC.YO u0))))) ?_
  refine eIs ?_
  refine eIs ?_
  exact nx3 e1 (hw := Xf [((6, 2), some (38, 0))] [] rfl (by simp [w1]))
 have c2 := sl 2326528 a0.ZD u0
 have f := ms f e1
 exact rtO [.cell 4 94, .tmp 5] f
theorem I0 (a0 : ZH) (a1 : Int) (u0 : Sm 2318336 a0) : So 56 [a0.row, rI a1] [(yr a0 a1).1.row, rB (yr a0 a1).2] := by
 have f := me (yr.eq_1 a0 a1)
 refine so func56 ntmps56 ?_
 refine cOs (Yv.own (Ql a0 (sg u0))) ?_
 refine cRs (jN a0 a1) ?_
 have c1 := sl 2318336 a0.ZA u0
 have w1 : IntKind.i64.wrap ((a0.ZA.length : Int) - 1) = (a0.ZA.length : Int) - 1 := YG (by omega) (by omega)
 refine cFo f ?_ ?_ <;> intro k1 h1 f
 ·have q1 := h1; try simp [w1, Qo, YN] at q1
  simp
  exact rtO [.cell 4 43, .tmp 5] f
 have q1 := h1; try simp [w1, Qo, YN] at q1
 simp
 refine dIo mixed ?_
 have i1 := ik a1.toNat a0.ZA
 simp [i1, ZB]
 refine rpS ?_
 refine cR (Ir (nth a0.ZA a1.toNat) a0.Frame.Now (sg (Z7 (ZH.YW u0)))) ?_
 simp [i1, ZB, YL (x := (yu (nth a0.ZA a1.toNat) a0.Frame.Now).1) rfl]
 refine rpS ?_
 exact rtO [.cell 4 43, .tmp 5] f
theorem Hi (a0 : List Zj) (a1 : Int) : Sa 235 [rL 4 Zj.row a0, rI a1] [rI (zZ a0 a1)] := by
 have f := me (zZ.eq_1 a0 a1)
 refine so func235 ntmps235 ?_
 refine lp1 (z9.eq_2 a0 a1) (fun J => YT 20 [eL 0 4 a0 Zj.row, eI 1 a1, eI 5 (J : Int)]) (fun n1 J => a0.length < n1 + J /\ J <= a0.length) (a0.length + 1) 0 (fun p1 J e1 j1 => ?_)
 refine cFf e1 ?_ ?_ <;> intro k2 h1 e1
 ·have i1 := ix h1
  have m2 := ml a0 (k2 0 _ rfl)
  have w1 := wr J
  simp [i1, ZB]
  refine rpS ?_
  refine cF e1 ?_ ?_ <;> intro k3 h2 e1
  ·have f := ms f e1
   exact rt [.tmp 4] f
  exact ny1 w1 e1
 have f := ms f e1
 exact rt [.tmp 4] f
theorem Bv (a0 : List Zj) (a1 : Int) : Sa 181 [rL 4 Zj.row a0, rI a1] [rI (Tg a0 a1)] := by
 have f := me (Tg.eq_1 a0 a1)
 refine so func181 ntmps181 ?_
 refine cRs (Hi a0 a1) ?_
 refine cFt f ?_ ?_ <;> intro k1 h1 f
 ·exact rt [.tmp 4] f
 have i1 : (zZ a0 a1).toNat < a0.length := by have := Ig a0 a1; exact il
 simp [i1, ZB]
 refine rpS ?_
 exact rt [.tmp 4] f
theorem TI (a0 : Zq) (a1 : Int) : Sa 119 [a0.row, rI a1] [rB (jF a0 a1)] := by
 have f := me (jF.eq_1 a0 a1)
 refine so func119 ntmps119 ?_
 refine cRs (zh a0.Zm a1) ?_
 refine dIs mixed ?_
 refine gIf ?_ ?_ <;> intro G
 ·have i1 : (Ye a0.Zm a1).toNat < a0.Zm.length := by have := Kc a0.Zm a1; exact il
  simp [i1, ZB, G]
  refine rpG ?_
  refine cGg (fun gg => (Bv a0.Methods (nth a0.Zm (Ye a0.Zm a1).toNat).Method)) ?_
  exact rtg [.tmp 4] f
 ·refine sGo ?_
  simp [G]
  refine rpG ?_
  exact rtg [.tmp 4] f
theorem GI (a0 : ZH) (a1 : Int) (a2 : Int) (a3 : ZT) (u0 : Sm 2314240 a0) (u1 : Sm 2314240 a3) : Sd 57 [a0.row, rI a1, rI a2, a3.row] [(xZ a0 a1 a2 a3).1.row, rB (xZ a0 a1 a2 a3).2] := by
 have f := me (xZ.eq_1 a0 a1 a2 a3)
 refine soD func57 ntmps57 ?_
 refine cDs [false, false, false, true, true, false, false, true, false, false, true, false] (Ql a0 (sg u0)) ?_
 refine cRs (jN a0 a1) ?_
 refine cGs (fun gg => (TI a0.Frame a2)) ?_
 have c1 := sl 2314240 a0.ZA (an u0 u1)
 have w1 : IntKind.i64.wrap ((a0.ZA.length : Int) - 1) = (a0.ZA.length : Int) - 1 := YG (by omega) (by omega)
 refine cFo f ?_ ?_ <;> intro k1 h1 f
 ·have q1 := h1; try simp [w1, Qo, YN] at q1
  simp
  refine H5 (rv := [.cell 8 43, .tmp 9]) rfl ?_
  simp [f.h]
  all_goals ((try simp only [q3, true_and]); (try (rintro r (⟨a, _, rfl⟩ | rfl) x hx <;> simp at hx <;> subst hx <;> rfl)))
 have q1 := h1; try simp [w1, Qo, YN] at q1
 simp
 refine cRs (MI a0 a2 a3 0 10000 (sg u0) (sg u1)) ?_
 refine cFo f ?_ ?_ <;> intro k2 h2 f
 ·have q2 := h2; try simp at q2
  simp
  refine H5 (rv := [.cell 8 43, .tmp 9]) rfl ?_
  simp [f.h]
  all_goals ((try simp only [q3, true_and]); (try (rintro r (⟨a, _, rfl⟩ | rfl) x hx <;> simp at hx <;> subst hx <;> rfl)))
 have q2 := h2; try simp at q2
 simp
 refine dIo mixed ?_
 have i1 := ik a1.toNat a0.ZA
 simp [i1, ZB]
 refine rpS ?_
 refine cDs [] (Sc (nth a0.ZA a1.toNat) (Xv a0 a2 a3 0 10000).1 (by first | (exact ZZ (n := 2314240) (by decide) (xs (an u0 u1))) | (exact ZZ (n := 2314240) (by decide) (VF (xs (an u0 u1)) (by decide)))) (by first | (exact ZZ (n := 2314240) (by decide) (xs (an u0 u1))) | (exact ZZ (n := 2314240) (by decide) (VF (xs (an u0 u1)) (by decide))))) ?_
 refine cFo f ?_ ?_ <;> intro k4 h3 f
 ·have q3 := h3; try simp at q3
  simp
  refine H5 (rv := [.cell 8 43, .tmp 9]) rfl ?_
  simp [f.h]
  all_goals ((try simp only [q3, true_and]); (try (rintro r (⟨a, _, rfl⟩ | rfl) x hx <;> simp at hx <;> subst hx <;> rfl)))
 have q3 := h3; try simp at q3
 simp [i1, ZB]
 refine rpS ?_
 refine SE (t := 16) (j := 7) (i := a1.toNat) (size := 2) (rows := (a0.ZA.map ZC.row)) (ds := (Q0 (nth a0.ZA a1.toNat) (Xv a0 a2 a3 0 10000).1).1.row) (L := [(46, 1)]) ?_
 have c2 := sl 2314240 a0.Z4 (an u0 u1)
 simp [YL (x := (Q0 (nth a0.ZA a1.toNat) (Xv a0 a2 a3 0 10000).1).1) rfl, c1, i1, ZB, Zd]
 refine rpS ?_
 refine H5 (rv := [.cell 8 43, .tmp 9]) rfl ?_
 simp [f.h]
 all_goals ((try simp only [q3, true_and]); (try (rintro r (⟨a, _, rfl⟩ | rfl) x hx <;> simp at hx <;> subst hx <;> rfl)))
theorem Ra (a0 : ZH) (u0 : Sm 2330624 a0) : Sd 120 [a0.row] [rL 1 iR (Yd a0)] := by
 have f := me (Yd.eq_1 a0)
 refine soD func120 ntmps120 ?_
 refine lp2 (Qb.eq_2 a0) (fun J U => YT 39 [eX 1 (a0.row.map .d), (3, .one (.sref 3 0 0 J.length), [.arr false 1 (J.map iR)]), eI 4 (U : Int)]) (fun n1 J U => a0.Frame.ZE.length < n1 + U /\ U <= a0.Frame.ZE.length /\ J.length <= 0 + 1 * U) (a0.Frame.ZE.length + 1) ([] : List Int) 0 (fun p1 J U e1 j1 => ?_) (h0 := wkS [((3, 0), some (6, 0))] [])
 refine cFf e1 ?_ ?_ <;> intro k2 h1 e1
 ·have i1 := ix h1
  have m2 := ml a0.Frame.ZE (k2 10 _ rfl)
  have c1 := sl 2330624 a0.Frame.ZE u0
  have w1 := wr U
  simp [i1, ZB]
  refine rpS ?_
  refine cRs (Oh a0.YJ (nth a0.Frame.ZE U).Id) ?_
  refine cGs (fun gg => (TI a0.Frame (nth a0.Frame.ZE U).Key)) ?_
  refine cF e1 ?_ ?_ <;> intro k3 h2 e1
  ·exact nx2 e1 (hw := Xf [((3, 0), some (37, 0))] [] rfl (by simp [w1]))
  exact ny2 w1 e1
 have c2 := sl 2330624 a0.Frame.ZE u0
 have f := ms f e1
 exact rtD [.tmp 2] f
theorem Jc {a b : Prop} (h : b) (k : a := by (intros; first | omega | with_unfolding_all (first | first | omega | (have f0 : 0 <= (ZF a0 a1).1 := (by first | omega | (simp at *; omega)); have fi := Y8 a0 a1 f0; omega) | (have f0 : 0 <= (ZF a0 a1).1 := (by first | omega | (simp at *; omega)); have fi := Y8 a0 a1 f0; have ll := qv (nth a0.ZA (ZF a0 a1).1.toNat) (Zg a0.Frame.Methods a0.Frame.Now); omega) | (have fl := yd a0; have fm := XP (Zq.XV (ZH.Xj u0)); (try dsimp only at *); omega)) | ((try simp only [K1, show ∀ x, IntKind.i64.wrap x = W x from fun _ => rfl] at *); omega))) : a /\ b := ⟨k, h⟩
theorem MA (a0 : ZH) (a1 : Int) (a2 : Int) (u0 : Sm 2310144 a0) : Sd 58 [a0.row, rI a1, rI a2] [(zE a0 a1 a2).1.row, rB (zE a0 a1 a2).2] := by
 have f := me (zE.eq_1 a0 a1 a2)
 refine soD func58 ntmps58 ?_
 refine cDs [false, false, false, true, true, false, false, true, false, false, true, false] (Ql a0 (sg u0)) ?_
 refine cRs (Pf a0 a1) ?_
 refine cRs (qo a0.Frame.Methods a0.Frame.Now) ?_
 refine cRs (Yv.rd (Ra a0 (sg u0))) ?_
 refine cGs (fun gg => (Oh a0.Z4 a1)) ?_
 refine cFt f ?_ ?_ <;> intro k1 h1 f
 ·exact rtD [.cell 6 43, .tmp 7] f
 have i1 : (ZF a0 a1).1.toNat < a0.ZA.length := by first | omega | (have f0 : 0 <= (ZF a0 a1).1 := (by first | omega | (simp at *; omega)); have fi := Y8 a0 a1 f0; omega) | (have f0 : 0 <= (ZF a0 a1).1 := (by first | omega | (simp at *; omega)); have fi := Y8 a0 a1 f0; have ll := qv (nth a0.ZA (ZF a0 a1).1.toNat) (Zg a0.Frame.Methods a0.Frame.Now); omega)
 simp [i1, ZB]
 repeat with_reducible refine Jc ?_
 refine cR (Yv.rd (Vh (nth a0.ZA (ZF a0 a1).1.toNat) (Zg a0.Frame.Methods a0.Frame.Now) (sg (Z7 (ZH.YW u0))))) ?_
 have i2 : (ZF a0 a1).2.toNat < (YB (nth a0.ZA (ZF a0 a1).1.toNat) (Zg a0.Frame.Methods a0.Frame.Now)).length := by first | omega | (have f0 : 0 <= (ZF a0 a1).1 := (by first | omega | (simp at *; omega)); have fi := Y8 a0 a1 f0; omega) | (have f0 : 0 <= (ZF a0 a1).1 := (by first | omega | (simp at *; omega)); have fi := Y8 a0 a1 f0; have ll := qv (nth a0.ZA (ZF a0 a1).1.toNat) (Zg a0.Frame.Methods a0.Frame.Now); omega)
 have i3 : (ZF a0 a1).2.toNat < (nth a0.ZA (ZF a0 a1).1.toNat).ZD.length := by first | omega | (have f0 : 0 <= (ZF a0 a1).1 := (by first | omega | (simp at *; omega)); have fi := Y8 a0 a1 f0; omega) | (have f0 : 0 <= (ZF a0 a1).1 := (by first | omega | (simp at *; omega)); have fi := Y8 a0 a1 f0; have ll := qv (nth a0.ZA (ZF a0 a1).1.toNat) (Zg a0.Frame.Methods a0.Frame.Now); omega)
 simp [i2, ZB, i1, i3]
 repeat with_reducible refine Jc ?_
 refine lp2 (z6.eq_2 a0 a1 a2) (fun J U => YT 140 [eI 2 a2, eX 3 (a0.row.map .d), (6, .one (.bptr 6 0), [.box [.nil 5, .nil 3, .nil 4, .d (.int .i64 0), .d (.int .i64 0), .nil 7, .nil 1, .nil 2, .nil 1, .nil 1, .d (.int .i64 0), .nil 1]]), (8, .one (.bptr 8 0), [.box [.sref 21 0 0 a0.Frame.Zm.length, .sref 21 1 0 a0.Frame.ZE.length, .sref 21 2 0 a0.Frame.Methods.length, .d (.int .i64 a0.Frame.KZ), .d (.int .i64 a0.Frame.Now), .sref 21 5 0 a0.ZN.length, .sref 21 6 0 a0.Zl.length, .sref 21 7 0 a0.ZA.length, .sref 21 8 0 a0.YX.length, .sref 21 9 0 a0.YJ.length, .d (.int .i64 a0.Next), .sref 21 11 0 a0.Z4.length]]), eI 9 (ZF a0 a1).1, eI 10 (ZF a0 a1).2, eL 12 1 (Yd a0) iR, eI 13 (nth (YB (nth a0.ZA (ZF a0 a1).1.toNat) (Zg a0.Frame.Methods a0.Frame.Now)) (ZF a0 a1).2.toNat), (14, .one (.bptr 14 0), [.box [.d (.int .i64 ((nth (nth a0.ZA (ZF a0 a1).1.toNat).ZD (ZF a0 a1).2.toNat).ZJ.ZL.length : Int)), .d (.int .i64 (Zg a0.Frame.Methods a0.Frame.Now)), .d (.int .i64 (nth (YB (nth a0.ZA (ZF a0 a1).1.toNat) (Zg a0.Frame.Methods a0.Frame.Now)) (ZF a0 a1).2.toNat)), .nil 2, .sref 14 5 0 U.length], .none, .none, .none, .none, .arr false 5 (U.map ZW.row)]), eI 15 (J : Int), (21, .any, [.arr false 5 (a0.Frame.Zm.map YZ.row), .arr false 3 (a0.Frame.ZE.map ZR.row), .arr false 4 (a0.Frame.Methods.map Zj.row), .none, .none, .arr false 7 (a0.ZN.map Z1.row), .arr false 1 (a0.Zl.map iR), .arr true 2 (a0.ZA.map ZC.row), .arr false 1 (a0.YX.map iR), .arr false 1 (a0.YJ.map iR), .none, .arr false 1 (a0.Z4.map iR)])]) (fun n1 J U => (Yd a0).length < n1 + J /\ J <= (Yd a0).length /\ U.length <= 0 + 1 * J) ((Yd a0).length + 1) 0 ([] : List ZW) (fun p1 J U e1 j1 => ?_) (h0 := wkS [((14, 5), none)] [])
 try dsimp only at j1
 refine cF e1 ?_ ?_ <;> intro k3 h2 e1
 ·have i4 := ix h2
  have m2 := ml (Yd a0) (k3 12 _ rfl)
  have w1 := wr J
  refine dIo mixed ?_
  simp [i4, ZB]
  repeat with_reducible refine Jc ?_
  refine cRs (UJ a0.Frame.Zm a0.Frame.ZE (ZW.mk (nth (Yd a0) J) 0 a2 (nth (YB (nth a0.ZA (ZF a0 a1).1.toNat) (Zg a0.Frame.Methods a0.Frame.Now)) (ZF a0 a1).2.toNat) 0) (sg (Zq.xw (ZH.Xj u0))) (sg (Zq.XV (ZH.Xj u0)))) ?_
  refine cFt e1 ?_ ?_ <;> intro k5 h3 e1
  ·have f := ms f e1
   exact rtD [.cell 6 43, .tmp 7] f
  simp
  repeat with_reducible refine Jc ?_
  exact nx2 e1 (hw := Xf [((14, 5), some (111, 0))] [] rfl (by simp [w1]))
 have f := ms f e1
 refine dIo mixed ?_
 simp [i1, ZB, i3]
 repeat with_reducible refine Jc ?_
 refine cDs [] (RL (nth (nth a0.ZA (ZF a0 a1).1.toNat).ZD (ZF a0 a1).2.toNat).ZJ (ZK.mk ((nth (nth a0.ZA (ZF a0 a1).1.toNat).ZD (ZF a0 a1).2.toNat).ZJ.ZL.length : Int) (Zg a0.Frame.Methods a0.Frame.Now) (nth (YB (nth a0.ZA (ZF a0 a1).1.toNat) (Zg a0.Frame.Methods a0.Frame.Now)) (ZF a0 a1).2.toNat) ([] : List Zy) U) (by first | (have fl := yd a0; have fm := XP (Zq.XV (ZH.Xj u0)); simp [XC]; omega) | (refine ZZ (n := 2310144) (by decide) ?_; simp (maxDischargeDepth := 12) [u0]; done)) (by first | (have fl := yd a0; have fm := XP (Zq.XV (ZH.Xj u0)); simp [XC]; omega) | (refine ZZ (n := 2310144) (by decide) ?_; simp (maxDischargeDepth := 12) [u0]; done))) ?_
 refine drJ [] mixed ?_
 simp [i1, ZB, i3]
 repeat with_reducible refine Jc ?_
 refine mj (t := 21) (j := 7) (i := (ZF a0 a1).1.toNat) (c := 1) (k' := (ZF a0 a1).2.toNat) (q := 14) (n := 16) (size := 2) (s := ((nth a0.ZA (ZF a0 a1).1.toNat).ZD.map ZM.row)) (rows := (a0.ZA.map ZC.row)) (ds := (Qm (nth (nth a0.ZA (ZF a0 a1).1.toNat).ZD (ZF a0 a1).2.toNat).ZJ (ZK.mk ((nth (nth a0.ZA (ZF a0 a1).1.toNat).ZD (ZF a0 a1).2.toNat).ZJ.ZL.length : Int) (Zg a0.Frame.Methods a0.Frame.Now) (nth (YB (nth a0.ZA (ZF a0 a1).1.toNat) (Zg a0.Frame.Methods a0.Frame.Now)) (ZF a0 a1).2.toNat) ([] : List Zy) U)).1.row) (L := [(125, 0), (125, 1)]) rfl rfl rfl rfl (by simp; rfl) (by simp) (by simp) (by simp [i1, i3]) (by simp [ZB, Zd, i1, i3]) (by simp [i1, i3]) (by simp) (by simp) (by simp) (by simp) (by simp) (by simp) ?_
 simp [YL (x := (ZC.mk (nth a0.ZA (ZF a0 a1).1.toNat).Id ((nth a0.ZA (ZF a0 a1).1.toNat).ZD.set (ZF a0 a1).2.toNat (ZM.mk (nth (nth a0.ZA (ZF a0 a1).1.toNat).ZD (ZF a0 a1).2.toNat).Id (nth (nth a0.ZA (ZF a0 a1).1.toNat).ZD (ZF a0 a1).2.toNat).XB (nth (nth a0.ZA (ZF a0 a1).1.toNat).ZD (ZF a0 a1).2.toNat).Doc (nth (nth a0.ZA (ZF a0 a1).1.toNat).ZD (ZF a0 a1).2.toNat).Sig (Qm (nth (nth a0.ZA (ZF a0 a1).1.toNat).ZD (ZF a0 a1).2.toNat).ZJ (ZK.mk ((nth (nth a0.ZA (ZF a0 a1).1.toNat).ZD (ZF a0 a1).2.toNat).ZJ.ZL.length : Int) (Zg a0.Frame.Methods a0.Frame.Now) (nth (YB (nth a0.ZA (ZF a0 a1).1.toNat) (Zg a0.Frame.Methods a0.Frame.Now)) (ZF a0 a1).2.toNat) ([] : List Zy) U)).1)))) rfl, ZB, Zd, i1, i3]
 repeat with_reducible refine Jc ?_
 exact rtD [.cell 6 43, .tmp 7] f
theorem Yf {a b : Prop} (h : b) (k : a := by (intros; first | omega | with_unfolding_all (first | first | omega | (have fi := Y8 a0 a1 (by first | omega | (simp at *; omega)); omega) | (simp only [Bool.or_eq_false_iff, decide_eq_false_iff_not] at *; omega)) | (simp_all; done) | (simp_all; omega) | grind | ((try simp only [K1, show ∀ x, IntKind.i64.wrap x = W x from fun _ => rfl] at *); omega))) : a /\ b := ⟨k, h⟩
theorem Dg (a0 : ZH) (a1 : Int) (a2 : Int) (u0 : Sm 2318336 a0) : Sd 59 [a0.row, rI a1, rI a2] [(jK a0 a1 a2).1.row, rB (jK a0 a1 a2).2] := by
 have f := me (jK.eq_1 a0 a1 a2)
 refine soD func59 ntmps59 ?_
 refine cDs [false, false, false, true, true, false, false, true, false, false, true, false] (Ql a0 (sg u0)) ?_
 refine cRs (Pf a0 a1) ?_
 refine gIo ?_ ?_ <;> intro G
 ·have fr := G
  have g1 := G; try simp at g1
  have i1 : (ZF a0 a1).1.toNat < a0.ZA.length := by first | omega | (have fi := Y8 a0 a1 (by first | omega | (simp at *; omega)); omega) | (simp only [Bool.or_eq_false_iff, decide_eq_false_iff_not] at *; omega)
  simp [i1, ZB, G]
  repeat with_reducible refine Yf ?_
  refine gK (fun _ => ?_)
  have i2 : (ZF a0 a1).2.toNat < (nth a0.ZA (ZF a0 a1).1.toNat).ZD.length := by first | omega | (have fi := Y8 a0 a1 (by first | omega | (simp at *; omega)); omega) | (simp only [Bool.or_eq_false_iff, decide_eq_false_iff_not] at *; omega)
  simp [i2, ZB, G]
  repeat with_reducible refine Yf ?_
  refine cKo f ?_ ?_ <;> intro k1 h1 f
  ·simp [G]
   repeat with_reducible refine Yf ?_
   exact zx [.cell 6 43, .tmp 7] f
  ·have i3 : 1 < (nth (nth a0.ZA (ZF a0 a1).1.toNat).ZD (ZF a0 a1).2.toNat).ZJ.ZL.length := by first | omega | (have fi := Y8 a0 a1 (by first | omega | (simp at *; omega)); omega) | (simp only [Bool.or_eq_false_iff, decide_eq_false_iff_not] at *; omega)
   simp [i1, ZB, i2, i3, G]
   repeat with_reducible refine Yf ?_
   refine cR (PK (nth (nth (nth a0.ZA (ZF a0 a1).1.toNat).ZD (ZF a0 a1).2.toNat).ZJ.ZL 1)) ?_
   simp [G]
   repeat with_reducible refine Yf ?_
   refine cR (OW a0.ZN (Zb (nth (nth (nth a0.ZA (ZF a0 a1).1.toNat).ZD (ZF a0 a1).2.toNat).ZJ.ZL 1)).1.Zi) ?_
   simp [G]
   repeat with_reducible refine Yf ?_
   refine dIo mixed ?_
   simp [G]
   repeat with_reducible refine Yf ?_
   refine gJo G ?_ ?_ <;> intro G
   ·have g2x := G.2
    try (simp at G; done)
    all_goals
     have g2 := G.2; try simp at g2
     all_goals
      have i4 : (Zx a0.ZN (Zb (nth (nth (nth a0.ZA (ZF a0 a1).1.toNat).ZD (ZF a0 a1).2.toNat).ZJ.ZL 1)).1.Zi).toNat < a0.ZN.length := by have := TD a0.ZN (Zb (nth (nth (nth a0.ZA (ZF a0 a1).1.toNat).ZD (ZF a0 a1).2.toNat).ZJ.ZL 1)).1.Zi; first | omega | (have fi := Y8 a0 a1 (by first | omega | (simp at *; omega)); omega) | (simp only [Bool.or_eq_false_iff, decide_eq_false_iff_not] at *; omega)
      simp [i4, ZB, G]
      repeat with_reducible refine Yf ?_
      refine cGo (fun gg => (TI a0.Frame (nth a0.ZN (Zx a0.ZN (Zb (nth (nth (nth a0.ZA (ZF a0 a1).1.toNat).ZD (ZF a0 a1).2.toNat).ZJ.ZL 1)).1.Zi).toNat).Z2)) ?_
      simp [G]
      repeat with_reducible refine Yf ?_
      refine cKo f ?_ ?_ <;> intro k3 h2 f
      ·simp [G]
       repeat with_reducible refine Yf ?_
       exact zx [.cell 6 43, .tmp 7] f
      ·simp [G]
       repeat with_reducible refine Yf ?_
       refine dIo mixed ?_
       simp [i4, ZB, G]
       repeat with_reducible refine Yf ?_
       refine cR (Wm a0.Frame.Zm (Z0.mk (Zb (nth (nth (nth a0.ZA (ZF a0 a1).1.toNat).ZD (ZF a0 a1).2.toNat).ZJ.ZL 1)).1.Zi a2 (-1) (nth a0.ZN (Zx a0.ZN (Zb (nth (nth (nth a0.ZA (ZF a0 a1).1.toNat).ZD (ZF a0 a1).2.toNat).ZJ.ZL 1)).1.Zi).toNat).Z2 0) (sg (Zq.xw (ZH.Xj u0)))) ?_
       simp [G]
       repeat with_reducible refine Yf ?_
       refine cKo f ?_ ?_ <;> intro k5 h3 f
       ·simp [G]
        repeat with_reducible refine Yf ?_
        exact zx [.cell 6 43, .tmp 7] f
       ·simp [G]
        repeat with_reducible refine Yf ?_
        refine dIo mixed ?_
        simp [i1, ZB, G]
        repeat with_reducible refine Yf ?_
        refine cR (Yv.rd (kW (Ya a0.Frame.Zm (Z0.mk (Zb (nth (nth (nth a0.ZA (ZF a0 a1).1.toNat).ZD (ZF a0 a1).2.toNat).ZJ.ZL 1)).1.Zi a2 (-1) (nth a0.ZN (Zx a0.ZN (Zb (nth (nth (nth a0.ZA (ZF a0 a1).1.toNat).ZD (ZF a0 a1).2.toNat).ZJ.ZL 1)).1.Zi).toNat).Z2 0)).1)) ?_
        simp [G]
        repeat with_reducible refine Yf ?_
        refine cD [] (UA (nth a0.ZA (ZF a0 a1).1.toNat) a1 (Y0 (Ya a0.Frame.Zm (Z0.mk (Zb (nth (nth (nth a0.ZA (ZF a0 a1).1.toNat).ZD (ZF a0 a1).2.toNat).ZJ.ZL 1)).1.Zi a2 (-1) (nth a0.ZN (Zx a0.ZN (Zb (nth (nth (nth a0.ZA (ZF a0 a1).1.toNat).ZD (ZF a0 a1).2.toNat).ZJ.ZL 1)).1.Zi).toNat).Z2 0)).1) (sg (Z7 (ZH.YW u0))) (by simp (maxDischargeDepth := 12) [kh, ZZ (m := 2322432) (by decide) u0]; try omega)) ?_
        simp [i1, ZB, G]
        repeat with_reducible refine Yf ?_
        refine SE (t := 19) (j := 7) (i := (ZF a0 a1).1.toNat) (size := 2) (rows := (a0.ZA.map ZC.row)) (ds := (Xx (nth a0.ZA (ZF a0 a1).1.toNat) a1 (Y0 (Ya a0.Frame.Zm (Z0.mk (Zb (nth (nth (nth a0.ZA (ZF a0 a1).1.toNat).ZD (ZF a0 a1).2.toNat).ZJ.ZL 1)).1.Zi a2 (-1) (nth a0.ZN (Zx a0.ZN (Zb (nth (nth (nth a0.ZA (ZF a0 a1).1.toNat).ZD (ZF a0 a1).2.toNat).ZJ.ZL 1)).1.Zi).toNat).Z2 0)).1)).1.row) (L := [(114, 1)]) ?_
        simp [YL (x := (Xx (nth a0.ZA (ZF a0 a1).1.toNat) a1 (Y0 (Ya a0.Frame.Zm (Z0.mk (Zb (nth (nth (nth a0.ZA (ZF a0 a1).1.toNat).ZD (ZF a0 a1).2.toNat).ZJ.ZL 1)).1.Zi a2 (-1) (nth a0.ZN (Zx a0.ZN (Zb (nth (nth (nth a0.ZA (ZF a0 a1).1.toNat).ZD (ZF a0 a1).2.toNat).ZJ.ZL 1)).1.Zi).toNat).Z2 0)).1)).1) rfl, i1, ZB, Zd, G]
        repeat with_reducible refine Yf ?_
        exact zx [.cell 6 43, .tmp 7] f
   ·have g2x := G.2
    try (simp at G; done)
    all_goals
     simp [G]
     repeat with_reducible refine Yf ?_
     refine sGo ?_
     simp [G]
     repeat with_reducible refine Yf ?_
     refine cKo f ?_ ?_ <;> intro k7 h4 f
     ·simp [G]
      repeat with_reducible refine Yf ?_
      exact zx [.cell 6 43, .tmp 7] f
     ·simp [G] at h4
 ·have fr := G
  simp [G]
  repeat with_reducible refine Yf ?_
  refine sGo ?_
  simp [G]
  repeat with_reducible refine Yf ?_
  refine cKo f ?_ ?_ <;> intro k11 h6 f
  ·simp [G]
   repeat with_reducible refine Yf ?_
   exact zx [.cell 6 43, .tmp 7] f
  ·simp [G] at h6
theorem I2 (a0 : ZH) (a1 : Zp) (u0 : Sm 2293760 a0) (u1 : Sm 2293760 a1) : Sa 21 [a0.row, a1.row] [(XL a0 a1).1.row, rB (XL a0 a1).2] := by
 have f := me (XL.eq_1 a0 a1)
 refine so func21 ntmps21 ?_
 refine cF f ?_ ?_ <;> intro k1 h1 f
 ·refine cDs [false, false, false, true, true, false, false, true, false, false, true, false] (E2 a0 a1.A (sg u0)) ?_
  exact rt [.cell 4 43, .tmp 5] f
 refine cF f ?_ ?_ <;> intro k2 h2 f
 ·refine cDs [false, false, false, true, true, false, false, true, false, false, true, false] (Em a0 a1.A a1.B a1.Doc a1.C a1.D (sg u0) (sg (Zp.kp u1))) ?_
  exact rt [.cell 4 43, .tmp 5] f
 refine cF f ?_ ?_ <;> intro k3 h3 f
 ·refine cDs [false, false, false, true, true, false, false, true, false, false, true, false] (HG a0 a1.A (sg u0)) ?_
  exact rt [.cell 4 43, .tmp 5] f
 refine cF f ?_ ?_ <;> intro k4 h4 f
 ·refine cDs [false, false, false, true, true, false, false, true, false, false, true, false] (IY a0 a1.A (sg u0)) ?_
  exact rt [.cell 4 43, .tmp 5] f
 refine cF f ?_ ?_ <;> intro k5 h5 f
 ·refine cDs [false, false, false, true, true, false, false, true, false, false, true, false] (Gg a0 a1.A a1.Ids a1.B (sg u0) (sg (Zp.vu u1))) ?_
  exact rt [.cell 4 43, .tmp 5] f
 refine cF f ?_ ?_ <;> intro k6 h6 f
 ·refine cDs [false, false, false, true, true, false, false, true, false, false, true, false] (DX a0 a1.A a1.B a1.C (sg u0)) ?_
  exact rt [.cell 4 43, .tmp 5] f
 refine cF f ?_ ?_ <;> intro k7 h7 f
 ·refine cOs (I0 a0 a1.A (sg u0)) ?_
  exact rt [.cell 4 43, .tmp 5] f
 refine cF f ?_ ?_ <;> intro k8 h8 f
 ·refine cDs [false, false, false, true, true, false, false, true, false, false, true, false] (GI a0 a1.A a1.B a1.Doc (sg u0) (sg (Zp.kp u1))) ?_
  exact rt [.cell 4 43, .tmp 5] f
 refine cF f ?_ ?_ <;> intro k9 h9 f
 ·refine cDs [false, false, false, true, true, false, false, true, false, false, true, false] (MA a0 a1.A a1.B (sg u0)) ?_
  exact rt [.cell 4 43, .tmp 5] f
 refine cF f ?_ ?_ <;> intro aH dY f
 ·refine cDs [false, false, false, true, true, false, false, true, false, false, true, false] (Dg a0 a1.A a1.B (sg u0)) ?_
  exact rt [.cell 4 43, .tmp 5] f
 refine cDs [false, false, false, true, true, false, false, true, false, false, true, false] (Ql a0 (sg u0)) ?_
 exact rt [.cell 4 43, .tmp 5] f
end Go.Proofs.YtngnbcmfckmklaaGreat
