/- Contracts of the functions GQ the abstract machine, part S1. No condition. -/
import Derived.Test.YtdkobknehoecjaaGreatL
import Derived.Test.YtdkobknehoecjaaGreatTy
namespace Go.Proofs.YtdkobknehoecjaaGreat
open Tryz
open Go.Vm Go.Mo
set_option maxHeartbeats 1000000
set_option maxRecDepth 100000
set_option linter.unusedSimpArgs false
set_option linter.unusedVariables false
theorem Fg (a0 : Z8) (u0 : Sm 2342912 a0) : Sd 100 [a0.row] [(P1 a0).row] := by
 have f := me (P1.eq_1 a0)
 have c1 := sl 2342912 a0.Zq u0
 have c2 := sl 2342912 a0.ZG u0
 have c3 := sl 2342912 a0.Methods u0
 refine soD func100 ntmps100 ?_
 exact rtD [.cell 2 43] f
theorem I6 (a0 : Z8) (u0 : Sm 2342912 a0) : Sd 100 [a0.row] [a0.row] := by
  have h := Fg a0 u0
  rwa [EF] at h
theorem Bq (a0 : ZV) (u0 : Sm 2342912 a0) : Sd 150 [a0.row] [(HG a0).row] := by
 have f := me (HG.eq_1 a0)
 refine soD func150 ntmps150 ?_
 refine H4 [2, 3, 4, 5, 6, 7, 8, 9, 0, 1, 10, 11] mixed (by kernel_rfl) (by kernel_rfl) (by kernel_rfl) ?_
 have c1 := sl 2342912 a0.ZN u0
 have c2 := sl 2342912 a0.ZR u0
 simp
 refine rpS ?_
 exact rtD [.cell 2 51] f
theorem O0 (a0 : ZV) (u0 : Sm 2342912 a0) : Sd 150 [a0.row] [a0.row] := by
  have h := Bq a0 u0
  rwa [Ab] at h
theorem CH (a0 : ZO) (u0 : Sm 2342912 a0) : Sd 225 [a0.row] [(Nn a0).row] := by
 have f := me (Nn.eq_1 a0)
 refine soD func225 ntmps225 ?_
 refine H4 [2, 3, 4, 5, 0, 1, 6, 7, 8, 9] mixed (by kernel_rfl) (by kernel_rfl) (by kernel_rfl) ?_
 have c1 := sl 2342912 a0.YP u0
 simp
 refine rpS ?_
 exact rtD [.cell 2 129] f
theorem Pe (a0 : ZO) (u0 : Sm 2342912 a0) : Sd 225 [a0.row] [a0.row] := by
  have h := CH a0 u0
  rwa [Ct] at h
theorem B0 (a0 : List ZO) (u0 : Sm 2338816 a0) : Sd 230 [rL 3 ZO.row a0] [rL 3 ZO.row (Od a0)] := by
 have f := me (Od.eq_1 a0)
 refine soD func230 ntmps230 ?_
 refine o9 (news := (([] : List ZO).map ZO.row)) (L := []) rfl rfl rfl rfl (by simp) (by simp) (by simp) (by simp) (by simp) (by simp) ?_
 simp
 refine lp2 (Tq.eq_2 a0) (fun J U => YX 21 [eL 0 3 a0 ZO.row, (3, .one (.sref 3 0 0 J.length), [.arr true 3 (J.map ZO.row)]), eI 4 (U : Int)]) (fun n1 J U => a0.length < n1 + U /\ U <= a0.length /\ J.length <= 0 + 1 * U) (a0.length + 1) ([] : List ZO) 0 (fun p1 J U e1 j1 => ?_) (h0 := wkS [((3, 0), some (5, 0))] [])
 refine cFf e1 ?_ ?_ <;> intro k2 h1 e1
 ·have i1 := ix h1
  have m2 := ml a0 (k2 0 _ rfl)
  have c1 := sl 2338816 a0 u0
  have w1 := wr U
  simp [i1, ZE]
  refine rpS ?_
  refine cDs [true, false] (Pe (nth a0 U) (sg (Yf u0))) ?_
  refine Wd ?_
  simp
  refine Vl (lC := (J.map ZO.row)) (news := (([(nth a0 U)] : List ZO).map ZO.row)) (l1 := [(3, 0)]) (l2 := [(17, 1)]) (size := 3) ?_
  simp
  exact nx2 e1 (hw := Xh [((3, 0), some (19, 0))] [] rfl (by simp [w1]))
 have c2 := sl 2338816 a0 u0
 have f := ms f e1
 exact rtD [.tmp 2] f
theorem Dz (a0 : List ZO) (u0 : Sm 2338816 a0) : Sd 230 [rL 3 ZO.row a0] [rL 3 ZO.row a0] := by
  have h := B0 a0 u0
  rwa [B4] at h
theorem CB (a0 : ZK) (u0 : Sm 2342912 a0) : Sd 172 [a0.row] [(N6 a0).row] := by
 have f := me (N6.eq_1 a0)
 have c1 := sl 2342912 a0.Path u0
 have c2 := sl 2342912 a0.YE u0
 refine soD func172 ntmps172 ?_
 exact rtD [.cell 2 157] f
theorem Pj (a0 : ZK) (u0 : Sm 2342912 a0) : Sd 172 [a0.row] [a0.row] := by
  have h := CB a0 u0
  rwa [Ck] at h
theorem BO (a0 : Za) (u0 : Sm 2334720 a0) : Sd 169 [a0.row] [(R5 a0).row] := by
 have f := me (R5.eq_1 a0)
 refine soD func169 ntmps169 ?_
 refine cDs [] (Dz a0.ZL (sg (Za.kB u0))) ?_
 refine lp2 (Vs.eq_2 a0) (fun J U => YX 28 [eX 1 (a0.row.map .d), (2, .one (.bptr 2 0), [.box [.nil 3, .nil 5]]), (3, .one (.bptr 3 0), [.box [.sref 7 0 0 a0.ZL.length, .sref 3 2 0 U.length], .none, .arr true 5 (U.map ZK.row)]), eI 4 (J : Int), (7, .any, [.arr true 3 (a0.ZL.map ZO.row)])]) (fun n1 J U => a0.Zd.length < n1 + J /\ J <= a0.Zd.length /\ U.length <= 0 + 1 * J) (a0.Zd.length + 1) 0 ([] : List ZK) (fun p1 J U e1 j1 => ?_) (h0 := wkS [((3, 2), none)] [])
 refine cF e1 ?_ ?_ <;> intro k2 h1 e1
 ·have i1 := ix h1
  have m2 := ml a0.Zd (k2 11 _ rfl)
  have c1 := sl 2334720 a0.Zd u0
  have w1 := wr J
  refine drJ [25] mixed ?_
  simp [i1, ZE]
  refine rpS ?_
  refine cDs [true, true, true, false, false] (Pj (nth a0.Zd J) (sg (Yf (Za.jO u0)))) ?_
  refine Wd ?_
  simp
  refine Vl (lC := (U.map ZK.row)) (news := (([(nth a0.Zd J)] : List ZK).map ZK.row)) (l1 := [(3, 2)]) (l2 := [(23, 3), (23, 4)]) (size := 5) ?_
  simp
  exact nx2 e1 (hw := Xh [((3, 2), some (25, 0))] [] rfl (by simp [w1]))
 have c2 := sl 2334720 a0.Zd u0
 have f := ms f e1
 exact rtD [.cell 2 112] f
theorem yo (a0 : Za) (u0 : Sm 2334720 a0) : Sd 169 [a0.row] [a0.row] := by
  have h := BO a0 u0
  rwa [CO] at h
theorem BD (a0 : ZM) (u0 : Sm 2330624 a0) : Sd 155 [a0.row] [(MQ a0).row] := by
 have f := me (MQ.eq_1 a0)
 refine soD func155 ntmps155 ?_
 refine cDs [true, false, false] (O0 a0.Doc (sg (ZM.kH u0))) ?_
 refine cDs [] (yo a0.ZI (sg (ZM.Jf u0))) ?_
 exact rtD [.cell 2 114] f
theorem Ju (a0 : ZM) (u0 : Sm 2330624 a0) : Sd 155 [a0.row] [a0.row] := by
  have h := BD a0 u0
  rwa [BF] at h
theorem Cr (a0 : ZD) (u0 : Sm 2326528 a0) : Sd 101 [a0.row] [(PB a0).row] := by
 have f := me (PB.eq_1 a0)
 refine soD func101 ntmps101 ?_
 refine lp2 (Vw.eq_2 a0) (fun J U => YX 27 [eX 1 (a0.row.map .d), (2, .one (.bptr 2 0), [.box [.d (.int .i64 0), .nil 16]]), (3, .one (.bptr 3 0), [.box [.d (.int .i64 a0.Id), .sref 3 2 0 U.length], .none, .arr true 16 (U.map ZM.row)]), eI 4 (J : Int)]) (fun n1 J U => a0.ZF.length < n1 + J /\ J <= a0.ZF.length /\ U.length <= 0 + 1 * J) (a0.ZF.length + 1) 0 ([] : List ZM) (fun p1 J U e1 j1 => ?_) (h0 := wkS [((3, 2), none)] [])
 refine cF e1 ?_ ?_ <;> intro k2 h1 e1
 ·have i1 := ix h1
  have m2 := ml a0.ZF (k2 10 _ rfl)
  have c1 := sl 2326528 a0.ZF u0
  have w1 := wr J
  refine drJ [24] mixed ?_
  simp [i1, ZE]
  refine rpS ?_
  refine cDs [true, true, true, false, false] (Ju (nth a0.ZF J) (sg (Yf (ZD.Ys u0)))) ?_
  refine Wd ?_
  simp
  refine Vl (lC := (U.map ZM.row)) (news := (([(nth a0.ZF J)] : List ZM).map ZM.row)) (l1 := [(3, 2)]) (l2 := [(22, 3), (22, 4), (22, 14), (22, 15)]) (size := 16) ?_
  simp
  exact nx2 e1 (hw := Xh [((3, 2), some (24, 0))] [] rfl (by simp [w1]))
 have c2 := sl 2326528 a0.ZF u0
 have f := ms f e1
 exact rtD [.cell 2 119] f
theorem QD (a0 : ZD) (u0 : Sm 2326528 a0) : Sd 101 [a0.row] [a0.row] := by
  have h := Cr a0 u0
  rwa [BN] at h
theorem D1 (a0 : ZJ) (u0 : Sm 2322432 a0) : Sd 37 [a0.row] [(PF a0).row] := by
 have f := me (PF.eq_1 a0)
 refine soD func37 ntmps37 ?_
 refine H4 [0, 1, 2, 3, 4, 5, 6, 7, 8, 9, 10, 11, 12, 13, 14, 15, 16, 17, 18, 21, 22, 23, 24, 19, 20, 25, 26, 27] mixed (by kernel_rfl) (by kernel_rfl) (by kernel_rfl) ?_
 simp
 have c1 := sl 2322432 a0.ZS u0
 have c2 := sl 2322432 a0.Zr u0
 have c3 := sl 2322432 a0.Ym u0
 have c4 := sl 2322432 a0.YW u0
 have c5 := sl 2322432 a0.YN u0
 refine cDs [false, false, false] (I6 a0.Frame (sg (ZJ.Xq u0))) ?_
 refine lp2 (V2.eq_2 a0) (fun J U => YX 50 [eX 1 (a0.row.map .d), (2, .one (.bptr 2 0), [.box [.nil 5, .nil 3, .nil 4, .d (.int .i64 0), .d (.int .i64 0), .nil 7, .nil 1, .nil 2, .nil 1, .nil 1, .d (.int .i64 0), .nil 1]]), (3, .one (.bptr 3 0), [.box [.sref 7 0 0 a0.Frame.Zq.length, .sref 7 1 0 a0.Frame.ZG.length, .sref 7 2 0 a0.Frame.Methods.length, .d (.int .i64 a0.Frame.y9), .d (.int .i64 a0.Frame.Now), .sref 11 0 0 a0.ZS.length, .sref 15 0 0 a0.Zr.length, .sref 3 8 0 U.length, .sref 19 0 0 a0.Ym.length, .sref 23 0 0 a0.YW.length, .d (.int .i64 a0.Next), .sref 29 0 0 a0.YN.length], .none, .none, .none, .none, .none, .none, .none, .arr true 2 (U.map ZD.row)]), eI 4 (J : Int), (7, .any, [.arr false 5 (a0.Frame.Zq.map YR.row), .arr false 3 (a0.Frame.ZG.map ZQ.row), .arr false 4 (a0.Frame.Methods.map Zf.row)]), (11, .any, [.arr false 7 (a0.ZS.map Z1.row)]), (15, .any, [.arr false 1 (a0.Zr.map iR)]), (19, .any, [.arr false 1 (a0.Ym.map iR)]), (23, .any, [.arr false 1 (a0.YW.map iR)]), (29, .any, [.arr false 1 (a0.YN.map iR)])]) (fun n1 J U => a0.ZA.length < n1 + J /\ J <= a0.ZA.length /\ U.length <= 0 + 1 * J) (a0.ZA.length + 1) 0 ([] : List ZD) (fun p1 J U e1 j1 => ?_) (h0 := wkS [((3, 8), none)] [])
 refine cF e1 ?_ ?_ <;> intro k3 h1 e1
 ·have i1 := ix h1
  have m2 := ml a0.ZA (k3 33 _ rfl)
  have c6 := sl 2322432 a0.ZA u0
  have w1 := wr J
  refine drJ [47] mixed ?_
  simp [i1, ZE]
  refine rpS ?_
  refine cDs [] (QD (nth a0.ZA J) (sg (Yf (ZJ.Y1 u0)))) ?_
  refine Wd ?_
  simp
  refine Vl (lC := (U.map ZD.row)) (news := (([(nth a0.ZA J)] : List ZD).map ZD.row)) (l1 := [(3, 8)]) (l2 := [(45, 1)]) (size := 2) ?_
  simp
  exact nx2 e1 (hw := Xh [((3, 8), some (47, 0))] [] rfl (by simp [w1]))
 have c7 := sl 2322432 a0.ZA u0
 have f := ms f e1
 exact rtD [.cell 2 47] f
theorem Qx (a0 : ZJ) (u0 : Sm 2322432 a0) : Sd 37 [a0.row] [a0.row] := by
  have h := D1 a0 u0
  rwa [Cp] at h
theorem Y8 (a0 : Int) (a1 : Int) (a2 : Int) : Sa 74 [rI a0, rI a1, rI a2] [rB (YL a0 a1 a2)] := by
 have f := me (YL.eq_1 a0 a1 a2)
 refine so func74 ntmps74 ?_
 exact rt [.tmp 6] f
theorem FQ (a0 : ZJ) (a1 : Int) (u0 : Sm 2318336 a0) : Sd 27 [a0.row, rI a1] [(qn a0 a1).1.row, rB (qn a0 a1).2] := by
 have f := me (qn.eq_1 a0 a1)
 refine soD func27 ntmps27 ?_
 refine cDs [false, false, false, true, true, false, false, true, false, false, true, false] (Qx a0 (sg u0)) ?_
 refine cRs (Y8 a1 0 100) ?_
 refine cFo f ?_ ?_ <;> intro k1 h1 f
 ·have q1 := h1; try simp [YL] at q1
  simp
  exact rtD [.cell 4 47, .tmp 5] f
 have q1 := h1; try simp [YL] at q1
 simp
 exact rtD [.cell 4 47, .tmp 5] f
theorem zG (a0 : List YR) (a1 : Int) : Sa 75 [rL 5 YR.row a0, rI a1] [rI (Yd a0 a1)] := by
 have f := me (Yd.eq_1 a0 a1)
 refine so func75 ntmps75 ?_
 refine lp1 (qz.eq_2 a0 a1) (fun J => YX 20 [eL 0 5 a0 YR.row, eI 1 a1, eI 5 (J : Int)]) (fun n1 J => a0.length < n1 + J /\ J <= a0.length) (a0.length + 1) 0 (fun p1 J e1 j1 => ?_)
 refine cFf e1 ?_ ?_ <;> intro k2 h1 e1
 ·have i1 := ix h1
  have m2 := ml a0 (k2 0 _ rfl)
  have w1 := wr J
  simp [i1, ZE]
  refine rpS ?_
  refine cF e1 ?_ ?_ <;> intro k3 h2 e1
  ·have f := ms f e1
   exact rt [.tmp 4] f
  exact ny1 w1 e1
 have f := ms f e1
 exact rt [.tmp 4] f
theorem jK (a0 : ZJ) (a1 : Int) : Sa 76 [a0.row, rI a1] [rB (Qi a0 a1)] := by
 have f := me (Qi.eq_1 a0 a1)
 refine so func76 ntmps76 ?_
 refine cRs (Y8 a1 0 (W ((a0.ZA.length : Int) - 1))) ?_
 exact rt [.tmp 4] f
theorem qY (a0 : List Zf) (a1 : Int) : Sa 85 [rL 4 Zf.row a0, rI a1] [rI (Zh a0 a1)] := by
 have f := me (Zh.eq_1 a0 a1)
 refine so func85 ntmps85 ?_
 refine lp2 (zu.eq_2 a0 a1) (fun J U => YX 54 [eL 0 4 a0 Zf.row, eI 1 a1, eI 5 J, eI 6 (U : Int)]) (fun n1 J U => a0.length < n1 + U /\ U <= a0.length /\ -1 <= J /\ J < (a0.length : Int)) (a0.length + 1) (-1) 0 (fun p1 J U e1 j1 => ?_)
 try dsimp only at j1
 refine cF e1 ?_ ?_ <;> intro k2 h1 e1
 ·have i1 := ix h1
  have m2 := ml a0 (k2 0 _ rfl)
  have w1 := wr U
  refine dIo mixed ?_
  simp [i1, ZE]
  refine rpS ?_
  refine gIf ?_ ?_ <;> intro G
  ·simp [i1, ZE, G]
   refine rpG ?_
   refine gJf G ?_ ?_ <;> intro G
   ·try (simp at G; done)
    all_goals
     simp [i1, ZE, G]
     refine rpG ?_
     refine gK (fun _ => ?_)
     have i2 := ik J.toNat a0
     simp [i2, ZE, G]
     refine rpG ?_
     refine cK e1 ?_ ?_ <;> intro k4 h2 e1
     ·exact ny2 (an w1 G) e1 (hI := by first | omega | (simp at *; omega))
     ·exact ny2 (an w1 G) e1 (hI := by first | omega | (simp at *; omega))
   ·try (simp at G; done)
    all_goals
     refine sGg ?_
     refine cK e1 ?_ ?_ <;> intro k5 h3 e1
     ·exact ny2 (an w1 G) e1 (hI := by first | omega | (simp at *; omega))
     ·exact ny2 (an w1 G) e1 (hI := by first | omega | (simp at *; omega))
  ·refine gJf G ?_ ?_ <;> intro G
   ·try (simp at G; done)
    all_goals
     simp [i1, ZE, G]
     refine rpG ?_
     refine gK (fun _ => ?_)
     have i4 := ik J.toNat a0
     simp [i4, ZE, G]
     refine rpG ?_
     refine cK e1 ?_ ?_ <;> intro k6 h4 e1
     ·simp [G] at h4
     ·simp [G] at h4
   ·try (simp at G; done)
    all_goals
     refine sGg ?_
     refine cK e1 ?_ ?_ <;> intro k7 h5 e1
     ·simp [G] at h5
     ·exact ny2 (an w1 G) e1 (hI := by first | omega | (simp at *; omega))
 have f := ms f e1
 refine cFt f ?_ ?_ <;> intro k8 h6 f
 ·exact rt [.tmp 4] f
 have i6 := ik J.toNat a0
 simp [i6, ZE]
 refine rpS ?_
 exact rt [.tmp 4] f
theorem GC (a0 : ZJ) (a1 : Int) : Sa 147 [a0.row, rI a1] [rI (Xb a0 a1)] := by
 have f := me (Xb.eq_1 a0 a1)
 refine so func147 ntmps147 ?_
 refine lp1 (Jw.eq_2 a0 a1) (fun J => YX 22 [eI 1 a1, eX 2 (a0.row.map .d), eI 5 (J : Int)]) (fun n1 J => a0.ZS.length < n1 + J /\ J <= a0.ZS.length) (a0.ZS.length + 1) 0 (fun p1 J e1 j1 => ?_)
 refine cFf e1 ?_ ?_ <;> intro k2 h1 e1
 ·have i1 := ix h1
  have m2 := ml a0.ZS (k2 8 _ rfl)
  have w1 := wr J
  simp [i1, ZE]
  refine rpS ?_
  refine cF e1 ?_ ?_ <;> intro k3 h2 e1
  ·have f := ms f e1
   exact rt [.tmp 4] f
  exact ny1 w1 e1
 have f := ms f e1
 exact rt [.tmp 4] f
theorem SV (a0 : ZV) : Sa 219 [a0.row] [rB (zJ a0)] := by
 have f := me (zJ.eq_1 a0)
 refine so func219 ntmps219 ?_
 refine lp1 (zi.eq_2 a0) (fun J => YX 51 [eX 1 (a0.row.map .d), eI 3 (J : Int)]) (fun n1 J => a0.ZN.length < n1 + J /\ J <= a0.ZN.length) (a0.ZN.length + 1) 0 (fun p1 J e1 j1 => ?_)
 refine cFf e1 ?_ ?_ <;> intro k2 h1 e1
 ·have i1 := ix h1
  have m2 := ml a0.ZN (k2 7 _ rfl)
  have w1 := wr J
  simp [i1, ZE]
  refine rpS ?_
  refine cF e1 ?_ ?_ <;> intro k3 h2 e1
  ·have f := ms f e1
   exact rt [.tmp 2] f
  exact ny1 w1 e1
 have f := ms f e1
 refine lp1 (z3.eq_2 a0) (fun lI => YX 51 [eX 1 (a0.row.map .d), eI 4 (lI : Int)]) (fun n2 lI => a0.ZR.length < n2 + lI /\ lI <= a0.ZR.length) (a0.ZR.length + 1) 0 (fun p2 lI e2 j2 => ?_)
 refine cFf e2 ?_ ?_ <;> intro k5 h3 e2
 ·have i2 := ix h3
  have m4 := ml a0.ZR (k5 21 _ rfl)
  have w2 := wr lI
  simp [i2, ZE]
  refine rpS ?_
  refine cRs (Y8 (nth a0.ZR lI) 1 1000000000000) ?_
  refine cFo e2 ?_ ?_ <;> intro k6 h4 e2
  ·have q4 := h4; try simp [YL] at q4
   have f := ms f e2
   simp
   exact rt [.tmp 2] f
  have q4 := h4; try simp [YL] at q4
  simp
  exact ny1 w2 e2
 have f := ms f e2
 refine cRs (Y8 a0.zA 0 999) ?_
 refine cGs (fun gg => (Y8 (a0.ZN.length : Int) 1 6)) ?_
 exact rt [.tmp 2] f
theorem sN (a0 : Int) (a1 : Int) : Sa 281 [rI a0, rI a1] [rI (B5 a0 a1)] := by
 have f := me (B5.eq_1 a0 a1)
 refine so func281 ntmps281 ?_
 refine cRs (Y8 a1 1 1000000000000) ?_
 refine cFo f ?_ ?_ <;> intro k1 h1 f
 ·have q1 := h1; try simp [YL] at q1
  simp
  exact rt [.tmp 4] f
 have q1 := h1; try simp [YL] at q1
 simp
 refine rpS ?_
 exact rt [.tmp 4] f
theorem Db (a0 : List Int) : Sa 262 [rL 1 iR a0] [rI (MF a0)] := by
 have f := me (MF.eq_1 a0)
 refine so func262 ntmps262 ?_
 refine lp2 (RN.eq_2 a0) (fun J U => YX 22 [eL 0 1 a0 iR, eI 3 J, eI 4 (U : Int)]) (fun n1 J U => a0.length < n1 + U /\ U <= a0.length) (a0.length + 1) 11 0 (fun p1 J U e1 j1 => ?_)
 refine cFf e1 ?_ ?_ <;> intro k2 h1 e1
 ·have i1 := ix h1
  have m2 := ml a0 (k2 0 _ rfl)
  have w1 := wr U
  simp [i1, ZE]
  refine rpS ?_
  refine cRs (sN (nth a0 U) 2147483647) ?_
  exact ny2 w1 e1
 have f := ms f e1
 exact rt [.tmp 2] f
theorem Kg (a0 : Int) (a1 : List Int) (u0 : Sm 68719476736 a1) : Sa 221 [rI a0, rL 1 iR a1] [rI (KH a0 a1)] := by
 have f := me (KH.eq_1 a0 a1)
 have c1 := sl 68719476736 a1 u0
 refine so func221 ntmps221 ?_
 refine cRs (Db (([7, a0] : List Int) ++ a1)) ?_
 exact rt [.tmp 4] f
theorem Lv (a0 : Int) (a1 : ByteArray) (a2 : Int) (u0 : Sm 2326528 a1) : Sa 220 [rI a0, rS a1, rI a2] [rI (jc a0 a1 a2)] := by
 have f := me (jc.eq_1 a0 a1 a2)
 refine so func220 ntmps220 ?_
 refine lp2 (yw.eq_2 a1) (fun J U => YX 27 [eI 0 a0, (1, .one (.d (.str a1)), []), (7, .one (.sref 7 0 0 J.length), [.arr false 1 (J.map iR)]), eI 8 (U : Int)]) (fun n1 J U => a1.size < n1 + U /\ U <= a1.size /\ J.length <= 1 + 1 * U) (a1.size + 1) ([a2] : List Int) 0 (fun p1 J U e1 j1 => ?_) (h0 := wkS [((7, 0), some (10, 0))] [])
 refine cFo e1 ?_ ?_ <;> intro k2 h1 e1
 ·have q1 := h1; try simp at q1
  have c1 : a1.size <= 2326528 := Ca (xs u0)
  have w1 := wr U
  simp
  refine rpS ?_
  exact nx2 e1 (hw := Xh [((7, 0), some (23, 0))] [] rfl (by simp [w1]))
 have q1 := h1; try simp at q1
 have c2 : a1.size <= 2326528 := Ca (xs u0)
 have f := ms f e1
 simp
 refine cRs (Kg a0 J (by first | (simp (maxDischargeDepth := 12) [XC]; omega) | (simp (maxDischargeDepth := 12) [Zk (m := 68719476736) (by decide) u0]; done))) ?_
 exact rt [.tmp 6] f
theorem VA (a0 : Int) (a1 : ZV) (u0 : Sm 2322432 a1) : Sa 149 [rI a0, a1.row] [rI (Qq a0 a1)] := by
 have f := me (Qq.eq_1 a0 a1)
 refine so func149 ntmps149 ?_
 refine cRs (SV a1) ?_
 refine cF f ?_ ?_ <;> intro k1 h1 f
 ·exact rt [.tmp 4] f
 refine lp2 (qR.eq_2 a0 a1) (fun J U => YX 38 [eI 0 a0, eX 3 (a1.row.map .d), (5, .one (.sref 5 0 0 J.length), [.arr false 1 (J.map iR)]), eI 6 (U : Int)]) (fun n1 J U => a1.ZN.length < n1 + U /\ U <= a1.ZN.length /\ J.length <= 1 + 1 * U) (a1.ZN.length + 1) ([a1.zA] : List Int) 0 (fun p1 J U e1 j1 => ?_) (h0 := wkS [((5, 0), some (12, 0))] [])
 try dsimp only at j1
 refine cF e1 ?_ ?_ <;> intro k3 h2 e1
 ·have i1 := ix h2
  have m2 := ml a1.ZN (k3 15 _ rfl)
  have c1 := sl 2322432 a1.ZN u0
  have w1 := wr U
  refine dIo mixed ?_
  have i2 : U < a1.ZR.length := by (have := Nq (a := a1); first | (simp_all; done) | (simp_all; omega))
  simp [i1, ZE, i2]
  refine rpS ?_
  refine cRs (Lv a0 (nth a1.ZN U) (nth a1.ZR U) (sg (Yf (ZV.NC u0)))) ?_
  exact nx2 e1 (hw := Xh [((5, 0), some (34, 0))] [] rfl (by simp [w1]))
 have c2 := sl 2322432 a1.ZN u0
 have f := ms f e1
 refine cRs (Kg a0 J (by first | (simp (maxDischargeDepth := 12) [XC]; omega) | (simp (maxDischargeDepth := 12) [Zk (m := 68719476736) (by decide) u0]; done))) ?_
 exact rt [.tmp 4] f
theorem Mi (a0 : ZY) : Sa 217 [a0.row] [rB (qN a0)] := by
 have f := me (qN.eq_1 a0)
 refine so func217 ntmps217 ?_
 refine cRs (Y8 a0.Key 1 99) ?_
 refine cGs (fun gg => (Y8 a0.Zg 1 999)) ?_
 refine cGs (fun gg => (Y8 a0.Method 0 99)) ?_
 refine cGs (fun gg => (Y8 a0.Org 0 99)) ?_
 refine cGs (fun gg => (Y8 a0.xH 1 3)) ?_
 refine cGs (fun gg => (Y8 a0.XN 0 1000000000000)) ?_
 refine cGs (fun gg => (Y8 a0.xL 0 1000000000000)) ?_
 refine cGs (fun gg => (Y8 a0.kx 0 1000000000000)) ?_
 exact rt [.tmp 2] f
theorem VE (a0 : ZY) : Sd 218 [a0.row] [rL 1 iR (QY a0)] := by
 have f := me (QY.eq_1 a0)
 refine soD func218 ntmps218 ?_
 exact rtD [.tmp 2] f
theorem HJ (a0 : Int) (a1 : List Int) (u0 : Sm 2330624 a1) : Sa 224 [rI a0, rL 1 iR a1] [rI (kr a0 a1)] := by
 have f := me (kr.eq_1 a0 a1)
 have c1 := sl 2330624 a1 u0
 refine so func224 ntmps224 ?_
 refine cRs (Db ((([a0] : List Int) ++ a1) ++ ([a0] : List Int))) ?_
 exact rt [.tmp 4] f
theorem UQ (a0 : YR) (a1 : List Int) (u0 : Sm 2326528 a1) : Sa 158 [a0.row, rL 1 iR a1] [rI (qg a0 a1)] := by
 have f := me (qg.eq_1 a0 a1)
 refine so func158 ntmps158 ?_
 refine H4 [2, 3, 4, 5, 6, 0, 1, 7, 8] mixed (by kernel_rfl) (by kernel_rfl) (by kernel_rfl) ?_
 have c1 := sl 2326528 a1 u0
 simp
 refine rpS ?_
 refine cRs (HJ a0.WN (([a0.Method] : List Int) ++ a1) (by simp (maxDischargeDepth := 12) [K0, XC, Zk (m := 2330624) (by decide) u0]; try omega)) ?_
 exact rt [.tmp 4] f
theorem Ln (a0 : List YR) (a1 : ZY) (u0 : Sm 2322432 a0) : Sa 148 [rL 5 YR.row a0, a1.row] [(KT a0 a1).1.row, rB (KT a0 a1).2] := by
 have f := me (KT.eq_1 a0 a1)
 refine so func148 ntmps148 ?_
 refine cRs (zG a0 a1.Key) ?_
 refine cRs (Mi a1) ?_
 refine cF f ?_ ?_ <;> intro k1 h1 f
 ·exact rt [.cell 4 108, .tmp 5] f
 refine dIo mixed ?_
 have i1 : (Yd a0 a1.Key).toNat < a0.length := by have := KP a0 a1.Key; exact il
 simp [i1, ZE]
 refine rpS ?_
 refine cRs (Yv.rd (VE a1)) ?_
 refine cRs (UQ (nth a0 (Yd a0 a1.Key).toNat) (QY a1) (by simp (maxDischargeDepth := 12) [W8, Zk (m := 2326528) (by decide) u0]; try omega)) ?_
 exact rt [.cell 4 108, .tmp 5] f
theorem Rn (a0 : ZY) : Sd 151 [a0.row] [(z6 a0).row] := by
 have f := me (z6.eq_1 a0)
 refine soD func151 ntmps151 ?_
 refine dIs mixed ?_
 refine cDs [false] (VE a0) ?_
 exact rtD [.cell 2 129] f
theorem Fq (a0 : Z1) : Sd 222 [a0.row] [rL 1 iR (y8 a0)] := by
 have f := me (y8.eq_1 a0)
 refine soD func222 ntmps222 ?_
 exact rtD [.tmp 2] f
theorem GX (a0 : Z1) : Sd 152 [a0.row] [(qy a0).row] := by
 have f := me (qy.eq_1 a0)
 refine soD func152 ntmps152 ?_
 refine dIs mixed ?_
 refine cDs [false] (Fq a0) ?_
 exact rtD [.cell 2 129] f
theorem O2 (a0 : ZJ) (a1 : Int) (a2 : ZV) (a3 : Int) (a4 : Int) (u0 : Sm 2318336 a0) (u1 : Sm 2318336 a2) : So 77 [a0.row, rI a1, a2.row, rI a3, rI a4] [(Xa a0 a1 a2 a3 a4).1.row, rB (Xa a0 a1 a2 a3 a4).2] := by
 have f := me (Xa.eq_1 a0 a1 a2 a3 a4)
 refine so func77 ntmps77 ?_
 refine cRs (qY a0.Frame.Methods a0.Frame.Now) ?_
 refine cRs (GC a0 a1) ?_
 refine cF f ?_ ?_ <;> intro k1 h1 f
 ·exact rtO [.cell 10 114, .tmp 11] f
 refine dIo mixed ?_
 have i1 : (Xb a0 a1).toNat < a0.ZS.length := by have := GB a0 a1; exact il
 simp [i1, ZE]
 refine rpS ?_
 refine cRs (VA (Zh a0.Frame.Methods a0.Frame.Now) a2 (sg u1)) ?_
 refine cRs (Ln a0.Frame.Zq (ZY.mk a1 (nth a0.ZS (Xb a0 a1).toNat).Zg (Zh a0.Frame.Methods a0.Frame.Now) (Qq (Zh a0.Frame.Methods a0.Frame.Now) a2) 1 a3 0 0 0) (sg (Z8.xw (ZJ.Xq u0)))) ?_
 refine dIs mixed ?_
 refine cDs [true, false, false] (O0 a2 (sg u1)) ?_
 refine cRf i1 (Yv.rd (Rn (KT a0.Frame.Zq (ZY.mk a1 (nth a0.ZS (Xb a0 a1).toNat).Zg (Zh a0.Frame.Methods a0.Frame.Now) (Qq (Zh a0.Frame.Methods a0.Frame.Now) a2) 1 a3 0 0 0)).1)) ?_
 refine cRs (Yv.rd (GX (nth a0.ZS (Xb a0 a1).toNat))) ?_
 refine eIs ?_
 exact rtO [.cell 10 114, .tmp 11] f
theorem RP (a0 : Int) : Sa 162 [rI a0] [rB (TK a0)] := by
 have f := me (TK.eq_1 a0)
 refine so func162 ntmps162 ?_
 refine cRs (Y8 a0 0 10000) ?_
 exact rt [.tmp 2] f
theorem FG (a0 : List Int) (a1 : List Int) : Sa 282 [rL 1 iR a0, rL 1 iR a1] [rB (UI a0 a1)] := by
 have f := me (UI.eq_1 a0 a1)
 refine so func282 ntmps282 ?_
 refine cF f ?_ ?_ <;> intro k1 h1 f
 ·exact rt [.tmp 4] f
 refine lp1 (kg.eq_2 a0 a1) (fun J => YX 26 [eL 0 1 a0 iR, eL 1 1 a1 iR, eI 5 (J : Int)]) (fun n1 J => a0.length < n1 + J /\ J <= a0.length) (a0.length + 1) 0 (fun p1 J e1 j1 => ?_)
 refine cF e1 ?_ ?_ <;> intro k3 h2 e1
 ·have i1 := ix h2
  have m2 := ml a0 (k3 0 _ rfl)
  have w1 := wr J
  refine dIo mixed ?_
  have i2 := ik J a1
  simp [i1, ZE, i2]
  refine rpS ?_
  refine cF e1 ?_ ?_ <;> intro k5 h3 e1
  ·have f := ms f e1
   exact rt [.tmp 4] f
  exact ny1 w1 e1
 have f := ms f e1
 exact rt [.tmp 4] f
theorem U7 (a0 : ZO) (a1 : ZO) : Sa 263 [a0.row, a1.row] [rB (yk a0 a1)] := by
 have f := me (yk.eq_1 a0 a1)
 refine so func263 ntmps263 ?_
 refine cGs (fun gg => (FG a0.YP a1.YP)) ?_
 exact rt [.tmp 4] f
theorem G2 (a0 : Za) (a1 : ZO) : Sa 233 [a0.row, a1.row] [rI (jI a0 a1)] := by
 have f := me (jI.eq_1 a0 a1)
 refine so func233 ntmps233 ?_
 refine lp1 (kd.eq_2 a0 a1) (fun J => YX 21 [eX 2 (a0.row.map .d), eX 3 (a1.row.map .d), eI 5 (J : Int)]) (fun n1 J => a0.ZL.length < n1 + J /\ J <= a0.ZL.length) (a0.ZL.length + 1) 0 (fun p1 J e1 j1 => ?_)
 refine cF e1 ?_ ?_ <;> intro k2 h1 e1
 ·have i1 := ix h1
  have m2 := ml a0.ZL (k2 8 _ rfl)
  have w1 := wr J
  refine dIo mixed ?_
  simp [i1, ZE]
  refine rpS ?_
  refine cRs (U7 (nth a0.ZL J) a1) ?_
  refine cF e1 ?_ ?_ <;> intro k4 h2 e1
  ·have f := ms f e1
   exact rt [.tmp 4] f
  exact ny1 w1 e1
 have f := ms f e1
 exact rt [.tmp 4] f
theorem UU (a0 : Za) : Sa 173 [a0.row] [rB (yX a0)] := by
 have f := me (yX.eq_1 a0)
 refine so func173 ntmps173 ?_
 refine lp1 (xi.eq_2 a0) (fun J => YX 69 [eX 1 (a0.row.map .d), eI 3 (J : Int)]) (fun n1 J => a0.ZL.length < n1 + J /\ J <= a0.ZL.length) (a0.ZL.length + 1) 0 (fun p1 J e1 j1 => ?_)
 refine cF e1 ?_ ?_ <;> intro k2 h1 e1
 ·have i1 := ix h1
  have m2 := ml a0.ZL (k2 7 _ rfl)
  have w1 := wr J
  refine dIo mixed ?_
  simp [i1, ZE]
  refine rpS ?_
  refine cRs (G2 a0 (nth a0.ZL J)) ?_
  refine cF e1 ?_ ?_ <;> intro k4 h2 e1
  ·have f := ms f e1
   exact rt [.tmp 2] f
  exact ny1 w1 e1
 have f := ms f e1
 refine lp1 (xp.eq_2 a0) (fun lI => YX 69 [eX 1 (a0.row.map .d), eI 4 (lI : Int)]) (fun n2 lI => a0.Zd.length < n2 + lI /\ lI <= a0.Zd.length) (a0.Zd.length + 1) 0 (fun p2 lI e2 j2 => ?_)
 refine cF e2 ?_ ?_ <;> intro k6 h3 e2
 ·have i2 := ix h3
  have m4 := ml a0.Zd (k6 23 _ rfl)
  have w2 := wr lI
  refine dIo mixed ?_
  simp [i2, ZE]
  refine rpS ?_
  refine cRs (Y8 (nth a0.Zd lI).Count 1 (a0.ZL.length : Int)) ?_
  refine gIf ?_ ?_ <;> intro G
  ·have i3 := ik (lI - 1) a0.Zd
   have w3 : IntKind.i64.wrap ((lI : Int) - 1) = (lI : Int) - 1 := Zb (by omega) (by omega)
   simp [i3, ZE, w3, qp, G]
   refine rpG ?_
   refine gK (fun _ => ?_)
   simp [i2, ZE, G]
   refine rpG ?_
   refine cKo e2 ?_ ?_ <;> intro k8 h4 e2
   ·have q4 := h4; try simp [YL] at q4
    have f := ms f e2
    simp [G]
    refine rpG ?_
    exact rtg [.tmp 2] f
   ·have q4 := h4; try simp [YL] at q4
    simp [G]
    refine rpG ?_
    exact ny1 (an w2 (an w3 G)) e2
  ·refine sGg ?_
   refine cKo e2 ?_ ?_ <;> intro k9 h5 e2
   ·have q5 := h5; try simp [YL] at q5
    have f := ms f e2
    simp [G]
    refine rpG ?_
    exact rtg [.tmp 2] f
   ·have q5 := h5; try simp [YL] at q5
    simp [G]
    refine rpG ?_
    exact ny1 (an w2 G) e2
 have f := ms f e2
 refine cRs (Y8 (a0.ZL.length : Int) 1 12) ?_
 exact rt [.tmp 2] f
theorem LD (a0 : ZM) : Sa 223 [a0.row] [rB (Uq a0)] := by
 have f := me (Uq.eq_1 a0)
 refine so func223 ntmps223 ?_
 refine dIs mixed ?_
 refine cRs (Y8 a0.Id 1 999) ?_
 refine cGs (fun gg => (RP a0.Y7)) ?_
 refine cGs (fun gg => (SV a0.Doc)) ?_
 refine cGs (fun gg => (UU a0.ZI)) ?_
 refine gIf ?_ ?_ <;> intro G
 ·have gP := G
  have g1 := G; try simp [YL] at g1
  have i1 : 0 < a0.ZI.ZL.length := by have := Hs (a := a0.ZI); simp_all
  simp [i1, ZE, G]
  refine rpG ?_
  refine cGg (fun gg => Yv.rd (Rn a0.Sig)) ?_
  refine cGg (fun gg => (U7 (nth a0.ZI.ZL 0) (z6 a0.Sig))) ?_
  exact rtg [.tmp 2] f
 ·have gP := G
  refine sGo ?_
  simp [G]
  refine rpG ?_
  refine sGo ?_
  simp [G]
  refine rpG ?_
  exact rtg [.tmp 2] f
theorem xY (a0 : ZD) : Sa 153 [a0.row] [rB (JG a0)] := by
 have f := me (JG.eq_1 a0)
 refine so func153 ntmps153 ?_
 refine lp1 (qL.eq_2 a0) (fun J => YX 47 [eX 1 (a0.row.map .d), eI 3 (J : Int)]) (fun n1 J => a0.ZF.length < n1 + J /\ J <= a0.ZF.length) (a0.ZF.length + 1) 0 (fun p1 J e1 j1 => ?_)
 refine cF e1 ?_ ?_ <;> intro k2 h1 e1
 ·have i1 := ix h1
  have m2 := ml a0.ZF (k2 6 _ rfl)
  have w1 := wr J
  refine dIo mixed ?_
  simp [i1, ZE]
  refine rpS ?_
  refine cRs (LD (nth a0.ZF J)) ?_
  refine gIf ?_ ?_ <;> intro G
  ·have i2 := ik (J - 1) a0.ZF
   have w2 : IntKind.i64.wrap ((J : Int) - 1) = (J : Int) - 1 := Zb (by omega) (by omega)
   simp [i2, ZE, w2, qp, G]
   refine rpG ?_
   refine gK (fun _ => ?_)
   simp [i1, ZE, G]
   refine rpG ?_
   refine cK e1 ?_ ?_ <;> intro k4 h2 e1
   ·have f := ms f e1
    exact rtg [.tmp 2] f
   ·exact ny1 (an w1 (an w2 G)) e1
  ·refine sGg ?_
   refine cK e1 ?_ ?_ <;> intro k5 h3 e1
   ·have f := ms f e1
    exact rtg [.tmp 2] f
   ·exact ny1 (an w1 G) e1
 have f := ms f e1
 refine cRs (Y8 a0.Id 0 99) ?_
 exact rt [.tmp 2] f
theorem qP (a0 : ZD) (a1 : Int) : Sa 154 [a0.row, rI a1] [rI (Yk a0 a1)] := by
 have f := me (Yk.eq_1 a0 a1)
 refine so func154 ntmps154 ?_
 refine lp1 (qA.eq_2 a0 a1) (fun J => YX 22 [eI 1 a1, eX 2 (a0.row.map .d), eI 5 (J : Int)]) (fun n1 J => a0.ZF.length < n1 + J /\ J <= a0.ZF.length) (a0.ZF.length + 1) 0 (fun p1 J e1 j1 => ?_)
 refine cFf e1 ?_ ?_ <;> intro k2 h1 e1
 ·have i1 := ix h1
  have m2 := ml a0.ZF (k2 8 _ rfl)
  have w1 := wr J
  simp [i1, ZE]
  refine rpS ?_
  refine cF e1 ?_ ?_ <;> intro k3 h2 e1
  ·have f := ms f e1
   exact rt [.tmp 4] f
  exact ny1 w1 e1
 have f := ms f e1
 exact rt [.tmp 4] f
theorem Tx (a0 : ZD) (a1 : ZM) (u0 : Sm 2318336 a0) (u1 : Sm 2318336 a1) : Sd 78 [a0.row, a1.row] [(Qr a0 a1).1.row, rB (Qr a0 a1).2] := by
 have f := me (Qr.eq_1 a0 a1)
 refine soD func78 ntmps78 ?_
 refine cRs (xY a0) ?_
 refine cGs (fun gg => (qP a0 a1.Id)) ?_
 refine cF f ?_ ?_ <;> intro k1 h1 f
 ·refine cDs [] (QD a0 (sg u0)) ?_
  exact rtD [.cell 4 119, .tmp 5] f
 refine lp3 (QN.eq_2 a0 a1) (fun J U lA => YX 77 [eX 2 (a0.row.map .d), eX 3 (a1.row.map .d), (4, .one (.bptr 4 0), [.box [.d (.int .i64 0), .nil 16]]), (6, .one (.bptr 6 0), [.box [.d (.int .i64 a0.Id), .sref 6 2 0 lA.length], .none, .arr true 16 (lA.map ZM.row)]), eB 7 J, eI 8 (U : Int)]) (fun n1 J U lA => a0.ZF.length < n1 + U /\ U <= a0.ZF.length /\ lA.length <= 0 + 2 * U) (a0.ZF.length + 1) false 0 ([] : List ZM) (fun p1 J U lA e1 j1 => ?_) (h0 := wkS [((6, 2), none)] [])
 refine cF e1 ?_ ?_ <;> intro k3 h2 e1
 ·have i1 := ix h2
  have m2 := ml a0.ZF (k3 26 _ rfl)
  have c1 := sl 2318336 a0.ZF (an u0 u1)
  have w1 := wr U
  refine dIs mixed ?_
  refine gIf ?_ ?_ <;> intro G
  ·simp [i1, ZE, G]
   refine rpG ?_
   refine cK e1 ?_ ?_ <;> intro k5 h3 e1
   ·refine drJ [49] mixed ?_
    simp
    refine cDg [true, true, true, false, false] (Ju a1 (sg u1)) ?_
    refine Wd ?_
    simp [G]
    refine rpG ?_
    refine Vl (lC := (lA.map ZM.row)) (news := (([a1] : List ZM).map ZM.row)) (l1 := [(6, 2)]) (l2 := [(47, 3), (47, 4), (47, 14), (47, 15)]) (size := 16) ?_
    simp [G]
    refine rpG ?_
    refine drJ [60] mixed ?_
    simp [i1, ZE, G]
    refine rpG ?_
    refine cDg [true, true, true, false, false] (Ju (nth a0.ZF U) (sg (Yf (ZD.Ys u0)))) ?_
    refine Wd ?_
    simp [G]
    refine rpG ?_
    refine Vl (lC := ((lA ++ ([a1] : List ZM)).map ZM.row)) (news := (([(nth a0.ZF U)] : List ZM).map ZM.row)) (l1 := [(49, 0)]) (l2 := [(58, 3), (58, 4), (58, 14), (58, 15)]) (size := 16) ?_
    simp [G]
    refine rpG ?_
    exact nx3 e1 (hw := Xh [((6, 2), some (60, 0))] [] rfl (by simp [w1, G]))
   ·refine drJ [60] mixed ?_
    simp [i1, ZE, G]
    refine rpG ?_
    refine cDg [true, true, true, false, false] (Ju (nth a0.ZF U) (sg (Yf (ZD.Ys u0)))) ?_
    refine Wd ?_
    simp [G]
    refine rpG ?_
    refine Vl (lC := (lA.map ZM.row)) (news := (([(nth a0.ZF U)] : List ZM).map ZM.row)) (l1 := [(6, 2)]) (l2 := [(58, 3), (58, 4), (58, 14), (58, 15)]) (size := 16) ?_
    simp [G]
    refine rpG ?_
    exact nx3 e1 (hw := Xh [((6, 2), some (60, 0))] [] rfl (by simp [w1, G]))
  ·refine cK e1 ?_ ?_ <;> intro k9 h4 e1
   ·simp [G] at h4
   ·refine drJ [60] mixed ?_
    simp [i1, ZE, G]
    refine rpG ?_
    refine cDg [true, true, true, false, false] (Ju (nth a0.ZF U) (sg (Yf (ZD.Ys u0)))) ?_
    refine Wd ?_
    simp [G]
    refine rpG ?_
    refine Vl (lC := (lA.map ZM.row)) (news := (([(nth a0.ZF U)] : List ZM).map ZM.row)) (l1 := [(6, 2)]) (l2 := [(58, 3), (58, 4), (58, 14), (58, 15)]) (size := 16) ?_
    simp [G]
    refine rpG ?_
    exact nx3 e1 (hw := Xh [((6, 2), some (60, 0))] [] rfl (by simp [w1, G]))
 have c2 := sl 2318336 a0.ZF (an u0 u1)
 have f := ms f e1
 refine cF f ?_ ?_ <;> intro cw h5 f
 ·refine okD fun k14 => ?_
  refine drJ [69] mixed ?_
  simp
  refine cDs [true, true, true, false, false] (Ju a1 (sg u1)) ?_
  refine Wd ?_
  simp
  refine Vl (lC := (lA.map ZM.row)) (news := (([a1] : List ZM).map ZM.row)) (l1 := [(6, 2)]) (l2 := [(67, 3), (67, 4), (67, 14), (67, 15)]) (size := 16) ?_
  simp
  refine cRs (xY (ZD.mk a0.Id (lA ++ ([a1] : List ZM)))) ?_
  refine cF f ?_ ?_ <;> intro k15 h6 f
  ·refine cDs [] (QD a0 (sg u0)) ?_
   exact rtD [.cell 4 119, .tmp 5] f
  exact rtD [.cell 4 119, .tmp 5] f
 refine cRs (xY (ZD.mk a0.Id lA)) ?_
 refine cF f ?_ ?_ <;> intro k16 h7 f
 ·refine cDs [] (QD a0 (sg u0)) ?_
  exact rtD [.cell 4 119, .tmp 5] f
 exact rtD [.cell 4 119, .tmp 5] f
theorem Fh (a0 : ZJ) (a1 : Int) (a2 : Int) (a3 : ZV) (a4 : Int) (a5 : Int) (u0 : Sm 2314240 a0) (u1 : Sm 2314240 a3) : Sd 28 [a0.row, rI a1, rI a2, a3.row, rI a4, rI a5] [(qu a0 a1 a2 a3 a4 a5).1.row, rB (qu a0 a1 a2 a3 a4 a5).2] := by
 have f := me (qu.eq_1 a0 a1 a2 a3 a4 a5)
 refine soD func28 ntmps28 ?_
 refine cDs [false, false, false, true, true, false, false, true, false, false, true, false] (Qx a0 (sg u0)) ?_
 refine cRs (zG a0.Frame.Zq a2) ?_
 refine dIs mixed ?_
 refine cRs (jK a0 a1) ?_
 refine gIf ?_ ?_ <;> intro G
 ·have c1 := sl 2314240 a0.ZA (an u0 u1)
  have w1 : IntKind.i64.wrap ((a0.ZA.length : Int) - 1) = (a0.ZA.length : Int) - 1 := Zb (by omega) (by omega)
  have g1 := G; try simp [w1, Qi, YL] at g1
  have i1 : (Yd a0.Frame.Zq a2).toNat < a0.Frame.Zq.length := by have := KP a0.Frame.Zq a2; exact il
  simp [i1, ZE, G]
  refine rpG ?_
  refine cKo f ?_ ?_ <;> intro k2 h1 f
  ·have q1 := h1; try simp [w1, Qi, YL] at q1
   simp [G]
   refine rpG ?_
   exact zb [.cell 12 47, .tmp 13] f
  ·have q1 := h1; try simp [w1, Qi, YL] at q1
   simp [G]
   refine rpG ?_
   refine cRg (O2 a0 a2 a3 a4 a5 (sg u0) (sg u1)) ?_
   refine cK f ?_ ?_ <;> intro k3 h2 f
   ·exact zb [.cell 12 47, .tmp 13] f
   ·refine dIo mixed ?_
    have i2 := ik a1.toNat a0.ZA
    simp [i2, ZE, G]
    refine rpG ?_
    refine cDg [] (Tx (nth a0.ZA a1.toNat) (Xa a0 a2 a3 a4 a5).1 (by first | (exact Zk (n := 2314240) (by decide) (xs (an u0 u1))) | (exact Zk (n := 2314240) (by decide) (Wl (xs (an u0 u1)) (by decide)))) (by first | (exact Zk (n := 2314240) (by decide) (xs (an u0 u1))) | (exact Zk (n := 2314240) (by decide) (Wl (xs (an u0 u1)) (by decide))))) ?_
    refine cKt f ?_ ?_ <;> intro k5 h3 f
    ·exact zb [.cell 12 47, .tmp 13] f
    ·simp [i2, ZE, G]
     refine rpG ?_
     refine Si (t := 21) (j := 7) (i := a1.toNat) (size := 2) (rows := (a0.ZA.map ZD.row)) (ds := (Qr (nth a0.ZA a1.toNat) (Xa a0 a2 a3 a4 a5).1).1.row) (L := [(68, 1)]) ?_
     simp [YV (x := (Qr (nth a0.ZA a1.toNat) (Xa a0 a2 a3 a4 a5).1).1) rfl, c1, i2, ZE, Zj, G]
     refine rpG ?_
     exact zb [.cell 12 47, .tmp 13] f
 ·have c2 := sl 2314240 a0.ZA (an u0 u1)
  have w2 : IntKind.i64.wrap ((a0.ZA.length : Int) - 1) = (a0.ZA.length : Int) - 1 := Zb (by omega) (by omega)
  refine cKo f ?_ ?_ <;> intro k6 h4 f
  ·have q4 := h4; try simp [w2, Qi, YL] at q4
   simp [G]
   refine rpG ?_
   exact zb [.cell 12 47, .tmp 13] f
  ·simp [G] at h4
theorem S8 (a0 : ZJ) (a1 : Int) : Sa 79 [a0.row, rI a1] [rI (ZH a0 a1).1, rI (ZH a0 a1).2] := by
 have f := me (ZH.eq_1 a0 a1)
 refine so func79 ntmps79 ?_
 refine lp1 (xa.eq_2 a0 a1) (fun J => YX 26 [eI 1 a1, eX 2 (a0.row.map .d), eI 6 (J : Int)]) (fun n1 J => a0.ZA.length < n1 + J /\ J <= a0.ZA.length) (a0.ZA.length + 1) 0 (fun p1 J e1 j1 => ?_)
 refine cFf e1 ?_ ?_ <;> intro k2 h1 e1
 ·have i1 := ix h1
  have m2 := ml a0.ZA (k2 10 _ rfl)
  have w1 := wr J
  simp [i1, ZE]
  refine rpS ?_
  refine cRs (qP (nth a0.ZA J) a1) ?_
  refine cF e1 ?_ ?_ <;> intro k3 h2 e1
  ·have f := ms f e1
   exact rt [.tmp 4, .tmp 5] f
  exact ny1 w1 e1
 have f := ms f e1
 exact rt [.tmp 4, .tmp 5] f
theorem Mk (a0 : ZO) : Sa 156 [a0.row] [rI (Qc a0)] := by
 have f := me (Qc.eq_1 a0)
 refine so func156 ntmps156 ?_
 refine gIf ?_ ?_ <;> intro G
 ·have i1 := ik 0 a0.YP
  simp [i1, ZE, G]
  refine rpG ?_
  refine cGg (fun gg => (Y8 (nth a0.YP 0) 101 105)) ?_
  refine cKo f ?_ ?_ <;> intro k1 h1 f
  ·have q1 := h1; try simp [YL] at q1
   simp [G]
   refine rpG ?_
   exact rtg [.tmp 2] f
  ·have q1 := h1; try simp [YL] at q1
   simp [G]
   refine rpG ?_
   refine dIo mixed ?_
   have i2 := ik (W ((nth a0.YP 0) - 101)).toNat ([7, 5, 5, 9, 6] : List Int)
   have r1 := ZE (f := iR) i2; try simp at r1
   simp [i1, ZE, i2, r1, G]
   refine rpG ?_
   refine cKt f ?_ ?_ <;> intro k3 h2 f
   ·exact rtg [.tmp 2] f
   ·simp [i1, ZE, G]
    refine rpG ?_
    exact rtg [.tmp 2] f
 ·refine sGo ?_
  simp [G]
  refine rpG ?_
  refine cKo f ?_ ?_ <;> intro k4 h3 f
  ·have q3 := h3; try simp [YL] at q3
   simp [G]
   refine rpG ?_
   exact rtg [.tmp 2] f
  ·simp [G] at h3
theorem S6 (a0 : ZO) : Sa 80 [a0.row] [(Zc a0).1.row, rB (Zc a0).2] := by
 have f := me (Zc.eq_1 a0)
 refine so func80 ntmps80 ?_
 refine dIs mixed ?_
 refine cRs (Mk a0) ?_
 refine gIf ?_ ?_ <;> intro G
 ·have gP := G
  have g1 := G; try simp at g1
  have i1 : 6 < a0.YP.length := by (have z := KF a0; simp_all; done)
  simp [i1, ZE, G]
  refine rpG ?_
  refine cK f ?_ ?_ <;> intro k2 h1 f
  ·exact rtg [.cell 2 125, .tmp 3] f
  ·refine dIo mixed ?_
   have i2 : 1 < a0.YP.length := by (have z := KF a0; simp_all; done)
   have i3 : 2 < a0.YP.length := by (have z := KF a0; simp_all; done)
   have i4 : 3 < a0.YP.length := by (have z := KF a0; simp_all; done)
   have i5 : 4 < a0.YP.length := by (have z := KF a0; simp_all; done)
   have i6 : 5 < a0.YP.length := by (have z := KF a0; simp_all; done)
   simp [i2, ZE, i3, i4, i5, i6, i1, G]
   refine rpG ?_
   exact rtg [.cell 2 125, .tmp 3] f
 ·have gP := G
  refine cK f ?_ ?_ <;> intro k4 h2 f
  ·exact rtg [.cell 2 125, .tmp 3] f
  ·simp [G] at h2
theorem PZ (a0 : List Z1) (a1 : Int) : Sa 81 [rL 7 Z1.row a0, rI a1] [rI (Z2 a0 a1)] := by
 have f := me (Z2.eq_1 a0 a1)
 refine so func81 ntmps81 ?_
 refine lp1 (xy.eq_2 a0 a1) (fun J => YX 20 [eL 0 7 a0 Z1.row, eI 1 a1, eI 5 (J : Int)]) (fun n1 J => a0.length < n1 + J /\ J <= a0.length) (a0.length + 1) 0 (fun p1 J e1 j1 => ?_)
 refine cFf e1 ?_ ?_ <;> intro k2 h1 e1
 ·have i1 := ix h1
  have m2 := ml a0 (k2 0 _ rfl)
  have w1 := wr J
  simp [i1, ZE]
  refine rpS ?_
  refine cF e1 ?_ ?_ <;> intro k3 h2 e1
  ·have f := ms f e1
   exact rt [.tmp 4] f
  exact ny1 w1 e1
 have f := ms f e1
 exact rt [.tmp 4] f
theorem Fo (a0 : Z4) : Sa 157 [a0.row] [rB (kE a0)] := by
 have f := me (kE.eq_1 a0)
 refine so func157 ntmps157 ?_
 refine cRs (Y8 a0.Zg 1 999) ?_
 refine cGs (fun gg => (RP a0.OC)) ?_
 refine cGs (fun gg => (Y8 a0.Zr (-1) (W (a0.OC + 1)))) ?_
 refine cGs (fun gg => (Y8 a0.Z5 1 99)) ?_
 exact rt [.tmp 2] f
theorem SR (a0 : Z4) : Sd 159 [a0.row] [rL 1 iR (Jv a0)] := by
 have f := me (Jv.eq_1 a0)
 refine soD func159 ntmps159 ?_
 exact rtD [.tmp 2] f
theorem WR (a0 : List YR) (a1 : Z4) (u0 : Sm 2322432 a0) : Sa 82 [rL 5 YR.row a0, a1.row] [(YZ a0 a1).1.row, rB (YZ a0 a1).2] := by
 have f := me (YZ.eq_1 a0 a1)
 refine so func82 ntmps82 ?_
 refine cRs (zG a0 a1.Z5) ?_
 refine cRs (Fo a1) ?_
 refine cF f ?_ ?_ <;> intro k1 h1 f
 ·exact rt [.cell 4 131, .tmp 5] f
 refine dIo mixed ?_
 have i1 : (Yd a0 a1.Z5).toNat < a0.length := by have := KP a0 a1.Z5; exact il
 simp [i1, ZE]
 refine rpS ?_
 refine cRs (Yv.rd (SR a1)) ?_
 refine cRs (UQ (nth a0 (Yd a0 a1.Z5).toNat) (Jv a1) (by simp (maxDischargeDepth := 12) [SP, Zk (m := 2326528) (by decide) u0]; try omega)) ?_
 exact rt [.cell 4 131, .tmp 5] f
theorem kN (a0 : Z4) : Sd 84 [a0.row] [(Yz a0).row] := by
 have f := me (Yz.eq_1 a0)
 refine soD func84 ntmps84 ?_
 refine dIs mixed ?_
 refine cDs [false] (SR a0) ?_
 exact rtD [.cell 2 129] f
theorem Ea (a0 : Za) (a1 : ZO) (u0 : Sm 2326528 a0) (u1 : Sm 2326528 a1) : Sd 160 [a0.row, a1.row] [(yJ a0 a1).1.row, rB (yJ a0 a1).2] := by
 have f := me (yJ.eq_1 a0 a1)
 refine soD func160 ntmps160 ?_
 refine cDs [] (yo a0 (sg u0)) ?_
 refine drJ [14] mixed ?_
 simp
 refine cDs [true, false] (Pe a1 (sg u1)) ?_
 refine Wd ?_
 have c1 := sl 2326528 a0.ZL (an u0 u1)
 simp
 refine Vl (lC := (a0.ZL.map ZO.row)) (news := (([a1] : List ZO).map ZO.row)) (l1 := [(8, 0)]) (l2 := [(12, 1)]) (size := 3) ?_
 simp
 refine cRs (UU (Za.mk (a0.ZL ++ ([a1] : List ZO)) a0.Zd)) ?_
 refine cF f ?_ ?_ <;> intro k2 h1 f
 ·refine cDs [] (yo a0 (sg u0)) ?_
  exact rtD [.cell 4 112, .tmp 5] f
 exact rtD [.cell 4 112, .tmp 5] f
theorem Vj (a0 : ZD) (a1 : Int) (a2 : ZO) (u0 : Sm 2322432 a0) (u1 : Sm 2322432 a2) : Sd 83 [a0.row, rI a1, a2.row] [(Xu a0 a1 a2).1.row, rB (Xu a0 a1 a2).2] := by
 have f := me (Xu.eq_1 a0 a1 a2)
 refine soD func83 ntmps83 ?_
 refine cDs [] (QD a0 (sg u0)) ?_
 refine cRs (qP a0 a1) ?_
 refine cF f ?_ ?_ <;> intro k1 h1 f
 ·exact rtD [.cell 6 119, .tmp 7] f
 refine dIo mixed ?_
 have i1 : (Yk a0 a1).toNat < a0.ZF.length := by have := Ui a0 a1; exact il
 simp [i1, ZE]
 refine rpS ?_
 refine cDf i1 [] (Ea (nth a0.ZF (Yk a0 a1).toNat).ZI a2 (sg (ZM.Jf (Yf (ZD.Ys u0)))) (sg u1)) ?_
 refine r6 (t := 13) (j := 1) (i := (Yk a0 a1).toNat) (c := 14) (size := 16) (rows := (a0.ZF.map ZM.row)) (ds := (yJ (nth a0.ZF (Yk a0 a1).toNat).ZI a2).1.row) (L := [(28, 0), (28, 1)]) rfl rfl rfl rfl (by simp) (by simp) (by simp; try omega) (by simp) (by simp) (by simp) (by simp) (by simp) (by simp) ?_
 simp [YV (x := (ZM.mk (nth a0.ZF (Yk a0 a1).toNat).Id (nth a0.ZF (Yk a0 a1).toNat).Y7 (nth a0.ZF (Yk a0 a1).toNat).Doc (nth a0.ZF (Yk a0 a1).toNat).Sig (yJ (nth a0.ZF (Yk a0 a1).toNat).ZI a2).1)) rfl, i1, ZE, Zj]
 refine rpS ?_
 exact rtD [.cell 6 119, .tmp 7] f
theorem Zs {a b : Prop} (h : b) (k : a := by (intros; first | omega | with_unfolding_all (first | first | omega | (have fi := Y5 a0 a1 (by first | omega | (simp at *; omega)); omega) | (simp only [Bool.or_eq_false_iff, decide_eq_false_iff_not] at *; omega) | (have z := ZZ G; (try simp only [] at z); omega) | (have z := ZZ G.1; (try simp only [] at z); omega) | (have z := ZZ G.2; (try simp only [] at z); omega) | (have z := ZZ G.2.1; (try simp only [] at z); omega) | (have z := ZZ G.2.2; (try simp only [] at z); omega) | (have z := ZZ G.1.2; (try simp only [] at z); omega) | (have z := ZZ G.2.2.2; (try simp only [] at z); omega) ) | (simp_all; done) | (simp_all; omega) | grind | ((try simp only [Kc, show ∀ x, IntKind.i64.wrap x = W x from fun _ => rfl] at *); omega))) : a /\ b := ⟨k, h⟩
theorem Ie (a0 : ZJ) (a1 : Int) (u0 : Sm 2318336 a0) : Sd 29 [a0.row, rI a1] [(yF a0 a1).1.row, rB (yF a0 a1).2] := by
 have f := me (yF.eq_1 a0 a1)
 refine soD func29 ntmps29 ?_
 refine cDs [false, false, false, true, true, false, false, true, false, false, true, false] (Qx a0 (sg u0)) ?_
 refine cRs (S8 a0 a1) ?_
 refine gIo ?_ ?_ <;> intro G
 ·have gP := G
  have g1 := G; try simp at g1
  have i1 : (ZH a0 a1).1.toNat < a0.ZA.length := by first | omega | (have fi := Y5 a0 a1 (by first | omega | (simp at *; omega)); omega) | (simp only [Bool.or_eq_false_iff, decide_eq_false_iff_not] at *; omega) | (have z := ZZ G; (try simp only [] at z); omega) | (have z := ZZ G.1; (try simp only [] at z); omega) | (have z := ZZ G.2; (try simp only [] at z); omega) | (have z := ZZ G.2.1; (try simp only [] at z); omega) | (have z := ZZ G.2.2; (try simp only [] at z); omega) | (have z := ZZ G.1.2; (try simp only [] at z); omega) | (have z := ZZ G.2.2.2; (try simp only [] at z); omega) 
  simp [i1, ZE, G]
  repeat with_reducible refine Zs ?_
  refine gK (fun _ => ?_)
  have i2 : (ZH a0 a1).2.toNat < (nth a0.ZA (ZH a0 a1).1.toNat).ZF.length := by first | omega | (have fi := Y5 a0 a1 (by first | omega | (simp at *; omega)); omega) | (simp only [Bool.or_eq_false_iff, decide_eq_false_iff_not] at *; omega) | (have z := ZZ G; (try simp only [] at z); omega) | (have z := ZZ G.1; (try simp only [] at z); omega) | (have z := ZZ G.2; (try simp only [] at z); omega) | (have z := ZZ G.2.1; (try simp only [] at z); omega) | (have z := ZZ G.2.2; (try simp only [] at z); omega) | (have z := ZZ G.1.2; (try simp only [] at z); omega) | (have z := ZZ G.2.2.2; (try simp only [] at z); omega) 
  simp [i2, ZE, G]
  repeat with_reducible refine Zs ?_
  refine cKo f ?_ ?_ <;> intro k1 h1 f
  ·simp [G]
   repeat with_reducible refine Zs ?_
   exact zb [.cell 4 47, .tmp 5] f
  ·have i3 : 1 < (nth (nth a0.ZA (ZH a0 a1).1.toNat).ZF (ZH a0 a1).2.toNat).ZI.ZL.length := by first | omega | (have fi := Y5 a0 a1 (by first | omega | (simp at *; omega)); omega) | (simp only [Bool.or_eq_false_iff, decide_eq_false_iff_not] at *; omega) | (have z := ZZ G; (try simp only [] at z); omega) | (have z := ZZ G.1; (try simp only [] at z); omega) | (have z := ZZ G.2; (try simp only [] at z); omega) | (have z := ZZ G.2.1; (try simp only [] at z); omega) | (have z := ZZ G.2.2; (try simp only [] at z); omega) | (have z := ZZ G.1.2; (try simp only [] at z); omega) | (have z := ZZ G.2.2.2; (try simp only [] at z); omega) 
   simp [i1, ZE, i2, i3, G]
   repeat with_reducible refine Zs ?_
   refine cR (S6 (nth (nth (nth a0.ZA (ZH a0 a1).1.toNat).ZF (ZH a0 a1).2.toNat).ZI.ZL 1)) ?_
   simp [G]
   repeat with_reducible refine Zs ?_
   refine cR (PZ a0.ZS (Zc (nth (nth (nth a0.ZA (ZH a0 a1).1.toNat).ZF (ZH a0 a1).2.toNat).ZI.ZL 1)).1.Zg) ?_
   simp [G]
   repeat with_reducible refine Zs ?_
   refine cKo f ?_ ?_ <;> intro k2 h2 f
   ·simp [G]
    repeat with_reducible refine Zs ?_
    exact zb [.cell 4 47, .tmp 5] f
   ·simp [G]
    repeat with_reducible refine Zs ?_
    refine dIo mixed ?_
    have i4 : (Z2 a0.ZS (Zc (nth (nth (nth a0.ZA (ZH a0 a1).1.toNat).ZF (ZH a0 a1).2.toNat).ZI.ZL 1)).1.Zg).toNat < a0.ZS.length := by have := UL a0.ZS (Zc (nth (nth (nth a0.ZA (ZH a0 a1).1.toNat).ZF (ZH a0 a1).2.toNat).ZI.ZL 1)).1.Zg; first | omega | (have fi := Y5 a0 a1 (by first | omega | (simp at *; omega)); omega) | (simp only [Bool.or_eq_false_iff, decide_eq_false_iff_not] at *; omega) | (have z := ZZ G; (try simp only [] at z); omega) | (have z := ZZ G.1; (try simp only [] at z); omega) | (have z := ZZ G.2; (try simp only [] at z); omega) | (have z := ZZ G.2.1; (try simp only [] at z); omega) | (have z := ZZ G.2.2; (try simp only [] at z); omega) | (have z := ZZ G.1.2; (try simp only [] at z); omega) | (have z := ZZ G.2.2.2; (try simp only [] at z); omega) 
    simp [i4, ZE, G]
    repeat with_reducible refine Zs ?_
    refine cR (zG a0.Frame.Zq (nth a0.ZS (Z2 a0.ZS (Zc (nth (nth (nth a0.ZA (ZH a0 a1).1.toNat).ZF (ZH a0 a1).2.toNat).ZI.ZL 1)).1.Zg).toNat).Z5) ?_
    simp [G]
    repeat with_reducible refine Zs ?_
    refine dIo mixed ?_
    simp [i4, ZE, G]
    repeat with_reducible refine Zs ?_
    refine dIo mixed ?_
    have i5 : (Z2 a0.ZS (Zc (nth (nth (nth a0.ZA (ZH a0 a1).1.toNat).ZF (ZH a0 a1).2.toNat).ZI.ZL 1)).1.Zg).toNat < a0.Zr.length := by have := UL a0.ZS (Zc (nth (nth (nth a0.ZA (ZH a0 a1).1.toNat).ZF (ZH a0 a1).2.toNat).ZI.ZL 1)).1.Zg; first | omega | (have fi := Y5 a0 a1 (by first | omega | (simp at *; omega)); omega) | (simp only [Bool.or_eq_false_iff, decide_eq_false_iff_not] at *; omega) | (have z := ZZ G; (try simp only [] at z); omega) | (have z := ZZ G.1; (try simp only [] at z); omega) | (have z := ZZ G.2; (try simp only [] at z); omega) | (have z := ZZ G.2.1; (try simp only [] at z); omega) | (have z := ZZ G.2.2; (try simp only [] at z); omega) | (have z := ZZ G.1.2; (try simp only [] at z); omega) | (have z := ZZ G.2.2.2; (try simp only [] at z); omega) 
    simp [i5, ZE, G]
    repeat with_reducible refine Zs ?_
    refine cKo f ?_ ?_ <;> intro k6 h3 f
    ·simp [i5, ZE, G]
     repeat with_reducible refine Zs ?_
     refine cR (WR a0.Frame.Zq (Z4.mk (Zc (nth (nth (nth a0.ZA (ZH a0 a1).1.toNat).ZF (ZH a0 a1).2.toNat).ZI.ZL 1)).1.Zg a0.Frame.Now (nth a0.Zr (Z2 a0.ZS (Zc (nth (nth (nth a0.ZA (ZH a0 a1).1.toNat).ZF (ZH a0 a1).2.toNat).ZI.ZL 1)).1.Zg).toNat) (nth a0.ZS (Z2 a0.ZS (Zc (nth (nth (nth a0.ZA (ZH a0 a1).1.toNat).ZF (ZH a0 a1).2.toNat).ZI.ZL 1)).1.Zg).toNat).Z5 0) (sg (Z8.xw (ZJ.Xq u0)))) ?_
     simp [G]
     repeat with_reducible refine Zs ?_
     refine dIo mixed ?_
     simp [G]
     repeat with_reducible refine Zs ?_
     refine gJo G ?_ ?_ <;> intro G
     ·have g2x := G.2
      try (simp at G; done)
      all_goals
       have g2 := G.2; try simp at g2
       all_goals
        have i6 : (Yd a0.Frame.Zq (nth a0.ZS (Z2 a0.ZS (Zc (nth (nth (nth a0.ZA (ZH a0 a1).1.toNat).ZF (ZH a0 a1).2.toNat).ZI.ZL 1)).1.Zg).toNat).Z5).toNat < a0.Frame.Zq.length := by have := KP a0.Frame.Zq (nth a0.ZS (Z2 a0.ZS (Zc (nth (nth (nth a0.ZA (ZH a0 a1).1.toNat).ZF (ZH a0 a1).2.toNat).ZI.ZL 1)).1.Zg).toNat).Z5; first | omega | (have fi := Y5 a0 a1 (by first | omega | (simp at *; omega)); omega) | (simp only [Bool.or_eq_false_iff, decide_eq_false_iff_not] at *; omega) | (have z := ZZ G; (try simp only [] at z); omega) | (have z := ZZ G.1; (try simp only [] at z); omega) | (have z := ZZ G.2; (try simp only [] at z); omega) | (have z := ZZ G.2.1; (try simp only [] at z); omega) | (have z := ZZ G.2.2; (try simp only [] at z); omega) | (have z := ZZ G.1.2; (try simp only [] at z); omega) | (have z := ZZ G.2.2.2; (try simp only [] at z); omega) 
        simp [i6, ZE, G]
        repeat with_reducible refine Zs ?_
        refine cKo f ?_ ?_ <;> intro k8 h4 f
        ·simp [G]
         repeat with_reducible refine Zs ?_
         exact zb [.cell 4 47, .tmp 5] f
        ·simp [G]
         repeat with_reducible refine Zs ?_
         refine dIo mixed ?_
         simp [i1, ZE, G]
         repeat with_reducible refine Zs ?_
         refine cR (Yv.rd (kN (YZ a0.Frame.Zq (Z4.mk (Zc (nth (nth (nth a0.ZA (ZH a0 a1).1.toNat).ZF (ZH a0 a1).2.toNat).ZI.ZL 1)).1.Zg a0.Frame.Now (nth a0.Zr (Z2 a0.ZS (Zc (nth (nth (nth a0.ZA (ZH a0 a1).1.toNat).ZF (ZH a0 a1).2.toNat).ZI.ZL 1)).1.Zg).toNat) (nth a0.ZS (Z2 a0.ZS (Zc (nth (nth (nth a0.ZA (ZH a0 a1).1.toNat).ZF (ZH a0 a1).2.toNat).ZI.ZL 1)).1.Zg).toNat).Z5 0)).1)) ?_
         simp [G]
         repeat with_reducible refine Zs ?_
         refine cD [] (Vj (nth a0.ZA (ZH a0 a1).1.toNat) a1 (Yz (YZ a0.Frame.Zq (Z4.mk (Zc (nth (nth (nth a0.ZA (ZH a0 a1).1.toNat).ZF (ZH a0 a1).2.toNat).ZI.ZL 1)).1.Zg a0.Frame.Now (nth a0.Zr (Z2 a0.ZS (Zc (nth (nth (nth a0.ZA (ZH a0 a1).1.toNat).ZF (ZH a0 a1).2.toNat).ZI.ZL 1)).1.Zg).toNat) (nth a0.ZS (Z2 a0.ZS (Zc (nth (nth (nth a0.ZA (ZH a0 a1).1.toNat).ZF (ZH a0 a1).2.toNat).ZI.ZL 1)).1.Zg).toNat).Z5 0)).1) (sg (Yf (ZJ.Y1 u0))) (by simp (maxDischargeDepth := 12) [kL, Zk (m := 2322432) (by decide) u0]; try omega)) ?_
         simp [i1, ZE, G]
         repeat with_reducible refine Zs ?_
         refine Si (t := 18) (j := 7) (i := (ZH a0 a1).1.toNat) (size := 2) (rows := (a0.ZA.map ZD.row)) (ds := (Xu (nth a0.ZA (ZH a0 a1).1.toNat) a1 (Yz (YZ a0.Frame.Zq (Z4.mk (Zc (nth (nth (nth a0.ZA (ZH a0 a1).1.toNat).ZF (ZH a0 a1).2.toNat).ZI.ZL 1)).1.Zg a0.Frame.Now (nth a0.Zr (Z2 a0.ZS (Zc (nth (nth (nth a0.ZA (ZH a0 a1).1.toNat).ZF (ZH a0 a1).2.toNat).ZI.ZL 1)).1.Zg).toNat) (nth a0.ZS (Z2 a0.ZS (Zc (nth (nth (nth a0.ZA (ZH a0 a1).1.toNat).ZF (ZH a0 a1).2.toNat).ZI.ZL 1)).1.Zg).toNat).Z5 0)).1)).1.row) (L := [(150, 1)]) ?_
         simp [YV (x := (Xu (nth a0.ZA (ZH a0 a1).1.toNat) a1 (Yz (YZ a0.Frame.Zq (Z4.mk (Zc (nth (nth (nth a0.ZA (ZH a0 a1).1.toNat).ZF (ZH a0 a1).2.toNat).ZI.ZL 1)).1.Zg a0.Frame.Now (nth a0.Zr (Z2 a0.ZS (Zc (nth (nth (nth a0.ZA (ZH a0 a1).1.toNat).ZF (ZH a0 a1).2.toNat).ZI.ZL 1)).1.Zg).toNat) (nth a0.ZS (Z2 a0.ZS (Zc (nth (nth (nth a0.ZA (ZH a0 a1).1.toNat).ZF (ZH a0 a1).2.toNat).ZI.ZL 1)).1.Zg).toNat).Z5 0)).1)).1) rfl, i1, ZE, Zj, G]
         repeat with_reducible refine Zs ?_
         exact zb [.cell 4 47, .tmp 5] f
     ·have g2x := G.2
      try (simp at G; done)
      all_goals
       simp [G]
       repeat with_reducible refine Zs ?_
       refine cKo f ?_ ?_ <;> intro cO h5 f
       ·simp [G]
        repeat with_reducible refine Zs ?_
        exact zb [.cell 4 47, .tmp 5] f
       ·simp [G] at h5
    ·simp [G]
     repeat with_reducible refine Zs ?_
     refine cR (WR a0.Frame.Zq (Z4.mk (Zc (nth (nth (nth a0.ZA (ZH a0 a1).1.toNat).ZF (ZH a0 a1).2.toNat).ZI.ZL 1)).1.Zg a0.Frame.Now (-1) (nth a0.ZS (Z2 a0.ZS (Zc (nth (nth (nth a0.ZA (ZH a0 a1).1.toNat).ZF (ZH a0 a1).2.toNat).ZI.ZL 1)).1.Zg).toNat).Z5 0) (sg (Z8.xw (ZJ.Xq u0)))) ?_
     simp [G]
     repeat with_reducible refine Zs ?_
     refine dIo mixed ?_
     simp [G]
     repeat with_reducible refine Zs ?_
     refine gJo G ?_ ?_ <;> intro G
     ·have g3x := G.2
      try (simp at G; done)
      all_goals
       have g3 := G.2; try simp at g3
       all_goals
        have i8 : (Yd a0.Frame.Zq (nth a0.ZS (Z2 a0.ZS (Zc (nth (nth (nth a0.ZA (ZH a0 a1).1.toNat).ZF (ZH a0 a1).2.toNat).ZI.ZL 1)).1.Zg).toNat).Z5).toNat < a0.Frame.Zq.length := by have := KP a0.Frame.Zq (nth a0.ZS (Z2 a0.ZS (Zc (nth (nth (nth a0.ZA (ZH a0 a1).1.toNat).ZF (ZH a0 a1).2.toNat).ZI.ZL 1)).1.Zg).toNat).Z5; first | omega | (have fi := Y5 a0 a1 (by first | omega | (simp at *; omega)); omega) | (simp only [Bool.or_eq_false_iff, decide_eq_false_iff_not] at *; omega) | (have z := ZZ G; (try simp only [] at z); omega) | (have z := ZZ G.1; (try simp only [] at z); omega) | (have z := ZZ G.2; (try simp only [] at z); omega) | (have z := ZZ G.2.1; (try simp only [] at z); omega) | (have z := ZZ G.2.2; (try simp only [] at z); omega) | (have z := ZZ G.1.2; (try simp only [] at z); omega) | (have z := ZZ G.2.2.2; (try simp only [] at z); omega) 
        simp [i8, ZE, G]
        repeat with_reducible refine Zs ?_
        refine cKo f ?_ ?_ <;> intro cw h6 f
        ·simp [G]
         repeat with_reducible refine Zs ?_
         exact zb [.cell 4 47, .tmp 5] f
        ·simp [G]
         repeat with_reducible refine Zs ?_
         refine dIo mixed ?_
         simp [i1, ZE, G]
         repeat with_reducible refine Zs ?_
         refine cR (Yv.rd (kN (YZ a0.Frame.Zq (Z4.mk (Zc (nth (nth (nth a0.ZA (ZH a0 a1).1.toNat).ZF (ZH a0 a1).2.toNat).ZI.ZL 1)).1.Zg a0.Frame.Now (-1) (nth a0.ZS (Z2 a0.ZS (Zc (nth (nth (nth a0.ZA (ZH a0 a1).1.toNat).ZF (ZH a0 a1).2.toNat).ZI.ZL 1)).1.Zg).toNat).Z5 0)).1)) ?_
         simp [G]
         repeat with_reducible refine Zs ?_
         refine cD [] (Vj (nth a0.ZA (ZH a0 a1).1.toNat) a1 (Yz (YZ a0.Frame.Zq (Z4.mk (Zc (nth (nth (nth a0.ZA (ZH a0 a1).1.toNat).ZF (ZH a0 a1).2.toNat).ZI.ZL 1)).1.Zg a0.Frame.Now (-1) (nth a0.ZS (Z2 a0.ZS (Zc (nth (nth (nth a0.ZA (ZH a0 a1).1.toNat).ZF (ZH a0 a1).2.toNat).ZI.ZL 1)).1.Zg).toNat).Z5 0)).1) (sg (Yf (ZJ.Y1 u0))) (by simp (maxDischargeDepth := 12) [kL, Zk (m := 2322432) (by decide) u0]; try omega)) ?_
         simp [i1, ZE, G]
         repeat with_reducible refine Zs ?_
         refine Si (t := 18) (j := 7) (i := (ZH a0 a1).1.toNat) (size := 2) (rows := (a0.ZA.map ZD.row)) (ds := (Xu (nth a0.ZA (ZH a0 a1).1.toNat) a1 (Yz (YZ a0.Frame.Zq (Z4.mk (Zc (nth (nth (nth a0.ZA (ZH a0 a1).1.toNat).ZF (ZH a0 a1).2.toNat).ZI.ZL 1)).1.Zg a0.Frame.Now (-1) (nth a0.ZS (Z2 a0.ZS (Zc (nth (nth (nth a0.ZA (ZH a0 a1).1.toNat).ZF (ZH a0 a1).2.toNat).ZI.ZL 1)).1.Zg).toNat).Z5 0)).1)).1.row) (L := [(150, 1)]) ?_
         simp [YV (x := (Xu (nth a0.ZA (ZH a0 a1).1.toNat) a1 (Yz (YZ a0.Frame.Zq (Z4.mk (Zc (nth (nth (nth a0.ZA (ZH a0 a1).1.toNat).ZF (ZH a0 a1).2.toNat).ZI.ZL 1)).1.Zg a0.Frame.Now (-1) (nth a0.ZS (Z2 a0.ZS (Zc (nth (nth (nth a0.ZA (ZH a0 a1).1.toNat).ZF (ZH a0 a1).2.toNat).ZI.ZL 1)).1.Zg).toNat).Z5 0)).1)).1) rfl, i1, ZE, Zj, G]
         repeat with_reducible refine Zs ?_
         exact zb [.cell 4 47, .tmp 5] f
     ·have g3x := G.2
      try (simp at G; done)
      all_goals
       simp [G]
       repeat with_reducible refine Zs ?_
       refine cKo f ?_ ?_ <;> intro k15 h7 f
       ·simp [G]
        repeat with_reducible refine Zs ?_
        exact zb [.cell 4 47, .tmp 5] f
       ·simp [G] at h7
 ·have gP := G
  simp [G]
  repeat with_reducible refine Zs ?_
  refine sGo ?_
  simp [G]
  repeat with_reducible refine Zs ?_
  refine cKo f ?_ ?_ <;> intro k17 h8 f
  ·simp [G]
   repeat with_reducible refine Zs ?_
   exact zb [.cell 4 47, .tmp 5] f
  ·simp [G] at h8
theorem LZ (a0 : ZJ) (a1 : Int) (u0 : Sm 2318336 a0) : Sd 30 [a0.row, rI a1] [(yM a0 a1).1.row, rB (yM a0 a1).2] := by
 have f := me (yM.eq_1 a0 a1)
 refine soD func30 ntmps30 ?_
 refine cDs [false, false, false, true, true, false, false, true, false, false, true, false] (Qx a0 (sg u0)) ?_
 refine cRs (Y8 a1 0 (W ((a0.Zr.length : Int) - 1))) ?_
 refine gIf ?_ ?_ <;> intro G
 ·have c1 := sl 2318336 a0.Zr u0
  have w1 : IntKind.i64.wrap ((a0.Zr.length : Int) - 1) = (a0.Zr.length : Int) - 1 := Zb (by omega) (by omega)
  have g1 := G; try simp [YL, w1] at g1
  have i1 := ik a1.toNat a0.Zr
  simp [i1, ZE, G]
  refine rpG ?_
  refine cKo f ?_ ?_ <;> intro k1 h1 f
  ·have q1 := h1; try simp [YL, w1] at q1
   simp [G]
   refine rpG ?_
   exact zb [.cell 4 47, .tmp 5] f
  ·have q1 := h1; try simp [YL, w1] at q1
   simp [i1, ZE, YV (x := (W (a0.Frame.Now + 1))) rfl, G]
   refine rpG ?_
   refine FL (rv := [.cell 4 47, .tmp 5]) rfl ?_
   simp [f.h, G]
   all_goals (repeat' (first | exact Hn (by simp) (by simp) | refine And.intro ?_ ?_))
 ·have c2 := sl 2318336 a0.Zr u0
  have w2 : IntKind.i64.wrap ((a0.Zr.length : Int) - 1) = (a0.Zr.length : Int) - 1 := Zb (by omega) (by omega)
  refine cKo f ?_ ?_ <;> intro k2 h2 f
  ·have q2 := h2; try simp [YL, w2] at q2
   simp [G]
   refine rpG ?_
   exact zb [.cell 4 47, .tmp 5] f
  ·simp [G] at h2
theorem yU (a0 : List ZQ) (a1 : Int) : Sa 88 [rL 3 ZQ.row a0, rI a1] [rI (Ze a0 a1)] := by
 have f := me (Ze.eq_1 a0 a1)
 refine so func88 ntmps88 ?_
 refine lp1 (KA.eq_2 a0 a1) (fun J => YX 20 [eL 0 3 a0 ZQ.row, eI 1 a1, eI 5 (J : Int)]) (fun n1 J => a0.length < n1 + J /\ J <= a0.length) (a0.length + 1) 0 (fun p1 J e1 j1 => ?_)
 refine cFf e1 ?_ ?_ <;> intro k2 h1 e1
 ·have i1 := ix h1
  have m2 := ml a0 (k2 0 _ rfl)
  have w1 := wr J
  simp [i1, ZE]
  refine rpS ?_
  refine cF e1 ?_ ?_ <;> intro k3 h2 e1
  ·have f := ms f e1
   exact rt [.tmp 4] f
  exact ny1 w1 e1
 have f := ms f e1
 exact rt [.tmp 4] f
theorem B6 (a0 : ZJ) (a1 : List Int) : Sa 86 [a0.row, rL 1 iR a1] [rB (K8 a0 a1)] := by
 have f := me (K8.eq_1 a0 a1)
 refine so func86 ntmps86 ?_
 refine lp1 (xJ.eq_2 a0 a1) (fun J => YX 76 [eL 1 1 a1 iR, eX 2 (a0.row.map .d), eI 5 (J : Int)]) (fun n1 J => a1.length < n1 + J /\ J <= a1.length) (a1.length + 1) 0 (fun p1 J e1 j1 => ?_)
 refine cF e1 ?_ ?_ <;> intro k2 h1 e1
 ·have i1 := ix h1
  have m2 := ml a1 (k2 1 _ rfl)
  have w1 := wr J
  refine dIo mixed ?_
  simp [i1, ZE]
  refine rpS ?_
  refine cRs (yU a0.Frame.ZG (nth a1 J)) ?_
  refine dIs mixed ?_
  refine gIf ?_ ?_ <;> intro G
  ·have i2 := ik (J - 1) a1
   have w2 : IntKind.i64.wrap ((J : Int) - 1) = (J : Int) - 1 := Zb (by omega) (by omega)
   simp [i2, ZE, w2, qp, G]
   refine rpG ?_
   refine gK (fun _ => ?_)
   simp [i1, ZE, G]
   refine rpG ?_
   refine cK e1 ?_ ?_ <;> intro k5 h2 e1
   ·have f := ms f e1
    exact rtg [.tmp 4] f
   ·refine dIo mixed ?_
    have i3 : (Ze a0.Frame.ZG (nth a1 J)).toNat < a0.Frame.ZG.length := by have := JC a0.Frame.ZG (nth a1 J); exact il
    simp [i3, ZE, G]
    refine rpG ?_
    refine cRg (zG a0.Frame.Zq (nth a0.Frame.ZG (Ze a0.Frame.ZG (nth a1 J)).toNat).Key) ?_
    refine dIg mixed ?_
    refine gJf G ?_ ?_ <;> intro G
    ·try (simp at G; done)
     all_goals
      have i4 : (Yd a0.Frame.Zq (nth a0.Frame.ZG (Ze a0.Frame.ZG (nth a1 J)).toNat).Key).toNat < a0.Frame.Zq.length := by have := KP a0.Frame.Zq (nth a0.Frame.ZG (Ze a0.Frame.ZG (nth a1 J)).toNat).Key; exact il
      simp [i4, ZE, G]
      refine rpG ?_
      refine cK e1 ?_ ?_ <;> intro k8 h3 e1
      ·have f := ms f e1
       exact rtg [.tmp 4] f
      ·exact ny1 (an w1 (an w2 G)) e1
    ·try (simp at G; done)
     all_goals
      refine cK e1 ?_ ?_ <;> intro k9 h4 e1
      ·have f := ms f e1
       exact rtg [.tmp 4] f
      ·simp [G] at h4
  ·refine sGg ?_
   refine cK e1 ?_ ?_ <;> intro cO h5 e1
   ·have f := ms f e1
    exact rtg [.tmp 4] f
   ·refine dIo mixed ?_
    have i7 : (Ze a0.Frame.ZG (nth a1 J)).toNat < a0.Frame.ZG.length := by have := JC a0.Frame.ZG (nth a1 J); exact il
    simp [i7, ZE, G]
    refine rpG ?_
    refine cRg (zG a0.Frame.Zq (nth a0.Frame.ZG (Ze a0.Frame.ZG (nth a1 J)).toNat).Key) ?_
    refine dIg mixed ?_
    refine gJf G ?_ ?_ <;> intro G
    ·try (simp at G; done)
     all_goals
      have i8 : (Yd a0.Frame.Zq (nth a0.Frame.ZG (Ze a0.Frame.ZG (nth a1 J)).toNat).Key).toNat < a0.Frame.Zq.length := by have := KP a0.Frame.Zq (nth a0.Frame.ZG (Ze a0.Frame.ZG (nth a1 J)).toNat).Key; exact il
      simp [i8, ZE, G]
      refine rpG ?_
      refine cK e1 ?_ ?_ <;> intro cw h6 e1
      ·have f := ms f e1
       exact rtg [.tmp 4] f
      ·exact ny1 (an w1 G) e1
    ·try (simp at G; done)
     all_goals
      refine cK e1 ?_ ?_ <;> intro k14 h7 e1
      ·have f := ms f e1
       exact rtg [.tmp 4] f
      ·simp [G] at h7
 have f := ms f e1
 exact rt [.tmp 4] f
theorem IC (a0 : Za) (a1 : ZV) (u0 : Sm 2318336 a0) (u1 : Sm 2318336 a1) : Sd 171 [a0.row, a1.row] [rL 1 iR (Jx a0 a1)] := by
 have f := me (Jx.eq_1 a0 a1)
 refine soD func171 ntmps171 ?_
 refine lp2 (zx.eq_2 a0 a1) (fun J U => YX 27 [eX 2 (a0.row.map .d), eX 3 (a1.row.map .d), (5, .one (.sref 5 0 0 J.length), [.arr false 1 (J.map iR)]), eI 6 (U : Int)]) (fun n1 J U => a0.Zd.length < n1 + U /\ U <= a0.Zd.length /\ J.length <= 0 + 1 * U) (a0.Zd.length + 1) ([] : List Int) 0 (fun p1 J U e1 j1 => ?_) (h0 := wkS [((5, 0), some (7, 0))] [])
 refine cF e1 ?_ ?_ <;> intro k2 h1 e1
 ·have i1 := ix h1
  have m2 := ml a0.Zd (k2 10 _ rfl)
  have c1 := sl 2318336 a0.Zd (an u0 u1)
  have w1 := wr U
  refine dIo mixed ?_
  simp [i1, ZE]
  refine rpS ?_
  refine cRs (VA (nth a0.Zd U).Method a1 (sg u1)) ?_
  exact nx2 e1 (hw := Xh [((5, 0), some (25, 0))] [] rfl (by simp [w1]))
 have c2 := sl 2318336 a0.Zd (an u0 u1)
 have f := ms f e1
 exact rtD [.tmp 4] f
theorem RY (a0 : ZX) : Sd 163 [a0.row] [rL 1 iR (KX a0)] := by
 have f := me (KX.eq_1 a0)
 refine soD func163 ntmps163 ?_
 exact rtD [.tmp 2] f
theorem Vg (a0 : Int) (a1 : ZK) (u0 : Sm 2326528 a1) : Sa 231 [rI a0, a1.row] [rI (KJ a0 a1)] := by
 have f := me (KJ.eq_1 a0 a1)
 refine so func231 ntmps231 ?_
 refine lp2 (KE.eq_2 a1) (fun J U => YX 75 [eI 0 a0, eX 3 (a1.row.map .d), (5, .one (.sref 5 0 0 J.length), [.arr false 1 (J.map iR)]), eI 6 (U : Int)]) (fun n1 J U => a1.Path.length < n1 + U /\ U <= a1.Path.length /\ J.length <= 4 + 2 * U) (a1.Path.length + 1) ([4, a1.Count, a1.Method, a1.ID] : List Int) 0 (fun p1 J U e1 j1 => ?_) (h0 := wkS [((5, 0), some (14, 0))] [])
 refine cFo e1 ?_ ?_ <;> intro k2 h1 e1
 ·have q1 := h1; try simp at q1
  have i1 := ix h1
  have m2 := ml a1.Path (k2 17 _ rfl)
  have c1 := sl 2326528 a1.Path u0
  have w1 := wr U
  simp [i1, ZE]
  refine rpS ?_
  refine cFo e1 ?_ ?_ <;> intro k3 h2 e1
  ·have q2 := h2; try simp at q2
   simp
   refine rpS ?_
   exact nx2 e1 (hw := Xh [((5, 0), some (39, 0))] [] rfl (by simp [w1]))
  have q2 := h2; try simp at q2
  simp
  refine rpS ?_
  exact nx2 e1 (hw := Xh [((5, 0), some (42, 0))] [] rfl (by simp [w1]))
 have q1 := h1; try simp at q1
 have c2 := sl 2326528 a1.Path u0
 have f := ms f e1
 simp
 refine rpS ?_
 refine lp2 (zS.eq_2 a1) (fun lI lq => YX 75 [eI 0 a0, eX 3 (a1.row.map .d), (5, .one (.sref 5 0 0 lI.length), [.arr false 1 (lI.map iR)]), eI 7 (lq : Int)]) (fun n2 lI lq => a1.YE.length < n2 + lq /\ lq <= a1.YE.length /\ lI.length <= 5 + 2 * 2326528 + 6 * lq) (a1.YE.length + 1) (J ++ ([(a1.YE.length : Int)] : List Int)) 0 (fun p2 lI lq e2 j2 => ?_) (hI := by (have o : a1.Path.length <= 2326528 := JA (xs u0); simp at *; omega)) (h0 := wkS [((5, 0), some (48, 0))] [])
 try dsimp only at j2
 refine cFo e2 ?_ ?_ <;> intro k5 h3 e2
 ·have q3 := h3; try simp at q3
  have i2 := ix h3
  have m4 := ml a1.YE (k5 51 _ rfl)
  have c3 := sl 2326528 a1.YE u0
  have w2 := wr lq
  simp
  refine dIo mixed ?_
  simp [i2, ZE]
  refine rpS ?_
  refine cRf i2 (Yv.rd (RY (nth a1.YE lq))) ?_
  exact nx2 e2 (hI := by (simp; omega)) (hw := Xh [((5, 0), some (71, 0))] [] rfl (by simp [w2]))
 have q3 := h3; try simp at q3
 have c4 := sl 2326528 a1.YE u0
 have f := ms f e2
 simp
 refine cRs (Kg a0 lI (by first | (simp (maxDischargeDepth := 12) [XC]; omega) | (simp (maxDischargeDepth := 12) [Zk (m := 68719476736) (by decide) u0]; done))) ?_
 exact rt [.tmp 4] f
theorem Vn (a0 : Int) (a1 : List ZO) (u0 : Sm 2326528 a1) : Sa 266 [rI a0, rL 3 ZO.row a1] [rI (J2 a0 a1)] := by
 have f := me (J2.eq_1 a0 a1)
 refine so func266 ntmps266 ?_
 refine lp2 (zz.eq_2 a0 a1) (fun J U => YX 39 [eI 0 a0, eL 1 3 a1 ZO.row, (5, .one (.sref 5 0 0 J.length), [.arr false 1 (J.map iR)]), eI 6 (U : Int)]) (fun n1 J U => a1.length < n1 + U /\ U <= a1.length /\ J.length <= 1 + 1 * U) (a1.length + 1) ([2] : List Int) 0 (fun p1 J U e1 j1 => ?_) (h0 := wkS [((5, 0), some (7, 0))] [])
 refine cF e1 ?_ ?_ <;> intro k2 h1 e1
 ·have i1 := ix h1
  have m2 := ml a1 (k2 1 _ rfl)
  have c1 := sl 2326528 a1 u0
  have w1 := wr U
  refine H4 [2, 3, 4, 5, 6, 7, 8, 9, 10, 11, 12, 13, 14, 15, 16, 17, 18, 0, 1, 19, 20, 21, 22] mixed (by kernel_rfl) (by kernel_rfl) (by kernel_rfl) ?_
  have c2 := sl 2326528 (nth a1 U).YP u0
  simp [i1, ZE]
  refine rpS ?_
  refine cRs (Kg a0 (([(nth a1 U).Key, (nth a1 U).Mark] : List Int) ++ (nth a1 U).YP) (by simp (maxDischargeDepth := 12) [K0, XC, Zk (m := 68719476736) (by decide) u0]; try omega)) ?_
  exact nx2 e1 (hw := Xh [((5, 0), some (35, 0))] [] rfl (by simp [w1]))
 have c3 := sl 2326528 a1 u0
 have f := ms f e1
 refine cRs (Kg a0 J (by first | (simp (maxDischargeDepth := 12) [XC]; omega) | (simp (maxDischargeDepth := 12) [Zk (m := 68719476736) (by decide) u0]; done))) ?_
 exact rt [.tmp 4] f
theorem LG (a0 : Int) (a1 : Int) (a2 : List ZO) (a3 : Int) (u0 : Sm 2322432 a2) : Sa 232 [rI a0, rI a1, rL 3 ZO.row a2, rI a3] [rI (U1 a0 a1 a2 a3)] := by
 have f := me (U1.eq_1 a0 a1 a2 a3)
 refine so func232 ntmps232 ?_
 refine cRs (Vn a0 a2 (sg u0)) ?_
 refine cRs (Kg a0 ([3, a1, (J2 a0 a2), a3] : List Int) (by simp (maxDischargeDepth := 12) [K0, XC, Zk (m := 68719476736) (by decide) u0]; try omega)) ?_
 exact rt [.tmp 8] f
theorem Qm {a b : Prop} (h : b) (k : a := by (intros; first | omega | with_unfolding_all (first | first | omega | (have cc : a0.Zd.length <= 2318336 := JA (xs u0); have z0 := gP; simp at z0; have z := W1 (by omega) z0.1; have z2 := z0.2; (try have w3 : IntKind.i64.wrap (a2 - 1) = a2 - 1 := Zb (by omega) (by omega)); (try have w4 : W (a2 - 1) = a2 - 1 := w3); first | omega | (refine ⟨⟨z0.1, by omega⟩, by omega, by omega⟩) | (simp_all; omega))) | (simp_all; done) | (simp_all; omega) | grind | ((try simp only [Kc, show ∀ x, IntKind.i64.wrap x = W x from fun _ => rfl] at *); omega))) : a /\ b := ⟨k, h⟩
theorem A4 (a0 : Za) (a1 : List Int) (a2 : Int) (u0 : Sm 2318336 a0) (u1 : Sm 2318336 a1) : Sa 170 [a0.row, rL 1 iR a1, rI a2] [rI (TI a0 a1 a2)] := by
 have f := me (TI.eq_1 a0 a1 a2)
 refine so func170 ntmps170 ?_
 refine dIs mixed ?_
 refine cRs (Y8 a2 0 (W ((a0.Zd.length : Int) - 1))) ?_
 refine gIo ?_ ?_ <;> intro G
 ·have gP := G
  have c1 := sl 2318336 a0.Zd (an u0 u1)
  have w1 : IntKind.i64.wrap ((a0.Zd.length : Int) - 1) = (a0.Zd.length : Int) - 1 := Zb (by omega) (by omega)
  have g1 := G; try simp [YL, w1] at g1
  have i1 : a2.toNat < a0.Zd.length := by (have cc : a0.Zd.length <= 2318336 := JA (xs u0); have z0 := gP; simp at z0; have z := W1 (by omega) z0.1; have z2 := z0.2; (try have w3 : IntKind.i64.wrap (a2 - 1) = a2 - 1 := Zb (by omega) (by omega)); (try have w4 : W (a2 - 1) = a2 - 1 := w3); omega)
  simp [i1, ZE, G]
  repeat with_reducible refine Qm ?_
  refine cGo (fun gg => (Y8 (nth a0.Zd a2.toNat).Count 0 (a0.ZL.length : Int))) ?_
  simp [G]
  repeat with_reducible refine Qm ?_
  refine cKo f ?_ ?_ <;> intro k2 h1 f
  ·have q1 := h1; try simp [YL, w1] at q1
   simp [G]
   repeat with_reducible refine Qm ?_
   exact rtg [.tmp 6] f
  ·have q1 := h1; try simp [YL, w1] at q1
   simp [i1, ZE, G]
   repeat with_reducible refine Qm ?_
   refine cKo f ?_ ?_ <;> intro k3 h2 f
   ·have q2 := h2; try simp at q2
    have i2 : (W (a2 - 1)).toNat < a0.Zd.length := by (have cc : a0.Zd.length <= 2318336 := JA (xs u0); have z0 := gP; simp at z0; have z := W1 (by omega) z0.1; have z2 := z0.2; (try have w3 : IntKind.i64.wrap (a2 - 1) = a2 - 1 := Zb (by omega) (by omega)); (try have w4 : W (a2 - 1) = a2 - 1 := w3); omega)
    simp [i2, ZE, G]
    repeat with_reducible refine Qm ?_
    refine cR (Vg (nth a0.Zd a2.toNat).Method (nth a0.Zd (W (a2 - 1)).toNat) (sg (Yf (Za.jO u0)))) ?_ (lP := by first | (simp; done) | (simp [W, w1]; done))
    simp [G]
    repeat with_reducible refine Qm ?_
    refine dIo mixed ?_
    have i3 : a2.toNat < a1.length := by (have cc : a0.Zd.length <= 2318336 := JA (xs u0); have z0 := gP; simp at z0; have z := W1 (by omega) z0.1; have z2 := z0.2; (try have w3 : IntKind.i64.wrap (a2 - 1) = a2 - 1 := Zb (by omega) (by omega)); (try have w4 : W (a2 - 1) = a2 - 1 := w3); omega)
    simp [i3, ZE, i1, G]
    repeat with_reducible refine Qm ?_
    refine cR (LG (nth a0.Zd a2.toNat).Method (nth a1 a2.toNat) (a0.ZL.take (nth a0.Zd a2.toNat).Count.toNat) (KJ (nth a0.Zd a2.toNat).Method (nth a0.Zd (W (a2 - 1)).toNat)) (Zk (n := 2318336) (by decide) (xs (an u0 u1)))) ?_ (lP := by first | (simp; done) | (simp [W, w1]; done))
    simp [G]
    repeat with_reducible refine Qm ?_
    exact rtg [.tmp 6] f
   ·have q2 := h2; try simp at q2
    simp [G]
    repeat with_reducible refine Qm ?_
    refine dIo mixed ?_
    have i4 : a2.toNat < a1.length := by (have cc : a0.Zd.length <= 2318336 := JA (xs u0); have z0 := gP; simp at z0; have z := W1 (by omega) z0.1; have z2 := z0.2; (try have w3 : IntKind.i64.wrap (a2 - 1) = a2 - 1 := Zb (by omega) (by omega)); (try have w4 : W (a2 - 1) = a2 - 1 := w3); omega)
    simp [i4, ZE, i1, G]
    repeat with_reducible refine Qm ?_
    refine cR (LG (nth a0.Zd a2.toNat).Method (nth a1 a2.toNat) (a0.ZL.take (nth a0.Zd a2.toNat).Count.toNat) 0 (Zk (n := 2318336) (by decide) (xs (an u0 u1)))) ?_
    simp [G]
    repeat with_reducible refine Qm ?_
    exact rtg [.tmp 6] f
 ·have gP := G
  simp [G]
  repeat with_reducible refine Qm ?_
  refine sGo ?_
  simp [G]
  repeat with_reducible refine Qm ?_
  have c2 := sl 2318336 a0.Zd (an u0 u1)
  have w2 : IntKind.i64.wrap ((a0.Zd.length : Int) - 1) = (a0.Zd.length : Int) - 1 := Zb (by omega) (by omega)
  refine cKo f ?_ ?_ <;> intro k6 h3 f
  ·have q3 := h3; try simp [YL, w2] at q3
   simp [G]
   repeat with_reducible refine Qm ?_
   exact rtg [.tmp 6] f
  ·simp [G] at h3
theorem Vi (a0 : ZD) (a1 : Int) (u0 : Sm 2314240 a0) : Sd 98 [a0.row, rI a1] [rL 1 iR (YD a0 a1)] := by
 have f := me (YD.eq_1 a0 a1)
 refine soD func98 ntmps98 ?_
 refine lp2 (Jt.eq_2 a0 a1) (fun J U => YX 51 [eI 1 a1, eX 2 (a0.row.map .d), (5, .one (.sref 5 0 0 J.length), [.arr false 1 (J.map iR)]), eI 6 (U : Int)]) (fun n1 J U => a0.ZF.length < n1 + U /\ U <= a0.ZF.length /\ J.length <= 0 + 1 * U) (a0.ZF.length + 1) ([] : List Int) 0 (fun p1 J U e1 j1 => ?_) (h0 := wkS [((5, 0), some (8, 0))] [])
 refine cFf e1 ?_ ?_ <;> intro k2 h1 e1
 ·have i1 := ix h1
  have m2 := ml a0.ZF (k2 11 _ rfl)
  have c1 := sl 2314240 a0.ZF u0
  have w1 := wr U
  simp [i1, ZE]
  refine rpS ?_
  refine cOs (Yv.own (yo (nth a0.ZF U).ZI (sg (ZM.Jf (Yf (ZD.Ys u0)))))) ?_
  refine eIs ?_
  have c2 := sl 2314240 (nth a0.ZF U).ZI.Zd u0
  refine eIs ?_
  refine dIo mixed ?_
  simp [i1, ZE]
  refine rpS ?_
  refine cDs [false] (IC (Za.mk (nth a0.ZF U).ZI.ZL ((nth a0.ZF U).ZI.Zd ++ ([(ZK.mk ((nth a0.ZF U).ZI.ZL.length : Int) a1 0 ([] : List Zv) ([] : List ZX))] : List ZK))) (nth a0.ZF U).Doc (by (first | (exact Ka (s := (nth a0.ZF U).ZI) (by decide) (show Sm 2314240 _ by simp (maxDischargeDepth := 12) [u0]) (by simp)) | (refine qc ?_; exact Ka (s := (nth a0.ZF U).ZI) (by decide) (show Sm 2314240 _ by simp (maxDischargeDepth := 12) [u0]) (by simp)) | (exact Zk (n := 2314240) (by decide) (xs u0)))) (by (first | (exact Ka (s := (nth a0.ZF U).ZI) (by decide) (show Sm 2314240 _ by simp (maxDischargeDepth := 12) [u0]) (by simp)) | (refine qc ?_; exact Ka (s := (nth a0.ZF U).ZI) (by decide) (show Sm 2314240 _ by simp (maxDischargeDepth := 12) [u0]) (by simp)) | (exact Zk (n := 2314240) (by decide) (xs u0))))) ?_
  refine cRs (A4 (Za.mk (nth a0.ZF U).ZI.ZL ((nth a0.ZF U).ZI.Zd ++ ([(ZK.mk ((nth a0.ZF U).ZI.ZL.length : Int) a1 0 ([] : List Zv) ([] : List ZX))] : List ZK))) (Jx (Za.mk (nth a0.ZF U).ZI.ZL ((nth a0.ZF U).ZI.Zd ++ ([(ZK.mk ((nth a0.ZF U).ZI.ZL.length : Int) a1 0 ([] : List Zv) ([] : List ZX))] : List ZK))) (nth a0.ZF U).Doc) (W ((((nth a0.ZF U).ZI.Zd ++ ([(ZK.mk ((nth a0.ZF U).ZI.ZL.length : Int) a1 0 ([] : List Zv) ([] : List ZX))] : List ZK)).length : Int) - 1)) (by (first | (exact Ka (s := (nth a0.ZF U).ZI) (by decide) (show Sm 2314240 _ by simp (maxDischargeDepth := 12) [u0]) (by simp)) | (refine qc ?_; exact Ka (s := (nth a0.ZF U).ZI) (by decide) (show Sm 2314240 _ by simp (maxDischargeDepth := 12) [u0]) (by simp)) | (exact Zk (n := 2314240) (by decide) (xs u0)))) (by (first | (exact Ka (s := (nth a0.ZF U).ZI) (by decide) (show Sm 2314240 _ by simp (maxDischargeDepth := 12) [u0]) (by simp)) | (refine qc ?_; exact Ka (s := (nth a0.ZF U).ZI) (by decide) (show Sm 2314240 _ by simp (maxDischargeDepth := 12) [u0]) (by simp)) | (exact Zk (n := 2314240) (by decide) (xs u0))))) ?_ (lP := by first | (simp; done) | (simp [W, w1]; done))
  exact nx2 e1 (hw := Xh [((5, 0), some (49, 0))] [] rfl (by simp [w1]))
 have c3 := sl 2314240 a0.ZF u0
 have f := ms f e1
 exact rtD [.tmp 4] f
theorem Lh (a0 : Int) (a1 : Int) (a2 : Int) : Sa 264 [rI a0, rI a1, rI a2] [rI (jv a0 a1 a2)] := by
 have f := me (jv.eq_1 a0 a1 a2)
 refine so func264 ntmps264 ?_
 refine cRs (Kg a0 ([1, a1, a2] : List Int) (by simp (maxDischargeDepth := 12) [K0, XC]; try omega)) ?_
 exact rt [.tmp 6] f
theorem Ty (a0 : Int) (a1 : List Int) (u0 : Sm 2322432 a1) : Sd 226 [rI a0, rL 1 iR a1] [rL 1 iR (kl a0 a1)] := by
 have f := me (kl.eq_1 a0 a1)
 refine soD func226 ntmps226 ?_
 refine lp2 (xm.eq_2 a0 a1) (fun J U => YX 41 [eI 0 a0, eL 1 1 a1 iR, (5, .one (.sref 5 0 0 J.length), [.arr false 1 (J.map iR)]), eI 6 (U : Int)]) (fun n1 J U => a1.length < n1 + U /\ U <= a1.length + 1 /\ J.length <= U) (a1.length + 1) ([] : List Int) 0 (fun p1 J U e1 j1 => ?_) (h0 := wkS [((5, 0), some (7, 0))] [])
 try dsimp only at j1
 refine cF e1 ?_ ?_ <;> intro k2 h1 e1
 ·have i1 := ix h1
  have m2 := ml a1 (k2 1 _ rfl)
  have c1 := sl 2322432 a1 u0
  have w1 := wr U
  refine cFt e1 ?_ ?_ <;> intro k3 h2 e1
  ·refine okD fun k4 => ?_
   refine dIo mixed ?_
   have i2 := ik (W ((U : Int) + 1)).toNat a1
   simp [i1, ZE, i2]
   refine rpS ?_
   refine cRs (Lh a0 (nth a1 U) (nth a1 (W ((U : Int) + 1)).toNat)) ?_ (lP := by first | (simp; done) | (simp [W, w1]; done))
   have w2 : IntKind.i64.wrap ((U : Int) + 2) = (U : Int) + 2 := Zb (by omega) (by omega)
   exact nx2 e1 (hI := by first | omega | (simp at *; omega)) (hw := Xh [((5, 0), some (32, 0))] [] rfl (by simp [w1, w2]))
  simp [i1, ZE]
  refine rpS ?_
  have w3 : IntKind.i64.wrap ((U : Int) + 2) = (U : Int) + 2 := Zb (by omega) (by omega)
  exact nx2 e1 (hI := by first | omega | (simp at *; omega)) (hw := Xh [((5, 0), some (39, 0))] [] rfl (by simp [w1, w3]))
 have c2 := sl 2322432 a1 u0
 have f := ms f e1
 exact rtD [.tmp 4] f
theorem Un (a0 : Int) (a1 : List Int) (u0 : Sm 2318336 a1) : Sa 161 [rI a0, rL 1 iR a1] [rI (KI a0 a1)] := by
 have f := me (KI.eq_1 a0 a1)
 refine so func161 ntmps161 ?_
 refine cRs (Y8 (a1.length : Int) 1 16) ?_
 refine cFo f ?_ ?_ <;> intro k1 h1 f
 ·have q1 := h1; try simp [YL] at q1
  simp
  exact rt [.tmp 4] f
 have q1 := h1; try simp [YL] at q1
 have c1 := sl 2318336 a1 u0
 simp
 refine rpS ?_
 refine lp1 (jo.eq_2 a0) (fun J => YX 22 [eI 0 a0, (5, .one (.sref 5 0 0 J.length), [.arr false 1 (J.map iR)])]) (fun n1 J => J.length < n1 /\ 1 <= J.length /\ J.length <= 16) (a1.length + 1) a1 (fun p1 J e1 j1 => ?_) (hI := by first | omega | (simp at *; omega)) (h0 := wkS [((5, 0), some (12, 0))] [])
 try dsimp only at j1
 refine cFt e1 ?_ ?_ <;> intro k3 h2 e1
 ·refine cDs [false] (Ty a0 J (by first | (simp (maxDischargeDepth := 12) [XC]; omega) | (simp (maxDischargeDepth := 12) [Zk (m := 2322432) (by decide) u0]; done))) ?_
  exact nx1 e1 (hI := by (have z := Vx a0 J (by omega); (try dsimp only); simp at *; omega)) (hw := wkS [((5, 0), some (18, 0))] [])
 have f := ms f e1
 have i1 := ik 0 J
 simp [i1, ZE]
 refine rpS ?_
 exact rt [.tmp 4] f
theorem BU (a0 : ZD) (a1 : Int) (u0 : Sm 2310144 a0) : Sa 87 [a0.row, rI a1] [rI (zg a0 a1)] := by
 have f := me (zg.eq_1 a0 a1)
 refine so func87 ntmps87 ?_
 refine cRs (Yv.rd (Vi a0 a1 (sg u0))) ?_
 refine cRs (Un a1 (YD a0 a1) (by simp (maxDischargeDepth := 12) [ja, Zk (m := 2318336) (by decide) u0]; try omega)) ?_
 exact rt [.tmp 4] f
theorem OD (a0 : List Int) (a1 : Int) : Sa 89 [rL 1 iR a0, rI a1] [rB (PE a0 a1)] := by
 have f := me (PE.eq_1 a0 a1)
 refine so func89 ntmps89 ?_
 refine lp1 (R6.eq_2 a0 a1) (fun J => YX 18 [eL 0 1 a0 iR, eI 1 a1, eI 5 (J : Int)]) (fun n1 J => a0.length < n1 + J /\ J <= a0.length) (a0.length + 1) 0 (fun p1 J e1 j1 => ?_)
 refine cFf e1 ?_ ?_ <;> intro k2 h1 e1
 ·have i1 := ix h1
  have m2 := ml a0 (k2 0 _ rfl)
  have w1 := wr J
  simp [i1, ZE]
  refine rpS ?_
  refine cF e1 ?_ ?_ <;> intro k3 h2 e1
  ·have f := ms f e1
   exact rt [.tmp 4] f
  exact ny1 w1 e1
 have f := ms f e1
 exact rt [.tmp 4] f
theorem tO (a0 : Int) (a1 : Int) : Sa 91 [rI a0, rI a1] [rI (Pd a0 a1)] := by
 have f := me (Pd.eq_1 a0 a1)
 refine so func91 ntmps91 ?_
 refine cF f ?_ ?_ <;> intro k1 h1 f
 ·exact rt [.tmp 4] f
 exact rt [.tmp 4] f
theorem sM (a0 : Int) (a1 : Int) : Sa 90 [rI a0, rI a1] [rI (NP a0 a1)] := by
 have f := me (NP.eq_1 a0 a1)
 refine so func90 ntmps90 ?_
 refine cF f ?_ ?_ <;> intro k1 h1 f
 ·exact rt [.tmp 4] f
 exact rt [.tmp 4] f
theorem VF (a0 : List YR) (a1 : List ZQ) (a2 : ZX) (u0 : Sm 2322432 a0) (u1 : Sm 2322432 a1) : Sa 92 [rL 5 YR.row a0, rL 3 ZQ.row a1, a2.row] [(J1 a0 a1 a2).1.row, rB (J1 a0 a1 a2).2] := by
 have f := me (J1.eq_1 a0 a1 a2)
 refine so func92 ntmps92 ?_
 refine cRs (yU a1 a2.Authority) ?_
 refine cGs (fun gg => (RP a2.Time)) ?_
 refine cFt f ?_ ?_ <;> intro k1 h1 f
 ·exact rt [.cell 6 144, .tmp 7] f
 have i1 : (Ze a1 a2.Authority).toNat < a1.length := by have := JC a1 a2.Authority; exact il
 simp [i1, ZE]
 refine rpS ?_
 refine cRs (zG a0 (nth a1 (Ze a1 a2.Authority).toNat).Key) ?_
 refine cF f ?_ ?_ <;> intro k2 h2 f
 ·exact rt [.cell 6 144, .tmp 7] f
 refine dIo mixed ?_
 have i2 : (Yd a0 (nth a1 (Ze a1 a2.Authority).toNat).Key).toNat < a0.length := by have := KP a0 (nth a1 (Ze a1 a2.Authority).toNat).Key; exact il
 simp [i2, ZE]
 refine rpS ?_
 refine cRs (Yv.rd (RY a2)) ?_
 refine cRs (UQ (nth a0 (Yd a0 (nth a1 (Ze a1 a2.Authority).toNat).Key).toNat) (KX a2) (by simp (maxDischargeDepth := 12) [Gn, Zk (m := 2326528) (by decide) u0, Zk (m := 2326528) (by decide) u1]; try omega)) ?_
 exact rt [.cell 6 144, .tmp 7] f
theorem UY {a b : Prop} (h : b) (k : a := by (intros; first | omega | with_unfolding_all (first | first | omega | (have tm := Int.tmod_eq_emod_of_nonneg (b := 2) (show 0 <= J by omega); (try simp only [Kc, show ∀ x, IntKind.i64.wrap x = W x from fun _ => rfl] at *); (try simp at *); omega)) | ((try simp only [Kc, show ∀ x, IntKind.i64.wrap x = W x from fun _ => rfl] at *); omega))) : a /\ b := ⟨k, h⟩
theorem F1 (a0 : Int) (a1 : List Int) (a2 : Int) (u0 : Sm 2318336 a1) : Sd 164 [rI a0, rL 1 iR a1, rI a2] [rL 2 Zv.row (Km a0 a1 a2)] := by
 have f := me (Km.eq_1 a0 a1 a2)
 refine soD func164 ntmps164 ?_
 refine cGs (fun gg => (Y8 a2 0 (W ((a1.length : Int) - 1)))) ?_
 have c1 := sl 2318336 a1 u0
 have w1 : IntKind.i64.wrap ((a1.length : Int) - 1) = (a1.length : Int) - 1 := Zb (by omega) (by omega)
 refine cFo f ?_ ?_ <;> intro k1 h1 f
 ·have q1 := h1; try simp [YL, w1] at q1
  simp
  exact rtD [.tmp 6] f
 have q1 := h1; try simp [YL, w1] at q1
 simp
 repeat with_reducible refine UY ?_
 refine lp3 (KU.eq_2 a0) (fun J U lA => YX 60 [eI 0 a0, eI 2 J, (7, .one (.sref 7 0 0 U.length), [.arr false 2 (U.map Zv.row)]), (8, .one (.sref 8 0 0 lA.length), [.arr false 1 (lA.map iR)])]) (fun n1 J U lA => lA.length < n1 /\ 0 <= J /\ J < (lA.length : Int) /\ lA.length <= 16 /\ U.length + n1 <= 17) (a1.length + 1) a2 ([] : List Zv) a1 (fun p1 J U lA e1 j1 => ?_) (hI := by first | omega | (simp at *; omega)) (h0 := wkS [((7, 0), some (9, 0)), ((8, 0), some (24, 0))] [])
 try dsimp only at j1
 refine cF e1 ?_ ?_ <;> intro k3 h2 e1
 ·refine cFf e1 ?_ ?_ <;> intro k4 h3 e1
  ·have i1 : (W (J - 1)).toNat < lA.length := by first | omega | (have tm := Int.tmod_eq_emod_of_nonneg (b := 2) (show 0 <= J by omega); (try simp only [Kc, show ∀ x, IntKind.i64.wrap x = W x from fun _ => rfl] at *); (try simp at *); omega)
   simp [i1, ZE]
   repeat with_reducible refine UY ?_
   refine cDs [false] (Ty a0 lA (by first | (simp (maxDischargeDepth := 12) [XC]; omega) | (simp (maxDischargeDepth := 12) [Zk (m := 2322432) (by decide) u0]; done))) ?_
   exact nx3 e1 (hI := by (have z := Vx a0 lA (by omega); have td := Int.tdiv_eq_ediv_of_nonneg (b := 2) (show 0 <= J by omega); have w2 : W (Int.tdiv J 2) = Int.tdiv J 2 := Zb (by omega) (by omega); (try dsimp only); rw [w2]; simp at *; omega)) (hw := Xh [((7, 0), some (39, 0)), ((8, 0), some (56, 0))] [] rfl (by simp [w1]))
  refine cFo e1 ?_ ?_ <;> intro k5 h4 e1
  ·have q4 := h4; try simp [w1] at q4
   have i2 : (W (J + 1)).toNat < lA.length := by first | omega | (have tm := Int.tmod_eq_emod_of_nonneg (b := 2) (show 0 <= J by omega); (try simp only [Kc, show ∀ x, IntKind.i64.wrap x = W x from fun _ => rfl] at *); (try simp at *); omega)
   simp [i2, ZE]
   repeat with_reducible refine UY ?_
   refine cDs [false] (Ty a0 lA (by first | (simp (maxDischargeDepth := 12) [XC]; omega) | (simp (maxDischargeDepth := 12) [Zk (m := 2322432) (by decide) u0]; done))) ?_
   exact nx3 e1 (hI := by (have z := Vx a0 lA (by omega); have td := Int.tdiv_eq_ediv_of_nonneg (b := 2) (show 0 <= J by omega); have w2 : W (Int.tdiv J 2) = Int.tdiv J 2 := Zb (by omega) (by omega); (try dsimp only); rw [w2]; simp at *; omega)) (hw := Xh [((7, 0), some (53, 0)), ((8, 0), some (56, 0))] [] rfl (by simp [w1]))
  have q4 := h4; try simp [w1] at q4
  simp
  refine cDs [false] (Ty a0 lA (by first | (simp (maxDischargeDepth := 12) [XC]; omega) | (simp (maxDischargeDepth := 12) [Zk (m := 2322432) (by decide) u0]; done))) ?_
  exact nx3 e1 (hI := by (have z := Vx a0 lA (by omega); have td := Int.tdiv_eq_ediv_of_nonneg (b := 2) (show 0 <= J by omega); have w2 : W (Int.tdiv J 2) = Int.tdiv J 2 := Zb (by omega) (by omega); (try dsimp only); rw [w2]; simp at *; omega)) (hw := Xh [((8, 0), some (56, 0))] [] rfl (by simp [w1]))
 have f := ms f e1
 exact rtD [.tmp 6] f
theorem SX (a0 : Za) (a1 : ZK) (u0 : Sm 2326528 a0) (u1 : Sm 2326528 a1) : Sd 99 [a0.row, a1.row] [(Qg a0 a1).1.row, rB (Qg a0 a1).2] := by
 have f := me (Qg.eq_1 a0 a1)
 refine soD func99 ntmps99 ?_
 refine cDs [] (yo a0 (sg u0)) ?_
 refine drJ [14] mixed ?_
 simp
 refine cDs [true, true, true, false, false] (Pj a1 (sg u1)) ?_
 refine Wd ?_
 have c1 := sl 2326528 a0.Zd (an u0 u1)
 simp
 refine Vl (lC := (a0.Zd.map ZK.row)) (news := (([a1] : List ZK).map ZK.row)) (l1 := [(8, 1)]) (l2 := [(12, 3), (12, 4)]) (size := 5) ?_
 simp
 refine cRs (UU (Za.mk a0.ZL (a0.Zd ++ ([a1] : List ZK)))) ?_
 refine cF f ?_ ?_ <;> intro k2 h1 f
 ·refine cDs [] (yo a0 (sg u0)) ?_
  exact rtD [.cell 4 112, .tmp 5] f
 exact rtD [.cell 4 112, .tmp 5] f
theorem ME (a0 : ZD) (a1 : Int) (a2 : List ZX) (u0 : Sm 2310144 a0) (u1 : Sm 2310144 a2) : Sd 93 [a0.row, rI a1, rL 5 ZX.row a2] [(QZ a0 a1 a2).1.row, rB (QZ a0 a1 a2).2] := by
 have f := me (QZ.eq_1 a0 a1 a2)
 refine soD func93 ntmps93 ?_
 refine cDs [] (QD a0 (sg u0)) ?_
 refine cRs (Yv.rd (Vi a0 a1 (sg u0))) ?_
 refine cRs (Un a1 (YD a0 a1) (by simp (maxDischargeDepth := 12) [ja, Zk (m := 2318336) (by decide) u0, Zk (m := 2318336) (by decide) u1]; try omega)) ?_
 refine cRs (xY a0) ?_
 refine lp3 (Q6.eq_2 a0 a1 a2) (fun J U lA => YX 84 [eI 1 a1, eL 2 5 a2 ZX.row, eX 3 (a0.row.map .d), (6, .one (.bptr 6 0), [.box [.d (.int .i64 0), .nil 16]]), (8, .one (.bptr 8 0), [.box [.d (.int .i64 a0.Id), .sref 16 1 0 lA.length]]), eL 9 1 (YD a0 a1) iR, eI 10 (KI a1 (YD a0 a1)), eB 11 J, eI 12 (U : Int), (16, .any, [.none, .arr true 16 (lA.map ZM.row)])]) (fun n1 J U lA => a0.ZF.length < n1 + U /\ U <= a0.ZF.length /\ lA.length = a0.ZF.length) (a0.ZF.length + 1) ((JG a0) && (decide ((a0.ZF.length : Int) > 0))) 0 a0.ZF (fun p1 J U lA e1 j1 => ?_)
 refine cF e1 ?_ ?_ <;> intro k2 h1 e1
 ·have i1 : U < a0.ZF.length := by (simp at h1; omega)
  have m2 := ml a0.ZF (k2 33 _ rfl)
  have c1 := sl 2310144 a0.ZF (an u0 u1)
  have w1 := wr U
  refine dIo mixed ?_
  simp [i1, ZE]
  refine rpS ?_
  refine cRs (Yv.rd (F1 a1 (YD a0 a1) (U : Int) (by simp (maxDischargeDepth := 12) [ja, Zk (m := 2318336) (by decide) u0, Zk (m := 2318336) (by decide) u1]; try omega))) ?_
  have i2 := ik U lA
  refine cDf i2 [] (SX (nth a0.ZF U).ZI (ZK.mk ((nth a0.ZF U).ZI.ZL.length : Int) a1 (KI a1 (YD a0 a1)) (Km a1 (YD a0 a1) (U : Int)) a2) (sg (ZM.Jf (Yf (ZD.Ys u0)))) (by simp (maxDischargeDepth := 12) [Fc, ja, Zk (m := 2326528) (by decide) u0, Zk (m := 2326528) (by decide) u1]; try omega)) ?_
  refine r6 (t := 16) (j := 1) (i := U) (c := 14) (size := 16) (rows := (lA.map ZM.row)) (ds := (Qg (nth a0.ZF U).ZI (ZK.mk ((nth a0.ZF U).ZI.ZL.length : Int) a1 (KI a1 (YD a0 a1)) (Km a1 (YD a0 a1) (U : Int)) a2)).1.row) (L := [(64, 0), (64, 1)]) rfl rfl rfl rfl (by simp) (by simp) (by simp; try omega) (by simp) (by simp) (by simp) (by simp) (by simp) (by simp) ?_
  simp [YV (x := (ZM.mk (nth lA U).Id (nth lA U).Y7 (nth lA U).Doc (nth lA U).Sig (Qg (nth a0.ZF U).ZI (ZK.mk ((nth a0.ZF U).ZI.ZL.length : Int) a1 (KI a1 (YD a0 a1)) (Km a1 (YD a0 a1) (U : Int)) a2)).1)) rfl, i2, ZE, Zj]
  refine rpS ?_
  exact ny3 w1 e1
 have c2 := sl 2310144 a0.ZF (an u0 u1)
 have f := ms f e1
 refine cGs (fun gg => (xY (ZD.mk a0.Id lA))) ?_
 refine cF f ?_ ?_ <;> intro k4 h2 f
 ·refine cDs [] (QD a0 (sg u0)) ?_
  exact rtD [.cell 6 119, .tmp 7] f
 exact rtD [.cell 6 119, .tmp 7] f
theorem X6 {a b : Prop} (h : b) (k : a := by (intros; first | omega | with_unfolding_all (first | first | omega | (have z := Jl (a0 := a0) (a1 := a2) (j := U) (by have z1 := h1; simp at z1; simp [z1]) (by omega); omega) | (have z := Jl (a0 := a0) (a1 := a2) (j := lI) (by have z1 := h1; simp at z1; simp [z1]) (by omega); omega)) | ((try simp only [Kc, show ∀ x, IntKind.i64.wrap x = W x from fun _ => rfl] at *); omega))) : a /\ b := ⟨k, h⟩
theorem FA (a0 : ZJ) (a1 : Int) (a2 : List Int) (a3 : Int) (u0 : Sm 2306048 a0) (u1 : Sm 2306048 a2) : Sd 31 [a0.row, rI a1, rL 1 iR a2, rI a3] [(xE a0 a1 a2 a3).1.row, rB (xE a0 a1 a2 a3).2] := by
 have f := me (xE.eq_1 a0 a1 a2 a3)
 refine soD func31 ntmps31 ?_
 refine cDs [false, false, false, true, true, false, false, true, false, false, true, false] (Qx a0 (sg u0)) ?_
 refine cRs (qY a0.Frame.Methods a0.Frame.Now) ?_
 refine cRs (jK a0 a1) ?_
 refine cGs (fun gg => (B6 a0 a2)) ?_
 refine cGs (fun gg => (Y8 a3 (-10000) 10000)) ?_
 have c1 := sl 2306048 a0.ZA (an u0 u1)
 have w1 : IntKind.i64.wrap ((a0.ZA.length : Int) - 1) = (a0.ZA.length : Int) - 1 := Zb (by omega) (by omega)
 refine cFo f ?_ ?_ <;> intro k1 h1 f
 ·have q1 := h1; try simp [YL, w1, Qi] at q1
  simp
  exact rtD [.cell 8 47, .tmp 9] f
 have q1 := h1; try simp [YL, w1, Qi] at q1
 have i1 : a1.toNat < a0.ZA.length := by first | omega | (have z := Jl (a0 := a0) (a1 := a2) (j := U) (by have z1 := h1; simp at z1; simp [z1]) (by omega); omega) | (have z := Jl (a0 := a0) (a1 := a2) (j := lI) (by have z1 := h1; simp at z1; simp [z1]) (by omega); omega)
 simp [i1, ZE]
 repeat with_reducible refine X6 ?_
 refine cRs (BU (nth a0.ZA a1.toNat) (Zh a0.Frame.Methods a0.Frame.Now) (sg (Yf (ZJ.Y1 u0)))) ?_
 refine lp2 (zU.eq_2 a0 a1 a2 a3) (fun J U => YX 162 [eI 1 a1, eL 2 1 a2 iR, eI 3 a3, eX 4 (a0.row.map .d), (8, .one (.bptr 8 0), [.box [.nil 5, .nil 3, .nil 4, .d (.int .i64 0), .d (.int .i64 0), .nil 7, .nil 1, .nil 2, .nil 1, .nil 1, .d (.int .i64 0), .nil 1]]), (10, .one (.bptr 10 0), [.box [.sref 24 0 0 a0.Frame.Zq.length, .sref 24 1 0 a0.Frame.ZG.length, .sref 24 2 0 a0.Frame.Methods.length, .d (.int .i64 a0.Frame.y9), .d (.int .i64 a0.Frame.Now), .sref 24 5 0 a0.ZS.length, .sref 24 6 0 a0.Zr.length, .sref 24 7 0 a0.ZA.length, .sref 24 8 0 a0.Ym.length, .sref 24 9 0 a0.YW.length, .d (.int .i64 a0.Next), .sref 24 11 0 a0.YN.length]]), eI 11 (Zh a0.Frame.Methods a0.Frame.Now), eI 12 (zg (nth a0.ZA a1.toNat) (Zh a0.Frame.Methods a0.Frame.Now)), (13, .one (.sref 13 0 0 J.length), [.arr false 5 (J.map ZX.row)]), eI 14 (U : Int), (24, .any, [.arr false 5 (a0.Frame.Zq.map YR.row), .arr false 3 (a0.Frame.ZG.map ZQ.row), .arr false 4 (a0.Frame.Methods.map Zf.row), .none, .none, .arr false 7 (a0.ZS.map Z1.row), .arr false 1 (a0.Zr.map iR), .arr true 2 (a0.ZA.map ZD.row), .arr false 1 (a0.Ym.map iR), .arr false 1 (a0.YW.map iR), .none, .arr false 1 (a0.YN.map iR)])]) (fun n1 J U => a2.length < n1 + U /\ U <= a2.length /\ J.length <= 0 + 1 * U) (a2.length + 1) ([] : List ZX) 0 (fun p1 J U e1 j1 => ?_) (h0 := wkS [((13, 0), some (59, 0))] [])
 try dsimp only at j1
 refine cFt e1 ?_ ?_ <;> intro k3 h2 e1
 ·have i2 := ix h2
  have m2 := ml a2 (k3 2 _ rfl)
  have c2 := sl 2306048 a2 (an u0 u1)
  have w2 := wr U
  refine dIo mixed ?_
  simp [i2, ZE]
  repeat with_reducible refine X6 ?_
  refine cRs (yU a0.Frame.ZG (nth a2 U)) ?_
  refine dIo mixed ?_
  simp [i2, ZE]
  repeat with_reducible refine X6 ?_
  refine cRs (OD a0.YW (nth a2 U)) ?_
  refine cF e1 ?_ ?_ <;> intro k6 h3 e1
  ·refine cRs (tO 0 (W (a0.Frame.Now + a3))) ?_ (lP := by first | (simp; done) | (simp [W, w1, w2]; done))
   refine cRs (sM 10000 (Pd 0 (W (a0.Frame.Now + a3)))) ?_ (lP := by first | (simp; done) | (simp [W, w1, w2]; done))
   refine dIo mixed ?_
   have i3 : (Ze a0.Frame.ZG (nth a2 U)).toNat < a0.Ym.length := by have := JC a0.Frame.ZG (nth a2 U); first | omega | (have z := Jl (a0 := a0) (a1 := a2) (j := U) (by have z1 := h1; simp at z1; simp [z1]) (by omega); omega) | (have z := Jl (a0 := a0) (a1 := a2) (j := lI) (by have z1 := h1; simp at z1; simp [z1]) (by omega); omega)
   simp [i2, ZE, i3]
   repeat with_reducible refine X6 ?_
   refine cRs (VF a0.Frame.Zq a0.Frame.ZG (ZX.mk (nth a2 U) (nth a0.Ym (Ze a0.Frame.ZG (nth a2 U)).toNat) (NP 10000 (Pd 0 (W (a0.Frame.Now + a3)))) (zg (nth a0.ZA a1.toNat) (Zh a0.Frame.Methods a0.Frame.Now)) 0) (sg (Z8.xw (ZJ.Xq u0))) (sg (Z8.Xo (ZJ.Xq u0)))) ?_ (lP := by first | (simp; done) | (simp [W, w1, w2]; done))
   refine cFo e1 ?_ ?_ <;> intro k8 h4 e1
   ·have q4 := h4; try simp [w1] at q4
    have f := ms f e1
    simp
    exact rtD [.cell 8 47, .tmp 9] f
   have q4 := h4; try simp [w1] at q4
   simp
   repeat with_reducible refine X6 ?_
   exact nx2 e1 (hw := Xh [((13, 0), some (117, 0))] [] rfl (by simp [w1, w2]))
  refine dIo mixed ?_
  have i4 : (Ze a0.Frame.ZG (nth a2 U)).toNat < a0.Ym.length := by have := JC a0.Frame.ZG (nth a2 U); first | omega | (have z := Jl (a0 := a0) (a1 := a2) (j := U) (by have z1 := h1; simp at z1; simp [z1]) (by omega); omega) | (have z := Jl (a0 := a0) (a1 := a2) (j := lI) (by have z1 := h1; simp at z1; simp [z1]) (by omega); omega)
  simp [i2, ZE, i4]
  repeat with_reducible refine X6 ?_
  refine cRs (VF a0.Frame.Zq a0.Frame.ZG (ZX.mk (nth a2 U) (nth a0.Ym (Ze a0.Frame.ZG (nth a2 U)).toNat) a0.Frame.Now (zg (nth a0.ZA a1.toNat) (Zh a0.Frame.Methods a0.Frame.Now)) 0) (sg (Z8.xw (ZJ.Xq u0))) (sg (Z8.Xo (ZJ.Xq u0)))) ?_
  refine cFt e1 ?_ ?_ <;> intro cO h5 e1
  ·have f := ms f e1
   exact rtD [.cell 8 47, .tmp 9] f
  simp
  repeat with_reducible refine X6 ?_
  exact nx2 e1 (hw := Xh [((13, 0), some (117, 0))] [] rfl (by simp [w1, w2]))
 have c3 := sl 2306048 a2 (an u0 u1)
 have f := ms f e1
 simp [i1, ZE]
 repeat with_reducible refine X6 ?_
 refine cDs [] (ME (nth a0.ZA a1.toNat) (Zh a0.Frame.Methods a0.Frame.Now) J (sg (Yf (ZJ.Y1 u0))) (by first | (simp (maxDischargeDepth := 12) [XC]; omega) | (simp (maxDischargeDepth := 12) [Zk (m := 2310144) (by decide) u0, Zk (m := 2310144) (by decide) u1]; done))) ?_
 refine cF f ?_ ?_ <;> intro k11 h6 f
 ·exact rtD [.cell 8 47, .tmp 9] f
 refine lp2 (qS.eq_2 a0 a2) (fun lI lq => YX 162 [eI 1 a1, eL 2 1 a2 iR, eX 4 (a0.row.map .d), (8, .one (.bptr 8 0), [.box [.nil 5, .nil 3, .nil 4, .d (.int .i64 0), .d (.int .i64 0), .nil 7, .nil 1, .nil 2, .nil 1, .nil 1, .d (.int .i64 0), .nil 1]]), (10, .one (.bptr 10 0), [.box [.sref 24 0 0 a0.Frame.Zq.length, .sref 24 1 0 a0.Frame.ZG.length, .sref 24 2 0 a0.Frame.Methods.length, .d (.int .i64 a0.Frame.y9), .d (.int .i64 a0.Frame.Now), .sref 24 5 0 a0.ZS.length, .sref 24 6 0 a0.Zr.length, .sref 24 7 0 a0.ZA.length, .sref 24 8 0 lq.length, .sref 24 9 0 a0.YW.length, .d (.int .i64 a0.Next), .sref 24 11 0 a0.YN.length]]), (19, .one (.bptr 19 0), [.box [.d (.int .i64 (QZ (nth a0.ZA a1.toNat) (Zh a0.Frame.Methods a0.Frame.Now) J).1.Id), .sref 126 1 0 (QZ (nth a0.ZA a1.toNat) (Zh a0.Frame.Methods a0.Frame.Now) J).1.ZF.length]]), eI 21 (lI : Int), (24, .any, [.arr false 5 (a0.Frame.Zq.map YR.row), .arr false 3 (a0.Frame.ZG.map ZQ.row), .arr false 4 (a0.Frame.Methods.map Zf.row), .none, .none, .arr false 7 (a0.ZS.map Z1.row), .arr false 1 (a0.Zr.map iR), .arr true 2 (a0.ZA.map ZD.row), .arr false 1 (lq.map iR), .arr false 1 (a0.YW.map iR), .none, .arr false 1 (a0.YN.map iR)]), (126, .any, [.none, .arr true 16 ((QZ (nth a0.ZA a1.toNat) (Zh a0.Frame.Methods a0.Frame.Now) J).1.ZF.map ZM.row)])]) (fun n2 lI lq => a2.length < n2 + lI /\ lI <= a2.length /\ lq.length = a0.Ym.length) (a2.length + 1) 0 a0.Ym (fun p2 lI lq e2 j2 => ?_)
 try dsimp only at j2
 refine cFt e2 ?_ ?_ <;> intro cw h7 e2
 ·have i5 := ix h7
  have m4 := ml a2 (cw 2 _ rfl)
  have w3 := wr lI
  refine dIo mixed ?_
  simp [i5, ZE]
  repeat with_reducible refine X6 ?_
  refine cRs (yU a0.Frame.ZG (nth a2 lI)) ?_
  refine dIo mixed ?_
  have i6 : (Ze a0.Frame.ZG (nth a2 lI)).toNat < a0.Ym.length := by have := JC a0.Frame.ZG (nth a2 lI); first | omega | (have z := Jl (a0 := a0) (a1 := a2) (j := U) (by have z1 := h1; simp at z1; simp [z1]) (by omega); omega) | (have z := Jl (a0 := a0) (a1 := a2) (j := lI) (by have z1 := h1; simp at z1; simp [z1]) (by omega); omega)
  have i7 : (Ze a0.Frame.ZG (nth a2 lI)).toNat < lq.length := by have := JC a0.Frame.ZG (nth a2 lI); first | omega | (have z := Jl (a0 := a0) (a1 := a2) (j := U) (by have z1 := h1; simp at z1; simp [z1]) (by omega); omega) | (have z := Jl (a0 := a0) (a1 := a2) (j := lI) (by have z1 := h1; simp at z1; simp [z1]) (by omega); omega)
  simp [i6, ZE, i7, YV (x := (W ((nth a0.Ym (Ze a0.Frame.ZG (nth a2 lI)).toNat) + 1))) rfl]
  repeat with_reducible refine X6 ?_
  exact ny2 (an w1 w3) e2
 have f := ms f e2
 simp [i1, ZE]
 repeat with_reducible refine X6 ?_
 refine Si (t := 24) (j := 7) (i := a1.toNat) (size := 2) (rows := (a0.ZA.map ZD.row)) (ds := (QZ (nth a0.ZA a1.toNat) (Zh a0.Frame.Methods a0.Frame.Now) J).1.row) (L := [(126, 1)]) ?_
 simp [YV (x := (QZ (nth a0.ZA a1.toNat) (Zh a0.Frame.Methods a0.Frame.Now) J).1) rfl, c1, i1, ZE, Zj]
 repeat with_reducible refine X6 ?_
 exact rtD [.cell 8 47, .tmp 9] f
theorem II (a0 : Int) (a1 : ZM) (u0 : Sm 2318336 a1) : Sa 265 [rI a0, a1.row] [rI (jT a0 a1)] := by
 have f := me (jT.eq_1 a0 a1)
 refine so func265 ntmps265 ?_
 refine dIs mixed ?_
 refine cRs (VA a0 a1.Doc (sg (ZM.kH u0))) ?_
 refine cRs (Vn a0 a1.ZI.ZL (sg (Za.kB (ZM.Jf u0)))) ?_
 refine lp2 (xb.eq_2 a0 a1) (fun J U => YX 43 [eI 0 a0, eX 3 (a1.row.map .d), (5, .one (.sref 5 0 0 J.length), [.arr false 1 (J.map iR)]), eI 6 (U : Int)]) (fun n1 J U => a1.ZI.Zd.length < n1 + U /\ U <= a1.ZI.Zd.length /\ J.length <= 5 + 1 * U) (a1.ZI.Zd.length + 1) ([5, a1.Id, a1.Y7, (Qq a0 a1.Doc), (J2 a0 a1.ZI.ZL)] : List Int) 0 (fun p1 J U e1 j1 => ?_) (h0 := wkS [((5, 0), some (20, 0))] [])
 refine cFf e1 ?_ ?_ <;> intro k3 h1 e1
 ·have i1 := ix h1
  have m2 := ml a1.ZI.Zd (k3 24 _ rfl)
  have c1 := sl 2318336 a1.ZI.Zd u0
  have w1 := wr U
  simp [i1, ZE]
  refine rpS ?_
  refine cRs (Vg a0 (nth a1.ZI.Zd U) (sg (Yf (Za.jO (ZM.Jf u0))))) ?_
  exact nx2 e1 (hw := Xh [((5, 0), some (39, 0))] [] rfl (by simp [w1]))
 have c2 := sl 2318336 a1.ZI.Zd u0
 have f := ms f e1
 refine cRs (Kg a0 J (by first | (simp (maxDischargeDepth := 12) [XC]; omega) | (simp (maxDischargeDepth := 12) [Zk (m := 68719476736) (by decide) u0]; done))) ?_
 exact rt [.tmp 4] f
theorem Nf (a0 : Int) (a1 : List ZM) (u0 : Sm 2314240 a1) : Sa 227 [rI a0, rL 16 ZM.row a1] [rI (Wv a0 a1)] := by
 have f := me (Wv.eq_1 a0 a1)
 refine so func227 ntmps227 ?_
 refine lp2 (WE.eq_2 a0 a1) (fun J U => YX 26 [eI 0 a0, eL 1 16 a1 ZM.row, (5, .one (.sref 5 0 0 J.length), [.arr false 1 (J.map iR)]), eI 6 (U : Int)]) (fun n1 J U => a1.length < n1 + U /\ U <= a1.length /\ J.length <= 0 + 1 * U) (a1.length + 1) ([] : List Int) 0 (fun p1 J U e1 j1 => ?_) (h0 := wkS [((5, 0), some (7, 0))] [])
 refine cFf e1 ?_ ?_ <;> intro k2 h1 e1
 ·have i1 := ix h1
  have m2 := ml a1 (k2 1 _ rfl)
  have c1 := sl 2314240 a1 u0
  have w1 := wr U
  simp [i1, ZE]
  refine rpS ?_
  refine cRs (II a0 (nth a1 U) (sg (Yf u0))) ?_
  exact nx2 e1 (hw := Xh [((5, 0), some (22, 0))] [] rfl (by simp [w1]))
 have c2 := sl 2314240 a1 u0
 have f := ms f e1
 refine cRs (Un a0 J (by first | (simp (maxDischargeDepth := 12) [XC]; omega) | (simp (maxDischargeDepth := 12) [Zk (m := 2318336) (by decide) u0]; done))) ?_
 exact rt [.tmp 4] f
theorem Ly (a0 : ZD) (a1 : Int) (a2 : List Int) (a3 : Int) (u0 : Sm 2310144 a0) (u1 : Sm 2310144 a2) : So 165 [a0.row, rI a1, rL 1 iR a2, rI a3] [(Xe a0 a1 a2 a3).1.row, rB (Xe a0 a1 a2 a3).2] := by
 have f := me (Xe.eq_1 a0 a1 a2 a3)
 refine so func165 ntmps165 ?_
 refine lp2 (JV.eq_2 a0 a2) (fun J U => YX 53 [eL 2 1 a2 iR, eI 3 a3, eX 4 (a0.row.map .d), (8, .one (.bptr 8 0), [.box [.d (.int .i64 0), .d (.int .i64 0), .nil 16, .d (.int .i64 0)]]), (10, .one (.bptr 10 0), [.box [.d (.int .i64 a0.Id), .d (.int .i64 a1), .sref 10 3 0 U.length, .d (.int .i64 0)], .none, .none, .arr false 16 (U.map ZM.row)]), eI 11 (J : Int)]) (fun n1 J U => a2.length < n1 + J /\ J <= a2.length /\ U.length <= J /\ (∀ x ∈ U, Sm 2310144 x)) (a2.length + 1) 0 ([] : List ZM) (fun p1 J U e1 j1 => ?_) (hI := by exact ⟨by omega, by omega, Nat.zero_le _, Nat.zero_le _, fun x h => by cases h⟩) (h0 := wkS [((10, 3), none)] [])
 try dsimp only at j1
 refine cF e1 ?_ ?_ <;> intro k2 h1 e1
 ·have i1 := ix h1
  have m2 := ml a2 (k2 2 _ rfl)
  have c1 := sl 2310144 a2 (an u0 u1)
  have w1 := wr J
  refine dIo mixed ?_
  simp [i1, ZE]
  refine rpS ?_
  refine cRs (qP a0 (nth a2 J)) ?_
  refine cF e1 ?_ ?_ <;> intro k4 h2 e1
  ·have f := ms f e1
   exact rtO [.cell 8 205, .tmp 9] f
  refine dIo mixed ?_
  have i2 : (Yk a0 (nth a2 J)).toNat < a0.ZF.length := by have := Ui a0 (nth a2 J); exact il
  simp [i2, ZE]
  refine rpS ?_
  refine cRs (Yv.rd (Ju (nth a0.ZF (Yk a0 (nth a2 J)).toNat) (sg (Yf (ZD.Ys u0))))) ?_
  refine eIs ?_
  refine eIs ?_
  exact nx2 e1 (hI := by ((try dsimp only); refine ⟨by omega, by omega, by omega, by simp; omega, fun x hx => ?_⟩; rcases List.mem_append.1 hx with hx | hx; exact j1.2.2.2.2 x hx; have e := List.mem_singleton.1 hx; subst e; exact Yf (ZD.Ys u0))) (hw := Xh [((10, 3), some (41, 0))] [] rfl (by simp [w1]))
 have c2 := sl 2310144 a2 (an u0 u1)
 have f := ms f e1
 refine cF f ?_ ?_ <;> intro k6 h3 f
 ·exact rtO [.cell 8 205, .tmp 9] f
 refine cRs (Nf a3 U (by (have q := JA (show Sm 2310144 a2 from u1); exact Zk (n := 2310144) (by decide) ⟨by omega, j1.2.2.2.2⟩))) ?_
 exact rtO [.cell 8 205, .tmp 9] f
theorem MX (a0 : YM) (a1 : Int) (u0 : Sm 2310144 a0) : Sa 228 [a0.row, rI a1] [rB (Kb a0 a1)] := by
 have f := me (Kb.eq_1 a0 a1)
 refine so func228 ntmps228 ?_
 refine lp1 (Jk.eq_2 a0) (fun J => YX 33 [eI 1 a1, eX 2 (a0.row.map .d), eI 5 (J : Int)]) (fun n1 J => a0.ZF.length < n1 + J /\ J <= a0.ZF.length) (a0.ZF.length + 1) 0 (fun p1 J e1 j1 => ?_)
 refine cFf e1 ?_ ?_ <;> intro k2 h1 e1
 ·have i1 := ix h1
  have m2 := ml a0.ZF (k2 8 _ rfl)
  have c1 := sl 2310144 a0.ZF u0
  have w1 := wr J
  simp [i1, ZE]
  refine rpS ?_
  refine cRs (LD (nth a0.ZF J)) ?_
  refine cF e1 ?_ ?_ <;> intro k3 h2 e1
  ·have f := ms f e1
   exact rt [.tmp 4] f
  exact ny1 w1 e1
 have c2 := sl 2310144 a0.ZF u0
 have f := ms f e1
 refine dIs mixed ?_
 refine cRs (Y8 (a0.ZF.length : Int) 1 8) ?_
 refine cGs (fun gg => (Nf a1 a0.ZF (sg (YM.Ys u0)))) ?_
 exact rt [.tmp 4] f
theorem O1 (a0 : ZD) (a1 : YM) (a2 : Int) (u0 : Sm 2306048 a0) (u1 : Sm 2306048 a1) : Sd 166 [a0.row, a1.row, rI a2] [(QQ a0 a1 a2).1.row, rB (QQ a0 a1 a2).2] := by
 have f := me (QQ.eq_1 a0 a1 a2)
 refine soD func166 ntmps166 ?_
 refine cDs [] (QD a0 (sg u0)) ?_
 refine cRs (MX a1 a2 (sg u1)) ?_
 refine lp4 (QC.eq_2 a1) (fun J U lA iL => YX 52 [eX 3 (a0.row.map .d), eX 4 (a1.row.map .d), (6, .one (.bptr 6 0), [.box [.d (.int .i64 0), .nil 16]]), (8, .one (.bptr 8 0), [.box [.d (.int .i64 lA), .sref 8 2 0 iL.length], .none, .arr true 16 (iL.map ZM.row)]), eB 9 J, eI 10 (U : Int)]) (fun n1 J U lA iL => a1.ZF.length < n1 + U /\ U <= a1.ZF.length /\ (J = true -> a1.ZF.length <= 8) /\ Sm (2306048 + U) (ZD.mk lA iL)) (a1.ZF.length + 1) ((Kb a1 a2) && (a1.To == a0.Id)) 0 a0.Id a0.ZF (fun p1 J U lA iL e1 j1 => ?_) (hI := by exact ⟨by omega, by omega, Nat.zero_le _, fun h => Ol a1 a2 (by simp at h; exact h.1), u0⟩) (h0 := wkS [((8, 2), some (14, 1))] [])
 try dsimp only at j1
 refine cF e1 ?_ ?_ <;> intro k2 h1 e1
 ·have i1 : U < a1.ZF.length := by (simp at h1; omega)
  have m2 := ml a1.ZF (k2 27 _ rfl)
  have c1 := sl 2306048 a1.ZF (an u0 u1)
  have w1 := wr U
  refine dIo mixed ?_
  simp [i1, ZE]
  refine rpS ?_
  refine cDs [] (Tx (ZD.mk lA iL) (nth a1.ZF U) (by first | (have hc := h1; simp at hc; have hl := j1.2.2.2.1 hc.2; exact Zk (n := 2306048 + U) (by omega) j1.2.2.2.2) | exact sg (Yf (YM.Ys u1))) (by first | (have hc := h1; simp at hc; have hl := j1.2.2.2.1 hc.2; exact Zk (n := 2306048 + U) (by omega) j1.2.2.2.2) | exact sg (Yf (YM.Ys u1)))) ?_
  exact nx4 e1 (hI := by (have hc := h1; simp at hc; (try dsimp only); refine ⟨by omega, by omega, by omega, fun _ => j1.2.2.2.1 hc.2, ?_⟩; exact C3 (n := 2306048 + U) j1.2.2.2.2 (Zk (n := 2306048) (by omega) (Yf (YM.Ys u1))))) (hw := Xh [((8, 2), some (42, 1))] [] rfl (by simp [w1]))
 have c2 := sl 2306048 a1.ZF (an u0 u1)
 have f := ms f e1
 refine cF f ?_ ?_ <;> intro k4 h2 f
 ·refine cDs [] (QD a0 (sg u0)) ?_
  exact rtD [.cell 6 119, .tmp 7] f
 exact rtD [.cell 6 119, .tmp 7] f
theorem El (a0 : ZD) (a1 : Int) (u0 : Sm 2322432 a0) : Sd 167 [a0.row, rI a1] [(zV a0 a1).1.row, rB (zV a0 a1).2] := by
 have f := me (zV.eq_1 a0 a1)
 refine soD func167 ntmps167 ?_
 refine cRs (qP a0 a1) ?_
 refine cF f ?_ ?_ <;> intro k1 h1 f
 ·refine cDs [] (QD a0 (sg u0)) ?_
  exact rtD [.cell 4 119, .tmp 5] f
 refine lp2 (KW.eq_2 a0 a1) (fun J U => YX 41 [eX 2 (a0.row.map .d), (4, .one (.bptr 4 0), [.box [.d (.int .i64 0), .nil 16]]), eI 6 (Yk a0 a1), (7, .one (.bptr 7 0), [.box [.d (.int .i64 a0.Id), .sref 7 2 0 U.length], .none, .arr true 16 (U.map ZM.row)]), eI 8 (J : Int)]) (fun n1 J U => a0.ZF.length < n1 + J /\ J <= a0.ZF.length /\ U.length <= 0 + 1 * J) (a0.ZF.length + 1) 0 ([] : List ZM) (fun p1 J U e1 j1 => ?_) (h0 := wkS [((7, 2), none)] [])
 refine cF e1 ?_ ?_ <;> intro k3 h2 e1
 ·have i1 := ix h2
  have m2 := ml a0.ZF (k3 21 _ rfl)
  have c1 := sl 2322432 a0.ZF u0
  have w1 := wr J
  refine cF e1 ?_ ?_ <;> intro k4 h3 e1
  ·refine okD fun k5 => ?_
   refine drJ [38] mixed ?_
   simp [i1, ZE]
   refine rpS ?_
   refine cDs [true, true, true, false, false] (Ju (nth a0.ZF J) (sg (Yf (ZD.Ys u0)))) ?_
   refine Wd ?_
   simp
   refine Vl (lC := (U.map ZM.row)) (news := (([(nth a0.ZF J)] : List ZM).map ZM.row)) (l1 := [(7, 2)]) (l2 := [(36, 3), (36, 4), (36, 14), (36, 15)]) (size := 16) ?_
   simp
   exact nx2 e1 (hw := Xh [((7, 2), some (38, 0))] [] rfl (by simp [w1]))
  exact ny2 w1 e1
 have c2 := sl 2322432 a0.ZF u0
 have f := ms f e1
 exact rtD [.cell 4 119, .tmp 5] f
theorem HU (a0 : ZD) (a1 : ZD) (a2 : List Int) (a3 : Int) (u0 : Sm 2301952 a0) (u1 : Sm 2301952 a1) (u2 : Sm 2301952 a2) : Sd 94 [a0.row, a1.row, rL 1 iR a2, rI a3] [(Qn a0 a1 a2 a3).1.row, (Qn a0 a1 a2 a3).2.1.row, rB (Qn a0 a1 a2 a3).2.2] := by
 have f := me (Qn.eq_1 a0 a1 a2 a3)
 refine soD func94 ntmps94 ?_
 refine cRs (Ly a0 a1.Id a2 a3 (by first | exact sg u0 | exact sg u2) (by first | exact sg u0 | exact sg u2)) ?_
 refine cDs [] (O1 a1 (Xe a0 a1.Id a2 a3).1 a3 (by first | exact sg u1 | exact Zk (n := 2301952) (by decide) (SU u0 u2)) (by first | exact sg u1 | exact Zk (n := 2301952) (by decide) (SU u0 u2))) ?_
 refine cDs [] (QD a0 (sg u0)) ?_
 refine lp4 (Qv.eq_2 a0 a1 a2 a3) (fun J U lA iL => YX 72 [eL 2 1 a2 iR, eX 4 (a0.row.map .d), eX 5 (a1.row.map .d), (8, .one (.bptr 8 0), [.box [.d (.int .i64 0), .nil 16]]), (9, .one (.bptr 9 0), [.box [.d (.int .i64 0), .nil 16]]), eB 12 (Xe a0 a1.Id a2 a3).2, (13, .one (.bptr 13 0), [.box [.d (.int .i64 (QQ a1 (Xe a0 a1.Id a2 a3).1 a3).1.Id), .sref 32 1 0 (QQ a1 (Xe a0 a1.Id a2 a3).1 a3).1.ZF.length]]), eB 14 J, (15, .one (.bptr 15 0), [.box [.d (.int .i64 lA), .sref 15 2 0 iL.length], .none, .arr true 16 (iL.map ZM.row)]), eI 16 (U : Int), (32, .any, [.none, .arr true 16 ((QQ a1 (Xe a0 a1.Id a2 a3).1 a3).1.ZF.map ZM.row)])]) (fun n1 J U lA iL => a2.length < n1 + U /\ U <= a2.length /\ Sm 2301952 (ZD.mk lA iL)) (a2.length + 1) (QQ a1 (Xe a0 a1.Id a2 a3).1 a3).2 0 a0.Id a0.ZF (fun p1 J U lA iL e1 j1 => ?_) (hI := by exact ⟨by omega, by omega, Nat.zero_le _, u0⟩) (h0 := wkS [((15, 2), some (36, 1))] [])
 try dsimp only at j1
 refine cF e1 ?_ ?_ <;> intro k2 h1 e1
 ·have i1 : U < a2.length := by (simp at h1; omega)
  have m2 := ml a2 (k2 2 _ rfl)
  have c1 := sl 2301952 a2 (an u0 (an u1 u2))
  have w1 := wr U
  refine dIo mixed ?_
  simp [i1, ZE]
  refine rpS ?_
  refine cDs [] (El (ZD.mk lA iL) (nth a2 U) (by exact Zk (n := 2301952) (by decide) j1.2.2.2)) ?_
  exact nx4 e1 (hI := by ((try dsimp only); refine ⟨by omega, by omega, by omega, ?_⟩; exact Fm j1.2.2.2)) (hw := Xh [((15, 2), some (55, 1))] [] rfl (by simp [w1]))
 have c2 := sl 2301952 a2 (an u0 (an u1 u2))
 have f := ms f e1
 refine cF f ?_ ?_ <;> intro k4 h2 f
 ·refine okD fun k5 => ?_
  refine dIs mixed ?_
  refine cDs [] (QD a0 (sg u0)) ?_
  refine cDs [] (QD a1 (sg u1)) ?_
  exact rtD [.cell 8 119, .cell 9 119, .tmp 10] f
 refine tJ [(8, 8), (9, 9), (13, 13), (15, 15)] mixed (by kernel_rfl) (by kernel_rfl) (by kernel_rfl) (by kernel_rfl) ?_
 simp
 exact rtD [.cell 8 119, .cell 9 119, .tmp 10] f
theorem EL (a0 : ZJ) (a1 : Int) (a2 : Int) (a3 : Int) (u0 : Sm 2297856 a0) : Sd 32 [a0.row, rI a1, rI a2, rI a3] [(qm a0 a1 a2 a3).1.row, rB (qm a0 a1 a2 a3).2] := by
 have f := me (qm.eq_1 a0 a1 a2 a3)
 refine soD func32 ntmps32 ?_
 refine cDs [false, false, false, true, true, false, false, true, false, false, true, false] (Qx a0 (sg u0)) ?_
 refine cRs (qY a0.Frame.Methods a0.Frame.Now) ?_
 refine cRs (jK a0 a1) ?_
 refine cGs (fun gg => (jK a0 a2)) ?_
 have c1 := sl 2297856 a0.ZA u0
 have w1 : IntKind.i64.wrap ((a0.ZA.length : Int) - 1) = (a0.ZA.length : Int) - 1 := Zb (by omega) (by omega)
 refine cFo f ?_ ?_ <;> intro k1 h1 f
 ·have q1 := h1; try simp [w1, Qi, YL] at q1
  simp
  exact rtD [.cell 8 47, .tmp 9] f
 have q1 := h1; try simp [w1, Qi, YL] at q1
 simp
 refine dIo mixed ?_
 have i1 := ik a1.toNat a0.ZA
 have i2 := ik a2.toNat a0.ZA
 simp [i1, ZE, i2]
 refine rpS ?_
 refine cDf i1 [] (HU (nth a0.ZA a1.toNat) (nth a0.ZA a2.toNat) ([a3] : List Int) (Zh a0.Frame.Methods a0.Frame.Now) (sg (Yf (ZJ.Y1 u0))) (sg (Yf (ZJ.Y1 u0))) (by simp (maxDischargeDepth := 12) [K0, XC, Zk (m := 2301952) (by decide) u0]; try omega)) ?_
 refine Si (t := 16) (j := 7) (i := a1.toNat) (size := 2) (rows := (a0.ZA.map ZD.row)) (ds := (Qn (nth a0.ZA a1.toNat) (nth a0.ZA a2.toNat) ([a3] : List Int) (Zh a0.Frame.Methods a0.Frame.Now)).1.row) (L := [(58, 1)]) ?_
 simp [YV (x := (Qn (nth a0.ZA a1.toNat) (nth a0.ZA a2.toNat) ([a3] : List Int) (Zh a0.Frame.Methods a0.Frame.Now)).1) rfl, c1, i1, i2, ZE, Zj]
 refine rpS ?_
 refine Si (t := 16) (j := 7) (i := a2.toNat) (size := 2) (rows := ((a0.ZA.set a1.toNat (Qn (nth a0.ZA a1.toNat) (nth a0.ZA a2.toNat) ([a3] : List Int) (Zh a0.Frame.Methods a0.Frame.Now)).1).map ZD.row)) (ds := (Qn (nth a0.ZA a1.toNat) (nth a0.ZA a2.toNat) ([a3] : List Int) (Zh a0.Frame.Methods a0.Frame.Now)).2.1.row) (L := [(58, 3)]) ?_
 simp [YV (x := (Qn (nth a0.ZA a1.toNat) (nth a0.ZA a2.toNat) ([a3] : List Int) (Zh a0.Frame.Methods a0.Frame.Now)).1) rfl, c1, i1, i2, ZE, Zj]
 refine rpS ?_
 exact rtD [.cell 8 47, .tmp 9] f
theorem Ih (a0 : ZD) (a1 : Int) (u0 : Sm 2326528 a0) : So 95 [a0.row, rI a1] [(yG a0 a1).1.row, rI (yG a0 a1).2] := by
 have f := me (yG.eq_1 a0 a1)
 refine so func95 ntmps95 ?_
 refine lp3 (Kt.eq_2 a0 a1) (fun J U lA => YX 42 [eI 1 a1, eX 2 (a0.row.map .d), (4, .one (.bptr 4 0), [.box [.d (.int .i64 0), .nil 16]]), (6, .one (.bptr 6 0), [.box [.d (.int .i64 a0.Id), .sref 6 2 0 lA.length], .none, .arr false 16 (lA.map ZM.row)]), eI 7 J, eI 8 (U : Int)]) (fun n1 J U lA => a0.ZF.length < n1 + U /\ U <= a0.ZF.length /\ lA.length <= 0 + 1 * U) (a0.ZF.length + 1) 0 0 ([] : List ZM) (fun p1 J U lA e1 j1 => ?_) (h0 := wkS [((6, 2), none)] [])
 refine cFf e1 ?_ ?_ <;> intro k2 h1 e1
 ·have i1 := ix h1
  have m2 := ml a0.ZF (k2 14 _ rfl)
  have c1 := sl 2326528 a0.ZF u0
  have w1 := wr U
  simp [i1, ZE]
  refine rpS ?_
  refine cF e1 ?_ ?_ <;> intro k3 h2 e1
  ·exact ny3 w1 e1
  refine dIo mixed ?_
  simp [i1, ZE]
  refine rpS ?_
  refine cRs (Yv.rd (Ju (nth a0.ZF U) (sg (Yf (ZD.Ys u0))))) ?_
  refine eIs ?_
  refine eIs ?_
  exact nx3 e1 (hw := Xh [((6, 2), some (38, 0))] [] rfl (by simp [w1]))
 have c2 := sl 2326528 a0.ZF u0
 have f := ms f e1
 exact rtO [.cell 4 119, .tmp 5] f
theorem Ig (a0 : ZJ) (a1 : Int) (u0 : Sm 2318336 a0) : So 33 [a0.row, rI a1] [(yP a0 a1).1.row, rB (yP a0 a1).2] := by
 have f := me (yP.eq_1 a0 a1)
 refine so func33 ntmps33 ?_
 refine cOs (Yv.own (Qx a0 (sg u0))) ?_
 refine cRs (jK a0 a1) ?_
 have c1 := sl 2318336 a0.ZA u0
 have w1 : IntKind.i64.wrap ((a0.ZA.length : Int) - 1) = (a0.ZA.length : Int) - 1 := Zb (by omega) (by omega)
 refine cFo f ?_ ?_ <;> intro k1 h1 f
 ·have q1 := h1; try simp [w1, Qi, YL] at q1
  simp
  exact rtO [.cell 4 47, .tmp 5] f
 have q1 := h1; try simp [w1, Qi, YL] at q1
 simp
 refine dIo mixed ?_
 have i1 := ik a1.toNat a0.ZA
 simp [i1, ZE]
 refine rpS ?_
 refine cR (Ih (nth a0.ZA a1.toNat) a0.Frame.Now (sg (Yf (ZJ.Y1 u0)))) ?_
 simp [i1, ZE, YV (x := (yG (nth a0.ZA a1.toNat) a0.Frame.Now).1) rfl]
 refine rpS ?_
 exact rtO [.cell 4 47, .tmp 5] f
theorem LW (a0 : List Zf) (a1 : Int) : Sa 229 [rL 4 Zf.row a0, rI a1] [rI (zC a0 a1)] := by
 have f := me (zC.eq_1 a0 a1)
 refine so func229 ntmps229 ?_
 refine lp1 (zf.eq_2 a0 a1) (fun J => YX 20 [eL 0 4 a0 Zf.row, eI 1 a1, eI 5 (J : Int)]) (fun n1 J => a0.length < n1 + J /\ J <= a0.length) (a0.length + 1) 0 (fun p1 J e1 j1 => ?_)
 refine cFf e1 ?_ ?_ <;> intro k2 h1 e1
 ·have i1 := ix h1
  have m2 := ml a0 (k2 0 _ rfl)
  have w1 := wr J
  simp [i1, ZE]
  refine rpS ?_
  refine cF e1 ?_ ?_ <;> intro k3 h2 e1
  ·have f := ms f e1
   exact rt [.tmp 4] f
  exact ny1 w1 e1
 have f := ms f e1
 exact rt [.tmp 4] f
theorem BT (a0 : List Zf) (a1 : Int) : Sa 168 [rL 4 Zf.row a0, rI a1] [rI (TE a0 a1)] := by
 have f := me (TE.eq_1 a0 a1)
 refine so func168 ntmps168 ?_
 refine cRs (LW a0 a1) ?_
 refine cFt f ?_ ?_ <;> intro k1 h1 f
 ·exact rt [.tmp 4] f
 have i1 : (zC a0 a1).toNat < a0.length := by have := IW a0 a1; exact il
 simp [i1, ZE]
 refine rpS ?_
 exact rt [.tmp 4] f
theorem UT (a0 : Z8) (a1 : Int) : Sa 96 [a0.row, rI a1] [rB (qi a0 a1)] := by
 have f := me (qi.eq_1 a0 a1)
 refine so func96 ntmps96 ?_
 refine cRs (zG a0.Zq a1) ?_
 refine dIs mixed ?_
 refine gIf ?_ ?_ <;> intro G
 ·have i1 : (Yd a0.Zq a1).toNat < a0.Zq.length := by have := KP a0.Zq a1; exact il
  simp [i1, ZE, G]
  refine rpG ?_
  refine cGg (fun gg => (BT a0.Methods (nth a0.Zq (Yd a0.Zq a1).toNat).Method)) ?_
  exact rtg [.tmp 4] f
 ·refine sGo ?_
  simp [G]
  refine rpG ?_
  exact rtg [.tmp 4] f
theorem HM (a0 : ZJ) (a1 : Int) (a2 : Int) (a3 : ZV) (u0 : Sm 2314240 a0) (u1 : Sm 2314240 a3) : Sd 34 [a0.row, rI a1, rI a2, a3.row] [(yz a0 a1 a2 a3).1.row, rB (yz a0 a1 a2 a3).2] := by
 have f := me (yz.eq_1 a0 a1 a2 a3)
 refine soD func34 ntmps34 ?_
 refine cDs [false, false, false, true, true, false, false, true, false, false, true, false] (Qx a0 (sg u0)) ?_
 refine cRs (jK a0 a1) ?_
 refine cGs (fun gg => (UT a0.Frame a2)) ?_
 have c1 := sl 2314240 a0.ZA (an u0 u1)
 have w1 : IntKind.i64.wrap ((a0.ZA.length : Int) - 1) = (a0.ZA.length : Int) - 1 := Zb (by omega) (by omega)
 refine cFo f ?_ ?_ <;> intro k1 h1 f
 ·have q1 := h1; try simp [w1, Qi, YL] at q1
  simp
  refine FL (rv := [.cell 8 47, .tmp 9]) rfl ?_
  simp [f.h]
  all_goals ((try simp only [q3, true_and]); (try (rintro r (⟨a, _, rfl⟩ | rfl) x hx <;> simp at hx <;> subst hx <;> rfl)))
 have q1 := h1; try simp [w1, Qi, YL] at q1
 simp
 refine cRs (O2 a0 a2 a3 0 10000 (sg u0) (sg u1)) ?_
 refine cFo f ?_ ?_ <;> intro k2 h2 f
 ·have q2 := h2; try simp at q2
  simp
  refine FL (rv := [.cell 8 47, .tmp 9]) rfl ?_
  simp [f.h]
  all_goals ((try simp only [q3, true_and]); (try (rintro r (⟨a, _, rfl⟩ | rfl) x hx <;> simp at hx <;> subst hx <;> rfl)))
 have q2 := h2; try simp at q2
 simp
 refine dIo mixed ?_
 have i1 := ik a1.toNat a0.ZA
 simp [i1, ZE]
 refine rpS ?_
 refine cDs [] (Tx (nth a0.ZA a1.toNat) (Xa a0 a2 a3 0 10000).1 (by first | (exact Zk (n := 2314240) (by decide) (xs (an u0 u1))) | (exact Zk (n := 2314240) (by decide) (Wl (xs (an u0 u1)) (by decide)))) (by first | (exact Zk (n := 2314240) (by decide) (xs (an u0 u1))) | (exact Zk (n := 2314240) (by decide) (Wl (xs (an u0 u1)) (by decide))))) ?_
 refine cFo f ?_ ?_ <;> intro k4 h3 f
 ·have q3 := h3; try simp at q3
  simp
  refine FL (rv := [.cell 8 47, .tmp 9]) rfl ?_
  simp [f.h]
  all_goals ((try simp only [q3, true_and]); (try (rintro r (⟨a, _, rfl⟩ | rfl) x hx <;> simp at hx <;> subst hx <;> rfl)))
 have q3 := h3; try simp at q3
 simp [i1, ZE]
 refine rpS ?_
 refine Si (t := 16) (j := 7) (i := a1.toNat) (size := 2) (rows := (a0.ZA.map ZD.row)) (ds := (Qr (nth a0.ZA a1.toNat) (Xa a0 a2 a3 0 10000).1).1.row) (L := [(46, 1)]) ?_
 have c2 := sl 2314240 a0.YN (an u0 u1)
 simp [YV (x := (Qr (nth a0.ZA a1.toNat) (Xa a0 a2 a3 0 10000).1).1) rfl, c1, i1, ZE, Zj]
 refine rpS ?_
 refine FL (rv := [.cell 8 47, .tmp 9]) rfl ?_
 simp [f.h]
 all_goals ((try simp only [q3, true_and]); (try (rintro r (⟨a, _, rfl⟩ | rfl) x hx <;> simp at hx <;> subst hx <;> rfl)))
theorem Sp (a0 : ZJ) (u0 : Sm 2330624 a0) : Sd 97 [a0.row] [rL 1 iR (Yc a0)] := by
 have f := me (Yc.eq_1 a0)
 refine soD func97 ntmps97 ?_
 refine lp2 (QU.eq_2 a0) (fun J U => YX 39 [eX 1 (a0.row.map .d), (3, .one (.sref 3 0 0 J.length), [.arr false 1 (J.map iR)]), eI 4 (U : Int)]) (fun n1 J U => a0.Frame.ZG.length < n1 + U /\ U <= a0.Frame.ZG.length /\ J.length <= 0 + 1 * U) (a0.Frame.ZG.length + 1) ([] : List Int) 0 (fun p1 J U e1 j1 => ?_) (h0 := wkS [((3, 0), some (6, 0))] [])
 refine cFf e1 ?_ ?_ <;> intro k2 h1 e1
 ·have i1 := ix h1
  have m2 := ml a0.Frame.ZG (k2 10 _ rfl)
  have c1 := sl 2330624 a0.Frame.ZG u0
  have w1 := wr U
  simp [i1, ZE]
  refine rpS ?_
  refine cRs (OD a0.YW (nth a0.Frame.ZG U).Id) ?_
  refine cGs (fun gg => (UT a0.Frame (nth a0.Frame.ZG U).Key)) ?_
  refine cF e1 ?_ ?_ <;> intro k3 h2 e1
  ·exact nx2 e1 (hw := Xh [((3, 0), some (37, 0))] [] rfl (by simp [w1]))
  exact ny2 w1 e1
 have c2 := sl 2330624 a0.Frame.ZG u0
 have f := ms f e1
 exact rtD [.tmp 2] f
theorem Jc {a b : Prop} (h : b) (k : a := by (intros; first | omega | with_unfolding_all (first | first | omega | (have f0 : 0 <= (ZH a0 a1).1 := (by first | omega | (simp at *; omega)); have fi := Y5 a0 a1 f0; omega) | (have f0 : 0 <= (ZH a0 a1).1 := (by first | omega | (simp at *; omega)); have fi := Y5 a0 a1 f0; have ll := qX (nth a0.ZA (ZH a0 a1).1.toNat) (Zh a0.Frame.Methods a0.Frame.Now); omega) | (have fl := yW a0; have fm := JA (Z8.Xo (ZJ.Xq u0)); (try dsimp only at *); omega)) | ((try simp only [Kc, show ∀ x, IntKind.i64.wrap x = W x from fun _ => rfl] at *); omega))) : a /\ b := ⟨k, h⟩
theorem Nj (a0 : ZJ) (a1 : Int) (a2 : Int) (u0 : Sm 2310144 a0) : Sd 35 [a0.row, rI a1, rI a2] [(Kq a0 a1 a2).1.row, rB (Kq a0 a1 a2).2] := by
 have f := me (Kq.eq_1 a0 a1 a2)
 refine soD func35 ntmps35 ?_
 refine cDs [false, false, false, true, true, false, false, true, false, false, true, false] (Qx a0 (sg u0)) ?_
 refine cRs (S8 a0 a1) ?_
 refine cRs (qY a0.Frame.Methods a0.Frame.Now) ?_
 refine cRs (Yv.rd (Sp a0 (sg u0))) ?_
 refine cGs (fun gg => (OD a0.YN a1)) ?_
 refine cFt f ?_ ?_ <;> intro k1 h1 f
 ·exact rtD [.cell 6 47, .tmp 7] f
 have i1 : (ZH a0 a1).1.toNat < a0.ZA.length := by first | omega | (have f0 : 0 <= (ZH a0 a1).1 := (by first | omega | (simp at *; omega)); have fi := Y5 a0 a1 f0; omega) | (have f0 : 0 <= (ZH a0 a1).1 := (by first | omega | (simp at *; omega)); have fi := Y5 a0 a1 f0; have ll := qX (nth a0.ZA (ZH a0 a1).1.toNat) (Zh a0.Frame.Methods a0.Frame.Now); omega)
 simp [i1, ZE]
 repeat with_reducible refine Jc ?_
 refine cR (Yv.rd (Vi (nth a0.ZA (ZH a0 a1).1.toNat) (Zh a0.Frame.Methods a0.Frame.Now) (sg (Yf (ZJ.Y1 u0))))) ?_
 have i2 : (ZH a0 a1).2.toNat < (YD (nth a0.ZA (ZH a0 a1).1.toNat) (Zh a0.Frame.Methods a0.Frame.Now)).length := by first | omega | (have f0 : 0 <= (ZH a0 a1).1 := (by first | omega | (simp at *; omega)); have fi := Y5 a0 a1 f0; omega) | (have f0 : 0 <= (ZH a0 a1).1 := (by first | omega | (simp at *; omega)); have fi := Y5 a0 a1 f0; have ll := qX (nth a0.ZA (ZH a0 a1).1.toNat) (Zh a0.Frame.Methods a0.Frame.Now); omega)
 have i3 : (ZH a0 a1).2.toNat < (nth a0.ZA (ZH a0 a1).1.toNat).ZF.length := by first | omega | (have f0 : 0 <= (ZH a0 a1).1 := (by first | omega | (simp at *; omega)); have fi := Y5 a0 a1 f0; omega) | (have f0 : 0 <= (ZH a0 a1).1 := (by first | omega | (simp at *; omega)); have fi := Y5 a0 a1 f0; have ll := qX (nth a0.ZA (ZH a0 a1).1.toNat) (Zh a0.Frame.Methods a0.Frame.Now); omega)
 simp [i2, ZE, i1, i3]
 repeat with_reducible refine Jc ?_
 refine lp2 (zt.eq_2 a0 a1 a2) (fun J U => YX 140 [eI 2 a2, eX 3 (a0.row.map .d), (6, .one (.bptr 6 0), [.box [.nil 5, .nil 3, .nil 4, .d (.int .i64 0), .d (.int .i64 0), .nil 7, .nil 1, .nil 2, .nil 1, .nil 1, .d (.int .i64 0), .nil 1]]), (8, .one (.bptr 8 0), [.box [.sref 21 0 0 a0.Frame.Zq.length, .sref 21 1 0 a0.Frame.ZG.length, .sref 21 2 0 a0.Frame.Methods.length, .d (.int .i64 a0.Frame.y9), .d (.int .i64 a0.Frame.Now), .sref 21 5 0 a0.ZS.length, .sref 21 6 0 a0.Zr.length, .sref 21 7 0 a0.ZA.length, .sref 21 8 0 a0.Ym.length, .sref 21 9 0 a0.YW.length, .d (.int .i64 a0.Next), .sref 21 11 0 a0.YN.length]]), eI 9 (ZH a0 a1).1, eI 10 (ZH a0 a1).2, eL 12 1 (Yc a0) iR, eI 13 (nth (YD (nth a0.ZA (ZH a0 a1).1.toNat) (Zh a0.Frame.Methods a0.Frame.Now)) (ZH a0 a1).2.toNat), (14, .one (.bptr 14 0), [.box [.d (.int .i64 ((nth (nth a0.ZA (ZH a0 a1).1.toNat).ZF (ZH a0 a1).2.toNat).ZI.ZL.length : Int)), .d (.int .i64 (Zh a0.Frame.Methods a0.Frame.Now)), .d (.int .i64 (nth (YD (nth a0.ZA (ZH a0 a1).1.toNat) (Zh a0.Frame.Methods a0.Frame.Now)) (ZH a0 a1).2.toNat)), .nil 2, .sref 14 5 0 U.length], .none, .none, .none, .none, .arr false 5 (U.map ZX.row)]), eI 15 (J : Int), (21, .any, [.arr false 5 (a0.Frame.Zq.map YR.row), .arr false 3 (a0.Frame.ZG.map ZQ.row), .arr false 4 (a0.Frame.Methods.map Zf.row), .none, .none, .arr false 7 (a0.ZS.map Z1.row), .arr false 1 (a0.Zr.map iR), .arr true 2 (a0.ZA.map ZD.row), .arr false 1 (a0.Ym.map iR), .arr false 1 (a0.YW.map iR), .none, .arr false 1 (a0.YN.map iR)])]) (fun n1 J U => (Yc a0).length < n1 + J /\ J <= (Yc a0).length /\ U.length <= 0 + 1 * J) ((Yc a0).length + 1) 0 ([] : List ZX) (fun p1 J U e1 j1 => ?_) (h0 := wkS [((14, 5), none)] [])
 try dsimp only at j1
 refine cF e1 ?_ ?_ <;> intro k3 h2 e1
 ·have i4 := ix h2
  have m2 := ml (Yc a0) (k3 12 _ rfl)
  have w1 := wr J
  refine dIo mixed ?_
  simp [i4, ZE]
  repeat with_reducible refine Jc ?_
  refine cRs (VF a0.Frame.Zq a0.Frame.ZG (ZX.mk (nth (Yc a0) J) 0 a2 (nth (YD (nth a0.ZA (ZH a0 a1).1.toNat) (Zh a0.Frame.Methods a0.Frame.Now)) (ZH a0 a1).2.toNat) 0) (sg (Z8.xw (ZJ.Xq u0))) (sg (Z8.Xo (ZJ.Xq u0)))) ?_
  refine cFt e1 ?_ ?_ <;> intro k5 h3 e1
  ·have f := ms f e1
   exact rtD [.cell 6 47, .tmp 7] f
  simp
  repeat with_reducible refine Jc ?_
  exact nx2 e1 (hw := Xh [((14, 5), some (111, 0))] [] rfl (by simp [w1]))
 have f := ms f e1
 refine dIo mixed ?_
 simp [i1, ZE, i3]
 repeat with_reducible refine Jc ?_
 refine cDs [] (SX (nth (nth a0.ZA (ZH a0 a1).1.toNat).ZF (ZH a0 a1).2.toNat).ZI (ZK.mk ((nth (nth a0.ZA (ZH a0 a1).1.toNat).ZF (ZH a0 a1).2.toNat).ZI.ZL.length : Int) (Zh a0.Frame.Methods a0.Frame.Now) (nth (YD (nth a0.ZA (ZH a0 a1).1.toNat) (Zh a0.Frame.Methods a0.Frame.Now)) (ZH a0 a1).2.toNat) ([] : List Zv) U) (by first | (have fl := yW a0; have fm := JA (Z8.Xo (ZJ.Xq u0)); simp [XC]; omega) | (refine Zk (n := 2310144) (by decide) ?_; simp (maxDischargeDepth := 12) [u0]; done)) (by first | (have fl := yW a0; have fm := JA (Z8.Xo (ZJ.Xq u0)); simp [XC]; omega) | (refine Zk (n := 2310144) (by decide) ?_; simp (maxDischargeDepth := 12) [u0]; done))) ?_
 refine drJ [] mixed ?_
 simp [i1, ZE, i3]
 repeat with_reducible refine Jc ?_
 refine oa (t := 21) (j := 7) (i := (ZH a0 a1).1.toNat) (c := 1) (k' := (ZH a0 a1).2.toNat) (q := 14) (n := 16) (size := 2) (s := ((nth a0.ZA (ZH a0 a1).1.toNat).ZF.map ZM.row)) (rows := (a0.ZA.map ZD.row)) (ds := (Qg (nth (nth a0.ZA (ZH a0 a1).1.toNat).ZF (ZH a0 a1).2.toNat).ZI (ZK.mk ((nth (nth a0.ZA (ZH a0 a1).1.toNat).ZF (ZH a0 a1).2.toNat).ZI.ZL.length : Int) (Zh a0.Frame.Methods a0.Frame.Now) (nth (YD (nth a0.ZA (ZH a0 a1).1.toNat) (Zh a0.Frame.Methods a0.Frame.Now)) (ZH a0 a1).2.toNat) ([] : List Zv) U)).1.row) (L := [(125, 0), (125, 1)]) rfl rfl rfl rfl (by simp; rfl) (by simp) (by simp) (by simp [i1, i3]) (by simp [ZE, Zj, i1, i3]) (by simp [i1, i3]) (by simp) (by simp) (by simp) (by simp) (by simp) (by simp) ?_
 simp [YV (x := (ZD.mk (nth a0.ZA (ZH a0 a1).1.toNat).Id ((nth a0.ZA (ZH a0 a1).1.toNat).ZF.set (ZH a0 a1).2.toNat (ZM.mk (nth (nth a0.ZA (ZH a0 a1).1.toNat).ZF (ZH a0 a1).2.toNat).Id (nth (nth a0.ZA (ZH a0 a1).1.toNat).ZF (ZH a0 a1).2.toNat).Y7 (nth (nth a0.ZA (ZH a0 a1).1.toNat).ZF (ZH a0 a1).2.toNat).Doc (nth (nth a0.ZA (ZH a0 a1).1.toNat).ZF (ZH a0 a1).2.toNat).Sig (Qg (nth (nth a0.ZA (ZH a0 a1).1.toNat).ZF (ZH a0 a1).2.toNat).ZI (ZK.mk ((nth (nth a0.ZA (ZH a0 a1).1.toNat).ZF (ZH a0 a1).2.toNat).ZI.ZL.length : Int) (Zh a0.Frame.Methods a0.Frame.Now) (nth (YD (nth a0.ZA (ZH a0 a1).1.toNat) (Zh a0.Frame.Methods a0.Frame.Now)) (ZH a0 a1).2.toNat) ([] : List Zv) U)).1)))) rfl, ZE, Zj, i1, i3]
 repeat with_reducible refine Jc ?_
 exact rtD [.cell 6 47, .tmp 7] f
theorem Ye {a b : Prop} (h : b) (k : a := by (intros; first | omega | with_unfolding_all (first | first | omega | (have fi := Y5 a0 a1 (by first | omega | (simp at *; omega)); omega) | (simp only [Bool.or_eq_false_iff, decide_eq_false_iff_not] at *; omega)) | (simp_all; done) | (simp_all; omega) | grind | ((try simp only [Kc, show ∀ x, IntKind.i64.wrap x = W x from fun _ => rfl] at *); omega))) : a /\ b := ⟨k, h⟩
theorem ER (a0 : ZJ) (a1 : Int) (a2 : Int) (u0 : Sm 2318336 a0) : Sd 36 [a0.row, rI a1, rI a2] [(qo a0 a1 a2).1.row, rB (qo a0 a1 a2).2] := by
 have f := me (qo.eq_1 a0 a1 a2)
 refine soD func36 ntmps36 ?_
 refine cDs [false, false, false, true, true, false, false, true, false, false, true, false] (Qx a0 (sg u0)) ?_
 refine cRs (S8 a0 a1) ?_
 refine gIo ?_ ?_ <;> intro G
 ·have gP := G
  have g1 := G; try simp at g1
  have i1 : (ZH a0 a1).1.toNat < a0.ZA.length := by first | omega | (have fi := Y5 a0 a1 (by first | omega | (simp at *; omega)); omega) | (simp only [Bool.or_eq_false_iff, decide_eq_false_iff_not] at *; omega)
  simp [i1, ZE, G]
  repeat with_reducible refine Ye ?_
  refine gK (fun _ => ?_)
  have i2 : (ZH a0 a1).2.toNat < (nth a0.ZA (ZH a0 a1).1.toNat).ZF.length := by first | omega | (have fi := Y5 a0 a1 (by first | omega | (simp at *; omega)); omega) | (simp only [Bool.or_eq_false_iff, decide_eq_false_iff_not] at *; omega)
  simp [i2, ZE, G]
  repeat with_reducible refine Ye ?_
  refine cKo f ?_ ?_ <;> intro k1 h1 f
  ·simp [G]
   repeat with_reducible refine Ye ?_
   exact zb [.cell 6 47, .tmp 7] f
  ·have i3 : 1 < (nth (nth a0.ZA (ZH a0 a1).1.toNat).ZF (ZH a0 a1).2.toNat).ZI.ZL.length := by first | omega | (have fi := Y5 a0 a1 (by first | omega | (simp at *; omega)); omega) | (simp only [Bool.or_eq_false_iff, decide_eq_false_iff_not] at *; omega)
   simp [i1, ZE, i2, i3, G]
   repeat with_reducible refine Ye ?_
   refine cR (S6 (nth (nth (nth a0.ZA (ZH a0 a1).1.toNat).ZF (ZH a0 a1).2.toNat).ZI.ZL 1)) ?_
   simp [G]
   repeat with_reducible refine Ye ?_
   refine cR (PZ a0.ZS (Zc (nth (nth (nth a0.ZA (ZH a0 a1).1.toNat).ZF (ZH a0 a1).2.toNat).ZI.ZL 1)).1.Zg) ?_
   simp [G]
   repeat with_reducible refine Ye ?_
   refine dIo mixed ?_
   simp [G]
   repeat with_reducible refine Ye ?_
   refine gJo G ?_ ?_ <;> intro G
   ·have g2x := G.2
    try (simp at G; done)
    all_goals
     have g2 := G.2; try simp at g2
     all_goals
      have i4 : (Z2 a0.ZS (Zc (nth (nth (nth a0.ZA (ZH a0 a1).1.toNat).ZF (ZH a0 a1).2.toNat).ZI.ZL 1)).1.Zg).toNat < a0.ZS.length := by have := UL a0.ZS (Zc (nth (nth (nth a0.ZA (ZH a0 a1).1.toNat).ZF (ZH a0 a1).2.toNat).ZI.ZL 1)).1.Zg; first | omega | (have fi := Y5 a0 a1 (by first | omega | (simp at *; omega)); omega) | (simp only [Bool.or_eq_false_iff, decide_eq_false_iff_not] at *; omega)
      simp [i4, ZE, G]
      repeat with_reducible refine Ye ?_
      refine cGo (fun gg => (UT a0.Frame (nth a0.ZS (Z2 a0.ZS (Zc (nth (nth (nth a0.ZA (ZH a0 a1).1.toNat).ZF (ZH a0 a1).2.toNat).ZI.ZL 1)).1.Zg).toNat).Z5)) ?_
      simp [G]
      repeat with_reducible refine Ye ?_
      refine cKo f ?_ ?_ <;> intro k3 h2 f
      ·simp [G]
       repeat with_reducible refine Ye ?_
       exact zb [.cell 6 47, .tmp 7] f
      ·simp [G]
       repeat with_reducible refine Ye ?_
       refine dIo mixed ?_
       simp [i4, ZE, G]
       repeat with_reducible refine Ye ?_
       refine cR (WR a0.Frame.Zq (Z4.mk (Zc (nth (nth (nth a0.ZA (ZH a0 a1).1.toNat).ZF (ZH a0 a1).2.toNat).ZI.ZL 1)).1.Zg a2 (-1) (nth a0.ZS (Z2 a0.ZS (Zc (nth (nth (nth a0.ZA (ZH a0 a1).1.toNat).ZF (ZH a0 a1).2.toNat).ZI.ZL 1)).1.Zg).toNat).Z5 0) (sg (Z8.xw (ZJ.Xq u0)))) ?_
       simp [G]
       repeat with_reducible refine Ye ?_
       refine cKo f ?_ ?_ <;> intro k5 h3 f
       ·simp [G]
        repeat with_reducible refine Ye ?_
        exact zb [.cell 6 47, .tmp 7] f
       ·simp [G]
        repeat with_reducible refine Ye ?_
        refine dIo mixed ?_
        simp [i1, ZE, G]
        repeat with_reducible refine Ye ?_
        refine cR (Yv.rd (kN (YZ a0.Frame.Zq (Z4.mk (Zc (nth (nth (nth a0.ZA (ZH a0 a1).1.toNat).ZF (ZH a0 a1).2.toNat).ZI.ZL 1)).1.Zg a2 (-1) (nth a0.ZS (Z2 a0.ZS (Zc (nth (nth (nth a0.ZA (ZH a0 a1).1.toNat).ZF (ZH a0 a1).2.toNat).ZI.ZL 1)).1.Zg).toNat).Z5 0)).1)) ?_
        simp [G]
        repeat with_reducible refine Ye ?_
        refine cD [] (Vj (nth a0.ZA (ZH a0 a1).1.toNat) a1 (Yz (YZ a0.Frame.Zq (Z4.mk (Zc (nth (nth (nth a0.ZA (ZH a0 a1).1.toNat).ZF (ZH a0 a1).2.toNat).ZI.ZL 1)).1.Zg a2 (-1) (nth a0.ZS (Z2 a0.ZS (Zc (nth (nth (nth a0.ZA (ZH a0 a1).1.toNat).ZF (ZH a0 a1).2.toNat).ZI.ZL 1)).1.Zg).toNat).Z5 0)).1) (sg (Yf (ZJ.Y1 u0))) (by simp (maxDischargeDepth := 12) [kL, Zk (m := 2322432) (by decide) u0]; try omega)) ?_
        simp [i1, ZE, G]
        repeat with_reducible refine Ye ?_
        refine Si (t := 19) (j := 7) (i := (ZH a0 a1).1.toNat) (size := 2) (rows := (a0.ZA.map ZD.row)) (ds := (Xu (nth a0.ZA (ZH a0 a1).1.toNat) a1 (Yz (YZ a0.Frame.Zq (Z4.mk (Zc (nth (nth (nth a0.ZA (ZH a0 a1).1.toNat).ZF (ZH a0 a1).2.toNat).ZI.ZL 1)).1.Zg a2 (-1) (nth a0.ZS (Z2 a0.ZS (Zc (nth (nth (nth a0.ZA (ZH a0 a1).1.toNat).ZF (ZH a0 a1).2.toNat).ZI.ZL 1)).1.Zg).toNat).Z5 0)).1)).1.row) (L := [(114, 1)]) ?_
        simp [YV (x := (Xu (nth a0.ZA (ZH a0 a1).1.toNat) a1 (Yz (YZ a0.Frame.Zq (Z4.mk (Zc (nth (nth (nth a0.ZA (ZH a0 a1).1.toNat).ZF (ZH a0 a1).2.toNat).ZI.ZL 1)).1.Zg a2 (-1) (nth a0.ZS (Z2 a0.ZS (Zc (nth (nth (nth a0.ZA (ZH a0 a1).1.toNat).ZF (ZH a0 a1).2.toNat).ZI.ZL 1)).1.Zg).toNat).Z5 0)).1)).1) rfl, i1, ZE, Zj, G]
        repeat with_reducible refine Ye ?_
        exact zb [.cell 6 47, .tmp 7] f
   ·have g2x := G.2
    try (simp at G; done)
    all_goals
     simp [G]
     repeat with_reducible refine Ye ?_
     refine sGo ?_
     simp [G]
     repeat with_reducible refine Ye ?_
     refine cKo f ?_ ?_ <;> intro k7 h4 f
     ·simp [G]
      repeat with_reducible refine Ye ?_
      exact zb [.cell 6 47, .tmp 7] f
     ·simp [G] at h4
 ·have gP := G
  simp [G]
  repeat with_reducible refine Ye ?_
  refine sGo ?_
  simp [G]
  repeat with_reducible refine Ye ?_
  refine cKo f ?_ ?_ <;> intro k11 h6 f
  ·simp [G]
   repeat with_reducible refine Ye ?_
   exact zb [.cell 6 47, .tmp 7] f
  ·simp [G] at h6
theorem Lq (a0 : ZJ) (a1 : Yu) (u0 : Sm 2293760 a0) (u1 : Sm 2293760 a1) : Sa 7 [a0.row, a1.row] [(QH a0 a1).1.row, rB (QH a0 a1).2] := by
 have f := me (QH.eq_1 a0 a1)
 refine so func7 ntmps7 ?_
 refine cF f ?_ ?_ <;> intro k1 h1 f
 ·refine cDs [false, false, false, true, true, false, false, true, false, false, true, false] (FQ a0 a1.A (sg u0)) ?_
  exact rt [.cell 4 47, .tmp 5] f
 refine cF f ?_ ?_ <;> intro k2 h2 f
 ·refine cDs [false, false, false, true, true, false, false, true, false, false, true, false] (Fh a0 a1.A a1.B a1.Doc a1.C a1.D (sg u0) (sg (Yu.kH u1))) ?_
  exact rt [.cell 4 47, .tmp 5] f
 refine cF f ?_ ?_ <;> intro k3 h3 f
 ·refine cDs [false, false, false, true, true, false, false, true, false, false, true, false] (Ie a0 a1.A (sg u0)) ?_
  exact rt [.cell 4 47, .tmp 5] f
 refine cF f ?_ ?_ <;> intro k4 h4 f
 ·refine cDs [false, false, false, true, true, false, false, true, false, false, true, false] (LZ a0 a1.A (sg u0)) ?_
  exact rt [.cell 4 47, .tmp 5] f
 refine cF f ?_ ?_ <;> intro k5 h5 f
 ·refine cDs [false, false, false, true, true, false, false, true, false, false, true, false] (FA a0 a1.A a1.Ids a1.B (sg u0) (sg (Yu.wU u1))) ?_
  exact rt [.cell 4 47, .tmp 5] f
 refine cF f ?_ ?_ <;> intro k6 h6 f
 ·refine cDs [false, false, false, true, true, false, false, true, false, false, true, false] (EL a0 a1.A a1.B a1.C (sg u0)) ?_
  exact rt [.cell 4 47, .tmp 5] f
 refine cF f ?_ ?_ <;> intro k7 h7 f
 ·refine cOs (Ig a0 a1.A (sg u0)) ?_
  exact rt [.cell 4 47, .tmp 5] f
 refine cF f ?_ ?_ <;> intro k8 h8 f
 ·refine cDs [false, false, false, true, true, false, false, true, false, false, true, false] (HM a0 a1.A a1.B a1.Doc (sg u0) (sg (Yu.kH u1))) ?_
  exact rt [.cell 4 47, .tmp 5] f
 refine cF f ?_ ?_ <;> intro k9 h9 f
 ·refine cDs [false, false, false, true, true, false, false, true, false, false, true, false] (Nj a0 a1.A a1.B (sg u0)) ?_
  exact rt [.cell 4 47, .tmp 5] f
 refine cF f ?_ ?_ <;> intro cO fg f
 ·refine cDs [false, false, false, true, true, false, false, true, false, false, true, false] (ER a0 a1.A a1.B (sg u0)) ?_
  exact rt [.cell 4 47, .tmp 5] f
 refine cDs [false, false, false, true, true, false, false, true, false, false, true, false] (Qx a0 (sg u0)) ?_
 exact rt [.cell 4 47, .tmp 5] f
end Go.Proofs.YtdkobknehoecjaaGreat
