/- Contracts of the functions Mj the abstract machine, part I1. No condition. -/
import Derived.Test.YthjkhlcbpfnobaaGreatL
import Derived.Test.YthjkhlcbpfnobaaGreatTy
namespace Go.Proofs.YthjkhlcbpfnobaaGreat
open Tryz
open Go.Vm Go.Mo
set_option maxHeartbeats 1000000
set_option maxRecDepth 100000
set_option linter.unusedSimpArgs false
set_option linter.unusedVariables false
variable {a b : Prop}
theorem Gr (a0 : ZX) (u0 : Sm 2342912 a0) : Sd 141 [a0.row] [(Rb a0).row] := by
 have f := me (Rb.eq_1 a0)
 have c1 := sl 2342912 a0.Zo u0
 have c2 := sl 2342912 a0.ZB u0
 have c3 := sl 2342912 a0.Methods u0
 refine soD func141 ntmps141 ?_
 exact rtD _ f
theorem IH (a0 : ZX) (u0 : Sm 2342912 a0) : Sd 141 [a0.row] [a0.row] := by
  have h := Gr a0 u0
  rwa [GA] at h
theorem Fm (a0 : List Int) (u0 : Sm 2342912 a0) : Sd 142 [rL 1 iR a0] [rL 1 iR (Ov a0)] := by
 have f := me (Ov.eq_1 a0)
 have c1 := sl 2342912 a0 u0
 refine soD func142 ntmps142 ?_
 exact rtD [.tmp 2] f
theorem yZ (a0 : List Int) (u0 : Sm 2342912 a0) : Sd 142 [rL 1 iR a0] [rL 1 iR a0] := by
  have h := Fm a0 u0
  rwa [Ff] at h
theorem NT (a0 : ZN) (u0 : Sm 2338816 a0) : Sd 282 [a0.row] [(Vp a0).row] := by
 have f := me (Vp.eq_1 a0)
 refine soD func282 ntmps282 ?_
 refine Hk [2, 3, 4, 5, 0, 1, 6, 7, 8, 9, 10] mixed zAU zAU zAU ?_
 have c1 := sl 2338816 a0.Xn u0
 simp
 refine rpS ?_
 refine cDs [false] (yZ a0.KW (sg (ZN.Cr u0))) ?_
 exact rtD _ f
theorem Oo (a0 : ZN) (u0 : Sm 2338816 a0) : Sd 282 [a0.row] [a0.row] := by
  have h := NT a0 u0
  rwa [Nc] at h
theorem Gm (a0 : ZT) (u0 : Sm 2338816 a0) : Sd 304 [a0.row] [(RG a0).row] := by
 have f := me (RG.eq_1 a0)
 refine soD func304 ntmps304 ?_
 refine cDs [false] (yZ a0.Yf (sg (ZT.T6 u0))) ?_
 exact rtD [.cell 2 177] f
theorem jN (a0 : ZT) (u0 : Sm 2338816 a0) : Sd 304 [a0.row] [a0.row] := by
  have h := Gm a0 u0
  rwa [H9] at h
theorem IW (a0 : List ZT) (u0 : Sm 2334720 a0) : Sd 252 [rL 3 ZT.row a0] [rL 3 ZT.row (VO a0)] := by
 have f := me (VO.eq_1 a0)
 refine soD func252 ntmps252 ?_
 refine lp2 (kH.eq_2 a0) (fun J U => Yq 19 [(3, .one (.sref 3 0 0 J.length), [.arr true 3 (J.map ZT.row)]), eL 6 3 a0 ZT.row, eI 7 (a0.length : Int), eI 8 (U : Int)]) (fun n1 J U => a0.length < n1 + U /\ U <= a0.length /\ J.length <= 0 + 1 * U) (a0.length + 1) ([] : List ZT) 0 (fun p1 J U e1 j1 => ?_) (h0 := wkS [((3, 0), none)] [])
 refine cFf e1 ?_ ?_ <;> intro k2 h1 e1
 ·have i1 := ix h1
  have m2 := ml a0 (k2 6 _ rfl)
  have c1 := sl 2334720 a0 u0
  have w1 := wr U
  simp [i1, ZE]
  refine rpS ?_
  refine cDs [true, false] (jN (nth a0 U) (sg (Zp u0))) ?_
  refine kb ?_
  simp
  refine W5 (lB := (J.map ZT.row)) (news := (([(nth a0 U)] : List ZT).map ZT.row)) (l1 := [(3, 0)]) (l2 := [(14, 1)]) (size := 3) ?_
  simp
  exact nx2 e1 (hw := XI [((3, 0), some (16, 0))] [] rfl zAb)
 exact rtD [.tmp 2] (ms f e1)
theorem M4 (a0 : List ZT) (u0 : Sm 2334720 a0) : Sd 252 [rL 3 ZT.row a0] [rL 3 ZT.row a0] := by
  have h := IW a0 u0
  rwa [I7] at h
theorem I6 (a0 : List Zj) (u0 : Sm 2342912 a0) : Sd 255 [rL 5 Zj.row a0] [rL 5 Zj.row (Sc a0)] := by
 have f := me (Sc.eq_1 a0)
 have c1 := sl 2342912 a0 u0
 refine soD func255 ntmps255 ?_
 exact rtD [.tmp 2] f
theorem Mk (a0 : List Zj) (u0 : Sm 2342912 a0) : Sd 255 [rL 5 Zj.row a0] [rL 5 Zj.row a0] := by
  have h := I6 a0 u0
  rwa [HC] at h
theorem MU (a0 : ZZ) (u0 : Sm 2338816 a0) : Sd 171 [a0.row] [(TP a0).row] := by
 have f := me (TP.eq_1 a0)
 have c1 := sl 2338816 a0.Path u0
 refine soD func171 ntmps171 ?_
 refine cDs [false] (Mk a0.YH (sg (ZZ.DA u0))) ?_
 exact rtD _ f
theorem Uv (a0 : ZZ) (u0 : Sm 2338816 a0) : Sd 171 [a0.row] [a0.row] := by
  have h := MU a0 u0
  rwa [LK] at h
theorem IT (a0 : ZU) (u0 : Sm 2330624 a0) : Sd 166 [a0.row] [(VK a0).row] := by
 have f := me (VK.eq_1 a0)
 refine soD func166 ntmps166 ?_
 refine cDs [] (M4 a0.ZJ (sg (ZU.QC u0))) ?_
 refine lp2 (kB.eq_2 a0) (fun J U => Yq 26 [(2, .one (.bptr 2 0), [.box [.nil 3, .nil 5]]), (3, .one (.bptr 3 0), [.box [.sref 8 0 0 a0.ZJ.length, .sref 3 2 0 U.length], .none, .arr true 5 (U.map ZZ.row)]), (8, .any, [.arr true 3 (a0.ZJ.map ZT.row)]), eL 11 5 a0.ZP ZZ.row, eI 12 (a0.ZP.length : Int), eI 13 (J : Int)]) (fun n1 J U => a0.ZP.length < n1 + J /\ J <= a0.ZP.length /\ U.length <= 0 + 1 * J) (a0.ZP.length + 1) 0 ([] : List ZZ) (fun p1 J U e1 j1 => ?_) (h0 := wkS [((3, 2), none)] [])
 refine cFf e1 ?_ ?_ <;> intro k2 h1 e1
 ·have i1 := ix h1
  have m2 := ml a0.ZP (k2 11 _ rfl)
  have c1 := sl 2330624 a0.ZP u0
  have w1 := wr J
  simp [i1, ZE]
  refine rpS ?_
  refine drJ [22] mixed ?_
  simp
  refine cDs [true, true, true, false, false] (Uv (nth a0.ZP J) (sg (Zp (ZU.zo u0)))) ?_
  refine kb ?_
  simp
  refine W5 (lB := (U.map ZZ.row)) (news := (([(nth a0.ZP J)] : List ZZ).map ZZ.row)) (l1 := [(3, 2)]) (l2 := [(20, 3), (20, 4)]) (size := 5) ?_
  simp
  exact nx2 e1 (hw := XI [((3, 2), some (22, 0))] [] rfl zAb)
 exact rtD [.cell 2 68] (ms f e1)
theorem zJ (a0 : ZU) (u0 : Sm 2330624 a0) : Sd 166 [a0.row] [a0.row] := by
  have h := IT a0 u0
  rwa [IJ] at h
theorem FV (a0 : ZQ) (u0 : Sm 2326528 a0) : Sd 205 [a0.row] [(OW a0).row] := by
 have f := me (OW.eq_1 a0)
 refine soD func205 ntmps205 ?_
 refine cDs [true, false, false] (Oo a0.Doc (sg (ZQ.qp u0))) ?_
 refine cDs [] (zJ a0.ZK (sg (ZQ.Xk u0))) ?_
 exact rtD _ f
theorem qB (a0 : ZQ) (u0 : Sm 2326528 a0) : Sd 205 [a0.row] [a0.row] := by
  have h := FV a0 u0
  rwa [F4] at h
theorem LP (a0 : ZD) (u0 : Sm 2322432 a0) : Sd 125 [a0.row] [(WV a0).row] := by
 have f := me (WV.eq_1 a0)
 refine soD func125 ntmps125 ?_
 refine lp2 (jL.eq_2 a0) (fun J U => Yq 25 [(2, .one (.bptr 2 0), [.box [.d (.int .i64 0), .nil 16]]), (3, .one (.bptr 3 0), [.box [.d (.int .i64 a0.Id), .sref 3 2 0 U.length], .none, .arr true 16 (U.map ZQ.row)]), eL 10 16 a0.ZC ZQ.row, eI 11 (a0.ZC.length : Int), eI 12 (J : Int)]) (fun n1 J U => a0.ZC.length < n1 + J /\ J <= a0.ZC.length /\ U.length <= 0 + 1 * J) (a0.ZC.length + 1) 0 ([] : List ZQ) (fun p1 J U e1 j1 => ?_) (h0 := wkS [((3, 2), none)] [])
 refine cFf e1 ?_ ?_ <;> intro k2 h1 e1
 ·have i1 := ix h1
  have m2 := ml a0.ZC (k2 10 _ rfl)
  have c1 := sl 2322432 a0.ZC u0
  have w1 := wr J
  simp [i1, ZE]
  refine rpS ?_
  refine drJ [21] mixed ?_
  simp
  refine cDs [true, true, true, false, false] (qB (nth a0.ZC J) (sg (Zp (ZD.Ye u0)))) ?_
  refine kb ?_
  simp
  refine W5 (lB := (U.map ZQ.row)) (news := (([(nth a0.ZC J)] : List ZQ).map ZQ.row)) (l1 := [(3, 2)]) (l2 := [(19, 3), (19, 4), (19, 14), (19, 15)]) (size := 16) ?_
  simp
  exact nx2 e1 (hw := XI [((3, 2), some (21, 0))] [] rfl zAb)
 exact rtD [.cell 2 73] (ms f e1)
theorem Yh (a0 : ZD) (u0 : Sm 2322432 a0) : Sd 125 [a0.row] [a0.row] := by
  have h := LP a0 u0
  rwa [MN] at h
theorem Gu (a0 : ZF) (u0 : Sm 2318336 a0) : Sd 59 [a0.row] [(Up a0).row] := by
 have f := me (Up.eq_1 a0)
 refine soD func59 ntmps59 ?_
 refine dIs mixed ?_
 have c1 := sl 2318336 a0.ZY u0
 refine cDs [false, false, false] (IH a0.Frame (sg (ZF.Y7 u0))) ?_
 refine cDs [false] (yZ a0.Zx (sg (ZF.tN u0))) ?_
 refine cDs [false] (yZ a0.Yt (sg (ZF.wm u0))) ?_
 refine cDs [false] (yZ a0.YO (sg (ZF.tG u0))) ?_
 refine cDs [false] (yZ a0.YE (sg (ZF.LR u0))) ?_
 refine lp2 (WW.eq_2 a0) (fun J U => Yq 44 [(2, .one (.bptr 2 0), [.box [.nil 5, .nil 3, .nil 4, .d (.int .i64 0), .d (.int .i64 0), .nil 7, .nil 1, .nil 2, .nil 1, .nil 1, .d (.int .i64 0), .nil 1]]), (3, .one (.bptr 3 0), [.box [.sref 8 0 0 a0.Frame.Zo.length, .sref 8 1 0 a0.Frame.ZB.length, .sref 8 2 0 a0.Frame.Methods.length, .d (.int .i64 a0.Frame.XT), .d (.int .i64 a0.Frame.Now), .sref 12 0 0 a0.ZY.length, .sref 15 0 0 a0.Zx.length, .sref 3 8 0 U.length, .sref 18 0 0 a0.Yt.length, .sref 21 0 0 a0.YO.length, .d (.int .i64 a0.Next), .sref 26 0 0 a0.YE.length], .none, .none, .none, .none, .none, .none, .none, .arr true 2 (U.map ZD.row)]), (8, .any, [.arr false 5 (a0.Frame.Zo.map Yw.row), .arr false 3 (a0.Frame.ZB.map Zf.row), .arr false 4 (a0.Frame.Methods.map Z8.row)]), (12, .any, [.arr false 7 (a0.ZY.map YX.row)]), (15, .any, [.arr false 1 (a0.Zx.map iR)]), (18, .any, [.arr false 1 (a0.Yt.map iR)]), (21, .any, [.arr false 1 (a0.YO.map iR)]), (26, .any, [.arr false 1 (a0.YE.map iR)]), eL 29 2 a0.ZA ZD.row, eI 30 (a0.ZA.length : Int), eI 31 (J : Int)]) (fun n1 J U => a0.ZA.length < n1 + J /\ J <= a0.ZA.length /\ U.length <= 0 + 1 * J) (a0.ZA.length + 1) 0 ([] : List ZD) (fun p1 J U e1 j1 => ?_) (h0 := wkS [((3, 8), none)] [])
 refine cFf e1 ?_ ?_ <;> intro k3 h1 e1
 ·have i1 := ix h1
  have m2 := ml a0.ZA (k3 29 _ rfl)
  have c2 := sl 2318336 a0.ZA u0
  have w1 := wr J
  simp [i1, ZE]
  refine rpS ?_
  refine drJ [40] mixed ?_
  simp
  refine cDs [] (Yh (nth a0.ZA J) (sg (Zp (ZF.Yn u0)))) ?_
  refine kb ?_
  simp
  refine W5 (lB := (U.map ZD.row)) (news := (([(nth a0.ZA J)] : List ZD).map ZD.row)) (l1 := [(3, 8)]) (l2 := [(38, 1)]) (size := 2) ?_
  simp
  exact nx2 e1 (hw := XI [((3, 8), some (40, 0))] [] rfl zAb)
 exact rtD [.cell 2 33] (ms f e1)
theorem YP (a0 : ZF) (u0 : Sm 2318336 a0) : Sd 59 [a0.row] [a0.row] := by
  have h := Gu a0 u0
  rwa [H3] at h
theorem Zq (a0 : Int) (a1 : Int) (a2 : Int) : Sa 61 [rI a0, rI a1, rI a2] [rB (ZS a0 a1 a2)] := by
 have f := me (ZS.eq_1 a0 a1 a2)
 refine so func61 ntmps61 ?_
 exact rt [.tmp 6] f
theorem Px (a0 : ZF) (a1 : Int) (u0 : Sm 2314240 a0) : Sd 37 [a0.row, rI a1] [(YA a0 a1).1.row, rB (YA a0 a1).2] := by
 have f := me (YA.eq_1 a0 a1)
 refine soD func37 ntmps37 ?_
 refine cDs [false, false, false, true, true, false, false, true, false, false, true, false] (YP a0 (sg u0)) ?_
 refine cRs (Zq a1 0 100) ?_
 refine cFo f ?_ ?_ <;> intro k1 h1 f
 ·have q1 := h1; try simp [ZS] at q1
  simp
  exact rtD _ f
 have q1 := h1; try simp [ZS] at q1
 simp
 exact rtD _ f
theorem JS (a0 : List Yw) (a1 : Int) : Sa 114 [rL 5 Yw.row a0, rI a1] [rI (Zt a0 a1)] := by
 have f := me (Zt.eq_1 a0 a1)
 refine so func114 ntmps114 ?_
 refine lp1 (jk.eq_2 a0 a1) (fun J => Yq 20 [eI 1 a1, eL 7 5 a0 Yw.row, eI 8 (a0.length : Int), eI 9 (J : Int)]) (fun n1 J => a0.length < n1 + J /\ J <= a0.length) (a0.length + 1) 0 (fun p1 J e1 j1 => ?_)
 refine cFf e1 ?_ ?_ <;> intro k2 h1 e1
 ·have i1 := ix h1
  have m2 := ml a0 (k2 7 _ rfl)
  have w1 := wr J
  simp [i1, ZE]
  refine rpS ?_
  refine cF e1 ?_ ?_ <;> intro k3 h2 e1
  ·exact rt _ (ms f e1)
  exact ny1 w1 e1
 exact rt _ (ms f e1)
theorem jG (a0 : List Z8) (a1 : Int) : Sa 87 [rL 4 Z8.row a0, rI a1] [rI (ZO a0 a1)] := by
 have f := me (ZO.eq_1 a0 a1)
 refine so func87 ntmps87 ?_
 refine lp2 (yN.eq_2 a0 a1) (fun J U => Yq 48 [eL 0 4 a0 Z8.row, eI 1 a1, eI 5 J, eL 8 4 a0 Z8.row, eI 9 (a0.length : Int), eI 10 (U : Int)]) (fun n1 J U => a0.length < n1 + U /\ U <= a0.length /\ -1 <= J /\ J < (a0.length : Int)) (a0.length + 1) (-1) 0 (fun p1 J U e1 j1 => ?_)
 refine cFf e1 ?_ ?_ <;> intro k2 h1 e1
 ·have i1 := ix h1
  have m2 := ml a0 (k2 0 _ rfl)
  have w1 := wr U
  simp [i1, ZE]
  refine rpS ?_
  refine dIs mixed ?_
  refine gIf ?_ ?_ <;> intro G
  ·have i2 := ik J.toNat a0
   simp [i2, ZE, G]
   refine rpG ?_
   refine cK e1 ?_ ?_ <;> intro k4 h2 e1
   ·exact ny2 (an w1 G) e1
   ·exact ny2 (an w1 G) e1
  ·refine cK e1 ?_ ?_ <;> intro k5 h3 e1
   ·exact ny2 (an w1 G) e1
   ·exact ny2 (an w1 G) e1
 have f := ms f e1
 refine cFt f ?_ ?_ <;> intro k6 h4 f
 ·exact rt _ f
 have i4 := ik J.toNat a0
 simp [i4, ZE]
 refine rpS ?_
 exact rt _ f
theorem yk (a0 : ZF) (a1 : Int) : Sa 112 [a0.row, rI a1] [rB (YC a0 a1)] := by
 have f := me (YC.eq_1 a0 a1)
 refine so func112 ntmps112 ?_
 refine cRs (Zq a1 0 (W ((a0.ZA.length : Int) - 1))) ?_
 exact rt [.tmp 4] f
theorem Sh (a0 : ZN) : Sa 173 [a0.row] [rB (zh a0)] := by
 have f := me (zh.eq_1 a0)
 refine so func173 ntmps173 ?_
 refine cRs (Zq a0.UG 0 999) ?_
 refine cGs (fun gg => (Zq (a0.Xn.length : Int) 1 6)) ?_
 refine cFo f ?_ ?_ <;> intro k1 h1 f
 ·have q1 := h1; try simp [ZS] at q1
  simp
  exact rt _ f
 have q1 := h1; try simp [ZS] at q1
 simp
 refine lp1 (qI.eq_2 a0) (fun J => Yq 46 [eX 1 (a0.row.map .d), eL 26 1 a0.Xn sR, eI 27 (a0.Xn.length : Int), eI 28 (J : Int)]) (fun n1 J => a0.Xn.length < n1 + J /\ J <= a0.Xn.length) (a0.Xn.length + 1) 0 (fun p1 J e1 j1 => ?_)
 refine cFf e1 ?_ ?_ <;> intro k3 h2 e1
 ·have i1 := ix h2
  have w1 := wr J
  simp [i1, ZE]
  refine rpS ?_
  refine gIf ?_ ?_ <;> intro G
  ·have i2 := ik J a0.KW
   simp [i2, ZE, G]
   refine rpG ?_
   refine cGg (fun gg => (Zq (nth a0.KW J) 1 1000000000000)) ?_
   refine cKo e1 ?_ ?_ <;> intro k4 h3 e1
   ·have q3 := h3; try simp [ZS] at q3
    have f := ms f e1
    simp
    refine rpG ?_
    exact rtg _ f
   ·have q3 := h3; try simp [ZS] at q3
    simp
    refine rpG ?_
    exact ny1 (an w1 G) e1
  ·refine sGo ?_
   simp
   refine rpG ?_
   refine cKo e1 ?_ ?_ <;> intro k5 h4 e1
   ·have q4 := h4; try simp [ZS] at q4
    have f := ms f e1
    simp
    refine rpG ?_
    exact rtg _ f
   ·simp [G] at h4
 exact rt _ (ms f e1)
theorem CR (a0 : List UInt8) (u0 : Sm 2342912 a0) : Sd 257 [rL 1 bR a0] [rL 1 iR (kh a0)] := by
 have f := me (kh.eq_1 a0)
 refine soD func257 ntmps257 ?_
 refine lp2 (qQ.eq_2 a0) (fun J U => Yq 19 [(3, .one (.sref 3 0 0 J.length), [.arr false 1 (J.map iR)]), eL 6 1 a0 bR, eI 7 (a0.length : Int), eI 8 (U : Int)]) (fun n1 J U => a0.length < n1 + U /\ U <= a0.length /\ J.length <= 0 + 1 * U) (a0.length + 1) ([] : List Int) 0 (fun p1 J U e1 j1 => ?_) (h0 := wkS [((3, 0), none)] [])
 refine cFf e1 ?_ ?_ <;> intro k2 h1 e1
 ·have i1 := ix h1
  have m2 := ml a0 (k2 6 _ rfl)
  have c1 := sl 2342912 a0 u0
  have w1 := wr U
  simp [i1, ZE]
  refine rpS ?_
  exact nx2 e1 (hw := XI [((3, 0), some (16, 0))] [] rfl zAb)
 exact rtD [.tmp 2] (ms f e1)
theorem tI (a0 : Int) (a1 : Int) : Sa 317 [rI a0, rI a1] [rI (Cl a0 a1)] := by
 have f := me (Cl.eq_1 a0 a1)
 refine so func317 ntmps317 ?_
 refine cRs (Zq a1 1 1000000000000) ?_
 refine cFo f ?_ ?_ <;> intro k1 h1 f
 ·have q1 := h1; try simp [ZS] at q1
  simp
  exact rt _ f
 have q1 := h1; try simp [ZS] at q1
 simp
 refine rpS ?_
 exact rt _ f
theorem DC (a0 : List Int) : Sa 258 [rL 1 iR a0] [rI (M5 a0)] := by
 have f := me (M5.eq_1 a0)
 refine so func258 ntmps258 ?_
 refine lp2 (Rf.eq_2 a0) (fun J U => Yq 21 [eI 3 J, eL 6 1 a0 iR, eI 7 (a0.length : Int), eI 8 (U : Int)]) (fun n1 J U => a0.length < n1 + U /\ U <= a0.length) (a0.length + 1) 11 0 (fun p1 J U e1 j1 => ?_)
 refine cFf e1 ?_ ?_ <;> intro k2 h1 e1
 ·have i1 := ix h1
  have m2 := ml a0 (k2 6 _ rfl)
  have w1 := wr U
  simp [i1, ZE]
  refine rpS ?_
  refine cRs (tI (nth a0 U) 2147483647) ?_
  exact ny2 w1 e1
 exact rt _ (ms f e1)
theorem KE (a0 : Int) (a1 : List Int) (u0 : Sm 68719476736 a1) : Sa 175 [rI a0, rL 1 iR a1] [rI (Jm a0 a1)] := by
 have f := me (Jm.eq_1 a0 a1)
 have c1 := sl 68719476736 a1 u0
 refine so func175 ntmps175 ?_
 refine cRs (DC (([7, a0] : List Int) ++ a1)) ?_
 exact rt _ f
theorem IK (a0 : Int) (a1 : ByteArray) (a2 : Int) (u0 : Sm 2326528 a1) : Sa 174 [rI a0, rS a1, rI a2] [rI (kS a0 a1 a2)] := by
 have f := me (kS.eq_1 a0 a1 a2)
 refine so func174 ntmps174 ?_
 have c1 : a1.size <= 2326528 := D2 (xs u0)
 refine s6 (s := a1) rfl rfl rfl zAF zAF zAF zAF zAA ?_
 simp
 refine cRs (YV.rd (CR a1.data.toList (by simp [XD]; first | omega | (simp [ByteArray.size] at *; omega)))) ?_
 refine cRs (KE a0 (([a2] : List Int) ++ (kh a1.data.toList)) zAo) ?_
 exact rt _ f
theorem yU (a0 : Int) (a1 : ZN) (u0 : Sm 2322432 a1) : Sa 92 [rI a0, a1.row] [rI (Yb a0 a1)] := by
 have f := me (Yb.eq_1 a0 a1)
 refine so func92 ntmps92 ?_
 refine cRs (Sh a1) ?_
 refine cF f ?_ ?_ <;> intro k1 h1 f
 ·exact rt [.tmp 4] f
 refine lp2 (jD.eq_2 a0 a1) (fun J U => Yq 37 [eI 0 a0, eX 3 (a1.row.map .d), (5, .one (.sref 5 0 0 J.length), [.arr false 1 (J.map iR)]), eL 15 1 a1.Xn sR, eI 16 (a1.Xn.length : Int), eI 17 (U : Int)]) (fun n1 J U => a1.Xn.length < n1 + U /\ U <= a1.Xn.length /\ J.length <= 1 + 1 * U) (a1.Xn.length + 1) ([a1.UG] : List Int) 0 (fun p1 J U e1 j1 => ?_) (h0 := wkS [((5, 0), some (13, 0))] [])
 refine cFf e1 ?_ ?_ <;> intro k3 h2 e1
 ·have i1 := ix h2
  have m2 := ml a1.Xn (k3 15 _ rfl)
  have c1 := sl 2322432 a1.Xn u0
  have w1 := wr U
  have i2 : U < a1.KW.length := by (have := LS (a := a1); first | (simp_all; done) | (simp_all; omega))
  simp [i1, ZE, i2]
  refine rpS ?_
  refine cRs (IK a0 (nth a1.Xn U) (nth a1.KW U) (sg (Zp (ZN.GZ u0)))) ?_
  exact nx2 e1 (hw := XI [((5, 0), some (32, 0))] [] rfl zAb)
 have c2 := sl 2322432 a1.Xn u0
 have f := ms f e1
 refine cRs (KE a0 J zAK) ?_
 exact rt [.tmp 4] f
theorem jY (a0 : Zl) : Sd 293 [a0.row] [rL 1 iR (Xq a0)] := by
 have f := me (Xq.eq_1 a0)
 refine soD func293 ntmps293 ?_
 exact rtD [.tmp 2] f
theorem Hc (a0 : Int) (a1 : List Int) (u0 : Sm 2330624 a1) : Sa 316 [rI a0, rL 1 iR a1] [rI (Wp a0 a1)] := by
 have f := me (Wp.eq_1 a0 a1)
 have c1 := sl 2330624 a1 u0
 refine so func316 ntmps316 ?_
 refine cRs (DC ((([a0] : List Int) ++ a1) ++ ([a0] : List Int))) ?_
 exact rt _ f
theorem Ft (a0 : Yw) (a1 : List Int) (u0 : Sm 2326528 a1) : Sa 254 [a0.row, rL 1 iR a1] [rI (Vl a0 a1)] := by
 have f := me (Vl.eq_1 a0 a1)
 refine so func254 ntmps254 ?_
 refine Hk [2, 3, 4, 5, 6, 0, 1, 7, 8] mixed zAU zAU zAU ?_
 have c1 := sl 2326528 a1 u0
 simp
 refine rpS ?_
 refine cRs (Hc a0.Rn (([a0.Method] : List Int) ++ a1) zAo) ?_
 exact rt _ f
theorem Ut (a0 : List Yw) (a1 : Int) (a2 : List Int) (u0 : Sm 2322432 a0) (u1 : Sm 2322432 a2) : Sa 169 [rL 5 Yw.row a0, rI a1, rL 1 iR a2] [rI (zM a0 a1 a2).1, rB (zM a0 a1 a2).2] := by
 have f := me (zM.eq_1 a0 a1 a2)
 refine so func169 ntmps169 ?_
 refine cRs (JS a0 a1) ?_
 refine cFt f ?_ ?_ <;> intro k1 h1 f
 ·exact rt _ f
 have i1 : (Zt a0 a1).toNat < a0.length := by have := Kw a0 a1; exact il
 simp [i1, ZE]
 refine rpS ?_
 refine cRs (Ft (nth a0 (Zt a0 a1).toNat) a2 (sg u1)) ?_
 exact rt _ f
theorem kx (a0 : Zl) : Sa 240 [a0.row] [rB (yI a0)] := by
 have f := me (yI.eq_1 a0)
 refine so func240 ntmps240 ?_
 refine cRs (Zq a0.Key 1 99) ?_
 refine cGs (fun gg => (Zq a0.Zd 1 999)) ?_
 refine cGs (fun gg => (Zq a0.Method 0 99)) ?_
 refine cGs (fun gg => (Zq a0.Org 0 99)) ?_
 refine cGs (fun gg => (Zq a0.Vk 1 3)) ?_
 refine cGs (fun gg => (Zq a0.QK 0 1000000000000)) ?_
 refine cGs (fun gg => (Zq a0.UR 0 1000000000000)) ?_
 refine cGs (fun gg => (Zq a0.UT 0 1000000000000)) ?_
 exact rt _ f
theorem Ij (a0 : List Yw) (a1 : Zl) (u0 : Sm 2318336 a0) : Sa 227 [rL 5 Yw.row a0, a1.row] [(XM a0 a1).1.row, rB (XM a0 a1).2] := by
 have f := me (XM.eq_1 a0 a1)
 refine so func227 ntmps227 ?_
 refine dIs mixed ?_
 refine cRs (YV.rd (jY a1)) ?_
 refine cRs (Ut a0 a1.Key (Xq a1) (sg u0) (by simp (maxDischargeDepth := 12) [jP]; try omega)) ?_
 refine cRs (kx a1) ?_
 refine cF f ?_ ?_ <;> intro k2 h1 f
 ·exact rt _ f
 exact rt _ f
theorem Vu (a0 : Zl) : Sd 222 [a0.row] [(Yu a0).row] := by
 have f := me (Yu.eq_1 a0)
 refine soD func222 ntmps222 ?_
 refine dIs mixed ?_
 refine cDs [false] (jY a0) ?_
 exact rtD _ f
theorem Pw (a0 : YX) : Sd 149 [a0.row] [rL 1 iR (yD a0)] := by
 have f := me (yD.eq_1 a0)
 refine soD func149 ntmps149 ?_
 exact rtD [.tmp 2] f
theorem Gf (a0 : YX) : Sd 228 [a0.row] [(Jf a0).row] := by
 have f := me (Jf.eq_1 a0)
 refine soD func228 ntmps228 ?_
 refine dIs mixed ?_
 refine cDs [false] (Pw a0) ?_
 exact rtD _ f
theorem qz (a0 : ZD) (a1 : Int) : Sa 84 [a0.row, rI a1] [rI (ZW a0 a1)] := by
 have f := me (ZW.eq_1 a0 a1)
 refine so func84 ntmps84 ?_
 refine lp1 (zl.eq_2 a0 a1) (fun J => Yq 21 [eI 1 a1, eL 8 16 a0.ZC ZQ.row, eI 9 (a0.ZC.length : Int), eI 10 (J : Int)]) (fun n1 J => a0.ZC.length < n1 + J /\ J <= a0.ZC.length) (a0.ZC.length + 1) 0 (fun p1 J e1 j1 => ?_)
 refine cFf e1 ?_ ?_ <;> intro k2 h1 e1
 ·have i1 := ix h1
  have m2 := ml a0.ZC (k2 8 _ rfl)
  have w1 := wr J
  simp [i1, ZE]
  refine rpS ?_
  refine cF e1 ?_ ?_ <;> intro k3 h2 e1
  ·exact rt _ (ms f e1)
  exact ny1 w1 e1
 exact rt _ (ms f e1)
theorem K5 (a0 : Int) : Sa 146 [rI a0] [rB (Kq a0)] := by
 have f := me (Kq.eq_1 a0)
 refine so func146 ntmps146 ?_
 refine cRs (Zq a0 0 10000) ?_
 exact rt [.tmp 2] f
theorem Gy (a0 : List Int) (a1 : List Int) : Sa 69 [rL 1 iR a0, rL 1 iR a1] [rB (Uc a0 a1)] := by
 have f := me (Uc.eq_1 a0 a1)
 refine so func69 ntmps69 ?_
 refine cF f ?_ ?_ <;> intro k1 h1 f
 ·exact rt _ f
 refine lp1 (WU.eq_2 a0 a1) (fun J => Yq 26 [eL 0 1 a0 iR, eL 1 1 a1 iR, eI 12 (a0.length : Int), eI 13 (J : Int)]) (fun n1 J => a0.length < n1 + J /\ J <= a0.length) (a0.length + 1) 0 (fun p1 J e1 j1 => ?_)
 refine cF e1 ?_ ?_ <;> intro k3 h2 e1
 ·have i1 := ix h2
  have m2 := ml a0 (k3 0 _ rfl)
  have w1 := wr J
  refine dIo mixed ?_
  have i2 := ik J a1
  simp [i1, ZE, i2]
  refine rpS ?_
  refine cF e1 ?_ ?_ <;> intro k5 h3 e1
  ·exact rt _ (ms f e1)
  exact ny1 w1 e1
 exact rt _ (ms f e1)
theorem kp (a0 : ZT) (a1 : ZT) : Sa 221 [a0.row, a1.row] [rB (KG a0 a1)] := by
 have f := me (KG.eq_1 a0 a1)
 refine so func221 ntmps221 ?_
 refine cGs (fun gg => (Gy a0.Yf a1.Yf)) ?_
 exact rt [.tmp 4] f
theorem WQ (a0 : List ZT) (a1 : ZT) : Sa 256 [rL 3 ZT.row a0, a1.row] [rB (Km a0 a1)] := by
 have f := me (Km.eq_1 a0 a1)
 refine so func256 ntmps256 ?_
 refine lp1 (kN.eq_2 a0 a1) (fun J => Yq 17 [eX 3 (a1.row.map .d), eL 7 3 a0 ZT.row, eI 8 (a0.length : Int), eI 9 (J : Int)]) (fun n1 J => a0.length < n1 + J /\ J <= a0.length) (a0.length + 1) 0 (fun p1 J e1 j1 => ?_)
 refine cFf e1 ?_ ?_ <;> intro k2 h1 e1
 ·have i1 := ix h1
  have m2 := ml a0 (k2 7 _ rfl)
  have w1 := wr J
  simp [i1, ZE]
  refine rpS ?_
  refine cRs (kp (nth a0 J) a1) ?_
  refine cF e1 ?_ ?_ <;> intro k3 h2 e1
  ·exact rt _ (ms f e1)
  exact ny1 w1 e1
 exact rt _ (ms f e1)
theorem TX (a0 : ZU) : Sa 172 [a0.row] [rB (Xy a0)] := by
 have f := me (Xy.eq_1 a0)
 refine so func172 ntmps172 ?_
 refine cRs (Zq (a0.ZJ.length : Int) 1 12) ?_
 refine cFo f ?_ ?_ <;> intro k1 h1 f
 ·have q1 := h1; try simp [ZS] at q1
  simp
  exact rt _ f
 have q1 := h1; try simp [ZS] at q1
 simp
 refine lp1 (xG.eq_2 a0) (fun J => Yq 65 [eX 1 (a0.row.map .d), eL 19 3 a0.ZJ ZT.row, eI 20 (a0.ZJ.length : Int), eI 21 (J : Int)]) (fun n1 J => a0.ZJ.length < n1 + J /\ J <= a0.ZJ.length) (a0.ZJ.length + 1) 0 (fun p1 J e1 j1 => ?_)
 refine cFf e1 ?_ ?_ <;> intro k3 h2 e1
 ·have i1 := ix h2
  have w1 := wr J
  simp [i1, ZE]
  refine rpS ?_
  refine dIs mixed ?_
  refine cRs (WQ (a0.ZJ.take J) (nth a0.ZJ J)) ?_
  refine cF e1 ?_ ?_ <;> intro k5 h3 e1
  ·exact rt _ (ms f e1)
  exact ny1 w1 e1
 have f := ms f e1
 refine lp1 (y7.eq_2 a0) (fun m0 => Yq 65 [eX 1 (a0.row.map .d), eL 34 5 a0.ZP ZZ.row, eI 35 (a0.ZP.length : Int), eI 36 (m0 : Int)]) (fun n2 m0 => a0.ZP.length < n2 + m0 /\ m0 <= a0.ZP.length) (a0.ZP.length + 1) 0 (fun p2 m0 e2 j2 => ?_)
 refine cFf e2 ?_ ?_ <;> intro k7 h4 e2
 ·have i2 := ix h4
  have w2 := wr m0
  simp [i2, ZE]
  refine rpS ?_
  refine dIs mixed ?_
  refine cRs (Zq (nth a0.ZP m0).Count 1 (a0.ZJ.length : Int)) ?_
  refine gIf ?_ ?_ <;> intro G
  ·have i3 := ik (m0 - 1) a0.ZP
   have w3 : IntKind.i64.wrap ((m0 : Int) - 1) = (m0 : Int) - 1 := YN zAA zAA
   simp [i3, ZE, w3, G]
   refine rpG ?_
   refine cKo e2 ?_ ?_ <;> intro k9 h5 e2
   ·have q5 := h5; try simp [ZS] at q5
    have f := ms f e2
    simp
    refine rpG ?_
    exact rtg _ f
   ·have q5 := h5; try simp [ZS] at q5
    simp
    refine rpG ?_
    exact ny1 (an w2 (an w3 G)) e2
  ·refine cKo e2 ?_ ?_ <;> intro bP h6 e2
   ·have q6 := h6; try simp [ZS] at q6
    have f := ms f e2
    simp
    refine rpG ?_
    exact rtg _ f
   ·have q6 := h6; try simp [ZS] at q6
    simp
    refine rpG ?_
    exact ny1 (an w2 G) e2
 exact rt _ (ms f e2)
theorem Lb (a0 : ZQ) : Sa 151 [a0.row] [rB (Jv a0)] := by
 have f := me (Jv.eq_1 a0)
 refine so func151 ntmps151 ?_
 refine dIs mixed ?_
 refine cRs (Zq a0.Id 1 999) ?_
 refine cGs (fun gg => (K5 a0.Y8)) ?_
 refine cGs (fun gg => (Sh a0.Doc)) ?_
 refine cGs (fun gg => (TX a0.ZK)) ?_
 refine gIf ?_ ?_ <;> intro G
 ·have g1 := G; try simp [ZS] at g1
  have i1 : 0 < a0.ZK.ZJ.length := by have := Gd (a := a0.ZK); simp_all
  simp [i1, ZE, G]
  refine rpG ?_
  refine cGg (fun gg => YV.rd (Vu a0.Sig)) ?_
  refine cGg (fun gg => (kp (nth a0.ZK.ZJ 0) (Yu a0.Sig))) ?_
  exact rtg _ f
 ·refine sGo ?_
  simp
  refine rpG ?_
  refine sGo ?_
  simp
  refine rpG ?_
  exact rtg _ f
theorem yn (a0 : ZD) : Sa 65 [a0.row] [rB (Yi a0)] := by
 have f := me (Yi.eq_1 a0)
 refine so func65 ntmps65 ?_
 refine lp1 (xg.eq_2 a0) (fun J => Yq 42 [eX 1 (a0.row.map .d), eL 6 16 a0.ZC ZQ.row, eI 7 (a0.ZC.length : Int), eI 8 (J : Int)]) (fun n1 J => a0.ZC.length < n1 + J /\ J <= a0.ZC.length) (a0.ZC.length + 1) 0 (fun p1 J e1 j1 => ?_)
 refine cFf e1 ?_ ?_ <;> intro k2 h1 e1
 ·have i1 := ix h1
  have m2 := ml a0.ZC (k2 6 _ rfl)
  have w1 := wr J
  simp [i1, ZE]
  refine rpS ?_
  refine dIs mixed ?_
  refine cRs (Lb (nth a0.ZC J)) ?_
  refine gIf ?_ ?_ <;> intro G
  ·have i2 := ik (J - 1) a0.ZC
   have w2 : IntKind.i64.wrap ((J : Int) - 1) = (J : Int) - 1 := YN zAA zAA
   simp [i2, ZE, w2, G]
   refine rpG ?_
   refine cK e1 ?_ ?_ <;> intro k4 h2 e1
   ·exact rtg _ (ms f e1)
   ·exact ny1 (an w1 (an w2 G)) e1
  ·refine cK e1 ?_ ?_ <;> intro k5 h3 e1
   ·exact rtg _ (ms f e1)
   ·exact ny1 (an w1 G) e1
 have f := ms f e1
 refine cRs (Zq a0.Id 0 99) ?_
 exact rt _ f
theorem Nb (a0 : ZD) (a1 : ZQ) (u0 : Sm 2318336 a0) (u1 : Sm 2318336 a1) : Sd 229 [a0.row, a1.row] [(YQ a0 a1).1.row, rB (YQ a0 a1).2] := by
 have f := me (YQ.eq_1 a0 a1)
 refine soD func229 ntmps229 ?_
 refine cRs (qz a0 a1.Id) ?_
 refine cGs (fun gg => (yn a0)) ?_
 refine cF f ?_ ?_ <;> intro k1 h1 f
 ·refine cDs [] (Yh a0 (sg u0)) ?_
  exact rtD _ f
 refine cDs [] (Yh a0 (sg u0)) ?_
 refine lp1 (Xt.eq_2 a0 a1) (fun J => Yq 62 [eX 2 (a0.row.map .d), eX 3 (a1.row.map .d), (4, .one (.bptr 4 0), [.box [.d (.int .i64 0), .nil 16]]), (6, .one (.bptr 6 0), [.box [.d (.int .i64 a0.Id), .sref 21 1 0 a0.ZC.length]]), eI 7 (J : Int), (21, .any, [.none, .arr true 16 (a0.ZC.map ZQ.row)])]) (fun n1 J => a0.ZC.length < n1 + J /\ J <= a0.ZC.length) (a0.ZC.length + 1) 0 (fun p1 J e1 j1 => ?_)
 refine dIs mixed ?_
 refine gIf ?_ ?_ <;> intro G
 ·have i1 := ik J a0.ZC
  simp [i1, ZE]
  refine rpG ?_
  refine cK e1 ?_ ?_ <;> intro k4 h2 e1
  ·have m2 := ml a0.ZC (k4 24 _ rfl)
   have c1 := sl 2318336 a0.ZC (an u0 u1)
   have w1 := wr J
   exact ny1 (an w1 G) e1
  ·have c2 := sl 2318336 a0.ZC (an u0 u1)
   have f := ms f e1
   refine wW [(3, 3), (6, 6), (41, 6), (50, 6), (55, 6)] [] [45, 49, 54] mixed zAU zAU zAU zAU zAU zAU zAU ?_
   simp
   refine rpG ?_
   refine kb ?_
   simp
   refine rpG ?_
   refine rN (lB := (([] : List ZQ).map ZQ.row)) (rows := (a0.ZC.map ZQ.row)) (news := ((a0.ZC.take J).map ZQ.row)) (l1 := [(40, 0)]) (size := 16) (u := 21) (j := 1) (lo := 0) (n := J) rfl rfl rfl rfl zAF zAF zAF zAF zAF zAF zAq zAF zAF zAq ?_
   simp
   refine rpG ?_
   refine cDg [true, true, true, false, false] (qB a1 (sg u1)) ?_
   refine kb ?_
   simp
   refine rpG ?_
   refine W5 (lB := ((a0.ZC.take J).map ZQ.row)) (news := (([a1] : List ZQ).map ZQ.row)) (l1 := [(45, 0)]) (l2 := [(47, 3), (47, 4), (47, 14), (47, 15)]) (size := 16) ?_
   simp
   refine rpG ?_
   refine rN (lB := (((a0.ZC.take J) ++ ([a1] : List ZQ)).map ZQ.row)) (rows := (Jw _ 0 J)) (news := ((a0.ZC.drop J).map ZQ.row)) (l1 := [(49, 0)]) (size := 16) (u := 21) (j := 1) rfl rfl rfl rfl zAF zAF zAF zAF zAF zAF zBV ((Lm zAq zAq).trans (RC _ _ _)) zAF zAq ?_
   simp
   refine rpG ?_
   refine cRg (yn (ZD.mk a0.Id (((a0.ZC.take J) ++ ([a1] : List ZQ)) ++ (a0.ZC.drop J)))) ?_
   refine cK f ?_ ?_ <;> intro k6 h3 f
   ·refine cDg [] (Yh a0 (sg u0)) ?_
    exact yJ _ f
   ·exact yJ _ f
 ·refine cK e1 ?_ ?_ <;> intro k7 h4 e1
  ·simp [G] at h4
  ·have c5 := sl 2318336 a0.ZC (an u0 u1)
   have f := ms f e1
   refine wW [(3, 3), (6, 6), (41, 6), (50, 6), (55, 6)] [] [45, 49, 54] mixed zAU zAU zAU zAU zAU zAU zAU ?_
   simp
   refine rpG ?_
   refine kb ?_
   simp
   refine rpG ?_
   refine rN (lB := (([] : List ZQ).map ZQ.row)) (rows := (a0.ZC.map ZQ.row)) (news := ((a0.ZC.take J).map ZQ.row)) (l1 := [(40, 0)]) (size := 16) (u := 21) (j := 1) (lo := 0) (n := J) rfl rfl rfl rfl zAF zAF zAF zAF zAF zAF zAq zAF zAF zAq ?_
   simp
   refine rpG ?_
   refine cDg [true, true, true, false, false] (qB a1 (sg u1)) ?_
   refine kb ?_
   simp
   refine rpG ?_
   refine W5 (lB := ((a0.ZC.take J).map ZQ.row)) (news := (([a1] : List ZQ).map ZQ.row)) (l1 := [(45, 0)]) (l2 := [(47, 3), (47, 4), (47, 14), (47, 15)]) (size := 16) ?_
   simp
   refine rpG ?_
   refine rN (lB := (((a0.ZC.take J) ++ ([a1] : List ZQ)).map ZQ.row)) (rows := (Jw _ 0 J)) (news := ((a0.ZC.drop J).map ZQ.row)) (l1 := [(49, 0)]) (size := 16) (u := 21) (j := 1) rfl rfl rfl rfl zAF zAF zAF zAF zAF zAF zBV ((Lm zAq zAq).trans (RC _ _ _)) zAF zAq ?_
   simp
   refine rpG ?_
   refine cRg (yn (ZD.mk a0.Id (((a0.ZC.take J) ++ ([a1] : List ZQ)) ++ (a0.ZC.drop J)))) ?_
   refine cK f ?_ ?_ <;> intro k9 h5 f
   ·refine cDg [] (Yh a0 (sg u0)) ?_
    exact yJ _ f
   ·exact yJ _ f
theorem P6 (a0 : ZF) (a1 : Int) (a2 : Int) (a3 : ZN) (a4 : Int) (a5 : Int) (u0 : Sm 2314240 a0) (u1 : Sm 2314240 a3) : Sa 155 [a0.row, rI a1, rI a2, a3.row, rI a4, rI a5] [(XJ a0 a1 a2 a3 a4 a5).1.row, rB (XJ a0 a1 a2 a3 a4 a5).2] := by
 have f := me (XJ.eq_1 a0 a1 a2 a3 a4 a5)
 refine so func155 ntmps155 ?_
 refine cRs (jG a0.Frame.Methods a0.Frame.Now) ?_
 refine cRs (yk a0 a1) ?_
 refine cGs (fun gg => (JS a0.Frame.Zo a2)) ?_
 have c1 := sl 2314240 a0.ZA (an u0 u1)
 have w1 : IntKind.i64.wrap ((a0.ZA.length : Int) - 1) = (a0.ZA.length : Int) - 1 := YN zAA zAA
 refine cFo f ?_ ?_ <;> intro k1 h1 f
 ·have q1 := h1; try simp [w1, YC, ZS] at q1
  simp
  exact rt [.cell 12 33, .tmp 13] f
 have q1 := h1; try simp [w1, YC, ZS] at q1
 simp
 refine lp1 (Qv.eq_2 a0 a1 a2 a3 a4 a5) (fun J => Yq 116 [eI 1 a1, eI 2 a2, eI 4 a4, eI 5 a5, eX 6 (a0.row.map .d), eX 9 (a3.row.map .d), (12, .one (.bptr 12 0), [.box [.nil 5, .nil 3, .nil 4, .d (.int .i64 0), .d (.int .i64 0), .nil 7, .nil 1, .nil 2, .nil 1, .nil 1, .d (.int .i64 0), .nil 1]]), eX 14 (a0.Frame.row.map .d), eI 15 (ZO a0.Frame.Methods a0.Frame.Now), eL 48 7 a0.ZY YX.row, eI 49 (a0.ZY.length : Int), eI 50 (J : Int)]) (fun n1 J => a0.ZY.length < n1 + J /\ J <= a0.ZY.length) (a0.ZY.length + 1) 0 (fun p1 J e1 j1 => ?_)
 refine cFf e1 ?_ ?_ <;> intro k3 h2 e1
 ·have i1 := ix h2
  have m2 := ml a0.ZY (k3 48 _ rfl)
  have c2 := sl 2314240 a0.ZY (an u0 u1)
  have w2 := wr J
  simp [i1, ZE]
  refine rpS ?_
  refine cF e1 ?_ ?_ <;> intro k4 h3 e1
  ·exact ny1 (an w1 w2) e1
  refine dIs mixed ?_
  refine cRs (yU (ZO a0.Frame.Methods a0.Frame.Now) a3 (sg u1)) ?_
  refine cRs (Ij a0.Frame.Zo (Zl.mk a2 (nth a0.ZY J).Zd (ZO a0.Frame.Methods a0.Frame.Now) (Yb (ZO a0.Frame.Methods a0.Frame.Now) a3) 1 a4 0 0 0) (sg (ZX.XS (ZF.Y7 u0)))) ?_
  refine dIs mixed ?_
  refine cRs (YV.rd (Vu (XM a0.Frame.Zo (Zl.mk a2 (nth a0.ZY J).Zd (ZO a0.Frame.Methods a0.Frame.Now) (Yb (ZO a0.Frame.Methods a0.Frame.Now) a3) 1 a4 0 0 0)).1)) ?_
  refine cRs (YV.rd (Gf (nth a0.ZY J))) ?_
  refine eIs ?_
  refine dIo mixed ?_
  have i2 := ik a1.toNat a0.ZA
  simp [i2, ZE]
  refine rpS ?_
  refine cDs [] (Nb (nth a0.ZA a1.toNat) (ZQ.mk a0.Next a5 a3 (XM a0.Frame.Zo (Zl.mk a2 (nth a0.ZY J).Zd (ZO a0.Frame.Methods a0.Frame.Now) (Yb (ZO a0.Frame.Methods a0.Frame.Now) a3) 1 a4 0 0 0)).1 (ZU.mk ([(Yu (XM a0.Frame.Zo (Zl.mk a2 (nth a0.ZY J).Zd (ZO a0.Frame.Methods a0.Frame.Now) (Yb (ZO a0.Frame.Methods a0.Frame.Now) a3) 1 a4 0 0 0)).1), (Jf (nth a0.ZY J))] : List ZT) ([] : List ZZ))) (sg (Zp (ZF.Yn u0))) (by simp (maxDischargeDepth := 12) [kl, XD, Rh, Yv, ZM (m := 2318336) zAE u0, ZM (m := 2318336) zAE u1]; try omega)) ?_
  refine cF e1 ?_ ?_ <;> intro k8 h4 e1
  ·exact rt [.cell 12 33, .tmp 13] (ms f e1)
  refine cDf i2 [false, false, false, true, true, false, false, true, false, false, true, false] (YP a0 (sg u0)) ?_
  refine ND (t := 103) (j := 7) (i := a1.toNat) (size := 2) (rows := (a0.ZA.map ZD.row)) (ds := (YQ (nth a0.ZA a1.toNat) (ZQ.mk a0.Next a5 a3 (XM a0.Frame.Zo (Zl.mk a2 (nth a0.ZY J).Zd (ZO a0.Frame.Methods a0.Frame.Now) (Yb (ZO a0.Frame.Methods a0.Frame.Now) a3) 1 a4 0 0 0)).1 (ZU.mk ([(Yu (XM a0.Frame.Zo (Zl.mk a2 (nth a0.ZY J).Zd (ZO a0.Frame.Methods a0.Frame.Now) (Yb (ZO a0.Frame.Methods a0.Frame.Now) a3) 1 a4 0 0 0)).1), (Jf (nth a0.ZY J))] : List ZT) ([] : List ZZ)))).1.row) (L := [(92, 1)]) ?_
  have f := ms f e1
  simp [KM (x := (YQ (nth a0.ZA a1.toNat) (ZQ.mk a0.Next a5 a3 (XM a0.Frame.Zo (Zl.mk a2 (nth a0.ZY J).Zd (ZO a0.Frame.Methods a0.Frame.Now) (Yb (ZO a0.Frame.Methods a0.Frame.Now) a3) 1 a4 0 0 0)).1 (ZU.mk ([(Yu (XM a0.Frame.Zo (Zl.mk a2 (nth a0.ZY J).Zd (ZO a0.Frame.Methods a0.Frame.Now) (Yb (ZO a0.Frame.Methods a0.Frame.Now) a3) 1 a4 0 0 0)).1), (Jf (nth a0.ZY J))] : List ZT) ([] : List ZZ)))).1) rfl, c1, i2, ZE, XF]
  refine rpS ?_
  exact rt [.cell 12 33, .tmp 13] f
 exact rt [.cell 12 33, .tmp 13] (ms f e1)
theorem FN (a0 : ZF) (a1 : Int) (a2 : Int) (a3 : ZN) (a4 : Int) (a5 : Int) (u0 : Sm 2310144 a0) (u1 : Sm 2310144 a3) : Sd 73 [a0.row, rI a1, rI a2, a3.row, rI a4, rI a5] [(JY a0 a1 a2 a3 a4 a5).1.row, rB (JY a0 a1 a2 a3 a4 a5).2] := by
 have f := me (JY.eq_1 a0 a1 a2 a3 a4 a5)
 refine soD func73 ntmps73 ?_
 refine cRs (JS a0.Frame.Zo a2) ?_
 refine dIs mixed ?_
 refine gIf ?_ ?_ <;> intro G
 ·have i1 : (Zt a0.Frame.Zo a2).toNat < a0.Frame.Zo.length := by have := Kw a0.Frame.Zo a2; exact il
  simp [i1, ZE, G]
  refine rpG ?_
  refine cK f ?_ ?_ <;> intro k2 h1 f
  ·refine cDg [false, false, false, true, true, false, false, true, false, false, true, false] (YP a0 zAZ) ?_
   exact yJ _ f
  ·refine cRg (P6 a0 a1 a2 a3 a4 a5 (sg u0) (sg u1)) ?_
   refine cDg [false, false, false, true, true, false, false, true, false, false, true, false] (YP (XJ a0 a1 a2 a3 a4 a5).1 (by first | (exact ZM (n := 2310144) zAE (xs (an u0 u1))) | (exact ZM zAE (zA (n := 2310144) (xs (an u0 u1)) (xs (an u0 u1)) zAE)))) ?_
   exact yJ _ f
 ·refine cK f ?_ ?_ <;> intro k3 h2 f
  ·refine cDg [false, false, false, true, true, false, false, true, false, false, true, false] (YP a0 zAZ) ?_
   exact yJ _ f
  ·simp [G] at h2
theorem R8 (a0 : ZF) (a1 : Int) : Sa 24 [a0.row, rI a1] [rI (ZL a0 a1).1, rI (ZL a0 a1).2] := by
 have f := me (ZL.eq_1 a0 a1)
 refine so func24 ntmps24 ?_
 refine lp1 (qO.eq_2 a0 a1) (fun J => Yq 25 [eI 1 a1, eL 10 2 a0.ZA ZD.row, eI 11 (a0.ZA.length : Int), eI 12 (J : Int)]) (fun n1 J => a0.ZA.length < n1 + J /\ J <= a0.ZA.length) (a0.ZA.length + 1) 0 (fun p1 J e1 j1 => ?_)
 refine cFf e1 ?_ ?_ <;> intro k2 h1 e1
 ·have i1 := ix h1
  have m2 := ml a0.ZA (k2 10 _ rfl)
  have w1 := wr J
  simp [i1, ZE]
  refine rpS ?_
  refine cRs (qz (nth a0.ZA J) a1) ?_
  refine cF e1 ?_ ?_ <;> intro k3 h2 e1
  ·exact rt _ (ms f e1)
  exact ny1 w1 e1
 exact rt _ (ms f e1)
theorem zH (a0 : ZT) : Sa 234 [a0.row] [rI (XC a0)] := by
 have f := me (XC.eq_1 a0)
 refine so func234 ntmps234 ?_
 refine dIs mixed ?_
 refine gIf ?_ ?_ <;> intro G
 ·have i1 := ik 0 a0.Yf
  simp [i1, ZE, G]
  refine rpG ?_
  refine cGg (fun gg => (Zq (nth a0.Yf 0) 101 105)) ?_
  refine gJf G ?_ ?_ <;> intro G
  ·all_goals
    have g2 := G.2; try simp [ZS] at g2
    all_goals
     simp [i1, ZE, G]
     refine rpG ?_
     refine gK (fun _ => ?_)
     have r1 : ∀ i : Nat, i < 5 -> cut [At.d (.int .i64 7), At.d (.int .i64 5), At.d (.int .i64 5), At.d (.int .i64 9), At.d (.int .i64 6)] i 1 = [At.d (.int .i64 (nth ([7, 5, 5, 9, 6] : List Int) i))] := zA1
     have i2 : (W ((nth a0.Yf 0) - 101)).toNat < 5 := by first | omega | ((try simp only [Y9] at *); omega)
     have r1b := r1 _ i2; simp only [cut] at r1b
     simp [r1b]
     refine rpG ?_
     refine cKo f ?_ ?_ <;> intro k2 h1 f
     ·have q1 := h1; try simp [ZS] at q1
      simp
      refine rpG ?_
      exact rtg _ f
     ·have q1 := h1; try simp [ZS] at q1
      simp [i1, ZE]
      refine rpG ?_
      exact rtg _ f
  ·all_goals
    refine sGg ?_
    refine cKo f ?_ ?_ <;> intro k3 h2 f
    ·have q2 := h2; try simp [ZS] at q2
     simp
     refine rpG ?_
     exact rtg _ f
    ·simp [G] at h2
 ·refine sGo ?_
  simp
  refine rpG ?_
  refine gJf G ?_ ?_ <;> intro G
  ·try (simp at G; done)
   all_goals
    have g3 := G.2; try simp [ZS] at g3
    all_goals
     have i5 := ik 0 a0.Yf
     simp [i5, ZE, G]
     refine rpG ?_
     refine gK (fun _ => ?_)
     have r3 : ∀ i : Nat, i < 5 -> cut [At.d (.int .i64 7), At.d (.int .i64 5), At.d (.int .i64 5), At.d (.int .i64 9), At.d (.int .i64 6)] i 1 = [At.d (.int .i64 (nth ([7, 5, 5, 9, 6] : List Int) i))] := zA1
     have i6 : (W ((nth a0.Yf 0) - 101)).toNat < 5 := by first | omega | ((try simp only [Y9, show ∀ x, IntKind.i64.wrap x = W x from fun _ => rfl] at *); omega)
     have r3b := r3 _ i6; simp only [cut] at r3b
     simp [r3 _ i6, r3b, G]
     refine rpG ?_
     refine cKo f ?_ ?_ <;> intro k4 h3 f
     ·simp [G] at h3
     ·simp [G] at h3
  ·all_goals
    refine sGg ?_
    refine cKo f ?_ ?_ <;> intro k5 h4 f
    ·have q4 := h4; try simp [ZS] at q4
     simp
     refine rpG ?_
     exact rtg _ f
    ·simp [G] at h4
theorem UA (a0 : ZT) : Sa 159 [a0.row] [(XO a0).1.row, rB (XO a0).2] := by
 have f := me (XO.eq_1 a0)
 refine so func159 ntmps159 ?_
 refine dIs mixed ?_
 refine cRs (zH a0) ?_
 refine gIf ?_ ?_ <;> intro G
 ·have g1 := G; try simp at g1
  have i1 : 6 < a0.Yf.length := zAV
  simp [i1, ZE, G]
  refine rpG ?_
  refine cK f ?_ ?_ <;> intro k2 h1 f
  ·exact rtg _ f
  ·refine dIo mixed ?_
   have i2 : 1 < a0.Yf.length := zAV
   have i3 : 2 < a0.Yf.length := zAV
   have i4 : 3 < a0.Yf.length := zAV
   have i5 : 4 < a0.Yf.length := zAV
   have i6 : 5 < a0.Yf.length := zAV
   simp [i2, ZE, i3, i4, i5, i6, i1]
   refine rpG ?_
   exact rtg _ f
 ·refine cK f ?_ ?_ <;> intro k4 h2 f
  ·exact rtg _ f
  ·simp [G] at h2
theorem P2 (a0 : List YX) (a1 : Int) : Sa 64 [rL 7 YX.row a0, rI a1] [rI (Xp a0 a1)] := by
 have f := me (Xp.eq_1 a0 a1)
 refine so func64 ntmps64 ?_
 refine lp1 (xJ.eq_2 a0 a1) (fun J => Yq 20 [eI 1 a1, eL 7 7 a0 YX.row, eI 8 (a0.length : Int), eI 9 (J : Int)]) (fun n1 J => a0.length < n1 + J /\ J <= a0.length) (a0.length + 1) 0 (fun p1 J e1 j1 => ?_)
 refine cFf e1 ?_ ?_ <;> intro k2 h1 e1
 ·have i1 := ix h1
  have m2 := ml a0 (k2 7 _ rfl)
  have w1 := wr J
  simp [i1, ZE]
  refine rpS ?_
  refine cF e1 ?_ ?_ <;> intro k3 h2 e1
  ·exact rt _ (ms f e1)
  exact ny1 w1 e1
 exact rt _ (ms f e1)
theorem PI (h : b) (k : a := by (intros; first | omega | with_unfolding_all (first | first | omega | (have fi := QM a0 a1 zAX; omega) | (simp only [Bool.or_eq_false_iff, decide_eq_false_iff_not] at *; omega)) | (simp_all; done) | (simp_all; omega) | grind | ((try simp only [Y9, show ∀ x, IntKind.i64.wrap x = W x from fun _ => rfl] at *); omega))) : a /\ b := ⟨k, h⟩
theorem Lo (a0 : ZF) (a1 : Int) : Sa 81 [a0.row, rI a1] [rI (YI a0 a1).1, rI (YI a0 a1).2.1, rB (YI a0 a1).2.2] := by
 have f := me (YI.eq_1 a0 a1)
 refine so func81 ntmps81 ?_
 refine cRs (R8 a0 a1) ?_
 refine gIo ?_ ?_ <;> intro G
 ·have g1 := G; try simp at g1
  have i1 : (ZL a0 a1).1.toNat < a0.ZA.length := zAg
  simp [i1, ZE, G]
  repeat with_reducible refine PI ?_
  refine gK (fun _ => ?_)
  have i2 : (ZL a0 a1).2.toNat < (nth a0.ZA (ZL a0 a1).1.toNat).ZC.length := zAg
  simp [i2, ZE]
  repeat with_reducible refine PI ?_
  refine cKo f ?_ ?_ <;> intro k1 h1 f
  ·simp
   exact rtg _ f
  ·have i3 : 1 < (nth (nth a0.ZA (ZL a0 a1).1.toNat).ZC (ZL a0 a1).2.toNat).ZK.ZJ.length := zAg
   simp [i1, ZE, i2, i3]
   repeat with_reducible refine PI ?_
   refine cR (UA (nth (nth (nth a0.ZA (ZL a0 a1).1.toNat).ZC (ZL a0 a1).2.toNat).ZK.ZJ 1)) ?_
   simp
   refine cR (P2 a0.ZY (XO (nth (nth (nth a0.ZA (ZL a0 a1).1.toNat).ZC (ZL a0 a1).2.toNat).ZK.ZJ 1)).1.Zd) ?_
   simp
   exact rtg _ f
 ·simp [G]
  refine sGo ?_
  simp
  refine cKo f ?_ ?_ <;> intro k2 h2 f
  ·simp
   exact rtg _ f
  ·simp [G] at h2
theorem Sy (a0 : Zn) : Sd 236 [a0.row] [rL 1 iR (Ju a0)] := by
 have f := me (Ju.eq_1 a0)
 refine soD func236 ntmps236 ?_
 exact rtD [.tmp 2] f
theorem FQ (a0 : Zn) : Sa 237 [a0.row] [rB (kg a0)] := by
 have f := me (kg.eq_1 a0)
 refine so func237 ntmps237 ?_
 refine cRs (Zq a0.Zd 1 999) ?_
 refine cGs (fun gg => (K5 a0.kU)) ?_
 refine cGs (fun gg => (Zq a0.Zx (-1) (W (a0.kU + 1)))) ?_
 refine cGs (fun gg => (Zq a0.Z1 1 99)) ?_
 exact rt _ f
theorem I8 (a0 : List Yw) (a1 : Zn) (u0 : Sm 2318336 a0) : Sa 161 [rL 5 Yw.row a0, a1.row] [(YL a0 a1).1.row, rB (YL a0 a1).2] := by
 have f := me (YL.eq_1 a0 a1)
 refine so func161 ntmps161 ?_
 refine dIs mixed ?_
 refine cRs (YV.rd (Sy a1)) ?_
 refine cRs (Ut a0 a1.Z1 (Ju a1) (sg u0) (by simp (maxDischargeDepth := 12) [Sx]; try omega)) ?_
 refine cRs (FQ a1) ?_
 refine cF f ?_ ?_ <;> intro k2 h1 f
 ·exact rt _ f
 exact rt _ f
theorem Mi (a0 : Zn) : Sd 163 [a0.row] [(XK a0).row] := by
 have f := me (XK.eq_1 a0)
 refine soD func163 ntmps163 ?_
 refine dIs mixed ?_
 refine cDs [false] (Sy a0) ?_
 exact rtD _ f
theorem F5 (a0 : ZU) (a1 : ZT) (u0 : Sm 2326528 a0) (u1 : Sm 2326528 a1) : Sd 238 [a0.row, a1.row] [(JD a0 a1).1.row, rB (JD a0 a1).2] := by
 have f := me (JD.eq_1 a0 a1)
 refine soD func238 ntmps238 ?_
 refine cDs [] (zJ a0 (sg u0)) ?_
 refine drJ [14] mixed ?_
 simp
 refine cDs [true, false] (jN a1 (sg u1)) ?_
 refine kb ?_
 have c1 := sl 2326528 a0.ZJ (an u0 u1)
 simp
 refine W5 (lB := (a0.ZJ.map ZT.row)) (news := (([a1] : List ZT).map ZT.row)) (l1 := [(8, 0)]) (l2 := [(12, 1)]) (size := 3) ?_
 simp
 refine cRs (TX (ZU.mk (a0.ZJ ++ ([a1] : List ZT)) a0.ZP)) ?_
 refine cF f ?_ ?_ <;> intro k2 h1 f
 ·refine cDs [] (zJ a0 (sg u0)) ?_
  exact rtD _ f
 exact rtD _ f
theorem GD (a0 : ZD) (a1 : Int) (a2 : ZT) (u0 : Sm 2318336 a0) (u1 : Sm 2318336 a2) : Sd 162 [a0.row, rI a1, a2.row] [(Xc a0 a1 a2).1.row, rB (Xc a0 a1 a2).2] := by
 have f := me (Xc.eq_1 a0 a1 a2)
 refine soD func162 ntmps162 ?_
 refine cDs [] (Yh a0 (sg u0)) ?_
 refine cRs (qz a0 a1) ?_
 refine cF f ?_ ?_ <;> intro k1 h1 f
 ·exact rtD [.cell 6 73, .tmp 7] f
 refine dIo mixed ?_
 have i1 : (ZW a0 a1).toNat < a0.ZC.length := by have := Ji a0 a1; exact il
 simp [i1, ZE]
 refine rpS ?_
 refine cDf i1 [] (F5 (nth a0.ZC (ZW a0 a1).toNat).ZK a2 (sg (ZQ.Xk (Zp (ZD.Ye u0)))) (sg u1)) ?_
 refine pA (t := 13) (j := 1) (i := (ZW a0 a1).toNat) (c := 14) (size := 16) (rows := (a0.ZC.map ZQ.row)) (ds := (JD (nth a0.ZC (ZW a0 a1).toNat).ZK a2).1.row) (L := [(28, 0), (28, 1)]) rfl rfl rfl rfl zAF zAF (by simp; try omega) zAF zAF zAF zAF zAF zAF ?_
 simp [i1, ZE]
 refine rpS ?_
 exact rtD [.cell 6 73, .tmp 7] f
theorem Td (a0 : ZF) (a1 : Int) (a2 : Int) (a3 : Zn) (u0 : Sm 2314240 a0) (u1 : 0 <= a1 /\ a1 < (a0.ZA.length : Int)) : Sd 83 [a0.row, rI a1, rI a2, a3.row] [(Qb a0 a1 a2 a3).1.row, rB (Qb a0 a1 a2 a3).2] := by
 have f := me (Qb.eq_1 a0 a1 a2 a3)
 refine soD func83 ntmps83 ?_
 refine cRs (I8 a0.Frame.Zo a3 (sg (ZX.XS (ZF.Y7 u0)))) ?_
 refine dIo mixed ?_
 have i1 := ik a1.toNat a0.ZA
 simp [i1, ZE]
 refine rpS ?_
 refine cRs (YV.rd (Mi (YL a0.Frame.Zo a3).1)) ?_
 refine cDs [] (GD (nth a0.ZA a1.toNat) a2 (XK (YL a0.Frame.Zo a3).1) (sg (Zp (ZF.Yn u0))) (by simp (maxDischargeDepth := 12) [Tn, ZM (m := 2318336) zAE u0]; try omega)) ?_
 refine cDs [false, false, false, true, true, false, false, true, false, false, true, false] (YP a0 (sg u0)) ?_
 refine cFt f ?_ ?_ <;> intro k2 h1 f
 ·exact rtD [.cell 8 33, .tmp 9] f
 simp
 refine rpS ?_
 refine ND (t := 36) (j := 7) (i := a1.toNat) (size := 2) (rows := (a0.ZA.map ZD.row)) (ds := (Xc (nth a0.ZA a1.toNat) a2 (XK (YL a0.Frame.Zo a3).1)).1.row) (L := [(32, 1)]) ?_
 simp
 refine rpS ?_
 exact rtD [.cell 8 33, .tmp 9] f
theorem IY (h : b) (k : a := by (intros; first | omega | with_unfolding_all (first | first | omega | (have z := Qd a0 a1 zBo; (try simp at *); omega)) | ((try simp only [Y9, show ∀ x, IntKind.i64.wrap x = W x from fun _ => rfl] at *); omega))) : a /\ b := ⟨k, h⟩
theorem jI (h : b) (k : a := by (intros; first | omega | with_unfolding_all (first | first | omega | (have z := Qd a0 a1 zBo; (try simp at *); omega)) | (simp_all; done) | (simp_all; omega) | grind | ((try simp only [Y9, show ∀ x, IntKind.i64.wrap x = W x from fun _ => rfl] at *); omega))) : a /\ b := ⟨k, h⟩
theorem Iq (a0 : ZF) (a1 : Int) (u0 : Sm 2310144 a0) : Sd 74 [a0.row, rI a1] [(Qy a0 a1).1.row, rB (Qy a0 a1).2] := by
 have f := me (Qy.eq_1 a0 a1)
 refine soD func74 ntmps74 ?_
 refine cRs (Lo a0 a1) ?_
 refine cF f ?_ ?_ <;> intro k1 h1 f
 ·refine cDs [false, false, false, true, true, false, false, true, false, false, true, false] (YP a0 (sg u0)) ?_
  exact rtD _ f
 refine dIo mixed ?_
 have i1 : (YI a0 a1).2.1.toNat < a0.ZY.length := zA8
 simp [i1, ZE]
 repeat with_reducible refine IY ?_
 refine cRs (JS a0.Frame.Zo (nth a0.ZY (YI a0 a1).2.1.toNat).Z1) ?_
 refine dIs mixed ?_
 refine gIo ?_ ?_ <;> intro G
 ·have g1 := G; try simp at g1
  have i2 : (Zt a0.Frame.Zo (nth a0.ZY (YI a0 a1).2.1.toNat).Z1).toNat < a0.Frame.Zo.length := by have := Kw a0.Frame.Zo (nth a0.ZY (YI a0 a1).2.1.toNat).Z1; first | omega | (have z := Qd a0 a1 zBo; (try simp at *); omega)
  simp [i2, ZE, G]
  repeat with_reducible refine jI ?_
  refine cKo f ?_ ?_ <;> intro k4 h2 f
  ·simp
   refine cD [false, false, false, true, true, false, false, true, false, false, true, false] (YP a0 (sg u0)) ?_
   simp
   exact yJ _ f
  ·have i3 : (YI a0 a1).2.1.toNat < a0.Zx.length := zA8
   simp [i3, ZE]
   repeat with_reducible refine jI ?_
   refine cKo f ?_ ?_ <;> intro k5 h3 f
   ·simp
    refine dIo mixed ?_
    simp [i1, ZE]
    repeat with_reducible refine jI ?_
    refine cD [false, false, false, true, true, false, false, true, false, false, true, false] (Td a0 (YI a0 a1).1 a1 (Zn.mk (nth a0.ZY (YI a0 a1).2.1.toNat).Zd a0.Frame.Now (-1) (nth a0.ZY (YI a0 a1).2.1.toNat).Z1 0) (sg u0) zBJ) ?_
    simp
    exact yJ _ f
   ·simp
    refine dIo mixed ?_
    simp [i1, ZE]
    repeat with_reducible refine jI ?_
    refine cD [false, false, false, true, true, false, false, true, false, false, true, false] (Td a0 (YI a0 a1).1 a1 (Zn.mk (nth a0.ZY (YI a0 a1).2.1.toNat).Zd a0.Frame.Now (nth a0.Zx (YI a0 a1).2.1.toNat) (nth a0.ZY (YI a0 a1).2.1.toNat).Z1 0) (sg u0) zBJ) ?_
    simp
    exact yJ _ f
 ·simp [G]
  refine cKo f ?_ ?_ <;> intro k8 h4 f
  ·simp
   refine cD [false, false, false, true, true, false, false, true, false, false, true, false] (YP a0 (sg u0)) ?_
   simp
   exact yJ _ f
  ·simp [G] at h4
theorem It (a0 : ZF) (a1 : Int) (u0 : Sm 2314240 a0) : Sd 75 [a0.row, rI a1] [(QJ a0 a1).1.row, rB (QJ a0 a1).2] := by
 have f := me (QJ.eq_1 a0 a1)
 refine soD func75 ntmps75 ?_
 refine cDs [false, false, false, true, true, false, false, true, false, false, true, false] (YP a0 (sg u0)) ?_
 refine cRs (Zq a1 0 (W ((a0.Zx.length : Int) - 1))) ?_
 refine gIf ?_ ?_ <;> intro G
 ·have c1 := sl 2314240 a0.Zx u0
  have w1 : IntKind.i64.wrap ((a0.Zx.length : Int) - 1) = (a0.Zx.length : Int) - 1 := YN zAA zAA
  have g1 := G; try simp [ZS, w1] at g1
  have i1 := ik a1.toNat a0.Zx
  simp [i1, ZE, G]
  refine rpG ?_
  refine cKo f ?_ ?_ <;> intro k1 h1 f
  ·have q1 := h1; try simp [ZS, w1] at q1
   simp
   refine rpG ?_
   exact yJ _ f
  ·have q1 := h1; try simp [ZS, w1] at q1
   simp [i1, ZE]
   refine rpG ?_
   refine ID (rv := [.cell 4 33, .tmp 5]) rfl ?_
   simp [f.h]
   all_goals (repeat' (first | exact Hu zAF zAF | refine And.intro ?_ ?_))
 ·have c2 := sl 2314240 a0.Zx u0
  refine cKo f ?_ ?_ <;> intro k2 h2 f
  ·have q2 := h2; try simp [ZS, w2] at q2
   simp
   refine rpG ?_
   exact yJ _ f
  ·simp [G] at h2
theorem UF (a0 : List Int) : Sa 62 [rL 1 iR a0] [rB (QV a0)] := by
 have f := me (QV.eq_1 a0)
 refine so func62 ntmps62 ?_
 refine lp1 (qv.eq_2 a0) (fun J => Yq 20 [eL 0 1 a0 iR, eI 3 (J : Int)]) (fun n1 J => a0.length < n1 + J /\ 1 <= J) (a0.length + 1) 1 (fun p1 J e1 j1 => ?_)
 refine cF e1 ?_ ?_ <;> intro k2 h1 e1
 ·have i1 := ix h1
  have m2 := ml a0 (k2 0 _ rfl)
  have w1 := wr J
  refine dIo mixed ?_
  have i2 := ik (J - 1) a0
  have w2 : IntKind.i64.wrap ((J : Int) - 1) = (J : Int) - 1 := YN zAA zAA
  simp [i2, ZE, w2, i1]
  refine rpS ?_
  refine cF e1 ?_ ?_ <;> intro k4 h2 e1
  ·exact rt _ (ms f e1)
  exact ny1 (an w1 w2) e1
 exact rt _ (ms f e1)
theorem UQ (a0 : Zj) : Sd 170 [a0.row] [rL 1 iR (Jc a0)] := by
 have f := me (Jc.eq_1 a0)
 refine soD func170 ntmps170 ?_
 exact rtD [.tmp 2] f
theorem jS (a0 : Int) (a1 : ZZ) (u0 : Sm 2326528 a1) : Sa 167 [rI a0, a1.row] [rI (JU a0 a1)] := by
 have f := me (JU.eq_1 a0 a1)
 refine so func167 ntmps167 ?_
 refine lp2 (Ki.eq_2 a1) (fun J U => Yq 59 [eI 0 a0, eX 3 (a1.row.map .d), (5, .one (.sref 5 0 0 J.length), [.arr false 1 (J.map iR)]), eL 19 2 a1.Path Xx.row, eI 20 (a1.Path.length : Int), eI 21 (U : Int)]) (fun n1 J U => a1.Path.length < n1 + U /\ U <= a1.Path.length /\ J.length <= 4 + 2 * U) (a1.Path.length + 1) ([4, a1.Count, a1.Method, a1.BE] : List Int) 0 (fun p1 J U e1 j1 => ?_) (h0 := wkS [((5, 0), some (17, 0))] [])
 refine cFo e1 ?_ ?_ <;> intro k2 h1 e1
 ·have q1 := h1; try simp at q1
  have i1 := ix h1
  have m2 := ml a1.Path (k2 19 _ rfl)
  have c1 := sl 2326528 a1.Path u0
  have w1 := wr U
  simp [i1, ZE]
  refine rpS ?_
  refine cFo e1 ?_ ?_ <;> intro k3 h2 e1
  ·have q2 := h2; try simp at q2
   simp
   refine rpS ?_
   exact nx2 e1 (hw := XI [((5, 0), some (32, 0))] [] rfl zAb)
  have q2 := h2; try simp at q2
  simp
  refine rpS ?_
  exact nx2 e1 (hw := XI [((5, 0), some (32, 0))] [] rfl zAb)
 have q1 := h1; try simp at q1
 have c2 := sl 2326528 a1.Path u0
 have f := ms f e1
 simp
 refine rpS ?_
 refine lp2 (zp.eq_2 a1) (fun m0 m9 => Yq 59 [eI 0 a0, (5, .one (.sref 5 0 0 m0.length), [.arr false 1 (m0.map iR)]), eL 41 5 a1.YH Zj.row, eI 42 (a1.YH.length : Int), eI 43 (m9 : Int)]) (fun n2 m0 m9 => a1.YH.length < n2 + m9 /\ m9 <= a1.YH.length /\ m0.length <= 5 + 2 * 2326528 + 6 * m9) (a1.YH.length + 1) (J ++ ([(a1.YH.length : Int)] : List Int)) 0 (fun p2 m0 m9 e2 j2 => ?_) (hI := by (have o : a1.Path.length <= 2326528 := YS (xs u0); simp at *; omega)) (h0 := wkS [((5, 0), some (39, 0))] [])
 refine cFo e2 ?_ ?_ <;> intro k5 h3 e2
 ·have q3 := h3; try simp at q3
  have i2 := ix h3
  have m4 := ml a1.YH (k5 41 _ rfl)
  have c3 := sl 2326528 a1.YH u0
  have w2 := wr m9
  simp [i2, ZE]
  refine rpS ?_
  refine dIs mixed ?_
  refine cRs (YV.rd (UQ (nth a1.YH m9))) ?_
  exact nx2 e2 (hI := by (simp; omega)) (hw := XI [((5, 0), some (54, 0))] [] rfl (by simp [w2]))
 have q3 := h3; try simp at q3
 have c4 := sl 2326528 a1.YH u0
 have f := ms f e2
 simp
 refine cRs (KE a0 m0 zAK) ?_
 exact rt [.tmp 4] f
theorem Ub (a0 : Int) (a1 : List ZT) (u0 : Sm 2326528 a1) : Sa 253 [rI a0, rL 3 ZT.row a1] [rI (KX a0 a1)] := by
 have f := me (KX.eq_1 a0 a1)
 refine so func253 ntmps253 ?_
 refine lp2 (yl.eq_2 a0 a1) (fun J U => Yq 32 [eI 0 a0, (5, .one (.sref 5 0 0 J.length), [.arr false 1 (J.map iR)]), eL 9 3 a1 ZT.row, eI 10 (a1.length : Int), eI 11 (U : Int)]) (fun n1 J U => a1.length < n1 + U /\ U <= a1.length /\ J.length <= 1 + 1 * U) (a1.length + 1) ([2] : List Int) 0 (fun p1 J U e1 j1 => ?_) (h0 := wkS [((5, 0), some (8, 0))] [])
 refine cFf e1 ?_ ?_ <;> intro k2 h1 e1
 ·have i1 := ix h1
  have m2 := ml a1 (k2 9 _ rfl)
  have c1 := sl 2326528 a1 u0
  have w1 := wr U
  have c2 := sl 2326528 (nth a1 U).Yf u0
  simp [i1, ZE]
  refine rpS ?_
  refine cRs (KE a0 (([(nth a1 U).Key, (nth a1 U).Mark] : List Int) ++ (nth a1 U).Yf) zAo) ?_
  exact nx2 e1 (hw := XI [((5, 0), some (27, 0))] [] rfl zAb)
 have c3 := sl 2326528 a1 u0
 have f := ms f e1
 refine cRs (KE a0 J zAK) ?_
 exact rt [.tmp 4] f
theorem U5 (a0 : Int) (a1 : Int) (a2 : List ZT) (a3 : Int) (u0 : Sm 2322432 a2) : Sa 168 [rI a0, rI a1, rL 3 ZT.row a2, rI a3] [rI (WX a0 a1 a2 a3)] := by
 have f := me (WX.eq_1 a0 a1 a2 a3)
 refine so func168 ntmps168 ?_
 refine cRs (Ub a0 a2 (sg u0)) ?_
 refine cRs (KE a0 ([3, a1, (KX a0 a2), a3] : List Int) zAo) ?_
 exact rt _ f
theorem NZ (a0 : ZQ) (a1 : Int) (u0 : Sm 2318336 a0) : Sa 89 [a0.row, rI a1] [rI (Qx a0 a1)] := by
 have f := me (Qx.eq_1 a0 a1)
 refine so func89 ntmps89 ?_
 refine cFf f ?_ ?_ <;> intro k1 h1 f
 ·have i1 := ik (a0.ZK.ZP.length - 1) a0.ZK.ZP
  have m1 := ml a0.ZK.ZP (k1 9 _ rfl)
  have w1 : IntKind.i64.wrap ((a0.ZK.ZP.length : Int) - 1) = (a0.ZK.ZP.length : Int) - 1 := YN zAA zAA
  simp [i1, ZE, w1]
  refine rpS ?_
  refine cRs (jS a1 (nth a0.ZK.ZP (a0.ZK.ZP.length - 1)) (sg (Zp (ZU.zo (ZQ.Xk u0))))) ?_
  refine dIs mixed ?_
  refine cRs (yU a1 a0.Doc (sg (ZQ.qp u0))) ?_
  refine cRs (U5 a1 (Yb a1 a0.Doc) a0.ZK.ZJ (JU a1 (nth a0.ZK.ZP (a0.ZK.ZP.length - 1))) (sg (ZU.QC (ZQ.Xk u0)))) ?_
  exact rt _ f
 refine dIs mixed ?_
 refine cRs (yU a1 a0.Doc (sg (ZQ.qp u0))) ?_
 refine cRs (U5 a1 (Yb a1 a0.Doc) a0.ZK.ZJ 0 (sg (ZU.QC (ZQ.Xk u0)))) ?_
 exact rt _ f
theorem R0 (a0 : ZD) (a1 : Int) (u0 : Sm 2314240 a0) : Sd 126 [a0.row, rI a1] [rL 1 iR (Xf a0 a1)] := by
 have f := me (Xf.eq_1 a0 a1)
 refine soD func126 ntmps126 ?_
 refine lp2 (xi.eq_2 a0 a1) (fun J U => Yq 23 [eI 1 a1, (5, .one (.sref 5 0 0 J.length), [.arr false 1 (J.map iR)]), eL 9 16 a0.ZC ZQ.row, eI 10 (a0.ZC.length : Int), eI 11 (U : Int)]) (fun n1 J U => a0.ZC.length < n1 + U /\ U <= a0.ZC.length /\ J.length <= 0 + 1 * U) (a0.ZC.length + 1) ([] : List Int) 0 (fun p1 J U e1 j1 => ?_) (h0 := wkS [((5, 0), none)] [])
 refine cFf e1 ?_ ?_ <;> intro k2 h1 e1
 ·have i1 := ix h1
  have m2 := ml a0.ZC (k2 9 _ rfl)
  have c1 := sl 2314240 a0.ZC u0
  have w1 := wr U
  simp [i1, ZE]
  refine rpS ?_
  refine cRs (NZ (nth a0.ZC U) a1 (sg (Zp (ZD.Ye u0)))) ?_
  exact nx2 e1 (hw := XI [((5, 0), some (20, 0))] [] rfl zAb)
 exact rtD [.tmp 4] (ms f e1)
theorem W7 (a0 : Int) (a1 : Int) (a2 : Int) : Sa 259 [rI a0, rI a1, rI a2] [rI (xF a0 a1 a2)] := by
 have f := me (xF.eq_1 a0 a1 a2)
 refine so func259 ntmps259 ?_
 refine cRs (KE a0 ([1, a1, a2] : List Int) (by simp (maxDischargeDepth := 12) [kl, XD]; try omega)) ?_
 exact rt [.tmp 6] f
theorem jJ (a0 : Int) (a1 : List Int) (u0 : Sm 2322432 a1) : Sd 206 [rI a0, rL 1 iR a1] [rL 1 iR (KL a0 a1)] := by
 have f := me (KL.eq_1 a0 a1)
 refine soD func206 ntmps206 ?_
 refine lp2 (KQ.eq_2 a0 a1) (fun J U => Yq 40 [eI 0 a0, eL 1 1 a1 iR, (5, .one (.sref 5 0 0 J.length), [.arr false 1 (J.map iR)]), eI 6 (U : Int)]) (fun n1 J U => a1.length < n1 + U /\ U <= a1.length + 1 /\ J.length <= U) (a1.length + 1) ([] : List Int) 0 (fun p1 J U e1 j1 => ?_) (h0 := wkS [((5, 0), none)] [])
 refine cF e1 ?_ ?_ <;> intro k2 h1 e1
 ·have i1 := ix h1
  have m2 := ml a1 (k2 1 _ rfl)
  have c1 := sl 2322432 a1 u0
  have w1 := wr U
  refine cFt e1 ?_ ?_ <;> intro k3 h2 e1
  ·refine okD fun k4 => ?_
   refine dIo mixed ?_
   have i2 := ik (W ((U : Int) + 1)).toNat a1
   simp [i1, ZE, i2]
   refine rpS ?_
   refine cRs (W7 a0 (nth a1 U) (nth a1 (W ((U : Int) + 1)).toNat)) ?_ (lN := by first | (simp; done) | (simp [W, w1]; done))
   have w2 : IntKind.i64.wrap ((U : Int) + 2) = (U : Int) + 2 := YN zAA zAA
   exact nx2 e1 (hI := by first | omega | (simp at *; omega)) (hw := XI [((5, 0), some (31, 0))] [] rfl zBv)
  simp [i1, ZE]
  refine rpS ?_
  have w3 : IntKind.i64.wrap ((U : Int) + 2) = (U : Int) + 2 := YN zAA zAA
  exact nx2 e1 (hI := by first | omega | (simp at *; omega)) (hw := XI [((5, 0), some (38, 0))] [] rfl (by simp [w1, w3]))
 exact rtD [.tmp 4] (ms f e1)
theorem P0 (a0 : Int) (a1 : List Int) (u0 : Sm 2318336 a1) : Sa 201 [rI a0, rL 1 iR a1] [rI (jO a0 a1)] := by
 have f := me (jO.eq_1 a0 a1)
 refine so func201 ntmps201 ?_
 refine cRs (Zq (a1.length : Int) 1 16) ?_
 refine cFo f ?_ ?_ <;> intro k1 h1 f
 ·have q1 := h1; try simp [ZS] at q1
  simp
  exact rt _ f
 have q1 := h1; try simp [ZS] at q1
 simp
 refine lp1 (kA.eq_2 a0) (fun J => Yq 18 [eI 0 a0, eL 1 1 J iR]) (fun n1 J => J.length < n1 /\ 1 <= J.length /\ J.length <= 16) (a1.length + 1) a1 (fun p1 J e1 j1 => ?_) (hI := by first | omega | (simp at *; omega))
 refine cFt e1 ?_ ?_ <;> intro k3 h2 e1
 ·refine cRs (YV.rd (jJ a0 J zAP)) ?_
  exact nx1 e1 (hI := by (have z := qh a0 J zAA; (try dsimp only); simp at *; omega))
 have f := ms f e1
 have i1 := ik 0 J
 simp [i1, ZE]
 refine rpS ?_
 exact rt _ f
theorem NS (a0 : ZD) (a1 : Int) (u0 : Sm 2310144 a0) : Sa 113 [a0.row, rI a1] [rI (QH a0 a1)] := by
 have f := me (QH.eq_1 a0 a1)
 refine so func113 ntmps113 ?_
 refine cRs (YV.rd (R0 a0 a1 (sg u0))) ?_
 refine cRs (P0 a1 (Xf a0 a1) (by simp (maxDischargeDepth := 12) [UC, ZM (m := 2318336) zAE u0]; try omega)) ?_
 exact rt _ f
theorem zQ (a0 : List Zf) (a1 : Int) : Sa 67 [rL 3 Zf.row a0, rI a1] [rI (ZV a0 a1)] := by
 have f := me (ZV.eq_1 a0 a1)
 refine so func67 ntmps67 ?_
 refine lp1 (Jq.eq_2 a0 a1) (fun J => Yq 20 [eI 1 a1, eL 7 3 a0 Zf.row, eI 8 (a0.length : Int), eI 9 (J : Int)]) (fun n1 J => a0.length < n1 + J /\ J <= a0.length) (a0.length + 1) 0 (fun p1 J e1 j1 => ?_)
 refine cFf e1 ?_ ?_ <;> intro k2 h1 e1
 ·have i1 := ix h1
  have m2 := ml a0 (k2 7 _ rfl)
  have w1 := wr J
  simp [i1, ZE]
  refine rpS ?_
  refine cF e1 ?_ ?_ <;> intro k3 h2 e1
  ·exact rt _ (ms f e1)
  exact ny1 w1 e1
 exact rt _ (ms f e1)
theorem CG (a0 : List Int) (a1 : Int) : Sa 152 [rL 1 iR a0, rI a1] [rI (PR a0 a1)] := by
 have f := me (PR.eq_1 a0 a1)
 refine so func152 ntmps152 ?_
 refine lp1 (Ug.eq_2 a0 a1) (fun J => Yq 19 [eI 1 a1, eL 7 1 a0 iR, eI 8 (a0.length : Int), eI 9 (J : Int)]) (fun n1 J => a0.length < n1 + J /\ J <= a0.length) (a0.length + 1) 0 (fun p1 J e1 j1 => ?_)
 refine cFf e1 ?_ ?_ <;> intro k2 h1 e1
 ·have i1 := ix h1
  have m2 := ml a0 (k2 7 _ rfl)
  have w1 := wr J
  simp [i1, ZE]
  refine rpS ?_
  refine cF e1 ?_ ?_ <;> intro k3 h2 e1
  ·exact rt _ (ms f e1)
  exact ny1 w1 e1
 exact rt _ (ms f e1)
theorem Wq (a0 : List Int) (a1 : Int) : Sa 66 [rL 1 iR a0, rI a1] [rB (QG a0 a1)] := by
 have f := me (QG.eq_1 a0 a1)
 refine so func66 ntmps66 ?_
 refine cRs (CG a0 a1) ?_
 exact rt [.tmp 4] f
theorem j9 (a0 : List Yw) (a1 : List Zf) (a2 : Zj) (u0 : Sm 2318336 a0) (u1 : Sm 2318336 a1) : Sa 90 [rL 5 Yw.row a0, rL 3 Zf.row a1, a2.row] [(Xb a0 a1 a2).1.row, rB (Xb a0 a1 a2).2] := by
 have f := me (Xb.eq_1 a0 a1 a2)
 refine so func90 ntmps90 ?_
 refine cRs (zQ a1 a2.Authority) ?_
 refine cGs (fun gg => (K5 a2.Time)) ?_
 refine cF f ?_ ?_ <;> intro k1 h1 f
 ·exact rt _ f
 refine dIo mixed ?_
 have i1 : (ZV a1 a2.Authority).toNat < a1.length := by have := Qi a1 a2.Authority; exact il
 simp [i1, ZE]
 refine rpS ?_
 refine cRs (YV.rd (UQ a2)) ?_
 refine cRs (Ut a0 (nth a1 (ZV a1 a2.Authority).toNat).Key (Jc a2) (sg u0) (by simp (maxDischargeDepth := 12) [Hy]; try omega)) ?_
 refine cF f ?_ ?_ <;> intro k3 h2 f
 ·exact rt _ f
 exact rt _ f
theorem P9 (h : b) (k : a := by (intros; first | omega | with_unfolding_all (first | first | omega | (have tm := Int.tmod_eq_emod_of_nonneg (b := 2) (show 0 <= U by omega); (try simp only [Y9, show ∀ x, IntKind.i64.wrap x = W x from fun _ => rfl] at *); (try simp at *); omega)) | ((try simp only [Y9, show ∀ x, IntKind.i64.wrap x = W x from fun _ => rfl] at *); omega))) : a /\ b := ⟨k, h⟩
theorem EN (a0 : Int) (a1 : List Int) (a2 : Int) (u0 : Sm 2318336 a1) : Sd 127 [rI a0, rL 1 iR a1, rI a2] [rL 2 Xx.row (JC a0 a1 a2)] := by
 have f := me (JC.eq_1 a0 a1 a2)
 refine soD func127 ntmps127 ?_
 refine cRs (Zq a2 0 (W ((a1.length : Int) - 1))) ?_
 have c1 := sl 2318336 a1 u0
 have w1 : IntKind.i64.wrap ((a1.length : Int) - 1) = (a1.length : Int) - 1 := YN zAA zAA
 refine cFo f ?_ ?_ <;> intro k1 h1 f
 ·have q1 := h1; try simp [ZS, w1] at q1
  simp
  exact rtD [.tmp 6] f
 have q1 := h1; try simp [ZS, w1] at q1
 simp
 refine lp3 (Kt.eq_2 a0) (fun J U mz => Yq 54 [eI 0 a0, eL 1 1 J iR, eI 2 U, (7, .one (.sref 7 0 0 mz.length), [.arr false 2 (mz.map Xx.row)])]) (fun n1 J U mz => J.length < n1 /\ 0 <= U /\ U < (J.length : Int) /\ J.length <= 16 /\ mz.length + n1 <= 17) (a1.length + 1) a1 a2 ([] : List Xx) (fun p1 J U mz e1 j1 => ?_) (hI := by first | omega | (simp at *; omega)) (h0 := wkS [((7, 0), none)] [])
 refine cF e1 ?_ ?_ <;> intro k3 h2 e1
 ·refine cFf e1 ?_ ?_ <;> intro k4 h3 e1
  ·have i1 : (W (U - 1)).toNat < J.length := zAm
   simp [i1, ZE]
   repeat with_reducible refine P9 ?_
   refine cRs (YV.rd (jJ a0 J zAP)) ?_
   exact nx3 e1 (hI := by (have z := qh a0 J zAA; have td := Int.tdiv_eq_ediv_of_nonneg (b := 2) (show 0 <= U by omega); have w2 : W (Int.tdiv U 2) = Int.tdiv U 2 := YN zAA zAA; (try dsimp only); rw [w2]; simp at *; omega)) (hw := XI [((7, 0), some (33, 0))] [] rfl zAb)
  refine cFo e1 ?_ ?_ <;> intro k5 h4 e1
  ·have q4 := h4; try simp [w1] at q4
   have i2 : (W (U + 1)).toNat < J.length := zAm
   simp [i2, ZE]
   repeat with_reducible refine P9 ?_
   refine cRs (YV.rd (jJ a0 J zAP)) ?_
   exact nx3 e1 (hI := by (have z := qh a0 J zAA; have td := Int.tdiv_eq_ediv_of_nonneg (b := 2) (show 0 <= U by omega); have w2 : W (Int.tdiv U 2) = Int.tdiv U 2 := YN zAA zAA; (try dsimp only); rw [w2]; simp at *; omega)) (hw := XI [((7, 0), some (47, 0))] [] rfl zAb)
  have q4 := h4; try simp [w1] at q4
  simp
  refine cRs (YV.rd (jJ a0 J zAP)) ?_
  exact ny3 w1 e1 (hI := by (have z := qh a0 J zAA; have td := Int.tdiv_eq_ediv_of_nonneg (b := 2) (show 0 <= U by omega); have w2 : W (Int.tdiv U 2) = Int.tdiv U 2 := YN zAA zAA; (try dsimp only); rw [w2]; simp at *; omega))
 exact rtD [.tmp 6] (ms f e1)
theorem Sj (a0 : ZU) (a1 : ZZ) (u0 : Sm 2326528 a0) (u1 : Sm 2326528 a1) : Sd 91 [a0.row, a1.row] [(Yz a0 a1).1.row, rB (Yz a0 a1).2] := by
 have f := me (Yz.eq_1 a0 a1)
 refine soD func91 ntmps91 ?_
 refine cDs [] (zJ a0 (sg u0)) ?_
 refine drJ [14] mixed ?_
 simp
 refine cDs [true, true, true, false, false] (Uv a1 (sg u1)) ?_
 refine kb ?_
 have c1 := sl 2326528 a0.ZP (an u0 u1)
 simp
 refine W5 (lB := (a0.ZP.map ZZ.row)) (news := (([a1] : List ZZ).map ZZ.row)) (l1 := [(8, 1)]) (l2 := [(12, 3), (12, 4)]) (size := 5) ?_
 simp
 refine cRs (TX (ZU.mk a0.ZJ (a0.ZP ++ ([a1] : List ZZ)))) ?_
 refine cF f ?_ ?_ <;> intro k2 h1 f
 ·refine cDs [] (zJ a0 (sg u0)) ?_
  exact rtD _ f
 exact rtD _ f
theorem MV (a0 : ZD) (a1 : Int) (a2 : List Zj) (u0 : Sm 2306048 a0) (u1 : Sm 2306048 a2) : Sd 47 [a0.row, rI a1, rL 5 Zj.row a2] [(XB a0 a1 a2).1.row, rB (XB a0 a1 a2).2] := by
 have f := me (XB.eq_1 a0 a1 a2)
 refine soD func47 ntmps47 ?_
 refine cGs (fun gg => (yn a0)) ?_
 refine cF f ?_ ?_ <;> intro k1 h1 f
 ·refine cDs [] (Yh a0 (sg u0)) ?_
  exact rtD [.cell 6 73, .tmp 7] f
 refine cDs [] (Yh a0 (sg u0)) ?_
 refine cRs (YV.rd (R0 a0 a1 (sg u0))) ?_
 refine lp2 (Xr.eq_2 a0 a1 a2) (fun J U => Yq 75 [eI 1 a1, eL 2 5 a2 Zj.row, eX 3 (a0.row.map .d), (6, .one (.bptr 6 0), [.box [.d (.int .i64 0), .nil 16]]), (8, .one (.bptr 8 0), [.box [.d (.int .i64 a0.Id), .sref 26 1 0 U.length]]), eL 9 1 (Xf a0 a1) iR, (26, .any, [.none, .arr true 16 (U.map ZQ.row)]), eL 31 16 a0.ZC ZQ.row, eI 32 (a0.ZC.length : Int), eI 33 (J : Int)]) (fun n1 J U => a0.ZC.length < n1 + J /\ J <= a0.ZC.length /\ U.length = a0.ZC.length) (a0.ZC.length + 1) 0 a0.ZC (fun p1 J U e1 j1 => ?_)
 refine cFf e1 ?_ ?_ <;> intro k3 h2 e1
 ·have i1 := ix h2
  have m2 := ml a0.ZC (k3 31 _ rfl)
  have c1 := sl 2306048 a0.ZC (an u0 u1)
  have w1 := wr J
  simp [i1, ZE]
  refine rpS ?_
  refine dIs mixed ?_
  refine cRs (NS a0 a1 (sg u0)) ?_
  refine cRs (YV.rd (EN a1 (Xf a0 a1) (J : Int) (by simp (maxDischargeDepth := 12) [UC, ZM (m := 2318336) zAE u0, ZM (m := 2318336) zAE u1]; try omega))) ?_
  refine cDs [] (Sj (nth a0.ZC J).ZK (ZZ.mk ((nth a0.ZC J).ZK.ZJ.length : Int) a1 (QH a0 a1) (JC a1 (Xf a0 a1) (J : Int)) a2) (sg (ZQ.Xk (Zp (ZD.Ye u0)))) (by simp (maxDischargeDepth := 12) [Pu, UC, ZM (m := 2326528) zAE u0, ZM (m := 2326528) zAE u1]; try omega)) ?_
  refine cFt e1 ?_ ?_ <;> intro k5 h3 e1
  ·refine cDs [] (Yh a0 (sg u0)) ?_
   exact rtD [.cell 6 73, .tmp 7] (ms f e1)
  have i2 := ik J U
  simp [i2, ZE]
  refine rpS ?_
  refine pA (t := 26) (j := 1) (i := J) (c := 14) (size := 16) (rows := (U.map ZQ.row)) (ds := (Yz (nth a0.ZC J).ZK (ZZ.mk ((nth a0.ZC J).ZK.ZJ.length : Int) a1 (QH a0 a1) (JC a1 (Xf a0 a1) (J : Int)) a2)).1.row) (L := [(55, 0), (55, 1)]) rfl rfl rfl rfl zAF zAF (by simp; try omega) zAF zAF zAF zAF zAF zAF ?_
  simp [KM (x := (ZQ.mk (nth U J).Id (nth U J).Y8 (nth U J).Doc (nth U J).Sig (Yz (nth a0.ZC J).ZK (ZZ.mk ((nth a0.ZC J).ZK.ZJ.length : Int) a1 (QH a0 a1) (JC a1 (Xf a0 a1) (J : Int)) a2)).1)) rfl, i2, ZE, XF]
  refine rpS ?_
  exact ny2 w1 e1
 have f := ms f e1
 refine cRs (yn (ZD.mk a0.Id U)) ?_
 refine cF f ?_ ?_ <;> intro k6 h4 f
 ·refine cDs [] (Yh a0 (sg u0)) ?_
  exact rtD [.cell 6 73, .tmp 7] f
 exact rtD [.cell 6 73, .tmp 7] f
theorem RV (a0 : ZF) (a1 : Int) (a2 : List Int) (a3 : Int) (u0 : Sm 2301952 a0) (u1 : Sm 2301952 a2) : Sd 38 [a0.row, rI a1, rL 1 iR a2, rI a3] [(Ym a0 a1 a2 a3).1.row, rB (Ym a0 a1 a2 a3).2] := by
 have f := me (Ym.eq_1 a0 a1 a2 a3)
 refine soD func38 ntmps38 ?_
 refine cDs [false, false, false, true, true, false, false, true, false, false, true, false] (YP a0 (sg u0)) ?_
 refine cRs (jG a0.Frame.Methods a0.Frame.Now) ?_
 refine cRs (yk a0 a1) ?_
 refine cGs (fun gg => (UF a2)) ?_
 refine cGs (fun gg => (Zq a3 (-10000) 10000)) ?_
 have c1 := sl 2301952 a0.ZA (an u0 u1)
 have w1 : IntKind.i64.wrap ((a0.ZA.length : Int) - 1) = (a0.ZA.length : Int) - 1 := YN zAA zAA
 refine cFo f ?_ ?_ <;> intro k1 h1 f
 ·have q1 := h1; try simp [ZS, w1, YC] at q1
  simp
  exact rtD [.cell 8 33, .tmp 9] f
 have q1 := h1; try simp [ZS, w1, YC] at q1
 have i1 := ik a1.toNat a0.ZA
 simp [i1, ZE]
 refine rpS ?_
 refine cRs (NS (nth a0.ZA a1.toNat) (ZO a0.Frame.Methods a0.Frame.Now) (sg (Zp (ZF.Yn u0)))) ?_
 refine lp3 (XY.eq_2 a0 a1 a2 a3) (fun J U mz => Yq 175 [eI 1 a1, eI 3 a3, eX 4 (a0.row.map .d), (8, .one (.bptr 8 0), [.box [.nil 5, .nil 3, .nil 4, .d (.int .i64 0), .d (.int .i64 0), .nil 7, .nil 1, .nil 2, .nil 1, .nil 1, .d (.int .i64 0), .nil 1]]), eX 10 (a0.Frame.row.map .d), (11, .one (.bptr 11 0), [.box [.sref 27 0 0 a0.Frame.Zo.length, .sref 27 1 0 a0.Frame.ZB.length, .sref 27 2 0 a0.Frame.Methods.length, .d (.int .i64 a0.Frame.XT), .d (.int .i64 a0.Frame.Now), .sref 27 5 0 a0.ZY.length, .sref 27 6 0 a0.Zx.length, .sref 27 7 0 a0.ZA.length, .sref 27 8 0 mz.length, .sref 27 9 0 a0.YO.length, .d (.int .i64 a0.Next), .sref 27 11 0 a0.YE.length]]), eI 12 (ZO a0.Frame.Methods a0.Frame.Now), eI 13 (QH (nth a0.ZA a1.toNat) (ZO a0.Frame.Methods a0.Frame.Now)), (14, .one (.sref 14 0 0 J.length), [.arr false 5 (J.map Zj.row)]), (27, .any, [.arr false 5 (a0.Frame.Zo.map Yw.row), .arr false 3 (a0.Frame.ZB.map Zf.row), .arr false 4 (a0.Frame.Methods.map Z8.row), .none, .none, .arr false 7 (a0.ZY.map YX.row), .arr false 1 (a0.Zx.map iR), .arr true 2 (a0.ZA.map ZD.row), .arr false 1 (mz.map iR), .arr false 1 (a0.YO.map iR), .none, .arr false 1 (a0.YE.map iR)]), eL 64 1 a2 iR, eI 65 (a2.length : Int), eI 66 (U : Int)]) (fun n1 J U mz => a2.length < n1 + U /\ U <= a2.length /\ J.length <= 0 + 1 * U /\ mz.length = a0.Yt.length) (a2.length + 1) ([] : List Zj) 0 a0.Yt (fun p1 J U mz e1 j1 => ?_) (h0 := wkS [((14, 0), none)] [])
 refine cFo e1 ?_ ?_ <;> intro k3 h2 e1
 ·have i2 := ix h2
  have m2 := ml a2 (k3 64 _ rfl)
  have c2 := sl 2301952 a2 (an u0 u1)
  have w2 := wr U
  simp [i2, ZE]
  refine rpS ?_
  refine cRs (zQ a0.Frame.ZB (nth a2 U)) ?_
  refine cF e1 ?_ ?_ <;> intro k4 h3 e1
  ·refine cDs [false, false, false, true, true, false, false, true, false, false, true, false] (YP a0 (sg u0)) ?_
   exact rtD [.cell 8 33, .tmp 9] (ms f e1)
  refine dIo mixed ?_
  have i3 : (ZV a0.Frame.ZB (nth a2 U)).toNat < a0.Frame.ZB.length := zBA
  simp [i3, ZE]
  refine rpS ?_
  refine cRs (JS a0.Frame.Zo (nth a0.Frame.ZB (ZV a0.Frame.ZB (nth a2 U)).toNat).Key) ?_
  refine dIs mixed ?_
  refine gIf ?_ ?_ <;> intro G
  ·have i4 : (Zt a0.Frame.Zo (nth a0.Frame.ZB (ZV a0.Frame.ZB (nth a2 U)).toNat).Key).toNat < a0.Frame.Zo.length := by have := Kw a0.Frame.Zo (nth a0.Frame.ZB (ZV a0.Frame.ZB (nth a2 U)).toNat).Key; exact il
   simp [i4, ZE, G]
   refine rpG ?_
   refine cK e1 ?_ ?_ <;> intro k7 h4 e1
   ·refine cDg [false, false, false, true, true, false, false, true, false, false, true, false] (YP a0 (sg u0)) ?_
    exact yJ [.cell 8 33, .tmp 9] (ms f e1)
   ·refine cRg (Wq a0.YO (nth a2 U)) ?_
    refine cK e1 ?_ ?_ <;> intro k8 h5 e1
    ·refine dIo mixed ?_
     have i5 : (ZV a0.Frame.ZB (nth a2 U)).toNat < a0.Yt.length := zBA
     simp [i5, ZE, G]
     refine rpG ?_
     refine cRg (j9 a0.Frame.Zo a0.Frame.ZB (Zj.mk (nth a2 U) (nth a0.Yt (ZV a0.Frame.ZB (nth a2 U)).toNat) (if (if (W (a0.Frame.Now + a3)) < 10000 then (W (a0.Frame.Now + a3)) else 10000) > 0 then (if (W (a0.Frame.Now + a3)) < 10000 then (W (a0.Frame.Now + a3)) else 10000) else 0) (QH (nth a0.ZA a1.toNat) (ZO a0.Frame.Methods a0.Frame.Now)) 0) (sg (ZX.XS (ZF.Y7 u0))) (sg (ZX.XN (ZF.Y7 u0)))) ?_ (lN := by first | (simp; done) | (simp [W, w1, w2]; done))
     refine cKo e1 ?_ ?_ <;> intro bP h6 e1
     ·have q6 := h6; try simp [w1] at q6
      simp [G]
      refine rpG ?_
      refine cDg [false, false, false, true, true, false, false, true, false, false, true, false] (YP a0 (sg u0)) ?_
      exact yJ [.cell 8 33, .tmp 9] (ms f e1)
     ·have q6 := h6; try simp [w1] at q6
      have i6 : (ZV a0.Frame.ZB (nth a2 U)).toNat < mz.length := zBA
      simp [i6, ZE, KM (x := (W ((nth mz (ZV a0.Frame.ZB (nth a2 U)).toNat) + 1))) rfl, G]
      refine rpG ?_
      exact nx3 e1 (hw := XI [((14, 0), some (145, 0))] [] rfl (by simp [w1, w2, G]))
    ·refine dIo mixed ?_
     have i7 : (ZV a0.Frame.ZB (nth a2 U)).toNat < a0.Yt.length := zBA
     simp [i7, ZE, G]
     refine rpG ?_
     refine cRg (j9 a0.Frame.Zo a0.Frame.ZB (Zj.mk (nth a2 U) (nth a0.Yt (ZV a0.Frame.ZB (nth a2 U)).toNat) a0.Frame.Now (QH (nth a0.ZA a1.toNat) (ZO a0.Frame.Methods a0.Frame.Now)) 0) (sg (ZX.XS (ZF.Y7 u0))) (sg (ZX.XN (ZF.Y7 u0)))) ?_
     refine cKt e1 ?_ ?_ <;> intro k12 h7 e1
     ·refine cDg [false, false, false, true, true, false, false, true, false, false, true, false] (YP a0 (sg u0)) ?_
      exact yJ [.cell 8 33, .tmp 9] (ms f e1)
     ·have i8 : (ZV a0.Frame.ZB (nth a2 U)).toNat < mz.length := zBA
      simp [i8, ZE, KM (x := (W ((nth mz (ZV a0.Frame.ZB (nth a2 U)).toNat) + 1))) rfl, G]
      refine rpG ?_
      exact nx3 e1 (hw := XI [((14, 0), some (145, 0))] [] rfl (by simp [w1, w2, G]))
  ·refine cK e1 ?_ ?_ <;> intro bh h8 e1
   ·refine cDg [false, false, false, true, true, false, false, true, false, false, true, false] (YP a0 (sg u0)) ?_
    exact yJ [.cell 8 33, .tmp 9] (ms f e1)
   ·simp [G] at h8
 have c3 := sl 2301952 a2 (an u0 u1)
 have f := ms f e1
 simp [i1, ZE]
 refine rpS ?_
 refine cDs [] (MV (nth a0.ZA a1.toNat) (ZO a0.Frame.Methods a0.Frame.Now) J (sg (Zp (ZF.Yn u0))) (by first | (simp (maxDischargeDepth := 12) [XD]; omega) | (simp (maxDischargeDepth := 12) [ZM (m := 2306048) zAE u0, ZM (m := 2306048) zAE u1]; done))) ?_
 refine cFt f ?_ ?_ <;> intro k19 h12 f
 ·refine cDs [false, false, false, true, true, false, false, true, false, false, true, false] (YP a0 (sg u0)) ?_
  exact rtD [.cell 8 33, .tmp 9] f
 simp [i1, ZE]
 refine rpS ?_
 refine ND (t := 27) (j := 7) (i := a1.toNat) (size := 2) (rows := (a0.ZA.map ZD.row)) (ds := (XB (nth a0.ZA a1.toNat) (ZO a0.Frame.Methods a0.Frame.Now) J).1.row) (L := [(162, 1)]) ?_
 simp [KM (x := (XB (nth a0.ZA a1.toNat) (ZO a0.Frame.Methods a0.Frame.Now) J).1) rfl, c1, i1, ZE, XF]
 refine rpS ?_
 exact rtD [.cell 8 33, .tmp 9] f
theorem IM (a0 : Int) (a1 : ZQ) (u0 : Sm 2318336 a1) : Sa 335 [rI a0, a1.row] [rI (jx a0 a1)] := by
 have f := me (jx.eq_1 a0 a1)
 refine so func335 ntmps335 ?_
 refine dIs mixed ?_
 refine cRs (yU a0 a1.Doc (sg (ZQ.qp u0))) ?_
 refine cRs (Ub a0 a1.ZK.ZJ (sg (ZU.QC (ZQ.Xk u0)))) ?_
 refine lp2 (qC.eq_2 a0 a1) (fun J U => Yq 40 [eI 0 a0, (5, .one (.sref 5 0 0 J.length), [.arr false 1 (J.map iR)]), eL 24 5 a1.ZK.ZP ZZ.row, eI 25 (a1.ZK.ZP.length : Int), eI 26 (U : Int)]) (fun n1 J U => a1.ZK.ZP.length < n1 + U /\ U <= a1.ZK.ZP.length /\ J.length <= 5 + 1 * U) (a1.ZK.ZP.length + 1) ([5, a1.Id, a1.Y8, (Yb a0 a1.Doc), (KX a0 a1.ZK.ZJ)] : List Int) 0 (fun p1 J U e1 j1 => ?_) (h0 := wkS [((5, 0), some (21, 0))] [])
 refine cFf e1 ?_ ?_ <;> intro k3 h1 e1
 ·have i1 := ix h1
  have m2 := ml a1.ZK.ZP (k3 24 _ rfl)
  have c1 := sl 2318336 a1.ZK.ZP u0
  have w1 := wr U
  simp [i1, ZE]
  refine rpS ?_
  refine cRs (jS a0 (nth a1.ZK.ZP U) (sg (Zp (ZU.zo (ZQ.Xk u0))))) ?_
  exact nx2 e1 (hw := XI [((5, 0), some (35, 0))] [] rfl zAb)
 have c2 := sl 2318336 a1.ZK.ZP u0
 have f := ms f e1
 refine cRs (KE a0 J zAK) ?_
 exact rt [.tmp 4] f
theorem UW (a0 : Int) (a1 : List ZQ) (u0 : Sm 2314240 a1) : Sa 300 [rI a0, rL 16 ZQ.row a1] [rI (QO a0 a1)] := by
 have f := me (QO.eq_1 a0 a1)
 refine so func300 ntmps300 ?_
 refine lp2 (zn.eq_2 a0 a1) (fun J U => Yq 24 [eI 0 a0, (5, .one (.sref 5 0 0 J.length), [.arr false 1 (J.map iR)]), eL 8 16 a1 ZQ.row, eI 9 (a1.length : Int), eI 10 (U : Int)]) (fun n1 J U => a1.length < n1 + U /\ U <= a1.length /\ J.length <= 0 + 1 * U) (a1.length + 1) ([] : List Int) 0 (fun p1 J U e1 j1 => ?_) (h0 := wkS [((5, 0), none)] [])
 refine cFf e1 ?_ ?_ <;> intro k2 h1 e1
 ·have i1 := ix h1
  have m2 := ml a1 (k2 8 _ rfl)
  have c1 := sl 2314240 a1 u0
  have w1 := wr U
  simp [i1, ZE]
  refine rpS ?_
  refine cRs (IM a0 (nth a1 U) (sg (Zp u0))) ?_
  exact nx2 e1 (hw := XI [((5, 0), some (19, 0))] [] rfl zAb)
 have c2 := sl 2314240 a1 u0
 have f := ms f e1
 refine cRs (P0 a0 J zAz) ?_
 exact rt [.tmp 4] f
theorem Io (a0 : ZD) (a1 : Int) (a2 : List Int) (a3 : Int) (u0 : Sm 2310144 a0) (u1 : Sm 2310144 a2) : Sd 230 [a0.row, rI a1, rL 1 iR a2, rI a3] [(Y1 a0 a1 a2 a3).1.row, rB (Y1 a0 a1 a2 a3).2] := by
 have f := me (Y1.eq_1 a0 a1 a2 a3)
 refine soD func230 ntmps230 ?_
 refine lp2 (Qm.eq_2 a0 a2) (fun J U => Yq 52 [eL 2 1 a2 iR, eI 3 a3, eX 4 (a0.row.map .d), (8, .one (.bptr 8 0), [.box [.d (.int .i64 0), .d (.int .i64 0), .nil 16, .d (.int .i64 0)]]), (10, .one (.bptr 10 0), [.box [.d (.int .i64 a0.Id), .d (.int .i64 a1), .sref 10 3 0 U.length, .d (.int .i64 0)], .none, .none, .arr true 16 (U.map ZQ.row)]), eL 18 1 a2 iR, eI 19 (a2.length : Int), eI 20 (J : Int)]) (fun n1 J U => a2.length < n1 + J /\ J <= a2.length /\ U.length <= J /\ (∀ x ∈ U, Sm 2310144 x)) (a2.length + 1) 0 ([] : List ZQ) (fun p1 J U e1 j1 => ?_) (hI := by exact ⟨zAA, zAA, Nat.zero_le _, Nat.zero_le _, fun x h => by cases h⟩) (h0 := wkS [((10, 3), none)] [])
 try dsimp only at j1
 refine cFf e1 ?_ ?_ <;> intro k2 h1 e1
 ·have i1 := ix h1
  have m2 := ml a2 (k2 2 _ rfl)
  have c1 := sl 2310144 a2 (an u0 u1)
  have w1 := wr J
  simp [i1, ZE]
  refine rpS ?_
  refine cRs (qz a0 (nth a2 J)) ?_
  refine cF e1 ?_ ?_ <;> intro k3 h2 e1
  ·exact rtD [.cell 8 253, .tmp 9] (ms f e1)
  refine drJ [39] mixed ?_
  have i2 : (ZW a0 (nth a2 J)).toNat < a0.ZC.length := by have := Ji a0 (nth a2 J); exact il
  simp [i2, ZE]
  refine rpS ?_
  refine cDs [true, true, true, false, false] (qB (nth a0.ZC (ZW a0 (nth a2 J)).toNat) (sg (Zp (ZD.Ye u0)))) ?_
  refine kb ?_
  simp
  refine W5 (lB := (U.map ZQ.row)) (news := (([(nth a0.ZC (ZW a0 (nth a2 J)).toNat)] : List ZQ).map ZQ.row)) (l1 := [(10, 3)]) (l2 := [(37, 3), (37, 4), (37, 14), (37, 15)]) (size := 16) ?_
  simp
  exact nx2 e1 (hI := by ((try dsimp only); refine ⟨zAA, zAA, zAA, by simp; omega, fun x hx => ?_⟩; rcases List.mem_append.1 hx with hx | hx; exact j1.2.2.2.2 x hx; have e := List.mem_singleton.1 hx; subst e; exact Zp (ZD.Ye u0))) (hw := XI [((10, 3), some (39, 0))] [] rfl zAb)
 have c2 := sl 2310144 a2 (an u0 u1)
 have f := ms f e1
 refine cF f ?_ ?_ <;> intro k5 h3 f
 ·exact rtD [.cell 8 253, .tmp 9] f
 refine cRs (UW a3 U zA9) ?_
 exact rtD [.cell 8 253, .tmp 9] f
theorem Mc (a0 : YZ) (a1 : Int) (u0 : Sm 2310144 a0) : Sa 301 [a0.row, rI a1] [rB (Qp a0 a1)] := by
 have f := me (Qp.eq_1 a0 a1)
 refine so func301 ntmps301 ?_
 refine lp1 (J3.eq_2 a0) (fun J => Yq 31 [eI 1 a1, eX 2 (a0.row.map .d), eL 8 16 a0.ZC ZQ.row, eI 9 (a0.ZC.length : Int), eI 10 (J : Int)]) (fun n1 J => a0.ZC.length < n1 + J /\ J <= a0.ZC.length) (a0.ZC.length + 1) 0 (fun p1 J e1 j1 => ?_)
 refine cFf e1 ?_ ?_ <;> intro k2 h1 e1
 ·have i1 := ix h1
  have m2 := ml a0.ZC (k2 8 _ rfl)
  have c1 := sl 2310144 a0.ZC u0
  have w1 := wr J
  simp [i1, ZE]
  refine rpS ?_
  refine cRs (Lb (nth a0.ZC J)) ?_
  refine cF e1 ?_ ?_ <;> intro k3 h2 e1
  ·exact rt [.tmp 4] (ms f e1)
  exact ny1 w1 e1
 have f := ms f e1
 refine dIs mixed ?_
 refine cRs (Zq (a0.ZC.length : Int) 1 8) ?_
 refine cGs (fun gg => (UW a1 a0.ZC (sg (YZ.Ye u0)))) ?_
 exact rt [.tmp 4] f
theorem NP (a0 : ZD) (a1 : YZ) (a2 : Int) (u0 : Sm 2306048 a0) (u1 : Sm 2306048 a1) : Sd 231 [a0.row, a1.row, rI a2] [(XE a0 a1 a2).1.row, rB (XE a0 a1 a2).2] := by
 have f := me (XE.eq_1 a0 a1 a2)
 refine soD func231 ntmps231 ?_
 refine cRs (Mc a1 a2 (sg u1)) ?_
 refine cF f ?_ ?_ <;> intro k1 h1 f
 ·refine cDs [] (Yh a0 (sg u0)) ?_
  exact rtD [.cell 6 73, .tmp 7] f
 refine cDs [] (Yh a0 (sg u0)) ?_
 refine lp3 (X8.eq_2 a0 a1) (fun J U mz => Yq 48 [eX 3 (a0.row.map .d), (6, .one (.bptr 6 0), [.box [.d (.int .i64 0), .nil 16]]), (8, .one (.bptr 8 0), [.box [.d (.int .i64 U), .sref 8 2 0 mz.length], .none, .arr true 16 (mz.map ZQ.row)]), eL 29 16 a1.ZC ZQ.row, eI 30 (a1.ZC.length : Int), eI 31 (J : Int)]) (fun n1 J U mz => a1.ZC.length < n1 + J /\ J <= a1.ZC.length /\ Sm (2306048 + J) (ZD.mk U mz)) (a1.ZC.length + 1) 0 a0.Id a0.ZC (fun p1 J U mz e1 j1 => ?_) (hI := by exact ⟨zAA, zAA, Nat.zero_le _, u0⟩) (h0 := wkS [((8, 2), some (27, 1))] [])
 try dsimp only at j1
 refine cFf e1 ?_ ?_ <;> intro k3 h2 e1
 ·have i1 := ix h2
  have m2 := ml a1.ZC (k3 29 _ rfl)
  have c1 := sl 2306048 a1.ZC (an u0 u1)
  have w1 := wr J
  simp [i1, ZE]
  refine rpS ?_
  refine cDs [] (Nb (ZD.mk U mz) (nth a1.ZC J) zAy zAy) ?_
  refine cF e1 ?_ ?_ <;> intro k4 h3 e1
  ·refine cDs [] (Yh a0 (sg u0)) ?_
   exact rtD [.cell 6 73, .tmp 7] (ms f e1)
  exact nx3 e1 (hI := by ((try dsimp only); refine ⟨zAA, zAA, zAA, ?_⟩; exact T9 (n := 2306048 + J) j1.2.2.2 (ZM (n := 2306048) zAA (Zp (YZ.Ye u1))))) (hw := XI [((8, 2), some (38, 1))] [] rfl zAb)
 have c2 := sl 2306048 a1.ZC (an u0 u1)
 exact rtD [.cell 6 73, .tmp 7] (ms f e1)
theorem Fu (h : b) (k : a := by (intros; first | omega | with_unfolding_all (first | first | omega | (have h0 := h1; simp only [decide_eq_false_iff_not] at h0; have z := Ji a0 a1; have hc := YS (ZD.Ye u0); have w2 : IntKind.i64.wrap ((ZW a0 a1) + 1) = (ZW a0 a1) + 1 := (YN zAA zAA); have w : W ((ZW a0 a1) + 1) = (ZW a0 a1) + 1 := w2; omega)) | ((try simp only [Y9, show ∀ x, IntKind.i64.wrap x = W x from fun _ => rfl] at *); omega))) : a /\ b := ⟨k, h⟩
theorem Fe (a0 : ZD) (a1 : Int) (u0 : Sm 2318336 a0) : Sd 232 [a0.row, rI a1] [(X9 a0 a1).1.row, rB (X9 a0 a1).2] := by
 have f := me (X9.eq_1 a0 a1)
 refine soD func232 ntmps232 ?_
 refine cDs [] (Yh a0 (sg u0)) ?_
 refine cRs (qz a0 a1) ?_
 refine cF f ?_ ?_ <;> intro k1 h1 f
 ·exact rtD [.cell 4 73, .tmp 5] f
 refine drJ [25] mixed ?_
 have c1 := sl 2318336 a0.ZC u0
 simp
 repeat with_reducible refine Fu ?_
 refine nf (rows := (a0.ZC.map ZQ.row)) (news := ((a0.ZC.drop (W ((ZW a0 a1) + 1)).toNat).map ZQ.row)) (size := 16) (u := 9) (j := 1) (len := (ZW a0 a1).toNat) (lo := (W ((ZW a0 a1) + 1)).toNat) (n := (a0.ZC.length - (W ((ZW a0 a1) + 1)).toNat)) rfl rfl rfl rfl zAF zAF zAF zAF zAF (by first | omega | (first | omega | (have h0 := h1; simp only [decide_eq_false_iff_not] at h0; have z := Ji a0 a1; have hc := YS (ZD.Ye u0); have w2 : IntKind.i64.wrap ((ZW a0 a1) + 1) = (ZW a0 a1) + 1 := (YN zAA zAA); have w : W ((ZW a0 a1) + 1) = (ZW a0 a1) + 1 := w2; omega)) | (simp; first | omega | (have h0 := h1; simp only [decide_eq_false_iff_not] at h0; have z := Ji a0 a1; have hc := YS (ZD.Ye u0); have w2 : IntKind.i64.wrap ((ZW a0 a1) + 1) = (ZW a0 a1) + 1 := (YN zAA zAA); have w : W ((ZW a0 a1) + 1) = (ZW a0 a1) + 1 := w2; omega))) (by first | omega | (simp; done) | (simp; first | omega | (have h0 := h1; simp only [decide_eq_false_iff_not] at h0; have z := Ji a0 a1; have hc := YS (ZD.Ye u0); have w2 : IntKind.i64.wrap ((ZW a0 a1) + 1) = (ZW a0 a1) + 1 := (YN zAA zAA); have w : W ((ZW a0 a1) + 1) = (ZW a0 a1) + 1 := w2; omega))) (RC _ _ _) zAF (by first | omega | (simp; first | omega | (have h0 := h1; simp only [decide_eq_false_iff_not] at h0; have z := Ji a0 a1; have hc := YS (ZD.Ye u0); have w2 : IntKind.i64.wrap ((ZW a0 a1) + 1) = (ZW a0 a1) + 1 := (YN zAA zAA); have w : W ((ZW a0 a1) + 1) = (ZW a0 a1) + 1 := w2; omega))) ?_
 simp
 exact rtD [.cell 4 73, .tmp 5] f
theorem H4 (a0 : ZD) (a1 : ZD) (a2 : List Int) (a3 : Int) (u0 : Sm 2301952 a0) (u1 : Sm 2301952 a1) (u2 : Sm 2301952 a2) : Sd 156 [a0.row, a1.row, rL 1 iR a2, rI a3] [(Y0 a0 a1 a2 a3).1.row, (Y0 a0 a1 a2 a3).2.1.row, rB (Y0 a0 a1 a2 a3).2.2] := by
 have f := me (Y0.eq_1 a0 a1 a2 a3)
 refine soD func156 ntmps156 ?_
 refine cRs (YV.rd (Io a0 a1.Id a2 a3 zBa zBa)) ?_
 refine cDs [] (NP a1 (Y1 a0 a1.Id a2 a3).1 a3 zBb zBb) ?_
 refine cF f ?_ ?_ <;> intro k1 h1 f
 ·refine okD fun k2 => ?_
  refine dIs mixed ?_
  refine cDs [] (Yh a0 (sg u0)) ?_
  refine cDs [] (Yh a1 (sg u1)) ?_
  exact rtD [.cell 8 73, .cell 9 73, .tmp 10] f
 refine cDs [] (Yh a0 (sg u0)) ?_
 refine lp3 (QT.eq_2 a0 a1 a2) (fun J U mz => Yq 70 [eX 4 (a0.row.map .d), eX 5 (a1.row.map .d), (8, .one (.bptr 8 0), [.box [.d (.int .i64 0), .nil 16]]), (9, .one (.bptr 9 0), [.box [.d (.int .i64 0), .nil 16]]), (13, .one (.bptr 13 0), [.box [.d (.int .i64 (XE a1 (Y1 a0 a1.Id a2 a3).1 a3).1.Id), .sref 33 1 0 (XE a1 (Y1 a0 a1.Id a2 a3).1 a3).1.ZC.length]]), (15, .one (.bptr 15 0), [.box [.d (.int .i64 U), .sref 15 2 0 mz.length], .none, .arr true 16 (mz.map ZQ.row)]), (33, .any, [.none, .arr true 16 ((XE a1 (Y1 a0 a1.Id a2 a3).1 a3).1.ZC.map ZQ.row)]), eL 48 1 a2 iR, eI 49 (a2.length : Int), eI 50 (J : Int)]) (fun n1 J U mz => a2.length < n1 + J /\ J <= a2.length /\ Sm 2301952 (ZD.mk U mz)) (a2.length + 1) 0 a0.Id a0.ZC (fun p1 J U mz e1 j1 => ?_) (hI := by exact ⟨zAA, zAA, Nat.zero_le _, u0⟩) (h0 := wkS [((15, 2), some (47, 1))] [])
 try dsimp only at j1
 refine cFf e1 ?_ ?_ <;> intro k4 h2 e1
 ·have i1 := ix h2
  have m2 := ml a2 (k4 48 _ rfl)
  have c1 := sl 2301952 a2 (an u0 (an u1 u2))
  have w1 := wr J
  simp [i1, ZE]
  refine rpS ?_
  refine cDs [] (Fe (ZD.mk U mz) (nth a2 J) (by exact ZM (n := 2301952) zAE j1.2.2.2)) ?_
  refine cF e1 ?_ ?_ <;> intro k5 h3 e1
  ·refine okD fun k6 => ?_
   refine dIs mixed ?_
   refine cDs [] (Yh a0 (sg u0)) ?_
   refine cDs [] (Yh a1 (sg u1)) ?_
   exact rtD [.cell 8 73, .cell 9 73, .tmp 10] (ms f e1)
  exact nx3 e1 (hI := by ((try dsimp only); refine ⟨zAA, zAA, zAA, ?_⟩; exact Te zAE j1.2.2.2)) (hw := XI [((15, 2), some (57, 1))] [] rfl zAb)
 have c2 := sl 2301952 a2 (an u0 (an u1 u2))
 have f := ms f e1
 refine sN [(8, 8), (9, 9), (13, 13), (15, 15)] mixed zAU zAU zAU zAU ?_
 simp
 exact rtD [.cell 8 73, .cell 9 73, .tmp 10] f
theorem EE (a0 : ZF) (a1 : Int) (a2 : Int) (a3 : Int) (u0 : Sm 2297856 a0) : Sd 76 [a0.row, rI a1, rI a2, rI a3] [(J8 a0 a1 a2 a3).1.row, rB (J8 a0 a1 a2 a3).2] := by
 have f := me (J8.eq_1 a0 a1 a2 a3)
 refine soD func76 ntmps76 ?_
 refine cDs [false, false, false, true, true, false, false, true, false, false, true, false] (YP a0 (sg u0)) ?_
 refine cRs (jG a0.Frame.Methods a0.Frame.Now) ?_
 refine cRs (yk a0 a1) ?_
 refine cGs (fun gg => (yk a0 a2)) ?_
 have c1 := sl 2297856 a0.ZA u0
 have w1 : IntKind.i64.wrap ((a0.ZA.length : Int) - 1) = (a0.ZA.length : Int) - 1 := YN zAA zAA
 refine cFo f ?_ ?_ <;> intro k1 h1 f
 ·have q1 := h1; try simp [w1, YC, ZS] at q1
  simp
  exact rtD [.cell 8 33, .tmp 9] f
 have q1 := h1; try simp [w1, YC, ZS] at q1
 simp
 refine dIo mixed ?_
 have i1 := ik a1.toNat a0.ZA
 have i2 := ik a2.toNat a0.ZA
 simp [i1, ZE, i2]
 refine rpS ?_
 refine cDs [] (H4 (nth a0.ZA a1.toNat) (nth a0.ZA a2.toNat) ([a3] : List Int) (ZO a0.Frame.Methods a0.Frame.Now) (sg (Zp (ZF.Yn u0))) (sg (Zp (ZF.Yn u0))) zBM) ?_
 refine cF f ?_ ?_ <;> intro k3 h2 f
 ·refine okD fun k4 => ?_
  refine wW [(10, 10), (12, 12), (13, 13), (63, 10), (66, 10)] [71, 72] [] mixed zAU zAU zAU zAU zAU zAU zAU ?_
  simp [i1, ZE]
  refine rpS ?_
  refine ND (t := 16) (j := 7) (i := a1.toNat) (size := 2) (rows := (a0.ZA.map ZD.row)) (ds := (Y0 (nth a0.ZA a1.toNat) (nth a0.ZA a2.toNat) ([a3] : List Int) (ZO a0.Frame.Methods a0.Frame.Now)).1.row) (L := [(58, 1)]) ?_
  simp [KM (x := (Y0 (nth a0.ZA a1.toNat) (nth a0.ZA a2.toNat) ([a3] : List Int) (ZO a0.Frame.Methods a0.Frame.Now)).1) rfl, c1, i1, i2, ZE, XF]
  refine rpS ?_
  refine ND (t := 16) (j := 7) (i := a2.toNat) (size := 2) (rows := ((a0.ZA.set a1.toNat (Y0 (nth a0.ZA a1.toNat) (nth a0.ZA a2.toNat) ([a3] : List Int) (ZO a0.Frame.Methods a0.Frame.Now)).1).map ZD.row)) (ds := (Y0 (nth a0.ZA a1.toNat) (nth a0.ZA a2.toNat) ([a3] : List Int) (ZO a0.Frame.Methods a0.Frame.Now)).2.1.row) (L := [(58, 3)]) ?_
  simp [KM (x := (Y0 (nth a0.ZA a1.toNat) (nth a0.ZA a2.toNat) ([a3] : List Int) (ZO a0.Frame.Methods a0.Frame.Now)).1) rfl, c1, i1, i2, ZE, XF]
  refine rpS ?_
  exact rtD [.cell 8 33, .tmp 9] f
 exact rtD [.cell 8 33, .tmp 9] f
theorem Ix (a0 : ZD) (a1 : Int) (u0 : Sm 2322432 a0) : Sd 157 [a0.row, rI a1] [(Ky a0 a1).1.row, rI (Ky a0 a1).2] := by
 have f := me (Ky.eq_1 a0 a1)
 refine soD func157 ntmps157 ?_
 refine lp2 (QP.eq_2 a0 a1) (fun J U => Yq 39 [eI 1 a1, eX 2 (a0.row.map .d), (4, .one (.bptr 4 0), [.box [.d (.int .i64 0), .nil 16]]), (6, .one (.bptr 6 0), [.box [.d (.int .i64 a0.Id), .sref 6 2 0 U.length], .none, .arr true 16 (U.map ZQ.row)]), eL 13 16 a0.ZC ZQ.row, eI 14 (a0.ZC.length : Int), eI 15 (J : Int)]) (fun n1 J U => a0.ZC.length < n1 + J /\ J <= a0.ZC.length /\ U.length <= 0 + 1 * J) (a0.ZC.length + 1) 0 ([] : List ZQ) (fun p1 J U e1 j1 => ?_) (h0 := wkS [((6, 2), none)] [])
 refine cFf e1 ?_ ?_ <;> intro k2 h1 e1
 ·have i1 := ix h1
  have m2 := ml a0.ZC (k2 13 _ rfl)
  have c1 := sl 2322432 a0.ZC u0
  have w1 := wr J
  simp [i1, ZE]
  refine rpS ?_
  refine cF e1 ?_ ?_ <;> intro k3 h2 e1
  ·refine okD fun k4 => ?_
   refine drJ [28] mixed ?_
   simp
   refine cDs [true, true, true, false, false] (qB (nth a0.ZC J) (sg (Zp (ZD.Ye u0)))) ?_
   refine kb ?_
   simp
   refine W5 (lB := (U.map ZQ.row)) (news := (([(nth a0.ZC J)] : List ZQ).map ZQ.row)) (l1 := [(6, 2)]) (l2 := [(26, 3), (26, 4), (26, 14), (26, 15)]) (size := 16) ?_
   simp
   exact nx2 e1 (hw := XI [((6, 2), some (28, 0))] [] rfl zAb)
  exact ny2 w1 e1
 have c2 := sl 2322432 a0.ZC u0
 have f := ms f e1
 refine sN [(2, 2), (4, 4), (6, 6), (32, 2), (35, 6)] mixed zAU zAU zAU zAU ?_
 simp
 exact rtD [.cell 4 73, .tmp 5] f
theorem HE (a0 : ZF) (a1 : Int) (u0 : Sm 2314240 a0) : Sd 77 [a0.row, rI a1] [(Qw a0 a1).1.row, rB (Qw a0 a1).2] := by
 have f := me (Qw.eq_1 a0 a1)
 refine soD func77 ntmps77 ?_
 refine cDs [false, false, false, true, true, false, false, true, false, false, true, false] (YP a0 (sg u0)) ?_
 refine cRs (yk a0 a1) ?_
 have c1 := sl 2314240 a0.ZA u0
 have w1 : IntKind.i64.wrap ((a0.ZA.length : Int) - 1) = (a0.ZA.length : Int) - 1 := YN zAA zAA
 refine cFo f ?_ ?_ <;> intro k1 h1 f
 ·have q1 := h1; try simp [w1, YC, ZS] at q1
  simp
  exact rtD [.cell 4 33, .tmp 5] f
 have q1 := h1; try simp [w1, YC, ZS] at q1
 simp
 refine drJ [] mixed ?_
 have i1 := ik a1.toNat a0.ZA
 simp [i1, ZE]
 refine rpS ?_
 refine cDf i1 [] (Ix (nth a0.ZA a1.toNat) a0.Frame.Now (sg (Zp (ZF.Yn u0)))) ?_
 refine ND (t := 8) (j := 7) (i := a1.toNat) (size := 2) (rows := (a0.ZA.map ZD.row)) (ds := (Ky (nth a0.ZA a1.toNat) a0.Frame.Now).1.row) (L := [(26, 1)]) ?_
 simp
 refine rpS ?_
 exact rtD [.cell 4 33, .tmp 5] f
theorem W8 (a0 : List Z8) (a1 : Int) : Sa 202 [rL 4 Z8.row a0, rI a1] [rI (X7 a0 a1)] := by
 have f := me (X7.eq_1 a0 a1)
 refine so func202 ntmps202 ?_
 refine lp1 (yd.eq_2 a0 a1) (fun J => Yq 20 [eI 1 a1, eL 7 4 a0 Z8.row, eI 8 (a0.length : Int), eI 9 (J : Int)]) (fun n1 J => a0.length < n1 + J /\ J <= a0.length) (a0.length + 1) 0 (fun p1 J e1 j1 => ?_)
 refine cFf e1 ?_ ?_ <;> intro k2 h1 e1
 ·have i1 := ix h1
  have m2 := ml a0 (k2 7 _ rfl)
  have w1 := wr J
  simp [i1, ZE]
  refine rpS ?_
  refine cF e1 ?_ ?_ <;> intro k3 h2 e1
  ·exact rt [.tmp 4] (ms f e1)
  exact ny1 w1 e1
 exact rt [.tmp 4] (ms f e1)
theorem VM (a0 : List Z8) (a1 : Int) : Sa 235 [rL 4 Z8.row a0, rI a1] [rI (zY a0 a1)] := by
 have f := me (zY.eq_1 a0 a1)
 refine so func235 ntmps235 ?_
 refine cRs (W8 a0 a1) ?_
 refine cFf f ?_ ?_ <;> intro k1 h1 f
 ·have i1 : (X7 a0 a1).toNat < a0.length := by have := jF a0 a1; exact il
  simp [i1, ZE]
  refine rpS ?_
  exact rt [.tmp 4] f
 exact rt [.tmp 4] f
theorem W3 (a0 : ZX) (a1 : Int) : Sa 160 [a0.row, rI a1] [rI (X4 a0 a1)] := by
 have f := me (X4.eq_1 a0 a1)
 refine so func160 ntmps160 ?_
 refine cRs (JS a0.Zo a1) ?_
 refine cF f ?_ ?_ <;> intro k1 h1 f
 ·exact rt [.tmp 4] f
 refine dIo mixed ?_
 have i1 : (Zt a0.Zo a1).toNat < a0.Zo.length := by have := Kw a0.Zo a1; exact il
 simp [i1, ZE]
 refine rpS ?_
 refine cRs (VM a0.Methods (nth a0.Zo (Zt a0.Zo a1).toNat).Method) ?_
 exact rt [.tmp 4] f
theorem TB (a0 : ZX) (a1 : Int) : Sa 82 [a0.row, rI a1] [rB (QW a0 a1)] := by
 have f := me (QW.eq_1 a0 a1)
 refine so func82 ntmps82 ?_
 refine dIs mixed ?_
 refine cRs (JS a0.Zo a1) ?_
 refine cGs (fun gg => (W3 a0 a1)) ?_
 exact rt [.tmp 4] f
theorem GM (h : b) (k : a := by (intros; first | omega | with_unfolding_all (first | first | omega | (have o := YS (ZF.LR (zA (n := 2310144) (a1 := a1) (a2 := a2) (a4 := 0) (a5 := 10000) u0 u1 zAE)); (try simp); omega)) | ((try simp only [Y9, show ∀ x, IntKind.i64.wrap x = W x from fun _ => rfl] at *); omega))) : a /\ b := ⟨k, h⟩
theorem Ho (a0 : ZF) (a1 : Int) (a2 : Int) (a3 : ZN) (u0 : Sm 2310144 a0) (u1 : Sm 2310144 a3) : Sd 78 [a0.row, rI a1, rI a2, a3.row] [(JI a0 a1 a2 a3).1.row, rB (JI a0 a1 a2 a3).2] := by
 have f := me (JI.eq_1 a0 a1 a2 a3)
 refine soD func78 ntmps78 ?_
 refine cRs (TB a0.Frame a2) ?_
 refine cFo f ?_ ?_ <;> intro k1 h1 f
 ·have q1 := h1; try simp at q1
  simp
  refine cDs [false, false, false, true, true, false, false, true, false, false, true, false] (YP a0 zAZ) ?_
  refine ID (rv := [.cell 8 33, .tmp 9]) rfl ?_
  simp [f.h]
  all_goals ((try simp only [q2, true_and]); (try (rintro r (⟨a, _, rfl⟩ | rfl) x hx <;> simp at hx <;> subst hx <;> rfl)))
 have q1 := h1; try simp at q1
 simp
 refine cRs (P6 a0 a1 a2 a3 0 10000 (sg u0) (sg u1)) ?_
 refine cDs [false, false, false, true, true, false, false, true, false, false, true, false] (YP (XJ a0 a1 a2 a3 0 10000).1 zAZ) ?_
 refine cFo f ?_ ?_ <;> intro k2 h2 f
 ·have q2 := h2; try simp at q2
  simp
  repeat with_reducible refine GM ?_
  refine ID (rv := [.cell 8 33, .tmp 9]) rfl ?_
  simp [f.h]
  all_goals ((try simp only [q2, true_and]); (try (rintro r (⟨a, _, rfl⟩ | rfl) x hx <;> simp at hx <;> subst hx <;> rfl)))
 have q2 := h2; try simp at q2
 simp
 refine ID (rv := [.cell 8 33, .tmp 9]) rfl ?_
 simp [f.h]
 all_goals ((try simp only [q2, true_and]); (try (rintro r (⟨a, _, rfl⟩ | rfl) x hx <;> simp at hx <;> subst hx <;> rfl)))
theorem S7 (a0 : ZF) (u0 : Sm 2326528 a0) : Sd 88 [a0.row] [rL 1 iR (Zm a0)] := by
 have f := me (Zm.eq_1 a0)
 refine soD func88 ntmps88 ?_
 refine lp2 (Xv.eq_2 a0) (fun J U => Yq 33 [eX 1 (a0.row.map .d), (3, .one (.sref 3 0 0 J.length), [.arr false 1 (J.map iR)]), eL 8 3 a0.Frame.ZB Zf.row, eI 9 (a0.Frame.ZB.length : Int), eI 10 (U : Int)]) (fun n1 J U => a0.Frame.ZB.length < n1 + U /\ U <= a0.Frame.ZB.length /\ J.length <= 0 + 1 * U) (a0.Frame.ZB.length + 1) ([] : List Int) 0 (fun p1 J U e1 j1 => ?_) (h0 := wkS [((3, 0), none)] [])
 refine cFf e1 ?_ ?_ <;> intro k2 h1 e1
 ·have i1 := ix h1
  have m2 := ml a0.Frame.ZB (k2 8 _ rfl)
  have c1 := sl 2326528 a0.Frame.ZB u0
  have w1 := wr U
  simp [i1, ZE]
  refine rpS ?_
  refine cRs (Wq a0.YO (nth a0.Frame.ZB U).Id) ?_
  refine cGs (fun gg => (TB a0.Frame (nth a0.Frame.ZB U).Key)) ?_
  refine cF e1 ?_ ?_ <;> intro k3 h2 e1
  ·exact nx2 e1 (hw := XI [((3, 0), some (30, 0))] [] rfl zAb)
  exact ny2 w1 e1
 exact rtD [.tmp 2] (ms f e1)
theorem zw (h : b) (k : a := by (intros; first | omega | with_unfolding_all (first | first | omega | (have f0 : 0 <= (ZL a0 a1).1 := (by first | omega | (simp at *; omega)); have fi := QM a0 a1 f0; omega) | (have fl := Jl a0; have fm := YS (ZX.XN (ZF.Y7 u0)); (try dsimp only at *); omega)) | ((try simp only [Y9, show ∀ x, IntKind.i64.wrap x = W x from fun _ => rfl] at *); omega))) : a /\ b := ⟨k, h⟩
theorem Nu (a0 : ZF) (a1 : Int) (a2 : Int) (u0 : Sm 2314240 a0) : Sd 27 [a0.row, rI a1, rI a2] [(Xs a0 a1 a2).1.row, rB (Xs a0 a1 a2).2] := by
 have f := me (Xs.eq_1 a0 a1 a2)
 refine soD func27 ntmps27 ?_
 refine cDs [false, false, false, true, true, false, false, true, false, false, true, false] (YP a0 (sg u0)) ?_
 refine cRs (R8 a0 a1) ?_
 refine cRs (jG a0.Frame.Methods a0.Frame.Now) ?_
 refine cRs (YV.rd (S7 a0 (sg u0))) ?_
 refine cRs (Wq a0.YE a1) ?_
 refine cFt f ?_ ?_ <;> intro k1 h1 f
 ·exact rtD [.cell 6 33, .tmp 7] f
 have i1 : (ZL a0 a1).1.toNat < a0.ZA.length := zA5
 have i2 : (ZL a0 a1).2.toNat < (nth a0.ZA (ZL a0 a1).1.toNat).ZC.length := zA5
 simp [i1, ZE, i2]
 repeat with_reducible refine zw ?_
 refine dIs mixed ?_
 refine cRs (NZ (nth (nth a0.ZA (ZL a0 a1).1.toNat).ZC (ZL a0 a1).2.toNat) (ZO a0.Frame.Methods a0.Frame.Now) (sg (Zp (ZD.Ye (Zp (ZF.Yn u0)))))) ?_
 refine lp2 (XG.eq_2 a0 a1 a2) (fun J U => Yq 124 [eI 2 a2, (6, .one (.bptr 6 0), [.box [.nil 5, .nil 3, .nil 4, .d (.int .i64 0), .d (.int .i64 0), .nil 7, .nil 1, .nil 2, .nil 1, .nil 1, .d (.int .i64 0), .nil 1]]), eX 8 (a0.Frame.row.map .d), (9, .one (.bptr 9 0), [.box [.sref 25 0 0 a0.Frame.Zo.length, .sref 25 1 0 a0.Frame.ZB.length, .sref 25 2 0 a0.Frame.Methods.length, .d (.int .i64 a0.Frame.XT), .d (.int .i64 a0.Frame.Now), .sref 25 5 0 a0.ZY.length, .sref 25 6 0 a0.Zx.length, .sref 25 7 0 a0.ZA.length, .sref 25 8 0 a0.Yt.length, .sref 25 9 0 a0.YO.length, .d (.int .i64 a0.Next), .sref 25 11 0 a0.YE.length]]), eI 10 (ZL a0 a1).1, eI 11 (ZL a0 a1).2, eX 14 ((nth (nth a0.ZA (ZL a0 a1).1.toNat).ZC (ZL a0 a1).2.toNat).row.map .d), (15, .one (.bptr 15 0), [.box [.d (.int .i64 ((nth (nth a0.ZA (ZL a0 a1).1.toNat).ZC (ZL a0 a1).2.toNat).ZK.ZJ.length : Int)), .d (.int .i64 (ZO a0.Frame.Methods a0.Frame.Now)), .d (.int .i64 (Qx (nth (nth a0.ZA (ZL a0 a1).1.toNat).ZC (ZL a0 a1).2.toNat) (ZO a0.Frame.Methods a0.Frame.Now))), .nil 2, .sref 15 5 0 U.length], .none, .none, .none, .none, .arr false 5 (U.map Zj.row)]), (25, .any, [.arr false 5 (a0.Frame.Zo.map Yw.row), .arr false 3 (a0.Frame.ZB.map Zf.row), .arr false 4 (a0.Frame.Methods.map Z8.row), .none, .none, .arr false 7 (a0.ZY.map YX.row), .arr false 1 (a0.Zx.map iR), .arr true 2 (a0.ZA.map ZD.row), .arr false 1 (a0.Yt.map iR), .arr false 1 (a0.YO.map iR), .none, .arr false 1 (a0.YE.map iR)]), eL 76 1 (Zm a0) iR, eI 77 ((Zm a0).length : Int), eI 78 (J : Int)]) (fun n1 J U => (Zm a0).length < n1 + J /\ J <= (Zm a0).length /\ U.length <= 0 + 1 * J) ((Zm a0).length + 1) 0 ([] : List Zj) (fun p1 J U e1 j1 => ?_) (h0 := wkS [((15, 5), none)] [])
 try dsimp only at j1
 refine cFf e1 ?_ ?_ <;> intro k4 h2 e1
 ·have i3 := ix h2
  have m2 := ml (Zm a0) (k4 76 _ rfl)
  have w1 := wr J
  simp [i3, ZE]
  repeat with_reducible refine zw ?_
  refine cRs (j9 a0.Frame.Zo a0.Frame.ZB (Zj.mk (nth (Zm a0) J) 0 a2 (Qx (nth (nth a0.ZA (ZL a0 a1).1.toNat).ZC (ZL a0 a1).2.toNat) (ZO a0.Frame.Methods a0.Frame.Now)) 0) (sg (ZX.XS (ZF.Y7 u0))) (sg (ZX.XN (ZF.Y7 u0)))) ?_
  refine cFt e1 ?_ ?_ <;> intro k5 h3 e1
  ·exact rtD [.cell 6 33, .tmp 7] (ms f e1)
  simp
  repeat with_reducible refine zw ?_
  exact nx2 e1 (hw := XI [((15, 5), some (102, 0))] [] rfl zAb)
 have f := ms f e1
 refine cDs [] (Sj (nth (nth a0.ZA (ZL a0 a1).1.toNat).ZC (ZL a0 a1).2.toNat).ZK (ZZ.mk ((nth (nth a0.ZA (ZL a0 a1).1.toNat).ZC (ZL a0 a1).2.toNat).ZK.ZJ.length : Int) (ZO a0.Frame.Methods a0.Frame.Now) (Qx (nth (nth a0.ZA (ZL a0 a1).1.toNat).ZC (ZL a0 a1).2.toNat) (ZO a0.Frame.Methods a0.Frame.Now)) ([] : List Xx) U) zAu zAu) ?_
 refine drJ [] mixed ?_
 simp [i1, ZE, i2]
 repeat with_reducible refine zw ?_
 refine og (t := 25) (j := 7) (i := (ZL a0 a1).1.toNat) (c := 1) (k' := (ZL a0 a1).2.toNat) (q := 14) (n := 16) (size := 2) (s := ((nth a0.ZA (ZL a0 a1).1.toNat).ZC.map ZQ.row)) (rows := (a0.ZA.map ZD.row)) (ds := (Yz (nth (nth a0.ZA (ZL a0 a1).1.toNat).ZC (ZL a0 a1).2.toNat).ZK (ZZ.mk ((nth (nth a0.ZA (ZL a0 a1).1.toNat).ZC (ZL a0 a1).2.toNat).ZK.ZJ.length : Int) (ZO a0.Frame.Methods a0.Frame.Now) (Qx (nth (nth a0.ZA (ZL a0 a1).1.toNat).ZC (ZL a0 a1).2.toNat) (ZO a0.Frame.Methods a0.Frame.Now)) ([] : List Xx) U)).1.row) (L := [(109, 0), (109, 1)]) rfl rfl rfl rfl (by simp; rfl) zAF zAF (by simp [i1, i2]) (by simp [ZE, XF, i1, i2]) (by simp [i1, i2]) zAF zAF zAF zAF zAF zAF ?_
 simp [KM (x := (ZD.mk (nth a0.ZA (ZL a0 a1).1.toNat).Id ((nth a0.ZA (ZL a0 a1).1.toNat).ZC.set (ZL a0 a1).2.toNat (ZQ.mk (nth (nth a0.ZA (ZL a0 a1).1.toNat).ZC (ZL a0 a1).2.toNat).Id (nth (nth a0.ZA (ZL a0 a1).1.toNat).ZC (ZL a0 a1).2.toNat).Y8 (nth (nth a0.ZA (ZL a0 a1).1.toNat).ZC (ZL a0 a1).2.toNat).Doc (nth (nth a0.ZA (ZL a0 a1).1.toNat).ZC (ZL a0 a1).2.toNat).Sig (Yz (nth (nth a0.ZA (ZL a0 a1).1.toNat).ZC (ZL a0 a1).2.toNat).ZK (ZZ.mk ((nth (nth a0.ZA (ZL a0 a1).1.toNat).ZC (ZL a0 a1).2.toNat).ZK.ZJ.length : Int) (ZO a0.Frame.Methods a0.Frame.Now) (Qx (nth (nth a0.ZA (ZL a0 a1).1.toNat).ZC (ZL a0 a1).2.toNat) (ZO a0.Frame.Methods a0.Frame.Now)) ([] : List Xx) U)).1)))) rfl, ZE, XF, i1, i2]
 repeat with_reducible refine zw ?_
 exact rtD [.cell 6 33, .tmp 7] f
theorem JN (h : b) (k : a := by (intros; first | omega | with_unfolding_all (first | first | omega | (have z := Qd a0 a1 zBo; (try simp at *); omega)) | (simp_all; done) | (simp_all; omega) | grind | ((try simp only [Y9, show ∀ x, IntKind.i64.wrap x = W x from fun _ => rfl] at *); omega))) : a /\ b := ⟨k, h⟩
theorem F2 (a0 : ZF) (a1 : Int) (a2 : Int) (u0 : Sm 2310144 a0) : Sd 23 [a0.row, rI a1, rI a2] [(J6 a0 a1 a2).1.row, rB (J6 a0 a1 a2).2] := by
 have f := me (J6.eq_1 a0 a1 a2)
 refine soD func23 ntmps23 ?_
 refine cRs (Lo a0 a1) ?_
 refine dIs mixed ?_
 refine gIo ?_ ?_ <;> intro G
 ·have g5 := G
  have g1 := G; try simp at g1
  have i1 : (YI a0 a1).2.1.toNat < a0.ZY.length := zA8
  simp [i1, ZE, G]
  refine zCC ?_
  refine cGo (fun gg => (TB a0.Frame (nth a0.ZY (YI a0 a1).2.1.toNat).Z1)) ?_
  simp [G]
  refine zCC ?_
  refine cKo f ?_ ?_ <;> intro k2 h1 f
  ·simp [G]
   refine zCC ?_
   refine cD [false, false, false, true, true, false, false, true, false, false, true, false] (YP a0 (sg u0)) ?_
   simp [G]
   refine zCC ?_
   exact yJ [.cell 6 33, .tmp 7] f
  ·simp [G]
   refine zCC ?_
   refine dIo mixed ?_
   simp [i1, ZE, G]
   refine zCC ?_
   refine cD [false, false, false, true, true, false, false, true, false, false, true, false] (Td a0 (YI a0 a1).1 a1 (Zn.mk (nth a0.ZY (YI a0 a1).2.1.toNat).Zd a2 (-1) (nth a0.ZY (YI a0 a1).2.1.toNat).Z1 0) (sg u0) zBJ) ?_
   simp [G]
   refine zCC ?_
   exact yJ [.cell 6 33, .tmp 7] f
 ·have g5 := G
  simp [G]
  refine zCC ?_
  refine sGo ?_
  simp [G]
  refine zCC ?_
  refine cKo f ?_ ?_ <;> intro k4 h2 f
  ·simp [G]
   refine zCC ?_
   refine cD [false, false, false, true, true, false, false, true, false, false, true, false] (YP a0 (sg u0)) ?_
   simp [G]
   refine zCC ?_
   exact yJ [.cell 6 33, .tmp 7] f
  ·simp [G] at h2
theorem IF (a0 : ZF) (a1 : Zs) (u0 : Sm 2293760 a0) (u1 : Sm 2293760 a1) : Sd 18 [a0.row, a1.row] [(Yg a0 a1).1.row, rB (Yg a0 a1).2] := by
 have f := me (Yg.eq_1 a0 a1)
 refine soD func18 ntmps18 ?_
 refine cF f ?_ ?_ <;> intro k1 h1 f
 ·refine cDs [false, false, false, true, true, false, false, true, false, false, true, false] (Px a0 a1.A (sg u0)) ?_
  exact rtD [.cell 4 33, .tmp 5] f
 refine cF f ?_ ?_ <;> intro k2 h2 f
 ·refine cDs [false, false, false, true, true, false, false, true, false, false, true, false] (FN a0 a1.A a1.B a1.Doc a1.C a1.D (sg u0) (sg (Zs.qp u1))) ?_
  exact rtD [.cell 4 33, .tmp 5] f
 refine cF f ?_ ?_ <;> intro k3 h3 f
 ·refine cDs [false, false, false, true, true, false, false, true, false, false, true, false] (Iq a0 a1.A (sg u0)) ?_
  exact rtD [.cell 4 33, .tmp 5] f
 refine cF f ?_ ?_ <;> intro k4 h4 f
 ·refine cDs [false, false, false, true, true, false, false, true, false, false, true, false] (It a0 a1.A (sg u0)) ?_
  exact rtD [.cell 4 33, .tmp 5] f
 refine cF f ?_ ?_ <;> intro k5 h5 f
 ·refine cDs [false, false, false, true, true, false, false, true, false, false, true, false] (RV a0 a1.A a1.Ids a1.B (sg u0) (sg (Zs.Al u1))) ?_
  exact rtD [.cell 4 33, .tmp 5] f
 refine cF f ?_ ?_ <;> intro k6 h6 f
 ·refine cDs [false, false, false, true, true, false, false, true, false, false, true, false] (EE a0 a1.A a1.B a1.C (sg u0)) ?_
  exact rtD [.cell 4 33, .tmp 5] f
 refine cF f ?_ ?_ <;> intro k7 h7 f
 ·refine cDs [false, false, false, true, true, false, false, true, false, false, true, false] (HE a0 a1.A (sg u0)) ?_
  exact rtD [.cell 4 33, .tmp 5] f
 refine cF f ?_ ?_ <;> intro k8 h8 f
 ·refine cDs [false, false, false, true, true, false, false, true, false, false, true, false] (Ho a0 a1.A a1.B a1.Doc (sg u0) (sg (Zs.qp u1))) ?_
  exact rtD [.cell 4 33, .tmp 5] f
 refine cF f ?_ ?_ <;> intro k9 h9 f
 ·refine cDs [false, false, false, true, true, false, false, true, false, false, true, false] (Nu a0 a1.A a1.B (sg u0)) ?_
  exact rtD [.cell 4 33, .tmp 5] f
 refine cF f ?_ ?_ <;> intro bP ev f
 ·refine cDs [false, false, false, true, true, false, false, true, false, false, true, false] (F2 a0 a1.A a1.B (sg u0)) ?_
  exact rtD [.cell 4 33, .tmp 5] f
 refine cDs [false, false, false, true, true, false, false, true, false, false, true, false] (YP a0 (sg u0)) ?_
 exact rtD [.cell 4 33, .tmp 5] f
theorem NV (h : b) (k : a := by (intros; first | omega | with_unfolding_all (first | (have d := BQ (l := a0.ZA) (i := U) zAX; omega)) | ((try simp only [Y9, show ∀ x, IntKind.i64.wrap x = W x from fun _ => rfl] at *); omega))) : a /\ b := ⟨k, h⟩
theorem DM (a0 : ZF) (u0 : Sm 2342912 a0) (u1 : itn a0.ZA <= 1048576) : So 99 [a0.row] [rL 16 ZQ.row (Q6 a0)] := by
 have f := me (Q6.eq_1 a0)
 refine so func99 ntmps99 ?_
 refine lp2 (U7.eq_2 a0) (fun J U => Yq 19 [(3, .one (.sref 3 0 0 J.length), [.arr false 16 (J.map ZQ.row)]), eL 7 2 a0.ZA ZD.row, eI 8 (a0.ZA.length : Int), eI 9 (U : Int)]) (fun n1 J U => a0.ZA.length < n1 + U /\ U <= a0.ZA.length /\ J.length + itn (a0.ZA.drop U) <= 1048576) (a0.ZA.length + 1) ([] : List ZQ) 0 (fun p1 J U e1 j1 => ?_) (hI := by ((try dsimp only); simp only [List.length_nil, List.drop_zero]; omega)) (h0 := wkS [((3, 0), none)] [])
 try dsimp only at j1
 refine cFf e1 ?_ ?_ <;> intro k2 h1 e1
 ·have i1 := ix h1
  have m2 := ml a0.ZA (k2 7 _ rfl)
  have c1 := sl 2342912 a0.ZA (an u0 u1)
  have w1 := wr U
  simp [i1, ZE]
  repeat with_reducible refine NV ?_
  refine evI rfl rfl rfl ?_
  have c2 := sl 2342912 (nth a0.ZA U).ZC (an u0 u1)
  simp
  repeat with_reducible refine NV ?_
  exact nx2 e1 (hI := by (have d := BQ (l := a0.ZA) (i := U) zAX; (try dsimp only); simp only [List.length_append]; omega)) (hw := XI [((3, 0), some (16, 0))] [] rfl zAb)
 have c3 := sl 2342912 a0.ZA (an u0 u1)
 exact rtO [.tmp 2] (ms f e1)
theorem O7 (a0 : ZQ) (u0 : Sm 2326528 a0) : Sd 86 [a0.row] [(QB a0).row] := by
 have f := me (QB.eq_1 a0)
 refine soD func86 ntmps86 ?_
 refine cDs [] (zJ a0.ZK (sg (ZQ.Xk u0))) ?_
 refine vL (news := (([a0.ZK] : List ZU).map ZU.row)) (L := [(5, 0), (5, 1)]) rfl rfl rfl rfl zAF zAF zAF zAF zAF zAF ?_
 simp
 exact rtD _ f
theorem Ig (a0 : ZU) (a1 : ZN) (u0 : Sm 2318336 a0) (u1 : Sm 2318336 a1) : Sd 28 [a0.row, a1.row] [rL 1 iR (QN a0 a1)] := by
 have f := me (QN.eq_1 a0 a1)
 refine soD func28 ntmps28 ?_
 refine lp2 (zR.eq_2 a0 a1) (fun J U => Yq 24 [eX 3 (a1.row.map .d), (5, .one (.sref 5 0 0 J.length), [.arr false 1 (J.map iR)]), eL 9 5 a0.ZP ZZ.row, eI 10 (a0.ZP.length : Int), eI 11 (U : Int)]) (fun n1 J U => a0.ZP.length < n1 + U /\ U <= a0.ZP.length /\ J.length <= 0 + 1 * U) (a0.ZP.length + 1) ([] : List Int) 0 (fun p1 J U e1 j1 => ?_) (h0 := wkS [((5, 0), none)] [])
 refine cFf e1 ?_ ?_ <;> intro k2 h1 e1
 ·have i1 := ix h1
  have m2 := ml a0.ZP (k2 9 _ rfl)
  have c1 := sl 2318336 a0.ZP (an u0 u1)
  have w1 := wr U
  simp [i1, ZE]
  refine rpS ?_
  refine cRs (yU (nth a0.ZP U).Method a1 (sg u1)) ?_
  exact nx2 e1 (hw := XI [((5, 0), some (21, 0))] [] rfl zAb)
 exact rtD [.tmp 4] (ms f e1)
theorem Oz (h : b) (k : a := by (intros; first | omega | with_unfolding_all (first | (first | omega | (have z := YS (Z0.QY u0); omega))) | ((try simp only [Y9, show ∀ x, IntKind.i64.wrap x = W x from fun _ => rfl] at *); omega))) : a /\ b := ⟨k, h⟩
theorem Oc (a0 : Z0) (a1 : ZN) (u0 : Sm 2314240 a0) (u1 : Sm 2314240 a1) : Sd 165 [a0.row, a1.row] [rL 1 (slR 1 iR) (Qq a0 a1)] := by
 have f := me (Qq.eq_1 a0 a1)
 refine soD func165 ntmps165 ?_
 refine lp2 (Ke.eq_2 a0 a1) (fun J U => Yq 23 [eX 3 (a1.row.map .d), (5, .one (.sref 5 0 0 J.length), [.arr true 1 (J.map (slR 1 iR))]), eL 9 2 a0.Zy ZU.row, eI 10 (a0.Zy.length : Int), eI 11 (U : Int)]) (fun n1 J U => a0.Zy.length < n1 + U /\ U <= a0.Zy.length /\ J.length <= U) (a0.Zy.length + 1) ([] : List (List Int)) 0 (fun p1 J U e1 j1 => ?_) (h0 := wkS [((5, 0), none)] [])
 try dsimp only at j1
 refine cFf e1 ?_ ?_ <;> intro k2 h1 e1
 ·have i1 := ix h1
  have m2 := ml a0.Zy (k2 9 _ rfl)
  have c1 := sl 2314240 a0.Zy (an u0 u1)
  have w1 := wr U
  simp [i1, ZE]
  repeat with_reducible refine Oz ?_
  refine cDs [false] (Ig (nth a0.Zy U) a1 (sg (Zp (Z0.QY u0))) (sg u1)) ?_
  refine kb ?_
  simp
  refine nH (lB := (J.map (slR 1 iR))) (news := (([(QN (nth a0.Zy U) a1)] : List (List Int)).map (slR 1 iR))) (l1 := [(5, 0)]) (l2 := [(18, 0)]) (size := 1) rfl rfl rfl rfl zAF zAF zAF zAF zAF (by simp; (first | omega | (have z := YS (Z0.QY u0); omega))) ?_
  simp
  exact nx2 e1 (hw := XI [((5, 0), some (20, 0))] [] rfl zAb)
 have c2 := sl 2314240 a0.Zy (an u0 u1)
 exact rtD [.tmp 4] (ms f e1)
theorem I0 (a0 : Int) : Sa 292 [rI a0] [rB (j6 a0)] := by
 have f := me (j6.eq_1 a0)
 refine so func292 ntmps292 ?_
 refine cRs (Zq a0 1 2147483646) ?_
 exact rt [.tmp 2] f
theorem AZ (a0 : Yw) : Sa 217 [a0.row] [rB (DU a0)] := by
 have f := me (DU.eq_1 a0)
 refine so func217 ntmps217 ?_
 refine cRs (Zq a0.Number 1 99) ?_
 refine cGs (fun gg => (Zq a0.kW 0 99)) ?_
 refine cGs (fun gg => (Zq a0.Method 0 99)) ?_
 refine cGs (fun gg => (K5 a0.VI)) ?_
 refine cGs (fun gg => (I0 a0.Rn)) ?_
 exact rt [.tmp 2] f
theorem D1 (a0 : List Yw) : Sa 143 [rL 5 Yw.row a0] [rB (LO a0)] := by
 have f := me (LO.eq_1 a0)
 refine so func143 ntmps143 ?_
 refine lp1 (RN.eq_2 a0) (fun J => Yq 34 [eL 0 5 a0 Yw.row, eL 5 5 a0 Yw.row, eI 6 (a0.length : Int), eI 7 (J : Int)]) (fun n1 J => a0.length < n1 + J /\ J <= a0.length) (a0.length + 1) 0 (fun p1 J e1 j1 => ?_)
 refine cFf e1 ?_ ?_ <;> intro k2 h1 e1
 ·have i1 := ix h1
  have m2 := ml a0 (k2 0 _ rfl)
  have w1 := wr J
  simp [i1, ZE]
  refine rpS ?_
  refine dIs mixed ?_
  refine cRs (AZ (nth a0 J)) ?_
  refine gIf ?_ ?_ <;> intro G
  ·have i2 := ik (J - 1) a0
   have w2 : IntKind.i64.wrap ((J : Int) - 1) = (J : Int) - 1 := YN zAA zAA
   simp [i2, ZE, w2, G]
   refine rpG ?_
   refine cK e1 ?_ ?_ <;> intro k4 h2 e1
   ·exact rtg [.tmp 2] (ms f e1)
   ·exact ny1 (an w1 (an w2 G)) e1
  ·refine cK e1 ?_ ?_ <;> intro k5 h3 e1
   ·exact rtg [.tmp 2] (ms f e1)
   ·exact ny1 (an w1 G) e1
 exact rt [.tmp 2] (ms f e1)
theorem Pr (a0 : List Zf) : Sa 144 [rL 3 Zf.row a0] [rB (WD a0)] := by
 have f := me (WD.eq_1 a0)
 refine so func144 ntmps144 ?_
 refine lp1 (jW.eq_2 a0) (fun J => Yq 47 [eL 0 3 a0 Zf.row, eL 5 3 a0 Zf.row, eI 6 (a0.length : Int), eI 7 (J : Int)]) (fun n1 J => a0.length < n1 + J /\ J <= a0.length) (a0.length + 1) 0 (fun p1 J e1 j1 => ?_)
 refine cFf e1 ?_ ?_ <;> intro k2 h1 e1
 ·have i1 := ix h1
  have m2 := ml a0 (k2 0 _ rfl)
  have w1 := wr J
  simp [i1, ZE]
  refine rpS ?_
  refine dIs mixed ?_
  refine cRs (Zq (nth a0 J).Id 0 99) ?_
  refine cGs (fun gg => (Zq (nth a0 J).Key 1 99)) ?_
  refine cGs (fun gg => (Zq (nth a0 J).Error 0 100)) ?_
  refine gIf ?_ ?_ <;> intro G
  ·have i2 := ik (J - 1) a0
   have w2 : IntKind.i64.wrap ((J : Int) - 1) = (J : Int) - 1 := YN zAA zAA
   simp [i2, ZE, w2, UB, G]
   refine rpG ?_
   refine cKo e1 ?_ ?_ <;> intro k4 h2 e1
   ·have q2 := h2; try simp [ZS] at q2
    have f := ms f e1
    simp [G]
    refine rpG ?_
    exact rtg [.tmp 2] f
   ·have q2 := h2; try simp [ZS] at q2
    simp [G]
    refine rpG ?_
    exact ny1 (an w1 (an w2 G)) e1
  ·refine cKo e1 ?_ ?_ <;> intro k5 h3 e1
   ·have q3 := h3; try simp [ZS] at q3
    have f := ms f e1
    simp [G]
    refine rpG ?_
    exact rtg [.tmp 2] f
   ·have q3 := h3; try simp [ZS] at q3
    simp [G]
    refine rpG ?_
    exact ny1 (an w1 G) e1
 exact rt [.tmp 2] (ms f e1)
theorem Fq (a0 : Z8) : Sa 218 [a0.row] [rB (Ok a0)] := by
 have f := me (Ok.eq_1 a0)
 refine so func218 ntmps218 ?_
 refine cRs (Zq a0.Id 0 99) ?_
 refine cGs (fun gg => (K5 a0.MI)) ?_
 refine cGs (fun gg => (Zq a0.Ends 1 10001)) ?_
 refine cGs (fun gg => (Zq a0.R9 1 10001)) ?_
 exact rt [.tmp 2] f
theorem Ik (a0 : List Z8) : Sa 145 [rL 4 Z8.row a0] [rB (T7 a0)] := by
 have f := me (T7.eq_1 a0)
 refine so func145 ntmps145 ?_
 refine lp1 (V6.eq_2 a0) (fun J => Yq 34 [eL 0 4 a0 Z8.row, eL 5 4 a0 Z8.row, eI 6 (a0.length : Int), eI 7 (J : Int)]) (fun n1 J => a0.length < n1 + J /\ J <= a0.length) (a0.length + 1) 0 (fun p1 J e1 j1 => ?_)
 refine cFf e1 ?_ ?_ <;> intro k2 h1 e1
 ·have i1 := ix h1
  have m2 := ml a0 (k2 0 _ rfl)
  have w1 := wr J
  simp [i1, ZE]
  refine rpS ?_
  refine dIs mixed ?_
  refine cRs (Fq (nth a0 J)) ?_
  refine gIf ?_ ?_ <;> intro G
  ·have i2 := ik (J - 1) a0
   have w2 : IntKind.i64.wrap ((J : Int) - 1) = (J : Int) - 1 := YN zAA zAA
   simp [i2, ZE, w2, G]
   refine rpG ?_
   refine cK e1 ?_ ?_ <;> intro k4 h2 e1
   ·exact rtg [.tmp 2] (ms f e1)
   ·exact ny1 (an w1 (an w2 G)) e1
  ·refine cK e1 ?_ ?_ <;> intro k5 h3 e1
   ·exact rtg [.tmp 2] (ms f e1)
   ·exact ny1 (an w1 G) e1
 exact rt [.tmp 2] (ms f e1)
theorem NG (a0 : ZX) : Sa 60 [a0.row] [rB (xV a0)] := by
 have f := me (xV.eq_1 a0)
 refine so func60 ntmps60 ?_
 refine cRs (D1 a0.Zo) ?_
 refine cGs (fun gg => (Pr a0.ZB)) ?_
 refine cGs (fun gg => (Ik a0.Methods)) ?_
 refine cGs (fun gg => (Zq a0.XT 0 6)) ?_
 refine cGs (fun gg => (K5 a0.Now)) ?_
 exact rt [.tmp 2] f
theorem Vh (a0 : Int) : Sa 239 [rI a0] [(RR a0).row] := by
 have f := me (RR.eq_1 a0)
 refine so func239 ntmps239 ?_
 exact rt [.cell 2 61] f
theorem SP (a0 : Int) : Sa 241 [rI a0] [(Tt a0).row] := by
 have f := me (Tt.eq_1 a0)
 refine so func241 ntmps241 ?_
 exact rt [.cell 2 61] f
theorem Jo (a0 : List Yw) (a1 : Int) (a2 : List Int) (a3 : Int) (u0 : Sm 2318336 a0) (u1 : Sm 2318336 a2) : Sa 148 [rL 5 Yw.row a0, rI a1, rL 1 iR a2, rI a3] [rB (Ka a0 a1 a2 a3)] := by
 have f := me (Ka.eq_1 a0 a1 a2 a3)
 refine so func148 ntmps148 ?_
 refine cRs (Ut a0 a1 a2 (sg u0) (sg u1)) ?_
 exact rt [.tmp 8] f
theorem Pm (a0 : List Yw) (a1 : Zl) (u0 : Sm 2314240 a0) : Sa 242 [rL 5 Yw.row a0, a1.row] [rB (ku a0 a1)] := by
 have f := me (ku.eq_1 a0 a1)
 refine so func242 ntmps242 ?_
 refine dIs mixed ?_
 refine cRs (kx a1) ?_
 refine cGs (fun gg => YV.rd (jY a1)) ?_
 refine cGs (fun gg => (Jo a0 a1.Key (Xq a1) a1.Mark (sg u0) (by simp (maxDischargeDepth := 12) [jP]; try omega))) ?_
 exact rt [.tmp 4] f
theorem FI (a0 : ZU) (a1 : ZT) : Sa 336 [a0.row, a1.row] [rI (ze a0 a1)] := by
 have f := me (ze.eq_1 a0 a1)
 refine so func336 ntmps336 ?_
 refine lp1 (xd.eq_2 a0 a1) (fun J => Yq 20 [eX 3 (a1.row.map .d), eL 8 3 a0.ZJ ZT.row, eI 9 (a0.ZJ.length : Int), eI 10 (J : Int)]) (fun n1 J => a0.ZJ.length < n1 + J /\ J <= a0.ZJ.length) (a0.ZJ.length + 1) 0 (fun p1 J e1 j1 => ?_)
 refine cFf e1 ?_ ?_ <;> intro k2 h1 e1
 ·have i1 := ix h1
  have m2 := ml a0.ZJ (k2 8 _ rfl)
  have w1 := wr J
  simp [i1, ZE]
  refine rpS ?_
  refine cRs (kp (nth a0.ZJ J) a1) ?_
  refine cF e1 ?_ ?_ <;> intro k3 h2 e1
  ·exact rt [.tmp 4] (ms f e1)
  exact ny1 w1 e1
 exact rt [.tmp 4] (ms f e1)
theorem KU (a0 : Zg) : Sa 219 [a0.row] [rB (QQ a0)] := by
 have f := me (QQ.eq_1 a0)
 refine so func219 ntmps219 ?_
 refine cRs (K5 a0.X5) ?_
 refine cGs (fun gg => (K5 a0.To)) ?_
 exact rt [.tmp 2] f
theorem OF (a0 : Int) (a1 : Int) : Sa 326 [rI a0, rI a1] [(yA a0 a1).1.row, rB (yA a0 a1).2] := by
 have f := me (yA.eq_1 a0 a1)
 refine so func326 ntmps326 ?_
 refine cGs (fun gg => (KU (Zg.mk (if 0 > a0 then 0 else a0) (if 10000 < a1 then 10000 else a1)))) ?_
 refine cF f ?_ ?_ <;> intro k1 h1 f
 ·exact rt _ f
 exact rt _ f
theorem G5 (a0 : List Zf) (a1 : Zj) : Sa 279 [rL 3 Zf.row a0, a1.row] [(Xm a0 a1).1.row, rB (Xm a0 a1).2] := by
 have f := me (Xm.eq_1 a0 a1)
 refine so func279 ntmps279 ?_
 refine cRs (zQ a0 a1.Authority) ?_
 refine gIf ?_ ?_ <;> intro G
 ·have i1 : (ZV a0 a1.Authority).toNat < a0.length := by have := Qi a0 a1.Authority; exact il
  simp [i1, ZE, G]
  refine rpG ?_
  refine cGg (fun gg => (K5 a1.Time)) ?_
  refine cK f ?_ ?_ <;> intro k1 h1 f
  ·exact rtg _ f
  ·refine dIo mixed ?_
   simp [i1, ZE]
   refine rpG ?_
   refine cRg (OF (W (a1.Time - (nth a0 (ZV a0 a1.Authority).toNat).Error)) (W (a1.Time + (nth a0 (ZV a0 a1.Authority).toNat).Error))) ?_
   exact rtg _ f
 ·refine cGg (fun gg => (K5 a1.Time)) ?_
  refine cK f ?_ ?_ <;> intro k3 h2 f
  ·exact rtg _ f
  ·simp [G] at h2
theorem Dp (a0 : List Zg) (a1 : Int) : Sa 347 [rL 2 Zg.row a0, rI a1] [rI (PZ a0 a1)] := by
 have f := me (PZ.eq_1 a0 a1)
 refine so func347 ntmps347 ?_
 refine lp2 (ju.eq_2 a0 a1) (fun J U => Yq 28 [eI 1 a1, eI 5 J, eL 8 2 a0 Zg.row, eI 9 (a0.length : Int), eI 10 (U : Int)]) (fun n1 J U => a0.length < n1 + U /\ U <= a0.length) (a0.length + 1) 0 0 (fun p1 J U e1 j1 => ?_)
 refine cFf e1 ?_ ?_ <;> intro k2 h1 e1
 ·have i1 := ix h1
  have m2 := ml a0 (k2 8 _ rfl)
  have w1 := wr U
  simp [i1, ZE]
  refine rpS ?_
  refine cRs (KU (nth a0 U)) ?_
  refine cGs (fun gg => (Zq a1 (nth a0 U).X5 (nth a0 U).To)) ?_
  refine cFo e1 ?_ ?_ <;> intro k3 h2 e1
  ·have q2 := h2; try simp [ZS] at q2
   simp
   exact ny2 w1 e1
  have q2 := h2; try simp [ZS] at q2
  simp
  exact ny2 w1 e1
 exact rt [.tmp 4] (ms f e1)
theorem Mt (a0 : List Zg) (a1 : Int) (a2 : Int) : Sa 327 [rL 2 Zg.row a0, rI a1, rI a2] [rB (JQ a0 a1 a2)] := by
 have f := me (JQ.eq_1 a0 a1 a2)
 refine so func327 ntmps327 ?_
 refine cRs (Zq a2 0 (W ((a0.length : Int) - 1))) ?_
 refine cGs (fun gg => (Dp a0 a1)) ?_
 exact rt [.tmp 6] f
theorem Ih (a0 : List Zg) (a1 : Int) : Sa 280 [rL 2 Zg.row a0, rI a1] [(Jk a0 a1).1.row, rB (Jk a0 a1).2] := by
 have f := me (Jk.eq_1 a0 a1)
 refine so func280 ntmps280 ?_
 refine lp4 (Jp.eq_2 a0 a1) (fun J U mz lG => Yq 25 [eL 0 2 a0 Zg.row, eI 1 a1, (4, .one (.bptr 4 0), [.box [.d (.int .i64 0), .d (.int .i64 0)]]), (6, .one (.bptr 6 0), [.box [.d (.int .i64 mz), .d (.int .i64 lG)]]), eB 7 J, eI 8 (U : Int)]) (fun n1 J U mz lG => 10001 < n1 + U) 10002 false 0 0 0 (fun p1 J U mz lG e1 j1 => ?_)
 refine cF e1 ?_ ?_ <;> intro k2 h1 e1
 ·have w1 := wr U
  refine cRs (Mt a0 (U : Int) a1) ?_
  refine cF e1 ?_ ?_ <;> intro k3 h2 e1
  ·refine cF e1 ?_ ?_ <;> intro k4 h3 e1
   ·exact ny4 w1 e1
   exact ny4 w1 e1
  exact ny4 w1 e1
 exact rt _ (ms f e1)
theorem Tf (a0 : List Zf) (a1 : List Zj) (a2 : Int) (u0 : Sm 2318336 a0) (u1 : Sm 2318336 a1) : Sa 203 [rL 3 Zf.row a0, rL 5 Zj.row a1, rI a2] [(QZ a0 a1 a2).1.row, rB (QZ a0 a1 a2).2] := by
 have f := me (QZ.eq_1 a0 a1 a2)
 refine so func203 ntmps203 ?_
 refine lp2 (zu.eq_2 a0 a1) (fun J U => Yq 38 [eL 0 3 a0 Zf.row, eI 2 a2, (6, .one (.bptr 6 0), [.box [.d (.int .i64 0), .d (.int .i64 0)]]), (8, .one (.sref 8 0 0 J.length), [.arr false 2 (J.map Zg.row)]), eL 13 5 a1 Zj.row, eI 14 (a1.length : Int), eI 15 (U : Int)]) (fun n1 J U => a1.length < n1 + U /\ U <= a1.length /\ J.length <= 0 + 1 * U) (a1.length + 1) ([] : List Zg) 0 (fun p1 J U e1 j1 => ?_) (h0 := wkS [((8, 0), none)] [])
 refine cFf e1 ?_ ?_ <;> intro k2 h1 e1
 ·have i1 := ix h1
  have m2 := ml a1 (k2 13 _ rfl)
  have c1 := sl 2318336 a1 (an u0 u1)
  have w1 := wr U
  simp [i1, ZE]
  refine rpS ?_
  refine cRs (G5 a0 (nth a1 U)) ?_
  refine cF e1 ?_ ?_ <;> intro k3 h2 e1
  ·exact rt [.cell 6 59, .tmp 7] (ms f e1)
  exact nx2 e1 (hw := XI [((8, 0), some (31, 0))] [] rfl zAb)
 have f := ms f e1
 refine cRs (Ih J a2) ?_
 exact rt [.cell 6 59, .tmp 7] f
theorem LF (a0 : List Zf) (a1 : ZZ) (a2 : Int) (u0 : Sm 2314240 a0) (u1 : Sm 2314240 a1) : Sa 118 [rL 3 Zf.row a0, a1.row, rI a2] [(Y3 a0 a1 a2).1.row, rB (Y3 a0 a1 a2).2] := by
 have f := me (Y3.eq_1 a0 a1 a2)
 refine so func118 ntmps118 ?_
 refine cRs (Tf a0 a1.YH a2 (sg u0) (sg (ZZ.DA u1))) ?_
 exact rt [.cell 6 59, .tmp 7] f
theorem kV (a0 : ZX) (a1 : ZZ) (u0 : Sm 2310144 a0) (u1 : Sm 2310144 a1) : Sa 93 [a0.row, a1.row] [(Jr a0 a1).1.row, rB (Jr a0 a1).2] := by
 have f := me (Jr.eq_1 a0 a1)
 refine so func93 ntmps93 ?_
 refine cRs (LF a0.ZB a1 a0.XT (sg (ZX.XN u0)) (sg u1)) ?_
 exact rt [.cell 4 59, .tmp 5] f
theorem Qj (h : b) (k : a := by (intros; first | omega | with_unfolding_all (first | first | omega | (have cc : a0.ZP.length <= 2318336 := YS (xs u0); have z0 := g5; simp at z0; have z := qy zAA z0.1; have z2 := z0.2; (try have w3 : IntKind.i64.wrap (a2 - 1) = a2 - 1 := YN zAA zAA); (try have w4 : W (a2 - 1) = a2 - 1 := w3); first | omega | (refine ⟨⟨z0.1, zAA⟩, zAA, zAA⟩) | (simp_all; omega))) | (simp_all; done) | (simp_all; omega) | grind | ((try simp only [Y9, show ∀ x, IntKind.i64.wrap x = W x from fun _ => rfl] at *); omega))) : a /\ b := ⟨k, h⟩
theorem Bm (a0 : ZU) (a1 : List Int) (a2 : Int) (u0 : Sm 2318336 a0) (u1 : Sm 2318336 a1) : Sa 95 [a0.row, rL 1 iR a1, rI a2] [rI (Tr a0 a1 a2)] := by
 have f := me (Tr.eq_1 a0 a1 a2)
 refine so func95 ntmps95 ?_
 refine dIs mixed ?_
 refine cRs (Zq a2 0 (W ((a0.ZP.length : Int) - 1))) ?_
 refine gIo ?_ ?_ <;> intro G
 ·have g5 := G
  have c1 := sl 2318336 a0.ZP (an u0 u1)
  have w1 : IntKind.i64.wrap ((a0.ZP.length : Int) - 1) = (a0.ZP.length : Int) - 1 := YN zAA zAA
  have g1 := G; try simp [ZS, w1] at g1
  have i1 : a2.toNat < a0.ZP.length := zAQ
  simp [i1, ZE, G]
  refine zB9 ?_
  refine cGo (fun gg => (Zq (nth a0.ZP a2.toNat).Count 0 (a0.ZJ.length : Int))) ?_
  simp [G]
  refine zB9 ?_
  refine cKo f ?_ ?_ <;> intro k2 h1 f
  ·have q1 := h1; try simp [ZS, w1] at q1
   simp [G]
   refine zB9 ?_
   exact rtg [.tmp 6] f
  ·have q1 := h1; try simp [ZS, w1] at q1
   simp [i1, ZE, G]
   refine zB9 ?_
   refine cKo f ?_ ?_ <;> intro k3 h2 f
   ·simp [G]
    refine zB9 ?_
    refine dIo mixed ?_
    have i2 : (W (a2 - 1)).toNat < a0.ZP.length := zAQ
    simp [i2, ZE, G]
    refine zB9 ?_
    refine cR (jS (nth a0.ZP a2.toNat).Method (nth a0.ZP (W (a2 - 1)).toNat) (sg (Zp (ZU.zo u0)))) ?_ (lN := by first | (simp; done) | (simp [W, w1]; done))
    simp [G]
    refine zB9 ?_
    refine dIo mixed ?_
    have i3 : a2.toNat < a1.length := zAQ
    simp [i3, ZE, G]
    refine zB9 ?_
    refine cR (U5 (nth a0.ZP a2.toNat).Method (nth a1 a2.toNat) (a0.ZJ.take (nth a0.ZP a2.toNat).Count.toNat) (JU (nth a0.ZP a2.toNat).Method (nth a0.ZP (W (a2 - 1)).toNat)) (ZM (n := 2318336) zAE (xs (an u0 u1)))) ?_ (lN := by first | (simp; done) | (simp [W, w1]; done))
    simp [G]
    refine zB9 ?_
    exact rtg [.tmp 6] f
   ·simp [G]
    refine zB9 ?_
    refine dIo mixed ?_
    have i4 : a2.toNat < a1.length := zAQ
    simp [i4, ZE, G]
    refine zB9 ?_
    refine cR (U5 (nth a0.ZP a2.toNat).Method (nth a1 a2.toNat) (a0.ZJ.take (nth a0.ZP a2.toNat).Count.toNat) 0 (ZM (n := 2318336) zAE (xs (an u0 u1)))) ?_
    simp [G]
    refine zB9 ?_
    exact rtg [.tmp 6] f
 ·have g5 := G
  simp [G]
  refine zB9 ?_
  refine sGo ?_
  simp [G]
  refine zB9 ?_
  have c2 := sl 2318336 a0.ZP (an u0 u1)
  have w2 : IntKind.i64.wrap ((a0.ZP.length : Int) - 1) = (a0.ZP.length : Int) - 1 := YN zAA zAA
  refine cKo f ?_ ?_ <;> intro k7 h3 f
  ·have q3 := h3; try simp [ZS, w2] at q3
   simp [G]
   refine zB9 ?_
   exact rtg [.tmp 6] f
  ·simp [G] at h3
theorem L6 (a0 : Int) (a1 : Int) (a2 : List Xx) : Sa 176 [rI a0, rI a1, rL 2 Xx.row a2] [rI (SJ a0 a1 a2)] := by
 have f := me (SJ.eq_1 a0 a1 a2)
 refine so func176 ntmps176 ?_
 refine lp2 (ka.eq_2 a0 a2) (fun J U => Yq 29 [eI 0 a0, eI 1 J, eL 9 2 a2 Xx.row, eI 10 (a2.length : Int), eI 11 (U : Int)]) (fun n1 J U => a2.length < n1 + U /\ U <= a2.length) (a2.length + 1) a1 0 (fun p1 J U e1 j1 => ?_)
 refine cFf e1 ?_ ?_ <;> intro k2 h1 e1
 ·have i1 := ix h1
  have m2 := ml a2 (k2 9 _ rfl)
  have w1 := wr U
  simp [i1, ZE]
  refine rpS ?_
  refine cF e1 ?_ ?_ <;> intro k3 h2 e1
  ·refine cRs (W7 a0 (nth a2 U).QK J) ?_
   exact ny2 w1 e1
  refine cRs (W7 a0 J (nth a2 U).QK) ?_
  exact ny2 w1 e1
 exact rt [.tmp 6] (ms f e1)
theorem xM (a0 : List Zj) : Sa 177 [rL 5 Zj.row a0] [rB (Kr a0)] := by
 have f := me (Kr.eq_1 a0)
 refine so func177 ntmps177 ?_
 refine lp1 (xj.eq_2 a0) (fun J => Yq 22 [eL 0 5 a0 Zj.row, eI 3 (J : Int)]) (fun n1 J => a0.length < n1 + J /\ 1 <= J) (a0.length + 1) 1 (fun p1 J e1 j1 => ?_)
 refine cF e1 ?_ ?_ <;> intro k2 h1 e1
 ·have i1 := ix h1
  have m2 := ml a0 (k2 0 _ rfl)
  have w1 := wr J
  refine dIo mixed ?_
  have i2 := ik (J - 1) a0
  have w2 : IntKind.i64.wrap ((J : Int) - 1) = (J : Int) - 1 := YN zAA zAA
  simp [i2, ZE, w2, i1]
  refine rpS ?_
  refine cF e1 ?_ ?_ <;> intro k4 h2 e1
  ·exact rt [.tmp 2] (ms f e1)
  exact ny1 (an w1 w2) e1
 exact rt [.tmp 2] (ms f e1)
theorem IZ (a0 : List Yw) (a1 : List Zf) (a2 : Zj) (u0 : Sm 2314240 a0) (u1 : Sm 2314240 a1) : Sa 178 [rL 5 Yw.row a0, rL 3 Zf.row a1, a2.row] [rB (SD a0 a1 a2)] := by
 have f := me (SD.eq_1 a0 a1 a2)
 refine so func178 ntmps178 ?_
 refine cRs (j9 a0 a1 a2 (sg u0) (sg u1)) ?_
 exact rt [.tmp 6] f
theorem Ns (a0 : List Yw) (a1 : List Zf) (a2 : ZZ) (a3 : Int) (u0 : Sm 2310144 a0) (u1 : Sm 2310144 a1) (u2 : Sm 2310144 a2) : Sa 94 [rL 5 Yw.row a0, rL 3 Zf.row a1, a2.row, rI a3] [rB (V3 a0 a1 a2 a3)] := by
 have f := me (V3.eq_1 a0 a1 a2 a3)
 refine so func94 ntmps94 ?_
 refine dIs mixed ?_
 refine cGs (fun gg => (L6 a2.Method a3 a2.Path)) ?_
 refine cGs (fun gg => (Zq (a2.YH.length : Int) 1 6)) ?_
 refine cGs (fun gg => (xM a2.YH)) ?_
 refine cFo f ?_ ?_ <;> intro k2 h1 f
 ·have q1 := h1; try simp [ZS] at q1
  simp
  exact rt [.tmp 8] f
 have q1 := h1; try simp [ZS] at q1
 simp
 refine lp1 (WG.eq_2 a0 a1 a2) (fun J => Yq 59 [eL 0 5 a0 Yw.row, eL 1 3 a1 Zf.row, eX 6 (a2.row.map .d), eL 40 5 a2.YH Zj.row, eI 41 (a2.YH.length : Int), eI 42 (J : Int)]) (fun n1 J => a2.YH.length < n1 + J /\ J <= a2.YH.length) (a2.YH.length + 1) 0 (fun p1 J e1 j1 => ?_)
 refine cFf e1 ?_ ?_ <;> intro k4 h2 e1
 ·have i1 := ix h2
  have m2 := ml a2.YH (k4 40 _ rfl)
  have c1 := sl 2310144 a2.YH (an u0 (an u1 u2))
  have w1 := wr J
  simp [i1, ZE]
  refine rpS ?_
  refine cGs (fun gg => (IZ a0 a1 (nth a2.YH J) (sg u0) (sg u1))) ?_
  refine cF e1 ?_ ?_ <;> intro k5 h3 e1
  ·exact rt [.tmp 8] (ms f e1)
  exact ny1 w1 e1
 have c2 := sl 2310144 a2.YH (an u0 (an u1 u2))
 exact rt [.tmp 8] (ms f e1)
theorem TS (a0 : List Zf) (a1 : Zj) : Sa 260 [rL 3 Zf.row a0, a1.row] [rI (X0 a0 a1)] := by
 have f := me (X0.eq_1 a0 a1)
 refine so func260 ntmps260 ?_
 refine cRs (zQ a0 a1.Authority) ?_
 refine cFf f ?_ ?_ <;> intro k1 h1 f
 ·have i1 : (ZV a0 a1.Authority).toNat < a0.length := by have := Qi a0 a1.Authority; exact il
  simp [i1, ZE]
  refine rpS ?_
  exact rt [.tmp 4] f
 exact rt [.tmp 4] f
theorem N6 (a0 : List Yw) (a1 : List Zf) (a2 : List Z8) (a3 : ZZ) : Sa 179 [rL 5 Yw.row a0, rL 3 Zf.row a1, rL 4 Z8.row a2, a3.row] [rI (Js a0 a1 a2 a3)] := by
 have f := me (Js.eq_1 a0 a1 a2 a3)
 refine so func179 ntmps179 ?_
 refine cRs (VM a2 a3.Method) ?_
 refine lp2 (yg.eq_2 a0 a1 a2 a3) (fun J U => Yq 42 [eL 0 5 a0 Yw.row, eL 1 3 a1 Zf.row, eL 2 4 a2 Z8.row, eI 9 J, eL 18 5 a3.YH Zj.row, eI 19 (a3.YH.length : Int), eI 20 (U : Int)]) (fun n1 J U => a3.YH.length < n1 + U /\ U <= a3.YH.length) (a3.YH.length + 1) (zY a2 a3.Method) 0 (fun p1 J U e1 j1 => ?_)
 refine cFf e1 ?_ ?_ <;> intro k2 h1 e1
 ·have i1 := ix h1
  have m2 := ml a3.YH (k2 18 _ rfl)
  have w1 := wr U
  simp [i1, ZE]
  refine rpS ?_
  refine cRs (TS a1 (nth a3.YH U)) ?_
  refine cRs (JS a0 (X0 a1 (nth a3.YH U))) ?_
  refine cFt e1 ?_ ?_ <;> intro k3 h2 e1
  ·exact rt [.tmp 8] (ms f e1)
  have i2 : (Zt a0 (X0 a1 (nth a3.YH U))).toNat < a0.length := by have := Kw a0 (X0 a1 (nth a3.YH U)); exact il
  simp [i2, ZE]
  refine rpS ?_
  refine cRs (VM a2 (nth a0 (Zt a0 (X0 a1 (nth a3.YH U))).toNat).Method) ?_
  exact ny2 w1 e1
 exact rt [.tmp 8] (ms f e1)
theorem RZ (h : b) (k : a := by (intros; first | omega | with_unfolding_all (first | (first | omega | (have mm : a1.ZP.length <= 2306048 := YS (xs u1); have ww := LJ a1.ZP.length zAA; (try rw [ww] at q1); (try rw [ww] at q2); have w3 : W (a2 + 1) = a2 + 1 := YN zAA zAA; have w4 : IntKind.i64.wrap (a2 + 1) = a2 + 1 := w3; omega))) | ((try simp only [Y9, show ∀ x, IntKind.i64.wrap x = W x from fun _ => rfl] at *); omega))) : a /\ b := ⟨k, h⟩
theorem PB (a0 : ZX) (a1 : ZU) (a2 : Int) (u0 : Sm 2306048 a0) (u1 : Sm 2306048 a1) : Sa 96 [a0.row, a1.row, rI a2] [rB (zk a0 a1 a2)] := by
 have f := me (zk.eq_1 a0 a1 a2)
 refine so func96 ntmps96 ?_
 refine cRs (Zq a2 0 (W ((a1.ZP.length : Int) - 1))) ?_
 have c1 := sl 2306048 a1.ZP (an u0 u1)
 have w1 : IntKind.i64.wrap ((a1.ZP.length : Int) - 1) = (a1.ZP.length : Int) - 1 := YN zAA zAA
 refine cFo f ?_ ?_ <;> intro k1 h1 f
 ·have q1 := h1; try simp [ZS, w1] at q1
  simp
  exact rt [.tmp 6] f
 have q1 := h1; try simp [ZS, w1] at q1
 simp
 refine dIo mixed ?_
 have i1 : a2.toNat < a1.ZP.length := zAh
 simp [i1, ZE]
 repeat with_reducible refine RZ ?_
 refine cRs (N6 a0.Zo a0.ZB a0.Methods (nth a1.ZP a2.toNat)) ?_
 refine cFo f ?_ ?_ <;> intro k3 h2 f
 ·have q2 := h2; try simp [w1] at q2
  simp
  exact rt [.tmp 6] f
 have q2 := h2; try simp [w1] at q2
 simp
 refine dIo mixed ?_
 have i2 : (W (a2 + 1)).toNat < a1.ZP.length := zAh
 simp [i2, ZE]
 repeat with_reducible refine RZ ?_
 refine cRs (kV a0 (nth a1.ZP (W (a2 + 1)).toNat) (sg u0) (sg (Zp (ZU.zo u1)))) ?_ (lN := by first | (simp; done) | (simp [W, w1]; done))
 exact rt [.tmp 6] f
theorem G7 (a0 : ZX) (a1 : ZU) (a2 : List Int) (u0 : Sm 2301952 a0) (u1 : Sm 2301952 a1) (u2 : Sm 2301952 a2) : Sa 30 [a0.row, a1.row, rL 1 iR a2] [rI (z5 a0 a1 a2)] := by
 have f := me (z5.eq_1 a0 a1 a2)
 refine so func30 ntmps30 ?_
 refine okL fun k1 => ?_
 refine lp1 (K4.eq_2 a0 a1 a2) (fun J => Yq 58 [eL 2 1 a2 iR, eX 3 (a0.row.map .d), eX 4 (a1.row.map .d), eI 7 (J : Int)]) (fun n1 J => J < n1 /\ J <= a1.ZP.length) (a1.ZP.length + 1) a1.ZP.length (fun p1 J e1 j1 => ?_)
 refine cFo e1 ?_ ?_ <;> intro k2 h1 e1
 ·have q1 := h1; try simp at q1
  have m1 := ml a1.ZP (k1 11 _ rfl)
  have w1 : IntKind.i64.wrap ((J : Int) - 1) = (J : Int) - 1 := YN zAA zAA
  have w2 : ((J - 1 : Nat) : Int) = (J : Int) - 1 := zAA
  simp
  refine dIo mixed ?_
  have i2 := ik (J - 1) a1.ZP
  simp [i2, ZE, w1, UB]
  refine rpS ?_
  refine cRs (kV a0 (nth a1.ZP (J - 1)) (sg u0) (sg (Zp (ZU.zo u1)))) ?_
  refine dIs mixed ?_
  refine gIf ?_ ?_ <;> intro G
  ·have g5 := G
   have g1 := G; try simp at g1
   simp [i2, ZE, w1, UB, G]
   refine rpG ?_
   refine vA rfl rfl rfl rfl rfl rfl (fun gg => (Bm a1 a2 (W ((J : Int) - 1)) (sg u1) (sg u2))) zAM zAM zAM zAM ?_
   simp [G]
   refine rpG ?_
   refine vA rfl rfl rfl rfl rfl rfl (fun gg => (Ns a0.Zo a0.ZB (nth a1.ZP (J - 1)) (Tr a1 a2 (W ((J : Int) - 1))) (sg (ZX.XS u0)) (sg (ZX.XN u0)) (sg (Zp (ZU.zo u1))))) zAM zAM zAM zAM ?_
   simp [G]
   refine rpG ?_
   refine vA rfl rfl rfl rfl rfl rfl (fun gg => (PB a0 a1 (W ((J : Int) - 1)) (sg u0) (sg u1))) zAM zAM zAM zAM ?_
   simp [G]
   refine rpG ?_
   refine cKo e1 ?_ ?_ <;> intro k5 h2 e1
   ·have q2 := h2; try simp [w1, w2] at q2
    have f := ms f e1
    simp [G]
    refine rpG ?_
    exact rtg [.tmp 6] f
   ·have q2 := h2; try simp [w1, w2] at q2
    simp [G]
    refine rpG ?_
    exact ny1 (an w1 (an w2 G)) e1
  ·have g5 := G
   refine sGo ?_
   simp [G]
   refine rpG ?_
   refine sGo ?_
   simp [G]
   refine rpG ?_
   refine vA rfl rfl rfl rfl rfl rfl (fun gg => (PB a0 a1 (W ((J : Int) - 1)) (sg u0) (sg u1))) zAM zAM zAM zAM ?_
   simp [G]
   refine rpG ?_
   refine cKo e1 ?_ ?_ <;> intro k6 h3 e1
   ·have q3 := h3; try simp [w1, w2] at q3
    have f := ms f e1
    simp [G]
    refine rpG ?_
    exact rtg [.tmp 6] f
   ·simp [G] at h3
 have q1 := h1; try simp at q1
 have f := ms f e1
 simp
 exact rt [.tmp 6] f
theorem DO (a0 : ZX) (a1 : ZU) (a2 : List Int) (a3 : Int) (u0 : Sm 2297856 a0) (u1 : Sm 2297856 a1) (u2 : Sm 2297856 a2) : Sa 31 [a0.row, a1.row, rL 1 iR a2, rI a3] [rI (xW a0 a1 a2 a3)] := by
 have f := me (xW.eq_1 a0 a1 a2 a3)
 refine so func31 ntmps31 ?_
 refine cRs (G7 a0 a1 a2 (sg u0) (sg u1) (sg u2)) ?_
 refine lp2 (zf.eq_2 a0 a1 a3) (fun J U => Yq 49 [eI 3 a3, eX 4 (a0.row.map .d), eX 5 (a1.row.map .d), eI 9 J, eI 10 U]) (fun n1 J U => (a1.ZP.length : Int) + 1 < n1 + U /\ 0 <= U /\ U <= a1.ZP.length) (a1.ZP.length + 2) a0.Now (z5 a0 a1 a2) (fun p1 J U e1 j1 => ?_) (hI := by (have z := Il a0 a1 a2; (try dsimp only); omega))
 try dsimp only at j1
 refine cF e1 ?_ ?_ <;> intro k2 h1 e1
 ·refine okD fun k3 => ?_
  refine dIo mixed ?_
  have i1 := ik U.toNat a1.ZP
  simp [i1, ZE]
  refine rpS ?_
  refine cRf i1 (kV a0 (nth a1.ZP U.toNat) (sg u0) (sg (Zp (ZU.zo u1)))) ?_
  refine cF e1 ?_ ?_ <;> intro k4 h2 e1
  ·exact nx2 e1 (hI := by (have cc : a1.ZP.length <= 2297856 := YS (xs u1); have w2 : W (U + 1) = U + 1 := YN (by simp at *; omega) (by simp at *; omega); (try dsimp only); rw [w2]; simp at *; omega))
  exact nx2 e1 (hI := by (have cc : a1.ZP.length <= 2297856 := YS (xs u1); have w2 : W (U + 1) = U + 1 := YN (by simp at *; omega) (by simp at *; omega); (try dsimp only); rw [w2]; simp at *; omega))
 exact rt [.tmp 8] (ms f e1)
theorem L9 (a0 : ZX) (a1 : ZU) (a2 : List Int) (a3 : ZT) (u0 : Sm 2293760 a0) (u1 : Sm 2293760 a1) (u2 : Sm 2293760 a2) (u3 : Sm 2293760 a3) : Sa 305 [a0.row, a1.row, rL 1 iR a2, a3.row] [rI (zz a0 a1 a2 a3)] := by
 have f := me (zz.eq_1 a0 a1 a2 a3)
 refine so func305 ntmps305 ?_
 refine cRs (FI a1 a3) ?_
 refine cF f ?_ ?_ <;> intro k1 h1 f
 ·exact rt [.tmp 8] f
 refine cRs (DO a0 a1 a2 (ze a1 a3) (sg u0) (sg u1) (sg u2)) ?_
 exact rt [.tmp 8] f
theorem UM (a0 : ZX) (a1 : Z0) (a2 : List (List Int)) (a3 : ZT) (u0 : Sm 2289664 a0) (u1 : Sm 2289664 a1) (u2 : Sm 2289664 a2) (u3 : Sm 2289664 a3) : Sa 243 [a0.row, a1.row, rL 1 (slR 1 iR) a2, a3.row] [rI (Yr a0 a1 a2 a3)] := by
 have f := me (Yr.eq_1 a0 a1 a2 a3)
 refine so func243 ntmps243 ?_
 refine lp2 (zt.eq_2 a0 a1 a2 a3) (fun J U => Yq 38 [eL 2 1 a2 (slR 1 iR), eX 4 (a0.row.map .d), eX 7 (a3.row.map .d), eI 9 J, eL 15 2 a1.Zy ZU.row, eI 16 (a1.Zy.length : Int), eI 17 (U : Int)]) (fun n1 J U => a1.Zy.length < n1 + U /\ U <= a1.Zy.length) (a1.Zy.length + 1) a0.Now 0 (fun p1 J U e1 j1 => ?_)
 refine cFf e1 ?_ ?_ <;> intro k2 h1 e1
 ·have i1 := ix h1
  have m2 := ml a1.Zy (k2 15 _ rfl)
  have c1 := sl 2289664 a1.Zy (an u0 (an u1 (an u2 u3)))
  have w1 := wr U
  simp [i1, ZE]
  refine rpS ?_
  refine cF e1 ?_ ?_ <;> intro k3 h2 e1
  ·have i2 := ix h2
   have m4 := ml a2 (k3 2 _ rfl)
   have c2 := sl 2289664 a2 (an u0 (an u1 (an u2 u3)))
   have w2 := wr U
   refine dIo mixed ?_
   simp [i2, ZE]
   refine rpS ?_
   refine cRs (L9 a0 (nth a1.Zy U) (nth a2 U) a3 (sg u0) (sg (Zp (Z0.QY u1))) (sg (Zp u2)) (sg u3)) ?_
   exact ny2 w2 e1
  have c3 := sl 2289664 a2 (an u0 (an u1 (an u2 u3)))
  exact ny2 w1 e1
 have c4 := sl 2289664 a1.Zy (an u0 (an u1 (an u2 u3)))
 exact rt [.tmp 8] (ms f e1)
theorem Tz (a0 : ZT) : Sa 310 [a0.row] [(K6 a0).1.row, rB (K6 a0).2] := by
 have f := me (K6.eq_1 a0)
 refine so func310 ntmps310 ?_
 refine dIs mixed ?_
 refine cRs (zH a0) ?_
 refine gIf ?_ ?_ <;> intro G
 ·have g1 := G; try simp at g1
  have i1 : 4 < a0.Yf.length := zAV
  simp [i1, ZE, G]
  refine rpG ?_
  refine cK f ?_ ?_ <;> intro k2 h1 f
  ·exact rtg _ f
  ·refine dIo mixed ?_
   have i2 : 1 < a0.Yf.length := zAV
   have i3 : 2 < a0.Yf.length := zAV
   have i4 : 3 < a0.Yf.length := zAV
   simp [i2, ZE, i3, i4, i1]
   refine rpG ?_
   exact rtg _ f
 ·refine cK f ?_ ?_ <;> intro k4 h2 f
  ·exact rtg _ f
  ·simp [G] at h2
theorem I5 (a0 : ZT) : Sa 337 [a0.row] [(VJ a0).1.row, rB (VJ a0).2] := by
 have f := me (VJ.eq_1 a0)
 refine so func337 ntmps337 ?_
 refine cRs (zH a0) ?_
 refine cF f ?_ ?_ <;> intro k1 h1 f
 ·exact rt _ f
 refine dIo mixed ?_
 have i1 : 1 < a0.Yf.length := zAV
 have i2 : 2 < a0.Yf.length := zAV
 have i3 : 3 < a0.Yf.length := zAV
 have i4 : 4 < a0.Yf.length := zAV
 simp [i1, ZE, i2, i3, i4]
 refine rpS ?_
 exact rt _ f
theorem Gb (a0 : ZT) : Sa 338 [a0.row] [(U4 a0).1.row, rB (U4 a0).2] := by
 have f := me (U4.eq_1 a0)
 refine so func338 ntmps338 ?_
 refine dIs mixed ?_
 refine cRs (zH a0) ?_
 refine gIf ?_ ?_ <;> intro G
 ·have g1 := G; try simp at g1
  have i1 : 1 < a0.Yf.length := zAV
  simp [i1, ZE, G]
  refine rpG ?_
  refine cK f ?_ ?_ <;> intro k2 h1 f
  ·exact rtg _ f
  ·refine dIo mixed ?_
   have i2 : 2 < a0.Yf.length := zAV
   have i3 : 3 < a0.Yf.length := zAV
   have i4 : 4 < a0.Yf.length := zAV
   have i5 : 5 < a0.Yf.length := zAV
   have i6 : 6 < a0.Yf.length := zAV
   have i7 : 7 < a0.Yf.length := zAV
   have i8 : 8 < a0.Yf.length := zAV
   simp [i1, ZE, i2, i3, i4, i5, i6, i7, i8]
   refine rpG ?_
   exact rtg _ f
 ·refine cK f ?_ ?_ <;> intro k4 h2 f
  ·exact rtg _ f
  ·simp [G] at h2
theorem Un (a0 : ZT) : Sa 315 [a0.row] [(ye a0).1.row, rB (ye a0).2] := by
 have f := me (ye.eq_1 a0)
 refine so func315 ntmps315 ?_
 refine dIs mixed ?_
 refine cRs (zH a0) ?_
 refine gIf ?_ ?_ <;> intro G
 ·have g1 := G; try simp at g1
  have i1 : 5 < a0.Yf.length := zAV
  simp [i1, ZE, G]
  refine rpG ?_
  refine cK f ?_ ?_ <;> intro k2 h1 f
  ·exact rtg _ f
  ·refine dIo mixed ?_
   have i2 : 1 < a0.Yf.length := zAV
   have i3 : 2 < a0.Yf.length := zAV
   have i4 : 3 < a0.Yf.length := zAV
   have i5 : 4 < a0.Yf.length := zAV
   simp [i2, ZE, i3, i4, i5, i1]
   refine rpG ?_
   exact rtg _ f
 ·refine cK f ?_ ?_ <;> intro k4 h2 f
  ·exact rtg _ f
  ·simp [G] at h2
theorem IX (a0 : List Yw) (a1 : ZT) (u0 : Sm 2314240 a0) (u1 : Sm 2314240 a1) : Sa 306 [rL 5 Yw.row a0, a1.row] [rB (SN a0 a1)] := by
 have f := me (SN.eq_1 a0 a1)
 refine so func306 ntmps306 ?_
 refine cRs (zH a1) ?_
 refine cF f ?_ ?_ <;> intro k1 h1 f
 ·refine cRs (UA a1) ?_
  refine cGs (fun gg => (Jo a0 a1.Key a1.Yf a1.Mark (sg u0) (sg (ZT.T6 u1)))) ?_
  exact rt [.tmp 4] f
 refine cF f ?_ ?_ <;> intro k2 h2 f
 ·refine cRs (Tz a1) ?_
  refine cGs (fun gg => (Jo a0 a1.Key a1.Yf a1.Mark (sg u0) (sg (ZT.T6 u1)))) ?_
  exact rt [.tmp 4] f
 refine cF f ?_ ?_ <;> intro k3 h3 f
 ·refine cRs (I5 a1) ?_
  refine cGs (fun gg => (Jo a0 a1.Key a1.Yf a1.Mark (sg u0) (sg (ZT.T6 u1)))) ?_
  exact rt [.tmp 4] f
 refine cF f ?_ ?_ <;> intro k4 h4 f
 ·refine cRs (Gb a1) ?_
  refine cGs (fun gg => (Jo a0 a1.Key a1.Yf a1.Mark (sg u0) (sg (ZT.T6 u1)))) ?_
  exact rt [.tmp 4] f
 refine cF f ?_ ?_ <;> intro k5 h5 f
 ·refine cRs (Un a1) ?_
  refine cGs (fun gg => (Jo a0 a1.Key a1.Yf a1.Mark (sg u0) (sg (ZT.T6 u1)))) ?_
  exact rt [.tmp 4] f
 refine cGs (fun gg => (Jo a0 a1.Key a1.Yf a1.Mark (sg u0) (sg (ZT.T6 u1)))) ?_
 exact rt [.tmp 4] f
theorem MT (a0 : ZT) (a1 : ZT) : Sa 307 [a0.row, a1.row] [rB (TG a0 a1)] := by
 have f := me (TG.eq_1 a0 a1)
 refine so func307 ntmps307 ?_
 refine lp1 (W0.eq_2 a0 a1) (fun J => Yq 73 [eX 2 (a0.row.map .d), eX 3 (a1.row.map .d), eI 5 (J : Int)]) (fun n1 J => a0.Yf.length < n1 + J /\ J <= a0.Yf.length) (a0.Yf.length + 1) 0 (fun p1 J e1 j1 => ?_)
 refine cF e1 ?_ ?_ <;> intro k2 h1 e1
 ·have i1 : J < a0.Yf.length := zBq
  have m2 := ml a0.Yf (k2 8 _ rfl)
  have w1 := wr J
  refine dIo mixed ?_
  have i2 := ik J a1.Yf
  simp [i1, ZE, i2]
  refine rpS ?_
  refine cF e1 ?_ ?_ <;> intro k4 h2 e1
  ·refine okD fun k5 => ?_
   refine dIo mixed ?_
   have f := ms f e1
   simp [i1, ZE, i2]
   refine rpS ?_
   exact rt [.tmp 4] f
  exact ny1 w1 e1
 have f := ms f e1
 refine cF f ?_ ?_ <;> intro k6 h3 f
 ·exact rt [.tmp 4] f
 refine cF f ?_ ?_ <;> intro k7 h4 f
 ·exact rt [.tmp 4] f
 exact rt [.tmp 4] f
theorem Uj (h : b) (k : a := by (intros; first | omega | with_unfolding_all (first | (first | omega | (simp_all; done) | (simp_all; omega))) | ((try simp only [Y9, show ∀ x, IntKind.i64.wrap x = W x from fun _ => rfl] at *); omega))) : a /\ b := ⟨k, h⟩
theorem YT (h : b) (k : a := by (intros; first | omega | with_unfolding_all (first | (first | omega | (simp_all; done) | (simp_all; omega))) | (simp_all; done) | (simp_all; omega) | grind | ((try simp only [Y9, show ∀ x, IntKind.i64.wrap x = W x from fun _ => rfl] at *); omega))) : a /\ b := ⟨k, h⟩
theorem NY (a0 : ZX) (a1 : Z0) (a2 : List (List Int)) (u0 : Sm 2285568 a0) (u1 : Sm 2285568 a1) (u2 : Sm 2285568 a2) (u3 : ru a1 <= 2097152) : So 244 [a0.row, a1.row, rL 1 (slR 1 iR) a2] [rL 3 ZT.row (Z2 a0 a1 a2)] := by
 have f := me (Z2.eq_1 a0 a1 a2)
 refine so func244 ntmps244 ?_
 refine lp2 (yf.eq_2 a0 a1 a2) (fun J U => Yq 79 [eL 2 1 a2 (slR 1 iR), eX 3 (a0.row.map .d), eX 4 (a1.row.map .d), (7, .one (.sref 7 0 0 J.length), [.arr false 3 (J.map ZT.row)]), eL 14 2 a1.Zy ZU.row, eI 15 (a1.Zy.length : Int), eI 16 (U : Int)]) (fun n1 J U => a1.Zy.length < n1 + U /\ U <= a1.Zy.length /\ J.length + cnL (fun s : ZU => s.ZJ.length) (a1.Zy.drop U) <= 2097152 /\ Sm 2285568 J) (a1.Zy.length + 1) ([] : List ZT) 0 (fun p1 J U e1 j1 => ?_) (hI := by (have u : cnL (fun s : ZU => s.ZJ.length) a1.Zy <= 2097152 := u3; (try dsimp only); refine ⟨zAA, zAA, zAA, ?_, ⟨Nat.zero_le _, fun x hx => by cases hx⟩⟩; rw [List.drop_zero]; simp only [List.length_nil]; omega)) (h0 := wkS [((7, 0), none)] [])
 try dsimp only at j1
 refine cFo e1 ?_ ?_ <;> intro k2 h1 e1
 ·have q1 := h1; try simp at q1
  have i1 := ix h1
  have m2 := ml a1.Zy (k2 14 _ rfl)
  have c1 := sl 2285568 a1.Zy (an u0 (an u1 (an u2 u3)))
  have w1 := wr U
  simp [i1, ZE]
  repeat with_reducible refine Uj ?_
  refine lp2 (KB.eq_2 a0 a1 a2 U) (fun m0 m9 => Yq 79 [eL 2 1 a2 (slR 1 iR), eX 3 (a0.row.map .d), eX 4 (a1.row.map .d), (7, .one (.sref 7 0 0 m0.length), [.arr false 3 (m0.map ZT.row)]), eL 14 2 a1.Zy ZU.row, eI 15 (a1.Zy.length : Int), eI 16 (U : Int), eL 21 3 (nth a1.Zy U).ZJ ZT.row, eI 22 ((nth a1.Zy U).ZJ.length : Int), eI 23 (m9 : Int)]) (fun n2 m0 m9 => (nth a1.Zy U).ZJ.length < n2 + m9 /\ m9 <= (nth a1.Zy U).ZJ.length /\ m0.length + ((nth a1.Zy U).ZJ.length - m9) + cnL (fun s : ZU => s.ZJ.length) (a1.Zy.drop (U + 1)) <= 2097152 /\ Sm 2285568 m0) ((nth a1.Zy U).ZJ.length + 1) J 0 (fun p2 m0 m9 e2 j2 => ?_) (hI := by (have d := wh (l := a1.Zy) (i := U) zAX; refine ⟨?_, ?_, ?_, ?_, j1.2.2.2.2⟩ <;> ((try dsimp only); omega)))
  try dsimp only at j2
  refine cFo e2 ?_ ?_ <;> intro k4 h2 e2
  ·have q2 := h2; try simp at q2
   have i2 := ix h2
   have m4 := ml (nth a1.Zy U).ZJ (k4 21 _ rfl)
   have c2 := sl 2285568 (nth a1.Zy U).ZJ (an u0 (an u1 (an u2 u3)))
   have w2 := wr m9
   simp [i2, ZE]
   repeat with_reducible refine Uj ?_
   refine dIs mixed ?_
   refine cRs (WQ m0 (nth (nth a1.Zy U).ZJ m9)) ?_
   refine cGs (fun gg => (IX a0.Zo (nth (nth a1.Zy U).ZJ m9) zAL zAL)) ?_
   refine cGs (fun gg => (UM a0 a1 a2 (nth (nth a1.Zy U).ZJ m9) zAL zAL zAL zAL)) ?_
   refine cGs (fun gg => (W3 a0 (nth (nth a1.Zy U).ZJ m9).Key)) ?_
   refine cFo e2 ?_ ?_ <;> intro k6 h3 e2
   ·have q3 := h3; try simp at q3
    simp
    exact ny2 (an w1 w2) e2 (hI := by first | (refine ⟨?_, ?_, ?_, ?_, j2.2.2.2.2⟩ <;> ((try dsimp only); omega)) | (have pk : Sm 2285568 (nth (nth a1.Zy U).ZJ m9) := Zp (ZU.QC (Zp (Z0.QY u1))); obtain ⟨q1, q2⟩ := Cb (z := lj) j2.2.2.2.2 pk zAA; refine ⟨?_, ?_, ?_, ?_, q1⟩ <;> ((try dsimp only); omega)))
   have q3 := h3; try simp at q3
   simp
   refine lp1 (qm.eq_2 a1 U m0 m9) (fun lj => Yq 79 [eL 2 1 a2 (slR 1 iR), eX 3 (a0.row.map .d), eX 4 (a1.row.map .d), (7, .one (.sref 7 0 0 m0.length), [.arr false 3 (m0.map ZT.row)]), eX 11 ((nth (nth a1.Zy U).ZJ m9).row.map .d), eI 12 (lj : Int), eL 14 2 a1.Zy ZU.row, eI 15 (a1.Zy.length : Int), eI 16 (U : Int), eL 21 3 (nth a1.Zy U).ZJ ZT.row, eI 22 ((nth a1.Zy U).ZJ.length : Int), eI 23 (m9 : Int)]) (fun n3 lj => m0.length < n3 + lj /\ lj <= m0.length) (m0.length + 1) 0 (fun p3 lj e3 j3 => ?_)
   try dsimp only at j3
   refine dIs mixed ?_
   refine gIo ?_ ?_ <;> intro G
   ·have g5 := G
    have g1 := G; try simp at g1
    have i3 := ik lj m0
    simp [i3, ZE, G]
    refine zB8 ?_
    refine cGo (fun gg => (MT (nth m0 lj) (nth (nth a1.Zy U).ZJ m9))) ?_
    simp [G]
    refine zB8 ?_
    refine cKo e3 ?_ ?_ <;> intro k9 h4 e3
    ·have q4 := h4; try simp at q4
     have i4 : lj < m0.length := by (simp at h4; omega)
     have m6 := ml m0 (k9 7 _ rfl)
     have w3 := wr lj
     simp [G]
     refine zB8 ?_
     exact ny1 (an w1 (an w2 (an w3 G))) e3
    ·have q4 := h4; try simp at q4
     have e2 := ms e2 e3
     simp [G]
     refine zB8 ?_
     refine dIo mixed ?_
     simp [G]
     refine zB8 ?_
     refine evI rfl rfl rfl ?_
     simp [G]
     refine zB8 ?_
     refine evI rfl rfl rfl ?_
     simp [G]
     refine zB8 ?_
     refine cR (YV.rd (jN (nth (nth a1.Zy U).ZJ m9) zAL)) ?_
     simp [G]
     refine zB8 ?_
     refine evI rfl rfl rfl ?_
     simp [G]
     refine zB8 ?_
     refine evI rfl rfl rfl ?_
     simp [G]
     refine zB8 ?_
     refine evI rfl rfl rfl ?_
     simp [G]
     refine zB8 ?_
     exact nx2 e2 (hI := by first | (refine ⟨?_, ?_, ?_, ?_, j2.2.2.2.2⟩ <;> ((try dsimp only); omega)) | (have pk : Sm 2285568 (nth (nth a1.Zy U).ZJ m9) := Zp (ZU.QC (Zp (Z0.QY u1))); obtain ⟨q1, q2⟩ := Cb (z := lj) j2.2.2.2.2 pk zAA; refine ⟨?_, ?_, ?_, ?_, q1⟩ <;> ((try dsimp only); omega))) (hw := XI [((7, 0), some (75, 0))] [] rfl (by simp [w1, w2, G]))
   ·have g5 := G
    simp [G]
    refine zB8 ?_
    refine sGo ?_
    simp [G]
    refine zB8 ?_
    refine cKo e3 ?_ ?_ <;> intro bg h5 e3
    ·simp [G] at h5
    ·have q5 := h5; try simp at q5
     have e2 := ms e2 e3
     simp [G]
     refine zB8 ?_
     refine dIo mixed ?_
     simp [G]
     refine zB8 ?_
     refine evI rfl rfl rfl ?_
     simp [G]
     refine zB8 ?_
     refine evI rfl rfl rfl ?_
     simp [G]
     refine zB8 ?_
     refine cR (YV.rd (jN (nth (nth a1.Zy U).ZJ m9) zAL)) ?_
     simp [G]
     refine zB8 ?_
     refine evI rfl rfl rfl ?_
     simp [G]
     refine zB8 ?_
     refine evI rfl rfl rfl ?_
     simp [G]
     refine zB8 ?_
     refine evI rfl rfl rfl ?_
     simp [G]
     refine zB8 ?_
     exact nx2 e2 (hI := by first | (refine ⟨?_, ?_, ?_, ?_, j2.2.2.2.2⟩ <;> ((try dsimp only); omega)) | (have pk : Sm 2285568 (nth (nth a1.Zy U).ZJ m9) := Zp (ZU.QC (Zp (Z0.QY u1))); obtain ⟨q1, q2⟩ := Cb (z := lj) j2.2.2.2.2 pk zAA; refine ⟨?_, ?_, ?_, ?_, q1⟩ <;> ((try dsimp only); omega))) (hw := XI [((7, 0), some (75, 0))] [] rfl (by simp [w1, w2, G]))
  have q2 := h2; try simp at q2
  have c3 := sl 2285568 (nth a1.Zy U).ZJ (an u0 (an u1 (an u2 u3)))
  have e1 := ms e1 e2
  simp
  exact ny2 w1 e1 (hI := by (refine ⟨?_, ?_, ?_, ?_, j2.2.2.2.2⟩ <;> ((try dsimp only); omega)))
 have q1 := h1; try simp at q1
 have c4 := sl 2285568 a1.Zy (an u0 (an u1 (an u2 u3)))
 have f := ms f e1
 simp
 exact rtO [.tmp 6] f
theorem OB (a0 : YX) : Sa 220 [a0.row] [(qG a0).row] := by
 have f := me (qG.eq_1 a0)
 refine so func220 ntmps220 ?_
 exact rt [.cell 2 59] f
theorem Bn (a0 : YX) : Sa 147 [a0.row] [rB (RP a0)] := by
 have f := me (RP.eq_1 a0)
 refine so func147 ntmps147 ?_
 refine cRs (Zq a0.Zd 1 999) ?_
 refine cGs (fun gg => (Zq a0.Key 1 99)) ?_
 refine cGs (fun gg => (Zq a0.Z1 1 99)) ?_
 refine cGs (fun gg => (Zq a0.kW 0 99)) ?_
 refine cGs (fun gg => (OB a0)) ?_
 refine cGs (fun gg => (KU (qG a0))) ?_
 exact rt [.tmp 2] f
theorem NF (a0 : List Yw) (a1 : Int) : Sa 150 [rL 5 Yw.row a0, rI a1] [rI (Pc a0 a1)] := by
 have f := me (Pc.eq_1 a0 a1)
 refine so func150 ntmps150 ?_
 refine cRs (JS a0 a1) ?_
 refine cFf f ?_ ?_ <;> intro k1 h1 f
 ·have i1 : (Zt a0 a1).toNat < a0.length := by have := Kw a0 a1; exact il
  simp [i1, ZE]
  refine rpS ?_
  exact rt [.tmp 4] f
 exact rt [.tmp 4] f
theorem Ro (a0 : List Yw) (a1 : YX) (u0 : Sm 2314240 a0) : Sa 63 [rL 5 Yw.row a0, a1.row] [rB (Wi a0 a1)] := by
 have f := me (Wi.eq_1 a0 a1)
 refine so func63 ntmps63 ?_
 refine dIs mixed ?_
 refine cRs (Bn a1) ?_
 refine cGs (fun gg => YV.rd (Pw a1)) ?_
 refine cGs (fun gg => (Jo a0 a1.Z1 (yD a1) a1.Mark (sg u0) (by simp (maxDischargeDepth := 12) [P3]; try omega))) ?_
 refine cGs (fun gg => (NF a0 a1.Key)) ?_
 exact rt [.tmp 4] f
theorem Dk (a0 : ZX) (a1 : List ZT) (a2 : Zl) (u0 : Sm 2310144 a0) (u1 : Sm 2310144 a1) : Sa 245 [a0.row, rL 3 ZT.row a1, a2.row] [(J7 a0 a1 a2).1.row, rB (J7 a0 a1 a2).2] := by
 have f := me (J7.eq_1 a0 a1 a2)
 refine so func245 ntmps245 ?_
 refine lp9 (Ux.eq_2 a0 a1 a2) (fun J U mz lG lh iM iN iO iP => Yq 54 [eX 3 (a0.row.map .d), eX 5 (a2.row.map .d), (6, .one (.bptr 6 0), [.box [.d (.int .i64 0), .d (.int .i64 0), .d (.int .i64 0), .d (.int .i64 0), .d (.int .i64 0), .d (.int .i64 0), .d (.int .i64 0)]]), (8, .one (.bptr 8 0), [.box [.d (.int .i64 mz), .d (.int .i64 lG), .d (.int .i64 lh), .d (.int .i64 iM), .d (.int .i64 iN), .d (.int .i64 iO), .d (.int .i64 iP)]]), eI 9 J, eL 14 3 a1 ZT.row, eI 15 (a1.length : Int), eI 16 (U : Int)]) (fun n1 J U mz lG lh iM iN iO iP => a1.length < n1 + U /\ U <= a1.length) (a1.length + 1) 0 0 0 0 0 0 0 0 0 (fun p1 J U mz lG lh iM iN iO iP e1 j1 => ?_)
 refine cFf e1 ?_ ?_ <;> intro k2 h1 e1
 ·have i1 := ix h1
  have m2 := ml a1 (k2 14 _ rfl)
  have c1 := sl 2310144 a1 (an u0 u1)
  have w1 := wr U
  simp [i1, ZE]
  refine rpS ?_
  refine cRs (UA (nth a1 U)) ?_
  refine cGs (fun gg => (Ro a0.Zo (XO (nth a1 U)).1 (sg (ZX.XS u0)))) ?_
  refine cF e1 ?_ ?_ <;> intro k3 h2 e1
  ·exact ny9 w1 e1
  exact ny9 w1 e1
 have c2 := sl 2310144 a1 (an u0 u1)
 have f := ms f e1
 refine cF f ?_ ?_ <;> intro k4 h3 f
 ·exact rt [.cell 6 107, .tmp 7] f
 exact rt [.cell 6 107, .tmp 7] f
theorem tk (a0 : Int) (a1 : Int) : Sa 53 [rI a0, rI a1] [rI (u6 a0 a1)] := by
 have f := me (u6.eq_1 a0 a1)
 refine so func53 ntmps53 ?_
 exact rt [.tmp 4] f
theorem Uk (a0 : Int) (a1 : List Zj) (u0 : Sm 2326528 a1) : Sa 308 [rI a0, rL 5 Zj.row a1] [rI (kQ a0 a1)] := by
 have f := me (kQ.eq_1 a0 a1)
 refine so func308 ntmps308 ?_
 refine cF f ?_ ?_ <;> intro k1 h1 f
 ·exact rt [.tmp 4] f
 refine lp2 (kj.eq_2 a1) (fun J U => Yq 27 [eI 0 a0, (5, .one (.sref 5 0 0 J.length), [.arr false 1 (J.map iR)]), eL 11 5 a1 Zj.row, eI 12 (a1.length : Int), eI 13 (U : Int)]) (fun n1 J U => a1.length < n1 + U /\ U <= a1.length /\ J.length <= 0 + 1 * U) (a1.length + 1) ([] : List Int) 0 (fun p1 J U e1 j1 => ?_) (h0 := wkS [((5, 0), none)] [])
 refine cFf e1 ?_ ?_ <;> intro k3 h2 e1
 ·have i1 := ix h2
  have m2 := ml a1 (k3 11 _ rfl)
  have c1 := sl 2326528 a1 u0
  have w1 := wr U
  simp [i1, ZE]
  refine rpS ?_
  exact nx2 e1 (hw := XI [((5, 0), some (21, 0))] [] rfl zAb)
 have c2 := sl 2326528 a1 u0
 have f := ms f e1
 refine cRs (KE a0 J zAK) ?_
 refine cRs (tk 1 (Jm a0 J)) ?_
 exact rt [.tmp 4] f
theorem S4 (a0 : Int) (a1 : Zj) : Sd 309 [rI a0, a1.row] [(qX a0 a1).row] := by
 have f := me (qX.eq_1 a0 a1)
 refine soD func309 ntmps309 ?_
 refine dIs mixed ?_
 refine cDs [false] (UQ a1) ?_
 exact rtD _ f
theorem Gi (a0 : ZX) (a1 : Z0) (a2 : List ZT) (a3 : Zl) (u0 : Sm 2314240 a0) (u1 : Sm 2314240 a1) (u2 : Sm 2314240 a2) : Sa 246 [a0.row, a1.row, rL 3 ZT.row a2, a3.row] [rI (Jd a0 a1 a2 a3)] := by
 have f := me (Jd.eq_1 a0 a1 a2 a3)
 refine so func246 ntmps246 ?_
 refine cRs (JS a0.Zo a3.Key) ?_
 refine cFf f ?_ ?_ <;> intro k1 h1 f
 ·have i1 : (Zt a0.Zo a3.Key).toNat < a0.Zo.length := by have := Kw a0.Zo a3.Key; exact il
  simp [i1, ZE]
  refine rpS ?_
  refine lp2 (jA.eq_2 a0 a1 a2 a3) (fun J U => Yq 92 [eL 2 3 a2 ZT.row, eX 4 (a0.row.map .d), eX 7 (a3.row.map .d), eI 9 J, eL 32 1 a1.XA (slR 5 Zj.row), eI 33 (a1.XA.length : Int), eI 34 (U : Int)]) (fun n1 J U => a1.XA.length < n1 + U /\ U <= a1.XA.length) (a1.XA.length + 1) (nth a0.Zo (Zt a0.Zo a3.Key).toNat).VI 0 (fun p1 J U e1 j1 => ?_)
  refine cFf e1 ?_ ?_ <;> intro k3 h2 e1
  ·have i2 := ix h2
   have m2 := ml a1.XA (k3 32 _ rfl)
   have c1 := sl 2314240 a1.XA (an u0 (an u1 u2))
   have w1 := wr U
   simp [i2, ZE]
   refine rpS ?_
   refine dIs mixed ?_
   refine cGs (fun gg => (xM (nth a1.XA U))) ?_
   refine cGs (fun gg => (Uk a3.Method (nth a1.XA U) (sg (Zp (Z0.Nw u1))))) ?_
   refine cF e1 ?_ ?_ <;> intro k5 h3 e1
   ·exact ny2 w1 e1
   refine lp2 (TR.eq_2 a0 a1 a2 U) (fun m0 m9 => Yq 92 [eL 2 3 a2 ZT.row, eX 4 (a0.row.map .d), eX 7 (a3.row.map .d), eI 9 J, eL 12 5 (nth a1.XA U) Zj.row, eB 13 m0, eL 32 1 a1.XA (slR 5 Zj.row), eI 33 (a1.XA.length : Int), eI 34 (U : Int), eL 55 5 (nth a1.XA U) Zj.row, eI 56 ((nth a1.XA U).length : Int), eI 57 (m9 : Int)]) (fun n2 m0 m9 => (nth a1.XA U).length < n2 + m9 /\ m9 <= (nth a1.XA U).length) ((nth a1.XA U).length + 1) true 0 (fun p2 m0 m9 e2 j2 => ?_)
   refine cFf e2 ?_ ?_ <;> intro k7 h4 e2
   ·have i3 := ix h4
    have m4 := ml (nth a1.XA U) (k7 12 _ rfl)
    have c2 := sl 2314240 (nth a1.XA U) (an u0 (an u1 u2))
    have w2 := wr m9
    simp [i3, ZE]
    refine rpS ?_
    refine dIs mixed ?_
    refine cGs (fun gg => (TS a0.ZB (nth (nth a1.XA U) m9))) ?_
    refine cGs (fun gg => YV.rd (S4 (X0 a0.ZB (nth (nth a1.XA U) m9)) (nth (nth a1.XA U) m9))) ?_
    refine cGs (fun gg => (WQ a2 (qX (X0 a0.ZB (nth (nth a1.XA U) m9)) (nth (nth a1.XA U) m9)))) ?_
    exact ny2 (an w1 w2) e2
   have c3 := sl 2314240 (nth a1.XA U) (an u0 (an u1 u2))
   have e1 := ms e1 e2
   refine cRs (Tf a0.ZB (nth a1.XA U) a0.XT (sg (ZX.XN u0)) (sg (Zp (Z0.Nw u1)))) ?_
   refine cF e1 ?_ ?_ <;> intro k9 h5 e1
   ·exact ny2 w1 e1
   exact ny2 w1 e1
  have c4 := sl 2314240 a1.XA (an u0 (an u1 u2))
  exact rt [.tmp 8] (ms f e1)
 refine lp2 (jC.eq_2 a0 a1 a2 a3) (fun lj lg => Yq 92 [eL 2 3 a2 ZT.row, eX 4 (a0.row.map .d), eX 7 (a3.row.map .d), eI 9 lj, eL 32 1 a1.XA (slR 5 Zj.row), eI 33 (a1.XA.length : Int), eI 34 (lg : Int)]) (fun n3 lj lg => a1.XA.length < n3 + lg /\ lg <= a1.XA.length) (a1.XA.length + 1) 0 0 (fun p3 lj lg e3 j3 => ?_)
 refine cFf e3 ?_ ?_ <;> intro bg h6 e3
 ·have i4 := ix h6
  have m6 := ml a1.XA (bg 32 _ rfl)
  have c5 := sl 2314240 a1.XA (an u0 (an u1 u2))
  have w3 := wr lg
  simp [i4, ZE]
  refine rpS ?_
  refine dIs mixed ?_
  refine cGs (fun gg => (xM (nth a1.XA lg))) ?_
  refine cGs (fun gg => (Uk a3.Method (nth a1.XA lg) (sg (Zp (Z0.Nw u1))))) ?_
  refine cF e3 ?_ ?_ <;> intro bh h7 e3
  ·exact ny2 w3 e3
  refine lp2 (TK.eq_2 a0 a1 a2 lg) (fun gQ gV => Yq 92 [eL 2 3 a2 ZT.row, eX 4 (a0.row.map .d), eX 7 (a3.row.map .d), eI 9 lj, eL 12 5 (nth a1.XA lg) Zj.row, eB 13 gQ, eL 32 1 a1.XA (slR 5 Zj.row), eI 33 (a1.XA.length : Int), eI 34 (lg : Int), eL 55 5 (nth a1.XA lg) Zj.row, eI 56 ((nth a1.XA lg).length : Int), eI 57 (gV : Int)]) (fun n4 gQ gV => (nth a1.XA lg).length < n4 + gV /\ gV <= (nth a1.XA lg).length) ((nth a1.XA lg).length + 1) true 0 (fun p4 gQ gV e4 j4 => ?_)
  refine cFf e4 ?_ ?_ <;> intro k15 h8 e4
  ·have i5 := ix h8
   have m8 := ml (nth a1.XA lg) (k15 12 _ rfl)
   have c6 := sl 2314240 (nth a1.XA lg) (an u0 (an u1 u2))
   have w4 := wr gV
   simp [i5, ZE]
   refine rpS ?_
   refine dIs mixed ?_
   refine cGs (fun gg => (TS a0.ZB (nth (nth a1.XA lg) gV))) ?_
   refine cGs (fun gg => YV.rd (S4 (X0 a0.ZB (nth (nth a1.XA lg) gV)) (nth (nth a1.XA lg) gV))) ?_
   refine cGs (fun gg => (WQ a2 (qX (X0 a0.ZB (nth (nth a1.XA lg) gV)) (nth (nth a1.XA lg) gV)))) ?_
   exact ny2 (an w3 w4) e4
  have c7 := sl 2314240 (nth a1.XA lg) (an u0 (an u1 u2))
  have e3 := ms e3 e4
  refine cRs (Tf a0.ZB (nth a1.XA lg) a0.XT (sg (ZX.XN u0)) (sg (Zp (Z0.Nw u1)))) ?_
  refine cF e3 ?_ ?_ <;> intro k17 h9 e3
  ·exact ny2 w3 e3
  exact ny2 w3 e3
 have c8 := sl 2314240 a1.XA (an u0 (an u1 u2))
 exact rt [.tmp 8] (ms f e3)
theorem LQ (a0 : List ZT) (a1 : YX) (u0 : Sm 2330624 a0) : Sd 247 [rL 3 ZT.row a0, a1.row] [rL 5 Zn.row (yC a0 a1)] := by
 have f := me (yC.eq_1 a0 a1)
 refine soD func247 ntmps247 ?_
 refine lp2 (xQ.eq_2 a0 a1) (fun J U => Yq 42 [eX 3 (a1.row.map .d), (5, .one (.sref 5 0 0 J.length), [.arr false 5 (J.map Zn.row)]), eL 10 3 a0 ZT.row, eI 11 (a0.length : Int), eI 12 (U : Int)]) (fun n1 J U => a0.length < n1 + U /\ U <= a0.length /\ J.length <= 0 + 1 * U) (a0.length + 1) ([] : List Zn) 0 (fun p1 J U e1 j1 => ?_) (h0 := wkS [((5, 0), none)] [])
 refine cFf e1 ?_ ?_ <;> intro k2 h1 e1
 ·have i1 := ix h1
  have m2 := ml a0 (k2 10 _ rfl)
  have c1 := sl 2330624 a0 u0
  have w1 := wr U
  simp [i1, ZE]
  refine rpS ?_
  refine cRs (Tz (nth a0 U)) ?_
  refine cF e1 ?_ ?_ <;> intro k3 h2 e1
  ·exact nx2 e1 (hw := XI [((5, 0), some (39, 0))] [] rfl zAb)
  exact ny2 w1 e1
 exact rtD [.tmp 4] (ms f e1)
theorem KA (a0 : Int) (a1 : Int) (a2 : List Zg) (u0 : Sm 2326528 a2) : G9 prog 341 [rI a0, rI a1] [.sl 2 (a2.map Zg.row)] [.sl 2 ((Zr a0 a1 a2).map Zg.row)] := by
 refine vd func341 rfl zAU [false] zAF (fun v => ?_)
 simp [ntmps341]
 refine cR (OF a0 a1) ?_
 simp
 refine cC (yA a0 a1).2 (fun k1 h1 => ?_) (fun k1 h1 => ?_)
 ·have q1 := h1; try simp at q1
  have c1 : a2.length <= 2326528 := YS (xs u0)
  simp
  refine rpS ?_
  refine oW (eO := [(.sref 17 0 0 (a2 ++ ([(yA a0 a1).1] : List Zg)).length)]) rfl ?_ (.inr rfl)
  have f1 := Zr.eq_1 a0 a1 a2
  simp only [h1, Xd] at f1
  simp [f1]
  all_goals ((rintro r (⟨a, _, rfl⟩ | rfl) x hx <;> simp at hx <;> rcases hx with rfl | rfl <;> rfl))
 ·have q1 := h1; try simp at q1
  simp
  refine oW (eO := [(.sref 2 1 0 a2.length)]) rfl ?_ (.inr rfl)
  have f2 := Zr.eq_1 a0 a1 a2
  simp only [h1, Xa] at f2
  simp [f2]
  all_goals ((rintro r (⟨a, _, rfl⟩ | rfl) x hx <;> simp at hx <;> rcases hx with rfl | rfl <;> rfl))
theorem Ep (a0 : List Zn) (a1 : Int) : Sa 351 [rL 5 Zn.row a0, rI a1] [rI (W2 a0 a1).1, rI (W2 a0 a1).2.1, rI (W2 a0 a1).2.2] := by
 have f := me (W2.eq_1 a0 a1)
 refine so func351 ntmps351 ?_
 refine lp4 (Tw.eq_2 a0 a1) (fun J U mz lG => Yq 49 [eI 1 a1, eI 7 J, eI 8 U, eI 9 mz, eL 12 5 a0 Zn.row, eI 13 (a0.length : Int), eI 14 (lG : Int)]) (fun n1 J U mz lG => a0.length < n1 + lG /\ lG <= a0.length) (a0.length + 1) (-1) (-1) (-1) 0 (fun p1 J U mz lG e1 j1 => ?_)
 refine cFf e1 ?_ ?_ <;> intro k2 h1 e1
 ·have i1 := ix h1
  have m2 := ml a0 (k2 12 _ rfl)
  have w1 := wr lG
  simp [i1, ZE]
  refine rpS ?_
  refine cF e1 ?_ ?_ <;> intro k3 h2 e1
  ·exact ny4 w1 e1
  refine cF e1 ?_ ?_ <;> intro k4 h3 e1
  ·exact ny4 w1 e1
  refine cF e1 ?_ ?_ <;> intro k5 h4 e1
  ·exact ny4 w1 e1
  exact ny4 w1 e1
 exact rt _ (ms f e1)
theorem VP (a0 : List Zn) (a1 : Int) : Sa 342 [rL 5 Zn.row a0, rI a1] [rI (JJ a0 a1)] := by
 have f := me (JJ.eq_1 a0 a1)
 refine so func342 ntmps342 ?_
 refine cRs (Ep a0 a1) ?_
 refine cF f ?_ ?_ <;> intro k1 h1 f
 ·exact rt [.tmp 4] f
 exact rt [.tmp 4] f
end Go.Proofs.YthjkhlcbpfnobaaGreat
