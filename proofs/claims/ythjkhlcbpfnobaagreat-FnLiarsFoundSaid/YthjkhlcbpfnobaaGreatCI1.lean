/- Contracts of the functions RH the abstract machine, part I1. No condition. -/
import Derived.Test.YthjkhlcbpfnobaaGreatL
import Derived.Test.YthjkhlcbpfnobaaGreatTy
namespace Go.Proofs.YthjkhlcbpfnobaaGreat
open Tryz
open Go.Vm Go.Mo
set_option maxHeartbeats 1000000
set_option maxRecDepth 100000
set_option linter.unusedSimpArgs false
set_option linter.unusedVariables false
theorem Zx (a0 : Int) (a1 : Int) (a2 : Int) : Sa 61 [rI a0, rI a1, rI a2] [rB (ZO a0 a1 a2)] := by
 have f := me (ZO.eq_1 a0 a1 a2)
 refine so func61 ntmps61 ?_
 exact rt [.tmp 6] f
theorem Wd (a0 : List ZR) : Sa 21 [rL 9 ZR.row a0] [rB (Ky a0)] := by
 have f := me (Ky.eq_1 a0)
 refine so func21 ntmps21 ?_
 refine lp1 (Ke.eq_2 a0) (fun J => XQ 15 [eL 5 9 a0 ZR.row, eI 6 (a0.length : Int), eI 7 (J : Int)]) (fun n1 J => a0.length < n1 + J /\ J <= a0.length) (a0.length + 1) 0 (fun p1 J e1 j1 => ?_)
 refine cFf e1 ?_ ?_ <;> intro k2 h1 e1
 ·have i1 := ix h1
  have m2 := ml a0 (k2 5 _ rfl)
  have w1 := wr J
  simp [i1, ZI]
  refine rpS ?_
  refine cRs (Zx (nth a0 J).Kind 8 10) ?_
  refine cFo e1 ?_ ?_ <;> intro k3 h2 e1
  ·have q2 := h2; try simp [ZO] at q2
   have f := ms f e1
   simp
   exact rt [.tmp 2] f
  have q2 := h2; try simp [ZO] at q2
  simp
  exact ny1 w1 e1
 have f := ms f e1
 exact rt [.tmp 2] f
theorem SC (a0 : Z2) (u0 : Sm 2342912 a0) : Sd 141 [a0.row] [(ka a0).row] := by
 have f := me (ka.eq_1 a0)
 have c1 := sl 2342912 a0.Z9 u0
 have c2 := sl 2342912 a0.ZG u0
 have c3 := sl 2342912 a0.Methods u0
 refine soD func141 ntmps141 ?_
 exact rtD [.cell 2 28] f
theorem Tt (a0 : Z2) (u0 : Sm 2342912 a0) : Sd 141 [a0.row] [a0.row] := by
  have h := SC a0 u0
  rwa [S5] at h
theorem R0 (a0 : List Int) (u0 : Sm 2342912 a0) : Sd 142 [rL 1 iR a0] [rL 1 iR (Wm a0)] := by
 have f := me (Wm.eq_1 a0)
 have c1 := sl 2342912 a0 u0
 refine soD func142 ntmps142 ?_
 exact rtD [.tmp 2] f
theorem Jd (a0 : List Int) (u0 : Sm 2342912 a0) : Sd 142 [rL 1 iR a0] [rL 1 iR a0] := by
  have h := R0 a0 u0
  rwa [Rp] at h
theorem VR (a0 : ZP) (u0 : Sm 2338816 a0) : Sd 282 [a0.row] [(xN a0).row] := by
 have f := me (xN.eq_1 a0)
 refine soD func282 ntmps282 ?_
 refine H8 [2, 3, 4, 5, 0, 1, 6, 7, 8, 9, 10] mixed (by kernel_rfl) (by kernel_rfl) (by kernel_rfl) ?_
 have c1 := sl 2338816 a0.XA u0
 simp
 refine rpS ?_
 refine cDs [false] (Jd a0.Qr (sg (ZP.NN u0))) ?_
 exact rtD [.cell 2 43] f
theorem Wo (a0 : ZP) (u0 : Sm 2338816 a0) : Sd 282 [a0.row] [a0.row] := by
  have h := VR a0 u0
  rwa [VM] at h
theorem SZ (a0 : Zl) (u0 : Sm 2338816 a0) : Sd 304 [a0.row] [(kN a0).row] := by
 have f := me (kN.eq_1 a0)
 refine soD func304 ntmps304 ?_
 refine cDs [false] (Jd a0.QP (sg (Zl.Gx u0))) ?_
 exact rtD [.cell 2 177] f
theorem jc (a0 : Zl) (u0 : Sm 2338816 a0) : Sd 304 [a0.row] [a0.row] := by
  have h := SZ a0 u0
  rwa [Sq] at h
theorem Tq (a0 : List Zl) (u0 : Sm 2334720 a0) : Sd 252 [rL 3 Zl.row a0] [rL 3 Zl.row (yu a0)] := by
 have f := me (yu.eq_1 a0)
 refine soD func252 ntmps252 ?_
 refine lp2 (zR.eq_2 a0) (fun J U => XQ 19 [(3, .one (.sref 3 0 0 J.length), [.arr true 3 (J.map Zl.row)]), eL 6 3 a0 Zl.row, eI 7 (a0.length : Int), eI 8 (U : Int)]) (fun n1 J U => a0.length < n1 + U /\ U <= a0.length /\ J.length <= 0 + 1 * U) (a0.length + 1) ([] : List Zl) 0 (fun p1 J U e1 j1 => ?_) (h0 := wkS [((3, 0), none)] [])
 refine cFf e1 ?_ ?_ <;> intro k2 h1 e1
 ·have i1 := ix h1
  have m2 := ml a0 (k2 6 _ rfl)
  have c1 := sl 2334720 a0 u0
  have w1 := wr U
  simp [i1, ZI]
  refine rpS ?_
  refine cDs [true, false] (jc (nth a0 U) (sg (Yi u0))) ?_
  refine Wu ?_
  simp
  refine UO (wC := (J.map Zl.row)) (news := (([(nth a0 U)] : List Zl).map Zl.row)) (l1 := [(3, 0)]) (l2 := [(14, 1)]) (size := 3) ?_
  simp
  exact nx2 e1 (hw := QB [((3, 0), some (16, 0))] [] rfl (by simp [w1]))
 have c2 := sl 2334720 a0 u0
 have f := ms f e1
 exact rtD [.tmp 2] f
theorem UW (a0 : List Zl) (u0 : Sm 2334720 a0) : Sd 252 [rL 3 Zl.row a0] [rL 3 Zl.row a0] := by
  have h := Tq a0 u0
  rwa [Tu] at h
theorem Tv (a0 : List ZQ) (u0 : Sm 2342912 a0) : Sd 255 [rL 5 ZQ.row a0] [rL 5 ZQ.row (jP a0)] := by
 have f := me (jP.eq_1 a0)
 have c1 := sl 2342912 a0 u0
 refine soD func255 ntmps255 ?_
 exact rtD [.tmp 2] f
theorem UK (a0 : List ZQ) (u0 : Sm 2342912 a0) : Sd 255 [rL 5 ZQ.row a0] [rL 5 ZQ.row a0] := by
  have h := Tv a0 u0
  rwa [Ti] at h
theorem UR (a0 : Za) (u0 : Sm 2338816 a0) : Sd 171 [a0.row] [(qL a0).row] := by
 have f := me (qL.eq_1 a0)
 have c1 := sl 2338816 a0.Path u0
 refine soD func171 ntmps171 ?_
 refine cDs [false] (UK a0.Y7 (sg (Za.Um u0))) ?_
 exact rtD [.cell 2 140] f
theorem xl (a0 : Za) (u0 : Sm 2338816 a0) : Sd 171 [a0.row] [a0.row] := by
  have h := UR a0 u0
  rwa [UJ] at h
theorem Ta (a0 : Zf) (u0 : Sm 2330624 a0) : Sd 166 [a0.row] [(ym a0).row] := by
 have f := me (ym.eq_1 a0)
 refine soD func166 ntmps166 ?_
 refine cDs [] (UW a0.Zp (sg (Zf.kh u0))) ?_
 refine lp2 (zZ.eq_2 a0) (fun J U => XQ 26 [(2, .one (.bptr 2 0), [.box [.nil 3, .nil 5]]), (3, .one (.bptr 3 0), [.box [.sref 8 0 0 a0.Zp.length, .sref 3 2 0 U.length], .none, .arr true 5 (U.map Za.row)]), (8, .any, [.arr true 3 (a0.Zp.map Zl.row)]), eL 11 5 a0.Zn Za.row, eI 12 (a0.Zn.length : Int), eI 13 (J : Int)]) (fun n1 J U => a0.Zn.length < n1 + J /\ J <= a0.Zn.length /\ U.length <= 0 + 1 * J) (a0.Zn.length + 1) 0 ([] : List Za) (fun p1 J U e1 j1 => ?_) (h0 := wkS [((3, 2), none)] [])
 refine cFf e1 ?_ ?_ <;> intro k2 h1 e1
 ·have i1 := ix h1
  have m2 := ml a0.Zn (k2 11 _ rfl)
  have c1 := sl 2330624 a0.Zn u0
  have w1 := wr J
  simp [i1, ZI]
  refine rpS ?_
  refine drJ [22] mixed ?_
  simp
  refine cDs [true, true, true, false, false] (xl (nth a0.Zn J) (sg (Yi (Zf.j6 u0)))) ?_
  refine Wu ?_
  simp
  refine UO (wC := (U.map Za.row)) (news := (([(nth a0.Zn J)] : List Za).map Za.row)) (l1 := [(3, 2)]) (l2 := [(20, 3), (20, 4)]) (size := 5) ?_
  simp
  exact nx2 e1 (hw := QB [((3, 2), some (22, 0))] [] rfl (by simp [w1]))
 have c2 := sl 2330624 a0.Zn u0
 have f := ms f e1
 exact rtD [.cell 2 68] f
theorem JV (a0 : Zf) (u0 : Sm 2330624 a0) : Sd 166 [a0.row] [a0.row] := by
  have h := Ta a0 u0
  rwa [Tb] at h
theorem Rs (a0 : ZS) (u0 : Sm 2326528 a0) : Sd 205 [a0.row] [(Wq a0).row] := by
 have f := me (Wq.eq_1 a0)
 refine soD func205 ntmps205 ?_
 refine cDs [true, false, false] (Wo a0.Doc (sg (ZS.W7 u0))) ?_
 refine cDs [] (JV a0.Zc (sg (ZS.J8 u0))) ?_
 exact rtD [.cell 2 70] f
theorem KL (a0 : ZS) (u0 : Sm 2326528 a0) : Sd 205 [a0.row] [a0.row] := by
  have h := Rs a0 u0
  rwa [R8] at h
theorem UY (a0 : ZD) (u0 : Sm 2322432 a0) : Sd 125 [a0.row] [(yG a0).row] := by
 have f := me (yG.eq_1 a0)
 refine soD func125 ntmps125 ?_
 refine lp2 (Kv.eq_2 a0) (fun J U => XQ 25 [(2, .one (.bptr 2 0), [.box [.d (.int .i64 0), .nil 16]]), (3, .one (.bptr 3 0), [.box [.d (.int .i64 a0.Id), .sref 3 2 0 U.length], .none, .arr true 16 (U.map ZS.row)]), eL 10 16 a0.ZF ZS.row, eI 11 (a0.ZF.length : Int), eI 12 (J : Int)]) (fun n1 J U => a0.ZF.length < n1 + J /\ J <= a0.ZF.length /\ U.length <= 0 + 1 * J) (a0.ZF.length + 1) 0 ([] : List ZS) (fun p1 J U e1 j1 => ?_) (h0 := wkS [((3, 2), none)] [])
 refine cFf e1 ?_ ?_ <;> intro k2 h1 e1
 ·have i1 := ix h1
  have m2 := ml a0.ZF (k2 10 _ rfl)
  have c1 := sl 2322432 a0.ZF u0
  have w1 := wr J
  simp [i1, ZI]
  refine rpS ?_
  refine drJ [21] mixed ?_
  simp
  refine cDs [true, true, true, false, false] (KL (nth a0.ZF J) (sg (Yi (ZD.Yc u0)))) ?_
  refine Wu ?_
  simp
  refine UO (wC := (U.map ZS.row)) (news := (([(nth a0.ZF J)] : List ZS).map ZS.row)) (l1 := [(3, 2)]) (l2 := [(19, 3), (19, 4), (19, 14), (19, 15)]) (size := 16) ?_
  simp
  exact nx2 e1 (hw := QB [((3, 2), some (21, 0))] [] rfl (by simp [w1]))
 have c2 := sl 2322432 a0.ZF u0
 have f := ms f e1
 exact rtD [.cell 2 73] f
theorem Zy (a0 : ZD) (u0 : Sm 2322432 a0) : Sd 125 [a0.row] [a0.row] := by
  have h := UY a0 u0
  rwa [UQ] at h
theorem RB (a0 : ZE) (u0 : Sm 2318336 a0) : Sd 59 [a0.row] [(xu a0).row] := by
 have f := me (xu.eq_1 a0)
 refine soD func59 ntmps59 ?_
 refine dIs mixed ?_
 have c1 := sl 2318336 a0.Zb u0
 refine cDs [false, false, false] (Tt a0.Frame (sg (ZE.Xx u0))) ?_
 refine cDs [false] (Jd a0.YC (sg (ZE.H4 u0))) ?_
 refine cDs [false] (Jd a0.YP (sg (ZE.Le u0))) ?_
 refine cDs [false] (Jd a0.YN (sg (ZE.Ht u0))) ?_
 refine cDs [false] (Jd a0.YE (sg (ZE.UU u0))) ?_
 refine lp2 (yH.eq_2 a0) (fun J U => XQ 44 [(2, .one (.bptr 2 0), [.box [.nil 5, .nil 3, .nil 4, .d (.int .i64 0), .d (.int .i64 0), .nil 7, .nil 1, .nil 2, .nil 1, .nil 1, .d (.int .i64 0), .nil 1]]), (3, .one (.bptr 3 0), [.box [.sref 8 0 0 a0.Frame.Z9.length, .sref 8 1 0 a0.Frame.ZG.length, .sref 8 2 0 a0.Frame.Methods.length, .d (.int .i64 a0.Frame.zm), .d (.int .i64 a0.Frame.Now), .sref 12 0 0 a0.Zb.length, .sref 15 0 0 a0.YC.length, .sref 3 8 0 U.length, .sref 18 0 0 a0.YP.length, .sref 21 0 0 a0.YN.length, .d (.int .i64 a0.Next), .sref 26 0 0 a0.YE.length], .none, .none, .none, .none, .none, .none, .none, .arr true 2 (U.map ZD.row)]), (8, .any, [.arr false 5 (a0.Frame.Z9.map Yq.row), .arr false 3 (a0.Frame.ZG.map ZZ.row), .arr false 4 (a0.Frame.Methods.map YJ.row)]), (12, .any, [.arr false 7 (a0.Zb.map Ym.row)]), (15, .any, [.arr false 1 (a0.YC.map iR)]), (18, .any, [.arr false 1 (a0.YP.map iR)]), (21, .any, [.arr false 1 (a0.YN.map iR)]), (26, .any, [.arr false 1 (a0.YE.map iR)]), eL 29 2 a0.ZA ZD.row, eI 30 (a0.ZA.length : Int), eI 31 (J : Int)]) (fun n1 J U => a0.ZA.length < n1 + J /\ J <= a0.ZA.length /\ U.length <= 0 + 1 * J) (a0.ZA.length + 1) 0 ([] : List ZD) (fun p1 J U e1 j1 => ?_) (h0 := wkS [((3, 8), none)] [])
 refine cFf e1 ?_ ?_ <;> intro k3 h1 e1
 ·have i1 := ix h1
  have m2 := ml a0.ZA (k3 29 _ rfl)
  have c2 := sl 2318336 a0.ZA u0
  have w1 := wr J
  simp [i1, ZI]
  refine rpS ?_
  refine drJ [40] mixed ?_
  simp
  refine cDs [] (Zy (nth a0.ZA J) (sg (Yi (ZE.Yu u0)))) ?_
  refine Wu ?_
  simp
  refine UO (wC := (U.map ZD.row)) (news := (([(nth a0.ZA J)] : List ZD).map ZD.row)) (l1 := [(3, 8)]) (l2 := [(38, 1)]) (size := 2) ?_
  simp
  exact nx2 e1 (hw := QB [((3, 8), some (40, 0))] [] rfl (by simp [w1]))
 have c3 := sl 2318336 a0.ZA u0
 have f := ms f e1
 exact rtD [.cell 2 33] f
theorem Zk (a0 : ZE) (u0 : Sm 2318336 a0) : Sd 59 [a0.row] [a0.row] := by
  have h := RB a0 u0
  rwa [RI] at h
theorem Rv (a0 : ZE) (a1 : Int) (u0 : Sm 2314240 a0) : Sd 37 [a0.row, rI a1] [(QS a0 a1).1.row, rB (QS a0 a1).2] := by
 have f := me (QS.eq_1 a0 a1)
 refine soD func37 ntmps37 ?_
 refine cDs [false, false, false, true, true, false, false, true, false, false, true, false] (Zk a0 (sg u0)) ?_
 refine cRs (Zx a1 0 100) ?_
 refine cFo f ?_ ?_ <;> intro k1 h1 f
 ·have q1 := h1; try simp [ZO] at q1
  simp
  exact rtD [.cell 4 33, .tmp 5] f
 have q1 := h1; try simp [ZO] at q1
 simp
 exact rtD [.cell 4 33, .tmp 5] f
theorem Jz (a0 : List Yq) (a1 : Int) : Sa 114 [rL 5 Yq.row a0, rI a1] [rI (YM a0 a1)] := by
 have f := me (YM.eq_1 a0 a1)
 refine so func114 ntmps114 ?_
 refine lp1 (qA.eq_2 a0 a1) (fun J => XQ 20 [eI 1 a1, eL 7 5 a0 Yq.row, eI 8 (a0.length : Int), eI 9 (J : Int)]) (fun n1 J => a0.length < n1 + J /\ J <= a0.length) (a0.length + 1) 0 (fun p1 J e1 j1 => ?_)
 refine cFf e1 ?_ ?_ <;> intro k2 h1 e1
 ·have i1 := ix h1
  have m2 := ml a0 (k2 7 _ rfl)
  have w1 := wr J
  simp [i1, ZI]
  refine rpS ?_
  refine cF e1 ?_ ?_ <;> intro k3 h2 e1
  ·have f := ms f e1
   exact rt [.tmp 4] f
  exact ny1 w1 e1
 have f := ms f e1
 exact rt [.tmp 4] f
theorem Kw (a0 : List YJ) (a1 : Int) : Sa 87 [rL 4 YJ.row a0, rI a1] [rI (ZJ a0 a1)] := by
 have f := me (ZJ.eq_1 a0 a1)
 refine so func87 ntmps87 ?_
 refine lp2 (zY.eq_2 a0 a1) (fun J U => XQ 48 [eL 0 4 a0 YJ.row, eI 1 a1, eI 5 J, eL 8 4 a0 YJ.row, eI 9 (a0.length : Int), eI 10 (U : Int)]) (fun n1 J U => a0.length < n1 + U /\ U <= a0.length /\ -1 <= J /\ J < (a0.length : Int)) (a0.length + 1) (-1) 0 (fun p1 J U e1 j1 => ?_)
 try dsimp only at j1
 refine cFf e1 ?_ ?_ <;> intro k2 h1 e1
 ·have i1 := ix h1
  have m2 := ml a0 (k2 0 _ rfl)
  have w1 := wr U
  simp [i1, ZI]
  refine rpS ?_
  refine dIs mixed ?_
  refine gIf ?_ ?_ <;> intro G
  ·have i2 := ik J.toNat a0
   simp [i2, ZI, G]
   refine rpG ?_
   refine cK e1 ?_ ?_ <;> intro k4 h2 e1
   ·exact ny2 (an w1 G) e1 (hI := by first | omega | (simp at *; omega))
   ·exact ny2 (an w1 G) e1 (hI := by first | omega | (simp at *; omega))
  ·refine cK e1 ?_ ?_ <;> intro k5 h3 e1
   ·exact ny2 (an w1 G) e1 (hI := by first | omega | (simp at *; omega))
   ·exact ny2 (an w1 G) e1 (hI := by first | omega | (simp at *; omega))
 have f := ms f e1
 refine cFt f ?_ ?_ <;> intro k6 h4 f
 ·exact rt [.tmp 4] f
 have i4 := ik J.toNat a0
 simp [i4, ZI]
 refine rpS ?_
 exact rt [.tmp 4] f
theorem JU (a0 : ZE) (a1 : Int) : Sa 112 [a0.row, rI a1] [rB (Z1 a0 a1)] := by
 have f := me (Z1.eq_1 a0 a1)
 refine so func112 ntmps112 ?_
 refine cRs (Zx a1 0 (W ((a0.ZA.length : Int) - 1))) ?_
 exact rt [.tmp 4] f
theorem je (a0 : ZP) : Sa 173 [a0.row] [rB (Ki a0)] := by
 have f := me (Ki.eq_1 a0)
 refine so func173 ntmps173 ?_
 refine cRs (Zx a0.qn 0 999) ?_
 refine cGs (fun gg => (Zx (a0.XA.length : Int) 1 6)) ?_
 refine cFo f ?_ ?_ <;> intro k1 h1 f
 ·have q1 := h1; try simp [ZO] at q1
  simp
  exact rt [.tmp 2] f
 have q1 := h1; try simp [ZO] at q1
 simp
 refine lp1 (zM.eq_2 a0) (fun J => XQ 46 [eX 1 (a0.row.map .d), eL 26 1 a0.XA sR, eI 27 (a0.XA.length : Int), eI 28 (J : Int)]) (fun n1 J => a0.XA.length < n1 + J /\ J <= a0.XA.length) (a0.XA.length + 1) 0 (fun p1 J e1 j1 => ?_)
 refine cFf e1 ?_ ?_ <;> intro k3 h2 e1
 ·have i1 := ix h2
  have m2 := ml a0.XA (k3 26 _ rfl)
  have w1 := wr J
  simp [i1, ZI]
  refine rpS ?_
  refine gIf ?_ ?_ <;> intro G
  ·have i2 := ik J a0.Qr
   simp [i2, ZI, G]
   refine rpG ?_
   refine cGg (fun gg => (Zx (nth a0.Qr J) 1 1000000000000)) ?_
   refine cKo e1 ?_ ?_ <;> intro k4 h3 e1
   ·have q3 := h3; try simp [ZO] at q3
    have f := ms f e1
    simp [G]
    refine rpG ?_
    exact rtg [.tmp 2] f
   ·have q3 := h3; try simp [ZO] at q3
    simp [G]
    refine rpG ?_
    exact ny1 (an w1 G) e1
  ·refine sGo ?_
   simp [G]
   refine rpG ?_
   refine cKo e1 ?_ ?_ <;> intro k5 h4 e1
   ·have q4 := h4; try simp [ZO] at q4
    have f := ms f e1
    simp [G]
    refine rpG ?_
    exact rtg [.tmp 2] f
   ·simp [G] at h4
 have f := ms f e1
 exact rt [.tmp 2] f
theorem O0 (a0 : List UInt8) (u0 : Sm 2342912 a0) : Sd 257 [rL 1 bR a0] [rL 1 iR (y6 a0)] := by
 have f := me (y6.eq_1 a0)
 refine soD func257 ntmps257 ?_
 refine lp2 (yS.eq_2 a0) (fun J U => XQ 19 [(3, .one (.sref 3 0 0 J.length), [.arr false 1 (J.map iR)]), eL 6 1 a0 bR, eI 7 (a0.length : Int), eI 8 (U : Int)]) (fun n1 J U => a0.length < n1 + U /\ U <= a0.length /\ J.length <= 0 + 1 * U) (a0.length + 1) ([] : List Int) 0 (fun p1 J U e1 j1 => ?_) (h0 := wkS [((3, 0), none)] [])
 refine cFf e1 ?_ ?_ <;> intro k2 h1 e1
 ·have i1 := ix h1
  have m2 := ml a0 (k2 6 _ rfl)
  have c1 := sl 2342912 a0 u0
  have w1 := wr U
  simp [i1, ZI]
  refine rpS ?_
  exact nx2 e1 (hw := QB [((3, 0), some (16, 0))] [] rfl (by simp [w1]))
 have c2 := sl 2342912 a0 u0
 have f := ms f e1
 exact rtD [.tmp 2] f
theorem GC (a0 : Int) (a1 : Int) : Sa 317 [rI a0, rI a1] [rI (Hk a0 a1)] := by
 have f := me (Hk.eq_1 a0 a1)
 refine so func317 ntmps317 ?_
 refine cRs (Zx a1 1 1000000000000) ?_
 refine cFo f ?_ ?_ <;> intro k1 h1 f
 ·have q1 := h1; try simp [ZO] at q1
  simp
  exact rt [.tmp 4] f
 have q1 := h1; try simp [ZO] at q1
 simp
 refine rpS ?_
 exact rt [.tmp 4] f
theorem Po (a0 : List Int) : Sa 258 [rL 1 iR a0] [rI (Om a0)] := by
 have f := me (Om.eq_1 a0)
 refine so func258 ntmps258 ?_
 refine lp2 (RT.eq_2 a0) (fun J U => XQ 21 [eI 3 J, eL 6 1 a0 iR, eI 7 (a0.length : Int), eI 8 (U : Int)]) (fun n1 J U => a0.length < n1 + U /\ U <= a0.length) (a0.length + 1) 11 0 (fun p1 J U e1 j1 => ?_)
 refine cFf e1 ?_ ?_ <;> intro k2 h1 e1
 ·have i1 := ix h1
  have m2 := ml a0 (k2 6 _ rfl)
  have w1 := wr U
  simp [i1, ZI]
  refine rpS ?_
  refine cRs (GC (nth a0 U) 2147483647) ?_
  exact ny2 w1 e1
 have f := ms f e1
 exact rt [.tmp 2] f
theorem Qf (a0 : Int) (a1 : List Int) (u0 : Sm 68719476736 a1) : Sa 175 [rI a0, rL 1 iR a1] [rI (JQ a0 a1)] := by
 have f := me (JQ.eq_1 a0 a1)
 have c1 := sl 68719476736 a1 u0
 refine so func175 ntmps175 ?_
 refine cRs (Po (([7, a0] : List Int) ++ a1)) ?_
 exact rt [.tmp 4] f
theorem TV (a0 : Int) (a1 : ByteArray) (a2 : Int) (u0 : Sm 2326528 a1) : Sa 174 [rI a0, rS a1, rI a2] [rI (q8 a0 a1 a2)] := by
 have f := me (q8.eq_1 a0 a1 a2)
 refine so func174 ntmps174 ?_
 have c1 : a1.size <= 2326528 := FB (xs u0)
 refine Gs (s := a1) rfl rfl rfl (by simp) (by simp) (by simp) (by simp) (by omega) ?_
 simp
 refine cRs (Yx.rd (O0 a1.data.toList (by simp [Xg]; first | omega | (simp [ByteArray.size] at *; omega)))) ?_
 refine cRs (Qf a0 (([a2] : List Int) ++ (y6 a1.data.toList)) (by simp (maxDischargeDepth := 12) [Kc, Xg, ZW (m := 68719476736) (by decide) u0]; try omega)) ?_
 exact rt [.tmp 6] f
theorem zV (a0 : Int) (a1 : ZP) (u0 : Sm 2322432 a1) : Sa 92 [rI a0, a1.row] [rI (YH a0 a1)] := by
 have f := me (YH.eq_1 a0 a1)
 refine so func92 ntmps92 ?_
 refine cRs (je a1) ?_
 refine cF f ?_ ?_ <;> intro k1 h1 f
 ·exact rt [.tmp 4] f
 refine lp2 (qY.eq_2 a0 a1) (fun J U => XQ 37 [eI 0 a0, eX 3 (a1.row.map .d), (5, .one (.sref 5 0 0 J.length), [.arr false 1 (J.map iR)]), eL 15 1 a1.XA sR, eI 16 (a1.XA.length : Int), eI 17 (U : Int)]) (fun n1 J U => a1.XA.length < n1 + U /\ U <= a1.XA.length /\ J.length <= 1 + 1 * U) (a1.XA.length + 1) ([a1.qn] : List Int) 0 (fun p1 J U e1 j1 => ?_) (h0 := wkS [((5, 0), some (13, 0))] [])
 try dsimp only at j1
 refine cFf e1 ?_ ?_ <;> intro k3 h2 e1
 ·have i1 := ix h2
  have m2 := ml a1.XA (k3 15 _ rfl)
  have c1 := sl 2322432 a1.XA u0
  have w1 := wr U
  have i2 : U < a1.Qr.length := by (have := UE (a := a1); first | (simp_all; done) | (simp_all; omega))
  simp [i1, ZI, i2]
  refine rpS ?_
  refine cRs (TV a0 (nth a1.XA U) (nth a1.Qr U) (sg (Yi (ZP.N2 u0)))) ?_
  exact nx2 e1 (hw := QB [((5, 0), some (32, 0))] [] rfl (by simp [w1]))
 have c2 := sl 2322432 a1.XA u0
 have f := ms f e1
 refine cRs (Qf a0 J (by first | (simp (maxDischargeDepth := 12) [Xg]; omega) | (simp (maxDischargeDepth := 12) [ZW (m := 68719476736) (by decide) u0]; done))) ?_
 exact rt [.tmp 4] f
theorem xB (a0 : Zr) : Sd 293 [a0.row] [rL 1 iR (Xk a0)] := by
 have f := me (Xk.eq_1 a0)
 refine soD func293 ntmps293 ?_
 exact rtD [.tmp 2] f
theorem Su (a0 : Int) (a1 : List Int) (u0 : Sm 2330624 a1) : Sa 316 [rI a0, rL 1 iR a1] [rI (j5 a0 a1)] := by
 have f := me (j5.eq_1 a0 a1)
 have c1 := sl 2330624 a1 u0
 refine so func316 ntmps316 ?_
 refine cRs (Po ((([a0] : List Int) ++ a1) ++ ([a0] : List Int))) ?_
 exact rt [.tmp 4] f
theorem R6 (a0 : Yq) (a1 : List Int) (u0 : Sm 2326528 a1) : Sa 254 [a0.row, rL 1 iR a1] [rI (Wl a0 a1)] := by
 have f := me (Wl.eq_1 a0 a1)
 refine so func254 ntmps254 ?_
 refine H8 [2, 3, 4, 5, 6, 0, 1, 7, 8] mixed (by kernel_rfl) (by kernel_rfl) (by kernel_rfl) ?_
 have c1 := sl 2326528 a1 u0
 simp
 refine rpS ?_
 refine cRs (Su a0.W5 (([a0.Method] : List Int) ++ a1) (by simp (maxDischargeDepth := 12) [Kc, Xg, ZW (m := 2330624) (by decide) u0]; try omega)) ?_
 exact rt [.tmp 4] f
theorem j4 (a0 : List Yq) (a1 : Int) (a2 : List Int) (u0 : Sm 2322432 a0) (u1 : Sm 2322432 a2) : Sa 169 [rL 5 Yq.row a0, rI a1, rL 1 iR a2] [rI (Q9 a0 a1 a2).1, rB (Q9 a0 a1 a2).2] := by
 have f := me (Q9.eq_1 a0 a1 a2)
 refine so func169 ntmps169 ?_
 refine cRs (Jz a0 a1) ?_
 refine cFt f ?_ ?_ <;> intro k1 h1 f
 ·exact rt [.tmp 6, .tmp 7] f
 have i1 : (YM a0 a1).toNat < a0.length := by have := zJ a0 a1; exact il
 simp [i1, ZI]
 refine rpS ?_
 refine cRs (R6 (nth a0 (YM a0 a1).toNat) a2 (sg u1)) ?_
 exact rt [.tmp 6, .tmp 7] f
theorem Uj (a0 : Zr) : Sa 240 [a0.row] [rB (qR a0)] := by
 have f := me (qR.eq_1 a0)
 refine so func240 ntmps240 ?_
 refine cRs (Zx a0.Key 1 99) ?_
 refine cGs (fun gg => (Zx a0.YD 1 999)) ?_
 refine cGs (fun gg => (Zx a0.Method 0 99)) ?_
 refine cGs (fun gg => (Zx a0.Org 0 99)) ?_
 refine cGs (fun gg => (Zx a0.VA 1 3)) ?_
 refine cGs (fun gg => (Zx a0.XL 0 1000000000000)) ?_
 refine cGs (fun gg => (Zx a0.Wy 0 1000000000000)) ?_
 refine cGs (fun gg => (Zx a0.RQ 0 1000000000000)) ?_
 exact rt [.tmp 2] f
theorem TZ (a0 : List Yq) (a1 : Zr) (u0 : Sm 2318336 a0) : Sa 227 [rL 5 Yq.row a0, a1.row] [(YU a0 a1).1.row, rB (YU a0 a1).2] := by
 have f := me (YU.eq_1 a0 a1)
 refine so func227 ntmps227 ?_
 refine dIs mixed ?_
 refine cRs (Yx.rd (xB a1)) ?_
 refine cRs (j4 a0 a1.Key (Xk a1) (sg u0) (by simp (maxDischargeDepth := 12) [xE, ZW (m := 2322432) (by decide) u0]; try omega)) ?_
 refine cRs (Uj a1) ?_
 refine cF f ?_ ?_ <;> intro k2 h1 f
 ·exact rt [.cell 4 64, .tmp 5] f
 exact rt [.cell 4 64, .tmp 5] f
theorem j8 (a0 : Zr) : Sd 222 [a0.row] [(X4 a0).row] := by
 have f := me (X4.eq_1 a0)
 refine soD func222 ntmps222 ?_
 refine dIs mixed ?_
 refine cDs [false] (xB a0) ?_
 exact rtD [.cell 2 177] f
theorem R5 (a0 : Ym) : Sd 149 [a0.row] [rL 1 iR (K4 a0)] := by
 have f := me (K4.eq_1 a0)
 refine soD func149 ntmps149 ?_
 exact rtD [.tmp 2] f
theorem RV (a0 : Ym) : Sd 228 [a0.row] [(Qg a0).row] := by
 have f := me (Qg.eq_1 a0)
 refine soD func228 ntmps228 ?_
 refine dIs mixed ?_
 refine cDs [false] (R5 a0) ?_
 exact rtD [.cell 2 177] f
theorem Kt (a0 : ZD) (a1 : Int) : Sa 84 [a0.row, rI a1] [rI (ZM a0 a1)] := by
 have f := me (ZM.eq_1 a0 a1)
 refine so func84 ntmps84 ?_
 refine lp1 (zW.eq_2 a0 a1) (fun J => XQ 21 [eI 1 a1, eL 8 16 a0.ZF ZS.row, eI 9 (a0.ZF.length : Int), eI 10 (J : Int)]) (fun n1 J => a0.ZF.length < n1 + J /\ J <= a0.ZF.length) (a0.ZF.length + 1) 0 (fun p1 J e1 j1 => ?_)
 refine cFf e1 ?_ ?_ <;> intro k2 h1 e1
 ·have i1 := ix h1
  have m2 := ml a0.ZF (k2 8 _ rfl)
  have w1 := wr J
  simp [i1, ZI]
  refine rpS ?_
  refine cF e1 ?_ ?_ <;> intro k3 h2 e1
  ·have f := ms f e1
   exact rt [.tmp 4] f
  exact ny1 w1 e1
 have f := ms f e1
 exact rt [.tmp 4] f
theorem kQ (a0 : Int) : Sa 146 [rI a0] [rB (Qp a0)] := by
 have f := me (Qp.eq_1 a0)
 refine so func146 ntmps146 ?_
 refine cRs (Zx a0 0 10000) ?_
 exact rt [.tmp 2] f
theorem SK (a0 : List Int) (a1 : List Int) : Sa 69 [rL 1 iR a0, rL 1 iR a1] [rB (jw a0 a1)] := by
 have f := me (jw.eq_1 a0 a1)
 refine so func69 ntmps69 ?_
 refine cF f ?_ ?_ <;> intro k1 h1 f
 ·exact rt [.tmp 4] f
 refine lp1 (qP.eq_2 a0 a1) (fun J => XQ 26 [eL 0 1 a0 iR, eL 1 1 a1 iR, eI 12 (a0.length : Int), eI 13 (J : Int)]) (fun n1 J => a0.length < n1 + J /\ J <= a0.length) (a0.length + 1) 0 (fun p1 J e1 j1 => ?_)
 refine cF e1 ?_ ?_ <;> intro k3 h2 e1
 ·have i1 := ix h2
  have m2 := ml a0 (k3 0 _ rfl)
  have w1 := wr J
  refine dIo mixed ?_
  have i2 := ik J a1
  simp [i1, ZI, i2]
  refine rpS ?_
  refine cF e1 ?_ ?_ <;> intro k5 h3 e1
  ·have f := ms f e1
   exact rt [.tmp 4] f
  exact ny1 w1 e1
 have f := ms f e1
 exact rt [.tmp 4] f
theorem qd (a0 : Zl) (a1 : Zl) : Sa 221 [a0.row, a1.row] [rB (yC a0 a1)] := by
 have f := me (yC.eq_1 a0 a1)
 refine so func221 ntmps221 ?_
 refine cGs (fun gg => (SK a0.QP a1.QP)) ?_
 exact rt [.tmp 4] f
theorem PH (a0 : List Zl) (a1 : Zl) : Sa 256 [rL 3 Zl.row a0, a1.row] [rB (W0 a0 a1)] := by
 have f := me (W0.eq_1 a0 a1)
 refine so func256 ntmps256 ?_
 refine lp1 (jN.eq_2 a0 a1) (fun J => XQ 17 [eX 3 (a1.row.map .d), eL 7 3 a0 Zl.row, eI 8 (a0.length : Int), eI 9 (J : Int)]) (fun n1 J => a0.length < n1 + J /\ J <= a0.length) (a0.length + 1) 0 (fun p1 J e1 j1 => ?_)
 refine cFf e1 ?_ ?_ <;> intro k2 h1 e1
 ·have i1 := ix h1
  have m2 := ml a0 (k2 7 _ rfl)
  have w1 := wr J
  simp [i1, ZI]
  refine rpS ?_
  refine cRs (qd (nth a0 J) a1) ?_
  refine cF e1 ?_ ?_ <;> intro k3 h2 e1
  ·have f := ms f e1
   exact rt [.tmp 4] f
  exact ny1 w1 e1
 have f := ms f e1
 exact rt [.tmp 4] f
theorem qa (a0 : Zf) : Sa 172 [a0.row] [rB (Xv a0)] := by
 have f := me (Xv.eq_1 a0)
 refine so func172 ntmps172 ?_
 refine cRs (Zx (a0.Zp.length : Int) 1 12) ?_
 refine cFo f ?_ ?_ <;> intro k1 h1 f
 ·have q1 := h1; try simp [ZO] at q1
  simp
  exact rt [.tmp 2] f
 have q1 := h1; try simp [ZO] at q1
 simp
 refine lp1 (yo.eq_2 a0) (fun J => XQ 65 [eX 1 (a0.row.map .d), eL 19 3 a0.Zp Zl.row, eI 20 (a0.Zp.length : Int), eI 21 (J : Int)]) (fun n1 J => a0.Zp.length < n1 + J /\ J <= a0.Zp.length) (a0.Zp.length + 1) 0 (fun p1 J e1 j1 => ?_)
 refine cFf e1 ?_ ?_ <;> intro k3 h2 e1
 ·have i1 := ix h2
  have m2 := ml a0.Zp (k3 19 _ rfl)
  have w1 := wr J
  simp [i1, ZI]
  refine rpS ?_
  refine dIs mixed ?_
  refine cRs (PH (a0.Zp.take J) (nth a0.Zp J)) ?_
  refine cF e1 ?_ ?_ <;> intro k5 h3 e1
  ·have f := ms f e1
   exact rt [.tmp 2] f
  exact ny1 w1 e1
 have f := ms f e1
 refine lp1 (yv.eq_2 a0) (fun wR => XQ 65 [eX 1 (a0.row.map .d), eL 34 5 a0.Zn Za.row, eI 35 (a0.Zn.length : Int), eI 36 (wR : Int)]) (fun n2 wR => a0.Zn.length < n2 + wR /\ wR <= a0.Zn.length) (a0.Zn.length + 1) 0 (fun p2 wR e2 j2 => ?_)
 refine cFf e2 ?_ ?_ <;> intro k7 h4 e2
 ·have i2 := ix h4
  have m4 := ml a0.Zn (k7 34 _ rfl)
  have w2 := wr wR
  simp [i2, ZI]
  refine rpS ?_
  refine dIs mixed ?_
  refine cRs (Zx (nth a0.Zn wR).Count 1 (a0.Zp.length : Int)) ?_
  refine gIf ?_ ?_ <;> intro G
  ·have i3 := ik (wR - 1) a0.Zn
   have w3 : IntKind.i64.wrap ((wR : Int) - 1) = (wR : Int) - 1 := XV (by omega) (by omega)
   simp [i3, ZI, w3, jL, G]
   refine rpG ?_
   refine cKo e2 ?_ ?_ <;> intro k9 h5 e2
   ·have q5 := h5; try simp [ZO] at q5
    have f := ms f e2
    simp [G]
    refine rpG ?_
    exact rtg [.tmp 2] f
   ·have q5 := h5; try simp [ZO] at q5
    simp [G]
    refine rpG ?_
    exact ny1 (an w2 (an w3 G)) e2
  ·refine cKo e2 ?_ ?_ <;> intro iD h6 e2
   ·have q6 := h6; try simp [ZO] at q6
    have f := ms f e2
    simp [G]
    refine rpG ?_
    exact rtg [.tmp 2] f
   ·have q6 := h6; try simp [ZO] at q6
    simp [G]
    refine rpG ?_
    exact ny1 (an w2 G) e2
 have f := ms f e2
 exact rt [.tmp 2] f
theorem TF (a0 : ZS) : Sa 151 [a0.row] [rB (Q8 a0)] := by
 have f := me (Q8.eq_1 a0)
 refine so func151 ntmps151 ?_
 refine dIs mixed ?_
 refine cRs (Zx a0.Id 1 999) ?_
 refine cGs (fun gg => (kQ a0.YQ)) ?_
 refine cGs (fun gg => (je a0.Doc)) ?_
 refine cGs (fun gg => (qa a0.Zc)) ?_
 refine gIf ?_ ?_ <;> intro G
 ·have px := G
  have g1 := G; try simp [ZO] at g1
  have i1 : 0 < a0.Zc.Zp.length := by have := S8 (a := a0.Zc); simp_all
  simp [i1, ZI, G]
  refine rpG ?_
  refine cGg (fun gg => Yx.rd (j8 a0.Sig)) ?_
  refine cGg (fun gg => (qd (nth a0.Zc.Zp 0) (X4 a0.Sig))) ?_
  exact rtg [.tmp 2] f
 ·have px := G
  refine sGo ?_
  simp [G]
  refine rpG ?_
  refine sGo ?_
  simp [G]
  refine rpG ?_
  exact rtg [.tmp 2] f
theorem KM (a0 : ZD) : Sa 65 [a0.row] [rB (Zz a0)] := by
 have f := me (Zz.eq_1 a0)
 refine so func65 ntmps65 ?_
 refine lp1 (yD.eq_2 a0) (fun J => XQ 42 [eX 1 (a0.row.map .d), eL 6 16 a0.ZF ZS.row, eI 7 (a0.ZF.length : Int), eI 8 (J : Int)]) (fun n1 J => a0.ZF.length < n1 + J /\ J <= a0.ZF.length) (a0.ZF.length + 1) 0 (fun p1 J e1 j1 => ?_)
 refine cFf e1 ?_ ?_ <;> intro k2 h1 e1
 ·have i1 := ix h1
  have m2 := ml a0.ZF (k2 6 _ rfl)
  have w1 := wr J
  simp [i1, ZI]
  refine rpS ?_
  refine dIs mixed ?_
  refine cRs (TF (nth a0.ZF J)) ?_
  refine gIf ?_ ?_ <;> intro G
  ·have i2 := ik (J - 1) a0.ZF
   have w2 : IntKind.i64.wrap ((J : Int) - 1) = (J : Int) - 1 := XV (by omega) (by omega)
   simp [i2, ZI, w2, jL, G]
   refine rpG ?_
   refine cK e1 ?_ ?_ <;> intro k4 h2 e1
   ·have f := ms f e1
    exact rtg [.tmp 2] f
   ·exact ny1 (an w1 (an w2 G)) e1
  ·refine cK e1 ?_ ?_ <;> intro k5 h3 e1
   ·have f := ms f e1
    exact rtg [.tmp 2] f
   ·exact ny1 (an w1 G) e1
 have f := ms f e1
 refine cRs (Zx a0.Id 0 99) ?_
 exact rt [.tmp 2] f
theorem VI (a0 : ZD) (a1 : ZS) (u0 : Sm 2318336 a0) (u1 : Sm 2318336 a1) : Sd 229 [a0.row, a1.row] [(Z0 a0 a1).1.row, rB (Z0 a0 a1).2] := by
 have f := me (Z0.eq_1 a0 a1)
 refine soD func229 ntmps229 ?_
 refine cRs (Kt a0 a1.Id) ?_
 refine cGs (fun gg => (KM a0)) ?_
 refine cF f ?_ ?_ <;> intro k1 h1 f
 ·refine cDs [] (Zy a0 (sg u0)) ?_
  exact rtD [.cell 4 73, .tmp 5] f
 refine cDs [] (Zy a0 (sg u0)) ?_
 refine lp1 (yN.eq_2 a0 a1) (fun J => XQ 62 [eX 2 (a0.row.map .d), eX 3 (a1.row.map .d), (4, .one (.bptr 4 0), [.box [.d (.int .i64 0), .nil 16]]), (6, .one (.bptr 6 0), [.box [.d (.int .i64 a0.Id), .sref 21 1 0 a0.ZF.length]]), eI 7 (J : Int), (21, .any, [.none, .arr true 16 (a0.ZF.map ZS.row)])]) (fun n1 J => a0.ZF.length < n1 + J /\ J <= a0.ZF.length) (a0.ZF.length + 1) 0 (fun p1 J e1 j1 => ?_)
 refine dIs mixed ?_
 refine gIf ?_ ?_ <;> intro G
 ·have i1 := ik J a0.ZF
  simp [i1, ZI, G]
  refine rpG ?_
  refine cK e1 ?_ ?_ <;> intro k4 h2 e1
  ·try (simp [G] at h2; done)
   all_goals
    have i2 : J < a0.ZF.length := by (simp at h2; omega)
    have m2 := ml a0.ZF (k4 24 _ rfl)
    have c1 := sl 2318336 a0.ZF (an u0 u1)
    have w1 := wr J
    exact ny1 (an w1 G) e1
  ·try (simp [G] at h2; done)
   all_goals
    have c2 := sl 2318336 a0.ZF (an u0 u1)
    have f := ms f e1
    refine Lg [(3, 3), (6, 6), (41, 6), (50, 6), (55, 6)] [] [45, 49, 54] mixed (by kernel_rfl) (by kernel_rfl) (by kernel_rfl) (by kernel_rfl) (by kernel_rfl) (by kernel_rfl) (by kernel_rfl) ?_
    simp [G]
    refine rpG ?_
    refine Wu ?_
    simp [G]
    refine rpG ?_
    refine Gg (wC := (([] : List ZS).map ZS.row)) (rows := (a0.ZF.map ZS.row)) (news := ((a0.ZF.take J).map ZS.row)) (l1 := [(40, 0)]) (size := 16) (u := 21) (j := 1) (lo := 0) (n := J) rfl rfl rfl rfl (by simp) (by simp) (by simp) (by simp) (by simp) (by simp) (by first | omega | (simp; omega)) (by simp [cut]) (by simp) (by first | omega | (simp; omega)) ?_
    simp [G]
    refine rpG ?_
    refine cDg [true, true, true, false, false] (KL a1 (sg u1)) ?_
    refine Wu ?_
    have c3 := sl 2318336 (a0.ZF.take J) (an u0 u1)
    simp [G]
    refine rpG ?_
    refine UO (wC := ((a0.ZF.take J).map ZS.row)) (news := (([a1] : List ZS).map ZS.row)) (l1 := [(45, 0)]) (l2 := [(47, 3), (47, 4), (47, 14), (47, 15)]) (size := 16) ?_
    simp [G]
    refine rpG ?_
    refine Gg (wC := (((a0.ZF.take J) ++ ([a1] : List ZS)).map ZS.row)) (rows := (Xy (a0.ZF.map ZS.row) 0 J)) (news := ((a0.ZF.drop J).map ZS.row)) (l1 := [(49, 0)]) (size := 16) (u := 21) (j := 1) (lo := J) (n := (a0.ZF.length - J)) rfl rfl rfl rfl (by simp) (by simp) (by simp) (by simp) (by simp) (by simp) (by rw [KS (by first | omega | (simp; omega))]; first | omega | (simp; omega)) ((TK (by first | omega | (simp; omega)) (by first | omega | (simp; omega))).trans (j7 _ _ _)) (by simp) (by first | omega | (simp; omega)) ?_
    simp [G]
    refine rpG ?_
    refine cRg (KM (ZD.mk a0.Id (((a0.ZF.take J) ++ ([a1] : List ZS)) ++ (a0.ZF.drop J)))) ?_
    refine cK f ?_ ?_ <;> intro k6 h3 f
    ·try (simp [G] at h3; done)
     all_goals
      refine cDg [] (Zy a0 (sg u0)) ?_
      exact yQ [.cell 4 73, .tmp 5] f
    ·try (simp [G] at h3; done)
     all_goals
      exact yQ [.cell 4 73, .tmp 5] f
 ·refine cK e1 ?_ ?_ <;> intro k7 h4 e1
  ·try (simp [G] at h4; done)
   all_goals
    have i4 : J < a0.ZF.length := by (simp at h4; omega)
    have m4 := ml a0.ZF (k7 24 _ rfl)
    have c4 := sl 2318336 a0.ZF (an u0 u1)
    have w2 := wr J
    exact ny1 (an w2 G) e1
  ·try (simp [G] at h4; done)
   all_goals
    have c5 := sl 2318336 a0.ZF (an u0 u1)
    have f := ms f e1
    refine Lg [(3, 3), (6, 6), (41, 6), (50, 6), (55, 6)] [] [45, 49, 54] mixed (by kernel_rfl) (by kernel_rfl) (by kernel_rfl) (by kernel_rfl) (by kernel_rfl) (by kernel_rfl) (by kernel_rfl) ?_
    simp [G]
    refine rpG ?_
    refine Wu ?_
    simp [G]
    refine rpG ?_
    refine Gg (wC := (([] : List ZS).map ZS.row)) (rows := (a0.ZF.map ZS.row)) (news := ((a0.ZF.take J).map ZS.row)) (l1 := [(40, 0)]) (size := 16) (u := 21) (j := 1) (lo := 0) (n := J) rfl rfl rfl rfl (by simp) (by simp) (by simp) (by simp) (by simp) (by simp) (by first | omega | (simp; omega)) (by simp [cut]) (by simp) (by first | omega | (simp; omega)) ?_
    simp [G]
    refine rpG ?_
    refine cDg [true, true, true, false, false] (KL a1 (sg u1)) ?_
    refine Wu ?_
    have c6 := sl 2318336 (a0.ZF.take J) (an u0 u1)
    simp [G]
    refine rpG ?_
    refine UO (wC := ((a0.ZF.take J).map ZS.row)) (news := (([a1] : List ZS).map ZS.row)) (l1 := [(45, 0)]) (l2 := [(47, 3), (47, 4), (47, 14), (47, 15)]) (size := 16) ?_
    simp [G]
    refine rpG ?_
    refine Gg (wC := (((a0.ZF.take J) ++ ([a1] : List ZS)).map ZS.row)) (rows := (Xy (a0.ZF.map ZS.row) 0 J)) (news := ((a0.ZF.drop J).map ZS.row)) (l1 := [(49, 0)]) (size := 16) (u := 21) (j := 1) (lo := J) (n := (a0.ZF.length - J)) rfl rfl rfl rfl (by simp) (by simp) (by simp) (by simp) (by simp) (by simp) (by rw [KS (by first | omega | (simp; omega))]; first | omega | (simp; omega)) ((TK (by first | omega | (simp; omega)) (by first | omega | (simp; omega))).trans (j7 _ _ _)) (by simp) (by first | omega | (simp; omega)) ?_
    simp [G]
    refine rpG ?_
    refine cRg (KM (ZD.mk a0.Id (((a0.ZF.take J) ++ ([a1] : List ZS)) ++ (a0.ZF.drop J)))) ?_
    refine cK f ?_ ?_ <;> intro k9 h5 f
    ·try (simp [G] at h5; done)
     all_goals
      refine cDg [] (Zy a0 (sg u0)) ?_
      exact yQ [.cell 4 73, .tmp 5] f
    ·try (simp [G] at h5; done)
     all_goals
      exact yQ [.cell 4 73, .tmp 5] f
theorem qb (a0 : ZE) (a1 : Int) (a2 : Int) (a3 : ZP) (a4 : Int) (a5 : Int) (u0 : Sm 2314240 a0) (u1 : Sm 2314240 a3) : Sa 155 [a0.row, rI a1, rI a2, a3.row, rI a4, rI a5] [(YF a0 a1 a2 a3 a4 a5).1.row, rB (YF a0 a1 a2 a3 a4 a5).2] := by
 have f := me (YF.eq_1 a0 a1 a2 a3 a4 a5)
 refine so func155 ntmps155 ?_
 refine cRs (Kw a0.Frame.Methods a0.Frame.Now) ?_
 refine cRs (JU a0 a1) ?_
 refine cGs (fun gg => (Jz a0.Frame.Z9 a2)) ?_
 have c1 := sl 2314240 a0.ZA (an u0 u1)
 have w1 : IntKind.i64.wrap ((a0.ZA.length : Int) - 1) = (a0.ZA.length : Int) - 1 := XV (by omega) (by omega)
 refine cFo f ?_ ?_ <;> intro k1 h1 f
 ·have q1 := h1; try simp [w1, Z1, ZO] at q1
  simp
  exact rt [.cell 12 33, .tmp 13] f
 have q1 := h1; try simp [w1, Z1, ZO] at q1
 simp
 refine lp1 (Y3.eq_2 a0 a1 a2 a3 a4 a5) (fun J => XQ 116 [eI 1 a1, eI 2 a2, eI 4 a4, eI 5 a5, eX 6 (a0.row.map .d), eX 9 (a3.row.map .d), (12, .one (.bptr 12 0), [.box [.nil 5, .nil 3, .nil 4, .d (.int .i64 0), .d (.int .i64 0), .nil 7, .nil 1, .nil 2, .nil 1, .nil 1, .d (.int .i64 0), .nil 1]]), eX 14 (a0.Frame.row.map .d), eI 15 (ZJ a0.Frame.Methods a0.Frame.Now), eL 48 7 a0.Zb Ym.row, eI 49 (a0.Zb.length : Int), eI 50 (J : Int)]) (fun n1 J => a0.Zb.length < n1 + J /\ J <= a0.Zb.length) (a0.Zb.length + 1) 0 (fun p1 J e1 j1 => ?_)
 refine cFf e1 ?_ ?_ <;> intro k3 h2 e1
 ·have i1 := ix h2
  have m2 := ml a0.Zb (k3 48 _ rfl)
  have c2 := sl 2314240 a0.Zb (an u0 u1)
  have w2 := wr J
  simp [i1, ZI]
  refine rpS ?_
  refine cF e1 ?_ ?_ <;> intro k4 h3 e1
  ·exact ny1 (an w1 w2) e1
  refine dIs mixed ?_
  refine cRs (zV (ZJ a0.Frame.Methods a0.Frame.Now) a3 (sg u1)) ?_
  refine cRs (TZ a0.Frame.Z9 (Zr.mk a2 (nth a0.Zb J).YD (ZJ a0.Frame.Methods a0.Frame.Now) (YH (ZJ a0.Frame.Methods a0.Frame.Now) a3) 1 a4 0 0 0) (sg (Z2.xw (ZE.Xx u0)))) ?_
  refine dIs mixed ?_
  refine cRs (Yx.rd (j8 (YU a0.Frame.Z9 (Zr.mk a2 (nth a0.Zb J).YD (ZJ a0.Frame.Methods a0.Frame.Now) (YH (ZJ a0.Frame.Methods a0.Frame.Now) a3) 1 a4 0 0 0)).1)) ?_
  refine cRs (Yx.rd (RV (nth a0.Zb J))) ?_
  refine eIs ?_
  refine dIo mixed ?_
  have i2 := ik a1.toNat a0.ZA
  simp [i2, ZI]
  refine rpS ?_
  refine cDs [] (VI (nth a0.ZA a1.toNat) (ZS.mk a0.Next a5 a3 (YU a0.Frame.Z9 (Zr.mk a2 (nth a0.Zb J).YD (ZJ a0.Frame.Methods a0.Frame.Now) (YH (ZJ a0.Frame.Methods a0.Frame.Now) a3) 1 a4 0 0 0)).1 (Zf.mk ([(X4 (YU a0.Frame.Z9 (Zr.mk a2 (nth a0.Zb J).YD (ZJ a0.Frame.Methods a0.Frame.Now) (YH (ZJ a0.Frame.Methods a0.Frame.Now) a3) 1 a4 0 0 0)).1), (Qg (nth a0.Zb J))] : List Zl) ([] : List Za))) (sg (Yi (ZE.Yu u0))) (by simp (maxDischargeDepth := 12) [Kc, Xg, kd, kM, ZW (m := 2318336) (by decide) u0, ZW (m := 2318336) (by decide) u1]; try omega)) ?_
  refine cF e1 ?_ ?_ <;> intro k8 h4 e1
  ·have f := ms f e1
   exact rt [.cell 12 33, .tmp 13] f
  refine cDf i2 [false, false, false, true, true, false, false, true, false, false, true, false] (Zk a0 (sg u0)) ?_
  refine L2 (t := 103) (j := 7) (i := a1.toNat) (size := 2) (rows := (a0.ZA.map ZD.row)) (ds := (Z0 (nth a0.ZA a1.toNat) (ZS.mk a0.Next a5 a3 (YU a0.Frame.Z9 (Zr.mk a2 (nth a0.Zb J).YD (ZJ a0.Frame.Methods a0.Frame.Now) (YH (ZJ a0.Frame.Methods a0.Frame.Now) a3) 1 a4 0 0 0)).1 (Zf.mk ([(X4 (YU a0.Frame.Z9 (Zr.mk a2 (nth a0.Zb J).YD (ZJ a0.Frame.Methods a0.Frame.Now) (YH (ZJ a0.Frame.Methods a0.Frame.Now) a3) 1 a4 0 0 0)).1), (Qg (nth a0.Zb J))] : List Zl) ([] : List Za)))).1.row) (L := [(92, 1)]) ?_
  have f := ms f e1
  simp [Jy (x := (Z0 (nth a0.ZA a1.toNat) (ZS.mk a0.Next a5 a3 (YU a0.Frame.Z9 (Zr.mk a2 (nth a0.Zb J).YD (ZJ a0.Frame.Methods a0.Frame.Now) (YH (ZJ a0.Frame.Methods a0.Frame.Now) a3) 1 a4 0 0 0)).1 (Zf.mk ([(X4 (YU a0.Frame.Z9 (Zr.mk a2 (nth a0.Zb J).YD (ZJ a0.Frame.Methods a0.Frame.Now) (YH (ZJ a0.Frame.Methods a0.Frame.Now) a3) 1 a4 0 0 0)).1), (Qg (nth a0.Zb J))] : List Zl) ([] : List Za)))).1) rfl, c1, i2, ZI, Xa]
  refine rpS ?_
  exact rt [.cell 12 33, .tmp 13] f
 have c3 := sl 2314240 a0.Zb (an u0 u1)
 have f := ms f e1
 exact rt [.cell 12 33, .tmp 13] f
theorem PY (a0 : ZE) (a1 : Int) (a2 : Int) (a3 : ZP) (a4 : Int) (a5 : Int) (u0 : Sm 2310144 a0) (u1 : Sm 2310144 a3) : Sd 73 [a0.row, rI a1, rI a2, a3.row, rI a4, rI a5] [(Xu a0 a1 a2 a3 a4 a5).1.row, rB (Xu a0 a1 a2 a3 a4 a5).2] := by
 have f := me (Xu.eq_1 a0 a1 a2 a3 a4 a5)
 refine soD func73 ntmps73 ?_
 refine cRs (Jz a0.Frame.Z9 a2) ?_
 refine dIs mixed ?_
 refine gIf ?_ ?_ <;> intro G
 ·have i1 : (YM a0.Frame.Z9 a2).toNat < a0.Frame.Z9.length := by have := zJ a0.Frame.Z9 a2; exact il
  simp [i1, ZI, G]
  refine rpG ?_
  refine cK f ?_ ?_ <;> intro k2 h1 f
  ·try (simp [G] at h1; done)
   all_goals
    refine cDg [false, false, false, true, true, false, false, true, false, false, true, false] (Zk a0 (by first | (exact ZW (n := 2310144) (by decide) (xs (an u0 u1))) | (exact ZW (n := 2310144 + 1) (by decide) (QI (n := 2310144) (xs (an u0 u1)) (xs (an u0 u1)) (by decide))))) ?_
    exact yQ [.cell 12 33, .tmp 13] f
  ·try (simp [G] at h1; done)
   all_goals
    refine cRg (qb a0 a1 a2 a3 a4 a5 (sg u0) (sg u1)) ?_
    refine cDg [false, false, false, true, true, false, false, true, false, false, true, false] (Zk (YF a0 a1 a2 a3 a4 a5).1 (by first | (exact ZW (n := 2310144) (by decide) (xs (an u0 u1))) | (exact ZW (n := 2310144 + 1) (by decide) (QI (n := 2310144) (xs (an u0 u1)) (xs (an u0 u1)) (by decide))))) ?_
    exact yQ [.cell 12 33, .tmp 13] f
 ·refine cK f ?_ ?_ <;> intro k3 h2 f
  ·try (simp [G] at h2; done)
   all_goals
    refine cDg [false, false, false, true, true, false, false, true, false, false, true, false] (Zk a0 (by first | (exact ZW (n := 2310144) (by decide) (xs (an u0 u1))) | (exact ZW (n := 2310144 + 1) (by decide) (QI (n := 2310144) (xs (an u0 u1)) (xs (an u0 u1)) (by decide))))) ?_
    exact yQ [.cell 12 33, .tmp 13] f
  ·try (simp [G] at h2; done)
   all_goals
    refine cRg (qb a0 a1 a2 a3 a4 a5 (sg u0) (sg u1)) ?_
    refine cDg [false, false, false, true, true, false, false, true, false, false, true, false] (Zk (YF a0 a1 a2 a3 a4 a5).1 (by first | (exact ZW (n := 2310144) (by decide) (xs (an u0 u1))) | (exact ZW (n := 2310144 + 1) (by decide) (QI (n := 2310144) (xs (an u0 u1)) (xs (an u0 u1)) (by decide))))) ?_
    exact yQ [.cell 12 33, .tmp 13] f
theorem U2 (a0 : ZE) (a1 : Int) : Sa 24 [a0.row, rI a1] [rI (ZK a0 a1).1, rI (ZK a0 a1).2] := by
 have f := me (ZK.eq_1 a0 a1)
 refine so func24 ntmps24 ?_
 refine lp1 (zw.eq_2 a0 a1) (fun J => XQ 25 [eI 1 a1, eL 10 2 a0.ZA ZD.row, eI 11 (a0.ZA.length : Int), eI 12 (J : Int)]) (fun n1 J => a0.ZA.length < n1 + J /\ J <= a0.ZA.length) (a0.ZA.length + 1) 0 (fun p1 J e1 j1 => ?_)
 refine cFf e1 ?_ ?_ <;> intro k2 h1 e1
 ·have i1 := ix h1
  have m2 := ml a0.ZA (k2 10 _ rfl)
  have w1 := wr J
  simp [i1, ZI]
  refine rpS ?_
  refine cRs (Kt (nth a0.ZA J) a1) ?_
  refine cF e1 ?_ ?_ <;> intro k3 h2 e1
  ·have f := ms f e1
   exact rt [.tmp 4, .tmp 5] f
  exact ny1 w1 e1
 have f := ms f e1
 exact rt [.tmp 4, .tmp 5] f
theorem UG (a0 : Zl) : Sa 234 [a0.row] [rI (Xt a0)] := by
 have f := me (Xt.eq_1 a0)
 refine so func234 ntmps234 ?_
 refine dIs mixed ?_
 refine gIf ?_ ?_ <;> intro G
 ·have i1 := ik 0 a0.QP
  simp [i1, ZI, G]
  refine rpG ?_
  refine cGg (fun gg => (Zx (nth a0.QP 0) 101 105)) ?_
  refine gJf G ?_ ?_ <;> intro G
  ·try (simp at G; done)
   all_goals
    have g2 := G.2; try simp [ZO] at g2
    all_goals
     simp [i1, ZI, G]
     refine rpG ?_
     refine gK (fun _ => ?_)
     have r1 : ∀ i : Nat, i < 5 -> cut [At.d (.int .i64 7), At.d (.int .i64 5), At.d (.int .i64 5), At.d (.int .i64 9), At.d (.int .i64 6)] i 1 = [At.d (.int .i64 (nth ([7, 5, 5, 9, 6] : List Int) i))] := by intro i h; (have z : i = 0 \/ i = 1 \/ i = 2 \/ i = 3 \/ i = 4 := by omega); rcases z with rfl | rfl | rfl | rfl | rfl <;> rfl
     have i2 : (W ((nth a0.QP 0) - 101)).toNat < 5 := by first | omega | ((try simp only [XR, show ∀ x, IntKind.i64.wrap x = W x from fun _ => rfl] at *); omega)
     have gH := r1 _ i2; simp only [cut] at gH
     simp [r1 _ i2, gH, G]
     refine rpG ?_
     refine cKo f ?_ ?_ <;> intro k2 h1 f
     ·have q1 := h1; try simp [ZO] at q1
      simp [G]
      refine rpG ?_
      exact rtg [.tmp 2] f
     ·have q1 := h1; try simp [ZO] at q1
      simp [i1, ZI, G]
      refine rpG ?_
      exact rtg [.tmp 2] f
  ·try (simp at G; done)
   all_goals
    refine sGg ?_
    refine cKo f ?_ ?_ <;> intro k3 h2 f
    ·have q2 := h2; try simp [ZO] at q2
     simp [G]
     refine rpG ?_
     exact rtg [.tmp 2] f
    ·simp [G] at h2
 ·refine sGo ?_
  simp [G]
  refine rpG ?_
  refine gJf G ?_ ?_ <;> intro G
  ·try (simp at G; done)
   all_goals
    have g3 := G.2; try simp [ZO] at g3
    all_goals
     have i5 := ik 0 a0.QP
     simp [i5, ZI, G]
     refine rpG ?_
     refine gK (fun _ => ?_)
     have r3 : ∀ i : Nat, i < 5 -> cut [At.d (.int .i64 7), At.d (.int .i64 5), At.d (.int .i64 5), At.d (.int .i64 9), At.d (.int .i64 6)] i 1 = [At.d (.int .i64 (nth ([7, 5, 5, 9, 6] : List Int) i))] := by intro i h; (have z : i = 0 \/ i = 1 \/ i = 2 \/ i = 3 \/ i = 4 := by omega); rcases z with rfl | rfl | rfl | rfl | rfl <;> rfl
     have i6 : (W ((nth a0.QP 0) - 101)).toNat < 5 := by first | omega | ((try simp only [XR, show ∀ x, IntKind.i64.wrap x = W x from fun _ => rfl] at *); omega)
     have gI := r3 _ i6; simp only [cut] at gI
     simp [r3 _ i6, gI, G]
     refine rpG ?_
     refine cKo f ?_ ?_ <;> intro k4 h3 f
     ·simp [G] at h3
     ·simp [G] at h3
  ·try (simp at G; done)
   all_goals
    refine sGg ?_
    refine cKo f ?_ ?_ <;> intro k5 h4 f
    ·have q4 := h4; try simp [ZO] at q4
     simp [G]
     refine rpG ?_
     exact rtg [.tmp 2] f
    ·simp [G] at h4
theorem Sy (a0 : Zl) : Sa 159 [a0.row] [(KV a0).1.row, rB (KV a0).2] := by
 have f := me (KV.eq_1 a0)
 refine so func159 ntmps159 ?_
 refine dIs mixed ?_
 refine cRs (UG a0) ?_
 refine gIf ?_ ?_ <;> intro G
 ·have px := G
  have g1 := G; try simp at g1
  have i1 : 6 < a0.QP.length := by (have z := Ya a0; simp_all; done)
  simp [i1, ZI, G]
  refine rpG ?_
  refine cK f ?_ ?_ <;> intro k2 h1 f
  ·try (simp [G] at h1; done)
   all_goals
    exact rtg [.cell 2 107, .tmp 3] f
  ·try (simp [G] at h1; done)
   all_goals
    refine dIo mixed ?_
    have i2 : 1 < a0.QP.length := by (have z := Ya a0; simp_all; done)
    have i3 : 2 < a0.QP.length := by (have z := Ya a0; simp_all; done)
    have i4 : 3 < a0.QP.length := by (have z := Ya a0; simp_all; done)
    have i5 : 4 < a0.QP.length := by (have z := Ya a0; simp_all; done)
    have i6 : 5 < a0.QP.length := by (have z := Ya a0; simp_all; done)
    simp [i2, ZI, i3, i4, i5, i6, i1, G]
    refine rpG ?_
    exact rtg [.cell 2 107, .tmp 3] f
 ·have px := G
  refine cK f ?_ ?_ <;> intro k4 h2 f
  ·try (simp [G] at h2; done)
   all_goals
    exact rtg [.cell 2 107, .tmp 3] f
  ·try (simp [G] at h2; done)
   all_goals
    refine dIo mixed ?_
    have i8 : 1 < a0.QP.length := by (have z := Ya a0; simp_all; done)
    have i9 : 2 < a0.QP.length := by (have z := Ya a0; simp_all; done)
    have i10 : 3 < a0.QP.length := by (have z := Ya a0; simp_all; done)
    have i11 : 4 < a0.QP.length := by (have z := Ya a0; simp_all; done)
    have i12 : 5 < a0.QP.length := by (have z := Ya a0; simp_all; done)
    have i13 : 6 < a0.QP.length := by (have z := Ya a0; simp_all; done)
    simp [i8, ZI, i9, i10, i11, i12, i13, G]
    refine rpG ?_
    exact rtg [.cell 2 107, .tmp 3] f
theorem Ri (a0 : List Ym) (a1 : Int) : Sa 64 [rL 7 Ym.row a0, rI a1] [rI (K2 a0 a1)] := by
 have f := me (K2.eq_1 a0 a1)
 refine so func64 ntmps64 ?_
 refine lp1 (yk.eq_2 a0 a1) (fun J => XQ 20 [eI 1 a1, eL 7 7 a0 Ym.row, eI 8 (a0.length : Int), eI 9 (J : Int)]) (fun n1 J => a0.length < n1 + J /\ J <= a0.length) (a0.length + 1) 0 (fun p1 J e1 j1 => ?_)
 refine cFf e1 ?_ ?_ <;> intro k2 h1 e1
 ·have i1 := ix h1
  have m2 := ml a0 (k2 7 _ rfl)
  have w1 := wr J
  simp [i1, ZI]
  refine rpS ?_
  refine cF e1 ?_ ?_ <;> intro k3 h2 e1
  ·have f := ms f e1
   exact rt [.tmp 4] f
  exact ny1 w1 e1
 have f := ms f e1
 exact rt [.tmp 4] f
theorem JF {a b : Prop} (h : b) (k : a := by (intros; first | omega | with_unfolding_all (first | first | omega | (have fi := Qd a0 a1 (by first | omega | (simp at *; omega)); omega) | (simp only [Bool.or_eq_false_iff, decide_eq_false_iff_not] at *; omega)) | (simp_all; done) | (simp_all; omega) | grind | ((try simp only [XR, show ∀ x, IntKind.i64.wrap x = W x from fun _ => rfl] at *); omega))) : a /\ b := ⟨k, h⟩
theorem U0 (a0 : ZE) (a1 : Int) : Sa 81 [a0.row, rI a1] [rI (Zi a0 a1).1, rI (Zi a0 a1).2.1, rB (Zi a0 a1).2.2] := by
 have f := me (Zi.eq_1 a0 a1)
 refine so func81 ntmps81 ?_
 refine cRs (U2 a0 a1) ?_
 refine gIo ?_ ?_ <;> intro G
 ·have px := G
  have g1 := G; try simp at g1
  have i1 : (ZK a0 a1).1.toNat < a0.ZA.length := by first | omega | (have fi := Qd a0 a1 (by first | omega | (simp at *; omega)); omega) | (simp only [Bool.or_eq_false_iff, decide_eq_false_iff_not] at *; omega)
  simp [i1, ZI, G]
  repeat with_reducible refine JF ?_
  refine gK (fun _ => ?_)
  have i2 : (ZK a0 a1).2.toNat < (nth a0.ZA (ZK a0 a1).1.toNat).ZF.length := by first | omega | (have fi := Qd a0 a1 (by first | omega | (simp at *; omega)); omega) | (simp only [Bool.or_eq_false_iff, decide_eq_false_iff_not] at *; omega)
  simp [i2, ZI, G]
  repeat with_reducible refine JF ?_
  refine cKo f ?_ ?_ <;> intro k1 h1 f
  ·simp [G]
   repeat with_reducible refine JF ?_
   exact rtg [.tmp 4, .tmp 5, .tmp 6] f
  ·have i3 : 1 < (nth (nth a0.ZA (ZK a0 a1).1.toNat).ZF (ZK a0 a1).2.toNat).Zc.Zp.length := by first | omega | (have fi := Qd a0 a1 (by first | omega | (simp at *; omega)); omega) | (simp only [Bool.or_eq_false_iff, decide_eq_false_iff_not] at *; omega)
   simp [i1, ZI, i2, i3, G]
   repeat with_reducible refine JF ?_
   refine cR (Sy (nth (nth (nth a0.ZA (ZK a0 a1).1.toNat).ZF (ZK a0 a1).2.toNat).Zc.Zp 1)) ?_
   simp [G]
   repeat with_reducible refine JF ?_
   refine cR (Ri a0.Zb (KV (nth (nth (nth a0.ZA (ZK a0 a1).1.toNat).ZF (ZK a0 a1).2.toNat).Zc.Zp 1)).1.YD) ?_
   simp [G]
   repeat with_reducible refine JF ?_
   exact rtg [.tmp 4, .tmp 5, .tmp 6] f
 ·have px := G
  simp [G]
  repeat with_reducible refine JF ?_
  refine sGo ?_
  simp [G]
  repeat with_reducible refine JF ?_
  refine cKo f ?_ ?_ <;> intro k2 h2 f
  ·simp [G]
   repeat with_reducible refine JF ?_
   exact rtg [.tmp 4, .tmp 5, .tmp 6] f
  ·simp [G] at h2
theorem jj (a0 : Yb) : Sd 236 [a0.row] [rL 1 iR (QZ a0)] := by
 have f := me (QZ.eq_1 a0)
 refine soD func236 ntmps236 ?_
 exact rtD [.tmp 2] f
theorem PN (a0 : Yb) : Sa 237 [a0.row] [rB (W6 a0)] := by
 have f := me (W6.eq_1 a0)
 refine so func237 ntmps237 ?_
 refine cRs (Zx a0.YD 1 999) ?_
 refine cGs (fun gg => (kQ a0.NW)) ?_
 refine cGs (fun gg => (Zx a0.YC (-1) (W (a0.NW + 1)))) ?_
 refine cGs (fun gg => (Zx a0.YZ 1 99)) ?_
 exact rt [.tmp 2] f
theorem Tc (a0 : List Yq) (a1 : Yb) (u0 : Sm 2318336 a0) : Sa 161 [rL 5 Yq.row a0, a1.row] [(Y5 a0 a1).1.row, rB (Y5 a0 a1).2] := by
 have f := me (Y5.eq_1 a0 a1)
 refine so func161 ntmps161 ?_
 refine dIs mixed ?_
 refine cRs (Yx.rd (jj a1)) ?_
 refine cRs (j4 a0 a1.YZ (QZ a1) (sg u0) (by simp (maxDischargeDepth := 12) [jk, ZW (m := 2322432) (by decide) u0]; try omega)) ?_
 refine cRs (PN a1) ?_
 refine cF f ?_ ?_ <;> intro k2 h1 f
 ·exact rt [.cell 4 128, .tmp 5] f
 exact rt [.cell 4 128, .tmp 5] f
theorem UA (a0 : Yb) : Sd 163 [a0.row] [(XJ a0).row] := by
 have f := me (XJ.eq_1 a0)
 refine soD func163 ntmps163 ?_
 refine dIs mixed ?_
 refine cDs [false] (jj a0) ?_
 exact rtD [.cell 2 177] f
theorem PZ (a0 : Zf) (a1 : Zl) (u0 : Sm 2326528 a0) (u1 : Sm 2326528 a1) : Sd 238 [a0.row, a1.row] [(X8 a0 a1).1.row, rB (X8 a0 a1).2] := by
 have f := me (X8.eq_1 a0 a1)
 refine soD func238 ntmps238 ?_
 refine cDs [] (JV a0 (sg u0)) ?_
 refine drJ [14] mixed ?_
 simp
 refine cDs [true, false] (jc a1 (sg u1)) ?_
 refine Wu ?_
 have c1 := sl 2326528 a0.Zp (an u0 u1)
 simp
 refine UO (wC := (a0.Zp.map Zl.row)) (news := (([a1] : List Zl).map Zl.row)) (l1 := [(8, 0)]) (l2 := [(12, 1)]) (size := 3) ?_
 simp
 refine cRs (qa (Zf.mk (a0.Zp ++ ([a1] : List Zl)) a0.Zn)) ?_
 refine cF f ?_ ?_ <;> intro k2 h1 f
 ·refine cDs [] (JV a0 (sg u0)) ?_
  exact rtD [.cell 4 68, .tmp 5] f
 exact rtD [.cell 4 68, .tmp 5] f
theorem SV (a0 : ZD) (a1 : Int) (a2 : Zl) (u0 : Sm 2318336 a0) (u1 : Sm 2318336 a2) : Sd 162 [a0.row, rI a1, a2.row] [(Xq a0 a1 a2).1.row, rB (Xq a0 a1 a2).2] := by
 have f := me (Xq.eq_1 a0 a1 a2)
 refine soD func162 ntmps162 ?_
 refine cDs [] (Zy a0 (sg u0)) ?_
 refine cRs (Kt a0 a1) ?_
 refine cF f ?_ ?_ <;> intro k1 h1 f
 ·exact rtD [.cell 6 73, .tmp 7] f
 refine dIo mixed ?_
 have i1 : (ZM a0 a1).toNat < a0.ZF.length := by have := QF a0 a1; exact il
 simp [i1, ZI]
 refine rpS ?_
 refine cDf i1 [] (PZ (nth a0.ZF (ZM a0 a1).toNat).Zc a2 (sg (ZS.J8 (Yi (ZD.Yc u0)))) (sg u1)) ?_
 refine Ek (t := 13) (j := 1) (i := (ZM a0 a1).toNat) (c := 14) (size := 16) (rows := (a0.ZF.map ZS.row)) (ds := (X8 (nth a0.ZF (ZM a0 a1).toNat).Zc a2).1.row) (L := [(28, 0), (28, 1)]) rfl rfl rfl rfl (by simp) (by simp) (by simp; try omega) (by simp) (by simp) (by simp) (by simp) (by simp) (by simp) ?_
 simp [Jy (x := (ZS.mk (nth a0.ZF (ZM a0 a1).toNat).Id (nth a0.ZF (ZM a0 a1).toNat).YQ (nth a0.ZF (ZM a0 a1).toNat).Doc (nth a0.ZF (ZM a0 a1).toNat).Sig (X8 (nth a0.ZF (ZM a0 a1).toNat).Zc a2).1)) rfl, i1, ZI, Xa]
 refine rpS ?_
 exact rtD [.cell 6 73, .tmp 7] f
theorem KB (a0 : ZE) (a1 : Int) (a2 : Int) (a3 : Yb) (u0 : Sm 2314240 a0) (u1 : 0 <= a1 /\ a1 < (a0.ZA.length : Int)) : Sd 83 [a0.row, rI a1, rI a2, a3.row] [(XU a0 a1 a2 a3).1.row, rB (XU a0 a1 a2 a3).2] := by
 have f := me (XU.eq_1 a0 a1 a2 a3)
 refine soD func83 ntmps83 ?_
 refine cRs (Tc a0.Frame.Z9 a3 (sg (Z2.xw (ZE.Xx u0)))) ?_
 refine dIo mixed ?_
 have i1 := ik a1.toNat a0.ZA
 simp [i1, ZI]
 refine rpS ?_
 refine cRs (Yx.rd (UA (Y5 a0.Frame.Z9 a3).1)) ?_
 refine cDs [] (SV (nth a0.ZA a1.toNat) a2 (XJ (Y5 a0.Frame.Z9 a3).1) (sg (Yi (ZE.Yu u0))) (by simp (maxDischargeDepth := 12) [qm, ZW (m := 2318336) (by decide) u0, ZW (m := 2318336) (by decide) u1]; try omega)) ?_
 refine cDs [false, false, false, true, true, false, false, true, false, false, true, false] (Zk a0 (sg u0)) ?_
 refine cFt f ?_ ?_ <;> intro k2 h1 f
 ·exact rtD [.cell 8 33, .tmp 9] f
 simp [i1, ZI]
 refine rpS ?_
 refine L2 (t := 36) (j := 7) (i := a1.toNat) (size := 2) (rows := (a0.ZA.map ZD.row)) (ds := (Xq (nth a0.ZA a1.toNat) a2 (XJ (Y5 a0.Frame.Z9 a3).1)).1.row) (L := [(32, 1)]) ?_
 simp [Jy (x := (Xq (nth a0.ZA a1.toNat) a2 (XJ (Y5 a0.Frame.Z9 a3).1)).1) rfl, i1, ZI, Xa]
 refine rpS ?_
 exact rtD [.cell 8 33, .tmp 9] f
theorem TN {a b : Prop} (h : b) (k : a := by (intros; first | omega | with_unfolding_all (first | first | omega | (have z := Yh a0 a1 (by simp_all); (try simp at *); omega)) | ((try simp only [XR, show ∀ x, IntKind.i64.wrap x = W x from fun _ => rfl] at *); omega))) : a /\ b := ⟨k, h⟩
theorem Z3 {a b : Prop} (h : b) (k : a := by (intros; first | omega | with_unfolding_all (first | first | omega | (have z := Yh a0 a1 (by simp_all); (try simp at *); omega)) | (simp_all; done) | (simp_all; omega) | grind | ((try simp only [XR, show ∀ x, IntKind.i64.wrap x = W x from fun _ => rfl] at *); omega))) : a /\ b := ⟨k, h⟩
theorem Tj (a0 : ZE) (a1 : Int) (u0 : Sm 2310144 a0) : Sd 74 [a0.row, rI a1] [(Xf a0 a1).1.row, rB (Xf a0 a1).2] := by
 have f := me (Xf.eq_1 a0 a1)
 refine soD func74 ntmps74 ?_
 refine cRs (U0 a0 a1) ?_
 refine cF f ?_ ?_ <;> intro k1 h1 f
 ·refine cDs [false, false, false, true, true, false, false, true, false, false, true, false] (Zk a0 (sg u0)) ?_
  exact rtD [.cell 4 33, .tmp 5] f
 refine dIo mixed ?_
 have i1 : (Zi a0 a1).2.1.toNat < a0.Zb.length := by first | omega | (have z := Yh a0 a1 (by simp_all); (try simp at *); omega)
 simp [i1, ZI]
 repeat with_reducible refine TN ?_
 refine cRs (Jz a0.Frame.Z9 (nth a0.Zb (Zi a0 a1).2.1.toNat).YZ) ?_
 refine dIs mixed ?_
 refine gIo ?_ ?_ <;> intro G
 ·have px := G
  have g1 := G; try simp at g1
  have i2 : (YM a0.Frame.Z9 (nth a0.Zb (Zi a0 a1).2.1.toNat).YZ).toNat < a0.Frame.Z9.length := by have := zJ a0.Frame.Z9 (nth a0.Zb (Zi a0 a1).2.1.toNat).YZ; first | omega | (have z := Yh a0 a1 (by simp_all); (try simp at *); omega)
  simp [i2, ZI, G]
  repeat with_reducible refine Z3 ?_
  refine cKo f ?_ ?_ <;> intro k4 h2 f
  ·try (simp [G] at h2; done)
   all_goals
    simp [G]
    repeat with_reducible refine Z3 ?_
    refine cD [false, false, false, true, true, false, false, true, false, false, true, false] (Zk a0 (sg u0)) ?_
    simp [G]
    repeat with_reducible refine Z3 ?_
    exact yQ [.cell 4 33, .tmp 5] f
  ·try (simp [G] at h2; done)
   all_goals
    have i3 : (Zi a0 a1).2.1.toNat < a0.YC.length := by first | omega | (have z := Yh a0 a1 (by simp_all); (try simp at *); omega)
    simp [i3, ZI, G]
    repeat with_reducible refine Z3 ?_
    refine cKo f ?_ ?_ <;> intro k5 h3 f
    ·try (simp [G] at h3; done)
     all_goals
      simp [G]
      repeat with_reducible refine Z3 ?_
      refine dIo mixed ?_
      simp [i1, ZI, G]
      repeat with_reducible refine Z3 ?_
      refine cD [false, false, false, true, true, false, false, true, false, false, true, false] (KB a0 (Zi a0 a1).1 a1 (Yb.mk (nth a0.Zb (Zi a0 a1).2.1.toNat).YD a0.Frame.Now (-1) (nth a0.Zb (Zi a0 a1).2.1.toNat).YZ 0) (sg u0) (by (have z := Yh a0 a1 (by simp_all); (try simp at *); omega))) ?_
      simp [G]
      repeat with_reducible refine Z3 ?_
      exact yQ [.cell 4 33, .tmp 5] f
    ·try (simp [G] at h3; done)
     all_goals
      simp [G]
      repeat with_reducible refine Z3 ?_
      refine dIo mixed ?_
      simp [i1, ZI, G]
      repeat with_reducible refine Z3 ?_
      refine cD [false, false, false, true, true, false, false, true, false, false, true, false] (KB a0 (Zi a0 a1).1 a1 (Yb.mk (nth a0.Zb (Zi a0 a1).2.1.toNat).YD a0.Frame.Now (nth a0.YC (Zi a0 a1).2.1.toNat) (nth a0.Zb (Zi a0 a1).2.1.toNat).YZ 0) (sg u0) (by (have z := Yh a0 a1 (by simp_all); (try simp at *); omega))) ?_
      simp [G]
      repeat with_reducible refine Z3 ?_
      exact yQ [.cell 4 33, .tmp 5] f
 ·have px := G
  simp [G]
  repeat with_reducible refine Z3 ?_
  refine cKo f ?_ ?_ <;> intro k8 h4 f
  ·try (simp [G] at h4; done)
   all_goals
    simp [G]
    repeat with_reducible refine Z3 ?_
    refine cD [false, false, false, true, true, false, false, true, false, false, true, false] (Zk a0 (sg u0)) ?_
    simp [G]
    repeat with_reducible refine Z3 ?_
    exact yQ [.cell 4 33, .tmp 5] f
  ·try (simp [G] at h4; done)
   all_goals
    have i5 : (Zi a0 a1).2.1.toNat < a0.YC.length := by first | omega | (have z := Yh a0 a1 (by simp_all); (try simp at *); omega)
    simp [i5, ZI, G]
    repeat with_reducible refine Z3 ?_
    refine cKo f ?_ ?_ <;> intro k9 h5 f
    ·try (simp [G] at h5; done)
     all_goals
      simp [G]
      repeat with_reducible refine Z3 ?_
      refine dIo mixed ?_
      simp [i1, ZI, G]
      repeat with_reducible refine Z3 ?_
      refine cD [false, false, false, true, true, false, false, true, false, false, true, false] (KB a0 (Zi a0 a1).1 a1 (Yb.mk (nth a0.Zb (Zi a0 a1).2.1.toNat).YD a0.Frame.Now (-1) (nth a0.Zb (Zi a0 a1).2.1.toNat).YZ 0) (sg u0) (by (have z := Yh a0 a1 (by simp_all); (try simp at *); omega))) ?_
      simp [G]
      repeat with_reducible refine Z3 ?_
      exact yQ [.cell 4 33, .tmp 5] f
    ·try (simp [G] at h5; done)
     all_goals
      simp [G]
      repeat with_reducible refine Z3 ?_
      refine dIo mixed ?_
      simp [i1, ZI, G]
      repeat with_reducible refine Z3 ?_
      refine cD [false, false, false, true, true, false, false, true, false, false, true, false] (KB a0 (Zi a0 a1).1 a1 (Yb.mk (nth a0.Zb (Zi a0 a1).2.1.toNat).YD a0.Frame.Now (nth a0.YC (Zi a0 a1).2.1.toNat) (nth a0.Zb (Zi a0 a1).2.1.toNat).YZ 0) (sg u0) (by (have z := Yh a0 a1 (by simp_all); (try simp at *); omega))) ?_
      simp [G]
      repeat with_reducible refine Z3 ?_
      exact yQ [.cell 4 33, .tmp 5] f
theorem TR (a0 : ZE) (a1 : Int) (u0 : Sm 2314240 a0) : Sd 75 [a0.row, rI a1] [(XE a0 a1).1.row, rB (XE a0 a1).2] := by
 have f := me (XE.eq_1 a0 a1)
 refine soD func75 ntmps75 ?_
 refine cDs [false, false, false, true, true, false, false, true, false, false, true, false] (Zk a0 (sg u0)) ?_
 refine cRs (Zx a1 0 (W ((a0.YC.length : Int) - 1))) ?_
 refine gIf ?_ ?_ <;> intro G
 ·have c1 := sl 2314240 a0.YC u0
  have w1 : IntKind.i64.wrap ((a0.YC.length : Int) - 1) = (a0.YC.length : Int) - 1 := XV (by omega) (by omega)
  have g1 := G; try simp [ZO, w1] at g1
  have i1 := ik a1.toNat a0.YC
  simp [i1, ZI, G]
  refine rpG ?_
  refine cKo f ?_ ?_ <;> intro k1 h1 f
  ·try (simp [G] at h1; done)
   all_goals
    have q1 := h1; try simp [ZO, w1] at q1
    simp [G]
    refine rpG ?_
    exact yQ [.cell 4 33, .tmp 5] f
  ·try (simp [G] at h1; done)
   all_goals
    have q1 := h1; try simp [ZO, w1] at q1
    simp [i1, ZI, Jy (x := (W (a0.Frame.Now + 1))) rfl, G]
    refine rpG ?_
    refine LS (rv := [.cell 4 33, .tmp 5]) rfl ?_
    simp [f.h, G]
    all_goals (repeat' (first | exact SE (by simp) (by simp) | refine And.intro ?_ ?_))
 ·have c2 := sl 2314240 a0.YC u0
  have w2 : IntKind.i64.wrap ((a0.YC.length : Int) - 1) = (a0.YC.length : Int) - 1 := XV (by omega) (by omega)
  refine cKo f ?_ ?_ <;> intro k2 h2 f
  ·try (simp [G] at h2; done)
   all_goals
    have q2 := h2; try simp [ZO, w2] at q2
    simp [G]
    refine rpG ?_
    exact yQ [.cell 4 33, .tmp 5] f
  ·try (simp [G] at h2; done)
   all_goals
    have q2 := h2; try simp [ZO, w2] at q2
    have i3 := ik a1.toNat a0.YC
    simp [i3, ZI, Jy (x := (W (a0.Frame.Now + 1))) rfl, G]
    refine rpG ?_
    refine LS (rv := [.cell 4 33, .tmp 5]) rfl ?_
    simp [f.h, G]
    all_goals (repeat' (first | exact SE (by simp) (by simp) | refine And.intro ?_ ?_))
theorem Sx (a0 : List Int) : Sa 62 [rL 1 iR a0] [rB (Xp a0)] := by
 have f := me (Xp.eq_1 a0)
 refine so func62 ntmps62 ?_
 refine lp1 (yE.eq_2 a0) (fun J => XQ 20 [eL 0 1 a0 iR, eI 3 (J : Int)]) (fun n1 J => a0.length < n1 + J /\ 1 <= J) (a0.length + 1) 1 (fun p1 J e1 j1 => ?_)
 refine cF e1 ?_ ?_ <;> intro k2 h1 e1
 ·have i1 := ix h1
  have m2 := ml a0 (k2 0 _ rfl)
  have w1 := wr J
  refine dIo mixed ?_
  have i2 := ik (J - 1) a0
  have w2 : IntKind.i64.wrap ((J : Int) - 1) = (J : Int) - 1 := XV (by omega) (by omega)
  simp [i2, ZI, w2, jL, i1]
  refine rpS ?_
  refine cF e1 ?_ ?_ <;> intro k4 h2 e1
  ·have f := ms f e1
   exact rt [.tmp 2] f
  exact ny1 (an w1 w2) e1
 have f := ms f e1
 exact rt [.tmp 2] f
theorem ju (a0 : ZQ) : Sd 170 [a0.row] [rL 1 iR (X5 a0)] := by
 have f := me (X5.eq_1 a0)
 refine soD func170 ntmps170 ?_
 exact rtD [.tmp 2] f
theorem xV (a0 : Int) (a1 : Za) (u0 : Sm 2326528 a1) : Sa 167 [rI a0, a1.row] [rI (J2 a0 a1)] := by
 have f := me (J2.eq_1 a0 a1)
 refine so func167 ntmps167 ?_
 refine lp2 (KF.eq_2 a1) (fun J U => XQ 59 [eI 0 a0, eX 3 (a1.row.map .d), (5, .one (.sref 5 0 0 J.length), [.arr false 1 (J.map iR)]), eL 19 2 a1.Path JR.row, eI 20 (a1.Path.length : Int), eI 21 (U : Int)]) (fun n1 J U => a1.Path.length < n1 + U /\ U <= a1.Path.length /\ J.length <= 4 + 2 * U) (a1.Path.length + 1) ([4, a1.Count, a1.Method, a1.GW] : List Int) 0 (fun p1 J U e1 j1 => ?_) (h0 := wkS [((5, 0), some (17, 0))] [])
 refine cFo e1 ?_ ?_ <;> intro k2 h1 e1
 ·have q1 := h1; try simp at q1
  have i1 := ix h1
  have m2 := ml a1.Path (k2 19 _ rfl)
  have c1 := sl 2326528 a1.Path u0
  have w1 := wr U
  simp [i1, ZI]
  refine rpS ?_
  refine cFo e1 ?_ ?_ <;> intro k3 h2 e1
  ·have q2 := h2; try simp at q2
   simp
   refine rpS ?_
   exact nx2 e1 (hw := QB [((5, 0), some (32, 0))] [] rfl (by simp [w1]))
  have q2 := h2; try simp at q2
  simp
  refine rpS ?_
  exact nx2 e1 (hw := QB [((5, 0), some (32, 0))] [] rfl (by simp [w1]))
 have q1 := h1; try simp at q1
 have c2 := sl 2326528 a1.Path u0
 have f := ms f e1
 simp
 refine rpS ?_
 refine lp2 (zb.eq_2 a1) (fun wR wT => XQ 59 [eI 0 a0, (5, .one (.sref 5 0 0 wR.length), [.arr false 1 (wR.map iR)]), eL 41 5 a1.Y7 ZQ.row, eI 42 (a1.Y7.length : Int), eI 43 (wT : Int)]) (fun n2 wR wT => a1.Y7.length < n2 + wT /\ wT <= a1.Y7.length /\ wR.length <= 5 + 2 * 2326528 + 6 * wT) (a1.Y7.length + 1) (J ++ ([(a1.Y7.length : Int)] : List Int)) 0 (fun p2 wR wT e2 j2 => ?_) (hI := by (have o : a1.Path.length <= 2326528 := XM (xs u0); simp at *; omega)) (h0 := wkS [((5, 0), some (39, 0))] [])
 try dsimp only at j2
 refine cFo e2 ?_ ?_ <;> intro k5 h3 e2
 ·have q3 := h3; try simp at q3
  have i2 := ix h3
  have m4 := ml a1.Y7 (k5 41 _ rfl)
  have c3 := sl 2326528 a1.Y7 u0
  have w2 := wr wT
  simp [i2, ZI]
  refine rpS ?_
  refine dIs mixed ?_
  refine cRs (Yx.rd (ju (nth a1.Y7 wT))) ?_
  exact nx2 e2 (hI := by (simp; omega)) (hw := QB [((5, 0), some (54, 0))] [] rfl (by simp [w2]))
 have q3 := h3; try simp at q3
 have c4 := sl 2326528 a1.Y7 u0
 have f := ms f e2
 simp
 refine cRs (Qf a0 wR (by first | (simp (maxDischargeDepth := 12) [Xg]; omega) | (simp (maxDischargeDepth := 12) [ZW (m := 68719476736) (by decide) u0]; done))) ?_
 exact rt [.tmp 4] f
theorem xq (a0 : Int) (a1 : List Zl) (u0 : Sm 2326528 a1) : Sa 253 [rI a0, rL 3 Zl.row a1] [rI (JY a0 a1)] := by
 have f := me (JY.eq_1 a0 a1)
 refine so func253 ntmps253 ?_
 refine lp2 (zt.eq_2 a0 a1) (fun J U => XQ 32 [eI 0 a0, (5, .one (.sref 5 0 0 J.length), [.arr false 1 (J.map iR)]), eL 9 3 a1 Zl.row, eI 10 (a1.length : Int), eI 11 (U : Int)]) (fun n1 J U => a1.length < n1 + U /\ U <= a1.length /\ J.length <= 1 + 1 * U) (a1.length + 1) ([2] : List Int) 0 (fun p1 J U e1 j1 => ?_) (h0 := wkS [((5, 0), some (8, 0))] [])
 refine cFf e1 ?_ ?_ <;> intro k2 h1 e1
 ·have i1 := ix h1
  have m2 := ml a1 (k2 9 _ rfl)
  have c1 := sl 2326528 a1 u0
  have w1 := wr U
  have c2 := sl 2326528 (nth a1 U).QP u0
  simp [i1, ZI]
  refine rpS ?_
  refine cRs (Qf a0 (([(nth a1 U).Key, (nth a1 U).Mark] : List Int) ++ (nth a1 U).QP) (by simp (maxDischargeDepth := 12) [Kc, Xg, ZW (m := 68719476736) (by decide) u0]; try omega)) ?_
  exact nx2 e1 (hw := QB [((5, 0), some (27, 0))] [] rfl (by simp [w1]))
 have c3 := sl 2326528 a1 u0
 have f := ms f e1
 refine cRs (Qf a0 J (by first | (simp (maxDischargeDepth := 12) [Xg]; omega) | (simp (maxDischargeDepth := 12) [ZW (m := 68719476736) (by decide) u0]; done))) ?_
 exact rt [.tmp 4] f
theorem Us (a0 : Int) (a1 : Int) (a2 : List Zl) (a3 : Int) (u0 : Sm 2322432 a2) : Sa 168 [rI a0, rI a1, rL 3 Zl.row a2, rI a3] [rI (VY a0 a1 a2 a3)] := by
 have f := me (VY.eq_1 a0 a1 a2 a3)
 refine so func168 ntmps168 ?_
 refine cRs (xq a0 a2 (sg u0)) ?_
 refine cRs (Qf a0 ([3, a1, (JY a0 a2), a3] : List Int) (by simp (maxDischargeDepth := 12) [Kc, Xg, ZW (m := 68719476736) (by decide) u0]; try omega)) ?_
 exact rt [.tmp 8] f
theorem Vh (a0 : ZS) (a1 : Int) (u0 : Sm 2318336 a0) : Sa 89 [a0.row, rI a1] [rI (QR a0 a1)] := by
 have f := me (QR.eq_1 a0 a1)
 refine so func89 ntmps89 ?_
 refine cFf f ?_ ?_ <;> intro k1 h1 f
 ·have i1 := ik (a0.Zc.Zn.length - 1) a0.Zc.Zn
  have m1 := ml a0.Zc.Zn (k1 9 _ rfl)
  have w1 : IntKind.i64.wrap ((a0.Zc.Zn.length : Int) - 1) = (a0.Zc.Zn.length : Int) - 1 := XV (by omega) (by omega)
  simp [i1, ZI, w1, jL]
  refine rpS ?_
  refine cRs (xV a1 (nth a0.Zc.Zn (a0.Zc.Zn.length - 1)) (sg (Yi (Zf.j6 (ZS.J8 u0))))) ?_
  refine dIs mixed ?_
  refine cRs (zV a1 a0.Doc (sg (ZS.W7 u0))) ?_
  refine cRs (Us a1 (YH a1 a0.Doc) a0.Zc.Zp (J2 a1 (nth a0.Zc.Zn (a0.Zc.Zn.length - 1))) (sg (Zf.kh (ZS.J8 u0)))) ?_
  exact rt [.tmp 4] f
 refine dIs mixed ?_
 refine cRs (zV a1 a0.Doc (sg (ZS.W7 u0))) ?_
 refine cRs (Us a1 (YH a1 a0.Doc) a0.Zc.Zp 0 (sg (Zf.kh (ZS.J8 u0)))) ?_
 exact rt [.tmp 4] f
theorem kL (a0 : ZD) (a1 : Int) (u0 : Sm 2314240 a0) : Sd 126 [a0.row, rI a1] [rL 1 iR (Y0 a0 a1)] := by
 have f := me (Y0.eq_1 a0 a1)
 refine soD func126 ntmps126 ?_
 refine lp2 (yB.eq_2 a0 a1) (fun J U => XQ 23 [eI 1 a1, (5, .one (.sref 5 0 0 J.length), [.arr false 1 (J.map iR)]), eL 9 16 a0.ZF ZS.row, eI 10 (a0.ZF.length : Int), eI 11 (U : Int)]) (fun n1 J U => a0.ZF.length < n1 + U /\ U <= a0.ZF.length /\ J.length <= 0 + 1 * U) (a0.ZF.length + 1) ([] : List Int) 0 (fun p1 J U e1 j1 => ?_) (h0 := wkS [((5, 0), none)] [])
 refine cFf e1 ?_ ?_ <;> intro k2 h1 e1
 ·have i1 := ix h1
  have m2 := ml a0.ZF (k2 9 _ rfl)
  have c1 := sl 2314240 a0.ZF u0
  have w1 := wr U
  simp [i1, ZI]
  refine rpS ?_
  refine cRs (Vh (nth a0.ZF U) a1 (sg (Yi (ZD.Yc u0)))) ?_
  exact nx2 e1 (hw := QB [((5, 0), some (20, 0))] [] rfl (by simp [w1]))
 have c2 := sl 2314240 a0.ZF u0
 have f := ms f e1
 exact rtD [.tmp 4] f
theorem Te (a0 : Int) (a1 : Int) (a2 : Int) : Sa 259 [rI a0, rI a1, rI a2] [rI (jB a0 a1 a2)] := by
 have f := me (jB.eq_1 a0 a1 a2)
 refine so func259 ntmps259 ?_
 refine cRs (Qf a0 ([1, a1, a2] : List Int) (by simp (maxDischargeDepth := 12) [Kc, Xg]; try omega)) ?_
 exact rt [.tmp 6] f
theorem Ku (a0 : Int) (a1 : List Int) (u0 : Sm 2322432 a1) : Sd 206 [rI a0, rL 1 iR a1] [rL 1 iR (JH a0 a1)] := by
 have f := me (JH.eq_1 a0 a1)
 refine soD func206 ntmps206 ?_
 refine lp2 (Qt.eq_2 a0 a1) (fun J U => XQ 40 [eI 0 a0, eL 1 1 a1 iR, (5, .one (.sref 5 0 0 J.length), [.arr false 1 (J.map iR)]), eI 6 (U : Int)]) (fun n1 J U => a1.length < n1 + U /\ U <= a1.length + 1 /\ J.length <= U) (a1.length + 1) ([] : List Int) 0 (fun p1 J U e1 j1 => ?_) (h0 := wkS [((5, 0), none)] [])
 try dsimp only at j1
 refine cF e1 ?_ ?_ <;> intro k2 h1 e1
 ·have i1 := ix h1
  have m2 := ml a1 (k2 1 _ rfl)
  have c1 := sl 2322432 a1 u0
  have w1 := wr U
  refine cFt e1 ?_ ?_ <;> intro k3 h2 e1
  ·refine okD fun k4 => ?_
   refine dIo mixed ?_
   have i2 := ik (W ((U : Int) + 1)).toNat a1
   simp [i1, ZI, i2]
   refine rpS ?_
   refine cRs (Te a0 (nth a1 U) (nth a1 (W ((U : Int) + 1)).toNat)) ?_ (wY := by first | (simp; done) | (simp [W, w1]; done))
   have w2 : IntKind.i64.wrap ((U : Int) + 2) = (U : Int) + 2 := XV (by omega) (by omega)
   exact nx2 e1 (hI := by first | omega | (simp at *; omega)) (hw := QB [((5, 0), some (31, 0))] [] rfl (by simp [w1, w2]))
  simp [i1, ZI]
  refine rpS ?_
  have w3 : IntKind.i64.wrap ((U : Int) + 2) = (U : Int) + 2 := XV (by omega) (by omega)
  exact nx2 e1 (hI := by first | omega | (simp at *; omega)) (hw := QB [((5, 0), some (38, 0))] [] rfl (by simp [w1, w3]))
 have c2 := sl 2322432 a1 u0
 have f := ms f e1
 exact rtD [.tmp 4] f
theorem WM (a0 : Int) (a1 : List Int) (u0 : Sm 2318336 a1) : Sa 201 [rI a0, rL 1 iR a1] [rI (jI a0 a1)] := by
 have f := me (jI.eq_1 a0 a1)
 refine so func201 ntmps201 ?_
 refine cRs (Zx (a1.length : Int) 1 16) ?_
 refine cFo f ?_ ?_ <;> intro k1 h1 f
 ·have q1 := h1; try simp [ZO] at q1
  simp
  exact rt [.tmp 4] f
 have q1 := h1; try simp [ZO] at q1
 simp
 refine lp1 (jO.eq_2 a0) (fun J => XQ 18 [eI 0 a0, eL 1 1 J iR]) (fun n1 J => J.length < n1 /\ 1 <= J.length /\ J.length <= 16) (a1.length + 1) a1 (fun p1 J e1 j1 => ?_) (hI := by first | omega | (simp at *; omega))
 try dsimp only at j1
 refine cFt e1 ?_ ?_ <;> intro k3 h2 e1
 ·refine cRs (Yx.rd (Ku a0 J (by first | (simp (maxDischargeDepth := 12) [Xg]; omega) | (simp (maxDischargeDepth := 12) [ZW (m := 2322432) (by decide) u0]; done)))) ?_
  exact nx1 e1 (hI := by (have z := Kh a0 J (by omega); (try dsimp only); simp at *; omega))
 have f := ms f e1
 have i1 := ik 0 J
 simp [i1, ZI]
 refine rpS ?_
 exact rt [.tmp 4] f
theorem VO (a0 : ZD) (a1 : Int) (u0 : Sm 2310144 a0) : Sa 113 [a0.row, rI a1] [rI (Y1 a0 a1)] := by
 have f := me (Y1.eq_1 a0 a1)
 refine so func113 ntmps113 ?_
 refine cRs (Yx.rd (kL a0 a1 (sg u0))) ?_
 refine cRs (WM a1 (Y0 a0 a1) (by simp (maxDischargeDepth := 12) [xR, ZW (m := 2318336) (by decide) u0]; try omega)) ?_
 exact rt [.tmp 4] f
theorem xT (a0 : List ZZ) (a1 : Int) : Sa 67 [rL 3 ZZ.row a0, rI a1] [rI (ZN a0 a1)] := by
 have f := me (ZN.eq_1 a0 a1)
 refine so func67 ntmps67 ?_
 refine lp1 (KG.eq_2 a0 a1) (fun J => XQ 20 [eI 1 a1, eL 7 3 a0 ZZ.row, eI 8 (a0.length : Int), eI 9 (J : Int)]) (fun n1 J => a0.length < n1 + J /\ J <= a0.length) (a0.length + 1) 0 (fun p1 J e1 j1 => ?_)
 refine cFf e1 ?_ ?_ <;> intro k2 h1 e1
 ·have i1 := ix h1
  have m2 := ml a0 (k2 7 _ rfl)
  have w1 := wr J
  simp [i1, ZI]
  refine rpS ?_
  refine cF e1 ?_ ?_ <;> intro k3 h2 e1
  ·have f := ms f e1
   exact rt [.tmp 4] f
  exact ny1 w1 e1
 have f := ms f e1
 exact rt [.tmp 4] f
theorem OO (a0 : List Int) (a1 : Int) : Sa 152 [rL 1 iR a0, rI a1] [rI (kn a0 a1)] := by
 have f := me (kn.eq_1 a0 a1)
 refine so func152 ntmps152 ?_
 refine lp1 (qE.eq_2 a0 a1) (fun J => XQ 19 [eI 1 a1, eL 7 1 a0 iR, eI 8 (a0.length : Int), eI 9 (J : Int)]) (fun n1 J => a0.length < n1 + J /\ J <= a0.length) (a0.length + 1) 0 (fun p1 J e1 j1 => ?_)
 refine cFf e1 ?_ ?_ <;> intro k2 h1 e1
 ·have i1 := ix h1
  have m2 := ml a0 (k2 7 _ rfl)
  have w1 := wr J
  simp [i1, ZI]
  refine rpS ?_
  refine cF e1 ?_ ?_ <;> intro k3 h2 e1
  ·have f := ms f e1
   exact rt [.tmp 4] f
  exact ny1 w1 e1
 have f := ms f e1
 exact rt [.tmp 4] f
theorem xd (a0 : List Int) (a1 : Int) : Sa 66 [rL 1 iR a0, rI a1] [rB (Y6 a0 a1)] := by
 have f := me (Y6.eq_1 a0 a1)
 refine so func66 ntmps66 ?_
 refine cRs (OO a0 a1) ?_
 exact rt [.tmp 4] f
theorem JT (a0 : List Yq) (a1 : List ZZ) (a2 : ZQ) (u0 : Sm 2318336 a0) (u1 : Sm 2318336 a1) : Sa 90 [rL 5 Yq.row a0, rL 3 ZZ.row a1, a2.row] [(YW a0 a1 a2).1.row, rB (YW a0 a1 a2).2] := by
 have f := me (YW.eq_1 a0 a1 a2)
 refine so func90 ntmps90 ?_
 refine cRs (xT a1 a2.Authority) ?_
 refine cGs (fun gg => (kQ a2.Time)) ?_
 refine cF f ?_ ?_ <;> intro k1 h1 f
 ·exact rt [.cell 6 142, .tmp 7] f
 refine dIo mixed ?_
 have i1 : (ZN a1 a2.Authority).toNat < a1.length := by have := Yr a1 a2.Authority; exact il
 simp [i1, ZI]
 refine rpS ?_
 refine cRs (Yx.rd (ju a2)) ?_
 refine cRs (j4 a0 (nth a1 (ZN a1 a2.Authority).toNat).Key (X5 a2) (sg u0) (by simp (maxDischargeDepth := 12) [RP, ZW (m := 2322432) (by decide) u0, ZW (m := 2322432) (by decide) u1]; try omega)) ?_
 refine cF f ?_ ?_ <;> intro k3 h2 f
 ·exact rt [.cell 6 142, .tmp 7] f
 exact rt [.cell 6 142, .tmp 7] f
theorem WW {a b : Prop} (h : b) (k : a := by (intros; first | omega | with_unfolding_all (first | first | omega | (have tm := Int.tmod_eq_emod_of_nonneg (b := 2) (show 0 <= U by omega); (try simp only [XR, show ∀ x, IntKind.i64.wrap x = W x from fun _ => rfl] at *); (try simp at *); omega)) | ((try simp only [XR, show ∀ x, IntKind.i64.wrap x = W x from fun _ => rfl] at *); omega))) : a /\ b := ⟨k, h⟩
theorem Rm (a0 : Int) (a1 : List Int) (a2 : Int) (u0 : Sm 2318336 a1) : Sd 127 [rI a0, rL 1 iR a1, rI a2] [rL 2 JR.row (QA a0 a1 a2)] := by
 have f := me (QA.eq_1 a0 a1 a2)
 refine soD func127 ntmps127 ?_
 refine cRs (Zx a2 0 (W ((a1.length : Int) - 1))) ?_
 have c1 := sl 2318336 a1 u0
 have w1 : IntKind.i64.wrap ((a1.length : Int) - 1) = (a1.length : Int) - 1 := XV (by omega) (by omega)
 refine cFo f ?_ ?_ <;> intro k1 h1 f
 ·have q1 := h1; try simp [ZO, w1] at q1
  simp
  exact rtD [.tmp 6] f
 have q1 := h1; try simp [ZO, w1] at q1
 simp
 refine lp3 (Ju.eq_2 a0) (fun J U wJ => XQ 54 [eI 0 a0, eL 1 1 J iR, eI 2 U, (7, .one (.sref 7 0 0 wJ.length), [.arr false 2 (wJ.map JR.row)])]) (fun n1 J U wJ => J.length < n1 /\ 0 <= U /\ U < (J.length : Int) /\ J.length <= 16 /\ wJ.length + n1 <= 17) (a1.length + 1) a1 a2 ([] : List JR) (fun p1 J U wJ e1 j1 => ?_) (hI := by first | omega | (simp at *; omega)) (h0 := wkS [((7, 0), none)] [])
 try dsimp only at j1
 refine cF e1 ?_ ?_ <;> intro k3 h2 e1
 ·refine cFf e1 ?_ ?_ <;> intro k4 h3 e1
  ·have i1 : (W (U - 1)).toNat < J.length := by first | omega | (have tm := Int.tmod_eq_emod_of_nonneg (b := 2) (show 0 <= U by omega); (try simp only [XR, show ∀ x, IntKind.i64.wrap x = W x from fun _ => rfl] at *); (try simp at *); omega)
   simp [i1, ZI]
   repeat with_reducible refine WW ?_
   refine cRs (Yx.rd (Ku a0 J (by first | (simp (maxDischargeDepth := 12) [Xg]; omega) | (simp (maxDischargeDepth := 12) [ZW (m := 2322432) (by decide) u0]; done)))) ?_
   exact nx3 e1 (hI := by (have z := Kh a0 J (by omega); have td := Int.tdiv_eq_ediv_of_nonneg (b := 2) (show 0 <= U by omega); have w2 : W (Int.tdiv U 2) = Int.tdiv U 2 := XV (by omega) (by omega); (try dsimp only); rw [w2]; simp at *; omega)) (hw := QB [((7, 0), some (33, 0))] [] rfl (by simp [w1]))
  refine cFo e1 ?_ ?_ <;> intro k5 h4 e1
  ·have q4 := h4; try simp [w1] at q4
   have i2 : (W (U + 1)).toNat < J.length := by first | omega | (have tm := Int.tmod_eq_emod_of_nonneg (b := 2) (show 0 <= U by omega); (try simp only [XR, show ∀ x, IntKind.i64.wrap x = W x from fun _ => rfl] at *); (try simp at *); omega)
   simp [i2, ZI]
   repeat with_reducible refine WW ?_
   refine cRs (Yx.rd (Ku a0 J (by first | (simp (maxDischargeDepth := 12) [Xg]; omega) | (simp (maxDischargeDepth := 12) [ZW (m := 2322432) (by decide) u0]; done)))) ?_
   exact nx3 e1 (hI := by (have z := Kh a0 J (by omega); have td := Int.tdiv_eq_ediv_of_nonneg (b := 2) (show 0 <= U by omega); have w2 : W (Int.tdiv U 2) = Int.tdiv U 2 := XV (by omega) (by omega); (try dsimp only); rw [w2]; simp at *; omega)) (hw := QB [((7, 0), some (47, 0))] [] rfl (by simp [w1]))
  have q4 := h4; try simp [w1] at q4
  simp
  refine cRs (Yx.rd (Ku a0 J (by first | (simp (maxDischargeDepth := 12) [Xg]; omega) | (simp (maxDischargeDepth := 12) [ZW (m := 2322432) (by decide) u0]; done)))) ?_
  exact ny3 w1 e1 (hI := by (have z := Kh a0 J (by omega); have td := Int.tdiv_eq_ediv_of_nonneg (b := 2) (show 0 <= U by omega); have w2 : W (Int.tdiv U 2) = Int.tdiv U 2 := XV (by omega) (by omega); (try dsimp only); rw [w2]; simp at *; omega))
 have f := ms f e1
 exact rtD [.tmp 6] f
theorem jh (a0 : Zf) (a1 : Za) (u0 : Sm 2326528 a0) (u1 : Sm 2326528 a1) : Sd 91 [a0.row, a1.row] [(YG a0 a1).1.row, rB (YG a0 a1).2] := by
 have f := me (YG.eq_1 a0 a1)
 refine soD func91 ntmps91 ?_
 refine cDs [] (JV a0 (sg u0)) ?_
 refine drJ [14] mixed ?_
 simp
 refine cDs [true, true, true, false, false] (xl a1 (sg u1)) ?_
 refine Wu ?_
 have c1 := sl 2326528 a0.Zn (an u0 u1)
 simp
 refine UO (wC := (a0.Zn.map Za.row)) (news := (([a1] : List Za).map Za.row)) (l1 := [(8, 1)]) (l2 := [(12, 3), (12, 4)]) (size := 5) ?_
 simp
 refine cRs (qa (Zf.mk a0.Zp (a0.Zn ++ ([a1] : List Za)))) ?_
 refine cF f ?_ ?_ <;> intro k2 h1 f
 ·refine cDs [] (JV a0 (sg u0)) ?_
  exact rtD [.cell 4 68, .tmp 5] f
 exact rtD [.cell 4 68, .tmp 5] f
theorem Un (a0 : ZD) (a1 : Int) (a2 : List ZQ) (u0 : Sm 2306048 a0) (u1 : Sm 2306048 a2) : Sd 47 [a0.row, rI a1, rL 5 ZQ.row a2] [(YI a0 a1 a2).1.row, rB (YI a0 a1 a2).2] := by
 have f := me (YI.eq_1 a0 a1 a2)
 refine soD func47 ntmps47 ?_
 refine cGs (fun gg => (KM a0)) ?_
 refine cF f ?_ ?_ <;> intro k1 h1 f
 ·refine cDs [] (Zy a0 (sg u0)) ?_
  exact rtD [.cell 6 73, .tmp 7] f
 refine cDs [] (Zy a0 (sg u0)) ?_
 refine cRs (Yx.rd (kL a0 a1 (sg u0))) ?_
 refine lp2 (Y9.eq_2 a0 a1 a2) (fun J U => XQ 75 [eI 1 a1, eL 2 5 a2 ZQ.row, eX 3 (a0.row.map .d), (6, .one (.bptr 6 0), [.box [.d (.int .i64 0), .nil 16]]), (8, .one (.bptr 8 0), [.box [.d (.int .i64 a0.Id), .sref 26 1 0 U.length]]), eL 9 1 (Y0 a0 a1) iR, (26, .any, [.none, .arr true 16 (U.map ZS.row)]), eL 31 16 a0.ZF ZS.row, eI 32 (a0.ZF.length : Int), eI 33 (J : Int)]) (fun n1 J U => a0.ZF.length < n1 + J /\ J <= a0.ZF.length /\ U.length = a0.ZF.length) (a0.ZF.length + 1) 0 a0.ZF (fun p1 J U e1 j1 => ?_)
 refine cFf e1 ?_ ?_ <;> intro k3 h2 e1
 ·have i1 := ix h2
  have m2 := ml a0.ZF (k3 31 _ rfl)
  have c1 := sl 2306048 a0.ZF (an u0 u1)
  have w1 := wr J
  simp [i1, ZI]
  refine rpS ?_
  refine dIs mixed ?_
  refine cRs (VO a0 a1 (sg u0)) ?_
  refine cRs (Yx.rd (Rm a1 (Y0 a0 a1) (J : Int) (by simp (maxDischargeDepth := 12) [xR, ZW (m := 2318336) (by decide) u0, ZW (m := 2318336) (by decide) u1]; try omega))) ?_
  refine cDs [] (jh (nth a0.ZF J).Zc (Za.mk ((nth a0.ZF J).Zc.Zp.length : Int) a1 (Y1 a0 a1) (QA a1 (Y0 a0 a1) (J : Int)) a2) (sg (ZS.J8 (Yi (ZD.Yc u0)))) (by simp (maxDischargeDepth := 12) [WL, xR, ZW (m := 2326528) (by decide) u0, ZW (m := 2326528) (by decide) u1]; try omega)) ?_
  refine cFt e1 ?_ ?_ <;> intro k5 h3 e1
  ·refine cDs [] (Zy a0 (sg u0)) ?_
   have f := ms f e1
   exact rtD [.cell 6 73, .tmp 7] f
  have i2 := ik J U
  simp [i2, ZI]
  refine rpS ?_
  refine Ek (t := 26) (j := 1) (i := J) (c := 14) (size := 16) (rows := (U.map ZS.row)) (ds := (YG (nth a0.ZF J).Zc (Za.mk ((nth a0.ZF J).Zc.Zp.length : Int) a1 (Y1 a0 a1) (QA a1 (Y0 a0 a1) (J : Int)) a2)).1.row) (L := [(55, 0), (55, 1)]) rfl rfl rfl rfl (by simp) (by simp) (by simp; try omega) (by simp) (by simp) (by simp) (by simp) (by simp) (by simp) ?_
  simp [Jy (x := (ZS.mk (nth U J).Id (nth U J).YQ (nth U J).Doc (nth U J).Sig (YG (nth a0.ZF J).Zc (Za.mk ((nth a0.ZF J).Zc.Zp.length : Int) a1 (Y1 a0 a1) (QA a1 (Y0 a0 a1) (J : Int)) a2)).1)) rfl, i2, ZI, Xa]
  refine rpS ?_
  exact ny2 w1 e1
 have c2 := sl 2306048 a0.ZF (an u0 u1)
 have f := ms f e1
 refine cRs (KM (ZD.mk a0.Id U)) ?_
 refine cF f ?_ ?_ <;> intro k6 h4 f
 ·refine cDs [] (Zy a0 (sg u0)) ?_
  exact rtD [.cell 6 73, .tmp 7] f
 exact rtD [.cell 6 73, .tmp 7] f
theorem RC (a0 : ZE) (a1 : Int) (a2 : List Int) (a3 : Int) (u0 : Sm 2301952 a0) (u1 : Sm 2301952 a2) : Sd 38 [a0.row, rI a1, rL 1 iR a2, rI a3] [(XG a0 a1 a2 a3).1.row, rB (XG a0 a1 a2 a3).2] := by
 have f := me (XG.eq_1 a0 a1 a2 a3)
 refine soD func38 ntmps38 ?_
 refine cDs [false, false, false, true, true, false, false, true, false, false, true, false] (Zk a0 (sg u0)) ?_
 refine cRs (Kw a0.Frame.Methods a0.Frame.Now) ?_
 refine cRs (JU a0 a1) ?_
 refine cGs (fun gg => (Sx a2)) ?_
 refine cGs (fun gg => (Zx a3 (-10000) 10000)) ?_
 have c1 := sl 2301952 a0.ZA (an u0 u1)
 have w1 : IntKind.i64.wrap ((a0.ZA.length : Int) - 1) = (a0.ZA.length : Int) - 1 := XV (by omega) (by omega)
 refine cFo f ?_ ?_ <;> intro k1 h1 f
 ·have q1 := h1; try simp [ZO, w1, Z1] at q1
  simp
  exact rtD [.cell 8 33, .tmp 9] f
 have q1 := h1; try simp [ZO, w1, Z1] at q1
 have i1 := ik a1.toNat a0.ZA
 simp [i1, ZI]
 refine rpS ?_
 refine cRs (VO (nth a0.ZA a1.toNat) (ZJ a0.Frame.Methods a0.Frame.Now) (sg (Yi (ZE.Yu u0)))) ?_
 refine lp3 (Ys.eq_2 a0 a1 a2 a3) (fun J U wJ => XQ 175 [eI 1 a1, eI 3 a3, eX 4 (a0.row.map .d), (8, .one (.bptr 8 0), [.box [.nil 5, .nil 3, .nil 4, .d (.int .i64 0), .d (.int .i64 0), .nil 7, .nil 1, .nil 2, .nil 1, .nil 1, .d (.int .i64 0), .nil 1]]), eX 10 (a0.Frame.row.map .d), (11, .one (.bptr 11 0), [.box [.sref 27 0 0 a0.Frame.Z9.length, .sref 27 1 0 a0.Frame.ZG.length, .sref 27 2 0 a0.Frame.Methods.length, .d (.int .i64 a0.Frame.zm), .d (.int .i64 a0.Frame.Now), .sref 27 5 0 a0.Zb.length, .sref 27 6 0 a0.YC.length, .sref 27 7 0 a0.ZA.length, .sref 27 8 0 wJ.length, .sref 27 9 0 a0.YN.length, .d (.int .i64 a0.Next), .sref 27 11 0 a0.YE.length]]), eI 12 (ZJ a0.Frame.Methods a0.Frame.Now), eI 13 (Y1 (nth a0.ZA a1.toNat) (ZJ a0.Frame.Methods a0.Frame.Now)), (14, .one (.sref 14 0 0 J.length), [.arr false 5 (J.map ZQ.row)]), (27, .any, [.arr false 5 (a0.Frame.Z9.map Yq.row), .arr false 3 (a0.Frame.ZG.map ZZ.row), .arr false 4 (a0.Frame.Methods.map YJ.row), .none, .none, .arr false 7 (a0.Zb.map Ym.row), .arr false 1 (a0.YC.map iR), .arr true 2 (a0.ZA.map ZD.row), .arr false 1 (wJ.map iR), .arr false 1 (a0.YN.map iR), .none, .arr false 1 (a0.YE.map iR)]), eL 64 1 a2 iR, eI 65 (a2.length : Int), eI 66 (U : Int)]) (fun n1 J U wJ => a2.length < n1 + U /\ U <= a2.length /\ J.length <= 0 + 1 * U /\ wJ.length = a0.YP.length) (a2.length + 1) ([] : List ZQ) 0 a0.YP (fun p1 J U wJ e1 j1 => ?_) (h0 := wkS [((14, 0), none)] [])
 refine cFo e1 ?_ ?_ <;> intro k3 h2 e1
 ·have i2 := ix h2
  have m2 := ml a2 (k3 64 _ rfl)
  have c2 := sl 2301952 a2 (an u0 u1)
  have w2 := wr U
  simp [i2, ZI]
  refine rpS ?_
  refine cRs (xT a0.Frame.ZG (nth a2 U)) ?_
  refine cF e1 ?_ ?_ <;> intro k4 h3 e1
  ·refine cDs [false, false, false, true, true, false, false, true, false, false, true, false] (Zk a0 (sg u0)) ?_
   have f := ms f e1
   exact rtD [.cell 8 33, .tmp 9] f
  refine dIo mixed ?_
  have i3 : (ZN a0.Frame.ZG (nth a2 U)).toNat < a0.Frame.ZG.length := by have := Yr a0.Frame.ZG (nth a2 U); exact il
  simp [i3, ZI]
  refine rpS ?_
  refine cRs (Jz a0.Frame.Z9 (nth a0.Frame.ZG (ZN a0.Frame.ZG (nth a2 U)).toNat).Key) ?_
  refine dIs mixed ?_
  refine gIf ?_ ?_ <;> intro G
  ·have i4 : (YM a0.Frame.Z9 (nth a0.Frame.ZG (ZN a0.Frame.ZG (nth a2 U)).toNat).Key).toNat < a0.Frame.Z9.length := by have := zJ a0.Frame.Z9 (nth a0.Frame.ZG (ZN a0.Frame.ZG (nth a2 U)).toNat).Key; exact il
   simp [i4, ZI, G]
   refine rpG ?_
   refine cK e1 ?_ ?_ <;> intro k7 h4 e1
   ·try (simp [G] at h4; done)
    all_goals
     refine cDg [false, false, false, true, true, false, false, true, false, false, true, false] (Zk a0 (sg u0)) ?_
     have f := ms f e1
     exact yQ [.cell 8 33, .tmp 9] f
   ·try (simp [G] at h4; done)
    all_goals
     refine cRg (xd a0.YN (nth a2 U)) ?_
     refine cK e1 ?_ ?_ <;> intro k8 h5 e1
     ·try (simp [G] at h5; done)
      all_goals
       refine dIo mixed ?_
       have i5 : (ZN a0.Frame.ZG (nth a2 U)).toNat < a0.YP.length := by have := Yr a0.Frame.ZG (nth a2 U); exact il
       simp [i5, ZI, G]
       refine rpG ?_
       refine cRg (JT a0.Frame.Z9 a0.Frame.ZG (ZQ.mk (nth a2 U) (nth a0.YP (ZN a0.Frame.ZG (nth a2 U)).toNat) (if (if (W (a0.Frame.Now + a3)) < 10000 then (W (a0.Frame.Now + a3)) else 10000) > 0 then (if (W (a0.Frame.Now + a3)) < 10000 then (W (a0.Frame.Now + a3)) else 10000) else 0) (Y1 (nth a0.ZA a1.toNat) (ZJ a0.Frame.Methods a0.Frame.Now)) 0) (sg (Z2.xw (ZE.Xx u0))) (sg (Z2.XZ (ZE.Xx u0)))) ?_ (wY := by first | (simp; done) | (simp [W, w1, w2]; done))
       refine cKo e1 ?_ ?_ <;> intro iD h6 e1
       ·try (simp [G] at h6; done)
        all_goals
         have q6 := h6; try simp [w1] at q6
         simp [G]
         refine rpG ?_
         refine cDg [false, false, false, true, true, false, false, true, false, false, true, false] (Zk a0 (sg u0)) ?_
         have f := ms f e1
         exact yQ [.cell 8 33, .tmp 9] f
       ·try (simp [G] at h6; done)
        all_goals
         have q6 := h6; try simp [w1] at q6
         have i6 : (ZN a0.Frame.ZG (nth a2 U)).toNat < wJ.length := by have := Yr a0.Frame.ZG (nth a2 U); exact il
         simp [i6, ZI, Jy (x := (W ((nth wJ (ZN a0.Frame.ZG (nth a2 U)).toNat) + 1))) rfl, G]
         refine rpG ?_
         exact nx3 e1 (hw := QB [((14, 0), some (145, 0))] [] rfl (by simp [w1, w2, G]))
     ·try (simp [G] at h5; done)
      all_goals
       refine dIo mixed ?_
       have i7 : (ZN a0.Frame.ZG (nth a2 U)).toNat < a0.YP.length := by have := Yr a0.Frame.ZG (nth a2 U); exact il
       simp [i7, ZI, G]
       refine rpG ?_
       refine cRg (JT a0.Frame.Z9 a0.Frame.ZG (ZQ.mk (nth a2 U) (nth a0.YP (ZN a0.Frame.ZG (nth a2 U)).toNat) a0.Frame.Now (Y1 (nth a0.ZA a1.toNat) (ZJ a0.Frame.Methods a0.Frame.Now)) 0) (sg (Z2.xw (ZE.Xx u0))) (sg (Z2.XZ (ZE.Xx u0)))) ?_
       refine cKt e1 ?_ ?_ <;> intro g7 h7 e1
       ·try (simp [G] at h7; done)
        all_goals
         refine cDg [false, false, false, true, true, false, false, true, false, false, true, false] (Zk a0 (sg u0)) ?_
         have f := ms f e1
         exact yQ [.cell 8 33, .tmp 9] f
       ·try (simp [G] at h7; done)
        all_goals
         have i8 : (ZN a0.Frame.ZG (nth a2 U)).toNat < wJ.length := by have := Yr a0.Frame.ZG (nth a2 U); exact il
         simp [i8, ZI, Jy (x := (W ((nth wJ (ZN a0.Frame.ZG (nth a2 U)).toNat) + 1))) rfl, G]
         refine rpG ?_
         exact nx3 e1 (hw := QB [((14, 0), some (145, 0))] [] rfl (by simp [w1, w2, G]))
  ·refine cK e1 ?_ ?_ <;> intro g8 h8 e1
   ·try (simp [G] at h8; done)
    all_goals
     refine cDg [false, false, false, true, true, false, false, true, false, false, true, false] (Zk a0 (sg u0)) ?_
     have f := ms f e1
     exact yQ [.cell 8 33, .tmp 9] f
   ·try (simp [G] at h8; done)
    all_goals
     refine cRg (xd a0.YN (nth a2 U)) ?_
     refine cK e1 ?_ ?_ <;> intro eo h9 e1
     ·try (simp [G] at h9; done)
      all_goals
       refine dIo mixed ?_
       have i10 : (ZN a0.Frame.ZG (nth a2 U)).toNat < a0.YP.length := by have := Yr a0.Frame.ZG (nth a2 U); exact il
       simp [i10, ZI, G]
       refine rpG ?_
       refine cRg (JT a0.Frame.Z9 a0.Frame.ZG (ZQ.mk (nth a2 U) (nth a0.YP (ZN a0.Frame.ZG (nth a2 U)).toNat) (if (if (W (a0.Frame.Now + a3)) < 10000 then (W (a0.Frame.Now + a3)) else 10000) > 0 then (if (W (a0.Frame.Now + a3)) < 10000 then (W (a0.Frame.Now + a3)) else 10000) else 0) (Y1 (nth a0.ZA a1.toNat) (ZJ a0.Frame.Methods a0.Frame.Now)) 0) (sg (Z2.xw (ZE.Xx u0))) (sg (Z2.XZ (ZE.Xx u0)))) ?_ (wY := by first | (simp; done) | (simp [W, w1, w2]; done))
       refine cKo e1 ?_ ?_ <;> intro ep tg e1
       ·try (simp [G] at tg; done)
        all_goals
         have iO := tg; try simp [w1] at iO
         simp [G]
         refine rpG ?_
         refine cDg [false, false, false, true, true, false, false, true, false, false, true, false] (Zk a0 (sg u0)) ?_
         have f := ms f e1
         exact yQ [.cell 8 33, .tmp 9] f
       ·try (simp [G] at tg; done)
        all_goals
         have iO := tg; try simp [w1] at iO
         have i11 : (ZN a0.Frame.ZG (nth a2 U)).toNat < wJ.length := by have := Yr a0.Frame.ZG (nth a2 U); exact il
         simp [i11, ZI, Jy (x := (W ((nth wJ (ZN a0.Frame.ZG (nth a2 U)).toNat) + 1))) rfl, G]
         refine rpG ?_
         exact nx3 e1 (hw := QB [((14, 0), some (145, 0))] [] rfl (by simp [w1, w2, G]))
     ·try (simp [G] at h9; done)
      all_goals
       refine dIo mixed ?_
       have i12 : (ZN a0.Frame.ZG (nth a2 U)).toNat < a0.YP.length := by have := Yr a0.Frame.ZG (nth a2 U); exact il
       simp [i12, ZI, G]
       refine rpG ?_
       refine cRg (JT a0.Frame.Z9 a0.Frame.ZG (ZQ.mk (nth a2 U) (nth a0.YP (ZN a0.Frame.ZG (nth a2 U)).toNat) a0.Frame.Now (Y1 (nth a0.ZA a1.toNat) (ZJ a0.Frame.Methods a0.Frame.Now)) 0) (sg (Z2.xw (ZE.Xx u0))) (sg (Z2.XZ (ZE.Xx u0)))) ?_
       refine cKt e1 ?_ ?_ <;> intro er nk e1
       ·try (simp [G] at nk; done)
        all_goals
         refine cDg [false, false, false, true, true, false, false, true, false, false, true, false] (Zk a0 (sg u0)) ?_
         have f := ms f e1
         exact yQ [.cell 8 33, .tmp 9] f
       ·try (simp [G] at nk; done)
        all_goals
         have i13 : (ZN a0.Frame.ZG (nth a2 U)).toNat < wJ.length := by have := Yr a0.Frame.ZG (nth a2 U); exact il
         simp [i13, ZI, Jy (x := (W ((nth wJ (ZN a0.Frame.ZG (nth a2 U)).toNat) + 1))) rfl, G]
         refine rpG ?_
         exact nx3 e1 (hw := QB [((14, 0), some (145, 0))] [] rfl (by simp [w1, w2, G]))
 have c3 := sl 2301952 a2 (an u0 u1)
 have f := ms f e1
 simp [i1, ZI]
 refine rpS ?_
 refine cDs [] (Un (nth a0.ZA a1.toNat) (ZJ a0.Frame.Methods a0.Frame.Now) J (sg (Yi (ZE.Yu u0))) (by first | (simp (maxDischargeDepth := 12) [Xg]; omega) | (simp (maxDischargeDepth := 12) [ZW (m := 2306048) (by decide) u0, ZW (m := 2306048) (by decide) u1]; done))) ?_
 refine cFt f ?_ ?_ <;> intro et lS f
 ·refine cDs [false, false, false, true, true, false, false, true, false, false, true, false] (Zk a0 (sg u0)) ?_
  exact rtD [.cell 8 33, .tmp 9] f
 simp [i1, ZI]
 refine rpS ?_
 refine L2 (t := 27) (j := 7) (i := a1.toNat) (size := 2) (rows := (a0.ZA.map ZD.row)) (ds := (YI (nth a0.ZA a1.toNat) (ZJ a0.Frame.Methods a0.Frame.Now) J).1.row) (L := [(162, 1)]) ?_
 simp [Jy (x := (YI (nth a0.ZA a1.toNat) (ZJ a0.Frame.Methods a0.Frame.Now) J).1) rfl, c1, i1, ZI, Xa]
 refine rpS ?_
 exact rtD [.cell 8 33, .tmp 9] f
theorem TT (a0 : Int) (a1 : ZS) (u0 : Sm 2318336 a1) : Sa 335 [rI a0, a1.row] [rI (jD a0 a1)] := by
 have f := me (jD.eq_1 a0 a1)
 refine so func335 ntmps335 ?_
 refine dIs mixed ?_
 refine cRs (zV a0 a1.Doc (sg (ZS.W7 u0))) ?_
 refine cRs (xq a0 a1.Zc.Zp (sg (Zf.kh (ZS.J8 u0)))) ?_
 refine lp2 (xa.eq_2 a0 a1) (fun J U => XQ 40 [eI 0 a0, (5, .one (.sref 5 0 0 J.length), [.arr false 1 (J.map iR)]), eL 24 5 a1.Zc.Zn Za.row, eI 25 (a1.Zc.Zn.length : Int), eI 26 (U : Int)]) (fun n1 J U => a1.Zc.Zn.length < n1 + U /\ U <= a1.Zc.Zn.length /\ J.length <= 5 + 1 * U) (a1.Zc.Zn.length + 1) ([5, a1.Id, a1.YQ, (YH a0 a1.Doc), (JY a0 a1.Zc.Zp)] : List Int) 0 (fun p1 J U e1 j1 => ?_) (h0 := wkS [((5, 0), some (21, 0))] [])
 refine cFf e1 ?_ ?_ <;> intro k3 h1 e1
 ·have i1 := ix h1
  have m2 := ml a1.Zc.Zn (k3 24 _ rfl)
  have c1 := sl 2318336 a1.Zc.Zn u0
  have w1 := wr U
  simp [i1, ZI]
  refine rpS ?_
  refine cRs (xV a0 (nth a1.Zc.Zn U) (sg (Yi (Zf.j6 (ZS.J8 u0))))) ?_
  exact nx2 e1 (hw := QB [((5, 0), some (35, 0))] [] rfl (by simp [w1]))
 have c2 := sl 2318336 a1.Zc.Zn u0
 have f := ms f e1
 refine cRs (Qf a0 J (by first | (simp (maxDischargeDepth := 12) [Xg]; omega) | (simp (maxDischargeDepth := 12) [ZW (m := 68719476736) (by decide) u0]; done))) ?_
 exact rt [.tmp 4] f
theorem xX (a0 : Int) (a1 : List ZS) (u0 : Sm 2314240 a1) : Sa 300 [rI a0, rL 16 ZS.row a1] [rI (Xh a0 a1)] := by
 have f := me (Xh.eq_1 a0 a1)
 refine so func300 ntmps300 ?_
 refine lp2 (zf.eq_2 a0 a1) (fun J U => XQ 24 [eI 0 a0, (5, .one (.sref 5 0 0 J.length), [.arr false 1 (J.map iR)]), eL 8 16 a1 ZS.row, eI 9 (a1.length : Int), eI 10 (U : Int)]) (fun n1 J U => a1.length < n1 + U /\ U <= a1.length /\ J.length <= 0 + 1 * U) (a1.length + 1) ([] : List Int) 0 (fun p1 J U e1 j1 => ?_) (h0 := wkS [((5, 0), none)] [])
 refine cFf e1 ?_ ?_ <;> intro k2 h1 e1
 ·have i1 := ix h1
  have m2 := ml a1 (k2 8 _ rfl)
  have c1 := sl 2314240 a1 u0
  have w1 := wr U
  simp [i1, ZI]
  refine rpS ?_
  refine cRs (TT a0 (nth a1 U) (sg (Yi u0))) ?_
  exact nx2 e1 (hw := QB [((5, 0), some (19, 0))] [] rfl (by simp [w1]))
 have c2 := sl 2314240 a1 u0
 have f := ms f e1
 refine cRs (WM a0 J (by first | (simp (maxDischargeDepth := 12) [Xg]; omega) | (simp (maxDischargeDepth := 12) [ZW (m := 2318336) (by decide) u0]; done))) ?_
 exact rt [.tmp 4] f
theorem Tl (a0 : ZD) (a1 : Int) (a2 : List Int) (a3 : Int) (u0 : Sm 2310144 a0) (u1 : Sm 2310144 a2) : Sd 230 [a0.row, rI a1, rL 1 iR a2, rI a3] [(YV a0 a1 a2 a3).1.row, rB (YV a0 a1 a2 a3).2] := by
 have f := me (YV.eq_1 a0 a1 a2 a3)
 refine soD func230 ntmps230 ?_
 refine lp2 (XX.eq_2 a0 a2) (fun J U => XQ 52 [eL 2 1 a2 iR, eI 3 a3, eX 4 (a0.row.map .d), (8, .one (.bptr 8 0), [.box [.d (.int .i64 0), .d (.int .i64 0), .nil 16, .d (.int .i64 0)]]), (10, .one (.bptr 10 0), [.box [.d (.int .i64 a0.Id), .d (.int .i64 a1), .sref 10 3 0 U.length, .d (.int .i64 0)], .none, .none, .arr true 16 (U.map ZS.row)]), eL 18 1 a2 iR, eI 19 (a2.length : Int), eI 20 (J : Int)]) (fun n1 J U => a2.length < n1 + J /\ J <= a2.length /\ U.length <= J /\ (∀ x ∈ U, Sm 2310144 x)) (a2.length + 1) 0 ([] : List ZS) (fun p1 J U e1 j1 => ?_) (hI := by exact ⟨by omega, by omega, Nat.zero_le _, Nat.zero_le _, fun x h => by cases h⟩) (h0 := wkS [((10, 3), none)] [])
 try dsimp only at j1
 refine cFf e1 ?_ ?_ <;> intro k2 h1 e1
 ·have i1 := ix h1
  have m2 := ml a2 (k2 2 _ rfl)
  have c1 := sl 2310144 a2 (an u0 u1)
  have w1 := wr J
  simp [i1, ZI]
  refine rpS ?_
  refine cRs (Kt a0 (nth a2 J)) ?_
  refine cF e1 ?_ ?_ <;> intro k3 h2 e1
  ·have f := ms f e1
   exact rtD [.cell 8 253, .tmp 9] f
  refine drJ [39] mixed ?_
  have i2 : (ZM a0 (nth a2 J)).toNat < a0.ZF.length := by have := QF a0 (nth a2 J); exact il
  simp [i2, ZI]
  refine rpS ?_
  refine cDs [true, true, true, false, false] (KL (nth a0.ZF (ZM a0 (nth a2 J)).toNat) (sg (Yi (ZD.Yc u0)))) ?_
  refine Wu ?_
  simp
  refine UO (wC := (U.map ZS.row)) (news := (([(nth a0.ZF (ZM a0 (nth a2 J)).toNat)] : List ZS).map ZS.row)) (l1 := [(10, 3)]) (l2 := [(37, 3), (37, 4), (37, 14), (37, 15)]) (size := 16) ?_
  simp
  exact nx2 e1 (hI := by ((try dsimp only); refine ⟨by omega, by omega, by omega, by simp; omega, fun x hx => ?_⟩; rcases List.mem_append.1 hx with hx | hx; exact j1.2.2.2.2 x hx; have e := List.mem_singleton.1 hx; subst e; exact Yi (ZD.Yc u0))) (hw := QB [((10, 3), some (39, 0))] [] rfl (by simp [w1]))
 have c2 := sl 2310144 a2 (an u0 u1)
 have f := ms f e1
 refine cF f ?_ ?_ <;> intro k5 h3 f
 ·exact rtD [.cell 8 253, .tmp 9] f
 refine cRs (xX a3 U (by (have q := XM (show Sm 2310144 a2 from u1); exact ZW (n := 2310144) (by decide) ⟨by omega, j1.2.2.2.2⟩))) ?_
 exact rtD [.cell 8 253, .tmp 9] f
theorem Ub (a0 : Yg) (a1 : Int) (u0 : Sm 2310144 a0) : Sa 301 [a0.row, rI a1] [rB (J9 a0 a1)] := by
 have f := me (J9.eq_1 a0 a1)
 refine so func301 ntmps301 ?_
 refine lp1 (Q4.eq_2 a0) (fun J => XQ 31 [eI 1 a1, eX 2 (a0.row.map .d), eL 8 16 a0.ZF ZS.row, eI 9 (a0.ZF.length : Int), eI 10 (J : Int)]) (fun n1 J => a0.ZF.length < n1 + J /\ J <= a0.ZF.length) (a0.ZF.length + 1) 0 (fun p1 J e1 j1 => ?_)
 refine cFf e1 ?_ ?_ <;> intro k2 h1 e1
 ·have i1 := ix h1
  have m2 := ml a0.ZF (k2 8 _ rfl)
  have c1 := sl 2310144 a0.ZF u0
  have w1 := wr J
  simp [i1, ZI]
  refine rpS ?_
  refine cRs (TF (nth a0.ZF J)) ?_
  refine cF e1 ?_ ?_ <;> intro k3 h2 e1
  ·have f := ms f e1
   exact rt [.tmp 4] f
  exact ny1 w1 e1
 have c2 := sl 2310144 a0.ZF u0
 have f := ms f e1
 refine dIs mixed ?_
 refine cRs (Zx (a0.ZF.length : Int) 1 8) ?_
 refine cGs (fun gg => (xX a1 a0.ZF (sg (Yg.Yc u0)))) ?_
 exact rt [.tmp 4] f
theorem VG (a0 : ZD) (a1 : Yg) (a2 : Int) (u0 : Sm 2306048 a0) (u1 : Sm 2306048 a1) : Sd 231 [a0.row, a1.row, rI a2] [(Yd a0 a1 a2).1.row, rB (Yd a0 a1 a2).2] := by
 have f := me (Yd.eq_1 a0 a1 a2)
 refine soD func231 ntmps231 ?_
 refine cRs (Ub a1 a2 (sg u1)) ?_
 refine cF f ?_ ?_ <;> intro k1 h1 f
 ·refine cDs [] (Zy a0 (sg u0)) ?_
  exact rtD [.cell 6 73, .tmp 7] f
 refine cDs [] (Zy a0 (sg u0)) ?_
 refine lp3 (XP.eq_2 a0 a1) (fun J U wJ => XQ 48 [eX 3 (a0.row.map .d), (6, .one (.bptr 6 0), [.box [.d (.int .i64 0), .nil 16]]), (8, .one (.bptr 8 0), [.box [.d (.int .i64 U), .sref 8 2 0 wJ.length], .none, .arr true 16 (wJ.map ZS.row)]), eL 29 16 a1.ZF ZS.row, eI 30 (a1.ZF.length : Int), eI 31 (J : Int)]) (fun n1 J U wJ => a1.ZF.length < n1 + J /\ J <= a1.ZF.length /\ Sm (2306048 + J) (ZD.mk U wJ)) (a1.ZF.length + 1) 0 a0.Id a0.ZF (fun p1 J U wJ e1 j1 => ?_) (hI := by exact ⟨by omega, by omega, Nat.zero_le _, u0⟩) (h0 := wkS [((8, 2), some (27, 1))] [])
 try dsimp only at j1
 refine cFf e1 ?_ ?_ <;> intro k3 h2 e1
 ·have i1 := ix h2
  have m2 := ml a1.ZF (k3 29 _ rfl)
  have c1 := sl 2306048 a1.ZF (an u0 u1)
  have w1 := wr J
  simp [i1, ZI]
  refine rpS ?_
  refine cDs [] (VI (ZD.mk U wJ) (nth a1.ZF J) (by first | (have hl := qC a1 a2 (by simp at h1; exact h1.1); exact ZW (n := 2306048 + J) (by omega) j1.2.2.2) | exact sg (Yi (Yg.Yc u1))) (by first | (have hl := qC a1 a2 (by simp at h1; exact h1.1); exact ZW (n := 2306048 + J) (by omega) j1.2.2.2) | exact sg (Yi (Yg.Yc u1)))) ?_
  refine cF e1 ?_ ?_ <;> intro k4 h3 e1
  ·refine cDs [] (Zy a0 (sg u0)) ?_
   have f := ms f e1
   exact rtD [.cell 6 73, .tmp 7] f
  exact nx3 e1 (hI := by ((try dsimp only); refine ⟨by omega, by omega, by omega, ?_⟩; exact qz (n := 2306048 + J) j1.2.2.2 (ZW (n := 2306048) (by omega) (Yi (Yg.Yc u1))))) (hw := QB [((8, 2), some (38, 1))] [] rfl (by simp [w1]))
 have c2 := sl 2306048 a1.ZF (an u0 u1)
 have f := ms f e1
 exact rtD [.cell 6 73, .tmp 7] f
theorem PA {a b : Prop} (h : b) (k : a := by (intros; first | omega | with_unfolding_all (first | first | omega | (have h0 := h1; simp only [decide_eq_false_iff_not] at h0; have z := QF a0 a1; have hc := XM (ZD.Yc u0); have w2 : IntKind.i64.wrap ((ZM a0 a1) + 1) = (ZM a0 a1) + 1 := (XV (by omega) (by omega)); have w : W ((ZM a0 a1) + 1) = (ZM a0 a1) + 1 := w2; omega)) | ((try simp only [XR, show ∀ x, IntKind.i64.wrap x = W x from fun _ => rfl] at *); omega))) : a /\ b := ⟨k, h⟩
theorem R9 (a0 : ZD) (a1 : Int) (u0 : Sm 2318336 a0) : Sd 232 [a0.row, rI a1] [(XT a0 a1).1.row, rB (XT a0 a1).2] := by
 have f := me (XT.eq_1 a0 a1)
 refine soD func232 ntmps232 ?_
 refine cDs [] (Zy a0 (sg u0)) ?_
 refine cRs (Kt a0 a1) ?_
 refine cF f ?_ ?_ <;> intro k1 h1 f
 ·exact rtD [.cell 4 73, .tmp 5] f
 refine drJ [25] mixed ?_
 have c1 := sl 2318336 a0.ZF u0
 simp
 repeat with_reducible refine PA ?_
 refine DD (rows := (a0.ZF.map ZS.row)) (news := ((a0.ZF.drop (W ((ZM a0 a1) + 1)).toNat).map ZS.row)) (size := 16) (u := 9) (j := 1) (len := (ZM a0 a1).toNat) (lo := (W ((ZM a0 a1) + 1)).toNat) (n := (a0.ZF.length - (W ((ZM a0 a1) + 1)).toNat)) rfl rfl rfl rfl (by simp) (by simp) (by simp) (by simp) (by simp) (by first | omega | (first | omega | (have h0 := h1; simp only [decide_eq_false_iff_not] at h0; have z := QF a0 a1; have hc := XM (ZD.Yc u0); have w2 : IntKind.i64.wrap ((ZM a0 a1) + 1) = (ZM a0 a1) + 1 := (XV (by omega) (by omega)); have w : W ((ZM a0 a1) + 1) = (ZM a0 a1) + 1 := w2; omega)) | (simp; first | omega | (have h0 := h1; simp only [decide_eq_false_iff_not] at h0; have z := QF a0 a1; have hc := XM (ZD.Yc u0); have w2 : IntKind.i64.wrap ((ZM a0 a1) + 1) = (ZM a0 a1) + 1 := (XV (by omega) (by omega)); have w : W ((ZM a0 a1) + 1) = (ZM a0 a1) + 1 := w2; omega))) (by first | omega | (simp; done) | (simp; first | omega | (have h0 := h1; simp only [decide_eq_false_iff_not] at h0; have z := QF a0 a1; have hc := XM (ZD.Yc u0); have w2 : IntKind.i64.wrap ((ZM a0 a1) + 1) = (ZM a0 a1) + 1 := (XV (by omega) (by omega)); have w : W ((ZM a0 a1) + 1) = (ZM a0 a1) + 1 := w2; omega))) (j7 _ _ _) (by simp) (by first | omega | (simp; first | omega | (have h0 := h1; simp only [decide_eq_false_iff_not] at h0; have z := QF a0 a1; have hc := XM (ZD.Yc u0); have w2 : IntKind.i64.wrap ((ZM a0 a1) + 1) = (ZM a0 a1) + 1 := (XV (by omega) (by omega)); have w : W ((ZM a0 a1) + 1) = (ZM a0 a1) + 1 := w2; omega))) ?_
 simp
 exact rtD [.cell 4 73, .tmp 5] f
theorem S4 (a0 : ZD) (a1 : ZD) (a2 : List Int) (a3 : Int) (u0 : Sm 2301952 a0) (u1 : Sm 2301952 a1) (u2 : Sm 2301952 a2) : Sd 156 [a0.row, a1.row, rL 1 iR a2, rI a3] [(YO a0 a1 a2 a3).1.row, (YO a0 a1 a2 a3).2.1.row, rB (YO a0 a1 a2 a3).2.2] := by
 have f := me (YO.eq_1 a0 a1 a2 a3)
 refine soD func156 ntmps156 ?_
 refine cRs (Yx.rd (Tl a0 a1.Id a2 a3 (by first | exact sg u0 | exact sg u2) (by first | exact sg u0 | exact sg u2))) ?_
 refine cDs [] (VG a1 (YV a0 a1.Id a2 a3).1 a3 (by first | exact sg u1 | exact ZW (n := 2301952) (by decide) (yZ u0 u2)) (by first | exact sg u1 | exact ZW (n := 2301952) (by decide) (yZ u0 u2))) ?_
 refine cF f ?_ ?_ <;> intro k1 h1 f
 ·refine okD fun k2 => ?_
  refine dIs mixed ?_
  refine cDs [] (Zy a0 (sg u0)) ?_
  refine cDs [] (Zy a1 (sg u1)) ?_
  exact rtD [.cell 8 73, .cell 9 73, .tmp 10] f
 refine cDs [] (Zy a0 (sg u0)) ?_
 refine lp3 (QH.eq_2 a0 a1 a2) (fun J U wJ => XQ 70 [eX 4 (a0.row.map .d), eX 5 (a1.row.map .d), (8, .one (.bptr 8 0), [.box [.d (.int .i64 0), .nil 16]]), (9, .one (.bptr 9 0), [.box [.d (.int .i64 0), .nil 16]]), (13, .one (.bptr 13 0), [.box [.d (.int .i64 (Yd a1 (YV a0 a1.Id a2 a3).1 a3).1.Id), .sref 33 1 0 (Yd a1 (YV a0 a1.Id a2 a3).1 a3).1.ZF.length]]), (15, .one (.bptr 15 0), [.box [.d (.int .i64 U), .sref 15 2 0 wJ.length], .none, .arr true 16 (wJ.map ZS.row)]), (33, .any, [.none, .arr true 16 ((Yd a1 (YV a0 a1.Id a2 a3).1 a3).1.ZF.map ZS.row)]), eL 48 1 a2 iR, eI 49 (a2.length : Int), eI 50 (J : Int)]) (fun n1 J U wJ => a2.length < n1 + J /\ J <= a2.length /\ Sm 2301952 (ZD.mk U wJ)) (a2.length + 1) 0 a0.Id a0.ZF (fun p1 J U wJ e1 j1 => ?_) (hI := by exact ⟨by omega, by omega, Nat.zero_le _, u0⟩) (h0 := wkS [((15, 2), some (47, 1))] [])
 try dsimp only at j1
 refine cFf e1 ?_ ?_ <;> intro k4 h2 e1
 ·have i1 := ix h2
  have m2 := ml a2 (k4 48 _ rfl)
  have c1 := sl 2301952 a2 (an u0 (an u1 u2))
  have w1 := wr J
  simp [i1, ZI]
  refine rpS ?_
  refine cDs [] (R9 (ZD.mk U wJ) (nth a2 J) (by exact ZW (n := 2301952) (by decide) j1.2.2.2)) ?_
  refine cF e1 ?_ ?_ <;> intro k5 h3 e1
  ·refine okD fun k6 => ?_
   refine dIs mixed ?_
   refine cDs [] (Zy a0 (sg u0)) ?_
   refine cDs [] (Zy a1 (sg u1)) ?_
   have f := ms f e1
   exact rtD [.cell 8 73, .cell 9 73, .tmp 10] f
  exact nx3 e1 (hI := by ((try dsimp only); refine ⟨by omega, by omega, by omega, ?_⟩; exact WY (by decide) j1.2.2.2)) (hw := QB [((15, 2), some (57, 1))] [] rfl (by simp [w1]))
 have c2 := sl 2301952 a2 (an u0 (an u1 u2))
 have f := ms f e1
 refine Fg [(8, 8), (9, 9), (13, 13), (15, 15)] mixed (by kernel_rfl) (by kernel_rfl) (by kernel_rfl) (by kernel_rfl) ?_
 simp
 exact rtD [.cell 8 73, .cell 9 73, .tmp 10] f
theorem PI (a0 : ZE) (a1 : Int) (a2 : Int) (a3 : Int) (u0 : Sm 2297856 a0) : Sd 76 [a0.row, rI a1, rI a2, rI a3] [(QV a0 a1 a2 a3).1.row, rB (QV a0 a1 a2 a3).2] := by
 have f := me (QV.eq_1 a0 a1 a2 a3)
 refine soD func76 ntmps76 ?_
 refine cDs [false, false, false, true, true, false, false, true, false, false, true, false] (Zk a0 (sg u0)) ?_
 refine cRs (Kw a0.Frame.Methods a0.Frame.Now) ?_
 refine cRs (JU a0 a1) ?_
 refine cGs (fun gg => (JU a0 a2)) ?_
 have c1 := sl 2297856 a0.ZA u0
 have w1 : IntKind.i64.wrap ((a0.ZA.length : Int) - 1) = (a0.ZA.length : Int) - 1 := XV (by omega) (by omega)
 refine cFo f ?_ ?_ <;> intro k1 h1 f
 ·have q1 := h1; try simp [w1, Z1, ZO] at q1
  simp
  exact rtD [.cell 8 33, .tmp 9] f
 have q1 := h1; try simp [w1, Z1, ZO] at q1
 simp
 refine dIo mixed ?_
 have i1 := ik a1.toNat a0.ZA
 have i2 := ik a2.toNat a0.ZA
 simp [i1, ZI, i2]
 refine rpS ?_
 refine cDs [] (S4 (nth a0.ZA a1.toNat) (nth a0.ZA a2.toNat) ([a3] : List Int) (ZJ a0.Frame.Methods a0.Frame.Now) (sg (Yi (ZE.Yu u0))) (sg (Yi (ZE.Yu u0))) (by simp (maxDischargeDepth := 12) [Kc, Xg, ZW (m := 2301952) (by decide) u0]; try omega)) ?_
 refine cF f ?_ ?_ <;> intro k3 h2 f
 ·refine okD fun k4 => ?_
  refine Lg [(10, 10), (12, 12), (13, 13), (63, 10), (66, 10)] [71, 72] [] mixed (by kernel_rfl) (by kernel_rfl) (by kernel_rfl) (by kernel_rfl) (by kernel_rfl) (by kernel_rfl) (by kernel_rfl) ?_
  simp [i1, ZI]
  refine rpS ?_
  refine L2 (t := 16) (j := 7) (i := a1.toNat) (size := 2) (rows := (a0.ZA.map ZD.row)) (ds := (YO (nth a0.ZA a1.toNat) (nth a0.ZA a2.toNat) ([a3] : List Int) (ZJ a0.Frame.Methods a0.Frame.Now)).1.row) (L := [(58, 1)]) ?_
  simp [Jy (x := (YO (nth a0.ZA a1.toNat) (nth a0.ZA a2.toNat) ([a3] : List Int) (ZJ a0.Frame.Methods a0.Frame.Now)).1) rfl, c1, i1, i2, ZI, Xa]
  refine rpS ?_
  refine L2 (t := 16) (j := 7) (i := a2.toNat) (size := 2) (rows := ((a0.ZA.set a1.toNat (YO (nth a0.ZA a1.toNat) (nth a0.ZA a2.toNat) ([a3] : List Int) (ZJ a0.Frame.Methods a0.Frame.Now)).1).map ZD.row)) (ds := (YO (nth a0.ZA a1.toNat) (nth a0.ZA a2.toNat) ([a3] : List Int) (ZJ a0.Frame.Methods a0.Frame.Now)).2.1.row) (L := [(58, 3)]) ?_
  simp [Jy (x := (YO (nth a0.ZA a1.toNat) (nth a0.ZA a2.toNat) ([a3] : List Int) (ZJ a0.Frame.Methods a0.Frame.Now)).1) rfl, c1, i1, i2, ZI, Xa]
  refine rpS ?_
  exact rtD [.cell 8 33, .tmp 9] f
 exact rtD [.cell 8 33, .tmp 9] f
theorem TS (a0 : ZD) (a1 : Int) (u0 : Sm 2322432 a0) : Sd 157 [a0.row, rI a1] [(Q7 a0 a1).1.row, rI (Q7 a0 a1).2] := by
 have f := me (Q7.eq_1 a0 a1)
 refine soD func157 ntmps157 ?_
 refine lp2 (Xc.eq_2 a0 a1) (fun J U => XQ 39 [eI 1 a1, eX 2 (a0.row.map .d), (4, .one (.bptr 4 0), [.box [.d (.int .i64 0), .nil 16]]), (6, .one (.bptr 6 0), [.box [.d (.int .i64 a0.Id), .sref 6 2 0 U.length], .none, .arr true 16 (U.map ZS.row)]), eL 13 16 a0.ZF ZS.row, eI 14 (a0.ZF.length : Int), eI 15 (J : Int)]) (fun n1 J U => a0.ZF.length < n1 + J /\ J <= a0.ZF.length /\ U.length <= 0 + 1 * J) (a0.ZF.length + 1) 0 ([] : List ZS) (fun p1 J U e1 j1 => ?_) (h0 := wkS [((6, 2), none)] [])
 refine cFf e1 ?_ ?_ <;> intro k2 h1 e1
 ·have i1 := ix h1
  have m2 := ml a0.ZF (k2 13 _ rfl)
  have c1 := sl 2322432 a0.ZF u0
  have w1 := wr J
  simp [i1, ZI]
  refine rpS ?_
  refine cF e1 ?_ ?_ <;> intro k3 h2 e1
  ·refine okD fun k4 => ?_
   refine drJ [28] mixed ?_
   simp
   refine cDs [true, true, true, false, false] (KL (nth a0.ZF J) (sg (Yi (ZD.Yc u0)))) ?_
   refine Wu ?_
   simp
   refine UO (wC := (U.map ZS.row)) (news := (([(nth a0.ZF J)] : List ZS).map ZS.row)) (l1 := [(6, 2)]) (l2 := [(26, 3), (26, 4), (26, 14), (26, 15)]) (size := 16) ?_
   simp
   exact nx2 e1 (hw := QB [((6, 2), some (28, 0))] [] rfl (by simp [w1]))
  exact ny2 w1 e1
 have c2 := sl 2322432 a0.ZF u0
 have f := ms f e1
 refine Fg [(2, 2), (4, 4), (6, 6), (32, 2), (35, 6)] mixed (by kernel_rfl) (by kernel_rfl) (by kernel_rfl) (by kernel_rfl) ?_
 simp
 exact rtD [.cell 4 73, .tmp 5] f
theorem Tp (a0 : ZE) (a1 : Int) (u0 : Sm 2314240 a0) : Sd 77 [a0.row, rI a1] [(Xi a0 a1).1.row, rB (Xi a0 a1).2] := by
 have f := me (Xi.eq_1 a0 a1)
 refine soD func77 ntmps77 ?_
 refine cDs [false, false, false, true, true, false, false, true, false, false, true, false] (Zk a0 (sg u0)) ?_
 refine cRs (JU a0 a1) ?_
 have c1 := sl 2314240 a0.ZA u0
 have w1 : IntKind.i64.wrap ((a0.ZA.length : Int) - 1) = (a0.ZA.length : Int) - 1 := XV (by omega) (by omega)
 refine cFo f ?_ ?_ <;> intro k1 h1 f
 ·have q1 := h1; try simp [w1, Z1, ZO] at q1
  simp
  exact rtD [.cell 4 33, .tmp 5] f
 have q1 := h1; try simp [w1, Z1, ZO] at q1
 simp
 refine drJ [] mixed ?_
 have i1 := ik a1.toNat a0.ZA
 simp [i1, ZI]
 refine rpS ?_
 refine cDf i1 [] (TS (nth a0.ZA a1.toNat) a0.Frame.Now (sg (Yi (ZE.Yu u0)))) ?_
 refine L2 (t := 8) (j := 7) (i := a1.toNat) (size := 2) (rows := (a0.ZA.map ZD.row)) (ds := (Q7 (nth a0.ZA a1.toNat) a0.Frame.Now).1.row) (L := [(26, 1)]) ?_
 simp [Jy (x := (Q7 (nth a0.ZA a1.toNat) a0.Frame.Now).1) rfl, c1, i1, ZI, Xa]
 refine rpS ?_
 exact rtD [.cell 4 33, .tmp 5] f
theorem Tf (a0 : List YJ) (a1 : Int) : Sa 202 [rL 4 YJ.row a0, rI a1] [rI (Kl a0 a1)] := by
 have f := me (Kl.eq_1 a0 a1)
 refine so func202 ntmps202 ?_
 refine lp1 (zI.eq_2 a0 a1) (fun J => XQ 20 [eI 1 a1, eL 7 4 a0 YJ.row, eI 8 (a0.length : Int), eI 9 (J : Int)]) (fun n1 J => a0.length < n1 + J /\ J <= a0.length) (a0.length + 1) 0 (fun p1 J e1 j1 => ?_)
 refine cFf e1 ?_ ?_ <;> intro k2 h1 e1
 ·have i1 := ix h1
  have m2 := ml a0 (k2 7 _ rfl)
  have w1 := wr J
  simp [i1, ZI]
  refine rpS ?_
  refine cF e1 ?_ ?_ <;> intro k3 h2 e1
  ·have f := ms f e1
   exact rt [.tmp 4] f
  exact ny1 w1 e1
 have f := ms f e1
 exact rt [.tmp 4] f
theorem OS (a0 : List YJ) (a1 : Int) : Sa 235 [rL 4 YJ.row a0, rI a1] [rI (Uh a0 a1)] := by
 have f := me (Uh.eq_1 a0 a1)
 refine so func235 ntmps235 ?_
 refine cRs (Tf a0 a1) ?_
 refine cFf f ?_ ?_ <;> intro k1 h1 f
 ·have i1 : (Kl a0 a1).toNat < a0.length := by have := TO a0 a1; exact il
  simp [i1, ZI]
  refine rpS ?_
  exact rt [.tmp 4] f
 exact rt [.tmp 4] f
theorem Tg (a0 : Z2) (a1 : Int) : Sa 160 [a0.row, rI a1] [rI (jC a0 a1)] := by
 have f := me (jC.eq_1 a0 a1)
 refine so func160 ntmps160 ?_
 refine cRs (Jz a0.Z9 a1) ?_
 refine cF f ?_ ?_ <;> intro k1 h1 f
 ·exact rt [.tmp 4] f
 refine dIo mixed ?_
 have i1 : (YM a0.Z9 a1).toNat < a0.Z9.length := by have := zJ a0.Z9 a1; exact il
 simp [i1, ZI]
 refine rpS ?_
 refine cRs (OS a0.Methods (nth a0.Z9 (YM a0.Z9 a1).toNat).Method) ?_
 exact rt [.tmp 4] f
theorem qJ (a0 : Z2) (a1 : Int) : Sa 82 [a0.row, rI a1] [rB (zq a0 a1)] := by
 have f := me (zq.eq_1 a0 a1)
 refine so func82 ntmps82 ?_
 refine dIs mixed ?_
 refine cRs (Jz a0.Z9 a1) ?_
 refine cGs (fun gg => (Tg a0 a1)) ?_
 exact rt [.tmp 4] f
theorem T3 {a b : Prop} (h : b) (k : a := by (intros; first | omega | with_unfolding_all (first | first | omega | (have o := XM (ZE.UU (QI (n := 2310144) (a1 := a1) (a2 := a2) (a4 := 0) (a5 := 10000) u0 u1 (by decide))); (try simp); omega)) | ((try simp only [XR, show ∀ x, IntKind.i64.wrap x = W x from fun _ => rfl] at *); omega))) : a /\ b := ⟨k, h⟩
theorem SP (a0 : ZE) (a1 : Int) (a2 : Int) (a3 : ZP) (u0 : Sm 2310144 a0) (u1 : Sm 2310144 a3) : Sd 78 [a0.row, rI a1, rI a2, a3.row] [(X3 a0 a1 a2 a3).1.row, rB (X3 a0 a1 a2 a3).2] := by
 have f := me (X3.eq_1 a0 a1 a2 a3)
 refine soD func78 ntmps78 ?_
 refine cRs (qJ a0.Frame a2) ?_
 refine cFo f ?_ ?_ <;> intro k1 h1 f
 ·have q1 := h1; try simp at q1
  simp
  refine cDs [false, false, false, true, true, false, false, true, false, false, true, false] (Zk a0 (by first | (exact ZW (n := 2310144) (by decide) (xs (an u0 u1))) | (exact ZW (n := 2310144 + 1) (by decide) (QI (n := 2310144) (xs (an u0 u1)) (xs (an u0 u1)) (by decide))))) ?_
  refine LS (rv := [.cell 8 33, .tmp 9]) rfl ?_
  simp [f.h]
  all_goals ((try simp only [q2, true_and]); (try (rintro r (⟨a, _, rfl⟩ | rfl) x hx <;> simp at hx <;> subst hx <;> rfl)))
 have q1 := h1; try simp at q1
 simp
 refine cRs (qb a0 a1 a2 a3 0 10000 (sg u0) (sg u1)) ?_
 refine cDs [false, false, false, true, true, false, false, true, false, false, true, false] (Zk (YF a0 a1 a2 a3 0 10000).1 (by first | (exact ZW (n := 2310144) (by decide) (xs (an u0 u1))) | (exact ZW (n := 2310144 + 1) (by decide) (QI (n := 2310144) (xs (an u0 u1)) (xs (an u0 u1)) (by decide))))) ?_
 refine cFo f ?_ ?_ <;> intro k2 h2 f
 ·have q2 := h2; try simp at q2
  simp
  repeat with_reducible refine T3 ?_
  refine LS (rv := [.cell 8 33, .tmp 9]) rfl ?_
  simp [f.h]
  all_goals ((try simp only [q2, true_and]); (try (rintro r (⟨a, _, rfl⟩ | rfl) x hx <;> simp at hx <;> subst hx <;> rfl)))
 have q2 := h2; try simp at q2
 simp
 refine LS (rv := [.cell 8 33, .tmp 9]) rfl ?_
 simp [f.h]
 all_goals ((try simp only [q2, true_and]); (try (rintro r (⟨a, _, rfl⟩ | rfl) x hx <;> simp at hx <;> subst hx <;> rfl)))
theorem jo (a0 : ZE) (u0 : Sm 2326528 a0) : Sd 88 [a0.row] [rL 1 iR (ZY a0)] := by
 have f := me (ZY.eq_1 a0)
 refine soD func88 ntmps88 ?_
 refine lp2 (QJ.eq_2 a0) (fun J U => XQ 33 [eX 1 (a0.row.map .d), (3, .one (.sref 3 0 0 J.length), [.arr false 1 (J.map iR)]), eL 8 3 a0.Frame.ZG ZZ.row, eI 9 (a0.Frame.ZG.length : Int), eI 10 (U : Int)]) (fun n1 J U => a0.Frame.ZG.length < n1 + U /\ U <= a0.Frame.ZG.length /\ J.length <= 0 + 1 * U) (a0.Frame.ZG.length + 1) ([] : List Int) 0 (fun p1 J U e1 j1 => ?_) (h0 := wkS [((3, 0), none)] [])
 refine cFf e1 ?_ ?_ <;> intro k2 h1 e1
 ·have i1 := ix h1
  have m2 := ml a0.Frame.ZG (k2 8 _ rfl)
  have c1 := sl 2326528 a0.Frame.ZG u0
  have w1 := wr U
  simp [i1, ZI]
  refine rpS ?_
  refine cRs (xd a0.YN (nth a0.Frame.ZG U).Id) ?_
  refine cGs (fun gg => (qJ a0.Frame (nth a0.Frame.ZG U).Key)) ?_
  refine cF e1 ?_ ?_ <;> intro k3 h2 e1
  ·exact nx2 e1 (hw := QB [((3, 0), some (30, 0))] [] rfl (by simp [w1]))
  exact ny2 w1 e1
 have c2 := sl 2326528 a0.Frame.ZG u0
 have f := ms f e1
 exact rtD [.tmp 2] f
theorem JE {a b : Prop} (h : b) (k : a := by (intros; first | omega | with_unfolding_all (first | first | omega | (have f0 : 0 <= (ZK a0 a1).1 := (by first | omega | (simp at *; omega)); have fi := Qd a0 a1 f0; omega) | (have fl := QY a0; have fm := XM (Z2.XZ (ZE.Xx u0)); (try dsimp only at *); omega)) | ((try simp only [XR, show ∀ x, IntKind.i64.wrap x = W x from fun _ => rfl] at *); omega))) : a /\ b := ⟨k, h⟩
theorem V3 (a0 : ZE) (a1 : Int) (a2 : Int) (u0 : Sm 2314240 a0) : Sd 27 [a0.row, rI a1, rI a2] [(Y8 a0 a1 a2).1.row, rB (Y8 a0 a1 a2).2] := by
 have f := me (Y8.eq_1 a0 a1 a2)
 refine soD func27 ntmps27 ?_
 refine cDs [false, false, false, true, true, false, false, true, false, false, true, false] (Zk a0 (sg u0)) ?_
 refine cRs (U2 a0 a1) ?_
 refine cRs (Kw a0.Frame.Methods a0.Frame.Now) ?_
 refine cRs (Yx.rd (jo a0 (sg u0))) ?_
 refine cRs (xd a0.YE a1) ?_
 refine cFt f ?_ ?_ <;> intro k1 h1 f
 ·exact rtD [.cell 6 33, .tmp 7] f
 have i1 : (ZK a0 a1).1.toNat < a0.ZA.length := by first | omega | (have f0 : 0 <= (ZK a0 a1).1 := (by first | omega | (simp at *; omega)); have fi := Qd a0 a1 f0; omega)
 have i2 : (ZK a0 a1).2.toNat < (nth a0.ZA (ZK a0 a1).1.toNat).ZF.length := by first | omega | (have f0 : 0 <= (ZK a0 a1).1 := (by first | omega | (simp at *; omega)); have fi := Qd a0 a1 f0; omega)
 simp [i1, ZI, i2]
 repeat with_reducible refine JE ?_
 refine dIs mixed ?_
 refine cRs (Vh (nth (nth a0.ZA (ZK a0 a1).1.toNat).ZF (ZK a0 a1).2.toNat) (ZJ a0.Frame.Methods a0.Frame.Now) (sg (Yi (ZD.Yc (Yi (ZE.Yu u0)))))) ?_
 refine lp2 (Yo.eq_2 a0 a1 a2) (fun J U => XQ 124 [eI 2 a2, (6, .one (.bptr 6 0), [.box [.nil 5, .nil 3, .nil 4, .d (.int .i64 0), .d (.int .i64 0), .nil 7, .nil 1, .nil 2, .nil 1, .nil 1, .d (.int .i64 0), .nil 1]]), eX 8 (a0.Frame.row.map .d), (9, .one (.bptr 9 0), [.box [.sref 25 0 0 a0.Frame.Z9.length, .sref 25 1 0 a0.Frame.ZG.length, .sref 25 2 0 a0.Frame.Methods.length, .d (.int .i64 a0.Frame.zm), .d (.int .i64 a0.Frame.Now), .sref 25 5 0 a0.Zb.length, .sref 25 6 0 a0.YC.length, .sref 25 7 0 a0.ZA.length, .sref 25 8 0 a0.YP.length, .sref 25 9 0 a0.YN.length, .d (.int .i64 a0.Next), .sref 25 11 0 a0.YE.length]]), eI 10 (ZK a0 a1).1, eI 11 (ZK a0 a1).2, eX 14 ((nth (nth a0.ZA (ZK a0 a1).1.toNat).ZF (ZK a0 a1).2.toNat).row.map .d), (15, .one (.bptr 15 0), [.box [.d (.int .i64 ((nth (nth a0.ZA (ZK a0 a1).1.toNat).ZF (ZK a0 a1).2.toNat).Zc.Zp.length : Int)), .d (.int .i64 (ZJ a0.Frame.Methods a0.Frame.Now)), .d (.int .i64 (QR (nth (nth a0.ZA (ZK a0 a1).1.toNat).ZF (ZK a0 a1).2.toNat) (ZJ a0.Frame.Methods a0.Frame.Now))), .nil 2, .sref 15 5 0 U.length], .none, .none, .none, .none, .arr false 5 (U.map ZQ.row)]), (25, .any, [.arr false 5 (a0.Frame.Z9.map Yq.row), .arr false 3 (a0.Frame.ZG.map ZZ.row), .arr false 4 (a0.Frame.Methods.map YJ.row), .none, .none, .arr false 7 (a0.Zb.map Ym.row), .arr false 1 (a0.YC.map iR), .arr true 2 (a0.ZA.map ZD.row), .arr false 1 (a0.YP.map iR), .arr false 1 (a0.YN.map iR), .none, .arr false 1 (a0.YE.map iR)]), eL 76 1 (ZY a0) iR, eI 77 ((ZY a0).length : Int), eI 78 (J : Int)]) (fun n1 J U => (ZY a0).length < n1 + J /\ J <= (ZY a0).length /\ U.length <= 0 + 1 * J) ((ZY a0).length + 1) 0 ([] : List ZQ) (fun p1 J U e1 j1 => ?_) (h0 := wkS [((15, 5), none)] [])
 try dsimp only at j1
 refine cFf e1 ?_ ?_ <;> intro k4 h2 e1
 ·have i3 := ix h2
  have m2 := ml (ZY a0) (k4 76 _ rfl)
  have w1 := wr J
  simp [i3, ZI]
  repeat with_reducible refine JE ?_
  refine cRs (JT a0.Frame.Z9 a0.Frame.ZG (ZQ.mk (nth (ZY a0) J) 0 a2 (QR (nth (nth a0.ZA (ZK a0 a1).1.toNat).ZF (ZK a0 a1).2.toNat) (ZJ a0.Frame.Methods a0.Frame.Now)) 0) (sg (Z2.xw (ZE.Xx u0))) (sg (Z2.XZ (ZE.Xx u0)))) ?_
  refine cFt e1 ?_ ?_ <;> intro k5 h3 e1
  ·have f := ms f e1
   exact rtD [.cell 6 33, .tmp 7] f
  simp
  repeat with_reducible refine JE ?_
  exact nx2 e1 (hw := QB [((15, 5), some (102, 0))] [] rfl (by simp [w1]))
 have f := ms f e1
 refine cDs [] (jh (nth (nth a0.ZA (ZK a0 a1).1.toNat).ZF (ZK a0 a1).2.toNat).Zc (Za.mk ((nth (nth a0.ZA (ZK a0 a1).1.toNat).ZF (ZK a0 a1).2.toNat).Zc.Zp.length : Int) (ZJ a0.Frame.Methods a0.Frame.Now) (QR (nth (nth a0.ZA (ZK a0 a1).1.toNat).ZF (ZK a0 a1).2.toNat) (ZJ a0.Frame.Methods a0.Frame.Now)) ([] : List JR) U) (by first | (have fl := QY a0; have fm := XM (Z2.XZ (ZE.Xx u0)); simp [Xg]; omega) | (refine ZW (n := 2314240) (by decide) ?_; simp (maxDischargeDepth := 12) [u0]; done)) (by first | (have fl := QY a0; have fm := XM (Z2.XZ (ZE.Xx u0)); simp [Xg]; omega) | (refine ZW (n := 2314240) (by decide) ?_; simp (maxDischargeDepth := 12) [u0]; done))) ?_
 refine drJ [] mixed ?_
 simp [i1, ZI, i2]
 repeat with_reducible refine JE ?_
 refine DA (t := 25) (j := 7) (i := (ZK a0 a1).1.toNat) (c := 1) (k' := (ZK a0 a1).2.toNat) (q := 14) (n := 16) (size := 2) (s := ((nth a0.ZA (ZK a0 a1).1.toNat).ZF.map ZS.row)) (rows := (a0.ZA.map ZD.row)) (ds := (YG (nth (nth a0.ZA (ZK a0 a1).1.toNat).ZF (ZK a0 a1).2.toNat).Zc (Za.mk ((nth (nth a0.ZA (ZK a0 a1).1.toNat).ZF (ZK a0 a1).2.toNat).Zc.Zp.length : Int) (ZJ a0.Frame.Methods a0.Frame.Now) (QR (nth (nth a0.ZA (ZK a0 a1).1.toNat).ZF (ZK a0 a1).2.toNat) (ZJ a0.Frame.Methods a0.Frame.Now)) ([] : List JR) U)).1.row) (L := [(109, 0), (109, 1)]) rfl rfl rfl rfl (by simp; rfl) (by simp) (by simp) (by simp [i1, i2]) (by simp [ZI, Xa, i1, i2]) (by simp [i1, i2]) (by simp) (by simp) (by simp) (by simp) (by simp) (by simp) ?_
 simp [Jy (x := (ZD.mk (nth a0.ZA (ZK a0 a1).1.toNat).Id ((nth a0.ZA (ZK a0 a1).1.toNat).ZF.set (ZK a0 a1).2.toNat (ZS.mk (nth (nth a0.ZA (ZK a0 a1).1.toNat).ZF (ZK a0 a1).2.toNat).Id (nth (nth a0.ZA (ZK a0 a1).1.toNat).ZF (ZK a0 a1).2.toNat).YQ (nth (nth a0.ZA (ZK a0 a1).1.toNat).ZF (ZK a0 a1).2.toNat).Doc (nth (nth a0.ZA (ZK a0 a1).1.toNat).ZF (ZK a0 a1).2.toNat).Sig (YG (nth (nth a0.ZA (ZK a0 a1).1.toNat).ZF (ZK a0 a1).2.toNat).Zc (Za.mk ((nth (nth a0.ZA (ZK a0 a1).1.toNat).ZF (ZK a0 a1).2.toNat).Zc.Zp.length : Int) (ZJ a0.Frame.Methods a0.Frame.Now) (QR (nth (nth a0.ZA (ZK a0 a1).1.toNat).ZF (ZK a0 a1).2.toNat) (ZJ a0.Frame.Methods a0.Frame.Now)) ([] : List JR) U)).1)))) rfl, ZI, Xa, i1, i2]
 repeat with_reducible refine JE ?_
 exact rtD [.cell 6 33, .tmp 7] f
theorem Yz {a b : Prop} (h : b) (k : a := by (intros; first | omega | with_unfolding_all (first | first | omega | (have z := Yh a0 a1 (by simp_all); (try simp at *); omega)) | (simp_all; done) | (simp_all; omega) | grind | ((try simp only [XR, show ∀ x, IntKind.i64.wrap x = W x from fun _ => rfl] at *); omega))) : a /\ b := ⟨k, h⟩
theorem PD (a0 : ZE) (a1 : Int) (a2 : Int) (u0 : Sm 2310144 a0) : Sd 23 [a0.row, rI a1, rI a2] [(JK a0 a1 a2).1.row, rB (JK a0 a1 a2).2] := by
 have f := me (JK.eq_1 a0 a1 a2)
 refine soD func23 ntmps23 ?_
 refine cRs (U0 a0 a1) ?_
 refine dIs mixed ?_
 refine gIo ?_ ?_ <;> intro G
 ·have px := G
  have g1 := G; try simp at g1
  have i1 : (Zi a0 a1).2.1.toNat < a0.Zb.length := by first | omega | (have z := Yh a0 a1 (by simp_all); (try simp at *); omega)
  simp [i1, ZI, G]
  repeat with_reducible refine Yz ?_
  refine cGo (fun gg => (qJ a0.Frame (nth a0.Zb (Zi a0 a1).2.1.toNat).YZ)) ?_
  simp [G]
  repeat with_reducible refine Yz ?_
  refine cKo f ?_ ?_ <;> intro k2 h1 f
  ·try (simp [G] at h1; done)
   all_goals
    simp [G]
    repeat with_reducible refine Yz ?_
    refine cD [false, false, false, true, true, false, false, true, false, false, true, false] (Zk a0 (sg u0)) ?_
    simp [G]
    repeat with_reducible refine Yz ?_
    exact yQ [.cell 6 33, .tmp 7] f
  ·try (simp [G] at h1; done)
   all_goals
    simp [G]
    repeat with_reducible refine Yz ?_
    refine dIo mixed ?_
    simp [i1, ZI, G]
    repeat with_reducible refine Yz ?_
    refine cD [false, false, false, true, true, false, false, true, false, false, true, false] (KB a0 (Zi a0 a1).1 a1 (Yb.mk (nth a0.Zb (Zi a0 a1).2.1.toNat).YD a2 (-1) (nth a0.Zb (Zi a0 a1).2.1.toNat).YZ 0) (sg u0) (by (have z := Yh a0 a1 (by simp_all); (try simp at *); omega))) ?_
    simp [G]
    repeat with_reducible refine Yz ?_
    exact yQ [.cell 6 33, .tmp 7] f
 ·have px := G
  simp [G]
  repeat with_reducible refine Yz ?_
  refine sGo ?_
  simp [G]
  repeat with_reducible refine Yz ?_
  refine cKo f ?_ ?_ <;> intro k4 h2 f
  ·try (simp [G] at h2; done)
   all_goals
    simp [G]
    repeat with_reducible refine Yz ?_
    refine cD [false, false, false, true, true, false, false, true, false, false, true, false] (Zk a0 (sg u0)) ?_
    simp [G]
    repeat with_reducible refine Yz ?_
    exact yQ [.cell 6 33, .tmp 7] f
  ·try (simp [G] at h2; done)
   all_goals
    simp [G]
    repeat with_reducible refine Yz ?_
    refine dIo mixed ?_
    have i3 : (Zi a0 a1).2.1.toNat < a0.Zb.length := by first | omega | (have z := Yh a0 a1 (by simp_all); (try simp at *); omega)
    simp [i3, ZI, G]
    repeat with_reducible refine Yz ?_
    refine cD [false, false, false, true, true, false, false, true, false, false, true, false] (KB a0 (Zi a0 a1).1 a1 (Yb.mk (nth a0.Zb (Zi a0 a1).2.1.toNat).YD a2 (-1) (nth a0.Zb (Zi a0 a1).2.1.toNat).YZ 0) (sg u0) (by (have z := Yh a0 a1 (by simp_all); (try simp at *); omega))) ?_
    simp [G]
    repeat with_reducible refine Yz ?_
    exact yQ [.cell 6 33, .tmp 7] f
theorem TW (a0 : ZE) (a1 : ZR) (u0 : Sm 2293760 a0) (u1 : Sm 2293760 a1) : Sd 18 [a0.row, a1.row] [(Z6 a0 a1).1.row, rB (Z6 a0 a1).2] := by
 have f := me (Z6.eq_1 a0 a1)
 refine soD func18 ntmps18 ?_
 refine cF f ?_ ?_ <;> intro k1 h1 f
 ·refine cDs [false, false, false, true, true, false, false, true, false, false, true, false] (Rv a0 a1.A (sg u0)) ?_
  exact rtD [.cell 4 33, .tmp 5] f
 refine cF f ?_ ?_ <;> intro k2 h2 f
 ·refine cDs [false, false, false, true, true, false, false, true, false, false, true, false] (PY a0 a1.A a1.B a1.Doc a1.C a1.D (sg u0) (sg (ZR.W7 u1))) ?_
  exact rtD [.cell 4 33, .tmp 5] f
 refine cF f ?_ ?_ <;> intro k3 h3 f
 ·refine cDs [false, false, false, true, true, false, false, true, false, false, true, false] (Tj a0 a1.A (sg u0)) ?_
  exact rtD [.cell 4 33, .tmp 5] f
 refine cF f ?_ ?_ <;> intro k4 h4 f
 ·refine cDs [false, false, false, true, true, false, false, true, false, false, true, false] (TR a0 a1.A (sg u0)) ?_
  exact rtD [.cell 4 33, .tmp 5] f
 refine cF f ?_ ?_ <;> intro k5 h5 f
 ·refine cDs [false, false, false, true, true, false, false, true, false, false, true, false] (RC a0 a1.A a1.Ids a1.B (sg u0) (sg (ZR.H0 u1))) ?_
  exact rtD [.cell 4 33, .tmp 5] f
 refine cF f ?_ ?_ <;> intro k6 h6 f
 ·refine cDs [false, false, false, true, true, false, false, true, false, false, true, false] (PI a0 a1.A a1.B a1.C (sg u0)) ?_
  exact rtD [.cell 4 33, .tmp 5] f
 refine cF f ?_ ?_ <;> intro k7 h7 f
 ·refine cDs [false, false, false, true, true, false, false, true, false, false, true, false] (Tp a0 a1.A (sg u0)) ?_
  exact rtD [.cell 4 33, .tmp 5] f
 refine cF f ?_ ?_ <;> intro k8 h8 f
 ·refine cDs [false, false, false, true, true, false, false, true, false, false, true, false] (SP a0 a1.A a1.B a1.Doc (sg u0) (sg (ZR.W7 u1))) ?_
  exact rtD [.cell 4 33, .tmp 5] f
 refine cF f ?_ ?_ <;> intro k9 h9 f
 ·refine cDs [false, false, false, true, true, false, false, true, false, false, true, false] (V3 a0 a1.A a1.B (sg u0)) ?_
  exact rtD [.cell 4 33, .tmp 5] f
 refine cF f ?_ ?_ <;> intro iD tg f
 ·refine cDs [false, false, false, true, true, false, false, true, false, false, true, false] (PD a0 a1.A a1.B (sg u0)) ?_
  exact rtD [.cell 4 33, .tmp 5] f
 refine cDs [false, false, false, true, true, false, false, true, false, false, true, false] (Zk a0 (sg u0)) ?_
 exact rtD [.cell 4 33, .tmp 5] f
theorem RX (a0 : ZE) (a1 : List ZR) (u0 : Sm 1048576 a0) (u1 : Sm 1048576 a1) : Sd 13 [a0.row, rL 9 ZR.row a1] [(ZU a0 a1).row] := by
 have f := me (ZU.eq_1 a0 a1)
 refine soD func13 ntmps13 ?_
 refine cDs [false, false, false, true, true, false, false, true, false, false, true, false] (Zk a0 (by exact sg u0)) ?_
 refine DE (QD.eq_2 a1) (fun J U wJ wx wy vx vn vo vp vq vC vI vD => XQ 24 [(4, .one (.bptr 4 0), [.box [.nil 5, .nil 3, .nil 4, .d (.int .i64 0), .d (.int .i64 0), .nil 7, .nil 1, .nil 2, .nil 1, .nil 1, .d (.int .i64 0), .nil 1]]), (5, .one (.bptr 5 0), [.box [.sref 5 1 0 U.length, .sref 5 2 0 wJ.length, .sref 5 3 0 wx.length, .d (.int .i64 wy), .d (.int .i64 vx), .sref 5 6 0 vn.length, .sref 5 7 0 vo.length, .sref 5 8 0 vp.length, .sref 5 9 0 vq.length, .sref 5 10 0 vC.length, .d (.int .i64 vI), .sref 5 12 0 vD.length], .arr false 5 (U.map Yq.row), .arr false 3 (wJ.map ZZ.row), .arr false 4 (wx.map YJ.row), .none, .none, .arr false 7 (vn.map Ym.row), .arr false 1 (vo.map iR), .arr true 2 (vp.map ZD.row), .arr false 1 (vq.map iR), .arr false 1 (vC.map iR), .none, .arr false 1 (vD.map iR)]), eL 10 9 a1 ZR.row, eI 11 (a1.length : Int), eI 12 (J : Int)]) (fun n1 J U wJ wx wy vx vn vo vp vq vC vI vD => a1.length < n1 + J /\ J <= a1.length /\ Sm (1048576 + J) (ZE.mk (Z2.mk U wJ wx wy vx) vn vo vp vq vC vI vD)) (a1.length + 1) 0 a0.Frame.Z9 a0.Frame.ZG a0.Frame.Methods a0.Frame.zm a0.Frame.Now a0.Zb a0.YC a0.ZA a0.YP a0.YN a0.Next a0.YE (fun p1 J U wJ wx wy vx vn vo vp vq vC vI vD e1 j1 => ?_) (hI := by exact ⟨by omega, by omega, Nat.zero_le _, u0⟩) (h0 := wkS [((5, 1), some (9, 0)), ((5, 2), some (9, 1)), ((5, 3), some (9, 2)), ((5, 6), some (9, 5)), ((5, 7), some (9, 6)), ((5, 8), some (9, 7)), ((5, 9), some (9, 8)), ((5, 10), some (9, 9)), ((5, 12), some (9, 11))] [])
 try dsimp only at j1
 refine cFf e1 ?_ ?_ <;> intro k2 h1 e1
 ·have i1 := ix h1
  have m2 := ml a1 (k2 10 _ rfl)
  have c1 := sl 1048576 a1 (an u0 u1)
  have w1 := wr J
  simp [i1, ZI]
  refine rpS ?_
  refine cDs [false, false, false, true, true, false, false, true, false, false, true, false] (TW (ZE.mk (Z2.mk U wJ wx wy vx) vn vo vp vq vC vI vD) (nth a1 J) (by first | exact sg (Yi u1) | (have hl := XM u1; exact ZW (n := 1048576 + J) (by omega) j1.2.2.2) | exact sg u0) (by first | exact sg (Yi u1) | (have hl := XM u1; exact ZW (n := 1048576 + J) (by omega) j1.2.2.2) | exact sg u0)) ?_
  exact E6 e1 (hI := by (have hl := XM u1; (try dsimp only); refine ⟨by omega, by omega, by omega, ?_⟩; exact jf (n := 1048576 + J) (by omega) j1.2.2.2 (ZW (n := 1048576) (by omega) (Yi u1)) (by omega))) (hw := QB [((5, 1), some (19, 0)), ((5, 2), some (19, 1)), ((5, 3), some (19, 2)), ((5, 6), some (19, 5)), ((5, 7), some (19, 6)), ((5, 8), some (19, 7)), ((5, 9), some (19, 8)), ((5, 10), some (19, 9)), ((5, 12), some (19, 11))] [] rfl (by simp [w1]))
 have c2 := sl 1048576 a1 (an u0 u1)
 have f := ms f e1
 exact rtD [.cell 4 33] f
theorem Vp {a b : Prop} (h : b) (k : a := by (intros; first | omega | with_unfolding_all (first | (have d := Nk (l := a0.ZA) (i := U) (by first | omega | (simp at *; omega)); omega)) | ((try simp only [XR, show ∀ x, IntKind.i64.wrap x = W x from fun _ => rfl] at *); omega))) : a /\ b := ⟨k, h⟩
theorem Oq (a0 : ZE) (u0 : Sm 2342912 a0) (u1 : itn a0.ZA <= 1048576) : So 99 [a0.row] [rL 16 ZS.row (XN a0)] := by
 have f := me (XN.eq_1 a0)
 refine so func99 ntmps99 ?_
 refine lp2 (xk.eq_2 a0) (fun J U => XQ 19 [(3, .one (.sref 3 0 0 J.length), [.arr false 16 (J.map ZS.row)]), eL 7 2 a0.ZA ZD.row, eI 8 (a0.ZA.length : Int), eI 9 (U : Int)]) (fun n1 J U => a0.ZA.length < n1 + U /\ U <= a0.ZA.length /\ J.length + itn (a0.ZA.drop U) <= 1048576) (a0.ZA.length + 1) ([] : List ZS) 0 (fun p1 J U e1 j1 => ?_) (hI := by ((try dsimp only); simp only [List.length_nil, List.drop_zero]; omega)) (h0 := wkS [((3, 0), none)] [])
 try dsimp only at j1
 refine cFf e1 ?_ ?_ <;> intro k2 h1 e1
 ·have i1 := ix h1
  have m2 := ml a0.ZA (k2 7 _ rfl)
  have c1 := sl 2342912 a0.ZA (an u0 u1)
  have w1 := wr U
  simp [i1, ZI]
  repeat with_reducible refine Vp ?_
  refine evI rfl rfl rfl ?_
  have c2 := sl 2342912 (nth a0.ZA U).ZF (an u0 u1)
  simp
  repeat with_reducible refine Vp ?_
  exact nx2 e1 (hI := by (have d := Nk (l := a0.ZA) (i := U) (by first | omega | (simp at *; omega)); (try dsimp only); simp only [List.length_append]; omega)) (hw := QB [((3, 0), some (16, 0))] [] rfl (by simp [w1]))
 have c3 := sl 2342912 a0.ZA (an u0 u1)
 have f := ms f e1
 exact rtO [.tmp 2] f
theorem qk (a0 : List ZQ) (a1 : List ZQ) (u0 : Sm 2342912 a0) (u1 : a0.length + a1.length <= 33554500) : SG prog 180 [rL 5 ZQ.row a0] [.sl 5 (a1.map ZQ.row)] [.sl 5 ((Qk a0 a1).map ZQ.row)] := by
 refine L9 func180 rfl (by kernel_rfl) [false] (by simp) (fun v => ?_)
 simp [ntmps180]
 refine okL fun k1 => ?_
 refine FW (ι := { s : Nat × Nat × (List ZQ) // Yn a0 s.1 s.2.1 s.2.2 = Yn a0 (a0.length + 1) 0 a1 /\ (1 <= s.1 /\ a0.length < s.1 + s.2.1 /\ s.2.1 <= a0.length /\ s.2.2.length <= a1.length + s.2.1) }) (fun s => XQ 34 [(1, .fix v (.one (.bptr 1 0)), [.box [.sref 1 1 0 s.1.2.2.length], .arr false 5 (s.1.2.2.map ZQ.row)]), eL 8 5 a0 ZQ.row, eI 9 (a0.length : Int), eI 10 (s.1.2.1 : Int)]) (fun s => s.1.1) ⟨((a0.length + 1), 0, a1), rfl, by first | omega | (dsimp only; omega) | simp⟩ (Qv (by simp)) ?_
 rintro ⟨⟨n1, J, U⟩, e1, j1⟩
 try dsimp only at e1 j1
 obtain ⟨p1, rfl⟩ : ∃ p, n1 = p + 1 := ⟨n1 - 1, by omega⟩
 simp
 refine cC (decide ((J : Int) < (a0.length : Int))) (fun k2 h1 => ?_) (fun k2 h1 => ?_)
 ·have q1 := h1; try simp at q1
  have i1 : J < a0.length := by simpa using h1
  have m2 : a0.length <= 9223372036854775807 := by simpa using k2 8 _ rfl
  have c1 : a0.length <= 2342912 := XM (xs (an u0 u1))
  have w1 : IntKind.i64.wrap ((J : Int) + 1) = (J : Int) + 1 := XV (by omega) (by omega)
  simp [i1, ZI]
  refine rpS ?_
  refine okL fun k3 => ?_
  refine FW (ι := { s : Nat × Bool × Nat // QT a0 J U s.1 s.2.1 s.2.2 = QT a0 J U (U.length + 1) false 0 /\ (1 <= s.1 /\ U.length < s.1 + s.2.2 /\ s.2.2 <= U.length) }) (fun s => XQ 34 [(1, .fix v (.one (.bptr 1 0)), [.box [.sref 1 1 0 U.length], .arr false 5 (U.map ZQ.row)]), eX 4 ((nth a0 J).row.map .d), eB 5 s.1.2.1, eL 8 5 a0 ZQ.row, eI 9 (a0.length : Int), eI 10 (J : Int), (14, .one (.sref 1 1 0 U.length), []), eI 15 (U.length : Int), eI 16 (s.1.2.2 : Int)]) (fun s => s.1.1) ⟨((U.length + 1), false, 0), rfl, by first | omega | (dsimp only; omega) | simp⟩ (Qv (by simp)) ?_
  rintro ⟨⟨n2, wR, wT⟩, e2, j2⟩
  try dsimp only at e2 j2
  obtain ⟨p2, rfl⟩ : ∃ p, n2 = p + 1 := ⟨n2 - 1, by omega⟩
  simp
  refine cC (decide ((wT : Int) < (U.length : Int))) (fun k4 h2 => ?_) (fun k4 h2 => ?_)
  ·have q2 := h2; try simp at q2
   have i2 : wT < U.length := by simpa using h2
   have m4 : U.length <= 9223372036854775807 := by simpa using k4 14 _ rfl
   have w2 : IntKind.i64.wrap ((wT : Int) + 1) = (wT : Int) + 1 := XV (by omega) (by omega)
   simp [i2, ZI]
   refine rpS ?_
   refine Fs ⟨(p2, (wR || (((nth U wT).Authority == (nth a0 J).Authority) && (((nth U wT).Seq == (nth a0 J).Seq) && (((nth U wT).Time == (nth a0 J).Time) && (((nth U wT).XL == (nth a0 J).XL) && ((nth U wT).Mark == (nth a0 J).Mark)))))), (wT + 1)), ?_, ?_⟩ (by simp) (Qv (by simp [w1, w2]))
   · rw [<- e2]; simp only [QT, h2, Yf, YT]
   · first | omega | (simp at *; omega)
  ·have q2 := h2; try simp at q2
   have x1 : QT a0 J U (U.length + 1) false 0 = wR := by rw [<- e2]; simp only [QT, h2, Yf, YT]
   simp
   refine cC (!wR) (fun k5 h3 => ?_) (fun k5 h3 => ?_)
   ·have q3 := h3; try simp at q3
    simp
    refine rpS ?_
    refine Fs ⟨(p1, (J + 1), (U ++ ([(nth a0 J)] : List ZQ))), ?_, ?_⟩ (by simp) (QB [((1, 1), some (32, 0))] [] rfl (by simp [w1]))
    · rw [<- e1]; simp only [Yn, h1, x1, h3, Yf, YT]
    · first | omega | (simp at *; omega)
   ·have q3 := h3; try simp at q3
    simp
    refine Fs ⟨(p1, (J + 1), U), ?_, ?_⟩ (by simp) (Qv (by simp [w1]))
    · rw [<- e1]; simp only [Yn, h1, x1, h3, Yf, YT]
    · first | omega | (simp at *; omega)
 ·have q1 := h1; try simp at q1
  have c2 : a0.length <= 2342912 := XM (xs (an u0 u1))
  have x2 : Yn a0 (a0.length + 1) 0 a1 = U := by rw [<- e1]; simp only [Yn, h1, Yf, YT]
  simp
  refine E2 (tw := [(.sref 1 1 0 U.length)]) rfl ?_ (.inr rfl)
  have f1 := Qk.eq_1 a0 a1
  simp only [x2, Yf, YT] at f1
  simp [f1]
theorem PV (a0 : Z8) (u0 : Sm 2338816 a0) (u1 : IX a0 <= 33554500) : Sd 100 [a0.row] [rL 5 ZQ.row (K0 a0)] := by
 have f := me (K0.eq_1 a0)
 refine soD func100 ntmps100 ?_
 refine Ei (t := 3) (cells := [.nil 5]) rfl rfl rfl rfl (by simp) (by simp) ?_
 simp
 refine lp2 (QX.eq_2 a0) (fun J U => XQ 44 [eX 1 (a0.row.map .d), (3, .one (.bptr 3 0), [.box [.sref 3 1 0 U.length], .arr false 5 (U.map ZQ.row)]), (4, .one (.fn 180 3), []), eL 13 2 a0.Zt Zf.row, eI 14 (a0.Zt.length : Int), eI 15 (J : Int)]) (fun n1 J U => a0.Zt.length < n1 + J /\ J <= a0.Zt.length /\ U.length + cnL stc (a0.Zt.drop J) + cnL List.length a0.J5 <= 33554500) (a0.Zt.length + 1) 0 ([] : List ZQ) (fun p1 J U e1 j1 => ?_) (hI := by ((try dsimp only); have u := u1; simp only [IX] at u; simp only [List.length_nil, List.drop_zero]; omega)) (h0 := wkS [((3, 1), none)] [])
 try dsimp only at j1
 refine cFf e1 ?_ ?_ <;> intro k2 h1 e1
 ·have i1 := ix h1
  have m2 := ml a0.Zt (k2 13 _ rfl)
  have c1 := sl 2338816 a0.Zt (an u0 u1)
  have w1 := wr J
  simp [i1, ZI]
  refine rpS ?_
  refine lp2 (Qe.eq_2 a0 J) (fun wR wT => XQ 44 [eX 1 (a0.row.map .d), (3, .one (.bptr 3 0), [.box [.sref 3 1 0 wT.length], .arr false 5 (wT.map ZQ.row)]), (4, .one (.fn 180 3), []), eL 13 2 a0.Zt Zf.row, eI 14 (a0.Zt.length : Int), eI 15 (J : Int), eL 20 5 (nth a0.Zt J).Zn Za.row, eI 21 ((nth a0.Zt J).Zn.length : Int), eI 22 (wR : Int)]) (fun n2 wR wT => (nth a0.Zt J).Zn.length < n2 + wR /\ wR <= (nth a0.Zt J).Zn.length /\ wT.length + cnL (fun r => r.Y7.length) ((nth a0.Zt J).Zn.drop wR) + cnL stc (a0.Zt.drop (J + 1)) + cnL List.length a0.J5 <= 33554500) ((nth a0.Zt J).Zn.length + 1) 0 U (fun p2 wR wT e2 j2 => ?_) (hI := by (have d := Ny (l := a0.Zt) (i := J) (by first | omega | (simp at *; omega)); (try dsimp only); simp only [stc, List.drop_zero] at d ⊢; omega))
  try dsimp only at j2
  refine cFf e2 ?_ ?_ <;> intro k4 h2 e2
  ·have i2 := ix h2
   have m4 := ml (nth a0.Zt J).Zn (k4 20 _ rfl)
   have c2 := sl 2338816 (nth a0.Zt J).Zn (an u0 u1)
   have w2 := wr wR
   simp [i2, ZI]
   refine rpS ?_
   refine FP (tf := 26) (u := 3) (row := [.sl 5 (wT.map ZQ.row)]) (wE := [.sl 5 ((Qk (nth (nth a0.Zt J).Zn wR).Y7 wT).map ZQ.row)]) (cells := [.sref 3 1 0 wT.length]) [false] rfl rfl rfl rfl (qk (nth (nth a0.Zt J).Zn wR).Y7 wT (sg (Za.Um (Yi (Zf.j6 (Yi (Z8.LQ u0)))))) (by (first | (have d := Vl (l := (nth a0.Zt J).Zn) (i := wR) (by first | omega | (simp at *; omega)); omega) | (have d := SF (l := a0.J5) (i := vA) (by first | omega | (simp at *; omega)); omega)))) (by simp) (by simp) (by simp) (by simp) (by simp) (by simp) (by simp) (by simp) (by simp) (by simp) (by simp [Yt]) (by simp) (by simp) ?_
   simp
   exact ny2 (an w1 w2) e2 (hI := by (have d := Vl (l := (nth a0.Zt J).Zn) (i := wR) (by first | omega | (simp at *; omega)); have z := zT (nth (nth a0.Zt J).Zn wR).Y7 wT; (try dsimp only); omega))
  have c3 := sl 2338816 (nth a0.Zt J).Zn (an u0 u1)
  have e1 := ms e1 e2
  exact ny2 w1 e1 (hI := by (first | omega | ((try dsimp only); omega) | (simp at *; omega)))
 have c4 := sl 2338816 a0.Zt (an u0 u1)
 have f := ms f e1
 refine lp2 (Js.eq_2 a0) (fun vA w9 => XQ 44 [(3, .one (.bptr 3 0), [.box [.sref 3 1 0 w9.length], .arr false 5 (w9.map ZQ.row)]), (4, .one (.fn 180 3), []), eL 33 1 a0.J5 (slR 5 ZQ.row), eI 34 (a0.J5.length : Int), eI 35 (vA : Int)]) (fun n3 vA w9 => a0.J5.length < n3 + vA /\ vA <= a0.J5.length /\ w9.length + cnL List.length (a0.J5.drop vA) <= 33554500) (a0.J5.length + 1) 0 U (fun p3 vA w9 e3 j3 => ?_) (hI := by ((try dsimp only); simp only [List.drop_zero]; omega))
 try dsimp only at j3
 refine cFf e3 ?_ ?_ <;> intro k6 h3 e3
 ·have i3 := ix h3
  have m6 := ml a0.J5 (k6 33 _ rfl)
  have c5 := sl 2338816 a0.J5 (an u0 u1)
  have w3 := wr vA
  simp [i3, ZI]
  refine rpS ?_
  refine FP (tf := 39) (u := 3) (row := [.sl 5 (w9.map ZQ.row)]) (wE := [.sl 5 ((Qk (nth a0.J5 vA) w9).map ZQ.row)]) (cells := [.sref 3 1 0 w9.length]) [false] rfl rfl rfl rfl (qk (nth a0.J5 vA) w9 (sg (Yi (Z8.Hn u0))) (by (first | (have d := Vl (l := (nth a0.Zt J).Zn) (i := wR) (by first | omega | (simp at *; omega)); omega) | (have d := SF (l := a0.J5) (i := vA) (by first | omega | (simp at *; omega)); omega)))) (by simp) (by simp) (by simp) (by simp) (by simp) (by simp) (by simp) (by simp) (by simp) (by simp) (by simp [Yt]) (by simp) (by simp) ?_
  simp
  exact ny2 w3 e3 (hI := by (have d := SF (l := a0.J5) (i := vA) (by first | omega | (simp at *; omega)); have z := zT (nth a0.J5 vA) w9; (try dsimp only); omega))
 have c6 := sl 2338816 a0.J5 (an u0 u1)
 have f := ms f e3
 exact rtD [.tmp 2] f
theorem kI {a b : Prop} (h : b) (k : a := by (intros; first | omega | with_unfolding_all (first | (have z := PR a0; omega)) | ((try simp only [XR, show ∀ x, IntKind.i64.wrap x = W x from fun _ => rfl] at *); omega))) : a /\ b := ⟨k, h⟩
theorem T6 (a0 : ZE) (u0 : Sm 2334720 a0) (u1 : itn a0.ZA <= 1048576) (u2 : IX (Z8.mk (Yy a0) []) <= 33554500) : Sd 34 [a0.row] [rL 5 ZQ.row (XB a0)] := by
 have f := me (XB.eq_1 a0)
 refine soD func34 ntmps34 ?_
 refine cRs (Oq a0 (by (first | exact sg u0 | exact u1)) (by (first | exact sg u0 | exact u1))) ?_
 refine lp2 (JL.eq_2 a0) (fun J U => XQ 23 [(3, .one (.bptr 3 0), [.box [.sref 3 1 0 U.length, .nil 1], .arr false 2 (U.map Zf.row)]), eL 7 16 (XN a0) ZS.row, eI 8 ((XN a0).length : Int), eI 9 (J : Int)]) (fun n1 J U => (XN a0).length < n1 + J /\ J <= (XN a0).length /\ U.length <= J) ((XN a0).length + 1) 0 ([] : List Zf) (fun p1 J U e1 j1 => ?_) (h0 := wkS [((3, 1), none)] [])
 try dsimp only at j1
 refine cFf e1 ?_ ?_ <;> intro k2 h1 e1
 ·have i1 := ix h1
  have m2 := ml (XN a0) (k2 7 _ rfl)
  have w1 := wr J
  simp [i1, ZI]
  repeat with_reducible refine kI ?_
  refine eIs ?_
  refine evI rfl rfl rfl ?_
  simp
  repeat with_reducible refine kI ?_
  exact nx2 e1 (hw := QB [((3, 1), some (18, 0))] [] rfl (by simp [w1]))
 have f := ms f e1
 refine cDs [false] (PV (Z8.mk U ([] : List (List ZQ))) (by (first | (rw [<- e1.h, X1]; exact sg (Vi u0 u1 (by decide))) | (rw [<- e1.h, X1]; exact u2))) (by (first | (rw [<- e1.h, X1]; exact sg (Vi u0 u1 (by decide))) | (rw [<- e1.h, X1]; exact u2)))) ?_
 exact rtD [.tmp 2] f
theorem jg (a0 : List Yq) (a1 : List ZZ) (a2 : ZQ) (u0 : Sm 2314240 a0) (u1 : Sm 2314240 a1) : Sa 178 [rL 5 Yq.row a0, rL 3 ZZ.row a1, a2.row] [rB (Ka a0 a1 a2)] := by
 have f := me (Ka.eq_1 a0 a1 a2)
 refine so func178 ntmps178 ?_
 refine cRs (JT a0 a1 a2 (sg u0) (sg u1)) ?_
 exact rt [.tmp 6] f
theorem UL (a0 : List Yq) (a1 : List ZZ) (a2 : ZQ) (a3 : ZQ) (u0 : Sm 2310144 a0) (u1 : Sm 2310144 a1) : Sa 98 [rL 5 Yq.row a0, rL 3 ZZ.row a1, a2.row, a3.row] [rB (Qh a0 a1 a2 a3)] := by
 have f := me (Qh.eq_1 a0 a1 a2 a3)
 refine so func98 ntmps98 ?_
 refine cGs (fun gg => (jg a0 a1 a2 (sg u0) (sg u1))) ?_
 refine cGs (fun gg => (jg a0 a1 a3 (sg u0) (sg u1))) ?_
 refine cF f ?_ ?_ <;> intro k1 h1 f
 ·exact rt [.tmp 8] f
 refine cF f ?_ ?_ <;> intro k2 h2 f
 ·exact rt [.tmp 8] f
 exact rt [.tmp 8] f
theorem O4 (a0 : List Yq) (a1 : List ZZ) (a2 : List ZQ) (u0 : Sm 2306048 a0) (u1 : Sm 2306048 a1) (u2 : Sm 2306048 a2) : Sd 33 [rL 5 Yq.row a0, rL 3 ZZ.row a1, rL 5 ZQ.row a2] [rL 1 iR (QQ a0 a1 a2)] := by
 have f := me (QQ.eq_1 a0 a1 a2)
 refine soD func33 ntmps33 ?_
 refine lp2 (yV.eq_2 a0 a1 a2) (fun J U => XQ 57 [eL 0 5 a0 Yq.row, eL 1 3 a1 ZZ.row, eL 2 5 a2 ZQ.row, eX 7 (xK U), eL 15 5 a2 ZQ.row, eI 16 (a2.length : Int), eI 17 (J : Int)]) (fun n1 J U => a2.length < n1 + J /\ J <= a2.length /\ U.length = 100) (a2.length + 1) 0 (zB 100) (fun p1 J U e1 j1 => ?_) (hI := by first | omega | (simp; done) | (simp; omega) | (refine ⟨by omega, by omega, ?_⟩; first | (simp; done) | omega))
 try dsimp only at j1
 refine cFo e1 ?_ ?_ <;> intro k2 h1 e1
 ·have i1 := ix h1
  have m2 := ml a2 (k2 2 _ rfl)
  have c1 := sl 2306048 a2 (an u0 (an u1 u2))
  have w1 := wr J
  simp [i1, ZI]
  refine rpS ?_
  refine lp2 (K7.eq_2 a0 a1 a2 J) (fun wR wT => XQ 57 [eL 0 5 a0 Yq.row, eL 1 3 a1 ZZ.row, eL 2 5 a2 ZQ.row, eX 7 (xK wT), eX 9 ((nth a2 J).row.map .d), eL 15 5 a2 ZQ.row, eI 16 (a2.length : Int), eI 17 (J : Int), eL 24 5 (a2.take J) ZQ.row, eI 25 ((a2.take J).length : Int), eI 26 (wR : Int)]) (fun n2 wR wT => (a2.take J).length < n2 + wR /\ wR <= (a2.take J).length /\ wT.length = U.length /\ wT.length = 100) ((a2.take J).length + 1) 0 U (fun p2 wR wT e2 j2 => ?_) (hI := by first | omega | (simp; done) | (simp; omega) | (refine ⟨by omega, by omega, ?_⟩; first | (simp; done) | omega))
  try dsimp only at j2
  refine cFf e2 ?_ ?_ <;> intro k4 h2 e2
  ·have i2 := ix h2
   have m4 := ml (a2.take J) (k4 24 _ rfl)
   have c2 := sl 2306048 (a2.take J) (an u0 (an u1 u2))
   have w2 := wr wR
   have fX := Gd i2
   simp [i2, Mv i2, fX, ZI]
   refine rpS ?_
   refine cRs (Zx (nth a2 J).Authority 0 99) ?_
   refine cGs (fun gg => (UL a0 a1 (nth a2 J) (nth (a2.take J) wR) (sg u0) (sg u1))) ?_
   refine cFo e2 ?_ ?_ <;> intro k5 h3 e2
   ·have q3 := h3; try simp [ZO] at q3
    have i3 : (nth a2 J).Authority.toNat < wT.length := by first | omega | (simp only [Bool.and_eq_true, decide_eq_true_eq, ZO] at *; omega)
    simp [MO i3, IN i3, qD]
    refine rpS ?_
    exact ny2 (an w1 w2) e2 (hI := by first | omega | (simp; done) | (simp; omega) | (refine ⟨by omega, by omega, ?_⟩; first | omega | (rw [List.length_set]; omega)))
   have q3 := h3; try simp [ZO] at q3
   simp
   exact ny2 (an w1 w2) e2 (hI := by first | omega | (simp; done) | (simp; omega) | (refine ⟨by omega, by omega, ?_⟩; first | omega | (rw [List.length_set]; omega)))
  have c3 := sl 2306048 (a2.take J) (an u0 (an u1 u2))
  have e1 := ms e1 e2
  exact ny2 w1 e1 (hI := by first | omega | (simp; done) | (simp; omega) | (refine ⟨by omega, by omega, ?_⟩; first | omega | (rw [List.length_set]; omega)))
 have c4 := sl 2306048 a2 (an u0 (an u1 u2))
 have f := ms f e1
 have i4 : U.length = 100 := by first | omega | (simp only [Bool.and_eq_true, decide_eq_true_eq, ZO] at *; omega)
 simp [Hm i4, qD, i4]
 refine rpS ?_
 refine lp2 (K9.eq_2 U) (fun vA w9 => XQ 57 [(12, .one (.sref 12 0 0 vA.length), [.arr false 1 (vA.map iR)]), eG 45 (xK U), eI 46 (w9 : Int)]) (fun n3 vA w9 => 100 < n3 + w9 /\ vA.length <= 0 + 1 * w9) 101 ([] : List Int) 0 (fun p3 vA w9 e3 j3 => ?_) (h0 := wkS [((12, 0), none)] [])
 refine cFf e3 ?_ ?_ <;> intro k7 h4 e3
 ·have w3 := wr w9
  have i6 : w9 < U.length := by first | omega | (simp only [Bool.and_eq_true, decide_eq_true_eq, ZO] at *; omega)
  simp [I9 i6, qD]
  refine rpS ?_
  refine cF e3 ?_ ?_ <;> intro k8 h5 e3
  ·exact nx2 e3 (hw := QB [((12, 0), some (54, 0))] [] rfl (by simp [w3]))
  exact ny2 w3 e3
 have f := ms f e3
 exact rtD [.tmp 6] f
end Go.Proofs.YthjkhlcbpfnobaaGreat
