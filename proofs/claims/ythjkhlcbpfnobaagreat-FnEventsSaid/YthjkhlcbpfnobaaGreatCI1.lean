/- Contracts of the functions NL the abstract machine, part I1. No condition. -/
import Derived.Test.YthjkhlcbpfnobaaGreatL
import Derived.Test.YthjkhlcbpfnobaaGreatTy
namespace Go.Proofs.YthjkhlcbpfnobaaGreat
open Tryz
open Go.Vm Go.Mo
set_option maxHeartbeats 1000000
set_option maxRecDepth 100000
set_option linter.unusedSimpArgs false
set_option linter.unusedVariables false
theorem ME (a0 : Zu) (u0 : Sm 2342912 a0) : Sd 141 [a0.row] [(U8 a0).row] := by
 have f := me (U8.eq_1 a0)
 have c1 := sl 2342912 a0.Zq u0
 have c2 := sl 2342912 a0.ZF u0
 have c3 := sl 2342912 a0.Methods u0
 refine soD func141 ntmps141 ?_
 exact rtD [.cell 2 28] f
theorem Nc (a0 : Zu) (u0 : Sm 2342912 a0) : Sd 141 [a0.row] [a0.row] := by
  have h := ME a0 u0
  rwa [La] at h
theorem IA (a0 : List Int) (u0 : Sm 2342912 a0) : Sd 142 [rL 1 iR a0] [rL 1 iR (RB a0)] := by
 have f := me (RB.eq_1 a0)
 have c1 := sl 2342912 a0 u0
 refine soD func142 ntmps142 ?_
 exact rtD [.tmp 2] f
theorem Kt (a0 : List Int) (u0 : Sm 2342912 a0) : Sd 142 [rL 1 iR a0] [rL 1 iR a0] := by
  have h := IA a0 u0
  rwa [IS] at h
theorem PD (a0 : ZU) (u0 : Sm 2338816 a0) : Sd 282 [a0.row] [(kp a0).row] := by
 have f := me (kp.eq_1 a0)
 refine soD func282 ntmps282 ?_
 refine MD [2, 3, 4, 5, 0, 1, 6, 7, 8, 9, 10] mixed (by kernel_rfl) (by kernel_rfl) (by kernel_rfl) ?_
 have c1 := sl 2338816 a0.Y3 u0
 simp
 refine rpS ?_
 refine cDs [false] (Kt a0.QL (sg (ZU.Gf u0))) ?_
 exact rtD [.cell 2 43] f
theorem S7 (a0 : ZU) (u0 : Sm 2338816 a0) : Sd 282 [a0.row] [a0.row] := by
  have h := PD a0 u0
  rwa [R4] at h
theorem N1 (a0 : Ze) (u0 : Sm 2338816 a0) : Sd 304 [a0.row] [(Ut a0).row] := by
 have f := me (Ut.eq_1 a0)
 refine soD func304 ntmps304 ?_
 refine cDs [false] (Kt a0.XC (sg (Ze.Bs u0))) ?_
 exact rtD [.cell 2 177] f
theorem Ui (a0 : Ze) (u0 : Sm 2338816 a0) : Sd 304 [a0.row] [a0.row] := by
  have h := N1 a0 u0
  rwa [Mq] at h
theorem Om (a0 : List Ze) (u0 : Sm 2334720 a0) : Sd 252 [rL 3 Ze.row a0] [rL 3 Ze.row (ju a0)] := by
 have f := me (ju.eq_1 a0)
 refine soD func252 ntmps252 ?_
 refine lp2 (qC.eq_2 a0) (fun J U => Yn 19 [(3, .one (.sref 3 0 0 J.length), [.arr true 3 (J.map Ze.row)]), eL 6 3 a0 Ze.row, eI 7 (a0.length : Int), eI 8 (U : Int)]) (fun n1 J U => a0.length < n1 + U /\ U <= a0.length /\ J.length <= 0 + 1 * U) (a0.length + 1) ([] : List Ze) 0 (fun p1 J U e1 j1 => ?_) (h0 := wkS [((3, 0), none)] [])
 refine cFf e1 ?_ ?_ <;> intro k2 h1 e1
 ·have i1 := ix h1
  have m2 := ml a0 (k2 6 _ rfl)
  have c1 := sl 2334720 a0 u0
  have w1 := wr U
  simp [i1, ZD]
  refine rpS ?_
  refine cDs [true, false] (Ui (nth a0 U) (sg (Z3 u0))) ?_
  refine xt ?_
  simp
  refine ql (uG := (J.map Ze.row)) (news := (([(nth a0 U)] : List Ze).map Ze.row)) (l1 := [(3, 0)]) (l2 := [(14, 1)]) (size := 3) ?_
  simp
  exact nx2 e1 (hw := XA [((3, 0), some (16, 0))] [] rfl (by simp [w1]))
 have c2 := sl 2334720 a0 u0
 have f := ms f e1
 exact rtD [.tmp 2] f
theorem Pg (a0 : List Ze) (u0 : Sm 2334720 a0) : Sd 252 [rL 3 Ze.row a0] [rL 3 Ze.row a0] := by
  have h := Om a0 u0
  rwa [NS] at h
theorem O3 (a0 : List Zp) (u0 : Sm 2342912 a0) : Sd 255 [rL 5 Zp.row a0] [rL 5 Zp.row (UH a0)] := by
 have f := me (UH.eq_1 a0)
 have c1 := sl 2342912 a0 u0
 refine soD func255 ntmps255 ?_
 exact rtD [.tmp 2] f
theorem OC (a0 : List Zp) (u0 : Sm 2342912 a0) : Sd 255 [rL 5 Zp.row a0] [rL 5 Zp.row a0] := by
  have h := O3 a0 u0
  rwa [Ng] at h
theorem Pd (a0 : Zb) (u0 : Sm 2338816 a0) : Sd 171 [a0.row] [(Ww a0).row] := by
 have f := me (Ww.eq_1 a0)
 have c1 := sl 2338816 a0.Path u0
 refine soD func171 ntmps171 ?_
 refine cDs [false] (OC a0.Xh (sg (Zb.Da u0))) ?_
 exact rtD [.cell 2 140] f
theorem Wa (a0 : Zb) (u0 : Sm 2338816 a0) : Sd 171 [a0.row] [a0.row] := by
  have h := Pd a0 u0
  rwa [PK] at h
theorem NF (a0 : Zi) (u0 : Sm 2330624 a0) : Sd 166 [a0.row] [(j7 a0).row] := by
 have f := me (j7.eq_1 a0)
 refine soD func166 ntmps166 ?_
 refine cDs [] (Pg a0.ZL (sg (Zi.kG u0))) ?_
 refine lp2 (xn.eq_2 a0) (fun J U => Yn 26 [(2, .one (.bptr 2 0), [.box [.nil 3, .nil 5]]), (3, .one (.bptr 3 0), [.box [.sref 8 0 0 a0.ZL.length, .sref 3 2 0 U.length], .none, .arr true 5 (U.map Zb.row)]), (8, .any, [.arr true 3 (a0.ZL.map Ze.row)]), eL 11 5 a0.Zl Zb.row, eI 12 (a0.Zl.length : Int), eI 13 (J : Int)]) (fun n1 J U => a0.Zl.length < n1 + J /\ J <= a0.Zl.length /\ U.length <= 0 + 1 * J) (a0.Zl.length + 1) 0 ([] : List Zb) (fun p1 J U e1 j1 => ?_) (h0 := wkS [((3, 2), none)] [])
 refine cFf e1 ?_ ?_ <;> intro k2 h1 e1
 ·have i1 := ix h1
  have m2 := ml a0.Zl (k2 11 _ rfl)
  have c1 := sl 2330624 a0.Zl u0
  have w1 := wr J
  simp [i1, ZD]
  refine rpS ?_
  refine drJ [22] mixed ?_
  simp
  refine cDs [true, true, true, false, false] (Wa (nth a0.Zl J) (sg (Z3 (Zi.kP u0)))) ?_
  refine xt ?_
  simp
  refine ql (uG := (U.map Zb.row)) (news := (([(nth a0.Zl J)] : List Zb).map Zb.row)) (l1 := [(3, 2)]) (l2 := [(20, 3), (20, 4)]) (size := 5) ?_
  simp
  exact nx2 e1 (hw := XA [((3, 2), some (22, 0))] [] rfl (by simp [w1]))
 have c2 := sl 2330624 a0.Zl u0
 have f := ms f e1
 exact rtD [.cell 2 68] f
theorem Kf (a0 : Zi) (u0 : Sm 2330624 a0) : Sd 166 [a0.row] [a0.row] := by
  have h := NF a0 u0
  rwa [NT] at h
theorem IN (a0 : ZV) (u0 : Sm 2326528 a0) : Sd 205 [a0.row] [(Sv a0).row] := by
 have f := me (Sv.eq_1 a0)
 refine soD func205 ntmps205 ?_
 refine cDs [true, false, false] (S7 a0.Doc (sg (ZV.kl u0))) ?_
 refine cDs [] (Kf a0.ZJ (sg (ZV.JJ u0))) ?_
 exact rtD [.cell 2 70] f
theorem z6 (a0 : ZV) (u0 : Sm 2326528 a0) : Sd 205 [a0.row] [a0.row] := by
  have h := IN a0 u0
  rwa [Ic] at h
theorem Pj (a0 : ZE) (u0 : Sm 2322432 a0) : Sd 125 [a0.row] [(jF a0).row] := by
 have f := me (jF.eq_1 a0)
 refine soD func125 ntmps125 ?_
 refine lp2 (y8.eq_2 a0) (fun J U => Yn 25 [(2, .one (.bptr 2 0), [.box [.d (.int .i64 0), .nil 16]]), (3, .one (.bptr 3 0), [.box [.d (.int .i64 a0.Id), .sref 3 2 0 U.length], .none, .arr true 16 (U.map ZV.row)]), eL 10 16 a0.ZC ZV.row, eI 11 (a0.ZC.length : Int), eI 12 (J : Int)]) (fun n1 J U => a0.ZC.length < n1 + J /\ J <= a0.ZC.length /\ U.length <= 0 + 1 * J) (a0.ZC.length + 1) 0 ([] : List ZV) (fun p1 J U e1 j1 => ?_) (h0 := wkS [((3, 2), none)] [])
 refine cFf e1 ?_ ?_ <;> intro k2 h1 e1
 ·have i1 := ix h1
  have m2 := ml a0.ZC (k2 10 _ rfl)
  have c1 := sl 2322432 a0.ZC u0
  have w1 := wr J
  simp [i1, ZD]
  refine rpS ?_
  refine drJ [21] mixed ?_
  simp
  refine cDs [true, true, true, false, false] (z6 (nth a0.ZC J) (sg (Z3 (ZE.YM u0)))) ?_
  refine xt ?_
  simp
  refine ql (uG := (U.map ZV.row)) (news := (([(nth a0.ZC J)] : List ZV).map ZV.row)) (l1 := [(3, 2)]) (l2 := [(19, 3), (19, 4), (19, 14), (19, 15)]) (size := 16) ?_
  simp
  exact nx2 e1 (hw := XA [((3, 2), some (21, 0))] [] rfl (by simp [w1]))
 have c2 := sl 2322432 a0.ZC u0
 have f := ms f e1
 exact rtD [.cell 2 73] f
theorem YV (a0 : ZE) (u0 : Sm 2322432 a0) : Sd 125 [a0.row] [a0.row] := by
  have h := Pj a0 u0
  rwa [Py] at h
theorem Mx (a0 : ZG) (u0 : Sm 2318336 a0) : Sd 59 [a0.row] [(Wb a0).row] := by
 have f := me (Wb.eq_1 a0)
 refine soD func59 ntmps59 ?_
 refine dIs mixed ?_
 have c1 := sl 2318336 a0.ZM u0
 refine cDs [false, false, false] (Nc a0.Frame (sg (ZG.Yp u0))) ?_
 refine cDs [false] (Kt a0.Zy (sg (ZG.Cg u0))) ?_
 refine cDs [false] (Kt a0.Yb (sg (ZG.HT u0))) ?_
 refine cDs [false] (Kt a0.YO (sg (ZG.CA u0))) ?_
 refine cDs [false] (Kt a0.YF (sg (ZG.Tu u0))) ?_
 refine lp2 (jH.eq_2 a0) (fun J U => Yn 44 [(2, .one (.bptr 2 0), [.box [.nil 5, .nil 3, .nil 4, .d (.int .i64 0), .d (.int .i64 0), .nil 7, .nil 1, .nil 2, .nil 1, .nil 1, .d (.int .i64 0), .nil 1]]), (3, .one (.bptr 3 0), [.box [.sref 8 0 0 a0.Frame.Zq.length, .sref 8 1 0 a0.Frame.ZF.length, .sref 8 2 0 a0.Frame.Methods.length, .d (.int .i64 a0.Frame.KE), .d (.int .i64 a0.Frame.Now), .sref 12 0 0 a0.ZM.length, .sref 15 0 0 a0.Zy.length, .sref 3 8 0 U.length, .sref 18 0 0 a0.Yb.length, .sref 21 0 0 a0.YO.length, .d (.int .i64 a0.Next), .sref 26 0 0 a0.YF.length], .none, .none, .none, .none, .none, .none, .none, .arr true 2 (U.map ZE.row)]), (8, .any, [.arr false 5 (a0.Frame.Zq.map XD.row), .arr false 3 (a0.Frame.ZF.map Zw.row), .arr false 4 (a0.Frame.Methods.map YE.row)]), (12, .any, [.arr false 7 (a0.ZM.map Yi.row)]), (15, .any, [.arr false 1 (a0.Zy.map iR)]), (18, .any, [.arr false 1 (a0.Yb.map iR)]), (21, .any, [.arr false 1 (a0.YO.map iR)]), (26, .any, [.arr false 1 (a0.YF.map iR)]), eL 29 2 a0.ZA ZE.row, eI 30 (a0.ZA.length : Int), eI 31 (J : Int)]) (fun n1 J U => a0.ZA.length < n1 + J /\ J <= a0.ZA.length /\ U.length <= 0 + 1 * J) (a0.ZA.length + 1) 0 ([] : List ZE) (fun p1 J U e1 j1 => ?_) (h0 := wkS [((3, 8), none)] [])
 refine cFf e1 ?_ ?_ <;> intro k3 h1 e1
 ·have i1 := ix h1
  have m2 := ml a0.ZA (k3 29 _ rfl)
  have c2 := sl 2318336 a0.ZA u0
  have w1 := wr J
  simp [i1, ZD]
  refine rpS ?_
  refine drJ [40] mixed ?_
  simp
  refine cDs [] (YV (nth a0.ZA J) (sg (Z3 (ZG.YA u0)))) ?_
  refine xt ?_
  simp
  refine ql (uG := (U.map ZE.row)) (news := (([(nth a0.ZA J)] : List ZE).map ZE.row)) (l1 := [(3, 8)]) (l2 := [(38, 1)]) (size := 2) ?_
  simp
  exact nx2 e1 (hw := XA [((3, 8), some (40, 0))] [] rfl (by simp [w1]))
 have c3 := sl 2318336 a0.ZA u0
 have f := ms f e1
 exact rtD [.cell 2 33] f
theorem YD (a0 : ZG) (u0 : Sm 2318336 a0) : Sd 59 [a0.row] [a0.row] := by
  have h := Mx a0 u0
  rwa [LS] at h
theorem Zx (a0 : Int) (a1 : Int) (a2 : Int) : Sa 61 [rI a0, rI a1, rI a2] [rB (ZZ a0 a1 a2)] := by
 have f := me (ZZ.eq_1 a0 a1 a2)
 refine so func61 ntmps61 ?_
 exact rt [.tmp 6] f
theorem Ls (a0 : ZG) (a1 : Int) (u0 : Sm 2314240 a0) : Sd 37 [a0.row, rI a1] [(KZ a0 a1).1.row, rB (KZ a0 a1).2] := by
 have f := me (KZ.eq_1 a0 a1)
 refine soD func37 ntmps37 ?_
 refine cDs [false, false, false, true, true, false, false, true, false, false, true, false] (YD a0 (sg u0)) ?_
 refine cRs (Zx a1 0 100) ?_
 refine cFo f ?_ ?_ <;> intro k1 h1 f
 ·have q1 := h1; try simp [ZZ] at q1
  simp
  exact rtD [.cell 4 33, .tmp 5] f
 have q1 := h1; try simp [ZZ] at q1
 simp
 exact rtD [.cell 4 33, .tmp 5] f
theorem KQ (a0 : List XD) (a1 : Int) : Sa 114 [rL 5 XD.row a0, rI a1] [rI (Yq a0 a1)] := by
 have f := me (Yq.eq_1 a0 a1)
 refine so func114 ntmps114 ?_
 refine lp1 (WL.eq_2 a0 a1) (fun J => Yn 20 [eI 1 a1, eL 7 5 a0 XD.row, eI 8 (a0.length : Int), eI 9 (J : Int)]) (fun n1 J => a0.length < n1 + J /\ J <= a0.length) (a0.length + 1) 0 (fun p1 J e1 j1 => ?_)
 refine cFf e1 ?_ ?_ <;> intro k2 h1 e1
 ·have i1 := ix h1
  have m2 := ml a0 (k2 7 _ rfl)
  have w1 := wr J
  simp [i1, ZD]
  refine rpS ?_
  refine cF e1 ?_ ?_ <;> intro k3 h2 e1
  ·have f := ms f e1
   exact rt [.tmp 4] f
  exact ny1 w1 e1
 have f := ms f e1
 exact rt [.tmp 4] f
theorem xB (a0 : List YE) (a1 : Int) : Sa 87 [rL 4 YE.row a0, rI a1] [rI (ZT a0 a1)] := by
 have f := me (ZT.eq_1 a0 a1)
 refine so func87 ntmps87 ?_
 refine lp2 (qA.eq_2 a0 a1) (fun J U => Yn 48 [eL 0 4 a0 YE.row, eI 1 a1, eI 5 J, eL 8 4 a0 YE.row, eI 9 (a0.length : Int), eI 10 (U : Int)]) (fun n1 J U => a0.length < n1 + U /\ U <= a0.length /\ -1 <= J /\ J < (a0.length : Int)) (a0.length + 1) (-1) 0 (fun p1 J U e1 j1 => ?_)
 try dsimp only at j1
 refine cFf e1 ?_ ?_ <;> intro k2 h1 e1
 ·have i1 := ix h1
  have m2 := ml a0 (k2 0 _ rfl)
  have w1 := wr U
  simp [i1, ZD]
  refine rpS ?_
  refine dIs mixed ?_
  refine gIf ?_ ?_ <;> intro G
  ·have i2 := ik J.toNat a0
   simp [i2, ZD, G]
   refine rpG ?_
   refine cK e1 ?_ ?_ <;> intro k4 h2 e1
   ·exact ny2 (an w1 G) e1 (hI := by first | omega | (simp at *; omega))
   ·exact ny2 (an w1 G) e1 (hI := by first | omega | (simp at *; omega))
  ·refine cK e1 ?_ ?_ <;> intro k5 h3 e1
   ·exact ny2 (an w1 G) e1 (hI := by first | omega | (simp at *; omega))
   ·exact ny2 (an w1 G) e1 (hI := by first | omega | (simp at *; omega))
 have f := ms f e1
 refine cFt f ?_ ?_ <;> intro k6 h4 f
 ·exact rt [.tmp 4] f
 have i4 := ik J.toNat a0
 simp [i4, ZD]
 refine rpS ?_
 exact rt [.tmp 4] f
theorem Kn (a0 : ZG) (a1 : Int) : Sa 112 [a0.row, rI a1] [rB (Ya a0 a1)] := by
 have f := me (Ya.eq_1 a0 a1)
 refine so func112 ntmps112 ?_
 refine cRs (Zx a1 0 (W ((a0.ZA.length : Int) - 1))) ?_
 exact rt [.tmp 4] f
theorem Uf (a0 : ZU) : Sa 173 [a0.row] [rB (yf a0)] := by
 have f := me (yf.eq_1 a0)
 refine so func173 ntmps173 ?_
 refine cRs (Zx a0.jL 0 999) ?_
 refine cGs (fun gg => (Zx (a0.Y3.length : Int) 1 6)) ?_
 refine cFo f ?_ ?_ <;> intro k1 h1 f
 ·have q1 := h1; try simp [ZZ] at q1
  simp
  exact rt [.tmp 2] f
 have q1 := h1; try simp [ZZ] at q1
 simp
 refine lp1 (qE.eq_2 a0) (fun J => Yn 46 [eX 1 (a0.row.map .d), eL 26 1 a0.Y3 sR, eI 27 (a0.Y3.length : Int), eI 28 (J : Int)]) (fun n1 J => a0.Y3.length < n1 + J /\ J <= a0.Y3.length) (a0.Y3.length + 1) 0 (fun p1 J e1 j1 => ?_)
 refine cFf e1 ?_ ?_ <;> intro k3 h2 e1
 ·have i1 := ix h2
  have m2 := ml a0.Y3 (k3 26 _ rfl)
  have w1 := wr J
  simp [i1, ZD]
  refine rpS ?_
  refine gIf ?_ ?_ <;> intro G
  ·have i2 := ik J a0.QL
   simp [i2, ZD, G]
   refine rpG ?_
   refine cGg (fun gg => (Zx (nth a0.QL J) 1 1000000000000)) ?_
   refine cKo e1 ?_ ?_ <;> intro k4 h3 e1
   ·have q3 := h3; try simp [ZZ] at q3
    have f := ms f e1
    simp [G]
    refine rpG ?_
    exact rtg [.tmp 2] f
   ·have q3 := h3; try simp [ZZ] at q3
    simp [G]
    refine rpG ?_
    exact ny1 (an w1 G) e1
  ·refine sGo ?_
   simp [G]
   refine rpG ?_
   refine cKo e1 ?_ ?_ <;> intro k5 h4 e1
   ·have q4 := h4; try simp [ZZ] at q4
    have f := ms f e1
    simp [G]
    refine rpG ?_
    exact rtg [.tmp 2] f
   ·simp [G] at h4
 have f := ms f e1
 exact rt [.tmp 2] f
theorem Hi (a0 : List UInt8) (u0 : Sm 2342912 a0) : Sd 257 [rL 1 bR a0] [rL 1 iR (j9 a0)] := by
 have f := me (j9.eq_1 a0)
 refine soD func257 ntmps257 ?_
 refine lp2 (jT.eq_2 a0) (fun J U => Yn 19 [(3, .one (.sref 3 0 0 J.length), [.arr false 1 (J.map iR)]), eL 6 1 a0 bR, eI 7 (a0.length : Int), eI 8 (U : Int)]) (fun n1 J U => a0.length < n1 + U /\ U <= a0.length /\ J.length <= 0 + 1 * U) (a0.length + 1) ([] : List Int) 0 (fun p1 J U e1 j1 => ?_) (h0 := wkS [((3, 0), none)] [])
 refine cFf e1 ?_ ?_ <;> intro k2 h1 e1
 ·have i1 := ix h1
  have m2 := ml a0 (k2 6 _ rfl)
  have c1 := sl 2342912 a0 u0
  have w1 := wr U
  simp [i1, ZD]
  refine rpS ?_
  exact nx2 e1 (hw := XA [((3, 0), some (16, 0))] [] rfl (by simp [w1]))
 have c2 := sl 2342912 a0 u0
 have f := ms f e1
 exact rtD [.tmp 2] f
theorem Ce (a0 : Int) (a1 : Int) : Sa 317 [rI a0, rI a1] [rI (BD a0 a1)] := by
 have f := me (BD.eq_1 a0 a1)
 refine so func317 ntmps317 ?_
 refine cRs (Zx a1 1 1000000000000) ?_
 refine cFo f ?_ ?_ <;> intro k1 h1 f
 ·have q1 := h1; try simp [ZZ] at q1
  simp
  exact rt [.tmp 4] f
 have q1 := h1; try simp [ZZ] at q1
 simp
 refine rpS ?_
 exact rt [.tmp 4] f
theorem Iv (a0 : List Int) : Sa 258 [rL 1 iR a0] [rI (Hw a0)] := by
 have f := me (Hw.eq_1 a0)
 refine so func258 ntmps258 ?_
 refine lp2 (Ml.eq_2 a0) (fun J U => Yn 21 [eI 3 J, eL 6 1 a0 iR, eI 7 (a0.length : Int), eI 8 (U : Int)]) (fun n1 J U => a0.length < n1 + U /\ U <= a0.length) (a0.length + 1) 11 0 (fun p1 J U e1 j1 => ?_)
 refine cFf e1 ?_ ?_ <;> intro k2 h1 e1
 ·have i1 := ix h1
  have m2 := ml a0 (k2 6 _ rfl)
  have w1 := wr U
  simp [i1, ZD]
  refine rpS ?_
  refine cRs (Ce (nth a0 U) 2147483647) ?_
  exact ny2 w1 e1
 have f := ms f e1
 exact rt [.tmp 2] f
theorem Je (a0 : Int) (a1 : List Int) (u0 : Sm 68719476736 a1) : Sa 175 [rI a0, rL 1 iR a1] [rI (Ka a0 a1)] := by
 have f := me (Ka.eq_1 a0 a1)
 have c1 := sl 68719476736 a1 u0
 refine so func175 ntmps175 ?_
 refine cRs (Iv (([7, a0] : List Int) ++ a1)) ?_
 exact rt [.tmp 4] f
theorem Oo (a0 : Int) (a1 : ByteArray) (a2 : Int) (u0 : Sm 2326528 a1) : Sa 174 [rI a0, rS a1, rI a2] [rI (Vx a0 a1 a2)] := by
 have f := me (Vx.eq_1 a0 a1 a2)
 refine so func174 ntmps174 ?_
 have c1 : a1.size <= 2326528 := H7 (xs u0)
 refine BK (s := a1) rfl rfl rfl (by simp) (by simp) (by simp) (by simp) (by omega) ?_
 simp
 refine cRs (YR.rd (Hi a1.data.toList (by simp [Yx]; first | omega | (simp [ByteArray.size] at *; omega)))) ?_
 refine cRs (Je a0 (([a2] : List Int) ++ (j9 a1.data.toList)) (by simp (maxDischargeDepth := 12) [Jl, Yx, ZN (m := 68719476736) (by decide) u0]; try omega)) ?_
 exact rt [.tmp 6] f
theorem xg (a0 : Int) (a1 : ZU) (u0 : Sm 2322432 a1) : Sa 92 [rI a0, a1.row] [rI (Yo a0 a1)] := by
 have f := me (Yo.eq_1 a0 a1)
 refine so func92 ntmps92 ?_
 refine cRs (Uf a1) ?_
 refine cF f ?_ ?_ <;> intro k1 h1 f
 ·exact rt [.tmp 4] f
 refine lp2 (VB.eq_2 a0 a1) (fun J U => Yn 37 [eI 0 a0, eX 3 (a1.row.map .d), (5, .one (.sref 5 0 0 J.length), [.arr false 1 (J.map iR)]), eL 15 1 a1.Y3 sR, eI 16 (a1.Y3.length : Int), eI 17 (U : Int)]) (fun n1 J U => a1.Y3.length < n1 + U /\ U <= a1.Y3.length /\ J.length <= 1 + 1 * U) (a1.Y3.length + 1) ([a1.jL] : List Int) 0 (fun p1 J U e1 j1 => ?_) (h0 := wkS [((5, 0), some (13, 0))] [])
 try dsimp only at j1
 refine cFf e1 ?_ ?_ <;> intro k3 h2 e1
 ·have i1 := ix h2
  have m2 := ml a1.Y3 (k3 15 _ rfl)
  have c1 := sl 2322432 a1.Y3 u0
  have w1 := wr U
  have i2 : U < a1.QL.length := by (have := Pa (a := a1); first | (simp_all; done) | (simp_all; omega))
  simp [i1, ZD, i2]
  refine rpS ?_
  refine cRs (Oo a0 (nth a1.Y3 U) (nth a1.QL U) (sg (Z3 (ZU.Ld u0)))) ?_
  exact nx2 e1 (hw := XA [((5, 0), some (32, 0))] [] rfl (by simp [w1]))
 have c2 := sl 2322432 a1.Y3 u0
 have f := ms f e1
 refine cRs (Je a0 J (by first | (simp (maxDischargeDepth := 12) [Yx]; omega) | (simp (maxDischargeDepth := 12) [ZN (m := 68719476736) (by decide) u0]; done))) ?_
 exact rt [.tmp 4] f
theorem kR (a0 : Zv) : Sd 293 [a0.row] [rL 1 iR (QC a0)] := by
 have f := me (QC.eq_1 a0)
 refine soD func293 ntmps293 ?_
 exact rtD [.tmp 2] f
theorem ML (a0 : Int) (a1 : List Int) (u0 : Sm 2330624 a1) : Sa 316 [rI a0, rL 1 iR a1] [rI (TA a0 a1)] := by
 have f := me (TA.eq_1 a0 a1)
 have c1 := sl 2330624 a1 u0
 refine so func316 ntmps316 ?_
 refine cRs (Iv ((([a0] : List Int) ++ a1) ++ ([a0] : List Int))) ?_
 exact rt [.tmp 4] f
theorem L1 (a0 : XD) (a1 : List Int) (u0 : Sm 2326528 a1) : Sa 254 [a0.row, rL 1 iR a1] [rI (RF a0 a1)] := by
 have f := me (RF.eq_1 a0 a1)
 refine so func254 ntmps254 ?_
 refine MD [2, 3, 4, 5, 6, 0, 1, 7, 8] mixed (by kernel_rfl) (by kernel_rfl) (by kernel_rfl) ?_
 have c1 := sl 2326528 a1 u0
 simp
 refine rpS ?_
 refine cRs (ML a0.ja (([a0.Method] : List Int) ++ a1) (by simp (maxDischargeDepth := 12) [Jl, Yx, ZN (m := 2330624) (by decide) u0]; try omega)) ?_
 exact rt [.tmp 4] f
theorem Wj (a0 : List XD) (a1 : Int) (a2 : List Int) (u0 : Sm 2322432 a0) (u1 : Sm 2322432 a2) : Sa 169 [rL 5 XD.row a0, rI a1, rL 1 iR a2] [rI (zz a0 a1 a2).1, rB (zz a0 a1 a2).2] := by
 have f := me (zz.eq_1 a0 a1 a2)
 refine so func169 ntmps169 ?_
 refine cRs (KQ a0 a1) ?_
 refine cFt f ?_ ?_ <;> intro k1 h1 f
 ·exact rt [.tmp 6, .tmp 7] f
 have i1 : (Yq a0 a1).toNat < a0.length := by have := yV a0 a1; exact il
 simp [i1, ZD]
 refine rpS ?_
 refine cRs (L1 (nth a0 (Yq a0 a1).toNat) a2 (sg u1)) ?_
 exact rt [.tmp 6, .tmp 7] f
theorem PI (a0 : Zv) : Sa 240 [a0.row] [rB (W5 a0)] := by
 have f := me (W5.eq_1 a0)
 refine so func240 ntmps240 ?_
 refine cRs (Zx a0.Key 1 99) ?_
 refine cGs (fun gg => (Zx a0.ZQ 1 999)) ?_
 refine cGs (fun gg => (Zx a0.Method 0 99)) ?_
 refine cGs (fun gg => (Zx a0.Org 0 99)) ?_
 refine cGs (fun gg => (Zx a0.xI 1 3)) ?_
 refine cGs (fun gg => (Zx a0.XJ 0 1000000000000)) ?_
 refine cGs (fun gg => (Zx a0.xL 0 1000000000000)) ?_
 refine cGs (fun gg => (Zx a0.km 0 1000000000000)) ?_
 exact rt [.tmp 2] f
theorem On (a0 : List XD) (a1 : Zv) (u0 : Sm 2318336 a0) : Sa 227 [rL 5 XD.row a0, a1.row] [(Y8 a0 a1).1.row, rB (Y8 a0 a1).2] := by
 have f := me (Y8.eq_1 a0 a1)
 refine so func227 ntmps227 ?_
 refine dIs mixed ?_
 refine cRs (YR.rd (kR a1)) ?_
 refine cRs (Wj a0 a1.Key (QC a1) (sg u0) (by simp (maxDischargeDepth := 12) [WE, ZN (m := 2322432) (by decide) u0]; try omega)) ?_
 refine cRs (PI a1) ?_
 refine cF f ?_ ?_ <;> intro k2 h1 f
 ·exact rt [.cell 4 64, .tmp 5] f
 exact rt [.cell 4 64, .tmp 5] f
theorem TY (a0 : Zv) : Sd 222 [a0.row] [(Qo a0).row] := by
 have f := me (Qo.eq_1 a0)
 refine soD func222 ntmps222 ?_
 refine dIs mixed ?_
 refine cDs [false] (kR a0) ?_
 exact rtD [.cell 2 177] f
theorem SE (a0 : Yi) : Sd 149 [a0.row] [rL 1 iR (z5 a0)] := by
 have f := me (z5.eq_1 a0)
 refine soD func149 ntmps149 ?_
 exact rtD [.tmp 2] f
theorem MQ (a0 : Yi) : Sd 228 [a0.row] [(Ja a0).row] := by
 have f := me (Ja.eq_1 a0)
 refine soD func228 ntmps228 ?_
 refine dIs mixed ?_
 refine cDs [false] (SE a0) ?_
 exact rtD [.cell 2 177] f
theorem yv (a0 : ZE) (a1 : Int) : Sa 84 [a0.row, rI a1] [rI (Za a0 a1)] := by
 have f := me (Za.eq_1 a0 a1)
 refine so func84 ntmps84 ?_
 refine lp1 (xq.eq_2 a0 a1) (fun J => Yn 21 [eI 1 a1, eL 8 16 a0.ZC ZV.row, eI 9 (a0.ZC.length : Int), eI 10 (J : Int)]) (fun n1 J => a0.ZC.length < n1 + J /\ J <= a0.ZC.length) (a0.ZC.length + 1) 0 (fun p1 J e1 j1 => ?_)
 refine cFf e1 ?_ ?_ <;> intro k2 h1 e1
 ·have i1 := ix h1
  have m2 := ml a0.ZC (k2 8 _ rfl)
  have w1 := wr J
  simp [i1, ZD]
  refine rpS ?_
  refine cF e1 ?_ ?_ <;> intro k3 h2 e1
  ·have f := ms f e1
   exact rt [.tmp 4] f
  exact ny1 w1 e1
 have f := ms f e1
 exact rt [.tmp 4] f
theorem Ky (a0 : Int) : Sa 146 [rI a0] [rB (zP a0)] := by
 have f := me (zP.eq_1 a0)
 refine so func146 ntmps146 ?_
 refine cRs (Zx a0 0 10000) ?_
 exact rt [.tmp 2] f
theorem Kh (a0 : List Int) (a1 : List Int) : Sa 69 [rL 1 iR a0, rL 1 iR a1] [rB (J8 a0 a1)] := by
 have f := me (J8.eq_1 a0 a1)
 refine so func69 ntmps69 ?_
 refine cF f ?_ ?_ <;> intro k1 h1 f
 ·exact rt [.tmp 4] f
 refine lp1 (qu.eq_2 a0 a1) (fun J => Yn 26 [eL 0 1 a0 iR, eL 1 1 a1 iR, eI 12 (a0.length : Int), eI 13 (J : Int)]) (fun n1 J => a0.length < n1 + J /\ J <= a0.length) (a0.length + 1) 0 (fun p1 J e1 j1 => ?_)
 refine cF e1 ?_ ?_ <;> intro k3 h2 e1
 ·have i1 := ix h2
  have m2 := ml a0 (k3 0 _ rfl)
  have w1 := wr J
  refine dIo mixed ?_
  have i2 := ik J a1
  simp [i1, ZD, i2]
  refine rpS ?_
  refine cF e1 ?_ ?_ <;> intro k5 h3 e1
  ·have f := ms f e1
   exact rt [.tmp 4] f
  exact ny1 w1 e1
 have f := ms f e1
 exact rt [.tmp 4] f
theorem qS (a0 : Ze) (a1 : Ze) : Sa 221 [a0.row, a1.row] [rB (Jg a0 a1)] := by
 have f := me (Jg.eq_1 a0 a1)
 refine so func221 ntmps221 ?_
 refine cGs (fun gg => (Kh a0.XC a1.XC)) ?_
 exact rt [.tmp 4] f
theorem Ln (a0 : List Ze) (a1 : Ze) : Sa 256 [rL 3 Ze.row a0, a1.row] [rB (Sf a0 a1)] := by
 have f := me (Sf.eq_1 a0 a1)
 refine so func256 ntmps256 ?_
 refine lp1 (Vv.eq_2 a0 a1) (fun J => Yn 17 [eX 3 (a1.row.map .d), eL 7 3 a0 Ze.row, eI 8 (a0.length : Int), eI 9 (J : Int)]) (fun n1 J => a0.length < n1 + J /\ J <= a0.length) (a0.length + 1) 0 (fun p1 J e1 j1 => ?_)
 refine cFf e1 ?_ ?_ <;> intro k2 h1 e1
 ·have i1 := ix h1
  have m2 := ml a0 (k2 7 _ rfl)
  have w1 := wr J
  simp [i1, ZD]
  refine rpS ?_
  refine cRs (qS (nth a0 J) a1) ?_
  refine cF e1 ?_ ?_ <;> intro k3 h2 e1
  ·have f := ms f e1
   exact rt [.tmp 4] f
  exact ny1 w1 e1
 have f := ms f e1
 exact rt [.tmp 4] f
theorem VD (a0 : Zi) : Sa 172 [a0.row] [rB (Qe a0)] := by
 have f := me (Qe.eq_1 a0)
 refine so func172 ntmps172 ?_
 refine cRs (Zx (a0.ZL.length : Int) 1 12) ?_
 refine cFo f ?_ ?_ <;> intro k1 h1 f
 ·have q1 := h1; try simp [ZZ] at q1
  simp
  exact rt [.tmp 2] f
 have q1 := h1; try simp [ZZ] at q1
 simp
 refine lp1 (jq.eq_2 a0) (fun J => Yn 65 [eX 1 (a0.row.map .d), eL 19 3 a0.ZL Ze.row, eI 20 (a0.ZL.length : Int), eI 21 (J : Int)]) (fun n1 J => a0.ZL.length < n1 + J /\ J <= a0.ZL.length) (a0.ZL.length + 1) 0 (fun p1 J e1 j1 => ?_)
 refine cFf e1 ?_ ?_ <;> intro k3 h2 e1
 ·have i1 := ix h2
  have m2 := ml a0.ZL (k3 19 _ rfl)
  have w1 := wr J
  simp [i1, ZD]
  refine rpS ?_
  refine dIs mixed ?_
  refine cRs (Ln (a0.ZL.take J) (nth a0.ZL J)) ?_
  refine cF e1 ?_ ?_ <;> intro k5 h3 e1
  ·have f := ms f e1
   exact rt [.tmp 2] f
  exact ny1 w1 e1
 have f := ms f e1
 refine lp1 (j6.eq_2 a0) (fun uI => Yn 65 [eX 1 (a0.row.map .d), eL 34 5 a0.Zl Zb.row, eI 35 (a0.Zl.length : Int), eI 36 (uI : Int)]) (fun n2 uI => a0.Zl.length < n2 + uI /\ uI <= a0.Zl.length) (a0.Zl.length + 1) 0 (fun p2 uI e2 j2 => ?_)
 refine cFf e2 ?_ ?_ <;> intro k7 h4 e2
 ·have i2 := ix h4
  have m4 := ml a0.Zl (k7 34 _ rfl)
  have w2 := wr uI
  simp [i2, ZD]
  refine rpS ?_
  refine dIs mixed ?_
  refine cRs (Zx (nth a0.Zl uI).Count 1 (a0.ZL.length : Int)) ?_
  refine gIf ?_ ?_ <;> intro G
  ·have i3 := ik (uI - 1) a0.Zl
   have w3 : IntKind.i64.wrap ((uI : Int) - 1) = (uI : Int) - 1 := Yg (by omega) (by omega)
   simp [i3, ZD, w3, KY, G]
   refine rpG ?_
   refine cKo e2 ?_ ?_ <;> intro k9 h5 e2
   ·have q5 := h5; try simp [ZZ] at q5
    have f := ms f e2
    simp [G]
    refine rpG ?_
    exact rtg [.tmp 2] f
   ·have q5 := h5; try simp [ZZ] at q5
    simp [G]
    refine rpG ?_
    exact ny1 (an w2 (an w3 G)) e2
  ·refine cKo e2 ?_ ?_ <;> intro ox h6 e2
   ·have q6 := h6; try simp [ZZ] at q6
    have f := ms f e2
    simp [G]
    refine rpG ?_
    exact rtg [.tmp 2] f
   ·have q6 := h6; try simp [ZZ] at q6
    simp [G]
    refine rpG ?_
    exact ny1 (an w2 G) e2
 have f := ms f e2
 exact rt [.tmp 2] f
theorem Od (a0 : ZV) : Sa 151 [a0.row] [rB (KG a0)] := by
 have f := me (KG.eq_1 a0)
 refine so func151 ntmps151 ?_
 refine dIs mixed ?_
 refine cRs (Zx a0.Id 1 999) ?_
 refine cGs (fun gg => (Ky a0.Yr)) ?_
 refine cGs (fun gg => (Uf a0.Doc)) ?_
 refine cGs (fun gg => (VD a0.ZJ)) ?_
 refine gIf ?_ ?_ <;> intro G
 ·have sj := G
  have g1 := G; try simp [ZZ] at g1
  have i1 : 0 < a0.ZJ.ZL.length := by have := LN (a := a0.ZJ); simp_all
  simp [i1, ZD, G]
  refine rpG ?_
  refine cGg (fun gg => YR.rd (TY a0.Sig)) ?_
  refine cGg (fun gg => (qS (nth a0.ZJ.ZL 0) (Qo a0.Sig))) ?_
  exact rtg [.tmp 2] f
 ·have sj := G
  refine sGo ?_
  simp [G]
  refine rpG ?_
  refine sGo ?_
  simp [G]
  refine rpG ?_
  exact rtg [.tmp 2] f
theorem Kj (a0 : ZE) : Sa 65 [a0.row] [rB (YX a0)] := by
 have f := me (YX.eq_1 a0)
 refine so func65 ntmps65 ?_
 refine lp1 (jD.eq_2 a0) (fun J => Yn 42 [eX 1 (a0.row.map .d), eL 6 16 a0.ZC ZV.row, eI 7 (a0.ZC.length : Int), eI 8 (J : Int)]) (fun n1 J => a0.ZC.length < n1 + J /\ J <= a0.ZC.length) (a0.ZC.length + 1) 0 (fun p1 J e1 j1 => ?_)
 refine cFf e1 ?_ ?_ <;> intro k2 h1 e1
 ·have i1 := ix h1
  have m2 := ml a0.ZC (k2 6 _ rfl)
  have w1 := wr J
  simp [i1, ZD]
  refine rpS ?_
  refine dIs mixed ?_
  refine cRs (Od (nth a0.ZC J)) ?_
  refine gIf ?_ ?_ <;> intro G
  ·have i2 := ik (J - 1) a0.ZC
   have w2 : IntKind.i64.wrap ((J : Int) - 1) = (J : Int) - 1 := Yg (by omega) (by omega)
   simp [i2, ZD, w2, KY, G]
   refine rpG ?_
   refine cK e1 ?_ ?_ <;> intro k4 h2 e1
   ·have f := ms f e1
    exact rtg [.tmp 2] f
   ·exact ny1 (an w1 (an w2 G)) e1
  ·refine cK e1 ?_ ?_ <;> intro k5 h3 e1
   ·have f := ms f e1
    exact rtg [.tmp 2] f
   ·exact ny1 (an w1 G) e1
 have f := ms f e1
 refine cRs (Zx a0.Id 0 99) ?_
 exact rt [.tmp 2] f
theorem R3 (a0 : ZE) (a1 : ZV) (u0 : Sm 2318336 a0) (u1 : Sm 2318336 a1) : Sd 229 [a0.row, a1.row] [(Yd a0 a1).1.row, rB (Yd a0 a1).2] := by
 have f := me (Yd.eq_1 a0 a1)
 refine soD func229 ntmps229 ?_
 refine cRs (yv a0 a1.Id) ?_
 refine cGs (fun gg => (Kj a0)) ?_
 refine cF f ?_ ?_ <;> intro k1 h1 f
 ·refine cDs [] (YV a0 (sg u0)) ?_
  exact rtD [.cell 4 73, .tmp 5] f
 refine cDs [] (YV a0 (sg u0)) ?_
 refine lp1 (jW.eq_2 a0 a1) (fun J => Yn 62 [eX 2 (a0.row.map .d), eX 3 (a1.row.map .d), (4, .one (.bptr 4 0), [.box [.d (.int .i64 0), .nil 16]]), (6, .one (.bptr 6 0), [.box [.d (.int .i64 a0.Id), .sref 21 1 0 a0.ZC.length]]), eI 7 (J : Int), (21, .any, [.none, .arr true 16 (a0.ZC.map ZV.row)])]) (fun n1 J => a0.ZC.length < n1 + J /\ J <= a0.ZC.length) (a0.ZC.length + 1) 0 (fun p1 J e1 j1 => ?_)
 refine dIs mixed ?_
 refine gIf ?_ ?_ <;> intro G
 ·have i1 := ik J a0.ZC
  simp [i1, ZD, G]
  refine rpG ?_
  refine cK e1 ?_ ?_ <;> intro k4 h2 e1
  ·try (simp [G] at h2; done)
   all_goals
    have i2 : J < a0.ZC.length := by (simp at h2; omega)
    have m2 := ml a0.ZC (k4 24 _ rfl)
    have c1 := sl 2318336 a0.ZC (an u0 u1)
    have w1 := wr J
    exact ny1 (an w1 G) e1
  ·try (simp [G] at h2; done)
   all_goals
    have c2 := sl 2318336 a0.ZC (an u0 u1)
    have f := ms f e1
    refine El [(3, 3), (6, 6), (41, 6), (50, 6), (55, 6)] [] [45, 49, 54] mixed (by kernel_rfl) (by kernel_rfl) (by kernel_rfl) (by kernel_rfl) (by kernel_rfl) (by kernel_rfl) (by kernel_rfl) ?_
    simp [G]
    refine rpG ?_
    refine xt ?_
    simp [G]
    refine rpG ?_
    refine Bo (uG := (([] : List ZV).map ZV.row)) (rows := (a0.ZC.map ZV.row)) (news := ((a0.ZC.take J).map ZV.row)) (l1 := [(40, 0)]) (size := 16) (u := 21) (j := 1) (lo := 0) (n := J) rfl rfl rfl rfl (by simp) (by simp) (by simp) (by simp) (by simp) (by simp) (by first | omega | (simp; omega)) (by simp [cut]) (by simp) (by first | omega | (simp; omega)) ?_
    simp [G]
    refine rpG ?_
    refine cDg [true, true, true, false, false] (z6 a1 (sg u1)) ?_
    refine xt ?_
    have c3 := sl 2318336 (a0.ZC.take J) (an u0 u1)
    simp [G]
    refine rpG ?_
    refine ql (uG := ((a0.ZC.take J).map ZV.row)) (news := (([a1] : List ZV).map ZV.row)) (l1 := [(45, 0)]) (l2 := [(47, 3), (47, 4), (47, 14), (47, 15)]) (size := 16) ?_
    simp [G]
    refine rpG ?_
    refine Bo (uG := (((a0.ZC.take J) ++ ([a1] : List ZV)).map ZV.row)) (rows := (Qd (a0.ZC.map ZV.row) 0 J)) (news := ((a0.ZC.drop J).map ZV.row)) (l1 := [(49, 0)]) (size := 16) (u := 21) (j := 1) (lo := J) (n := (a0.ZC.length - J)) rfl rfl rfl rfl (by simp) (by simp) (by simp) (by simp) (by simp) (by simp) (by rw [zy (by first | omega | (simp; omega))]; first | omega | (simp; omega)) ((OX (by first | omega | (simp; omega)) (by first | omega | (simp; omega))).trans (Ur _ _ _)) (by simp) (by first | omega | (simp; omega)) ?_
    simp [G]
    refine rpG ?_
    refine cRg (Kj (ZE.mk a0.Id (((a0.ZC.take J) ++ ([a1] : List ZV)) ++ (a0.ZC.drop J)))) ?_
    refine cK f ?_ ?_ <;> intro k6 h3 f
    ·try (simp [G] at h3; done)
     all_goals
      refine cDg [] (YV a0 (sg u0)) ?_
      exact Xx [.cell 4 73, .tmp 5] f
    ·try (simp [G] at h3; done)
     all_goals
      exact Xx [.cell 4 73, .tmp 5] f
 ·refine cK e1 ?_ ?_ <;> intro k7 h4 e1
  ·try (simp [G] at h4; done)
   all_goals
    have i4 : J < a0.ZC.length := by (simp at h4; omega)
    have m4 := ml a0.ZC (k7 24 _ rfl)
    have c4 := sl 2318336 a0.ZC (an u0 u1)
    have w2 := wr J
    exact ny1 (an w2 G) e1
  ·try (simp [G] at h4; done)
   all_goals
    have c5 := sl 2318336 a0.ZC (an u0 u1)
    have f := ms f e1
    refine El [(3, 3), (6, 6), (41, 6), (50, 6), (55, 6)] [] [45, 49, 54] mixed (by kernel_rfl) (by kernel_rfl) (by kernel_rfl) (by kernel_rfl) (by kernel_rfl) (by kernel_rfl) (by kernel_rfl) ?_
    simp [G]
    refine rpG ?_
    refine xt ?_
    simp [G]
    refine rpG ?_
    refine Bo (uG := (([] : List ZV).map ZV.row)) (rows := (a0.ZC.map ZV.row)) (news := ((a0.ZC.take J).map ZV.row)) (l1 := [(40, 0)]) (size := 16) (u := 21) (j := 1) (lo := 0) (n := J) rfl rfl rfl rfl (by simp) (by simp) (by simp) (by simp) (by simp) (by simp) (by first | omega | (simp; omega)) (by simp [cut]) (by simp) (by first | omega | (simp; omega)) ?_
    simp [G]
    refine rpG ?_
    refine cDg [true, true, true, false, false] (z6 a1 (sg u1)) ?_
    refine xt ?_
    have c6 := sl 2318336 (a0.ZC.take J) (an u0 u1)
    simp [G]
    refine rpG ?_
    refine ql (uG := ((a0.ZC.take J).map ZV.row)) (news := (([a1] : List ZV).map ZV.row)) (l1 := [(45, 0)]) (l2 := [(47, 3), (47, 4), (47, 14), (47, 15)]) (size := 16) ?_
    simp [G]
    refine rpG ?_
    refine Bo (uG := (((a0.ZC.take J) ++ ([a1] : List ZV)).map ZV.row)) (rows := (Qd (a0.ZC.map ZV.row) 0 J)) (news := ((a0.ZC.drop J).map ZV.row)) (l1 := [(49, 0)]) (size := 16) (u := 21) (j := 1) (lo := J) (n := (a0.ZC.length - J)) rfl rfl rfl rfl (by simp) (by simp) (by simp) (by simp) (by simp) (by simp) (by rw [zy (by first | omega | (simp; omega))]; first | omega | (simp; omega)) ((OX (by first | omega | (simp; omega)) (by first | omega | (simp; omega))).trans (Ur _ _ _)) (by simp) (by first | omega | (simp; omega)) ?_
    simp [G]
    refine rpG ?_
    refine cRg (Kj (ZE.mk a0.Id (((a0.ZC.take J) ++ ([a1] : List ZV)) ++ (a0.ZC.drop J)))) ?_
    refine cK f ?_ ?_ <;> intro k9 h5 f
    ·try (simp [G] at h5; done)
     all_goals
      refine cDg [] (YV a0 (sg u0)) ?_
      exact Xx [.cell 4 73, .tmp 5] f
    ·try (simp [G] at h5; done)
     all_goals
      exact Xx [.cell 4 73, .tmp 5] f
theorem Wz (a0 : ZG) (a1 : Int) (a2 : Int) (a3 : ZU) (a4 : Int) (a5 : Int) (u0 : Sm 2314240 a0) (u1 : Sm 2314240 a3) : Sa 155 [a0.row, rI a1, rI a2, a3.row, rI a4, rI a5] [(Yt a0 a1 a2 a3 a4 a5).1.row, rB (Yt a0 a1 a2 a3 a4 a5).2] := by
 have f := me (Yt.eq_1 a0 a1 a2 a3 a4 a5)
 refine so func155 ntmps155 ?_
 refine cRs (xB a0.Frame.Methods a0.Frame.Now) ?_
 refine cRs (Kn a0 a1) ?_
 refine cGs (fun gg => (KQ a0.Frame.Zq a2)) ?_
 have c1 := sl 2314240 a0.ZA (an u0 u1)
 have w1 : IntKind.i64.wrap ((a0.ZA.length : Int) - 1) = (a0.ZA.length : Int) - 1 := Yg (by omega) (by omega)
 refine cFo f ?_ ?_ <;> intro k1 h1 f
 ·have q1 := h1; try simp [w1, Ya, ZZ] at q1
  simp
  exact rt [.cell 12 33, .tmp 13] f
 have q1 := h1; try simp [w1, Ya, ZZ] at q1
 simp
 refine lp1 (QE.eq_2 a0 a1 a2 a3 a4 a5) (fun J => Yn 116 [eI 1 a1, eI 2 a2, eI 4 a4, eI 5 a5, eX 6 (a0.row.map .d), eX 9 (a3.row.map .d), (12, .one (.bptr 12 0), [.box [.nil 5, .nil 3, .nil 4, .d (.int .i64 0), .d (.int .i64 0), .nil 7, .nil 1, .nil 2, .nil 1, .nil 1, .d (.int .i64 0), .nil 1]]), eX 14 (a0.Frame.row.map .d), eI 15 (ZT a0.Frame.Methods a0.Frame.Now), eL 48 7 a0.ZM Yi.row, eI 49 (a0.ZM.length : Int), eI 50 (J : Int)]) (fun n1 J => a0.ZM.length < n1 + J /\ J <= a0.ZM.length) (a0.ZM.length + 1) 0 (fun p1 J e1 j1 => ?_)
 refine cFf e1 ?_ ?_ <;> intro k3 h2 e1
 ·have i1 := ix h2
  have m2 := ml a0.ZM (k3 48 _ rfl)
  have c2 := sl 2314240 a0.ZM (an u0 u1)
  have w2 := wr J
  simp [i1, ZD]
  refine rpS ?_
  refine cF e1 ?_ ?_ <;> intro k4 h3 e1
  ·exact ny1 (an w1 w2) e1
  refine dIs mixed ?_
  refine cRs (xg (ZT a0.Frame.Methods a0.Frame.Now) a3 (sg u1)) ?_
  refine cRs (On a0.Frame.Zq (Zv.mk a2 (nth a0.ZM J).ZQ (ZT a0.Frame.Methods a0.Frame.Now) (Yo (ZT a0.Frame.Methods a0.Frame.Now) a3) 1 a4 0 0 0) (sg (Zu.JK (ZG.Yp u0)))) ?_
  refine dIs mixed ?_
  refine cRs (YR.rd (TY (Y8 a0.Frame.Zq (Zv.mk a2 (nth a0.ZM J).ZQ (ZT a0.Frame.Methods a0.Frame.Now) (Yo (ZT a0.Frame.Methods a0.Frame.Now) a3) 1 a4 0 0 0)).1)) ?_
  refine cRs (YR.rd (MQ (nth a0.ZM J))) ?_
  refine eIs ?_
  refine dIo mixed ?_
  have i2 := ik a1.toNat a0.ZA
  simp [i2, ZD]
  refine rpS ?_
  refine cDs [] (R3 (nth a0.ZA a1.toNat) (ZV.mk a0.Next a5 a3 (Y8 a0.Frame.Zq (Zv.mk a2 (nth a0.ZM J).ZQ (ZT a0.Frame.Methods a0.Frame.Now) (Yo (ZT a0.Frame.Methods a0.Frame.Now) a3) 1 a4 0 0 0)).1 (Zi.mk ([(Qo (Y8 a0.Frame.Zq (Zv.mk a2 (nth a0.ZM J).ZQ (ZT a0.Frame.Methods a0.Frame.Now) (Yo (ZT a0.Frame.Methods a0.Frame.Now) a3) 1 a4 0 0 0)).1), (Ja (nth a0.ZM J))] : List Ze) ([] : List Zb))) (sg (Z3 (ZG.YA u0))) (by simp (maxDischargeDepth := 12) [Jl, Yx, TO, TG, ZN (m := 2318336) (by decide) u0, ZN (m := 2318336) (by decide) u1]; try omega)) ?_
  refine cF e1 ?_ ?_ <;> intro k8 h4 e1
  ·have f := ms f e1
   exact rt [.cell 12 33, .tmp 13] f
  refine cDf i2 [false, false, false, true, true, false, false, true, false, false, true, false] (YD a0 (sg u0)) ?_
  refine jy (t := 103) (j := 7) (i := a1.toNat) (size := 2) (rows := (a0.ZA.map ZE.row)) (ds := (Yd (nth a0.ZA a1.toNat) (ZV.mk a0.Next a5 a3 (Y8 a0.Frame.Zq (Zv.mk a2 (nth a0.ZM J).ZQ (ZT a0.Frame.Methods a0.Frame.Now) (Yo (ZT a0.Frame.Methods a0.Frame.Now) a3) 1 a4 0 0 0)).1 (Zi.mk ([(Qo (Y8 a0.Frame.Zq (Zv.mk a2 (nth a0.ZM J).ZQ (ZT a0.Frame.Methods a0.Frame.Now) (Yo (ZT a0.Frame.Methods a0.Frame.Now) a3) 1 a4 0 0 0)).1), (Ja (nth a0.ZM J))] : List Ze) ([] : List Zb)))).1.row) (L := [(92, 1)]) ?_
  have f := ms f e1
  simp [Y4 (x := (Yd (nth a0.ZA a1.toNat) (ZV.mk a0.Next a5 a3 (Y8 a0.Frame.Zq (Zv.mk a2 (nth a0.ZM J).ZQ (ZT a0.Frame.Methods a0.Frame.Now) (Yo (ZT a0.Frame.Methods a0.Frame.Now) a3) 1 a4 0 0 0)).1 (Zi.mk ([(Qo (Y8 a0.Frame.Zq (Zv.mk a2 (nth a0.ZM J).ZQ (ZT a0.Frame.Methods a0.Frame.Now) (Yo (ZT a0.Frame.Methods a0.Frame.Now) a3) 1 a4 0 0 0)).1), (Ja (nth a0.ZM J))] : List Ze) ([] : List Zb)))).1) rfl, c1, i2, ZD, Z9]
  refine rpS ?_
  exact rt [.cell 12 33, .tmp 13] f
 have c3 := sl 2314240 a0.ZM (an u0 u1)
 have f := ms f e1
 exact rt [.cell 12 33, .tmp 13] f
theorem IF (a0 : ZG) (a1 : Int) (a2 : Int) (a3 : ZU) (a4 : Int) (a5 : Int) (u0 : Sm 2310144 a0) (u1 : Sm 2310144 a3) : Sd 73 [a0.row, rI a1, rI a2, a3.row, rI a4, rI a5] [(JN a0 a1 a2 a3 a4 a5).1.row, rB (JN a0 a1 a2 a3 a4 a5).2] := by
 have f := me (JN.eq_1 a0 a1 a2 a3 a4 a5)
 refine soD func73 ntmps73 ?_
 refine cRs (KQ a0.Frame.Zq a2) ?_
 refine dIs mixed ?_
 refine gIf ?_ ?_ <;> intro G
 ·have i1 : (Yq a0.Frame.Zq a2).toNat < a0.Frame.Zq.length := by have := yV a0.Frame.Zq a2; exact il
  simp [i1, ZD, G]
  refine rpG ?_
  refine cK f ?_ ?_ <;> intro k2 h1 f
  ·try (simp [G] at h1; done)
   all_goals
    refine cDg [false, false, false, true, true, false, false, true, false, false, true, false] (YD a0 (by first | (exact ZN (n := 2310144) (by decide) (xs (an u0 u1))) | (exact ZN (n := 2310144 + 1) (by decide) (Q6 (n := 2310144) (xs (an u0 u1)) (xs (an u0 u1)) (by decide))))) ?_
    exact Xx [.cell 12 33, .tmp 13] f
  ·try (simp [G] at h1; done)
   all_goals
    refine cRg (Wz a0 a1 a2 a3 a4 a5 (sg u0) (sg u1)) ?_
    refine cDg [false, false, false, true, true, false, false, true, false, false, true, false] (YD (Yt a0 a1 a2 a3 a4 a5).1 (by first | (exact ZN (n := 2310144) (by decide) (xs (an u0 u1))) | (exact ZN (n := 2310144 + 1) (by decide) (Q6 (n := 2310144) (xs (an u0 u1)) (xs (an u0 u1)) (by decide))))) ?_
    exact Xx [.cell 12 33, .tmp 13] f
 ·refine cK f ?_ ?_ <;> intro k3 h2 f
  ·try (simp [G] at h2; done)
   all_goals
    refine cDg [false, false, false, true, true, false, false, true, false, false, true, false] (YD a0 (by first | (exact ZN (n := 2310144) (by decide) (xs (an u0 u1))) | (exact ZN (n := 2310144 + 1) (by decide) (Q6 (n := 2310144) (xs (an u0 u1)) (xs (an u0 u1)) (by decide))))) ?_
    exact Xx [.cell 12 33, .tmp 13] f
  ·try (simp [G] at h2; done)
   all_goals
    refine cRg (Wz a0 a1 a2 a3 a4 a5 (sg u0) (sg u1)) ?_
    refine cDg [false, false, false, true, true, false, false, true, false, false, true, false] (YD (Yt a0 a1 a2 a3 a4 a5).1 (by first | (exact ZN (n := 2310144) (by decide) (xs (an u0 u1))) | (exact ZN (n := 2310144 + 1) (by decide) (Q6 (n := 2310144) (xs (an u0 u1)) (xs (an u0 u1)) (by decide))))) ?_
    exact Xx [.cell 12 33, .tmp 13] f
theorem OS (a0 : ZG) (a1 : Int) : Sa 24 [a0.row, rI a1] [rI (ZW a0 a1).1, rI (ZW a0 a1).2] := by
 have f := me (ZW.eq_1 a0 a1)
 refine so func24 ntmps24 ?_
 refine lp1 (qe.eq_2 a0 a1) (fun J => Yn 25 [eI 1 a1, eL 10 2 a0.ZA ZE.row, eI 11 (a0.ZA.length : Int), eI 12 (J : Int)]) (fun n1 J => a0.ZA.length < n1 + J /\ J <= a0.ZA.length) (a0.ZA.length + 1) 0 (fun p1 J e1 j1 => ?_)
 refine cFf e1 ?_ ?_ <;> intro k2 h1 e1
 ·have i1 := ix h1
  have m2 := ml a0.ZA (k2 10 _ rfl)
  have w1 := wr J
  simp [i1, ZD]
  refine rpS ?_
  refine cRs (yv (nth a0.ZA J) a1) ?_
  refine cF e1 ?_ ?_ <;> intro k3 h2 e1
  ·have f := ms f e1
   exact rt [.tmp 4, .tmp 5] f
  exact ny1 w1 e1
 have f := ms f e1
 exact rt [.tmp 4, .tmp 5] f
theorem OD (a0 : Ze) : Sa 234 [a0.row] [rI (Qc a0)] := by
 have f := me (Qc.eq_1 a0)
 refine so func234 ntmps234 ?_
 refine dIs mixed ?_
 refine gIf ?_ ?_ <;> intro G
 ·have i1 := ik 0 a0.XC
  simp [i1, ZD, G]
  refine rpG ?_
  refine cGg (fun gg => (Zx (nth a0.XC 0) 101 105)) ?_
  refine gJf G ?_ ?_ <;> intro G
  ·try (simp at G; done)
   all_goals
    have g2 := G.2; try simp [ZZ] at g2
    all_goals
     simp [i1, ZD, G]
     refine rpG ?_
     refine gK (fun _ => ?_)
     have r1 : ∀ i : Nat, i < 5 -> cut [At.d (.int .i64 7), At.d (.int .i64 5), At.d (.int .i64 5), At.d (.int .i64 9), At.d (.int .i64 6)] i 1 = [At.d (.int .i64 (nth ([7, 5, 5, 9, 6] : List Int) i))] := by intro i h; (have z : i = 0 \/ i = 1 \/ i = 2 \/ i = 3 \/ i = 4 := by omega); rcases z with rfl | rfl | rfl | rfl | rfl <;> rfl
     have i2 : (W ((nth a0.XC 0) - 101)).toNat < 5 := by first | omega | ((try simp only [XL, show ∀ x, IntKind.i64.wrap x = W x from fun _ => rfl] at *); omega)
     have ig := r1 _ i2; simp only [cut] at ig
     simp [r1 _ i2, ig, G]
     refine rpG ?_
     refine cKo f ?_ ?_ <;> intro k2 h1 f
     ·have q1 := h1; try simp [ZZ] at q1
      simp [G]
      refine rpG ?_
      exact rtg [.tmp 2] f
     ·have q1 := h1; try simp [ZZ] at q1
      simp [i1, ZD, G]
      refine rpG ?_
      exact rtg [.tmp 2] f
  ·try (simp at G; done)
   all_goals
    refine sGg ?_
    refine cKo f ?_ ?_ <;> intro k3 h2 f
    ·have q2 := h2; try simp [ZZ] at q2
     simp [G]
     refine rpG ?_
     exact rtg [.tmp 2] f
    ·simp [G] at h2
 ·refine sGo ?_
  simp [G]
  refine rpG ?_
  refine gJf G ?_ ?_ <;> intro G
  ·try (simp at G; done)
   all_goals
    have g3 := G.2; try simp [ZZ] at g3
    all_goals
     have i5 := ik 0 a0.XC
     simp [i5, ZD, G]
     refine rpG ?_
     refine gK (fun _ => ?_)
     have r3 : ∀ i : Nat, i < 5 -> cut [At.d (.int .i64 7), At.d (.int .i64 5), At.d (.int .i64 5), At.d (.int .i64 9), At.d (.int .i64 6)] i 1 = [At.d (.int .i64 (nth ([7, 5, 5, 9, 6] : List Int) i))] := by intro i h; (have z : i = 0 \/ i = 1 \/ i = 2 \/ i = 3 \/ i = 4 := by omega); rcases z with rfl | rfl | rfl | rfl | rfl <;> rfl
     have i6 : (W ((nth a0.XC 0) - 101)).toNat < 5 := by first | omega | ((try simp only [XL, show ∀ x, IntKind.i64.wrap x = W x from fun _ => rfl] at *); omega)
     have eb := r3 _ i6; simp only [cut] at eb
     simp [r3 _ i6, eb, G]
     refine rpG ?_
     refine cKo f ?_ ?_ <;> intro k4 h3 f
     ·simp [G] at h3
     ·simp [G] at h3
  ·try (simp at G; done)
   all_goals
    refine sGg ?_
    refine cKo f ?_ ?_ <;> intro k5 h4 f
    ·have q4 := h4; try simp [ZZ] at q4
     simp [G]
     refine rpG ?_
     exact rtg [.tmp 2] f
    ·simp [G] at h4
theorem LC (a0 : Ze) : Sa 159 [a0.row] [(z9 a0).1.row, rB (z9 a0).2] := by
 have f := me (z9.eq_1 a0)
 refine so func159 ntmps159 ?_
 refine dIs mixed ?_
 refine cRs (OD a0) ?_
 refine gIf ?_ ?_ <;> intro G
 ·have sj := G
  have g1 := G; try simp at g1
  have i1 : 6 < a0.XC.length := by (have z := XG a0; simp_all; done)
  simp [i1, ZD, G]
  refine rpG ?_
  refine cK f ?_ ?_ <;> intro k2 h1 f
  ·try (simp [G] at h1; done)
   all_goals
    exact rtg [.cell 2 107, .tmp 3] f
  ·try (simp [G] at h1; done)
   all_goals
    refine dIo mixed ?_
    have i2 : 1 < a0.XC.length := by (have z := XG a0; simp_all; done)
    have i3 : 2 < a0.XC.length := by (have z := XG a0; simp_all; done)
    have i4 : 3 < a0.XC.length := by (have z := XG a0; simp_all; done)
    have i5 : 4 < a0.XC.length := by (have z := XG a0; simp_all; done)
    have i6 : 5 < a0.XC.length := by (have z := XG a0; simp_all; done)
    simp [i2, ZD, i3, i4, i5, i6, i1, G]
    refine rpG ?_
    exact rtg [.cell 2 107, .tmp 3] f
 ·have sj := G
  refine cK f ?_ ?_ <;> intro k4 h2 f
  ·try (simp [G] at h2; done)
   all_goals
    exact rtg [.cell 2 107, .tmp 3] f
  ·try (simp [G] at h2; done)
   all_goals
    refine dIo mixed ?_
    have i8 : 1 < a0.XC.length := by (have z := XG a0; simp_all; done)
    have i9 : 2 < a0.XC.length := by (have z := XG a0; simp_all; done)
    have i10 : 3 < a0.XC.length := by (have z := XG a0; simp_all; done)
    have i11 : 4 < a0.XC.length := by (have z := XG a0; simp_all; done)
    have i12 : 5 < a0.XC.length := by (have z := XG a0; simp_all; done)
    have i13 : 6 < a0.XC.length := by (have z := XG a0; simp_all; done)
    simp [i8, ZD, i9, i10, i11, i12, i13, G]
    refine rpG ?_
    exact rtg [.cell 2 107, .tmp 3] f
theorem SO (a0 : List Yi) (a1 : Int) : Sa 64 [rL 7 Yi.row a0, rI a1] [rI (xN a0 a1)] := by
 have f := me (xN.eq_1 a0 a1)
 refine so func64 ntmps64 ?_
 refine lp1 (jv.eq_2 a0 a1) (fun J => Yn 20 [eI 1 a1, eL 7 7 a0 Yi.row, eI 8 (a0.length : Int), eI 9 (J : Int)]) (fun n1 J => a0.length < n1 + J /\ J <= a0.length) (a0.length + 1) 0 (fun p1 J e1 j1 => ?_)
 refine cFf e1 ?_ ?_ <;> intro k2 h1 e1
 ·have i1 := ix h1
  have m2 := ml a0 (k2 7 _ rfl)
  have w1 := wr J
  simp [i1, ZD]
  refine rpS ?_
  refine cF e1 ?_ ?_ <;> intro k3 h2 e1
  ·have f := ms f e1
   exact rt [.tmp 4] f
  exact ny1 w1 e1
 have f := ms f e1
 exact rt [.tmp 4] f
theorem KC {a b : Prop} (h : b) (k : a := by (intros; first | omega | with_unfolding_all (first | first | omega | (have fi := JU a0 a1 (by first | omega | (simp at *; omega)); omega) | (simp only [Bool.or_eq_false_iff, decide_eq_false_iff_not] at *; omega)) | (simp_all; done) | (simp_all; omega) | grind | ((try simp only [XL, show ∀ x, IntKind.i64.wrap x = W x from fun _ => rfl] at *); omega))) : a /\ b := ⟨k, h⟩
theorem OW (a0 : ZG) (a1 : Int) : Sa 81 [a0.row, rI a1] [rI (YB a0 a1).1, rI (YB a0 a1).2.1, rB (YB a0 a1).2.2] := by
 have f := me (YB.eq_1 a0 a1)
 refine so func81 ntmps81 ?_
 refine cRs (OS a0 a1) ?_
 refine gIo ?_ ?_ <;> intro G
 ·have sj := G
  have g1 := G; try simp at g1
  have i1 : (ZW a0 a1).1.toNat < a0.ZA.length := by first | omega | (have fi := JU a0 a1 (by first | omega | (simp at *; omega)); omega) | (simp only [Bool.or_eq_false_iff, decide_eq_false_iff_not] at *; omega)
  simp [i1, ZD, G]
  repeat with_reducible refine KC ?_
  refine gK (fun _ => ?_)
  have i2 : (ZW a0 a1).2.toNat < (nth a0.ZA (ZW a0 a1).1.toNat).ZC.length := by first | omega | (have fi := JU a0 a1 (by first | omega | (simp at *; omega)); omega) | (simp only [Bool.or_eq_false_iff, decide_eq_false_iff_not] at *; omega)
  simp [i2, ZD, G]
  repeat with_reducible refine KC ?_
  refine cKo f ?_ ?_ <;> intro k1 h1 f
  ·simp [G]
   repeat with_reducible refine KC ?_
   exact rtg [.tmp 4, .tmp 5, .tmp 6] f
  ·have i3 : 1 < (nth (nth a0.ZA (ZW a0 a1).1.toNat).ZC (ZW a0 a1).2.toNat).ZJ.ZL.length := by first | omega | (have fi := JU a0 a1 (by first | omega | (simp at *; omega)); omega) | (simp only [Bool.or_eq_false_iff, decide_eq_false_iff_not] at *; omega)
   simp [i1, ZD, i2, i3, G]
   repeat with_reducible refine KC ?_
   refine cR (LC (nth (nth (nth a0.ZA (ZW a0 a1).1.toNat).ZC (ZW a0 a1).2.toNat).ZJ.ZL 1)) ?_
   simp [G]
   repeat with_reducible refine KC ?_
   refine cR (SO a0.ZM (z9 (nth (nth (nth a0.ZA (ZW a0 a1).1.toNat).ZC (ZW a0 a1).2.toNat).ZJ.ZL 1)).1.ZQ) ?_
   simp [G]
   repeat with_reducible refine KC ?_
   exact rtg [.tmp 4, .tmp 5, .tmp 6] f
 ·have sj := G
  simp [G]
  repeat with_reducible refine KC ?_
  refine sGo ?_
  simp [G]
  repeat with_reducible refine KC ?_
  refine cKo f ?_ ?_ <;> intro k2 h2 f
  ·simp [G]
   repeat with_reducible refine KC ?_
   exact rtg [.tmp 4, .tmp 5, .tmp 6] f
  ·simp [G] at h2
theorem Ug (a0 : Zn) : Sd 236 [a0.row] [rL 1 iR (JV a0)] := by
 have f := me (JV.eq_1 a0)
 refine soD func236 ntmps236 ?_
 exact rtD [.tmp 2] f
theorem IE (a0 : Zn) : Sa 237 [a0.row] [rB (Sj a0)] := by
 have f := me (Sj.eq_1 a0)
 refine so func237 ntmps237 ?_
 refine cRs (Zx a0.ZQ 1 999) ?_
 refine cGs (fun gg => (Ky a0.Rm)) ?_
 refine cGs (fun gg => (Zx a0.Zy (-1) (W (a0.Rm + 1)))) ?_
 refine cGs (fun gg => (Zx a0.Zm 1 99)) ?_
 exact rt [.tmp 2] f
theorem NV (a0 : List XD) (a1 : Zn) (u0 : Sm 2318336 a0) : Sa 161 [rL 5 XD.row a0, a1.row] [(Xb a0 a1).1.row, rB (Xb a0 a1).2] := by
 have f := me (Xb.eq_1 a0 a1)
 refine so func161 ntmps161 ?_
 refine dIs mixed ?_
 refine cRs (YR.rd (Ug a1)) ?_
 refine cRs (Wj a0 a1.Zm (JV a1) (sg u0) (by simp (maxDischargeDepth := 12) [Ud, ZN (m := 2322432) (by decide) u0]; try omega)) ?_
 refine cRs (IE a1) ?_
 refine cF f ?_ ?_ <;> intro k2 h1 f
 ·exact rt [.cell 4 128, .tmp 5] f
 exact rt [.cell 4 128, .tmp 5] f
theorem PW (a0 : Zn) : Sd 163 [a0.row] [(Xu a0).row] := by
 have f := me (Xu.eq_1 a0)
 refine soD func163 ntmps163 ?_
 refine dIs mixed ?_
 refine cDs [false] (Ug a0) ?_
 exact rtD [.cell 2 177] f
theorem IU (a0 : Zi) (a1 : Ze) (u0 : Sm 2326528 a0) (u1 : Sm 2326528 a1) : Sd 238 [a0.row, a1.row] [(Qw a0 a1).1.row, rB (Qw a0 a1).2] := by
 have f := me (Qw.eq_1 a0 a1)
 refine soD func238 ntmps238 ?_
 refine cDs [] (Kf a0 (sg u0)) ?_
 refine drJ [14] mixed ?_
 simp
 refine cDs [true, false] (Ui a1 (sg u1)) ?_
 refine xt ?_
 have c1 := sl 2326528 a0.ZL (an u0 u1)
 simp
 refine ql (uG := (a0.ZL.map Ze.row)) (news := (([a1] : List Ze).map Ze.row)) (l1 := [(8, 0)]) (l2 := [(12, 1)]) (size := 3) ?_
 simp
 refine cRs (VD (Zi.mk (a0.ZL ++ ([a1] : List Ze)) a0.Zl)) ?_
 refine cF f ?_ ?_ <;> intro k2 h1 f
 ·refine cDs [] (Kf a0 (sg u0)) ?_
  exact rtD [.cell 4 68, .tmp 5] f
 exact rtD [.cell 4 68, .tmp 5] f
theorem LQ (a0 : ZE) (a1 : Int) (a2 : Ze) (u0 : Sm 2318336 a0) (u1 : Sm 2318336 a2) : Sd 162 [a0.row, rI a1, a2.row] [(Qq a0 a1 a2).1.row, rB (Qq a0 a1 a2).2] := by
 have f := me (Qq.eq_1 a0 a1 a2)
 refine soD func162 ntmps162 ?_
 refine cDs [] (YV a0 (sg u0)) ?_
 refine cRs (yv a0 a1) ?_
 refine cF f ?_ ?_ <;> intro k1 h1 f
 ·exact rtD [.cell 6 73, .tmp 7] f
 refine dIo mixed ?_
 have i1 : (Za a0 a1).toNat < a0.ZC.length := by have := Q8 a0 a1; exact il
 simp [i1, ZD]
 refine rpS ?_
 refine cDf i1 [] (IU (nth a0.ZC (Za a0 a1).toNat).ZJ a2 (sg (ZV.JJ (Z3 (ZE.YM u0)))) (sg u1)) ?_
 refine Bz (t := 13) (j := 1) (i := (Za a0 a1).toNat) (c := 14) (size := 16) (rows := (a0.ZC.map ZV.row)) (ds := (Qw (nth a0.ZC (Za a0 a1).toNat).ZJ a2).1.row) (L := [(28, 0), (28, 1)]) rfl rfl rfl rfl (by simp) (by simp) (by simp; try omega) (by simp) (by simp) (by simp) (by simp) (by simp) (by simp) ?_
 simp [Y4 (x := (ZV.mk (nth a0.ZC (Za a0 a1).toNat).Id (nth a0.ZC (Za a0 a1).toNat).Yr (nth a0.ZC (Za a0 a1).toNat).Doc (nth a0.ZC (Za a0 a1).toNat).Sig (Qw (nth a0.ZC (Za a0 a1).toNat).ZJ a2).1)) rfl, i1, ZD, Z9]
 refine rpS ?_
 exact rtD [.cell 6 73, .tmp 7] f
theorem zQ (a0 : ZG) (a1 : Int) (a2 : Int) (a3 : Zn) (u0 : Sm 2314240 a0) (u1 : 0 <= a1 /\ a1 < (a0.ZA.length : Int)) : Sd 83 [a0.row, rI a1, rI a2, a3.row] [(Qf a0 a1 a2 a3).1.row, rB (Qf a0 a1 a2 a3).2] := by
 have f := me (Qf.eq_1 a0 a1 a2 a3)
 refine soD func83 ntmps83 ?_
 refine cRs (NV a0.Frame.Zq a3 (sg (Zu.JK (ZG.Yp u0)))) ?_
 refine dIo mixed ?_
 have i1 := ik a1.toNat a0.ZA
 simp [i1, ZD]
 refine rpS ?_
 refine cRs (YR.rd (PW (Xb a0.Frame.Zq a3).1)) ?_
 refine cDs [] (LQ (nth a0.ZA a1.toNat) a2 (Xu (Xb a0.Frame.Zq a3).1) (sg (Z3 (ZG.YA u0))) (by simp (maxDischargeDepth := 12) [VS, ZN (m := 2318336) (by decide) u0, ZN (m := 2318336) (by decide) u1]; try omega)) ?_
 refine cDs [false, false, false, true, true, false, false, true, false, false, true, false] (YD a0 (sg u0)) ?_
 refine cFt f ?_ ?_ <;> intro k2 h1 f
 ·exact rtD [.cell 8 33, .tmp 9] f
 simp [i1, ZD]
 refine rpS ?_
 refine jy (t := 36) (j := 7) (i := a1.toNat) (size := 2) (rows := (a0.ZA.map ZE.row)) (ds := (Qq (nth a0.ZA a1.toNat) a2 (Xu (Xb a0.Frame.Zq a3).1)).1.row) (L := [(32, 1)]) ?_
 simp [Y4 (x := (Qq (nth a0.ZA a1.toNat) a2 (Xu (Xb a0.Frame.Zq a3).1)).1) rfl, i1, ZD, Z9]
 refine rpS ?_
 exact rtD [.cell 8 33, .tmp 9] f
theorem NY {a b : Prop} (h : b) (k : a := by (intros; first | omega | with_unfolding_all (first | first | omega | (have z := XQ a0 a1 (by simp_all); (try simp at *); omega)) | ((try simp only [XL, show ∀ x, IntKind.i64.wrap x = W x from fun _ => rfl] at *); omega))) : a /\ b := ⟨k, h⟩
theorem Ye {a b : Prop} (h : b) (k : a := by (intros; first | omega | with_unfolding_all (first | first | omega | (have z := XQ a0 a1 (by simp_all); (try simp at *); omega)) | (simp_all; done) | (simp_all; omega) | grind | ((try simp only [XL, show ∀ x, IntKind.i64.wrap x = W x from fun _ => rfl] at *); omega))) : a /\ b := ⟨k, h⟩
theorem Ou (a0 : ZG) (a1 : Int) (u0 : Sm 2310144 a0) : Sd 74 [a0.row, rI a1] [(Qk a0 a1).1.row, rB (Qk a0 a1).2] := by
 have f := me (Qk.eq_1 a0 a1)
 refine soD func74 ntmps74 ?_
 refine cRs (OW a0 a1) ?_
 refine cF f ?_ ?_ <;> intro k1 h1 f
 ·refine cDs [false, false, false, true, true, false, false, true, false, false, true, false] (YD a0 (sg u0)) ?_
  exact rtD [.cell 4 33, .tmp 5] f
 refine dIo mixed ?_
 have i1 : (YB a0 a1).2.1.toNat < a0.ZM.length := by first | omega | (have z := XQ a0 a1 (by simp_all); (try simp at *); omega)
 simp [i1, ZD]
 repeat with_reducible refine NY ?_
 refine cRs (KQ a0.Frame.Zq (nth a0.ZM (YB a0 a1).2.1.toNat).Zm) ?_
 refine dIs mixed ?_
 refine gIo ?_ ?_ <;> intro G
 ·have sj := G
  have g1 := G; try simp at g1
  have i2 : (Yq a0.Frame.Zq (nth a0.ZM (YB a0 a1).2.1.toNat).Zm).toNat < a0.Frame.Zq.length := by have := yV a0.Frame.Zq (nth a0.ZM (YB a0 a1).2.1.toNat).Zm; first | omega | (have z := XQ a0 a1 (by simp_all); (try simp at *); omega)
  simp [i2, ZD, G]
  repeat with_reducible refine Ye ?_
  refine cKo f ?_ ?_ <;> intro k4 h2 f
  ·try (simp [G] at h2; done)
   all_goals
    simp [G]
    repeat with_reducible refine Ye ?_
    refine cD [false, false, false, true, true, false, false, true, false, false, true, false] (YD a0 (sg u0)) ?_
    simp [G]
    repeat with_reducible refine Ye ?_
    exact Xx [.cell 4 33, .tmp 5] f
  ·try (simp [G] at h2; done)
   all_goals
    have i3 : (YB a0 a1).2.1.toNat < a0.Zy.length := by first | omega | (have z := XQ a0 a1 (by simp_all); (try simp at *); omega)
    simp [i3, ZD, G]
    repeat with_reducible refine Ye ?_
    refine cKo f ?_ ?_ <;> intro k5 h3 f
    ·try (simp [G] at h3; done)
     all_goals
      simp [G]
      repeat with_reducible refine Ye ?_
      refine dIo mixed ?_
      simp [i1, ZD, G]
      repeat with_reducible refine Ye ?_
      refine cD [false, false, false, true, true, false, false, true, false, false, true, false] (zQ a0 (YB a0 a1).1 a1 (Zn.mk (nth a0.ZM (YB a0 a1).2.1.toNat).ZQ a0.Frame.Now (-1) (nth a0.ZM (YB a0 a1).2.1.toNat).Zm 0) (sg u0) (by (have z := XQ a0 a1 (by simp_all); (try simp at *); omega))) ?_
      simp [G]
      repeat with_reducible refine Ye ?_
      exact Xx [.cell 4 33, .tmp 5] f
    ·try (simp [G] at h3; done)
     all_goals
      simp [G]
      repeat with_reducible refine Ye ?_
      refine dIo mixed ?_
      simp [i1, ZD, G]
      repeat with_reducible refine Ye ?_
      refine cD [false, false, false, true, true, false, false, true, false, false, true, false] (zQ a0 (YB a0 a1).1 a1 (Zn.mk (nth a0.ZM (YB a0 a1).2.1.toNat).ZQ a0.Frame.Now (nth a0.Zy (YB a0 a1).2.1.toNat) (nth a0.ZM (YB a0 a1).2.1.toNat).Zm 0) (sg u0) (by (have z := XQ a0 a1 (by simp_all); (try simp at *); omega))) ?_
      simp [G]
      repeat with_reducible refine Ye ?_
      exact Xx [.cell 4 33, .tmp 5] f
 ·have sj := G
  simp [G]
  repeat with_reducible refine Ye ?_
  refine cKo f ?_ ?_ <;> intro k8 h4 f
  ·try (simp [G] at h4; done)
   all_goals
    simp [G]
    repeat with_reducible refine Ye ?_
    refine cD [false, false, false, true, true, false, false, true, false, false, true, false] (YD a0 (sg u0)) ?_
    simp [G]
    repeat with_reducible refine Ye ?_
    exact Xx [.cell 4 33, .tmp 5] f
  ·try (simp [G] at h4; done)
   all_goals
    have i5 : (YB a0 a1).2.1.toNat < a0.Zy.length := by first | omega | (have z := XQ a0 a1 (by simp_all); (try simp at *); omega)
    simp [i5, ZD, G]
    repeat with_reducible refine Ye ?_
    refine cKo f ?_ ?_ <;> intro k9 h5 f
    ·try (simp [G] at h5; done)
     all_goals
      simp [G]
      repeat with_reducible refine Ye ?_
      refine dIo mixed ?_
      simp [i1, ZD, G]
      repeat with_reducible refine Ye ?_
      refine cD [false, false, false, true, true, false, false, true, false, false, true, false] (zQ a0 (YB a0 a1).1 a1 (Zn.mk (nth a0.ZM (YB a0 a1).2.1.toNat).ZQ a0.Frame.Now (-1) (nth a0.ZM (YB a0 a1).2.1.toNat).Zm 0) (sg u0) (by (have z := XQ a0 a1 (by simp_all); (try simp at *); omega))) ?_
      simp [G]
      repeat with_reducible refine Ye ?_
      exact Xx [.cell 4 33, .tmp 5] f
    ·try (simp [G] at h5; done)
     all_goals
      simp [G]
      repeat with_reducible refine Ye ?_
      refine dIo mixed ?_
      simp [i1, ZD, G]
      repeat with_reducible refine Ye ?_
      refine cD [false, false, false, true, true, false, false, true, false, false, true, false] (zQ a0 (YB a0 a1).1 a1 (Zn.mk (nth a0.ZM (YB a0 a1).2.1.toNat).ZQ a0.Frame.Now (nth a0.Zy (YB a0 a1).2.1.toNat) (nth a0.ZM (YB a0 a1).2.1.toNat).Zm 0) (sg u0) (by (have z := XQ a0 a1 (by simp_all); (try simp at *); omega))) ?_
      simp [G]
      repeat with_reducible refine Ye ?_
      exact Xx [.cell 4 33, .tmp 5] f
theorem Ow (a0 : ZG) (a1 : Int) (u0 : Sm 2314240 a0) : Sd 75 [a0.row, rI a1] [(X1 a0 a1).1.row, rB (X1 a0 a1).2] := by
 have f := me (X1.eq_1 a0 a1)
 refine soD func75 ntmps75 ?_
 refine cDs [false, false, false, true, true, false, false, true, false, false, true, false] (YD a0 (sg u0)) ?_
 refine cRs (Zx a1 0 (W ((a0.Zy.length : Int) - 1))) ?_
 refine gIf ?_ ?_ <;> intro G
 ·have c1 := sl 2314240 a0.Zy u0
  have w1 : IntKind.i64.wrap ((a0.Zy.length : Int) - 1) = (a0.Zy.length : Int) - 1 := Yg (by omega) (by omega)
  have g1 := G; try simp [ZZ, w1] at g1
  have i1 := ik a1.toNat a0.Zy
  simp [i1, ZD, G]
  refine rpG ?_
  refine cKo f ?_ ?_ <;> intro k1 h1 f
  ·try (simp [G] at h1; done)
   all_goals
    have q1 := h1; try simp [ZZ, w1] at q1
    simp [G]
    refine rpG ?_
    exact Xx [.cell 4 33, .tmp 5] f
  ·try (simp [G] at h1; done)
   all_goals
    have q1 := h1; try simp [ZZ, w1] at q1
    simp [i1, ZD, Y4 (x := (W (a0.Frame.Now + 1))) rfl, G]
    refine rpG ?_
    refine Pn (rv := [.cell 4 33, .tmp 5]) rfl ?_
    simp [f.h, G]
    all_goals (repeat' (first | exact V3 (by simp) (by simp) | refine And.intro ?_ ?_))
 ·have c2 := sl 2314240 a0.Zy u0
  have w2 : IntKind.i64.wrap ((a0.Zy.length : Int) - 1) = (a0.Zy.length : Int) - 1 := Yg (by omega) (by omega)
  refine cKo f ?_ ?_ <;> intro k2 h2 f
  ·try (simp [G] at h2; done)
   all_goals
    have q2 := h2; try simp [ZZ, w2] at q2
    simp [G]
    refine rpG ?_
    exact Xx [.cell 4 33, .tmp 5] f
  ·try (simp [G] at h2; done)
   all_goals
    have q2 := h2; try simp [ZZ, w2] at q2
    have i3 := ik a1.toNat a0.Zy
    simp [i3, ZD, Y4 (x := (W (a0.Frame.Now + 1))) rfl, G]
    refine rpG ?_
    refine Pn (rv := [.cell 4 33, .tmp 5]) rfl ?_
    simp [f.h, G]
    all_goals (repeat' (first | exact V3 (by simp) (by simp) | refine And.intro ?_ ?_))
theorem kM (a0 : List Int) : Sa 62 [rL 1 iR a0] [rB (QW a0)] := by
 have f := me (QW.eq_1 a0)
 refine so func62 ntmps62 ?_
 refine lp1 (qv.eq_2 a0) (fun J => Yn 20 [eL 0 1 a0 iR, eI 3 (J : Int)]) (fun n1 J => a0.length < n1 + J /\ 1 <= J) (a0.length + 1) 1 (fun p1 J e1 j1 => ?_)
 refine cF e1 ?_ ?_ <;> intro k2 h1 e1
 ·have i1 := ix h1
  have m2 := ml a0 (k2 0 _ rfl)
  have w1 := wr J
  refine dIo mixed ?_
  have i2 := ik (J - 1) a0
  have w2 : IntKind.i64.wrap ((J : Int) - 1) = (J : Int) - 1 := Yg (by omega) (by omega)
  simp [i2, ZD, w2, KY, i1]
  refine rpS ?_
  refine cF e1 ?_ ?_ <;> intro k4 h2 e1
  ·have f := ms f e1
   exact rt [.tmp 2] f
  exact ny1 (an w1 w2) e1
 have f := ms f e1
 exact rt [.tmp 2] f
theorem U5 (a0 : Zp) : Sd 170 [a0.row] [rL 1 iR (KA a0)] := by
 have f := me (KA.eq_1 a0)
 refine soD func170 ntmps170 ?_
 exact rtD [.tmp 2] f
theorem kV (a0 : Int) (a1 : Zb) (u0 : Sm 2326528 a1) : Sa 167 [rI a0, a1.row] [rI (zO a0 a1)] := by
 have f := me (zO.eq_1 a0 a1)
 refine so func167 ntmps167 ?_
 refine lp2 (zg.eq_2 a1) (fun J U => Yn 59 [eI 0 a0, eX 3 (a1.row.map .d), (5, .one (.sref 5 0 0 J.length), [.arr false 1 (J.map iR)]), eL 19 2 a1.Path XY.row, eI 20 (a1.Path.length : Int), eI 21 (U : Int)]) (fun n1 J U => a1.Path.length < n1 + U /\ U <= a1.Path.length /\ J.length <= 4 + 2 * U) (a1.Path.length + 1) ([4, a1.Count, a1.Method, a1.FI] : List Int) 0 (fun p1 J U e1 j1 => ?_) (h0 := wkS [((5, 0), some (17, 0))] [])
 refine cFo e1 ?_ ?_ <;> intro k2 h1 e1
 ·have q1 := h1; try simp at q1
  have i1 := ix h1
  have m2 := ml a1.Path (k2 19 _ rfl)
  have c1 := sl 2326528 a1.Path u0
  have w1 := wr U
  simp [i1, ZD]
  refine rpS ?_
  refine cFo e1 ?_ ?_ <;> intro k3 h2 e1
  ·have q2 := h2; try simp at q2
   simp
   refine rpS ?_
   exact nx2 e1 (hw := XA [((5, 0), some (32, 0))] [] rfl (by simp [w1]))
  have q2 := h2; try simp at q2
  simp
  refine rpS ?_
  exact nx2 e1 (hw := XA [((5, 0), some (32, 0))] [] rfl (by simp [w1]))
 have q1 := h1; try simp at q1
 have c2 := sl 2326528 a1.Path u0
 have f := ms f e1
 simp
 refine rpS ?_
 refine lp2 (qJ.eq_2 a1) (fun uI uS => Yn 59 [eI 0 a0, (5, .one (.sref 5 0 0 uI.length), [.arr false 1 (uI.map iR)]), eL 41 5 a1.Xh Zp.row, eI 42 (a1.Xh.length : Int), eI 43 (uS : Int)]) (fun n2 uI uS => a1.Xh.length < n2 + uS /\ uS <= a1.Xh.length /\ uI.length <= 5 + 2 * 2326528 + 6 * uS) (a1.Xh.length + 1) (J ++ ([(a1.Xh.length : Int)] : List Int)) 0 (fun p2 uI uS e2 j2 => ?_) (hI := by (have o : a1.Path.length <= 2326528 := Yk (xs u0); simp at *; omega)) (h0 := wkS [((5, 0), some (39, 0))] [])
 try dsimp only at j2
 refine cFo e2 ?_ ?_ <;> intro k5 h3 e2
 ·have q3 := h3; try simp at q3
  have i2 := ix h3
  have m4 := ml a1.Xh (k5 41 _ rfl)
  have c3 := sl 2326528 a1.Xh u0
  have w2 := wr uS
  simp [i2, ZD]
  refine rpS ?_
  refine dIs mixed ?_
  refine cRs (YR.rd (U5 (nth a1.Xh uS))) ?_
  exact nx2 e2 (hI := by (simp; omega)) (hw := XA [((5, 0), some (54, 0))] [] rfl (by simp [w2]))
 have q3 := h3; try simp at q3
 have c4 := sl 2326528 a1.Xh u0
 have f := ms f e2
 simp
 refine cRs (Je a0 uI (by first | (simp (maxDischargeDepth := 12) [Yx]; omega) | (simp (maxDischargeDepth := 12) [ZN (m := 68719476736) (by decide) u0]; done))) ?_
 exact rt [.tmp 4] f
theorem WZ (a0 : Int) (a1 : List Ze) (u0 : Sm 2326528 a1) : Sa 253 [rI a0, rL 3 Ze.row a1] [rI (Km a0 a1)] := by
 have f := me (Km.eq_1 a0 a1)
 refine so func253 ntmps253 ?_
 refine lp2 (qa.eq_2 a0 a1) (fun J U => Yn 32 [eI 0 a0, (5, .one (.sref 5 0 0 J.length), [.arr false 1 (J.map iR)]), eL 9 3 a1 Ze.row, eI 10 (a1.length : Int), eI 11 (U : Int)]) (fun n1 J U => a1.length < n1 + U /\ U <= a1.length /\ J.length <= 1 + 1 * U) (a1.length + 1) ([2] : List Int) 0 (fun p1 J U e1 j1 => ?_) (h0 := wkS [((5, 0), some (8, 0))] [])
 refine cFf e1 ?_ ?_ <;> intro k2 h1 e1
 ·have i1 := ix h1
  have m2 := ml a1 (k2 9 _ rfl)
  have c1 := sl 2326528 a1 u0
  have w1 := wr U
  have c2 := sl 2326528 (nth a1 U).XC u0
  simp [i1, ZD]
  refine rpS ?_
  refine cRs (Je a0 (([(nth a1 U).Key, (nth a1 U).Mark] : List Int) ++ (nth a1 U).XC) (by simp (maxDischargeDepth := 12) [Jl, Yx, ZN (m := 68719476736) (by decide) u0]; try omega)) ?_
  exact nx2 e1 (hw := XA [((5, 0), some (27, 0))] [] rfl (by simp [w1]))
 have c3 := sl 2326528 a1 u0
 have f := ms f e1
 refine cRs (Je a0 J (by first | (simp (maxDischargeDepth := 12) [Yx]; omega) | (simp (maxDischargeDepth := 12) [ZN (m := 68719476736) (by decide) u0]; done))) ?_
 exact rt [.tmp 4] f
theorem Oc (a0 : Int) (a1 : Int) (a2 : List Ze) (a3 : Int) (u0 : Sm 2322432 a2) : Sa 168 [rI a0, rI a1, rL 3 Ze.row a2, rI a3] [rI (RY a0 a1 a2 a3)] := by
 have f := me (RY.eq_1 a0 a1 a2 a3)
 refine so func168 ntmps168 ?_
 refine cRs (WZ a0 a2 (sg u0)) ?_
 refine cRs (Je a0 ([3, a1, (Km a0 a2), a3] : List Int) (by simp (maxDischargeDepth := 12) [Jl, Yx, ZN (m := 68719476736) (by decide) u0]; try omega)) ?_
 exact rt [.tmp 8] f
theorem Rh (a0 : ZV) (a1 : Int) (u0 : Sm 2318336 a0) : Sa 89 [a0.row, rI a1] [rI (JL a0 a1)] := by
 have f := me (JL.eq_1 a0 a1)
 refine so func89 ntmps89 ?_
 refine cFf f ?_ ?_ <;> intro k1 h1 f
 ·have i1 := ik (a0.ZJ.Zl.length - 1) a0.ZJ.Zl
  have m1 := ml a0.ZJ.Zl (k1 9 _ rfl)
  have w1 : IntKind.i64.wrap ((a0.ZJ.Zl.length : Int) - 1) = (a0.ZJ.Zl.length : Int) - 1 := Yg (by omega) (by omega)
  simp [i1, ZD, w1, KY]
  refine rpS ?_
  refine cRs (kV a1 (nth a0.ZJ.Zl (a0.ZJ.Zl.length - 1)) (sg (Z3 (Zi.kP (ZV.JJ u0))))) ?_
  refine dIs mixed ?_
  refine cRs (xg a1 a0.Doc (sg (ZV.kl u0))) ?_
  refine cRs (Oc a1 (Yo a1 a0.Doc) a0.ZJ.ZL (zO a1 (nth a0.ZJ.Zl (a0.ZJ.Zl.length - 1))) (sg (Zi.kG (ZV.JJ u0)))) ?_
  exact rt [.tmp 4] f
 refine dIs mixed ?_
 refine cRs (xg a1 a0.Doc (sg (ZV.kl u0))) ?_
 refine cRs (Oc a1 (Yo a1 a0.Doc) a0.ZJ.ZL 0 (sg (Zi.kG (ZV.JJ u0)))) ?_
 exact rt [.tmp 4] f
theorem Td (a0 : ZE) (a1 : Int) (u0 : Sm 2314240 a0) : Sd 126 [a0.row, rI a1] [rL 1 iR (XZ a0 a1)] := by
 have f := me (XZ.eq_1 a0 a1)
 refine soD func126 ntmps126 ?_
 refine lp2 (qy.eq_2 a0 a1) (fun J U => Yn 23 [eI 1 a1, (5, .one (.sref 5 0 0 J.length), [.arr false 1 (J.map iR)]), eL 9 16 a0.ZC ZV.row, eI 10 (a0.ZC.length : Int), eI 11 (U : Int)]) (fun n1 J U => a0.ZC.length < n1 + U /\ U <= a0.ZC.length /\ J.length <= 0 + 1 * U) (a0.ZC.length + 1) ([] : List Int) 0 (fun p1 J U e1 j1 => ?_) (h0 := wkS [((5, 0), none)] [])
 refine cFf e1 ?_ ?_ <;> intro k2 h1 e1
 ·have i1 := ix h1
  have m2 := ml a0.ZC (k2 9 _ rfl)
  have c1 := sl 2314240 a0.ZC u0
  have w1 := wr U
  simp [i1, ZD]
  refine rpS ?_
  refine cRs (Rh (nth a0.ZC U) a1 (sg (Z3 (ZE.YM u0)))) ?_
  exact nx2 e1 (hw := XA [((5, 0), some (20, 0))] [] rfl (by simp [w1]))
 have c2 := sl 2314240 a0.ZC u0
 have f := ms f e1
 exact rtD [.tmp 4] f
theorem NI (a0 : Int) (a1 : Int) (a2 : Int) : Sa 259 [rI a0, rI a1, rI a2] [rI (UJ a0 a1 a2)] := by
 have f := me (UJ.eq_1 a0 a1 a2)
 refine so func259 ntmps259 ?_
 refine cRs (Je a0 ([1, a1, a2] : List Int) (by simp (maxDischargeDepth := 12) [Jl, Yx]; try omega)) ?_
 exact rt [.tmp 6] f
theorem xD (a0 : Int) (a1 : List Int) (u0 : Sm 2322432 a1) : Sd 206 [rI a0, rL 1 iR a1] [rL 1 iR (KF a0 a1)] := by
 have f := me (KF.eq_1 a0 a1)
 refine soD func206 ntmps206 ?_
 refine lp2 (Jm.eq_2 a0 a1) (fun J U => Yn 40 [eI 0 a0, eL 1 1 a1 iR, (5, .one (.sref 5 0 0 J.length), [.arr false 1 (J.map iR)]), eI 6 (U : Int)]) (fun n1 J U => a1.length < n1 + U /\ U <= a1.length + 1 /\ J.length <= U) (a1.length + 1) ([] : List Int) 0 (fun p1 J U e1 j1 => ?_) (h0 := wkS [((5, 0), none)] [])
 try dsimp only at j1
 refine cF e1 ?_ ?_ <;> intro k2 h1 e1
 ·have i1 := ix h1
  have m2 := ml a1 (k2 1 _ rfl)
  have c1 := sl 2322432 a1 u0
  have w1 := wr U
  refine cFt e1 ?_ ?_ <;> intro k3 h2 e1
  ·refine okD fun k4 => ?_
   refine dIo mixed ?_
   have i2 := ik (W ((U : Int) + 1)).toNat a1
   simp [i1, ZD, i2]
   refine rpS ?_
   refine cRs (NI a0 (nth a1 U) (nth a1 (W ((U : Int) + 1)).toNat)) ?_ (uV := by first | (simp; done) | (simp [W, w1]; done))
   have w2 : IntKind.i64.wrap ((U : Int) + 2) = (U : Int) + 2 := Yg (by omega) (by omega)
   exact nx2 e1 (hI := by first | omega | (simp at *; omega)) (hw := XA [((5, 0), some (31, 0))] [] rfl (by simp [w1, w2]))
  simp [i1, ZD]
  refine rpS ?_
  have w3 : IntKind.i64.wrap ((U : Int) + 2) = (U : Int) + 2 := Yg (by omega) (by omega)
  exact nx2 e1 (hI := by first | omega | (simp at *; omega)) (hw := XA [((5, 0), some (38, 0))] [] rfl (by simp [w1, w3]))
 have c2 := sl 2322432 a1 u0
 have f := ms f e1
 exact rtD [.tmp 4] f
theorem SG (a0 : Int) (a1 : List Int) (u0 : Sm 2318336 a1) : Sa 201 [rI a0, rL 1 iR a1] [rI (V5 a0 a1)] := by
 have f := me (V5.eq_1 a0 a1)
 refine so func201 ntmps201 ?_
 refine cRs (Zx (a1.length : Int) 1 16) ?_
 refine cFo f ?_ ?_ <;> intro k1 h1 f
 ·have q1 := h1; try simp [ZZ] at q1
  simp
  exact rt [.tmp 4] f
 have q1 := h1; try simp [ZZ] at q1
 simp
 refine lp1 (UA.eq_2 a0) (fun J => Yn 18 [eI 0 a0, eL 1 1 J iR]) (fun n1 J => J.length < n1 /\ 1 <= J.length /\ J.length <= 16) (a1.length + 1) a1 (fun p1 J e1 j1 => ?_) (hI := by first | omega | (simp at *; omega))
 try dsimp only at j1
 refine cFt e1 ?_ ?_ <;> intro k3 h2 e1
 ·refine cRs (YR.rd (xD a0 J (by first | (simp (maxDischargeDepth := 12) [Yx]; omega) | (simp (maxDischargeDepth := 12) [ZN (m := 2322432) (by decide) u0]; done)))) ?_
  exact nx1 e1 (hI := by (have z := yR a0 J (by omega); (try dsimp only); simp at *; omega))
 have f := ms f e1
 have i1 := ik 0 J
 simp [i1, ZD]
 refine rpS ?_
 exact rt [.tmp 4] f
theorem PA (a0 : ZE) (a1 : Int) (u0 : Sm 2310144 a0) : Sa 113 [a0.row, rI a1] [rI (Xk a0 a1)] := by
 have f := me (Xk.eq_1 a0 a1)
 refine so func113 ntmps113 ?_
 refine cRs (YR.rd (Td a0 a1 (sg u0))) ?_
 refine cRs (SG a1 (XZ a0 a1) (by simp (maxDischargeDepth := 12) [WC, ZN (m := 2318336) (by decide) u0]; try omega)) ?_
 exact rt [.tmp 4] f
theorem xH (a0 : List Zw) (a1 : Int) : Sa 67 [rL 3 Zw.row a0, rI a1] [rI (Zo a0 a1)] := by
 have f := me (Zo.eq_1 a0 a1)
 refine so func67 ntmps67 ?_
 refine lp1 (zj.eq_2 a0 a1) (fun J => Yn 20 [eI 1 a1, eL 7 3 a0 Zw.row, eI 8 (a0.length : Int), eI 9 (J : Int)]) (fun n1 J => a0.length < n1 + J /\ J <= a0.length) (a0.length + 1) 0 (fun p1 J e1 j1 => ?_)
 refine cFf e1 ?_ ?_ <;> intro k2 h1 e1
 ·have i1 := ix h1
  have m2 := ml a0 (k2 7 _ rfl)
  have w1 := wr J
  simp [i1, ZD]
  refine rpS ?_
  refine cF e1 ?_ ?_ <;> intro k3 h2 e1
  ·have f := ms f e1
   exact rt [.tmp 4] f
  exact ny1 w1 e1
 have f := ms f e1
 exact rt [.tmp 4] f
theorem Hu (a0 : List Int) (a1 : Int) : Sa 152 [rL 1 iR a0, rI a1] [rI (Ts a0 a1)] := by
 have f := me (Ts.eq_1 a0 a1)
 refine so func152 ntmps152 ?_
 refine lp1 (WS.eq_2 a0 a1) (fun J => Yn 19 [eI 1 a1, eL 7 1 a0 iR, eI 8 (a0.length : Int), eI 9 (J : Int)]) (fun n1 J => a0.length < n1 + J /\ J <= a0.length) (a0.length + 1) 0 (fun p1 J e1 j1 => ?_)
 refine cFf e1 ?_ ?_ <;> intro k2 h1 e1
 ·have i1 := ix h1
  have m2 := ml a0 (k2 7 _ rfl)
  have w1 := wr J
  simp [i1, ZD]
  refine rpS ?_
  refine cF e1 ?_ ?_ <;> intro k3 h2 e1
  ·have f := ms f e1
   exact rt [.tmp 4] f
  exact ny1 w1 e1
 have f := ms f e1
 exact rt [.tmp 4] f
theorem jR (a0 : List Int) (a1 : Int) : Sa 66 [rL 1 iR a0, rI a1] [rB (JP a0 a1)] := by
 have f := me (JP.eq_1 a0 a1)
 refine so func66 ntmps66 ?_
 refine cRs (Hu a0 a1) ?_
 exact rt [.tmp 4] f
theorem zo (a0 : List XD) (a1 : List Zw) (a2 : Zp) (u0 : Sm 2318336 a0) (u1 : Sm 2318336 a1) : Sa 90 [rL 5 XD.row a0, rL 3 Zw.row a1, a2.row] [(JF a0 a1 a2).1.row, rB (JF a0 a1 a2).2] := by
 have f := me (JF.eq_1 a0 a1 a2)
 refine so func90 ntmps90 ?_
 refine cRs (xH a1 a2.Authority) ?_
 refine cGs (fun gg => (Ky a2.Time)) ?_
 refine cF f ?_ ?_ <;> intro k1 h1 f
 ·exact rt [.cell 6 142, .tmp 7] f
 refine dIo mixed ?_
 have i1 : (Zo a1 a2.Authority).toNat < a1.length := by have := XR a1 a2.Authority; exact il
 simp [i1, ZD]
 refine rpS ?_
 refine cRs (YR.rd (U5 a2)) ?_
 refine cRs (Wj a0 (nth a1 (Zo a1 a2.Authority).toNat).Key (KA a2) (sg u0) (by simp (maxDischargeDepth := 12) [LP, ZN (m := 2322432) (by decide) u0, ZN (m := 2322432) (by decide) u1]; try omega)) ?_
 refine cF f ?_ ?_ <;> intro k3 h2 f
 ·exact rt [.cell 6 142, .tmp 7] f
 exact rt [.cell 6 142, .tmp 7] f
theorem SZ {a b : Prop} (h : b) (k : a := by (intros; first | omega | with_unfolding_all (first | first | omega | (have tm := Int.tmod_eq_emod_of_nonneg (b := 2) (show 0 <= U by omega); (try simp only [XL, show ∀ x, IntKind.i64.wrap x = W x from fun _ => rfl] at *); (try simp at *); omega)) | ((try simp only [XL, show ∀ x, IntKind.i64.wrap x = W x from fun _ => rfl] at *); omega))) : a /\ b := ⟨k, h⟩
theorem Lv (a0 : Int) (a1 : List Int) (a2 : Int) (u0 : Sm 2318336 a1) : Sd 127 [rI a0, rL 1 iR a1, rI a2] [rL 2 XY.row (Qu a0 a1 a2)] := by
 have f := me (Qu.eq_1 a0 a1 a2)
 refine soD func127 ntmps127 ?_
 refine cRs (Zx a2 0 (W ((a1.length : Int) - 1))) ?_
 have c1 := sl 2318336 a1 u0
 have w1 : IntKind.i64.wrap ((a1.length : Int) - 1) = (a1.length : Int) - 1 := Yg (by omega) (by omega)
 refine cFo f ?_ ?_ <;> intro k1 h1 f
 ·have q1 := h1; try simp [ZZ, w1] at q1
  simp
  exact rtD [.tmp 6] f
 have q1 := h1; try simp [ZZ, w1] at q1
 simp
 refine lp3 (zH.eq_2 a0) (fun J U uF => Yn 54 [eI 0 a0, eL 1 1 J iR, eI 2 U, (7, .one (.sref 7 0 0 uF.length), [.arr false 2 (uF.map XY.row)])]) (fun n1 J U uF => J.length < n1 /\ 0 <= U /\ U < (J.length : Int) /\ J.length <= 16 /\ uF.length + n1 <= 17) (a1.length + 1) a1 a2 ([] : List XY) (fun p1 J U uF e1 j1 => ?_) (hI := by first | omega | (simp at *; omega)) (h0 := wkS [((7, 0), none)] [])
 try dsimp only at j1
 refine cF e1 ?_ ?_ <;> intro k3 h2 e1
 ·refine cFf e1 ?_ ?_ <;> intro k4 h3 e1
  ·have i1 : (W (U - 1)).toNat < J.length := by first | omega | (have tm := Int.tmod_eq_emod_of_nonneg (b := 2) (show 0 <= U by omega); (try simp only [XL, show ∀ x, IntKind.i64.wrap x = W x from fun _ => rfl] at *); (try simp at *); omega)
   simp [i1, ZD]
   repeat with_reducible refine SZ ?_
   refine cRs (YR.rd (xD a0 J (by first | (simp (maxDischargeDepth := 12) [Yx]; omega) | (simp (maxDischargeDepth := 12) [ZN (m := 2322432) (by decide) u0]; done)))) ?_
   exact nx3 e1 (hI := by (have z := yR a0 J (by omega); have td := Int.tdiv_eq_ediv_of_nonneg (b := 2) (show 0 <= U by omega); have w2 : W (Int.tdiv U 2) = Int.tdiv U 2 := Yg (by omega) (by omega); (try dsimp only); rw [w2]; simp at *; omega)) (hw := XA [((7, 0), some (33, 0))] [] rfl (by simp [w1]))
  refine cFo e1 ?_ ?_ <;> intro k5 h4 e1
  ·have q4 := h4; try simp [w1] at q4
   have i2 : (W (U + 1)).toNat < J.length := by first | omega | (have tm := Int.tmod_eq_emod_of_nonneg (b := 2) (show 0 <= U by omega); (try simp only [XL, show ∀ x, IntKind.i64.wrap x = W x from fun _ => rfl] at *); (try simp at *); omega)
   simp [i2, ZD]
   repeat with_reducible refine SZ ?_
   refine cRs (YR.rd (xD a0 J (by first | (simp (maxDischargeDepth := 12) [Yx]; omega) | (simp (maxDischargeDepth := 12) [ZN (m := 2322432) (by decide) u0]; done)))) ?_
   exact nx3 e1 (hI := by (have z := yR a0 J (by omega); have td := Int.tdiv_eq_ediv_of_nonneg (b := 2) (show 0 <= U by omega); have w2 : W (Int.tdiv U 2) = Int.tdiv U 2 := Yg (by omega) (by omega); (try dsimp only); rw [w2]; simp at *; omega)) (hw := XA [((7, 0), some (47, 0))] [] rfl (by simp [w1]))
  have q4 := h4; try simp [w1] at q4
  simp
  refine cRs (YR.rd (xD a0 J (by first | (simp (maxDischargeDepth := 12) [Yx]; omega) | (simp (maxDischargeDepth := 12) [ZN (m := 2322432) (by decide) u0]; done)))) ?_
  exact ny3 w1 e1 (hI := by (have z := yR a0 J (by omega); have td := Int.tdiv_eq_ediv_of_nonneg (b := 2) (show 0 <= U by omega); have w2 : W (Int.tdiv U 2) = Int.tdiv U 2 := Yg (by omega) (by omega); (try dsimp only); rw [w2]; simp at *; omega))
 have f := ms f e1
 exact rtD [.tmp 6] f
theorem UY (a0 : Zi) (a1 : Zb) (u0 : Sm 2326528 a0) (u1 : Sm 2326528 a1) : Sd 91 [a0.row, a1.row] [(Ym a0 a1).1.row, rB (Ym a0 a1).2] := by
 have f := me (Ym.eq_1 a0 a1)
 refine soD func91 ntmps91 ?_
 refine cDs [] (Kf a0 (sg u0)) ?_
 refine drJ [14] mixed ?_
 simp
 refine cDs [true, true, true, false, false] (Wa a1 (sg u1)) ?_
 refine xt ?_
 have c1 := sl 2326528 a0.Zl (an u0 u1)
 simp
 refine ql (uG := (a0.Zl.map Zb.row)) (news := (([a1] : List Zb).map Zb.row)) (l1 := [(8, 1)]) (l2 := [(12, 3), (12, 4)]) (size := 5) ?_
 simp
 refine cRs (VD (Zi.mk a0.ZL (a0.Zl ++ ([a1] : List Zb)))) ?_
 refine cF f ?_ ?_ <;> intro k2 h1 f
 ·refine cDs [] (Kf a0 (sg u0)) ?_
  exact rtD [.cell 4 68, .tmp 5] f
 exact rtD [.cell 4 68, .tmp 5] f
theorem PV (a0 : ZE) (a1 : Int) (a2 : List Zp) (u0 : Sm 2306048 a0) (u1 : Sm 2306048 a2) : Sd 47 [a0.row, rI a1, rL 5 Zp.row a2] [(Yw a0 a1 a2).1.row, rB (Yw a0 a1 a2).2] := by
 have f := me (Yw.eq_1 a0 a1 a2)
 refine soD func47 ntmps47 ?_
 refine cGs (fun gg => (Kj a0)) ?_
 refine cF f ?_ ?_ <;> intro k1 h1 f
 ·refine cDs [] (YV a0 (sg u0)) ?_
  exact rtD [.cell 6 73, .tmp 7] f
 refine cDs [] (YV a0 (sg u0)) ?_
 refine cRs (YR.rd (Td a0 a1 (sg u0))) ?_
 refine lp2 (Xg.eq_2 a0 a1 a2) (fun J U => Yn 75 [eI 1 a1, eL 2 5 a2 Zp.row, eX 3 (a0.row.map .d), (6, .one (.bptr 6 0), [.box [.d (.int .i64 0), .nil 16]]), (8, .one (.bptr 8 0), [.box [.d (.int .i64 a0.Id), .sref 26 1 0 U.length]]), eL 9 1 (XZ a0 a1) iR, (26, .any, [.none, .arr true 16 (U.map ZV.row)]), eL 31 16 a0.ZC ZV.row, eI 32 (a0.ZC.length : Int), eI 33 (J : Int)]) (fun n1 J U => a0.ZC.length < n1 + J /\ J <= a0.ZC.length /\ U.length = a0.ZC.length) (a0.ZC.length + 1) 0 a0.ZC (fun p1 J U e1 j1 => ?_)
 refine cFf e1 ?_ ?_ <;> intro k3 h2 e1
 ·have i1 := ix h2
  have m2 := ml a0.ZC (k3 31 _ rfl)
  have c1 := sl 2306048 a0.ZC (an u0 u1)
  have w1 := wr J
  simp [i1, ZD]
  refine rpS ?_
  refine dIs mixed ?_
  refine cRs (PA a0 a1 (sg u0)) ?_
  refine cRs (YR.rd (Lv a1 (XZ a0 a1) (J : Int) (by simp (maxDischargeDepth := 12) [WC, ZN (m := 2318336) (by decide) u0, ZN (m := 2318336) (by decide) u1]; try omega))) ?_
  refine cDs [] (UY (nth a0.ZC J).ZJ (Zb.mk ((nth a0.ZC J).ZJ.ZL.length : Int) a1 (Xk a0 a1) (Qu a1 (XZ a0 a1) (J : Int)) a2) (sg (ZV.JJ (Z3 (ZE.YM u0)))) (by simp (maxDischargeDepth := 12) [SL, WC, ZN (m := 2326528) (by decide) u0, ZN (m := 2326528) (by decide) u1]; try omega)) ?_
  refine cFt e1 ?_ ?_ <;> intro k5 h3 e1
  ·refine cDs [] (YV a0 (sg u0)) ?_
   have f := ms f e1
   exact rtD [.cell 6 73, .tmp 7] f
  have i2 := ik J U
  simp [i2, ZD]
  refine rpS ?_
  refine Bz (t := 26) (j := 1) (i := J) (c := 14) (size := 16) (rows := (U.map ZV.row)) (ds := (Ym (nth a0.ZC J).ZJ (Zb.mk ((nth a0.ZC J).ZJ.ZL.length : Int) a1 (Xk a0 a1) (Qu a1 (XZ a0 a1) (J : Int)) a2)).1.row) (L := [(55, 0), (55, 1)]) rfl rfl rfl rfl (by simp) (by simp) (by simp; try omega) (by simp) (by simp) (by simp) (by simp) (by simp) (by simp) ?_
  simp [Y4 (x := (ZV.mk (nth U J).Id (nth U J).Yr (nth U J).Doc (nth U J).Sig (Ym (nth a0.ZC J).ZJ (Zb.mk ((nth a0.ZC J).ZJ.ZL.length : Int) a1 (Xk a0 a1) (Qu a1 (XZ a0 a1) (J : Int)) a2)).1)) rfl, i2, ZD, Z9]
  refine rpS ?_
  exact ny2 w1 e1
 have c2 := sl 2306048 a0.ZC (an u0 u1)
 have f := ms f e1
 refine cRs (Kj (ZE.mk a0.Id U)) ?_
 refine cF f ?_ ?_ <;> intro k6 h4 f
 ·refine cDs [] (YV a0 (sg u0)) ?_
  exact rtD [.cell 6 73, .tmp 7] f
 exact rtD [.cell 6 73, .tmp 7] f
theorem MO (a0 : ZG) (a1 : Int) (a2 : List Int) (a3 : Int) (u0 : Sm 2301952 a0) (u1 : Sm 2301952 a2) : Sd 38 [a0.row, rI a1, rL 1 iR a2, rI a3] [(QS a0 a1 a2 a3).1.row, rB (QS a0 a1 a2 a3).2] := by
 have f := me (QS.eq_1 a0 a1 a2 a3)
 refine soD func38 ntmps38 ?_
 refine cDs [false, false, false, true, true, false, false, true, false, false, true, false] (YD a0 (sg u0)) ?_
 refine cRs (xB a0.Frame.Methods a0.Frame.Now) ?_
 refine cRs (Kn a0 a1) ?_
 refine cGs (fun gg => (kM a2)) ?_
 refine cGs (fun gg => (Zx a3 (-10000) 10000)) ?_
 have c1 := sl 2301952 a0.ZA (an u0 u1)
 have w1 : IntKind.i64.wrap ((a0.ZA.length : Int) - 1) = (a0.ZA.length : Int) - 1 := Yg (by omega) (by omega)
 refine cFo f ?_ ?_ <;> intro k1 h1 f
 ·have q1 := h1; try simp [ZZ, w1, Ya] at q1
  simp
  exact rtD [.cell 8 33, .tmp 9] f
 have q1 := h1; try simp [ZZ, w1, Ya] at q1
 have i1 := ik a1.toNat a0.ZA
 simp [i1, ZD]
 refine rpS ?_
 refine cRs (PA (nth a0.ZA a1.toNat) (ZT a0.Frame.Methods a0.Frame.Now) (sg (Z3 (ZG.YA u0)))) ?_
 refine lp3 (XW.eq_2 a0 a1 a2 a3) (fun J U uF => Yn 175 [eI 1 a1, eI 3 a3, eX 4 (a0.row.map .d), (8, .one (.bptr 8 0), [.box [.nil 5, .nil 3, .nil 4, .d (.int .i64 0), .d (.int .i64 0), .nil 7, .nil 1, .nil 2, .nil 1, .nil 1, .d (.int .i64 0), .nil 1]]), eX 10 (a0.Frame.row.map .d), (11, .one (.bptr 11 0), [.box [.sref 27 0 0 a0.Frame.Zq.length, .sref 27 1 0 a0.Frame.ZF.length, .sref 27 2 0 a0.Frame.Methods.length, .d (.int .i64 a0.Frame.KE), .d (.int .i64 a0.Frame.Now), .sref 27 5 0 a0.ZM.length, .sref 27 6 0 a0.Zy.length, .sref 27 7 0 a0.ZA.length, .sref 27 8 0 uF.length, .sref 27 9 0 a0.YO.length, .d (.int .i64 a0.Next), .sref 27 11 0 a0.YF.length]]), eI 12 (ZT a0.Frame.Methods a0.Frame.Now), eI 13 (Xk (nth a0.ZA a1.toNat) (ZT a0.Frame.Methods a0.Frame.Now)), (14, .one (.sref 14 0 0 J.length), [.arr false 5 (J.map Zp.row)]), (27, .any, [.arr false 5 (a0.Frame.Zq.map XD.row), .arr false 3 (a0.Frame.ZF.map Zw.row), .arr false 4 (a0.Frame.Methods.map YE.row), .none, .none, .arr false 7 (a0.ZM.map Yi.row), .arr false 1 (a0.Zy.map iR), .arr true 2 (a0.ZA.map ZE.row), .arr false 1 (uF.map iR), .arr false 1 (a0.YO.map iR), .none, .arr false 1 (a0.YF.map iR)]), eL 64 1 a2 iR, eI 65 (a2.length : Int), eI 66 (U : Int)]) (fun n1 J U uF => a2.length < n1 + U /\ U <= a2.length /\ J.length <= 0 + 1 * U /\ uF.length = a0.Yb.length) (a2.length + 1) ([] : List Zp) 0 a0.Yb (fun p1 J U uF e1 j1 => ?_) (h0 := wkS [((14, 0), none)] [])
 refine cFo e1 ?_ ?_ <;> intro k3 h2 e1
 ·have i2 := ix h2
  have m2 := ml a2 (k3 64 _ rfl)
  have c2 := sl 2301952 a2 (an u0 u1)
  have w2 := wr U
  simp [i2, ZD]
  refine rpS ?_
  refine cRs (xH a0.Frame.ZF (nth a2 U)) ?_
  refine cF e1 ?_ ?_ <;> intro k4 h3 e1
  ·refine cDs [false, false, false, true, true, false, false, true, false, false, true, false] (YD a0 (sg u0)) ?_
   have f := ms f e1
   exact rtD [.cell 8 33, .tmp 9] f
  refine dIo mixed ?_
  have i3 : (Zo a0.Frame.ZF (nth a2 U)).toNat < a0.Frame.ZF.length := by have := XR a0.Frame.ZF (nth a2 U); exact il
  simp [i3, ZD]
  refine rpS ?_
  refine cRs (KQ a0.Frame.Zq (nth a0.Frame.ZF (Zo a0.Frame.ZF (nth a2 U)).toNat).Key) ?_
  refine dIs mixed ?_
  refine gIf ?_ ?_ <;> intro G
  ·have i4 : (Yq a0.Frame.Zq (nth a0.Frame.ZF (Zo a0.Frame.ZF (nth a2 U)).toNat).Key).toNat < a0.Frame.Zq.length := by have := yV a0.Frame.Zq (nth a0.Frame.ZF (Zo a0.Frame.ZF (nth a2 U)).toNat).Key; exact il
   simp [i4, ZD, G]
   refine rpG ?_
   refine cK e1 ?_ ?_ <;> intro k7 h4 e1
   ·try (simp [G] at h4; done)
    all_goals
     refine cDg [false, false, false, true, true, false, false, true, false, false, true, false] (YD a0 (sg u0)) ?_
     have f := ms f e1
     exact Xx [.cell 8 33, .tmp 9] f
   ·try (simp [G] at h4; done)
    all_goals
     refine cRg (jR a0.YO (nth a2 U)) ?_
     refine cK e1 ?_ ?_ <;> intro k8 h5 e1
     ·try (simp [G] at h5; done)
      all_goals
       refine dIo mixed ?_
       have i5 : (Zo a0.Frame.ZF (nth a2 U)).toNat < a0.Yb.length := by have := XR a0.Frame.ZF (nth a2 U); exact il
       simp [i5, ZD, G]
       refine rpG ?_
       refine cRg (zo a0.Frame.Zq a0.Frame.ZF (Zp.mk (nth a2 U) (nth a0.Yb (Zo a0.Frame.ZF (nth a2 U)).toNat) (if (if (W (a0.Frame.Now + a3)) < 10000 then (W (a0.Frame.Now + a3)) else 10000) > 0 then (if (W (a0.Frame.Now + a3)) < 10000 then (W (a0.Frame.Now + a3)) else 10000) else 0) (Xk (nth a0.ZA a1.toNat) (ZT a0.Frame.Methods a0.Frame.Now)) 0) (sg (Zu.JK (ZG.Yp u0))) (sg (Zu.Y5 (ZG.Yp u0)))) ?_ (uV := by first | (simp; done) | (simp [W, w1, w2]; done))
       refine cKo e1 ?_ ?_ <;> intro ox h6 e1
       ·try (simp [G] at h6; done)
        all_goals
         have q6 := h6; try simp [w1] at q6
         simp [G]
         refine rpG ?_
         refine cDg [false, false, false, true, true, false, false, true, false, false, true, false] (YD a0 (sg u0)) ?_
         have f := ms f e1
         exact Xx [.cell 8 33, .tmp 9] f
       ·try (simp [G] at h6; done)
        all_goals
         have q6 := h6; try simp [w1] at q6
         have i6 : (Zo a0.Frame.ZF (nth a2 U)).toNat < uF.length := by have := XR a0.Frame.ZF (nth a2 U); exact il
         simp [i6, ZD, Y4 (x := (W ((nth uF (Zo a0.Frame.ZF (nth a2 U)).toNat) + 1))) rfl, G]
         refine rpG ?_
         exact nx3 e1 (hw := XA [((14, 0), some (145, 0))] [] rfl (by simp [w1, w2, G]))
     ·try (simp [G] at h5; done)
      all_goals
       refine dIo mixed ?_
       have i7 : (Zo a0.Frame.ZF (nth a2 U)).toNat < a0.Yb.length := by have := XR a0.Frame.ZF (nth a2 U); exact il
       simp [i7, ZD, G]
       refine rpG ?_
       refine cRg (zo a0.Frame.Zq a0.Frame.ZF (Zp.mk (nth a2 U) (nth a0.Yb (Zo a0.Frame.ZF (nth a2 U)).toNat) a0.Frame.Now (Xk (nth a0.ZA a1.toNat) (ZT a0.Frame.Methods a0.Frame.Now)) 0) (sg (Zu.JK (ZG.Yp u0))) (sg (Zu.Y5 (ZG.Yp u0)))) ?_
       refine cKt e1 ?_ ?_ <;> intro eS h7 e1
       ·try (simp [G] at h7; done)
        all_goals
         refine cDg [false, false, false, true, true, false, false, true, false, false, true, false] (YD a0 (sg u0)) ?_
         have f := ms f e1
         exact Xx [.cell 8 33, .tmp 9] f
       ·try (simp [G] at h7; done)
        all_goals
         have i8 : (Zo a0.Frame.ZF (nth a2 U)).toNat < uF.length := by have := XR a0.Frame.ZF (nth a2 U); exact il
         simp [i8, ZD, Y4 (x := (W ((nth uF (Zo a0.Frame.ZF (nth a2 U)).toNat) + 1))) rfl, G]
         refine rpG ?_
         exact nx3 e1 (hw := XA [((14, 0), some (145, 0))] [] rfl (by simp [w1, w2, G]))
  ·refine cK e1 ?_ ?_ <;> intro nf h8 e1
   ·try (simp [G] at h8; done)
    all_goals
     refine cDg [false, false, false, true, true, false, false, true, false, false, true, false] (YD a0 (sg u0)) ?_
     have f := ms f e1
     exact Xx [.cell 8 33, .tmp 9] f
   ·try (simp [G] at h8; done)
    all_goals
     refine cRg (jR a0.YO (nth a2 U)) ?_
     refine cK e1 ?_ ?_ <;> intro fD h9 e1
     ·try (simp [G] at h9; done)
      all_goals
       refine dIo mixed ?_
       have i10 : (Zo a0.Frame.ZF (nth a2 U)).toNat < a0.Yb.length := by have := XR a0.Frame.ZF (nth a2 U); exact il
       simp [i10, ZD, G]
       refine rpG ?_
       refine cRg (zo a0.Frame.Zq a0.Frame.ZF (Zp.mk (nth a2 U) (nth a0.Yb (Zo a0.Frame.ZF (nth a2 U)).toNat) (if (if (W (a0.Frame.Now + a3)) < 10000 then (W (a0.Frame.Now + a3)) else 10000) > 0 then (if (W (a0.Frame.Now + a3)) < 10000 then (W (a0.Frame.Now + a3)) else 10000) else 0) (Xk (nth a0.ZA a1.toNat) (ZT a0.Frame.Methods a0.Frame.Now)) 0) (sg (Zu.JK (ZG.Yp u0))) (sg (Zu.Y5 (ZG.Yp u0)))) ?_ (uV := by first | (simp; done) | (simp [W, w1, w2]; done))
       refine cKo e1 ?_ ?_ <;> intro fE sH e1
       ·try (simp [G] at sH; done)
        all_goals
         have my := sH; try simp [w1] at my
         simp [G]
         refine rpG ?_
         refine cDg [false, false, false, true, true, false, false, true, false, false, true, false] (YD a0 (sg u0)) ?_
         have f := ms f e1
         exact Xx [.cell 8 33, .tmp 9] f
       ·try (simp [G] at sH; done)
        all_goals
         have my := sH; try simp [w1] at my
         have i11 : (Zo a0.Frame.ZF (nth a2 U)).toNat < uF.length := by have := XR a0.Frame.ZF (nth a2 U); exact il
         simp [i11, ZD, Y4 (x := (W ((nth uF (Zo a0.Frame.ZF (nth a2 U)).toNat) + 1))) rfl, G]
         refine rpG ?_
         exact nx3 e1 (hw := XA [((14, 0), some (145, 0))] [] rfl (by simp [w1, w2, G]))
     ·try (simp [G] at h9; done)
      all_goals
       refine dIo mixed ?_
       have i12 : (Zo a0.Frame.ZF (nth a2 U)).toNat < a0.Yb.length := by have := XR a0.Frame.ZF (nth a2 U); exact il
       simp [i12, ZD, G]
       refine rpG ?_
       refine cRg (zo a0.Frame.Zq a0.Frame.ZF (Zp.mk (nth a2 U) (nth a0.Yb (Zo a0.Frame.ZF (nth a2 U)).toNat) a0.Frame.Now (Xk (nth a0.ZA a1.toNat) (ZT a0.Frame.Methods a0.Frame.Now)) 0) (sg (Zu.JK (ZG.Yp u0))) (sg (Zu.Y5 (ZG.Yp u0)))) ?_
       refine cKt e1 ?_ ?_ <;> intro dU nc e1
       ·try (simp [G] at nc; done)
        all_goals
         refine cDg [false, false, false, true, true, false, false, true, false, false, true, false] (YD a0 (sg u0)) ?_
         have f := ms f e1
         exact Xx [.cell 8 33, .tmp 9] f
       ·try (simp [G] at nc; done)
        all_goals
         have i13 : (Zo a0.Frame.ZF (nth a2 U)).toNat < uF.length := by have := XR a0.Frame.ZF (nth a2 U); exact il
         simp [i13, ZD, Y4 (x := (W ((nth uF (Zo a0.Frame.ZF (nth a2 U)).toNat) + 1))) rfl, G]
         refine rpG ?_
         exact nx3 e1 (hw := XA [((14, 0), some (145, 0))] [] rfl (by simp [w1, w2, G]))
 have c3 := sl 2301952 a2 (an u0 u1)
 have f := ms f e1
 simp [i1, ZD]
 refine rpS ?_
 refine cDs [] (PV (nth a0.ZA a1.toNat) (ZT a0.Frame.Methods a0.Frame.Now) J (sg (Z3 (ZG.YA u0))) (by first | (simp (maxDischargeDepth := 12) [Yx]; omega) | (simp (maxDischargeDepth := 12) [ZN (m := 2306048) (by decide) u0, ZN (m := 2306048) (by decide) u1]; done))) ?_
 refine cFt f ?_ ?_ <;> intro dr mw f
 ·refine cDs [false, false, false, true, true, false, false, true, false, false, true, false] (YD a0 (sg u0)) ?_
  exact rtD [.cell 8 33, .tmp 9] f
 simp [i1, ZD]
 refine rpS ?_
 refine jy (t := 27) (j := 7) (i := a1.toNat) (size := 2) (rows := (a0.ZA.map ZE.row)) (ds := (Yw (nth a0.ZA a1.toNat) (ZT a0.Frame.Methods a0.Frame.Now) J).1.row) (L := [(162, 1)]) ?_
 simp [Y4 (x := (Yw (nth a0.ZA a1.toNat) (ZT a0.Frame.Methods a0.Frame.Now) J).1) rfl, c1, i1, ZD, Z9]
 refine rpS ?_
 exact rtD [.cell 8 33, .tmp 9] f
theorem NQ (a0 : Int) (a1 : ZV) (u0 : Sm 2318336 a1) : Sa 335 [rI a0, a1.row] [rI (UL a0 a1)] := by
 have f := me (UL.eq_1 a0 a1)
 refine so func335 ntmps335 ?_
 refine dIs mixed ?_
 refine cRs (xg a0 a1.Doc (sg (ZV.kl u0))) ?_
 refine cRs (WZ a0 a1.ZJ.ZL (sg (Zi.kG (ZV.JJ u0)))) ?_
 refine lp2 (kJ.eq_2 a0 a1) (fun J U => Yn 40 [eI 0 a0, (5, .one (.sref 5 0 0 J.length), [.arr false 1 (J.map iR)]), eL 24 5 a1.ZJ.Zl Zb.row, eI 25 (a1.ZJ.Zl.length : Int), eI 26 (U : Int)]) (fun n1 J U => a1.ZJ.Zl.length < n1 + U /\ U <= a1.ZJ.Zl.length /\ J.length <= 5 + 1 * U) (a1.ZJ.Zl.length + 1) ([5, a1.Id, a1.Yr, (Yo a0 a1.Doc), (Km a0 a1.ZJ.ZL)] : List Int) 0 (fun p1 J U e1 j1 => ?_) (h0 := wkS [((5, 0), some (21, 0))] [])
 refine cFf e1 ?_ ?_ <;> intro k3 h1 e1
 ·have i1 := ix h1
  have m2 := ml a1.ZJ.Zl (k3 24 _ rfl)
  have c1 := sl 2318336 a1.ZJ.Zl u0
  have w1 := wr U
  simp [i1, ZD]
  refine rpS ?_
  refine cRs (kV a0 (nth a1.ZJ.Zl U) (sg (Z3 (Zi.kP (ZV.JJ u0))))) ?_
  exact nx2 e1 (hw := XA [((5, 0), some (35, 0))] [] rfl (by simp [w1]))
 have c2 := sl 2318336 a1.ZJ.Zl u0
 have f := ms f e1
 refine cRs (Je a0 J (by first | (simp (maxDischargeDepth := 12) [Yx]; omega) | (simp (maxDischargeDepth := 12) [ZN (m := 68719476736) (by decide) u0]; done))) ?_
 exact rt [.tmp 4] f
theorem kx (a0 : Int) (a1 : List ZV) (u0 : Sm 2314240 a1) : Sa 300 [rI a0, rL 16 ZV.row a1] [rI (QD a0 a1)] := by
 have f := me (QD.eq_1 a0 a1)
 refine so func300 ntmps300 ?_
 refine lp2 (xe.eq_2 a0 a1) (fun J U => Yn 24 [eI 0 a0, (5, .one (.sref 5 0 0 J.length), [.arr false 1 (J.map iR)]), eL 8 16 a1 ZV.row, eI 9 (a1.length : Int), eI 10 (U : Int)]) (fun n1 J U => a1.length < n1 + U /\ U <= a1.length /\ J.length <= 0 + 1 * U) (a1.length + 1) ([] : List Int) 0 (fun p1 J U e1 j1 => ?_) (h0 := wkS [((5, 0), none)] [])
 refine cFf e1 ?_ ?_ <;> intro k2 h1 e1
 ·have i1 := ix h1
  have m2 := ml a1 (k2 8 _ rfl)
  have c1 := sl 2314240 a1 u0
  have w1 := wr U
  simp [i1, ZD]
  refine rpS ?_
  refine cRs (NQ a0 (nth a1 U) (sg (Z3 u0))) ?_
  exact nx2 e1 (hw := XA [((5, 0), some (19, 0))] [] rfl (by simp [w1]))
 have c2 := sl 2314240 a1 u0
 have f := ms f e1
 refine cRs (SG a0 J (by first | (simp (maxDischargeDepth := 12) [Yx]; omega) | (simp (maxDischargeDepth := 12) [ZN (m := 2318336) (by decide) u0]; done))) ?_
 exact rt [.tmp 4] f
theorem NK (a0 : ZE) (a1 : Int) (a2 : List Int) (a3 : Int) (u0 : Sm 2310144 a0) (u1 : Sm 2310144 a2) : Sd 230 [a0.row, rI a1, rL 1 iR a2, rI a3] [(Y9 a0 a1 a2 a3).1.row, rB (Y9 a0 a1 a2 a3).2] := by
 have f := me (Y9.eq_1 a0 a1 a2 a3)
 refine soD func230 ntmps230 ?_
 refine lp2 (QA.eq_2 a0 a2) (fun J U => Yn 52 [eL 2 1 a2 iR, eI 3 a3, eX 4 (a0.row.map .d), (8, .one (.bptr 8 0), [.box [.d (.int .i64 0), .d (.int .i64 0), .nil 16, .d (.int .i64 0)]]), (10, .one (.bptr 10 0), [.box [.d (.int .i64 a0.Id), .d (.int .i64 a1), .sref 10 3 0 U.length, .d (.int .i64 0)], .none, .none, .arr true 16 (U.map ZV.row)]), eL 18 1 a2 iR, eI 19 (a2.length : Int), eI 20 (J : Int)]) (fun n1 J U => a2.length < n1 + J /\ J <= a2.length /\ U.length <= J /\ (∀ x ∈ U, Sm 2310144 x)) (a2.length + 1) 0 ([] : List ZV) (fun p1 J U e1 j1 => ?_) (hI := by exact ⟨by omega, by omega, Nat.zero_le _, Nat.zero_le _, fun x h => by cases h⟩) (h0 := wkS [((10, 3), none)] [])
 try dsimp only at j1
 refine cFf e1 ?_ ?_ <;> intro k2 h1 e1
 ·have i1 := ix h1
  have m2 := ml a2 (k2 2 _ rfl)
  have c1 := sl 2310144 a2 (an u0 u1)
  have w1 := wr J
  simp [i1, ZD]
  refine rpS ?_
  refine cRs (yv a0 (nth a2 J)) ?_
  refine cF e1 ?_ ?_ <;> intro k3 h2 e1
  ·have f := ms f e1
   exact rtD [.cell 8 253, .tmp 9] f
  refine drJ [39] mixed ?_
  have i2 : (Za a0 (nth a2 J)).toNat < a0.ZC.length := by have := Q8 a0 (nth a2 J); exact il
  simp [i2, ZD]
  refine rpS ?_
  refine cDs [true, true, true, false, false] (z6 (nth a0.ZC (Za a0 (nth a2 J)).toNat) (sg (Z3 (ZE.YM u0)))) ?_
  refine xt ?_
  simp
  refine ql (uG := (U.map ZV.row)) (news := (([(nth a0.ZC (Za a0 (nth a2 J)).toNat)] : List ZV).map ZV.row)) (l1 := [(10, 3)]) (l2 := [(37, 3), (37, 4), (37, 14), (37, 15)]) (size := 16) ?_
  simp
  exact nx2 e1 (hI := by ((try dsimp only); refine ⟨by omega, by omega, by omega, by simp; omega, fun x hx => ?_⟩; rcases List.mem_append.1 hx with hx | hx; exact j1.2.2.2.2 x hx; have e := List.mem_singleton.1 hx; subst e; exact Z3 (ZE.YM u0))) (hw := XA [((10, 3), some (39, 0))] [] rfl (by simp [w1]))
 have c2 := sl 2310144 a2 (an u0 u1)
 have f := ms f e1
 refine cF f ?_ ?_ <;> intro k5 h3 f
 ·exact rtD [.cell 8 253, .tmp 9] f
 refine cRs (kx a3 U (by (have q := Yk (show Sm 2310144 a2 from u1); exact ZN (n := 2310144) (by decide) ⟨by omega, j1.2.2.2.2⟩))) ?_
 exact rtD [.cell 8 253, .tmp 9] f
theorem PM (a0 : YS) (a1 : Int) (u0 : Sm 2310144 a0) : Sa 301 [a0.row, rI a1] [rB (zX a0 a1)] := by
 have f := me (zX.eq_1 a0 a1)
 refine so func301 ntmps301 ?_
 refine lp1 (Jz.eq_2 a0) (fun J => Yn 31 [eI 1 a1, eX 2 (a0.row.map .d), eL 8 16 a0.ZC ZV.row, eI 9 (a0.ZC.length : Int), eI 10 (J : Int)]) (fun n1 J => a0.ZC.length < n1 + J /\ J <= a0.ZC.length) (a0.ZC.length + 1) 0 (fun p1 J e1 j1 => ?_)
 refine cFf e1 ?_ ?_ <;> intro k2 h1 e1
 ·have i1 := ix h1
  have m2 := ml a0.ZC (k2 8 _ rfl)
  have c1 := sl 2310144 a0.ZC u0
  have w1 := wr J
  simp [i1, ZD]
  refine rpS ?_
  refine cRs (Od (nth a0.ZC J)) ?_
  refine cF e1 ?_ ?_ <;> intro k3 h2 e1
  ·have f := ms f e1
   exact rt [.tmp 4] f
  exact ny1 w1 e1
 have c2 := sl 2310144 a0.ZC u0
 have f := ms f e1
 refine dIs mixed ?_
 refine cRs (Zx (a0.ZC.length : Int) 1 8) ?_
 refine cGs (fun gg => (kx a1 a0.ZC (sg (YS.YM u0)))) ?_
 exact rt [.tmp 4] f
theorem Rr (a0 : ZE) (a1 : YS) (a2 : Int) (u0 : Sm 2306048 a0) (u1 : Sm 2306048 a1) : Sd 231 [a0.row, a1.row, rI a2] [(XH a0 a1 a2).1.row, rB (XH a0 a1 a2).2] := by
 have f := me (XH.eq_1 a0 a1 a2)
 refine soD func231 ntmps231 ?_
 refine cRs (PM a1 a2 (sg u1)) ?_
 refine cF f ?_ ?_ <;> intro k1 h1 f
 ·refine cDs [] (YV a0 (sg u0)) ?_
  exact rtD [.cell 6 73, .tmp 7] f
 refine cDs [] (YV a0 (sg u0)) ?_
 refine lp3 (X0.eq_2 a0 a1) (fun J U uF => Yn 48 [eX 3 (a0.row.map .d), (6, .one (.bptr 6 0), [.box [.d (.int .i64 0), .nil 16]]), (8, .one (.bptr 8 0), [.box [.d (.int .i64 U), .sref 8 2 0 uF.length], .none, .arr true 16 (uF.map ZV.row)]), eL 29 16 a1.ZC ZV.row, eI 30 (a1.ZC.length : Int), eI 31 (J : Int)]) (fun n1 J U uF => a1.ZC.length < n1 + J /\ J <= a1.ZC.length /\ Sm (2306048 + J) (ZE.mk U uF)) (a1.ZC.length + 1) 0 a0.Id a0.ZC (fun p1 J U uF e1 j1 => ?_) (hI := by exact ⟨by omega, by omega, Nat.zero_le _, u0⟩) (h0 := wkS [((8, 2), some (27, 1))] [])
 try dsimp only at j1
 refine cFf e1 ?_ ?_ <;> intro k3 h2 e1
 ·have i1 := ix h2
  have m2 := ml a1.ZC (k3 29 _ rfl)
  have c1 := sl 2306048 a1.ZC (an u0 u1)
  have w1 := wr J
  simp [i1, ZD]
  refine rpS ?_
  refine cDs [] (R3 (ZE.mk U uF) (nth a1.ZC J) (by first | (have hl := Wh a1 a2 (by simp at h1; exact h1.1); exact ZN (n := 2306048 + J) (by omega) j1.2.2.2) | exact sg (Z3 (YS.YM u1))) (by first | (have hl := Wh a1 a2 (by simp at h1; exact h1.1); exact ZN (n := 2306048 + J) (by omega) j1.2.2.2) | exact sg (Z3 (YS.YM u1)))) ?_
  refine cF e1 ?_ ?_ <;> intro k4 h3 e1
  ·refine cDs [] (YV a0 (sg u0)) ?_
   have f := ms f e1
   exact rtD [.cell 6 73, .tmp 7] f
  exact nx3 e1 (hI := by ((try dsimp only); refine ⟨by omega, by omega, by omega, ?_⟩; exact V6 (n := 2306048 + J) j1.2.2.2 (ZN (n := 2306048) (by omega) (Z3 (YS.YM u1))))) (hw := XA [((8, 2), some (38, 1))] [] rfl (by simp [w1]))
 have c2 := sl 2306048 a1.ZC (an u0 u1)
 have f := ms f e1
 exact rtD [.cell 6 73, .tmp 7] f
theorem Ll {a b : Prop} (h : b) (k : a := by (intros; first | omega | with_unfolding_all (first | first | omega | (have h0 := h1; simp only [decide_eq_false_iff_not] at h0; have z := Q8 a0 a1; have hc := Yk (ZE.YM u0); have w2 : IntKind.i64.wrap ((Za a0 a1) + 1) = (Za a0 a1) + 1 := (Yg (by omega) (by omega)); have w : W ((Za a0 a1) + 1) = (Za a0 a1) + 1 := w2; omega)) | ((try simp only [XL, show ∀ x, IntKind.i64.wrap x = W x from fun _ => rfl] at *); omega))) : a /\ b := ⟨k, h⟩
theorem II (a0 : ZE) (a1 : Int) (u0 : Sm 2318336 a0) : Sd 232 [a0.row, rI a1] [(X4 a0 a1).1.row, rB (X4 a0 a1).2] := by
 have f := me (X4.eq_1 a0 a1)
 refine soD func232 ntmps232 ?_
 refine cDs [] (YV a0 (sg u0)) ?_
 refine cRs (yv a0 a1) ?_
 refine cF f ?_ ?_ <;> intro k1 h1 f
 ·exact rtD [.cell 4 73, .tmp 5] f
 refine drJ [25] mixed ?_
 have c1 := sl 2318336 a0.ZC u0
 simp
 repeat with_reducible refine Ll ?_
 refine w8 (rows := (a0.ZC.map ZV.row)) (news := ((a0.ZC.drop (W ((Za a0 a1) + 1)).toNat).map ZV.row)) (size := 16) (u := 9) (j := 1) (len := (Za a0 a1).toNat) (lo := (W ((Za a0 a1) + 1)).toNat) (n := (a0.ZC.length - (W ((Za a0 a1) + 1)).toNat)) rfl rfl rfl rfl (by simp) (by simp) (by simp) (by simp) (by simp) (by first | omega | (first | omega | (have h0 := h1; simp only [decide_eq_false_iff_not] at h0; have z := Q8 a0 a1; have hc := Yk (ZE.YM u0); have w2 : IntKind.i64.wrap ((Za a0 a1) + 1) = (Za a0 a1) + 1 := (Yg (by omega) (by omega)); have w : W ((Za a0 a1) + 1) = (Za a0 a1) + 1 := w2; omega)) | (simp; first | omega | (have h0 := h1; simp only [decide_eq_false_iff_not] at h0; have z := Q8 a0 a1; have hc := Yk (ZE.YM u0); have w2 : IntKind.i64.wrap ((Za a0 a1) + 1) = (Za a0 a1) + 1 := (Yg (by omega) (by omega)); have w : W ((Za a0 a1) + 1) = (Za a0 a1) + 1 := w2; omega))) (by first | omega | (simp; done) | (simp; first | omega | (have h0 := h1; simp only [decide_eq_false_iff_not] at h0; have z := Q8 a0 a1; have hc := Yk (ZE.YM u0); have w2 : IntKind.i64.wrap ((Za a0 a1) + 1) = (Za a0 a1) + 1 := (Yg (by omega) (by omega)); have w : W ((Za a0 a1) + 1) = (Za a0 a1) + 1 := w2; omega))) (Ur _ _ _) (by simp) (by first | omega | (simp; first | omega | (have h0 := h1; simp only [decide_eq_false_iff_not] at h0; have z := Q8 a0 a1; have hc := Yk (ZE.YM u0); have w2 : IntKind.i64.wrap ((Za a0 a1) + 1) = (Za a0 a1) + 1 := (Yg (by omega) (by omega)); have w : W ((Za a0 a1) + 1) = (Za a0 a1) + 1 := w2; omega))) ?_
 simp
 exact rtD [.cell 4 73, .tmp 5] f
theorem MW (a0 : ZE) (a1 : ZE) (a2 : List Int) (a3 : Int) (u0 : Sm 2301952 a0) (u1 : Sm 2301952 a1) (u2 : Sm 2301952 a2) : Sd 156 [a0.row, a1.row, rL 1 iR a2, rI a3] [(Yy a0 a1 a2 a3).1.row, (Yy a0 a1 a2 a3).2.1.row, rB (Yy a0 a1 a2 a3).2.2] := by
 have f := me (Yy.eq_1 a0 a1 a2 a3)
 refine soD func156 ntmps156 ?_
 refine cRs (YR.rd (NK a0 a1.Id a2 a3 (by first | exact sg u0 | exact sg u2) (by first | exact sg u0 | exact sg u2))) ?_
 refine cDs [] (Rr a1 (Y9 a0 a1.Id a2 a3).1 a3 (by first | exact sg u1 | exact ZN (n := 2301952) (by decide) (jd u0 u2)) (by first | exact sg u1 | exact ZN (n := 2301952) (by decide) (jd u0 u2))) ?_
 refine cF f ?_ ?_ <;> intro k1 h1 f
 ·refine okD fun k2 => ?_
  refine dIs mixed ?_
  refine cDs [] (YV a0 (sg u0)) ?_
  refine cDs [] (YV a1 (sg u1)) ?_
  exact rtD [.cell 8 73, .cell 9 73, .tmp 10] f
 refine cDs [] (YV a0 (sg u0)) ?_
 refine lp3 (Qz.eq_2 a0 a1 a2) (fun J U uF => Yn 70 [eX 4 (a0.row.map .d), eX 5 (a1.row.map .d), (8, .one (.bptr 8 0), [.box [.d (.int .i64 0), .nil 16]]), (9, .one (.bptr 9 0), [.box [.d (.int .i64 0), .nil 16]]), (13, .one (.bptr 13 0), [.box [.d (.int .i64 (XH a1 (Y9 a0 a1.Id a2 a3).1 a3).1.Id), .sref 33 1 0 (XH a1 (Y9 a0 a1.Id a2 a3).1 a3).1.ZC.length]]), (15, .one (.bptr 15 0), [.box [.d (.int .i64 U), .sref 15 2 0 uF.length], .none, .arr true 16 (uF.map ZV.row)]), (33, .any, [.none, .arr true 16 ((XH a1 (Y9 a0 a1.Id a2 a3).1 a3).1.ZC.map ZV.row)]), eL 48 1 a2 iR, eI 49 (a2.length : Int), eI 50 (J : Int)]) (fun n1 J U uF => a2.length < n1 + J /\ J <= a2.length /\ Sm 2301952 (ZE.mk U uF)) (a2.length + 1) 0 a0.Id a0.ZC (fun p1 J U uF e1 j1 => ?_) (hI := by exact ⟨by omega, by omega, Nat.zero_le _, u0⟩) (h0 := wkS [((15, 2), some (47, 1))] [])
 try dsimp only at j1
 refine cFf e1 ?_ ?_ <;> intro k4 h2 e1
 ·have i1 := ix h2
  have m2 := ml a2 (k4 48 _ rfl)
  have c1 := sl 2301952 a2 (an u0 (an u1 u2))
  have w1 := wr J
  simp [i1, ZD]
  refine rpS ?_
  refine cDs [] (II (ZE.mk U uF) (nth a2 J) (by exact ZN (n := 2301952) (by decide) j1.2.2.2)) ?_
  refine cF e1 ?_ ?_ <;> intro k5 h3 e1
  ·refine okD fun k6 => ?_
   refine dIs mixed ?_
   refine cDs [] (YV a0 (sg u0)) ?_
   refine cDs [] (YV a1 (sg u1)) ?_
   have f := ms f e1
   exact rtD [.cell 8 73, .cell 9 73, .tmp 10] f
  exact nx3 e1 (hI := by ((try dsimp only); refine ⟨by omega, by omega, by omega, ?_⟩; exact SX (by decide) j1.2.2.2)) (hw := XA [((15, 2), some (57, 1))] [] rfl (by simp [w1]))
 have c2 := sl 2301952 a2 (an u0 (an u1 u2))
 have f := ms f e1
 refine LX [(8, 8), (9, 9), (13, 13), (15, 15)] mixed (by kernel_rfl) (by kernel_rfl) (by kernel_rfl) (by kernel_rfl) ?_
 simp
 exact rtD [.cell 8 73, .cell 9 73, .tmp 10] f
theorem Ii (a0 : ZG) (a1 : Int) (a2 : Int) (a3 : Int) (u0 : Sm 2297856 a0) : Sd 76 [a0.row, rI a1, rI a2, rI a3] [(Kc a0 a1 a2 a3).1.row, rB (Kc a0 a1 a2 a3).2] := by
 have f := me (Kc.eq_1 a0 a1 a2 a3)
 refine soD func76 ntmps76 ?_
 refine cDs [false, false, false, true, true, false, false, true, false, false, true, false] (YD a0 (sg u0)) ?_
 refine cRs (xB a0.Frame.Methods a0.Frame.Now) ?_
 refine cRs (Kn a0 a1) ?_
 refine cGs (fun gg => (Kn a0 a2)) ?_
 have c1 := sl 2297856 a0.ZA u0
 have w1 : IntKind.i64.wrap ((a0.ZA.length : Int) - 1) = (a0.ZA.length : Int) - 1 := Yg (by omega) (by omega)
 refine cFo f ?_ ?_ <;> intro k1 h1 f
 ·have q1 := h1; try simp [w1, Ya, ZZ] at q1
  simp
  exact rtD [.cell 8 33, .tmp 9] f
 have q1 := h1; try simp [w1, Ya, ZZ] at q1
 simp
 refine dIo mixed ?_
 have i1 := ik a1.toNat a0.ZA
 have i2 := ik a2.toNat a0.ZA
 simp [i1, ZD, i2]
 refine rpS ?_
 refine cDs [] (MW (nth a0.ZA a1.toNat) (nth a0.ZA a2.toNat) ([a3] : List Int) (ZT a0.Frame.Methods a0.Frame.Now) (sg (Z3 (ZG.YA u0))) (sg (Z3 (ZG.YA u0))) (by simp (maxDischargeDepth := 12) [Jl, Yx, ZN (m := 2301952) (by decide) u0]; try omega)) ?_
 refine cF f ?_ ?_ <;> intro k3 h2 f
 ·refine okD fun k4 => ?_
  refine El [(10, 10), (12, 12), (13, 13), (63, 10), (66, 10)] [71, 72] [] mixed (by kernel_rfl) (by kernel_rfl) (by kernel_rfl) (by kernel_rfl) (by kernel_rfl) (by kernel_rfl) (by kernel_rfl) ?_
  simp [i1, ZD]
  refine rpS ?_
  refine jy (t := 16) (j := 7) (i := a1.toNat) (size := 2) (rows := (a0.ZA.map ZE.row)) (ds := (Yy (nth a0.ZA a1.toNat) (nth a0.ZA a2.toNat) ([a3] : List Int) (ZT a0.Frame.Methods a0.Frame.Now)).1.row) (L := [(58, 1)]) ?_
  simp [Y4 (x := (Yy (nth a0.ZA a1.toNat) (nth a0.ZA a2.toNat) ([a3] : List Int) (ZT a0.Frame.Methods a0.Frame.Now)).1) rfl, c1, i1, i2, ZD, Z9]
  refine rpS ?_
  refine jy (t := 16) (j := 7) (i := a2.toNat) (size := 2) (rows := ((a0.ZA.set a1.toNat (Yy (nth a0.ZA a1.toNat) (nth a0.ZA a2.toNat) ([a3] : List Int) (ZT a0.Frame.Methods a0.Frame.Now)).1).map ZE.row)) (ds := (Yy (nth a0.ZA a1.toNat) (nth a0.ZA a2.toNat) ([a3] : List Int) (ZT a0.Frame.Methods a0.Frame.Now)).2.1.row) (L := [(58, 3)]) ?_
  simp [Y4 (x := (Yy (nth a0.ZA a1.toNat) (nth a0.ZA a2.toNat) ([a3] : List Int) (ZT a0.Frame.Methods a0.Frame.Now)).1) rfl, c1, i1, i2, ZD, Z9]
  refine rpS ?_
  exact rtD [.cell 8 33, .tmp 9] f
 exact rtD [.cell 8 33, .tmp 9] f
theorem Nh (a0 : ZE) (a1 : Int) (u0 : Sm 2322432 a0) : Sd 157 [a0.row, rI a1] [(KJ a0 a1).1.row, rI (KJ a0 a1).2] := by
 have f := me (KJ.eq_1 a0 a1)
 refine soD func157 ntmps157 ?_
 refine lp2 (X7.eq_2 a0 a1) (fun J U => Yn 39 [eI 1 a1, eX 2 (a0.row.map .d), (4, .one (.bptr 4 0), [.box [.d (.int .i64 0), .nil 16]]), (6, .one (.bptr 6 0), [.box [.d (.int .i64 a0.Id), .sref 6 2 0 U.length], .none, .arr true 16 (U.map ZV.row)]), eL 13 16 a0.ZC ZV.row, eI 14 (a0.ZC.length : Int), eI 15 (J : Int)]) (fun n1 J U => a0.ZC.length < n1 + J /\ J <= a0.ZC.length /\ U.length <= 0 + 1 * J) (a0.ZC.length + 1) 0 ([] : List ZV) (fun p1 J U e1 j1 => ?_) (h0 := wkS [((6, 2), none)] [])
 refine cFf e1 ?_ ?_ <;> intro k2 h1 e1
 ·have i1 := ix h1
  have m2 := ml a0.ZC (k2 13 _ rfl)
  have c1 := sl 2322432 a0.ZC u0
  have w1 := wr J
  simp [i1, ZD]
  refine rpS ?_
  refine cF e1 ?_ ?_ <;> intro k3 h2 e1
  ·refine okD fun k4 => ?_
   refine drJ [28] mixed ?_
   simp
   refine cDs [true, true, true, false, false] (z6 (nth a0.ZC J) (sg (Z3 (ZE.YM u0)))) ?_
   refine xt ?_
   simp
   refine ql (uG := (U.map ZV.row)) (news := (([(nth a0.ZC J)] : List ZV).map ZV.row)) (l1 := [(6, 2)]) (l2 := [(26, 3), (26, 4), (26, 14), (26, 15)]) (size := 16) ?_
   simp
   exact nx2 e1 (hw := XA [((6, 2), some (28, 0))] [] rfl (by simp [w1]))
  exact ny2 w1 e1
 have c2 := sl 2322432 a0.ZC u0
 have f := ms f e1
 refine LX [(2, 2), (4, 4), (6, 6), (32, 2), (35, 6)] mixed (by kernel_rfl) (by kernel_rfl) (by kernel_rfl) (by kernel_rfl) ?_
 simp
 exact rtD [.cell 4 73, .tmp 5] f
theorem NX (a0 : ZG) (a1 : Int) (u0 : Sm 2314240 a0) : Sd 77 [a0.row, rI a1] [(Q9 a0 a1).1.row, rB (Q9 a0 a1).2] := by
 have f := me (Q9.eq_1 a0 a1)
 refine soD func77 ntmps77 ?_
 refine cDs [false, false, false, true, true, false, false, true, false, false, true, false] (YD a0 (sg u0)) ?_
 refine cRs (Kn a0 a1) ?_
 have c1 := sl 2314240 a0.ZA u0
 have w1 : IntKind.i64.wrap ((a0.ZA.length : Int) - 1) = (a0.ZA.length : Int) - 1 := Yg (by omega) (by omega)
 refine cFo f ?_ ?_ <;> intro k1 h1 f
 ·have q1 := h1; try simp [w1, Ya, ZZ] at q1
  simp
  exact rtD [.cell 4 33, .tmp 5] f
 have q1 := h1; try simp [w1, Ya, ZZ] at q1
 simp
 refine drJ [] mixed ?_
 have i1 := ik a1.toNat a0.ZA
 simp [i1, ZD]
 refine rpS ?_
 refine cDf i1 [] (Nh (nth a0.ZA a1.toNat) a0.Frame.Now (sg (Z3 (ZG.YA u0)))) ?_
 refine jy (t := 8) (j := 7) (i := a1.toNat) (size := 2) (rows := (a0.ZA.map ZE.row)) (ds := (KJ (nth a0.ZA a1.toNat) a0.Frame.Now).1.row) (L := [(26, 1)]) ?_
 simp [Y4 (x := (KJ (nth a0.ZA a1.toNat) a0.Frame.Now).1) rfl, c1, i1, ZD, Z9]
 refine rpS ?_
 exact rtD [.cell 4 33, .tmp 5] f
theorem NJ (a0 : List YE) (a1 : Int) : Sa 202 [rL 4 YE.row a0, rI a1] [rI (yX a0 a1)] := by
 have f := me (yX.eq_1 a0 a1)
 refine so func202 ntmps202 ?_
 refine lp1 (qG.eq_2 a0 a1) (fun J => Yn 20 [eI 1 a1, eL 7 4 a0 YE.row, eI 8 (a0.length : Int), eI 9 (J : Int)]) (fun n1 J => a0.length < n1 + J /\ J <= a0.length) (a0.length + 1) 0 (fun p1 J e1 j1 => ?_)
 refine cFf e1 ?_ ?_ <;> intro k2 h1 e1
 ·have i1 := ix h1
  have m2 := ml a0 (k2 7 _ rfl)
  have w1 := wr J
  simp [i1, ZD]
  refine rpS ?_
  refine cF e1 ?_ ?_ <;> intro k3 h2 e1
  ·have f := ms f e1
   exact rt [.tmp 4] f
  exact ny1 w1 e1
 have f := ms f e1
 exact rt [.tmp 4] f
theorem Hp (a0 : List YE) (a1 : Int) : Sa 235 [rL 4 YE.row a0, rI a1] [rI (P2 a0 a1)] := by
 have f := me (P2.eq_1 a0 a1)
 refine so func235 ntmps235 ?_
 refine cRs (NJ a0 a1) ?_
 refine cFf f ?_ ?_ <;> intro k1 h1 f
 ·have i1 : (yX a0 a1).toNat < a0.length := by have := O2 a0 a1; exact il
  simp [i1, ZD]
  refine rpS ?_
  exact rt [.tmp 4] f
 exact rt [.tmp 4] f
theorem Ox (a0 : Zu) (a1 : Int) : Sa 160 [a0.row, rI a1] [rI (V4 a0 a1)] := by
 have f := me (V4.eq_1 a0 a1)
 refine so func160 ntmps160 ?_
 refine cRs (KQ a0.Zq a1) ?_
 refine cF f ?_ ?_ <;> intro k1 h1 f
 ·exact rt [.tmp 4] f
 refine dIo mixed ?_
 have i1 : (Yq a0.Zq a1).toNat < a0.Zq.length := by have := yV a0.Zq a1; exact il
 simp [i1, ZD]
 refine rpS ?_
 refine cRs (Hp a0.Methods (nth a0.Zq (Yq a0.Zq a1).toNat).Method) ?_
 exact rt [.tmp 4] f
theorem W8 (a0 : Zu) (a1 : Int) : Sa 82 [a0.row, rI a1] [rB (qk a0 a1)] := by
 have f := me (qk.eq_1 a0 a1)
 refine so func82 ntmps82 ?_
 refine dIs mixed ?_
 refine cRs (KQ a0.Zq a1) ?_
 refine cGs (fun gg => (Ox a0 a1)) ?_
 exact rt [.tmp 4] f
theorem N6 {a b : Prop} (h : b) (k : a := by (intros; first | omega | with_unfolding_all (first | first | omega | (have o := Yk (ZG.Tu (Q6 (n := 2310144) (a1 := a1) (a2 := a2) (a4 := 0) (a5 := 10000) u0 u1 (by decide))); (try simp); omega)) | ((try simp only [XL, show ∀ x, IntKind.i64.wrap x = W x from fun _ => rfl] at *); omega))) : a /\ b := ⟨k, h⟩
theorem MP (a0 : ZG) (a1 : Int) (a2 : Int) (a3 : ZU) (u0 : Sm 2310144 a0) (u1 : Sm 2310144 a3) : Sd 78 [a0.row, rI a1, rI a2, a3.row] [(JI a0 a1 a2 a3).1.row, rB (JI a0 a1 a2 a3).2] := by
 have f := me (JI.eq_1 a0 a1 a2 a3)
 refine soD func78 ntmps78 ?_
 refine cRs (W8 a0.Frame a2) ?_
 refine cFo f ?_ ?_ <;> intro k1 h1 f
 ·have q1 := h1; try simp at q1
  simp
  refine cDs [false, false, false, true, true, false, false, true, false, false, true, false] (YD a0 (by first | (exact ZN (n := 2310144) (by decide) (xs (an u0 u1))) | (exact ZN (n := 2310144 + 1) (by decide) (Q6 (n := 2310144) (xs (an u0 u1)) (xs (an u0 u1)) (by decide))))) ?_
  refine Pn (rv := [.cell 8 33, .tmp 9]) rfl ?_
  simp [f.h]
  all_goals ((try simp only [q2, true_and]); (try (rintro r (⟨a, _, rfl⟩ | rfl) x hx <;> simp at hx <;> subst hx <;> rfl)))
 have q1 := h1; try simp at q1
 simp
 refine cRs (Wz a0 a1 a2 a3 0 10000 (sg u0) (sg u1)) ?_
 refine cDs [false, false, false, true, true, false, false, true, false, false, true, false] (YD (Yt a0 a1 a2 a3 0 10000).1 (by first | (exact ZN (n := 2310144) (by decide) (xs (an u0 u1))) | (exact ZN (n := 2310144 + 1) (by decide) (Q6 (n := 2310144) (xs (an u0 u1)) (xs (an u0 u1)) (by decide))))) ?_
 refine cFo f ?_ ?_ <;> intro k2 h2 f
 ·have q2 := h2; try simp at q2
  simp
  repeat with_reducible refine N6 ?_
  refine Pn (rv := [.cell 8 33, .tmp 9]) rfl ?_
  simp [f.h]
  all_goals ((try simp only [q2, true_and]); (try (rintro r (⟨a, _, rfl⟩ | rfl) x hx <;> simp at hx <;> subst hx <;> rfl)))
 have q2 := h2; try simp at q2
 simp
 refine Pn (rv := [.cell 8 33, .tmp 9]) rfl ?_
 simp [f.h]
 all_goals ((try simp only [q2, true_and]); (try (rintro r (⟨a, _, rfl⟩ | rfl) x hx <;> simp at hx <;> subst hx <;> rfl)))
theorem Ul (a0 : ZG) (u0 : Sm 2326528 a0) : Sd 88 [a0.row] [rL 1 iR (Z1 a0)] := by
 have f := me (Z1.eq_1 a0)
 refine soD func88 ntmps88 ?_
 refine lp2 (JA.eq_2 a0) (fun J U => Yn 33 [eX 1 (a0.row.map .d), (3, .one (.sref 3 0 0 J.length), [.arr false 1 (J.map iR)]), eL 8 3 a0.Frame.ZF Zw.row, eI 9 (a0.Frame.ZF.length : Int), eI 10 (U : Int)]) (fun n1 J U => a0.Frame.ZF.length < n1 + U /\ U <= a0.Frame.ZF.length /\ J.length <= 0 + 1 * U) (a0.Frame.ZF.length + 1) ([] : List Int) 0 (fun p1 J U e1 j1 => ?_) (h0 := wkS [((3, 0), none)] [])
 refine cFf e1 ?_ ?_ <;> intro k2 h1 e1
 ·have i1 := ix h1
  have m2 := ml a0.Frame.ZF (k2 8 _ rfl)
  have c1 := sl 2326528 a0.Frame.ZF u0
  have w1 := wr U
  simp [i1, ZD]
  refine rpS ?_
  refine cRs (jR a0.YO (nth a0.Frame.ZF U).Id) ?_
  refine cGs (fun gg => (W8 a0.Frame (nth a0.Frame.ZF U).Key)) ?_
  refine cF e1 ?_ ?_ <;> intro k3 h2 e1
  ·exact nx2 e1 (hw := XA [((3, 0), some (30, 0))] [] rfl (by simp [w1]))
  exact ny2 w1 e1
 have c2 := sl 2326528 a0.Frame.ZF u0
 have f := ms f e1
 exact rtD [.tmp 2] f
theorem KL {a b : Prop} (h : b) (k : a := by (intros; first | omega | with_unfolding_all (first | first | omega | (have f0 : 0 <= (ZW a0 a1).1 := (by first | omega | (simp at *; omega)); have fi := JU a0 a1 f0; omega) | (have fl := JW a0; have fm := Yk (Zu.Y5 (ZG.Yp u0)); (try dsimp only at *); omega)) | ((try simp only [XL, show ∀ x, IntKind.i64.wrap x = W x from fun _ => rfl] at *); omega))) : a /\ b := ⟨k, h⟩
theorem RW (a0 : ZG) (a1 : Int) (a2 : Int) (u0 : Sm 2314240 a0) : Sd 27 [a0.row, rI a1, rI a2] [(Xr a0 a1 a2).1.row, rB (Xr a0 a1 a2).2] := by
 have f := me (Xr.eq_1 a0 a1 a2)
 refine soD func27 ntmps27 ?_
 refine cDs [false, false, false, true, true, false, false, true, false, false, true, false] (YD a0 (sg u0)) ?_
 refine cRs (OS a0 a1) ?_
 refine cRs (xB a0.Frame.Methods a0.Frame.Now) ?_
 refine cRs (YR.rd (Ul a0 (sg u0))) ?_
 refine cRs (jR a0.YF a1) ?_
 refine cFt f ?_ ?_ <;> intro k1 h1 f
 ·exact rtD [.cell 6 33, .tmp 7] f
 have i1 : (ZW a0 a1).1.toNat < a0.ZA.length := by first | omega | (have f0 : 0 <= (ZW a0 a1).1 := (by first | omega | (simp at *; omega)); have fi := JU a0 a1 f0; omega)
 have i2 : (ZW a0 a1).2.toNat < (nth a0.ZA (ZW a0 a1).1.toNat).ZC.length := by first | omega | (have f0 : 0 <= (ZW a0 a1).1 := (by first | omega | (simp at *; omega)); have fi := JU a0 a1 f0; omega)
 simp [i1, ZD, i2]
 repeat with_reducible refine KL ?_
 refine dIs mixed ?_
 refine cRs (Rh (nth (nth a0.ZA (ZW a0 a1).1.toNat).ZC (ZW a0 a1).2.toNat) (ZT a0.Frame.Methods a0.Frame.Now) (sg (Z3 (ZE.YM (Z3 (ZG.YA u0)))))) ?_
 refine lp2 (XV.eq_2 a0 a1 a2) (fun J U => Yn 124 [eI 2 a2, (6, .one (.bptr 6 0), [.box [.nil 5, .nil 3, .nil 4, .d (.int .i64 0), .d (.int .i64 0), .nil 7, .nil 1, .nil 2, .nil 1, .nil 1, .d (.int .i64 0), .nil 1]]), eX 8 (a0.Frame.row.map .d), (9, .one (.bptr 9 0), [.box [.sref 25 0 0 a0.Frame.Zq.length, .sref 25 1 0 a0.Frame.ZF.length, .sref 25 2 0 a0.Frame.Methods.length, .d (.int .i64 a0.Frame.KE), .d (.int .i64 a0.Frame.Now), .sref 25 5 0 a0.ZM.length, .sref 25 6 0 a0.Zy.length, .sref 25 7 0 a0.ZA.length, .sref 25 8 0 a0.Yb.length, .sref 25 9 0 a0.YO.length, .d (.int .i64 a0.Next), .sref 25 11 0 a0.YF.length]]), eI 10 (ZW a0 a1).1, eI 11 (ZW a0 a1).2, eX 14 ((nth (nth a0.ZA (ZW a0 a1).1.toNat).ZC (ZW a0 a1).2.toNat).row.map .d), (15, .one (.bptr 15 0), [.box [.d (.int .i64 ((nth (nth a0.ZA (ZW a0 a1).1.toNat).ZC (ZW a0 a1).2.toNat).ZJ.ZL.length : Int)), .d (.int .i64 (ZT a0.Frame.Methods a0.Frame.Now)), .d (.int .i64 (JL (nth (nth a0.ZA (ZW a0 a1).1.toNat).ZC (ZW a0 a1).2.toNat) (ZT a0.Frame.Methods a0.Frame.Now))), .nil 2, .sref 15 5 0 U.length], .none, .none, .none, .none, .arr false 5 (U.map Zp.row)]), (25, .any, [.arr false 5 (a0.Frame.Zq.map XD.row), .arr false 3 (a0.Frame.ZF.map Zw.row), .arr false 4 (a0.Frame.Methods.map YE.row), .none, .none, .arr false 7 (a0.ZM.map Yi.row), .arr false 1 (a0.Zy.map iR), .arr true 2 (a0.ZA.map ZE.row), .arr false 1 (a0.Yb.map iR), .arr false 1 (a0.YO.map iR), .none, .arr false 1 (a0.YF.map iR)]), eL 76 1 (Z1 a0) iR, eI 77 ((Z1 a0).length : Int), eI 78 (J : Int)]) (fun n1 J U => (Z1 a0).length < n1 + J /\ J <= (Z1 a0).length /\ U.length <= 0 + 1 * J) ((Z1 a0).length + 1) 0 ([] : List Zp) (fun p1 J U e1 j1 => ?_) (h0 := wkS [((15, 5), none)] [])
 try dsimp only at j1
 refine cFf e1 ?_ ?_ <;> intro k4 h2 e1
 ·have i3 := ix h2
  have m2 := ml (Z1 a0) (k4 76 _ rfl)
  have w1 := wr J
  simp [i3, ZD]
  repeat with_reducible refine KL ?_
  refine cRs (zo a0.Frame.Zq a0.Frame.ZF (Zp.mk (nth (Z1 a0) J) 0 a2 (JL (nth (nth a0.ZA (ZW a0 a1).1.toNat).ZC (ZW a0 a1).2.toNat) (ZT a0.Frame.Methods a0.Frame.Now)) 0) (sg (Zu.JK (ZG.Yp u0))) (sg (Zu.Y5 (ZG.Yp u0)))) ?_
  refine cFt e1 ?_ ?_ <;> intro k5 h3 e1
  ·have f := ms f e1
   exact rtD [.cell 6 33, .tmp 7] f
  simp
  repeat with_reducible refine KL ?_
  exact nx2 e1 (hw := XA [((15, 5), some (102, 0))] [] rfl (by simp [w1]))
 have f := ms f e1
 refine cDs [] (UY (nth (nth a0.ZA (ZW a0 a1).1.toNat).ZC (ZW a0 a1).2.toNat).ZJ (Zb.mk ((nth (nth a0.ZA (ZW a0 a1).1.toNat).ZC (ZW a0 a1).2.toNat).ZJ.ZL.length : Int) (ZT a0.Frame.Methods a0.Frame.Now) (JL (nth (nth a0.ZA (ZW a0 a1).1.toNat).ZC (ZW a0 a1).2.toNat) (ZT a0.Frame.Methods a0.Frame.Now)) ([] : List XY) U) (by first | (have fl := JW a0; have fm := Yk (Zu.Y5 (ZG.Yp u0)); simp [Yx]; omega) | (refine ZN (n := 2314240) (by decide) ?_; simp (maxDischargeDepth := 12) [u0]; done)) (by first | (have fl := JW a0; have fm := Yk (Zu.Y5 (ZG.Yp u0)); simp [Yx]; omega) | (refine ZN (n := 2314240) (by decide) ?_; simp (maxDischargeDepth := 12) [u0]; done))) ?_
 refine drJ [] mixed ?_
 simp [i1, ZD, i2]
 repeat with_reducible refine KL ?_
 refine wR (t := 25) (j := 7) (i := (ZW a0 a1).1.toNat) (c := 1) (k' := (ZW a0 a1).2.toNat) (q := 14) (n := 16) (size := 2) (s := ((nth a0.ZA (ZW a0 a1).1.toNat).ZC.map ZV.row)) (rows := (a0.ZA.map ZE.row)) (ds := (Ym (nth (nth a0.ZA (ZW a0 a1).1.toNat).ZC (ZW a0 a1).2.toNat).ZJ (Zb.mk ((nth (nth a0.ZA (ZW a0 a1).1.toNat).ZC (ZW a0 a1).2.toNat).ZJ.ZL.length : Int) (ZT a0.Frame.Methods a0.Frame.Now) (JL (nth (nth a0.ZA (ZW a0 a1).1.toNat).ZC (ZW a0 a1).2.toNat) (ZT a0.Frame.Methods a0.Frame.Now)) ([] : List XY) U)).1.row) (L := [(109, 0), (109, 1)]) rfl rfl rfl rfl (by simp; rfl) (by simp) (by simp) (by simp [i1, i2]) (by simp [ZD, Z9, i1, i2]) (by simp [i1, i2]) (by simp) (by simp) (by simp) (by simp) (by simp) (by simp) ?_
 simp [Y4 (x := (ZE.mk (nth a0.ZA (ZW a0 a1).1.toNat).Id ((nth a0.ZA (ZW a0 a1).1.toNat).ZC.set (ZW a0 a1).2.toNat (ZV.mk (nth (nth a0.ZA (ZW a0 a1).1.toNat).ZC (ZW a0 a1).2.toNat).Id (nth (nth a0.ZA (ZW a0 a1).1.toNat).ZC (ZW a0 a1).2.toNat).Yr (nth (nth a0.ZA (ZW a0 a1).1.toNat).ZC (ZW a0 a1).2.toNat).Doc (nth (nth a0.ZA (ZW a0 a1).1.toNat).ZC (ZW a0 a1).2.toNat).Sig (Ym (nth (nth a0.ZA (ZW a0 a1).1.toNat).ZC (ZW a0 a1).2.toNat).ZJ (Zb.mk ((nth (nth a0.ZA (ZW a0 a1).1.toNat).ZC (ZW a0 a1).2.toNat).ZJ.ZL.length : Int) (ZT a0.Frame.Methods a0.Frame.Now) (JL (nth (nth a0.ZA (ZW a0 a1).1.toNat).ZC (ZW a0 a1).2.toNat) (ZT a0.Frame.Methods a0.Frame.Now)) ([] : List XY) U)).1)))) rfl, ZD, Z9, i1, i2]
 repeat with_reducible refine KL ?_
 exact rtD [.cell 6 33, .tmp 7] f
theorem XX {a b : Prop} (h : b) (k : a := by (intros; first | omega | with_unfolding_all (first | first | omega | (have z := XQ a0 a1 (by simp_all); (try simp at *); omega)) | (simp_all; done) | (simp_all; omega) | grind | ((try simp only [XL, show ∀ x, IntKind.i64.wrap x = W x from fun _ => rfl] at *); omega))) : a /\ b := ⟨k, h⟩
theorem L0 (a0 : ZG) (a1 : Int) (a2 : Int) (u0 : Sm 2310144 a0) : Sd 23 [a0.row, rI a1, rI a2] [(Jo a0 a1 a2).1.row, rB (Jo a0 a1 a2).2] := by
 have f := me (Jo.eq_1 a0 a1 a2)
 refine soD func23 ntmps23 ?_
 refine cRs (OW a0 a1) ?_
 refine dIs mixed ?_
 refine gIo ?_ ?_ <;> intro G
 ·have sj := G
  have g1 := G; try simp at g1
  have i1 : (YB a0 a1).2.1.toNat < a0.ZM.length := by first | omega | (have z := XQ a0 a1 (by simp_all); (try simp at *); omega)
  simp [i1, ZD, G]
  repeat with_reducible refine XX ?_
  refine cGo (fun gg => (W8 a0.Frame (nth a0.ZM (YB a0 a1).2.1.toNat).Zm)) ?_
  simp [G]
  repeat with_reducible refine XX ?_
  refine cKo f ?_ ?_ <;> intro k2 h1 f
  ·try (simp [G] at h1; done)
   all_goals
    simp [G]
    repeat with_reducible refine XX ?_
    refine cD [false, false, false, true, true, false, false, true, false, false, true, false] (YD a0 (sg u0)) ?_
    simp [G]
    repeat with_reducible refine XX ?_
    exact Xx [.cell 6 33, .tmp 7] f
  ·try (simp [G] at h1; done)
   all_goals
    simp [G]
    repeat with_reducible refine XX ?_
    refine dIo mixed ?_
    simp [i1, ZD, G]
    repeat with_reducible refine XX ?_
    refine cD [false, false, false, true, true, false, false, true, false, false, true, false] (zQ a0 (YB a0 a1).1 a1 (Zn.mk (nth a0.ZM (YB a0 a1).2.1.toNat).ZQ a2 (-1) (nth a0.ZM (YB a0 a1).2.1.toNat).Zm 0) (sg u0) (by (have z := XQ a0 a1 (by simp_all); (try simp at *); omega))) ?_
    simp [G]
    repeat with_reducible refine XX ?_
    exact Xx [.cell 6 33, .tmp 7] f
 ·have sj := G
  simp [G]
  repeat with_reducible refine XX ?_
  refine sGo ?_
  simp [G]
  repeat with_reducible refine XX ?_
  refine cKo f ?_ ?_ <;> intro k4 h2 f
  ·try (simp [G] at h2; done)
   all_goals
    simp [G]
    repeat with_reducible refine XX ?_
    refine cD [false, false, false, true, true, false, false, true, false, false, true, false] (YD a0 (sg u0)) ?_
    simp [G]
    repeat with_reducible refine XX ?_
    exact Xx [.cell 6 33, .tmp 7] f
  ·try (simp [G] at h2; done)
   all_goals
    simp [G]
    repeat with_reducible refine XX ?_
    refine dIo mixed ?_
    have i3 : (YB a0 a1).2.1.toNat < a0.ZM.length := by first | omega | (have z := XQ a0 a1 (by simp_all); (try simp at *); omega)
    simp [i3, ZD, G]
    repeat with_reducible refine XX ?_
    refine cD [false, false, false, true, true, false, false, true, false, false, true, false] (zQ a0 (YB a0 a1).1 a1 (Zn.mk (nth a0.ZM (YB a0 a1).2.1.toNat).ZQ a2 (-1) (nth a0.ZM (YB a0 a1).2.1.toNat).Zm 0) (sg u0) (by (have z := XQ a0 a1 (by simp_all); (try simp at *); omega))) ?_
    simp [G]
    repeat with_reducible refine XX ?_
    exact Xx [.cell 6 33, .tmp 7] f
theorem zI (a0 : ZG) (a1 : Zg) (u0 : Sm 2293760 a0) (u1 : Sm 2293760 a1) : Sd 18 [a0.row, a1.row] [(Z4 a0 a1).1.row, rB (Z4 a0 a1).2] := by
 have f := me (Z4.eq_1 a0 a1)
 refine soD func18 ntmps18 ?_
 refine cF f ?_ ?_ <;> intro k1 h1 f
 ·refine cDs [false, false, false, true, true, false, false, true, false, false, true, false] (Ls a0 a1.A (sg u0)) ?_
  exact rtD [.cell 4 33, .tmp 5] f
 refine cF f ?_ ?_ <;> intro k2 h2 f
 ·refine cDs [false, false, false, true, true, false, false, true, false, false, true, false] (IF a0 a1.A a1.B a1.Doc a1.C a1.D (sg u0) (sg (Zg.kl u1))) ?_
  exact rtD [.cell 4 33, .tmp 5] f
 refine cF f ?_ ?_ <;> intro k3 h3 f
 ·refine cDs [false, false, false, true, true, false, false, true, false, false, true, false] (Ou a0 a1.A (sg u0)) ?_
  exact rtD [.cell 4 33, .tmp 5] f
 refine cF f ?_ ?_ <;> intro k4 h4 f
 ·refine cDs [false, false, false, true, true, false, false, true, false, false, true, false] (Ow a0 a1.A (sg u0)) ?_
  exact rtD [.cell 4 33, .tmp 5] f
 refine cF f ?_ ?_ <;> intro k5 h5 f
 ·refine cDs [false, false, false, true, true, false, false, true, false, false, true, false] (MO a0 a1.A a1.Ids a1.B (sg u0) (sg (Zg.EE u1))) ?_
  exact rtD [.cell 4 33, .tmp 5] f
 refine cF f ?_ ?_ <;> intro k6 h6 f
 ·refine cDs [false, false, false, true, true, false, false, true, false, false, true, false] (Ii a0 a1.A a1.B a1.C (sg u0)) ?_
  exact rtD [.cell 4 33, .tmp 5] f
 refine cF f ?_ ?_ <;> intro k7 h7 f
 ·refine cDs [false, false, false, true, true, false, false, true, false, false, true, false] (NX a0 a1.A (sg u0)) ?_
  exact rtD [.cell 4 33, .tmp 5] f
 refine cF f ?_ ?_ <;> intro k8 h8 f
 ·refine cDs [false, false, false, true, true, false, false, true, false, false, true, false] (MP a0 a1.A a1.B a1.Doc (sg u0) (sg (Zg.kl u1))) ?_
  exact rtD [.cell 4 33, .tmp 5] f
 refine cF f ?_ ?_ <;> intro k9 h9 f
 ·refine cDs [false, false, false, true, true, false, false, true, false, false, true, false] (RW a0 a1.A a1.B (sg u0)) ?_
  exact rtD [.cell 4 33, .tmp 5] f
 refine cF f ?_ ?_ <;> intro ox sH f
 ·refine cDs [false, false, false, true, true, false, false, true, false, false, true, false] (L0 a0 a1.A a1.B (sg u0)) ?_
  exact rtD [.cell 4 33, .tmp 5] f
 refine cDs [false, false, false, true, true, false, false, true, false, false, true, false] (YD a0 (sg u0)) ?_
 exact rtD [.cell 4 33, .tmp 5] f
theorem yF (a0 : ZG) (a1 : List Zg) (u0 : Sm 1048576 a0) (u1 : Sm 1048576 a1) : Sd 13 [a0.row, rL 9 Zg.row a1] [(Ys a0 a1).row] := by
 have f := me (Ys.eq_1 a0 a1)
 refine soD func13 ntmps13 ?_
 refine cDs [false, false, false, true, true, false, false, true, false, false, true, false] (YD a0 (by exact sg u0)) ?_
 refine wC (KW.eq_2 a1) (fun J U uF uR ud u7 uz u3 u4 u5 ue uh uf => Yn 24 [(4, .one (.bptr 4 0), [.box [.nil 5, .nil 3, .nil 4, .d (.int .i64 0), .d (.int .i64 0), .nil 7, .nil 1, .nil 2, .nil 1, .nil 1, .d (.int .i64 0), .nil 1]]), (5, .one (.bptr 5 0), [.box [.sref 5 1 0 U.length, .sref 5 2 0 uF.length, .sref 5 3 0 uR.length, .d (.int .i64 ud), .d (.int .i64 u7), .sref 5 6 0 uz.length, .sref 5 7 0 u3.length, .sref 5 8 0 u4.length, .sref 5 9 0 u5.length, .sref 5 10 0 ue.length, .d (.int .i64 uh), .sref 5 12 0 uf.length], .arr false 5 (U.map XD.row), .arr false 3 (uF.map Zw.row), .arr false 4 (uR.map YE.row), .none, .none, .arr false 7 (uz.map Yi.row), .arr false 1 (u3.map iR), .arr true 2 (u4.map ZE.row), .arr false 1 (u5.map iR), .arr false 1 (ue.map iR), .none, .arr false 1 (uf.map iR)]), eL 10 9 a1 Zg.row, eI 11 (a1.length : Int), eI 12 (J : Int)]) (fun n1 J U uF uR ud u7 uz u3 u4 u5 ue uh uf => a1.length < n1 + J /\ J <= a1.length /\ Sm (1048576 + J) (ZG.mk (Zu.mk U uF uR ud u7) uz u3 u4 u5 ue uh uf)) (a1.length + 1) 0 a0.Frame.Zq a0.Frame.ZF a0.Frame.Methods a0.Frame.KE a0.Frame.Now a0.ZM a0.Zy a0.ZA a0.Yb a0.YO a0.Next a0.YF (fun p1 J U uF uR ud u7 uz u3 u4 u5 ue uh uf e1 j1 => ?_) (hI := by exact ⟨by omega, by omega, Nat.zero_le _, u0⟩) (h0 := wkS [((5, 1), some (9, 0)), ((5, 2), some (9, 1)), ((5, 3), some (9, 2)), ((5, 6), some (9, 5)), ((5, 7), some (9, 6)), ((5, 8), some (9, 7)), ((5, 9), some (9, 8)), ((5, 10), some (9, 9)), ((5, 12), some (9, 11))] [])
 try dsimp only at j1
 refine cFf e1 ?_ ?_ <;> intro k2 h1 e1
 ·have i1 := ix h1
  have m2 := ml a1 (k2 10 _ rfl)
  have c1 := sl 1048576 a1 (an u0 u1)
  have w1 := wr J
  simp [i1, ZD]
  refine rpS ?_
  refine cDs [false, false, false, true, true, false, false, true, false, false, true, false] (zI (ZG.mk (Zu.mk U uF uR ud u7) uz u3 u4 u5 ue uh uf) (nth a1 J) (by first | exact sg (Z3 u1) | (have hl := Yk u1; exact ZN (n := 1048576 + J) (by omega) j1.2.2.2) | exact sg u0) (by first | exact sg (Z3 u1) | (have hl := Yk u1; exact ZN (n := 1048576 + J) (by omega) j1.2.2.2) | exact sg u0)) ?_
  exact wo e1 (hI := by (have hl := Yk u1; (try dsimp only); refine ⟨by omega, by omega, by omega, ?_⟩; exact Uh (n := 1048576 + J) (by omega) j1.2.2.2 (ZN (n := 1048576) (by omega) (Z3 u1)) (by omega))) (hw := XA [((5, 1), some (19, 0)), ((5, 2), some (19, 1)), ((5, 3), some (19, 2)), ((5, 6), some (19, 5)), ((5, 7), some (19, 6)), ((5, 8), some (19, 7)), ((5, 9), some (19, 8)), ((5, 10), some (19, 9)), ((5, 12), some (19, 11))] [] rfl (by simp [w1]))
 have c2 := sl 1048576 a1 (an u0 u1)
 have f := ms f e1
 exact rtD [.cell 4 33] f
theorem NN (a0 : Int) : Sa 292 [rI a0] [rB (US a0)] := by
 have f := me (US.eq_1 a0)
 refine so func292 ntmps292 ?_
 refine cRs (Zx a0 1 2147483646) ?_
 exact rt [.tmp 2] f
theorem ED (a0 : XD) : Sa 217 [a0.row] [rB (GN a0)] := by
 have f := me (GN.eq_1 a0)
 refine so func217 ntmps217 ?_
 refine cRs (Zx a0.Number 1 99) ?_
 refine cGs (fun gg => (Zx a0.zf 0 99)) ?_
 refine cGs (fun gg => (Zx a0.Method 0 99)) ?_
 refine cGs (fun gg => (Ky a0.Uj)) ?_
 refine cGs (fun gg => (NN a0.ja)) ?_
 exact rt [.tmp 2] f
theorem Hy (a0 : List XD) : Sa 143 [rL 5 XD.row a0] [rB (P0 a0)] := by
 have f := me (P0.eq_1 a0)
 refine so func143 ntmps143 ?_
 refine lp1 (TF.eq_2 a0) (fun J => Yn 34 [eL 0 5 a0 XD.row, eL 5 5 a0 XD.row, eI 6 (a0.length : Int), eI 7 (J : Int)]) (fun n1 J => a0.length < n1 + J /\ J <= a0.length) (a0.length + 1) 0 (fun p1 J e1 j1 => ?_)
 refine cFf e1 ?_ ?_ <;> intro k2 h1 e1
 ·have i1 := ix h1
  have m2 := ml a0 (k2 0 _ rfl)
  have w1 := wr J
  simp [i1, ZD]
  refine rpS ?_
  refine dIs mixed ?_
  refine cRs (ED (nth a0 J)) ?_
  refine gIf ?_ ?_ <;> intro G
  ·have i2 := ik (J - 1) a0
   have w2 : IntKind.i64.wrap ((J : Int) - 1) = (J : Int) - 1 := Yg (by omega) (by omega)
   simp [i2, ZD, w2, KY, G]
   refine rpG ?_
   refine cK e1 ?_ ?_ <;> intro k4 h2 e1
   ·try (simp [G] at h2; done)
    all_goals
     have f := ms f e1
     exact rtg [.tmp 2] f
   ·try (simp [G] at h2; done)
    all_goals
     exact ny1 (an w1 (an w2 G)) e1
  ·refine cK e1 ?_ ?_ <;> intro k5 h3 e1
   ·try (simp [G] at h3; done)
    all_goals
     have f := ms f e1
     exact rtg [.tmp 2] f
   ·try (simp [G] at h3; done)
    all_goals
     exact ny1 (an w1 G) e1
 have f := ms f e1
 exact rt [.tmp 2] f
theorem T6 (a0 : List Zw) : Sa 144 [rL 3 Zw.row a0] [rB (qi a0)] := by
 have f := me (qi.eq_1 a0)
 refine so func144 ntmps144 ?_
 refine lp1 (xK.eq_2 a0) (fun J => Yn 47 [eL 0 3 a0 Zw.row, eL 5 3 a0 Zw.row, eI 6 (a0.length : Int), eI 7 (J : Int)]) (fun n1 J => a0.length < n1 + J /\ J <= a0.length) (a0.length + 1) 0 (fun p1 J e1 j1 => ?_)
 refine cFf e1 ?_ ?_ <;> intro k2 h1 e1
 ·have i1 := ix h1
  have m2 := ml a0 (k2 0 _ rfl)
  have w1 := wr J
  simp [i1, ZD]
  refine rpS ?_
  refine dIs mixed ?_
  refine cRs (Zx (nth a0 J).Id 0 99) ?_
  refine cGs (fun gg => (Zx (nth a0 J).Key 1 99)) ?_
  refine cGs (fun gg => (Zx (nth a0 J).Error 0 100)) ?_
  refine gIf ?_ ?_ <;> intro G
  ·have i2 := ik (J - 1) a0
   have w2 : IntKind.i64.wrap ((J : Int) - 1) = (J : Int) - 1 := Yg (by omega) (by omega)
   simp [i2, ZD, w2, KY, G]
   refine rpG ?_
   refine cKo e1 ?_ ?_ <;> intro k4 h2 e1
   ·try (simp [G] at h2; done)
    all_goals
     have q2 := h2; try simp [ZZ] at q2
     have f := ms f e1
     simp [G]
     refine rpG ?_
     exact rtg [.tmp 2] f
   ·try (simp [G] at h2; done)
    all_goals
     have q2 := h2; try simp [ZZ] at q2
     simp [G]
     refine rpG ?_
     exact ny1 (an w1 (an w2 G)) e1
  ·refine cKo e1 ?_ ?_ <;> intro k5 h3 e1
   ·try (simp [G] at h3; done)
    all_goals
     have q3 := h3; try simp [ZZ] at q3
     have f := ms f e1
     simp [G]
     refine rpG ?_
     exact rtg [.tmp 2] f
   ·try (simp [G] at h3; done)
    all_goals
     have q3 := h3; try simp [ZZ] at q3
     simp [G]
     refine rpG ?_
     exact ny1 (an w1 G) e1
 have f := ms f e1
 exact rt [.tmp 2] f
theorem IG (a0 : YE) : Sa 218 [a0.row] [rB (RG a0)] := by
 have f := me (RG.eq_1 a0)
 refine so func218 ntmps218 ?_
 refine cRs (Zx a0.Id 0 99) ?_
 refine cGs (fun gg => (Ky a0.Ua)) ?_
 refine cGs (fun gg => (Zx a0.Ends 1 10001)) ?_
 refine cGs (fun gg => (Zx a0.kZ 1 10001)) ?_
 exact rt [.tmp 2] f
theorem Na (a0 : List YE) : Sa 145 [rL 4 YE.row a0] [rB (V8 a0)] := by
 have f := me (V8.eq_1 a0)
 refine so func145 ntmps145 ?_
 refine lp1 (kL.eq_2 a0) (fun J => Yn 34 [eL 0 4 a0 YE.row, eL 5 4 a0 YE.row, eI 6 (a0.length : Int), eI 7 (J : Int)]) (fun n1 J => a0.length < n1 + J /\ J <= a0.length) (a0.length + 1) 0 (fun p1 J e1 j1 => ?_)
 refine cFf e1 ?_ ?_ <;> intro k2 h1 e1
 ·have i1 := ix h1
  have m2 := ml a0 (k2 0 _ rfl)
  have w1 := wr J
  simp [i1, ZD]
  refine rpS ?_
  refine dIs mixed ?_
  refine cRs (IG (nth a0 J)) ?_
  refine gIf ?_ ?_ <;> intro G
  ·have i2 := ik (J - 1) a0
   have w2 : IntKind.i64.wrap ((J : Int) - 1) = (J : Int) - 1 := Yg (by omega) (by omega)
   simp [i2, ZD, w2, KY, G]
   refine rpG ?_
   refine cK e1 ?_ ?_ <;> intro k4 h2 e1
   ·try (simp [G] at h2; done)
    all_goals
     have f := ms f e1
     exact rtg [.tmp 2] f
   ·try (simp [G] at h2; done)
    all_goals
     exact ny1 (an w1 (an w2 G)) e1
  ·refine cK e1 ?_ ?_ <;> intro k5 h3 e1
   ·try (simp [G] at h3; done)
    all_goals
     have f := ms f e1
     exact rtg [.tmp 2] f
   ·try (simp [G] at h3; done)
    all_goals
     exact ny1 (an w1 G) e1
 have f := ms f e1
 exact rt [.tmp 2] f
theorem H8 (a0 : Zu) : Sa 60 [a0.row] [rB (yk a0)] := by
 have f := me (yk.eq_1 a0)
 refine so func60 ntmps60 ?_
 refine cRs (Hy a0.Zq) ?_
 refine cGs (fun gg => (T6 a0.ZF)) ?_
 refine cGs (fun gg => (Na a0.Methods)) ?_
 refine cGs (fun gg => (Zx a0.KE 0 6)) ?_
 refine cGs (fun gg => (Ky a0.Now)) ?_
 exact rt [.tmp 2] f
theorem Lw (a0 : Yi) : Sa 220 [a0.row] [(V1 a0).row] := by
 have f := me (V1.eq_1 a0)
 refine so func220 ntmps220 ?_
 exact rt [.cell 2 59] f
theorem G6 (a0 : WG) : Sa 219 [a0.row] [rB (LK a0)] := by
 have f := me (LK.eq_1 a0)
 refine so func219 ntmps219 ?_
 refine cRs (Ky a0.qR) ?_
 refine cGs (fun gg => (Ky a0.To)) ?_
 exact rt [.tmp 2] f
theorem Gx (a0 : Yi) : Sa 147 [a0.row] [rB (Ns a0)] := by
 have f := me (Ns.eq_1 a0)
 refine so func147 ntmps147 ?_
 refine cRs (Zx a0.ZQ 1 999) ?_
 refine cGs (fun gg => (Zx a0.Key 1 99)) ?_
 refine cGs (fun gg => (Zx a0.Zm 1 99)) ?_
 refine cGs (fun gg => (Zx a0.zf 0 99)) ?_
 refine cGs (fun gg => (Lw a0)) ?_
 refine cGs (fun gg => (G6 (V1 a0))) ?_
 exact rt [.tmp 2] f
theorem Mi (a0 : List XD) (a1 : Int) (a2 : List Int) (a3 : Int) (u0 : Sm 2318336 a0) (u1 : Sm 2318336 a2) : Sa 148 [rL 5 XD.row a0, rI a1, rL 1 iR a2, rI a3] [rB (Ta a0 a1 a2 a3)] := by
 have f := me (Ta.eq_1 a0 a1 a2 a3)
 refine so func148 ntmps148 ?_
 refine cRs (Wj a0 a1 a2 (sg u0) (sg u1)) ?_
 exact rt [.tmp 8] f
theorem GL (a0 : List XD) (a1 : Int) : Sa 150 [rL 5 XD.row a0, rI a1] [rI (PH a0 a1)] := by
 have f := me (PH.eq_1 a0 a1)
 refine so func150 ntmps150 ?_
 refine cRs (KQ a0 a1) ?_
 refine cFf f ?_ ?_ <;> intro k1 h1 f
 ·have i1 : (Yq a0 a1).toNat < a0.length := by have := yV a0 a1; exact il
  simp [i1, ZD]
  refine rpS ?_
  exact rt [.tmp 4] f
 exact rt [.tmp 4] f
theorem Mt (a0 : List XD) (a1 : Yi) (u0 : Sm 2314240 a0) : Sa 63 [rL 5 XD.row a0, a1.row] [rB (WX a0 a1)] := by
 have f := me (WX.eq_1 a0 a1)
 refine so func63 ntmps63 ?_
 refine dIs mixed ?_
 refine cRs (Gx a1) ?_
 refine cGs (fun gg => YR.rd (SE a1)) ?_
 refine cGs (fun gg => (Mi a0 a1.Zm (z5 a1) a1.Mark (sg u0) (by simp (maxDischargeDepth := 12) [T8, ZN (m := 2318336) (by decide) u0]; try omega))) ?_
 refine cGs (fun gg => (GL a0 a1.Key)) ?_
 exact rt [.tmp 4] f
theorem yY {a b : Prop} (h : b) (k : a := by (intros; first | omega | with_unfolding_all (first | first | omega | (have o : (nth a0.ZA uS).ZC.length <= 2310144 := Yk (xs u0); have o2 : a0.ZA.length <= 2310144 := Yk (xs u0); omega)) | ((try simp only [XL, show ∀ x, IntKind.i64.wrap x = W x from fun _ => rfl] at *); omega))) : a /\ b := ⟨k, h⟩
theorem J9 {a b : Prop} (h : b) (k : a := by (intros; first | omega | with_unfolding_all (first | first | omega | (have o : (nth a0.ZA uS).ZC.length <= 2310144 := Yk (xs u0); have o2 : a0.ZA.length <= 2310144 := Yk (xs u0); omega)) | (simp_all; done) | (simp_all; omega) | grind | ((try simp only [XL, show ∀ x, IntKind.i64.wrap x = W x from fun _ => rfl] at *); omega))) : a /\ b := ⟨k, h⟩
theorem Rp (a0 : ZG) (u0 : Sm 2310144 a0) : Sa 15 [a0.row] [rB (qh a0)] := by
 have f := me (qh.eq_1 a0)
 refine so func15 ntmps15 ?_
 refine cRs (H8 a0.Frame) ?_
 refine cGs (fun gg => (Zx (a0.ZA.length : Int) 1 4)) ?_
 refine cGs (fun gg => (kM a0.YO)) ?_
 refine cGs (fun gg => (kM a0.YF)) ?_
 refine cFo f ?_ ?_ <;> intro k1 h1 f
 ·have q1 := h1; try simp [ZZ] at q1
  simp
  exact rt [.tmp 2] f
 have q1 := h1; try simp [ZZ] at q1
 simp
 refine lp1 (jM.eq_2 a0) (fun J => Yn 167 [eX 1 (a0.row.map .d), eX 3 (a0.Frame.row.map .d), eL 71 7 a0.ZM Yi.row, eI 72 (a0.ZM.length : Int), eI 73 (J : Int)]) (fun n1 J => a0.ZM.length < n1 + J /\ J <= a0.ZM.length) (a0.ZM.length + 1) 0 (fun p1 J e1 j1 => ?_)
 try dsimp only at j1
 refine cFf e1 ?_ ?_ <;> intro k3 h2 e1
 ·have i1 := ix h2
  have m2 := ml a0.ZM (k3 71 _ rfl)
  have c1 := sl 2310144 a0.ZM u0
  have w1 := wr J
  simp [i1, ZD]
  repeat with_reducible refine yY ?_
  refine cRs (Mt a0.Frame.Zq (nth a0.ZM J) (sg (Zu.JK (ZG.Yp u0)))) ?_
  refine cGs (fun gg => (SO a0.ZM (nth a0.ZM J).ZQ)) ?_
  refine gIo ?_ ?_ <;> intro G
  ·have sj := G
   have g1 := G; try simp at g1
   have i2 := ik J a0.Zy
   simp [i2, ZD, G]
   repeat with_reducible refine J9 ?_
   refine cGo (fun gg => (Zx (nth a0.Zy J) (-1) 10001)) ?_
   simp [G]
   repeat with_reducible refine J9 ?_
   refine cKo e1 ?_ ?_ <;> intro k4 h3 e1
   ·try (simp [G] at h3; done)
    all_goals
     have q3 := h3; try simp [ZZ] at q3
     have f := ms f e1
     simp [G]
     repeat with_reducible refine J9 ?_
     exact rtg [.tmp 2] f
   ·try (simp [G] at h3; done)
    all_goals
     have q3 := h3; try simp [ZZ] at q3
     simp [G]
     repeat with_reducible refine J9 ?_
     exact ny1 (an w1 G) e1
  ·have sj := G
   simp [G]
   repeat with_reducible refine J9 ?_
   refine sGo ?_
   simp [G]
   repeat with_reducible refine J9 ?_
   refine cKo e1 ?_ ?_ <;> intro k5 h4 e1
   ·try (simp [G] at h4; done)
    all_goals
     have q4 := h4; try simp [ZZ] at q4
     have f := ms f e1
     simp [G]
     repeat with_reducible refine J9 ?_
     exact rtg [.tmp 2] f
   ·try (simp [G] at h4; done)
    all_goals
     have q4 := h4; try simp [ZZ] at q4
     simp [G]
     repeat with_reducible refine J9 ?_
     exact ny1 (an w1 G) e1
 have c2 := sl 2310144 a0.ZM u0
 have f := ms f e1
 refine lp2 (K0.eq_2 a0) (fun uI uS => Yn 167 [eX 1 (a0.row.map .d), eX 3 (a0.Frame.row.map .d), (6, .one (.sref 6 0 0 uI.length), [.arr false 1 (uI.map iR)]), eL 103 2 a0.ZA ZE.row, eI 104 (a0.ZA.length : Int), eI 105 (uS : Int)]) (fun n2 uI uS => a0.ZA.length < n2 + uS /\ uI.length <= 2310144 * uS) (a0.ZA.length + 1) ([] : List Int) 0 (fun p2 uI uS e2 j2 => ?_) (h0 := wkS [((6, 0), none)] [])
 try dsimp only at j2
 refine cFf e2 ?_ ?_ <;> intro k7 h5 e2
 ·have i4 := ix h5
  have m4 := ml a0.ZA (k7 103 _ rfl)
  have c3 := sl 2310144 a0.ZA u0
  have w2 := wr uS
  simp [i4, ZD]
  repeat with_reducible refine yY ?_
  refine cRs (Kj (nth a0.ZA uS)) ?_
  refine cF e2 ?_ ?_ <;> intro k8 h6 e2
  ·have f := ms f e2
   exact rt [.tmp 2] f
  refine lp2 (KI.eq_2 a0 uS) (fun tJ se => Yn 167 [eX 1 (a0.row.map .d), eX 3 (a0.Frame.row.map .d), (6, .one (.sref 6 0 0 tJ.length), [.arr false 1 (tJ.map iR)]), eL 103 2 a0.ZA ZE.row, eI 104 (a0.ZA.length : Int), eI 105 (uS : Int), eL 120 16 (nth a0.ZA uS).ZC ZV.row, eI 121 ((nth a0.ZA uS).ZC.length : Int), eI 122 (se : Int)]) (fun n3 tJ se => (nth a0.ZA uS).ZC.length < n3 + se /\ se <= (nth a0.ZA uS).ZC.length /\ tJ.length <= 2310144 * uS + se) ((nth a0.ZA uS).ZC.length + 1) uI 0 (fun p3 tJ se e3 j3 => ?_)
  try dsimp only at j3
  refine cFf e3 ?_ ?_ <;> intro ox h7 e3
  ·have i5 := ix h7
   have m6 := ml (nth a0.ZA uS).ZC (ox 120 _ rfl)
   have c4 := sl 2310144 (nth a0.ZA uS).ZC u0
   have w3 := wr se
   simp [i5, ZD]
   repeat with_reducible refine yY ?_
   refine cRs (jR tJ (nth (nth a0.ZA uS).ZC se).Id) ?_
   refine cFt e3 ?_ ?_ <;> intro iU h8 e3
   ·have e2 := ms e2 e3
    have f := ms f e2
    exact rt [.tmp 2] f
   simp
   repeat with_reducible refine yY ?_
   exact nx2 e3 (hI := by (have o : (nth a0.ZA uS).ZC.length <= 2310144 := Yk (xs u0); first | omega | (simp at *; omega))) (hw := XA [((6, 0), some (141, 0))] [] rfl (by simp [w2, w3]))
  have c5 := sl 2310144 (nth a0.ZA uS).ZC u0
  have e2 := ms e2 e3
  exact ny2 w2 e2 (hI := by (have o : (nth a0.ZA uS).ZC.length <= 2310144 := Yk (xs u0); first | omega | (simp at *; omega)))
 have c6 := sl 2310144 a0.ZA u0
 have f := ms f e2
 refine lp1 (jU.eq_2 a0) (fun rp => Yn 167 [eX 1 (a0.row.map .d), eX 3 (a0.Frame.row.map .d), eL 145 1 a0.Yb iR, eI 146 (a0.Yb.length : Int), eI 147 (rp : Int)]) (fun n4 rp => a0.Yb.length < n4 + rp /\ rp <= a0.Yb.length) (a0.Yb.length + 1) 0 (fun p4 rp e4 j4 => ?_)
 try dsimp only at j4
 refine cFf e4 ?_ ?_ <;> intro nf h9 e4
 ·have i6 := ix h9
  have m8 := ml a0.Yb (nf 145 _ rfl)
  have c7 := sl 2310144 a0.Yb u0
  have w4 := wr rp
  simp [i6, ZD]
  repeat with_reducible refine yY ?_
  refine cF e4 ?_ ?_ <;> intro fD sH e4
  ·have f := ms f e4
   exact rt [.tmp 2] f
  exact ny1 w4 e4
 have c8 := sl 2310144 a0.Yb u0
 have f := ms f e4
 refine lp1 (jS.eq_2 a0) (fun rP => Yn 167 [eX 3 (a0.Frame.row.map .d), eL 155 1 a0.YO iR, eI 156 (a0.YO.length : Int), eI 157 (rP : Int)]) (fun n5 rP => a0.YO.length < n5 + rP /\ rP <= a0.YO.length) (a0.YO.length + 1) 0 (fun p5 rP e5 j5 => ?_)
 try dsimp only at j5
 refine cFf e5 ?_ ?_ <;> intro fE nc e5
 ·have i7 := ix nc
  have ba := ml a0.YO (fE 155 _ rfl)
  have c9 := sl 2310144 a0.YO u0
  have w5 := wr rP
  simp [i7, ZD]
  repeat with_reducible refine yY ?_
  refine cRs (xH a0.Frame.ZF (nth a0.YO rP)) ?_
  refine cF e5 ?_ ?_ <;> intro eU mw e5
  ·have f := ms f e5
   exact rt [.tmp 2] f
  exact ny1 w5 e5
 have ec := sl 2310144 a0.YO u0
 have f := ms f e5
 exact rt [.tmp 2] f
theorem P1 (a0 : Zu) (a1 : Zu) : Sa 68 [a0.row, a1.row] [rB (yw a0 a1)] := by
 have f := me (yw.eq_1 a0 a1)
 refine so func68 ntmps68 ?_
 refine cF f ?_ ?_ <;> intro k1 h1 f
 ·exact rt [.tmp 4] f
 refine okL fun k2 => ?_
 refine lp1 (y6.eq_2 a0 a1) (fun J => Yn 101 [eX 2 (a0.row.map .d), eX 3 (a1.row.map .d), eI 49 (a0.Zq.length : Int), eI 50 (J : Int)]) (fun n1 J => a0.Zq.length < n1 + J /\ J <= a0.Zq.length) (a0.Zq.length + 1) 0 (fun p1 J e1 j1 => ?_)
 refine cF e1 ?_ ?_ <;> intro k3 h2 e1
 ·have i1 := ix h2
  have m2 := ml a0.Zq (k2 9 _ rfl)
  have w1 := wr J
  refine dIo mixed ?_
  have i2 := ik J a1.Zq
  simp [i1, ZD, i2]
  refine rpS ?_
  refine cF e1 ?_ ?_ <;> intro k5 h3 e1
  ·have f := ms f e1
   exact rt [.tmp 4] f
  exact ny1 w1 e1
 have f := ms f e1
 refine okL fun k6 => ?_
 refine lp1 (xA.eq_2 a0 a1) (fun uI => Yn 101 [eX 2 (a0.row.map .d), eX 3 (a1.row.map .d), eI 67 (a0.ZF.length : Int), eI 68 (uI : Int)]) (fun n2 uI => a0.ZF.length < n2 + uI /\ uI <= a0.ZF.length) (a0.ZF.length + 1) 0 (fun p2 uI e2 j2 => ?_)
 refine cF e2 ?_ ?_ <;> intro k7 h4 e2
 ·have i3 := ix h4
  have m4 := ml a0.ZF (k6 66 _ rfl)
  have w2 := wr uI
  refine dIo mixed ?_
  have i4 := ik uI a1.ZF
  simp [i3, ZD, i4]
  refine rpS ?_
  refine cF e2 ?_ ?_ <;> intro k9 h5 e2
  ·have f := ms f e2
   exact rt [.tmp 4] f
  exact ny1 w2 e2
 have f := ms f e2
 refine okL fun ox => ?_
 refine lp1 (xF.eq_2 a0 a1) (fun tJ => Yn 101 [eX 2 (a0.row.map .d), eX 3 (a1.row.map .d), eI 85 (a0.Methods.length : Int), eI 86 (tJ : Int)]) (fun n3 tJ => a0.Methods.length < n3 + tJ /\ tJ <= a0.Methods.length) (a0.Methods.length + 1) 0 (fun p3 tJ e3 j3 => ?_)
 refine cF e3 ?_ ?_ <;> intro iU h6 e3
 ·have i5 := ix h6
  have m6 := ml a0.Methods (ox 84 _ rfl)
  have w3 := wr tJ
  refine dIo mixed ?_
  have i6 := ik tJ a1.Methods
  simp [i5, ZD, i6]
  refine rpS ?_
  refine cF e3 ?_ ?_ <;> intro nf h7 e3
  ·have f := ms f e3
   exact rt [.tmp 4] f
  exact ny1 w3 e3
 have f := ms f e3
 exact rt [.tmp 4] f
theorem Rl (a0 : List ByteArray) (a1 : List ByteArray) : Sa 294 [rL 1 sR a0, rL 1 sR a1] [rB (xr a0 a1)] := by
 have f := me (xr.eq_1 a0 a1)
 refine so func294 ntmps294 ?_
 refine cF f ?_ ?_ <;> intro k1 h1 f
 ·exact rt [.tmp 4] f
 refine lp1 (yj.eq_2 a0 a1) (fun J => Yn 26 [eL 0 1 a0 sR, eL 1 1 a1 sR, eI 12 (a0.length : Int), eI 13 (J : Int)]) (fun n1 J => a0.length < n1 + J /\ J <= a0.length) (a0.length + 1) 0 (fun p1 J e1 j1 => ?_)
 refine cF e1 ?_ ?_ <;> intro k3 h2 e1
 ·have i1 := ix h2
  have m2 := ml a0 (k3 0 _ rfl)
  have w1 := wr J
  refine dIo mixed ?_
  have i2 := ik J a1
  simp [i1, ZD, i2]
  refine rpS ?_
  refine cF e1 ?_ ?_ <;> intro k5 h3 e1
  ·have f := ms f e1
   exact rt [.tmp 4] f
  exact ny1 w1 e1
 have f := ms f e1
 exact rt [.tmp 4] f
theorem T5 (a0 : ZU) (a1 : ZU) : Sa 223 [a0.row, a1.row] [rB (Ki a0 a1)] := by
 have f := me (Ki.eq_1 a0 a1)
 refine so func223 ntmps223 ?_
 refine cGs (fun gg => (Rl a0.Y3 a1.Y3)) ?_
 refine cGs (fun gg => (Kh a0.QL a1.QL)) ?_
 exact rt [.tmp 4] f
theorem U9 (a0 : List Ze) (a1 : List Ze) : Sa 295 [rL 3 Ze.row a0, rL 3 Ze.row a1] [rB (zl a0 a1)] := by
 have f := me (zl.eq_1 a0 a1)
 refine so func295 ntmps295 ?_
 refine cF f ?_ ?_ <;> intro k1 h1 f
 ·exact rt [.tmp 4] f
 refine lp1 (Kd.eq_2 a0 a1) (fun J => Yn 27 [eL 0 3 a0 Ze.row, eL 1 3 a1 Ze.row, eI 12 (a0.length : Int), eI 13 (J : Int)]) (fun n1 J => a0.length < n1 + J /\ J <= a0.length) (a0.length + 1) 0 (fun p1 J e1 j1 => ?_)
 refine cF e1 ?_ ?_ <;> intro k3 h2 e1
 ·have i1 := ix h2
  have m2 := ml a0 (k3 0 _ rfl)
  have w1 := wr J
  refine dIo mixed ?_
  have i2 := ik J a1
  simp [i1, ZD, i2]
  refine rpS ?_
  refine cRs (qS (nth a0 J) (nth a1 J)) ?_
  refine cF e1 ?_ ?_ <;> intro k5 h3 e1
  ·have f := ms f e1
   exact rt [.tmp 4] f
  exact ny1 w1 e1
 have f := ms f e1
 exact rt [.tmp 4] f
theorem Ph (a0 : List Zp) (a1 : List Zp) : Sa 333 [rL 5 Zp.row a0, rL 5 Zp.row a1] [rB (jE a0 a1)] := by
 have f := me (jE.eq_1 a0 a1)
 refine so func333 ntmps333 ?_
 refine cF f ?_ ?_ <;> intro k1 h1 f
 ·exact rt [.tmp 4] f
 refine lp1 (xC.eq_2 a0 a1) (fun J => Yn 26 [eL 0 5 a0 Zp.row, eL 1 5 a1 Zp.row, eI 12 (a0.length : Int), eI 13 (J : Int)]) (fun n1 J => a0.length < n1 + J /\ J <= a0.length) (a0.length + 1) 0 (fun p1 J e1 j1 => ?_)
 refine cF e1 ?_ ?_ <;> intro k3 h2 e1
 ·have i1 := ix h2
  have m2 := ml a0 (k3 0 _ rfl)
  have w1 := wr J
  refine dIo mixed ?_
  have i2 := ik J a1
  simp [i1, ZD, i2]
  refine rpS ?_
  refine cF e1 ?_ ?_ <;> intro k5 h3 e1
  ·have f := ms f e1
   exact rt [.tmp 4] f
  exact ny1 w1 e1
 have f := ms f e1
 exact rt [.tmp 4] f
theorem S9 (a0 : Zb) (a1 : Zb) : Sa 296 [a0.row, a1.row] [rB (J3 a0 a1)] := by
 have f := me (J3.eq_1 a0 a1)
 refine so func296 ntmps296 ?_
 refine cF f ?_ ?_ <;> intro k1 h1 f
 ·exact rt [.tmp 4] f
 refine okL fun k2 => ?_
 refine lp1 (zh.eq_2 a0 a1) (fun J => Yn 57 [eX 2 (a0.row.map .d), eX 3 (a1.row.map .d), eI 36 (a0.Path.length : Int), eI 37 (J : Int)]) (fun n1 J => a0.Path.length < n1 + J /\ J <= a0.Path.length) (a0.Path.length + 1) 0 (fun p1 J e1 j1 => ?_)
 refine cF e1 ?_ ?_ <;> intro k3 h2 e1
 ·have i1 := ix h2
  have m2 := ml a0.Path (k2 35 _ rfl)
  have w1 := wr J
  refine dIo mixed ?_
  have i2 := ik J a1.Path
  simp [i1, ZD, i2]
  refine rpS ?_
  refine cF e1 ?_ ?_ <;> intro k5 h3 e1
  ·have f := ms f e1
   exact rt [.tmp 4] f
  exact ny1 w1 e1
 have f := ms f e1
 refine cRs (Ph a0.Xh a1.Xh) ?_
 exact rt [.tmp 4] f
theorem Rg (a0 : Zi) (a1 : Zi) : Sa 224 [a0.row, a1.row] [rB (yB a0 a1)] := by
 have f := me (yB.eq_1 a0 a1)
 refine so func224 ntmps224 ?_
 refine cRs (U9 a0.ZL a1.ZL) ?_
 refine cF f ?_ ?_ <;> intro k1 h1 f
 ·exact rt [.tmp 4] f
 refine okL fun k2 => ?_
 refine lp1 (yT.eq_2 a0 a1) (fun J => Yn 40 [eX 2 (a0.row.map .d), eX 3 (a1.row.map .d), eI 23 (a0.Zl.length : Int), eI 24 (J : Int)]) (fun n1 J => a0.Zl.length < n1 + J /\ J <= a0.Zl.length) (a0.Zl.length + 1) 0 (fun p1 J e1 j1 => ?_)
 refine cF e1 ?_ ?_ <;> intro k3 h2 e1
 ·have i1 := ix h2
  have m2 := ml a0.Zl (k2 22 _ rfl)
  have w1 := wr J
  refine dIo mixed ?_
  have i2 := ik J a1.Zl
  simp [i1, ZD, i2]
  refine rpS ?_
  refine cRs (S9 (nth a0.Zl J) (nth a1.Zl J)) ?_
  refine cF e1 ?_ ?_ <;> intro k5 h3 e1
  ·have f := ms f e1
   exact rt [.tmp 4] f
  exact ny1 w1 e1
 have f := ms f e1
 exact rt [.tmp 4] f
theorem NM (a0 : ZV) (a1 : ZV) : Sa 153 [a0.row, a1.row] [rB (yZ a0 a1)] := by
 have f := me (yZ.eq_1 a0 a1)
 refine so func153 ntmps153 ?_
 refine cGs (fun gg => (T5 a0.Doc a1.Doc)) ?_
 refine cGs (fun gg => (Rg a0.ZJ a1.ZJ)) ?_
 exact rt [.tmp 4] f
theorem RD (a0 : ZE) (a1 : ZE) : Sa 70 [a0.row, a1.row] [rB (J2 a0 a1)] := by
 have f := me (J2.eq_1 a0 a1)
 refine so func70 ntmps70 ?_
 refine cF f ?_ ?_ <;> intro k1 h1 f
 ·exact rt [.tmp 4] f
 refine okL fun k2 => ?_
 refine lp1 (zk.eq_2 a0 a1) (fun J => Yn 39 [eX 2 (a0.row.map .d), eX 3 (a1.row.map .d), eI 22 (a0.ZC.length : Int), eI 23 (J : Int)]) (fun n1 J => a0.ZC.length < n1 + J /\ J <= a0.ZC.length) (a0.ZC.length + 1) 0 (fun p1 J e1 j1 => ?_)
 refine cF e1 ?_ ?_ <;> intro k3 h2 e1
 ·have i1 := ix h2
  have m2 := ml a0.ZC (k2 21 _ rfl)
  have w1 := wr J
  refine dIo mixed ?_
  have i2 := ik J a1.ZC
  simp [i1, ZD, i2]
  refine rpS ?_
  refine cRs (NM (nth a0.ZC J) (nth a1.ZC J)) ?_
  refine cF e1 ?_ ?_ <;> intro k5 h3 e1
  ·have f := ms f e1
   exact rt [.tmp 4] f
  exact ny1 w1 e1
 have f := ms f e1
 exact rt [.tmp 4] f
theorem Jk (a0 : ZG) (a1 : ZG) : Sa 16 [a0.row, a1.row] [rB (QY a0 a1)] := by
 have f := me (QY.eq_1 a0 a1)
 refine so func16 ntmps16 ?_
 refine cRs (P1 a0.Frame a1.Frame) ?_
 refine cGs (fun gg => (Kh a0.Zy a1.Zy)) ?_
 refine cGs (fun gg => (Kh a0.Yb a1.Yb)) ?_
 refine cGs (fun gg => (Kh a0.YO a1.YO)) ?_
 refine cGs (fun gg => (Kh a0.YF a1.YF)) ?_
 refine cF f ?_ ?_ <;> intro k1 h1 f
 ·exact rt [.tmp 4] f
 refine okL fun k2 => ?_
 refine lp1 (xE.eq_2 a0 a1) (fun J => Yn 107 [eX 2 (a0.row.map .d), eX 3 (a1.row.map .d), eI 72 (a0.ZM.length : Int), eI 73 (J : Int)]) (fun n1 J => a0.ZM.length < n1 + J /\ J <= a0.ZM.length) (a0.ZM.length + 1) 0 (fun p1 J e1 j1 => ?_)
 refine cF e1 ?_ ?_ <;> intro k3 h2 e1
 ·have i1 := ix h2
  have m2 := ml a0.ZM (k2 71 _ rfl)
  have w1 := wr J
  refine dIo mixed ?_
  have i2 := ik J a1.ZM
  simp [i1, ZD, i2]
  refine rpS ?_
  refine cF e1 ?_ ?_ <;> intro k5 h3 e1
  ·have f := ms f e1
   exact rt [.tmp 4] f
  exact ny1 w1 e1
 have f := ms f e1
 refine okL fun k6 => ?_
 refine lp1 (y5.eq_2 a0 a1) (fun uI => Yn 107 [eX 2 (a0.row.map .d), eX 3 (a1.row.map .d), eI 90 (a0.ZA.length : Int), eI 91 (uI : Int)]) (fun n2 uI => a0.ZA.length < n2 + uI /\ uI <= a0.ZA.length) (a0.ZA.length + 1) 0 (fun p2 uI e2 j2 => ?_)
 refine cF e2 ?_ ?_ <;> intro k7 h4 e2
 ·have i3 := ix h4
  have m4 := ml a0.ZA (k6 89 _ rfl)
  have w2 := wr uI
  refine dIo mixed ?_
  have i4 := ik uI a1.ZA
  simp [i3, ZD, i4]
  refine rpS ?_
  refine cRs (RD (nth a0.ZA uI) (nth a1.ZA uI)) ?_
  refine cF e2 ?_ ?_ <;> intro k9 h5 e2
  ·have f := ms f e2
   exact rt [.tmp 4] f
  exact ny1 w2 e2
 have f := ms f e2
 exact rt [.tmp 4] f
theorem xf (a0 : Int) : Sa 19 [rI a0] [rS (zt a0)] := by
 have f := me (zt.eq_1 a0)
 refine so func19 ntmps19 ?_
 refine cRs (Zx a0 1 10) ?_
 refine cFo f ?_ ?_ <;> intro k1 h1 f
 ·have q1 := h1; try simp [ZZ] at q1
  simp
  exact rt [.tmp 2] f
 have q1 := h1; try simp [ZZ] at q1
 have r1 : ∀ i : Nat, i < 11 -> cut [At.d (.str (⟨#[]⟩ : ByteArray)), At.d (.str (⟨#[116, 105, 99, 107]⟩ : ByteArray)), At.d (.str (⟨#[115, 105, 103, 110]⟩ : ByteArray)), At.d (.str (⟨#[97, 110, 115, 119, 101, 114]⟩ : ByteArray)), At.d (.str (⟨#[114, 101, 118, 111, 107, 101]⟩ : ByteArray)), At.d (.str (⟨#[114, 101, 110, 101, 119]⟩ : ByteArray)), At.d (.str (⟨#[109, 111, 118, 101]⟩ : ByteArray)), At.d (.str (⟨#[102, 111, 114, 103, 101, 116]⟩ : ByteArray)), At.d (.str (⟨#[102, 111, 114, 103, 101]⟩ : ByteArray)), At.d (.str (⟨#[98, 97, 99, 107, 100, 97, 116, 101]⟩ : ByteArray)), At.d (.str (⟨#[102, 97, 107, 101]⟩ : ByteArray))] i 1 = [At.d (.str (nth ([(⟨#[]⟩ : ByteArray), (⟨#[116, 105, 99, 107]⟩ : ByteArray), (⟨#[115, 105, 103, 110]⟩ : ByteArray), (⟨#[97, 110, 115, 119, 101, 114]⟩ : ByteArray), (⟨#[114, 101, 118, 111, 107, 101]⟩ : ByteArray), (⟨#[114, 101, 110, 101, 119]⟩ : ByteArray), (⟨#[109, 111, 118, 101]⟩ : ByteArray), (⟨#[102, 111, 114, 103, 101, 116]⟩ : ByteArray), (⟨#[102, 111, 114, 103, 101]⟩ : ByteArray), (⟨#[98, 97, 99, 107, 100, 97, 116, 101]⟩ : ByteArray), (⟨#[102, 97, 107, 101]⟩ : ByteArray)] : List ByteArray) i))] := by intro i h; (have z : i = 0 \/ i = 1 \/ i = 2 \/ i = 3 \/ i = 4 \/ i = 5 \/ i = 6 \/ i = 7 \/ i = 8 \/ i = 9 \/ i = 10 := by omega); rcases z with rfl | rfl | rfl | rfl | rfl | rfl | rfl | rfl | rfl | rfl | rfl <;> rfl
 have i1 : a0.toNat < 11 := by first | omega | ((try simp only [XL, show ∀ x, IntKind.i64.wrap x = W x from fun _ => rfl] at *); omega)
 have ig := r1 _ i1; simp only [cut] at ig
 simp [r1 _ i1, ig]
 refine rpS ?_
 exact rt [.tmp 2] f
theorem qH (a0 : List Zg) (a1 : Int) : Sa 20 [rL 9 Zg.row a0, rI a1] [rI (yC a0 a1)] := by
 have f := me (yC.eq_1 a0 a1)
 refine so func20 ntmps20 ?_
 refine lp2 (zR.eq_2 a0 a1) (fun J U => Yn 22 [eI 1 a1, eI 5 J, eL 8 9 a0 Zg.row, eI 9 (a0.length : Int), eI 10 (U : Int)]) (fun n1 J U => a0.length < n1 + U /\ U <= a0.length) (a0.length + 1) 0 0 (fun p1 J U e1 j1 => ?_)
 refine cFf e1 ?_ ?_ <;> intro k2 h1 e1
 ·have i1 := ix h1
  have m2 := ml a0 (k2 8 _ rfl)
  have w1 := wr U
  simp [i1, ZD]
  refine rpS ?_
  refine cF e1 ?_ ?_ <;> intro k3 h2 e1
  ·exact ny2 w1 e1
  exact ny2 w1 e1
 have f := ms f e1
 exact rt [.tmp 4] f
theorem qt (a0 : List Zg) : Sa 21 [rL 9 Zg.row a0] [rB (qY a0)] := by
 have f := me (qY.eq_1 a0)
 refine so func21 ntmps21 ?_
 refine lp1 (j0.eq_2 a0) (fun J => Yn 15 [eL 5 9 a0 Zg.row, eI 6 (a0.length : Int), eI 7 (J : Int)]) (fun n1 J => a0.length < n1 + J /\ J <= a0.length) (a0.length + 1) 0 (fun p1 J e1 j1 => ?_)
 refine cFf e1 ?_ ?_ <;> intro k2 h1 e1
 ·have i1 := ix h1
  have m2 := ml a0 (k2 5 _ rfl)
  have w1 := wr J
  simp [i1, ZD]
  refine rpS ?_
  refine cRs (Zx (nth a0 J).Kind 8 10) ?_
  refine cFo e1 ?_ ?_ <;> intro k3 h2 e1
  ·have q2 := h2; try simp [ZZ] at q2
   have f := ms f e1
   simp
   exact rt [.tmp 2] f
  have q2 := h2; try simp [ZZ] at q2
  simp
  exact ny1 w1 e1
 have f := ms f e1
 exact rt [.tmp 2] f
end Go.Proofs.YthjkhlcbpfnobaaGreat
