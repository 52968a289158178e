/- Contracts of the functions GP the abstract machine, part I1. No condition. -/
import Derived.Test.YtngnbcmfckmklaaGreatL
import Derived.Test.YtngnbcmfckmklaaGreatTy
namespace Go.Proofs.YtngnbcmfckmklaaGreat
open Tryz
open Go.Vm Go.Mo
set_option maxHeartbeats 1000000
set_option maxRecDepth 100000
set_option linter.unusedSimpArgs false
set_option linter.unusedVariables false
theorem Fs (a0 : Zq) (u0 : Sm 2342912 a0) : Sd 66 [a0.row] [(Rl a0).row] := by
 have f := me (Rl.eq_1 a0)
 have c1 := sl 2342912 a0.Zm u0
 have c2 := sl 2342912 a0.ZE u0
 have c3 := sl 2342912 a0.Methods u0
 refine soD func66 ntmps66 ?_
 exact rtD [.cell 2 39] f
theorem Iy (a0 : Zq) (u0 : Sm 2342912 a0) : Sd 66 [a0.row] [a0.row] := by
  have h := Fs a0 u0
  rwa [F7] at h
theorem E0 (a0 : List Int) (u0 : Sm 2342912 a0) : Sd 67 [rL 1 iR a0] [rL 1 iR (Ov a0)] := by
 have f := me (Ov.eq_1 a0)
 have c1 := sl 2342912 a0 u0
 refine soD func67 ntmps67 ?_
 exact rtD [.tmp 2] f
theorem yH (a0 : List Int) (u0 : Sm 2342912 a0) : Sd 67 [rL 1 iR a0] [rL 1 iR a0] := by
  have h := E0 a0 u0
  rwa [Dl] at h
theorem Np (a0 : ZT) (u0 : Sm 2338816 a0) : Sd 187 [a0.row] [(Vt a0).row] := by
 have f := me (Vt.eq_1 a0)
 refine soD func187 ntmps187 ?_
 refine FO [2, 3, 4, 5, 0, 1, 6, 7, 8, 9, 10] mixed (by kernel_rfl) (by kernel_rfl) (by kernel_rfl) ?_
 have c1 := sl 2338816 a0.ZU u0
 simp
 refine rpS ?_
 refine cDs [false] (yH a0.Zk (sg (ZT.GM u0))) ?_
 exact rtD [.cell 2 66] f
theorem O2 (a0 : ZT) (u0 : Sm 2338816 a0) : Sd 187 [a0.row] [a0.row] := by
  have h := Np a0 u0
  rwa [Nz] at h
theorem Fz (a0 : ZO) (u0 : Sm 2338816 a0) : Sd 272 [a0.row] [(PE a0).row] := by
 have f := me (PE.eq_1 a0)
 refine soD func272 ntmps272 ?_
 refine cDs [false] (yH a0.Ys (sg (ZO.uv u0))) ?_
 exact rtD [.cell 2 145] f
theorem RE (a0 : ZO) (u0 : Sm 2338816 a0) : Sd 272 [a0.row] [a0.row] := by
  have h := Fz a0 u0
  rwa [G1] at h
theorem IX (a0 : List ZO) (u0 : Sm 2334720 a0) : Sd 241 [rL 3 ZO.row a0] [rL 3 ZO.row (W5 a0)] := by
 have f := me (W5.eq_1 a0)
 refine soD func241 ntmps241 ?_
 refine lp2 (ju.eq_2 a0) (fun J U => YT 19 [(3, .one (.sref 3 0 0 J.length), [.arr true 3 (J.map ZO.row)]), eL 6 3 a0 ZO.row, eI 7 (a0.length : Int), eI 8 (U : Int)]) (fun n1 J U => a0.length < n1 + U /\ U <= a0.length /\ J.length <= 0 + 1 * U) (a0.length + 1) ([] : List ZO) 0 (fun p1 J U e1 j1 => ?_) (h0 := wkS [((3, 0), none)] [])
 refine cFf e1 ?_ ?_ <;> intro k2 h1 e1
 ·have i1 := ix h1
  have m2 := ml a0 (k2 6 _ rfl)
  have c1 := sl 2334720 a0 u0
  have w1 := wr U
  simp [i1, ZB]
  refine rpS ?_
  refine cDs [true, false] (RE (nth a0 U) (sg (Z7 u0))) ?_
  refine W2 ?_
  simp
  refine UL (iT := (J.map ZO.row)) (news := (([(nth a0 U)] : List ZO).map ZO.row)) (l1 := [(3, 0)]) (l2 := [(14, 1)]) (size := 3) ?_
  simp
  exact nx2 e1 (hw := Xf [((3, 0), some (16, 0))] [] rfl (by simp [w1]))
 have c2 := sl 2334720 a0 u0
 have f := ms f e1
 exact rtD [.tmp 2] f
theorem Mt (a0 : List ZO) (u0 : Sm 2334720 a0) : Sd 241 [rL 3 ZO.row a0] [rL 3 ZO.row a0] := by
  have h := IX a0 u0
  rwa [Ie] at h
theorem I9 (a0 : List ZW) (u0 : Sm 2342912 a0) : Sd 259 [rL 5 ZW.row a0] [rL 5 ZW.row (SS a0)] := by
 have f := me (SS.eq_1 a0)
 have c1 := sl 2342912 a0 u0
 refine soD func259 ntmps259 ?_
 exact rtD [.tmp 2] f
theorem LY (a0 : List ZW) (u0 : Sm 2342912 a0) : Sd 259 [rL 5 ZW.row a0] [rL 5 ZW.row a0] := by
  have h := I9 a0 u0
  rwa [Im] at h
theorem LF (a0 : ZK) (u0 : Sm 2338816 a0) : Sd 214 [a0.row] [(Uv a0).row] := by
 have f := me (Uv.eq_1 a0)
 have c1 := sl 2338816 a0.Path u0
 refine soD func214 ntmps214 ?_
 refine cDs [false] (LY a0.Yi (sg (ZK.Cv u0))) ?_
 exact rtD [.cell 2 171] f
theorem Uh (a0 : ZK) (u0 : Sm 2338816 a0) : Sd 214 [a0.row] [a0.row] := by
  have h := LF a0 u0
  rwa [Ml] at h
theorem Iz (a0 : Za) (u0 : Sm 2330624 a0) : Sd 188 [a0.row] [(VK a0).row] := by
 have f := me (VK.eq_1 a0)
 refine soD func188 ntmps188 ?_
 refine cDs [] (Mt a0.ZL (sg (Za.km u0))) ?_
 refine lp2 (kN.eq_2 a0) (fun J U => YT 26 [(2, .one (.bptr 2 0), [.box [.nil 3, .nil 5]]), (3, .one (.bptr 3 0), [.box [.sref 8 0 0 a0.ZL.length, .sref 3 2 0 U.length], .none, .arr true 5 (U.map ZK.row)]), (8, .any, [.arr true 3 (a0.ZL.map ZO.row)]), eL 11 5 a0.Zf ZK.row, eI 12 (a0.Zf.length : Int), eI 13 (J : Int)]) (fun n1 J U => a0.Zf.length < n1 + J /\ J <= a0.Zf.length /\ U.length <= 0 + 1 * J) (a0.Zf.length + 1) 0 ([] : List ZK) (fun p1 J U e1 j1 => ?_) (h0 := wkS [((3, 2), none)] [])
 refine cFf e1 ?_ ?_ <;> intro k2 h1 e1
 ·have i1 := ix h1
  have m2 := ml a0.Zf (k2 11 _ rfl)
  have c1 := sl 2330624 a0.Zf u0
  have w1 := wr J
  simp [i1, ZB]
  refine rpS ?_
  refine drJ [22] mixed ?_
  simp
  refine cDs [true, true, true, false, false] (Uh (nth a0.Zf J) (sg (Z7 (Za.kH u0)))) ?_
  refine W2 ?_
  simp
  refine UL (iT := (U.map ZK.row)) (news := (([(nth a0.Zf J)] : List ZK).map ZK.row)) (l1 := [(3, 2)]) (l2 := [(20, 3), (20, 4)]) (size := 5) ?_
  simp
  exact nx2 e1 (hw := Xf [((3, 2), some (22, 0))] [] rfl (by simp [w1]))
 have c2 := sl 2330624 a0.Zf u0
 have f := ms f e1
 exact rtD [.cell 2 128] f
theorem z4 (a0 : Za) (u0 : Sm 2330624 a0) : Sd 188 [a0.row] [a0.row] := by
  have h := Iz a0 u0
  rwa [Ha] at h
theorem Dp (a0 : ZM) (u0 : Sm 2326528 a0) : Sd 128 [a0.row] [(NG a0).row] := by
 have f := me (NG.eq_1 a0)
 refine soD func128 ntmps128 ?_
 refine cDs [true, false, false] (O2 a0.Doc (sg (ZM.kp u0))) ?_
 refine cDs [] (z4 a0.ZJ (sg (ZM.Jo u0))) ?_
 exact rtD [.cell 2 130] f
theorem xO (a0 : ZM) (u0 : Sm 2326528 a0) : Sd 128 [a0.row] [a0.row] := by
  have h := Dp a0 u0
  rwa [De] at h
theorem LO (a0 : ZC) (u0 : Sm 2322432 a0) : Sd 68 [a0.row] [(WC a0).row] := by
 have f := me (WC.eq_1 a0)
 refine soD func68 ntmps68 ?_
 refine lp2 (qu.eq_2 a0) (fun J U => YT 25 [(2, .one (.bptr 2 0), [.box [.d (.int .i64 0), .nil 16]]), (3, .one (.bptr 3 0), [.box [.d (.int .i64 a0.Id), .sref 3 2 0 U.length], .none, .arr true 16 (U.map ZM.row)]), eL 10 16 a0.ZD ZM.row, eI 11 (a0.ZD.length : Int), eI 12 (J : Int)]) (fun n1 J U => a0.ZD.length < n1 + J /\ J <= a0.ZD.length /\ U.length <= 0 + 1 * J) (a0.ZD.length + 1) 0 ([] : List ZM) (fun p1 J U e1 j1 => ?_) (h0 := wkS [((3, 2), none)] [])
 refine cFf e1 ?_ ?_ <;> intro k2 h1 e1
 ·have i1 := ix h1
  have m2 := ml a0.ZD (k2 10 _ rfl)
  have c1 := sl 2322432 a0.ZD u0
  have w1 := wr J
  simp [i1, ZB]
  refine rpS ?_
  refine drJ [21] mixed ?_
  simp
  refine cDs [true, true, true, false, false] (xO (nth a0.ZD J) (sg (Z7 (ZC.YO u0)))) ?_
  refine W2 ?_
  simp
  refine UL (iT := (U.map ZM.row)) (news := (([(nth a0.ZD J)] : List ZM).map ZM.row)) (l1 := [(3, 2)]) (l2 := [(19, 3), (19, 4), (19, 14), (19, 15)]) (size := 16) ?_
  simp
  exact nx2 e1 (hw := Xf [((3, 2), some (21, 0))] [] rfl (by simp [w1]))
 have c2 := sl 2322432 a0.ZD u0
 have f := ms f e1
 exact rtD [.cell 2 94] f
theorem YV (a0 : ZC) (u0 : Sm 2322432 a0) : Sd 68 [a0.row] [a0.row] := by
  have h := LO a0 u0
  rwa [LK] at h
theorem F9 (a0 : ZH) (u0 : Sm 2318336 a0) : Sd 27 [a0.row] [(Uf a0).row] := by
 have f := me (Uf.eq_1 a0)
 refine soD func27 ntmps27 ?_
 refine dIs mixed ?_
 have c1 := sl 2318336 a0.ZN u0
 refine cDs [false, false, false] (Iy a0.Frame (sg (ZH.Xj u0))) ?_
 refine cDs [false] (yH a0.Zl (sg (ZH.wL u0))) ?_
 refine cDs [false] (yH a0.YX (sg (ZH.Cy u0))) ?_
 refine cDs [false] (yH a0.YJ (sg (ZH.wC u0))) ?_
 refine cDs [false] (yH a0.Z4 (sg (ZH.Pw u0))) ?_
 refine lp2 (WO.eq_2 a0) (fun J U => YT 44 [(2, .one (.bptr 2 0), [.box [.nil 5, .nil 3, .nil 4, .d (.int .i64 0), .d (.int .i64 0), .nil 7, .nil 1, .nil 2, .nil 1, .nil 1, .d (.int .i64 0), .nil 1]]), (3, .one (.bptr 3 0), [.box [.sref 8 0 0 a0.Frame.Zm.length, .sref 8 1 0 a0.Frame.ZE.length, .sref 8 2 0 a0.Frame.Methods.length, .d (.int .i64 a0.Frame.KZ), .d (.int .i64 a0.Frame.Now), .sref 12 0 0 a0.ZN.length, .sref 15 0 0 a0.Zl.length, .sref 3 8 0 U.length, .sref 18 0 0 a0.YX.length, .sref 21 0 0 a0.YJ.length, .d (.int .i64 a0.Next), .sref 26 0 0 a0.Z4.length], .none, .none, .none, .none, .none, .none, .none, .arr true 2 (U.map ZC.row)]), (8, .any, [.arr false 5 (a0.Frame.Zm.map YZ.row), .arr false 3 (a0.Frame.ZE.map ZR.row), .arr false 4 (a0.Frame.Methods.map Zj.row)]), (12, .any, [.arr false 7 (a0.ZN.map Z1.row)]), (15, .any, [.arr false 1 (a0.Zl.map iR)]), (18, .any, [.arr false 1 (a0.YX.map iR)]), (21, .any, [.arr false 1 (a0.YJ.map iR)]), (26, .any, [.arr false 1 (a0.Z4.map iR)]), eL 29 2 a0.ZA ZC.row, eI 30 (a0.ZA.length : Int), eI 31 (J : Int)]) (fun n1 J U => a0.ZA.length < n1 + J /\ J <= a0.ZA.length /\ U.length <= 0 + 1 * J) (a0.ZA.length + 1) 0 ([] : List ZC) (fun p1 J U e1 j1 => ?_) (h0 := wkS [((3, 8), none)] [])
 refine cFf e1 ?_ ?_ <;> intro k3 h1 e1
 ·have i1 := ix h1
  have m2 := ml a0.ZA (k3 29 _ rfl)
  have c2 := sl 2318336 a0.ZA u0
  have w1 := wr J
  simp [i1, ZB]
  refine rpS ?_
  refine drJ [40] mixed ?_
  simp
  refine cDs [] (YV (nth a0.ZA J) (sg (Z7 (ZH.YW u0)))) ?_
  refine W2 ?_
  simp
  refine UL (iT := (U.map ZC.row)) (news := (([(nth a0.ZA J)] : List ZC).map ZC.row)) (l1 := [(3, 8)]) (l2 := [(38, 1)]) (size := 2) ?_
  simp
  exact nx2 e1 (hw := Xf [((3, 8), some (40, 0))] [] rfl (by simp [w1]))
 have c3 := sl 2318336 a0.ZA u0
 have f := ms f e1
 exact rtD [.cell 2 43] f
theorem YA (a0 : ZH) (u0 : Sm 2318336 a0) : Sd 27 [a0.row] [a0.row] := by
  have h := F9 a0 u0
  rwa [GO] at h
theorem Yb (a0 : Int) (a1 : Int) (a2 : Int) : Sa 129 [rI a0, rI a1, rI a2] [rB (Zn a0 a1 a2)] := by
 have f := me (Zn.eq_1 a0 a1 a2)
 refine so func129 ntmps129 ?_
 exact rt [.tmp 6] f
theorem DD (a0 : ZH) (a1 : Int) (u0 : Sm 2314240 a0) : Sd 69 [a0.row, rI a1] [(ya a0 a1).1.row, rB (ya a0 a1).2] := by
 have f := me (ya.eq_1 a0 a1)
 refine soD func69 ntmps69 ?_
 refine cDs [false, false, false, true, true, false, false, true, false, false, true, false] (YA a0 (sg u0)) ?_
 refine cRs (Yb a1 0 100) ?_
 refine cFo f ?_ ?_ <;> intro k1 h1 f
 ·have q1 := h1; try simp [Zn] at q1
  simp
  exact rtD [.cell 4 43, .tmp 5] f
 have q1 := h1; try simp [Zn] at q1
 simp
 exact rtD [.cell 4 43, .tmp 5] f
theorem yW (a0 : List YZ) (a1 : Int) : Sa 130 [rL 5 YZ.row a0, rI a1] [rI (YD a0 a1)] := by
 have f := me (YD.eq_1 a0 a1)
 refine so func130 ntmps130 ?_
 refine lp1 (ja.eq_2 a0 a1) (fun J => YT 20 [eI 1 a1, eL 7 5 a0 YZ.row, eI 8 (a0.length : Int), eI 9 (J : Int)]) (fun n1 J => a0.length < n1 + J /\ J <= a0.length) (a0.length + 1) 0 (fun p1 J e1 j1 => ?_)
 refine cFf e1 ?_ ?_ <;> intro k2 h1 e1
 ·have i1 := ix h1
  have m2 := ml a0 (k2 7 _ rfl)
  have w1 := wr J
  simp [i1, ZB]
  refine rpS ?_
  refine cF e1 ?_ ?_ <;> intro k3 h2 e1
  ·have f := ms f e1
   exact rt [.tmp 4] f
  exact ny1 w1 e1
 have f := ms f e1
 exact rt [.tmp 4] f
theorem qp (a0 : List Zj) (a1 : Int) : Sa 134 [rL 4 Zj.row a0, rI a1] [rI (ZP a0 a1)] := by
 have f := me (ZP.eq_1 a0 a1)
 refine so func134 ntmps134 ?_
 refine lp2 (z7.eq_2 a0 a1) (fun J U => YT 48 [eL 0 4 a0 Zj.row, eI 1 a1, eI 5 J, eL 8 4 a0 Zj.row, eI 9 (a0.length : Int), eI 10 (U : Int)]) (fun n1 J U => a0.length < n1 + U /\ U <= a0.length /\ -1 <= J /\ J < (a0.length : Int)) (a0.length + 1) (-1) 0 (fun p1 J U e1 j1 => ?_)
 try dsimp only at j1
 refine cFf e1 ?_ ?_ <;> intro k2 h1 e1
 ·have i1 := ix h1
  have m2 := ml a0 (k2 0 _ rfl)
  have w1 := wr U
  simp [i1, ZB]
  refine rpS ?_
  refine dIs mixed ?_
  refine gIf ?_ ?_ <;> intro G
  ·have i2 := ik J.toNat a0
   simp [i2, ZB, G]
   refine rpG ?_
   refine cK e1 ?_ ?_ <;> intro k4 h2 e1
   ·exact ny2 (an w1 G) e1 (hI := by first | omega | (simp at *; omega))
   ·exact ny2 (an w1 G) e1 (hI := by first | omega | (simp at *; omega))
  ·refine cK e1 ?_ ?_ <;> intro k5 h3 e1
   ·exact ny2 (an w1 G) e1 (hI := by first | omega | (simp at *; omega))
   ·exact ny2 (an w1 G) e1 (hI := by first | omega | (simp at *; omega))
 have f := ms f e1
 refine cFt f ?_ ?_ <;> intro k6 h4 f
 ·exact rt [.tmp 4] f
 have i4 := ik J.toNat a0
 simp [i4, ZB]
 refine rpS ?_
 exact rt [.tmp 4] f
theorem yI (a0 : ZH) (a1 : Int) : Sa 135 [a0.row, rI a1] [rB (YR a0 a1)] := by
 have f := me (YR.eq_1 a0 a1)
 refine so func135 ntmps135 ?_
 refine cRs (Yb a1 0 (W ((a0.ZA.length : Int) - 1))) ?_
 exact rt [.tmp 4] f
theorem RF (a0 : ZT) : Sa 244 [a0.row] [rB (zg a0)] := by
 have f := me (zg.eq_1 a0)
 refine so func244 ntmps244 ?_
 refine cRs (Yb a0.qn 0 999) ?_
 refine cGs (fun gg => (Yb (a0.ZU.length : Int) 1 6)) ?_
 refine cFo f ?_ ?_ <;> intro k1 h1 f
 ·have q1 := h1; try simp [Zn] at q1
  simp
  exact rt [.tmp 2] f
 have q1 := h1; try simp [Zn] at q1
 simp
 refine lp1 (yB.eq_2 a0) (fun J => YT 46 [eX 1 (a0.row.map .d), eL 26 1 a0.ZU sR, eI 27 (a0.ZU.length : Int), eI 28 (J : Int)]) (fun n1 J => a0.ZU.length < n1 + J /\ J <= a0.ZU.length) (a0.ZU.length + 1) 0 (fun p1 J e1 j1 => ?_)
 refine cFf e1 ?_ ?_ <;> intro k3 h2 e1
 ·have i1 := ix h2
  have m2 := ml a0.ZU (k3 26 _ rfl)
  have w1 := wr J
  simp [i1, ZB]
  refine rpS ?_
  refine gIf ?_ ?_ <;> intro G
  ·have i2 := ik J a0.Zk
   simp [i2, ZB, G]
   refine rpG ?_
   refine cGg (fun gg => (Yb (nth a0.Zk J) 1 1000000000000)) ?_
   refine cKo e1 ?_ ?_ <;> intro k4 h3 e1
   ·have q3 := h3; try simp [Zn] at q3
    have f := ms f e1
    simp [G]
    refine rpG ?_
    exact rtg [.tmp 2] f
   ·have q3 := h3; try simp [Zn] at q3
    simp [G]
    refine rpG ?_
    exact ny1 (an w1 G) e1
  ·refine sGo ?_
   simp [G]
   refine rpG ?_
   refine cKo e1 ?_ ?_ <;> intro k5 h4 e1
   ·have q4 := h4; try simp [Zn] at q4
    have f := ms f e1
    simp [G]
    refine rpG ?_
    exact rtg [.tmp 2] f
   ·simp [G] at h4
 have f := ms f e1
 exact rt [.tmp 2] f
theorem AM (a0 : List UInt8) (u0 : Sm 2342912 a0) : Sd 273 [rL 1 bR a0] [rL 1 iR (kr a0)] := by
 have f := me (kr.eq_1 a0)
 refine soD func273 ntmps273 ?_
 refine lp2 (xo.eq_2 a0) (fun J U => YT 19 [(3, .one (.sref 3 0 0 J.length), [.arr false 1 (J.map iR)]), eL 6 1 a0 bR, eI 7 (a0.length : Int), eI 8 (U : Int)]) (fun n1 J U => a0.length < n1 + U /\ U <= a0.length /\ J.length <= 0 + 1 * U) (a0.length + 1) ([] : List Int) 0 (fun p1 J U e1 j1 => ?_) (h0 := wkS [((3, 0), none)] [])
 refine cFf e1 ?_ ?_ <;> intro k2 h1 e1
 ·have i1 := ix h1
  have m2 := ml a0 (k2 6 _ rfl)
  have c1 := sl 2342912 a0 u0
  have w1 := wr U
  simp [i1, ZB]
  refine rpS ?_
  exact nx2 e1 (hw := Xf [((3, 0), some (16, 0))] [] rfl (by simp [w1]))
 have c2 := sl 2342912 a0 u0
 have f := ms f e1
 exact rtD [.tmp 2] f
theorem ry (a0 : Int) (a1 : Int) : Sa 288 [rI a0, rI a1] [rI (Ak a0 a1)] := by
 have f := me (Ak.eq_1 a0 a1)
 refine so func288 ntmps288 ?_
 refine cRs (Yb a1 1 1000000000000) ?_
 refine cFo f ?_ ?_ <;> intro k1 h1 f
 ·have q1 := h1; try simp [Zn] at q1
  simp
  exact rt [.tmp 4] f
 have q1 := h1; try simp [Zn] at q1
 simp
 refine rpS ?_
 exact rt [.tmp 4] f
theorem CD (a0 : List Int) : Sa 274 [rL 1 iR a0] [rI (Lh a0)] := by
 have f := me (Lh.eq_1 a0)
 refine so func274 ntmps274 ?_
 refine lp2 (Rp.eq_2 a0) (fun J U => YT 21 [eI 3 J, eL 6 1 a0 iR, eI 7 (a0.length : Int), eI 8 (U : Int)]) (fun n1 J U => a0.length < n1 + U /\ U <= a0.length) (a0.length + 1) 11 0 (fun p1 J U e1 j1 => ?_)
 refine cFf e1 ?_ ?_ <;> intro k2 h1 e1
 ·have i1 := ix h1
  have m2 := ml a0 (k2 6 _ rfl)
  have w1 := wr U
  simp [i1, ZB]
  refine rpS ?_
  refine cRs (ry (nth a0 U) 2147483647) ?_
  exact ny2 w1 e1
 have f := ms f e1
 exact rt [.tmp 2] f
theorem K0 (a0 : Int) (a1 : List Int) (u0 : Sm 68719476736 a1) : Sa 246 [rI a0, rL 1 iR a1] [rI (KU a0 a1)] := by
 have f := me (KU.eq_1 a0 a1)
 have c1 := sl 68719476736 a1 u0
 refine so func246 ntmps246 ?_
 refine cRs (CD (([7, a0] : List Int) ++ a1)) ?_
 exact rt [.tmp 4] f
theorem HC (a0 : Int) (a1 : ByteArray) (a2 : Int) (u0 : Sm 2326528 a1) : Sa 245 [rI a0, rS a1, rI a2] [rI (kL a0 a1 a2)] := by
 have f := me (kL.eq_1 a0 a1 a2)
 refine so func245 ntmps245 ?_
 have c1 : a1.size <= 2326528 := Bu (xs u0)
 refine pX (s := a1) rfl rfl rfl (by simp) (by simp) (by simp) (by simp) (by omega) ?_
 simp
 refine cRs (Yv.rd (AM a1.data.toList (by simp [XC]; first | omega | (simp [ByteArray.size] at *; omega)))) ?_
 refine cRs (K0 a0 (([a2] : List Int) ++ (kr a1.data.toList)) (by simp (maxDischargeDepth := 12) [zN, XC, ZZ (m := 68719476736) (by decide) u0]; try omega)) ?_
 exact rt [.tmp 6] f
theorem jo (a0 : Int) (a1 : ZT) (u0 : Sm 2322432 a1) : Sa 190 [rI a0, a1.row] [rI (Yc a0 a1)] := by
 have f := me (Yc.eq_1 a0 a1)
 refine so func190 ntmps190 ?_
 refine cRs (RF a1) ?_
 refine cF f ?_ ?_ <;> intro k1 h1 f
 ·exact rt [.tmp 4] f
 refine lp2 (qd.eq_2 a0 a1) (fun J U => YT 37 [eI 0 a0, eX 3 (a1.row.map .d), (5, .one (.sref 5 0 0 J.length), [.arr false 1 (J.map iR)]), eL 15 1 a1.ZU sR, eI 16 (a1.ZU.length : Int), eI 17 (U : Int)]) (fun n1 J U => a1.ZU.length < n1 + U /\ U <= a1.ZU.length /\ J.length <= 1 + 1 * U) (a1.ZU.length + 1) ([a1.qn] : List Int) 0 (fun p1 J U e1 j1 => ?_) (h0 := wkS [((5, 0), some (13, 0))] [])
 try dsimp only at j1
 refine cFf e1 ?_ ?_ <;> intro k3 h2 e1
 ·have i1 := ix h2
  have m2 := ml a1.ZU (k3 15 _ rfl)
  have c1 := sl 2322432 a1.ZU u0
  have w1 := wr U
  have i2 : U < a1.Zk.length := by (have := Mq (a := a1); first | (simp_all; done) | (simp_all; omega))
  simp [i1, ZB, i2]
  refine rpS ?_
  refine cRs (HC a0 (nth a1.ZU U) (nth a1.Zk U) (sg (Z7 (ZT.NZ u0)))) ?_
  exact nx2 e1 (hw := Xf [((5, 0), some (32, 0))] [] rfl (by simp [w1]))
 have c2 := sl 2322432 a1.ZU u0
 have f := ms f e1
 refine cRs (K0 a0 J (by first | (simp (maxDischargeDepth := 12) [XC]; omega) | (simp (maxDischargeDepth := 12) [ZZ (m := 68719476736) (by decide) u0]; done))) ?_
 exact rt [.tmp 4] f
theorem Vn (a0 : Zc) : Sd 242 [a0.row] [rL 1 iR (QD a0)] := by
 have f := me (QD.eq_1 a0)
 refine soD func242 ntmps242 ?_
 exact rtD [.tmp 2] f
theorem H9 (a0 : Int) (a1 : List Int) (u0 : Sm 2330624 a1) : Sa 276 [rI a0, rL 1 iR a1] [rI (Wd a0 a1)] := by
 have f := me (Wd.eq_1 a0 a1)
 have c1 := sl 2330624 a1 u0
 refine so func276 ntmps276 ?_
 refine cRs (CD ((([a0] : List Int) ++ a1) ++ ([a0] : List Int))) ?_
 exact rt [.tmp 4] f
theorem Dh (a0 : YZ) (a1 : List Int) (u0 : Sm 2326528 a1) : Sa 253 [a0.row, rL 1 iR a1] [rI (V5 a0 a1)] := by
 have f := me (V5.eq_1 a0 a1)
 refine so func253 ntmps253 ?_
 refine FO [2, 3, 4, 5, 6, 0, 1, 7, 8] mixed (by kernel_rfl) (by kernel_rfl) (by kernel_rfl) ?_
 have c1 := sl 2326528 a1 u0
 simp
 refine rpS ?_
 refine cRs (H9 a0.V8 (([a0.Method] : List Int) ++ a1) (by simp (maxDischargeDepth := 12) [zN, XC, ZZ (m := 2330624) (by decide) u0]; try omega)) ?_
 exact rt [.tmp 4] f
theorem PU (a0 : List YZ) (a1 : Int) (a2 : List Int) (u0 : Sm 2322432 a0) (u1 : Sm 2322432 a2) : Sa 203 [rL 5 YZ.row a0, rI a1, rL 1 iR a2] [rI (yz a0 a1 a2).1, rB (yz a0 a1 a2).2] := by
 have f := me (yz.eq_1 a0 a1 a2)
 refine so func203 ntmps203 ?_
 refine cRs (yW a0 a1) ?_
 refine cFt f ?_ ?_ <;> intro k1 h1 f
 ·exact rt [.tmp 6, .tmp 7] f
 have i1 : (YD a0 a1).toNat < a0.length := by have := j9 a0 a1; exact il
 simp [i1, ZB]
 refine rpS ?_
 refine cRs (Dh (nth a0 (YD a0 a1).toNat) a2 (sg u1)) ?_
 exact rt [.tmp 6, .tmp 7] f
theorem LP (a0 : Zc) : Sa 243 [a0.row] [rB (qb a0)] := by
 have f := me (qb.eq_1 a0)
 refine so func243 ntmps243 ?_
 refine cRs (Yb a0.Key 1 99) ?_
 refine cGs (fun gg => (Yb a0.Zi 1 999)) ?_
 refine cGs (fun gg => (Yb a0.Method 0 99)) ?_
 refine cGs (fun gg => (Yb a0.Org 0 99)) ?_
 refine cGs (fun gg => (Yb a0.qX 1 3)) ?_
 refine cGs (fun gg => (Yb a0.Xa 0 1000000000000)) ?_
 refine cGs (fun gg => (Yb a0.qW 0 1000000000000)) ?_
 refine cGs (fun gg => (Yb a0.Wy 0 1000000000000)) ?_
 exact rt [.tmp 2] f
theorem Ix (a0 : List YZ) (a1 : Zc) (u0 : Sm 2318336 a0) : Sa 189 [rL 5 YZ.row a0, a1.row] [(Y5 a0 a1).1.row, rB (Y5 a0 a1).2] := by
 have f := me (Y5.eq_1 a0 a1)
 refine so func189 ntmps189 ?_
 refine dIs mixed ?_
 refine cRs (Yv.rd (Vn a1)) ?_
 refine cRs (PU a0 a1.Key (QD a1) (sg u0) (by simp (maxDischargeDepth := 12) [UG, ZZ (m := 2322432) (by decide) u0]; try omega)) ?_
 refine cRs (LP a1) ?_
 refine cF f ?_ ?_ <;> intro k2 h1 f
 ·exact rt [.cell 4 124, .tmp 5] f
 exact rt [.cell 4 124, .tmp 5] f
theorem Pb (a0 : Zc) : Sd 191 [a0.row] [(Qd a0).row] := by
 have f := me (Qd.eq_1 a0)
 refine soD func191 ntmps191 ?_
 refine dIs mixed ?_
 refine cDs [false] (Vn a0) ?_
 exact rtD [.cell 2 145] f
theorem DP (a0 : Z1) : Sd 247 [a0.row] [rL 1 iR (xR a0)] := by
 have f := me (xR.eq_1 a0)
 refine soD func247 ntmps247 ?_
 exact rtD [.tmp 2] f
theorem FH (a0 : Z1) : Sd 192 [a0.row] [(JL a0).row] := by
 have f := me (JL.eq_1 a0)
 refine soD func192 ntmps192 ?_
 refine dIs mixed ?_
 refine cDs [false] (DP a0) ?_
 exact rtD [.cell 2 145] f
theorem qi (a0 : ZC) (a1 : Int) : Sa 211 [a0.row, rI a1] [rI (ZX a0 a1)] := by
 have f := me (ZX.eq_1 a0 a1)
 refine so func211 ntmps211 ?_
 refine lp1 (yX.eq_2 a0 a1) (fun J => YT 21 [eI 1 a1, eL 8 16 a0.ZD ZM.row, eI 9 (a0.ZD.length : Int), eI 10 (J : Int)]) (fun n1 J => a0.ZD.length < n1 + J /\ J <= a0.ZD.length) (a0.ZD.length + 1) 0 (fun p1 J e1 j1 => ?_)
 refine cFf e1 ?_ ?_ <;> intro k2 h1 e1
 ·have i1 := ix h1
  have m2 := ml a0.ZD (k2 8 _ rfl)
  have w1 := wr J
  simp [i1, ZB]
  refine rpS ?_
  refine cF e1 ?_ ?_ <;> intro k3 h2 e1
  ·have f := ms f e1
   exact rt [.tmp 4] f
  exact ny1 w1 e1
 have f := ms f e1
 exact rt [.tmp 4] f
theorem PB (a0 : Int) : Sa 202 [rI a0] [rB (TV a0)] := by
 have f := me (TV.eq_1 a0)
 refine so func202 ntmps202 ?_
 refine cRs (Yb a0 0 10000) ?_
 exact rt [.tmp 2] f
theorem Hx (a0 : List Int) (a1 : List Int) : Sa 289 [rL 1 iR a0, rL 1 iR a1] [rB (UX a0 a1)] := by
 have f := me (UX.eq_1 a0 a1)
 refine so func289 ntmps289 ?_
 refine cF f ?_ ?_ <;> intro k1 h1 f
 ·exact rt [.tmp 4] f
 refine lp1 (WE.eq_2 a0 a1) (fun J => YT 26 [eL 0 1 a0 iR, eL 1 1 a1 iR, eI 12 (a0.length : Int), eI 13 (J : Int)]) (fun n1 J => a0.length < n1 + J /\ J <= a0.length) (a0.length + 1) 0 (fun p1 J e1 j1 => ?_)
 refine cF e1 ?_ ?_ <;> intro k3 h2 e1
 ·have i1 := ix h2
  have m2 := ml a0 (k3 0 _ rfl)
  have w1 := wr J
  refine dIo mixed ?_
  have i2 := ik J a1
  simp [i1, ZB, i2]
  refine rpS ?_
  refine cF e1 ?_ ?_ <;> intro k5 h3 e1
  ·have f := ms f e1
   exact rt [.tmp 4] f
  exact ny1 w1 e1
 have f := ms f e1
 exact rt [.tmp 4] f
theorem Tf (a0 : ZO) (a1 : ZO) : Sa 277 [a0.row, a1.row] [rB (y7 a0 a1)] := by
 have f := me (y7.eq_1 a0 a1)
 refine so func277 ntmps277 ?_
 refine cGs (fun gg => (Hx a0.Ys a1.Ys)) ?_
 exact rt [.tmp 4] f
theorem E7 (a0 : List ZO) (a1 : ZO) : Sa 260 [rL 3 ZO.row a0, a1.row] [rB (V4 a0 a1)] := by
 have f := me (V4.eq_1 a0 a1)
 refine so func260 ntmps260 ?_
 refine lp1 (W0.eq_2 a0 a1) (fun J => YT 17 [eX 3 (a1.row.map .d), eL 7 3 a0 ZO.row, eI 8 (a0.length : Int), eI 9 (J : Int)]) (fun n1 J => a0.length < n1 + J /\ J <= a0.length) (a0.length + 1) 0 (fun p1 J e1 j1 => ?_)
 refine cFf e1 ?_ ?_ <;> intro k2 h1 e1
 ·have i1 := ix h1
  have m2 := ml a0 (k2 7 _ rfl)
  have w1 := wr J
  simp [i1, ZB]
  refine rpS ?_
  refine cRs (Tf (nth a0 J) a1) ?_
  refine cF e1 ?_ ?_ <;> intro k3 h2 e1
  ·have f := ms f e1
   exact rt [.tmp 4] f
  exact ny1 w1 e1
 have f := ms f e1
 exact rt [.tmp 4] f
theorem U1 (a0 : Za) : Sa 215 [a0.row] [rB (zp a0)] := by
 have f := me (zp.eq_1 a0)
 refine so func215 ntmps215 ?_
 refine cRs (Yb (a0.ZL.length : Int) 1 12) ?_
 refine cFo f ?_ ?_ <;> intro k1 h1 f
 ·have q1 := h1; try simp [Zn] at q1
  simp
  exact rt [.tmp 2] f
 have q1 := h1; try simp [Zn] at q1
 simp
 refine lp1 (qS.eq_2 a0) (fun J => YT 65 [eX 1 (a0.row.map .d), eL 19 3 a0.ZL ZO.row, eI 20 (a0.ZL.length : Int), eI 21 (J : Int)]) (fun n1 J => a0.ZL.length < n1 + J /\ J <= a0.ZL.length) (a0.ZL.length + 1) 0 (fun p1 J e1 j1 => ?_)
 refine cFf e1 ?_ ?_ <;> intro k3 h2 e1
 ·have i1 := ix h2
  have m2 := ml a0.ZL (k3 19 _ rfl)
  have w1 := wr J
  simp [i1, ZB]
  refine rpS ?_
  refine dIs mixed ?_
  refine cRs (E7 (a0.ZL.take J) (nth a0.ZL J)) ?_
  refine cF e1 ?_ ?_ <;> intro k5 h3 e1
  ·have f := ms f e1
   exact rt [.tmp 2] f
  exact ny1 w1 e1
 have f := ms f e1
 refine lp1 (qN.eq_2 a0) (fun iZ => YT 65 [eX 1 (a0.row.map .d), eL 34 5 a0.Zf ZK.row, eI 35 (a0.Zf.length : Int), eI 36 (iZ : Int)]) (fun n2 iZ => a0.Zf.length < n2 + iZ /\ iZ <= a0.Zf.length) (a0.Zf.length + 1) 0 (fun p2 iZ e2 j2 => ?_)
 refine cFf e2 ?_ ?_ <;> intro k7 h4 e2
 ·have i2 := ix h4
  have m4 := ml a0.Zf (k7 34 _ rfl)
  have w2 := wr iZ
  simp [i2, ZB]
  refine rpS ?_
  refine dIs mixed ?_
  refine cRs (Yb (nth a0.Zf iZ).Count 1 (a0.ZL.length : Int)) ?_
  refine gIf ?_ ?_ <;> intro G
  ·have i3 := ik (iZ - 1) a0.Zf
   have w3 : IntKind.i64.wrap ((iZ : Int) - 1) = (iZ : Int) - 1 := YG (by omega) (by omega)
   simp [i3, ZB, w3, jA, G]
   refine rpG ?_
   refine cKo e2 ?_ ?_ <;> intro k9 h5 e2
   ·have q5 := h5; try simp [Zn] at q5
    have f := ms f e2
    simp [G]
    refine rpG ?_
    exact rtg [.tmp 2] f
   ·have q5 := h5; try simp [Zn] at q5
    simp [G]
    refine rpG ?_
    exact ny1 (an w2 (an w3 G)) e2
  ·refine cKo e2 ?_ ?_ <;> intro aH h6 e2
   ·have q6 := h6; try simp [Zn] at q6
    have f := ms f e2
    simp [G]
    refine rpG ?_
    exact rtg [.tmp 2] f
   ·have q6 := h6; try simp [Zn] at q6
    simp [G]
    refine rpG ?_
    exact ny1 (an w2 G) e2
 have f := ms f e2
 exact rt [.tmp 2] f
theorem Lx (a0 : ZM) : Sa 254 [a0.row] [rB (T9 a0)] := by
 have f := me (T9.eq_1 a0)
 refine so func254 ntmps254 ?_
 refine dIs mixed ?_
 refine cRs (Yb a0.Id 1 999) ?_
 refine cGs (fun gg => (PB a0.XB)) ?_
 refine cGs (fun gg => (RF a0.Doc)) ?_
 refine cGs (fun gg => (U1 a0.ZJ)) ?_
 refine gIf ?_ ?_ <;> intro G
 ·have fr := G
  have g1 := G; try simp [Zn] at g1
  have i1 : 0 < a0.ZJ.ZL.length := by have := EO (a := a0.ZJ); simp_all
  simp [i1, ZB, G]
  refine rpG ?_
  refine cGg (fun gg => Yv.rd (Pb a0.Sig)) ?_
  refine cGg (fun gg => (Tf (nth a0.ZJ.ZL 0) (Qd a0.Sig))) ?_
  exact rtg [.tmp 2] f
 ·have fr := G
  refine sGo ?_
  simp [G]
  refine rpG ?_
  refine sGo ?_
  simp [G]
  refine rpG ?_
  exact rtg [.tmp 2] f
theorem xX (a0 : ZC) : Sa 205 [a0.row] [rB (Jq a0)] := by
 have f := me (Jq.eq_1 a0)
 refine so func205 ntmps205 ?_
 refine lp1 (qh.eq_2 a0) (fun J => YT 42 [eX 1 (a0.row.map .d), eL 6 16 a0.ZD ZM.row, eI 7 (a0.ZD.length : Int), eI 8 (J : Int)]) (fun n1 J => a0.ZD.length < n1 + J /\ J <= a0.ZD.length) (a0.ZD.length + 1) 0 (fun p1 J e1 j1 => ?_)
 refine cFf e1 ?_ ?_ <;> intro k2 h1 e1
 ·have i1 := ix h1
  have m2 := ml a0.ZD (k2 6 _ rfl)
  have w1 := wr J
  simp [i1, ZB]
  refine rpS ?_
  refine dIs mixed ?_
  refine cRs (Lx (nth a0.ZD J)) ?_
  refine gIf ?_ ?_ <;> intro G
  ·have i2 := ik (J - 1) a0.ZD
   have w2 : IntKind.i64.wrap ((J : Int) - 1) = (J : Int) - 1 := YG (by omega) (by omega)
   simp [i2, ZB, w2, jA, G]
   refine rpG ?_
   refine cK e1 ?_ ?_ <;> intro k4 h2 e1
   ·have f := ms f e1
    exact rtg [.tmp 2] f
   ·exact ny1 (an w1 (an w2 G)) e1
  ·refine cK e1 ?_ ?_ <;> intro k5 h3 e1
   ·have f := ms f e1
    exact rtg [.tmp 2] f
   ·exact ny1 (an w1 G) e1
 have f := ms f e1
 refine cRs (Yb a0.Id 0 99) ?_
 exact rt [.tmp 2] f
theorem MB (a0 : ZC) (a1 : ZM) (u0 : Sm 2318336 a0) (u1 : Sm 2318336 a1) : Sd 193 [a0.row, a1.row] [(XZ a0 a1).1.row, rB (XZ a0 a1).2] := by
 have f := me (XZ.eq_1 a0 a1)
 refine soD func193 ntmps193 ?_
 refine cRs (qi a0 a1.Id) ?_
 refine cGs (fun gg => (xX a0)) ?_
 refine cF f ?_ ?_ <;> intro k1 h1 f
 ·refine cDs [] (YV a0 (sg u0)) ?_
  exact rtD [.cell 4 94, .tmp 5] f
 refine cDs [] (YV a0 (sg u0)) ?_
 refine lp1 (XH.eq_2 a0 a1) (fun J => YT 62 [eX 2 (a0.row.map .d), eX 3 (a1.row.map .d), (4, .one (.bptr 4 0), [.box [.d (.int .i64 0), .nil 16]]), (6, .one (.bptr 6 0), [.box [.d (.int .i64 a0.Id), .sref 21 1 0 a0.ZD.length]]), eI 7 (J : Int), (21, .any, [.none, .arr true 16 (a0.ZD.map ZM.row)])]) (fun n1 J => a0.ZD.length < n1 + J /\ J <= a0.ZD.length) (a0.ZD.length + 1) 0 (fun p1 J e1 j1 => ?_)
 refine dIs mixed ?_
 refine gIf ?_ ?_ <;> intro G
 ·have i1 := ik J a0.ZD
  simp [i1, ZB, G]
  refine rpG ?_
  refine cK e1 ?_ ?_ <;> intro k4 h2 e1
  ·have i2 : J < a0.ZD.length := by (simp at h2; omega)
   have m2 := ml a0.ZD (k4 24 _ rfl)
   have c1 := sl 2318336 a0.ZD (an u0 u1)
   have w1 := wr J
   exact ny1 (an w1 G) e1
  ·have c2 := sl 2318336 a0.ZD (an u0 u1)
   have f := ms f e1
   refine su [(3, 3), (6, 6), (41, 6), (50, 6), (55, 6)] [] [45, 49, 54] mixed (by kernel_rfl) (by kernel_rfl) (by kernel_rfl) (by kernel_rfl) (by kernel_rfl) (by kernel_rfl) (by kernel_rfl) ?_
   simp [G]
   refine rpG ?_
   refine W2 ?_
   simp [G]
   refine rpG ?_
   refine pd (iT := (([] : List ZM).map ZM.row)) (rows := (a0.ZD.map ZM.row)) (news := ((a0.ZD.take J).map ZM.row)) (l1 := [(40, 0)]) (size := 16) (u := 21) (j := 1) (lo := 0) (n := J) rfl rfl rfl rfl (by simp) (by simp) (by simp) (by simp) (by simp) (by simp) (by first | omega | (simp; omega)) (by simp [cut]) (by simp) (by first | omega | (simp; omega)) ?_
   simp [G]
   refine rpG ?_
   refine cDg [true, true, true, false, false] (xO a1 (sg u1)) ?_
   refine W2 ?_
   have c3 := sl 2318336 (a0.ZD.take J) (an u0 u1)
   simp [G]
   refine rpG ?_
   refine UL (iT := ((a0.ZD.take J).map ZM.row)) (news := (([a1] : List ZM).map ZM.row)) (l1 := [(45, 0)]) (l2 := [(47, 3), (47, 4), (47, 14), (47, 15)]) (size := 16) ?_
   simp [G]
   refine rpG ?_
   refine pd (iT := (((a0.ZD.take J) ++ ([a1] : List ZM)).map ZM.row)) (rows := (Ji (a0.ZD.map ZM.row) 0 J)) (news := ((a0.ZD.drop J).map ZM.row)) (l1 := [(49, 0)]) (size := 16) (u := 21) (j := 1) (lo := J) (n := (a0.ZD.length - J)) rfl rfl rfl rfl (by simp) (by simp) (by simp) (by simp) (by simp) (by simp) (by rw [xh (by first | omega | (simp; omega))]; first | omega | (simp; omega)) ((Lv (by first | omega | (simp; omega)) (by first | omega | (simp; omega))).trans (Rw _ _ _)) (by simp) (by first | omega | (simp; omega)) ?_
   simp [G]
   refine rpG ?_
   refine cRg (xX (ZC.mk a0.Id (((a0.ZD.take J) ++ ([a1] : List ZM)) ++ (a0.ZD.drop J)))) ?_
   refine cK f ?_ ?_ <;> intro k6 h3 f
   ·refine cDg [] (YV a0 (sg u0)) ?_
    exact zx [.cell 4 94, .tmp 5] f
   ·exact zx [.cell 4 94, .tmp 5] f
 ·refine cK e1 ?_ ?_ <;> intro k7 h4 e1
  ·simp [G] at h4
  ·have c5 := sl 2318336 a0.ZD (an u0 u1)
   have f := ms f e1
   refine su [(3, 3), (6, 6), (41, 6), (50, 6), (55, 6)] [] [45, 49, 54] mixed (by kernel_rfl) (by kernel_rfl) (by kernel_rfl) (by kernel_rfl) (by kernel_rfl) (by kernel_rfl) (by kernel_rfl) ?_
   simp [G]
   refine rpG ?_
   refine W2 ?_
   simp [G]
   refine rpG ?_
   refine pd (iT := (([] : List ZM).map ZM.row)) (rows := (a0.ZD.map ZM.row)) (news := ((a0.ZD.take J).map ZM.row)) (l1 := [(40, 0)]) (size := 16) (u := 21) (j := 1) (lo := 0) (n := J) rfl rfl rfl rfl (by simp) (by simp) (by simp) (by simp) (by simp) (by simp) (by first | omega | (simp; omega)) (by simp [cut]) (by simp) (by first | omega | (simp; omega)) ?_
   simp [G]
   refine rpG ?_
   refine cDg [true, true, true, false, false] (xO a1 (sg u1)) ?_
   refine W2 ?_
   have c6 := sl 2318336 (a0.ZD.take J) (an u0 u1)
   simp [G]
   refine rpG ?_
   refine UL (iT := ((a0.ZD.take J).map ZM.row)) (news := (([a1] : List ZM).map ZM.row)) (l1 := [(45, 0)]) (l2 := [(47, 3), (47, 4), (47, 14), (47, 15)]) (size := 16) ?_
   simp [G]
   refine rpG ?_
   refine pd (iT := (((a0.ZD.take J) ++ ([a1] : List ZM)).map ZM.row)) (rows := (Ji (a0.ZD.map ZM.row) 0 J)) (news := ((a0.ZD.drop J).map ZM.row)) (l1 := [(49, 0)]) (size := 16) (u := 21) (j := 1) (lo := J) (n := (a0.ZD.length - J)) rfl rfl rfl rfl (by simp) (by simp) (by simp) (by simp) (by simp) (by simp) (by rw [xh (by first | omega | (simp; omega))]; first | omega | (simp; omega)) ((Lv (by first | omega | (simp; omega)) (by first | omega | (simp; omega))).trans (Rw _ _ _)) (by simp) (by first | omega | (simp; omega)) ?_
   simp [G]
   refine rpG ?_
   refine cRg (xX (ZC.mk a0.Id (((a0.ZD.take J) ++ ([a1] : List ZM)) ++ (a0.ZD.drop J)))) ?_
   refine cK f ?_ ?_ <;> intro k9 h5 f
   ·refine cDg [] (YV a0 (sg u0)) ?_
    exact zx [.cell 4 94, .tmp 5] f
   ·exact zx [.cell 4 94, .tmp 5] f
theorem OI (a0 : ZH) (a1 : Int) (a2 : Int) (a3 : ZT) (a4 : Int) (a5 : Int) (u0 : Sm 2314240 a0) (u1 : Sm 2314240 a3) : Sa 131 [a0.row, rI a1, rI a2, a3.row, rI a4, rI a5] [(Yx a0 a1 a2 a3 a4 a5).1.row, rB (Yx a0 a1 a2 a3 a4 a5).2] := by
 have f := me (Yx.eq_1 a0 a1 a2 a3 a4 a5)
 refine so func131 ntmps131 ?_
 refine cRs (qp a0.Frame.Methods a0.Frame.Now) ?_
 refine cRs (yI a0 a1) ?_
 refine cGs (fun gg => (yW a0.Frame.Zm a2)) ?_
 have c1 := sl 2314240 a0.ZA (an u0 u1)
 have w1 : IntKind.i64.wrap ((a0.ZA.length : Int) - 1) = (a0.ZA.length : Int) - 1 := YG (by omega) (by omega)
 refine cFo f ?_ ?_ <;> intro k1 h1 f
 ·have q1 := h1; try simp [w1, YR, Zn] at q1
  simp
  exact rt [.cell 12 43, .tmp 13] f
 have q1 := h1; try simp [w1, YR, Zn] at q1
 simp
 refine lp1 (QO.eq_2 a0 a1 a2 a3 a4 a5) (fun J => YT 116 [eI 1 a1, eI 2 a2, eI 4 a4, eI 5 a5, eX 6 (a0.row.map .d), eX 9 (a3.row.map .d), (12, .one (.bptr 12 0), [.box [.nil 5, .nil 3, .nil 4, .d (.int .i64 0), .d (.int .i64 0), .nil 7, .nil 1, .nil 2, .nil 1, .nil 1, .d (.int .i64 0), .nil 1]]), eX 14 (a0.Frame.row.map .d), eI 15 (ZP a0.Frame.Methods a0.Frame.Now), eL 48 7 a0.ZN Z1.row, eI 49 (a0.ZN.length : Int), eI 50 (J : Int)]) (fun n1 J => a0.ZN.length < n1 + J /\ J <= a0.ZN.length) (a0.ZN.length + 1) 0 (fun p1 J e1 j1 => ?_)
 refine cFf e1 ?_ ?_ <;> intro k3 h2 e1
 ·have i1 := ix h2
  have m2 := ml a0.ZN (k3 48 _ rfl)
  have c2 := sl 2314240 a0.ZN (an u0 u1)
  have w2 := wr J
  simp [i1, ZB]
  refine rpS ?_
  refine cF e1 ?_ ?_ <;> intro k4 h3 e1
  ·exact ny1 (an w1 w2) e1
  refine dIs mixed ?_
  refine cRs (jo (ZP a0.Frame.Methods a0.Frame.Now) a3 (sg u1)) ?_
  refine cRs (Ix a0.Frame.Zm (Zc.mk a2 (nth a0.ZN J).Zi (ZP a0.Frame.Methods a0.Frame.Now) (Yc (ZP a0.Frame.Methods a0.Frame.Now) a3) 1 a4 0 0 0) (sg (Zq.xw (ZH.Xj u0)))) ?_
  refine dIs mixed ?_
  refine cRs (Yv.rd (Pb (Y5 a0.Frame.Zm (Zc.mk a2 (nth a0.ZN J).Zi (ZP a0.Frame.Methods a0.Frame.Now) (Yc (ZP a0.Frame.Methods a0.Frame.Now) a3) 1 a4 0 0 0)).1)) ?_
  refine cRs (Yv.rd (FH (nth a0.ZN J))) ?_
  refine eIs ?_
  refine dIo mixed ?_
  have i2 := ik a1.toNat a0.ZA
  simp [i2, ZB]
  refine rpS ?_
  refine cDs [] (MB (nth a0.ZA a1.toNat) (ZM.mk a0.Next a5 a3 (Y5 a0.Frame.Zm (Zc.mk a2 (nth a0.ZN J).Zi (ZP a0.Frame.Methods a0.Frame.Now) (Yc (ZP a0.Frame.Methods a0.Frame.Now) a3) 1 a4 0 0 0)).1 (Za.mk ([(Qd (Y5 a0.Frame.Zm (Zc.mk a2 (nth a0.ZN J).Zi (ZP a0.Frame.Methods a0.Frame.Now) (Yc (ZP a0.Frame.Methods a0.Frame.Now) a3) 1 a4 0 0 0)).1), (JL (nth a0.ZN J))] : List ZO) ([] : List ZK))) (sg (Z7 (ZH.YW u0))) (by simp (maxDischargeDepth := 12) [zN, XC, PN, Rj, ZZ (m := 2318336) (by decide) u0, ZZ (m := 2318336) (by decide) u1]; try omega)) ?_
  refine cF e1 ?_ ?_ <;> intro k8 h4 e1
  ·have f := ms f e1
   exact rt [.cell 12 43, .tmp 13] f
  refine cDf i2 [false, false, false, true, true, false, false, true, false, false, true, false] (YA a0 (sg u0)) ?_
  refine SE (t := 103) (j := 7) (i := a1.toNat) (size := 2) (rows := (a0.ZA.map ZC.row)) (ds := (XZ (nth a0.ZA a1.toNat) (ZM.mk a0.Next a5 a3 (Y5 a0.Frame.Zm (Zc.mk a2 (nth a0.ZN J).Zi (ZP a0.Frame.Methods a0.Frame.Now) (Yc (ZP a0.Frame.Methods a0.Frame.Now) a3) 1 a4 0 0 0)).1 (Za.mk ([(Qd (Y5 a0.Frame.Zm (Zc.mk a2 (nth a0.ZN J).Zi (ZP a0.Frame.Methods a0.Frame.Now) (Yc (ZP a0.Frame.Methods a0.Frame.Now) a3) 1 a4 0 0 0)).1), (JL (nth a0.ZN J))] : List ZO) ([] : List ZK)))).1.row) (L := [(92, 1)]) ?_
  have f := ms f e1
  simp [YL (x := (XZ (nth a0.ZA a1.toNat) (ZM.mk a0.Next a5 a3 (Y5 a0.Frame.Zm (Zc.mk a2 (nth a0.ZN J).Zi (ZP a0.Frame.Methods a0.Frame.Now) (Yc (ZP a0.Frame.Methods a0.Frame.Now) a3) 1 a4 0 0 0)).1 (Za.mk ([(Qd (Y5 a0.Frame.Zm (Zc.mk a2 (nth a0.ZN J).Zi (ZP a0.Frame.Methods a0.Frame.Now) (Yc (ZP a0.Frame.Methods a0.Frame.Now) a3) 1 a4 0 0 0)).1), (JL (nth a0.ZN J))] : List ZO) ([] : List ZK)))).1) rfl, c1, i2, ZB, Zd]
  refine rpS ?_
  exact rt [.cell 12 43, .tmp 13] f
 have c3 := sl 2314240 a0.ZN (an u0 u1)
 have f := ms f e1
 exact rt [.cell 12 43, .tmp 13] f
theorem Di (a0 : ZH) (a1 : Int) (a2 : Int) (a3 : ZT) (a4 : Int) (a5 : Int) (u0 : Sm 2310144 a0) (u1 : Sm 2310144 a3) : Sd 70 [a0.row, rI a1, rI a2, a3.row, rI a4, rI a5] [(yq a0 a1 a2 a3 a4 a5).1.row, rB (yq a0 a1 a2 a3 a4 a5).2] := by
 have f := me (yq.eq_1 a0 a1 a2 a3 a4 a5)
 refine soD func70 ntmps70 ?_
 refine cRs (yW a0.Frame.Zm a2) ?_
 refine dIs mixed ?_
 refine gIf ?_ ?_ <;> intro G
 ·have i1 : (YD a0.Frame.Zm a2).toNat < a0.Frame.Zm.length := by have := j9 a0.Frame.Zm a2; exact il
  simp [i1, ZB, G]
  refine rpG ?_
  refine cK f ?_ ?_ <;> intro k2 h1 f
  ·refine cDg [false, false, false, true, true, false, false, true, false, false, true, false] (YA a0 (by first | (exact ZZ (n := 2310144) (by decide) (xs (an u0 u1))) | (exact ZZ (n := 2310144 + 1) (by decide) (Kz (n := 2310144) (xs (an u0 u1)) (xs (an u0 u1)) (by decide))))) ?_
   exact zx [.cell 12 43, .tmp 13] f
  ·refine cRg (OI a0 a1 a2 a3 a4 a5 (sg u0) (sg u1)) ?_
   refine cDg [false, false, false, true, true, false, false, true, false, false, true, false] (YA (Yx a0 a1 a2 a3 a4 a5).1 (by first | (exact ZZ (n := 2310144) (by decide) (xs (an u0 u1))) | (exact ZZ (n := 2310144 + 1) (by decide) (Kz (n := 2310144) (xs (an u0 u1)) (xs (an u0 u1)) (by decide))))) ?_
   exact zx [.cell 12 43, .tmp 13] f
 ·refine cK f ?_ ?_ <;> intro k3 h2 f
  ·refine cDg [false, false, false, true, true, false, false, true, false, false, true, false] (YA a0 (by first | (exact ZZ (n := 2310144) (by decide) (xs (an u0 u1))) | (exact ZZ (n := 2310144 + 1) (by decide) (Kz (n := 2310144) (xs (an u0 u1)) (xs (an u0 u1)) (by decide))))) ?_
   exact zx [.cell 12 43, .tmp 13] f
  ·simp [G] at h2
theorem Lj (a0 : ZH) (a1 : Int) : Sa 145 [a0.row, rI a1] [rI (ZV a0 a1).1, rI (ZV a0 a1).2] := by
 have f := me (ZV.eq_1 a0 a1)
 refine so func145 ntmps145 ?_
 refine lp1 (xp.eq_2 a0 a1) (fun J => YT 25 [eI 1 a1, eL 10 2 a0.ZA ZC.row, eI 11 (a0.ZA.length : Int), eI 12 (J : Int)]) (fun n1 J => a0.ZA.length < n1 + J /\ J <= a0.ZA.length) (a0.ZA.length + 1) 0 (fun p1 J e1 j1 => ?_)
 refine cFf e1 ?_ ?_ <;> intro k2 h1 e1
 ·have i1 := ix h1
  have m2 := ml a0.ZA (k2 10 _ rfl)
  have w1 := wr J
  simp [i1, ZB]
  refine rpS ?_
  refine cRs (qi (nth a0.ZA J) a1) ?_
  refine cF e1 ?_ ?_ <;> intro k3 h2 e1
  ·have f := ms f e1
   exact rt [.tmp 4, .tmp 5] f
  exact ny1 w1 e1
 have f := ms f e1
 exact rt [.tmp 4, .tmp 5] f
theorem Md (a0 : ZO) : Sa 248 [a0.row] [rI (Qf a0)] := by
 have f := me (Qf.eq_1 a0)
 refine so func248 ntmps248 ?_
 refine dIs mixed ?_
 refine gIf ?_ ?_ <;> intro G
 ·have i1 := ik 0 a0.Ys
  simp [i1, ZB, G]
  refine rpG ?_
  refine cGg (fun gg => (Yb (nth a0.Ys 0) 101 105)) ?_
  refine gJf G ?_ ?_ <;> intro G
  ·try (simp at G; done)
   all_goals
    have g2 := G.2; try simp [Zn] at g2
    all_goals
     simp [i1, ZB, G]
     refine rpG ?_
     refine gK (fun _ => ?_)
     have r1 : ∀ i : Nat, i < 5 -> cut [At.d (.int .i64 7), At.d (.int .i64 5), At.d (.int .i64 5), At.d (.int .i64 9), At.d (.int .i64 6)] i 1 = [At.d (.int .i64 (nth ([7, 5, 5, 9, 6] : List Int) i))] := by intro i h; (have z : i = 0 \/ i = 1 \/ i = 2 \/ i = 3 \/ i = 4 := by omega); rcases z with rfl | rfl | rfl | rfl | rfl <;> rfl
     have i2 : (W ((nth a0.Ys 0) - 101)).toNat < 5 := by first | omega | ((try simp only [K1, show ∀ x, IntKind.i64.wrap x = W x from fun _ => rfl] at *); omega)
     have r1b := r1 _ i2; simp only [cut] at r1b
     simp [r1 _ i2, r1b, G]
     refine rpG ?_
     refine cKo f ?_ ?_ <;> intro k2 h1 f
     ·have q1 := h1; try simp [Zn] at q1
      simp [G]
      refine rpG ?_
      exact rtg [.tmp 2] f
     ·have q1 := h1; try simp [Zn] at q1
      simp [i1, ZB, G]
      refine rpG ?_
      exact rtg [.tmp 2] f
  ·try (simp at G; done)
   all_goals
    refine sGg ?_
    refine cKo f ?_ ?_ <;> intro k3 h2 f
    ·have q2 := h2; try simp [Zn] at q2
     simp [G]
     refine rpG ?_
     exact rtg [.tmp 2] f
    ·simp [G] at h2
 ·refine sGo ?_
  simp [G]
  refine rpG ?_
  refine gJf G ?_ ?_ <;> intro G
  ·try (simp at G; done)
   all_goals
    have g3 := G.2; try simp [Zn] at g3
    all_goals
     have i5 := ik 0 a0.Ys
     simp [i5, ZB, G]
     refine rpG ?_
     refine gK (fun _ => ?_)
     have r3 : ∀ i : Nat, i < 5 -> cut [At.d (.int .i64 7), At.d (.int .i64 5), At.d (.int .i64 5), At.d (.int .i64 9), At.d (.int .i64 6)] i 1 = [At.d (.int .i64 (nth ([7, 5, 5, 9, 6] : List Int) i))] := by intro i h; (have z : i = 0 \/ i = 1 \/ i = 2 \/ i = 3 \/ i = 4 := by omega); rcases z with rfl | rfl | rfl | rfl | rfl <;> rfl
     have i6 : (W ((nth a0.Ys 0) - 101)).toNat < 5 := by first | omega | ((try simp only [K1, show ∀ x, IntKind.i64.wrap x = W x from fun _ => rfl] at *); omega)
     have r3b := r3 _ i6; simp only [cut] at r3b
     simp [r3 _ i6, r3b, G]
     refine rpG ?_
     refine cKo f ?_ ?_ <;> intro k4 h3 f
     ·simp [G] at h3
     ·simp [G] at h3
  ·try (simp at G; done)
   all_goals
    refine sGg ?_
    refine cKo f ?_ ?_ <;> intro k5 h4 f
    ·have q4 := h4; try simp [Zn] at q4
     simp [G]
     refine rpG ?_
     exact rtg [.tmp 2] f
    ·simp [G] at h4
theorem Gh (a0 : ZO) : Sa 194 [a0.row] [(KC a0).1.row, rB (KC a0).2] := by
 have f := me (KC.eq_1 a0)
 refine so func194 ntmps194 ?_
 refine dIs mixed ?_
 refine cRs (Md a0) ?_
 refine gIf ?_ ?_ <;> intro G
 ·have fr := G
  have g1 := G; try simp at g1
  have i1 : 6 < a0.Ys.length := by (have z := KR a0; simp_all; done)
  simp [i1, ZB, G]
  refine rpG ?_
  refine cK f ?_ ?_ <;> intro k2 h1 f
  ·exact rtg [.cell 2 106, .tmp 3] f
  ·refine dIo mixed ?_
   have i2 : 1 < a0.Ys.length := by (have z := KR a0; simp_all; done)
   have i3 : 2 < a0.Ys.length := by (have z := KR a0; simp_all; done)
   have i4 : 3 < a0.Ys.length := by (have z := KR a0; simp_all; done)
   have i5 : 4 < a0.Ys.length := by (have z := KR a0; simp_all; done)
   have i6 : 5 < a0.Ys.length := by (have z := KR a0; simp_all; done)
   simp [i2, ZB, i3, i4, i5, i6, i1, G]
   refine rpG ?_
   exact rtg [.cell 2 106, .tmp 3] f
 ·have fr := G
  refine cK f ?_ ?_ <;> intro k4 h2 f
  ·exact rtg [.cell 2 106, .tmp 3] f
  ·simp [G] at h2
theorem Ez (a0 : List Z1) (a1 : Int) : Sa 195 [rL 7 Z1.row a0, rI a1] [rI (XJ a0 a1)] := by
 have f := me (XJ.eq_1 a0 a1)
 refine so func195 ntmps195 ?_
 refine lp1 (ye.eq_2 a0 a1) (fun J => YT 20 [eI 1 a1, eL 7 7 a0 Z1.row, eI 8 (a0.length : Int), eI 9 (J : Int)]) (fun n1 J => a0.length < n1 + J /\ J <= a0.length) (a0.length + 1) 0 (fun p1 J e1 j1 => ?_)
 refine cFf e1 ?_ ?_ <;> intro k2 h1 e1
 ·have i1 := ix h1
  have m2 := ml a0 (k2 7 _ rfl)
  have w1 := wr J
  simp [i1, ZB]
  refine rpS ?_
  refine cF e1 ?_ ?_ <;> intro k3 h2 e1
  ·have f := ms f e1
   exact rt [.tmp 4] f
  exact ny1 w1 e1
 have f := ms f e1
 exact rt [.tmp 4] f
theorem zf {a b : Prop} (h : b) (k : a := by (intros; first | omega | with_unfolding_all (first | first | omega | (have fi := Kl a0 a1 (by first | omega | (simp at *; omega)); omega) | (simp only [Bool.or_eq_false_iff, decide_eq_false_iff_not] at *; omega)) | (simp_all; done) | (simp_all; omega) | grind | ((try simp only [K1, show ∀ x, IntKind.i64.wrap x = W x from fun _ => rfl] at *); omega))) : a /\ b := ⟨k, h⟩
theorem Lu (a0 : ZH) (a1 : Int) : Sa 132 [a0.row, rI a1] [rI (YE a0 a1).1, rI (YE a0 a1).2.1, rB (YE a0 a1).2.2] := by
 have f := me (YE.eq_1 a0 a1)
 refine so func132 ntmps132 ?_
 refine cRs (Lj a0 a1) ?_
 refine gIo ?_ ?_ <;> intro G
 ·have fr := G
  have g1 := G; try simp at g1
  have i1 : (ZV a0 a1).1.toNat < a0.ZA.length := by first | omega | (have fi := Kl a0 a1 (by first | omega | (simp at *; omega)); omega) | (simp only [Bool.or_eq_false_iff, decide_eq_false_iff_not] at *; omega)
  simp [i1, ZB, G]
  repeat with_reducible refine zf ?_
  refine gK (fun _ => ?_)
  have i2 : (ZV a0 a1).2.toNat < (nth a0.ZA (ZV a0 a1).1.toNat).ZD.length := by first | omega | (have fi := Kl a0 a1 (by first | omega | (simp at *; omega)); omega) | (simp only [Bool.or_eq_false_iff, decide_eq_false_iff_not] at *; omega)
  simp [i2, ZB, G]
  repeat with_reducible refine zf ?_
  refine cKo f ?_ ?_ <;> intro k1 h1 f
  ·simp [G]
   repeat with_reducible refine zf ?_
   exact rtg [.tmp 4, .tmp 5, .tmp 6] f
  ·have i3 : 1 < (nth (nth a0.ZA (ZV a0 a1).1.toNat).ZD (ZV a0 a1).2.toNat).ZJ.ZL.length := by first | omega | (have fi := Kl a0 a1 (by first | omega | (simp at *; omega)); omega) | (simp only [Bool.or_eq_false_iff, decide_eq_false_iff_not] at *; omega)
   simp [i1, ZB, i2, i3, G]
   repeat with_reducible refine zf ?_
   refine cR (Gh (nth (nth (nth a0.ZA (ZV a0 a1).1.toNat).ZD (ZV a0 a1).2.toNat).ZJ.ZL 1)) ?_
   simp [G]
   repeat with_reducible refine zf ?_
   refine cR (Ez a0.ZN (KC (nth (nth (nth a0.ZA (ZV a0 a1).1.toNat).ZD (ZV a0 a1).2.toNat).ZJ.ZL 1)).1.Zi) ?_
   simp [G]
   repeat with_reducible refine zf ?_
   exact rtg [.tmp 4, .tmp 5, .tmp 6] f
 ·have fr := G
  simp [G]
  repeat with_reducible refine zf ?_
  refine sGo ?_
  simp [G]
  repeat with_reducible refine zf ?_
  refine cKo f ?_ ?_ <;> intro k2 h2 f
  ·simp [G]
   repeat with_reducible refine zf ?_
   exact rtg [.tmp 4, .tmp 5, .tmp 6] f
  ·simp [G] at h2
theorem RM (a0 : Z0) : Sd 249 [a0.row] [rL 1 iR (Jm a0)] := by
 have f := me (Jm.eq_1 a0)
 refine soD func249 ntmps249 ?_
 exact rtD [.tmp 2] f
theorem Dw (a0 : Z0) : Sa 250 [a0.row] [rB (Vu a0)] := by
 have f := me (Vu.eq_1 a0)
 refine so func250 ntmps250 ?_
 refine cRs (Yb a0.Zi 1 999) ?_
 refine cGs (fun gg => (PB a0.O4)) ?_
 refine cGs (fun gg => (Yb a0.Zl (-1) (W (a0.O4 + 1)))) ?_
 refine cGs (fun gg => (Yb a0.Z2 1 99)) ?_
 exact rt [.tmp 2] f
theorem HT (a0 : List YZ) (a1 : Z0) (u0 : Sm 2318336 a0) : Sa 196 [rL 5 YZ.row a0, a1.row] [(Yy a0 a1).1.row, rB (Yy a0 a1).2] := by
 have f := me (Yy.eq_1 a0 a1)
 refine so func196 ntmps196 ?_
 refine dIs mixed ?_
 refine cRs (Yv.rd (RM a1)) ?_
 refine cRs (PU a0 a1.Z2 (Jm a1) (sg u0) (by simp (maxDischargeDepth := 12) [RD, ZZ (m := 2322432) (by decide) u0]; try omega)) ?_
 refine cRs (Dw a1) ?_
 refine cF f ?_ ?_ <;> intro k2 h1 f
 ·exact rt [.cell 4 147, .tmp 5] f
 exact rt [.cell 4 147, .tmp 5] f
theorem Mv (a0 : Z0) : Sd 198 [a0.row] [(Xc a0).row] := by
 have f := me (Xc.eq_1 a0)
 refine soD func198 ntmps198 ?_
 refine dIs mixed ?_
 refine cDs [false] (RM a0) ?_
 exact rtD [.cell 2 145] f
theorem D1 (a0 : Za) (a1 : ZO) (u0 : Sm 2326528 a0) (u1 : Sm 2326528 a1) : Sd 251 [a0.row, a1.row] [(J0 a0 a1).1.row, rB (J0 a0 a1).2] := by
 have f := me (J0.eq_1 a0 a1)
 refine soD func251 ntmps251 ?_
 refine cDs [] (z4 a0 (sg u0)) ?_
 refine drJ [14] mixed ?_
 simp
 refine cDs [true, false] (RE a1 (sg u1)) ?_
 refine W2 ?_
 have c1 := sl 2326528 a0.ZL (an u0 u1)
 simp
 refine UL (iT := (a0.ZL.map ZO.row)) (news := (([a1] : List ZO).map ZO.row)) (l1 := [(8, 0)]) (l2 := [(12, 1)]) (size := 3) ?_
 simp
 refine cRs (U1 (Za.mk (a0.ZL ++ ([a1] : List ZO)) a0.Zf)) ?_
 refine cF f ?_ ?_ <;> intro k2 h1 f
 ·refine cDs [] (z4 a0 (sg u0)) ?_
  exact rtD [.cell 4 128, .tmp 5] f
 exact rtD [.cell 4 128, .tmp 5] f
theorem Gk (a0 : ZC) (a1 : Int) (a2 : ZO) (u0 : Sm 2318336 a0) (u1 : Sm 2318336 a2) : Sd 197 [a0.row, rI a1, a2.row] [(Xg a0 a1 a2).1.row, rB (Xg a0 a1 a2).2] := by
 have f := me (Xg.eq_1 a0 a1 a2)
 refine soD func197 ntmps197 ?_
 refine cDs [] (YV a0 (sg u0)) ?_
 refine cRs (qi a0 a1) ?_
 refine cF f ?_ ?_ <;> intro k1 h1 f
 ·exact rtD [.cell 6 94, .tmp 7] f
 refine dIo mixed ?_
 have i1 : (ZX a0 a1).toNat < a0.ZD.length := by have := Q5 a0 a1; exact il
 simp [i1, ZB]
 refine rpS ?_
 refine cDf i1 [] (D1 (nth a0.ZD (ZX a0 a1).toNat).ZJ a2 (sg (ZM.Jo (Z7 (ZC.YO u0)))) (sg u1)) ?_
 refine pc (t := 13) (j := 1) (i := (ZX a0 a1).toNat) (c := 14) (size := 16) (rows := (a0.ZD.map ZM.row)) (ds := (J0 (nth a0.ZD (ZX a0 a1).toNat).ZJ a2).1.row) (L := [(28, 0), (28, 1)]) rfl rfl rfl rfl (by simp) (by simp) (by simp; try omega) (by simp) (by simp) (by simp) (by simp) (by simp) (by simp) ?_
 simp [YL (x := (ZM.mk (nth a0.ZD (ZX a0 a1).toNat).Id (nth a0.ZD (ZX a0 a1).toNat).XB (nth a0.ZD (ZX a0 a1).toNat).Doc (nth a0.ZD (ZX a0 a1).toNat).Sig (J0 (nth a0.ZD (ZX a0 a1).toNat).ZJ a2).1)) rfl, i1, ZB, Zd]
 refine rpS ?_
 exact rtD [.cell 6 94, .tmp 7] f
theorem TN (a0 : ZH) (a1 : Int) (a2 : Int) (a3 : Z0) (u0 : Sm 2314240 a0) (u1 : 0 <= a1 /\ a1 < (a0.ZA.length : Int)) : Sd 133 [a0.row, rI a1, rI a2, a3.row] [(JK a0 a1 a2 a3).1.row, rB (JK a0 a1 a2 a3).2] := by
 have f := me (JK.eq_1 a0 a1 a2 a3)
 refine soD func133 ntmps133 ?_
 refine cRs (HT a0.Frame.Zm a3 (sg (Zq.xw (ZH.Xj u0)))) ?_
 refine dIo mixed ?_
 have i1 := ik a1.toNat a0.ZA
 simp [i1, ZB]
 refine rpS ?_
 refine cRs (Yv.rd (Mv (Yy a0.Frame.Zm a3).1)) ?_
 refine cDs [] (Gk (nth a0.ZA a1.toNat) a2 (Xc (Yy a0.Frame.Zm a3).1) (sg (Z7 (ZH.YW u0))) (by simp (maxDischargeDepth := 12) [Tn, ZZ (m := 2318336) (by decide) u0, ZZ (m := 2318336) (by decide) u1]; try omega)) ?_
 refine cDs [false, false, false, true, true, false, false, true, false, false, true, false] (YA a0 (sg u0)) ?_
 refine cFt f ?_ ?_ <;> intro k2 h1 f
 ·exact rtD [.cell 8 43, .tmp 9] f
 simp [i1, ZB]
 refine rpS ?_
 refine SE (t := 36) (j := 7) (i := a1.toNat) (size := 2) (rows := (a0.ZA.map ZC.row)) (ds := (Xg (nth a0.ZA a1.toNat) a2 (Xc (Yy a0.Frame.Zm a3).1)).1.row) (L := [(32, 1)]) ?_
 simp [YL (x := (Xg (nth a0.ZA a1.toNat) a2 (Xc (Yy a0.Frame.Zm a3).1)).1) rfl, i1, ZB, Zd]
 refine rpS ?_
 exact rtD [.cell 8 43, .tmp 9] f
theorem HA {a b : Prop} (h : b) (k : a := by (intros; first | omega | with_unfolding_all (first | first | omega | (have z := J8 a0 a1 (by simp_all); (try simp at *); omega)) | ((try simp only [K1, show ∀ x, IntKind.i64.wrap x = W x from fun _ => rfl] at *); omega))) : a /\ b := ⟨k, h⟩
theorem Xe {a b : Prop} (h : b) (k : a := by (intros; first | omega | with_unfolding_all (first | first | omega | (have z := J8 a0 a1 (by simp_all); (try simp at *); omega)) | (simp_all; done) | (simp_all; omega) | grind | ((try simp only [K1, show ∀ x, IntKind.i64.wrap x = W x from fun _ => rfl] at *); omega))) : a /\ b := ⟨k, h⟩
theorem Ic (a0 : ZH) (a1 : Int) (u0 : Sm 2310144 a0) : Sd 71 [a0.row, rI a1] [(Kb a0 a1).1.row, rB (Kb a0 a1).2] := by
 have f := me (Kb.eq_1 a0 a1)
 refine soD func71 ntmps71 ?_
 refine cRs (Lu a0 a1) ?_
 refine cF f ?_ ?_ <;> intro k1 h1 f
 ·refine cDs [false, false, false, true, true, false, false, true, false, false, true, false] (YA a0 (sg u0)) ?_
  exact rtD [.cell 4 43, .tmp 5] f
 refine dIo mixed ?_
 have i1 : (YE a0 a1).2.1.toNat < a0.ZN.length := by first | omega | (have z := J8 a0 a1 (by simp_all); (try simp at *); omega)
 simp [i1, ZB]
 repeat with_reducible refine HA ?_
 refine cRs (yW a0.Frame.Zm (nth a0.ZN (YE a0 a1).2.1.toNat).Z2) ?_
 refine dIs mixed ?_
 refine gIo ?_ ?_ <;> intro G
 ·have fr := G
  have g1 := G; try simp at g1
  have i2 : (YD a0.Frame.Zm (nth a0.ZN (YE a0 a1).2.1.toNat).Z2).toNat < a0.Frame.Zm.length := by have := j9 a0.Frame.Zm (nth a0.ZN (YE a0 a1).2.1.toNat).Z2; first | omega | (have z := J8 a0 a1 (by simp_all); (try simp at *); omega)
  simp [i2, ZB, G]
  repeat with_reducible refine Xe ?_
  refine cKo f ?_ ?_ <;> intro k4 h2 f
  ·simp [G]
   repeat with_reducible refine Xe ?_
   refine cD [false, false, false, true, true, false, false, true, false, false, true, false] (YA a0 (sg u0)) ?_
   simp [G]
   repeat with_reducible refine Xe ?_
   exact zx [.cell 4 43, .tmp 5] f
  ·have i3 : (YE a0 a1).2.1.toNat < a0.Zl.length := by first | omega | (have z := J8 a0 a1 (by simp_all); (try simp at *); omega)
   simp [i3, ZB, G]
   repeat with_reducible refine Xe ?_
   refine cKo f ?_ ?_ <;> intro k5 h3 f
   ·simp [G]
    repeat with_reducible refine Xe ?_
    refine dIo mixed ?_
    simp [i1, ZB, G]
    repeat with_reducible refine Xe ?_
    refine cD [false, false, false, true, true, false, false, true, false, false, true, false] (TN a0 (YE a0 a1).1 a1 (Z0.mk (nth a0.ZN (YE a0 a1).2.1.toNat).Zi a0.Frame.Now (-1) (nth a0.ZN (YE a0 a1).2.1.toNat).Z2 0) (sg u0) (by (have z := J8 a0 a1 (by simp_all); (try simp at *); omega))) ?_
    simp [G]
    repeat with_reducible refine Xe ?_
    exact zx [.cell 4 43, .tmp 5] f
   ·simp [G]
    repeat with_reducible refine Xe ?_
    refine dIo mixed ?_
    simp [i1, ZB, G]
    repeat with_reducible refine Xe ?_
    refine cD [false, false, false, true, true, false, false, true, false, false, true, false] (TN a0 (YE a0 a1).1 a1 (Z0.mk (nth a0.ZN (YE a0 a1).2.1.toNat).Zi a0.Frame.Now (nth a0.Zl (YE a0 a1).2.1.toNat) (nth a0.ZN (YE a0 a1).2.1.toNat).Z2 0) (sg u0) (by (have z := J8 a0 a1 (by simp_all); (try simp at *); omega))) ?_
    simp [G]
    repeat with_reducible refine Xe ?_
    exact zx [.cell 4 43, .tmp 5] f
 ·have fr := G
  simp [G]
  repeat with_reducible refine Xe ?_
  refine cKo f ?_ ?_ <;> intro k8 h4 f
  ·simp [G]
   repeat with_reducible refine Xe ?_
   refine cD [false, false, false, true, true, false, false, true, false, false, true, false] (YA a0 (sg u0)) ?_
   simp [G]
   repeat with_reducible refine Xe ?_
   exact zx [.cell 4 43, .tmp 5] f
  ·simp [G] at h4
theorem I8 (a0 : ZH) (a1 : Int) (u0 : Sm 2314240 a0) : Sd 72 [a0.row, rI a1] [(Ke a0 a1).1.row, rB (Ke a0 a1).2] := by
 have f := me (Ke.eq_1 a0 a1)
 refine soD func72 ntmps72 ?_
 refine cDs [false, false, false, true, true, false, false, true, false, false, true, false] (YA a0 (sg u0)) ?_
 refine cRs (Yb a1 0 (W ((a0.Zl.length : Int) - 1))) ?_
 refine gIf ?_ ?_ <;> intro G
 ·have c1 := sl 2314240 a0.Zl u0
  have w1 : IntKind.i64.wrap ((a0.Zl.length : Int) - 1) = (a0.Zl.length : Int) - 1 := YG (by omega) (by omega)
  have g1 := G; try simp [Zn, w1] at g1
  have i1 := ik a1.toNat a0.Zl
  simp [i1, ZB, G]
  refine rpG ?_
  refine cKo f ?_ ?_ <;> intro k1 h1 f
  ·have q1 := h1; try simp [Zn, w1] at q1
   simp [G]
   refine rpG ?_
   exact zx [.cell 4 43, .tmp 5] f
  ·have q1 := h1; try simp [Zn, w1] at q1
   simp [i1, ZB, YL (x := (W (a0.Frame.Now + 1))) rfl, G]
   refine rpG ?_
   refine H5 (rv := [.cell 4 43, .tmp 5]) rfl ?_
   simp [f.h, G]
   all_goals (repeat' (first | exact GU (by simp) (by simp) | refine And.intro ?_ ?_))
 ·have c2 := sl 2314240 a0.Zl u0
  have w2 : IntKind.i64.wrap ((a0.Zl.length : Int) - 1) = (a0.Zl.length : Int) - 1 := YG (by omega) (by omega)
  refine cKo f ?_ ?_ <;> intro k2 h2 f
  ·have q2 := h2; try simp [Zn, w2] at q2
   simp [G]
   refine rpG ?_
   exact zx [.cell 4 43, .tmp 5] f
  ·simp [G] at h2
theorem FL (a0 : List Int) : Sa 136 [rL 1 iR a0] [rB (jb a0)] := by
 have f := me (jb.eq_1 a0)
 refine so func136 ntmps136 ?_
 refine lp1 (WK.eq_2 a0) (fun J => YT 20 [eL 0 1 a0 iR, eI 3 (J : Int)]) (fun n1 J => a0.length < n1 + J /\ 1 <= J) (a0.length + 1) 1 (fun p1 J e1 j1 => ?_)
 refine cF e1 ?_ ?_ <;> intro k2 h1 e1
 ·have i1 := ix h1
  have m2 := ml a0 (k2 0 _ rfl)
  have w1 := wr J
  refine dIo mixed ?_
  have i2 := ik (J - 1) a0
  have w2 : IntKind.i64.wrap ((J : Int) - 1) = (J : Int) - 1 := YG (by omega) (by omega)
  simp [i2, ZB, w2, jA, i1]
  refine rpS ?_
  refine cF e1 ?_ ?_ <;> intro k4 h2 e1
  ·have f := ms f e1
   exact rt [.tmp 2] f
  exact ny1 (an w1 w2) e1
 have f := ms f e1
 exact rt [.tmp 2] f
theorem Pj (a0 : ZW) : Sd 204 [a0.row] [rL 1 iR (KB a0)] := by
 have f := me (KB.eq_1 a0)
 refine soD func204 ntmps204 ?_
 exact rtD [.tmp 2] f
theorem V6 (a0 : Int) (a1 : ZK) (u0 : Sm 2326528 a1) : Sa 212 [rI a0, a1.row] [rI (KY a0 a1)] := by
 have f := me (KY.eq_1 a0 a1)
 refine so func212 ntmps212 ?_
 refine lp2 (KN.eq_2 a1) (fun J U => YT 59 [eI 0 a0, eX 3 (a1.row.map .d), (5, .one (.sref 5 0 0 J.length), [.arr false 1 (J.map iR)]), eL 19 2 a1.Path Zy.row, eI 20 (a1.Path.length : Int), eI 21 (U : Int)]) (fun n1 J U => a1.Path.length < n1 + U /\ U <= a1.Path.length /\ J.length <= 4 + 2 * U) (a1.Path.length + 1) ([4, a1.Count, a1.Method, a1.GK] : List Int) 0 (fun p1 J U e1 j1 => ?_) (h0 := wkS [((5, 0), some (17, 0))] [])
 refine cFo e1 ?_ ?_ <;> intro k2 h1 e1
 ·have q1 := h1; try simp at q1
  have i1 := ix h1
  have m2 := ml a1.Path (k2 19 _ rfl)
  have c1 := sl 2326528 a1.Path u0
  have w1 := wr U
  simp [i1, ZB]
  refine rpS ?_
  refine cFo e1 ?_ ?_ <;> intro k3 h2 e1
  ·have q2 := h2; try simp at q2
   simp
   refine rpS ?_
   exact nx2 e1 (hw := Xf [((5, 0), some (32, 0))] [] rfl (by simp [w1]))
  have q2 := h2; try simp at q2
  simp
  refine rpS ?_
  exact nx2 e1 (hw := Xf [((5, 0), some (32, 0))] [] rfl (by simp [w1]))
 have q1 := h1; try simp at q1
 have c2 := sl 2326528 a1.Path u0
 have f := ms f e1
 simp
 refine rpS ?_
 refine lp2 (zc.eq_2 a1) (fun iZ gN => YT 59 [eI 0 a0, (5, .one (.sref 5 0 0 iZ.length), [.arr false 1 (iZ.map iR)]), eL 41 5 a1.Yi ZW.row, eI 42 (a1.Yi.length : Int), eI 43 (gN : Int)]) (fun n2 iZ gN => a1.Yi.length < n2 + gN /\ gN <= a1.Yi.length /\ iZ.length <= 5 + 2 * 2326528 + 6 * gN) (a1.Yi.length + 1) (J ++ ([(a1.Yi.length : Int)] : List Int)) 0 (fun p2 iZ gN e2 j2 => ?_) (hI := by (have o : a1.Path.length <= 2326528 := XP (xs u0); simp at *; omega)) (h0 := wkS [((5, 0), some (39, 0))] [])
 try dsimp only at j2
 refine cFo e2 ?_ ?_ <;> intro k5 h3 e2
 ·have q3 := h3; try simp at q3
  have i2 := ix h3
  have m4 := ml a1.Yi (k5 41 _ rfl)
  have c3 := sl 2326528 a1.Yi u0
  have w2 := wr gN
  simp [i2, ZB]
  refine rpS ?_
  refine dIs mixed ?_
  refine cRs (Yv.rd (Pj (nth a1.Yi gN))) ?_
  exact nx2 e2 (hI := by (simp; omega)) (hw := Xf [((5, 0), some (54, 0))] [] rfl (by simp [w2]))
 have q3 := h3; try simp at q3
 have c4 := sl 2326528 a1.Yi u0
 have f := ms f e2
 simp
 refine cRs (K0 a0 iZ (by first | (simp (maxDischargeDepth := 12) [XC]; omega) | (simp (maxDischargeDepth := 12) [ZZ (m := 68719476736) (by decide) u0]; done))) ?_
 exact rt [.tmp 4] f
theorem UN (a0 : Int) (a1 : List ZO) (u0 : Sm 2326528 a1) : Sa 258 [rI a0, rL 3 ZO.row a1] [rI (KI a0 a1)] := by
 have f := me (KI.eq_1 a0 a1)
 refine so func258 ntmps258 ?_
 refine lp2 (yE.eq_2 a0 a1) (fun J U => YT 32 [eI 0 a0, (5, .one (.sref 5 0 0 J.length), [.arr false 1 (J.map iR)]), eL 9 3 a1 ZO.row, eI 10 (a1.length : Int), eI 11 (U : Int)]) (fun n1 J U => a1.length < n1 + U /\ U <= a1.length /\ J.length <= 1 + 1 * U) (a1.length + 1) ([2] : List Int) 0 (fun p1 J U e1 j1 => ?_) (h0 := wkS [((5, 0), some (8, 0))] [])
 refine cFf e1 ?_ ?_ <;> intro k2 h1 e1
 ·have i1 := ix h1
  have m2 := ml a1 (k2 9 _ rfl)
  have c1 := sl 2326528 a1 u0
  have w1 := wr U
  have c2 := sl 2326528 (nth a1 U).Ys u0
  simp [i1, ZB]
  refine rpS ?_
  refine cRs (K0 a0 (([(nth a1 U).Key, (nth a1 U).Mark] : List Int) ++ (nth a1 U).Ys) (by simp (maxDischargeDepth := 12) [zN, XC, ZZ (m := 68719476736) (by decide) u0]; try omega)) ?_
  exact nx2 e1 (hw := Xf [((5, 0), some (27, 0))] [] rfl (by simp [w1]))
 have c3 := sl 2326528 a1 u0
 have f := ms f e1
 refine cRs (K0 a0 J (by first | (simp (maxDischargeDepth := 12) [XC]; omega) | (simp (maxDischargeDepth := 12) [ZZ (m := 68719476736) (by decide) u0]; done))) ?_
 exact rt [.tmp 4] f
theorem L2 (a0 : Int) (a1 : Int) (a2 : List ZO) (a3 : Int) (u0 : Sm 2322432 a2) : Sa 213 [rI a0, rI a1, rL 3 ZO.row a2, rI a3] [rI (Td a0 a1 a2 a3)] := by
 have f := me (Td.eq_1 a0 a1 a2 a3)
 refine so func213 ntmps213 ?_
 refine cRs (UN a0 a2 (sg u0)) ?_
 refine cRs (K0 a0 ([3, a1, (KI a0 a2), a3] : List Int) (by simp (maxDischargeDepth := 12) [zN, XC, ZZ (m := 68719476736) (by decide) u0]; try omega)) ?_
 exact rt [.tmp 8] f
theorem N1 (a0 : ZM) (a1 : Int) (u0 : Sm 2318336 a0) : Sa 147 [a0.row, rI a1] [rI (Qy a0 a1)] := by
 have f := me (Qy.eq_1 a0 a1)
 refine so func147 ntmps147 ?_
 refine cFf f ?_ ?_ <;> intro k1 h1 f
 ·have i1 := ik (a0.ZJ.Zf.length - 1) a0.ZJ.Zf
  have m1 := ml a0.ZJ.Zf (k1 9 _ rfl)
  have w1 : IntKind.i64.wrap ((a0.ZJ.Zf.length : Int) - 1) = (a0.ZJ.Zf.length : Int) - 1 := YG (by omega) (by omega)
  simp [i1, ZB, w1, jA]
  refine rpS ?_
  refine cRs (V6 a1 (nth a0.ZJ.Zf (a0.ZJ.Zf.length - 1)) (sg (Z7 (Za.kH (ZM.Jo u0))))) ?_
  refine dIs mixed ?_
  refine cRs (jo a1 a0.Doc (sg (ZM.kp u0))) ?_
  refine cRs (L2 a1 (Yc a1 a0.Doc) a0.ZJ.ZL (KY a1 (nth a0.ZJ.Zf (a0.ZJ.Zf.length - 1))) (sg (Za.km (ZM.Jo u0)))) ?_
  exact rt [.tmp 4] f
 refine dIs mixed ?_
 refine cRs (jo a1 a0.Doc (sg (ZM.kp u0))) ?_
 refine cRs (L2 a1 (Yc a1 a0.Doc) a0.ZJ.ZL 0 (sg (Za.km (ZM.Jo u0)))) ?_
 exact rt [.tmp 4] f
theorem R6 (a0 : ZC) (a1 : Int) (u0 : Sm 2314240 a0) : Sd 200 [a0.row, rI a1] [rL 1 iR (Xi a0 a1)] := by
 have f := me (Xi.eq_1 a0 a1)
 refine soD func200 ntmps200 ?_
 refine lp2 (y3.eq_2 a0 a1) (fun J U => YT 23 [eI 1 a1, (5, .one (.sref 5 0 0 J.length), [.arr false 1 (J.map iR)]), eL 9 16 a0.ZD ZM.row, eI 10 (a0.ZD.length : Int), eI 11 (U : Int)]) (fun n1 J U => a0.ZD.length < n1 + U /\ U <= a0.ZD.length /\ J.length <= 0 + 1 * U) (a0.ZD.length + 1) ([] : List Int) 0 (fun p1 J U e1 j1 => ?_) (h0 := wkS [((5, 0), none)] [])
 refine cFf e1 ?_ ?_ <;> intro k2 h1 e1
 ·have i1 := ix h1
  have m2 := ml a0.ZD (k2 9 _ rfl)
  have c1 := sl 2314240 a0.ZD u0
  have w1 := wr U
  simp [i1, ZB]
  refine rpS ?_
  refine cRs (N1 (nth a0.ZD U) a1 (sg (Z7 (ZC.YO u0)))) ?_
  exact nx2 e1 (hw := Xf [((5, 0), some (20, 0))] [] rfl (by simp [w1]))
 have c2 := sl 2314240 a0.ZD u0
 have f := ms f e1
 exact rtD [.tmp 4] f
theorem HR (a0 : Int) (a1 : Int) (a2 : Int) : Sa 275 [rI a0, rI a1, rI a2] [rI (jx a0 a1 a2)] := by
 have f := me (jx.eq_1 a0 a1 a2)
 refine so func275 ntmps275 ?_
 refine cRs (K0 a0 ([1, a1, a2] : List Int) (by simp (maxDischargeDepth := 12) [zN, XC]; try omega)) ?_
 exact rt [.tmp 6] f
theorem qt (a0 : Int) (a1 : List Int) (u0 : Sm 2322432 a1) : Sd 252 [rI a0, rL 1 iR a1] [rL 1 iR (J6 a0 a1)] := by
 have f := me (J6.eq_1 a0 a1)
 refine soD func252 ntmps252 ?_
 refine lp2 (Jj.eq_2 a0 a1) (fun J U => YT 40 [eI 0 a0, eL 1 1 a1 iR, (5, .one (.sref 5 0 0 J.length), [.arr false 1 (J.map iR)]), eI 6 (U : Int)]) (fun n1 J U => a1.length < n1 + U /\ U <= a1.length + 1 /\ J.length <= U) (a1.length + 1) ([] : List Int) 0 (fun p1 J U e1 j1 => ?_) (h0 := wkS [((5, 0), none)] [])
 try dsimp only at j1
 refine cF e1 ?_ ?_ <;> intro k2 h1 e1
 ·have i1 := ix h1
  have m2 := ml a1 (k2 1 _ rfl)
  have c1 := sl 2322432 a1 u0
  have w1 := wr U
  refine cFt e1 ?_ ?_ <;> intro k3 h2 e1
  ·refine okD fun k4 => ?_
   refine dIo mixed ?_
   have i2 := ik (W ((U : Int) + 1)).toNat a1
   simp [i1, ZB, i2]
   refine rpS ?_
   refine cRs (HR a0 (nth a1 U) (nth a1 (W ((U : Int) + 1)).toNat)) ?_ (iq := by first | (simp; done) | (simp [W, w1]; done))
   have w2 : IntKind.i64.wrap ((U : Int) + 2) = (U : Int) + 2 := YG (by omega) (by omega)
   exact nx2 e1 (hI := by first | omega | (simp at *; omega)) (hw := Xf [((5, 0), some (31, 0))] [] rfl (by simp [w1, w2]))
  simp [i1, ZB]
  refine rpS ?_
  have w3 : IntKind.i64.wrap ((U : Int) + 2) = (U : Int) + 2 := YG (by omega) (by omega)
  exact nx2 e1 (hI := by first | omega | (simp at *; omega)) (hw := Xf [((5, 0), some (38, 0))] [] rfl (by simp [w1, w3]))
 have c2 := sl 2322432 a1 u0
 have f := ms f e1
 exact rtD [.tmp 4] f
theorem Of (a0 : Int) (a1 : List Int) (u0 : Sm 2318336 a1) : Sa 199 [rI a0, rL 1 iR a1] [rI (jL a0 a1)] := by
 have f := me (jL.eq_1 a0 a1)
 refine so func199 ntmps199 ?_
 refine cRs (Yb (a1.length : Int) 1 16) ?_
 refine cFo f ?_ ?_ <;> intro k1 h1 f
 ·have q1 := h1; try simp [Zn] at q1
  simp
  exact rt [.tmp 4] f
 have q1 := h1; try simp [Zn] at q1
 simp
 refine lp1 (jh.eq_2 a0) (fun J => YT 18 [eI 0 a0, eL 1 1 J iR]) (fun n1 J => J.length < n1 /\ 1 <= J.length /\ J.length <= 16) (a1.length + 1) a1 (fun p1 J e1 j1 => ?_) (hI := by first | omega | (simp at *; omega))
 try dsimp only at j1
 refine cFt e1 ?_ ?_ <;> intro k3 h2 e1
 ·refine cRs (Yv.rd (qt a0 J (by first | (simp (maxDischargeDepth := 12) [XC]; omega) | (simp (maxDischargeDepth := 12) [ZZ (m := 2322432) (by decide) u0]; done)))) ?_
  exact nx1 e1 (hI := by (have z := xt a0 J (by omega); (try dsimp only); simp at *; omega))
 have f := ms f e1
 have i1 := ik 0 J
 simp [i1, ZB]
 refine rpS ?_
 exact rt [.tmp 4] f
theorem MS (a0 : ZC) (a1 : Int) (u0 : Sm 2310144 a0) : Sa 137 [a0.row, rI a1] [rI (Qx a0 a1)] := by
 have f := me (Qx.eq_1 a0 a1)
 refine so func137 ntmps137 ?_
 refine cRs (Yv.rd (R6 a0 a1 (sg u0))) ?_
 refine cRs (Of a1 (Xi a0 a1) (by simp (maxDischargeDepth := 12) [V0, ZZ (m := 2318336) (by decide) u0]; try omega)) ?_
 exact rt [.tmp 4] f
theorem Vs (a0 : List ZR) (a1 : Int) : Sa 138 [rL 3 ZR.row a0, rI a1] [rI (Zh a0 a1)] := by
 have f := me (Zh.eq_1 a0 a1)
 refine so func138 ntmps138 ?_
 refine lp1 (Jd.eq_2 a0 a1) (fun J => YT 20 [eI 1 a1, eL 7 3 a0 ZR.row, eI 8 (a0.length : Int), eI 9 (J : Int)]) (fun n1 J => a0.length < n1 + J /\ J <= a0.length) (a0.length + 1) 0 (fun p1 J e1 j1 => ?_)
 refine cFf e1 ?_ ?_ <;> intro k2 h1 e1
 ·have i1 := ix h1
  have m2 := ml a0 (k2 7 _ rfl)
  have w1 := wr J
  simp [i1, ZB]
  refine rpS ?_
  refine cF e1 ?_ ?_ <;> intro k3 h2 e1
  ·have f := ms f e1
   exact rt [.tmp 4] f
  exact ny1 w1 e1
 have f := ms f e1
 exact rt [.tmp 4] f
theorem AK (a0 : List Int) (a1 : Int) : Sa 201 [rL 1 iR a0, rI a1] [rI (Pz a0 a1)] := by
 have f := me (Pz.eq_1 a0 a1)
 refine so func201 ntmps201 ?_
 refine lp1 (UP.eq_2 a0 a1) (fun J => YT 19 [eI 1 a1, eL 7 1 a0 iR, eI 8 (a0.length : Int), eI 9 (J : Int)]) (fun n1 J => a0.length < n1 + J /\ J <= a0.length) (a0.length + 1) 0 (fun p1 J e1 j1 => ?_)
 refine cFf e1 ?_ ?_ <;> intro k2 h1 e1
 ·have i1 := ix h1
  have m2 := ml a0 (k2 7 _ rfl)
  have w1 := wr J
  simp [i1, ZB]
  refine rpS ?_
  refine cF e1 ?_ ?_ <;> intro k3 h2 e1
  ·have f := ms f e1
   exact rt [.tmp 4] f
  exact ny1 w1 e1
 have f := ms f e1
 exact rt [.tmp 4] f
theorem PI (a0 : List Int) (a1 : Int) : Sa 139 [rL 1 iR a0, rI a1] [rB (jk a0 a1)] := by
 have f := me (jk.eq_1 a0 a1)
 refine so func139 ntmps139 ?_
 refine cRs (AK a0 a1) ?_
 exact rt [.tmp 4] f
theorem Vw (a0 : List YZ) (a1 : List ZR) (a2 : ZW) (u0 : Sm 2318336 a0) (u1 : Sm 2318336 a1) : Sa 140 [rL 5 YZ.row a0, rL 3 ZR.row a1, a2.row] [(Js a0 a1 a2).1.row, rB (Js a0 a1 a2).2] := by
 have f := me (Js.eq_1 a0 a1 a2)
 refine so func140 ntmps140 ?_
 refine cRs (Vs a1 a2.Authority) ?_
 refine cGs (fun gg => (PB a2.Time)) ?_
 refine cF f ?_ ?_ <;> intro k1 h1 f
 ·exact rt [.cell 6 158, .tmp 7] f
 refine dIo mixed ?_
 have i1 : (Zh a1 a2.Authority).toNat < a1.length := by have := Jy a1 a2.Authority; exact il
 simp [i1, ZB]
 refine rpS ?_
 refine cRs (Yv.rd (Pj a2)) ?_
 refine cRs (PU a0 (nth a1 (Zh a1 a2.Authority).toNat).Key (KB a2) (sg u0) (by simp (maxDischargeDepth := 12) [GJ, ZZ (m := 2322432) (by decide) u0, ZZ (m := 2322432) (by decide) u1]; try omega)) ?_
 refine cF f ?_ ?_ <;> intro k3 h2 f
 ·exact rt [.cell 6 158, .tmp 7] f
 exact rt [.cell 6 158, .tmp 7] f
theorem OQ {a b : Prop} (h : b) (k : a := by (intros; first | omega | with_unfolding_all (first | first | omega | (have tm := Int.tmod_eq_emod_of_nonneg (b := 2) (show 0 <= U by omega); (try simp only [K1, show ∀ x, IntKind.i64.wrap x = W x from fun _ => rfl] at *); (try simp at *); omega)) | ((try simp only [K1, show ∀ x, IntKind.i64.wrap x = W x from fun _ => rfl] at *); omega))) : a /\ b := ⟨k, h⟩
theorem DV (a0 : Int) (a1 : List Int) (a2 : Int) (u0 : Sm 2318336 a1) : Sd 206 [rI a0, rL 1 iR a1, rI a2] [rL 2 Zy.row (JJ a0 a1 a2)] := by
 have f := me (JJ.eq_1 a0 a1 a2)
 refine soD func206 ntmps206 ?_
 refine cRs (Yb a2 0 (W ((a1.length : Int) - 1))) ?_
 have c1 := sl 2318336 a1 u0
 have w1 : IntKind.i64.wrap ((a1.length : Int) - 1) = (a1.length : Int) - 1 := YG (by omega) (by omega)
 refine cFo f ?_ ?_ <;> intro k1 h1 f
 ·have q1 := h1; try simp [Zn, w1] at q1
  simp
  exact rtD [.tmp 6] f
 have q1 := h1; try simp [Zn, w1] at q1
 simp
 refine lp3 (Jh.eq_2 a0) (fun J U iQ => YT 54 [eI 0 a0, eL 1 1 J iR, eI 2 U, (7, .one (.sref 7 0 0 iQ.length), [.arr false 2 (iQ.map Zy.row)])]) (fun n1 J U iQ => J.length < n1 /\ 0 <= U /\ U < (J.length : Int) /\ J.length <= 16 /\ iQ.length + n1 <= 17) (a1.length + 1) a1 a2 ([] : List Zy) (fun p1 J U iQ e1 j1 => ?_) (hI := by first | omega | (simp at *; omega)) (h0 := wkS [((7, 0), none)] [])
 try dsimp only at j1
 refine cF e1 ?_ ?_ <;> intro k3 h2 e1
 ·refine cFf e1 ?_ ?_ <;> intro k4 h3 e1
  ·have i1 : (W (U - 1)).toNat < J.length := by first | omega | (have tm := Int.tmod_eq_emod_of_nonneg (b := 2) (show 0 <= U by omega); (try simp only [K1, show ∀ x, IntKind.i64.wrap x = W x from fun _ => rfl] at *); (try simp at *); omega)
   simp [i1, ZB]
   repeat with_reducible refine OQ ?_
   refine cRs (Yv.rd (qt a0 J (by first | (simp (maxDischargeDepth := 12) [XC]; omega) | (simp (maxDischargeDepth := 12) [ZZ (m := 2322432) (by decide) u0]; done)))) ?_
   exact nx3 e1 (hI := by (have z := xt a0 J (by omega); have td := Int.tdiv_eq_ediv_of_nonneg (b := 2) (show 0 <= U by omega); have w2 : W (Int.tdiv U 2) = Int.tdiv U 2 := YG (by omega) (by omega); (try dsimp only); rw [w2]; simp at *; omega)) (hw := Xf [((7, 0), some (33, 0))] [] rfl (by simp [w1]))
  refine cFo e1 ?_ ?_ <;> intro k5 h4 e1
  ·have q4 := h4; try simp [w1] at q4
   have i2 : (W (U + 1)).toNat < J.length := by first | omega | (have tm := Int.tmod_eq_emod_of_nonneg (b := 2) (show 0 <= U by omega); (try simp only [K1, show ∀ x, IntKind.i64.wrap x = W x from fun _ => rfl] at *); (try simp at *); omega)
   simp [i2, ZB]
   repeat with_reducible refine OQ ?_
   refine cRs (Yv.rd (qt a0 J (by first | (simp (maxDischargeDepth := 12) [XC]; omega) | (simp (maxDischargeDepth := 12) [ZZ (m := 2322432) (by decide) u0]; done)))) ?_
   exact nx3 e1 (hI := by (have z := xt a0 J (by omega); have td := Int.tdiv_eq_ediv_of_nonneg (b := 2) (show 0 <= U by omega); have w2 : W (Int.tdiv U 2) = Int.tdiv U 2 := YG (by omega) (by omega); (try dsimp only); rw [w2]; simp at *; omega)) (hw := Xf [((7, 0), some (47, 0))] [] rfl (by simp [w1]))
  have q4 := h4; try simp [w1] at q4
  simp
  refine cRs (Yv.rd (qt a0 J (by first | (simp (maxDischargeDepth := 12) [XC]; omega) | (simp (maxDischargeDepth := 12) [ZZ (m := 2322432) (by decide) u0]; done)))) ?_
  exact ny3 w1 e1 (hI := by (have z := xt a0 J (by omega); have td := Int.tdiv_eq_ediv_of_nonneg (b := 2) (show 0 <= U by omega); have w2 : W (Int.tdiv U 2) = Int.tdiv U 2 := YG (by omega) (by omega); (try dsimp only); rw [w2]; simp at *; omega))
 have f := ms f e1
 exact rtD [.tmp 6] f
theorem S9 (a0 : Za) (a1 : ZK) (u0 : Sm 2326528 a0) (u1 : Sm 2326528 a1) : Sd 148 [a0.row, a1.row] [(Xl a0 a1).1.row, rB (Xl a0 a1).2] := by
 have f := me (Xl.eq_1 a0 a1)
 refine soD func148 ntmps148 ?_
 refine cDs [] (z4 a0 (sg u0)) ?_
 refine drJ [14] mixed ?_
 simp
 refine cDs [true, true, true, false, false] (Uh a1 (sg u1)) ?_
 refine W2 ?_
 have c1 := sl 2326528 a0.Zf (an u0 u1)
 simp
 refine UL (iT := (a0.Zf.map ZK.row)) (news := (([a1] : List ZK).map ZK.row)) (l1 := [(8, 1)]) (l2 := [(12, 3), (12, 4)]) (size := 5) ?_
 simp
 refine cRs (U1 (Za.mk a0.ZL (a0.Zf ++ ([a1] : List ZK)))) ?_
 refine cF f ?_ ?_ <;> intro k2 h1 f
 ·refine cDs [] (z4 a0 (sg u0)) ?_
  exact rtD [.cell 4 128, .tmp 5] f
 exact rtD [.cell 4 128, .tmp 5] f
theorem LA (a0 : ZC) (a1 : Int) (a2 : List ZW) (u0 : Sm 2306048 a0) (u1 : Sm 2306048 a2) : Sd 141 [a0.row, rI a1, rL 5 ZW.row a2] [(Qh a0 a1 a2).1.row, rB (Qh a0 a1 a2).2] := by
 have f := me (Qh.eq_1 a0 a1 a2)
 refine soD func141 ntmps141 ?_
 refine cGs (fun gg => (xX a0)) ?_
 refine cF f ?_ ?_ <;> intro k1 h1 f
 ·refine cDs [] (YV a0 (sg u0)) ?_
  exact rtD [.cell 6 94, .tmp 7] f
 refine cDs [] (YV a0 (sg u0)) ?_
 refine cRs (Yv.rd (R6 a0 a1 (sg u0))) ?_
 refine lp2 (XQ.eq_2 a0 a1 a2) (fun J U => YT 75 [eI 1 a1, eL 2 5 a2 ZW.row, eX 3 (a0.row.map .d), (6, .one (.bptr 6 0), [.box [.d (.int .i64 0), .nil 16]]), (8, .one (.bptr 8 0), [.box [.d (.int .i64 a0.Id), .sref 26 1 0 U.length]]), eL 9 1 (Xi a0 a1) iR, (26, .any, [.none, .arr true 16 (U.map ZM.row)]), eL 31 16 a0.ZD ZM.row, eI 32 (a0.ZD.length : Int), eI 33 (J : Int)]) (fun n1 J U => a0.ZD.length < n1 + J /\ J <= a0.ZD.length /\ U.length = a0.ZD.length) (a0.ZD.length + 1) 0 a0.ZD (fun p1 J U e1 j1 => ?_)
 refine cFf e1 ?_ ?_ <;> intro k3 h2 e1
 ·have i1 := ix h2
  have m2 := ml a0.ZD (k3 31 _ rfl)
  have c1 := sl 2306048 a0.ZD (an u0 u1)
  have w1 := wr J
  simp [i1, ZB]
  refine rpS ?_
  refine dIs mixed ?_
  refine cRs (MS a0 a1 (sg u0)) ?_
  refine cRs (Yv.rd (DV a1 (Xi a0 a1) (J : Int) (by simp (maxDischargeDepth := 12) [V0, ZZ (m := 2318336) (by decide) u0, ZZ (m := 2318336) (by decide) u1]; try omega))) ?_
  refine cDs [] (S9 (nth a0.ZD J).ZJ (ZK.mk ((nth a0.ZD J).ZJ.ZL.length : Int) a1 (Qx a0 a1) (JJ a1 (Xi a0 a1) (J : Int)) a2) (sg (ZM.Jo (Z7 (ZC.YO u0)))) (by simp (maxDischargeDepth := 12) [OJ, V0, ZZ (m := 2326528) (by decide) u0, ZZ (m := 2326528) (by decide) u1]; try omega)) ?_
  refine cFt e1 ?_ ?_ <;> intro k5 h3 e1
  ·refine cDs [] (YV a0 (sg u0)) ?_
   have f := ms f e1
   exact rtD [.cell 6 94, .tmp 7] f
  have i2 := ik J U
  simp [i2, ZB]
  refine rpS ?_
  refine pc (t := 26) (j := 1) (i := J) (c := 14) (size := 16) (rows := (U.map ZM.row)) (ds := (Xl (nth a0.ZD J).ZJ (ZK.mk ((nth a0.ZD J).ZJ.ZL.length : Int) a1 (Qx a0 a1) (JJ a1 (Xi a0 a1) (J : Int)) a2)).1.row) (L := [(55, 0), (55, 1)]) rfl rfl rfl rfl (by simp) (by simp) (by simp; try omega) (by simp) (by simp) (by simp) (by simp) (by simp) (by simp) ?_
  simp [YL (x := (ZM.mk (nth U J).Id (nth U J).XB (nth U J).Doc (nth U J).Sig (Xl (nth a0.ZD J).ZJ (ZK.mk ((nth a0.ZD J).ZJ.ZL.length : Int) a1 (Qx a0 a1) (JJ a1 (Xi a0 a1) (J : Int)) a2)).1)) rfl, i2, ZB, Zd]
  refine rpS ?_
  exact ny2 w1 e1
 have c2 := sl 2306048 a0.ZD (an u0 u1)
 have f := ms f e1
 refine cRs (xX (ZC.mk a0.Id U)) ?_
 refine cF f ?_ ?_ <;> intro k6 h4 f
 ·refine cDs [] (YV a0 (sg u0)) ?_
  exact rtD [.cell 6 94, .tmp 7] f
 exact rtD [.cell 6 94, .tmp 7] f
theorem GN (a0 : ZH) (a1 : Int) (a2 : List Int) (a3 : Int) (u0 : Sm 2301952 a0) (u1 : Sm 2301952 a2) : Sd 73 [a0.row, rI a1, rL 1 iR a2, rI a3] [(Kr a0 a1 a2 a3).1.row, rB (Kr a0 a1 a2 a3).2] := by
 have f := me (Kr.eq_1 a0 a1 a2 a3)
 refine soD func73 ntmps73 ?_
 refine cDs [false, false, false, true, true, false, false, true, false, false, true, false] (YA a0 (sg u0)) ?_
 refine cRs (qp a0.Frame.Methods a0.Frame.Now) ?_
 refine cRs (yI a0 a1) ?_
 refine cGs (fun gg => (FL a2)) ?_
 refine cGs (fun gg => (Yb a3 (-10000) 10000)) ?_
 have c1 := sl 2301952 a0.ZA (an u0 u1)
 have w1 : IntKind.i64.wrap ((a0.ZA.length : Int) - 1) = (a0.ZA.length : Int) - 1 := YG (by omega) (by omega)
 refine cFo f ?_ ?_ <;> intro k1 h1 f
 ·have q1 := h1; try simp [Zn, w1, YR] at q1
  simp
  exact rtD [.cell 8 43, .tmp 9] f
 have q1 := h1; try simp [Zn, w1, YR] at q1
 have i1 := ik a1.toNat a0.ZA
 simp [i1, ZB]
 refine rpS ?_
 refine cRs (MS (nth a0.ZA a1.toNat) (ZP a0.Frame.Methods a0.Frame.Now) (sg (Z7 (ZH.YW u0)))) ?_
 refine lp3 (Y7.eq_2 a0 a1 a2 a3) (fun J U iQ => YT 175 [eI 1 a1, eI 3 a3, eX 4 (a0.row.map .d), (8, .one (.bptr 8 0), [.box [.nil 5, .nil 3, .nil 4, .d (.int .i64 0), .d (.int .i64 0), .nil 7, .nil 1, .nil 2, .nil 1, .nil 1, .d (.int .i64 0), .nil 1]]), eX 10 (a0.Frame.row.map .d), (11, .one (.bptr 11 0), [.box [.sref 27 0 0 a0.Frame.Zm.length, .sref 27 1 0 a0.Frame.ZE.length, .sref 27 2 0 a0.Frame.Methods.length, .d (.int .i64 a0.Frame.KZ), .d (.int .i64 a0.Frame.Now), .sref 27 5 0 a0.ZN.length, .sref 27 6 0 a0.Zl.length, .sref 27 7 0 a0.ZA.length, .sref 27 8 0 iQ.length, .sref 27 9 0 a0.YJ.length, .d (.int .i64 a0.Next), .sref 27 11 0 a0.Z4.length]]), eI 12 (ZP a0.Frame.Methods a0.Frame.Now), eI 13 (Qx (nth a0.ZA a1.toNat) (ZP a0.Frame.Methods a0.Frame.Now)), (14, .one (.sref 14 0 0 J.length), [.arr false 5 (J.map ZW.row)]), (27, .any, [.arr false 5 (a0.Frame.Zm.map YZ.row), .arr false 3 (a0.Frame.ZE.map ZR.row), .arr false 4 (a0.Frame.Methods.map Zj.row), .none, .none, .arr false 7 (a0.ZN.map Z1.row), .arr false 1 (a0.Zl.map iR), .arr true 2 (a0.ZA.map ZC.row), .arr false 1 (iQ.map iR), .arr false 1 (a0.YJ.map iR), .none, .arr false 1 (a0.Z4.map iR)]), eL 64 1 a2 iR, eI 65 (a2.length : Int), eI 66 (U : Int)]) (fun n1 J U iQ => a2.length < n1 + U /\ U <= a2.length /\ J.length <= 0 + 1 * U /\ iQ.length = a0.YX.length) (a2.length + 1) ([] : List ZW) 0 a0.YX (fun p1 J U iQ e1 j1 => ?_) (h0 := wkS [((14, 0), none)] [])
 refine cFo e1 ?_ ?_ <;> intro k3 h2 e1
 ·have i2 := ix h2
  have m2 := ml a2 (k3 64 _ rfl)
  have c2 := sl 2301952 a2 (an u0 u1)
  have w2 := wr U
  simp [i2, ZB]
  refine rpS ?_
  refine cRs (Vs a0.Frame.ZE (nth a2 U)) ?_
  refine cF e1 ?_ ?_ <;> intro k4 h3 e1
  ·refine cDs [false, false, false, true, true, false, false, true, false, false, true, false] (YA a0 (sg u0)) ?_
   have f := ms f e1
   exact rtD [.cell 8 43, .tmp 9] f
  refine dIo mixed ?_
  have i3 : (Zh a0.Frame.ZE (nth a2 U)).toNat < a0.Frame.ZE.length := by have := Jy a0.Frame.ZE (nth a2 U); exact il
  simp [i3, ZB]
  refine rpS ?_
  refine cRs (yW a0.Frame.Zm (nth a0.Frame.ZE (Zh a0.Frame.ZE (nth a2 U)).toNat).Key) ?_
  refine dIs mixed ?_
  refine gIf ?_ ?_ <;> intro G
  ·have i4 : (YD a0.Frame.Zm (nth a0.Frame.ZE (Zh a0.Frame.ZE (nth a2 U)).toNat).Key).toNat < a0.Frame.Zm.length := by have := j9 a0.Frame.Zm (nth a0.Frame.ZE (Zh a0.Frame.ZE (nth a2 U)).toNat).Key; exact il
   simp [i4, ZB, G]
   refine rpG ?_
   refine cK e1 ?_ ?_ <;> intro k7 h4 e1
   ·refine cDg [false, false, false, true, true, false, false, true, false, false, true, false] (YA a0 (sg u0)) ?_
    have f := ms f e1
    exact zx [.cell 8 43, .tmp 9] f
   ·refine cRg (PI a0.YJ (nth a2 U)) ?_
    refine cK e1 ?_ ?_ <;> intro k8 h5 e1
    ·refine dIo mixed ?_
     have i5 : (Zh a0.Frame.ZE (nth a2 U)).toNat < a0.YX.length := by have := Jy a0.Frame.ZE (nth a2 U); exact il
     simp [i5, ZB, G]
     refine rpG ?_
     refine cRg (Vw a0.Frame.Zm a0.Frame.ZE (ZW.mk (nth a2 U) (nth a0.YX (Zh a0.Frame.ZE (nth a2 U)).toNat) (if (if (W (a0.Frame.Now + a3)) < 10000 then (W (a0.Frame.Now + a3)) else 10000) > 0 then (if (W (a0.Frame.Now + a3)) < 10000 then (W (a0.Frame.Now + a3)) else 10000) else 0) (Qx (nth a0.ZA a1.toNat) (ZP a0.Frame.Methods a0.Frame.Now)) 0) (sg (Zq.xw (ZH.Xj u0))) (sg (Zq.XV (ZH.Xj u0)))) ?_ (iq := by first | (simp; done) | (simp [W, w1, w2]; done))
     refine cKo e1 ?_ ?_ <;> intro aH h6 e1
     ·have q6 := h6; try simp [w1] at q6
      simp [G]
      refine rpG ?_
      refine cDg [false, false, false, true, true, false, false, true, false, false, true, false] (YA a0 (sg u0)) ?_
      have f := ms f e1
      exact zx [.cell 8 43, .tmp 9] f
     ·have q6 := h6; try simp [w1] at q6
      have i6 : (Zh a0.Frame.ZE (nth a2 U)).toNat < iQ.length := by have := Jy a0.Frame.ZE (nth a2 U); exact il
      simp [i6, ZB, YL (x := (W ((nth iQ (Zh a0.Frame.ZE (nth a2 U)).toNat) + 1))) rfl, G]
      refine rpG ?_
      exact nx3 e1 (hw := Xf [((14, 0), some (145, 0))] [] rfl (by simp [w1, w2, G]))
    ·refine dIo mixed ?_
     have i7 : (Zh a0.Frame.ZE (nth a2 U)).toNat < a0.YX.length := by have := Jy a0.Frame.ZE (nth a2 U); exact il
     simp [i7, ZB, G]
     refine rpG ?_
     refine cRg (Vw a0.Frame.Zm a0.Frame.ZE (ZW.mk (nth a2 U) (nth a0.YX (Zh a0.Frame.ZE (nth a2 U)).toNat) a0.Frame.Now (Qx (nth a0.ZA a1.toNat) (ZP a0.Frame.Methods a0.Frame.Now)) 0) (sg (Zq.xw (ZH.Xj u0))) (sg (Zq.XV (ZH.Xj u0)))) ?_
     refine cKt e1 ?_ ?_ <;> intro k12 h7 e1
     ·refine cDg [false, false, false, true, true, false, false, true, false, false, true, false] (YA a0 (sg u0)) ?_
      have f := ms f e1
      exact zx [.cell 8 43, .tmp 9] f
     ·have i8 : (Zh a0.Frame.ZE (nth a2 U)).toNat < iQ.length := by have := Jy a0.Frame.ZE (nth a2 U); exact il
      simp [i8, ZB, YL (x := (W ((nth iQ (Zh a0.Frame.ZE (nth a2 U)).toNat) + 1))) rfl, G]
      refine rpG ?_
      exact nx3 e1 (hw := Xf [((14, 0), some (145, 0))] [] rfl (by simp [w1, w2, G]))
  ·refine cK e1 ?_ ?_ <;> intro k13 h8 e1
   ·refine cDg [false, false, false, true, true, false, false, true, false, false, true, false] (YA a0 (sg u0)) ?_
    have f := ms f e1
    exact zx [.cell 8 43, .tmp 9] f
   ·simp [G] at h8
 have c3 := sl 2301952 a2 (an u0 u1)
 have f := ms f e1
 simp [i1, ZB]
 refine rpS ?_
 refine cDs [] (LA (nth a0.ZA a1.toNat) (ZP a0.Frame.Methods a0.Frame.Now) J (sg (Z7 (ZH.YW u0))) (by first | (simp (maxDischargeDepth := 12) [XC]; omega) | (simp (maxDischargeDepth := 12) [ZZ (m := 2306048) (by decide) u0, ZZ (m := 2306048) (by decide) u1]; done))) ?_
 refine cFt f ?_ ?_ <;> intro k19 h12 f
 ·refine cDs [false, false, false, true, true, false, false, true, false, false, true, false] (YA a0 (sg u0)) ?_
  exact rtD [.cell 8 43, .tmp 9] f
 simp [i1, ZB]
 refine rpS ?_
 refine SE (t := 27) (j := 7) (i := a1.toNat) (size := 2) (rows := (a0.ZA.map ZC.row)) (ds := (Qh (nth a0.ZA a1.toNat) (ZP a0.Frame.Methods a0.Frame.Now) J).1.row) (L := [(162, 1)]) ?_
 simp [YL (x := (Qh (nth a0.ZA a1.toNat) (ZP a0.Frame.Methods a0.Frame.Now) J).1) rfl, c1, i1, ZB, Zd]
 refine rpS ?_
 exact rtD [.cell 8 43, .tmp 9] f
theorem HI (a0 : Int) (a1 : ZM) (u0 : Sm 2318336 a1) : Sa 278 [rI a0, a1.row] [rI (js a0 a1)] := by
 have f := me (js.eq_1 a0 a1)
 refine so func278 ntmps278 ?_
 refine dIs mixed ?_
 refine cRs (jo a0 a1.Doc (sg (ZM.kp u0))) ?_
 refine cRs (UN a0 a1.ZJ.ZL (sg (Za.km (ZM.Jo u0)))) ?_
 refine lp2 (xg.eq_2 a0 a1) (fun J U => YT 40 [eI 0 a0, (5, .one (.sref 5 0 0 J.length), [.arr false 1 (J.map iR)]), eL 24 5 a1.ZJ.Zf ZK.row, eI 25 (a1.ZJ.Zf.length : Int), eI 26 (U : Int)]) (fun n1 J U => a1.ZJ.Zf.length < n1 + U /\ U <= a1.ZJ.Zf.length /\ J.length <= 5 + 1 * U) (a1.ZJ.Zf.length + 1) ([5, a1.Id, a1.XB, (Yc a0 a1.Doc), (KI a0 a1.ZJ.ZL)] : List Int) 0 (fun p1 J U e1 j1 => ?_) (h0 := wkS [((5, 0), some (21, 0))] [])
 refine cFf e1 ?_ ?_ <;> intro k3 h1 e1
 ·have i1 := ix h1
  have m2 := ml a1.ZJ.Zf (k3 24 _ rfl)
  have c1 := sl 2318336 a1.ZJ.Zf u0
  have w1 := wr U
  simp [i1, ZB]
  refine rpS ?_
  refine cRs (V6 a0 (nth a1.ZJ.Zf U) (sg (Z7 (Za.kH (ZM.Jo u0))))) ?_
  exact nx2 e1 (hw := Xf [((5, 0), some (35, 0))] [] rfl (by simp [w1]))
 have c2 := sl 2318336 a1.ZJ.Zf u0
 have f := ms f e1
 refine cRs (K0 a0 J (by first | (simp (maxDischargeDepth := 12) [XC]; omega) | (simp (maxDischargeDepth := 12) [ZZ (m := 68719476736) (by decide) u0]; done))) ?_
 exact rt [.tmp 4] f
theorem Vl (a0 : Int) (a1 : List ZM) (u0 : Sm 2314240 a1) : Sa 255 [rI a0, rL 16 ZM.row a1] [rI (zM a0 a1)] := by
 have f := me (zM.eq_1 a0 a1)
 refine so func255 ntmps255 ?_
 refine lp2 (zR.eq_2 a0 a1) (fun J U => YT 24 [eI 0 a0, (5, .one (.sref 5 0 0 J.length), [.arr false 1 (J.map iR)]), eL 8 16 a1 ZM.row, eI 9 (a1.length : Int), eI 10 (U : Int)]) (fun n1 J U => a1.length < n1 + U /\ U <= a1.length /\ J.length <= 0 + 1 * U) (a1.length + 1) ([] : List Int) 0 (fun p1 J U e1 j1 => ?_) (h0 := wkS [((5, 0), none)] [])
 refine cFf e1 ?_ ?_ <;> intro k2 h1 e1
 ·have i1 := ix h1
  have m2 := ml a1 (k2 8 _ rfl)
  have c1 := sl 2314240 a1 u0
  have w1 := wr U
  simp [i1, ZB]
  refine rpS ?_
  refine cRs (HI a0 (nth a1 U) (sg (Z7 u0))) ?_
  exact nx2 e1 (hw := Xf [((5, 0), some (19, 0))] [] rfl (by simp [w1]))
 have c2 := sl 2314240 a1 u0
 have f := ms f e1
 refine cRs (Of a0 J (by first | (simp (maxDischargeDepth := 12) [XC]; omega) | (simp (maxDischargeDepth := 12) [ZZ (m := 2318336) (by decide) u0]; done))) ?_
 exact rt [.tmp 4] f
theorem HP (a0 : ZC) (a1 : Int) (a2 : List Int) (a3 : Int) (u0 : Sm 2310144 a0) (u1 : Sm 2310144 a2) : Sd 207 [a0.row, rI a1, rL 1 iR a2, rI a3] [(YK a0 a1 a2 a3).1.row, rB (YK a0 a1 a2 a3).2] := by
 have f := me (YK.eq_1 a0 a1 a2 a3)
 refine soD func207 ntmps207 ?_
 refine lp2 (QB.eq_2 a0 a2) (fun J U => YT 52 [eL 2 1 a2 iR, eI 3 a3, eX 4 (a0.row.map .d), (8, .one (.bptr 8 0), [.box [.d (.int .i64 0), .d (.int .i64 0), .nil 16, .d (.int .i64 0)]]), (10, .one (.bptr 10 0), [.box [.d (.int .i64 a0.Id), .d (.int .i64 a1), .sref 10 3 0 U.length, .d (.int .i64 0)], .none, .none, .arr true 16 (U.map ZM.row)]), eL 18 1 a2 iR, eI 19 (a2.length : Int), eI 20 (J : Int)]) (fun n1 J U => a2.length < n1 + J /\ J <= a2.length /\ U.length <= J /\ (∀ x ∈ U, Sm 2310144 x)) (a2.length + 1) 0 ([] : List ZM) (fun p1 J U e1 j1 => ?_) (hI := by exact ⟨by omega, by omega, Nat.zero_le _, Nat.zero_le _, fun x h => by cases h⟩) (h0 := wkS [((10, 3), none)] [])
 try dsimp only at j1
 refine cFf e1 ?_ ?_ <;> intro k2 h1 e1
 ·have i1 := ix h1
  have m2 := ml a2 (k2 2 _ rfl)
  have c1 := sl 2310144 a2 (an u0 u1)
  have w1 := wr J
  simp [i1, ZB]
  refine rpS ?_
  refine cRs (qi a0 (nth a2 J)) ?_
  refine cF e1 ?_ ?_ <;> intro k3 h2 e1
  ·have f := ms f e1
   exact rtD [.cell 8 225, .tmp 9] f
  refine drJ [39] mixed ?_
  have i2 : (ZX a0 (nth a2 J)).toNat < a0.ZD.length := by have := Q5 a0 (nth a2 J); exact il
  simp [i2, ZB]
  refine rpS ?_
  refine cDs [true, true, true, false, false] (xO (nth a0.ZD (ZX a0 (nth a2 J)).toNat) (sg (Z7 (ZC.YO u0)))) ?_
  refine W2 ?_
  simp
  refine UL (iT := (U.map ZM.row)) (news := (([(nth a0.ZD (ZX a0 (nth a2 J)).toNat)] : List ZM).map ZM.row)) (l1 := [(10, 3)]) (l2 := [(37, 3), (37, 4), (37, 14), (37, 15)]) (size := 16) ?_
  simp
  exact nx2 e1 (hI := by ((try dsimp only); refine ⟨by omega, by omega, by omega, by simp; omega, fun x hx => ?_⟩; rcases List.mem_append.1 hx with hx | hx; exact j1.2.2.2.2 x hx; have e := List.mem_singleton.1 hx; subst e; exact Z7 (ZC.YO u0))) (hw := Xf [((10, 3), some (39, 0))] [] rfl (by simp [w1]))
 have c2 := sl 2310144 a2 (an u0 u1)
 have f := ms f e1
 refine cF f ?_ ?_ <;> intro k5 h3 f
 ·exact rtD [.cell 8 225, .tmp 9] f
 refine cRs (Vl a3 U (by (have q := XP (show Sm 2310144 a2 from u1); exact ZZ (n := 2310144) (by decide) ⟨by omega, j1.2.2.2.2⟩))) ?_
 exact rtD [.cell 8 225, .tmp 9] f
theorem M5 (a0 : YP) (a1 : Int) (u0 : Sm 2310144 a0) : Sa 256 [a0.row, rI a1] [rB (Q8 a0 a1)] := by
 have f := me (Q8.eq_1 a0 a1)
 refine so func256 ntmps256 ?_
 refine lp1 (Ju.eq_2 a0) (fun J => YT 31 [eI 1 a1, eX 2 (a0.row.map .d), eL 8 16 a0.ZD ZM.row, eI 9 (a0.ZD.length : Int), eI 10 (J : Int)]) (fun n1 J => a0.ZD.length < n1 + J /\ J <= a0.ZD.length) (a0.ZD.length + 1) 0 (fun p1 J e1 j1 => ?_)
 refine cFf e1 ?_ ?_ <;> intro k2 h1 e1
 ·have i1 := ix h1
  have m2 := ml a0.ZD (k2 8 _ rfl)
  have c1 := sl 2310144 a0.ZD u0
  have w1 := wr J
  simp [i1, ZB]
  refine rpS ?_
  refine cRs (Lx (nth a0.ZD J)) ?_
  refine cF e1 ?_ ?_ <;> intro k3 h2 e1
  ·have f := ms f e1
   exact rt [.tmp 4] f
  exact ny1 w1 e1
 have c2 := sl 2310144 a0.ZD u0
 have f := ms f e1
 refine dIs mixed ?_
 refine cRs (Yb (a0.ZD.length : Int) 1 8) ?_
 refine cGs (fun gg => (Vl a1 a0.ZD (sg (YP.YO u0)))) ?_
 exact rt [.tmp 4] f
theorem N8 (a0 : ZC) (a1 : YP) (a2 : Int) (u0 : Sm 2306048 a0) (u1 : Sm 2306048 a1) : Sd 208 [a0.row, a1.row, rI a2] [(Yq a0 a1 a2).1.row, rB (Yq a0 a1 a2).2] := by
 have f := me (Yq.eq_1 a0 a1 a2)
 refine soD func208 ntmps208 ?_
 refine cRs (M5 a1 a2 (sg u1)) ?_
 refine cF f ?_ ?_ <;> intro k1 h1 f
 ·refine cDs [] (YV a0 (sg u0)) ?_
  exact rtD [.cell 6 94, .tmp 7] f
 refine cDs [] (YV a0 (sg u0)) ?_
 refine lp3 (XA.eq_2 a0 a1) (fun J U iQ => YT 48 [eX 3 (a0.row.map .d), (6, .one (.bptr 6 0), [.box [.d (.int .i64 0), .nil 16]]), (8, .one (.bptr 8 0), [.box [.d (.int .i64 U), .sref 8 2 0 iQ.length], .none, .arr true 16 (iQ.map ZM.row)]), eL 29 16 a1.ZD ZM.row, eI 30 (a1.ZD.length : Int), eI 31 (J : Int)]) (fun n1 J U iQ => a1.ZD.length < n1 + J /\ J <= a1.ZD.length /\ Sm (2306048 + J) (ZC.mk U iQ)) (a1.ZD.length + 1) 0 a0.Id a0.ZD (fun p1 J U iQ e1 j1 => ?_) (hI := by exact ⟨by omega, by omega, Nat.zero_le _, u0⟩) (h0 := wkS [((8, 2), some (27, 1))] [])
 try dsimp only at j1
 refine cFf e1 ?_ ?_ <;> intro k3 h2 e1
 ·have i1 := ix h2
  have m2 := ml a1.ZD (k3 29 _ rfl)
  have c1 := sl 2306048 a1.ZD (an u0 u1)
  have w1 := wr J
  simp [i1, ZB]
  refine rpS ?_
  refine cDs [] (MB (ZC.mk U iQ) (nth a1.ZD J) (by first | (have hl := Us a1 a2 (by simp at h1; exact h1.1); exact ZZ (n := 2306048 + J) (by omega) j1.2.2.2) | exact sg (Z7 (YP.YO u1))) (by first | (have hl := Us a1 a2 (by simp at h1; exact h1.1); exact ZZ (n := 2306048 + J) (by omega) j1.2.2.2) | exact sg (Z7 (YP.YO u1)))) ?_
  refine cF e1 ?_ ?_ <;> intro k4 h3 e1
  ·refine cDs [] (YV a0 (sg u0)) ?_
   have f := ms f e1
   exact rtD [.cell 6 94, .tmp 7] f
  exact nx3 e1 (hI := by ((try dsimp only); refine ⟨by omega, by omega, by omega, ?_⟩; exact SG (n := 2306048 + J) j1.2.2.2 (ZZ (n := 2306048) (by omega) (Z7 (YP.YO u1))))) (hw := Xf [((8, 2), some (38, 1))] [] rfl (by simp [w1]))
 have c2 := sl 2306048 a1.ZD (an u0 u1)
 have f := ms f e1
 exact rtD [.cell 6 94, .tmp 7] f
theorem EV {a b : Prop} (h : b) (k : a := by (intros; first | omega | with_unfolding_all (first | first | omega | (have h0 := h1; simp only [decide_eq_false_iff_not] at h0; have z := Q5 a0 a1; have hc := XP (ZC.YO u0); have w2 : IntKind.i64.wrap ((ZX a0 a1) + 1) = (ZX a0 a1) + 1 := (YG (by omega) (by omega)); have w : W ((ZX a0 a1) + 1) = (ZX a0 a1) + 1 := w2; omega)) | ((try simp only [K1, show ∀ x, IntKind.i64.wrap x = W x from fun _ => rfl] at *); omega))) : a /\ b := ⟨k, h⟩
theorem Ey (a0 : ZC) (a1 : Int) (u0 : Sm 2318336 a0) : Sd 209 [a0.row, rI a1] [(QM a0 a1).1.row, rB (QM a0 a1).2] := by
 have f := me (QM.eq_1 a0 a1)
 refine soD func209 ntmps209 ?_
 refine cDs [] (YV a0 (sg u0)) ?_
 refine cRs (qi a0 a1) ?_
 refine cF f ?_ ?_ <;> intro k1 h1 f
 ·exact rtD [.cell 4 94, .tmp 5] f
 refine drJ [25] mixed ?_
 have c1 := sl 2318336 a0.ZD u0
 simp
 repeat with_reducible refine EV ?_
 refine lN (rows := (a0.ZD.map ZM.row)) (news := ((a0.ZD.drop (W ((ZX a0 a1) + 1)).toNat).map ZM.row)) (size := 16) (u := 9) (j := 1) (len := (ZX a0 a1).toNat) (lo := (W ((ZX a0 a1) + 1)).toNat) (n := (a0.ZD.length - (W ((ZX a0 a1) + 1)).toNat)) rfl rfl rfl rfl (by simp) (by simp) (by simp) (by simp) (by simp) (by first | omega | (first | omega | (have h0 := h1; simp only [decide_eq_false_iff_not] at h0; have z := Q5 a0 a1; have hc := XP (ZC.YO u0); have w2 : IntKind.i64.wrap ((ZX a0 a1) + 1) = (ZX a0 a1) + 1 := (YG (by omega) (by omega)); have w : W ((ZX a0 a1) + 1) = (ZX a0 a1) + 1 := w2; omega)) | (simp; first | omega | (have h0 := h1; simp only [decide_eq_false_iff_not] at h0; have z := Q5 a0 a1; have hc := XP (ZC.YO u0); have w2 : IntKind.i64.wrap ((ZX a0 a1) + 1) = (ZX a0 a1) + 1 := (YG (by omega) (by omega)); have w : W ((ZX a0 a1) + 1) = (ZX a0 a1) + 1 := w2; omega))) (by first | omega | (simp; done) | (simp; first | omega | (have h0 := h1; simp only [decide_eq_false_iff_not] at h0; have z := Q5 a0 a1; have hc := XP (ZC.YO u0); have w2 : IntKind.i64.wrap ((ZX a0 a1) + 1) = (ZX a0 a1) + 1 := (YG (by omega) (by omega)); have w : W ((ZX a0 a1) + 1) = (ZX a0 a1) + 1 := w2; omega))) (Rw _ _ _) (by simp) (by first | omega | (simp; first | omega | (have h0 := h1; simp only [decide_eq_false_iff_not] at h0; have z := Q5 a0 a1; have hc := XP (ZC.YO u0); have w2 : IntKind.i64.wrap ((ZX a0 a1) + 1) = (ZX a0 a1) + 1 := (YG (by omega) (by omega)); have w : W ((ZX a0 a1) + 1) = (ZX a0 a1) + 1 := w2; omega))) ?_
 simp
 exact rtD [.cell 4 94, .tmp 5] f
theorem Gs (a0 : ZC) (a1 : ZC) (a2 : List Int) (a3 : Int) (u0 : Sm 2301952 a0) (u1 : Sm 2301952 a1) (u2 : Sm 2301952 a2) : Sd 142 [a0.row, a1.row, rL 1 iR a2, rI a3] [(Yt a0 a1 a2 a3).1.row, (Yt a0 a1 a2 a3).2.1.row, rB (Yt a0 a1 a2 a3).2.2] := by
 have f := me (Yt.eq_1 a0 a1 a2 a3)
 refine soD func142 ntmps142 ?_
 refine cRs (Yv.rd (HP a0 a1.Id a2 a3 (by first | exact sg u0 | exact sg u2) (by first | exact sg u0 | exact sg u2))) ?_
 refine cDs [] (N8 a1 (YK a0 a1.Id a2 a3).1 a3 (by first | exact sg u1 | exact ZZ (n := 2301952) (by decide) (Wr u0 u2)) (by first | exact sg u1 | exact ZZ (n := 2301952) (by decide) (Wr u0 u2))) ?_
 refine cF f ?_ ?_ <;> intro k1 h1 f
 ·refine okD fun k2 => ?_
  refine dIs mixed ?_
  refine cDs [] (YV a0 (sg u0)) ?_
  refine cDs [] (YV a1 (sg u1)) ?_
  exact rtD [.cell 8 94, .cell 9 94, .tmp 10] f
 refine cDs [] (YV a0 (sg u0)) ?_
 refine lp3 (Xb.eq_2 a0 a1 a2) (fun J U iQ => YT 70 [eX 4 (a0.row.map .d), eX 5 (a1.row.map .d), (8, .one (.bptr 8 0), [.box [.d (.int .i64 0), .nil 16]]), (9, .one (.bptr 9 0), [.box [.d (.int .i64 0), .nil 16]]), (13, .one (.bptr 13 0), [.box [.d (.int .i64 (Yq a1 (YK a0 a1.Id a2 a3).1 a3).1.Id), .sref 33 1 0 (Yq a1 (YK a0 a1.Id a2 a3).1 a3).1.ZD.length]]), (15, .one (.bptr 15 0), [.box [.d (.int .i64 U), .sref 15 2 0 iQ.length], .none, .arr true 16 (iQ.map ZM.row)]), (33, .any, [.none, .arr true 16 ((Yq a1 (YK a0 a1.Id a2 a3).1 a3).1.ZD.map ZM.row)]), eL 48 1 a2 iR, eI 49 (a2.length : Int), eI 50 (J : Int)]) (fun n1 J U iQ => a2.length < n1 + J /\ J <= a2.length /\ Sm 2301952 (ZC.mk U iQ)) (a2.length + 1) 0 a0.Id a0.ZD (fun p1 J U iQ e1 j1 => ?_) (hI := by exact ⟨by omega, by omega, Nat.zero_le _, u0⟩) (h0 := wkS [((15, 2), some (47, 1))] [])
 try dsimp only at j1
 refine cFf e1 ?_ ?_ <;> intro k4 h2 e1
 ·have i1 := ix h2
  have m2 := ml a2 (k4 48 _ rfl)
  have c1 := sl 2301952 a2 (an u0 (an u1 u2))
  have w1 := wr J
  simp [i1, ZB]
  refine rpS ?_
  refine cDs [] (Ey (ZC.mk U iQ) (nth a2 J) (by exact ZZ (n := 2301952) (by decide) j1.2.2.2)) ?_
  refine cF e1 ?_ ?_ <;> intro k5 h3 e1
  ·refine okD fun k6 => ?_
   refine dIs mixed ?_
   refine cDs [] (YV a0 (sg u0)) ?_
   refine cDs [] (YV a1 (sg u1)) ?_
   have f := ms f e1
   exact rtD [.cell 8 94, .cell 9 94, .tmp 10] f
  exact nx3 e1 (hI := by ((try dsimp only); refine ⟨by omega, by omega, by omega, ?_⟩; exact Uw (by decide) j1.2.2.2)) (hw := Xf [((15, 2), some (57, 1))] [] rfl (by simp [w1]))
 have c2 := sl 2301952 a2 (an u0 (an u1 u2))
 have f := ms f e1
 refine sY [(8, 8), (9, 9), (13, 13), (15, 15)] mixed (by kernel_rfl) (by kernel_rfl) (by kernel_rfl) (by kernel_rfl) ?_
 simp
 exact rtD [.cell 8 94, .cell 9 94, .tmp 10] f
theorem Dx (a0 : ZH) (a1 : Int) (a2 : Int) (a3 : Int) (u0 : Sm 2297856 a0) : Sd 74 [a0.row, rI a1, rI a2, rI a3] [(yV a0 a1 a2 a3).1.row, rB (yV a0 a1 a2 a3).2] := by
 have f := me (yV.eq_1 a0 a1 a2 a3)
 refine soD func74 ntmps74 ?_
 refine cDs [false, false, false, true, true, false, false, true, false, false, true, false] (YA a0 (sg u0)) ?_
 refine cRs (qp a0.Frame.Methods a0.Frame.Now) ?_
 refine cRs (yI a0 a1) ?_
 refine cGs (fun gg => (yI a0 a2)) ?_
 have c1 := sl 2297856 a0.ZA u0
 have w1 : IntKind.i64.wrap ((a0.ZA.length : Int) - 1) = (a0.ZA.length : Int) - 1 := YG (by omega) (by omega)
 refine cFo f ?_ ?_ <;> intro k1 h1 f
 ·have q1 := h1; try simp [w1, YR, Zn] at q1
  simp
  exact rtD [.cell 8 43, .tmp 9] f
 have q1 := h1; try simp [w1, YR, Zn] at q1
 simp
 refine dIo mixed ?_
 have i1 := ik a1.toNat a0.ZA
 have i2 := ik a2.toNat a0.ZA
 simp [i1, ZB, i2]
 refine rpS ?_
 refine cDs [] (Gs (nth a0.ZA a1.toNat) (nth a0.ZA a2.toNat) ([a3] : List Int) (ZP a0.Frame.Methods a0.Frame.Now) (sg (Z7 (ZH.YW u0))) (sg (Z7 (ZH.YW u0))) (by simp (maxDischargeDepth := 12) [zN, XC, ZZ (m := 2301952) (by decide) u0]; try omega)) ?_
 refine cF f ?_ ?_ <;> intro k3 h2 f
 ·refine okD fun k4 => ?_
  refine su [(10, 10), (12, 12), (13, 13), (63, 10), (66, 10)] [71, 72] [] mixed (by kernel_rfl) (by kernel_rfl) (by kernel_rfl) (by kernel_rfl) (by kernel_rfl) (by kernel_rfl) (by kernel_rfl) ?_
  simp [i1, ZB]
  refine rpS ?_
  refine SE (t := 16) (j := 7) (i := a1.toNat) (size := 2) (rows := (a0.ZA.map ZC.row)) (ds := (Yt (nth a0.ZA a1.toNat) (nth a0.ZA a2.toNat) ([a3] : List Int) (ZP a0.Frame.Methods a0.Frame.Now)).1.row) (L := [(58, 1)]) ?_
  simp [YL (x := (Yt (nth a0.ZA a1.toNat) (nth a0.ZA a2.toNat) ([a3] : List Int) (ZP a0.Frame.Methods a0.Frame.Now)).1) rfl, c1, i1, i2, ZB, Zd]
  refine rpS ?_
  refine SE (t := 16) (j := 7) (i := a2.toNat) (size := 2) (rows := ((a0.ZA.set a1.toNat (Yt (nth a0.ZA a1.toNat) (nth a0.ZA a2.toNat) ([a3] : List Int) (ZP a0.Frame.Methods a0.Frame.Now)).1).map ZC.row)) (ds := (Yt (nth a0.ZA a1.toNat) (nth a0.ZA a2.toNat) ([a3] : List Int) (ZP a0.Frame.Methods a0.Frame.Now)).2.1.row) (L := [(58, 3)]) ?_
  simp [YL (x := (Yt (nth a0.ZA a1.toNat) (nth a0.ZA a2.toNat) ([a3] : List Int) (ZP a0.Frame.Methods a0.Frame.Now)).1) rfl, c1, i1, i2, ZB, Zd]
  refine rpS ?_
  exact rtD [.cell 8 43, .tmp 9] f
 exact rtD [.cell 8 43, .tmp 9] f
theorem Hb (a0 : ZC) (a1 : Int) (u0 : Sm 2322432 a0) : Sd 143 [a0.row, rI a1] [(Kd a0 a1).1.row, rI (Kd a0 a1).2] := by
 have f := me (Kd.eq_1 a0 a1)
 refine soD func143 ntmps143 ?_
 refine lp2 (QC.eq_2 a0 a1) (fun J U => YT 39 [eI 1 a1, eX 2 (a0.row.map .d), (4, .one (.bptr 4 0), [.box [.d (.int .i64 0), .nil 16]]), (6, .one (.bptr 6 0), [.box [.d (.int .i64 a0.Id), .sref 6 2 0 U.length], .none, .arr true 16 (U.map ZM.row)]), eL 13 16 a0.ZD ZM.row, eI 14 (a0.ZD.length : Int), eI 15 (J : Int)]) (fun n1 J U => a0.ZD.length < n1 + J /\ J <= a0.ZD.length /\ U.length <= 0 + 1 * J) (a0.ZD.length + 1) 0 ([] : List ZM) (fun p1 J U e1 j1 => ?_) (h0 := wkS [((6, 2), none)] [])
 refine cFf e1 ?_ ?_ <;> intro k2 h1 e1
 ·have i1 := ix h1
  have m2 := ml a0.ZD (k2 13 _ rfl)
  have c1 := sl 2322432 a0.ZD u0
  have w1 := wr J
  simp [i1, ZB]
  refine rpS ?_
  refine cF e1 ?_ ?_ <;> intro k3 h2 e1
  ·refine okD fun k4 => ?_
   refine drJ [28] mixed ?_
   simp
   refine cDs [true, true, true, false, false] (xO (nth a0.ZD J) (sg (Z7 (ZC.YO u0)))) ?_
   refine W2 ?_
   simp
   refine UL (iT := (U.map ZM.row)) (news := (([(nth a0.ZD J)] : List ZM).map ZM.row)) (l1 := [(6, 2)]) (l2 := [(26, 3), (26, 4), (26, 14), (26, 15)]) (size := 16) ?_
   simp
   exact nx2 e1 (hw := Xf [((6, 2), some (28, 0))] [] rfl (by simp [w1]))
  exact ny2 w1 e1
 have c2 := sl 2322432 a0.ZD u0
 have f := ms f e1
 refine sY [(2, 2), (4, 4), (6, 6), (32, 2), (35, 6)] mixed (by kernel_rfl) (by kernel_rfl) (by kernel_rfl) (by kernel_rfl) ?_
 simp
 exact rtD [.cell 4 94, .tmp 5] f
theorem HW (a0 : ZH) (a1 : Int) (u0 : Sm 2314240 a0) : Sd 75 [a0.row, rI a1] [(Kk a0 a1).1.row, rB (Kk a0 a1).2] := by
 have f := me (Kk.eq_1 a0 a1)
 refine soD func75 ntmps75 ?_
 refine cDs [false, false, false, true, true, false, false, true, false, false, true, false] (YA a0 (sg u0)) ?_
 refine cRs (yI a0 a1) ?_
 have c1 := sl 2314240 a0.ZA u0
 have w1 : IntKind.i64.wrap ((a0.ZA.length : Int) - 1) = (a0.ZA.length : Int) - 1 := YG (by omega) (by omega)
 refine cFo f ?_ ?_ <;> intro k1 h1 f
 ·have q1 := h1; try simp [w1, YR, Zn] at q1
  simp
  exact rtD [.cell 4 43, .tmp 5] f
 have q1 := h1; try simp [w1, YR, Zn] at q1
 simp
 refine drJ [] mixed ?_
 have i1 := ik a1.toNat a0.ZA
 simp [i1, ZB]
 refine rpS ?_
 refine cDf i1 [] (Hb (nth a0.ZA a1.toNat) a0.Frame.Now (sg (Z7 (ZH.YW u0)))) ?_
 refine SE (t := 8) (j := 7) (i := a1.toNat) (size := 2) (rows := (a0.ZA.map ZC.row)) (ds := (Kd (nth a0.ZA a1.toNat) a0.Frame.Now).1.row) (L := [(26, 1)]) ?_
 simp [YL (x := (Kd (nth a0.ZA a1.toNat) a0.Frame.Now).1) rfl, c1, i1, ZB, Zd]
 refine rpS ?_
 exact rtD [.cell 4 43, .tmp 5] f
theorem IV (a0 : List Zj) (a1 : Int) : Sa 279 [rL 4 Zj.row a0, rI a1] [rI (zi a0 a1)] := by
 have f := me (zi.eq_1 a0 a1)
 refine so func279 ntmps279 ?_
 refine lp1 (z3.eq_2 a0 a1) (fun J => YT 20 [eI 1 a1, eL 7 4 a0 Zj.row, eI 8 (a0.length : Int), eI 9 (J : Int)]) (fun n1 J => a0.length < n1 + J /\ J <= a0.length) (a0.length + 1) 0 (fun p1 J e1 j1 => ?_)
 refine cFf e1 ?_ ?_ <;> intro k2 h1 e1
 ·have i1 := ix h1
  have m2 := ml a0 (k2 7 _ rfl)
  have w1 := wr J
  simp [i1, ZB]
  refine rpS ?_
  refine cF e1 ?_ ?_ <;> intro k3 h2 e1
  ·have f := ms f e1
   exact rt [.tmp 4] f
  exact ny1 w1 e1
 have f := ms f e1
 exact rt [.tmp 4] f
theorem Bi (a0 : List Zj) (a1 : Int) : Sa 257 [rL 4 Zj.row a0, rI a1] [rI (TT a0 a1)] := by
 have f := me (TT.eq_1 a0 a1)
 refine so func257 ntmps257 ?_
 refine cRs (IV a0 a1) ?_
 refine cFf f ?_ ?_ <;> intro k1 h1 f
 ·have i1 : (zi a0 a1).toNat < a0.length := by have := IQ a0 a1; exact il
  simp [i1, ZB]
  refine rpS ?_
  exact rt [.tmp 4] f
 exact rt [.tmp 4] f
theorem IW (a0 : Zq) (a1 : Int) : Sa 210 [a0.row, rI a1] [rI (W7 a0 a1)] := by
 have f := me (W7.eq_1 a0 a1)
 refine so func210 ntmps210 ?_
 refine cRs (yW a0.Zm a1) ?_
 refine cF f ?_ ?_ <;> intro k1 h1 f
 ·exact rt [.tmp 4] f
 refine dIo mixed ?_
 have i1 : (YD a0.Zm a1).toNat < a0.Zm.length := by have := j9 a0.Zm a1; exact il
 simp [i1, ZB]
 refine rpS ?_
 refine cRs (Bi a0.Methods (nth a0.Zm (YD a0.Zm a1).toNat).Method) ?_
 exact rt [.tmp 4] f
theorem TK (a0 : Zq) (a1 : Int) : Sa 144 [a0.row, rI a1] [rB (zl a0 a1)] := by
 have f := me (zl.eq_1 a0 a1)
 refine so func144 ntmps144 ?_
 refine dIs mixed ?_
 refine cRs (yW a0.Zm a1) ?_
 refine cGs (fun gg => (IW a0 a1)) ?_
 exact rt [.tmp 4] f
theorem H6 {a b : Prop} (h : b) (k : a := by (intros; first | omega | with_unfolding_all (first | first | omega | (have o := XP (ZH.Pw (Kz (n := 2310144) (a1 := a1) (a2 := a2) (a4 := 0) (a5 := 10000) u0 u1 (by decide))); (try simp); omega)) | ((try simp only [K1, show ∀ x, IntKind.i64.wrap x = W x from fun _ => rfl] at *); omega))) : a /\ b := ⟨k, h⟩
theorem Gb (a0 : ZH) (a1 : Int) (a2 : Int) (a3 : ZT) (u0 : Sm 2310144 a0) (u1 : Sm 2310144 a3) : Sd 76 [a0.row, rI a1, rI a2, a3.row] [(Km a0 a1 a2 a3).1.row, rB (Km a0 a1 a2 a3).2] := by
 have f := me (Km.eq_1 a0 a1 a2 a3)
 refine soD func76 ntmps76 ?_
 refine cRs (TK a0.Frame a2) ?_
 refine cFo f ?_ ?_ <;> intro k1 h1 f
 ·have q1 := h1; try simp at q1
  simp
  refine cDs [false, false, false, true, true, false, false, true, false, false, true, false] (YA a0 (by first | (exact ZZ (n := 2310144) (by decide) (xs (an u0 u1))) | (exact ZZ (n := 2310144 + 1) (by decide) (Kz (n := 2310144) (xs (an u0 u1)) (xs (an u0 u1)) (by decide))))) ?_
  refine H5 (rv := [.cell 8 43, .tmp 9]) rfl ?_
  simp [f.h]
  all_goals ((try simp only [q2, true_and]); (try (rintro r (⟨a, _, rfl⟩ | rfl) x hx <;> simp at hx <;> subst hx <;> rfl)))
 have q1 := h1; try simp at q1
 simp
 refine cRs (OI a0 a1 a2 a3 0 10000 (sg u0) (sg u1)) ?_
 refine cDs [false, false, false, true, true, false, false, true, false, false, true, false] (YA (Yx a0 a1 a2 a3 0 10000).1 (by first | (exact ZZ (n := 2310144) (by decide) (xs (an u0 u1))) | (exact ZZ (n := 2310144 + 1) (by decide) (Kz (n := 2310144) (xs (an u0 u1)) (xs (an u0 u1)) (by decide))))) ?_
 refine cFo f ?_ ?_ <;> intro k2 h2 f
 ·have q2 := h2; try simp at q2
  simp
  repeat with_reducible refine H6 ?_
  refine H5 (rv := [.cell 8 43, .tmp 9]) rfl ?_
  simp [f.h]
  all_goals ((try simp only [q2, true_and]); (try (rintro r (⟨a, _, rfl⟩ | rfl) x hx <;> simp at hx <;> subst hx <;> rfl)))
 have q2 := h2; try simp at q2
 simp
 refine H5 (rv := [.cell 8 43, .tmp 9]) rfl ?_
 simp [f.h]
 all_goals ((try simp only [q2, true_and]); (try (rintro r (⟨a, _, rfl⟩ | rfl) x hx <;> simp at hx <;> subst hx <;> rfl)))
theorem Rb (a0 : ZH) (u0 : Sm 2326528 a0) : Sd 146 [a0.row] [rL 1 iR (Zw a0)] := by
 have f := me (Zw.eq_1 a0)
 refine soD func146 ntmps146 ?_
 refine lp2 (QR.eq_2 a0) (fun J U => YT 33 [eX 1 (a0.row.map .d), (3, .one (.sref 3 0 0 J.length), [.arr false 1 (J.map iR)]), eL 8 3 a0.Frame.ZE ZR.row, eI 9 (a0.Frame.ZE.length : Int), eI 10 (U : Int)]) (fun n1 J U => a0.Frame.ZE.length < n1 + U /\ U <= a0.Frame.ZE.length /\ J.length <= 0 + 1 * U) (a0.Frame.ZE.length + 1) ([] : List Int) 0 (fun p1 J U e1 j1 => ?_) (h0 := wkS [((3, 0), none)] [])
 refine cFf e1 ?_ ?_ <;> intro k2 h1 e1
 ·have i1 := ix h1
  have m2 := ml a0.Frame.ZE (k2 8 _ rfl)
  have c1 := sl 2326528 a0.Frame.ZE u0
  have w1 := wr U
  simp [i1, ZB]
  refine rpS ?_
  refine cRs (PI a0.YJ (nth a0.Frame.ZE U).Id) ?_
  refine cGs (fun gg => (TK a0.Frame (nth a0.Frame.ZE U).Key)) ?_
  refine cF e1 ?_ ?_ <;> intro k3 h2 e1
  ·exact nx2 e1 (hw := Xf [((3, 0), some (30, 0))] [] rfl (by simp [w1]))
  exact ny2 w1 e1
 have c2 := sl 2326528 a0.Frame.ZE u0
 have f := ms f e1
 exact rtD [.tmp 2] f
theorem zj {a b : Prop} (h : b) (k : a := by (intros; first | omega | with_unfolding_all (first | first | omega | (have f0 : 0 <= (ZV a0 a1).1 := (by first | omega | (simp at *; omega)); have fi := Kl a0 a1 f0; omega) | (have fl := Je a0; have fm := XP (Zq.XV (ZH.Xj u0)); (try dsimp only at *); omega)) | ((try simp only [K1, show ∀ x, IntKind.i64.wrap x = W x from fun _ => rfl] at *); omega))) : a /\ b := ⟨k, h⟩
theorem MQ (a0 : ZH) (a1 : Int) (a2 : Int) (u0 : Sm 2314240 a0) : Sd 77 [a0.row, rI a1, rI a2] [(JA a0 a1 a2).1.row, rB (JA a0 a1 a2).2] := by
 have f := me (JA.eq_1 a0 a1 a2)
 refine soD func77 ntmps77 ?_
 refine cDs [false, false, false, true, true, false, false, true, false, false, true, false] (YA a0 (sg u0)) ?_
 refine cRs (Lj a0 a1) ?_
 refine cRs (qp a0.Frame.Methods a0.Frame.Now) ?_
 refine cRs (Yv.rd (Rb a0 (sg u0))) ?_
 refine cRs (PI a0.Z4 a1) ?_
 refine cFt f ?_ ?_ <;> intro k1 h1 f
 ·exact rtD [.cell 6 43, .tmp 7] f
 have i1 : (ZV a0 a1).1.toNat < a0.ZA.length := by first | omega | (have f0 : 0 <= (ZV a0 a1).1 := (by first | omega | (simp at *; omega)); have fi := Kl a0 a1 f0; omega)
 have i2 : (ZV a0 a1).2.toNat < (nth a0.ZA (ZV a0 a1).1.toNat).ZD.length := by first | omega | (have f0 : 0 <= (ZV a0 a1).1 := (by first | omega | (simp at *; omega)); have fi := Kl a0 a1 f0; omega)
 simp [i1, ZB, i2]
 repeat with_reducible refine zj ?_
 refine dIs mixed ?_
 refine cRs (N1 (nth (nth a0.ZA (ZV a0 a1).1.toNat).ZD (ZV a0 a1).2.toNat) (ZP a0.Frame.Methods a0.Frame.Now) (sg (Z7 (ZC.YO (Z7 (ZH.YW u0)))))) ?_
 refine lp2 (QG.eq_2 a0 a1 a2) (fun J U => YT 124 [eI 2 a2, (6, .one (.bptr 6 0), [.box [.nil 5, .nil 3, .nil 4, .d (.int .i64 0), .d (.int .i64 0), .nil 7, .nil 1, .nil 2, .nil 1, .nil 1, .d (.int .i64 0), .nil 1]]), eX 8 (a0.Frame.row.map .d), (9, .one (.bptr 9 0), [.box [.sref 25 0 0 a0.Frame.Zm.length, .sref 25 1 0 a0.Frame.ZE.length, .sref 25 2 0 a0.Frame.Methods.length, .d (.int .i64 a0.Frame.KZ), .d (.int .i64 a0.Frame.Now), .sref 25 5 0 a0.ZN.length, .sref 25 6 0 a0.Zl.length, .sref 25 7 0 a0.ZA.length, .sref 25 8 0 a0.YX.length, .sref 25 9 0 a0.YJ.length, .d (.int .i64 a0.Next), .sref 25 11 0 a0.Z4.length]]), eI 10 (ZV a0 a1).1, eI 11 (ZV a0 a1).2, eX 14 ((nth (nth a0.ZA (ZV a0 a1).1.toNat).ZD (ZV a0 a1).2.toNat).row.map .d), (15, .one (.bptr 15 0), [.box [.d (.int .i64 ((nth (nth a0.ZA (ZV a0 a1).1.toNat).ZD (ZV a0 a1).2.toNat).ZJ.ZL.length : Int)), .d (.int .i64 (ZP a0.Frame.Methods a0.Frame.Now)), .d (.int .i64 (Qy (nth (nth a0.ZA (ZV a0 a1).1.toNat).ZD (ZV a0 a1).2.toNat) (ZP a0.Frame.Methods a0.Frame.Now))), .nil 2, .sref 15 5 0 U.length], .none, .none, .none, .none, .arr false 5 (U.map ZW.row)]), (25, .any, [.arr false 5 (a0.Frame.Zm.map YZ.row), .arr false 3 (a0.Frame.ZE.map ZR.row), .arr false 4 (a0.Frame.Methods.map Zj.row), .none, .none, .arr false 7 (a0.ZN.map Z1.row), .arr false 1 (a0.Zl.map iR), .arr true 2 (a0.ZA.map ZC.row), .arr false 1 (a0.YX.map iR), .arr false 1 (a0.YJ.map iR), .none, .arr false 1 (a0.Z4.map iR)]), eL 76 1 (Zw a0) iR, eI 77 ((Zw a0).length : Int), eI 78 (J : Int)]) (fun n1 J U => (Zw a0).length < n1 + J /\ J <= (Zw a0).length /\ U.length <= 0 + 1 * J) ((Zw a0).length + 1) 0 ([] : List ZW) (fun p1 J U e1 j1 => ?_) (h0 := wkS [((15, 5), none)] [])
 try dsimp only at j1
 refine cFf e1 ?_ ?_ <;> intro k4 h2 e1
 ·have i3 := ix h2
  have m2 := ml (Zw a0) (k4 76 _ rfl)
  have w1 := wr J
  simp [i3, ZB]
  repeat with_reducible refine zj ?_
  refine cRs (Vw a0.Frame.Zm a0.Frame.ZE (ZW.mk (nth (Zw a0) J) 0 a2 (Qy (nth (nth a0.ZA (ZV a0 a1).1.toNat).ZD (ZV a0 a1).2.toNat) (ZP a0.Frame.Methods a0.Frame.Now)) 0) (sg (Zq.xw (ZH.Xj u0))) (sg (Zq.XV (ZH.Xj u0)))) ?_
  refine cFt e1 ?_ ?_ <;> intro k5 h3 e1
  ·have f := ms f e1
   exact rtD [.cell 6 43, .tmp 7] f
  simp
  repeat with_reducible refine zj ?_
  exact nx2 e1 (hw := Xf [((15, 5), some (102, 0))] [] rfl (by simp [w1]))
 have f := ms f e1
 refine cDs [] (S9 (nth (nth a0.ZA (ZV a0 a1).1.toNat).ZD (ZV a0 a1).2.toNat).ZJ (ZK.mk ((nth (nth a0.ZA (ZV a0 a1).1.toNat).ZD (ZV a0 a1).2.toNat).ZJ.ZL.length : Int) (ZP a0.Frame.Methods a0.Frame.Now) (Qy (nth (nth a0.ZA (ZV a0 a1).1.toNat).ZD (ZV a0 a1).2.toNat) (ZP a0.Frame.Methods a0.Frame.Now)) ([] : List Zy) U) (by first | (have fl := Je a0; have fm := XP (Zq.XV (ZH.Xj u0)); simp [XC]; omega) | (refine ZZ (n := 2314240) (by decide) ?_; simp (maxDischargeDepth := 12) [u0]; done)) (by first | (have fl := Je a0; have fm := XP (Zq.XV (ZH.Xj u0)); simp [XC]; omega) | (refine ZZ (n := 2314240) (by decide) ?_; simp (maxDischargeDepth := 12) [u0]; done))) ?_
 refine drJ [] mixed ?_
 simp [i1, ZB, i2]
 repeat with_reducible refine zj ?_
 refine mj (t := 25) (j := 7) (i := (ZV a0 a1).1.toNat) (c := 1) (k' := (ZV a0 a1).2.toNat) (q := 14) (n := 16) (size := 2) (s := ((nth a0.ZA (ZV a0 a1).1.toNat).ZD.map ZM.row)) (rows := (a0.ZA.map ZC.row)) (ds := (Xl (nth (nth a0.ZA (ZV a0 a1).1.toNat).ZD (ZV a0 a1).2.toNat).ZJ (ZK.mk ((nth (nth a0.ZA (ZV a0 a1).1.toNat).ZD (ZV a0 a1).2.toNat).ZJ.ZL.length : Int) (ZP a0.Frame.Methods a0.Frame.Now) (Qy (nth (nth a0.ZA (ZV a0 a1).1.toNat).ZD (ZV a0 a1).2.toNat) (ZP a0.Frame.Methods a0.Frame.Now)) ([] : List Zy) U)).1.row) (L := [(109, 0), (109, 1)]) rfl rfl rfl rfl (by simp; rfl) (by simp) (by simp) (by simp [i1, i2]) (by simp [ZB, Zd, i1, i2]) (by simp [i1, i2]) (by simp) (by simp) (by simp) (by simp) (by simp) (by simp) ?_
 simp [YL (x := (ZC.mk (nth a0.ZA (ZV a0 a1).1.toNat).Id ((nth a0.ZA (ZV a0 a1).1.toNat).ZD.set (ZV a0 a1).2.toNat (ZM.mk (nth (nth a0.ZA (ZV a0 a1).1.toNat).ZD (ZV a0 a1).2.toNat).Id (nth (nth a0.ZA (ZV a0 a1).1.toNat).ZD (ZV a0 a1).2.toNat).XB (nth (nth a0.ZA (ZV a0 a1).1.toNat).ZD (ZV a0 a1).2.toNat).Doc (nth (nth a0.ZA (ZV a0 a1).1.toNat).ZD (ZV a0 a1).2.toNat).Sig (Xl (nth (nth a0.ZA (ZV a0 a1).1.toNat).ZD (ZV a0 a1).2.toNat).ZJ (ZK.mk ((nth (nth a0.ZA (ZV a0 a1).1.toNat).ZD (ZV a0 a1).2.toNat).ZJ.ZL.length : Int) (ZP a0.Frame.Methods a0.Frame.Now) (Qy (nth (nth a0.ZA (ZV a0 a1).1.toNat).ZD (ZV a0 a1).2.toNat) (ZP a0.Frame.Methods a0.Frame.Now)) ([] : List Zy) U)).1)))) rfl, ZB, Zd, i1, i2]
 repeat with_reducible refine zj ?_
 exact rtD [.cell 6 43, .tmp 7] f
theorem Q9 {a b : Prop} (h : b) (k : a := by (intros; first | omega | with_unfolding_all (first | first | omega | (have z := J8 a0 a1 (by simp_all); (try simp at *); omega)) | (simp_all; done) | (simp_all; omega) | grind | ((try simp only [K1, show ∀ x, IntKind.i64.wrap x = W x from fun _ => rfl] at *); omega))) : a /\ b := ⟨k, h⟩
theorem Dm (a0 : ZH) (a1 : Int) (a2 : Int) (u0 : Sm 2310144 a0) : Sd 78 [a0.row, rI a1, rI a2] [(ym a0 a1 a2).1.row, rB (ym a0 a1 a2).2] := by
 have f := me (ym.eq_1 a0 a1 a2)
 refine soD func78 ntmps78 ?_
 refine cRs (Lu a0 a1) ?_
 refine dIs mixed ?_
 refine gIo ?_ ?_ <;> intro G
 ·have fr := G
  have g1 := G; try simp at g1
  have i1 : (YE a0 a1).2.1.toNat < a0.ZN.length := by first | omega | (have z := J8 a0 a1 (by simp_all); (try simp at *); omega)
  simp [i1, ZB, G]
  repeat with_reducible refine Q9 ?_
  refine cGo (fun gg => (TK a0.Frame (nth a0.ZN (YE a0 a1).2.1.toNat).Z2)) ?_
  simp [G]
  repeat with_reducible refine Q9 ?_
  refine cKo f ?_ ?_ <;> intro k2 h1 f
  ·simp [G]
   repeat with_reducible refine Q9 ?_
   refine cD [false, false, false, true, true, false, false, true, false, false, true, false] (YA a0 (sg u0)) ?_
   simp [G]
   repeat with_reducible refine Q9 ?_
   exact zx [.cell 6 43, .tmp 7] f
  ·simp [G]
   repeat with_reducible refine Q9 ?_
   refine dIo mixed ?_
   simp [i1, ZB, G]
   repeat with_reducible refine Q9 ?_
   refine cD [false, false, false, true, true, false, false, true, false, false, true, false] (TN a0 (YE a0 a1).1 a1 (Z0.mk (nth a0.ZN (YE a0 a1).2.1.toNat).Zi a2 (-1) (nth a0.ZN (YE a0 a1).2.1.toNat).Z2 0) (sg u0) (by (have z := J8 a0 a1 (by simp_all); (try simp at *); omega))) ?_
   simp [G]
   repeat with_reducible refine Q9 ?_
   exact zx [.cell 6 43, .tmp 7] f
 ·have fr := G
  simp [G]
  repeat with_reducible refine Q9 ?_
  refine sGo ?_
  simp [G]
  repeat with_reducible refine Q9 ?_
  refine cKo f ?_ ?_ <;> intro k4 h2 f
  ·simp [G]
   repeat with_reducible refine Q9 ?_
   refine cD [false, false, false, true, true, false, false, true, false, false, true, false] (YA a0 (sg u0)) ?_
   simp [G]
   repeat with_reducible refine Q9 ?_
   exact zx [.cell 6 43, .tmp 7] f
  ·simp [G] at h2
theorem Ib (a0 : ZH) (a1 : Zp) (u0 : Sm 2293760 a0) (u1 : Sm 2293760 a1) : Sd 28 [a0.row, a1.row] [(Y6 a0 a1).1.row, rB (Y6 a0 a1).2] := by
 have f := me (Y6.eq_1 a0 a1)
 refine soD func28 ntmps28 ?_
 refine cF f ?_ ?_ <;> intro k1 h1 f
 ·refine cDs [false, false, false, true, true, false, false, true, false, false, true, false] (DD a0 a1.A (sg u0)) ?_
  exact rtD [.cell 4 43, .tmp 5] f
 refine cF f ?_ ?_ <;> intro k2 h2 f
 ·refine cDs [false, false, false, true, true, false, false, true, false, false, true, false] (Di a0 a1.A a1.B a1.Doc a1.C a1.D (sg u0) (sg (Zp.kp u1))) ?_
  exact rtD [.cell 4 43, .tmp 5] f
 refine cF f ?_ ?_ <;> intro k3 h3 f
 ·refine cDs [false, false, false, true, true, false, false, true, false, false, true, false] (Ic a0 a1.A (sg u0)) ?_
  exact rtD [.cell 4 43, .tmp 5] f
 refine cF f ?_ ?_ <;> intro k4 h4 f
 ·refine cDs [false, false, false, true, true, false, false, true, false, false, true, false] (I8 a0 a1.A (sg u0)) ?_
  exact rtD [.cell 4 43, .tmp 5] f
 refine cF f ?_ ?_ <;> intro k5 h5 f
 ·refine cDs [false, false, false, true, true, false, false, true, false, false, true, false] (GN a0 a1.A a1.Ids a1.B (sg u0) (sg (Zp.vu u1))) ?_
  exact rtD [.cell 4 43, .tmp 5] f
 refine cF f ?_ ?_ <;> intro k6 h6 f
 ·refine cDs [false, false, false, true, true, false, false, true, false, false, true, false] (Dx a0 a1.A a1.B a1.C (sg u0)) ?_
  exact rtD [.cell 4 43, .tmp 5] f
 refine cF f ?_ ?_ <;> intro k7 h7 f
 ·refine cDs [false, false, false, true, true, false, false, true, false, false, true, false] (HW a0 a1.A (sg u0)) ?_
  exact rtD [.cell 4 43, .tmp 5] f
 refine cF f ?_ ?_ <;> intro k8 h8 f
 ·refine cDs [false, false, false, true, true, false, false, true, false, false, true, false] (Gb a0 a1.A a1.B a1.Doc (sg u0) (sg (Zp.kp u1))) ?_
  exact rtD [.cell 4 43, .tmp 5] f
 refine cF f ?_ ?_ <;> intro k9 h9 f
 ·refine cDs [false, false, false, true, true, false, false, true, false, false, true, false] (MQ a0 a1.A a1.B (sg u0)) ?_
  exact rtD [.cell 4 43, .tmp 5] f
 refine cF f ?_ ?_ <;> intro aH dY f
 ·refine cDs [false, false, false, true, true, false, false, true, false, false, true, false] (Dm a0 a1.A a1.B (sg u0)) ?_
  exact rtD [.cell 4 43, .tmp 5] f
 refine cDs [false, false, false, true, true, false, false, true, false, false, true, false] (YA a0 (sg u0)) ?_
 exact rtD [.cell 4 43, .tmp 5] f
theorem PS (a0 : ZH) (a1 : List Zp) (u0 : Sm 1048576 a0) (u1 : Sm 1048576 a1) : Sd 9 [a0.row, rL 9 Zp.row a1] [(YF a0 a1).row] := by
 have f := me (YF.eq_1 a0 a1)
 refine soD func9 ntmps9 ?_
 refine cDs [false, false, false, true, true, false, false, true, false, false, true, false] (YA a0 (by exact sg u0)) ?_
 refine mN (Kw.eq_2 a1) (fun J U iQ iv gH gI gC gD gE gF iy hC iz => YT 24 [(4, .one (.bptr 4 0), [.box [.nil 5, .nil 3, .nil 4, .d (.int .i64 0), .d (.int .i64 0), .nil 7, .nil 1, .nil 2, .nil 1, .nil 1, .d (.int .i64 0), .nil 1]]), (5, .one (.bptr 5 0), [.box [.sref 5 1 0 U.length, .sref 5 2 0 iQ.length, .sref 5 3 0 iv.length, .d (.int .i64 gH), .d (.int .i64 gI), .sref 5 6 0 gC.length, .sref 5 7 0 gD.length, .sref 5 8 0 gE.length, .sref 5 9 0 gF.length, .sref 5 10 0 iy.length, .d (.int .i64 hC), .sref 5 12 0 iz.length], .arr false 5 (U.map YZ.row), .arr false 3 (iQ.map ZR.row), .arr false 4 (iv.map Zj.row), .none, .none, .arr false 7 (gC.map Z1.row), .arr false 1 (gD.map iR), .arr true 2 (gE.map ZC.row), .arr false 1 (gF.map iR), .arr false 1 (iy.map iR), .none, .arr false 1 (iz.map iR)]), eL 10 9 a1 Zp.row, eI 11 (a1.length : Int), eI 12 (J : Int)]) (fun n1 J U iQ iv gH gI gC gD gE gF iy hC iz => a1.length < n1 + J /\ J <= a1.length /\ Sm (1048576 + J) (ZH.mk (Zq.mk U iQ iv gH gI) gC gD gE gF iy hC iz)) (a1.length + 1) 0 a0.Frame.Zm a0.Frame.ZE a0.Frame.Methods a0.Frame.KZ a0.Frame.Now a0.ZN a0.Zl a0.ZA a0.YX a0.YJ a0.Next a0.Z4 (fun p1 J U iQ iv gH gI gC gD gE gF iy hC iz e1 j1 => ?_) (hI := by exact ⟨by omega, by omega, Nat.zero_le _, u0⟩) (h0 := wkS [((5, 1), some (9, 0)), ((5, 2), some (9, 1)), ((5, 3), some (9, 2)), ((5, 6), some (9, 5)), ((5, 7), some (9, 6)), ((5, 8), some (9, 7)), ((5, 9), some (9, 8)), ((5, 10), some (9, 9)), ((5, 12), some (9, 11))] [])
 try dsimp only at j1
 refine cFf e1 ?_ ?_ <;> intro k2 h1 e1
 ·have i1 := ix h1
  have m2 := ml a1 (k2 10 _ rfl)
  have c1 := sl 1048576 a1 (an u0 u1)
  have w1 := wr J
  simp [i1, ZB]
  refine rpS ?_
  refine cDs [false, false, false, true, true, false, false, true, false, false, true, false] (Ib (ZH.mk (Zq.mk U iQ iv gH gI) gC gD gE gF iy hC iz) (nth a1 J) (by first | exact sg (Z7 u1) | (have hl := XP u1; exact ZZ (n := 1048576 + J) (by omega) j1.2.2.2) | exact sg u0) (by first | exact sg (Z7 u1) | (have hl := XP u1; exact ZZ (n := 1048576 + J) (by omega) j1.2.2.2) | exact sg u0)) ?_
  exact lP e1 (hI := by (have hl := XP u1; (try dsimp only); refine ⟨by omega, by omega, by omega, ?_⟩; exact Wp (n := 1048576 + J) (by omega) j1.2.2.2 (ZZ (n := 1048576) (by omega) (Z7 u1)) (by omega))) (hw := Xf [((5, 1), some (19, 0)), ((5, 2), some (19, 1)), ((5, 3), some (19, 2)), ((5, 6), some (19, 5)), ((5, 7), some (19, 6)), ((5, 8), some (19, 7)), ((5, 9), some (19, 8)), ((5, 10), some (19, 9)), ((5, 12), some (19, 11))] [] rfl (by simp [w1]))
 have c2 := sl 1048576 a1 (an u0 u1)
 have f := ms f e1
 exact rtD [.cell 4 43] f
end Go.Proofs.YtngnbcmfckmklaaGreat
