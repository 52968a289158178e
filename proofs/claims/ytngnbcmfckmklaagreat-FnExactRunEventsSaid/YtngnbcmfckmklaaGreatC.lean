/- Contracts of the functions GP the abstract machine, part 1. No condition. -/
import Derived.Test.YtngnbcmfckmklaaGreatCA1
import Derived.Test.YtngnbcmfckmklaaGreatCI1
import Derived.Test.YtngnbcmfckmklaaGreatCS1
import Derived.Test.YtngnbcmfckmklaaGreatE
namespace Go.Proofs.YtngnbcmfckmklaaGreat
open Tryz
open Go.Vm Go.Mo
set_option maxHeartbeats 1000000
set_option maxRecDepth 100000
set_option linter.unusedSimpArgs false
set_option linter.unusedVariables false
theorem H4 (a0 : ZH) (a1 : List Zp) (u0 : Sm 1048576 a0) (u1 : Sm 1048576 a1) : Sa 6 [a0.row, rL 9 Zp.row a1] [(Ku a0 a1).row] := by
 have f := me (Ku.eq_1 a0 a1)
 refine so func6 ntmps6 ?_
 refine cDs [false, false, false, true, true, false, false, true, false, false, true, false] (Ql a0 (sg u0)) ?_
 refine mN (zw.eq_2 a1) (fun J U iQ iv gH gI gC gD gE gF iy hC iz => YT 25 [eL 1 9 a1 Zp.row, (4, .one (.bptr 4 0), [.box [.nil 5, .nil 3, .nil 4, .d (.int .i64 0), .d (.int .i64 0), .nil 7, .nil 1, .nil 2, .nil 1, .nil 1, .d (.int .i64 0), .nil 1]]), (5, .one (.bptr 5 0), [.box [.d (.sl 5 (U.map YZ.row)), .d (.sl 3 (iQ.map ZR.row)), .d (.sl 4 (iv.map Zj.row)), .d (.int .i64 gH), .d (.int .i64 gI), .d (.sl 7 (gC.map Z1.row)), .d (.sl 1 (gD.map iR)), .d (.sl 2 (gE.map ZC.row)), .d (.sl 1 (gF.map iR)), .d (.sl 1 (iy.map iR)), .d (.int .i64 hC), .d (.sl 1 (iz.map iR))]]), eI 6 (J : Int)]) (fun n1 J U iQ iv gH gI gC gD gE gF iy hC iz => a1.length < n1 + J /\ J <= a1.length /\ Sm (1048576 + J) (ZH.mk (Zq.mk U iQ iv gH gI) gC gD gE gF iy hC iz)) (a1.length + 1) 0 a0.Frame.Zm a0.Frame.ZE a0.Frame.Methods a0.Frame.KZ a0.Frame.Now a0.ZN a0.Zl a0.ZA a0.YX a0.YJ a0.Next a0.Z4 (fun p1 J U iQ iv gH gI gC gD gE gF iy hC iz e1 j1 => ?_) (hI := by exact ⟨by omega, by omega, Nat.zero_le _, u0⟩) (h0 := wkS [] [(8, 0), (8, 1), (8, 2), (8, 5), (8, 6), (8, 7), (8, 8), (8, 9), (8, 11)])
 try dsimp only at j1
 refine cF e1 ?_ ?_ <;> intro k2 h1 e1
 ·have i1 := ix h1
  have m2 := ml a1 (k2 1 _ rfl)
  have c1 := sl 1048576 a1 (an u0 u1)
  have w1 := wr J
  refine dIo mixed ?_
  simp [i1, ZB]
  refine rpS ?_
  refine cRs (I2 (ZH.mk (Zq.mk U iQ iv gH gI) gC gD gE gF iy hC iz) (nth a1 J) (by first | exact sg (Z7 u1) | (have hl := XP u1; exact ZZ (n := 1048576 + J) (by omega) j1.2.2.2) | exact sg u0) (by first | exact sg (Z7 u1) | (have hl := XP u1; exact ZZ (n := 1048576 + J) (by omega) j1.2.2.2) | exact sg u0)) ?_
  exact lY w1 e1 (hI := by (have hl := XP u1; (try dsimp only); refine ⟨by omega, by omega, by omega, ?_⟩; exact HQ (n := 1048576 + J) (by omega) j1.2.2.2 (ZZ (n := 1048576) (by omega) (Z7 u1)) (by omega)))
 have c2 := sl 1048576 a1 (an u0 u1)
 have f := ms f e1
 exact rt [.cell 4 43] f
theorem Rc (a0 : ZH) (a1 : List Zp) (t0 : Sm maxLen a0) (t1 : Sm maxLen a1) : Sa 3 [a0.row, rL 9 Zp.row a1] [rB (yo a0 a1)] := by
 have f := me (yo.eq_1 a0 a1)
 refine so func3 ntmps3 ?_
 refine cRs (Bf a0 1048576) ?_
 refine cFo f ?_ ?_ <;> intro k1 h1 f
 ·have q1 := h1; try simp at q1
  simp
  exact rt [.tmp 4] f
 have q1 := h1; try simp at q1
 obtain ⟨u0, y0⟩ := N7 a0 1048576 t0 (by omega) (by omega) (by simpa using h1)
 simp
 refine cRs (Dv a1 (KQ a0 1048576)) ?_
 refine cFo f ?_ ?_ <;> intro k2 h2 f
 ·have q2 := h2; try simp at q2
  simp
  exact rt [.tmp 4] f
 have q2 := h2; try simp at q2
 obtain ⟨u1, y1⟩ := OO a1 (KQ a0 1048576) t1 (by omega) (by omega) (by simpa using h2)
 simp
 refine cRs (Yv.rd (WB a0 (ZZ (n := 1048576) (by decide) (by simp (maxDischargeDepth := 12) [u0, u1, XT, XF, Y3, Yw, QT, X6, XE, X8, Xs, X2, QS, QU, X3, JI, QX, Xt, XU, X1, Xn, XR, XD, Y1, Xy, Xq, Qc, Xz, Xo, XW, X0])))) ?_
 refine cRs (Yv.rd (jt a1 (ZZ (n := 1048576) (by decide) (by simp (maxDischargeDepth := 12) [u0, u1, XT, XF, Y3, Yw, QT, X6, XE, X8, Xs, X2, QS, QU, X3, JI, QX, Xt, XU, X1, Xn, XR, XD, Y1, Xy, Xq, Qc, Xz, Xo, XW, X0])))) ?_
 refine cRs (H4 a0 a1 (by simp (maxDischargeDepth := 12) [u0, u1, XT, XF, Y3, Yw, QT, X6, XE, X8, Xs, X2, QS, QU, X3, JI, QX, Xt, XU, X1, Xn, XR, XD, Y1, Xy, Xq, Qc, Xz, Xo, XW, X0]) (by simp (maxDischargeDepth := 12) [u0, u1, XT, XF, Y3, Yw, QT, X6, XE, X8, Xs, X2, QS, QU, X3, JI, QX, Xt, XU, X1, Xn, XR, XD, Y1, Xy, Xq, Qc, Xz, Xo, XW, X0])) ?_
 refine cDs [] (WB a0 (ZZ (n := 1048576) (by decide) (by simp (maxDischargeDepth := 12) [u0, u1, XT, XF, Y3, Yw, QT, X6, XE, X8, Xs, X2, QS, QU, X3, JI, QX, Xt, XU, X1, Xn, XR, XD, Y1, Xy, Xq, Qc, Xz, Xo, XW, X0]))) ?_
 refine cDs [] (jt a1 (ZZ (n := 1048576) (by decide) (by simp (maxDischargeDepth := 12) [u0, u1, XT, XF, Y3, Yw, QT, X6, XE, X8, Xs, X2, QS, QU, X3, JI, QX, Xt, XU, X1, Xn, XR, XD, Y1, Xy, Xq, Qc, Xz, Xo, XW, X0]))) ?_
 refine cDs [] (PS a0 a1 (by simp (maxDischargeDepth := 12) [u0, u1, XT, XF, Y3, Yw, QT, X6, XE, X8, Xs, X2, QS, QU, X3, JI, QX, Xt, XU, X1, Xn, XR, XD, Y1, Xy, Xq, Qc, Xz, Xo, XW, X0]) (by simp (maxDischargeDepth := 12) [u0, u1, XT, XF, Y3, Yw, QT, X6, XE, X8, Xs, X2, QS, QU, X3, JI, QX, Xt, XU, X1, Xn, XR, XD, Y1, Xy, Xq, Qc, Xz, Xo, XW, X0])) ?_
 refine cRs (VD (YF a0 a1) (Ku a0 a1)) ?_
 refine cFo f ?_ ?_ <;> intro k3 h3 f
 ·have q3 := h3; try simp at q3
  simp
  exact rt [.tmp 4] f
 have q3 := h3; try simp at q3
 simp
 refine dIs mixed ?_
 refine cRs (Yv.rd (WB a0 (ZZ (n := 1048576) (by decide) (by simp (maxDischargeDepth := 12) [u0, u1, XT, XF, Y3, Yw, QT, X6, XE, X8, Xs, X2, QS, QU, X3, JI, QX, Xt, XU, X1, Xn, XR, XD, Y1, Xy, Xq, Qc, Xz, Xo, XW, X0])))) ?_
 refine cRs (VD a0 a0) ?_
 refine cFo f ?_ ?_ <;> intro k5 h4 f
 ·have q4 := h4; try simp at q4
  simp
  exact rt [.tmp 4] f
 have q4 := h4; try simp at q4
 simp
 refine cRs (Yv.rd (jt a1 (ZZ (n := 1048576) (by decide) (by simp (maxDischargeDepth := 12) [u0, u1, XT, XF, Y3, Yw, QT, X6, XE, X8, Xs, X2, QS, QU, X3, JI, QX, Xt, XU, X1, Xn, XR, XD, Y1, Xy, Xq, Qc, Xz, Xo, XW, X0])))) ?_
 refine cRs (D5 a1 a1) ?_
 refine cFo f ?_ ?_ <;> intro k6 h5 f
 ·have q5 := h5; try simp at q5
  simp
  exact rt [.tmp 4] f
 have q5 := h5; try simp at q5
 simp
 refine ke (gZ := [.sref 30 0 0 a0.Frame.Zm.length, .sref 30 1 0 a0.Frame.ZE.length, .sref 30 2 0 a0.Frame.Methods.length, .d (.int .i64 a0.Frame.KZ), .d (.int .i64 a0.Frame.Now), .sref 30 5 0 a0.ZN.length, .sref 30 6 0 a0.Zl.length, .sref 30 7 0 a0.ZA.length, .sref 30 8 0 a0.YX.length, .sref 30 9 0 a0.YJ.length, .d (.int .i64 a0.Next), .sref 30 11 0 a0.Z4.length]) rfl rfl rfl rfl rfl rfl rfl (PR a0 1) (by simp) (by simp) (by simp) (by simp) (by simp) (by simp) (by simp) (by simp) (by simp) ?_
 simp
 refine ke (gZ := [.sref 32 0 0 a1.length]) rfl rfl rfl rfl rfl rfl rfl (IJ a1 (Zz a0 1).2) (by simp) (by simp) (by simp) (by simp) (by simp) (by simp) (by simp) (by simp) (by simp) ?_
 simp
 refine cGs (fun gg => (VD (YF a0 a1) (Ku a0 a1))) ?_
 refine cFo f ?_ ?_ <;> intro k7 h6 f
 ·have q6 := h6; try simp at q6
  simp
  exact rt [.tmp 4] f
 have q6 := h6; try simp at q6
 simp
 refine ke (gZ := [.sref 35 0 0 (YF a0 a1).Frame.Zm.length, .sref 35 1 0 (YF a0 a1).Frame.ZE.length, .sref 35 2 0 (YF a0 a1).Frame.Methods.length, .d (.int .i64 (YF a0 a1).Frame.KZ), .d (.int .i64 (YF a0 a1).Frame.Now), .sref 35 5 0 (YF a0 a1).ZN.length, .sref 35 6 0 (YF a0 a1).Zl.length, .sref 35 7 0 (YF a0 a1).ZA.length, .sref 35 8 0 (YF a0 a1).YX.length, .sref 35 9 0 (YF a0 a1).YJ.length, .d (.int .i64 (YF a0 a1).Next), .sref 35 11 0 (YF a0 a1).Z4.length]) rfl rfl rfl rfl rfl rfl rfl (PR (YF a0 a1) 1) (by simp) (by simp) (by simp) (by simp) (by simp) (by simp) (by simp) (by simp) (by simp) ?_
 simp
 refine cRs (PW (Zz (YF a0 a1) 1).1 1) ?_
 refine cFo f ?_ ?_ <;> intro k8 h7 f
 ·have q7 := h7; try simp at q7
  simp
  exact rt [.tmp 4] f
 have q7 := h7; try simp at q7
 simp
 refine cFo f ?_ ?_ <;> intro k9 h8 f
 ·have q8 := h8; try simp at q8
  simp
  exact rt [.tmp 4] f
 have q8 := h8; try simp at q8
 simp
 refine cRs (Yv.rd (WB a0 (ZZ (n := 1048576) (by decide) (by simp (maxDischargeDepth := 12) [u0, u1, XT, XF, Y3, Yw, QT, X6, XE, X8, Xs, X2, QS, QU, X3, JI, QX, Xt, XU, X1, Xn, XR, XD, Y1, Xy, Xq, Qc, Xz, Xo, XW, X0])))) ?_
 refine cRs (Yv.rd (jt a1 (ZZ (n := 1048576) (by decide) (by simp (maxDischargeDepth := 12) [u0, u1, XT, XF, Y3, Yw, QT, X6, XE, X8, Xs, X2, QS, QU, X3, JI, QX, Xt, XU, X1, Xn, XR, XD, Y1, Xy, Xq, Qc, Xz, Xo, XW, X0])))) ?_
 refine cRs (Yv.rd (PS a0 a1 (by simp (maxDischargeDepth := 12) [u0, u1, XT, XF, Y3, Yw, QT, X6, XE, X8, Xs, X2, QS, QU, X3, JI, QX, Xt, XU, X1, Xn, XR, XD, Y1, Xy, Xq, Qc, Xz, Xo, XW, X0]) (by simp (maxDischargeDepth := 12) [u0, u1, XT, XF, Y3, Yw, QT, X6, XE, X8, Xs, X2, QS, QU, X3, JI, QX, Xt, XU, X1, Xn, XR, XD, Y1, Xy, Xq, Qc, Xz, Xo, XW, X0]))) ?_
 refine cRs (VD (YF a0 a1) (Ku a0 a1)) ?_
 refine cFo f ?_ ?_ <;> intro aH h9 f
 ·have q9 := h9; try simp at q9
  exact absurd (h3.symm.trans h9) (by decide)
 have q9 := h9; try simp at q9
 simp
 refine cRs (PW (Zz (YF a0 a1) 1).1 1) ?_
 refine cFo f ?_ ?_ <;> intro k11 dY f
 ·have q10 := dY; try simp at q10
  exact absurd (h7.symm.trans dY) (by decide)
 have q10 := dY; try simp at q10
 simp
 refine cFo f ?_ ?_ <;> intro k12 aI f
 ·have q11 := aI; try simp at q11
  exact absurd (h8.symm.trans aI) (by decide)
 have q11 := aI; try simp at q11
 simp
 exact rt [.tmp 4] f
end Go.Proofs.YtngnbcmfckmklaaGreat
