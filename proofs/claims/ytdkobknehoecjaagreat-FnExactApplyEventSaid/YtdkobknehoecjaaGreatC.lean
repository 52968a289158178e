/- Contracts of the functions GQ the abstract machine, part 1. No condition. -/
import Derived.Test.YtdkobknehoecjaaGreatCA1
import Derived.Test.YtdkobknehoecjaaGreatCI1
import Derived.Test.YtdkobknehoecjaaGreatCS1
namespace Go.Proofs.YtdkobknehoecjaaGreat
open Tryz
open Go.Vm Go.Mo
set_option maxHeartbeats 1000000
set_option maxRecDepth 100000
set_option linter.unusedSimpArgs false
set_option linter.unusedVariables false
theorem Ta (a0 : ZJ) (a1 : Yu) (t0 : Sm maxLen a0) (t1 : Sm maxLen a1) : Sa 3 [a0.row, a1.row] [rB (zc a0 a1)] := by
 have f := me (zc.eq_1 a0 a1)
 refine so func3 ntmps3 ?_
 refine cRs (Cq a0 1048576) ?_
 refine cFo f ?_ ?_ <;> intro k1 h1 f
 ·have q1 := h1; try simp at q1
  simp
  exact rt [.tmp 4] f
 have q1 := h1; try simp at q1
 obtain ⟨u0, y0⟩ := Na a0 1048576 t0 (by omega) (by omega) (by simpa using h1)
 simp
 refine cRs (CL a1 (KB a0 1048576)) ?_
 refine cFo f ?_ ?_ <;> intro k2 h2 f
 ·have q2 := h2; try simp at q2
  simp
  exact rt [.tmp 4] f
 have q2 := h2; try simp at q2
 obtain ⟨u1, y1⟩ := Oa a1 (KB a0 1048576) t1 (by omega) (by omega) (by simpa using h2)
 simp
 refine dIs mixed ?_
 refine cRs (Yv.rd (ki a0 (Zk (n := 1048576) (by decide) (by simp (maxDischargeDepth := 12) [u0, u1, XV, XF, Y3, Yx, QT, Xw, XE, X2, Xz, QM, QO, X1, Q9, QV, Xk, XR, X0, Xj, XT, XG, Y4, Xx, Xl, QS, X3, Xi, XU, X4])))) ?_
 refine cRs (Yv.rd (kU a1 (Zk (n := 1048576) (by decide) (by simp (maxDischargeDepth := 12) [u0, u1, XV, XF, Y3, Yx, QT, Xw, XE, X2, Xz, QM, QO, X1, Q9, QV, Xk, XR, X0, Xj, XT, XG, Y4, Xx, Xl, QS, X3, Xi, XU, X4])))) ?_
 refine cRs (Lq a0 a1 (Zk (n := 1048576) (by decide) (by simp (maxDischargeDepth := 12) [u0, u1, XV, XF, Y3, Yx, QT, Xw, XE, X2, Xz, QM, QO, X1, Q9, QV, Xk, XR, X0, Xj, XT, XG, Y4, Xx, Xl, QS, X3, Xi, XU, X4])) (Zk (n := 1048576) (by decide) (by simp (maxDischargeDepth := 12) [u0, u1, XV, XF, Y3, Yx, QT, Xw, XE, X2, Xz, QM, QO, X1, Q9, QV, Xk, XR, X0, Xj, XT, XG, Y4, Xx, Xl, QS, X3, Xi, XU, X4]))) ?_
 refine cDs [] (ki a0 (Zk (n := 1048576) (by decide) (by simp (maxDischargeDepth := 12) [u0, u1, XV, XF, Y3, Yx, QT, Xw, XE, X2, Xz, QM, QO, X1, Q9, QV, Xk, XR, X0, Xj, XT, XG, Y4, Xx, Xl, QS, X3, Xi, XU, X4]))) ?_
 refine cDs [] (kU a1 (Zk (n := 1048576) (by decide) (by simp (maxDischargeDepth := 12) [u0, u1, XV, XF, Y3, Yx, QT, Xw, XE, X2, Xz, QM, QO, X1, Q9, QV, Xk, XR, X0, Xj, XT, XG, Y4, Xx, Xl, QS, X3, Xi, XU, X4]))) ?_
 refine cDs [] (SO a0 a1 (Zk (n := 1048576) (by decide) (by simp (maxDischargeDepth := 12) [u0, u1, XV, XF, Y3, Yx, QT, Xw, XE, X2, Xz, QM, QO, X1, Q9, QV, Xk, XR, X0, Xj, XT, XG, Y4, Xx, Xl, QS, X3, Xi, XU, X4])) (Zk (n := 1048576) (by decide) (by simp (maxDischargeDepth := 12) [u0, u1, XV, XF, Y3, Yx, QT, Xw, XE, X2, Xz, QM, QO, X1, Q9, QV, Xk, XR, X0, Xj, XT, XG, Y4, Xx, Xl, QS, X3, Xi, XU, X4]))) ?_
 refine cRs (Ws (Z3 a0 a1).1 (QH a0 a1).1) ?_
 refine cFo f ?_ ?_ <;> intro k4 h3 f
 ·have q3 := h3; try simp at q3
  simp
  exact rt [.tmp 4] f
 have q3 := h3; try simp at q3
 simp
 refine dIs mixed ?_
 refine cRs (Yv.rd (ki a0 (Zk (n := 1048576) (by decide) (by simp (maxDischargeDepth := 12) [u0, u1, XV, XF, Y3, Yx, QT, Xw, XE, X2, Xz, QM, QO, X1, Q9, QV, Xk, XR, X0, Xj, XT, XG, Y4, Xx, Xl, QS, X3, Xi, XU, X4])))) ?_
 refine cRs (Ws a0 a0) ?_
 refine cFo f ?_ ?_ <;> intro k6 h4 f
 ·have q4 := h4; try simp at q4
  simp
  exact rt [.tmp 4] f
 have q4 := h4; try simp at q4
 simp
 refine dIs mixed ?_
 refine cRs (Yv.rd (kU a1 (Zk (n := 1048576) (by decide) (by simp (maxDischargeDepth := 12) [u0, u1, XV, XF, Y3, Yx, QT, Xw, XE, X2, Xz, QM, QO, X1, Q9, QV, Xk, XR, X0, Xj, XT, XG, Y4, Xx, Xl, QS, X3, Xi, XU, X4])))) ?_
 refine cRs (BS a1 a1) ?_
 refine cFo f ?_ ?_ <;> intro k8 h5 f
 ·have q5 := h5; try simp at q5
  simp
  exact rt [.tmp 4] f
 have q5 := h5; try simp at q5
 simp
 refine xO (l6 := [.sref 36 0 0 a0.Frame.Zq.length, .sref 36 1 0 a0.Frame.ZG.length, .sref 36 2 0 a0.Frame.Methods.length, .d (.int .i64 a0.Frame.y9), .d (.int .i64 a0.Frame.Now), .sref 36 5 0 a0.ZS.length, .sref 36 6 0 a0.Zr.length, .sref 36 7 0 a0.ZA.length, .sref 36 8 0 a0.Ym.length, .sref 36 9 0 a0.YW.length, .d (.int .i64 a0.Next), .sref 36 11 0 a0.YN.length]) rfl rfl rfl rfl rfl rfl rfl (Rk a0 1) (by simp) (by simp) (by simp) (by simp) (by simp) (by simp) (by simp) (by simp) (by simp) ?_
 simp
 refine xO (l6 := [.d (.int .i64 a1.Kind), .d (.int .i64 a1.A), .d (.int .i64 a1.B), .d (.int .i64 a1.C), .d (.int .i64 a1.D), .d (.int .i64 a1.Doc.zA), .sref 38 6 0 a1.Doc.ZN.length, .sref 38 7 0 a1.Doc.ZR.length, .sref 38 8 0 a1.Ids.length]) rfl rfl rfl rfl rfl rfl rfl (Gf a1 (Z0 a0 1).2) (by simp) (by simp) (by simp) (by simp) (by simp) (by simp) (by simp) (by simp) (by simp) ?_
 simp
 refine cGs (fun gg => (Ws (Z3 a0 a1).1 (QH a0 a1).1)) ?_
 refine cFo f ?_ ?_ <;> intro k9 h6 f
 ·have q6 := h6; try simp at q6
  simp
  exact rt [.tmp 4] f
 have q6 := h6; try simp at q6
 simp
 refine xO (l6 := [.sref 42 0 0 (Z3 a0 a1).1.Frame.Zq.length, .sref 42 1 0 (Z3 a0 a1).1.Frame.ZG.length, .sref 42 2 0 (Z3 a0 a1).1.Frame.Methods.length, .d (.int .i64 (Z3 a0 a1).1.Frame.y9), .d (.int .i64 (Z3 a0 a1).1.Frame.Now), .sref 42 5 0 (Z3 a0 a1).1.ZS.length, .sref 42 6 0 (Z3 a0 a1).1.Zr.length, .sref 42 7 0 (Z3 a0 a1).1.ZA.length, .sref 42 8 0 (Z3 a0 a1).1.Ym.length, .sref 42 9 0 (Z3 a0 a1).1.YW.length, .d (.int .i64 (Z3 a0 a1).1.Next), .sref 42 11 0 (Z3 a0 a1).1.YN.length]) rfl rfl rfl rfl rfl rfl rfl (Rk (Z3 a0 a1).1 1) (by simp) (by simp) (by simp) (by simp) (by simp) (by simp) (by simp) (by simp) (by simp) ?_
 simp
 refine cRs (Sv (Z0 (Z3 a0 a1).1 1).1 1) ?_
 refine cFo f ?_ ?_ <;> intro cO h7 f
 ·have q7 := h7; try simp at q7
  simp
  exact rt [.tmp 4] f
 have q7 := h7; try simp at q7
 simp
 refine cFo f ?_ ?_ <;> intro k11 h8 f
 ·have q8 := h8; try simp at q8
  simp
  exact rt [.tmp 4] f
 have q8 := h8; try simp at q8
 simp
 refine dIs mixed ?_
 refine cRs (Yv.rd (ki a0 (Zk (n := 1048576) (by decide) (by simp (maxDischargeDepth := 12) [u0, u1, XV, XF, Y3, Yx, QT, Xw, XE, X2, Xz, QM, QO, X1, Q9, QV, Xk, XR, X0, Xj, XT, XG, Y4, Xx, Xl, QS, X3, Xi, XU, X4])))) ?_
 refine cRs (Yv.rd (kU a1 (Zk (n := 1048576) (by decide) (by simp (maxDischargeDepth := 12) [u0, u1, XV, XF, Y3, Yx, QT, Xw, XE, X2, Xz, QM, QO, X1, Q9, QV, Xk, XR, X0, Xj, XT, XG, Y4, Xx, Xl, QS, X3, Xi, XU, X4])))) ?_
 refine cRs (Yv.rd (SO a0 a1 (Zk (n := 1048576) (by decide) (by simp (maxDischargeDepth := 12) [u0, u1, XV, XF, Y3, Yx, QT, Xw, XE, X2, Xz, QM, QO, X1, Q9, QV, Xk, XR, X0, Xj, XT, XG, Y4, Xx, Xl, QS, X3, Xi, XU, X4])) (Zk (n := 1048576) (by decide) (by simp (maxDischargeDepth := 12) [u0, u1, XV, XF, Y3, Yx, QT, Xw, XE, X2, Xz, QM, QO, X1, Q9, QV, Xk, XR, X0, Xj, XT, XG, Y4, Xx, Xl, QS, X3, Xi, XU, X4])))) ?_
 refine cRs (Ws (Z3 a0 a1).1 (QH a0 a1).1) ?_
 refine cFo f ?_ ?_ <;> intro cw h9 f
 ·have q9 := h9; try simp at q9
  exact absurd (h3.symm.trans h9) (by decide)
 have q9 := h9; try simp at q9
 simp
 refine cRs (Sv (Z0 (Z3 a0 a1).1 1).1 1) ?_
 refine cFo f ?_ ?_ <;> intro k14 fg f
 ·have q10 := fg; try simp at q10
  exact absurd (h7.symm.trans fg) (by decide)
 have q10 := fg; try simp at q10
 simp
 refine cFo f ?_ ?_ <;> intro k15 bl f
 ·have q11 := bl; try simp at q11
  exact absurd (h8.symm.trans bl) (by decide)
 have q11 := bl; try simp at q11
 simp
 exact rt [.tmp 4] f
end Go.Proofs.YtdkobknehoecjaaGreat
