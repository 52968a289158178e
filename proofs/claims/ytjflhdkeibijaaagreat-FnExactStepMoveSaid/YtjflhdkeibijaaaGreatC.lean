/- Contracts of the functions Oj the abstract machine, part 1. No condition. -/
import Derived.Test.YtjflhdkeibijaaaGreatCA1
import Derived.Test.YtjflhdkeibijaaaGreatCI1
import Derived.Test.YtjflhdkeibijaaaGreatCS1
namespace Go.Proofs.YtjflhdkeibijaaaGreat
open Go.Vm Go.Mo
set_option maxHeartbeats 1000000
set_option maxRecDepth 100000
set_option linter.unusedSimpArgs false
set_option linter.unusedVariables false
theorem W9 (a0 : Ze) (a1 : Int) (a2 : Int) (a3 : Int) (t0 : Sm maxLen a0) : Sa 5 [a0.row, rI a1, rI a2, rI a3] [rB (KM a0 a1 a2 a3)] := by
 have f := me (KM.eq_1 a0 a1 a2 a3)
 refine so Tryz.func5 Tryz.ntmps5 ?_
 refine cRs (L2 a0 1048576) ?_
 refine cFo f ?_ ?_ <;> intro k1 h1 f
 ·have q1 := h1; try simp at q1
  simp
  exact rt [.tmp 8] f
 have q1 := h1; try simp at q1
 obtain ⟨u0, y0⟩ := Uw a0 1048576 t0 (by omega) (by omega) (by simpa using h1)
 simp
 refine cRs (Xz.rd (yx a0 (YL (n := 1048576) (by decide) (by simp (maxDischargeDepth := 12) [u0, QB, Xx, XW, XG, Jn, Q9, Xv, Qz, Jt, Jw, JE, Kj, Jv, Qc, QD, JJ, QZ, QA, Xy, XU, Q6, Qd, Jm, JB, QW, QE, JA])))) ?_
 refine cRs (Xz.rd (N4 a0 a1 a2 a3 (YL (n := 1048576) (by decide) (by simp (maxDischargeDepth := 12) [u0, QB, Xx, XW, XG, Jn, Q9, Xv, Qz, Jt, Jw, JE, Kj, Jv, Qc, QD, JJ, QZ, QA, Xy, XU, Q6, Qd, Jm, JB, QW, QE, JA])))) ?_
 refine cDs [] (yx a0 (YL (n := 1048576) (by decide) (by simp (maxDischargeDepth := 12) [u0, QB, Xx, XW, XG, Jn, Q9, Xv, Qz, Jt, Jw, JE, Kj, Jv, Qc, QD, JJ, QZ, QA, Xy, XU, Q6, Qd, Jm, JB, QW, QE, JA]))) ?_
 refine cDs [] (Vl a0 a1 a2 a3 (YL (n := 1048576) (by decide) (by simp (maxDischargeDepth := 12) [u0, QB, Xx, XW, XG, Jn, Q9, Xv, Qz, Jt, Jw, JE, Kj, Jv, Qc, QD, JJ, QZ, QA, Xy, XU, Q6, Qd, Jm, JB, QW, QE, JA]))) ?_
 refine cRs (xl (Zx a0 a1 a2 a3).1 (Xj a0 a1 a2 a3).1) ?_
 refine cFo f ?_ ?_ <;> intro k2 h2 f
 ·have q2 := h2; try simp at q2
  simp
  exact rt [.tmp 8] f
 have q2 := h2; try simp at q2
 simp
 refine dIs mixed ?_
 refine cRs (Xz.rd (yx a0 (YL (n := 1048576) (by decide) (by simp (maxDischargeDepth := 12) [u0, QB, Xx, XW, XG, Jn, Q9, Xv, Qz, Jt, Jw, JE, Kj, Jv, Qc, QD, JJ, QZ, QA, Xy, XU, Q6, Qd, Jm, JB, QW, QE, JA])))) ?_
 refine cRs (xl a0 a0) ?_
 refine cFo f ?_ ?_ <;> intro k4 h3 f
 ·have q3 := h3; try simp at q3
  simp
  exact rt [.tmp 8] f
 have q3 := h3; try simp at q3
 simp
 refine xX (ats := [.sref 35 0 0 a0.Frame.XE.length, .sref 35 1 0 a0.Frame.Zc.length, .sref 35 2 0 a0.Frame.Methods.length, .d (.int .i64 a0.Frame.xh), .d (.int .i64 a0.Frame.Now), .sref 35 5 0 a0.Zy.length, .sref 35 6 0 a0.Z6.length, .sref 35 7 0 a0.ZH.length, .sref 35 8 0 a0.XC.length, .sref 35 9 0 a0.Yq.length, .d (.int .i64 a0.Next), .sref 35 11 0 a0.Ym.length]) rfl rfl rfl rfl rfl rfl rfl (Wf a0 1) (by simp) (by simp) (by simp) (by simp) (by simp) (by simp) (by simp) (by simp) (by simp) ?_
 simp
 refine cGs (fun gg => (xl (Zx a0 a1 a2 a3).1 (Xj a0 a1 a2 a3).1)) ?_
 refine cFo f ?_ ?_ <;> intro k5 h4 f
 ·have q4 := h4; try simp at q4
  simp
  exact rt [.tmp 8] f
 have q4 := h4; try simp at q4
 simp
 refine xX (ats := [.sref 41 0 0 (Zx a0 a1 a2 a3).1.Frame.XE.length, .sref 41 1 0 (Zx a0 a1 a2 a3).1.Frame.Zc.length, .sref 41 2 0 (Zx a0 a1 a2 a3).1.Frame.Methods.length, .d (.int .i64 (Zx a0 a1 a2 a3).1.Frame.xh), .d (.int .i64 (Zx a0 a1 a2 a3).1.Frame.Now), .sref 41 5 0 (Zx a0 a1 a2 a3).1.Zy.length, .sref 41 6 0 (Zx a0 a1 a2 a3).1.Z6.length, .sref 41 7 0 (Zx a0 a1 a2 a3).1.ZH.length, .sref 41 8 0 (Zx a0 a1 a2 a3).1.XC.length, .sref 41 9 0 (Zx a0 a1 a2 a3).1.Yq.length, .d (.int .i64 (Zx a0 a1 a2 a3).1.Next), .sref 41 11 0 (Zx a0 a1 a2 a3).1.Ym.length]) rfl rfl rfl rfl rfl rfl rfl (Wf (Zx a0 a1 a2 a3).1 1) (by simp) (by simp) (by simp) (by simp) (by simp) (by simp) (by simp) (by simp) (by simp) ?_
 simp
 refine cRs (W6 (Zm (Zx a0 a1 a2 a3).1 1).1 1) ?_
 refine cFo f ?_ ?_ <;> intro k6 h5 f
 ·have q5 := h5; try simp at q5
  simp
  exact rt [.tmp 8] f
 have q5 := h5; try simp at q5
 simp
 refine cFo f ?_ ?_ <;> intro k7 h6 f
 ·have q6 := h6; try simp at q6
  simp
  exact rt [.tmp 8] f
 have q6 := h6; try simp at q6
 simp
 refine cRs (Xz.rd (yx a0 (YL (n := 1048576) (by decide) (by simp (maxDischargeDepth := 12) [u0, QB, Xx, XW, XG, Jn, Q9, Xv, Qz, Jt, Jw, JE, Kj, Jv, Qc, QD, JJ, QZ, QA, Xy, XU, Q6, Qd, Jm, JB, QW, QE, JA])))) ?_
 refine cRs (Xz.rd (Vl a0 a1 a2 a3 (YL (n := 1048576) (by decide) (by simp (maxDischargeDepth := 12) [u0, QB, Xx, XW, XG, Jn, Q9, Xv, Qz, Jt, Jw, JE, Kj, Jv, Qc, QD, JJ, QZ, QA, Xy, XU, Q6, Qd, Jm, JB, QW, QE, JA])))) ?_
 refine cRs (xl (Zx a0 a1 a2 a3).1 (Xj a0 a1 a2 a3).1) ?_
 refine cFo f ?_ ?_ <;> intro k8 h7 f
 ·have q7 := h7; try simp at q7
  exact absurd (h2.symm.trans h7) (by decide)
 have q7 := h7; try simp at q7
 simp
 refine cRs (W6 (Zm (Zx a0 a1 a2 a3).1 1).1 1) ?_
 refine cFo f ?_ ?_ <;> intro k9 h8 f
 ·have q8 := h8; try simp at q8
  exact absurd (h5.symm.trans h8) (by decide)
 have q8 := h8; try simp at q8
 simp
 refine cFo f ?_ ?_ <;> intro k10 h9 f
 ·have q9 := h9; try simp at q9
  exact absurd (h6.symm.trans h9) (by decide)
 have q9 := h9; try simp at q9
 simp
 exact rt [.tmp 8] f
end Go.Proofs.YtjflhdkeibijaaaGreat
