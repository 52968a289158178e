/- Contracts of the functions RK the abstract machine, part 1. No condition. -/
import Derived.Test.YtjflhdkeibijaaaGreatCA1
import Derived.Test.YtjflhdkeibijaaaGreatCI1
import Derived.Test.YtjflhdkeibijaaaGreatCS1
namespace Go.Proofs.YtjflhdkeibijaaaGreat
open Go.Vm Go.Mo
set_option maxHeartbeats 1000000
set_option maxRecDepth 100000
set_option linter.unusedSimpArgs false
set_option linter.unusedVariables false
theorem jA (a0 : Zc) (a1 : Int) (a2 : Int) (t0 : Sm maxLen a0) : Sa 4 [a0.row, rI a1, rI a2] [rB (QR a0 a1 a2)] := by
 have f := me (QR.eq_1 a0 a1 a2)
 refine so Tryz.func4 Tryz.ntmps4 ?_
 refine cRs (MQ a0 1048576) ?_
 refine cFo f ?_ ?_ <;> intro k1 h1 f
 ·have q1 := h1; try simp at q1
  simp
  exact rt [.tmp 6] f
 have q1 := h1; try simp at q1
 obtain ⟨u0, y0⟩ := Uf a0 1048576 t0 (by omega) (by omega) (by simpa using h1)
 simp
 refine cRs (Xf.rd (yj a0 (YO (n := 1048576) (by decide) (by simp (maxDischargeDepth := 12) [u0, Xn, XZ, XH, Y7, Jb, Qu, XY, Qm, Jd, JZ, Qp, J3, Jc, QJ, Xr, Qj, QH, Xm, XX, XM, Qg, QI, JY, Qh, QD, Xq, Qt])))) ?_
 refine cRs (Xf.rd (Vw a0 a1 a2 (YO (n := 1048576) (by decide) (by simp (maxDischargeDepth := 12) [u0, Xn, XZ, XH, Y7, Jb, Qu, XY, Qm, Jd, JZ, Qp, J3, Jc, QJ, Xr, Qj, QH, Xm, XX, XM, Qg, QI, JY, Qh, QD, Xq, Qt])))) ?_
 refine cDs [] (yj a0 (YO (n := 1048576) (by decide) (by simp (maxDischargeDepth := 12) [u0, Xn, XZ, XH, Y7, Jb, Qu, XY, Qm, Jd, JZ, Qp, J3, Jc, QJ, Xr, Qj, QH, Xm, XX, XM, Qg, QI, JY, Qh, QD, Xq, Qt]))) ?_
 refine cDs [] (qg a0 a1 a2 (YO (n := 1048576) (by decide) (by simp (maxDischargeDepth := 12) [u0, Xn, XZ, XH, Y7, Jb, Qu, XY, Qm, Jd, JZ, Qp, J3, Jc, QJ, Xr, Qj, QH, Xm, XX, XM, Qg, QI, JY, Qh, QD, Xq, Qt]))) ?_
 refine cRs (xa (Zg a0 a1 a2).1 (Yb a0 a1 a2).1) ?_
 refine cFo f ?_ ?_ <;> intro k2 h2 f
 ·have q2 := h2; try simp at q2
  simp
  exact rt [.tmp 6] f
 have q2 := h2; try simp at q2
 simp
 refine dIs mixed ?_
 refine cRs (Xf.rd (yj a0 (YO (n := 1048576) (by decide) (by simp (maxDischargeDepth := 12) [u0, Xn, XZ, XH, Y7, Jb, Qu, XY, Qm, Jd, JZ, Qp, J3, Jc, QJ, Xr, Qj, QH, Xm, XX, XM, Qg, QI, JY, Qh, QD, Xq, Qt])))) ?_
 refine cRs (xa a0 a0) ?_
 refine cFo f ?_ ?_ <;> intro k4 h3 f
 ·have q3 := h3; try simp at q3
  simp
  exact rt [.tmp 6] f
 have q3 := h3; try simp at q3
 simp
 refine y3 (ats := [.sref 32 0 0 a0.Frame.YR.length, .sref 32 1 0 a0.Frame.ZL.length, .sref 32 2 0 a0.Frame.Methods.length, .d (.int .i64 a0.Frame.zu), .d (.int .i64 a0.Frame.Now), .sref 32 5 0 a0.Zx.length, .sref 32 6 0 a0.Z5.length, .sref 32 7 0 a0.ZC.length, .sref 32 8 0 a0.Yz.length, .sref 32 9 0 a0.YX.length, .d (.int .i64 a0.Next), .sref 32 11 0 a0.YT.length]) rfl rfl rfl rfl rfl rfl rfl (km a0 1) (by simp) (by simp) (by simp) (by simp) (by simp) (by simp) (by simp) (by simp) (by simp) ?_
 simp
 refine cGs (fun gg => (xa (Zg a0 a1 a2).1 (Yb a0 a1 a2).1)) ?_
 refine cFo f ?_ ?_ <;> intro k5 h4 f
 ·have q4 := h4; try simp at q4
  simp
  exact rt [.tmp 6] f
 have q4 := h4; try simp at q4
 simp
 refine y3 (ats := [.sref 37 0 0 (Zg a0 a1 a2).1.Frame.YR.length, .sref 37 1 0 (Zg a0 a1 a2).1.Frame.ZL.length, .sref 37 2 0 (Zg a0 a1 a2).1.Frame.Methods.length, .d (.int .i64 (Zg a0 a1 a2).1.Frame.zu), .d (.int .i64 (Zg a0 a1 a2).1.Frame.Now), .sref 37 5 0 (Zg a0 a1 a2).1.Zx.length, .sref 37 6 0 (Zg a0 a1 a2).1.Z5.length, .sref 37 7 0 (Zg a0 a1 a2).1.ZC.length, .sref 37 8 0 (Zg a0 a1 a2).1.Yz.length, .sref 37 9 0 (Zg a0 a1 a2).1.YX.length, .d (.int .i64 (Zg a0 a1 a2).1.Next), .sref 37 11 0 (Zg a0 a1 a2).1.YT.length]) rfl rfl rfl rfl rfl rfl rfl (km (Zg a0 a1 a2).1 1) (by simp) (by simp) (by simp) (by simp) (by simp) (by simp) (by simp) (by simp) (by simp) ?_
 simp
 refine cRs (kl (Zn (Zg a0 a1 a2).1 1).1 1) ?_
 refine cFo f ?_ ?_ <;> intro k6 h5 f
 ·have q5 := h5; try simp at q5
  simp
  exact rt [.tmp 6] f
 have q5 := h5; try simp at q5
 simp
 refine cFo f ?_ ?_ <;> intro k7 h6 f
 ·have q6 := h6; try simp at q6
  simp
  exact rt [.tmp 6] f
 have q6 := h6; try simp at q6
 simp
 refine cRs (Xf.rd (yj a0 (YO (n := 1048576) (by decide) (by simp (maxDischargeDepth := 12) [u0, Xn, XZ, XH, Y7, Jb, Qu, XY, Qm, Jd, JZ, Qp, J3, Jc, QJ, Xr, Qj, QH, Xm, XX, XM, Qg, QI, JY, Qh, QD, Xq, Qt])))) ?_
 refine cRs (Xf.rd (qg a0 a1 a2 (YO (n := 1048576) (by decide) (by simp (maxDischargeDepth := 12) [u0, Xn, XZ, XH, Y7, Jb, Qu, XY, Qm, Jd, JZ, Qp, J3, Jc, QJ, Xr, Qj, QH, Xm, XX, XM, Qg, QI, JY, Qh, QD, Xq, Qt])))) ?_
 refine cRs (xa (Zg a0 a1 a2).1 (Yb a0 a1 a2).1) ?_
 refine cFo f ?_ ?_ <;> intro k8 h7 f
 ·have q7 := h7; try simp at q7
  exact absurd (h2.symm.trans h7) (by decide)
 have q7 := h7; try simp at q7
 simp
 refine cRs (kl (Zn (Zg a0 a1 a2).1 1).1 1) ?_
 refine cFo f ?_ ?_ <;> intro k9 h8 f
 ·have q8 := h8; try simp at q8
  exact absurd (h5.symm.trans h8) (by decide)
 have q8 := h8; try simp at q8
 simp
 refine cFo f ?_ ?_ <;> intro k10 h9 f
 ·have q9 := h9; try simp at q9
  exact absurd (h6.symm.trans h9) (by decide)
 have q9 := h9; try simp at q9
 simp
 exact rt [.tmp 6] f
end Go.Proofs.YtjflhdkeibijaaaGreat
