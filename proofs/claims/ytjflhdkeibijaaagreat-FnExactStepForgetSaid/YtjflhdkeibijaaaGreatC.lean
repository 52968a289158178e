/- Contracts of the functions SD the abstract machine, part 1. No condition. -/
import Derived.Test.YtjflhdkeibijaaaGreatCA1
import Derived.Test.YtjflhdkeibijaaaGreatCI1
import Derived.Test.YtjflhdkeibijaaaGreatCS1
namespace Go.Proofs.YtjflhdkeibijaaaGreat
open Go.Vm Go.Mo
set_option maxHeartbeats 1000000
set_option maxRecDepth 100000
set_option linter.unusedSimpArgs false
set_option linter.unusedVariables false
theorem km (a0 : ZZ) (a1 : Int) (t0 : Sm maxLen a0) : Sa 3 [a0.row, rI a1] [rB (Ji a0 a1)] := by
 have f := me (Ji.eq_1 a0 a1)
 refine so Tryz.func3 Tryz.ntmps3 ?_
 refine cRs (TY a0 1048576) ?_
 refine cFo f ?_ ?_ <;> intro k1 h1 f
 ·have q1 := h1; try simp at q1
  simp
  exact rt [.tmp 4] f
 have q1 := h1; try simp at q1
 obtain ⟨u0, y0⟩ := qe a0 1048576 t0 (by omega) (by omega) (by simpa using h1)
 simp
 refine cRs (Y4.rd (Qo a0 (Zr (n := 1048576) (by decide) (by simp (maxDischargeDepth := 12) [u0, YI, YA, Z4, Zz, Yq, Yd, YB, Yg, Yr, Yo, Ye, Y6, Yt, YS, YH, Yi, YR, YJ, Z9, Z5, Yf, YU, Yp, Yh, YT, YK, Yc])))) ?_
 refine cRs (Rg a0 a1 (Zr (n := 1048576) (by decide) (by simp (maxDischargeDepth := 12) [u0, YI, YA, Z4, Zz, Yq, Yd, YB, Yg, Yr, Yo, Ye, Y6, Yt, YS, YH, Yi, YR, YJ, Z9, Z5, Yf, YU, Yp, Yh, YT, YK, Yc]))) ?_
 refine cDs [] (Qo a0 (Zr (n := 1048576) (by decide) (by simp (maxDischargeDepth := 12) [u0, YI, YA, Z4, Zz, Yq, Yd, YB, Yg, Yr, Yo, Ye, Y6, Yt, YS, YH, Yi, YR, YJ, Z9, Z5, Yf, YU, Yp, Yh, YT, YK, Yc]))) ?_
 refine cDs [] (Wn a0 a1 (Zr (n := 1048576) (by decide) (by simp (maxDischargeDepth := 12) [u0, YI, YA, Z4, Zz, Yq, Yd, YB, Yg, Yr, Yo, Ye, Y6, Yt, YS, YH, Yi, YR, YJ, Z9, Z5, Yf, YU, Yp, Yh, YT, YK, Yc]))) ?_
 refine cRs (JO (Zo a0 a1).1 (XR a0 a1).1) ?_
 refine cFo f ?_ ?_ <;> intro k2 h2 f
 ·have q2 := h2; try simp at q2
  simp
  exact rt [.tmp 4] f
 have q2 := h2; try simp at q2
 simp
 refine dIs mixed ?_
 refine cRs (Y4.rd (Qo a0 (Zr (n := 1048576) (by decide) (by simp (maxDischargeDepth := 12) [u0, YI, YA, Z4, Zz, Yq, Yd, YB, Yg, Yr, Yo, Ye, Y6, Yt, YS, YH, Yi, YR, YJ, Z9, Z5, Yf, YU, Yp, Yh, YT, YK, Yc])))) ?_
 refine cRs (JO a0 a0) ?_
 refine cFo f ?_ ?_ <;> intro k4 h3 f
 ·have q3 := h3; try simp at q3
  simp
  exact rt [.tmp 4] f
 have q3 := h3; try simp at q3
 simp
 refine zd (ats := [.sref 29 0 0 a0.Frame.YV.length, .sref 29 1 0 a0.Frame.ZC.length, .sref 29 2 0 a0.Frame.Methods.length, .d (.int .i64 a0.Frame.zN), .d (.int .i64 a0.Frame.Now), .sref 29 5 0 a0.Zy.length, .sref 29 6 0 a0.Z3.length, .sref 29 7 0 a0.ZI.length, .sref 29 8 0 a0.YZ.length, .sref 29 9 0 a0.Yl.length, .d (.int .i64 a0.Next), .sref 29 11 0 a0.Ym.length]) rfl rfl rfl rfl rfl rfl rfl (yZ a0 1) (by simp) (by simp) (by simp) (by simp) (by simp) (by simp) (by simp) (by simp) (by simp) ?_
 simp
 refine cGs (fun gg => (JO (Zo a0 a1).1 (XR a0 a1).1)) ?_
 refine cFo f ?_ ?_ <;> intro k5 h4 f
 ·have q4 := h4; try simp at q4
  simp
  exact rt [.tmp 4] f
 have q4 := h4; try simp at q4
 simp
 refine zd (ats := [.sref 33 0 0 (Zo a0 a1).1.Frame.YV.length, .sref 33 1 0 (Zo a0 a1).1.Frame.ZC.length, .sref 33 2 0 (Zo a0 a1).1.Frame.Methods.length, .d (.int .i64 (Zo a0 a1).1.Frame.zN), .d (.int .i64 (Zo a0 a1).1.Frame.Now), .sref 33 5 0 (Zo a0 a1).1.Zy.length, .sref 33 6 0 (Zo a0 a1).1.Z3.length, .sref 33 7 0 (Zo a0 a1).1.ZI.length, .sref 33 8 0 (Zo a0 a1).1.YZ.length, .sref 33 9 0 (Zo a0 a1).1.Yl.length, .d (.int .i64 (Zo a0 a1).1.Next), .sref 33 11 0 (Zo a0 a1).1.Ym.length]) rfl rfl rfl rfl rfl rfl rfl (yZ (Zo a0 a1).1 1) (by simp) (by simp) (by simp) (by simp) (by simp) (by simp) (by simp) (by simp) (by simp) ?_
 simp
 refine cRs (yW (Ze (Zo a0 a1).1 1).1 1) ?_
 refine cFo f ?_ ?_ <;> intro k6 h5 f
 ·have q5 := h5; try simp at q5
  simp
  exact rt [.tmp 4] f
 have q5 := h5; try simp at q5
 simp
 refine cFo f ?_ ?_ <;> intro k7 h6 f
 ·have q6 := h6; try simp at q6
  simp
  exact rt [.tmp 4] f
 have q6 := h6; try simp at q6
 simp
 refine cRs (Y4.rd (Qo a0 (Zr (n := 1048576) (by decide) (by simp (maxDischargeDepth := 12) [u0, YI, YA, Z4, Zz, Yq, Yd, YB, Yg, Yr, Yo, Ye, Y6, Yt, YS, YH, Yi, YR, YJ, Z9, Z5, Yf, YU, Yp, Yh, YT, YK, Yc])))) ?_
 refine cRs (Y4.rd (Wn a0 a1 (Zr (n := 1048576) (by decide) (by simp (maxDischargeDepth := 12) [u0, YI, YA, Z4, Zz, Yq, Yd, YB, Yg, Yr, Yo, Ye, Y6, Yt, YS, YH, Yi, YR, YJ, Z9, Z5, Yf, YU, Yp, Yh, YT, YK, Yc])))) ?_
 refine cRs (JO (Zo a0 a1).1 (XR a0 a1).1) ?_
 refine cFo f ?_ ?_ <;> intro k8 h7 f
 ·have q7 := h7; try simp at q7
  exact absurd (h2.symm.trans h7) (by decide)
 have q7 := h7; try simp at q7
 simp
 refine cRs (yW (Ze (Zo a0 a1).1 1).1 1) ?_
 refine cFo f ?_ ?_ <;> intro k9 h8 f
 ·have q8 := h8; try simp at q8
  exact absurd (h5.symm.trans h8) (by decide)
 have q8 := h8; try simp at q8
 simp
 refine cFo f ?_ ?_ <;> intro k10 h9 f
 ·have q9 := h9; try simp at q9
  exact absurd (h6.symm.trans h9) (by decide)
 have q9 := h9; try simp at q9
 simp
 exact rt [.tmp 4] f
theorem Wr (a0 : ZZ) (a1 : Int) (a2 : List Int) (a3 : Int) (t0 : Sm maxLen a0) (t2 : Sm maxLen a2) : Sa 6 [a0.row, rI a1, rL 1 iR a2, rI a3] [rB (J8 a0 a1 a2 a3)] := by
 have f := me (J8.eq_1 a0 a1 a2 a3)
 refine so Tryz.func6 Tryz.ntmps6 ?_
 refine cFo f ?_ ?_ <;> intro k1 h1 f
 ·have q1 := h1; try simp at q1
  simp
  exact rt [.tmp 8] f
 have q1 := h1; try simp at q1
 have u2 : Sm 1048576 a2 := (by have z := h1; simp at z; simp [XS]; omega)
 simp
 refine cRs (TY a0 1048576) ?_
 refine cFo f ?_ ?_ <;> intro k2 h2 f
 ·have q2 := h2; try simp at q2
  simp
  exact rt [.tmp 8] f
 have q2 := h2; try simp at q2
 obtain ⟨u0, y0⟩ := qe a0 1048576 t0 (by omega) (by omega) (by simpa using h2)
 simp
 refine cRs (Y4.rd (Qo a0 (Zr (n := 1048576) (by decide) (by simp (maxDischargeDepth := 12) [u2, u0, YI, YA, Z4, Zz, Yq, Yd, YB, Yg, Yr, Yo, Ye, Y6, Yt, YS, YH, Yi, YR, YJ, Z9, Z5, Yf, YU, Yp, Yh, YT, YK, Yc])))) ?_
 refine cRs (Y4.rd (QI a2 (Zr (n := 1048576) (by decide) (by simp (maxDischargeDepth := 12) [u2, u0, YI, YA, Z4, Zz, Yq, Yd, YB, Yg, Yr, Yo, Ye, Y6, Yt, YS, YH, Yi, YR, YJ, Z9, Z5, Yf, YU, Yp, Yh, YT, YK, Yc])))) ?_
 refine cRs (NY a0 a1 a2 a3 (Zr (n := 1048576) (by decide) (by simp (maxDischargeDepth := 12) [u2, u0, YI, YA, Z4, Zz, Yq, Yd, YB, Yg, Yr, Yo, Ye, Y6, Yt, YS, YH, Yi, YR, YJ, Z9, Z5, Yf, YU, Yp, Yh, YT, YK, Yc])) (Zr (n := 1048576) (by decide) (by simp (maxDischargeDepth := 12) [u2, u0, YI, YA, Z4, Zz, Yq, Yd, YB, Yg, Yr, Yo, Ye, Y6, Yt, YS, YH, Yi, YR, YJ, Z9, Z5, Yf, YU, Yp, Yh, YT, YK, Yc]))) ?_
 refine cDs [] (Qo a0 (Zr (n := 1048576) (by decide) (by simp (maxDischargeDepth := 12) [u2, u0, YI, YA, Z4, Zz, Yq, Yd, YB, Yg, Yr, Yo, Ye, Y6, Yt, YS, YH, Yi, YR, YJ, Z9, Z5, Yf, YU, Yp, Yh, YT, YK, Yc]))) ?_
 refine cDs [] (QI a2 (Zr (n := 1048576) (by decide) (by simp (maxDischargeDepth := 12) [u2, u0, YI, YA, Z4, Zz, Yq, Yd, YB, Yg, Yr, Yo, Ye, Y6, Yt, YS, YH, Yi, YR, YJ, Z9, Z5, Yf, YU, Yp, Yh, YT, YK, Yc]))) ?_
 refine cDs [] (Wz a0 a1 a2 a3 (Zr (n := 1048576) (by decide) (by simp (maxDischargeDepth := 12) [u2, u0, YI, YA, Z4, Zz, Yq, Yd, YB, Yg, Yr, Yo, Ye, Y6, Yt, YS, YH, Yi, YR, YJ, Z9, Z5, Yf, YU, Yp, Yh, YT, YK, Yc])) (Zr (n := 1048576) (by decide) (by simp (maxDischargeDepth := 12) [u2, u0, YI, YA, Z4, Zz, Yq, Yd, YB, Yg, Yr, Yo, Ye, Y6, Yt, YS, YH, Yi, YR, YJ, Z9, Z5, Yf, YU, Yp, Yh, YT, YK, Yc]))) ?_
 refine cRs (JO (Zu a0 a1 a2 a3).1 (Xj a0 a1 a2 a3).1) ?_
 refine cFo f ?_ ?_ <;> intro k3 h3 f
 ·have q3 := h3; try simp at q3
  simp
  exact rt [.tmp 8] f
 have q3 := h3; try simp at q3
 simp
 refine dIs mixed ?_
 refine cRs (Y4.rd (Qo a0 (Zr (n := 1048576) (by decide) (by simp (maxDischargeDepth := 12) [u2, u0, YI, YA, Z4, Zz, Yq, Yd, YB, Yg, Yr, Yo, Ye, Y6, Yt, YS, YH, Yi, YR, YJ, Z9, Z5, Yf, YU, Yp, Yh, YT, YK, Yc])))) ?_
 refine cRs (JO a0 a0) ?_
 refine cFo f ?_ ?_ <;> intro k5 h4 f
 ·have q4 := h4; try simp at q4
  simp
  exact rt [.tmp 8] f
 have q4 := h4; try simp at q4
 simp
 refine cRs (Y4.rd (QI a2 (Zr (n := 1048576) (by decide) (by simp (maxDischargeDepth := 12) [u2, u0, YI, YA, Z4, Zz, Yq, Yd, YB, Yg, Yr, Yo, Ye, Y6, Yt, YS, YH, Yi, YR, YJ, Z9, Z5, Yf, YU, Yp, Yh, YT, YK, Yc])))) ?_
 refine cRs (Kl a2 a2) ?_
 refine cFo f ?_ ?_ <;> intro k6 h5 f
 ·have q5 := h5; try simp at q5
  simp
  exact rt [.tmp 8] f
 have q5 := h5; try simp at q5
 simp
 refine zd (ats := [.sref 40 0 0 a0.Frame.YV.length, .sref 40 1 0 a0.Frame.ZC.length, .sref 40 2 0 a0.Frame.Methods.length, .d (.int .i64 a0.Frame.zN), .d (.int .i64 a0.Frame.Now), .sref 40 5 0 a0.Zy.length, .sref 40 6 0 a0.Z3.length, .sref 40 7 0 a0.ZI.length, .sref 40 8 0 a0.YZ.length, .sref 40 9 0 a0.Yl.length, .d (.int .i64 a0.Next), .sref 40 11 0 a0.Ym.length]) rfl rfl rfl rfl rfl rfl rfl (yZ a0 1) (by simp) (by simp) (by simp) (by simp) (by simp) (by simp) (by simp) (by simp) (by simp) ?_
 simp
 refine zd (ats := [.sref 42 0 0 a2.length]) rfl rfl rfl rfl rfl rfl rfl (JY a2 (Ze a0 1).2) (by simp) (by simp) (by simp) (by simp) (by simp) (by simp) (by simp) (by simp) (by simp) ?_
 simp
 refine cGs (fun gg => (JO (Zu a0 a1 a2 a3).1 (Xj a0 a1 a2 a3).1)) ?_
 refine cFo f ?_ ?_ <;> intro k7 h6 f
 ·have q6 := h6; try simp at q6
  simp
  exact rt [.tmp 8] f
 have q6 := h6; try simp at q6
 simp
 refine zd (ats := [.sref 48 0 0 (Zu a0 a1 a2 a3).1.Frame.YV.length, .sref 48 1 0 (Zu a0 a1 a2 a3).1.Frame.ZC.length, .sref 48 2 0 (Zu a0 a1 a2 a3).1.Frame.Methods.length, .d (.int .i64 (Zu a0 a1 a2 a3).1.Frame.zN), .d (.int .i64 (Zu a0 a1 a2 a3).1.Frame.Now), .sref 48 5 0 (Zu a0 a1 a2 a3).1.Zy.length, .sref 48 6 0 (Zu a0 a1 a2 a3).1.Z3.length, .sref 48 7 0 (Zu a0 a1 a2 a3).1.ZI.length, .sref 48 8 0 (Zu a0 a1 a2 a3).1.YZ.length, .sref 48 9 0 (Zu a0 a1 a2 a3).1.Yl.length, .d (.int .i64 (Zu a0 a1 a2 a3).1.Next), .sref 48 11 0 (Zu a0 a1 a2 a3).1.Ym.length]) rfl rfl rfl rfl rfl rfl rfl (yZ (Zu a0 a1 a2 a3).1 1) (by simp) (by simp) (by simp) (by simp) (by simp) (by simp) (by simp) (by simp) (by simp) ?_
 simp
 refine cRs (yW (Ze (Zu a0 a1 a2 a3).1 1).1 1) ?_
 refine cFo f ?_ ?_ <;> intro k8 h7 f
 ·have q7 := h7; try simp at q7
  simp
  exact rt [.tmp 8] f
 have q7 := h7; try simp at q7
 simp
 refine cFo f ?_ ?_ <;> intro k9 h8 f
 ·have q8 := h8; try simp at q8
  simp
  exact rt [.tmp 8] f
 have q8 := h8; try simp at q8
 simp
 refine cRs (Y4.rd (Qo a0 (Zr (n := 1048576) (by decide) (by simp (maxDischargeDepth := 12) [u2, u0, YI, YA, Z4, Zz, Yq, Yd, YB, Yg, Yr, Yo, Ye, Y6, Yt, YS, YH, Yi, YR, YJ, Z9, Z5, Yf, YU, Yp, Yh, YT, YK, Yc])))) ?_
 refine cRs (Y4.rd (QI a2 (Zr (n := 1048576) (by decide) (by simp (maxDischargeDepth := 12) [u2, u0, YI, YA, Z4, Zz, Yq, Yd, YB, Yg, Yr, Yo, Ye, Y6, Yt, YS, YH, Yi, YR, YJ, Z9, Z5, Yf, YU, Yp, Yh, YT, YK, Yc])))) ?_
 refine cRs (Y4.rd (Wz a0 a1 a2 a3 (Zr (n := 1048576) (by decide) (by simp (maxDischargeDepth := 12) [u2, u0, YI, YA, Z4, Zz, Yq, Yd, YB, Yg, Yr, Yo, Ye, Y6, Yt, YS, YH, Yi, YR, YJ, Z9, Z5, Yf, YU, Yp, Yh, YT, YK, Yc])) (Zr (n := 1048576) (by decide) (by simp (maxDischargeDepth := 12) [u2, u0, YI, YA, Z4, Zz, Yq, Yd, YB, Yg, Yr, Yo, Ye, Y6, Yt, YS, YH, Yi, YR, YJ, Z9, Z5, Yf, YU, Yp, Yh, YT, YK, Yc])))) ?_
 refine cRs (JO (Zu a0 a1 a2 a3).1 (Xj a0 a1 a2 a3).1) ?_
 refine cFo f ?_ ?_ <;> intro k10 h9 f
 ·have q9 := h9; try simp at q9
  exact absurd (h3.symm.trans h9) (by decide)
 have q9 := h9; try simp at q9
 simp
 refine cRs (yW (Ze (Zu a0 a1 a2 a3).1 1).1 1) ?_
 refine cFo f ?_ ?_ <;> intro k11 h10 f
 ·have q10 := h10; try simp at q10
  exact absurd (h7.symm.trans h10) (by decide)
 have q10 := h10; try simp at q10
 simp
 refine cFo f ?_ ?_ <;> intro k12 h11 f
 ·have q11 := h11; try simp at q11
  exact absurd (h8.symm.trans h11) (by decide)
 have q11 := h11; try simp at q11
 simp
 exact rt [.tmp 8] f
end Go.Proofs.YtjflhdkeibijaaaGreat
