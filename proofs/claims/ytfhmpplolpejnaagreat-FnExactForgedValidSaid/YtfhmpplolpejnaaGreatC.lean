/- Contracts of the functions LG the abstract machine, part 1. No condition. -/
import Derived.Test.YtfhmpplolpejnaaGreatCA1
import Derived.Test.YtfhmpplolpejnaaGreatCI1
import Derived.Test.YtfhmpplolpejnaaGreatCS1
namespace Go.Proofs.YtfhmpplolpejnaaGreat
open Go.Vm Go.Mo
set_option maxHeartbeats 1000000
set_option maxRecDepth 100000
set_option linter.unusedSimpArgs false
set_option linter.unusedVariables false
theorem SX (a0 : Zo) (t0 : Sm maxLen a0) : Sa 8 [a0.row] [rB (ze a0)] := by
 have f := me (ze.eq_1 a0)
 refine so Tryz.func8 Tryz.ntmps8 ?_
 refine cRs (NR a0 1048576) ?_
 refine cFo f ?_ ?_ <;> intro k1 h1 f
 ·have q1 := h1; try simp at q1
  simp
  exact rt [.tmp 2] f
 have q1 := h1; try simp at q1
 obtain ⟨u0, y0⟩ := VL a0 1048576 t0 (by omega) (by omega) (by simpa using h1)
 simp
 refine cRs (Ym.rd (KP a0 (Zi (n := 1048576) (by decide) (by simp (maxDischargeDepth := 12) [u0, XL, XD, Y6, Y1, X7, Xq, XE, Xm, QC, X8, Xt, Qj, QE, Xb, XM, Xo, Xa, XO, XC, Y5, Xp, Xc, QA, Xr, XZ, XN, Xn])))) ?_
 refine cRs (Ym.rd (RO a0 (by simp (maxDischargeDepth := 12) [u0, XL, XD, Y6, Y1, X7, Xq, XE, Xm, QC, X8, Xt, Qj, QE, Xb, XM, Xo, Xa, XO, XC, Y5, Xp, Xc, QA, Xr, XZ, XN, Xn]) (by (have z2 : ¬ QX a0 1048576 < 0 := (by simpa using h1); first | exact yw t0 (by omega) (by omega) z2 | (have z := (zH a0 1048576 t0 (by omega) (by omega) z2).1; omega))))) ?_
 refine cDs [] (KP a0 (Zi (n := 1048576) (by decide) (by simp (maxDischargeDepth := 12) [u0, XL, XD, Y6, Y1, X7, Xq, XE, Xm, QC, X8, Xt, Qj, QE, Xb, XM, Xo, Xa, XO, XC, Y5, Xp, Xc, QA, Xr, XZ, XN, Xn]))) ?_
 refine cDs [] (W6 a0 (by simp (maxDischargeDepth := 12) [u0, XL, XD, Y6, Y1, X7, Xq, XE, Xm, QC, X8, Xt, Qj, QE, Xb, XM, Xo, Xa, XO, XC, Y5, Xp, Xc, QA, Xr, XZ, XN, Xn]) (by (have z2 : ¬ QX a0 1048576 < 0 := (by simpa using h1); first | exact yw t0 (by omega) (by omega) z2 | (have z := (zH a0 1048576 t0 (by omega) (by omega) z2).1; omega)))) ?_
 refine cRs (JF (Zz a0) (Y2 a0)) ?_
 refine cFo f ?_ ?_ <;> intro k2 h2 f
 ·have q2 := h2; try simp at q2
  simp
  exact rt [.tmp 2] f
 have q2 := h2; try simp at q2
 simp
 refine dIs mixed ?_
 refine cRs (Ym.rd (KP a0 (Zi (n := 1048576) (by decide) (by simp (maxDischargeDepth := 12) [u0, XL, XD, Y6, Y1, X7, Xq, XE, Xm, QC, X8, Xt, Qj, QE, Xb, XM, Xo, Xa, XO, XC, Y5, Xp, Xc, QA, Xr, XZ, XN, Xn])))) ?_
 refine cRs (Ny a0 a0) ?_
 refine cFo f ?_ ?_ <;> intro k4 h3 f
 ·have q3 := h3; try simp at q3
  simp
  exact rt [.tmp 2] f
 have q3 := h3; try simp at q3
 simp
 refine kB (ats := [.sref 20 0 0 a0.Frame.YY.length, .sref 20 1 0 a0.Frame.ZN.length, .sref 20 2 0 a0.Frame.Methods.length, .d (.int .i64 a0.Frame.QR), .d (.int .i64 a0.Frame.Now), .sref 20 5 0 a0.Yg.length, .sref 20 6 0 a0.YW.length, .sref 20 7 0 a0.ZJ.length, .sref 20 8 0 a0.J8.length, .sref 20 9 0 a0.Q6.length, .d (.int .i64 a0.Next), .sref 20 11 0 a0.QP.length]) rfl rfl rfl rfl rfl rfl rfl (PZ a0 1) (by simp) (by simp) (by simp) (by simp) (by simp) (by simp) (by simp) (by simp) (by simp) ?_
 simp
 refine cGs (fun gg => (JF (Zz a0) (Y2 a0))) ?_
 refine cFo f ?_ ?_ <;> intro k5 h4 f
 ·have q4 := h4; try simp at q4
  simp
  exact rt [.tmp 2] f
 have q4 := h4; try simp at q4
 simp
 refine kB (ats := [.sref 22 0 0 (Zz a0).length]) rfl rfl rfl rfl rfl rfl rfl (KM (Zz a0) 1) (by simp) (by simp) (by simp) (by simp) (by simp) (by simp) (by simp) (by simp) (by simp) ?_
 simp
 refine cRs (ks (ZC (Zz a0) 1).1 1) ?_
 refine cFo f ?_ ?_ <;> intro k6 h5 f
 ·have q5 := h5; try simp at q5
  simp
  exact rt [.tmp 2] f
 have q5 := h5; try simp at q5
 simp
 refine cFo f ?_ ?_ <;> intro k7 h6 f
 ·have q6 := h6; try simp at q6
  simp
  exact rt [.tmp 2] f
 have q6 := h6; try simp at q6
 simp
 refine cRs (Ym.rd (KP a0 (Zi (n := 1048576) (by decide) (by simp (maxDischargeDepth := 12) [u0, XL, XD, Y6, Y1, X7, Xq, XE, Xm, QC, X8, Xt, Qj, QE, Xb, XM, Xo, Xa, XO, XC, Y5, Xp, Xc, QA, Xr, XZ, XN, Xn])))) ?_
 refine cRs (Ym.rd (W6 a0 (by simp (maxDischargeDepth := 12) [u0, XL, XD, Y6, Y1, X7, Xq, XE, Xm, QC, X8, Xt, Qj, QE, Xb, XM, Xo, Xa, XO, XC, Y5, Xp, Xc, QA, Xr, XZ, XN, Xn]) (by (have z2 : ¬ QX a0 1048576 < 0 := (by simpa using h1); first | exact yw t0 (by omega) (by omega) z2 | (have z := (zH a0 1048576 t0 (by omega) (by omega) z2).1; omega))))) ?_
 refine cRs (JF (Zz a0) (Y2 a0)) ?_
 refine cFo f ?_ ?_ <;> intro k8 h7 f
 ·have q7 := h7; try simp at q7
  exact absurd (h2.symm.trans h7) (by decide)
 have q7 := h7; try simp at q7
 simp
 refine cRs (ks (ZC (Zz a0) 1).1 1) ?_
 refine cFo f ?_ ?_ <;> intro k9 h8 f
 ·have q8 := h8; try simp at q8
  exact absurd (h5.symm.trans h8) (by decide)
 have q8 := h8; try simp at q8
 simp
 refine cFo f ?_ ?_ <;> intro k10 h9 f
 ·have q9 := h9; try simp at q9
  exact absurd (h6.symm.trans h9) (by decide)
 have q9 := h9; try simp at q9
 simp
 exact rt [.tmp 2] f
theorem Tv (a0 : Zo) (t0 : Sm maxLen a0) : Sa 10 [a0.row] [rB (K0 a0)] := by
 have f := me (K0.eq_1 a0)
 refine so Tryz.func10 Tryz.ntmps10 ?_
 refine cRs (NR a0 1048576) ?_
 refine cFo f ?_ ?_ <;> intro k1 h1 f
 ·have q1 := h1; try simp at q1
  simp
  exact rt [.tmp 2] f
 have q1 := h1; try simp at q1
 obtain ⟨u0, y0⟩ := VL a0 1048576 t0 (by omega) (by omega) (by simpa using h1)
 simp
 refine cRs (Ym.rd (KP a0 (Zi (n := 1048576) (by decide) (by simp (maxDischargeDepth := 12) [u0, XL, XD, Y6, Y1, X7, Xq, XE, Xm, QC, X8, Xt, Qj, QE, Xb, XM, Xo, Xa, XO, XC, Y5, Xp, Xc, QA, Xr, XZ, XN, Xn])))) ?_
 refine cRs (Ym.rd (M1 a0 (by simp (maxDischargeDepth := 12) [u0, XL, XD, Y6, Y1, X7, Xq, XE, Xm, QC, X8, Xt, Qj, QE, Xb, XM, Xo, Xa, XO, XC, Y5, Xp, Xc, QA, Xr, XZ, XN, Xn]) (by (have z2 : ¬ QX a0 1048576 < 0 := (by simpa using h1); first | exact yw t0 (by omega) (by omega) z2 | (have z := (zH a0 1048576 t0 (by omega) (by omega) z2).1; omega))))) ?_
 refine cDs [] (KP a0 (Zi (n := 1048576) (by decide) (by simp (maxDischargeDepth := 12) [u0, XL, XD, Y6, Y1, X7, Xq, XE, Xm, QC, X8, Xt, Qj, QE, Xb, XM, Xo, Xa, XO, XC, Y5, Xp, Xc, QA, Xr, XZ, XN, Xn]))) ?_
 refine cDs [] (T1 a0 (by simp (maxDischargeDepth := 12) [u0, XL, XD, Y6, Y1, X7, Xq, XE, Xm, QC, X8, Xt, Qj, QE, Xb, XM, Xo, Xa, XO, XC, Y5, Xp, Xc, QA, Xr, XZ, XN, Xn]) (by (have z2 : ¬ QX a0 1048576 < 0 := (by simpa using h1); first | exact yw t0 (by omega) (by omega) z2 | (have z := (zH a0 1048576 t0 (by omega) (by omega) z2).1; omega)))) ?_
 refine cRs (JF (YU a0) (Qt a0)) ?_
 refine cFo f ?_ ?_ <;> intro k2 h2 f
 ·have q2 := h2; try simp at q2
  simp
  exact rt [.tmp 2] f
 have q2 := h2; try simp at q2
 simp
 refine dIs mixed ?_
 refine cRs (Ym.rd (KP a0 (Zi (n := 1048576) (by decide) (by simp (maxDischargeDepth := 12) [u0, XL, XD, Y6, Y1, X7, Xq, XE, Xm, QC, X8, Xt, Qj, QE, Xb, XM, Xo, Xa, XO, XC, Y5, Xp, Xc, QA, Xr, XZ, XN, Xn])))) ?_
 refine cRs (Ny a0 a0) ?_
 refine cFo f ?_ ?_ <;> intro k4 h3 f
 ·have q3 := h3; try simp at q3
  simp
  exact rt [.tmp 2] f
 have q3 := h3; try simp at q3
 simp
 refine kB (ats := [.sref 20 0 0 a0.Frame.YY.length, .sref 20 1 0 a0.Frame.ZN.length, .sref 20 2 0 a0.Frame.Methods.length, .d (.int .i64 a0.Frame.QR), .d (.int .i64 a0.Frame.Now), .sref 20 5 0 a0.Yg.length, .sref 20 6 0 a0.YW.length, .sref 20 7 0 a0.ZJ.length, .sref 20 8 0 a0.J8.length, .sref 20 9 0 a0.Q6.length, .d (.int .i64 a0.Next), .sref 20 11 0 a0.QP.length]) rfl rfl rfl rfl rfl rfl rfl (PZ a0 1) (by simp) (by simp) (by simp) (by simp) (by simp) (by simp) (by simp) (by simp) (by simp) ?_
 simp
 refine cGs (fun gg => (JF (YU a0) (Qt a0))) ?_
 refine cFo f ?_ ?_ <;> intro k5 h4 f
 ·have q4 := h4; try simp at q4
  simp
  exact rt [.tmp 2] f
 have q4 := h4; try simp at q4
 simp
 refine kB (ats := [.sref 22 0 0 (YU a0).length]) rfl rfl rfl rfl rfl rfl rfl (KM (YU a0) 1) (by simp) (by simp) (by simp) (by simp) (by simp) (by simp) (by simp) (by simp) (by simp) ?_
 simp
 refine cRs (ks (ZC (YU a0) 1).1 1) ?_
 refine cFo f ?_ ?_ <;> intro k6 h5 f
 ·have q5 := h5; try simp at q5
  simp
  exact rt [.tmp 2] f
 have q5 := h5; try simp at q5
 simp
 refine cFo f ?_ ?_ <;> intro k7 h6 f
 ·have q6 := h6; try simp at q6
  simp
  exact rt [.tmp 2] f
 have q6 := h6; try simp at q6
 simp
 refine cRs (Ym.rd (KP a0 (Zi (n := 1048576) (by decide) (by simp (maxDischargeDepth := 12) [u0, XL, XD, Y6, Y1, X7, Xq, XE, Xm, QC, X8, Xt, Qj, QE, Xb, XM, Xo, Xa, XO, XC, Y5, Xp, Xc, QA, Xr, XZ, XN, Xn])))) ?_
 refine cRs (Ym.rd (T1 a0 (by simp (maxDischargeDepth := 12) [u0, XL, XD, Y6, Y1, X7, Xq, XE, Xm, QC, X8, Xt, Qj, QE, Xb, XM, Xo, Xa, XO, XC, Y5, Xp, Xc, QA, Xr, XZ, XN, Xn]) (by (have z2 : ¬ QX a0 1048576 < 0 := (by simpa using h1); first | exact yw t0 (by omega) (by omega) z2 | (have z := (zH a0 1048576 t0 (by omega) (by omega) z2).1; omega))))) ?_
 refine cRs (JF (YU a0) (Qt a0)) ?_
 refine cFo f ?_ ?_ <;> intro k8 h7 f
 ·have q7 := h7; try simp at q7
  exact absurd (h2.symm.trans h7) (by decide)
 have q7 := h7; try simp at q7
 simp
 refine cRs (ks (ZC (YU a0) 1).1 1) ?_
 refine cFo f ?_ ?_ <;> intro k9 h8 f
 ·have q8 := h8; try simp at q8
  exact absurd (h5.symm.trans h8) (by decide)
 have q8 := h8; try simp at q8
 simp
 refine cFo f ?_ ?_ <;> intro k10 h9 f
 ·have q9 := h9; try simp at q9
  exact absurd (h6.symm.trans h9) (by decide)
 have q9 := h9; try simp at q9
 simp
 exact rt [.tmp 2] f
end Go.Proofs.YtfhmpplolpejnaaGreat
