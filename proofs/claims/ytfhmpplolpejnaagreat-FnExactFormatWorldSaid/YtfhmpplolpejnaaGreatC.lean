/- Contracts of the functions ZEa the abstract machine, part 1. No condition. -/
import Derived.Test.YtfhmpplolpejnaaGreatCA1
import Derived.Test.YtfhmpplolpejnaaGreatCI1
import Derived.Test.YtfhmpplolpejnaaGreatCS1
namespace Go.Proofs.YtfhmpplolpejnaaGreat
open Go.Vm Go.Mo
set_option maxHeartbeats 1000000
set_option maxRecDepth 100000
set_option linter.unusedSimpArgs false
set_option linter.unusedVariables false
theorem ZEC (a0 : ZF) (a1 : Z3) (t0 : Sm maxLen a0) (t1 : Sm maxLen a1) : Sa 3 [a0.row, a1.row] [rB (zS a0 a1)] := by
 have f := me (zS.eq_1 a0 a1)
 refine so Tryz.func3 Tryz.ntmps3 ?_
 refine cRs (ZED a0 1048576) ?_
 refine cFo f (fun k1 h1 f => ?_) (fun k1 h1 f => ?_)
 ·have q1 := h1; try simp at q1
  simp
  exact rt [.tmp 4] f
 have q1 := h1; try simp at q1
 obtain ⟨u0, y0⟩ := ZET a0 1048576 t0 (by omega) (by omega) (by simpa using h1)
 simp
 refine cRs (ZI4 a1 (Zx a0 1048576)) ?_
 refine cFo f (fun k2 h2 f => ?_) (fun k2 h2 f => ?_)
 ·have q2 := h2; try simp at q2
  simp
  exact rt [.tmp 4] f
 have q2 := h2; try simp at q2
 obtain ⟨u1, y1⟩ := ZI6 a1 (Zx a0 1048576) t1 (by omega) (by omega) (by simpa using h2)
 simp
 refine dIs mixed ?_
 refine cRs (Yb.rd (zF a0 (ZX (n := 1048576) (by decide) (by simp (maxDischargeDepth := 12) [u0, u1, Zf, Zd, Zk, Z7, YJ, YL, YV, YK, Zp, Zn, Z6, Zq, Zo, Zj, Ze, Z8, Zr, YI, Z4, Zs, Zm])))) ?_
 refine cRs (Yb.rd (ZBF a1 (ZX (n := 1048576) (by decide) (by simp (maxDischargeDepth := 12) [u0, u1, Zf, Zd, Zk, Z7, YJ, YL, YV, YK, Zp, Zn, Z6, Zq, Zo, Zj, Ze, Z8, Zr, YI, Z4, Zs, Zm])))) ?_
 refine cRs (ZAs a0 a1 (ZX (n := 1048576) (by decide) (by simp (maxDischargeDepth := 12) [u0, u1, Zf, Zd, Zk, Z7, YJ, YL, YV, YK, Zp, Zn, Z6, Zq, Zo, Zj, Ze, Z8, Zr, YI, Z4, Zs, Zm])) (ZX (n := 1048576) (by decide) (by simp (maxDischargeDepth := 12) [u0, u1, Zf, Zd, Zk, Z7, YJ, YL, YV, YK, Zp, Zn, Z6, Zq, Zo, Zj, Ze, Z8, Zr, YI, Z4, Zs, Zm]))) ?_
 refine cRs (Yb.rd (zF a0 (ZX (n := 1048576) (by decide) (by simp (maxDischargeDepth := 12) [u0, u1, Zf, Zd, Zk, Z7, YJ, YL, YV, YK, Zp, Zn, Z6, Zq, Zo, Zj, Ze, Z8, Zr, YI, Z4, Zs, Zm])))) ?_
 refine cRs (Yb.rd (ZBF a1 (ZX (n := 1048576) (by decide) (by simp (maxDischargeDepth := 12) [u0, u1, Zf, Zd, Zk, Z7, YJ, YL, YV, YK, Zp, Zn, Z6, Zq, Zo, Zj, Ze, Z8, Zr, YI, Z4, Zs, Zm])))) ?_
 refine cRs (ZEs a0 a1 (ZX (n := 1048576) (by decide) (by simp (maxDischargeDepth := 12) [u0, u1, Zf, Zd, Zk, Z7, YJ, YL, YV, YK, Zp, Zn, Z6, Zq, Zo, Zj, Ze, Z8, Zr, YI, Z4, Zs, Zm])) (ZX (n := 1048576) (by decide) (by simp (maxDischargeDepth := 12) [u0, u1, Zf, Zd, Zk, Z7, YJ, YL, YV, YK, Zp, Zn, Z6, Zq, Zo, Zj, Ze, Z8, Zr, YI, Z4, Zs, Zm]))) ?_
 refine cFo f (fun k4 h3 f => ?_) (fun k4 h3 f => ?_)
 ·have q3 := h3; try simp at q3
  simp
  exact rt [.tmp 4] f
 have q3 := h3; try simp at q3
 simp
 refine dIs mixed ?_
 refine cRs (Yb.rd (zF a0 (ZX (n := 1048576) (by decide) (by simp (maxDischargeDepth := 12) [u0, u1, Zf, Zd, Zk, Z7, YJ, YL, YV, YK, Zp, Zn, Z6, Zq, Zo, Zj, Ze, Z8, Zr, YI, Z4, Zs, Zm])))) ?_
 refine cRs (ZEh a0 a0) ?_
 refine cFo f (fun k6 h4 f => ?_) (fun k6 h4 f => ?_)
 ·have q4 := h4; try simp at q4
  simp
  exact rt [.tmp 4] f
 have q4 := h4; try simp at q4
 simp
 refine dIs mixed ?_
 refine cRs (Yb.rd (ZBF a1 (ZX (n := 1048576) (by decide) (by simp (maxDischargeDepth := 12) [u0, u1, Zf, Zd, Zk, Z7, YJ, YL, YV, YK, Zp, Zn, Z6, Zq, Zo, Zj, Ze, Z8, Zr, YI, Z4, Zs, Zm])))) ?_
 refine cRs (ZJT a1 a1) ?_
 refine cFo f (fun k8 h5 f => ?_) (fun k8 h5 f => ?_)
 ·have q5 := h5; try simp at q5
  simp
  exact rt [.tmp 4] f
 have q5 := h5; try simp at q5
 simp
 exact rt [.tmp 4] f
theorem ZCG (a0 : ZF) (a1 : Zc) (t0 : Sm maxLen a0) (t1 : Sm maxLen a1) : Sa 4 [a0.row, a1.row] [rB (Jv a0 a1)] := by
 have f := me (Jv.eq_1 a0 a1)
 refine so Tryz.func4 Tryz.ntmps4 ?_
 refine cRs (ZED a0 1048576) ?_
 refine cFo f (fun k1 h1 f => ?_) (fun k1 h1 f => ?_)
 ·have q1 := h1; try simp at q1
  simp
  exact rt [.tmp 4] f
 have q1 := h1; try simp at q1
 obtain ⟨u0, y0⟩ := ZET a0 1048576 t0 (by omega) (by omega) (by simpa using h1)
 simp
 refine cRs (ZFD a1 (Zx a0 1048576)) ?_
 refine cFo f (fun k2 h2 f => ?_) (fun k2 h2 f => ?_)
 ·have q2 := h2; try simp at q2
  simp
  exact rt [.tmp 4] f
 have q2 := h2; try simp at q2
 obtain ⟨u1, y1⟩ := ZFp a1 (Zx a0 1048576) t1 (by omega) (by omega) (by simpa using h2)
 simp
 refine dIs mixed ?_
 refine cRs (Yb.rd (zF a0 (ZX (n := 1048576) (by decide) (by simp (maxDischargeDepth := 12) [u0, u1, YF, Zf, Zd, Zk, Z7, YJ, YL, YY, YV, YK, Zp, Zn, Z6, Zq, Zo, Zj, Ze, Z8, Zr, YI, Z4, Zs, Zm])))) ?_
 refine cRs (Yb.rd (qx a1 (ZX (n := 1048576) (by decide) (by simp (maxDischargeDepth := 12) [u0, u1, YF, Zf, Zd, Zk, Z7, YJ, YL, YY, YV, YK, Zp, Zn, Z6, Zq, Zo, Zj, Ze, Z8, Zr, YI, Z4, Zs, Zm])))) ?_
 refine cRs (ZGl a0 a1 (by simp (maxDischargeDepth := 12) [u0, u1, YF, Zf, Zd, Zk, Z7, YJ, YL, YY, YV, YK, Zp, Zn, Z6, Zq, Zo, Zj, Ze, Z8, Zr, YI, Z4, Zs, Zm]) (by simp (maxDischargeDepth := 12) [u0, u1, YF, Zf, Zd, Zk, Z7, YJ, YL, YY, YV, YK, Zp, Zn, Z6, Zq, Zo, Zj, Ze, Z8, Zr, YI, Z4, Zs, Zm])) ?_
 refine cRs (Yb.rd (zF a0 (ZX (n := 1048576) (by decide) (by simp (maxDischargeDepth := 12) [u0, u1, YF, Zf, Zd, Zk, Z7, YJ, YL, YY, YV, YK, Zp, Zn, Z6, Zq, Zo, Zj, Ze, Z8, Zr, YI, Z4, Zs, Zm])))) ?_
 refine cRs (Yb.rd (qx a1 (ZX (n := 1048576) (by decide) (by simp (maxDischargeDepth := 12) [u0, u1, YF, Zf, Zd, Zk, Z7, YJ, YL, YY, YV, YK, Zp, Zn, Z6, Zq, Zo, Zj, Ze, Z8, Zr, YI, Z4, Zs, Zm])))) ?_
 refine cRs (ZGd a0 a1 (by simp (maxDischargeDepth := 12) [u0, u1, YF, Zf, Zd, Zk, Z7, YJ, YL, YY, YV, YK, Zp, Zn, Z6, Zq, Zo, Zj, Ze, Z8, Zr, YI, Z4, Zs, Zm]) (by simp (maxDischargeDepth := 12) [u0, u1, YF, Zf, Zd, Zk, Z7, YJ, YL, YY, YV, YK, Zp, Zn, Z6, Zq, Zo, Zj, Ze, Z8, Zr, YI, Z4, Zs, Zm])) ?_
 refine cFo f (fun k4 h3 f => ?_) (fun k4 h3 f => ?_)
 ·have q3 := h3; try simp at q3
  simp
  exact rt [.tmp 4] f
 have q3 := h3; try simp at q3
 simp
 refine dIs mixed ?_
 refine cRs (Yb.rd (zF a0 (ZX (n := 1048576) (by decide) (by simp (maxDischargeDepth := 12) [u0, u1, YF, Zf, Zd, Zk, Z7, YJ, YL, YY, YV, YK, Zp, Zn, Z6, Zq, Zo, Zj, Ze, Z8, Zr, YI, Z4, Zs, Zm])))) ?_
 refine cRs (ZEh a0 a0) ?_
 refine cFo f (fun k6 h4 f => ?_) (fun k6 h4 f => ?_)
 ·have q4 := h4; try simp at q4
  simp
  exact rt [.tmp 4] f
 have q4 := h4; try simp at q4
 simp
 refine dIs mixed ?_
 refine cRs (Yb.rd (qx a1 (ZX (n := 1048576) (by decide) (by simp (maxDischargeDepth := 12) [u0, u1, YF, Zf, Zd, Zk, Z7, YJ, YL, YY, YV, YK, Zp, Zn, Z6, Zq, Zo, Zj, Ze, Z8, Zr, YI, Z4, Zs, Zm])))) ?_
 refine cRs (ZFm a1 a1) ?_
 refine cFo f (fun k8 h5 f => ?_) (fun k8 h5 f => ?_)
 ·have q5 := h5; try simp at q5
  simp
  exact rt [.tmp 4] f
 have q5 := h5; try simp at q5
 simp
 exact rt [.tmp 4] f
theorem ZDi (a0 : YD) (a1 : Int) (t0 : Sm maxLen a0) : Sa 5 [a0.row, rI a1] [rB (zA a0 a1)] := by
 have f := me (zA.eq_1 a0 a1)
 refine so Tryz.func5 Tryz.ntmps5 ?_
 refine cRs (ZEE a0 1048576) ?_
 refine cFo f (fun k1 h1 f => ?_) (fun k1 h1 f => ?_)
 ·have q1 := h1; try simp at q1
  simp
  exact rt [.tmp 4] f
 have q1 := h1; try simp at q1
 obtain ⟨u0, y0⟩ := ZDx a0 1048576 t0 (by omega) (by omega) (by simpa using h1)
 simp
 refine cRs (Yb.rd (JI a0 (ZX (n := 1048576) (by decide) (by simp (maxDischargeDepth := 12) [u0, YF, Yk, Zf, Zd, XO, XD, Zk, Z7, YJ, YL, YY, YV, YK, Zp, Zn, Z6, Zq, Zo, Zj, Ze, Z8, Zr, YI, Z4, Zs, Zm, XE])))) ?_
 refine cRs (ZDV a0 a1 (by simp (maxDischargeDepth := 12) [u0, YF, Yk, Zf, Zd, XO, XD, Zk, Z7, YJ, YL, YY, YV, YK, Zp, Zn, Z6, Zq, Zo, Zj, Ze, Z8, Zr, YI, Z4, Zs, Zm, XE])) ?_
 refine cRs (Yb.rd (JI a0 (ZX (n := 1048576) (by decide) (by simp (maxDischargeDepth := 12) [u0, YF, Yk, Zf, Zd, XO, XD, Zk, Z7, YJ, YL, YY, YV, YK, Zp, Zn, Z6, Zq, Zo, Zj, Ze, Z8, Zr, YI, Z4, Zs, Zm, XE])))) ?_
 refine cRs (ZDD a0 a1 (by simp (maxDischargeDepth := 12) [u0, YF, Yk, Zf, Zd, XO, XD, Zk, Z7, YJ, YL, YY, YV, YK, Zp, Zn, Z6, Zq, Zo, Zj, Ze, Z8, Zr, YI, Z4, Zs, Zm, XE])) ?_
 refine cRs (ZLG (zP a0 a1) (zN a0 a1)) ?_
 refine cFo f (fun k2 h2 f => ?_) (fun k2 h2 f => ?_)
 ·have q2 := h2; try simp at q2
  simp
  exact rt [.tmp 4] f
 have q2 := h2; try simp at q2
 simp
 refine dIs mixed ?_
 refine cRs (Yb.rd (JI a0 (ZX (n := 1048576) (by decide) (by simp (maxDischargeDepth := 12) [u0, YF, Yk, Zf, Zd, XO, XD, Zk, Z7, YJ, YL, YY, YV, YK, Zp, Zn, Z6, Zq, Zo, Zj, Ze, Z8, Zr, YI, Z4, Zs, Zm, XE])))) ?_
 refine cRs (ZEB a0 a0) ?_
 refine cFo f (fun k4 h3 f => ?_) (fun k4 h3 f => ?_)
 ·have q3 := h3; try simp at q3
  simp
  exact rt [.tmp 4] f
 have q3 := h3; try simp at q3
 simp
 exact rt [.tmp 4] f
theorem ZCI (a0 : YD) (a1 : Int) (t0 : Sm maxLen a0) : Sa 6 [a0.row, rI a1] [rB (Jy a0 a1)] := by
 have f := me (Jy.eq_1 a0 a1)
 refine so Tryz.func6 Tryz.ntmps6 ?_
 refine cRs (ZEE a0 1048576) ?_
 refine cFo f (fun k1 h1 f => ?_) (fun k1 h1 f => ?_)
 ·have q1 := h1; try simp at q1
  simp
  exact rt [.tmp 4] f
 have q1 := h1; try simp at q1
 obtain ⟨u0, y0⟩ := ZDx a0 1048576 t0 (by omega) (by omega) (by simpa using h1)
 simp
 refine cRs (Yb.rd (JI a0 (ZX (n := 1048576) (by decide) (by simp (maxDischargeDepth := 12) [u0, YF, Yk, Zf, Zd, XO, XD, Zk, Z7, YJ, YL, YY, YV, YK, Zp, Zn, Z6, Zq, Zo, Zj, Ze, Z8, Zr, YI, Z4, Zs, Zm, XE])))) ?_
 refine cRs (ye a0 a1 (by simp (maxDischargeDepth := 12) [u0, YF, Yk, Zf, Zd, XO, XD, Zk, Z7, YJ, YL, YY, YV, YK, Zp, Zn, Z6, Zq, Zo, Zj, Ze, Z8, Zr, YI, Z4, Zs, Zm, XE]) (by (have z2 : ¬ Qx a0 1048576 < 0 := (by simpa using h1); first | exact ZAM t0 (by omega) (by omega) z2 | (have z := (ZBC a0 1048576 t0 (by omega) (by omega) z2).1; omega)))) ?_
 refine cRs (Yb.rd (JI a0 (ZX (n := 1048576) (by decide) (by simp (maxDischargeDepth := 12) [u0, YF, Yk, Zf, Zd, XO, XD, Zk, Z7, YJ, YL, YY, YV, YK, Zp, Zn, Z6, Zq, Zo, Zj, Ze, Z8, Zr, YI, Z4, Zs, Zm, XE])))) ?_
 refine cRs (ZBv a0 a1 (by simp (maxDischargeDepth := 12) [u0, YF, Yk, Zf, Zd, XO, XD, Zk, Z7, YJ, YL, YY, YV, YK, Zp, Zn, Z6, Zq, Zo, Zj, Ze, Z8, Zr, YI, Z4, Zs, Zm, XE]) (by (have z2 : ¬ Qx a0 1048576 < 0 := (by simpa using h1); first | exact ZAM t0 (by omega) (by omega) z2 | (have z := (ZBC a0 1048576 t0 (by omega) (by omega) z2).1; omega)))) ?_
 refine cFo f (fun k2 h2 f => ?_) (fun k2 h2 f => ?_)
 ·have q2 := h2; try simp at q2
  simp
  exact rt [.tmp 4] f
 have q2 := h2; try simp at q2
 simp
 refine dIs mixed ?_
 refine cRs (Yb.rd (JI a0 (ZX (n := 1048576) (by decide) (by simp (maxDischargeDepth := 12) [u0, YF, Yk, Zf, Zd, XO, XD, Zk, Z7, YJ, YL, YY, YV, YK, Zp, Zn, Z6, Zq, Zo, Zj, Ze, Z8, Zr, YI, Z4, Zs, Zm, XE])))) ?_
 refine cRs (ZEB a0 a0) ?_
 refine cFo f (fun k4 h3 f => ?_) (fun k4 h3 f => ?_)
 ·have q3 := h3; try simp at q3
  simp
  exact rt [.tmp 4] f
 have q3 := h3; try simp at q3
 simp
 exact rt [.tmp 4] f
theorem ZDZ (a0 : YD) (t0 : Sm maxLen a0) : Sa 7 [a0.row] [rB (Kq a0)] := by
 have f := me (Kq.eq_1 a0)
 refine so Tryz.func7 Tryz.ntmps7 ?_
 refine cRs (ZEE a0 1048576) ?_
 refine cFo f (fun k1 h1 f => ?_) (fun k1 h1 f => ?_)
 ·have q1 := h1; try simp at q1
  simp
  exact rt [.tmp 2] f
 have q1 := h1; try simp at q1
 obtain ⟨u0, y0⟩ := ZDx a0 1048576 t0 (by omega) (by omega) (by simpa using h1)
 simp
 refine cRs (Yb.rd (JI a0 (ZX (n := 1048576) (by decide) (by simp (maxDischargeDepth := 12) [u0, YF, Yk, Zf, Zd, XO, XD, Zk, Z7, YJ, YL, YY, YV, YK, Zp, Zn, Z6, Zq, Zo, Zj, Ze, Z8, Zr, YI, Z4, Zs, Zm, XE])))) ?_
 refine cRs (ZIM a0 (by simp (maxDischargeDepth := 12) [u0, YF, Yk, Zf, Zd, XO, XD, Zk, Z7, YJ, YL, YY, YV, YK, Zp, Zn, Z6, Zq, Zo, Zj, Ze, Z8, Zr, YI, Z4, Zs, Zm, XE]) (by (have z2 : ¬ Qx a0 1048576 < 0 := (by simpa using h1); first | exact ZAM t0 (by omega) (by omega) z2 | (have z := (ZBC a0 1048576 t0 (by omega) (by omega) z2).1; omega)))) ?_
 refine cRs (Yb.rd (JI a0 (ZX (n := 1048576) (by decide) (by simp (maxDischargeDepth := 12) [u0, YF, Yk, Zf, Zd, XO, XD, Zk, Z7, YJ, YL, YY, YV, YK, Zp, Zn, Z6, Zq, Zo, Zj, Ze, Z8, Zr, YI, Z4, Zs, Zm, XE])))) ?_
 refine cRs (ZIk a0 (by simp (maxDischargeDepth := 12) [u0, YF, Yk, Zf, Zd, XO, XD, Zk, Z7, YJ, YL, YY, YV, YK, Zp, Zn, Z6, Zq, Zo, Zj, Ze, Z8, Zr, YI, Z4, Zs, Zm, XE]) (by (have z2 : ¬ Qx a0 1048576 < 0 := (by simpa using h1); first | exact ZAM t0 (by omega) (by omega) z2 | (have z := (ZBC a0 1048576 t0 (by omega) (by omega) z2).1; omega)))) ?_
 refine cFo f (fun k2 h2 f => ?_) (fun k2 h2 f => ?_)
 ·have q2 := h2; try simp at q2
  simp
  exact rt [.tmp 2] f
 have q2 := h2; try simp at q2
 simp
 refine dIs mixed ?_
 refine cRs (Yb.rd (JI a0 (ZX (n := 1048576) (by decide) (by simp (maxDischargeDepth := 12) [u0, YF, Yk, Zf, Zd, XO, XD, Zk, Z7, YJ, YL, YY, YV, YK, Zp, Zn, Z6, Zq, Zo, Zj, Ze, Z8, Zr, YI, Z4, Zs, Zm, XE])))) ?_
 refine cRs (ZEB a0 a0) ?_
 refine cFo f (fun k4 h3 f => ?_) (fun k4 h3 f => ?_)
 ·have q3 := h3; try simp at q3
  simp
  exact rt [.tmp 2] f
 have q3 := h3; try simp at q3
 simp
 exact rt [.tmp 2] f
end Go.Proofs.YtfhmpplolpejnaaGreat
