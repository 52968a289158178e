/- Contracts of the functions Hz the abstract machine, part 1. No condition. -/
import Derived.Test.YtfhmpplolpejnaaGreatCA1
import Derived.Test.YtfhmpplolpejnaaGreatCI1
import Derived.Test.YtfhmpplolpejnaaGreatCS1
namespace Go.Proofs.YtfhmpplolpejnaaGreat
open Go.Vm Go.Mo
set_option maxHeartbeats 1000000
set_option maxRecDepth 100000
set_option linter.unusedSimpArgs false
set_option linter.unusedVariables false
theorem PR (a0 : Zi) (t0 : Sm maxLen a0) : Sa 9 [a0.row] [rB (xB a0)] := by
 have f := me (xB.eq_1 a0)
 refine so Tryz.func9 Tryz.ntmps9 ?_
 refine cRs (DL a0 1048576) ?_
 refine cFo f ?_ ?_ <;> intro k1 h1 f
 ·have q1 := h1; try simp at q1
  simp
  exact rt [.tmp 2] f
 have q1 := h1; try simp at q1
 obtain ⟨u0, y0⟩ := Dp a0 1048576 t0 (by omega) (by omega) (by simpa using h1)
 simp
 refine cRs (YZ.rd (Ua a0 (Za (n := 1048576) (by decide) (by simp (maxDischargeDepth := 12) [u0, Ji, JC, QV, QC, yT, zo, Qz, zg, yI, yx, z5, qG, yb, Kd, Jd, zk, Kh, Jj, Qy, QU, zx, KV, yq, zl, Ka, Jm, ze])))) ?_
 refine cRs (Ep a0 (by simp (maxDischargeDepth := 12) [u0, Ji, JC, QV, QC, yT, zo, Qz, zg, yI, yx, z5, qG, yb, Kd, Jd, zk, Kh, Jj, Qy, QU, zx, KV, yq, zl, Ka, Jm, ze]) (by (have z2 : ¬ zC a0 1048576 < 0 := (by simpa using h1); first | exact Pk t0 (by omega) (by omega) z2 | (have z := (P8 a0 1048576 t0 (by omega) (by omega) z2).1; omega)))) ?_
 refine cRs (YZ.rd (Ua a0 (Za (n := 1048576) (by decide) (by simp (maxDischargeDepth := 12) [u0, Ji, JC, QV, QC, yT, zo, Qz, zg, yI, yx, z5, qG, yb, Kd, Jd, zk, Kh, Jj, Qy, QU, zx, KV, yq, zl, Ka, Jm, ze])))) ?_
 refine cRs (E7 a0 (by simp (maxDischargeDepth := 12) [u0, Ji, JC, QV, QC, yT, zo, Qz, zg, yI, yx, z5, qG, yb, Kd, Jd, zk, Kh, Jj, Qy, QU, zx, KV, yq, zl, Ka, Jm, ze]) (by (have z2 : ¬ zC a0 1048576 < 0 := (by simpa using h1); first | exact Pk t0 (by omega) (by omega) z2 | (have z := (P8 a0 1048576 t0 (by omega) (by omega) z2).1; omega)))) ?_
 refine cFo f ?_ ?_ <;> intro k2 h2 f
 ·have q2 := h2; try simp at q2
  simp
  exact rt [.tmp 2] f
 have q2 := h2; try simp at q2
 simp
 refine dIs mixed ?_
 refine cRs (YZ.rd (Ua a0 (Za (n := 1048576) (by decide) (by simp (maxDischargeDepth := 12) [u0, Ji, JC, QV, QC, yT, zo, Qz, zg, yI, yx, z5, qG, yb, Kd, Jd, zk, Kh, Jj, Qy, QU, zx, KV, yq, zl, Ka, Jm, ze])))) ?_
 refine cRs (EX a0 a0) ?_
 refine cFo f ?_ ?_ <;> intro k4 h3 f
 ·have q3 := h3; try simp at q3
  simp
  exact rt [.tmp 2] f
 have q3 := h3; try simp at q3
 simp
 exact rt [.tmp 2] f
end Go.Proofs.YtfhmpplolpejnaaGreat
