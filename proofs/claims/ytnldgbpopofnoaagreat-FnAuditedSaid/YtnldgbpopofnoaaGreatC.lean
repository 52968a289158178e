/- Contracts of the functions OB the abstract machine, part 1. No condition. -/
import Derived.Test.YtnldgbpopofnoaaGreatCA1
import Derived.Test.YtnldgbpopofnoaaGreatCI1
import Derived.Test.YtnldgbpopofnoaaGreatCS2
namespace Go.Proofs.YtnldgbpopofnoaaGreat
open Tryz
open Go.Vm Go.Mo
set_option maxHeartbeats 1000000
set_option maxRecDepth 4000
set_option linter.unusedSimpArgs false
set_option linter.unusedVariables false
theorem N1 (a0 : List UInt8) (t0 : Sm maxLen a0) : Sa 3 [rL 1 bR a0] [rB (qL a0)] := by
 have f := me (qL.eq_1 a0)
 refine so func3 ntmps3 ?_
 refine cRs (EW a0) ?_
 refine cFo f ?_ ?_ <;> intro k1 h1 f
 ·have q1 := h1; try simp at q1
  simp
  exact rt [.tmp 2] f
 have q1 := h1; try simp at q1
 have u0 : Sm 1048576 a0 := (by have z := h1; simp [H5] at z; simp [XA]; omega)
 simp
 refine cRs (Rm a0) ?_
 refine cRs (Ik (Zv a0) (by first | exact Ye (by decide) | exact Yi a0) (by first | exact Ye (by decide) | exact Yi a0)) ?_
 refine lp2 (yA.eq_2 a0) (fun J U => Yg 58 [eX 3 ((Zv a0).row.map .d), (4, .one (.d (.str (jH (Zv a0)))), []), eI 5 J, eI 6 (U : Int)]) (fun n1 J U => (Zv a0).ZB.length < n1 + U /\ U <= (Zv a0).ZB.length) ((Zv a0).ZB.length + 1) 0 0 (fun p1 J U e1 j1 => ?_)
 refine cFo e1 ?_ ?_ <;> intro k3 h2 e1
 ·have q2 := h2; try simp at q2
  have i1 := ix h2
  have m2 := ml (Zv a0).ZB (k3 15 _ rfl)
  have w1 := wr U
  simp [i1, ZC]
  refine rpS ?_
  exact ny2 w1 e1
 have q2 := h2; try simp at q2
 have f := ms f e1
 simp
 refine cRs (RK (Zv a0) (by first | exact Ye (by decide) | exact Yi a0)) ?_
 refine cGs (fun gg => YN.rd (Wi (Zv a0) (by first | exact Ye (by decide) | exact Yi a0) (by first | exact Ye (by decide) | exact Yi a0))) ?_
 refine cFo f ?_ ?_ <;> intro k4 h3 f
 ·have q3 := h3; try simp at q3
  simp
  exact rt [.tmp 2] f
 have q3 := h3; try simp at q3
 simp
 refine dIs mixed ?_
 refine cRs (KZ (Zv a0) 1 (by first | exact Ye (by decide) | exact Yi a0) (by first | exact Ye (by decide) | exact Yi a0)) ?_
 refine cRs (KZ (Zv a0) 2 (by first | exact Ye (by decide) | exact Yi a0) (by first | exact Ye (by decide) | exact Yi a0)) ?_
 refine cRs (KZ (Zv a0) 3 (by first | exact Ye (by decide) | exact Yi a0) (by first | exact Ye (by decide) | exact Yi a0)) ?_
 refine cGs (fun gg => YN.rd (Vq (Zv a0) (by first | exact Ye (by decide) | exact Yi a0) (by first | exact Ye (by decide) | exact Yi a0))) ?_
 refine cGs (fun gg => (KZ (Zv a0) 1 (by first | exact Ye (by decide) | exact Yi a0) (by first | exact Ye (by decide) | exact Yi a0))) ?_
 exact rt [.tmp 2] f
end Go.Proofs.YtnldgbpopofnoaaGreat
