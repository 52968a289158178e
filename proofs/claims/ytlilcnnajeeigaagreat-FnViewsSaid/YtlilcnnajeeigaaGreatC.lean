/- Contracts of the functions ON the abstract machine, part 1. No condition. -/
import Derived.Test.YtlilcnnajeeigaaGreatCA1
import Derived.Test.YtlilcnnajeeigaaGreatCI1
import Derived.Test.YtlilcnnajeeigaaGreatCS1
namespace Go.Proofs.YtlilcnnajeeigaaGreat
open Tryz
open Go.Vm Go.Mo
set_option maxHeartbeats 1000000
set_option maxRecDepth 4000
set_option linter.unusedSimpArgs false
set_option linter.unusedVariables false
theorem N6 (a0 : List UInt8) (t0 : Sm maxLen a0) : Sa 3 [rL 1 bR a0] [rB (kV a0)] := by
 have f := me (kV.eq_1 a0)
 refine so func3 ntmps3 ?_
 refine cRs (Gh a0) ?_
 refine cFo f ?_ ?_ <;> intro k1 h1 f
 ·have q1 := h1; try simp at q1
  simp
  exact rt [.tmp 2] f
 have q1 := h1; try simp at q1
 have u0 : Sm 1048576 a0 := (by have z := h1; simp [Le] at z; simp [Ye]; omega)
 simp
 refine cRs (YD.rd (WM a0)) ?_
 refine cRs (U2 (ZQ a0).1 (ZQ a0).2 (by first | exact (Yk (by decide)).1 | exact (Yk (by decide)).2) (by first | exact (Yk (by decide)).1 | exact (Yk (by decide)).2)) ?_
 refine cFo f ?_ ?_ <;> intro k2 h2 f
 ·have q2 := h2; try simp at q2
  simp
  exact rt [.tmp 2] f
 have q2 := h2; try simp at q2
 simp
 refine lp1 (xO.eq_2 a0) (fun J => Yd 83 [eL 0 1 a0 bR, eX 3 ((ZQ a0).1.row.map .d), eX 4 ((ZQ a0).2.row.map .d), (5, .one (.d (.str (Yy (ZQ a0).1 (ZQ a0).2))), []), eI 6 (J : Int)]) (fun n1 J => (ZQ a0).2.Zl.length < n1 + J /\ J <= (ZQ a0).2.Zl.length) ((ZQ a0).2.Zl.length + 1) 0 (fun p1 J e1 j1 => ?_)
 refine cFo e1 ?_ ?_ <;> intro k4 h3 e1
 ·have q3 := h3; try simp at q3
  have i1 := ix h3
  have m2 := ml (ZQ a0).2.Zl (k4 31 _ rfl)
  have w1 := wr J
  simp
  refine dIo mixed ?_
  simp [i1, ZC]
  refine rpS ?_
  refine cRs (Wj (ZQ a0).1 (nth (ZQ a0).2.Zl J) (by first | exact (Yk (by decide)).1 | exact Z2 (Zf.KI (Yk (by decide)).2)) (by first | exact (Yk (by decide)).1 | exact Z2 (Zf.KI (Yk (by decide)).2))) ?_
  refine cFo e1 ?_ ?_ <;> intro k6 h4 e1
  ·have q4 := h4; try simp at q4
   have f := ms f e1
   simp
   exact rt [.tmp 2] f
  have q4 := h4; try simp at q4
  simp
  exact ny1 w1 e1
 have q3 := h3; try simp at q3
 have f := ms f e1
 simp
 refine cRs (kT a0) ?_
 refine cRs (UD (Za a0) (by exact za (by decide))) ?_
 refine lp2 (KY.eq_2 a0) (fun wD wE => Yd 83 [eX 8 ((Za a0).row.map .d), eI 9 wD, (10, .one (.d (.str (YC (Za a0)))), []), eI 11 (wE : Int)]) (fun n2 wD wE => (YC (Za a0)).size < n2 + wE /\ wE <= (YC (Za a0)).size /\ (YC (Za a0)).size <= 5000) ((YC (Za a0)).size + 1) 0 0 (fun p2 wD wE e2 j2 => ?_) (hI := by (have z := Ws (za (n := 21) (a0 := a0) (by decide)); (try dsimp only); omega))
 refine cFo e2 ?_ ?_ <;> intro k8 h5 e2
 ·have q5 := h5; try simp at q5
  have w2 := wr wE
  simp
  refine rpS ?_
  refine cFo e2 ?_ ?_ <;> intro k9 h6 e2
  ·have q6 := h6; try simp at q6
   simp
   exact ny2 w2 e2
  have q6 := h6; try simp at q6
  simp
  exact ny2 w2 e2
 have q5 := h5; try simp at q5
 have f := ms f e2
 simp
 refine dIs mixed ?_
 refine cRs (R0 (Za a0)) ?_
 exact rt [.tmp 2] f
end Go.Proofs.YtlilcnnajeeigaaGreat
