/- Contracts of the functions RH the abstract machine, part 1. No condition. -/
import Derived.Test.YthjkhlcbpfnobaaGreatCA1
import Derived.Test.YthjkhlcbpfnobaaGreatCI1
import Derived.Test.YthjkhlcbpfnobaaGreatCS1
namespace Go.Proofs.YthjkhlcbpfnobaaGreat
open Tryz
open Go.Vm Go.Mo
set_option maxHeartbeats 1000000
set_option maxRecDepth 4000
set_option linter.unusedSimpArgs false
set_option linter.unusedVariables false
theorem VC (a0 : List UInt8) (t0 : Sm maxLen a0) : Sa 6 [rL 1 bR a0] [rB (KN a0)] := by
 have f := me (KN.eq_1 a0)
 refine so func6 ntmps6 ?_
 refine cRs (HL a0) ?_
 refine cFo f ?_ ?_ <;> intro k1 h1 f
 ·have q1 := h1; try simp at q1
  simp
  exact rt [.tmp 2] f
 have q1 := h1; try simp at q1
 have u0 : Sm 1048576 a0 := (by have z := h1; simp [La] at z; simp [Xg]; omega)
 simp
 refine cRs (Ww a0) ?_
 refine cRs (Wd (ZC a0).2) ?_
 refine cRs (R4 (ZC a0).2) ?_
 refine cFo f ?_ ?_ <;> intro k2 h2 f
 ·have q2 := h2; try simp at q2
  simp
  exact rt [.tmp 2] f
 have q2 := h2; try simp at q2
 simp
 refine cRs (Wd (ZC a0).2) ?_
 refine cFo f ?_ ?_ <;> intro k3 h3 f
 ·have q3 := h3; try simp at q3
  simp
  exact rt [.tmp 2] f
 have q3 := h3; try simp at q3
 simp
 refine cRs (Yx.rd (RX (ZC a0).1 (ZC a0).2 (by exact ZW (n := 40) (by decide) (Qn (n := 40) (a0 := a0) (by decide)).1) (by exact ZW (n := 40) (by decide) (Qn (n := 40) (a0 := a0) (by decide)).2))) ?_
 refine dIs mixed ?_
 refine cRs (Yx.rd (T6 (ZU (ZC a0).1 (ZC a0).2) (by first | (with_reducible exact ZW (by decide) (KR a0).1) | (with_reducible exact (KR a0).2.1) | (with_reducible exact (KR a0).2.2)) (by first | (with_reducible exact ZW (by decide) (KR a0).1) | (with_reducible exact (KR a0).2.1) | (with_reducible exact (KR a0).2.2)) (by first | (with_reducible exact ZW (by decide) (KR a0).1) | (with_reducible exact (KR a0).2.1) | (with_reducible exact (KR a0).2.2)))) ?_
 refine cRs (Yx.rd (O4 (ZU (ZC a0).1 (ZC a0).2).Frame.Z9 (ZU (ZC a0).1 (ZC a0).2).Frame.ZG (XB (ZU (ZC a0).1 (ZC a0).2)) (by with_reducible exact ZW (by decide) (Z2.xw (ZE.Xx (KR a0).1))) (by with_reducible exact ZW (by decide) (Z2.XZ (ZE.Xx (KR a0).1))) (by with_reducible exact ZW (by decide) (IC a0)))) ?_
 refine lp1 (JZ.eq_2 a0) (fun J => XQ 53 [eX 5 ((ZU (ZC a0).1 (ZC a0).2).row.map .d), eL 6 1 (QQ (ZU (ZC a0).1 (ZC a0).2).Frame.Z9 (ZU (ZC a0).1 (ZC a0).2).Frame.ZG (XB (ZU (ZC a0).1 (ZC a0).2))) iR, eI 7 (J : Int)]) (fun n1 J => (QQ (ZU (ZC a0).1 (ZC a0).2).Frame.Z9 (ZU (ZC a0).1 (ZC a0).2).Frame.ZG (XB (ZU (ZC a0).1 (ZC a0).2))).length < n1 + J /\ J <= (QQ (ZU (ZC a0).1 (ZC a0).2).Frame.Z9 (ZU (ZC a0).1 (ZC a0).2).Frame.ZG (XB (ZU (ZC a0).1 (ZC a0).2))).length) ((QQ (ZU (ZC a0).1 (ZC a0).2).Frame.Z9 (ZU (ZC a0).1 (ZC a0).2).Frame.ZG (XB (ZU (ZC a0).1 (ZC a0).2))).length + 1) 0 (fun p1 J e1 j1 => ?_)
 refine cFo e1 ?_ ?_ <;> intro k6 h4 e1
 ·have q4 := h4; try simp at q4
  have i1 := ix h4
  have m2 := ml (QQ (ZU (ZC a0).1 (ZC a0).2).Frame.Z9 (ZU (ZC a0).1 (ZC a0).2).Frame.ZG (XB (ZU (ZC a0).1 (ZC a0).2))) (k6 6 _ rfl)
  have w1 := wr J
  simp
  refine dIo mixed ?_
  simp [i1, ZI]
  refine rpS ?_
  refine cRs (PW (ZU (ZC a0).1 (ZC a0).2).YN (nth (QQ (ZU (ZC a0).1 (ZC a0).2).Frame.Z9 (ZU (ZC a0).1 (ZC a0).2).Frame.ZG (XB (ZU (ZC a0).1 (ZC a0).2))) J)) ?_
  refine cFo e1 ?_ ?_ <;> intro k8 h5 e1
  ·have q5 := h5; try simp at q5
   have f := ms f e1
   simp
   exact rt [.tmp 2] f
  have q5 := h5; try simp at q5
  simp
  exact ny1 w1 e1
 have q4 := h4; try simp at q4
 have f := ms f e1
 simp
 exact rt [.tmp 2] f
end Go.Proofs.YthjkhlcbpfnobaaGreat
