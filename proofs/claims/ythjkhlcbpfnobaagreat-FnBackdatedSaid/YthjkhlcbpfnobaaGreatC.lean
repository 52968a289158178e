/- Contracts of the functions Oe the abstract machine, part 1. No condition. -/
import Derived.Test.YthjkhlcbpfnobaaGreatCA1
import Derived.Test.YthjkhlcbpfnobaaGreatCI2
import Derived.Test.YthjkhlcbpfnobaaGreatCS1
namespace Go.Proofs.YthjkhlcbpfnobaaGreat
open Tryz
open Go.Vm Go.Mo
set_option maxHeartbeats 1000000
set_option maxRecDepth 4000
set_option linter.unusedSimpArgs false
set_option linter.unusedVariables false
theorem EP (a0 : List UInt8) (t0 : Sm maxLen a0) : Sa 4 [rL 1 bR a0] [rB (U6 a0)] := by
 have f := me (U6.eq_1 a0)
 refine so func4 ntmps4 ?_
 refine cRs (CQ a0) ?_
 refine cFo f ?_ ?_ <;> intro k1 h1 f
 ·have q1 := h1; try simp at q1
  simp
  exact rt [.tmp 2] f
 have q1 := h1; try simp at q1
 have u0 : Sm 1048576 a0 := (by have z := h1; simp [Gz] at z; simp [Xo]; omega)
 simp
 refine cRs (Yx.rd (O9 a0)) ?_
 refine cRs (Yx.rd (H7 (ZE a0).1 (ZE a0).2.1 (ZE a0).2.2 (by with_reducible exact K9 (by decide)))) ?_
 refine cFo f ?_ ?_ <;> intro k2 h2 f
 ·have q2 := h2; try simp at q2
  simp
  refine cRs (TB (ZE a0).1 (Yj (ZE a0).1 (ZE a0).2.1 (ZE a0).2.2).1) ?_
  exact rt [.tmp 2] f
 have q2 := h2; try simp at q2
 simp
 refine cRs (V2 (ZE a0).1 (ZE a0).2.1) ?_
 refine dIo mixed ?_
 have i1 : (ZF (ZE a0).1 (ZE a0).2.1).1.toNat < (ZE a0).1.ZB.length := by first | with_reducible exact (Yz (w := (ZE a0).1) (id := (ZE a0).2.1) (t := (ZE a0).2.2) (by simpa only [Bool.not_eq_false'] using h2)).2.1 | with_reducible exact (Yz (w := (ZE a0).1) (id := (ZE a0).2.1) (t := (ZE a0).2.2) (by simpa only [Bool.not_eq_false'] using h2)).2.2.2.1 | with_reducible exact (Yz (w := (ZE a0).1) (id := (ZE a0).2.1) (t := (ZE a0).2.2) (by simpa only [Bool.not_eq_false'] using h2)).2.2.2.2.1 | with_reducible exact (Yz (w := (ZE a0).1) (id := (ZE a0).2.1) (t := (ZE a0).2.2) (by simpa only [Bool.not_eq_false'] using h2)).2.2.2.2.2 | omega
 have iz := (Yz (w := (ZE a0).1) (id := (ZE a0).2.1) (t := (ZE a0).2.2) (by simpa only [Bool.not_eq_false'] using h2))
 have i2 : (ZF (ZE a0).1 (ZE a0).2.1).2.toNat < (nth (ZE a0).1.ZB (ZF (ZE a0).1 (ZE a0).2.1).1.toNat).ZD.length := by first | with_reducible exact (Yz (w := (ZE a0).1) (id := (ZE a0).2.1) (t := (ZE a0).2.2) (by simpa only [Bool.not_eq_false'] using h2)).2.1 | with_reducible exact (Yz (w := (ZE a0).1) (id := (ZE a0).2.1) (t := (ZE a0).2.2) (by simpa only [Bool.not_eq_false'] using h2)).2.2.2.1 | with_reducible exact (Yz (w := (ZE a0).1) (id := (ZE a0).2.1) (t := (ZE a0).2.2) (by simpa only [Bool.not_eq_false'] using h2)).2.2.2.2.1 | with_reducible exact (Yz (w := (ZE a0).1) (id := (ZE a0).2.1) (t := (ZE a0).2.2) (by simpa only [Bool.not_eq_false'] using h2)).2.2.2.2.2 | omega
 have iz := (Yz (w := (ZE a0).1) (id := (ZE a0).2.1) (t := (ZE a0).2.2) (by simpa only [Bool.not_eq_false'] using h2))
 simp [i1, ZI, i2]
 refine rpS ?_
 have i3 : (ZF (ZE a0).1 (ZE a0).2.1).1.toNat < (Yj (ZE a0).1 (ZE a0).2.1 (ZE a0).2.2).1.ZB.length := by first | with_reducible exact (Yz (w := (ZE a0).1) (id := (ZE a0).2.1) (t := (ZE a0).2.2) (by simpa only [Bool.not_eq_false'] using h2)).2.1 | with_reducible exact (Yz (w := (ZE a0).1) (id := (ZE a0).2.1) (t := (ZE a0).2.2) (by simpa only [Bool.not_eq_false'] using h2)).2.2.2.1 | with_reducible exact (Yz (w := (ZE a0).1) (id := (ZE a0).2.1) (t := (ZE a0).2.2) (by simpa only [Bool.not_eq_false'] using h2)).2.2.2.2.1 | with_reducible exact (Yz (w := (ZE a0).1) (id := (ZE a0).2.1) (t := (ZE a0).2.2) (by simpa only [Bool.not_eq_false'] using h2)).2.2.2.2.2 | omega
 have iz := (Yz (w := (ZE a0).1) (id := (ZE a0).2.1) (t := (ZE a0).2.2) (by simpa only [Bool.not_eq_false'] using h2))
 have i4 : (ZF (ZE a0).1 (ZE a0).2.1).2.toNat < (nth (Yj (ZE a0).1 (ZE a0).2.1 (ZE a0).2.2).1.ZB (ZF (ZE a0).1 (ZE a0).2.1).1.toNat).ZD.length := by first | with_reducible exact (Yz (w := (ZE a0).1) (id := (ZE a0).2.1) (t := (ZE a0).2.2) (by simpa only [Bool.not_eq_false'] using h2)).2.1 | with_reducible exact (Yz (w := (ZE a0).1) (id := (ZE a0).2.1) (t := (ZE a0).2.2) (by simpa only [Bool.not_eq_false'] using h2)).2.2.2.1 | with_reducible exact (Yz (w := (ZE a0).1) (id := (ZE a0).2.1) (t := (ZE a0).2.2) (by simpa only [Bool.not_eq_false'] using h2)).2.2.2.2.1 | with_reducible exact (Yz (w := (ZE a0).1) (id := (ZE a0).2.1) (t := (ZE a0).2.2) (by simpa only [Bool.not_eq_false'] using h2)).2.2.2.2.2 | omega
 have iz := (Yz (w := (ZE a0).1) (id := (ZE a0).2.1) (t := (ZE a0).2.2) (by simpa only [Bool.not_eq_false'] using h2))
 refine cRf (an i3 i4) (SX (ZE a0).1.Frame (nth (nth (ZE a0).1.ZB (ZF (ZE a0).1 (ZE a0).2.1).1.toNat).ZD (ZF (ZE a0).1 (ZE a0).2.1).2.toNat) (by with_reducible exact Za (by decide) (ZG.Xk (K9 (n := 102) (a0 := a0) (by decide)))) (by with_reducible exact Za (by decide) (Z4 (ZJ.XQ (Z4 (ZG.Yq (K9 (n := 102) (a0 := a0) (by decide)))))))) ?_
 refine cRs (SX (Yj (ZE a0).1 (ZE a0).2.1 (ZE a0).2.2).1.Frame (nth (nth (Yj (ZE a0).1 (ZE a0).2.1 (ZE a0).2.2).1.ZB (ZF (ZE a0).1 (ZE a0).2.1).1.toNat).ZD (ZF (ZE a0).1 (ZE a0).2.1).2.toNat) (by with_reducible exact Za (by decide) (ZG.Xk (PG (K9 (n := 102) (a0 := a0) (by decide)) (by decide)))) (by with_reducible exact Za (by decide) (Z4 (ZJ.XQ (Z4 (ZG.Yq (PG (K9 (n := 102) (a0 := a0) (by decide)) (by decide)))))))) ?_
 exact rt [.tmp 2] f
theorem N3 (a0 : List UInt8) (t0 : Sm maxLen a0) : Sa 5 [rL 1 bR a0] [rB (qT a0)] := by
 have f := me (qT.eq_1 a0)
 refine so func5 ntmps5 ?_
 refine cRs (CQ a0) ?_
 refine cFo f ?_ ?_ <;> intro k1 h1 f
 ·have q1 := h1; try simp at q1
  simp
  exact rt [.tmp 2] f
 have q1 := h1; try simp at q1
 have u0 : Sm 1048576 a0 := (by have z := h1; simp [Gz] at z; simp [Xo]; omega)
 simp
 refine cRs (Yx.rd (T6 a0)) ?_
 refine cRs (Yx.rd (O0 (ZA a0).1 (ZA a0).2.1 (ZA a0).2.2 (by with_reducible exact Ys (by decide)))) ?_
 refine cFo f ?_ ?_ <;> intro k2 h2 f
 ·have q2 := h2; try simp at q2
  simp
  refine cRs (TB (ZA a0).1 (ZN (ZA a0).1 (ZA a0).2.1 (ZA a0).2.2).1) ?_
  exact rt [.tmp 2] f
 have q2 := h2; try simp at q2
 simp
 have i1 : (ZF (ZN (ZA a0).1 (ZA a0).2.1 (ZA a0).2.2).1 (ZA a0).2.1).1.toNat < (ZN (ZA a0).1 (ZA a0).2.1 (ZA a0).2.2).1.ZB.length := by first | with_reducible exact (Je (w := (ZA a0).1) (id := (ZA a0).2.1) (t := (ZA a0).2.2) (by simpa only [Bool.not_eq_false'] using h2)).2.1 | with_reducible exact (Je (w := (ZA a0).1) (id := (ZA a0).2.1) (t := (ZA a0).2.2) (by simpa only [Bool.not_eq_false'] using h2)).2.2.2 | omega
 have iz := (Je (w := (ZA a0).1) (id := (ZA a0).2.1) (t := (ZA a0).2.2) (by simpa only [Bool.not_eq_false'] using h2))
 have i2 : (ZF (ZN (ZA a0).1 (ZA a0).2.1 (ZA a0).2.2).1 (ZA a0).2.1).2.toNat < (nth (ZN (ZA a0).1 (ZA a0).2.1 (ZA a0).2.2).1.ZB (ZF (ZN (ZA a0).1 (ZA a0).2.1 (ZA a0).2.2).1 (ZA a0).2.1).1.toNat).ZD.length := by first | with_reducible exact (Je (w := (ZA a0).1) (id := (ZA a0).2.1) (t := (ZA a0).2.2) (by simpa only [Bool.not_eq_false'] using h2)).2.1 | with_reducible exact (Je (w := (ZA a0).1) (id := (ZA a0).2.1) (t := (ZA a0).2.2) (by simpa only [Bool.not_eq_false'] using h2)).2.2.2 | omega
 have iz := (Je (w := (ZA a0).1) (id := (ZA a0).2.1) (t := (ZA a0).2.2) (by simpa only [Bool.not_eq_false'] using h2))
 refine cRf (an i1 i2) (V2 (ZN (ZA a0).1 (ZA a0).2.1 (ZA a0).2.2).1 (ZA a0).2.1) ?_
 refine cRs (Yx.rd (Tq (nth (nth (ZN (ZA a0).1 (ZA a0).2.1 (ZA a0).2.2).1.ZB (ZF (ZN (ZA a0).1 (ZA a0).2.1 (ZA a0).2.2).1 (ZA a0).2.1).1.toNat).ZD (ZF (ZN (ZA a0).1 (ZA a0).2.1 (ZA a0).2.2).1 (ZA a0).2.1).2.toNat).ZP (nth (nth (ZN (ZA a0).1 (ZA a0).2.1 (ZA a0).2.2).1.ZB (ZF (ZN (ZA a0).1 (ZA a0).2.1 (ZA a0).2.2).1 (ZA a0).2.1).1.toNat).ZD (ZF (ZN (ZA a0).1 (ZA a0).2.1 (ZA a0).2.2).1 (ZA a0).2.1).2.toNat).Doc (by with_reducible exact Za (by decide) (Zj.XS (Z4 (ZJ.XQ (Z4 (ZG.Yq (Xj (Ys (n := 102) (a0 := a0) (by decide))))))))) (by with_reducible exact Za (by decide) (Zj.W7 (Z4 (ZJ.XQ (Z4 (ZG.Yq (Xj (Ys (n := 102) (a0 := a0) (by decide))))))))))) ?_
 refine dIs mixed ?_
 refine cRs (H0 (ZA a0).1.YK (ZA a0).2.1) ?_
 refine cGs (fun gg => (Vi (ZN (ZA a0).1 (ZA a0).2.1 (ZA a0).2.2).1.Frame (nth (nth (ZN (ZA a0).1 (ZA a0).2.1 (ZA a0).2.2).1.ZB (ZF (ZN (ZA a0).1 (ZA a0).2.1 (ZA a0).2.2).1 (ZA a0).2.1).1.toNat).ZD (ZF (ZN (ZA a0).1 (ZA a0).2.1 (ZA a0).2.2).1 (ZA a0).2.1).2.toNat).ZP (Y3 (nth (nth (ZN (ZA a0).1 (ZA a0).2.1 (ZA a0).2.2).1.ZB (ZF (ZN (ZA a0).1 (ZA a0).2.1 (ZA a0).2.2).1 (ZA a0).2.1).1.toNat).ZD (ZF (ZN (ZA a0).1 (ZA a0).2.1 (ZA a0).2.2).1 (ZA a0).2.1).2.toNat).ZP (nth (nth (ZN (ZA a0).1 (ZA a0).2.1 (ZA a0).2.2).1.ZB (ZF (ZN (ZA a0).1 (ZA a0).2.1 (ZA a0).2.2).1 (ZA a0).2.1).1.toNat).ZD (ZF (ZN (ZA a0).1 (ZA a0).2.1 (ZA a0).2.2).1 (ZA a0).2.1).2.toNat).Doc) (by with_reducible exact Za (by decide) (ZG.Xk (Xj (Ys (n := 102) (a0 := a0) (by decide))))) (by with_reducible exact Za (by decide) (Zj.XS (Z4 (ZJ.XQ (Z4 (ZG.Yq (Xj (Ys (n := 102) (a0 := a0) (by decide))))))))) (by with_reducible exact Za (by decide) (qf (n := 103) (Zj.XS (Z4 (ZJ.XQ (Z4 (ZG.Yq (Xj (Ys (n := 102) (a0 := a0) (by decide)))))))))))) ?_
 refine cGs (fun gg => (Vi (ZW.mk (ZN (ZA a0).1 (ZA a0).2.1 (ZA a0).2.2).1.Frame.Zo (ZN (ZA a0).1 (ZA a0).2.1 (ZA a0).2.2).1.Frame.ZC (ZN (ZA a0).1 (ZA a0).2.1 (ZA a0).2.2).1.Frame.Methods (ZN (ZA a0).1 (ZA a0).2.1 (ZA a0).2.2).1.Frame.X8 10000) (nth (nth (ZN (ZA a0).1 (ZA a0).2.1 (ZA a0).2.2).1.ZB (ZF (ZN (ZA a0).1 (ZA a0).2.1 (ZA a0).2.2).1 (ZA a0).2.1).1.toNat).ZD (ZF (ZN (ZA a0).1 (ZA a0).2.1 (ZA a0).2.2).1 (ZA a0).2.1).2.toNat).ZP (Y3 (nth (nth (ZN (ZA a0).1 (ZA a0).2.1 (ZA a0).2.2).1.ZB (ZF (ZN (ZA a0).1 (ZA a0).2.1 (ZA a0).2.2).1 (ZA a0).2.1).1.toNat).ZD (ZF (ZN (ZA a0).1 (ZA a0).2.1 (ZA a0).2.2).1 (ZA a0).2.1).2.toNat).ZP (nth (nth (ZN (ZA a0).1 (ZA a0).2.1 (ZA a0).2.2).1.ZB (ZF (ZN (ZA a0).1 (ZA a0).2.1 (ZA a0).2.2).1 (ZA a0).2.1).1.toNat).ZD (ZF (ZN (ZA a0).1 (ZA a0).2.1 (ZA a0).2.2).1 (ZA a0).2.1).2.toNat).Doc) (by with_reducible exact Za (by decide) (D7 (ZG.Xk (Xj (Ys (n := 102) (a0 := a0) (by decide)))))) (by with_reducible exact Za (by decide) (Zj.XS (Z4 (ZJ.XQ (Z4 (ZG.Yq (Xj (Ys (n := 102) (a0 := a0) (by decide))))))))) (by with_reducible exact Za (by decide) (qf (n := 103) (Zj.XS (Z4 (ZJ.XQ (Z4 (ZG.Yq (Xj (Ys (n := 102) (a0 := a0) (by decide)))))))))))) ?_
 refine cGs (fun gg => (OU (ZN (ZA a0).1 (ZA a0).2.1 (ZA a0).2.2).1.Frame (nth (nth (ZN (ZA a0).1 (ZA a0).2.1 (ZA a0).2.2).1.ZB (ZF (ZN (ZA a0).1 (ZA a0).2.1 (ZA a0).2.2).1 (ZA a0).2.1).1.toNat).ZD (ZF (ZN (ZA a0).1 (ZA a0).2.1 (ZA a0).2.2).1 (ZA a0).2.1).2.toNat).ZP (Y3 (nth (nth (ZN (ZA a0).1 (ZA a0).2.1 (ZA a0).2.2).1.ZB (ZF (ZN (ZA a0).1 (ZA a0).2.1 (ZA a0).2.2).1 (ZA a0).2.1).1.toNat).ZD (ZF (ZN (ZA a0).1 (ZA a0).2.1 (ZA a0).2.2).1 (ZA a0).2.1).2.toNat).ZP (nth (nth (ZN (ZA a0).1 (ZA a0).2.1 (ZA a0).2.2).1.ZB (ZF (ZN (ZA a0).1 (ZA a0).2.1 (ZA a0).2.2).1 (ZA a0).2.1).1.toNat).ZD (ZF (ZN (ZA a0).1 (ZA a0).2.1 (ZA a0).2.2).1 (ZA a0).2.1).2.toNat).Doc) 0 (by with_reducible exact Za (by decide) (ZG.Xk (Xj (Ys (n := 102) (a0 := a0) (by decide))))) (by with_reducible exact Za (by decide) (Zj.XS (Z4 (ZJ.XQ (Z4 (ZG.Yq (Xj (Ys (n := 102) (a0 := a0) (by decide))))))))) (by with_reducible exact Za (by decide) (qf (n := 103) (Zj.XS (Z4 (ZJ.XQ (Z4 (ZG.Yq (Xj (Ys (n := 102) (a0 := a0) (by decide)))))))))))) ?_
 exact rt [.tmp 2] f
end Go.Proofs.YthjkhlcbpfnobaaGreat
