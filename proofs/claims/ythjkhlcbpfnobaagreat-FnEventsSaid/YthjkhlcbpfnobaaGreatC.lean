/- Contracts of the functions NL the abstract machine, part 1. No condition. -/
import Derived.Test.YthjkhlcbpfnobaaGreatCA1
import Derived.Test.YthjkhlcbpfnobaaGreatCI1
import Derived.Test.YthjkhlcbpfnobaaGreatCS2
namespace Go.Proofs.YthjkhlcbpfnobaaGreat
open Tryz
open Go.Vm Go.Mo
set_option maxHeartbeats 1000000
set_option maxRecDepth 4000
set_option linter.unusedSimpArgs false
set_option linter.unusedVariables false
theorem Lg {a b : Prop} (h : b) (k : a := by (intros; first | omega | with_unfolding_all (first | first | omega | (have z := FP (a0 := a0) (k := 3) (m := ((ZS a0).2.length : Int)) (Yk u0) (by decide) (by decide) (by omega); omega) | exact List.ne_nil_of_length_pos (by assumption) | (simp_all; done)) | ((try simp only [XL, show ∀ x, IntKind.i64.wrap x = W x from fun _ => rfl] at *); omega))) : a /\ b := ⟨k, h⟩
theorem Zh {a b : Prop} (h : b) (k : a := by (intros; first | omega | with_unfolding_all (first | first | omega | (have z := FP (a0 := a0) (k := 3) (m := ((ZS a0).2.length : Int)) (Yk u0) (by decide) (by decide) (by omega); omega) | exact List.ne_nil_of_length_pos (by assumption) | (simp_all; done)) | (simp_all; done) | (simp_all; omega) | grind | ((try simp only [XL, show ∀ x, IntKind.i64.wrap x = W x from fun _ => rfl] at *); omega))) : a /\ b := ⟨k, h⟩
theorem IL (a0 : List UInt8) (t0 : Sm maxLen a0) : Sa 3 [rL 1 bR a0] [rB (kY a0)] := by
 have f := me (kY.eq_1 a0)
 refine so func3 ntmps3 ?_
 refine cRs (CH a0) ?_
 refine cFo f ?_ ?_ <;> intro k1 h1 f
 ·have q1 := h1; try simp at q1
  simp
  exact rt [.tmp 2] f
 have q1 := h1; try simp at q1
 have u0 : Sm 1048576 a0 := (by have z := h1; simp [E7] at z; simp [Yx]; omega)
 simp
 refine cRs (Sw a0) ?_
 refine cRs (YR.rd (yF (ZS a0).1 (ZS a0).2 (by first | exact ZN (n := 40) (by decide) (Zc (n := 40) (a0 := a0) (by decide)).1 | exact ZN (n := 40) (by decide) (Zc (n := 40) (a0 := a0) (by decide)).2 | exact ZN (n := 40) (by decide) (ye (Zc (n := 40) (a0 := a0) (by decide)).2) | exact ZN (n := 40) (by decide) (xx (Zc (n := 40) (a0 := a0) (by decide)).2) | exact QB) (by first | exact ZN (n := 40) (by decide) (Zc (n := 40) (a0 := a0) (by decide)).1 | exact ZN (n := 40) (by decide) (Zc (n := 40) (a0 := a0) (by decide)).2 | exact ZN (n := 40) (by decide) (ye (Zc (n := 40) (a0 := a0) (by decide)).2) | exact ZN (n := 40) (by decide) (xx (Zc (n := 40) (a0 := a0) (by decide)).2) | exact QB))) ?_
 refine cFo f ?_ ?_ <;> intro k2 h2 f
 ·have q2 := h2; try simp at q2
  simp
  refine cR (B1 a0 3 (by first | omega | (simp; done) | (simp; omega))) ?_
  simp
  repeat with_reducible refine Lg ?_
  refine dIs mixed ?_
  refine cRs (Rp (Ys (ZS a0).1 (ZS a0).2) (by exact ZN (n := 40 + (ZS a0).2.length) (by have z := Yk (Zc (n := 40) (a0 := a0) (by decide)).2; omega) (jY (Zc (n := 40) (a0 := a0) (by decide)).1 (Zc (n := 40) (a0 := a0) (by decide)).2 (by decide) (by decide)))) ?_
  refine gIo ?_ ?_ <;> intro G
  ·have sj := G
   have g1 := G; try simp at g1
   simp [G]
   repeat with_reducible refine Zh ?_
   refine cGo (fun gg => YR.rd (yF (ZS a0).1 ((ZS a0).2.take (Int.tmod (PN a0 3) ((ZS a0).2.length : Int)).toNat) (by first | exact ZN (n := 40) (by decide) (Zc (n := 40) (a0 := a0) (by decide)).1 | exact ZN (n := 40) (by decide) (Zc (n := 40) (a0 := a0) (by decide)).2 | exact ZN (n := 40) (by decide) (ye (Zc (n := 40) (a0 := a0) (by decide)).2) | exact ZN (n := 40) (by decide) (xx (Zc (n := 40) (a0 := a0) (by decide)).2) | exact QB) (by first | exact ZN (n := 40) (by decide) (Zc (n := 40) (a0 := a0) (by decide)).1 | exact ZN (n := 40) (by decide) (Zc (n := 40) (a0 := a0) (by decide)).2 | exact ZN (n := 40) (by decide) (ye (Zc (n := 40) (a0 := a0) (by decide)).2) | exact ZN (n := 40) (by decide) (xx (Zc (n := 40) (a0 := a0) (by decide)).2) | exact QB))) ?_
   simp [G]
   repeat with_reducible refine Zh ?_
   refine gK (fun _ => ?_)
   simp [G]
   repeat with_reducible refine Zh ?_
   refine cGo (fun gg => YR.rd (yF (Ys (ZS a0).1 ((ZS a0).2.take (Int.tmod (PN a0 3) ((ZS a0).2.length : Int)).toNat)) ((ZS a0).2.drop (Int.tmod (PN a0 3) ((ZS a0).2.length : Int)).toNat) (by first | exact ZN (n := 40) (by decide) (Zc (n := 40) (a0 := a0) (by decide)).1 | exact ZN (n := 40) (by decide) (Zc (n := 40) (a0 := a0) (by decide)).2 | exact ZN (n := 40) (by decide) (ye (Zc (n := 40) (a0 := a0) (by decide)).2) | exact ZN (n := 40) (by decide) (xx (Zc (n := 40) (a0 := a0) (by decide)).2) | exact QB) (by first | exact ZN (n := 40) (by decide) (Zc (n := 40) (a0 := a0) (by decide)).1 | exact ZN (n := 40) (by decide) (Zc (n := 40) (a0 := a0) (by decide)).2 | exact ZN (n := 40) (by decide) (ye (Zc (n := 40) (a0 := a0) (by decide)).2) | exact ZN (n := 40) (by decide) (xx (Zc (n := 40) (a0 := a0) (by decide)).2) | exact QB))) ?_
   simp [G]
   repeat with_reducible refine Zh ?_
   refine cGo (fun gg => (Jk (Ys (ZS a0).1 (ZS a0).2) (Ys (Ys (ZS a0).1 ((ZS a0).2.take (Int.tmod (PN a0 3) ((ZS a0).2.length : Int)).toNat)) ((ZS a0).2.drop (Int.tmod (PN a0 3) ((ZS a0).2.length : Int)).toNat)))) ?_
   simp [G]
   repeat with_reducible refine Zh ?_
   refine cKo f ?_ ?_ <;> intro k4 h3 f
   ·try (simp [G] at h3; done)
    all_goals
     have q3 := h3; try simp at q3
     simp [G]
     repeat with_reducible refine Zh ?_
     exact rtg [.tmp 2] f
   ·try (simp [G] at h3; done)
    all_goals
     have q3 := h3; try simp at q3
     simp [G]
     repeat with_reducible refine Zh ?_
     refine cR (Ke a0 (ZN (n := 1048576) (by decide) (xs u0))) ?_
     simp [G]
     repeat with_reducible refine Zh ?_
     refine cR (YR.rd (zI (ZY a0).1 (ZY a0).2 (by exact ZN (n := 100) (by decide) (Xl (by decide)).1) (by exact ZN (n := 100) (by decide) (Xl (by decide)).2))) ?_
     simp [G]
     repeat with_reducible refine Zh ?_
     refine cGo (fun gg => (Jk (ZY a0).1 (Z4 (ZY a0).1 (ZY a0).2).1)) ?_
     simp [G]
     repeat with_reducible refine Zh ?_
     refine cGo (fun gg => (xf (ZY a0).2.Kind)) ?_
     simp [G]
     repeat with_reducible refine Zh ?_
     refine cKo f ?_ ?_ <;> intro k5 h4 f
     ·try (simp [G] at h4; done)
      all_goals
       have q4 := h4; try simp at q4
       simp [G]
       repeat with_reducible refine Zh ?_
       exact rtg [.tmp 2] f
     ·try (simp [G] at h4; done)
      all_goals
       have q4 := h4; try simp at q4
       simp [G]
       repeat with_reducible refine Zh ?_
       refine cR (qH (ZS a0).2 8) ?_
       simp [G]
       repeat with_reducible refine Zh ?_
       refine cGo (fun gg => (qt (ZS a0).2)) ?_
       simp [G]
       repeat with_reducible refine Zh ?_
       exact rtg [.tmp 2] f
  ·have sj := G
   simp [G]
   repeat with_reducible refine Zh ?_
   refine sGo ?_
   simp [G]
   repeat with_reducible refine Zh ?_
   refine sGo ?_
   simp [G]
   repeat with_reducible refine Zh ?_
   refine sGo ?_
   simp [G]
   repeat with_reducible refine Zh ?_
   refine sGo ?_
   simp [G]
   repeat with_reducible refine Zh ?_
   refine cKo f ?_ ?_ <;> intro k6 h5 f
   ·try (simp [G] at h5; done)
    all_goals
     have q5 := h5; try simp at q5
     simp [G]
     repeat with_reducible refine Zh ?_
     exact rtg [.tmp 2] f
   ·try (simp [G] at h5; done)
    all_goals
     have q5 := h5; try simp at q5
     simp [G]
     repeat with_reducible refine Zh ?_
     refine cR (Ke a0 (ZN (n := 1048576) (by decide) (xs u0))) ?_
     simp [G]
     repeat with_reducible refine Zh ?_
     refine cR (YR.rd (zI (ZY a0).1 (ZY a0).2 (by exact ZN (n := 100) (by decide) (Xl (by decide)).1) (by exact ZN (n := 100) (by decide) (Xl (by decide)).2))) ?_
     simp [G]
     repeat with_reducible refine Zh ?_
     refine cGo (fun gg => (Jk (ZY a0).1 (Z4 (ZY a0).1 (ZY a0).2).1)) ?_
     simp [G]
     repeat with_reducible refine Zh ?_
     refine cGo (fun gg => (xf (ZY a0).2.Kind)) ?_
     simp [G]
     repeat with_reducible refine Zh ?_
     refine cKo f ?_ ?_ <;> intro k7 h6 f
     ·try (simp [G] at h6; done)
      all_goals
       have q6 := h6; try simp at q6
       simp [G]
       repeat with_reducible refine Zh ?_
       exact rtg [.tmp 2] f
     ·try (simp [G] at h6; done)
      all_goals
       have q6 := h6; try simp at q6
       simp [G]
       repeat with_reducible refine Zh ?_
       refine cR (qH (ZS a0).2 8) ?_
       simp [G]
       repeat with_reducible refine Zh ?_
       refine cGo (fun gg => (qt (ZS a0).2)) ?_
       simp [G]
       repeat with_reducible refine Zh ?_
       exact rtg [.tmp 2] f
 have q2 := h2; try simp at q2
 simp
 refine dIs mixed ?_
 refine cRs (Rp (Ys (ZS a0).1 (ZS a0).2) (by exact ZN (n := 40 + (ZS a0).2.length) (by have z := Yk (Zc (n := 40) (a0 := a0) (by decide)).2; omega) (jY (Zc (n := 40) (a0 := a0) (by decide)).1 (Zc (n := 40) (a0 := a0) (by decide)).2 (by decide) (by decide)))) ?_
 refine gIo ?_ ?_ <;> intro G
 ·have iW := G
  have g2 := G; try simp at g2
  simp [G]
  repeat with_reducible refine Zh ?_
  refine cGo (fun gg => YR.rd (yF (ZS a0).1 ((ZS a0).2.take 0) (by first | exact ZN (n := 40) (by decide) (Zc (n := 40) (a0 := a0) (by decide)).1 | exact ZN (n := 40) (by decide) (Zc (n := 40) (a0 := a0) (by decide)).2 | exact ZN (n := 40) (by decide) (ye (Zc (n := 40) (a0 := a0) (by decide)).2) | exact ZN (n := 40) (by decide) (xx (Zc (n := 40) (a0 := a0) (by decide)).2) | exact QB) (by first | exact ZN (n := 40) (by decide) (Zc (n := 40) (a0 := a0) (by decide)).1 | exact ZN (n := 40) (by decide) (Zc (n := 40) (a0 := a0) (by decide)).2 | exact ZN (n := 40) (by decide) (ye (Zc (n := 40) (a0 := a0) (by decide)).2) | exact ZN (n := 40) (by decide) (xx (Zc (n := 40) (a0 := a0) (by decide)).2) | exact QB))) ?_
  simp [G]
  repeat with_reducible refine Zh ?_
  refine gK (fun _ => ?_)
  simp [G]
  repeat with_reducible refine Zh ?_
  refine cGo (fun gg => YR.rd (yF (Ys (ZS a0).1 ((ZS a0).2.take 0)) ((ZS a0).2.drop 0) (by first | exact ZN (n := 40) (by decide) (Zc (n := 40) (a0 := a0) (by decide)).1 | exact ZN (n := 40) (by decide) (Zc (n := 40) (a0 := a0) (by decide)).2 | exact ZN (n := 40) (by decide) (ye (Zc (n := 40) (a0 := a0) (by decide)).2) | exact ZN (n := 40) (by decide) (xx (Zc (n := 40) (a0 := a0) (by decide)).2) | exact QB) (by first | exact ZN (n := 40) (by decide) (Zc (n := 40) (a0 := a0) (by decide)).1 | exact ZN (n := 40) (by decide) (Zc (n := 40) (a0 := a0) (by decide)).2 | exact ZN (n := 40) (by decide) (ye (Zc (n := 40) (a0 := a0) (by decide)).2) | exact ZN (n := 40) (by decide) (xx (Zc (n := 40) (a0 := a0) (by decide)).2) | exact QB))) ?_
  simp [G]
  repeat with_reducible refine Zh ?_
  refine cGo (fun gg => (Jk (Ys (ZS a0).1 (ZS a0).2) (Ys (Ys (ZS a0).1 ((ZS a0).2.take 0)) ((ZS a0).2.drop 0)))) ?_
  simp [G]
  repeat with_reducible refine Zh ?_
  refine cKo f ?_ ?_ <;> intro k9 h7 f
  ·try (simp [G] at h7; done)
   all_goals
    have q7 := h7; try simp at q7
    simp [G]
    repeat with_reducible refine Zh ?_
    exact rtg [.tmp 2] f
  ·try (simp [G] at h7; done)
   all_goals
    have q7 := h7; try simp at q7
    simp [G]
    repeat with_reducible refine Zh ?_
    refine cR (Ke a0 (ZN (n := 1048576) (by decide) (xs u0))) ?_
    simp [G]
    repeat with_reducible refine Zh ?_
    refine cR (YR.rd (zI (ZY a0).1 (ZY a0).2 (by exact ZN (n := 100) (by decide) (Xl (by decide)).1) (by exact ZN (n := 100) (by decide) (Xl (by decide)).2))) ?_
    simp [G]
    repeat with_reducible refine Zh ?_
    refine cGo (fun gg => (Jk (ZY a0).1 (Z4 (ZY a0).1 (ZY a0).2).1)) ?_
    simp [G]
    repeat with_reducible refine Zh ?_
    refine cGo (fun gg => (xf (ZY a0).2.Kind)) ?_
    simp [G]
    repeat with_reducible refine Zh ?_
    refine cKo f ?_ ?_ <;> intro ox h8 f
    ·try (simp [G] at h8; done)
     all_goals
      have q8 := h8; try simp at q8
      simp [G]
      repeat with_reducible refine Zh ?_
      exact rtg [.tmp 2] f
    ·try (simp [G] at h8; done)
     all_goals
      have q8 := h8; try simp at q8
      simp [G]
      repeat with_reducible refine Zh ?_
      refine cR (qH (ZS a0).2 8) ?_
      simp [G]
      repeat with_reducible refine Zh ?_
      refine cGo (fun gg => (qt (ZS a0).2)) ?_
      simp [G]
      repeat with_reducible refine Zh ?_
      exact rtg [.tmp 2] f
 ·have iW := G
  simp [G]
  repeat with_reducible refine Zh ?_
  refine sGo ?_
  simp [G]
  repeat with_reducible refine Zh ?_
  refine sGo ?_
  simp [G]
  repeat with_reducible refine Zh ?_
  refine sGo ?_
  simp [G]
  repeat with_reducible refine Zh ?_
  refine sGo ?_
  simp [G]
  repeat with_reducible refine Zh ?_
  refine cKo f ?_ ?_ <;> intro iU h9 f
  ·try (simp [G] at h9; done)
   all_goals
    have q9 := h9; try simp at q9
    simp [G]
    repeat with_reducible refine Zh ?_
    exact rtg [.tmp 2] f
  ·try (simp [G] at h9; done)
   all_goals
    have q9 := h9; try simp at q9
    simp [G]
    repeat with_reducible refine Zh ?_
    refine cR (Ke a0 (ZN (n := 1048576) (by decide) (xs u0))) ?_
    simp [G]
    repeat with_reducible refine Zh ?_
    refine cR (YR.rd (zI (ZY a0).1 (ZY a0).2 (by exact ZN (n := 100) (by decide) (Xl (by decide)).1) (by exact ZN (n := 100) (by decide) (Xl (by decide)).2))) ?_
    simp [G]
    repeat with_reducible refine Zh ?_
    refine cGo (fun gg => (Jk (ZY a0).1 (Z4 (ZY a0).1 (ZY a0).2).1)) ?_
    simp [G]
    repeat with_reducible refine Zh ?_
    refine cGo (fun gg => (xf (ZY a0).2.Kind)) ?_
    simp [G]
    repeat with_reducible refine Zh ?_
    refine cKo f ?_ ?_ <;> intro eS sH f
    ·try (simp [G] at sH; done)
     all_goals
      have my := sH; try simp at my
      simp [G]
      repeat with_reducible refine Zh ?_
      exact rtg [.tmp 2] f
    ·try (simp [G] at sH; done)
     all_goals
      have my := sH; try simp at my
      simp [G]
      repeat with_reducible refine Zh ?_
      refine cR (qH (ZS a0).2 8) ?_
      simp [G]
      repeat with_reducible refine Zh ?_
      refine cGo (fun gg => (qt (ZS a0).2)) ?_
      simp [G]
      repeat with_reducible refine Zh ?_
      exact rtg [.tmp 2] f
end Go.Proofs.YthjkhlcbpfnobaaGreat
