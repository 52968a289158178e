/- Contracts of the functions NL the abstract machine, part S2. No condition. -/
import Derived.Test.YthjkhlcbpfnobaaGreatCS1
namespace Go.Proofs.YthjkhlcbpfnobaaGreat
open Tryz
open Go.Vm Go.Mo
set_option maxHeartbeats 1000000
set_option maxRecDepth 100000
set_option linter.unusedSimpArgs false
set_option linter.unusedVariables false
theorem Zd {a b : Prop} (h : b) (k : a := by (intros; first | omega | with_unfolding_all (first | first | omega | (have fi := YG a0 a1 (by first | omega | (simp at *; omega)); omega) | (simp only [Bool.or_eq_false_iff, decide_eq_false_iff_not] at *; omega)) | (simp_all; done) | (simp_all; omega) | grind | ((try simp only [XL, show ∀ x, IntKind.i64.wrap x = W x from fun _ => rfl] at *); omega))) : a /\ b := ⟨k, h⟩
theorem Ih (a0 : ZG) (a1 : Int) (a2 : Int) (u0 : Sm 2318336 a0) : Sd 110 [a0.row, rI a1, rI a2] [(qT a0 a1 a2).1.row, rB (qT a0 a1 a2).2] := by
 have f := me (qT.eq_1 a0 a1 a2)
 refine soD func110 ntmps110 ?_
 refine cDs [false, false, false, true, true, false, false, true, false, false, true, false] (Xt a0 (sg u0)) ?_
 refine cRs (Uy a0 a1) ?_
 refine gIo ?_ ?_ <;> intro G
 ·have sj := G
  have g1 := G; try simp at g1
  have i1 : (ZB a0 a1).1.toNat < a0.ZA.length := by first | omega | (have fi := YG a0 a1 (by first | omega | (simp at *; omega)); omega) | (simp only [Bool.or_eq_false_iff, decide_eq_false_iff_not] at *; omega)
  simp [i1, ZD, G]
  repeat with_reducible refine Zd ?_
  refine gK (fun _ => ?_)
  have i2 : (ZB a0 a1).2.toNat < (nth a0.ZA (ZB a0 a1).1.toNat).ZC.length := by first | omega | (have fi := YG a0 a1 (by first | omega | (simp at *; omega)); omega) | (simp only [Bool.or_eq_false_iff, decide_eq_false_iff_not] at *; omega)
  simp [i2, ZD, G]
  repeat with_reducible refine Zd ?_
  refine cKo f ?_ ?_ <;> intro k1 h1 f
  ·try (simp [G] at h1; done)
   all_goals
    simp [G]
    repeat with_reducible refine Zd ?_
    exact Xx [.cell 6 33, .tmp 7] f
  ·try (simp [G] at h1; done)
   all_goals
    have i3 : 1 < (nth (nth a0.ZA (ZB a0 a1).1.toNat).ZC (ZB a0 a1).2.toNat).ZJ.ZL.length := by first | omega | (have fi := YG a0 a1 (by first | omega | (simp at *; omega)); omega) | (simp only [Bool.or_eq_false_iff, decide_eq_false_iff_not] at *; omega)
    simp [i1, ZD, i2, i3, G]
    repeat with_reducible refine Zd ?_
    refine cR (xm (nth (nth (nth a0.ZA (ZB a0 a1).1.toNat).ZC (ZB a0 a1).2.toNat).ZJ.ZL 1)) ?_
    simp [G]
    repeat with_reducible refine Zd ?_
    refine cR (jI a0.ZM (ZI (nth (nth (nth a0.ZA (ZB a0 a1).1.toNat).ZC (ZB a0 a1).2.toNat).ZJ.ZL 1)).1.ZQ) ?_
    simp [G]
    repeat with_reducible refine Zd ?_
    refine dIo mixed ?_
    simp [G]
    repeat with_reducible refine Zd ?_
    refine gJo G ?_ ?_ <;> intro G
    ·have iW := G.2
     try (simp at G; done)
     all_goals
      have g2 := G.2; try simp at g2
      all_goals
       have i4 : (ZX a0.ZM (ZI (nth (nth (nth a0.ZA (ZB a0 a1).1.toNat).ZC (ZB a0 a1).2.toNat).ZJ.ZL 1)).1.ZQ).toNat < a0.ZM.length := by have := JX a0.ZM (ZI (nth (nth (nth a0.ZA (ZB a0 a1).1.toNat).ZC (ZB a0 a1).2.toNat).ZJ.ZL 1)).1.ZQ; first | omega | (have fi := YG a0 a1 (by first | omega | (simp at *; omega)); omega) | (simp only [Bool.or_eq_false_iff, decide_eq_false_iff_not] at *; omega)
       simp [i4, ZD, G]
       repeat with_reducible refine Zd ?_
       refine cGo (fun gg => (jB a0.Frame (nth a0.ZM (ZX a0.ZM (ZI (nth (nth (nth a0.ZA (ZB a0 a1).1.toNat).ZC (ZB a0 a1).2.toNat).ZJ.ZL 1)).1.ZQ).toNat).Zm)) ?_
       simp [G]
       repeat with_reducible refine Zd ?_
       refine cKo f ?_ ?_ <;> intro k3 h2 f
       ·try (simp [G] at h2; done)
        all_goals
         simp [G]
         repeat with_reducible refine Zd ?_
         exact Xx [.cell 6 33, .tmp 7] f
       ·try (simp [G] at h2; done)
        all_goals
         simp [G]
         repeat with_reducible refine Zd ?_
         refine dIo mixed ?_
         simp [i4, ZD, G]
         repeat with_reducible refine Zd ?_
         refine cR (Qp a0.Frame.Zq (Zn.mk (ZI (nth (nth (nth a0.ZA (ZB a0 a1).1.toNat).ZC (ZB a0 a1).2.toNat).ZJ.ZL 1)).1.ZQ a2 (-1) (nth a0.ZM (ZX a0.ZM (ZI (nth (nth (nth a0.ZA (ZB a0 a1).1.toNat).ZC (ZB a0 a1).2.toNat).ZJ.ZL 1)).1.ZQ).toNat).Zm 0) (sg (Zu.JK (ZG.Yp u0)))) ?_
         simp [G]
         repeat with_reducible refine Zd ?_
         refine cKo f ?_ ?_ <;> intro k5 h3 f
         ·try (simp [G] at h3; done)
          all_goals
           simp [G]
           repeat with_reducible refine Zd ?_
           exact Xx [.cell 6 33, .tmp 7] f
         ·try (simp [G] at h3; done)
          all_goals
           simp [G]
           repeat with_reducible refine Zd ?_
           refine dIo mixed ?_
           simp [i1, ZD, G]
           repeat with_reducible refine Zd ?_
           refine cR (YR.rd (XM (Zj a0.Frame.Zq (Zn.mk (ZI (nth (nth (nth a0.ZA (ZB a0 a1).1.toNat).ZC (ZB a0 a1).2.toNat).ZJ.ZL 1)).1.ZQ a2 (-1) (nth a0.ZM (ZX a0.ZM (ZI (nth (nth (nth a0.ZA (ZB a0 a1).1.toNat).ZC (ZB a0 a1).2.toNat).ZJ.ZL 1)).1.ZQ).toNat).Zm 0)).1)) ?_
           simp [G]
           repeat with_reducible refine Zd ?_
           refine cD [] (Xf (nth a0.ZA (ZB a0 a1).1.toNat) a1 (Zr (Zj a0.Frame.Zq (Zn.mk (ZI (nth (nth (nth a0.ZA (ZB a0 a1).1.toNat).ZC (ZB a0 a1).2.toNat).ZJ.ZL 1)).1.ZQ a2 (-1) (nth a0.ZM (ZX a0.ZM (ZI (nth (nth (nth a0.ZA (ZB a0 a1).1.toNat).ZC (ZB a0 a1).2.toNat).ZJ.ZL 1)).1.ZQ).toNat).Zm 0)).1) (sg (Z3 (ZG.YA u0))) (by simp (maxDischargeDepth := 12) [Y1, ZN (m := 2322432) (by decide) u0]; try omega)) ?_
           simp [i1, ZD, G]
           repeat with_reducible refine Zd ?_
           refine jy (t := 19) (j := 7) (i := (ZB a0 a1).1.toNat) (size := 2) (rows := (a0.ZA.map ZE.row)) (ds := (YL (nth a0.ZA (ZB a0 a1).1.toNat) a1 (Zr (Zj a0.Frame.Zq (Zn.mk (ZI (nth (nth (nth a0.ZA (ZB a0 a1).1.toNat).ZC (ZB a0 a1).2.toNat).ZJ.ZL 1)).1.ZQ a2 (-1) (nth a0.ZM (ZX a0.ZM (ZI (nth (nth (nth a0.ZA (ZB a0 a1).1.toNat).ZC (ZB a0 a1).2.toNat).ZJ.ZL 1)).1.ZQ).toNat).Zm 0)).1)).1.row) (L := [(114, 1)]) ?_
           simp [Y4 (x := (YL (nth a0.ZA (ZB a0 a1).1.toNat) a1 (Zr (Zj a0.Frame.Zq (Zn.mk (ZI (nth (nth (nth a0.ZA (ZB a0 a1).1.toNat).ZC (ZB a0 a1).2.toNat).ZJ.ZL 1)).1.ZQ a2 (-1) (nth a0.ZM (ZX a0.ZM (ZI (nth (nth (nth a0.ZA (ZB a0 a1).1.toNat).ZC (ZB a0 a1).2.toNat).ZJ.ZL 1)).1.ZQ).toNat).Zm 0)).1)).1) rfl, i1, ZD, Z9, G]
           repeat with_reducible refine Zd ?_
           exact Xx [.cell 6 33, .tmp 7] f
    ·have iW := G.2
     try (simp at G; done)
     all_goals
      simp [G]
      repeat with_reducible refine Zd ?_
      refine sGo ?_
      simp [G]
      repeat with_reducible refine Zd ?_
      refine cKo f ?_ ?_ <;> intro k7 h4 f
      ·try (simp [G] at h4; done)
       all_goals
        simp [G]
        repeat with_reducible refine Zd ?_
        exact Xx [.cell 6 33, .tmp 7] f
      ·try (simp [G] at h4; done)
       all_goals
        simp [G]
        repeat with_reducible refine Zd ?_
        refine dIo mixed ?_
        have i6 : (ZX a0.ZM (ZI (nth (nth (nth a0.ZA (ZB a0 a1).1.toNat).ZC (ZB a0 a1).2.toNat).ZJ.ZL 1)).1.ZQ).toNat < a0.ZM.length := by have := JX a0.ZM (ZI (nth (nth (nth a0.ZA (ZB a0 a1).1.toNat).ZC (ZB a0 a1).2.toNat).ZJ.ZL 1)).1.ZQ; first | omega | (have fi := YG a0 a1 (by first | omega | (simp at *; omega)); omega) | (simp only [Bool.or_eq_false_iff, decide_eq_false_iff_not] at *; omega)
        simp [i6, ZD, G]
        repeat with_reducible refine Zd ?_
        refine cR (Qp a0.Frame.Zq (Zn.mk (ZI (nth (nth (nth a0.ZA (ZB a0 a1).1.toNat).ZC (ZB a0 a1).2.toNat).ZJ.ZL 1)).1.ZQ a2 (-1) (nth a0.ZM (ZX a0.ZM (ZI (nth (nth (nth a0.ZA (ZB a0 a1).1.toNat).ZC (ZB a0 a1).2.toNat).ZJ.ZL 1)).1.ZQ).toNat).Zm 0) (sg (Zu.JK (ZG.Yp u0)))) ?_
        simp [G]
        repeat with_reducible refine Zd ?_
        refine cKo f ?_ ?_ <;> intro k9 h5 f
        ·try (simp [G] at h5; done)
         all_goals
          simp [G]
          repeat with_reducible refine Zd ?_
          exact Xx [.cell 6 33, .tmp 7] f
        ·try (simp [G] at h5; done)
         all_goals
          simp [G]
          repeat with_reducible refine Zd ?_
          refine dIo mixed ?_
          simp [i1, ZD, G]
          repeat with_reducible refine Zd ?_
          refine cR (YR.rd (XM (Zj a0.Frame.Zq (Zn.mk (ZI (nth (nth (nth a0.ZA (ZB a0 a1).1.toNat).ZC (ZB a0 a1).2.toNat).ZJ.ZL 1)).1.ZQ a2 (-1) (nth a0.ZM (ZX a0.ZM (ZI (nth (nth (nth a0.ZA (ZB a0 a1).1.toNat).ZC (ZB a0 a1).2.toNat).ZJ.ZL 1)).1.ZQ).toNat).Zm 0)).1)) ?_
          simp [G]
          repeat with_reducible refine Zd ?_
          refine cD [] (Xf (nth a0.ZA (ZB a0 a1).1.toNat) a1 (Zr (Zj a0.Frame.Zq (Zn.mk (ZI (nth (nth (nth a0.ZA (ZB a0 a1).1.toNat).ZC (ZB a0 a1).2.toNat).ZJ.ZL 1)).1.ZQ a2 (-1) (nth a0.ZM (ZX a0.ZM (ZI (nth (nth (nth a0.ZA (ZB a0 a1).1.toNat).ZC (ZB a0 a1).2.toNat).ZJ.ZL 1)).1.ZQ).toNat).Zm 0)).1) (sg (Z3 (ZG.YA u0))) (by simp (maxDischargeDepth := 12) [Y1, ZN (m := 2322432) (by decide) u0]; try omega)) ?_
          simp [i1, ZD, G]
          repeat with_reducible refine Zd ?_
          refine jy (t := 19) (j := 7) (i := (ZB a0 a1).1.toNat) (size := 2) (rows := (a0.ZA.map ZE.row)) (ds := (YL (nth a0.ZA (ZB a0 a1).1.toNat) a1 (Zr (Zj a0.Frame.Zq (Zn.mk (ZI (nth (nth (nth a0.ZA (ZB a0 a1).1.toNat).ZC (ZB a0 a1).2.toNat).ZJ.ZL 1)).1.ZQ a2 (-1) (nth a0.ZM (ZX a0.ZM (ZI (nth (nth (nth a0.ZA (ZB a0 a1).1.toNat).ZC (ZB a0 a1).2.toNat).ZJ.ZL 1)).1.ZQ).toNat).Zm 0)).1)).1.row) (L := [(114, 1)]) ?_
          simp [Y4 (x := (YL (nth a0.ZA (ZB a0 a1).1.toNat) a1 (Zr (Zj a0.Frame.Zq (Zn.mk (ZI (nth (nth (nth a0.ZA (ZB a0 a1).1.toNat).ZC (ZB a0 a1).2.toNat).ZJ.ZL 1)).1.ZQ a2 (-1) (nth a0.ZM (ZX a0.ZM (ZI (nth (nth (nth a0.ZA (ZB a0 a1).1.toNat).ZC (ZB a0 a1).2.toNat).ZJ.ZL 1)).1.ZQ).toNat).Zm 0)).1)).1) rfl, i1, ZD, Z9, G]
          repeat with_reducible refine Zd ?_
          exact Xx [.cell 6 33, .tmp 7] f
 ·have sj := G
  simp [G]
  repeat with_reducible refine Zd ?_
  refine sGo ?_
  simp [G]
  repeat with_reducible refine Zd ?_
  refine cKo f ?_ ?_ <;> intro iU h6 f
  ·try (simp [G] at h6; done)
   all_goals
    simp [G]
    repeat with_reducible refine Zd ?_
    exact Xx [.cell 6 33, .tmp 7] f
  ·try (simp [G] at h6; done)
   all_goals
    have i9 : (ZB a0 a1).1.toNat < a0.ZA.length := by first | omega | (have fi := YG a0 a1 (by first | omega | (simp at *; omega)); omega) | (simp only [Bool.or_eq_false_iff, decide_eq_false_iff_not] at *; omega)
    have i10 : (ZB a0 a1).2.toNat < (nth a0.ZA (ZB a0 a1).1.toNat).ZC.length := by first | omega | (have fi := YG a0 a1 (by first | omega | (simp at *; omega)); omega) | (simp only [Bool.or_eq_false_iff, decide_eq_false_iff_not] at *; omega)
    have i11 : 1 < (nth (nth a0.ZA (ZB a0 a1).1.toNat).ZC (ZB a0 a1).2.toNat).ZJ.ZL.length := by first | omega | (have fi := YG a0 a1 (by first | omega | (simp at *; omega)); omega) | (simp only [Bool.or_eq_false_iff, decide_eq_false_iff_not] at *; omega)
    simp [i9, ZD, i10, i11, G]
    repeat with_reducible refine Zd ?_
    refine cR (xm (nth (nth (nth a0.ZA (ZB a0 a1).1.toNat).ZC (ZB a0 a1).2.toNat).ZJ.ZL 1)) ?_
    simp [G]
    repeat with_reducible refine Zd ?_
    refine cR (jI a0.ZM (ZI (nth (nth (nth a0.ZA (ZB a0 a1).1.toNat).ZC (ZB a0 a1).2.toNat).ZJ.ZL 1)).1.ZQ) ?_
    simp [G]
    repeat with_reducible refine Zd ?_
    refine dIo mixed ?_
    simp [G]
    repeat with_reducible refine Zd ?_
    refine gJo G ?_ ?_ <;> intro G
    ·have fF := G.2
     try (simp at G; done)
     all_goals
      have g3 := G.2; try simp at g3
      all_goals
       have i12 : (ZX a0.ZM (ZI (nth (nth (nth a0.ZA (ZB a0 a1).1.toNat).ZC (ZB a0 a1).2.toNat).ZJ.ZL 1)).1.ZQ).toNat < a0.ZM.length := by have := JX a0.ZM (ZI (nth (nth (nth a0.ZA (ZB a0 a1).1.toNat).ZC (ZB a0 a1).2.toNat).ZJ.ZL 1)).1.ZQ; first | omega | (have fi := YG a0 a1 (by first | omega | (simp at *; omega)); omega) | (simp only [Bool.or_eq_false_iff, decide_eq_false_iff_not] at *; omega)
       simp [i12, ZD, G]
       repeat with_reducible refine Zd ?_
       refine cGo (fun gg => (jB a0.Frame (nth a0.ZM (ZX a0.ZM (ZI (nth (nth (nth a0.ZA (ZB a0 a1).1.toNat).ZC (ZB a0 a1).2.toNat).ZJ.ZL 1)).1.ZQ).toNat).Zm)) ?_
       simp [G]
       repeat with_reducible refine Zd ?_
       refine cKo f ?_ ?_ <;> intro nf h7 f
       ·try (simp [G] at h7; done)
        all_goals
         simp [G]
         repeat with_reducible refine Zd ?_
         exact Xx [.cell 6 33, .tmp 7] f
       ·try (simp [G] at h7; done)
        all_goals
         simp [G]
         repeat with_reducible refine Zd ?_
         refine dIo mixed ?_
         simp [i12, ZD, G]
         repeat with_reducible refine Zd ?_
         refine cR (Qp a0.Frame.Zq (Zn.mk (ZI (nth (nth (nth a0.ZA (ZB a0 a1).1.toNat).ZC (ZB a0 a1).2.toNat).ZJ.ZL 1)).1.ZQ a2 (-1) (nth a0.ZM (ZX a0.ZM (ZI (nth (nth (nth a0.ZA (ZB a0 a1).1.toNat).ZC (ZB a0 a1).2.toNat).ZJ.ZL 1)).1.ZQ).toNat).Zm 0) (sg (Zu.JK (ZG.Yp u0)))) ?_
         simp [G]
         repeat with_reducible refine Zd ?_
         refine cKo f ?_ ?_ <;> intro eT h8 f
         ·try (simp [G] at h8; done)
          all_goals
           simp [G]
           repeat with_reducible refine Zd ?_
           exact Xx [.cell 6 33, .tmp 7] f
         ·try (simp [G] at h8; done)
          all_goals
           simp [G]
           repeat with_reducible refine Zd ?_
           refine dIo mixed ?_
           simp [i9, ZD, G]
           repeat with_reducible refine Zd ?_
           refine cR (YR.rd (XM (Zj a0.Frame.Zq (Zn.mk (ZI (nth (nth (nth a0.ZA (ZB a0 a1).1.toNat).ZC (ZB a0 a1).2.toNat).ZJ.ZL 1)).1.ZQ a2 (-1) (nth a0.ZM (ZX a0.ZM (ZI (nth (nth (nth a0.ZA (ZB a0 a1).1.toNat).ZC (ZB a0 a1).2.toNat).ZJ.ZL 1)).1.ZQ).toNat).Zm 0)).1)) ?_
           simp [G]
           repeat with_reducible refine Zd ?_
           refine cD [] (Xf (nth a0.ZA (ZB a0 a1).1.toNat) a1 (Zr (Zj a0.Frame.Zq (Zn.mk (ZI (nth (nth (nth a0.ZA (ZB a0 a1).1.toNat).ZC (ZB a0 a1).2.toNat).ZJ.ZL 1)).1.ZQ a2 (-1) (nth a0.ZM (ZX a0.ZM (ZI (nth (nth (nth a0.ZA (ZB a0 a1).1.toNat).ZC (ZB a0 a1).2.toNat).ZJ.ZL 1)).1.ZQ).toNat).Zm 0)).1) (sg (Z3 (ZG.YA u0))) (by simp (maxDischargeDepth := 12) [Y1, ZN (m := 2322432) (by decide) u0]; try omega)) ?_
           simp [i9, ZD, G]
           repeat with_reducible refine Zd ?_
           refine jy (t := 19) (j := 7) (i := (ZB a0 a1).1.toNat) (size := 2) (rows := (a0.ZA.map ZE.row)) (ds := (YL (nth a0.ZA (ZB a0 a1).1.toNat) a1 (Zr (Zj a0.Frame.Zq (Zn.mk (ZI (nth (nth (nth a0.ZA (ZB a0 a1).1.toNat).ZC (ZB a0 a1).2.toNat).ZJ.ZL 1)).1.ZQ a2 (-1) (nth a0.ZM (ZX a0.ZM (ZI (nth (nth (nth a0.ZA (ZB a0 a1).1.toNat).ZC (ZB a0 a1).2.toNat).ZJ.ZL 1)).1.ZQ).toNat).Zm 0)).1)).1.row) (L := [(114, 1)]) ?_
           simp [Y4 (x := (YL (nth a0.ZA (ZB a0 a1).1.toNat) a1 (Zr (Zj a0.Frame.Zq (Zn.mk (ZI (nth (nth (nth a0.ZA (ZB a0 a1).1.toNat).ZC (ZB a0 a1).2.toNat).ZJ.ZL 1)).1.ZQ a2 (-1) (nth a0.ZM (ZX a0.ZM (ZI (nth (nth (nth a0.ZA (ZB a0 a1).1.toNat).ZC (ZB a0 a1).2.toNat).ZJ.ZL 1)).1.ZQ).toNat).Zm 0)).1)).1) rfl, i9, ZD, Z9, G]
           repeat with_reducible refine Zd ?_
           exact Xx [.cell 6 33, .tmp 7] f
    ·have fF := G.2
     try (simp at G; done)
     all_goals
      simp [G]
      repeat with_reducible refine Zd ?_
      refine sGo ?_
      simp [G]
      repeat with_reducible refine Zd ?_
      refine cKo f ?_ ?_ <;> intro eU h9 f
      ·try (simp [G] at h9; done)
       all_goals
        simp [G]
        repeat with_reducible refine Zd ?_
        exact Xx [.cell 6 33, .tmp 7] f
      ·try (simp [G] at h9; done)
       all_goals
        simp [G]
        repeat with_reducible refine Zd ?_
        refine dIo mixed ?_
        have i14 : (ZX a0.ZM (ZI (nth (nth (nth a0.ZA (ZB a0 a1).1.toNat).ZC (ZB a0 a1).2.toNat).ZJ.ZL 1)).1.ZQ).toNat < a0.ZM.length := by have := JX a0.ZM (ZI (nth (nth (nth a0.ZA (ZB a0 a1).1.toNat).ZC (ZB a0 a1).2.toNat).ZJ.ZL 1)).1.ZQ; first | omega | (have fi := YG a0 a1 (by first | omega | (simp at *; omega)); omega) | (simp only [Bool.or_eq_false_iff, decide_eq_false_iff_not] at *; omega)
        simp [i14, ZD, G]
        repeat with_reducible refine Zd ?_
        refine cR (Qp a0.Frame.Zq (Zn.mk (ZI (nth (nth (nth a0.ZA (ZB a0 a1).1.toNat).ZC (ZB a0 a1).2.toNat).ZJ.ZL 1)).1.ZQ a2 (-1) (nth a0.ZM (ZX a0.ZM (ZI (nth (nth (nth a0.ZA (ZB a0 a1).1.toNat).ZC (ZB a0 a1).2.toNat).ZJ.ZL 1)).1.ZQ).toNat).Zm 0) (sg (Zu.JK (ZG.Yp u0)))) ?_
        simp [G]
        repeat with_reducible refine Zd ?_
        refine cKo f ?_ ?_ <;> intro dr sH f
        ·try (simp [G] at sH; done)
         all_goals
          simp [G]
          repeat with_reducible refine Zd ?_
          exact Xx [.cell 6 33, .tmp 7] f
        ·try (simp [G] at sH; done)
         all_goals
          simp [G]
          repeat with_reducible refine Zd ?_
          refine dIo mixed ?_
          simp [i9, ZD, G]
          repeat with_reducible refine Zd ?_
          refine cR (YR.rd (XM (Zj a0.Frame.Zq (Zn.mk (ZI (nth (nth (nth a0.ZA (ZB a0 a1).1.toNat).ZC (ZB a0 a1).2.toNat).ZJ.ZL 1)).1.ZQ a2 (-1) (nth a0.ZM (ZX a0.ZM (ZI (nth (nth (nth a0.ZA (ZB a0 a1).1.toNat).ZC (ZB a0 a1).2.toNat).ZJ.ZL 1)).1.ZQ).toNat).Zm 0)).1)) ?_
          simp [G]
          repeat with_reducible refine Zd ?_
          refine cD [] (Xf (nth a0.ZA (ZB a0 a1).1.toNat) a1 (Zr (Zj a0.Frame.Zq (Zn.mk (ZI (nth (nth (nth a0.ZA (ZB a0 a1).1.toNat).ZC (ZB a0 a1).2.toNat).ZJ.ZL 1)).1.ZQ a2 (-1) (nth a0.ZM (ZX a0.ZM (ZI (nth (nth (nth a0.ZA (ZB a0 a1).1.toNat).ZC (ZB a0 a1).2.toNat).ZJ.ZL 1)).1.ZQ).toNat).Zm 0)).1) (sg (Z3 (ZG.YA u0))) (by simp (maxDischargeDepth := 12) [Y1, ZN (m := 2322432) (by decide) u0]; try omega)) ?_
          simp [i9, ZD, G]
          repeat with_reducible refine Zd ?_
          refine jy (t := 19) (j := 7) (i := (ZB a0 a1).1.toNat) (size := 2) (rows := (a0.ZA.map ZE.row)) (ds := (YL (nth a0.ZA (ZB a0 a1).1.toNat) a1 (Zr (Zj a0.Frame.Zq (Zn.mk (ZI (nth (nth (nth a0.ZA (ZB a0 a1).1.toNat).ZC (ZB a0 a1).2.toNat).ZJ.ZL 1)).1.ZQ a2 (-1) (nth a0.ZM (ZX a0.ZM (ZI (nth (nth (nth a0.ZA (ZB a0 a1).1.toNat).ZC (ZB a0 a1).2.toNat).ZJ.ZL 1)).1.ZQ).toNat).Zm 0)).1)).1.row) (L := [(114, 1)]) ?_
          simp [Y4 (x := (YL (nth a0.ZA (ZB a0 a1).1.toNat) a1 (Zr (Zj a0.Frame.Zq (Zn.mk (ZI (nth (nth (nth a0.ZA (ZB a0 a1).1.toNat).ZC (ZB a0 a1).2.toNat).ZJ.ZL 1)).1.ZQ a2 (-1) (nth a0.ZM (ZX a0.ZM (ZI (nth (nth (nth a0.ZA (ZB a0 a1).1.toNat).ZC (ZB a0 a1).2.toNat).ZJ.ZL 1)).1.ZQ).toNat).Zm 0)).1)).1) rfl, i9, ZD, Z9, G]
          repeat with_reducible refine Zd ?_
          exact Xx [.cell 6 33, .tmp 7] f
theorem NG (a0 : ZG) (a1 : Zg) (u0 : Sm 2293760 a0) (u1 : Sm 2293760 a1) : Sa 35 [a0.row, a1.row] [(XN a0 a1).1.row, rB (XN a0 a1).2] := by
 have f := me (XN.eq_1 a0 a1)
 refine so func35 ntmps35 ?_
 refine cF f ?_ ?_ <;> intro k1 h1 f
 ·refine cDs [false, false, false, true, true, false, false, true, false, false, true, false] (IX a0 a1.A (sg u0)) ?_
  exact rt [.cell 4 33, .tmp 5] f
 refine cF f ?_ ?_ <;> intro k2 h2 f
 ·refine cDs [false, false, false, true, true, false, false, true, false, false, true, false] (IK a0 a1.A a1.B a1.Doc a1.C a1.D (sg u0) (sg (Zg.kl u1))) ?_
  exact rt [.cell 4 33, .tmp 5] f
 refine cF f ?_ ?_ <;> intro k3 h3 f
 ·refine cDs [false, false, false, true, true, false, false, true, false, false, true, false] (NP a0 a1.A (sg u0)) ?_
  exact rt [.cell 4 33, .tmp 5] f
 refine cF f ?_ ?_ <;> intro k4 h4 f
 ·refine cDs [false, false, false, true, true, false, false, true, false, false, true, false] (O9 a0 a1.A (sg u0)) ?_
  exact rt [.cell 4 33, .tmp 5] f
 refine cF f ?_ ?_ <;> intro k5 h5 f
 ·refine cDs [false, false, false, true, true, false, false, true, false, false, true, false] (Nz a0 a1.A a1.Ids a1.B (sg u0) (sg (Zg.EE u1))) ?_
  exact rt [.cell 4 33, .tmp 5] f
 refine cF f ?_ ?_ <;> intro k6 h6 f
 ·refine cDs [false, false, false, true, true, false, false, true, false, false, true, false] (Lx a0 a1.A a1.B a1.C (sg u0)) ?_
  exact rt [.cell 4 33, .tmp 5] f
 refine cF f ?_ ?_ <;> intro k7 h7 f
 ·refine cOs (Nk a0 a1.A (sg u0)) ?_
  exact rt [.cell 4 33, .tmp 5] f
 refine cF f ?_ ?_ <;> intro k8 h8 f
 ·refine cDs [false, false, false, true, true, false, false, true, false, false, true, false] (M6 a0 a1.A a1.B a1.Doc (sg u0) (sg (Zg.kl u1))) ?_
  exact rt [.cell 4 33, .tmp 5] f
 refine cF f ?_ ?_ <;> intro k9 h9 f
 ·refine cDs [false, false, false, true, true, false, false, true, false, false, true, false] (R7 a0 a1.A a1.B (sg u0)) ?_
  exact rt [.cell 4 33, .tmp 5] f
 refine cF f ?_ ?_ <;> intro ox sH f
 ·refine cDs [false, false, false, true, true, false, false, true, false, false, true, false] (Ih a0 a1.A a1.B (sg u0)) ?_
  exact rt [.cell 4 33, .tmp 5] f
 refine cDs [false, false, false, true, true, false, false, true, false, false, true, false] (Xt a0 (sg u0)) ?_
 exact rt [.cell 4 33, .tmp 5] f
theorem Ma (a0 : ZG) (a1 : List Zg) (u0 : Sm 1048576 a0) (u1 : Sm 1048576 a1) : Sa 41 [a0.row, rL 9 Zg.row a1] [(K1 a0 a1).row] := by
 have f := me (K1.eq_1 a0 a1)
 refine so func41 ntmps41 ?_
 refine cDs [false, false, false, true, true, false, false, true, false, false, true, false] (Xt a0 (sg u0)) ?_
 refine wC (yx.eq_2 a1) (fun J U uF uR ud u7 uz u3 u4 u5 ue uh uf => Yn 25 [eL 1 9 a1 Zg.row, (4, .one (.bptr 4 0), [.box [.nil 5, .nil 3, .nil 4, .d (.int .i64 0), .d (.int .i64 0), .nil 7, .nil 1, .nil 2, .nil 1, .nil 1, .d (.int .i64 0), .nil 1]]), (5, .one (.bptr 5 0), [.box [.d (.sl 5 (U.map XD.row)), .d (.sl 3 (uF.map Zw.row)), .d (.sl 4 (uR.map YE.row)), .d (.int .i64 ud), .d (.int .i64 u7), .d (.sl 7 (uz.map Yi.row)), .d (.sl 1 (u3.map iR)), .d (.sl 2 (u4.map ZE.row)), .d (.sl 1 (u5.map iR)), .d (.sl 1 (ue.map iR)), .d (.int .i64 uh), .d (.sl 1 (uf.map iR))]]), eI 6 (J : Int)]) (fun n1 J U uF uR ud u7 uz u3 u4 u5 ue uh uf => a1.length < n1 + J /\ J <= a1.length /\ Sm (1048576 + J) (ZG.mk (Zu.mk U uF uR ud u7) uz u3 u4 u5 ue uh uf)) (a1.length + 1) 0 a0.Frame.Zq a0.Frame.ZF a0.Frame.Methods a0.Frame.KE a0.Frame.Now a0.ZM a0.Zy a0.ZA a0.Yb a0.YO a0.Next a0.YF (fun p1 J U uF uR ud u7 uz u3 u4 u5 ue uh uf e1 j1 => ?_) (hI := by exact ⟨by omega, by omega, Nat.zero_le _, u0⟩) (h0 := wkS [] [(8, 0), (8, 1), (8, 2), (8, 5), (8, 6), (8, 7), (8, 8), (8, 9), (8, 11)])
 try dsimp only at j1
 refine cF e1 ?_ ?_ <;> intro k2 h1 e1
 ·have i1 := ix h1
  have m2 := ml a1 (k2 1 _ rfl)
  have c1 := sl 1048576 a1 (an u0 u1)
  have w1 := wr J
  refine dIo mixed ?_
  simp [i1, ZD]
  refine rpS ?_
  refine cRs (NG (ZG.mk (Zu.mk U uF uR ud u7) uz u3 u4 u5 ue uh uf) (nth a1 J) (by first | exact sg (Z3 u1) | (have hl := Yk u1; exact ZN (n := 1048576 + J) (by omega) j1.2.2.2) | exact sg u0) (by first | exact sg (Z3 u1) | (have hl := Yk u1; exact ZN (n := 1048576 + J) (by omega) j1.2.2.2) | exact sg u0)) ?_
  exact wx w1 e1 (hI := by (have hl := Yk u1; (try dsimp only); refine ⟨by omega, by omega, by omega, ?_⟩; exact VR (n := 1048576 + J) j1.2.2.2 (ZN (n := 1048576) (by omega) (Z3 u1)) (by omega)))
 have c2 := sl 1048576 a1 (an u0 u1)
 have f := ms f e1
 exact rt [.cell 4 33] f
theorem Ke (a0 : List UInt8) (u0 : Sm 2285568 a0) : Sa 17 [rL 1 bR a0] [(ZY a0).1.row, (ZY a0).2.row] := by
 have f := me (ZY.eq_1 a0)
 refine so func17 ntmps17 ?_
 refine cNs (M9 a0) ?_
 refine cBs [] (Yc (YY a0) 2) ?_
 refine cRs (YR.rd (SK (ZH (YY a0) 2).2)) ?_
 refine cBs [] (TU (ZH (YY a0) 2).1 8) ?_
 refine cRs (Ma (XS (ZH (YY a0) 2).2) (Z7 (ZH (YY a0) 2).1 8).2 (by exact Wy (by decide)) (by exact kc (by decide) (by decide) (by decide))) ?_
 refine cBs [] (VG (Z7 (ZH (YY a0) 2).1 8).1) ?_
 refine cBs [] (Yc (Z0 (Z7 (ZH (YY a0) 2).1 8).1).1 8) ?_
 refine cF f ?_ ?_ <;> intro k1 h1 f
 ·refine cBs [] (Yc (ZH (Z0 (Z7 (ZH (YY a0) 2).1 8).1).1 8).1 13) ?_
  refine LX [(2, 2), (3, 3), (5, 5), (6, 6)] mixed (by kernel_rfl) (by kernel_rfl) (by kernel_rfl) (by kernel_rfl) ?_
  simp
  exact rt [.cell 2 33, .cell 3 45] f
 refine cF f ?_ ?_ <;> intro k3 h2 f
 ·refine jh [(28, 0)] rfl (by simp) ?_
  refine cBs [] (QO (ZH (Z0 (Z7 (ZH (YY a0) 2).1 8).1).1 8).1 ([(-1), 4, 101, 9223372036854775807] : List Int) (by first | omega | (simp; done) | (simp; omega))) ?_
  refine LX [(2, 2), (3, 3), (5, 5), (6, 6)] mixed (by kernel_rfl) (by kernel_rfl) (by kernel_rfl) (by kernel_rfl) ?_
  simp
  exact rt [.cell 2 33, .cell 3 45] f
 refine cF f ?_ ?_ <;> intro k5 h3 f
 ·refine jh [(34, 0)] rfl (by simp) ?_
  refine cBs [] (QO (ZH (Z0 (Z7 (ZH (YY a0) 2).1 8).1).1 8).1 ([(-1), 4, 9223372036854775807, (-9223372036854775808)] : List Int) (by first | omega | (simp; done) | (simp; omega))) ?_
  refine LX [(2, 2), (3, 3), (5, 5), (6, 6)] mixed (by kernel_rfl) (by kernel_rfl) (by kernel_rfl) (by kernel_rfl) ?_
  simp
  exact rt [.cell 2 33, .cell 3 45] f
 refine LX [(2, 2), (3, 3), (5, 5), (6, 6)] mixed (by kernel_rfl) (by kernel_rfl) (by kernel_rfl) (by kernel_rfl) ?_
 simp
 exact rt [.cell 2 33, .cell 3 45] f
end Go.Proofs.YthjkhlcbpfnobaaGreat
