/- Contracts of the functions OB the abstract machine, part S2. No condition. -/
import Derived.Test.YtnldgbpopofnoaaGreatCS1
namespace Go.Proofs.YtnldgbpopofnoaaGreat
open Tryz
open Go.Vm Go.Mo
set_option maxHeartbeats 1000000
set_option maxRecDepth 100000
set_option linter.unusedSimpArgs false
set_option linter.unusedVariables false
theorem Zb {a b : Prop} (h : b) (k : a := by (intros; first | omega | with_unfolding_all (first | first | omega | (have fi := Z8 a0 a1 (by first | omega | (simp at *; omega)); omega) | (simp only [Bool.or_eq_false_iff, decide_eq_false_iff_not] at *; omega)) | (simp_all; done) | (simp_all; omega) | grind | ((try simp only [XT, show ∀ x, IntKind.i64.wrap x = W x from fun _ => rfl] at *); omega))) : a /\ b := ⟨k, h⟩
theorem Mb (a0 : ZN) (a1 : Int) (a2 : Int) (u0 : Sm 2318336 a0) : Sd 85 [a0.row, rI a1, rI a2] [(xd a0 a1 a2).1.row, rB (xd a0 a1 a2).2] := by
 have f := me (xd.eq_1 a0 a1 a2)
 refine soD func85 ntmps85 ?_
 refine cDs [false, false, false, true, true, false, false, true, false, false, true, false] (Xd a0 (sg u0)) ?_
 refine cRs (UZ a0 a1) ?_
 refine gIo ?_ ?_ <;> intro G
 ·have vh := G
  have g1 := G; try simp at g1
  have i1 : (ZA a0 a1).1.toNat < a0.ZB.length := by first | omega | (have fi := Z8 a0 a1 (by first | omega | (simp at *; omega)); omega) | (simp only [Bool.or_eq_false_iff, decide_eq_false_iff_not] at *; omega)
  simp [i1, ZC, G]
  repeat with_reducible refine Zb ?_
  refine gK (fun _ => ?_)
  have i2 : (ZA a0 a1).2.toNat < (nth a0.ZB (ZA a0 a1).1.toNat).ZE.length := by first | omega | (have fi := Z8 a0 a1 (by first | omega | (simp at *; omega)); omega) | (simp only [Bool.or_eq_false_iff, decide_eq_false_iff_not] at *; omega)
  simp [i2, ZC, G]
  repeat with_reducible refine Zb ?_
  refine cKo f ?_ ?_ <;> intro k1 h1 f
  ·try (simp [G] at h1; done)
   all_goals
    simp [G]
    repeat with_reducible refine Zb ?_
    exact Jf [.cell 6 33, .tmp 7] f
  ·try (simp [G] at h1; done)
   all_goals
    have i3 : 1 < (nth (nth a0.ZB (ZA a0 a1).1.toNat).ZE (ZA a0 a1).2.toNat).ZL.ZH.length := by first | omega | (have fi := Z8 a0 a1 (by first | omega | (simp at *; omega)); omega) | (simp only [Bool.or_eq_false_iff, decide_eq_false_iff_not] at *; omega)
    simp [i1, ZC, i2, i3, G]
    repeat with_reducible refine Zb ?_
    refine cR (xH (nth (nth (nth a0.ZB (ZA a0 a1).1.toNat).ZE (ZA a0 a1).2.toNat).ZL.ZH 1)) ?_
    simp [G]
    repeat with_reducible refine Zb ?_
    refine cR (xv a0.ZT (ZD (nth (nth (nth a0.ZB (ZA a0 a1).1.toNat).ZE (ZA a0 a1).2.toNat).ZL.ZH 1)).1.ZO) ?_
    simp [G]
    repeat with_reducible refine Zb ?_
    refine dIo mixed ?_
    simp [G]
    repeat with_reducible refine Zb ?_
    refine gJo G ?_ ?_ <;> intro G
    ·have ld := G.2
     try (simp at G; done)
     all_goals
      have g2 := G.2; try simp at g2
      all_goals
       have i4 : (ZQ a0.ZT (ZD (nth (nth (nth a0.ZB (ZA a0 a1).1.toNat).ZE (ZA a0 a1).2.toNat).ZL.ZH 1)).1.ZO).toNat < a0.ZT.length := by have := Q8 a0.ZT (ZD (nth (nth (nth a0.ZB (ZA a0 a1).1.toNat).ZE (ZA a0 a1).2.toNat).ZL.ZH 1)).1.ZO; first | omega | (have fi := Z8 a0 a1 (by first | omega | (simp at *; omega)); omega) | (simp only [Bool.or_eq_false_iff, decide_eq_false_iff_not] at *; omega)
       simp [i4, ZC, G]
       repeat with_reducible refine Zb ?_
       refine cGo (fun gg => (qB a0.Frame (nth a0.ZT (ZQ a0.ZT (ZD (nth (nth (nth a0.ZB (ZA a0 a1).1.toNat).ZE (ZA a0 a1).2.toNat).ZL.ZH 1)).1.ZO).toNat).Zq)) ?_
       simp [G]
       repeat with_reducible refine Zb ?_
       refine cKo f ?_ ?_ <;> intro k3 h2 f
       ·try (simp [G] at h2; done)
        all_goals
         simp [G]
         repeat with_reducible refine Zb ?_
         exact Jf [.cell 6 33, .tmp 7] f
       ·try (simp [G] at h2; done)
        all_goals
         simp [G]
         repeat with_reducible refine Zb ?_
         refine dIo mixed ?_
         simp [i4, ZC, G]
         repeat with_reducible refine Zb ?_
         refine cR (QM a0.Frame.Z6 (Zh.mk (ZD (nth (nth (nth a0.ZB (ZA a0 a1).1.toNat).ZE (ZA a0 a1).2.toNat).ZL.ZH 1)).1.ZO a2 (-1) (nth a0.ZT (ZQ a0.ZT (ZD (nth (nth (nth a0.ZB (ZA a0 a1).1.toNat).ZE (ZA a0 a1).2.toNat).ZL.ZH 1)).1.ZO).toNat).Zq 0) (sg (Ze.Yo (ZN.Xj u0)))) ?_
         simp [G]
         repeat with_reducible refine Zb ?_
         refine cKo f ?_ ?_ <;> intro k5 h3 f
         ·try (simp [G] at h3; done)
          all_goals
           simp [G]
           repeat with_reducible refine Zb ?_
           exact Jf [.cell 6 33, .tmp 7] f
         ·try (simp [G] at h3; done)
          all_goals
           simp [G]
           repeat with_reducible refine Zb ?_
           refine dIo mixed ?_
           simp [i1, ZC, G]
           repeat with_reducible refine Zb ?_
           refine cR (YN.rd (Y6 (Zf a0.Frame.Z6 (Zh.mk (ZD (nth (nth (nth a0.ZB (ZA a0 a1).1.toNat).ZE (ZA a0 a1).2.toNat).ZL.ZH 1)).1.ZO a2 (-1) (nth a0.ZT (ZQ a0.ZT (ZD (nth (nth (nth a0.ZB (ZA a0 a1).1.toNat).ZE (ZA a0 a1).2.toNat).ZL.ZH 1)).1.ZO).toNat).Zq 0)).1)) ?_
           simp [G]
           repeat with_reducible refine Zb ?_
           refine cD [] (XL (nth a0.ZB (ZA a0 a1).1.toNat) a1 (Zm (Zf a0.Frame.Z6 (Zh.mk (ZD (nth (nth (nth a0.ZB (ZA a0 a1).1.toNat).ZE (ZA a0 a1).2.toNat).ZL.ZH 1)).1.ZO a2 (-1) (nth a0.ZT (ZQ a0.ZT (ZD (nth (nth (nth a0.ZB (ZA a0 a1).1.toNat).ZE (ZA a0 a1).2.toNat).ZL.ZH 1)).1.ZO).toNat).Zq 0)).1) (sg (Zu (ZN.YQ u0))) (by simp (maxDischargeDepth := 12) [Yr, ZU (m := 2322432) (by decide) u0]; try omega)) ?_
           simp [i1, ZC, G]
           repeat with_reducible refine Zb ?_
           refine V3 (t := 19) (j := 7) (i := (ZA a0 a1).1.toNat) (size := 2) (rows := (a0.ZB.map ZJ.row)) (ds := (YD (nth a0.ZB (ZA a0 a1).1.toNat) a1 (Zm (Zf a0.Frame.Z6 (Zh.mk (ZD (nth (nth (nth a0.ZB (ZA a0 a1).1.toNat).ZE (ZA a0 a1).2.toNat).ZL.ZH 1)).1.ZO a2 (-1) (nth a0.ZT (ZQ a0.ZT (ZD (nth (nth (nth a0.ZB (ZA a0 a1).1.toNat).ZE (ZA a0 a1).2.toNat).ZL.ZH 1)).1.ZO).toNat).Zq 0)).1)).1.row) (L := [(114, 1)]) ?_
           simp [Xv (x := (YD (nth a0.ZB (ZA a0 a1).1.toNat) a1 (Zm (Zf a0.Frame.Z6 (Zh.mk (ZD (nth (nth (nth a0.ZB (ZA a0 a1).1.toNat).ZE (ZA a0 a1).2.toNat).ZL.ZH 1)).1.ZO a2 (-1) (nth a0.ZT (ZQ a0.ZT (ZD (nth (nth (nth a0.ZB (ZA a0 a1).1.toNat).ZE (ZA a0 a1).2.toNat).ZL.ZH 1)).1.ZO).toNat).Zq 0)).1)).1) rfl, i1, ZC, YS, G]
           repeat with_reducible refine Zb ?_
           exact Jf [.cell 6 33, .tmp 7] f
    ·have ld := G.2
     try (simp at G; done)
     all_goals
      simp [G]
      repeat with_reducible refine Zb ?_
      refine sGo ?_
      simp [G]
      repeat with_reducible refine Zb ?_
      refine cKo f ?_ ?_ <;> intro k7 h4 f
      ·try (simp [G] at h4; done)
       all_goals
        simp [G]
        repeat with_reducible refine Zb ?_
        exact Jf [.cell 6 33, .tmp 7] f
      ·try (simp [G] at h4; done)
       all_goals
        simp [G]
        repeat with_reducible refine Zb ?_
        refine dIo mixed ?_
        have i6 : (ZQ a0.ZT (ZD (nth (nth (nth a0.ZB (ZA a0 a1).1.toNat).ZE (ZA a0 a1).2.toNat).ZL.ZH 1)).1.ZO).toNat < a0.ZT.length := by have := Q8 a0.ZT (ZD (nth (nth (nth a0.ZB (ZA a0 a1).1.toNat).ZE (ZA a0 a1).2.toNat).ZL.ZH 1)).1.ZO; first | omega | (have fi := Z8 a0 a1 (by first | omega | (simp at *; omega)); omega) | (simp only [Bool.or_eq_false_iff, decide_eq_false_iff_not] at *; omega)
        simp [i6, ZC, G]
        repeat with_reducible refine Zb ?_
        refine cR (QM a0.Frame.Z6 (Zh.mk (ZD (nth (nth (nth a0.ZB (ZA a0 a1).1.toNat).ZE (ZA a0 a1).2.toNat).ZL.ZH 1)).1.ZO a2 (-1) (nth a0.ZT (ZQ a0.ZT (ZD (nth (nth (nth a0.ZB (ZA a0 a1).1.toNat).ZE (ZA a0 a1).2.toNat).ZL.ZH 1)).1.ZO).toNat).Zq 0) (sg (Ze.Yo (ZN.Xj u0)))) ?_
        simp [G]
        repeat with_reducible refine Zb ?_
        refine cKo f ?_ ?_ <;> intro k9 h5 f
        ·try (simp [G] at h5; done)
         all_goals
          simp [G]
          repeat with_reducible refine Zb ?_
          exact Jf [.cell 6 33, .tmp 7] f
        ·try (simp [G] at h5; done)
         all_goals
          simp [G]
          repeat with_reducible refine Zb ?_
          refine dIo mixed ?_
          simp [i1, ZC, G]
          repeat with_reducible refine Zb ?_
          refine cR (YN.rd (Y6 (Zf a0.Frame.Z6 (Zh.mk (ZD (nth (nth (nth a0.ZB (ZA a0 a1).1.toNat).ZE (ZA a0 a1).2.toNat).ZL.ZH 1)).1.ZO a2 (-1) (nth a0.ZT (ZQ a0.ZT (ZD (nth (nth (nth a0.ZB (ZA a0 a1).1.toNat).ZE (ZA a0 a1).2.toNat).ZL.ZH 1)).1.ZO).toNat).Zq 0)).1)) ?_
          simp [G]
          repeat with_reducible refine Zb ?_
          refine cD [] (XL (nth a0.ZB (ZA a0 a1).1.toNat) a1 (Zm (Zf a0.Frame.Z6 (Zh.mk (ZD (nth (nth (nth a0.ZB (ZA a0 a1).1.toNat).ZE (ZA a0 a1).2.toNat).ZL.ZH 1)).1.ZO a2 (-1) (nth a0.ZT (ZQ a0.ZT (ZD (nth (nth (nth a0.ZB (ZA a0 a1).1.toNat).ZE (ZA a0 a1).2.toNat).ZL.ZH 1)).1.ZO).toNat).Zq 0)).1) (sg (Zu (ZN.YQ u0))) (by simp (maxDischargeDepth := 12) [Yr, ZU (m := 2322432) (by decide) u0]; try omega)) ?_
          simp [i1, ZC, G]
          repeat with_reducible refine Zb ?_
          refine V3 (t := 19) (j := 7) (i := (ZA a0 a1).1.toNat) (size := 2) (rows := (a0.ZB.map ZJ.row)) (ds := (YD (nth a0.ZB (ZA a0 a1).1.toNat) a1 (Zm (Zf a0.Frame.Z6 (Zh.mk (ZD (nth (nth (nth a0.ZB (ZA a0 a1).1.toNat).ZE (ZA a0 a1).2.toNat).ZL.ZH 1)).1.ZO a2 (-1) (nth a0.ZT (ZQ a0.ZT (ZD (nth (nth (nth a0.ZB (ZA a0 a1).1.toNat).ZE (ZA a0 a1).2.toNat).ZL.ZH 1)).1.ZO).toNat).Zq 0)).1)).1.row) (L := [(114, 1)]) ?_
          simp [Xv (x := (YD (nth a0.ZB (ZA a0 a1).1.toNat) a1 (Zm (Zf a0.Frame.Z6 (Zh.mk (ZD (nth (nth (nth a0.ZB (ZA a0 a1).1.toNat).ZE (ZA a0 a1).2.toNat).ZL.ZH 1)).1.ZO a2 (-1) (nth a0.ZT (ZQ a0.ZT (ZD (nth (nth (nth a0.ZB (ZA a0 a1).1.toNat).ZE (ZA a0 a1).2.toNat).ZL.ZH 1)).1.ZO).toNat).Zq 0)).1)).1) rfl, i1, ZC, YS, G]
          repeat with_reducible refine Zb ?_
          exact Jf [.cell 6 33, .tmp 7] f
 ·have vh := G
  simp [G]
  repeat with_reducible refine Zb ?_
  refine sGo ?_
  simp [G]
  repeat with_reducible refine Zb ?_
  refine cKo f ?_ ?_ <;> intro pK h6 f
  ·try (simp [G] at h6; done)
   all_goals
    simp [G]
    repeat with_reducible refine Zb ?_
    exact Jf [.cell 6 33, .tmp 7] f
  ·try (simp [G] at h6; done)
   all_goals
    have i9 : (ZA a0 a1).1.toNat < a0.ZB.length := by first | omega | (have fi := Z8 a0 a1 (by first | omega | (simp at *; omega)); omega) | (simp only [Bool.or_eq_false_iff, decide_eq_false_iff_not] at *; omega)
    have i10 : (ZA a0 a1).2.toNat < (nth a0.ZB (ZA a0 a1).1.toNat).ZE.length := by first | omega | (have fi := Z8 a0 a1 (by first | omega | (simp at *; omega)); omega) | (simp only [Bool.or_eq_false_iff, decide_eq_false_iff_not] at *; omega)
    have i11 : 1 < (nth (nth a0.ZB (ZA a0 a1).1.toNat).ZE (ZA a0 a1).2.toNat).ZL.ZH.length := by first | omega | (have fi := Z8 a0 a1 (by first | omega | (simp at *; omega)); omega) | (simp only [Bool.or_eq_false_iff, decide_eq_false_iff_not] at *; omega)
    simp [i9, ZC, i10, i11, G]
    repeat with_reducible refine Zb ?_
    refine cR (xH (nth (nth (nth a0.ZB (ZA a0 a1).1.toNat).ZE (ZA a0 a1).2.toNat).ZL.ZH 1)) ?_
    simp [G]
    repeat with_reducible refine Zb ?_
    refine cR (xv a0.ZT (ZD (nth (nth (nth a0.ZB (ZA a0 a1).1.toNat).ZE (ZA a0 a1).2.toNat).ZL.ZH 1)).1.ZO) ?_
    simp [G]
    repeat with_reducible refine Zb ?_
    refine dIo mixed ?_
    simp [G]
    repeat with_reducible refine Zb ?_
    refine gJo G ?_ ?_ <;> intro G
    ·have lf := G.2
     try (simp at G; done)
     all_goals
      have g3 := G.2; try simp at g3
      all_goals
       have i12 : (ZQ a0.ZT (ZD (nth (nth (nth a0.ZB (ZA a0 a1).1.toNat).ZE (ZA a0 a1).2.toNat).ZL.ZH 1)).1.ZO).toNat < a0.ZT.length := by have := Q8 a0.ZT (ZD (nth (nth (nth a0.ZB (ZA a0 a1).1.toNat).ZE (ZA a0 a1).2.toNat).ZL.ZH 1)).1.ZO; first | omega | (have fi := Z8 a0 a1 (by first | omega | (simp at *; omega)); omega) | (simp only [Bool.or_eq_false_iff, decide_eq_false_iff_not] at *; omega)
       simp [i12, ZC, G]
       repeat with_reducible refine Zb ?_
       refine cGo (fun gg => (qB a0.Frame (nth a0.ZT (ZQ a0.ZT (ZD (nth (nth (nth a0.ZB (ZA a0 a1).1.toNat).ZE (ZA a0 a1).2.toNat).ZL.ZH 1)).1.ZO).toNat).Zq)) ?_
       simp [G]
       repeat with_reducible refine Zb ?_
       refine cKo f ?_ ?_ <;> intro pS h7 f
       ·try (simp [G] at h7; done)
        all_goals
         simp [G]
         repeat with_reducible refine Zb ?_
         exact Jf [.cell 6 33, .tmp 7] f
       ·try (simp [G] at h7; done)
        all_goals
         simp [G]
         repeat with_reducible refine Zb ?_
         refine dIo mixed ?_
         simp [i12, ZC, G]
         repeat with_reducible refine Zb ?_
         refine cR (QM a0.Frame.Z6 (Zh.mk (ZD (nth (nth (nth a0.ZB (ZA a0 a1).1.toNat).ZE (ZA a0 a1).2.toNat).ZL.ZH 1)).1.ZO a2 (-1) (nth a0.ZT (ZQ a0.ZT (ZD (nth (nth (nth a0.ZB (ZA a0 a1).1.toNat).ZE (ZA a0 a1).2.toNat).ZL.ZH 1)).1.ZO).toNat).Zq 0) (sg (Ze.Yo (ZN.Xj u0)))) ?_
         simp [G]
         repeat with_reducible refine Zb ?_
         refine cKo f ?_ ?_ <;> intro mr h8 f
         ·try (simp [G] at h8; done)
          all_goals
           simp [G]
           repeat with_reducible refine Zb ?_
           exact Jf [.cell 6 33, .tmp 7] f
         ·try (simp [G] at h8; done)
          all_goals
           simp [G]
           repeat with_reducible refine Zb ?_
           refine dIo mixed ?_
           simp [i9, ZC, G]
           repeat with_reducible refine Zb ?_
           refine cR (YN.rd (Y6 (Zf a0.Frame.Z6 (Zh.mk (ZD (nth (nth (nth a0.ZB (ZA a0 a1).1.toNat).ZE (ZA a0 a1).2.toNat).ZL.ZH 1)).1.ZO a2 (-1) (nth a0.ZT (ZQ a0.ZT (ZD (nth (nth (nth a0.ZB (ZA a0 a1).1.toNat).ZE (ZA a0 a1).2.toNat).ZL.ZH 1)).1.ZO).toNat).Zq 0)).1)) ?_
           simp [G]
           repeat with_reducible refine Zb ?_
           refine cD [] (XL (nth a0.ZB (ZA a0 a1).1.toNat) a1 (Zm (Zf a0.Frame.Z6 (Zh.mk (ZD (nth (nth (nth a0.ZB (ZA a0 a1).1.toNat).ZE (ZA a0 a1).2.toNat).ZL.ZH 1)).1.ZO a2 (-1) (nth a0.ZT (ZQ a0.ZT (ZD (nth (nth (nth a0.ZB (ZA a0 a1).1.toNat).ZE (ZA a0 a1).2.toNat).ZL.ZH 1)).1.ZO).toNat).Zq 0)).1) (sg (Zu (ZN.YQ u0))) (by simp (maxDischargeDepth := 12) [Yr, ZU (m := 2322432) (by decide) u0]; try omega)) ?_
           simp [i9, ZC, G]
           repeat with_reducible refine Zb ?_
           refine V3 (t := 19) (j := 7) (i := (ZA a0 a1).1.toNat) (size := 2) (rows := (a0.ZB.map ZJ.row)) (ds := (YD (nth a0.ZB (ZA a0 a1).1.toNat) a1 (Zm (Zf a0.Frame.Z6 (Zh.mk (ZD (nth (nth (nth a0.ZB (ZA a0 a1).1.toNat).ZE (ZA a0 a1).2.toNat).ZL.ZH 1)).1.ZO a2 (-1) (nth a0.ZT (ZQ a0.ZT (ZD (nth (nth (nth a0.ZB (ZA a0 a1).1.toNat).ZE (ZA a0 a1).2.toNat).ZL.ZH 1)).1.ZO).toNat).Zq 0)).1)).1.row) (L := [(114, 1)]) ?_
           simp [Xv (x := (YD (nth a0.ZB (ZA a0 a1).1.toNat) a1 (Zm (Zf a0.Frame.Z6 (Zh.mk (ZD (nth (nth (nth a0.ZB (ZA a0 a1).1.toNat).ZE (ZA a0 a1).2.toNat).ZL.ZH 1)).1.ZO a2 (-1) (nth a0.ZT (ZQ a0.ZT (ZD (nth (nth (nth a0.ZB (ZA a0 a1).1.toNat).ZE (ZA a0 a1).2.toNat).ZL.ZH 1)).1.ZO).toNat).Zq 0)).1)).1) rfl, i9, ZC, YS, G]
           repeat with_reducible refine Zb ?_
           exact Jf [.cell 6 33, .tmp 7] f
    ·have lf := G.2
     try (simp at G; done)
     all_goals
      simp [G]
      repeat with_reducible refine Zb ?_
      refine sGo ?_
      simp [G]
      repeat with_reducible refine Zb ?_
      refine cKo f ?_ ?_ <;> intro lb h9 f
      ·try (simp [G] at h9; done)
       all_goals
        simp [G]
        repeat with_reducible refine Zb ?_
        exact Jf [.cell 6 33, .tmp 7] f
      ·try (simp [G] at h9; done)
       all_goals
        simp [G]
        repeat with_reducible refine Zb ?_
        refine dIo mixed ?_
        have i14 : (ZQ a0.ZT (ZD (nth (nth (nth a0.ZB (ZA a0 a1).1.toNat).ZE (ZA a0 a1).2.toNat).ZL.ZH 1)).1.ZO).toNat < a0.ZT.length := by have := Q8 a0.ZT (ZD (nth (nth (nth a0.ZB (ZA a0 a1).1.toNat).ZE (ZA a0 a1).2.toNat).ZL.ZH 1)).1.ZO; first | omega | (have fi := Z8 a0 a1 (by first | omega | (simp at *; omega)); omega) | (simp only [Bool.or_eq_false_iff, decide_eq_false_iff_not] at *; omega)
        simp [i14, ZC, G]
        repeat with_reducible refine Zb ?_
        refine cR (QM a0.Frame.Z6 (Zh.mk (ZD (nth (nth (nth a0.ZB (ZA a0 a1).1.toNat).ZE (ZA a0 a1).2.toNat).ZL.ZH 1)).1.ZO a2 (-1) (nth a0.ZT (ZQ a0.ZT (ZD (nth (nth (nth a0.ZB (ZA a0 a1).1.toNat).ZE (ZA a0 a1).2.toNat).ZL.ZH 1)).1.ZO).toNat).Zq 0) (sg (Ze.Yo (ZN.Xj u0)))) ?_
        simp [G]
        repeat with_reducible refine Zb ?_
        refine cKo f ?_ ?_ <;> intro ei tc f
        ·try (simp [G] at tc; done)
         all_goals
          simp [G]
          repeat with_reducible refine Zb ?_
          exact Jf [.cell 6 33, .tmp 7] f
        ·try (simp [G] at tc; done)
         all_goals
          simp [G]
          repeat with_reducible refine Zb ?_
          refine dIo mixed ?_
          simp [i9, ZC, G]
          repeat with_reducible refine Zb ?_
          refine cR (YN.rd (Y6 (Zf a0.Frame.Z6 (Zh.mk (ZD (nth (nth (nth a0.ZB (ZA a0 a1).1.toNat).ZE (ZA a0 a1).2.toNat).ZL.ZH 1)).1.ZO a2 (-1) (nth a0.ZT (ZQ a0.ZT (ZD (nth (nth (nth a0.ZB (ZA a0 a1).1.toNat).ZE (ZA a0 a1).2.toNat).ZL.ZH 1)).1.ZO).toNat).Zq 0)).1)) ?_
          simp [G]
          repeat with_reducible refine Zb ?_
          refine cD [] (XL (nth a0.ZB (ZA a0 a1).1.toNat) a1 (Zm (Zf a0.Frame.Z6 (Zh.mk (ZD (nth (nth (nth a0.ZB (ZA a0 a1).1.toNat).ZE (ZA a0 a1).2.toNat).ZL.ZH 1)).1.ZO a2 (-1) (nth a0.ZT (ZQ a0.ZT (ZD (nth (nth (nth a0.ZB (ZA a0 a1).1.toNat).ZE (ZA a0 a1).2.toNat).ZL.ZH 1)).1.ZO).toNat).Zq 0)).1) (sg (Zu (ZN.YQ u0))) (by simp (maxDischargeDepth := 12) [Yr, ZU (m := 2322432) (by decide) u0]; try omega)) ?_
          simp [i9, ZC, G]
          repeat with_reducible refine Zb ?_
          refine V3 (t := 19) (j := 7) (i := (ZA a0 a1).1.toNat) (size := 2) (rows := (a0.ZB.map ZJ.row)) (ds := (YD (nth a0.ZB (ZA a0 a1).1.toNat) a1 (Zm (Zf a0.Frame.Z6 (Zh.mk (ZD (nth (nth (nth a0.ZB (ZA a0 a1).1.toNat).ZE (ZA a0 a1).2.toNat).ZL.ZH 1)).1.ZO a2 (-1) (nth a0.ZT (ZQ a0.ZT (ZD (nth (nth (nth a0.ZB (ZA a0 a1).1.toNat).ZE (ZA a0 a1).2.toNat).ZL.ZH 1)).1.ZO).toNat).Zq 0)).1)).1.row) (L := [(114, 1)]) ?_
          simp [Xv (x := (YD (nth a0.ZB (ZA a0 a1).1.toNat) a1 (Zm (Zf a0.Frame.Z6 (Zh.mk (ZD (nth (nth (nth a0.ZB (ZA a0 a1).1.toNat).ZE (ZA a0 a1).2.toNat).ZL.ZH 1)).1.ZO a2 (-1) (nth a0.ZT (ZQ a0.ZT (ZD (nth (nth (nth a0.ZB (ZA a0 a1).1.toNat).ZE (ZA a0 a1).2.toNat).ZL.ZH 1)).1.ZO).toNat).Zq 0)).1)).1) rfl, i9, ZC, YS, G]
          repeat with_reducible refine Zb ?_
          exact Jf [.cell 6 33, .tmp 7] f
theorem P0 (a0 : ZN) (a1 : Zn) (u0 : Sm 2293760 a0) (u1 : Sm 2293760 a1) : Sa 55 [a0.row, a1.row] [(XB a0 a1).1.row, rB (XB a0 a1).2] := by
 have f := me (XB.eq_1 a0 a1)
 refine so func55 ntmps55 ?_
 refine cF f ?_ ?_ <;> intro k1 h1 f
 ·refine cDs [false, false, false, true, true, false, false, true, false, false, true, false] (Mv a0 a1.A (sg u0)) ?_
  exact rt [.cell 4 33, .tmp 5] f
 refine cF f ?_ ?_ <;> intro k2 h2 f
 ·refine cDs [false, false, false, true, true, false, false, true, false, false, true, false] (Mk a0 a1.A a1.B a1.Doc a1.C a1.D (sg u0) (sg (Zn.kp u1))) ?_
  exact rt [.cell 4 33, .tmp 5] f
 refine cF f ?_ ?_ <;> intro k3 h3 f
 ·refine cDs [false, false, false, true, true, false, false, true, false, false, true, false] (Pq a0 a1.A (sg u0)) ?_
  exact rt [.cell 4 33, .tmp 5] f
 refine cF f ?_ ?_ <;> intro k4 h4 f
 ·refine cDs [false, false, false, true, true, false, false, true, false, false, true, false] (P4 a0 a1.A (sg u0)) ?_
  exact rt [.cell 4 33, .tmp 5] f
 refine cF f ?_ ?_ <;> intro k5 h5 f
 ·refine cDs [false, false, false, true, true, false, false, true, false, false, true, false] (Nl a0 a1.A a1.Ids a1.B (sg u0) (sg (Zn.CV u1))) ?_
  exact rt [.cell 4 33, .tmp 5] f
 refine cF f ?_ ?_ <;> intro k6 h6 f
 ·refine cDs [false, false, false, true, true, false, false, true, false, false, true, false] (My a0 a1.A a1.B a1.C (sg u0)) ?_
  exact rt [.cell 4 33, .tmp 5] f
 refine cF f ?_ ?_ <;> intro k7 h7 f
 ·refine cOs (OO a0 a1.A (sg u0)) ?_
  exact rt [.cell 4 33, .tmp 5] f
 refine cF f ?_ ?_ <;> intro k8 h8 f
 ·refine cDs [false, false, false, true, true, false, false, true, false, false, true, false] (Og a0 a1.A a1.B a1.Doc (sg u0) (sg (Zn.kp u1))) ?_
  exact rt [.cell 4 33, .tmp 5] f
 refine cF f ?_ ?_ <;> intro k9 h9 f
 ·refine cDs [false, false, false, true, true, false, false, true, false, false, true, false] (SQ a0 a1.A a1.B (sg u0)) ?_
  exact rt [.cell 4 33, .tmp 5] f
 refine cF f ?_ ?_ <;> intro pr tc f
 ·refine cDs [false, false, false, true, true, false, false, true, false, false, true, false] (Mb a0 a1.A a1.B (sg u0)) ?_
  exact rt [.cell 4 33, .tmp 5] f
 refine cDs [false, false, false, true, true, false, false, true, false, false, true, false] (Xd a0 (sg u0)) ?_
 exact rt [.cell 4 33, .tmp 5] f
theorem O5 (a0 : ZN) (a1 : List Zn) (u0 : Sm 1048576 a0) (u1 : Sm 1048576 a1) : Sa 37 [a0.row, rL 9 Zn.row a1] [(kb a0 a1).row] := by
 have f := me (kb.eq_1 a0 a1)
 refine so func37 ntmps37 ?_
 refine cDs [false, false, false, true, true, false, false, true, false, false, true, false] (Xd a0 (sg u0)) ?_
 refine BU (z5.eq_2 a1) (fun J U wD wL wg vN vO vP vQ vm vF vG vH => Yg 25 [eL 1 9 a1 Zn.row, (4, .one (.bptr 4 0), [.box [.nil 5, .nil 3, .nil 4, .d (.int .i64 0), .d (.int .i64 0), .nil 7, .nil 1, .nil 2, .nil 1, .nil 1, .d (.int .i64 0), .nil 1]]), (5, .one (.bptr 5 0), [.box [.d (.sl 5 (U.map Yj.row)), .d (.sl 3 (wD.map Zg.row)), .d (.sl 4 (wL.map YJ.row)), .d (.int .i64 wg), .d (.int .i64 vN), .d (.sl 7 (vO.map YY.row)), .d (.sl 1 (vP.map iR)), .d (.sl 2 (vQ.map ZJ.row)), .d (.sl 1 (vm.map iR)), .d (.sl 1 (vF.map iR)), .d (.int .i64 vG), .d (.sl 1 (vH.map iR))]]), eI 6 (J : Int)]) (fun n1 J U wD wL wg vN vO vP vQ vm vF vG vH => a1.length < n1 + J /\ J <= a1.length /\ Sm (1048576 + J) (ZN.mk (Ze.mk U wD wL wg vN) vO vP vQ vm vF vG vH)) (a1.length + 1) 0 a0.Frame.Z6 a0.Frame.ZM a0.Frame.Methods a0.Frame.Kk a0.Frame.Now a0.ZT a0.YX a0.ZB a0.QA a0.XK a0.Next a0.XJ (fun p1 J U wD wL wg vN vO vP vQ vm vF vG vH e1 j1 => ?_) (hI := by exact ⟨by omega, by omega, Nat.zero_le _, u0⟩) (h0 := wkS [] [(8, 0), (8, 1), (8, 2), (8, 5), (8, 6), (8, 7), (8, 8), (8, 9), (8, 11)])
 try dsimp only at j1
 refine cF e1 ?_ ?_ <;> intro k2 h1 e1
 ·have i1 := ix h1
  have m2 := ml a1 (k2 1 _ rfl)
  have c1 := sl 1048576 a1 (an u0 u1)
  have w1 := wr J
  refine dIo mixed ?_
  simp [i1, ZC]
  refine rpS ?_
  refine cRs (P0 (ZN.mk (Ze.mk U wD wL wg vN) vO vP vQ vm vF vG vH) (nth a1 J) (by first | exact sg (Zu u1) | (have hl := Yb u1; exact ZU (n := 1048576 + J) (by omega) j1.2.2.2) | exact sg u0) (by first | exact sg (Zu u1) | (have hl := Yb u1; exact ZU (n := 1048576 + J) (by omega) j1.2.2.2) | exact sg u0)) ?_
  exact BV w1 e1 (hI := by (have hl := Yb u1; (try dsimp only); refine ⟨by omega, by omega, by omega, ?_⟩; exact Wu (n := 1048576 + J) j1.2.2.2 (ZU (n := 1048576) (by omega) (Zu u1)) (by omega)))
 have c2 := sl 1048576 a1 (an u0 u1)
 have f := ms f e1
 exact rt [.cell 4 33] f
theorem MV (a0 : Z1) : Ka prog 23 false a0.row [] (Yt a0).1.row [(Yt a0).2.row] := by
 have f := me (Yt.eq_1 a0)
 refine JY func23 rfl (by kernel_rfl) (fun v => ?_)
 simp [ntmps23]
 refine cBs [] (YZ a0 2) ?_
 refine cRs (YN.rd (Mf (ZF a0 2).2)) ?_
 refine cBs [] (N4 (ZF a0 2).1 10) ?_
 refine cRs (O5 (yM (ZF a0 2).2) (Jm (ZF a0 2).1 10).2 (by first | exact WG (by decide) | exact jW (by decide) (by decide) (by decide)) (by first | exact WG (by decide) | exact jW (by decide) (by decide) (by decide))) ?_
 refine K4 (rv := [.cell 2 33]) rfl ?_
 simp [f.h]
theorem TM (a0 : List UInt8) : Sa 11 [rL 1 bR a0] [(zU a0).row] := by
 have f := me (zU.eq_1 a0)
 refine so func11 ntmps11 ?_
 refine cNs (GZ a0) ?_
 refine cBs [] (MV (QH a0)) ?_
 refine cBs [] (YZ (Yt (QH a0)).1 5) ?_
 refine cF f ?_ ?_ <;> intro k1 h1 f
 ·exact rt [.cell 2 33] f
 refine cF f ?_ ?_ <;> intro k2 h2 f
 ·exact rt [.cell 2 33] f
 exact rt [.cell 2 33] f
theorem Rm (a0 : List UInt8) : Sa 5 [rL 1 bR a0] [(Zv a0).row] := by
 have f := me (Zv.eq_1 a0)
 refine so func5 ntmps5 ?_
 refine cRs (TM a0) ?_
 exact rt [.cell 2 33] f
end Go.Proofs.YtnldgbpopofnoaaGreat
