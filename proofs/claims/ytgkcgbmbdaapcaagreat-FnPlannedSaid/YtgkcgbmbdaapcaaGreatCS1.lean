/- Contracts of the functions U3 the abstract machine, part S1. No condition. -/
import Derived.Test.YtgkcgbmbdaapcaaGreatL
import Derived.Test.YtgkcgbmbdaapcaaGreatTy
namespace Go.Proofs.YtgkcgbmbdaapcaaGreat
open Tryz
open Go.Vm Go.Mo
set_option maxHeartbeats 1000000
set_option maxRecDepth 100000
set_option linter.unusedSimpArgs false
set_option linter.unusedVariables false
theorem jZ (a0 : List UInt8) : Ur prog 27 [rL 1 bR a0] (Z0 a0).row := by
 have f := me (Z0.eq_1 a0)
 refine II func27 rfl (by kernel_rfl) ?_
 simp [ntmps27]
 refine lp2 (TJ.eq_2 a0) (fun J U => Yd 32 [eL 0 1 a0 bR, eI 3 J, eI 4 (U : Int)]) (fun n1 J U => 4000 < n1 + U) 4001 (W (193017 + (a0.length : Int))) 0 (fun p1 J U e1 j1 => ?_)
 refine cFf e1 ?_ ?_ <;> intro k2 h1 e1
 ·have i1 : U < a0.length := by (simp at h1; omega)
  have m2 := ml a0 (k2 0 _ rfl)
  have w1 := wr U
  simp [i1, ZC]
  refine rpS ?_
  exact ny2 w1 e1
 have f := ms f e1
 refine F0 31 (rv := [.tmp 2]) rfl ?_
 simp [f.h]
theorem Y8 : Sd 91 [] [rL 5 Z3.row ZD] := by
 have f := me (ZD.eq_1)
 refine soD func91 ntmps91 ?_
 exact rtD [.tmp 0] f
theorem Y6 : Sd 92 [] [rL 3 ZJ.row ZG] := by
 have f := me (ZG.eq_1)
 refine soD func92 ntmps92 ?_
 exact rtD [.tmp 0] f
theorem jY : Sd 93 [] [rL 4 Zj.row Zb] := by
 have f := me (Zb.eq_1)
 refine soD func93 ntmps93 ?_
 exact rtD [.tmp 0] f
theorem xu (a0 : ZI) : Yr prog 67 false a0.row [] (Zo a0).1.row [rI (Zo a0).2] := by
 have f := me (Zo.eq_1 a0)
 refine YK func67 rfl (by kernel_rfl) (fun v => ?_)
 simp [ntmps67]
 refine dIs mixed ?_
 refine dIs mixed ?_
 refine cF f ?_ ?_ <;> intro k3 h1 f
 ·refine okD fun k4 => ?_
  refine dIo mixed ?_
  have i1 := ik a0.i a0.b
  simp [i1, ZC]
  refine rpS ?_
  refine XV (rv := [.tmp 2]) rfl ?_
  first | (have w0 := wr a0.i (by have z := ml a0.b (k3 32 _ rfl); simp at h1; omega); simp [f.h, w0]; done) | simp [f.h]
 refine XV (rv := [.tmp 2]) rfl ?_
 first | (have w0 := wr a0.i (by have z := ml a0.b (k3 32 _ rfl); simp at h1; omega); simp [f.h, w0]; done) | simp [f.h]
theorem ZX (a0 : ZI) (a1 : Int) : Yr prog 41 false a0.row [rI a1] (ZA a0 a1).1.row [rI (ZA a0 a1).2] := by
 have f := me (ZA.eq_1 a0 a1)
 refine YK func41 rfl (by kernel_rfl) (fun v => ?_)
 simp [ntmps41]
 refine cF f ?_ ?_ <;> intro k1 h1 f
 ·refine XV (rv := [.tmp 4]) rfl ?_
  simp [f.h]
 refine cF f ?_ ?_ <;> intro k2 h2 f
 ·refine cBs [] (xu a0) ?_
  refine XV (rv := [.tmp 4]) rfl ?_
  simp [f.h]
 refine cBs [] (xu a0) ?_
 refine cBs [] (xu (Zo a0).1) ?_
 refine cBs [] (xu (Zo (Zo a0).1).1) ?_
 refine XV (rv := [.tmp 4]) rfl ?_
 simp [f.h]
theorem LX {a b : Prop} (h : b) (k : a := by (intros; first | omega | with_unfolding_all (first | first | omega | (have z := ZQ a0 (a1.length : Int); omega)) | ((try simp only [XJ, show ∀ x, IntKind.i64.wrap x = W x from fun _ => rfl] at *); omega))) : a /\ b := ⟨k, h⟩
theorem Yc (a0 : ZI) (a1 : List Int) (u0 : 0 < a1.length) : Yr prog 30 false a0.row [rL 1 iR a1] (ZP a0 a1).1.row [rI (ZP a0 a1).2] := by
 have f := me (ZP.eq_1 a0 a1)
 refine YK func30 rfl (by kernel_rfl) (fun v => ?_)
 simp [ntmps30]
 refine cBo [] (ZX a0 (a1.length : Int)) ?_
 have i1 : (ZA a0 (a1.length : Int)).2.toNat < a1.length := by (have z := ZQ a0 (a1.length : Int); omega)
 simp [i1, ZC]
 repeat with_reducible refine LX ?_
 refine XV (rv := [.tmp 4]) rfl ?_
 simp [f.h]
theorem PM (a0 : ZI) : Yr prog 76 true a0.row [] (ZZ a0).1.row [(ZZ a0).2.row] := by
 have f := me (ZZ.eq_1 a0)
 refine YK func76 rfl (by kernel_rfl) (fun v => ?_)
 simp [ntmps76]
 refine cDs [false] (Y8) ?_
 refine cDs [false] (Y6) ?_
 refine cDs [false] (jY) ?_
 refine cBs [] (ZX a0 2) ?_
 refine zV [(9, 0)] rfl (by simp) ?_
 refine cBs [] (Yc (ZA a0 2).1 ([20, 45, 60, 75, 100, 150, 300] : List Int) (by first | omega | (simp; done) | (simp; omega))) ?_
 refine XV (rv := [.cell 2 28]) rfl ?_
 simp [f.h]
theorem Ky (a0 : ZI) (a1 : Int) : Yr prog 102 false a0.row [rI a1] (Zh a0 a1).1.row [rB (Zh a0 a1).2] := by
 have f := me (Zh.eq_1 a0 a1)
 refine YK func102 rfl (by kernel_rfl) (fun v => ?_)
 simp [ntmps102]
 refine cBs [] (ZX a0 a1) ?_
 refine XV (rv := [.tmp 4]) rfl ?_
 simp [f.h]
theorem VN (a0 : ZI) : Yr prog 80 false a0.row [] (zT a0).1.row [rI (zT a0).2] := by
 have f := me (zT.eq_1 a0)
 refine YK func80 rfl (by kernel_rfl) (fun v => ?_)
 simp [ntmps80]
 refine cBs [] (Ky a0 6) ?_
 refine cF f ?_ ?_ <;> intro k1 h1 f
 ·refine zV [(6, 0)] rfl (by simp) ?_
  refine cBs [] (Yc (Zh a0 6).1 ([(-1), 0, 10000, 10001, 9223372036854775807, (-9223372036854775808)] : List Int) (by first | omega | (simp; done) | (simp; omega))) ?_
  refine XV (rv := [.tmp 2]) rfl ?_
  simp [f.h]
 refine cBs [] (ZX (Zh a0 6).1 40) ?_
 refine XV (rv := [.tmp 2]) rfl ?_
 simp [f.h]
theorem xG {a b : Prop} (h : b) (k : a := by (intros; first | omega | with_unfolding_all (first | first | omega | (have y : ZD.length = 10 := rfl; have z := ZQ a0 (ZD.length : Int); have z2 := ZQ a0 10; omega)) | ((try simp only [XJ, show ∀ x, IntKind.i64.wrap x = W x from fun _ => rfl] at *); omega))) : a /\ b := ⟨k, h⟩
theorem M4 (a0 : ZI) : Yr prog 77 true a0.row [] (yy a0).1.row [rL 5 Z3.row (yy a0).2] := by
 have f := me (yy.eq_1 a0)
 refine YK func77 rfl (by kernel_rfl) (fun v => ?_)
 simp [ntmps77]
 refine cDs [false] (Y8) ?_
 refine cBs [] (ZX a0 (ZD.length : Int)) ?_
 refine cBs [] (ZX (ZA a0 (ZD.length : Int)).1 9) ?_
 refine cF f ?_ ?_ <;> intro k1 h1 f
 ·refine zV [(17, 0)] rfl (by simp) ?_
  refine cBo [] (Yc (ZA (ZA a0 (ZD.length : Int)).1 9).1 ([0, 1, 50, 99, 100] : List Int) (by first | omega | (simp; done) | (simp; omega))) ?_
  have i1 : (ZA a0 (ZD.length : Int)).2.toNat < ZD.length := by (have y : ZD.length = 10 := rfl; have z := ZQ a0 (ZD.length : Int); have z2 := ZQ a0 10; omega)
  simp [i1, ZC, JB (x := (Z3.mk (ZP (ZA (ZA a0 (ZD.length : Int)).1 9).1 ([0, 1, 50, 99, 100] : List Int)).2 (nth ZD (ZA a0 (ZD.length : Int)).2.toNat).Xn (nth ZD (ZA a0 (ZD.length : Int)).2.toNat).Method (nth ZD (ZA a0 (ZD.length : Int)).2.toNat).jw (nth ZD (ZA a0 (ZD.length : Int)).2.toNat).Qe)) rfl]
  repeat with_reducible refine xG ?_
  refine XV (rv := [.tmp 2]) rfl ?_
  simp [f.h]
  all_goals (repeat' (first | exact XQ (by simp) (by simp) | refine And.intro ?_ ?_))
 refine cF f ?_ ?_ <;> intro k2 h2 f
 ·refine zV [(26, 0)] rfl (by simp) ?_
  refine cBo [] (Yc (ZA (ZA a0 (ZD.length : Int)).1 9).1 ([(-1), 5, 100] : List Int) (by first | omega | (simp; done) | (simp; omega))) ?_
  have i2 : (ZA a0 (ZD.length : Int)).2.toNat < ZD.length := by (have y : ZD.length = 10 := rfl; have z := ZQ a0 (ZD.length : Int); have z2 := ZQ a0 10; omega)
  simp [i2, ZC, JB (x := (Z3.mk (nth ZD (ZA a0 (ZD.length : Int)).2.toNat).Number (ZP (ZA (ZA a0 (ZD.length : Int)).1 9).1 ([(-1), 5, 100] : List Int)).2 (nth ZD (ZA a0 (ZD.length : Int)).2.toNat).Method (nth ZD (ZA a0 (ZD.length : Int)).2.toNat).jw (nth ZD (ZA a0 (ZD.length : Int)).2.toNat).Qe)) rfl]
  repeat with_reducible refine xG ?_
  refine XV (rv := [.tmp 2]) rfl ?_
  simp [f.h]
  all_goals (repeat' (first | exact XQ (by simp) (by simp) | refine And.intro ?_ ?_))
 refine cF f ?_ ?_ <;> intro k3 h3 f
 ·refine zV [(35, 0)] rfl (by simp) ?_
  refine cBo [] (Yc (ZA (ZA a0 (ZD.length : Int)).1 9).1 ([0, 777] : List Int) (by first | omega | (simp; done) | (simp; omega))) ?_
  have i3 : (ZA a0 (ZD.length : Int)).2.toNat < ZD.length := by (have y : ZD.length = 10 := rfl; have z := ZQ a0 (ZD.length : Int); have z2 := ZQ a0 10; omega)
  simp [i3, ZC, JB (x := (Z3.mk (nth ZD (ZA a0 (ZD.length : Int)).2.toNat).Number (nth ZD (ZA a0 (ZD.length : Int)).2.toNat).Xn (nth ZD (ZA a0 (ZD.length : Int)).2.toNat).Method (nth ZD (ZA a0 (ZD.length : Int)).2.toNat).jw (ZP (ZA (ZA a0 (ZD.length : Int)).1 9).1 ([0, 777] : List Int)).2)) rfl]
  repeat with_reducible refine xG ?_
  refine XV (rv := [.tmp 2]) rfl ?_
  simp [f.h]
  all_goals (repeat' (first | exact XQ (by simp) (by simp) | refine And.intro ?_ ?_))
 refine cF f ?_ ?_ <;> intro k4 h4 f
 ·refine cBo [] (VN (ZA (ZA a0 (ZD.length : Int)).1 9).1) ?_
  have i4 : (ZA a0 (ZD.length : Int)).2.toNat < ZD.length := by (have y : ZD.length = 10 := rfl; have z := ZQ a0 (ZD.length : Int); have z2 := ZQ a0 10; omega)
  simp [i4, ZC, JB (x := (Z3.mk (nth ZD (ZA a0 (ZD.length : Int)).2.toNat).Number (nth ZD (ZA a0 (ZD.length : Int)).2.toNat).Xn (nth ZD (ZA a0 (ZD.length : Int)).2.toNat).Method (zT (ZA (ZA a0 (ZD.length : Int)).1 9).1).2 (nth ZD (ZA a0 (ZD.length : Int)).2.toNat).Qe)) rfl]
  repeat with_reducible refine xG ?_
  refine XV (rv := [.tmp 2]) rfl ?_
  simp [f.h]
  all_goals (repeat' (first | exact XQ (by simp) (by simp) | refine And.intro ?_ ?_))
 refine cF f ?_ ?_ <;> intro k5 h5 f
 ·refine zV [(52, 0)] rfl (by simp) ?_
  refine cBo [] (Yc (ZA (ZA a0 (ZD.length : Int)).1 9).1 ([(-1), 0, 99, 100] : List Int) (by first | omega | (simp; done) | (simp; omega))) ?_
  have i5 : (ZA a0 (ZD.length : Int)).2.toNat < ZD.length := by (have y : ZD.length = 10 := rfl; have z := ZQ a0 (ZD.length : Int); have z2 := ZQ a0 10; omega)
  simp [i5, ZC, JB (x := (Z3.mk (nth ZD (ZA a0 (ZD.length : Int)).2.toNat).Number (nth ZD (ZA a0 (ZD.length : Int)).2.toNat).Xn (ZP (ZA (ZA a0 (ZD.length : Int)).1 9).1 ([(-1), 0, 99, 100] : List Int)).2 (nth ZD (ZA a0 (ZD.length : Int)).2.toNat).jw (nth ZD (ZA a0 (ZD.length : Int)).2.toNat).Qe)) rfl]
  repeat with_reducible refine xG ?_
  refine XV (rv := [.tmp 2]) rfl ?_
  simp [f.h]
  all_goals (repeat' (first | exact XQ (by simp) (by simp) | refine And.intro ?_ ?_))
 refine XV (rv := [.tmp 2]) rfl ?_
 simp [f.h]
theorem PK (a0 : ZI) : Yr prog 101 false a0.row [] (zb a0).1.row [rI (zb a0).2] := by
 have f := me (zb.eq_1 a0)
 refine YK func101 rfl (by kernel_rfl) (fun v => ?_)
 simp [ntmps101]
 refine zV [(4, 0)] rfl (by simp) ?_
 refine cBs [] (Yc a0 ([1, 2, 11, 12, 13, 21, 31, 32, 33, 34, 0, 50] : List Int) (by first | omega | (simp; done) | (simp; omega))) ?_
 refine XV (rv := [.tmp 2]) rfl ?_
 simp [f.h]
theorem kS {a b : Prop} (h : b) (k : a := by (intros; first | omega | with_unfolding_all (first | first | omega | (have y : ZG.length = 4 := rfl; have z := ZQ a0 (ZG.length : Int); have z2 := ZQ a0 4; omega)) | ((try simp only [XJ, show ∀ x, IntKind.i64.wrap x = W x from fun _ => rfl] at *); omega))) : a /\ b := ⟨k, h⟩
theorem Nu (a0 : ZI) : Yr prog 78 true a0.row [] (Jv a0).1.row [rL 3 ZJ.row (Jv a0).2] := by
 have f := me (Jv.eq_1 a0)
 refine YK func78 rfl (by kernel_rfl) (fun v => ?_)
 simp [ntmps78]
 refine cDs [false] (Y6) ?_
 refine cBs [] (ZX a0 4) ?_
 refine cBs [] (ZX (ZA a0 4).1 8) ?_
 refine cF f ?_ ?_ <;> intro k1 h1 f
 ·refine zV [(15, 0)] rfl (by simp) ?_
  refine cBo [] (Yc (ZA (ZA a0 4).1 8).1 ([(-1), 2, 99, 100] : List Int) (by first | omega | (simp; done) | (simp; omega))) ?_
  have i1 : (ZA a0 4).2.toNat < ZG.length := by (have y : ZG.length = 4 := rfl; have z := ZQ a0 (ZG.length : Int); have z2 := ZQ a0 4; omega)
  simp [i1, ZC, JB (x := (ZJ.mk (ZP (ZA (ZA a0 4).1 8).1 ([(-1), 2, 99, 100] : List Int)).2 (nth ZG (ZA a0 4).2.toNat).Key (nth ZG (ZA a0 4).2.toNat).Error)) rfl]
  repeat with_reducible refine kS ?_
  refine XV (rv := [.tmp 2]) rfl ?_
  simp [f.h]
  all_goals (repeat' (first | exact XQ (by simp) (by simp) | refine And.intro ?_ ?_))
 refine cF f ?_ ?_ <;> intro k2 h2 f
 ·refine cBo [] (PK (ZA (ZA a0 4).1 8).1) ?_
  have i2 : (ZA a0 4).2.toNat < ZG.length := by (have y : ZG.length = 4 := rfl; have z := ZQ a0 (ZG.length : Int); have z2 := ZQ a0 4; omega)
  simp [i2, ZC, JB (x := (ZJ.mk (nth ZG (ZA a0 4).2.toNat).Id (zb (ZA (ZA a0 4).1 8).1).2 (nth ZG (ZA a0 4).2.toNat).Error)) rfl]
  repeat with_reducible refine kS ?_
  refine XV (rv := [.tmp 2]) rfl ?_
  simp [f.h]
  all_goals (repeat' (first | exact XQ (by simp) (by simp) | refine And.intro ?_ ?_))
 refine cF f ?_ ?_ <;> intro k3 h3 f
 ·refine zV [(32, 0)] rfl (by simp) ?_
  refine cBo [] (Yc (ZA (ZA a0 4).1 8).1 ([(-1), 100, 101, 9223372036854775807] : List Int) (by first | omega | (simp; done) | (simp; omega))) ?_
  have i3 : (ZA a0 4).2.toNat < ZG.length := by (have y : ZG.length = 4 := rfl; have z := ZQ a0 (ZG.length : Int); have z2 := ZQ a0 4; omega)
  simp [i3, ZC, JB (x := (ZJ.mk (nth ZG (ZA a0 4).2.toNat).Id (nth ZG (ZA a0 4).2.toNat).Key (ZP (ZA (ZA a0 4).1 8).1 ([(-1), 100, 101, 9223372036854775807] : List Int)).2)) rfl]
  repeat with_reducible refine kS ?_
  refine XV (rv := [.tmp 2]) rfl ?_
  simp [f.h]
  all_goals (repeat' (first | exact XQ (by simp) (by simp) | refine And.intro ?_ ?_))
 refine XV (rv := [.tmp 2]) rfl ?_
 simp [f.h]
theorem xK {a b : Prop} (h : b) (k : a := by (intros; first | omega | with_unfolding_all (first | first | omega | (have y : Zb.length = 4 := rfl; have z := ZQ a0 (Zb.length : Int); have z2 := ZQ a0 4; omega)) | ((try simp only [XJ, show ∀ x, IntKind.i64.wrap x = W x from fun _ => rfl] at *); omega))) : a /\ b := ⟨k, h⟩
theorem Mu (a0 : ZI) : Yr prog 79 false a0.row [] (zK a0).1.row [rL 4 Zj.row (zK a0).2] := by
 have f := me (zK.eq_1 a0)
 refine YK func79 rfl (by kernel_rfl) (fun v => ?_)
 simp [ntmps79]
 refine cDs [false] (jY) ?_
 refine cBs [] (ZX a0 4) ?_
 refine cBs [] (ZX (ZA a0 4).1 9) ?_
 refine cF f ?_ ?_ <;> intro k1 h1 f
 ·refine zV [(15, 0)] rfl (by simp) ?_
  refine cBo [] (Yc (ZA (ZA a0 4).1 9).1 ([(-1), 0, 1, 99, 100] : List Int) (by first | omega | (simp; done) | (simp; omega))) ?_
  have i1 : (ZA a0 4).2.toNat < Zb.length := by (have y : Zb.length = 4 := rfl; have z := ZQ a0 (Zb.length : Int); have z2 := ZQ a0 4; omega)
  simp [i1, ZC, JB (x := (Zj.mk (ZP (ZA (ZA a0 4).1 9).1 ([(-1), 0, 1, 99, 100] : List Int)).2 (nth Zb (ZA a0 4).2.toNat).yF (nth Zb (ZA a0 4).2.toNat).Ends (nth Zb (ZA a0 4).2.toNat).Ju)) rfl]
  repeat with_reducible refine xK ?_
  refine XV (rv := [.tmp 2]) rfl ?_
  simp [f.h]
  all_goals (repeat' (first | exact XQ (by simp) (by simp) | refine And.intro ?_ ?_))
 refine cF f ?_ ?_ <;> intro k2 h2 f
 ·refine cBo [] (VN (ZA (ZA a0 4).1 9).1) ?_
  have i2 : (ZA a0 4).2.toNat < Zb.length := by (have y : Zb.length = 4 := rfl; have z := ZQ a0 (Zb.length : Int); have z2 := ZQ a0 4; omega)
  simp [i2, ZC, JB (x := (Zj.mk (nth Zb (ZA a0 4).2.toNat).Id (zT (ZA (ZA a0 4).1 9).1).2 (nth Zb (ZA a0 4).2.toNat).Ends (nth Zb (ZA a0 4).2.toNat).Ju)) rfl]
  repeat with_reducible refine xK ?_
  refine XV (rv := [.tmp 2]) rfl ?_
  simp [f.h]
  all_goals (repeat' (first | exact XQ (by simp) (by simp) | refine And.intro ?_ ?_))
 refine cF f ?_ ?_ <;> intro k3 h3 f
 ·refine zV [(32, 0)] rfl (by simp) ?_
  refine cBo [] (Yc (ZA (ZA a0 4).1 9).1 ([0, 1, 45, 10001, 10002] : List Int) (by first | omega | (simp; done) | (simp; omega))) ?_
  have i3 : (ZA a0 4).2.toNat < Zb.length := by (have y : Zb.length = 4 := rfl; have z := ZQ a0 (Zb.length : Int); have z2 := ZQ a0 4; omega)
  simp [i3, ZC, JB (x := (Zj.mk (nth Zb (ZA a0 4).2.toNat).Id (nth Zb (ZA a0 4).2.toNat).yF (ZP (ZA (ZA a0 4).1 9).1 ([0, 1, 45, 10001, 10002] : List Int)).2 (nth Zb (ZA a0 4).2.toNat).Ju)) rfl]
  repeat with_reducible refine xK ?_
  refine XV (rv := [.tmp 2]) rfl ?_
  simp [f.h]
  all_goals (repeat' (first | exact XQ (by simp) (by simp) | refine And.intro ?_ ?_))
 refine cF f ?_ ?_ <;> intro k4 h4 f
 ·refine zV [(41, 0)] rfl (by simp) ?_
  refine cBo [] (Yc (ZA (ZA a0 4).1 9).1 ([0, 1, 45, 10001, 10002] : List Int) (by first | omega | (simp; done) | (simp; omega))) ?_
  have i4 : (ZA a0 4).2.toNat < Zb.length := by (have y : Zb.length = 4 := rfl; have z := ZQ a0 (Zb.length : Int); have z2 := ZQ a0 4; omega)
  simp [i4, ZC, JB (x := (Zj.mk (nth Zb (ZA a0 4).2.toNat).Id (nth Zb (ZA a0 4).2.toNat).yF (nth Zb (ZA a0 4).2.toNat).Ends (ZP (ZA (ZA a0 4).1 9).1 ([0, 1, 45, 10001, 10002] : List Int)).2)) rfl]
  repeat with_reducible refine xK ?_
  refine XV (rv := [.tmp 2]) rfl ?_
  simp [f.h]
  all_goals (repeat' (first | exact XQ (by simp) (by simp) | refine And.intro ?_ ?_))
 refine cFf f ?_ ?_ <;> intro k5 h5 f
 ·simp
  repeat with_reducible refine xK ?_
  refine XV (rv := [.tmp 2]) rfl ?_
  simp [f.h]
 refine XV (rv := [.tmp 2]) rfl ?_
 simp [f.h]
theorem N5 (a0 : ZI) : Yr prog 55 false a0.row [] (Xb a0).1.row [(Xb a0).2.row] := by
 have f := me (Xb.eq_1 a0)
 refine YK func55 rfl (by kernel_rfl) (fun v => ?_)
 simp [ntmps55]
 refine cBs [] (PM a0) ?_
 refine cBs [] (ZX (ZZ a0).1 10) ?_
 refine cF f ?_ ?_ <;> intro k1 h1 f
 ·refine cBs [] (M4 (ZA (ZZ a0).1 10).1) ?_
  refine XV (rv := [.cell 2 28]) rfl ?_
  simp [f.h]
 refine cF f ?_ ?_ <;> intro k2 h2 f
 ·refine cBs [] (Nu (ZA (ZZ a0).1 10).1) ?_
  refine XV (rv := [.cell 2 28]) rfl ?_
  simp [f.h]
 refine cF f ?_ ?_ <;> intro k3 h3 f
 ·refine cBs [] (Mu (ZA (ZZ a0).1 10).1) ?_
  refine XV (rv := [.cell 2 28]) rfl ?_
  simp [f.h]
 refine cF f ?_ ?_ <;> intro k4 h4 f
 ·refine zV [(26, 0)] rfl (by simp) ?_
  refine cBs [] (Yc (ZA (ZZ a0).1 10).1 ([(-1), 2, 6, 7] : List Int) (by first | omega | (simp; done) | (simp; omega))) ?_
  refine XV (rv := [.cell 2 28]) rfl ?_
  simp [f.h]
 refine cF f ?_ ?_ <;> intro k5 h5 f
 ·refine cBs [] (VN (ZA (ZZ a0).1 10).1) ?_
  refine XV (rv := [.cell 2 28]) rfl ?_
  simp [f.h]
 refine XV (rv := [.cell 2 28]) rfl ?_
 simp [f.h]
theorem PO (a0 : ZI) : Yr prog 28 false a0.row [] (Yh a0).1.row [(Yh a0).2.row] := by
 have f := me (Yh.eq_1 a0)
 refine YK func28 rfl (by kernel_rfl) (fun v => ?_)
 simp [ntmps28]
 refine cBs [] (N5 a0) ?_
 refine zV [(7, 0)] rfl (by simp) ?_
 refine cBs [] (Yc (Xb a0).1 ([0, 20, 45, 60, 100] : List Int) (by first | omega | (simp; done) | (simp; omega))) ?_
 refine XV (rv := [.cell 2 28]) rfl ?_
 simp [f.h]
theorem Mq {a b : Prop} (h : b) (k : a := by (intros; first | omega | with_unfolding_all (first | first | omega | (have z := ZQ a0 (a1.length : Int); omega)) | ((try simp only [XJ, show ∀ x, IntKind.i64.wrap x = W x from fun _ => rfl] at *); omega))) : a /\ b := ⟨k, h⟩
theorem LZ (a0 : ZI) (a1 : List ByteArray) (u0 : 0 < a1.length) : Yr prog 181 false a0.row [rL 1 sR a1] (Wd a0 a1).1.row [rS (Wd a0 a1).2] := by
 have f := me (Wd.eq_1 a0 a1)
 refine YK func181 rfl (by kernel_rfl) (fun v => ?_)
 simp [ntmps181]
 refine cBo [] (ZX a0 (a1.length : Int)) ?_
 have i1 : (ZA a0 (a1.length : Int)).2.toNat < a1.length := by (have z := ZQ a0 (a1.length : Int); omega)
 simp [i1, ZC]
 repeat with_reducible refine Mq ?_
 refine XV (rv := [.tmp 4]) rfl ?_
 simp [f.h]
theorem NS (a0 : ZI) : Yr prog 169 false a0.row [] (Xg a0).1.row [rS (Xg a0).2] := by
 have f := me (Xg.eq_1 a0)
 refine YK func169 rfl (by kernel_rfl) (fun v => ?_)
 simp [ntmps169]
 refine zV [(4, 0)] rfl (by simp) ?_
 refine cBs [] (LZ a0 ([(⟨#[]⟩ : ByteArray), (⟨#[97]⟩ : ByteArray), (⟨#[98]⟩ : ByteArray), (⟨#[97, 98]⟩ : ByteArray), (⟨#[121, 101, 115]⟩ : ByteArray), (⟨#[110, 111]⟩ : ByteArray), (⟨#[111, 110, 101, 32, 104, 117, 110, 100, 114, 101, 100]⟩ : ByteArray)] : List ByteArray) (by first | omega | (simp; done) | (simp; omega))) ?_
 refine XV (rv := [.tmp 2]) rfl ?_
 simp [f.h]
theorem YB (a0 : Int) (a1 : Int) (a2 : Int) : Sa 104 [rI a0, rI a1, rI a2] [rB (Z4 a0 a1 a2)] := by
 have f := me (Z4.eq_1 a0 a1 a2)
 refine so func104 ntmps104 ?_
 exact rt [.tmp 6] f
theorem HX (a0 : Int) (a1 : Int) : Sa 186 [rI a0, rI a1] [rI (Tt a0 a1)] := by
 have f := me (Tt.eq_1 a0 a1)
 refine so func186 ntmps186 ?_
 refine cRs (YB a1 1 1000000000000) ?_
 refine cFo f ?_ ?_ <;> intro k1 h1 f
 ·have q1 := h1; try simp [Z4] at q1
  simp
  exact rt [.tmp 4] f
 have q1 := h1; try simp [Z4] at q1
 simp
 refine rpS ?_
 exact rt [.tmp 4] f
theorem Pf (a0 : List Int) : Sa 180 [rL 1 iR a0] [rI (Uz a0)] := by
 have f := me (Uz.eq_1 a0)
 refine so func180 ntmps180 ?_
 refine lp2 (qy.eq_2 a0) (fun J U => Yd 22 [eL 0 1 a0 iR, eI 3 J, eI 4 (U : Int)]) (fun n1 J U => a0.length < n1 + U /\ U <= a0.length) (a0.length + 1) 11 0 (fun p1 J U e1 j1 => ?_)
 refine cFf e1 ?_ ?_ <;> intro k2 h1 e1
 ·have i1 := ix h1
  have m2 := ml a0 (k2 0 _ rfl)
  have w1 := wr U
  simp [i1, ZC]
  refine rpS ?_
  refine cRs (HX (nth a0 U) 2147483647) ?_
  exact ny2 w1 e1
 have f := ms f e1
 exact rt [.tmp 2] f
theorem kD (a0 : Int) (a1 : List Int) (u0 : Sm 2330624 a1) : Sa 168 [rI a0, rL 1 iR a1] [rI (Jt a0 a1)] := by
 have f := me (Jt.eq_1 a0 a1)
 have c1 := sl 2330624 a1 u0
 refine so func168 ntmps168 ?_
 refine cRs (Pf ((([a0] : List Int) ++ a1) ++ ([a0] : List Int))) ?_
 exact rt [.tmp 4] f
theorem Ma (a0 : Int) (a1 : Int) : Sa 90 [rI a0, rI a1] [rI (Vo a0 a1)] := by
 have f := me (Vo.eq_1 a0 a1)
 refine so func90 ntmps90 ?_
 refine cF f ?_ ?_ <;> intro k1 h1 f
 ·exact rt [.tmp 4] f
 exact rt [.tmp 4] f
theorem ya (a0 : ZV) : Sa 119 [a0.row] [rB (Yp a0)] := by
 have f := me (Yp.eq_1 a0)
 refine so func119 ntmps119 ?_
 refine lp1 (X2.eq_2 a0) (fun J => Yd 51 [eX 1 (a0.row.map .d), eI 3 (J : Int)]) (fun n1 J => a0.YO.length < n1 + J /\ J <= a0.YO.length) (a0.YO.length + 1) 0 (fun p1 J e1 j1 => ?_)
 refine cFf e1 ?_ ?_ <;> intro k2 h1 e1
 ·have i1 := ix h1
  have m2 := ml a0.YO (k2 7 _ rfl)
  have w1 := wr J
  simp [i1, ZC]
  refine rpS ?_
  refine cF e1 ?_ ?_ <;> intro k3 h2 e1
  ·have f := ms f e1
   exact rt [.tmp 2] f
  exact ny1 w1 e1
 have f := ms f e1
 refine lp1 (X0.eq_2 a0) (fun wB => Yd 51 [eX 1 (a0.row.map .d), eI 4 (wB : Int)]) (fun n2 wB => a0.XB.length < n2 + wB /\ wB <= a0.XB.length) (a0.XB.length + 1) 0 (fun p2 wB e2 j2 => ?_)
 refine cFf e2 ?_ ?_ <;> intro k5 h3 e2
 ·have i2 := ix h3
  have m4 := ml a0.XB (k5 21 _ rfl)
  have w2 := wr wB
  simp [i2, ZC]
  refine rpS ?_
  refine cRs (YB (nth a0.XB wB) 1 1000000000000) ?_
  refine cFo e2 ?_ ?_ <;> intro k6 h4 e2
  ·have q4 := h4; try simp [Z4] at q4
   have f := ms f e2
   simp
   exact rt [.tmp 2] f
  have q4 := h4; try simp [Z4] at q4
  simp
  exact ny1 w2 e2
 have f := ms f e2
 refine cRs (YB a0.yH 0 999) ?_
 refine cGs (fun gg => (YB (a0.YO.length : Int) 1 6)) ?_
 exact rt [.tmp 2] f
theorem T7 (a0 : Int) : Sa 182 [rI a0] [rB (yg a0)] := by
 have f := me (yg.eq_1 a0)
 refine so func182 ntmps182 ?_
 refine cRs (YB a0 1 2147483646) ?_
 exact rt [.tmp 2] f
theorem UD (a0 : Int) (a1 : List ByteArray) (a2 : Int) (u0 : Sm 2326528 a1) : Sd 170 [rI a0, rL 1 sR a1, rI a2] [(Xi a0 a1 a2).1.row, rB (Xi a0 a1 a2).2] := by
 have f := me (Xi.eq_1 a0 a1 a2)
 have c1 := sl 2326528 a1 u0
 refine soD func170 ntmps170 ?_
 refine lp2 (Yy.eq_2 a0 a1 a2) (fun J U => Yd 42 [eI 0 a0, eL 1 1 a1 sR, eI 2 a2, (6, .one (.bptr 6 0), [.box [.d (.int .i64 0), .nil 1, .nil 1]]), (8, .one (.bptr 8 0), [.box [.d (.int .i64 a0), .sref 13 0 0 a1.length, .sref 8 3 0 U.length], .none, .none, .arr false 1 (U.map iR)]), eI 9 (J : Int), (13, .any, [.arr false 1 (a1.map sR)])]) (fun n1 J U => a1.length < n1 + J /\ J <= a1.length /\ U.length <= 0 + 1 * J) (a1.length + 1) 0 ([] : List Int) (fun p1 J U e1 j1 => ?_) (h0 := wkS [((8, 3), none)] [])
 refine cF e1 ?_ ?_ <;> intro k2 h1 e1
 ·have i1 := ix h1
  have m2 := ml a1 (k2 1 _ rfl)
  have w1 := wr J
  refine dIs mixed ?_
  refine cRs (kD a2 ([a0, (J : Int)] : List Int) (by simp (maxDischargeDepth := 12) [Xx, XM, ZW (m := 2330624) (by decide) u0]; try omega)) ?_
  refine cRs (Ma 1 (Jt a2 ([a0, (J : Int)] : List Int))) ?_
  exact nx2 e1 (hw := X1 [((8, 3), some (30, 0))] [] rfl (by simp [w1]))
 have f := ms f e1
 refine cRs (ya (ZV.mk a0 a1 U)) ?_
 refine cGs (fun gg => (T7 a2)) ?_
 refine cF f ?_ ?_ <;> intro k4 h2 f
 ·exact rtD [.cell 6 40, .tmp 7] f
 exact rtD [.cell 6 40, .tmp 7] f
theorem MD (a0 : ZI) : Yr prog 148 true a0.row [] (YM a0).1.row [(YM a0).2.row] := by
 have f := me (YM.eq_1 a0)
 refine YK func148 rfl (by kernel_rfl) (fun v => ?_)
 simp [ntmps148]
 refine cBs [] (ZX a0 3) ?_
 refine lp5 (QY.eq_2) (fun J U wF wQ wX => Yd 28 [(0, .fix v (.one (.bptr 0 0)), [.box [.d (.sl 1 (wF.map bR)), .d (.int .i64 (wQ : Int)), .d (.int .i64 wX)]]), (2, .one (.bptr 2 0), [.box [.d (.int .i64 0), .nil 1, .nil 1]]), (3, .one (.sref 3 0 0 J.length), [.arr false 1 (J.map sR)]), eI 4 U]) (fun n1 J U wF wQ wX => U + 1 <= (n1 : Int) /\ 0 <= U /\ (J.length : Int) + U <= 3 /\ (∀ x ∈ J, x.size <= 11)) 5 ([] : List ByteArray) (W (1 + (ZA a0 3).2)) (ZA a0 3).1.b (ZA a0 3).1.i (ZA a0 3).1.h (fun p1 J U wF wQ wX e1 j1 => ?_) (hI := by (have z := ZQ a0 3; (try dsimp only); simp only [XJ, List.length_nil]; refine ⟨by omega, by omega, by omega, by omega, fun x h => by cases h⟩)) (h0 := wkS [((3, 0), some (7, 0))] [])
 try dsimp only at j1
 refine cF e1 ?_ ?_ <;> intro k2 h1 e1
 ·refine cBs [] (NS (ZI.mk wF wQ wX)) ?_
  exact nx5 e1 (hI := by (have hh := h1; simp at hh; (try dsimp only); simp only [XJ, List.length_append, List.length_singleton]; refine ⟨by omega, by omega, by omega, by omega, fun x hx => ?_⟩; rcases List.mem_append.1 hx with hx | hx; exact j1.2.2.2.2 x hx; simp at hx; rw [hx]; exact Wy _)) (hw := wkS [((3, 0), some (19, 0))] [])
 have f := ms f e1
 refine cBs [] (ZX (ZI.mk wF wQ wX) 5) ?_
 refine cDs [true, false, false] (UD (ZA (ZI.mk wF wQ wX) 5).2 J 11 (by (exact ⟨by omega, fun x hx => Nat.le_trans (j1.2.2.2.2 x hx) (by decide)⟩))) ?_
 refine XV (rv := [.cell 2 40]) rfl ?_
 simp [f.h]
theorem QZ (a0 : Int) (a1 : List Int) (u0 : Sm 68719476736 a1) : Sa 176 [rI a0, rL 1 iR a1] [rI (Qw a0 a1)] := by
 have f := me (Qw.eq_1 a0 a1)
 have c1 := sl 68719476736 a1 u0
 refine so func176 ntmps176 ?_
 refine cRs (Pf (([7, a0] : List Int) ++ a1)) ?_
 exact rt [.tmp 4] f
theorem SD (a0 : Int) (a1 : ByteArray) (a2 : Int) (u0 : Sm 2326528 a1) : Sa 178 [rI a0, rS a1, rI a2] [rI (jf a0 a1 a2)] := by
 have f := me (jf.eq_1 a0 a1 a2)
 refine so func178 ntmps178 ?_
 refine lp2 (y8.eq_2 a1) (fun J U => Yd 27 [eI 0 a0, (1, .one (.d (.str a1)), []), (7, .one (.sref 7 0 0 J.length), [.arr false 1 (J.map iR)]), eI 8 (U : Int)]) (fun n1 J U => a1.size < n1 + U /\ U <= a1.size /\ J.length <= 1 + 1 * U) (a1.size + 1) ([a2] : List Int) 0 (fun p1 J U e1 j1 => ?_) (h0 := wkS [((7, 0), some (10, 0))] [])
 refine cFo e1 ?_ ?_ <;> intro k2 h1 e1
 ·have q1 := h1; try simp at q1
  have c1 : a1.size <= 2326528 := Lt (xs u0)
  have w1 := wr U
  simp
  refine rpS ?_
  exact nx2 e1 (hw := X1 [((7, 0), some (23, 0))] [] rfl (by simp [w1]))
 have q1 := h1; try simp at q1
 have c2 : a1.size <= 2326528 := Lt (xs u0)
 have f := ms f e1
 simp
 refine cRs (QZ a0 J (by first | (simp (maxDischargeDepth := 12) [XM]; omega) | (simp (maxDischargeDepth := 12) [ZW (m := 68719476736) (by decide) u0]; done))) ?_
 exact rt [.tmp 6] f
theorem kX (a0 : Int) (a1 : ZV) (u0 : Sm 2322432 a1) : Sa 160 [rI a0, a1.row] [rI (Xq a0 a1)] := by
 have f := me (Xq.eq_1 a0 a1)
 refine so func160 ntmps160 ?_
 refine cRs (ya a1) ?_
 refine cF f ?_ ?_ <;> intro k1 h1 f
 ·exact rt [.tmp 4] f
 refine lp2 (ql.eq_2 a0 a1) (fun J U => Yd 38 [eI 0 a0, eX 3 (a1.row.map .d), (5, .one (.sref 5 0 0 J.length), [.arr false 1 (J.map iR)]), eI 6 (U : Int)]) (fun n1 J U => a1.YO.length < n1 + U /\ U <= a1.YO.length /\ J.length <= 1 + 1 * U) (a1.YO.length + 1) ([a1.yH] : List Int) 0 (fun p1 J U e1 j1 => ?_) (h0 := wkS [((5, 0), some (12, 0))] [])
 try dsimp only at j1
 refine cF e1 ?_ ?_ <;> intro k3 h2 e1
 ·have i1 := ix h2
  have m2 := ml a1.YO (k3 15 _ rfl)
  have c1 := sl 2322432 a1.YO u0
  have w1 := wr U
  refine dIo mixed ?_
  have i2 : U < a1.XB.length := by (have := TE (a := a1); first | (simp_all; done) | (simp_all; omega))
  simp [i1, ZC, i2]
  refine rpS ?_
  refine cRs (SD a0 (nth a1.YO U) (nth a1.XB U) (sg (yX (ZV.MH u0)))) ?_
  exact nx2 e1 (hw := X1 [((5, 0), some (34, 0))] [] rfl (by simp [w1]))
 have c2 := sl 2322432 a1.YO u0
 have f := ms f e1
 refine cRs (QZ a0 J (by first | (simp (maxDischargeDepth := 12) [XM]; omega) | (simp (maxDischargeDepth := 12) [ZW (m := 68719476736) (by decide) u0]; done))) ?_
 exact rt [.tmp 4] f
theorem J5 (a0 : List Z3) (a1 : Int) : Sa 139 [rL 5 Z3.row a0, rI a1] [rI (YR a0 a1)] := by
 have f := me (YR.eq_1 a0 a1)
 refine so func139 ntmps139 ?_
 refine lp1 (xq.eq_2 a0 a1) (fun J => Yd 20 [eL 0 5 a0 Z3.row, eI 1 a1, eI 5 (J : Int)]) (fun n1 J => a0.length < n1 + J /\ J <= a0.length) (a0.length + 1) 0 (fun p1 J e1 j1 => ?_)
 refine cFf e1 ?_ ?_ <;> intro k2 h1 e1
 ·have i1 := ix h1
  have m2 := ml a0 (k2 0 _ rfl)
  have w1 := wr J
  simp [i1, ZC]
  refine rpS ?_
  refine cF e1 ?_ ?_ <;> intro k3 h2 e1
  ·have f := ms f e1
   exact rt [.tmp 4] f
  exact ny1 w1 e1
 have f := ms f e1
 exact rt [.tmp 4] f
theorem Uo (a0 : Zk) : Sa 183 [a0.row] [rB (KS a0)] := by
 have f := me (KS.eq_1 a0)
 refine so func183 ntmps183 ?_
 refine cRs (YB a0.Key 1 99) ?_
 refine cGs (fun gg => (YB a0.Z9 1 999)) ?_
 refine cGs (fun gg => (YB a0.Method 0 99)) ?_
 refine cGs (fun gg => (YB a0.Org 0 99)) ?_
 refine cGs (fun gg => (YB a0.ye 1 3)) ?_
 refine cGs (fun gg => (YB a0.Yn 0 1000000000000)) ?_
 refine cGs (fun gg => (YB a0.yd 0 1000000000000)) ?_
 refine cGs (fun gg => (YB a0.jn 0 1000000000000)) ?_
 exact rt [.tmp 2] f
theorem xA (a0 : Zk) : Sd 146 [a0.row] [rL 1 iR (Xa a0)] := by
 have f := me (Xa.eq_1 a0)
 refine soD func146 ntmps146 ?_
 exact rtD [.tmp 2] f
theorem KT (a0 : Z3) (a1 : List Int) (u0 : Sm 2326528 a1) : Sa 141 [a0.row, rL 1 iR a1] [rI (Kq a0 a1)] := by
 have f := me (Kq.eq_1 a0 a1)
 refine so func141 ntmps141 ?_
 refine P7 [2, 3, 4, 5, 6, 0, 1, 7, 8] mixed (by kernel_rfl) (by kernel_rfl) (by kernel_rfl) ?_
 have c1 := sl 2326528 a1 u0
 simp
 refine rpS ?_
 refine cRs (kD a0.Qe (([a0.Method] : List Int) ++ a1) (by simp (maxDischargeDepth := 12) [Xx, XM, ZW (m := 2330624) (by decide) u0]; try omega)) ?_
 exact rt [.tmp 4] f
theorem T3 (a0 : List Z3) (a1 : Zk) (u0 : Sm 2322432 a0) : Sa 171 [rL 5 Z3.row a0, a1.row] [(Jy a0 a1).1.row, rB (Jy a0 a1).2] := by
 have f := me (Jy.eq_1 a0 a1)
 refine so func171 ntmps171 ?_
 refine cRs (J5 a0 a1.Key) ?_
 refine cRs (Uo a1) ?_
 refine cF f ?_ ?_ <;> intro k1 h1 f
 ·exact rt [.cell 4 42, .tmp 5] f
 refine dIo mixed ?_
 have i1 : (YR a0 a1.Key).toNat < a0.length := by have := zI a0 a1.Key; exact il
 simp [i1, ZC]
 refine rpS ?_
 refine cRs (YC.rd (xA a1)) ?_
 refine cRs (KT (nth a0 (YR a0 a1.Key).toNat) (Xa a1) (by simp (maxDischargeDepth := 12) [xj, ZW (m := 2326528) (by decide) u0]; try omega)) ?_
 exact rt [.cell 4 42, .tmp 5] f
theorem Vx (a0 : List Z3) (a1 : Int) (a2 : Int) (a3 : Int) (a4 : ZV) (a5 : Int) (u0 : Sm 2318336 a0) (u1 : Sm 2318336 a4) : Sa 149 [rL 5 Z3.row a0, rI a1, rI a2, rI a3, a4.row, rI a5] [(Jd a0 a1 a2 a3 a4 a5).1.row, rB (Jd a0 a1 a2 a3 a4 a5).2] := by
 have f := me (Jd.eq_1 a0 a1 a2 a3 a4 a5)
 refine so func149 ntmps149 ?_
 refine cRs (kX a3 a4 (sg u1)) ?_
 refine cRs (T3 a0 (Zk.mk a1 a2 a3 (Xq a3 a4) a5 0 0 0 0) (sg u0)) ?_
 exact rt [.cell 12 42, .tmp 13] f
theorem UM (a0 : ZI) : Yr prog 125 true a0.row [] (ZR a0).1.row [(ZR a0).2.1.row, (ZR a0).2.2.row] := by
 have f := me (ZR.eq_1 a0)
 refine YK func125 rfl (by kernel_rfl) (fun v => ?_)
 simp [ntmps125]
 refine cBs [] (MD a0) ?_
 refine cBs [] (ZX (YM a0).1 3) ?_
 refine jv [(0, 0), (4, 4), (21, 0)] [] [22, 3000001] mixed (by kernel_rfl) (by kernel_rfl) (by kernel_rfl) (by kernel_rfl) (by kernel_rfl) (by kernel_rfl) (by kernel_rfl) ?_
 simp
 refine cRs (YC.rd (Y8)) ?_
 refine cBs [] (ZX (ZA (YM a0).1 3).1 3) ?_
 refine cRs (Vx ZD (W (11 + (ZA (YM a0).1 3).2)) (W (1 + (ZA (YM a0).1 3).2)) (W (1 + (ZA (YM a0).1 3).2)) (YM a0).2 (W (1 + (ZA (ZA (YM a0).1 3).1 3).2)) (by simp (maxDischargeDepth := 12) [Yw]; try omega) (by simp (maxDischargeDepth := 12) [Tc]; try omega)) ?_
 refine Ww [(2, 2), (3, 3), (4, 4), (6, 6)] mixed (by kernel_rfl) (by kernel_rfl) (by kernel_rfl) (by kernel_rfl) ?_
 simp
 refine XV (rv := [.cell 2 42, .cell 3 40]) rfl ?_
 simp [f.h]
theorem xP (a0 : Zk) : Sd 122 [a0.row] [(Yf a0).row] := by
 have f := me (Yf.eq_1 a0)
 refine soD func122 ntmps122 ?_
 refine dIs mixed ?_
 refine cDs [false] (xA a0) ?_
 exact rtD [.cell 2 158] f
theorem R2 (a0 : Z1) : Sa 167 [a0.row] [(jR a0).row] := by
 have f := me (jR.eq_1 a0)
 refine so func167 ntmps167 ?_
 exact rt [.cell 2 90] f
theorem yM (a0 : Int) : Sa 118 [rI a0] [rB (xJ a0)] := by
 have f := me (xJ.eq_1 a0)
 refine so func118 ntmps118 ?_
 refine cRs (YB a0 0 10000) ?_
 exact rt [.tmp 2] f
theorem TQ (a0 : Yk) : Sa 166 [a0.row] [rB (Uc a0)] := by
 have f := me (Uc.eq_1 a0)
 refine so func166 ntmps166 ?_
 refine cRs (yM a0.Jz) ?_
 refine cGs (fun gg => (yM a0.To)) ?_
 exact rt [.tmp 2] f
theorem Ni (a0 : Z1) : Sa 140 [a0.row] [rB (Sl a0)] := by
 have f := me (Sl.eq_1 a0)
 refine so func140 ntmps140 ?_
 refine cRs (YB a0.Z9 1 999) ?_
 refine cGs (fun gg => (YB a0.Key 1 99)) ?_
 refine cGs (fun gg => (YB a0.YI 1 99)) ?_
 refine cGs (fun gg => (YB a0.Xn 0 99)) ?_
 refine cGs (fun gg => (R2 a0)) ?_
 refine cGs (fun gg => (TQ (jR a0))) ?_
 exact rt [.tmp 2] f
theorem VB (a0 : Z1) : Sd 142 [a0.row] [rL 1 iR (Jh a0)] := by
 have f := me (Jh.eq_1 a0)
 refine soD func142 ntmps142 ?_
 exact rtD [.tmp 2] f
theorem xd (a0 : List Z3) (a1 : Z1) (u0 : Sm 2322432 a0) : Sa 112 [rL 5 Z3.row a0, a1.row] [(Kv a0 a1).1.row, rB (Kv a0 a1).2] := by
 have f := me (Kv.eq_1 a0 a1)
 refine so func112 ntmps112 ?_
 refine cRs (J5 a0 a1.YI) ?_
 refine cRs (Ni a1) ?_
 refine cGs (fun gg => (J5 a0 a1.Key)) ?_
 refine cF f ?_ ?_ <;> intro k1 h1 f
 ·exact rt [.cell 4 99, .tmp 5] f
 refine dIo mixed ?_
 have i1 : (YR a0 a1.YI).toNat < a0.length := by have := zI a0 a1.YI; exact il
 simp [i1, ZC]
 refine rpS ?_
 refine cRs (YC.rd (VB a1)) ?_
 refine cRs (KT (nth a0 (YR a0 a1.YI).toNat) (Jh a1) (by simp (maxDischargeDepth := 12) [VD, ZW (m := 2326528) (by decide) u0]; try omega)) ?_
 exact rt [.cell 4 99, .tmp 5] f
theorem yp : Sd 94 [] [rL 7 Z1.row YQ] := by
 have f := me (YQ.eq_1)
 refine soD func94 ntmps94 ?_
 refine cRs (YC.rd (Y8)) ?_
 refine cRs (xd ZD (Z1.mk 1 11 1 0 60 1 0) (by simp (maxDischargeDepth := 12) [Yw]; try omega)) ?_
 refine cRs (YC.rd (Y8)) ?_
 refine cRs (xd ZD (Z1.mk 2 12 1 20 100 1 0) (by simp (maxDischargeDepth := 12) [Yw]; try omega)) ?_
 refine cRs (YC.rd (Y8)) ?_
 refine cRs (xd ZD (Z1.mk 3 13 2 40 150 2 0) (by simp (maxDischargeDepth := 12) [Yw]; try omega)) ?_
 exact rtD [.tmp 0] f
theorem kE (a0 : Z1) : Sd 126 [a0.row] [(Yt a0).row] := by
 have f := me (Yt.eq_1 a0)
 refine soD func126 ntmps126 ?_
 refine dIs mixed ?_
 refine cDs [false] (VB a0) ?_
 exact rtD [.cell 2 158] f
theorem PX (a0 : YY) : Sa 150 [a0.row] [rB (Vj a0)] := by
 have f := me (Vj.eq_1 a0)
 refine so func150 ntmps150 ?_
 refine cRs (YB a0.Z9 1 999) ?_
 refine cGs (fun gg => (yM a0.Mf)) ?_
 refine cGs (fun gg => (YB a0.QB (-1) (W (a0.Mf + 1)))) ?_
 refine cGs (fun gg => (YB a0.YI 1 99)) ?_
 exact rt [.tmp 2] f
theorem js (a0 : YY) : Sd 151 [a0.row] [rL 1 iR (QI a0)] := by
 have f := me (QI.eq_1 a0)
 refine soD func151 ntmps151 ?_
 exact rtD [.tmp 2] f
theorem yY (a0 : List Z3) (a1 : YY) (u0 : Sm 2322432 a0) : Sa 127 [rL 5 Z3.row a0, a1.row] [(Xd a0 a1).1.row, rB (Xd a0 a1).2] := by
 have f := me (Xd.eq_1 a0 a1)
 refine so func127 ntmps127 ?_
 refine cRs (J5 a0 a1.YI) ?_
 refine cRs (PX a1) ?_
 refine cF f ?_ ?_ <;> intro k1 h1 f
 ·exact rt [.cell 4 181, .tmp 5] f
 refine dIo mixed ?_
 have i1 : (YR a0 a1.YI).toNat < a0.length := by have := zI a0 a1.YI; exact il
 simp [i1, ZC]
 refine rpS ?_
 refine cRs (YC.rd (js a1)) ?_
 refine cRs (KT (nth a0 (YR a0 a1.YI).toNat) (QI a1) (by simp (maxDischargeDepth := 12) [jt, ZW (m := 2326528) (by decide) u0]; try omega)) ?_
 exact rt [.cell 4 181, .tmp 5] f
theorem qt (a0 : YY) : Sd 129 [a0.row] [(XN a0).row] := by
 have f := me (XN.eq_1 a0)
 refine soD func129 ntmps129 ?_
 refine dIs mixed ?_
 refine cDs [false] (js a0) ?_
 exact rtD [.cell 2 158] f
theorem Ov (a0 : ZS) (u0 : Sm 2342912 a0) : Sd 147 [a0.row] [(TK a0).row] := by
 have f := me (TK.eq_1 a0)
 refine soD func147 ntmps147 ?_
 refine P7 [2, 3, 4, 5, 0, 1, 6, 7, 8, 9] mixed (by kernel_rfl) (by kernel_rfl) (by kernel_rfl) ?_
 have c1 := sl 2342912 a0.Wm u0
 simp
 refine rpS ?_
 exact rtD [.cell 2 158] f
theorem VA (a0 : ZS) (u0 : Sm 2342912 a0) : Sd 147 [a0.row] [a0.row] := by
  have h := Ov a0 u0
  rwa [Oa] at h
theorem Np (a0 : List ZS) (u0 : Sm 2338816 a0) : Sd 123 [rL 3 ZS.row a0] [rL 3 ZS.row (UQ a0)] := by
 have f := me (UQ.eq_1 a0)
 refine soD func123 ntmps123 ?_
 refine GY (news := (([] : List ZS).map ZS.row)) (L := []) rfl rfl rfl rfl (by simp) (by simp) (by simp) (by simp) (by simp) (by simp) ?_
 simp
 refine lp2 (jS.eq_2 a0) (fun J U => Yd 21 [eL 0 3 a0 ZS.row, (3, .one (.sref 3 0 0 J.length), [.arr true 3 (J.map ZS.row)]), eI 4 (U : Int)]) (fun n1 J U => a0.length < n1 + U /\ U <= a0.length /\ J.length <= 0 + 1 * U) (a0.length + 1) ([] : List ZS) 0 (fun p1 J U e1 j1 => ?_) (h0 := wkS [((3, 0), some (5, 0))] [])
 refine cFf e1 ?_ ?_ <;> intro k2 h1 e1
 ·have i1 := ix h1
  have m2 := ml a0 (k2 0 _ rfl)
  have c1 := sl 2338816 a0 u0
  have w1 := wr U
  simp [i1, ZC]
  refine rpS ?_
  refine cDs [true, false] (VA (nth a0 U) (sg (yX u0))) ?_
  refine Vr ?_
  simp
  refine Uy (wE := (J.map ZS.row)) (news := (([(nth a0 U)] : List ZS).map ZS.row)) (l1 := [(3, 0)]) (l2 := [(17, 1)]) (size := 3) ?_
  simp
  exact nx2 e1 (hw := X1 [((3, 0), some (19, 0))] [] rfl (by simp [w1]))
 have c2 := sl 2338816 a0 u0
 have f := ms f e1
 exact rtD [.tmp 2] f
theorem Of (a0 : List ZS) (u0 : Sm 2338816 a0) : Sd 123 [rL 3 ZS.row a0] [rL 3 ZS.row a0] := by
  have h := Np a0 u0
  rwa [N3] at h
theorem OO (a0 : ZM) (u0 : Sm 2342912 a0) : Sd 124 [a0.row] [(TC a0).row] := by
 have f := me (TC.eq_1 a0)
 have c1 := sl 2342912 a0.Path u0
 have c2 := sl 2342912 a0.Z8 u0
 refine soD func124 ntmps124 ?_
 exact rtD [.cell 2 83] f
theorem Wz (a0 : ZM) (u0 : Sm 2342912 a0) : Sd 124 [a0.row] [a0.row] := by
  have h := OO a0 u0
  rwa [Oq] at h
theorem OH (a0 : ZO) (u0 : Sm 2334720 a0) : Sd 106 [a0.row] [(Wa a0).row] := by
 have f := me (Wa.eq_1 a0)
 refine soD func106 ntmps106 ?_
 refine cDs [] (Of a0.ZT (sg (ZO.IV u0))) ?_
 refine lp2 (xx.eq_2 a0) (fun J U => Yd 28 [eX 1 (a0.row.map .d), (2, .one (.bptr 2 0), [.box [.nil 3, .nil 5]]), (3, .one (.bptr 3 0), [.box [.sref 7 0 0 a0.ZT.length, .sref 3 2 0 U.length], .none, .arr true 5 (U.map ZM.row)]), eI 4 (J : Int), (7, .any, [.arr true 3 (a0.ZT.map ZS.row)])]) (fun n1 J U => a0.ZN.length < n1 + J /\ J <= a0.ZN.length /\ U.length <= 0 + 1 * J) (a0.ZN.length + 1) 0 ([] : List ZM) (fun p1 J U e1 j1 => ?_) (h0 := wkS [((3, 2), none)] [])
 refine cF e1 ?_ ?_ <;> intro k2 h1 e1
 ·have i1 := ix h1
  have m2 := ml a0.ZN (k2 11 _ rfl)
  have c1 := sl 2334720 a0.ZN u0
  have w1 := wr J
  refine drJ [25] mixed ?_
  simp [i1, ZC]
  refine rpS ?_
  refine cDs [true, true, true, false, false] (Wz (nth a0.ZN J) (sg (yX (ZO.V2 u0)))) ?_
  refine Vr ?_
  simp
  refine Uy (wE := (U.map ZM.row)) (news := (([(nth a0.ZN J)] : List ZM).map ZM.row)) (l1 := [(3, 2)]) (l2 := [(23, 3), (23, 4)]) (size := 5) ?_
  simp
  exact nx2 e1 (hw := X1 [((3, 2), some (25, 0))] [] rfl (by simp [w1]))
 have c2 := sl 2334720 a0.ZN u0
 have f := ms f e1
 exact rtD [.cell 2 46] f
theorem KN (a0 : ZO) (u0 : Sm 2334720 a0) : Sd 106 [a0.row] [a0.row] := by
  have h := OH a0 u0
  rwa [OP] at h
theorem Sg (a0 : List Int) (a1 : List Int) : Sa 145 [rL 1 iR a0, rL 1 iR a1] [rB (kB a0 a1)] := by
 have f := me (kB.eq_1 a0 a1)
 refine so func145 ntmps145 ?_
 refine cF f ?_ ?_ <;> intro k1 h1 f
 ·exact rt [.tmp 4] f
 refine lp1 (qg.eq_2 a0 a1) (fun J => Yd 26 [eL 0 1 a0 iR, eL 1 1 a1 iR, eI 5 (J : Int)]) (fun n1 J => a0.length < n1 + J /\ J <= a0.length) (a0.length + 1) 0 (fun p1 J e1 j1 => ?_)
 refine cF e1 ?_ ?_ <;> intro k3 h2 e1
 ·have i1 := ix h2
  have m2 := ml a0 (k3 0 _ rfl)
  have w1 := wr J
  refine dIo mixed ?_
  have i2 := ik J a1
  simp [i1, ZC, i2]
  refine rpS ?_
  refine cF e1 ?_ ?_ <;> intro k5 h3 e1
  ·have f := ms f e1
   exact rt [.tmp 4] f
  exact ny1 w1 e1
 have f := ms f e1
 exact rt [.tmp 4] f
theorem qx (a0 : ZS) (a1 : ZS) : Sa 121 [a0.row, a1.row] [rB (zz a0 a1)] := by
 have f := me (zz.eq_1 a0 a1)
 refine so func121 ntmps121 ?_
 refine cGs (fun gg => (Sg a0.Wm a1.Wm)) ?_
 exact rt [.tmp 4] f
theorem Ri (a0 : ZO) (a1 : ZS) : Sa 144 [a0.row, a1.row] [rI (yQ a0 a1)] := by
 have f := me (yQ.eq_1 a0 a1)
 refine so func144 ntmps144 ?_
 refine lp1 (qP.eq_2 a0 a1) (fun J => Yd 21 [eX 2 (a0.row.map .d), eX 3 (a1.row.map .d), eI 5 (J : Int)]) (fun n1 J => a0.ZT.length < n1 + J /\ J <= a0.ZT.length) (a0.ZT.length + 1) 0 (fun p1 J e1 j1 => ?_)
 refine cF e1 ?_ ?_ <;> intro k2 h1 e1
 ·have i1 := ix h1
  have m2 := ml a0.ZT (k2 8 _ rfl)
  have w1 := wr J
  refine dIo mixed ?_
  simp [i1, ZC]
  refine rpS ?_
  refine cRs (qx (nth a0.ZT J) a1) ?_
  refine cF e1 ?_ ?_ <;> intro k4 h2 e1
  ·have f := ms f e1
   exact rt [.tmp 4] f
  exact ny1 w1 e1
 have f := ms f e1
 exact rt [.tmp 4] f
theorem qR (a0 : ZO) : Sa 120 [a0.row] [rB (Q8 a0)] := by
 have f := me (Q8.eq_1 a0)
 refine so func120 ntmps120 ?_
 refine lp1 (J4.eq_2 a0) (fun J => Yd 69 [eX 1 (a0.row.map .d), eI 3 (J : Int)]) (fun n1 J => a0.ZT.length < n1 + J /\ J <= a0.ZT.length) (a0.ZT.length + 1) 0 (fun p1 J e1 j1 => ?_)
 refine cF e1 ?_ ?_ <;> intro k2 h1 e1
 ·have i1 := ix h1
  have m2 := ml a0.ZT (k2 7 _ rfl)
  have w1 := wr J
  refine dIo mixed ?_
  simp [i1, ZC]
  refine rpS ?_
  refine cRs (Ri a0 (nth a0.ZT J)) ?_
  refine cF e1 ?_ ?_ <;> intro k4 h2 e1
  ·have f := ms f e1
   exact rt [.tmp 2] f
  exact ny1 w1 e1
 have f := ms f e1
 refine lp1 (J7.eq_2 a0) (fun wB => Yd 69 [eX 1 (a0.row.map .d), eI 4 (wB : Int)]) (fun n2 wB => a0.ZN.length < n2 + wB /\ wB <= a0.ZN.length) (a0.ZN.length + 1) 0 (fun p2 wB e2 j2 => ?_)
 refine cF e2 ?_ ?_ <;> intro k6 h3 e2
 ·have i2 := ix h3
  have m4 := ml a0.ZN (k6 23 _ rfl)
  have w2 := wr wB
  refine dIo mixed ?_
  simp [i2, ZC]
  refine rpS ?_
  refine cRs (YB (nth a0.ZN wB).Count 1 (a0.ZT.length : Int)) ?_
  refine gIf ?_ ?_ <;> intro G
  ·have i3 := ik (wB - 1) a0.ZN
   have w3 : IntKind.i64.wrap ((wB : Int) - 1) = (wB : Int) - 1 := Yi (by omega) (by omega)
   simp [i3, ZC, w3, JA, G]
   refine rpG ?_
   refine gK (fun _ => ?_)
   simp [i2, ZC, G]
   refine rpG ?_
   refine cKo e2 ?_ ?_ <;> intro k8 h4 e2
   ·have q4 := h4; try simp [Z4] at q4
    have f := ms f e2
    simp [G]
    refine rpG ?_
    exact rtg [.tmp 2] f
   ·have q4 := h4; try simp [Z4] at q4
    simp [G]
    refine rpG ?_
    exact ny1 (an w2 (an w3 G)) e2
  ·refine sGg ?_
   refine cKo e2 ?_ ?_ <;> intro k9 h5 e2
   ·have q5 := h5; try simp [Z4] at q5
    have f := ms f e2
    simp [G]
    refine rpG ?_
    exact rtg [.tmp 2] f
   ·have q5 := h5; try simp [Z4] at q5
    simp [G]
    refine rpG ?_
    exact ny1 (an w2 G) e2
 have f := ms f e2
 refine cRs (YB (a0.ZT.length : Int) 1 12) ?_
 exact rt [.tmp 2] f
theorem qV (a0 : ZO) (a1 : ZS) (u0 : Sm 2326528 a0) (u1 : Sm 2326528 a1) : Sd 128 [a0.row, a1.row] [(Xm a0 a1).1.row, rB (Xm a0 a1).2] := by
 have f := me (Xm.eq_1 a0 a1)
 refine soD func128 ntmps128 ?_
 refine cDs [] (KN a0 (sg u0)) ?_
 refine drJ [14] mixed ?_
 simp
 refine cDs [true, false] (VA a1 (sg u1)) ?_
 refine Vr ?_
 have c1 := sl 2326528 a0.ZT (an u0 u1)
 simp
 refine Uy (wE := (a0.ZT.map ZS.row)) (news := (([a1] : List ZS).map ZS.row)) (l1 := [(8, 0)]) (l2 := [(12, 1)]) (size := 3) ?_
 simp
 refine cRs (qR (ZO.mk (a0.ZT ++ ([a1] : List ZS)) a0.ZN)) ?_
 refine cF f ?_ ?_ <;> intro k2 h1 f
 ·refine cDs [] (KN a0 (sg u0)) ?_
  exact rtD [.cell 4 46, .tmp 5] f
 exact rtD [.cell 4 46, .tmp 5] f
theorem NJ (a0 : ZI) : Yr prog 152 false a0.row [] (y2 a0).1.row [(y2 a0).2.row] := by
 have f := me (y2.eq_1 a0)
 refine YK func152 rfl (by kernel_rfl) (fun v => ?_)
 simp [ntmps152]
 refine cBs [] (ZX a0 60) ?_
 refine cBs [] (ZX (ZA a0 60).1 3) ?_
 refine cBs [] (ZX (ZA (ZA a0 60).1 3).1 2) ?_
 refine cBs [] (Ky (ZA (ZA (ZA a0 60).1 3).1 2).1 3) ?_
 refine cF f ?_ ?_ <;> intro k1 h1 f
 ·refine cBs [] (ZX (Zh (ZA (ZA (ZA a0 60).1 3).1 2).1 3).1 (W ((ZA a0 60).2 + 2))) ?_
  refine dIs mixed ?_
  refine cRs (YC.rd (Y8)) ?_
  refine cRs (yY ZD (YY.mk (W (1 + (ZA (ZA a0 60).1 3).2)) (ZA a0 60).2 (ZA (Zh (ZA (ZA (ZA a0 60).1 3).1 2).1 3).1 (W ((ZA a0 60).2 + 2))).2 (W (1 + (ZA (ZA (ZA a0 60).1 3).1 2).2)) 0) (by simp (maxDischargeDepth := 12) [Yw]; try omega)) ?_
  refine XV (rv := [.cell 2 181]) rfl ?_
  simp [f.h]
 refine dIs mixed ?_
 refine cRs (YC.rd (Y8)) ?_
 refine cRs (yY ZD (YY.mk (W (1 + (ZA (ZA a0 60).1 3).2)) (ZA a0 60).2 (-1) (W (1 + (ZA (ZA (ZA a0 60).1 3).1 2).2)) 0) (by simp (maxDischargeDepth := 12) [Yw]; try omega)) ?_
 refine XV (rv := [.cell 2 181]) rfl ?_
 simp [f.h]
theorem xX (a0 : List ZJ) (a1 : Int) : Sa 173 [rL 3 ZJ.row a0, rI a1] [rI (YL a0 a1)] := by
 have f := me (YL.eq_1 a0 a1)
 refine so func173 ntmps173 ?_
 refine lp1 (JT.eq_2 a0 a1) (fun J => Yd 20 [eL 0 3 a0 ZJ.row, eI 1 a1, eI 5 (J : Int)]) (fun n1 J => a0.length < n1 + J /\ J <= a0.length) (a0.length + 1) 0 (fun p1 J e1 j1 => ?_)
 refine cFf e1 ?_ ?_ <;> intro k2 h1 e1
 ·have i1 := ix h1
  have m2 := ml a0 (k2 0 _ rfl)
  have w1 := wr J
  simp [i1, ZC]
  refine rpS ?_
  refine cF e1 ?_ ?_ <;> intro k3 h2 e1
  ·have f := ms f e1
   exact rt [.tmp 4] f
  exact ny1 w1 e1
 have f := ms f e1
 exact rt [.tmp 4] f
theorem xa (a0 : Zf) : Sd 172 [a0.row] [rL 1 iR (QJ a0)] := by
 have f := me (QJ.eq_1 a0)
 refine soD func172 ntmps172 ?_
 exact rtD [.tmp 2] f
theorem jz (a0 : List Z3) (a1 : List ZJ) (a2 : Zf) (u0 : Sm 2322432 a0) (u1 : Sm 2322432 a1) : Sa 163 [rL 5 Z3.row a0, rL 3 ZJ.row a1, a2.row] [(Kr a0 a1 a2).1.row, rB (Kr a0 a1 a2).2] := by
 have f := me (Kr.eq_1 a0 a1 a2)
 refine so func163 ntmps163 ?_
 refine cRs (xX a1 a2.Authority) ?_
 refine cGs (fun gg => (yM a2.Time)) ?_
 refine cFt f ?_ ?_ <;> intro k1 h1 f
 ·exact rt [.cell 6 123, .tmp 7] f
 have i1 : (YL a1 a2.Authority).toNat < a1.length := by have := xC a1 a2.Authority; exact il
 simp [i1, ZC]
 refine rpS ?_
 refine cRs (J5 a0 (nth a1 (YL a1 a2.Authority).toNat).Key) ?_
 refine cF f ?_ ?_ <;> intro k2 h2 f
 ·exact rt [.cell 6 123, .tmp 7] f
 refine dIo mixed ?_
 have i2 : (YR a0 (nth a1 (YL a1 a2.Authority).toNat).Key).toNat < a0.length := by have := zI a0 (nth a1 (YL a1 a2.Authority).toNat).Key; exact il
 simp [i2, ZC]
 refine rpS ?_
 refine cRs (YC.rd (xa a2)) ?_
 refine cRs (KT (nth a0 (YR a0 (nth a1 (YL a1 a2.Authority).toNat).Key).toNat) (QJ a2) (by simp (maxDischargeDepth := 12) [kg, ZW (m := 2326528) (by decide) u0, ZW (m := 2326528) (by decide) u1]; try omega)) ?_
 exact rt [.cell 6 123, .tmp 7] f
theorem PS (a0 : ZI) : Yr prog 153 false a0.row [] (Q0 a0).1.row [(Q0 a0).2.row] := by
 have f := me (Q0.eq_1 a0)
 refine YK func153 rfl (by kernel_rfl) (fun v => ?_)
 simp [ntmps153]
 refine cRs (YC.rd (Y8)) ?_
 refine cRs (YC.rd (Y6)) ?_
 refine cBs [] (ZX a0 4) ?_
 refine cBs [] (ZX (ZA a0 4).1 9) ?_
 refine cBs [] (ZX (ZA (ZA a0 4).1 9).1 60) ?_
 refine cBs [] (ZX (ZA (ZA (ZA a0 4).1 9).1 60).1 99) ?_
 refine cRs (jz ZD ZG (Zf.mk (W (1 + (ZA a0 4).2)) (ZA (ZA a0 4).1 9).2 (ZA (ZA (ZA a0 4).1 9).1 60).2 (ZA (ZA (ZA (ZA a0 4).1 9).1 60).1 99).2 0) (by simp (maxDischargeDepth := 12) [Yw]; try omega) (by simp (maxDischargeDepth := 12) [Y5]; try omega)) ?_
 refine XV (rv := [.cell 2 123]) rfl ?_
 simp [f.h]
theorem Rx (a0 : List ZJ) (a1 : Zf) : Sa 155 [rL 3 ZJ.row a0, a1.row] [rI (jK a0 a1)] := by
 have f := me (jK.eq_1 a0 a1)
 refine so func155 ntmps155 ?_
 refine cRs (xX a0 a1.Authority) ?_
 refine cFt f ?_ ?_ <;> intro k1 h1 f
 ·exact rt [.tmp 4] f
 have i1 : (YL a0 a1.Authority).toNat < a0.length := by have := xC a0 a1.Authority; exact il
 simp [i1, ZC]
 refine rpS ?_
 exact rt [.tmp 4] f
theorem SE (a0 : Int) (a1 : Zf) : Sd 154 [rI a0, a1.row] [(yx a0 a1).row] := by
 have f := me (yx.eq_1 a0 a1)
 refine soD func154 ntmps154 ?_
 refine dIs mixed ?_
 refine cDs [false] (xa a1) ?_
 exact rtD [.cell 4 158] f
theorem SV (a0 : Yu) : Sa 184 [a0.row] [rB (kZ a0)] := by
 have f := me (kZ.eq_1 a0)
 refine so func184 ntmps184 ?_
 refine cRs (YB a0.Org 1 99) ?_
 refine cGs (fun gg => (YB a0.TN 0 99)) ?_
 refine cGs (fun gg => (YB a0.Key 1 99)) ?_
 refine cGs (fun gg => (TQ (Yk.mk a0.Jz a0.To))) ?_
 exact rt [.tmp 2] f
theorem qz (a0 : Yu) : Sd 174 [a0.row] [rL 1 iR (Xw a0)] := by
 have f := me (Xw.eq_1 a0)
 refine soD func174 ntmps174 ?_
 exact rtD [.tmp 2] f
theorem Uq (a0 : List Z3) (a1 : Yu) (u0 : Sm 2322432 a0) : Sa 175 [rL 5 Z3.row a0, a1.row] [(zq a0 a1).1.row, rB (zq a0 a1).2] := by
 have f := me (zq.eq_1 a0 a1)
 refine so func175 ntmps175 ?_
 refine cRs (J5 a0 a1.Key) ?_
 refine cRs (SV a1) ?_
 refine cF f ?_ ?_ <;> intro k1 h1 f
 ·exact rt [.cell 4 211, .tmp 5] f
 refine dIo mixed ?_
 have i1 : (YR a0 a1.Key).toNat < a0.length := by have := zI a0 a1.Key; exact il
 simp [i1, ZC]
 refine rpS ?_
 refine cRs (YC.rd (qz a1)) ?_
 refine cRs (KT (nth a0 (YR a0 a1.Key).toNat) (Xw a1) (by simp (maxDischargeDepth := 12) [qw, ZW (m := 2326528) (by decide) u0]; try omega)) ?_
 exact rt [.cell 4 211, .tmp 5] f
theorem O5 (a0 : ZI) : Yr prog 157 false a0.row [] (y4 a0).1.row [(y4 a0).2.row] := by
 have f := me (y4.eq_1 a0)
 refine YK func157 rfl (by kernel_rfl) (fun v => ?_)
 simp [ntmps157]
 refine cBs [] (ZX a0 40) ?_
 refine cRs (YC.rd (Y8)) ?_
 refine cBs [] (ZX (ZA a0 40).1 2) ?_
 refine cBs [] (ZX (ZA (ZA a0 40).1 2).1 30) ?_
 refine cRs (Uq ZD (Yu.mk 50 (W (1 + (ZA (ZA a0 40).1 2).2)) (ZA a0 40).2 (W ((ZA a0 40).2 + (ZA (ZA (ZA a0 40).1 2).1 30).2)) 21 0) (by simp (maxDischargeDepth := 12) [Yw]; try omega)) ?_
 refine XV (rv := [.cell 2 211]) rfl ?_
 simp [f.h]
theorem V9 (a0 : Yu) : Sd 156 [a0.row] [(zJ a0).row] := by
 have f := me (zJ.eq_1 a0)
 refine soD func156 ntmps156 ?_
 refine dIs mixed ?_
 refine cDs [false] (qz a0) ?_
 exact rtD [.cell 2 158] f
theorem Om {a b : Prop} (h : b) (k : a := by (intros; first | omega | with_unfolding_all (first | first | omega | (have z := ZQ (ZA a0 5).1 3; have hl := z6; omega)) | ((try simp only [XJ, show ∀ x, IntKind.i64.wrap x = W x from fun _ => rfl] at *); omega))) : a /\ b := ⟨k, h⟩
theorem Vu (a0 : ZI) : Yr prog 130 true a0.row [] (Qi a0).1.row [(Qi a0).2.row] := by
 have f := me (Qi.eq_1 a0)
 refine YK func130 rfl (by kernel_rfl) (fun v => ?_)
 simp [ntmps130]
 refine cBs [] (ZX a0 5) ?_
 refine cF f ?_ ?_ <;> intro k1 h1 f
 ·refine cRs (YC.rd (yp)) ?_
  refine cBo [] (ZX (ZA a0 5).1 3) ?_
  have i1 : (ZA (ZA a0 5).1 3).2.toNat < YQ.length := by (have z := ZQ (ZA a0 5).1 3; have hl := z6; omega)
  simp [i1, ZC]
  repeat with_reducible refine Om ?_
  refine cDs [true, false] (kE (nth YQ (ZA (ZA a0 5).1 3).2.toNat)) ?_
  refine XV (rv := [.cell 2 158]) rfl ?_
  simp [f.h]
 refine cF f ?_ ?_ <;> intro k2 h2 f
 ·refine cBs [] (NJ (ZA a0 5).1) ?_
  refine cDs [true, false] (qt (y2 (ZA a0 5).1).2) ?_
  refine XV (rv := [.cell 2 158]) rfl ?_
  simp [f.h]
 refine cF f ?_ ?_ <;> intro k3 h3 f
 ·refine cBs [] (PS (ZA a0 5).1) ?_
  refine dIs mixed ?_
  refine cRs (YC.rd (Y6)) ?_
  refine cRs (Rx ZG (Q0 (ZA a0 5).1).2) ?_
  refine cDs [true, false] (SE (jK ZG (Q0 (ZA a0 5).1).2) (Q0 (ZA a0 5).1).2) ?_
  refine XV (rv := [.cell 2 158]) rfl ?_
  simp [f.h]
 refine cF f ?_ ?_ <;> intro k5 h4 f
 ·refine cBs [] (UM (ZA a0 5).1) ?_
  refine cDs [true, false] (xP (ZR (ZA a0 5).1).2.1) ?_
  refine XV (rv := [.cell 2 158]) rfl ?_
  simp [f.h]
 refine cBs [] (O5 (ZA a0 5).1) ?_
 refine cDs [true, false] (V9 (y4 (ZA a0 5).1).2) ?_
 refine XV (rv := [.cell 2 158]) rfl ?_
 simp [f.h]
theorem WK {a b : Prop} (h : b) (k : a := by (intros; first | omega | with_unfolding_all (first | first | omega | (have z := ZQ (YM a0).1 3; have zs := W3 a0; have hl := z6; simp only [XJ] at *; omega)) | ((try simp only [XJ, show ∀ x, IntKind.i64.wrap x = W x from fun _ => rfl] at *); omega))) : a /\ b := ⟨k, h⟩
theorem S0 (a0 : ZI) : Yr prog 107 false a0.row [] (Zi a0).1.row [(Zi a0).2.1.row, (Zi a0).2.2.1.row, (Zi a0).2.2.2.row] := by
 have f := me (Zi.eq_1 a0)
 refine YK func107 rfl (by kernel_rfl) (fun v => ?_)
 simp [ntmps107]
 refine cBs [] (UM a0) ?_
 refine dIs mixed ?_
 refine cRs (YC.rd (xP (ZR a0).2.1)) ?_
 refine cR (YC.rd (yp)) ?_
 have i1 : (W ((ZR a0).2.1.Z9 - 1)).toNat < YQ.length := by (have z := ZQ (YM a0).1 3; have zs := W3 a0; have hl := z6; simp only [XJ]; omega)
 simp [i1, ZC]
 repeat with_reducible refine WK ?_
 refine cRs (YC.rd (kE (nth YQ (W ((ZR a0).2.1.Z9 - 1)).toNat))) ?_
 refine eIs ?_
 refine jv [(0, 0), (5, 5), (28, 5), (30, 0), (34, 5)] [] [32, 2000031, 3000001] mixed (by kernel_rfl) (by kernel_rfl) (by kernel_rfl) (by kernel_rfl) (by kernel_rfl) (by kernel_rfl) (by kernel_rfl) ?_
 simp
 refine cRs (YC.rd (Y8)) ?_
 refine bsD ?_
 simp
 refine cBs [] (Yc (ZR a0).1 ([10, 30, 60, 90] : List Int) (by first | omega | (simp; done) | (simp; omega))) ?_
 refine cR (YC.rd (yp)) ?_
 simp [i1, ZC]
 repeat with_reducible refine WK ?_
 refine cRs (yY ZD (YY.mk (ZR a0).2.1.Z9 (ZP (ZR a0).1 ([10, 30, 60, 90] : List Int)).2 (-1) (nth YQ (W ((ZR a0).2.1.Z9 - 1)).toNat).YI 0) (by simp (maxDischargeDepth := 12) [Yw]; try omega)) ?_
 refine cBs [] (Ky (ZP (ZR a0).1 ([10, 30, 60, 90] : List Int)).1 4) ?_
 refine cF f ?_ ?_ <;> intro k3 h1 f
 ·refine okD fun k4 => ?_
  refine dIs mixed ?_
  refine cRs (YC.rd (qt (Xd ZD (YY.mk (ZR a0).2.1.Z9 (ZP (ZR a0).1 ([10, 30, 60, 90] : List Int)).2 (-1) (nth YQ (W ((ZR a0).2.1.Z9 - 1)).toNat).YI 0)).1)) ?_
  refine cDs [] (qV (ZO.mk ([(Yf (ZR a0).2.1), (Yt (nth YQ (W ((ZR a0).2.1.Z9 - 1)).toNat))] : List ZS) ([] : List ZM)) (XN (Xd ZD (YY.mk (ZR a0).2.1.Z9 (ZP (ZR a0).1 ([10, 30, 60, 90] : List Int)).2 (-1) (nth YQ (W ((ZR a0).2.1.Z9 - 1)).toNat).YI 0)).1) (by first | with_reducible exact QR (by decide) | with_reducible exact XI (by decide) | with_reducible exact J0 _ _ | with_reducible exact KG _ _ _) (by first | with_reducible exact QR (by decide) | with_reducible exact XI (by decide) | with_reducible exact J0 _ _ | with_reducible exact KG _ _ _)) ?_
  refine cBs [] (Ky (Zh (ZP (ZR a0).1 ([10, 30, 60, 90] : List Int)).1 4).1 4) ?_
  refine cF f ?_ ?_ <;> intro k5 h2 f
  ·refine okD fun k6 => ?_
   refine jv [(0, 0), (7, 7), (58, 0)] [] [59, 3000001] mixed (by kernel_rfl) (by kernel_rfl) (by kernel_rfl) (by kernel_rfl) (by kernel_rfl) (by kernel_rfl) (by kernel_rfl) ?_
   simp
   refine cBs [] (Vu (Zh (Zh (ZP (ZR a0).1 ([10, 30, 60, 90] : List Int)).1 4).1 4).1) ?_
   refine cDs [] (qV (Xm (ZO.mk ([(Yf (ZR a0).2.1), (Yt (nth YQ (W ((ZR a0).2.1.Z9 - 1)).toNat))] : List ZS) ([] : List ZM)) (XN (Xd ZD (YY.mk (ZR a0).2.1.Z9 (ZP (ZR a0).1 ([10, 30, 60, 90] : List Int)).2 (-1) (nth YQ (W ((ZR a0).2.1.Z9 - 1)).toNat).YI 0)).1)).1 (Qi (Zh (Zh (ZP (ZR a0).1 ([10, 30, 60, 90] : List Int)).1 4).1 4).1).2 (by first | with_reducible exact QR (by decide) | with_reducible exact XI (by decide) | with_reducible exact J0 _ _ | with_reducible exact KG _ _ _) (by first | with_reducible exact QR (by decide) | with_reducible exact XI (by decide) | with_reducible exact J0 _ _ | with_reducible exact KG _ _ _)) ?_
   refine Ww [(2, 2), (3, 3), (4, 4), (5, 5), (6, 6), (7, 7)] mixed (by kernel_rfl) (by kernel_rfl) (by kernel_rfl) (by kernel_rfl) ?_
   simp
   refine XV (rv := [.cell 2 46, .cell 3 40, .cell 4 42]) rfl ?_
   simp [f.h]
  refine Ww [(2, 2), (3, 3), (4, 4), (5, 5), (6, 6), (7, 7)] mixed (by kernel_rfl) (by kernel_rfl) (by kernel_rfl) (by kernel_rfl) ?_
  simp
  refine XV (rv := [.cell 2 46, .cell 3 40, .cell 4 42]) rfl ?_
  simp [f.h]
 refine cBs [] (Ky (Zh (ZP (ZR a0).1 ([10, 30, 60, 90] : List Int)).1 4).1 4) ?_
 refine cF f ?_ ?_ <;> intro k9 h3 f
 ·refine okD fun nc => ?_
  refine jv [(0, 0), (7, 7), (58, 0)] [] [59, 3000001] mixed (by kernel_rfl) (by kernel_rfl) (by kernel_rfl) (by kernel_rfl) (by kernel_rfl) (by kernel_rfl) (by kernel_rfl) ?_
  simp
  refine cBs [] (Vu (Zh (Zh (ZP (ZR a0).1 ([10, 30, 60, 90] : List Int)).1 4).1 4).1) ?_
  refine cDs [] (qV (ZO.mk ([(Yf (ZR a0).2.1), (Yt (nth YQ (W ((ZR a0).2.1.Z9 - 1)).toNat))] : List ZS) ([] : List ZM)) (Qi (Zh (Zh (ZP (ZR a0).1 ([10, 30, 60, 90] : List Int)).1 4).1 4).1).2 (by first | with_reducible exact QR (by decide) | with_reducible exact XI (by decide) | with_reducible exact J0 _ _ | with_reducible exact KG _ _ _) (by first | with_reducible exact QR (by decide) | with_reducible exact XI (by decide) | with_reducible exact J0 _ _ | with_reducible exact KG _ _ _)) ?_
  refine Ww [(2, 2), (3, 3), (4, 4), (5, 5), (6, 6), (7, 7)] mixed (by kernel_rfl) (by kernel_rfl) (by kernel_rfl) (by kernel_rfl) ?_
  simp
  refine XV (rv := [.cell 2 46, .cell 3 40, .cell 4 42]) rfl ?_
  simp [f.h]
 refine Ww [(2, 2), (3, 3), (4, 4), (5, 5), (6, 6), (7, 7)] mixed (by kernel_rfl) (by kernel_rfl) (by kernel_rfl) (by kernel_rfl) ?_
 simp
 refine XV (rv := [.cell 2 46, .cell 3 40, .cell 4 42]) rfl ?_
 simp [f.h]
theorem yT (a0 : ZO) (a1 : ZM) (u0 : Sm 2326528 a0) (u1 : Sm 2326528 a1) : Sd 131 [a0.row, a1.row] [(Zs a0 a1).1.row, rB (Zs a0 a1).2] := by
 have f := me (Zs.eq_1 a0 a1)
 refine soD func131 ntmps131 ?_
 refine cDs [] (KN a0 (sg u0)) ?_
 refine drJ [14] mixed ?_
 simp
 refine cDs [true, true, true, false, false] (Wz a1 (sg u1)) ?_
 refine Vr ?_
 have c1 := sl 2326528 a0.ZN (an u0 u1)
 simp
 refine Uy (wE := (a0.ZN.map ZM.row)) (news := (([a1] : List ZM).map ZM.row)) (l1 := [(8, 1)]) (l2 := [(12, 3), (12, 4)]) (size := 5) ?_
 simp
 refine cRs (qR (ZO.mk a0.ZT (a0.ZN ++ ([a1] : List ZM)))) ?_
 refine cF f ?_ ?_ <;> intro k2 h1 f
 ·refine cDs [] (KN a0 (sg u0)) ?_
  exact rtD [.cell 4 46, .tmp 5] f
 exact rtD [.cell 4 46, .tmp 5] f
theorem SA (a0 : ZO) (a1 : ZV) (u0 : Sm 2318336 a0) (u1 : Sm 2318336 a1) : Sd 133 [a0.row, a1.row] [rL 1 iR (XS a0 a1)] := by
 have f := me (XS.eq_1 a0 a1)
 refine soD func133 ntmps133 ?_
 refine lp2 (Ji.eq_2 a0 a1) (fun J U => Yd 27 [eX 2 (a0.row.map .d), eX 3 (a1.row.map .d), (5, .one (.sref 5 0 0 J.length), [.arr false 1 (J.map iR)]), eI 6 (U : Int)]) (fun n1 J U => a0.ZN.length < n1 + U /\ U <= a0.ZN.length /\ J.length <= 0 + 1 * U) (a0.ZN.length + 1) ([] : List Int) 0 (fun p1 J U e1 j1 => ?_) (h0 := wkS [((5, 0), some (7, 0))] [])
 refine cF e1 ?_ ?_ <;> intro k2 h1 e1
 ·have i1 := ix h1
  have m2 := ml a0.ZN (k2 10 _ rfl)
  have c1 := sl 2318336 a0.ZN (an u0 u1)
  have w1 := wr U
  refine dIo mixed ?_
  simp [i1, ZC]
  refine rpS ?_
  refine cRs (kX (nth a0.ZN U).Method a1 (sg u1)) ?_
  exact nx2 e1 (hw := X1 [((5, 0), some (25, 0))] [] rfl (by simp [w1]))
 have c2 := sl 2318336 a0.ZN (an u0 u1)
 have f := ms f e1
 exact rtD [.tmp 4] f
theorem VM (a0 : Int) (a1 : ZM) (u0 : Sm 2326528 a1) : Sa 158 [rI a0, a1.row] [rI (KY a0 a1)] := by
 have f := me (KY.eq_1 a0 a1)
 refine so func158 ntmps158 ?_
 refine lp2 (JV.eq_2 a1) (fun J U => Yd 75 [eI 0 a0, eX 3 (a1.row.map .d), (5, .one (.sref 5 0 0 J.length), [.arr false 1 (J.map iR)]), eI 6 (U : Int)]) (fun n1 J U => a1.Path.length < n1 + U /\ U <= a1.Path.length /\ J.length <= 4 + 2 * U) (a1.Path.length + 1) ([4, a1.Count, a1.Method, a1.IA] : List Int) 0 (fun p1 J U e1 j1 => ?_) (h0 := wkS [((5, 0), some (14, 0))] [])
 refine cFo e1 ?_ ?_ <;> intro k2 h1 e1
 ·have q1 := h1; try simp at q1
  have i1 := ix h1
  have m2 := ml a1.Path (k2 17 _ rfl)
  have c1 := sl 2326528 a1.Path u0
  have w1 := wr U
  simp [i1, ZC]
  refine rpS ?_
  refine cFo e1 ?_ ?_ <;> intro k3 h2 e1
  ·have q2 := h2; try simp at q2
   simp
   refine rpS ?_
   exact nx2 e1 (hw := X1 [((5, 0), some (39, 0))] [] rfl (by simp [w1]))
  have q2 := h2; try simp at q2
  simp
  refine rpS ?_
  exact nx2 e1 (hw := X1 [((5, 0), some (42, 0))] [] rfl (by simp [w1]))
 have q1 := h1; try simp at q1
 have c2 := sl 2326528 a1.Path u0
 have f := ms f e1
 simp
 refine rpS ?_
 refine lp2 (zF.eq_2 a1) (fun wB wT => Yd 75 [eI 0 a0, eX 3 (a1.row.map .d), (5, .one (.sref 5 0 0 wB.length), [.arr false 1 (wB.map iR)]), eI 7 (wT : Int)]) (fun n2 wB wT => a1.Z8.length < n2 + wT /\ wT <= a1.Z8.length /\ wB.length <= 5 + 2 * 2326528 + 6 * wT) (a1.Z8.length + 1) (J ++ ([(a1.Z8.length : Int)] : List Int)) 0 (fun p2 wB wT e2 j2 => ?_) (hI := by (have o : a1.Path.length <= 2326528 := Je (xs u0); simp at *; omega)) (h0 := wkS [((5, 0), some (48, 0))] [])
 try dsimp only at j2
 refine cFo e2 ?_ ?_ <;> intro k5 h3 e2
 ·have q3 := h3; try simp at q3
  have i2 := ix h3
  have m4 := ml a1.Z8 (k5 51 _ rfl)
  have c3 := sl 2326528 a1.Z8 u0
  have w2 := wr wT
  simp
  refine dIo mixed ?_
  simp [i2, ZC]
  refine rpS ?_
  refine cRf i2 (YC.rd (xa (nth a1.Z8 wT))) ?_
  exact nx2 e2 (hI := by (simp; omega)) (hw := X1 [((5, 0), some (71, 0))] [] rfl (by simp [w2]))
 have q3 := h3; try simp at q3
 have c4 := sl 2326528 a1.Z8 u0
 have f := ms f e2
 simp
 refine cRs (QZ a0 wB (by first | (simp (maxDischargeDepth := 12) [XM]; omega) | (simp (maxDischargeDepth := 12) [ZW (m := 68719476736) (by decide) u0]; done))) ?_
 exact rt [.tmp 4] f
theorem Vv (a0 : Int) (a1 : List ZS) (u0 : Sm 2326528 a1) : Sa 177 [rI a0, rL 3 ZS.row a1] [rI (K1 a0 a1)] := by
 have f := me (K1.eq_1 a0 a1)
 refine so func177 ntmps177 ?_
 refine lp2 (zj.eq_2 a0 a1) (fun J U => Yd 39 [eI 0 a0, eL 1 3 a1 ZS.row, (5, .one (.sref 5 0 0 J.length), [.arr false 1 (J.map iR)]), eI 6 (U : Int)]) (fun n1 J U => a1.length < n1 + U /\ U <= a1.length /\ J.length <= 1 + 1 * U) (a1.length + 1) ([2] : List Int) 0 (fun p1 J U e1 j1 => ?_) (h0 := wkS [((5, 0), some (7, 0))] [])
 refine cF e1 ?_ ?_ <;> intro k2 h1 e1
 ·have i1 := ix h1
  have m2 := ml a1 (k2 1 _ rfl)
  have c1 := sl 2326528 a1 u0
  have w1 := wr U
  refine P7 [2, 3, 4, 5, 6, 7, 8, 9, 10, 11, 12, 13, 14, 15, 16, 17, 18, 0, 1, 19, 20, 21, 22] mixed (by kernel_rfl) (by kernel_rfl) (by kernel_rfl) ?_
  have c2 := sl 2326528 (nth a1 U).Wm u0
  simp [i1, ZC]
  refine rpS ?_
  refine cRs (QZ a0 (([(nth a1 U).Key, (nth a1 U).Mark] : List Int) ++ (nth a1 U).Wm) (by simp (maxDischargeDepth := 12) [Xx, XM, ZW (m := 68719476736) (by decide) u0]; try omega)) ?_
  exact nx2 e1 (hw := X1 [((5, 0), some (35, 0))] [] rfl (by simp [w1]))
 have c3 := sl 2326528 a1 u0
 have f := ms f e1
 refine cRs (QZ a0 J (by first | (simp (maxDischargeDepth := 12) [XM]; omega) | (simp (maxDischargeDepth := 12) [ZW (m := 68719476736) (by decide) u0]; done))) ?_
 exact rt [.tmp 4] f
theorem Tm (a0 : Int) (a1 : Int) (a2 : List ZS) (a3 : Int) (u0 : Sm 2322432 a2) : Sa 159 [rI a0, rI a1, rL 3 ZS.row a2, rI a3] [rI (Vq a0 a1 a2 a3)] := by
 have f := me (Vq.eq_1 a0 a1 a2 a3)
 refine so func159 ntmps159 ?_
 refine cRs (Vv a0 a2 (sg u0)) ?_
 refine cRs (QZ a0 ([3, a1, (K1 a0 a2), a3] : List Int) (by simp (maxDischargeDepth := 12) [Xx, XM, ZW (m := 68719476736) (by decide) u0]; try omega)) ?_
 exact rt [.tmp 8] f
theorem Y7 {a b : Prop} (h : b) (k : a := by (intros; first | omega | with_unfolding_all (first | first | omega | (have cc : a0.ZN.length <= 2318336 := Je (xs u0); have z0 := tc; simp at z0; have z := xU (by omega) z0.1; have z2 := z0.2; (try have w3 : IntKind.i64.wrap (a2 - 1) = a2 - 1 := Yi (by omega) (by omega)); (try have w4 : W (a2 - 1) = a2 - 1 := w3); first | omega | (refine ⟨⟨z0.1, by omega⟩, by omega, by omega⟩) | (simp_all; omega))) | (simp_all; done) | (simp_all; omega) | grind | ((try simp only [XJ, show ∀ x, IntKind.i64.wrap x = W x from fun _ => rfl] at *); omega))) : a /\ b := ⟨k, h⟩
theorem NX (a0 : ZO) (a1 : List Int) (a2 : Int) (u0 : Sm 2318336 a0) (u1 : Sm 2318336 a1) : Sa 132 [a0.row, rL 1 iR a1, rI a2] [rI (yG a0 a1 a2)] := by
 have f := me (yG.eq_1 a0 a1 a2)
 refine so func132 ntmps132 ?_
 refine dIs mixed ?_
 refine cRs (YB a2 0 (W ((a0.ZN.length : Int) - 1))) ?_
 refine gIo ?_ ?_ <;> intro G
 ·have tc := G
  have c1 := sl 2318336 a0.ZN (an u0 u1)
  have w1 : IntKind.i64.wrap ((a0.ZN.length : Int) - 1) = (a0.ZN.length : Int) - 1 := Yi (by omega) (by omega)
  have g1 := G; try simp [Z4, w1] at g1
  have i1 : a2.toNat < a0.ZN.length := by (have cc : a0.ZN.length <= 2318336 := Je (xs u0); have z0 := tc; simp at z0; have z := xU (by omega) z0.1; have z2 := z0.2; (try have w3 : IntKind.i64.wrap (a2 - 1) = a2 - 1 := Yi (by omega) (by omega)); (try have w4 : W (a2 - 1) = a2 - 1 := w3); omega)
  simp [i1, ZC, G]
  repeat with_reducible refine Y7 ?_
  refine cGo (fun gg => (YB (nth a0.ZN a2.toNat).Count 0 (a0.ZT.length : Int))) ?_
  simp [G]
  repeat with_reducible refine Y7 ?_
  refine cKo f ?_ ?_ <;> intro k2 h1 f
  ·have q1 := h1; try simp [Z4, w1] at q1
   simp [G]
   repeat with_reducible refine Y7 ?_
   exact rtg [.tmp 6] f
  ·have q1 := h1; try simp [Z4, w1] at q1
   simp [i1, ZC, G]
   repeat with_reducible refine Y7 ?_
   refine cKo f ?_ ?_ <;> intro k3 h2 f
   ·have q2 := h2; try simp at q2
    have i2 : (W (a2 - 1)).toNat < a0.ZN.length := by (have cc : a0.ZN.length <= 2318336 := Je (xs u0); have z0 := tc; simp at z0; have z := xU (by omega) z0.1; have z2 := z0.2; (try have w3 : IntKind.i64.wrap (a2 - 1) = a2 - 1 := Yi (by omega) (by omega)); (try have w4 : W (a2 - 1) = a2 - 1 := w3); omega)
    simp [i2, ZC, G]
    repeat with_reducible refine Y7 ?_
    refine cR (VM (nth a0.ZN a2.toNat).Method (nth a0.ZN (W (a2 - 1)).toNat) (sg (yX (ZO.V2 u0)))) ?_ (wR := by first | (simp; done) | (simp [W, w1]; done))
    simp [G]
    repeat with_reducible refine Y7 ?_
    refine dIo mixed ?_
    have i3 : a2.toNat < a1.length := by (have cc : a0.ZN.length <= 2318336 := Je (xs u0); have z0 := tc; simp at z0; have z := xU (by omega) z0.1; have z2 := z0.2; (try have w3 : IntKind.i64.wrap (a2 - 1) = a2 - 1 := Yi (by omega) (by omega)); (try have w4 : W (a2 - 1) = a2 - 1 := w3); omega)
    simp [i3, ZC, i1, G]
    repeat with_reducible refine Y7 ?_
    refine cR (Tm (nth a0.ZN a2.toNat).Method (nth a1 a2.toNat) (a0.ZT.take (nth a0.ZN a2.toNat).Count.toNat) (KY (nth a0.ZN a2.toNat).Method (nth a0.ZN (W (a2 - 1)).toNat)) (ZW (n := 2318336) (by decide) (xs (an u0 u1)))) ?_ (wR := by first | (simp; done) | (simp [W, w1]; done))
    simp [G]
    repeat with_reducible refine Y7 ?_
    exact rtg [.tmp 6] f
   ·have q2 := h2; try simp at q2
    simp [G]
    repeat with_reducible refine Y7 ?_
    refine dIo mixed ?_
    have i4 : a2.toNat < a1.length := by (have cc : a0.ZN.length <= 2318336 := Je (xs u0); have z0 := tc; simp at z0; have z := xU (by omega) z0.1; have z2 := z0.2; (try have w3 : IntKind.i64.wrap (a2 - 1) = a2 - 1 := Yi (by omega) (by omega)); (try have w4 : W (a2 - 1) = a2 - 1 := w3); omega)
    simp [i4, ZC, i1, G]
    repeat with_reducible refine Y7 ?_
    refine cR (Tm (nth a0.ZN a2.toNat).Method (nth a1 a2.toNat) (a0.ZT.take (nth a0.ZN a2.toNat).Count.toNat) 0 (ZW (n := 2318336) (by decide) (xs (an u0 u1)))) ?_
    simp [G]
    repeat with_reducible refine Y7 ?_
    exact rtg [.tmp 6] f
 ·have tc := G
  simp [G]
  repeat with_reducible refine Y7 ?_
  refine sGo ?_
  simp [G]
  repeat with_reducible refine Y7 ?_
  have c2 := sl 2318336 a0.ZN (an u0 u1)
  have w2 : IntKind.i64.wrap ((a0.ZN.length : Int) - 1) = (a0.ZN.length : Int) - 1 := Yi (by omega) (by omega)
  refine cKo f ?_ ?_ <;> intro k6 h3 f
  ·have q3 := h3; try simp [Z4, w2] at q3
   simp [G]
   repeat with_reducible refine Y7 ?_
   exact rtg [.tmp 6] f
  ·simp [G] at h3
theorem kH (a0 : ZI) (a1 : Int) : Yr prog 135 true a0.row [rI a1] (YH a0 a1).1.row [rL 1 iR (YH a0 a1).2] := by
 have f := me (YH.eq_1 a0 a1)
 refine YK func135 rfl (by kernel_rfl) (fun v => ?_)
 simp [ntmps135]
 refine cBs [] (ZX a0 a1) ?_
 refine lp5 (JO.eq_2) (fun J U wF wQ wX => Yd 21 [(0, .fix v (.one (.bptr 0 0)), [.box [.d (.sl 1 (wF.map bR)), .d (.int .i64 (wQ : Int)), .d (.int .i64 wX)]]), (5, .one (.sref 5 0 0 J.length), [.arr false 1 (J.map iR)]), eI 6 U]) (fun n1 J U wF wQ wX => U + 1 <= (n1 : Int) /\ 0 <= U /\ (J.length : Int) + U <= 16777215) ((ZA a0 a1).2.toNat + 2) ([] : List Int) (ZA a0 a1).2 (ZA a0 a1).1.b (ZA a0 a1).1.i (ZA a0 a1).1.h (fun p1 J U wF wQ wX e1 j1 => ?_) (hI := by (have z := ZQ a0 a1; have z2 := Ok a0 a1; (try dsimp only); simp only [List.length_nil]; omega)) (h0 := wkS [((5, 0), some (7, 0))] [])
 try dsimp only at j1
 refine cF e1 ?_ ?_ <;> intro k2 h1 e1
 ·refine cBs [] (ZX (ZI.mk wF wQ wX) 99) ?_
  exact nx5 e1 (hI := by (have hh := h1; simp at hh; simp only [XJ]; (try dsimp only); simp only [List.length_append, List.length_singleton]; omega)) (hw := wkS [((5, 0), some (19, 0))] [])
 have f := ms f e1
 refine XV (rv := [.tmp 4]) rfl ?_
 simp [f.h]
theorem T5 (a0 : Int) (a1 : Int) (a2 : Int) : Sa 185 [rI a0, rI a1, rI a2] [rI (jJ a0 a1 a2)] := by
 have f := me (jJ.eq_1 a0 a1 a2)
 refine so func185 ntmps185 ?_
 refine cRs (QZ a0 ([1, a1, a2] : List Int) (by simp (maxDischargeDepth := 12) [Xx, XM]; try omega)) ?_
 exact rt [.tmp 6] f
theorem jb (a0 : Int) (a1 : List Int) (u0 : Sm 2322432 a1) : Sd 179 [rI a0, rL 1 iR a1] [rL 1 iR (qC a0 a1)] := by
 have f := me (qC.eq_1 a0 a1)
 refine soD func179 ntmps179 ?_
 refine lp2 (zi.eq_2 a0 a1) (fun J U => Yd 41 [eI 0 a0, eL 1 1 a1 iR, (5, .one (.sref 5 0 0 J.length), [.arr false 1 (J.map iR)]), eI 6 (U : Int)]) (fun n1 J U => a1.length < n1 + U /\ U <= a1.length + 1 /\ J.length <= U) (a1.length + 1) ([] : List Int) 0 (fun p1 J U e1 j1 => ?_) (h0 := wkS [((5, 0), some (7, 0))] [])
 try dsimp only at j1
 refine cF e1 ?_ ?_ <;> intro k2 h1 e1
 ·have i1 := ix h1
  have m2 := ml a1 (k2 1 _ rfl)
  have c1 := sl 2322432 a1 u0
  have w1 := wr U
  refine cFt e1 ?_ ?_ <;> intro k3 h2 e1
  ·refine okD fun k4 => ?_
   refine dIo mixed ?_
   have i2 := ik (W ((U : Int) + 1)).toNat a1
   simp [i1, ZC, i2]
   refine rpS ?_
   refine cRs (T5 a0 (nth a1 U) (nth a1 (W ((U : Int) + 1)).toNat)) ?_ (wR := by first | (simp; done) | (simp [W, w1]; done))
   have w2 : IntKind.i64.wrap ((U : Int) + 2) = (U : Int) + 2 := Yi (by omega) (by omega)
   exact nx2 e1 (hI := by first | omega | (simp at *; omega)) (hw := X1 [((5, 0), some (32, 0))] [] rfl (by simp [w1, w2]))
  simp [i1, ZC]
  refine rpS ?_
  have w3 : IntKind.i64.wrap ((U : Int) + 2) = (U : Int) + 2 := Yi (by omega) (by omega)
  exact nx2 e1 (hI := by first | omega | (simp at *; omega)) (hw := X1 [((5, 0), some (39, 0))] [] rfl (by simp [w1, w3]))
 have c2 := sl 2322432 a1 u0
 have f := ms f e1
 exact rtD [.tmp 4] f
theorem PN (a0 : Int) (a1 : List Int) (u0 : Sm 2318336 a1) : Sa 161 [rI a0, rL 1 iR a1] [rI (Ko a0 a1)] := by
 have f := me (Ko.eq_1 a0 a1)
 refine so func161 ntmps161 ?_
 refine cRs (YB (a1.length : Int) 1 16) ?_
 refine cFo f ?_ ?_ <;> intro k1 h1 f
 ·have q1 := h1; try simp [Z4] at q1
  simp
  exact rt [.tmp 4] f
 have q1 := h1; try simp [Z4] at q1
 have c1 := sl 2318336 a1 u0
 simp
 refine rpS ?_
 refine lp1 (jO.eq_2 a0) (fun J => Yd 22 [eI 0 a0, (5, .one (.sref 5 0 0 J.length), [.arr false 1 (J.map iR)])]) (fun n1 J => J.length < n1 /\ 1 <= J.length /\ J.length <= 16) (a1.length + 1) a1 (fun p1 J e1 j1 => ?_) (hI := by first | omega | (simp at *; omega)) (h0 := wkS [((5, 0), some (12, 0))] [])
 try dsimp only at j1
 refine cFt e1 ?_ ?_ <;> intro k3 h2 e1
 ·refine cDs [false] (jb a0 J (by first | (simp (maxDischargeDepth := 12) [XM]; omega) | (simp (maxDischargeDepth := 12) [ZW (m := 2322432) (by decide) u0]; done))) ?_
  exact nx1 e1 (hI := by (have z := qK a0 J (by omega); (try dsimp only); simp at *; omega)) (hw := wkS [((5, 0), some (18, 0))] [])
 have f := ms f e1
 have i1 := ik 0 J
 simp [i1, ZC]
 refine rpS ?_
 exact rt [.tmp 4] f
theorem qi {a b : Prop} (h : b) (k : a := by (intros; first | omega | with_unfolding_all (first | first | omega | (have tm := Int.tmod_eq_emod_of_nonneg (b := 2) (show 0 <= J by omega); (try simp only [XJ, show ∀ x, IntKind.i64.wrap x = W x from fun _ => rfl] at *); (try simp at *); omega)) | ((try simp only [XJ, show ∀ x, IntKind.i64.wrap x = W x from fun _ => rfl] at *); omega))) : a /\ b := ⟨k, h⟩
theorem PY (a0 : Int) (a1 : List Int) (a2 : Int) (u0 : Sm 2318336 a1) : Sd 162 [rI a0, rL 1 iR a1, rI a2] [rL 2 Ya.row (Kk a0 a1 a2)] := by
 have f := me (Kk.eq_1 a0 a1 a2)
 refine soD func162 ntmps162 ?_
 refine cGs (fun gg => (YB a2 0 (W ((a1.length : Int) - 1)))) ?_
 have c1 := sl 2318336 a1 u0
 have w1 : IntKind.i64.wrap ((a1.length : Int) - 1) = (a1.length : Int) - 1 := Yi (by omega) (by omega)
 refine cFo f ?_ ?_ <;> intro k1 h1 f
 ·have q1 := h1; try simp [Z4, w1] at q1
  simp
  exact rtD [.tmp 6] f
 have q1 := h1; try simp [Z4, w1] at q1
 simp
 repeat with_reducible refine qi ?_
 refine lp3 (JD.eq_2 a0) (fun J U wF => Yd 60 [eI 0 a0, eI 2 J, (7, .one (.sref 7 0 0 U.length), [.arr false 2 (U.map Ya.row)]), (8, .one (.sref 8 0 0 wF.length), [.arr false 1 (wF.map iR)])]) (fun n1 J U wF => wF.length < n1 /\ 0 <= J /\ J < (wF.length : Int) /\ wF.length <= 16 /\ U.length + n1 <= 17) (a1.length + 1) a2 ([] : List Ya) a1 (fun p1 J U wF e1 j1 => ?_) (hI := by first | omega | (simp at *; omega)) (h0 := wkS [((7, 0), some (9, 0)), ((8, 0), some (24, 0))] [])
 try dsimp only at j1
 refine cF e1 ?_ ?_ <;> intro k3 h2 e1
 ·refine cFf e1 ?_ ?_ <;> intro k4 h3 e1
  ·have i1 : (W (J - 1)).toNat < wF.length := by first | omega | (have tm := Int.tmod_eq_emod_of_nonneg (b := 2) (show 0 <= J by omega); (try simp only [XJ, show ∀ x, IntKind.i64.wrap x = W x from fun _ => rfl] at *); (try simp at *); omega)
   simp [i1, ZC]
   repeat with_reducible refine qi ?_
   refine cDs [false] (jb a0 wF (by first | (simp (maxDischargeDepth := 12) [XM]; omega) | (simp (maxDischargeDepth := 12) [ZW (m := 2322432) (by decide) u0]; done))) ?_
   exact nx3 e1 (hI := by (have z := qK a0 wF (by omega); have td := Int.tdiv_eq_ediv_of_nonneg (b := 2) (show 0 <= J by omega); have w2 : W (Int.tdiv J 2) = Int.tdiv J 2 := Yi (by omega) (by omega); (try dsimp only); rw [w2]; simp at *; omega)) (hw := X1 [((7, 0), some (39, 0)), ((8, 0), some (56, 0))] [] rfl (by simp [w1]))
  refine cFo e1 ?_ ?_ <;> intro k5 h4 e1
  ·have q4 := h4; try simp [w1] at q4
   have i2 : (W (J + 1)).toNat < wF.length := by first | omega | (have tm := Int.tmod_eq_emod_of_nonneg (b := 2) (show 0 <= J by omega); (try simp only [XJ, show ∀ x, IntKind.i64.wrap x = W x from fun _ => rfl] at *); (try simp at *); omega)
   simp [i2, ZC]
   repeat with_reducible refine qi ?_
   refine cDs [false] (jb a0 wF (by first | (simp (maxDischargeDepth := 12) [XM]; omega) | (simp (maxDischargeDepth := 12) [ZW (m := 2322432) (by decide) u0]; done))) ?_
   exact nx3 e1 (hI := by (have z := qK a0 wF (by omega); have td := Int.tdiv_eq_ediv_of_nonneg (b := 2) (show 0 <= J by omega); have w2 : W (Int.tdiv J 2) = Int.tdiv J 2 := Yi (by omega) (by omega); (try dsimp only); rw [w2]; simp at *; omega)) (hw := X1 [((7, 0), some (53, 0)), ((8, 0), some (56, 0))] [] rfl (by simp [w1]))
  have q4 := h4; try simp [w1] at q4
  simp
  refine cDs [false] (jb a0 wF (by first | (simp (maxDischargeDepth := 12) [XM]; omega) | (simp (maxDischargeDepth := 12) [ZW (m := 2322432) (by decide) u0]; done))) ?_
  exact nx3 e1 (hI := by (have z := qK a0 wF (by omega); have td := Int.tdiv_eq_ediv_of_nonneg (b := 2) (show 0 <= J by omega); have w2 : W (Int.tdiv J 2) = Int.tdiv J 2 := Yi (by omega) (by omega); (try dsimp only); rw [w2]; simp at *; omega)) (hw := X1 [((8, 0), some (56, 0))] [] rfl (by simp [w1]))
 have f := ms f e1
 exact rtD [.tmp 6] f
theorem UZ (a0 : List Z3) (a1 : List ZJ) (a2 : Int) (a3 : Int) (a4 : List Int) (a5 : Int) (a6 : List Int) (a7 : Int) (a8 : Int) (u0 : Sm 2314240 a0) (u1 : Sm 2314240 a1) (u2 : Sm 2314240 a4) (u3 : Sm 2314240 a6) : Sd 134 [rL 5 Z3.row a0, rL 3 ZJ.row a1, rI a2, rI a3, rL 1 iR a4, rI a5, rL 1 iR a6, rI a7, rI a8] [(Kw a0 a1 a2 a3 a4 a5 a6 a7 a8).row] := by
 have f := me (Kw.eq_1 a0 a1 a2 a3 a4 a5 a6 a7 a8)
 have c1 := sl 2314240 a4 (an u0 (an u1 (an u2 u3)))
 refine soD func134 ntmps134 ?_
 refine cRs (PN a2 (a4 ++ ([a3] : List Int)) (by simp (maxDischargeDepth := 12) [Xx, XM, ZW (m := 2318336) (by decide) u0, ZW (m := 2318336) (by decide) u1, ZW (m := 2318336) (by decide) u2, ZW (m := 2318336) (by decide) u3]; try omega)) ?_
 refine cDs [false] (PY a2 (a4 ++ ([a3] : List Int)) (W (((a4 ++ ([a3] : List Int)).length : Int) - 1)) (by simp (maxDischargeDepth := 12) [Xx, XM, ZW (m := 2318336) (by decide) u0, ZW (m := 2318336) (by decide) u1, ZW (m := 2318336) (by decide) u2, ZW (m := 2318336) (by decide) u3]; try omega)) ?_
 refine lp2 (Ku.eq_2 a0 a1 a2 a3 a4 a6 a7 a8) (fun J U => Yd 71 [eL 0 5 a0 Z3.row, eL 1 3 a1 ZJ.row, eL 6 1 a6 iR, eI 7 a7, eI 8 a8, (18, .one (.bptr 18 0), [.box [.d (.int .i64 0), .d (.int .i64 0), .d (.int .i64 0), .nil 2, .nil 5]]), (20, .one (.bptr 20 0), [.box [.d (.int .i64 a5), .d (.int .i64 a2), .d (.int .i64 (Ko a2 (a4 ++ ([a3] : List Int)))), .sref 40 0 0 (Kk a2 (a4 ++ ([a3] : List Int)) (W (((a4 ++ ([a3] : List Int)).length : Int) - 1))).length, .sref 20 5 0 U.length], .none, .none, .none, .none, .arr false 5 (U.map Zf.row)]), eI 21 (J : Int), (40, .any, [.arr false 2 ((Kk a2 (a4 ++ ([a3] : List Int)) (W (((a4 ++ ([a3] : List Int)).length : Int) - 1))).map Ya.row)])]) (fun n1 J U => a6.length < n1 + J /\ J <= a6.length /\ U.length <= 0 + 1 * J) (a6.length + 1) 0 ([] : List Zf) (fun p1 J U e1 j1 => ?_) (h0 := wkS [((20, 5), none)] [])
 refine cF e1 ?_ ?_ <;> intro k2 h1 e1
 ·have i1 := ix h1
  have m2 := ml a6 (k2 6 _ rfl)
  have c2 := sl 2314240 a6 (an u0 (an u1 (an u2 u3)))
  have w1 := wr J
  refine dIo mixed ?_
  simp [i1, ZC]
  refine rpS ?_
  refine cRs (jz a0 a1 (Zf.mk (nth a6 J) a7 a8 (Ko a2 (a4 ++ ([a3] : List Int))) 0) (sg u0) (sg u1)) ?_
  refine cF e1 ?_ ?_ <;> intro k4 h2 e1
  ·exact nx2 e1 (hw := X1 [((20, 5), some (68, 0))] [] rfl (by simp [w1]))
  exact ny2 w1 e1
 have c3 := sl 2314240 a6 (an u0 (an u1 (an u2 u3)))
 have f := ms f e1
 exact rtD [.cell 18 83] f
theorem PU (a0 : ZI) (a1 : ZO) (a2 : ZV) (a3 : Int) (a4 : Int) (u0 : Sm 2310144 a1) (u1 : Sm 2310144 a2) : Yr prog 108 false a0.row [a1.row, a2.row, rI a3, rI a4] (Xl a0 a1 a2 a3 a4).1.row [(Xl a0 a1 a2 a3 a4).2.row] := by
 have f := me (Xl.eq_1 a0 a1 a2 a3 a4)
 refine YK func108 rfl (by kernel_rfl) (fun v => ?_)
 simp [ntmps108]
 refine cRs (YC.rd (yT a1 (ZM.mk (a1.ZT.length : Int) a3 0 ([] : List Ya) ([] : List Zf)) (sg u0) (by simp (maxDischargeDepth := 12) [Xx, XM, ZW (m := 2326528) (by decide) u0, ZW (m := 2326528) (by decide) u1]; try omega))) ?_
 refine cF f ?_ ?_ <;> intro k1 h1 f
 ·refine XV (rv := [.cell 10 46]) rfl ?_
  simp [f.h]
 refine dIs mixed ?_
 refine cRs (YC.rd (SA (Zs a1 (ZM.mk (a1.ZT.length : Int) a3 0 ([] : List Ya) ([] : List Zf))).1 a2 (by first | exact XZ (n := 2310144) (by decide) u0 ⟨Sz.zero (α := List Ya) _, Sz.zero (α := List Zf) _⟩ | exact sg u1) (by first | exact XZ (n := 2310144) (by decide) u0 ⟨Sz.zero (α := List Ya) _, Sz.zero (α := List Zf) _⟩ | exact sg u1))) ?_
 refine cRs (NX (Zs a1 (ZM.mk (a1.ZT.length : Int) a3 0 ([] : List Ya) ([] : List Zf))).1 (XS (Zs a1 (ZM.mk (a1.ZT.length : Int) a3 0 ([] : List Ya) ([] : List Zf))).1 a2) (W (((Zs a1 (ZM.mk (a1.ZT.length : Int) a3 0 ([] : List Ya) ([] : List Zf))).1.ZN.length : Int) - 1)) (by first | exact XZ (n := 2310144) (by decide) u0 ⟨Sz.zero (α := List Ya) _, Sz.zero (α := List Zf) _⟩ | exact Kg (XZ (n := 2310144) (by decide) u0 ⟨Sz.zero (α := List Ya) _, Sz.zero (α := List Zf) _⟩)) (by first | exact XZ (n := 2310144) (by decide) u0 ⟨Sz.zero (α := List Ya) _, Sz.zero (α := List Zf) _⟩ | exact Kg (XZ (n := 2310144) (by decide) u0 ⟨Sz.zero (α := List Ya) _, Sz.zero (α := List Zf) _⟩))) ?_
 refine cBs [] (Ky a0 3) ?_
 refine cF f ?_ ?_ <;> intro k3 h2 f
 ·refine okD fun k4 => ?_
  refine jv [(0, 0), (6, 6), (11, 11), (49, 0), (51, 6), (55, 0)] [] [50, 56, 3000001] mixed (by kernel_rfl) (by kernel_rfl) (by kernel_rfl) (by kernel_rfl) (by kernel_rfl) (by kernel_rfl) (by kernel_rfl) ?_
  simp
  refine cRs (YC.rd (Y8)) ?_
  refine cRs (YC.rd (Y6)) ?_
  refine cBs [] (kH (Zh a0 3).1 4) ?_
  refine cBs [] (ZX (YH (Zh a0 3).1 4).1 9) ?_
  refine cDs [true, true, true, false, false] (UZ ZD ZG a3 (yG (Zs a1 (ZM.mk (a1.ZT.length : Int) a3 0 ([] : List Ya) ([] : List Zf))).1 (XS (Zs a1 (ZM.mk (a1.ZT.length : Int) a3 0 ([] : List Ya) ([] : List Zf))).1 a2) (W (((Zs a1 (ZM.mk (a1.ZT.length : Int) a3 0 ([] : List Ya) ([] : List Zf))).1.ZN.length : Int) - 1))) (YH (Zh a0 3).1 4).2 (a1.ZT.length : Int) ([1, 3, 4] : List Int) (ZA (YH (Zh a0 3).1 4).1 9).2 a4 (by simp (maxDischargeDepth := 12) [Yw, ZW (m := 2314240) (by decide) u0, ZW (m := 2314240) (by decide) u1]; try omega) (by simp (maxDischargeDepth := 12) [Y5, ZW (m := 2314240) (by decide) u0, ZW (m := 2314240) (by decide) u1]; try omega) (by simp (maxDischargeDepth := 12) [zU, ZW (m := 2314240) (by decide) u0, ZW (m := 2314240) (by decide) u1]; try omega) (by simp (maxDischargeDepth := 12) [Xx, XM, ZW (m := 2314240) (by decide) u0, ZW (m := 2314240) (by decide) u1]; try omega)) ?_
  refine cDs [] (yT a1 (Kw ZD ZG a3 (yG (Zs a1 (ZM.mk (a1.ZT.length : Int) a3 0 ([] : List Ya) ([] : List Zf))).1 (XS (Zs a1 (ZM.mk (a1.ZT.length : Int) a3 0 ([] : List Ya) ([] : List Zf))).1 a2) (W (((Zs a1 (ZM.mk (a1.ZT.length : Int) a3 0 ([] : List Ya) ([] : List Zf))).1.ZN.length : Int) - 1))) (YH (Zh a0 3).1 4).2 (a1.ZT.length : Int) ([1, 3, 4] : List Int) (ZA (YH (Zh a0 3).1 4).1 9).2 a4) (sg u0) (by simp (maxDischargeDepth := 12) [Xx, XM, Kg, Yw, Y5, zU, yv, ZW (m := 2326528) (by decide) u0, ZW (m := 2326528) (by decide) u1]; try omega)) ?_
  refine XV (rv := [.cell 10 46]) rfl ?_
  simp [f.h]
 refine jv [(0, 0), (6, 6), (11, 11), (49, 0), (51, 6), (55, 0)] [] [50, 56, 3000001] mixed (by kernel_rfl) (by kernel_rfl) (by kernel_rfl) (by kernel_rfl) (by kernel_rfl) (by kernel_rfl) (by kernel_rfl) ?_
 simp
 refine cRs (YC.rd (Y8)) ?_
 refine cRs (YC.rd (Y6)) ?_
 refine cBs [] (kH (Zh a0 3).1 4) ?_
 refine cBs [] (ZX (YH (Zh a0 3).1 4).1 9) ?_
 refine cDs [true, true, true, false, false] (UZ ZD ZG a3 (yG (Zs a1 (ZM.mk (a1.ZT.length : Int) a3 0 ([] : List Ya) ([] : List Zf))).1 (XS (Zs a1 (ZM.mk (a1.ZT.length : Int) a3 0 ([] : List Ya) ([] : List Zf))).1 a2) (W (((Zs a1 (ZM.mk (a1.ZT.length : Int) a3 0 ([] : List Ya) ([] : List Zf))).1.ZN.length : Int) - 1))) (YH (Zh a0 3).1 4).2 (a1.ZT.length : Int) ([1, 2, 3, 4] : List Int) (ZA (YH (Zh a0 3).1 4).1 9).2 a4 (by simp (maxDischargeDepth := 12) [Yw, ZW (m := 2314240) (by decide) u0, ZW (m := 2314240) (by decide) u1]; try omega) (by simp (maxDischargeDepth := 12) [Y5, ZW (m := 2314240) (by decide) u0, ZW (m := 2314240) (by decide) u1]; try omega) (by simp (maxDischargeDepth := 12) [zU, ZW (m := 2314240) (by decide) u0, ZW (m := 2314240) (by decide) u1]; try omega) (by simp (maxDischargeDepth := 12) [Xx, XM, ZW (m := 2314240) (by decide) u0, ZW (m := 2314240) (by decide) u1]; try omega)) ?_
 refine cDs [] (yT a1 (Kw ZD ZG a3 (yG (Zs a1 (ZM.mk (a1.ZT.length : Int) a3 0 ([] : List Ya) ([] : List Zf))).1 (XS (Zs a1 (ZM.mk (a1.ZT.length : Int) a3 0 ([] : List Ya) ([] : List Zf))).1 a2) (W (((Zs a1 (ZM.mk (a1.ZT.length : Int) a3 0 ([] : List Ya) ([] : List Zf))).1.ZN.length : Int) - 1))) (YH (Zh a0 3).1 4).2 (a1.ZT.length : Int) ([1, 2, 3, 4] : List Int) (ZA (YH (Zh a0 3).1 4).1 9).2 a4) (sg u0) (by simp (maxDischargeDepth := 12) [Xx, XM, Kg, Yw, Y5, zU, yv, ZW (m := 2326528) (by decide) u0, ZW (m := 2326528) (by decide) u1]; try omega)) ?_
 refine XV (rv := [.cell 10 46]) rfl ?_
 simp [f.h]
theorem Od (a0 : ZI) : Yr prog 84 false a0.row [] (XY a0).1.row [(XY a0).2.1.row, (XY a0).2.2.1.row, (XY a0).2.2.2.row] := by
 have f := me (XY.eq_1 a0)
 refine YK func84 rfl (by kernel_rfl) (fun v => ?_)
 simp [ntmps84]
 refine cBs [] (S0 a0) ?_
 refine zV [(17, 0)] rfl (by simp) ?_
 refine cBs [] (Yc (Zi a0).1 ([10, 25, 30] : List Int) (by first | omega | (simp; done) | (simp; omega))) ?_
 refine cBs [] (ZX (ZP (Zi a0).1 ([10, 25, 30] : List Int)).1 4) ?_
 refine lp7 (Jj.eq_2 a0) (fun J U wF wQ wX vG vu => Yd 41 [(0, .fix v (.one (.bptr 0 0)), [.box [.d (.sl 1 (wF.map bR)), .d (.int .i64 (wQ : Int)), .d (.int .i64 wX)]]), (2, .one (.bptr 2 0), [.box [.nil 3, .nil 5]]), (3, .one (.bptr 3 0), [.box [.d (.int .i64 0), .nil 1, .nil 1]]), (4, .one (.bptr 4 0), [.box [.d (.int .i64 0), .d (.int .i64 0), .d (.int .i64 0), .d (.int .i64 0), .d (.int .i64 0), .d (.int .i64 0), .d (.int .i64 0), .d (.int .i64 0), .d (.int .i64 0)]]), (5, .one (.bptr 5 0), [.box [.d (.sl 3 (vG.map ZS.row)), .d (.sl 5 (vu.map ZM.row))]]), eX 6 ((Zi a0).2.2.1.row.map .d), eX 7 ((Zi a0).2.2.2.row.map .d), eI 8 J, eI 9 U]) (fun n1 J U wF wQ wX vG vu => U + 1 <= (n1 : Int) /\ 0 <= U /\ n1 <= 5 /\ Sm (100 - n1) (ZO.mk vG vu)) 5 (ZP (Zi a0).1 ([10, 25, 30] : List Int)).2 (ZA (ZP (Zi a0).1 ([10, 25, 30] : List Int)).1 4).2 (ZA (ZP (Zi a0).1 ([10, 25, 30] : List Int)).1 4).1.b (ZA (ZP (Zi a0).1 ([10, 25, 30] : List Int)).1 4).1.i (ZA (ZP (Zi a0).1 ([10, 25, 30] : List Int)).1 4).1.h (Zi a0).2.1.ZT (Zi a0).2.1.ZN (fun p1 J U wF wQ wX vG vu e1 j1 => ?_) (hI := by (have z := ZQ ((ZP (Zi a0).1 ([10, 25, 30] : List Int)).1) 4; (try dsimp only); exact ⟨by omega, by omega, by omega, by omega, ZW (show 50 <= 95 by decide) (Ot (y6 (n := 50) (a0 := a0) (by decide)).1)⟩))
 try dsimp only at j1
 refine cF e1 ?_ ?_ <;> intro k2 h1 e1
 ·refine okD fun k3 => ?_
  refine jv [(0, 0), (5, 5), (6, 6), (25, 0), (28, 0)] [] [29, 32, 3000001] mixed (by kernel_rfl) (by kernel_rfl) (by kernel_rfl) (by kernel_rfl) (by kernel_rfl) (by kernel_rfl) (by kernel_rfl) ?_
  simp
  refine cBs [] (ZX (ZI.mk wF wQ wX) 4) ?_
  refine cBs [] (PU (ZA (ZI.mk wF wQ wX) 4).1 (ZO.mk vG vu) (Zi a0).2.2.1 (W (1 + (ZA (ZI.mk wF wQ wX) 4).2)) J (by first | with_reducible exact jk (by decide) | with_reducible exact ZW (by omega) j1.2.2.2.2) (by first | with_reducible exact jk (by decide) | with_reducible exact ZW (by omega) j1.2.2.2.2)) ?_
  refine zV [(35, 0)] rfl (by simp) ?_
  refine cBs [] (Yc (Xl (ZA (ZI.mk wF wQ wX) 4).1 (ZO.mk vG vu) (Zi a0).2.2.1 (W (1 + (ZA (ZI.mk wF wQ wX) 4).2)) J).1 ([10, 20, 40] : List Int) (by first | omega | (simp; done) | (simp; omega))) ?_
  exact nx7 e1 (hI := by (have hh := h1; simp at hh; have q := j1.2.2.2.1; have t := fun c d m t => Ot (W8 (a0 := c) (a2 := d) (a3 := m) (a4 := t) (Nat.le_refl _) (by omega) j1.2.2.2.2); (try dsimp only); simp only [XJ]; exact ⟨by omega, by omega, by omega, by omega, by with_reducible exact ZW (by omega) (t _ _ _ _)⟩))
 have f := ms f e1
 refine Ww [(2, 2), (3, 3), (4, 4), (5, 5), (6, 6), (7, 7)] mixed (by kernel_rfl) (by kernel_rfl) (by kernel_rfl) (by kernel_rfl) ?_
 simp
 refine XV (rv := [.cell 2 46, .cell 3 40, .cell 4 42]) rfl ?_
 simp [f.h]
theorem NO (a0 : ZI) : Yr prog 57 false a0.row [] (XX a0).1.row [(XX a0).2.row] := by
 have f := me (XX.eq_1 a0)
 refine YK func57 rfl (by kernel_rfl) (fun v => ?_)
 simp [ntmps57]
 refine cBs [] (Od a0) ?_
 refine jv [(0, 0), (2, 2), (3, 3), (4, 4), (5, 5), (12, 0), (15, 0)] [] [13, 17, 2000016, 3000001] mixed (by kernel_rfl) (by kernel_rfl) (by kernel_rfl) (by kernel_rfl) (by kernel_rfl) (by kernel_rfl) (by kernel_rfl) ?_
 simp
 refine cBs [] (ZX (XY a0).1 9) ?_
 refine bsD ?_
 simp
 refine cBs [] (Yc (ZA (XY a0).1 9).1 ([50, 100, 10000] : List Int) (by first | omega | (simp; done) | (simp; omega))) ?_
 refine XV (rv := [.cell 2 48]) rfl ?_
 simp [f.h]
theorem Mb (a0 : Za) : Sa 103 [a0.row] [rB (qu a0)] := by
 have f := me (qu.eq_1 a0)
 refine so func103 ntmps103 ?_
 refine dIs mixed ?_
 refine cRs (YB a0.Id 1 999) ?_
 refine cGs (fun gg => (yM a0.Yj)) ?_
 refine cGs (fun gg => (ya a0.Doc)) ?_
 refine cGs (fun gg => (qR a0.YD)) ?_
 refine gIf ?_ ?_ <;> intro G
 ·have tc := G
  have g1 := G; try simp [Z4] at g1
  have i1 : 0 < a0.YD.ZT.length := by have := RI (a := a0.YD); simp_all
  simp [i1, ZC, G]
  refine rpG ?_
  refine cGg (fun gg => YC.rd (xP a0.Sig)) ?_
  refine cGg (fun gg => (qx (nth a0.YD.ZT 0) (Yf a0.Sig))) ?_
  exact rtg [.tmp 2] f
 ·have tc := G
  refine sGo ?_
  simp [G]
  refine rpG ?_
  refine sGo ?_
  simp [G]
  refine rpG ?_
  exact rtg [.tmp 2] f
theorem xW (a0 : ZH) : Sa 81 [a0.row] [rB (Xf a0)] := by
 have f := me (Xf.eq_1 a0)
 refine so func81 ntmps81 ?_
 refine lp1 (z9.eq_2 a0) (fun J => Yd 47 [eX 1 (a0.row.map .d), eI 3 (J : Int)]) (fun n1 J => a0.ZK.length < n1 + J /\ J <= a0.ZK.length) (a0.ZK.length + 1) 0 (fun p1 J e1 j1 => ?_)
 refine cF e1 ?_ ?_ <;> intro k2 h1 e1
 ·have i1 := ix h1
  have m2 := ml a0.ZK (k2 6 _ rfl)
  have w1 := wr J
  refine dIo mixed ?_
  simp [i1, ZC]
  refine rpS ?_
  refine cRs (Mb (nth a0.ZK J)) ?_
  refine gIf ?_ ?_ <;> intro G
  ·have i2 := ik (J - 1) a0.ZK
   have w2 : IntKind.i64.wrap ((J : Int) - 1) = (J : Int) - 1 := Yi (by omega) (by omega)
   simp [i2, ZC, w2, JA, G]
   refine rpG ?_
   refine gK (fun _ => ?_)
   simp [i1, ZC, G]
   refine rpG ?_
   refine cK e1 ?_ ?_ <;> intro k4 h2 e1
   ·have f := ms f e1
    exact rtg [.tmp 2] f
   ·exact ny1 (an w1 (an w2 G)) e1
  ·refine sGg ?_
   refine cK e1 ?_ ?_ <;> intro k5 h3 e1
   ·have f := ms f e1
    exact rtg [.tmp 2] f
   ·exact ny1 (an w1 G) e1
 have f := ms f e1
 refine cRs (YB a0.Id 0 99) ?_
 exact rt [.tmp 2] f
theorem PZ (a0 : ZH) (a1 : Int) : Sa 82 [a0.row, rI a1] [rI (jH a0 a1)] := by
 have f := me (jH.eq_1 a0 a1)
 refine so func82 ntmps82 ?_
 refine lp1 (jP.eq_2 a0 a1) (fun J => Yd 22 [eI 1 a1, eX 2 (a0.row.map .d), eI 5 (J : Int)]) (fun n1 J => a0.ZK.length < n1 + J /\ J <= a0.ZK.length) (a0.ZK.length + 1) 0 (fun p1 J e1 j1 => ?_)
 refine cFf e1 ?_ ?_ <;> intro k2 h1 e1
 ·have i1 := ix h1
  have m2 := ml a0.ZK (k2 8 _ rfl)
  have w1 := wr J
  simp [i1, ZC]
  refine rpS ?_
  refine cF e1 ?_ ?_ <;> intro k3 h2 e1
  ·have f := ms f e1
   exact rt [.tmp 4] f
  exact ny1 w1 e1
 have f := ms f e1
 exact rt [.tmp 4] f
theorem NQ (a0 : ZV) (u0 : Sm 2342912 a0) : Sd 105 [a0.row] [(RA a0).row] := by
 have f := me (RA.eq_1 a0)
 refine soD func105 ntmps105 ?_
 refine P7 [2, 3, 4, 5, 6, 7, 8, 9, 0, 1, 10, 11] mixed (by kernel_rfl) (by kernel_rfl) (by kernel_rfl) ?_
 have c1 := sl 2342912 a0.YO u0
 have c2 := sl 2342912 a0.XB u0
 simp
 refine rpS ?_
 exact rtD [.cell 2 40] f
theorem NF (a0 : ZV) (u0 : Sm 2342912 a0) : Sd 105 [a0.row] [a0.row] := by
  have h := NQ a0 u0
  rwa [Nv] at h
theorem OE (a0 : Za) (u0 : Sm 2330624 a0) : Sd 83 [a0.row] [(TB a0).row] := by
 have f := me (TB.eq_1 a0)
 refine soD func83 ntmps83 ?_
 refine cDs [true, false, false] (NF a0.Doc (sg (Za.Iw u0))) ?_
 refine cDs [] (KN a0.YD (sg (Za.L5 u0))) ?_
 exact rtD [.cell 2 48] f
theorem Xr (a0 : Za) (u0 : Sm 2330624 a0) : Sd 83 [a0.row] [a0.row] := by
  have h := OE a0 u0
  rwa [NN] at h
theorem Oh (a0 : ZH) (u0 : Sm 2326528 a0) : Sd 70 [a0.row] [(WW a0).row] := by
 have f := me (WW.eq_1 a0)
 refine soD func70 ntmps70 ?_
 refine lp2 (qM.eq_2 a0) (fun J U => Yd 27 [eX 1 (a0.row.map .d), (2, .one (.bptr 2 0), [.box [.d (.int .i64 0), .nil 16]]), (3, .one (.bptr 3 0), [.box [.d (.int .i64 a0.Id), .sref 3 2 0 U.length], .none, .arr true 16 (U.map Za.row)]), eI 4 (J : Int)]) (fun n1 J U => a0.ZK.length < n1 + J /\ J <= a0.ZK.length /\ U.length <= 0 + 1 * J) (a0.ZK.length + 1) 0 ([] : List Za) (fun p1 J U e1 j1 => ?_) (h0 := wkS [((3, 2), none)] [])
 refine cF e1 ?_ ?_ <;> intro k2 h1 e1
 ·have i1 := ix h1
  have m2 := ml a0.ZK (k2 10 _ rfl)
  have c1 := sl 2326528 a0.ZK u0
  have w1 := wr J
  refine drJ [24] mixed ?_
  simp [i1, ZC]
  refine rpS ?_
  refine cDs [true, true, true, false, false] (Xr (nth a0.ZK J) (sg (yX (ZH.xg u0)))) ?_
  refine Vr ?_
  simp
  refine Uy (wE := (U.map Za.row)) (news := (([(nth a0.ZK J)] : List Za).map Za.row)) (l1 := [(3, 2)]) (l2 := [(22, 3), (22, 4), (22, 14), (22, 15)]) (size := 16) ?_
  simp
  exact nx2 e1 (hw := X1 [((3, 2), some (24, 0))] [] rfl (by simp [w1]))
 have c2 := sl 2326528 a0.ZK u0
 have f := ms f e1
 exact rtD [.cell 2 31] f
theorem zy (a0 : ZH) (u0 : Sm 2326528 a0) : Sd 70 [a0.row] [a0.row] := by
  have h := Oh a0 u0
  rwa [O6] at h
theorem Ou (a0 : ZH) (a1 : Za) (u0 : Sm 2318336 a0) (u1 : Sm 2318336 a1) : Sd 56 [a0.row, a1.row] [(Qj a0 a1).1.row, rB (Qj a0 a1).2] := by
 have f := me (Qj.eq_1 a0 a1)
 refine soD func56 ntmps56 ?_
 refine cRs (xW a0) ?_
 refine cGs (fun gg => (PZ a0 a1.Id)) ?_
 refine cF f ?_ ?_ <;> intro k1 h1 f
 ·refine cDs [] (zy a0 (sg u0)) ?_
  exact rtD [.cell 4 31, .tmp 5] f
 refine lp3 (Xv.eq_2 a0 a1) (fun J U wF => Yd 77 [eX 2 (a0.row.map .d), eX 3 (a1.row.map .d), (4, .one (.bptr 4 0), [.box [.d (.int .i64 0), .nil 16]]), (6, .one (.bptr 6 0), [.box [.d (.int .i64 a0.Id), .sref 6 2 0 wF.length], .none, .arr true 16 (wF.map Za.row)]), eB 7 J, eI 8 (U : Int)]) (fun n1 J U wF => a0.ZK.length < n1 + U /\ U <= a0.ZK.length /\ wF.length <= 0 + 2 * U) (a0.ZK.length + 1) false 0 ([] : List Za) (fun p1 J U wF e1 j1 => ?_) (h0 := wkS [((6, 2), none)] [])
 refine cF e1 ?_ ?_ <;> intro k3 h2 e1
 ·have i1 := ix h2
  have m2 := ml a0.ZK (k3 26 _ rfl)
  have c1 := sl 2318336 a0.ZK (an u0 u1)
  have w1 := wr U
  refine dIs mixed ?_
  refine gIf ?_ ?_ <;> intro G
  ·simp [i1, ZC, G]
   refine rpG ?_
   refine cK e1 ?_ ?_ <;> intro k5 h3 e1
   ·try (simp [G] at h3; done)
    all_goals
     refine drJ [49] mixed ?_
     simp
     refine cDg [true, true, true, false, false] (Xr a1 (sg u1)) ?_
     refine Vr ?_
     simp [G]
     refine rpG ?_
     refine Uy (wE := (wF.map Za.row)) (news := (([a1] : List Za).map Za.row)) (l1 := [(6, 2)]) (l2 := [(47, 3), (47, 4), (47, 14), (47, 15)]) (size := 16) ?_
     simp [G]
     refine rpG ?_
     refine drJ [60] mixed ?_
     simp [i1, ZC, G]
     refine rpG ?_
     refine cDg [true, true, true, false, false] (Xr (nth a0.ZK U) (sg (yX (ZH.xg u0)))) ?_
     refine Vr ?_
     simp [G]
     refine rpG ?_
     refine Uy (wE := ((wF ++ ([a1] : List Za)).map Za.row)) (news := (([(nth a0.ZK U)] : List Za).map Za.row)) (l1 := [(49, 0)]) (l2 := [(58, 3), (58, 4), (58, 14), (58, 15)]) (size := 16) ?_
     simp [G]
     refine rpG ?_
     exact nx3 e1 (hw := X1 [((6, 2), some (60, 0))] [] rfl (by simp [w1, G]))
   ·try (simp [G] at h3; done)
    all_goals
     refine drJ [60] mixed ?_
     simp [i1, ZC, G]
     refine rpG ?_
     refine cDg [true, true, true, false, false] (Xr (nth a0.ZK U) (sg (yX (ZH.xg u0)))) ?_
     refine Vr ?_
     simp [G]
     refine rpG ?_
     refine Uy (wE := (wF.map Za.row)) (news := (([(nth a0.ZK U)] : List Za).map Za.row)) (l1 := [(6, 2)]) (l2 := [(58, 3), (58, 4), (58, 14), (58, 15)]) (size := 16) ?_
     simp [G]
     refine rpG ?_
     exact nx3 e1 (hw := X1 [((6, 2), some (60, 0))] [] rfl (by simp [w1, G]))
  ·refine cK e1 ?_ ?_ <;> intro k9 h4 e1
   ·try (simp [G] at h4; done)
    all_goals
     refine drJ [49] mixed ?_
     simp
     refine cDg [true, true, true, false, false] (Xr a1 (sg u1)) ?_
     refine Vr ?_
     simp [G]
     refine rpG ?_
     refine Uy (wE := (wF.map Za.row)) (news := (([a1] : List Za).map Za.row)) (l1 := [(6, 2)]) (l2 := [(47, 3), (47, 4), (47, 14), (47, 15)]) (size := 16) ?_
     simp [G]
     refine rpG ?_
     refine drJ [60] mixed ?_
     simp [i1, ZC, G]
     refine rpG ?_
     refine cDg [true, true, true, false, false] (Xr (nth a0.ZK U) (sg (yX (ZH.xg u0)))) ?_
     refine Vr ?_
     simp [G]
     refine rpG ?_
     refine Uy (wE := ((wF ++ ([a1] : List Za)).map Za.row)) (news := (([(nth a0.ZK U)] : List Za).map Za.row)) (l1 := [(49, 0)]) (l2 := [(58, 3), (58, 4), (58, 14), (58, 15)]) (size := 16) ?_
     simp [G]
     refine rpG ?_
     exact nx3 e1 (hw := X1 [((6, 2), some (60, 0))] [] rfl (by simp [w1, G]))
   ·try (simp [G] at h4; done)
    all_goals
     refine drJ [60] mixed ?_
     simp [i1, ZC, G]
     refine rpG ?_
     refine cDg [true, true, true, false, false] (Xr (nth a0.ZK U) (sg (yX (ZH.xg u0)))) ?_
     refine Vr ?_
     simp [G]
     refine rpG ?_
     refine Uy (wE := (wF.map Za.row)) (news := (([(nth a0.ZK U)] : List Za).map Za.row)) (l1 := [(6, 2)]) (l2 := [(58, 3), (58, 4), (58, 14), (58, 15)]) (size := 16) ?_
     simp [G]
     refine rpG ?_
     exact nx3 e1 (hw := X1 [((6, 2), some (60, 0))] [] rfl (by simp [w1, G]))
 have c2 := sl 2318336 a0.ZK (an u0 u1)
 have f := ms f e1
 refine cF f ?_ ?_ <;> intro lW h5 f
 ·refine okD fun l6 => ?_
  refine drJ [69] mixed ?_
  simp
  refine cDs [true, true, true, false, false] (Xr a1 (sg u1)) ?_
  refine Vr ?_
  simp
  refine Uy (wE := (wF.map Za.row)) (news := (([a1] : List Za).map Za.row)) (l1 := [(6, 2)]) (l2 := [(67, 3), (67, 4), (67, 14), (67, 15)]) (size := 16) ?_
  simp
  refine cRs (xW (ZH.mk a0.Id (wF ++ ([a1] : List Za)))) ?_
  refine cF f ?_ ?_ <;> intro gB h6 f
  ·refine cDs [] (zy a0 (sg u0)) ?_
   exact rtD [.cell 4 31, .tmp 5] f
  exact rtD [.cell 4 31, .tmp 5] f
 refine cRs (xW (ZH.mk a0.Id wF)) ?_
 refine cF f ?_ ?_ <;> intro iF h7 f
 ·refine cDs [] (zy a0 (sg u0)) ?_
  exact rtD [.cell 4 31, .tmp 5] f
 exact rtD [.cell 4 31, .tmp 5] f
theorem ju (a0 : ZI) : Yr prog 29 true a0.row [] (YU a0).1.row [(YU a0).2.row] := by
 have f := me (YU.eq_1 a0)
 refine YK func29 rfl (by kernel_rfl) (fun v => ?_)
 simp [ntmps29]
 refine cBs [] (ZX a0 3) ?_
 refine cBs [] (ZX (ZA a0 3).1 4) ?_
 refine lp6 (XT.eq_2) (fun J U wF wQ wX vG => Yd 22 [(0, .fix v (.one (.bptr 0 0)), [.box [.d (.sl 1 (U.map bR)), .d (.int .i64 (wF : Int)), .d (.int .i64 wQ)]]), (2, .one (.bptr 2 0), [.box [.d (.int .i64 0), .nil 16]]), (3, .one (.bptr 3 0), [.box [.d (.int .i64 wX), .sref 3 2 0 vG.length], .none, .arr true 16 (vG.map Za.row)]), eI 4 J]) (fun n1 J U wF wQ wX vG => J + 1 <= (n1 : Int) /\ 0 <= J /\ n1 <= 5 /\ Sm (100 - n1) (ZH.mk wX vG)) 5 (ZA (ZA a0 3).1 4).2 (ZA (ZA a0 3).1 4).1.b (ZA (ZA a0 3).1 4).1.i (ZA (ZA a0 3).1 4).1.h (ZA a0 3).2 ([] : List Za) (fun p1 J U wF wQ wX vG e1 j1 => ?_) (hI := by (have z := ZQ (ZA a0 3).1 4; (try dsimp only); exact ⟨by omega, by omega, by omega, by omega, Sz.zero (α := List Za) _⟩)) (h0 := wkS [((3, 2), none)] [])
 try dsimp only at j1
 refine cF e1 ?_ ?_ <;> intro k2 h1 e1
 ·refine okD fun k3 => ?_
  refine jv [(0, 0), (3, 3), (16, 0)] [] [17, 3000001] mixed (by kernel_rfl) (by kernel_rfl) (by kernel_rfl) (by kernel_rfl) (by kernel_rfl) (by kernel_rfl) (by kernel_rfl) ?_
  simp
  refine cBs [] (NO (ZI.mk U wF wQ)) ?_
  refine cDs [] (Ou (ZH.mk wX vG) (XX (ZI.mk U wF wQ)).2 (by first | with_reducible exact ZW (by omega) j1.2.2.2.2 | with_reducible exact yu (by decide)) (by first | with_reducible exact ZW (by omega) j1.2.2.2.2 | with_reducible exact yu (by decide))) ?_
  exact nx6 e1 (hI := by (have hh := h1; simp at hh; have q := j1.2.2.2.1; (try dsimp only); simp only [XJ]; exact ⟨by omega, by omega, by omega, by omega, ZW (by omega) (Vp j1.2.2.2.2 (yu (by omega)))⟩)) (hw := wkS [((3, 2), some (18, 1))] [])
 have f := ms f e1
 refine XV (rv := [.cell 2 31]) rfl ?_
 simp [f.h]
theorem UL (a0 : List UInt8) (u0 : Sm 2289664 a0) : Sa 6 [rL 1 bR a0] [(ZB a0).1.row, (ZB a0).2.1.row, rI (ZB a0).2.2] := by
 have f := me (ZB.eq_1 a0)
 refine so func6 ntmps6 ?_
 refine cNs (jZ a0) ?_
 refine cBs [] (PO (Z0 a0)) ?_
 refine cBs [] (ju (Yh (Z0 a0)).1) ?_
 refine jv [(2, 2), (3, 3), (5, 9), (6, 6), (7, 7), (16, 9)] [] [18, 2000017, 3000001] mixed (by kernel_rfl) (by kernel_rfl) (by kernel_rfl) (by kernel_rfl) (by kernel_rfl) (by kernel_rfl) (by kernel_rfl) ?_
 simp
 refine bsD ?_
 simp
 refine cBs [] (Yc (YU (Yh (Z0 a0)).1).1 ([0, 5, 20] : List Int) (by first | omega | (simp; done) | (simp; omega))) ?_
 exact rt [.cell 2 28, .cell 3 31, .tmp 4] f
theorem Ua (a0 : List UInt8) : Sa 18 [rL 1 bR a0] [rI (YS a0)] := by
 have f := me (YS.eq_1 a0)
 refine so func18 ntmps18 ?_
 refine cNs (jZ a0) ?_
 refine cBs [] (ZX (Z0 a0) 4) ?_
 exact rt [.tmp 2] f
theorem I5 (a0 : Int) (a1 : Int) : Sa 89 [rI a0, rI a1] [rI (MI a0 a1)] := by
 have f := me (MI.eq_1 a0 a1)
 refine so func89 ntmps89 ?_
 refine cF f ?_ ?_ <;> intro k1 h1 f
 ·exact rt [.tmp 4] f
 exact rt [.tmp 4] f
theorem R5 (a0 : Int) : Sd 68 [rI a0] [(YW a0).row] := by
 have f := me (YW.eq_1 a0)
 refine soD func68 ntmps68 ?_
 refine cRs (Ma 0 a0) ?_
 refine cRs (I5 1 (Vo 0 a0)) ?_
 refine cDs [false] (Y8) ?_
 refine cDs [false] (Y6) ?_
 refine cDs [false] (jY) ?_
 refine cDs [false] (yp) ?_
 refine GY (news := (([(ZH.mk 0 ([] : List Za)), (ZH.mk 1 ([] : List Za))] : List ZH).map ZH.row)) (L := []) rfl rfl rfl rfl (by simp) (by simp) (by simp) (by simp) (by simp) (by simp) ?_
 simp
 refine cF f ?_ ?_ <;> intro k1 h1 f
 ·exact rtD [.cell 2 61] f
 exact rtD [.cell 2 61] f
theorem qW (a0 : ZI) : Yr prog 42 true a0.row [] (Zl a0).1.row [(Zl a0).2.row] := by
 have f := me (Zl.eq_1 a0)
 refine YK func42 rfl (by kernel_rfl) (fun v => ?_)
 simp [ntmps42]
 refine cBs [] (ZX a0 2) ?_
 refine cDs [false, false, false, true, true, false, false, true, false, false, true, false] (R5 (ZA a0 2).2) ?_
 refine zV [(8, 0)] rfl (by simp) ?_
 refine cBs [] (Yc (ZA a0 2).1 ([0, 20, 45, 100] : List Int) (by first | omega | (simp; done) | (simp; omega))) ?_
 refine jv [(0, 0), (3, 3), (12, 3), (14, 0)] [16] [15] mixed (by kernel_rfl) (by kernel_rfl) (by kernel_rfl) (by kernel_rfl) (by kernel_rfl) (by kernel_rfl) (by kernel_rfl) ?_
 simp
 have i1 : 0 < (YW (ZA a0 2).2).ZL.length := by (have z := jo (ZA a0 2).2; omega)
 refine cBf i1 [] (ju (ZP (ZA a0 2).1 ([0, 20, 45, 100] : List Int)).1) ?_
 refine Ft (t := 6) (j := 7) (i := 0) (size := 2) (rows := ((YW (ZA a0 2).2).ZL.map ZH.row)) (ds := (YU (ZP (ZA a0 2).1 ([0, 20, 45, 100] : List Int)).1).2.row) (L := [(15, 1)]) ?_
 simp [i1, ZC, SO, List.set_set, JB (x := (ZH.mk 0 (YU (ZP (ZA a0 2).1 ([0, 20, 45, 100] : List Int)).1).2.ZK)) rfl]
 refine rpS ?_
 refine XV (rv := [.cell 2 61]) rfl ?_
 simp [f.h]
theorem PR (a0 : ZY) (u0 : Sm 2342912 a0) : Sd 69 [a0.row] [(VW a0).row] := by
 have f := me (VW.eq_1 a0)
 have c1 := sl 2342912 a0.YE u0
 have c2 := sl 2342912 a0.ZF u0
 have c3 := sl 2342912 a0.Methods u0
 refine soD func69 ntmps69 ?_
 exact rtD [.cell 2 28] f
theorem Rm (a0 : ZY) (u0 : Sm 2342912 a0) : Sd 69 [a0.row] [a0.row] := by
  have h := PR a0 u0
  rwa [Rr] at h
theorem OC (a0 : Zw) (u0 : Sm 2322432 a0) : Sd 43 [a0.row] [(Wc a0).row] := by
 have f := me (Wc.eq_1 a0)
 refine soD func43 ntmps43 ?_
 refine P7 [0, 1, 2, 3, 4, 5, 6, 7, 8, 9, 10, 11, 12, 13, 14, 15, 16, 17, 18, 21, 22, 23, 24, 19, 20, 25, 26, 27] mixed (by kernel_rfl) (by kernel_rfl) (by kernel_rfl) ?_
 simp
 have c1 := sl 2322432 a0.YV u0
 have c2 := sl 2322432 a0.QB u0
 have c3 := sl 2322432 a0.KL u0
 have c4 := sl 2322432 a0.X9 u0
 have c5 := sl 2322432 a0.Jp u0
 refine cDs [false, false, false] (Rm a0.Frame (sg (Zw.Mi u0))) ?_
 refine lp2 (xw.eq_2 a0) (fun J U => Yd 50 [eX 1 (a0.row.map .d), (2, .one (.bptr 2 0), [.box [.nil 5, .nil 3, .nil 4, .d (.int .i64 0), .d (.int .i64 0), .nil 7, .nil 1, .nil 2, .nil 1, .nil 1, .d (.int .i64 0), .nil 1]]), (3, .one (.bptr 3 0), [.box [.sref 7 0 0 a0.Frame.YE.length, .sref 7 1 0 a0.Frame.ZF.length, .sref 7 2 0 a0.Frame.Methods.length, .d (.int .i64 a0.Frame.zZ), .d (.int .i64 a0.Frame.Now), .sref 11 0 0 a0.YV.length, .sref 15 0 0 a0.QB.length, .sref 3 8 0 U.length, .sref 19 0 0 a0.KL.length, .sref 23 0 0 a0.X9.length, .d (.int .i64 a0.Next), .sref 29 0 0 a0.Jp.length], .none, .none, .none, .none, .none, .none, .none, .arr true 2 (U.map ZH.row)]), eI 4 (J : Int), (7, .any, [.arr false 5 (a0.Frame.YE.map Z3.row), .arr false 3 (a0.Frame.ZF.map ZJ.row), .arr false 4 (a0.Frame.Methods.map Zj.row)]), (11, .any, [.arr false 7 (a0.YV.map Z1.row)]), (15, .any, [.arr false 1 (a0.QB.map iR)]), (19, .any, [.arr false 1 (a0.KL.map iR)]), (23, .any, [.arr false 1 (a0.X9.map iR)]), (29, .any, [.arr false 1 (a0.Jp.map iR)])]) (fun n1 J U => a0.ZL.length < n1 + J /\ J <= a0.ZL.length /\ U.length <= 0 + 1 * J) (a0.ZL.length + 1) 0 ([] : List ZH) (fun p1 J U e1 j1 => ?_) (h0 := wkS [((3, 8), none)] [])
 refine cF e1 ?_ ?_ <;> intro k3 h1 e1
 ·have i1 := ix h1
  have m2 := ml a0.ZL (k3 33 _ rfl)
  have c6 := sl 2322432 a0.ZL u0
  have w1 := wr J
  refine drJ [47] mixed ?_
  simp [i1, ZC]
  refine rpS ?_
  refine cDs [] (zy (nth a0.ZL J) (sg (yX (Zw.Tp u0)))) ?_
  refine Vr ?_
  simp
  refine Uy (wE := (U.map ZH.row)) (news := (([(nth a0.ZL J)] : List ZH).map ZH.row)) (l1 := [(3, 8)]) (l2 := [(45, 1)]) (size := 2) ?_
  simp
  exact nx2 e1 (hw := X1 [((3, 8), some (47, 0))] [] rfl (by simp [w1]))
 have c7 := sl 2322432 a0.ZL u0
 have f := ms f e1
 exact rtD [.cell 2 61] f
theorem Rv (a0 : Zw) (u0 : Sm 2322432 a0) : Sd 43 [a0.row] [a0.row] := by
  have h := OC a0 u0
  rwa [NH] at h
theorem kK (a0 : List UInt8) (u0 : Sm 2285568 a0) : Sd 19 [rL 1 bR a0] [(YA a0).1.row, (YA a0).2.row] := by
 have f := me (YA.eq_1 a0)
 refine soD func19 ntmps19 ?_
 refine cNs (jZ a0) ?_
 refine cBs [] (qW (Z0 a0)) ?_
 refine cDs [false, false, false, true, true, false, false, true, false, false, true, false] (Rv (Zl (Z0 a0)).2 (by simp (maxDischargeDepth := 12) [R6, ZW (m := 2322432) (by decide) u0]; try omega)) ?_
 refine cBs [] (ZX (Zl (Z0 a0)).1 5) ?_
 refine cF f ?_ ?_ <;> intro k1 h1 f
 ·refine cBs [] (qW (ZA (Zl (Z0 a0)).1 5).1) ?_
  refine Ww [(2, 2), (3, 3), (5, 5), (6, 6)] mixed (by kernel_rfl) (by kernel_rfl) (by kernel_rfl) (by kernel_rfl) ?_
  simp
  exact rtD [.cell 2 61, .cell 3 61] f
 refine cF f ?_ ?_ <;> intro k3 h2 f
 ·refine okD fun k4 => ?_
  refine dIo mixed ?_
  have i1 : 0 < (Zl (Z0 a0)).2.KL.length := by (have z := jl (Z0 a0); omega)
  simp [i1, ZC, JB (x := (W ((nth (Zl (Z0 a0)).2.KL 0) + 1))) rfl]
  refine rpS ?_
  refine Ww [(2, 2), (3, 3), (5, 5), (6, 6)] mixed (by kernel_rfl) (by kernel_rfl) (by kernel_rfl) (by kernel_rfl) ?_
  simp
  refine Gz (rv := [.cell 2 61, .cell 3 61]) rfl ?_
  simp [f.h]
  all_goals (repeat' (first | exact XQ (by simp) (by simp) | refine And.intro ?_ ?_))
 refine cFf f ?_ ?_ <;> intro k6 h3 f
 ·have i2 : 0 < (Zl (Z0 a0)).2.QB.length := by (have z := jl (Z0 a0); omega)
  simp [i2, ZC, JB (x := 5) rfl]
  refine rpS ?_
  refine Ww [(2, 2), (3, 3), (5, 5), (6, 6)] mixed (by kernel_rfl) (by kernel_rfl) (by kernel_rfl) (by kernel_rfl) ?_
  simp
  refine Gz (rv := [.cell 2 61, .cell 3 61]) rfl ?_
  simp [f.h]
  all_goals (repeat' (first | exact XQ (by simp) (by simp) | refine And.intro ?_ ?_))
 refine Ww [(2, 2), (3, 3), (5, 5), (6, 6)] mixed (by kernel_rfl) (by kernel_rfl) (by kernel_rfl) (by kernel_rfl) ?_
 simp
 exact rtD [.cell 2 61, .cell 3 61] f
theorem SB (a0 : List UInt8) : Sd 20 [rL 1 bR a0] [(Zg a0).1.row, rI (Zg a0).2] := by
 have f := me (Zg.eq_1 a0)
 refine soD func20 ntmps20 ?_
 refine cNs (jZ a0) ?_
 refine cBs [] (qW (Z0 a0)) ?_
 refine jv [(2, 2), (4, 7), (5, 5), (11, 7)] [] [12, 3000001] mixed (by kernel_rfl) (by kernel_rfl) (by kernel_rfl) (by kernel_rfl) (by kernel_rfl) (by kernel_rfl) (by kernel_rfl) ?_
 simp
 refine cBs [] (ZX (Zl (Z0 a0)).1 11) ?_
 exact rtD [.cell 2 61, .tmp 3] f
end Go.Proofs.YtgkcgbmbdaapcaaGreat
