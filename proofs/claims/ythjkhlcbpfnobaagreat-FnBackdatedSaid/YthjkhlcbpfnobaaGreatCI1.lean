/- Contracts of the functions Oe the abstract machine, part I1. No condition. -/
import Derived.Test.YthjkhlcbpfnobaaGreatL
import Derived.Test.YthjkhlcbpfnobaaGreatTy
namespace Go.Proofs.YthjkhlcbpfnobaaGreat
open Tryz
open Go.Vm Go.Mo
set_option maxHeartbeats 1000000
set_option maxRecDepth 100000
set_option linter.unusedSimpArgs false
set_option linter.unusedVariables false
theorem PM (a0 : ZJ) (a1 : Int) : Sa 84 [a0.row, rI a1] [rI (Zm a0 a1)] := by
 have f := me (Zm.eq_1 a0 a1)
 refine so func84 ntmps84 ?_
 refine lp1 (Qc.eq_2 a0 a1) (fun J => Y5 21 [eI 1 a1, eL 8 16 a0.ZD Zj.row, eI 9 (a0.ZD.length : Int), eI 10 (J : Int)]) (fun n1 J => a0.ZD.length < n1 + J /\ J <= a0.ZD.length) (a0.ZD.length + 1) 0 (fun p1 J e1 j1 => ?_)
 refine cFf e1 ?_ ?_ <;> intro k2 h1 e1
 ·have i1 := ix h1
  have m2 := ml a0.ZD (k2 8 _ rfl)
  have w1 := wr J
  simp [i1, ZI]
  refine rpS ?_
  refine cF e1 ?_ ?_ <;> intro k3 h2 e1
  ·have f := ms f e1
   exact rt _ f
  exact ny1 w1 e1
 have f := ms f e1
 exact rt _ f
theorem V2 (a0 : ZG) (a1 : Int) : Sa 24 [a0.row, rI a1] [rI (ZF a0 a1).1, rI (ZF a0 a1).2] := by
 have f := me (ZF.eq_1 a0 a1)
 refine so func24 ntmps24 ?_
 refine lp1 (Jl.eq_2 a0 a1) (fun J => Y5 25 [eI 1 a1, eL 10 2 a0.ZB ZJ.row, eI 11 (a0.ZB.length : Int), eI 12 (J : Int)]) (fun n1 J => a0.ZB.length < n1 + J /\ J <= a0.ZB.length) (a0.ZB.length + 1) 0 (fun p1 J e1 j1 => ?_)
 refine cFf e1 ?_ ?_ <;> intro k2 h1 e1
 ·have i1 := ix h1
  have m2 := ml a0.ZB (k2 10 _ rfl)
  have w1 := wr J
  simp [i1, ZI]
  refine rpS ?_
  refine cRs (PM (nth a0.ZB J) a1) ?_
  refine cF e1 ?_ ?_ <;> intro k3 h2 e1
  ·have f := ms f e1
   exact rt [.tmp 4, .tmp 5] f
  exact ny1 w1 e1
 have f := ms f e1
 exact rt [.tmp 4, .tmp 5] f
theorem Z3 (a0 : Int) (a1 : Int) (a2 : Int) : Sa 61 [rI a0, rI a1, rI a2] [rB (Zc a0 a1 a2)] := by
 have f := me (Zc.eq_1 a0 a1 a2)
 refine so func61 ntmps61 ?_
 exact rt [.tmp 6] f
theorem Kc (a0 : ZS) : Sa 234 [a0.row] [rI (Y2 a0)] := by
 have f := me (Y2.eq_1 a0)
 refine so func234 ntmps234 ?_
 refine dIs mixed ?_
 refine gIf ?_ ?_ <;> intro G
 ·have i1 := ik 0 a0.YV
  simp [i1, ZI, G]
  refine rpG ?_
  refine cGg (fun gg => (Z3 (nth a0.YV 0) 101 105)) ?_
  refine gJf G ?_ ?_ <;> intro G
  ·try (simp at G; done)
   all_goals
    have g2 := G.2; try simp [Zc] at g2
    all_goals
     simp [i1, ZI, G]
     refine rpG ?_
     refine gK (fun _ => ?_)
     have r1 : ∀ i : Nat, i < 5 -> cut [At.d (.int .i64 7), At.d (.int .i64 5), At.d (.int .i64 5), At.d (.int .i64 9), At.d (.int .i64 6)] i 1 = [At.d (.int .i64 (nth ([7, 5, 5, 9, 6] : List Int) i))] := by intro i h; (have z : i = 0 \/ i = 1 \/ i = 2 \/ i = 3 \/ i = 4 := by omega); rcases z with rfl | rfl | rfl | rfl | rfl <;> rfl
     have i2 : (W ((nth a0.YV 0) - 101)).toNat < 5 := by first | omega | ((try simp only [X9, show ∀ x, IntKind.i64.wrap x = W x from fun _ => rfl] at *); omega)
     have r1b := r1 _ i2; simp only [cut] at r1b
     simp [r1 _ i2, r1b, G]
     refine rpG ?_
     refine cKo f ?_ ?_ <;> intro k2 h1 f
     ·have q1 := h1; try simp [Zc] at q1
      simp [G]
      refine rpG ?_
      exact rtg [.tmp 2] f
     ·have q1 := h1; try simp [Zc] at q1
      simp [i1, ZI, G]
      refine rpG ?_
      exact rtg [.tmp 2] f
  ·try (simp at G; done)
   all_goals
    refine sGg ?_
    refine cKo f ?_ ?_ <;> intro k3 h2 f
    ·have q2 := h2; try simp [Zc] at q2
     simp [G]
     refine rpG ?_
     exact rtg [.tmp 2] f
    ·simp [G] at h2
 ·refine sGo ?_
  simp [G]
  refine rpG ?_
  refine gJf G ?_ ?_ <;> intro G
  ·try (simp at G; done)
   all_goals
    have g3 := G.2; try simp [Zc] at g3
    all_goals
     have i5 := ik 0 a0.YV
     simp [i5, ZI, G]
     refine rpG ?_
     refine gK (fun _ => ?_)
     have r3 : ∀ i : Nat, i < 5 -> cut [At.d (.int .i64 7), At.d (.int .i64 5), At.d (.int .i64 5), At.d (.int .i64 9), At.d (.int .i64 6)] i 1 = [At.d (.int .i64 (nth ([7, 5, 5, 9, 6] : List Int) i))] := by intro i h; (have z : i = 0 \/ i = 1 \/ i = 2 \/ i = 3 \/ i = 4 := by omega); rcases z with rfl | rfl | rfl | rfl | rfl <;> rfl
     have i6 : (W ((nth a0.YV 0) - 101)).toNat < 5 := by first | omega | ((try simp only [X9, show ∀ x, IntKind.i64.wrap x = W x from fun _ => rfl] at *); omega)
     have r3b := r3 _ i6; simp only [cut] at r3b
     simp [r3 _ i6, r3b, G]
     refine rpG ?_
     refine cKo f ?_ ?_ <;> intro k4 h3 f
     ·simp [G] at h3
     ·simp [G] at h3
  ·try (simp at G; done)
   all_goals
    refine sGg ?_
    refine cKo f ?_ ?_ <;> intro k5 h4 f
    ·have q4 := h4; try simp [Zc] at q4
     simp [G]
     refine rpG ?_
     exact rtg [.tmp 2] f
    ·simp [G] at h4
theorem VO (a0 : ZS) : Sa 159 [a0.row] [(XE a0).1.row, rB (XE a0).2] := by
 have f := me (XE.eq_1 a0)
 refine so func159 ntmps159 ?_
 refine dIs mixed ?_
 refine cRs (Kc a0) ?_
 refine gIf ?_ ?_ <;> intro G
 ·have nM := G
  have g1 := G; try simp at g1
  have i1 : 6 < a0.YV.length := by (have z := Z8 a0; simp_all; done)
  simp [i1, ZI, G]
  refine rpG ?_
  refine cK f ?_ ?_ <;> intro k2 h1 f
  ·exact rtg [.cell 2 107, .tmp 3] f
  ·refine dIo mixed ?_
   have i2 : 1 < a0.YV.length := by (have z := Z8 a0; simp_all; done)
   have i3 : 2 < a0.YV.length := by (have z := Z8 a0; simp_all; done)
   have i4 : 3 < a0.YV.length := by (have z := Z8 a0; simp_all; done)
   have i5 : 4 < a0.YV.length := by (have z := Z8 a0; simp_all; done)
   have i6 : 5 < a0.YV.length := by (have z := Z8 a0; simp_all; done)
   simp [i2, ZI, i3, i4, i5, i6, i1, G]
   refine rpG ?_
   exact rtg [.cell 2 107, .tmp 3] f
 ·have nM := G
  refine cK f ?_ ?_ <;> intro k4 h2 f
  ·exact rtg [.cell 2 107, .tmp 3] f
  ·simp [G] at h2
theorem H8 (a0 : List Yb) (a1 : Int) : Sa 64 [rL 7 Yb.row a0, rI a1] [rI (Xn a0 a1)] := by
 have f := me (Xn.eq_1 a0 a1)
 refine so func64 ntmps64 ?_
 refine lp1 (yP.eq_2 a0 a1) (fun J => Y5 20 [eI 1 a1, eL 7 7 a0 Yb.row, eI 8 (a0.length : Int), eI 9 (J : Int)]) (fun n1 J => a0.length < n1 + J /\ J <= a0.length) (a0.length + 1) 0 (fun p1 J e1 j1 => ?_)
 refine cFf e1 ?_ ?_ <;> intro k2 h1 e1
 ·have i1 := ix h1
  have m2 := ml a0 (k2 7 _ rfl)
  have w1 := wr J
  simp [i1, ZI]
  refine rpS ?_
  refine cF e1 ?_ ?_ <;> intro k3 h2 e1
  ·have f := ms f e1
   exact rt [.tmp 4] f
  exact ny1 w1 e1
 have f := ms f e1
 exact rt [.tmp 4] f
theorem zG {a b : Prop} (h : b) (k : a := by (intros; first | omega | with_unfolding_all (first | first | omega | (have fi := QH a0 a1 (by first | omega | (simp at *; omega)); omega) | (simp only [Bool.or_eq_false_iff, decide_eq_false_iff_not] at *; omega)) | (simp_all; done) | (simp_all; omega) | grind | ((try simp only [X9, show ∀ x, IntKind.i64.wrap x = W x from fun _ => rfl] at *); omega))) : a /\ b := ⟨k, h⟩
theorem DT (a0 : ZG) (a1 : Int) : Sa 81 [a0.row, rI a1] [rI (Yd a0 a1).1, rI (Yd a0 a1).2.1, rB (Yd a0 a1).2.2] := by
 have f := me (Yd.eq_1 a0 a1)
 refine so func81 ntmps81 ?_
 refine cRs (V2 a0 a1) ?_
 refine gIo ?_ ?_ <;> intro G
 ·have nM := G
  have g1 := G; try simp at g1
  have i1 : (ZF a0 a1).1.toNat < a0.ZB.length := by first | omega | (have fi := QH a0 a1 (by first | omega | (simp at *; omega)); omega) | (simp only [Bool.or_eq_false_iff, decide_eq_false_iff_not] at *; omega)
  simp [i1, ZI, G]
  repeat with_reducible refine zG ?_
  refine gK (fun _ => ?_)
  have i2 : (ZF a0 a1).2.toNat < (nth a0.ZB (ZF a0 a1).1.toNat).ZD.length := by first | omega | (have fi := QH a0 a1 (by first | omega | (simp at *; omega)); omega) | (simp only [Bool.or_eq_false_iff, decide_eq_false_iff_not] at *; omega)
  simp [i2, ZI, G]
  repeat with_reducible refine zG ?_
  refine cKo f ?_ ?_ <;> intro k1 h1 f
  ·simp [G]
   repeat with_reducible refine zG ?_
   exact rtg [.tmp 4, .tmp 5, .tmp 6] f
  ·have i3 : 1 < (nth (nth a0.ZB (ZF a0 a1).1.toNat).ZD (ZF a0 a1).2.toNat).ZP.ZM.length := by first | omega | (have fi := QH a0 a1 (by first | omega | (simp at *; omega)); omega) | (simp only [Bool.or_eq_false_iff, decide_eq_false_iff_not] at *; omega)
   simp [i1, ZI, i2, i3, G]
   repeat with_reducible refine zG ?_
   refine cR (VO (nth (nth (nth a0.ZB (ZF a0 a1).1.toNat).ZD (ZF a0 a1).2.toNat).ZP.ZM 1)) ?_
   simp [G]
   repeat with_reducible refine zG ?_
   refine cR (H8 a0.ZZ (XE (nth (nth (nth a0.ZB (ZF a0 a1).1.toNat).ZD (ZF a0 a1).2.toNat).ZP.ZM 1)).1.Zn) ?_
   simp [G]
   repeat with_reducible refine zG ?_
   exact rtg [.tmp 4, .tmp 5, .tmp 6] f
 ·have nM := G
  simp [G]
  repeat with_reducible refine zG ?_
  refine sGo ?_
  simp [G]
  repeat with_reducible refine zG ?_
  refine cKo f ?_ ?_ <;> intro k2 h2 f
  ·simp [G]
   repeat with_reducible refine zG ?_
   exact rtg [.tmp 4, .tmp 5, .tmp 6] f
  ·simp [G] at h2
theorem yO (a0 : List Yp) (a1 : Int) : Sa 114 [rL 5 Yp.row a0, rI a1] [rI (Zu a0 a1)] := by
 have f := me (Zu.eq_1 a0 a1)
 refine so func114 ntmps114 ?_
 refine lp1 (jC.eq_2 a0 a1) (fun J => Y5 20 [eI 1 a1, eL 7 5 a0 Yp.row, eI 8 (a0.length : Int), eI 9 (J : Int)]) (fun n1 J => a0.length < n1 + J /\ J <= a0.length) (a0.length + 1) 0 (fun p1 J e1 j1 => ?_)
 refine cFf e1 ?_ ?_ <;> intro k2 h1 e1
 ·have i1 := ix h1
  have m2 := ml a0 (k2 7 _ rfl)
  have w1 := wr J
  simp [i1, ZI]
  refine rpS ?_
  refine cF e1 ?_ ?_ <;> intro k3 h2 e1
  ·have f := ms f e1
   exact rt _ f
  exact ny1 w1 e1
 have f := ms f e1
 exact rt _ f
theorem LQ (a0 : List Z5) (a1 : Int) : Sa 202 [rL 4 Z5.row a0, rI a1] [rI (K7 a0 a1)] := by
 have f := me (K7.eq_1 a0 a1)
 refine so func202 ntmps202 ?_
 refine lp1 (zh.eq_2 a0 a1) (fun J => Y5 20 [eI 1 a1, eL 7 4 a0 Z5.row, eI 8 (a0.length : Int), eI 9 (J : Int)]) (fun n1 J => a0.length < n1 + J /\ J <= a0.length) (a0.length + 1) 0 (fun p1 J e1 j1 => ?_)
 refine cFf e1 ?_ ?_ <;> intro k2 h1 e1
 ·have i1 := ix h1
  have m2 := ml a0 (k2 7 _ rfl)
  have w1 := wr J
  simp [i1, ZI]
  refine rpS ?_
  refine cF e1 ?_ ?_ <;> intro k3 h2 e1
  ·have f := ms f e1
   exact rt [.tmp 4] f
  exact ny1 w1 e1
 have f := ms f e1
 exact rt [.tmp 4] f
theorem Wl (a0 : List Z5) (a1 : Int) : Sa 235 [rL 4 Z5.row a0, rI a1] [rI (Ky a0 a1)] := by
 have f := me (Ky.eq_1 a0 a1)
 refine so func235 ntmps235 ?_
 refine cRs (LQ a0 a1) ?_
 refine cFf f ?_ ?_ <;> intro k1 h1 f
 ·have i1 : (K7 a0 a1).toNat < a0.length := by have := M6 a0 a1; exact il
  simp [i1, ZI]
  refine rpS ?_
  exact rt [.tmp 4] f
 exact rt [.tmp 4] f
theorem WQ (a0 : ZW) (a1 : Int) : Sa 160 [a0.row, rI a1] [rI (JH a0 a1)] := by
 have f := me (JH.eq_1 a0 a1)
 refine so func160 ntmps160 ?_
 refine cRs (yO a0.Zo a1) ?_
 refine cF f ?_ ?_ <;> intro k1 h1 f
 ·exact rt [.tmp 4] f
 refine dIo mixed ?_
 have i1 : (Zu a0.Zo a1).toNat < a0.Zo.length := by have := jZ a0.Zo a1; exact il
 simp [i1, ZI]
 refine rpS ?_
 refine cRs (Wl a0.Methods (nth a0.Zo (Zu a0.Zo a1).toNat).Method) ?_
 exact rt [.tmp 4] f
theorem PB (a0 : ZW) (a1 : Int) : Sa 82 [a0.row, rI a1] [rB (QF a0 a1)] := by
 have f := me (QF.eq_1 a0 a1)
 refine so func82 ntmps82 ?_
 refine dIs mixed ?_
 refine cRs (yO a0.Zo a1) ?_
 refine cGs (fun gg => (WQ a0 a1)) ?_
 exact rt [.tmp 4] f
theorem HR (a0 : ZW) (u0 : Sm 2342912 a0) : Sd 141 [a0.row] [(RL a0).row] := by
 have f := me (RL.eq_1 a0)
 have c1 := sl 2342912 a0.Zo u0
 have c2 := sl 2342912 a0.ZC u0
 have c3 := sl 2342912 a0.Methods u0
 refine soD func141 ntmps141 ?_
 exact rtD _ f
theorem M3 (a0 : ZW) (u0 : Sm 2342912 a0) : Sd 141 [a0.row] [a0.row] := by
  have h := HR a0 u0
  rwa [Ib] at h
theorem GB (a0 : List Int) (u0 : Sm 2342912 a0) : Sd 142 [rL 1 iR a0] [rL 1 iR (P8 a0)] := by
 have f := me (P8.eq_1 a0)
 have c1 := sl 2342912 a0 u0
 refine soD func142 ntmps142 ?_
 exact rtD [.tmp 2] f
theorem z6 (a0 : List Int) (u0 : Sm 2342912 a0) : Sd 142 [rL 1 iR a0] [rL 1 iR a0] := by
  have h := GB a0 u0
  rwa [GK] at h
theorem OO (a0 : Ze) (u0 : Sm 2338816 a0) : Sd 282 [a0.row] [(VZ a0).row] := by
 have f := me (VZ.eq_1 a0)
 refine soD func282 ntmps282 ?_
 refine Ln [2, 3, 4, 5, 0, 1, 6, 7, 8, 9, 10] mixed (by kernel_rfl) (by kernel_rfl) (by kernel_rfl) ?_
 have c1 := sl 2338816 a0.XJ u0
 simp
 refine rpS ?_
 refine cDs [false] (z6 a0.Qs (sg (Ze.CX u0))) ?_
 exact rtD _ f
theorem Pd (a0 : Ze) (u0 : Sm 2338816 a0) : Sd 282 [a0.row] [a0.row] := by
  have h := OO a0 u0
  rwa [OW] at h
theorem HB (a0 : ZS) (u0 : Sm 2338816 a0) : Sd 304 [a0.row] [(Si a0).row] := by
 have f := me (Si.eq_1 a0)
 refine soD func304 ntmps304 ?_
 refine cDs [false] (z6 a0.YV (sg (ZS.TQ u0))) ?_
 exact rtD [.cell 2 177] f
theorem qi (a0 : ZS) (u0 : Sm 2338816 a0) : Sd 304 [a0.row] [a0.row] := by
  have h := HB a0 u0
  rwa [HW] at h
theorem M1 (a0 : List ZS) (u0 : Sm 2334720 a0) : Sd 252 [rL 3 ZS.row a0] [rL 3 ZS.row (Wj a0)] := by
 have f := me (Wj.eq_1 a0)
 refine soD func252 ntmps252 ?_
 refine lp2 (jt.eq_2 a0) (fun J U => Y5 19 [(3, .one (.sref 3 0 0 J.length), [.arr true 3 (J.map ZS.row)]), eL 6 3 a0 ZS.row, eI 7 (a0.length : Int), eI 8 (U : Int)]) (fun n1 J U => a0.length < n1 + U /\ U <= a0.length /\ J.length <= 0 + 1 * U) (a0.length + 1) ([] : List ZS) 0 (fun p1 J U e1 j1 => ?_) (h0 := wkS [((3, 0), none)] [])
 refine cFf e1 ?_ ?_ <;> intro k2 h1 e1
 ·have i1 := ix h1
  have m2 := ml a0 (k2 6 _ rfl)
  have c1 := sl 2334720 a0 u0
  have w1 := wr U
  simp [i1, ZI]
  refine rpS ?_
  refine cDs [true, false] (qi (nth a0 U) (sg (Z4 u0))) ?_
  refine T7 ?_
  simp
  refine Ss (pW := (J.map ZS.row)) (news := (([(nth a0 U)] : List ZS).map ZS.row)) (l1 := [(3, 0)]) (l2 := [(14, 1)]) (size := 3) ?_
  simp
  exact nx2 e1 (hw := X1 [((3, 0), some (16, 0))] [] rfl (by simp [w1]))
 have f := ms f e1
 exact rtD [.tmp 2] f
theorem Nw (a0 : List ZS) (u0 : Sm 2334720 a0) : Sd 252 [rL 3 ZS.row a0] [rL 3 ZS.row a0] := by
  have h := M1 a0 u0
  rwa [LY] at h
theorem Le (a0 : List Zf) (u0 : Sm 2342912 a0) : Sd 255 [rL 5 Zf.row a0] [rL 5 Zf.row (Tc a0)] := by
 have f := me (Tc.eq_1 a0)
 have c1 := sl 2342912 a0 u0
 refine soD func255 ntmps255 ?_
 exact rtD [.tmp 2] f
theorem MN (a0 : List Zf) (u0 : Sm 2342912 a0) : Sd 255 [rL 5 Zf.row a0] [rL 5 Zf.row a0] := by
  have h := Le a0 u0
  rwa [Lb] at h
theorem Nz (a0 : ZV) (u0 : Sm 2338816 a0) : Sd 171 [a0.row] [(Uh a0).row] := by
 have f := me (Uh.eq_1 a0)
 have c1 := sl 2338816 a0.Path u0
 refine soD func171 ntmps171 ?_
 refine cDs [false] (MN a0.YI (sg (ZV.G1 u0))) ?_
 exact rtD _ f
theorem UH (a0 : ZV) (u0 : Sm 2338816 a0) : Sd 171 [a0.row] [a0.row] := by
  have h := Nz a0 u0
  rwa [Nf] at h
theorem LV (a0 : ZQ) (u0 : Sm 2330624 a0) : Sd 166 [a0.row] [(Wg a0).row] := by
 have f := me (Wg.eq_1 a0)
 refine soD func166 ntmps166 ?_
 refine cDs [] (Nw a0.ZM (sg (ZQ.QB u0))) ?_
 refine lp2 (jj.eq_2 a0) (fun J U => Y5 26 [(2, .one (.bptr 2 0), [.box [.nil 3, .nil 5]]), (3, .one (.bptr 3 0), [.box [.sref 8 0 0 a0.ZM.length, .sref 3 2 0 U.length], .none, .arr true 5 (U.map ZV.row)]), (8, .any, [.arr true 3 (a0.ZM.map ZS.row)]), eL 11 5 a0.ZR ZV.row, eI 12 (a0.ZR.length : Int), eI 13 (J : Int)]) (fun n1 J U => a0.ZR.length < n1 + J /\ J <= a0.ZR.length /\ U.length <= 0 + 1 * J) (a0.ZR.length + 1) 0 ([] : List ZV) (fun p1 J U e1 j1 => ?_) (h0 := wkS [((3, 2), none)] [])
 refine cFf e1 ?_ ?_ <;> intro k2 h1 e1
 ·have i1 := ix h1
  have m2 := ml a0.ZR (k2 11 _ rfl)
  have c1 := sl 2330624 a0.ZR u0
  have w1 := wr J
  simp [i1, ZI]
  refine rpS ?_
  refine drJ [22] mixed ?_
  simp
  refine cDs [true, true, true, false, false] (UH (nth a0.ZR J) (sg (Z4 (ZQ.yq u0)))) ?_
  refine T7 ?_
  simp
  refine Ss (pW := (U.map ZV.row)) (news := (([(nth a0.ZR J)] : List ZV).map ZV.row)) (l1 := [(3, 2)]) (l2 := [(20, 3), (20, 4)]) (size := 5) ?_
  simp
  exact nx2 e1 (hw := X1 [((3, 2), some (22, 0))] [] rfl (by simp [w1]))
 have f := ms f e1
 exact rtD [.cell 2 68] f
theorem Kb (a0 : ZQ) (u0 : Sm 2330624 a0) : Sd 166 [a0.row] [a0.row] := by
  have h := LV a0 u0
  rwa [LA] at h
theorem Gh (a0 : Zj) (u0 : Sm 2326528 a0) : Sd 205 [a0.row] [(Pu a0).row] := by
 have f := me (Pu.eq_1 a0)
 refine soD func205 ntmps205 ?_
 refine cDs [true, false, false] (Pd a0.Doc (sg (Zj.W7 u0))) ?_
 refine cDs [] (Kb a0.ZP (sg (Zj.XS u0))) ?_
 exact rtD _ f
theorem Ii (a0 : Zj) (u0 : Sm 2326528 a0) : Sd 205 [a0.row] [a0.row] := by
  have h := Gh a0 u0
  rwa [Ht] at h
theorem Nk (a0 : ZJ) (u0 : Sm 2322432 a0) : Sd 125 [a0.row] [(kl a0).row] := by
 have f := me (kl.eq_1 a0)
 refine soD func125 ntmps125 ?_
 refine lp2 (qm.eq_2 a0) (fun J U => Y5 25 [(2, .one (.bptr 2 0), [.box [.d (.int .i64 0), .nil 16]]), (3, .one (.bptr 3 0), [.box [.d (.int .i64 a0.Id), .sref 3 2 0 U.length], .none, .arr true 16 (U.map Zj.row)]), eL 10 16 a0.ZD Zj.row, eI 11 (a0.ZD.length : Int), eI 12 (J : Int)]) (fun n1 J U => a0.ZD.length < n1 + J /\ J <= a0.ZD.length /\ U.length <= 0 + 1 * J) (a0.ZD.length + 1) 0 ([] : List Zj) (fun p1 J U e1 j1 => ?_) (h0 := wkS [((3, 2), none)] [])
 refine cFf e1 ?_ ?_ <;> intro k2 h1 e1
 ·have i1 := ix h1
  have m2 := ml a0.ZD (k2 10 _ rfl)
  have c1 := sl 2322432 a0.ZD u0
  have w1 := wr J
  simp [i1, ZI]
  refine rpS ?_
  refine drJ [21] mixed ?_
  simp
  refine cDs [true, true, true, false, false] (Ii (nth a0.ZD J) (sg (Z4 (ZJ.XQ u0)))) ?_
  refine T7 ?_
  simp
  refine Ss (pW := (U.map Zj.row)) (news := (([(nth a0.ZD J)] : List Zj).map Zj.row)) (l1 := [(3, 2)]) (l2 := [(19, 3), (19, 4), (19, 14), (19, 15)]) (size := 16) ?_
  simp
  exact nx2 e1 (hw := X1 [((3, 2), some (21, 0))] [] rfl (by simp [w1]))
 have f := ms f e1
 exact rtD [.cell 2 73] f
theorem UR (a0 : ZJ) (u0 : Sm 2322432 a0) : Sd 125 [a0.row] [a0.row] := by
  have h := Nk a0 u0
  rwa [MP] at h
theorem HL (a0 : ZG) (u0 : Sm 2318336 a0) : Sd 59 [a0.row] [(Vu a0).row] := by
 have f := me (Vu.eq_1 a0)
 refine soD func59 ntmps59 ?_
 refine dIs mixed ?_
 have c1 := sl 2318336 a0.ZZ u0
 refine cDs [false, false, false] (M3 a0.Frame (sg (ZG.Xk u0))) ?_
 refine cDs [false] (z6 a0.YQ (sg (ZG.wT u0))) ?_
 refine cDs [false] (z6 a0.YZ (sg (ZG.BW u0))) ?_
 refine cDs [false] (z6 a0.YR (sg (ZG.wy u0))) ?_
 refine cDs [false] (z6 a0.YK (sg (ZG.FI u0))) ?_
 refine lp2 (km.eq_2 a0) (fun J U => Y5 44 [(2, .one (.bptr 2 0), [.box [.nil 5, .nil 3, .nil 4, .d (.int .i64 0), .d (.int .i64 0), .nil 7, .nil 1, .nil 2, .nil 1, .nil 1, .d (.int .i64 0), .nil 1]]), (3, .one (.bptr 3 0), [.box [.sref 8 0 0 a0.Frame.Zo.length, .sref 8 1 0 a0.Frame.ZC.length, .sref 8 2 0 a0.Frame.Methods.length, .d (.int .i64 a0.Frame.X8), .d (.int .i64 a0.Frame.Now), .sref 12 0 0 a0.ZZ.length, .sref 15 0 0 a0.YQ.length, .sref 3 8 0 U.length, .sref 18 0 0 a0.YZ.length, .sref 21 0 0 a0.YR.length, .d (.int .i64 a0.Next), .sref 26 0 0 a0.YK.length], .none, .none, .none, .none, .none, .none, .none, .arr true 2 (U.map ZJ.row)]), (8, .any, [.arr false 5 (a0.Frame.Zo.map Yp.row), .arr false 3 (a0.Frame.ZC.map Zg.row), .arr false 4 (a0.Frame.Methods.map Z5.row)]), (12, .any, [.arr false 7 (a0.ZZ.map Yb.row)]), (15, .any, [.arr false 1 (a0.YQ.map iR)]), (18, .any, [.arr false 1 (a0.YZ.map iR)]), (21, .any, [.arr false 1 (a0.YR.map iR)]), (26, .any, [.arr false 1 (a0.YK.map iR)]), eL 29 2 a0.ZB ZJ.row, eI 30 (a0.ZB.length : Int), eI 31 (J : Int)]) (fun n1 J U => a0.ZB.length < n1 + J /\ J <= a0.ZB.length /\ U.length <= 0 + 1 * J) (a0.ZB.length + 1) 0 ([] : List ZJ) (fun p1 J U e1 j1 => ?_) (h0 := wkS [((3, 8), none)] [])
 refine cFf e1 ?_ ?_ <;> intro k3 h1 e1
 ·have i1 := ix h1
  have m2 := ml a0.ZB (k3 29 _ rfl)
  have c2 := sl 2318336 a0.ZB u0
  have w1 := wr J
  simp [i1, ZI]
  refine rpS ?_
  refine drJ [40] mixed ?_
  simp
  refine cDs [] (UR (nth a0.ZB J) (sg (Z4 (ZG.Yq u0)))) ?_
  refine T7 ?_
  simp
  refine Ss (pW := (U.map ZJ.row)) (news := (([(nth a0.ZB J)] : List ZJ).map ZJ.row)) (l1 := [(3, 8)]) (l2 := [(38, 1)]) (size := 2) ?_
  simp
  exact nx2 e1 (hw := X1 [((3, 8), some (40, 0))] [] rfl (by simp [w1]))
 have f := ms f e1
 exact rtD [.cell 2 33] f
theorem ql (a0 : ZG) (u0 : Sm 2318336 a0) : Sd 59 [a0.row] [a0.row] := by
  have h := HL a0 u0
  rwa [I8] at h
theorem Tu (a0 : Zr) : Sd 236 [a0.row] [rL 1 iR (JN a0)] := by
 have f := me (JN.eq_1 a0)
 refine soD func236 ntmps236 ?_
 exact rtD [.tmp 2] f
theorem wi (a0 : Int) (a1 : Int) : Sa 317 [rI a0, rI a1] [rI (DR a0 a1)] := by
 have f := me (DR.eq_1 a0 a1)
 refine so func317 ntmps317 ?_
 refine cRs (Z3 a1 1 1000000000000) ?_
 refine cFo f ?_ ?_ <;> intro k1 h1 f
 ·have q1 := h1; try simp [Zc] at q1
  simp
  exact rt _ f
 have q1 := h1; try simp [Zc] at q1
 simp
 refine rpS ?_
 exact rt _ f
theorem G9 (a0 : List Int) : Sa 258 [rL 1 iR a0] [rI (NN a0)] := by
 have f := me (NN.eq_1 a0)
 refine so func258 ntmps258 ?_
 refine lp2 (RP.eq_2 a0) (fun J U => Y5 21 [eI 3 J, eL 6 1 a0 iR, eI 7 (a0.length : Int), eI 8 (U : Int)]) (fun n1 J U => a0.length < n1 + U /\ U <= a0.length) (a0.length + 1) 11 0 (fun p1 J U e1 j1 => ?_)
 refine cFf e1 ?_ ?_ <;> intro k2 h1 e1
 ·have i1 := ix h1
  have m2 := ml a0 (k2 6 _ rfl)
  have w1 := wr U
  simp [i1, ZI]
  refine rpS ?_
  refine cRs (wi (nth a0 U) 2147483647) ?_
  exact ny2 w1 e1
 have f := ms f e1
 exact rt _ f
theorem IM (a0 : Int) (a1 : List Int) (u0 : Sm 2330624 a1) : Sa 316 [rI a0, rL 1 iR a1] [rI (WL a0 a1)] := by
 have f := me (WL.eq_1 a0 a1)
 have c1 := sl 2330624 a1 u0
 refine so func316 ntmps316 ?_
 refine cRs (G9 ((([a0] : List Int) ++ a1) ++ ([a0] : List Int))) ?_
 exact rt _ f
theorem GY (a0 : Yp) (a1 : List Int) (u0 : Sm 2326528 a1) : Sa 254 [a0.row, rL 1 iR a1] [rI (Vs a0 a1)] := by
 have f := me (Vs.eq_1 a0 a1)
 refine so func254 ntmps254 ?_
 refine Ln [2, 3, 4, 5, 6, 0, 1, 7, 8] mixed (by kernel_rfl) (by kernel_rfl) (by kernel_rfl) ?_
 have c1 := sl 2326528 a1 u0
 simp
 refine rpS ?_
 refine cRs (IM a0.jc (([a0.Method] : List Int) ++ a1) (by simp (maxDischargeDepth := 12) [Xo]; try omega)) ?_
 exact rt _ f
theorem Sp (a0 : List Yp) (a1 : Int) (a2 : List Int) (u0 : Sm 2322432 a0) (u1 : Sm 2322432 a2) : Sa 169 [rL 5 Yp.row a0, rI a1, rL 1 iR a2] [rI (J0 a0 a1 a2).1, rB (J0 a0 a1 a2).2] := by
 have f := me (J0.eq_1 a0 a1 a2)
 refine so func169 ntmps169 ?_
 refine cRs (yO a0 a1) ?_
 refine cFt f ?_ ?_ <;> intro k1 h1 f
 ·exact rt _ f
 have i1 : (Zu a0 a1).toNat < a0.length := by have := jZ a0 a1; exact il
 simp [i1, ZI]
 refine rpS ?_
 refine cRs (GY (nth a0 (Zu a0 a1).toNat) a2 (sg u1)) ?_
 exact rt _ f
theorem zH (a0 : Int) : Sa 146 [rI a0] [rB (JL a0)] := by
 have f := me (JL.eq_1 a0)
 refine so func146 ntmps146 ?_
 refine cRs (Z3 a0 0 10000) ?_
 exact rt [.tmp 2] f
theorem Gm (a0 : Zr) : Sa 237 [a0.row] [rB (Vn a0)] := by
 have f := me (Vn.eq_1 a0)
 refine so func237 ntmps237 ?_
 refine cRs (Z3 a0.Zn 1 999) ?_
 refine cGs (fun gg => (zH a0.Ru)) ?_
 refine cGs (fun gg => (Z3 a0.YQ (-1) (W (a0.Ru + 1)))) ?_
 refine cGs (fun gg => (Z3 a0.Z6 1 99)) ?_
 exact rt [.tmp 2] f
theorem M9 (a0 : List Yp) (a1 : Zr) (u0 : Sm 2318336 a0) : Sa 161 [rL 5 Yp.row a0, a1.row] [(YH a0 a1).1.row, rB (YH a0 a1).2] := by
 have f := me (YH.eq_1 a0 a1)
 refine so func161 ntmps161 ?_
 refine dIs mixed ?_
 refine cRs (Yx.rd (Tu a1)) ?_
 refine cRs (Sp a0 a1.Z6 (JN a1) (sg u0) (by simp (maxDischargeDepth := 12) [Tw, Za (m := 2322432) (by decide) u0]; try omega)) ?_
 refine cRs (Gm a1) ?_
 refine cF f ?_ ?_ <;> intro k2 h1 f
 ·exact rt [.cell 4 128, .tmp 5] f
 exact rt [.cell 4 128, .tmp 5] f
theorem MG (a0 : Zr) : Sd 163 [a0.row] [(Yl a0).row] := by
 have f := me (Yl.eq_1 a0)
 refine soD func163 ntmps163 ?_
 refine dIs mixed ?_
 refine cDs [false] (Tu a0) ?_
 exact rtD [.cell 2 177] f
theorem zo (a0 : List Int) (a1 : List Int) : Sa 69 [rL 1 iR a0, rL 1 iR a1] [rB (K5 a0 a1)] := by
 have f := me (K5.eq_1 a0 a1)
 refine so func69 ntmps69 ?_
 refine cF f ?_ ?_ <;> intro k1 h1 f
 ·exact rt _ f
 refine lp1 (kj.eq_2 a0 a1) (fun J => Y5 26 [eL 0 1 a0 iR, eL 1 1 a1 iR, eI 12 (a0.length : Int), eI 13 (J : Int)]) (fun n1 J => a0.length < n1 + J /\ J <= a0.length) (a0.length + 1) 0 (fun p1 J e1 j1 => ?_)
 refine cF e1 ?_ ?_ <;> intro k3 h2 e1
 ·have i1 := ix h2
  have m2 := ml a0 (k3 0 _ rfl)
  have w1 := wr J
  refine dIo mixed ?_
  have i2 := ik J a1
  simp [i1, ZI, i2]
  refine rpS ?_
  refine cF e1 ?_ ?_ <;> intro k5 h3 e1
  ·have f := ms f e1
   exact rt _ f
  exact ny1 w1 e1
 have f := ms f e1
 exact rt _ f
theorem kU (a0 : ZS) (a1 : ZS) : Sa 221 [a0.row, a1.row] [rB (XM a0 a1)] := by
 have f := me (XM.eq_1 a0 a1)
 refine so func221 ntmps221 ?_
 refine cGs (fun gg => (zo a0.YV a1.YV)) ?_
 exact rt [.tmp 4] f
theorem ka (a0 : List ZS) (a1 : ZS) : Sa 256 [rL 3 ZS.row a0, a1.row] [rB (Qz a0 a1)] := by
 have f := me (Qz.eq_1 a0 a1)
 refine so func256 ntmps256 ?_
 refine lp1 (jW.eq_2 a0 a1) (fun J => Y5 17 [eX 3 (a1.row.map .d), eL 7 3 a0 ZS.row, eI 8 (a0.length : Int), eI 9 (J : Int)]) (fun n1 J => a0.length < n1 + J /\ J <= a0.length) (a0.length + 1) 0 (fun p1 J e1 j1 => ?_)
 refine cFf e1 ?_ ?_ <;> intro k2 h1 e1
 ·have i1 := ix h1
  have m2 := ml a0 (k2 7 _ rfl)
  have w1 := wr J
  simp [i1, ZI]
  refine rpS ?_
  refine cRs (kU (nth a0 J) a1) ?_
  refine cF e1 ?_ ?_ <;> intro k3 h2 e1
  ·have f := ms f e1
   exact rt _ f
  exact ny1 w1 e1
 have f := ms f e1
 exact rt _ f
theorem R8 (a0 : ZQ) : Sa 172 [a0.row] [rB (Ye a0)] := by
 have f := me (Ye.eq_1 a0)
 refine so func172 ntmps172 ?_
 refine cRs (Z3 (a0.ZM.length : Int) 1 12) ?_
 refine cFo f ?_ ?_ <;> intro k1 h1 f
 ·have q1 := h1; try simp [Zc] at q1
  simp
  exact rt _ f
 have q1 := h1; try simp [Zc] at q1
 simp
 refine lp1 (yb.eq_2 a0) (fun J => Y5 65 [eX 1 (a0.row.map .d), eL 19 3 a0.ZM ZS.row, eI 20 (a0.ZM.length : Int), eI 21 (J : Int)]) (fun n1 J => a0.ZM.length < n1 + J /\ J <= a0.ZM.length) (a0.ZM.length + 1) 0 (fun p1 J e1 j1 => ?_)
 refine cFf e1 ?_ ?_ <;> intro k3 h2 e1
 ·have i1 := ix h2
  have w1 := wr J
  simp [i1, ZI]
  refine rpS ?_
  refine dIs mixed ?_
  refine cRs (ka (a0.ZM.take J) (nth a0.ZM J)) ?_
  refine cF e1 ?_ ?_ <;> intro k5 h3 e1
  ·have f := ms f e1
   exact rt _ f
  exact ny1 w1 e1
 have f := ms f e1
 refine lp1 (yN.eq_2 a0) (fun pR => Y5 65 [eX 1 (a0.row.map .d), eL 34 5 a0.ZR ZV.row, eI 35 (a0.ZR.length : Int), eI 36 (pR : Int)]) (fun n2 pR => a0.ZR.length < n2 + pR /\ pR <= a0.ZR.length) (a0.ZR.length + 1) 0 (fun p2 pR e2 j2 => ?_)
 refine cFf e2 ?_ ?_ <;> intro k7 h4 e2
 ·have i2 := ix h4
  have w2 := wr pR
  simp [i2, ZI]
  refine rpS ?_
  refine dIs mixed ?_
  refine cRs (Z3 (nth a0.ZR pR).Count 1 (a0.ZM.length : Int)) ?_
  refine gIf ?_ ?_ <;> intro G
  ·have i3 := ik (pR - 1) a0.ZR
   have w3 : IntKind.i64.wrap ((pR : Int) - 1) = (pR : Int) - 1 := XA (by omega) (by omega)
   simp [i3, ZI, w3, G]
   refine rpG ?_
   refine cKo e2 ?_ ?_ <;> intro k9 h5 e2
   ·have q5 := h5; try simp [Zc] at q5
    have f := ms f e2
    simp
    refine rpG ?_
    exact rtg _ f
   ·have q5 := h5; try simp [Zc] at q5
    simp
    refine rpG ?_
    exact ny1 (an w2 (an w3 G)) e2
  ·refine cKo e2 ?_ ?_ <;> intro fy h6 e2
   ·have q6 := h6; try simp [Zc] at q6
    have f := ms f e2
    simp
    refine rpG ?_
    exact rtg _ f
   ·have q6 := h6; try simp [Zc] at q6
    simp
    refine rpG ?_
    exact ny1 (an w2 G) e2
 have f := ms f e2
 exact rt _ f
theorem H3 (a0 : ZQ) (a1 : ZS) (u0 : Sm 2326528 a0) (u1 : Sm 2326528 a1) : Sd 238 [a0.row, a1.row] [(Xf a0 a1).1.row, rB (Xf a0 a1).2] := by
 have f := me (Xf.eq_1 a0 a1)
 refine soD func238 ntmps238 ?_
 refine cDs [] (Kb a0 (sg u0)) ?_
 refine drJ [14] mixed ?_
 simp
 refine cDs [true, false] (qi a1 (sg u1)) ?_
 refine T7 ?_
 have c1 := sl 2326528 a0.ZM (an u0 u1)
 simp
 refine Ss (pW := (a0.ZM.map ZS.row)) (news := (([a1] : List ZS).map ZS.row)) (l1 := [(8, 0)]) (l2 := [(12, 1)]) (size := 3) ?_
 simp
 refine cRs (R8 (ZQ.mk (a0.ZM ++ ([a1] : List ZS)) a0.ZR)) ?_
 refine cF f ?_ ?_ <;> intro k2 h1 f
 ·refine cDs [] (Kb a0 (sg u0)) ?_
  exact rtD [.cell 4 68, .tmp 5] f
 exact rtD [.cell 4 68, .tmp 5] f
theorem HU (a0 : ZJ) (a1 : Int) (a2 : ZS) (u0 : Sm 2318336 a0) (u1 : Sm 2318336 a2) : Sd 162 [a0.row, rI a1, a2.row] [(Yu a0 a1 a2).1.row, rB (Yu a0 a1 a2).2] := by
 have f := me (Yu.eq_1 a0 a1 a2)
 refine soD func162 ntmps162 ?_
 refine cDs [] (UR a0 (sg u0)) ?_
 refine cRs (PM a0 a1) ?_
 refine cF f ?_ ?_ <;> intro k1 h1 f
 ·exact rtD [.cell 6 73, .tmp 7] f
 refine dIo mixed ?_
 have i1 : (Zm a0 a1).toNat < a0.ZD.length := by have := PA a0 a1; exact il
 simp [i1, ZI]
 refine rpS ?_
 refine cDf i1 [] (H3 (nth a0.ZD (Zm a0 a1).toNat).ZP a2 (sg (Zj.XS (Z4 (ZJ.XQ u0)))) (sg u1)) ?_
 refine tg (t := 13) (j := 1) (i := (Zm a0 a1).toNat) (c := 14) (size := 16) (rows := (a0.ZD.map Zj.row)) (ds := (Xf (nth a0.ZD (Zm a0 a1).toNat).ZP a2).1.row) (L := [(28, 0), (28, 1)]) rfl rfl rfl rfl (by simp) (by simp) (by simp; try omega) (by simp) (by simp) (by simp) (by simp) (by simp) (by simp) ?_
 simp [qh (x := (Zj.mk (nth a0.ZD (Zm a0 a1).toNat).Id (nth a0.ZD (Zm a0 a1).toNat).XI (nth a0.ZD (Zm a0 a1).toNat).Doc (nth a0.ZD (Zm a0 a1).toNat).Sig (Xf (nth a0.ZD (Zm a0 a1).toNat).ZP a2).1)) rfl, i1, ZI, Xy]
 refine rpS ?_
 exact rtD [.cell 6 73, .tmp 7] f
theorem Hq (a0 : ZG) (a1 : Int) (a2 : Int) (a3 : Zr) (u0 : Sm 2314240 a0) (u1 : 0 <= a1 /\ a1 < (a0.ZB.length : Int)) : Sd 83 [a0.row, rI a1, rI a2, a3.row] [(Xe a0 a1 a2 a3).1.row, rB (Xe a0 a1 a2 a3).2] := by
 have f := me (Xe.eq_1 a0 a1 a2 a3)
 refine soD func83 ntmps83 ?_
 refine cRs (M9 a0.Frame.Zo a3 (sg (ZW.XY (ZG.Xk u0)))) ?_
 refine dIo mixed ?_
 have i1 := ik a1.toNat a0.ZB
 simp [i1, ZI]
 refine rpS ?_
 refine cRs (Yx.rd (MG (YH a0.Frame.Zo a3).1)) ?_
 refine cDs [] (HU (nth a0.ZB a1.toNat) a2 (Yl (YH a0.Frame.Zo a3).1) (sg (Z4 (ZG.Yq u0))) (by simp (maxDischargeDepth := 12) [TA, Za (m := 2318336) (by decide) u0, Za (m := 2318336) (by decide) u1]; try omega)) ?_
 refine cDs [false, false, false, true, true, false, false, true, false, false, true, false] (ql a0 (sg u0)) ?_
 refine cFt f ?_ ?_ <;> intro k2 h1 f
 ·exact rtD [.cell 8 33, .tmp 9] f
 simp [i1, ZI]
 refine rpS ?_
 refine AG (t := 36) (j := 7) (i := a1.toNat) (size := 2) (rows := (a0.ZB.map ZJ.row)) (ds := (Yu (nth a0.ZB a1.toNat) a2 (Yl (YH a0.Frame.Zo a3).1)).1.row) (L := [(32, 1)]) ?_
 simp [qh (x := (Yu (nth a0.ZB a1.toNat) a2 (Yl (YH a0.Frame.Zo a3).1)).1) rfl, i1, ZI, Xy]
 refine rpS ?_
 exact rtD [.cell 8 33, .tmp 9] f
theorem Qo {a b : Prop} (h : b) (k : a := by (intros; first | omega | with_unfolding_all (first | first | omega | (have z := xp a0 a1 (by simp_all); (try simp at *); omega)) | (simp_all; done) | (simp_all; omega) | grind | ((try simp only [X9, show ∀ x, IntKind.i64.wrap x = W x from fun _ => rfl] at *); omega))) : a /\ b := ⟨k, h⟩
theorem H7 (a0 : ZG) (a1 : Int) (a2 : Int) (u0 : Sm 2310144 a0) : Sd 23 [a0.row, rI a1, rI a2] [(Yj a0 a1 a2).1.row, rB (Yj a0 a1 a2).2] := by
 have f := me (Yj.eq_1 a0 a1 a2)
 refine soD func23 ntmps23 ?_
 refine cRs (DT a0 a1) ?_
 refine dIs mixed ?_
 refine gIo ?_ ?_ <;> intro G
 ·have nM := G
  have g1 := G; try simp at g1
  have i1 : (Yd a0 a1).2.1.toNat < a0.ZZ.length := by first | omega | (have z := xp a0 a1 (by simp_all); (try simp at *); omega)
  simp [i1, ZI, G]
  repeat with_reducible refine Qo ?_
  refine cGo (fun gg => (PB a0.Frame (nth a0.ZZ (Yd a0 a1).2.1.toNat).Z6)) ?_
  simp [G]
  repeat with_reducible refine Qo ?_
  refine cKo f ?_ ?_ <;> intro k2 h1 f
  ·simp [G]
   repeat with_reducible refine Qo ?_
   refine cD [false, false, false, true, true, false, false, true, false, false, true, false] (ql a0 (sg u0)) ?_
   simp [G]
   repeat with_reducible refine Qo ?_
   exact SO [.cell 6 33, .tmp 7] f
  ·simp [G]
   repeat with_reducible refine Qo ?_
   refine dIo mixed ?_
   simp [i1, ZI, G]
   repeat with_reducible refine Qo ?_
   refine cD [false, false, false, true, true, false, false, true, false, false, true, false] (Hq a0 (Yd a0 a1).1 a1 (Zr.mk (nth a0.ZZ (Yd a0 a1).2.1.toNat).Zn a2 (-1) (nth a0.ZZ (Yd a0 a1).2.1.toNat).Z6 0) (sg u0) (by (have z := xp a0 a1 (by simp_all); (try simp at *); omega))) ?_
   simp [G]
   repeat with_reducible refine Qo ?_
   exact SO [.cell 6 33, .tmp 7] f
 ·have nM := G
  simp [G]
  repeat with_reducible refine Qo ?_
  refine sGo ?_
  simp [G]
  repeat with_reducible refine Qo ?_
  refine cKo f ?_ ?_ <;> intro k4 h2 f
  ·simp [G]
   repeat with_reducible refine Qo ?_
   refine cD [false, false, false, true, true, false, false, true, false, false, true, false] (ql a0 (sg u0)) ?_
   simp [G]
   repeat with_reducible refine Qo ?_
   exact SO [.cell 6 33, .tmp 7] f
  ·simp [G] at h2
theorem NY (a0 : ZW) (a1 : ZW) : Sa 68 [a0.row, a1.row] [rB (zP a0 a1)] := by
 have f := me (zP.eq_1 a0 a1)
 refine so func68 ntmps68 ?_
 refine cF f ?_ ?_ <;> intro k1 h1 f
 ·exact rt [.tmp 4] f
 refine okL fun k2 => ?_
 refine lp1 (yo.eq_2 a0 a1) (fun J => Y5 101 [eX 2 (a0.row.map .d), eX 3 (a1.row.map .d), eI 49 (a0.Zo.length : Int), eI 50 (J : Int)]) (fun n1 J => a0.Zo.length < n1 + J /\ J <= a0.Zo.length) (a0.Zo.length + 1) 0 (fun p1 J e1 j1 => ?_)
 refine cF e1 ?_ ?_ <;> intro k3 h2 e1
 ·have i1 := ix h2
  have m2 := ml a0.Zo (k2 9 _ rfl)
  have w1 := wr J
  refine dIo mixed ?_
  have i2 := ik J a1.Zo
  simp [i1, ZI, i2]
  refine rpS ?_
  refine cF e1 ?_ ?_ <;> intro k5 h3 e1
  ·have f := ms f e1
   exact rt [.tmp 4] f
  exact ny1 w1 e1
 have f := ms f e1
 refine okL fun k6 => ?_
 refine lp1 (yu.eq_2 a0 a1) (fun pR => Y5 101 [eX 2 (a0.row.map .d), eX 3 (a1.row.map .d), eI 67 (a0.ZC.length : Int), eI 68 (pR : Int)]) (fun n2 pR => a0.ZC.length < n2 + pR /\ pR <= a0.ZC.length) (a0.ZC.length + 1) 0 (fun p2 pR e2 j2 => ?_)
 refine cF e2 ?_ ?_ <;> intro k7 h4 e2
 ·have i3 := ix h4
  have m4 := ml a0.ZC (k6 66 _ rfl)
  have w2 := wr pR
  refine dIo mixed ?_
  have i4 := ik pR a1.ZC
  simp [i3, ZI, i4]
  refine rpS ?_
  refine cF e2 ?_ ?_ <;> intro k9 h5 e2
  ·have f := ms f e2
   exact rt [.tmp 4] f
  exact ny1 w2 e2
 have f := ms f e2
 refine okL fun fy => ?_
 refine lp1 (yi.eq_2 a0 a1) (fun pn => Y5 101 [eX 2 (a0.row.map .d), eX 3 (a1.row.map .d), eI 85 (a0.Methods.length : Int), eI 86 (pn : Int)]) (fun n3 pn => a0.Methods.length < n3 + pn /\ pn <= a0.Methods.length) (a0.Methods.length + 1) 0 (fun p3 pn e3 j3 => ?_)
 refine cF e3 ?_ ?_ <;> intro fz h6 e3
 ·have i5 := ix h6
  have m6 := ml a0.Methods (fy 84 _ rfl)
  have w3 := wr pn
  refine dIo mixed ?_
  have i6 := ik pn a1.Methods
  simp [i5, ZI, i6]
  refine rpS ?_
  refine cF e3 ?_ ?_ <;> intro ek h7 e3
  ·have f := ms f e3
   exact rt [.tmp 4] f
  exact ny1 w3 e3
 have f := ms f e3
 exact rt [.tmp 4] f
theorem Oa (a0 : List ByteArray) (a1 : List ByteArray) : Sa 294 [rL 1 sR a0, rL 1 sR a1] [rB (xe a0 a1)] := by
 have f := me (xe.eq_1 a0 a1)
 refine so func294 ntmps294 ?_
 refine cF f ?_ ?_ <;> intro k1 h1 f
 ·exact rt [.tmp 4] f
 refine lp1 (zm.eq_2 a0 a1) (fun J => Y5 26 [eL 0 1 a0 sR, eL 1 1 a1 sR, eI 12 (a0.length : Int), eI 13 (J : Int)]) (fun n1 J => a0.length < n1 + J /\ J <= a0.length) (a0.length + 1) 0 (fun p1 J e1 j1 => ?_)
 refine cF e1 ?_ ?_ <;> intro k3 h2 e1
 ·have i1 := ix h2
  have m2 := ml a0 (k3 0 _ rfl)
  have w1 := wr J
  refine dIo mixed ?_
  have i2 := ik J a1
  simp [i1, ZI, i2]
  refine rpS ?_
  refine cF e1 ?_ ?_ <;> intro k5 h3 e1
  ·have f := ms f e1
   exact rt [.tmp 4] f
  exact ny1 w1 e1
 have f := ms f e1
 exact rt [.tmp 4] f
theorem Rw (a0 : Ze) (a1 : Ze) : Sa 223 [a0.row, a1.row] [rB (Jh a0 a1)] := by
 have f := me (Jh.eq_1 a0 a1)
 refine so func223 ntmps223 ?_
 refine cGs (fun gg => (Oa a0.XJ a1.XJ)) ?_
 refine cGs (fun gg => (zo a0.Qs a1.Qs)) ?_
 exact rt [.tmp 4] f
theorem Sx (a0 : List ZS) (a1 : List ZS) : Sa 295 [rL 3 ZS.row a0, rL 3 ZS.row a1] [rB (zE a0 a1)] := by
 have f := me (zE.eq_1 a0 a1)
 refine so func295 ntmps295 ?_
 refine cF f ?_ ?_ <;> intro k1 h1 f
 ·exact rt [.tmp 4] f
 refine lp1 (KH.eq_2 a0 a1) (fun J => Y5 27 [eL 0 3 a0 ZS.row, eL 1 3 a1 ZS.row, eI 12 (a0.length : Int), eI 13 (J : Int)]) (fun n1 J => a0.length < n1 + J /\ J <= a0.length) (a0.length + 1) 0 (fun p1 J e1 j1 => ?_)
 refine cF e1 ?_ ?_ <;> intro k3 h2 e1
 ·have i1 := ix h2
  have m2 := ml a0 (k3 0 _ rfl)
  have w1 := wr J
  refine dIo mixed ?_
  have i2 := ik J a1
  simp [i1, ZI, i2]
  refine rpS ?_
  refine cRs (kU (nth a0 J) (nth a1 J)) ?_
  refine cF e1 ?_ ?_ <;> intro k5 h3 e1
  ·have f := ms f e1
   exact rt [.tmp 4] f
  exact ny1 w1 e1
 have f := ms f e1
 exact rt [.tmp 4] f
theorem N5 (a0 : List Zf) (a1 : List Zf) : Sa 333 [rL 5 Zf.row a0, rL 5 Zf.row a1] [rB (qY a0 a1)] := by
 have f := me (qY.eq_1 a0 a1)
 refine so func333 ntmps333 ?_
 refine cF f ?_ ?_ <;> intro k1 h1 f
 ·exact rt [.tmp 4] f
 refine lp1 (yn.eq_2 a0 a1) (fun J => Y5 26 [eL 0 5 a0 Zf.row, eL 1 5 a1 Zf.row, eI 12 (a0.length : Int), eI 13 (J : Int)]) (fun n1 J => a0.length < n1 + J /\ J <= a0.length) (a0.length + 1) 0 (fun p1 J e1 j1 => ?_)
 refine cF e1 ?_ ?_ <;> intro k3 h2 e1
 ·have i1 := ix h2
  have m2 := ml a0 (k3 0 _ rfl)
  have w1 := wr J
  refine dIo mixed ?_
  have i2 := ik J a1
  simp [i1, ZI, i2]
  refine rpS ?_
  refine cF e1 ?_ ?_ <;> intro k5 h3 e1
  ·have f := ms f e1
   exact rt [.tmp 4] f
  exact ny1 w1 e1
 have f := ms f e1
 exact rt [.tmp 4] f
theorem Pj (a0 : ZV) (a1 : ZV) : Sa 296 [a0.row, a1.row] [rB (Qw a0 a1)] := by
 have f := me (Qw.eq_1 a0 a1)
 refine so func296 ntmps296 ?_
 refine cF f ?_ ?_ <;> intro k1 h1 f
 ·exact rt [.tmp 4] f
 refine okL fun k2 => ?_
 refine lp1 (zO.eq_2 a0 a1) (fun J => Y5 57 [eX 2 (a0.row.map .d), eX 3 (a1.row.map .d), eI 36 (a0.Path.length : Int), eI 37 (J : Int)]) (fun n1 J => a0.Path.length < n1 + J /\ J <= a0.Path.length) (a0.Path.length + 1) 0 (fun p1 J e1 j1 => ?_)
 refine cF e1 ?_ ?_ <;> intro k3 h2 e1
 ·have i1 := ix h2
  have m2 := ml a0.Path (k2 35 _ rfl)
  have w1 := wr J
  refine dIo mixed ?_
  have i2 := ik J a1.Path
  simp [i1, ZI, i2]
  refine rpS ?_
  refine cF e1 ?_ ?_ <;> intro k5 h3 e1
  ·have f := ms f e1
   exact rt [.tmp 4] f
  exact ny1 w1 e1
 have f := ms f e1
 refine cRs (N5 a0.YI a1.YI) ?_
 exact rt [.tmp 4] f
theorem OK (a0 : ZQ) (a1 : ZQ) : Sa 224 [a0.row, a1.row] [rB (Kq a0 a1)] := by
 have f := me (Kq.eq_1 a0 a1)
 refine so func224 ntmps224 ?_
 refine cRs (Sx a0.ZM a1.ZM) ?_
 refine cF f ?_ ?_ <;> intro k1 h1 f
 ·exact rt [.tmp 4] f
 refine okL fun k2 => ?_
 refine lp1 (zu.eq_2 a0 a1) (fun J => Y5 40 [eX 2 (a0.row.map .d), eX 3 (a1.row.map .d), eI 23 (a0.ZR.length : Int), eI 24 (J : Int)]) (fun n1 J => a0.ZR.length < n1 + J /\ J <= a0.ZR.length) (a0.ZR.length + 1) 0 (fun p1 J e1 j1 => ?_)
 refine cF e1 ?_ ?_ <;> intro k3 h2 e1
 ·have i1 := ix h2
  have m2 := ml a0.ZR (k2 22 _ rfl)
  have w1 := wr J
  refine dIo mixed ?_
  have i2 := ik J a1.ZR
  simp [i1, ZI, i2]
  refine rpS ?_
  refine cRs (Pj (nth a0.ZR J) (nth a1.ZR J)) ?_
  refine cF e1 ?_ ?_ <;> intro k5 h3 e1
  ·have f := ms f e1
   exact rt [.tmp 4] f
  exact ny1 w1 e1
 have f := ms f e1
 exact rt [.tmp 4] f
theorem LZ (a0 : Zj) (a1 : Zj) : Sa 153 [a0.row, a1.row] [rB (KP a0 a1)] := by
 have f := me (KP.eq_1 a0 a1)
 refine so func153 ntmps153 ?_
 refine cGs (fun gg => (Rw a0.Doc a1.Doc)) ?_
 refine cGs (fun gg => (OK a0.ZP a1.ZP)) ?_
 exact rt [.tmp 4] f
theorem Px (a0 : ZJ) (a1 : ZJ) : Sa 70 [a0.row, a1.row] [rB (Qx a0 a1)] := by
 have f := me (Qx.eq_1 a0 a1)
 refine so func70 ntmps70 ?_
 refine cF f ?_ ?_ <;> intro k1 h1 f
 ·exact rt [.tmp 4] f
 refine okL fun k2 => ?_
 refine lp1 (zJ.eq_2 a0 a1) (fun J => Y5 39 [eX 2 (a0.row.map .d), eX 3 (a1.row.map .d), eI 22 (a0.ZD.length : Int), eI 23 (J : Int)]) (fun n1 J => a0.ZD.length < n1 + J /\ J <= a0.ZD.length) (a0.ZD.length + 1) 0 (fun p1 J e1 j1 => ?_)
 refine cF e1 ?_ ?_ <;> intro k3 h2 e1
 ·have i1 := ix h2
  have m2 := ml a0.ZD (k2 21 _ rfl)
  have w1 := wr J
  refine dIo mixed ?_
  have i2 := ik J a1.ZD
  simp [i1, ZI, i2]
  refine rpS ?_
  refine cRs (LZ (nth a0.ZD J) (nth a1.ZD J)) ?_
  refine cF e1 ?_ ?_ <;> intro k5 h3 e1
  ·have f := ms f e1
   exact rt [.tmp 4] f
  exact ny1 w1 e1
 have f := ms f e1
 exact rt [.tmp 4] f
theorem TB (a0 : ZG) (a1 : ZG) : Sa 16 [a0.row, a1.row] [rB (JF a0 a1)] := by
 have f := me (JF.eq_1 a0 a1)
 refine so func16 ntmps16 ?_
 refine cRs (NY a0.Frame a1.Frame) ?_
 refine cGs (fun gg => (zo a0.YQ a1.YQ)) ?_
 refine cGs (fun gg => (zo a0.YZ a1.YZ)) ?_
 refine cGs (fun gg => (zo a0.YR a1.YR)) ?_
 refine cGs (fun gg => (zo a0.YK a1.YK)) ?_
 refine cF f ?_ ?_ <;> intro k1 h1 f
 ·exact rt [.tmp 4] f
 refine okL fun k2 => ?_
 refine lp1 (yp.eq_2 a0 a1) (fun J => Y5 107 [eX 2 (a0.row.map .d), eX 3 (a1.row.map .d), eI 72 (a0.ZZ.length : Int), eI 73 (J : Int)]) (fun n1 J => a0.ZZ.length < n1 + J /\ J <= a0.ZZ.length) (a0.ZZ.length + 1) 0 (fun p1 J e1 j1 => ?_)
 refine cF e1 ?_ ?_ <;> intro k3 h2 e1
 ·have i1 := ix h2
  have m2 := ml a0.ZZ (k2 71 _ rfl)
  have w1 := wr J
  refine dIo mixed ?_
  have i2 := ik J a1.ZZ
  simp [i1, ZI, i2]
  refine rpS ?_
  refine cF e1 ?_ ?_ <;> intro k5 h3 e1
  ·have f := ms f e1
   exact rt [.tmp 4] f
  exact ny1 w1 e1
 have f := ms f e1
 refine okL fun k6 => ?_
 refine lp1 (yj.eq_2 a0 a1) (fun pR => Y5 107 [eX 2 (a0.row.map .d), eX 3 (a1.row.map .d), eI 90 (a0.ZB.length : Int), eI 91 (pR : Int)]) (fun n2 pR => a0.ZB.length < n2 + pR /\ pR <= a0.ZB.length) (a0.ZB.length + 1) 0 (fun p2 pR e2 j2 => ?_)
 refine cF e2 ?_ ?_ <;> intro k7 h4 e2
 ·have i3 := ix h4
  have m4 := ml a0.ZB (k6 89 _ rfl)
  have w2 := wr pR
  refine dIo mixed ?_
  have i4 := ik pR a1.ZB
  simp [i3, ZI, i4]
  refine rpS ?_
  refine cRs (Px (nth a0.ZB pR) (nth a1.ZB pR)) ?_
  refine cF e2 ?_ ?_ <;> intro k9 h5 e2
  ·have f := ms f e2
   exact rt [.tmp 4] f
  exact ny1 w2 e2
 have f := ms f e2
 exact rt [.tmp 4] f
theorem NC (a0 : Zj) (u0 : Sm 2326528 a0) : Sd 86 [a0.row] [(Z2 a0).row] := by
 have f := me (Z2.eq_1 a0)
 refine soD func86 ntmps86 ?_
 refine cDs [] (Kb a0.ZP (sg (Zj.XS u0))) ?_
 refine wj (news := (([a0.ZP] : List ZQ).map ZQ.row)) (L := [(5, 0), (5, 1)]) rfl rfl rfl rfl (by simp) (by simp) (by simp) (by simp) (by simp) (by simp) ?_
 simp
 exact rtD [.cell 2 134] f
theorem LM (a0 : Ze) : Sa 173 [a0.row] [rB (zF a0)] := by
 have f := me (zF.eq_1 a0)
 refine so func173 ntmps173 ?_
 refine cRs (Z3 a0.WB 0 999) ?_
 refine cGs (fun gg => (Z3 (a0.XJ.length : Int) 1 6)) ?_
 refine cFo f ?_ ?_ <;> intro k1 h1 f
 ·have q1 := h1; try simp [Zc] at q1
  simp
  exact rt _ f
 have q1 := h1; try simp [Zc] at q1
 simp
 refine lp1 (zk.eq_2 a0) (fun J => Y5 46 [eX 1 (a0.row.map .d), eL 26 1 a0.XJ sR, eI 27 (a0.XJ.length : Int), eI 28 (J : Int)]) (fun n1 J => a0.XJ.length < n1 + J /\ J <= a0.XJ.length) (a0.XJ.length + 1) 0 (fun p1 J e1 j1 => ?_)
 refine cFf e1 ?_ ?_ <;> intro k3 h2 e1
 ·have i1 := ix h2
  have w1 := wr J
  simp [i1, ZI]
  refine rpS ?_
  refine gIf ?_ ?_ <;> intro G
  ·have i2 := ik J a0.Qs
   simp [i2, ZI, G]
   refine rpG ?_
   refine cGg (fun gg => (Z3 (nth a0.Qs J) 1 1000000000000)) ?_
   refine cKo e1 ?_ ?_ <;> intro k4 h3 e1
   ·have q3 := h3; try simp [Zc] at q3
    have f := ms f e1
    simp
    refine rpG ?_
    exact rtg _ f
   ·have q3 := h3; try simp [Zc] at q3
    simp
    refine rpG ?_
    exact ny1 (an w1 G) e1
  ·refine sGo ?_
   simp
   refine rpG ?_
   refine cKo e1 ?_ ?_ <;> intro k5 h4 e1
   ·have q4 := h4; try simp [Zc] at q4
    have f := ms f e1
    simp
    refine rpG ?_
    exact rtg _ f
   ·simp [G] at h4
 have f := ms f e1
 exact rt _ f
theorem Fo (a0 : List UInt8) (u0 : Sm 2342912 a0) : Sd 257 [rL 1 bR a0] [rL 1 iR (kJ a0)] := by
 have f := me (kJ.eq_1 a0)
 refine soD func257 ntmps257 ?_
 refine lp2 (xN.eq_2 a0) (fun J U => Y5 19 [(3, .one (.sref 3 0 0 J.length), [.arr false 1 (J.map iR)]), eL 6 1 a0 bR, eI 7 (a0.length : Int), eI 8 (U : Int)]) (fun n1 J U => a0.length < n1 + U /\ U <= a0.length /\ J.length <= 0 + 1 * U) (a0.length + 1) ([] : List Int) 0 (fun p1 J U e1 j1 => ?_) (h0 := wkS [((3, 0), none)] [])
 refine cFf e1 ?_ ?_ <;> intro k2 h1 e1
 ·have i1 := ix h1
  have m2 := ml a0 (k2 6 _ rfl)
  have c1 := sl 2342912 a0 u0
  have w1 := wr U
  simp [i1, ZI]
  refine rpS ?_
  exact nx2 e1 (hw := X1 [((3, 0), some (16, 0))] [] rfl (by simp [w1]))
 have f := ms f e1
 exact rtD [.tmp 2] f
theorem KW (a0 : Int) (a1 : List Int) (u0 : Sm 68719476736 a1) : Sa 175 [rI a0, rL 1 iR a1] [rI (Jj a0 a1)] := by
 have f := me (Jj.eq_1 a0 a1)
 have c1 := sl 68719476736 a1 u0
 refine so func175 ntmps175 ?_
 refine cRs (G9 (([7, a0] : List Int) ++ a1)) ?_
 exact rt _ f
theorem LR (a0 : Int) (a1 : ByteArray) (a2 : Int) (u0 : Sm 2326528 a1) : Sa 174 [rI a0, rS a1, rI a2] [rI (jk a0 a1 a2)] := by
 have f := me (jk.eq_1 a0 a1 a2)
 refine so func174 ntmps174 ?_
 have c1 : a1.size <= 2326528 := EG (xs u0)
 refine v9 (s := a1) rfl rfl rfl (by simp) (by simp) (by simp) (by simp) (by omega) ?_
 simp
 refine cRs (Yx.rd (Fo a1.data.toList (by simp [Xo]; first | omega | (simp [ByteArray.size] at *; omega)))) ?_
 refine cRs (KW a0 (([a2] : List Int) ++ (kJ a1.data.toList)) (by simp (maxDischargeDepth := 12) [Xo]; try omega)) ?_
 exact rt _ f
theorem jb (a0 : Int) (a1 : Ze) (u0 : Sm 2322432 a1) : Sa 92 [rI a0, a1.row] [rI (XC a0 a1)] := by
 have f := me (XC.eq_1 a0 a1)
 refine so func92 ntmps92 ?_
 refine cRs (LM a1) ?_
 refine cF f ?_ ?_ <;> intro k1 h1 f
 ·exact rt [.tmp 4] f
 refine lp2 (qU.eq_2 a0 a1) (fun J U => Y5 37 [eI 0 a0, eX 3 (a1.row.map .d), (5, .one (.sref 5 0 0 J.length), [.arr false 1 (J.map iR)]), eL 15 1 a1.XJ sR, eI 16 (a1.XJ.length : Int), eI 17 (U : Int)]) (fun n1 J U => a1.XJ.length < n1 + U /\ U <= a1.XJ.length /\ J.length <= 1 + 1 * U) (a1.XJ.length + 1) ([a1.WB] : List Int) 0 (fun p1 J U e1 j1 => ?_) (h0 := wkS [((5, 0), some (13, 0))] [])
 refine cFf e1 ?_ ?_ <;> intro k3 h2 e1
 ·have i1 := ix h2
  have m2 := ml a1.XJ (k3 15 _ rfl)
  have c1 := sl 2322432 a1.XJ u0
  have w1 := wr U
  have i2 : U < a1.Qs.length := by (have := Np (a := a1); first | (simp_all; done) | (simp_all; omega))
  simp [i1, ZI, i2]
  refine rpS ?_
  refine cRs (LR a0 (nth a1.XJ U) (nth a1.Qs U) (sg (Z4 (Ze.Ij u0)))) ?_
  exact nx2 e1 (hw := X1 [((5, 0), some (32, 0))] [] rfl (by simp [w1]))
 have c2 := sl 2322432 a1.XJ u0
 have f := ms f e1
 refine cRs (KW a0 J (by first | (simp (maxDischargeDepth := 12) [Xo]; omega) | (simp (maxDischargeDepth := 12) [Za (m := 68719476736) (by decide) u0]; done))) ?_
 exact rt [.tmp 4] f
theorem Tq (a0 : ZQ) (a1 : Ze) (u0 : Sm 2318336 a0) (u1 : Sm 2318336 a1) : Sd 28 [a0.row, a1.row] [rL 1 iR (Y3 a0 a1)] := by
 have f := me (Y3.eq_1 a0 a1)
 refine soD func28 ntmps28 ?_
 refine lp2 (QU.eq_2 a0 a1) (fun J U => Y5 24 [eX 3 (a1.row.map .d), (5, .one (.sref 5 0 0 J.length), [.arr false 1 (J.map iR)]), eL 9 5 a0.ZR ZV.row, eI 10 (a0.ZR.length : Int), eI 11 (U : Int)]) (fun n1 J U => a0.ZR.length < n1 + U /\ U <= a0.ZR.length /\ J.length <= 0 + 1 * U) (a0.ZR.length + 1) ([] : List Int) 0 (fun p1 J U e1 j1 => ?_) (h0 := wkS [((5, 0), none)] [])
 refine cFf e1 ?_ ?_ <;> intro k2 h1 e1
 ·have i1 := ix h1
  have m2 := ml a0.ZR (k2 9 _ rfl)
  have c1 := sl 2318336 a0.ZR (an u0 u1)
  have w1 := wr U
  simp [i1, ZI]
  refine rpS ?_
  refine cRs (jb (nth a0.ZR U).Method a1 (sg u1)) ?_
  exact nx2 e1 (hw := X1 [((5, 0), some (21, 0))] [] rfl (by simp [w1]))
 have c2 := sl 2318336 a0.ZR (an u0 u1)
 have f := ms f e1
 exact rtD [.tmp 4] f
theorem Pw {a b : Prop} (h : b) (k : a := by (intros; first | omega | with_unfolding_all (first | (first | omega | (have z := XN (Zz.QE u0); omega))) | ((try simp only [X9, show ∀ x, IntKind.i64.wrap x = W x from fun _ => rfl] at *); omega))) : a /\ b := ⟨k, h⟩
theorem Pn (a0 : Zz) (a1 : Ze) (u0 : Sm 2314240 a0) (u1 : Sm 2314240 a1) : Sd 165 [a0.row, a1.row] [rL 1 (slR 1 iR) (Y9 a0 a1)] := by
 have f := me (Y9.eq_1 a0 a1)
 refine soD func165 ntmps165 ?_
 refine lp2 (J6.eq_2 a0 a1) (fun J U => Y5 23 [eX 3 (a1.row.map .d), (5, .one (.sref 5 0 0 J.length), [.arr true 1 (J.map (slR 1 iR))]), eL 9 2 a0.Zx ZQ.row, eI 10 (a0.Zx.length : Int), eI 11 (U : Int)]) (fun n1 J U => a0.Zx.length < n1 + U /\ U <= a0.Zx.length /\ J.length <= U) (a0.Zx.length + 1) ([] : List (List Int)) 0 (fun p1 J U e1 j1 => ?_) (h0 := wkS [((5, 0), none)] [])
 try dsimp only at j1
 refine cFf e1 ?_ ?_ <;> intro k2 h1 e1
 ·have i1 := ix h1
  have m2 := ml a0.Zx (k2 9 _ rfl)
  have c1 := sl 2314240 a0.Zx (an u0 u1)
  have w1 := wr U
  simp [i1, ZI]
  repeat with_reducible refine Pw ?_
  refine cDs [false] (Tq (nth a0.Zx U) a1 (sg (Z4 (Zz.QE u0))) (sg u1)) ?_
  refine T7 ?_
  simp
  refine sE (pW := (J.map (slR 1 iR))) (news := (([(Y3 (nth a0.Zx U) a1)] : List (List Int)).map (slR 1 iR))) (l1 := [(5, 0)]) (l2 := [(18, 0)]) (size := 1) rfl rfl rfl rfl (by simp) (by simp) (by simp) (by simp) (by simp) (by simp; (first | omega | (have z := XN (Zz.QE u0); omega))) ?_
  simp
  exact nx2 e1 (hw := X1 [((5, 0), some (20, 0))] [] rfl (by simp [w1]))
 have c2 := sl 2314240 a0.Zx (an u0 u1)
 have f := ms f e1
 exact rtD [.tmp 4] f
theorem LL (a0 : Int) : Sa 292 [rI a0] [rB (jv a0)] := by
 have f := me (jv.eq_1 a0)
 refine so func292 ntmps292 ?_
 refine cRs (Z3 a0 1 2147483646) ?_
 exact rt [.tmp 2] f
theorem C8 (a0 : Yp) : Sa 217 [a0.row] [rB (Ei a0)] := by
 have f := me (Ei.eq_1 a0)
 refine so func217 ntmps217 ?_
 refine cRs (Z3 a0.Number 1 99) ?_
 refine cGs (fun gg => (Z3 a0.Kr 0 99)) ?_
 refine cGs (fun gg => (Z3 a0.Method 0 99)) ?_
 refine cGs (fun gg => (zH a0.qK)) ?_
 refine cGs (fun gg => (LL a0.jc)) ?_
 exact rt [.tmp 2] f
theorem F5 (a0 : List Yp) : Sa 143 [rL 5 Yp.row a0] [rB (N0 a0)] := by
 have f := me (N0.eq_1 a0)
 refine so func143 ntmps143 ?_
 refine lp1 (SK.eq_2 a0) (fun J => Y5 34 [eL 0 5 a0 Yp.row, eL 5 5 a0 Yp.row, eI 6 (a0.length : Int), eI 7 (J : Int)]) (fun n1 J => a0.length < n1 + J /\ J <= a0.length) (a0.length + 1) 0 (fun p1 J e1 j1 => ?_)
 refine cFf e1 ?_ ?_ <;> intro k2 h1 e1
 ·have i1 := ix h1
  have m2 := ml a0 (k2 0 _ rfl)
  have w1 := wr J
  simp [i1, ZI]
  refine rpS ?_
  refine dIs mixed ?_
  refine cRs (C8 (nth a0 J)) ?_
  refine gIf ?_ ?_ <;> intro G
  ·have i2 := ik (J - 1) a0
   have w2 : IntKind.i64.wrap ((J : Int) - 1) = (J : Int) - 1 := XA (by omega) (by omega)
   simp [i2, ZI, w2, zZ, G]
   refine rpG ?_
   refine cK e1 ?_ ?_ <;> intro k4 h2 e1
   ·have f := ms f e1
    exact rtg [.tmp 2] f
   ·exact ny1 (an w1 (an w2 G)) e1
  ·refine cK e1 ?_ ?_ <;> intro k5 h3 e1
   ·have f := ms f e1
    exact rtg [.tmp 2] f
   ·exact ny1 (an w1 G) e1
 have f := ms f e1
 exact rt [.tmp 2] f
theorem Rt (a0 : List Zg) : Sa 144 [rL 3 Zg.row a0] [rB (kF a0)] := by
 have f := me (kF.eq_1 a0)
 refine so func144 ntmps144 ?_
 refine lp1 (qy.eq_2 a0) (fun J => Y5 47 [eL 0 3 a0 Zg.row, eL 5 3 a0 Zg.row, eI 6 (a0.length : Int), eI 7 (J : Int)]) (fun n1 J => a0.length < n1 + J /\ J <= a0.length) (a0.length + 1) 0 (fun p1 J e1 j1 => ?_)
 refine cFf e1 ?_ ?_ <;> intro k2 h1 e1
 ·have i1 := ix h1
  have m2 := ml a0 (k2 0 _ rfl)
  have w1 := wr J
  simp [i1, ZI]
  refine rpS ?_
  refine dIs mixed ?_
  refine cRs (Z3 (nth a0 J).Id 0 99) ?_
  refine cGs (fun gg => (Z3 (nth a0 J).Key 1 99)) ?_
  refine cGs (fun gg => (Z3 (nth a0 J).Error 0 100)) ?_
  refine gIf ?_ ?_ <;> intro G
  ·have i2 := ik (J - 1) a0
   have w2 : IntKind.i64.wrap ((J : Int) - 1) = (J : Int) - 1 := XA (by omega) (by omega)
   simp [i2, ZI, w2, zZ, G]
   refine rpG ?_
   refine cKo e1 ?_ ?_ <;> intro k4 h2 e1
   ·have q2 := h2; try simp [Zc] at q2
    have f := ms f e1
    simp [G]
    refine rpG ?_
    exact rtg [.tmp 2] f
   ·have q2 := h2; try simp [Zc] at q2
    simp [G]
    refine rpG ?_
    exact ny1 (an w1 (an w2 G)) e1
  ·refine cKo e1 ?_ ?_ <;> intro k5 h3 e1
   ·have q3 := h3; try simp [Zc] at q3
    have f := ms f e1
    simp [G]
    refine rpG ?_
    exact rtg [.tmp 2] f
   ·have q3 := h3; try simp [Zc] at q3
    simp [G]
    refine rpG ?_
    exact ny1 (an w1 G) e1
 have f := ms f e1
 exact rt [.tmp 2] f
theorem GU (a0 : Z5) : Sa 218 [a0.row] [rB (Pc a0)] := by
 have f := me (Pc.eq_1 a0)
 refine so func218 ntmps218 ?_
 refine cRs (Z3 a0.Id 0 99) ?_
 refine cGs (fun gg => (zH a0.Vp)) ?_
 refine cGs (fun gg => (Z3 a0.Ends 1 10001)) ?_
 refine cGs (fun gg => (Z3 a0.jO 1 10001)) ?_
 exact rt [.tmp 2] f
theorem M4 (a0 : List Z5) : Sa 145 [rL 4 Z5.row a0] [rB (Tn a0)] := by
 have f := me (Tn.eq_1 a0)
 refine so func145 ntmps145 ?_
 refine lp1 (VG.eq_2 a0) (fun J => Y5 34 [eL 0 4 a0 Z5.row, eL 5 4 a0 Z5.row, eI 6 (a0.length : Int), eI 7 (J : Int)]) (fun n1 J => a0.length < n1 + J /\ J <= a0.length) (a0.length + 1) 0 (fun p1 J e1 j1 => ?_)
 refine cFf e1 ?_ ?_ <;> intro k2 h1 e1
 ·have i1 := ix h1
  have m2 := ml a0 (k2 0 _ rfl)
  have w1 := wr J
  simp [i1, ZI]
  refine rpS ?_
  refine dIs mixed ?_
  refine cRs (GU (nth a0 J)) ?_
  refine gIf ?_ ?_ <;> intro G
  ·have i2 := ik (J - 1) a0
   have w2 : IntKind.i64.wrap ((J : Int) - 1) = (J : Int) - 1 := XA (by omega) (by omega)
   simp [i2, ZI, w2, zZ, G]
   refine rpG ?_
   refine cK e1 ?_ ?_ <;> intro k4 h2 e1
   ·have f := ms f e1
    exact rtg [.tmp 2] f
   ·exact ny1 (an w1 (an w2 G)) e1
  ·refine cK e1 ?_ ?_ <;> intro k5 h3 e1
   ·have f := ms f e1
    exact rtg [.tmp 2] f
   ·exact ny1 (an w1 G) e1
 have f := ms f e1
 exact rt [.tmp 2] f
theorem EZ (a0 : ZW) : Sa 60 [a0.row] [rB (JQ a0)] := by
 have f := me (JQ.eq_1 a0)
 refine so func60 ntmps60 ?_
 refine cRs (F5 a0.Zo) ?_
 refine cGs (fun gg => (Rt a0.ZC)) ?_
 refine cGs (fun gg => (M4 a0.Methods)) ?_
 refine cGs (fun gg => (Z3 a0.X8 0 6)) ?_
 refine cGs (fun gg => (zH a0.Now)) ?_
 exact rt [.tmp 2] f
theorem W1 (a0 : Int) : Sa 239 [rI a0] [(Sq a0).row] := by
 have f := me (Sq.eq_1 a0)
 refine so func239 ntmps239 ?_
 exact rt [.cell 2 61] f
theorem Ut (a0 : Zq) : Sa 240 [a0.row] [rB (zc a0)] := by
 have f := me (zc.eq_1 a0)
 refine so func240 ntmps240 ?_
 refine cRs (Z3 a0.Key 1 99) ?_
 refine cGs (fun gg => (Z3 a0.Zn 1 999)) ?_
 refine cGs (fun gg => (Z3 a0.Method 0 99)) ?_
 refine cGs (fun gg => (Z3 a0.Org 0 99)) ?_
 refine cGs (fun gg => (Z3 a0.xU 1 3)) ?_
 refine cGs (fun gg => (Z3 a0.Yt 0 1000000000000)) ?_
 refine cGs (fun gg => (Z3 a0.xQ 0 1000000000000)) ?_
 refine cGs (fun gg => (Z3 a0.qX 0 1000000000000)) ?_
 exact rt _ f
theorem Tj (a0 : Int) : Sa 241 [rI a0] [(Uz a0).row] := by
 have f := me (Uz.eq_1 a0)
 refine so func241 ntmps241 ?_
 exact rt [.cell 2 61] f
theorem VQ (a0 : Zq) : Sd 293 [a0.row] [rL 1 iR (Xu a0)] := by
 have f := me (Xu.eq_1 a0)
 refine soD func293 ntmps293 ?_
 exact rtD [.tmp 2] f
theorem JM (a0 : List Yp) (a1 : Int) (a2 : List Int) (a3 : Int) (u0 : Sm 2318336 a0) (u1 : Sm 2318336 a2) : Sa 148 [rL 5 Yp.row a0, rI a1, rL 1 iR a2, rI a3] [rB (J2 a0 a1 a2 a3)] := by
 have f := me (J2.eq_1 a0 a1 a2 a3)
 refine so func148 ntmps148 ?_
 refine cRs (Sp a0 a1 a2 (sg u0) (sg u1)) ?_
 exact rt [.tmp 8] f
theorem Rp (a0 : List Yp) (a1 : Zq) (u0 : Sm 2314240 a0) : Sa 242 [rL 5 Yp.row a0, a1.row] [rB (kV a0 a1)] := by
 have f := me (kV.eq_1 a0 a1)
 refine so func242 ntmps242 ?_
 refine dIs mixed ?_
 refine cRs (Ut a1) ?_
 refine cGs (fun gg => Yx.rd (VQ a1)) ?_
 refine cGs (fun gg => (JM a0 a1.Key (Xu a1) a1.Mark (sg u0) (by simp (maxDischargeDepth := 12) [VM, Za (m := 2318336) (by decide) u0]; try omega))) ?_
 exact rt [.tmp 4] f
theorem Lv (a0 : Zq) : Sd 222 [a0.row] [(Y6 a0).row] := by
 have f := me (Y6.eq_1 a0)
 refine soD func222 ntmps222 ?_
 refine dIs mixed ?_
 refine cDs [false] (VQ a0) ?_
 exact rtD _ f
theorem IF (a0 : ZQ) (a1 : ZS) : Sa 336 [a0.row, a1.row] [rI (QD a0 a1)] := by
 have f := me (QD.eq_1 a0 a1)
 refine so func336 ntmps336 ?_
 refine lp1 (KX.eq_2 a0 a1) (fun J => Y5 20 [eX 3 (a1.row.map .d), eL 8 3 a0.ZM ZS.row, eI 9 (a0.ZM.length : Int), eI 10 (J : Int)]) (fun n1 J => a0.ZM.length < n1 + J /\ J <= a0.ZM.length) (a0.ZM.length + 1) 0 (fun p1 J e1 j1 => ?_)
 refine cFf e1 ?_ ?_ <;> intro k2 h1 e1
 ·have i1 := ix h1
  have m2 := ml a0.ZM (k2 8 _ rfl)
  have w1 := wr J
  simp [i1, ZI]
  refine rpS ?_
  refine cRs (kU (nth a0.ZM J) a1) ?_
  refine cF e1 ?_ ?_ <;> intro k3 h2 e1
  ·have f := ms f e1
   exact rt [.tmp 4] f
  exact ny1 w1 e1
 have f := ms f e1
 exact rt [.tmp 4] f
theorem qt (a0 : List Zg) (a1 : Int) : Sa 67 [rL 3 Zg.row a0, rI a1] [rI (ZY a0 a1)] := by
 have f := me (ZY.eq_1 a0 a1)
 refine so func67 ntmps67 ?_
 refine lp1 (JP.eq_2 a0 a1) (fun J => Y5 20 [eI 1 a1, eL 7 3 a0 Zg.row, eI 8 (a0.length : Int), eI 9 (J : Int)]) (fun n1 J => a0.length < n1 + J /\ J <= a0.length) (a0.length + 1) 0 (fun p1 J e1 j1 => ?_)
 refine cFf e1 ?_ ?_ <;> intro k2 h1 e1
 ·have i1 := ix h1
  have m2 := ml a0 (k2 7 _ rfl)
  have w1 := wr J
  simp [i1, ZI]
  refine rpS ?_
  refine cF e1 ?_ ?_ <;> intro k3 h2 e1
  ·have f := ms f e1
   exact rt [.tmp 4] f
  exact ny1 w1 e1
 have f := ms f e1
 exact rt [.tmp 4] f
theorem J5 (a0 : Zl) : Sa 219 [a0.row] [rB (Ko a0)] := by
 have f := me (Ko.eq_1 a0)
 refine so func219 ntmps219 ?_
 refine cRs (zH a0.X0) ?_
 refine cGs (fun gg => (zH a0.To)) ?_
 exact rt [.tmp 2] f
theorem R1 (a0 : Int) (a1 : Int) : Sa 326 [rI a0, rI a1] [(yX a0 a1).1.row, rB (yX a0 a1).2] := by
 have f := me (yX.eq_1 a0 a1)
 refine so func326 ntmps326 ?_
 refine cGs (fun gg => (J5 (Zl.mk (if 0 > a0 then 0 else a0) (if 10000 < a1 then 10000 else a1)))) ?_
 refine cF f ?_ ?_ <;> intro k1 h1 f
 ·exact rt [.cell 4 59, .tmp 5] f
 exact rt [.cell 4 59, .tmp 5] f
theorem Ig (a0 : List Zg) (a1 : Zf) : Sa 279 [rL 3 Zg.row a0, a1.row] [(zM a0 a1).1.row, rB (zM a0 a1).2] := by
 have f := me (zM.eq_1 a0 a1)
 refine so func279 ntmps279 ?_
 refine cRs (qt a0 a1.Authority) ?_
 refine gIf ?_ ?_ <;> intro G
 ·have i1 : (ZY a0 a1.Authority).toNat < a0.length := by have := qn a0 a1.Authority; exact il
  simp [i1, ZI, G]
  refine rpG ?_
  refine cGg (fun gg => (zH a1.Time)) ?_
  refine cK f ?_ ?_ <;> intro k1 h1 f
  ·exact rtg [.cell 4 59, .tmp 5] f
  ·refine dIo mixed ?_
   simp [i1, ZI, G]
   refine rpG ?_
   refine cRg (R1 (W (a1.Time - (nth a0 (ZY a0 a1.Authority).toNat).Error)) (W (a1.Time + (nth a0 (ZY a0 a1.Authority).toNat).Error))) ?_
   exact rtg [.cell 4 59, .tmp 5] f
 ·refine cGg (fun gg => (zH a1.Time)) ?_
  refine cK f ?_ ?_ <;> intro k3 h2 f
  ·exact rtg [.cell 4 59, .tmp 5] f
  ·simp [G] at h2
theorem EC (a0 : List Zl) (a1 : Int) : Sa 347 [rL 2 Zl.row a0, rI a1] [rI (MI a0 a1)] := by
 have f := me (MI.eq_1 a0 a1)
 refine so func347 ntmps347 ?_
 refine lp2 (UP.eq_2 a0 a1) (fun J U => Y5 28 [eI 1 a1, eI 5 J, eL 8 2 a0 Zl.row, eI 9 (a0.length : Int), eI 10 (U : Int)]) (fun n1 J U => a0.length < n1 + U /\ U <= a0.length) (a0.length + 1) 0 0 (fun p1 J U e1 j1 => ?_)
 refine cFf e1 ?_ ?_ <;> intro k2 h1 e1
 ·have i1 := ix h1
  have m2 := ml a0 (k2 8 _ rfl)
  have w1 := wr U
  simp [i1, ZI]
  refine rpS ?_
  refine cRs (J5 (nth a0 U)) ?_
  refine cGs (fun gg => (Z3 a1 (nth a0 U).X0 (nth a0 U).To)) ?_
  refine cFo e1 ?_ ?_ <;> intro k3 h2 e1
  ·have q2 := h2; try simp [Zc] at q2
   simp
   exact ny2 w1 e1
  have q2 := h2; try simp [Zc] at q2
  simp
  exact ny2 w1 e1
 have f := ms f e1
 exact rt [.tmp 4] f
theorem ME (a0 : List Zl) (a1 : Int) (a2 : Int) : Sa 327 [rL 2 Zl.row a0, rI a1, rI a2] [rB (qS a0 a1 a2)] := by
 have f := me (qS.eq_1 a0 a1 a2)
 refine so func327 ntmps327 ?_
 refine cRs (Z3 a2 0 (W ((a0.length : Int) - 1))) ?_
 refine cGs (fun gg => (EC a0 a1)) ?_
 exact rt [.tmp 6] f
theorem LD (a0 : List Zl) (a1 : Int) : Sa 280 [rL 2 Zl.row a0, rI a1] [(yU a0 a1).1.row, rB (yU a0 a1).2] := by
 have f := me (yU.eq_1 a0 a1)
 refine so func280 ntmps280 ?_
 refine lp4 (Ju.eq_2 a0 a1) (fun J U pO pQ => Y5 25 [eL 0 2 a0 Zl.row, eI 1 a1, (4, .one (.bptr 4 0), [.box [.d (.int .i64 0), .d (.int .i64 0)]]), (6, .one (.bptr 6 0), [.box [.d (.int .i64 pO), .d (.int .i64 pQ)]]), eB 7 J, eI 8 (U : Int)]) (fun n1 J U pO pQ => 10001 < n1 + U) 10002 false 0 0 0 (fun p1 J U pO pQ e1 j1 => ?_)
 refine cF e1 ?_ ?_ <;> intro k2 h1 e1
 ·have w1 := wr U
  refine cRs (ME a0 (U : Int) a1) ?_
  refine cF e1 ?_ ?_ <;> intro k3 h2 e1
  ·refine cF e1 ?_ ?_ <;> intro k4 h3 e1
   ·exact ny4 w1 e1
   exact ny4 w1 e1
  exact ny4 w1 e1
 have f := ms f e1
 exact rt [.cell 4 59, .tmp 5] f
theorem Ue (a0 : List Zg) (a1 : List Zf) (a2 : Int) (u0 : Sm 2318336 a0) (u1 : Sm 2318336 a1) : Sa 203 [rL 3 Zg.row a0, rL 5 Zf.row a1, rI a2] [(Jg a0 a1 a2).1.row, rB (Jg a0 a1 a2).2] := by
 have f := me (Jg.eq_1 a0 a1 a2)
 refine so func203 ntmps203 ?_
 refine lp2 (yS.eq_2 a0 a1) (fun J U => Y5 38 [eL 0 3 a0 Zg.row, eI 2 a2, (6, .one (.bptr 6 0), [.box [.d (.int .i64 0), .d (.int .i64 0)]]), (8, .one (.sref 8 0 0 J.length), [.arr false 2 (J.map Zl.row)]), eL 13 5 a1 Zf.row, eI 14 (a1.length : Int), eI 15 (U : Int)]) (fun n1 J U => a1.length < n1 + U /\ U <= a1.length /\ J.length <= 0 + 1 * U) (a1.length + 1) ([] : List Zl) 0 (fun p1 J U e1 j1 => ?_) (h0 := wkS [((8, 0), none)] [])
 refine cFf e1 ?_ ?_ <;> intro k2 h1 e1
 ·have i1 := ix h1
  have m2 := ml a1 (k2 13 _ rfl)
  have c1 := sl 2318336 a1 (an u0 u1)
  have w1 := wr U
  simp [i1, ZI]
  refine rpS ?_
  refine cRs (Ig a0 (nth a1 U)) ?_
  refine cF e1 ?_ ?_ <;> intro k3 h2 e1
  ·have f := ms f e1
   exact rt [.cell 6 59, .tmp 7] f
  exact nx2 e1 (hw := X1 [((8, 0), some (31, 0))] [] rfl (by simp [w1]))
 have c2 := sl 2318336 a1 (an u0 u1)
 have f := ms f e1
 refine cRs (LD J a2) ?_
 exact rt [.cell 6 59, .tmp 7] f
theorem Ny (a0 : List Zg) (a1 : ZV) (a2 : Int) (u0 : Sm 2314240 a0) (u1 : Sm 2314240 a1) : Sa 118 [rL 3 Zg.row a0, a1.row, rI a2] [(Jq a0 a1 a2).1.row, rB (Jq a0 a1 a2).2] := by
 have f := me (Jq.eq_1 a0 a1 a2)
 refine so func118 ntmps118 ?_
 refine cRs (Ue a0 a1.YI a2 (sg u0) (sg (ZV.G1 u1))) ?_
 exact rt [.cell 6 59, .tmp 7] f
theorem jS (a0 : ZW) (a1 : ZV) (u0 : Sm 2310144 a0) (u1 : Sm 2310144 a1) : Sa 93 [a0.row, a1.row] [(JJ a0 a1).1.row, rB (JJ a0 a1).2] := by
 have f := me (JJ.eq_1 a0 a1)
 refine so func93 ntmps93 ?_
 refine cRs (Ny a0.ZC a1 a0.X8 (sg (ZW.XH u0)) (sg u1)) ?_
 exact rt [.cell 4 59, .tmp 5] f
theorem VN (a0 : Zf) : Sd 170 [a0.row] [rL 1 iR (QQ a0)] := by
 have f := me (QQ.eq_1 a0)
 refine soD func170 ntmps170 ?_
 exact rtD [.tmp 2] f
theorem Vk (a0 : Int) (a1 : ZV) (u0 : Sm 2326528 a1) : Sa 167 [rI a0, a1.row] [rI (JX a0 a1)] := by
 have f := me (JX.eq_1 a0 a1)
 refine so func167 ntmps167 ?_
 refine lp2 (J9.eq_2 a1) (fun J U => Y5 59 [eI 0 a0, eX 3 (a1.row.map .d), (5, .one (.sref 5 0 0 J.length), [.arr false 1 (J.map iR)]), eL 19 2 a1.Path Xq.row, eI 20 (a1.Path.length : Int), eI 21 (U : Int)]) (fun n1 J U => a1.Path.length < n1 + U /\ U <= a1.Path.length /\ J.length <= 4 + 2 * U) (a1.Path.length + 1) ([4, a1.Count, a1.Method, a1.H2] : List Int) 0 (fun p1 J U e1 j1 => ?_) (h0 := wkS [((5, 0), some (17, 0))] [])
 refine cFo e1 ?_ ?_ <;> intro k2 h1 e1
 ·have q1 := h1; try simp at q1
  have i1 := ix h1
  have m2 := ml a1.Path (k2 19 _ rfl)
  have c1 := sl 2326528 a1.Path u0
  have w1 := wr U
  simp [i1, ZI]
  refine rpS ?_
  refine cFo e1 ?_ ?_ <;> intro k3 h2 e1
  ·have q2 := h2; try simp at q2
   simp
   refine rpS ?_
   exact nx2 e1 (hw := X1 [((5, 0), some (32, 0))] [] rfl (by simp [w1]))
  have q2 := h2; try simp at q2
  simp
  refine rpS ?_
  exact nx2 e1 (hw := X1 [((5, 0), some (32, 0))] [] rfl (by simp [w1]))
 have q1 := h1; try simp at q1
 have c2 := sl 2326528 a1.Path u0
 have f := ms f e1
 simp
 refine rpS ?_
 refine lp2 (zA.eq_2 a1) (fun pR pT => Y5 59 [eI 0 a0, (5, .one (.sref 5 0 0 pR.length), [.arr false 1 (pR.map iR)]), eL 41 5 a1.YI Zf.row, eI 42 (a1.YI.length : Int), eI 43 (pT : Int)]) (fun n2 pR pT => a1.YI.length < n2 + pT /\ pT <= a1.YI.length /\ pR.length <= 5 + 2 * 2326528 + 6 * pT) (a1.YI.length + 1) (J ++ ([(a1.YI.length : Int)] : List Int)) 0 (fun p2 pR pT e2 j2 => ?_) (hI := by (have o : a1.Path.length <= 2326528 := XN (xs u0); simp at *; omega)) (h0 := wkS [((5, 0), some (39, 0))] [])
 try dsimp only at j2
 refine cFo e2 ?_ ?_ <;> intro k5 h3 e2
 ·have q3 := h3; try simp at q3
  have i2 := ix h3
  have m4 := ml a1.YI (k5 41 _ rfl)
  have c3 := sl 2326528 a1.YI u0
  have w2 := wr pT
  simp [i2, ZI]
  refine rpS ?_
  refine dIs mixed ?_
  refine cRs (Yx.rd (VN (nth a1.YI pT))) ?_
  exact nx2 e2 (hI := by (simp; omega)) (hw := X1 [((5, 0), some (54, 0))] [] rfl (by simp [w2]))
 have q3 := h3; try simp at q3
 have c4 := sl 2326528 a1.YI u0
 have f := ms f e2
 simp
 refine cRs (KW a0 pR (by first | (simp (maxDischargeDepth := 12) [Xo]; omega) | (simp (maxDischargeDepth := 12) [Za (m := 68719476736) (by decide) u0]; done))) ?_
 exact rt [.tmp 4] f
theorem OG (a0 : Int) (a1 : List ZS) (u0 : Sm 2326528 a1) : Sa 253 [rI a0, rL 3 ZS.row a1] [rI (zt a0 a1)] := by
 have f := me (zt.eq_1 a0 a1)
 refine so func253 ntmps253 ?_
 refine lp2 (zw.eq_2 a0 a1) (fun J U => Y5 32 [eI 0 a0, (5, .one (.sref 5 0 0 J.length), [.arr false 1 (J.map iR)]), eL 9 3 a1 ZS.row, eI 10 (a1.length : Int), eI 11 (U : Int)]) (fun n1 J U => a1.length < n1 + U /\ U <= a1.length /\ J.length <= 1 + 1 * U) (a1.length + 1) ([2] : List Int) 0 (fun p1 J U e1 j1 => ?_) (h0 := wkS [((5, 0), some (8, 0))] [])
 refine cFf e1 ?_ ?_ <;> intro k2 h1 e1
 ·have i1 := ix h1
  have m2 := ml a1 (k2 9 _ rfl)
  have c1 := sl 2326528 a1 u0
  have w1 := wr U
  have c2 := sl 2326528 (nth a1 U).YV u0
  simp [i1, ZI]
  refine rpS ?_
  refine cRs (KW a0 (([(nth a1 U).Key, (nth a1 U).Mark] : List Int) ++ (nth a1 U).YV) (by simp (maxDischargeDepth := 12) [xB, Xo, Za (m := 68719476736) (by decide) u0]; try omega)) ?_
  exact nx2 e1 (hw := X1 [((5, 0), some (27, 0))] [] rfl (by simp [w1]))
 have c3 := sl 2326528 a1 u0
 have f := ms f e1
 refine cRs (KW a0 J (by first | (simp (maxDischargeDepth := 12) [Xo]; omega) | (simp (maxDischargeDepth := 12) [Za (m := 68719476736) (by decide) u0]; done))) ?_
 exact rt [.tmp 4] f
theorem V5 (a0 : Int) (a1 : Int) (a2 : List ZS) (a3 : Int) (u0 : Sm 2322432 a2) : Sa 168 [rI a0, rI a1, rL 3 ZS.row a2, rI a3] [rI (WJ a0 a1 a2 a3)] := by
 have f := me (WJ.eq_1 a0 a1 a2 a3)
 refine so func168 ntmps168 ?_
 refine cRs (OG a0 a2 (sg u0)) ?_
 refine cRs (KW a0 ([3, a1, (zt a0 a2), a3] : List Int) (by simp (maxDischargeDepth := 12) [xB, Xo, Za (m := 68719476736) (by decide) u0]; try omega)) ?_
 exact rt [.tmp 8] f
theorem QS {a b : Prop} (h : b) (k : a := by (intros; first | omega | with_unfolding_all (first | first | omega | (have cc : a0.ZR.length <= 2318336 := XN (xs u0); have z0 := nM; simp at z0; have z := qb (by omega) z0.1; have z2 := z0.2; (try have w3 : IntKind.i64.wrap (a2 - 1) = a2 - 1 := XA (by omega) (by omega)); (try have w4 : W (a2 - 1) = a2 - 1 := w3); first | omega | (refine ⟨⟨z0.1, by omega⟩, by omega, by omega⟩) | (simp_all; omega))) | (simp_all; done) | (simp_all; omega) | grind | ((try simp only [X9, show ∀ x, IntKind.i64.wrap x = W x from fun _ => rfl] at *); omega))) : a /\ b := ⟨k, h⟩
theorem Du (a0 : ZQ) (a1 : List Int) (a2 : Int) (u0 : Sm 2318336 a0) (u1 : Sm 2318336 a1) : Sa 95 [a0.row, rL 1 iR a1, rI a2] [rI (jn a0 a1 a2)] := by
 have f := me (jn.eq_1 a0 a1 a2)
 refine so func95 ntmps95 ?_
 refine dIs mixed ?_
 refine cRs (Z3 a2 0 (W ((a0.ZR.length : Int) - 1))) ?_
 refine gIo ?_ ?_ <;> intro G
 ·have nM := G
  have c1 := sl 2318336 a0.ZR (an u0 u1)
  have w1 : IntKind.i64.wrap ((a0.ZR.length : Int) - 1) = (a0.ZR.length : Int) - 1 := XA (by omega) (by omega)
  have g1 := G; try simp [Zc, w1] at g1
  have i1 : a2.toNat < a0.ZR.length := by (have cc : a0.ZR.length <= 2318336 := XN (xs u0); have z0 := nM; simp at z0; have z := qb (by omega) z0.1; have z2 := z0.2; (try have w3 : IntKind.i64.wrap (a2 - 1) = a2 - 1 := XA (by omega) (by omega)); (try have w4 : W (a2 - 1) = a2 - 1 := w3); omega)
  simp [i1, ZI, G]
  repeat with_reducible refine QS ?_
  refine cGo (fun gg => (Z3 (nth a0.ZR a2.toNat).Count 0 (a0.ZM.length : Int))) ?_
  simp [G]
  repeat with_reducible refine QS ?_
  refine cKo f ?_ ?_ <;> intro k2 h1 f
  ·have q1 := h1; try simp [Zc, w1] at q1
   simp [G]
   repeat with_reducible refine QS ?_
   exact rtg [.tmp 6] f
  ·have q1 := h1; try simp [Zc, w1] at q1
   simp [i1, ZI, G]
   repeat with_reducible refine QS ?_
   refine cKo f ?_ ?_ <;> intro k3 h2 f
   ·simp [G]
    repeat with_reducible refine QS ?_
    refine dIo mixed ?_
    have i2 : (W (a2 - 1)).toNat < a0.ZR.length := by (have cc : a0.ZR.length <= 2318336 := XN (xs u0); have z0 := nM; simp at z0; have z := qb (by omega) z0.1; have z2 := z0.2; (try have w3 : IntKind.i64.wrap (a2 - 1) = a2 - 1 := XA (by omega) (by omega)); (try have w4 : W (a2 - 1) = a2 - 1 := w3); omega)
    simp [i2, ZI, G]
    repeat with_reducible refine QS ?_
    refine cR (Vk (nth a0.ZR a2.toNat).Method (nth a0.ZR (W (a2 - 1)).toNat) (sg (Z4 (ZQ.yq u0)))) ?_ (pe := by first | (simp; done) | (simp [W, w1]; done))
    simp [G]
    repeat with_reducible refine QS ?_
    refine dIo mixed ?_
    have i3 : a2.toNat < a1.length := by (have cc : a0.ZR.length <= 2318336 := XN (xs u0); have z0 := nM; simp at z0; have z := qb (by omega) z0.1; have z2 := z0.2; (try have w3 : IntKind.i64.wrap (a2 - 1) = a2 - 1 := XA (by omega) (by omega)); (try have w4 : W (a2 - 1) = a2 - 1 := w3); omega)
    simp [i3, ZI, G]
    repeat with_reducible refine QS ?_
    refine cR (V5 (nth a0.ZR a2.toNat).Method (nth a1 a2.toNat) (a0.ZM.take (nth a0.ZR a2.toNat).Count.toNat) (JX (nth a0.ZR a2.toNat).Method (nth a0.ZR (W (a2 - 1)).toNat)) (Za (n := 2318336) (by decide) (xs (an u0 u1)))) ?_ (pe := by first | (simp; done) | (simp [W, w1]; done))
    simp [G]
    repeat with_reducible refine QS ?_
    exact rtg [.tmp 6] f
   ·simp [G]
    repeat with_reducible refine QS ?_
    refine dIo mixed ?_
    have i4 : a2.toNat < a1.length := by (have cc : a0.ZR.length <= 2318336 := XN (xs u0); have z0 := nM; simp at z0; have z := qb (by omega) z0.1; have z2 := z0.2; (try have w3 : IntKind.i64.wrap (a2 - 1) = a2 - 1 := XA (by omega) (by omega)); (try have w4 : W (a2 - 1) = a2 - 1 := w3); omega)
    simp [i4, ZI, G]
    repeat with_reducible refine QS ?_
    refine cR (V5 (nth a0.ZR a2.toNat).Method (nth a1 a2.toNat) (a0.ZM.take (nth a0.ZR a2.toNat).Count.toNat) 0 (Za (n := 2318336) (by decide) (xs (an u0 u1)))) ?_
    simp [G]
    repeat with_reducible refine QS ?_
    exact rtg [.tmp 6] f
 ·have nM := G
  simp [G]
  repeat with_reducible refine QS ?_
  refine sGo ?_
  simp [G]
  repeat with_reducible refine QS ?_
  have c2 := sl 2318336 a0.ZR (an u0 u1)
  have w2 : IntKind.i64.wrap ((a0.ZR.length : Int) - 1) = (a0.ZR.length : Int) - 1 := XA (by omega) (by omega)
  refine cKo f ?_ ?_ <;> intro k7 h3 f
  ·have q3 := h3; try simp [Zc, w2] at q3
   simp [G]
   repeat with_reducible refine QS ?_
   exact rtg [.tmp 6] f
  ·simp [G] at h3
theorem Tr (a0 : Int) (a1 : Int) (a2 : Int) : Sa 259 [rI a0, rI a1, rI a2] [rI (yR a0 a1 a2)] := by
 have f := me (yR.eq_1 a0 a1 a2)
 refine so func259 ntmps259 ?_
 refine cRs (KW a0 ([1, a1, a2] : List Int) (by simp (maxDischargeDepth := 12) [xB, Xo]; try omega)) ?_
 exact rt [.tmp 6] f
theorem Ms (a0 : Int) (a1 : Int) (a2 : List Xq) : Sa 176 [rI a0, rI a1, rL 2 Xq.row a2] [rI (TI a0 a1 a2)] := by
 have f := me (TI.eq_1 a0 a1 a2)
 refine so func176 ntmps176 ?_
 refine lp2 (jf.eq_2 a0 a2) (fun J U => Y5 29 [eI 0 a0, eI 1 J, eL 9 2 a2 Xq.row, eI 10 (a2.length : Int), eI 11 (U : Int)]) (fun n1 J U => a2.length < n1 + U /\ U <= a2.length) (a2.length + 1) a1 0 (fun p1 J U e1 j1 => ?_)
 refine cFf e1 ?_ ?_ <;> intro k2 h1 e1
 ·have i1 := ix h1
  have m2 := ml a2 (k2 9 _ rfl)
  have w1 := wr U
  simp [i1, ZI]
  refine rpS ?_
  refine cF e1 ?_ ?_ <;> intro k3 h2 e1
  ·refine cRs (Tr a0 (nth a2 U).Yt J) ?_
   exact ny2 w1 e1
  refine cRs (Tr a0 J (nth a2 U).Yt) ?_
  exact ny2 w1 e1
 have f := ms f e1
 exact rt [.tmp 6] f
theorem yY (a0 : List Zf) : Sa 177 [rL 5 Zf.row a0] [rB (KG a0)] := by
 have f := me (KG.eq_1 a0)
 refine so func177 ntmps177 ?_
 refine lp1 (xE.eq_2 a0) (fun J => Y5 22 [eL 0 5 a0 Zf.row, eI 3 (J : Int)]) (fun n1 J => a0.length < n1 + J /\ 1 <= J) (a0.length + 1) 1 (fun p1 J e1 j1 => ?_)
 refine cF e1 ?_ ?_ <;> intro k2 h1 e1
 ·have i1 := ix h1
  have m2 := ml a0 (k2 0 _ rfl)
  have w1 := wr J
  refine dIo mixed ?_
  have i2 := ik (J - 1) a0
  have w2 : IntKind.i64.wrap ((J : Int) - 1) = (J : Int) - 1 := XA (by omega) (by omega)
  simp [i2, ZI, w2, zZ, i1]
  refine rpS ?_
  refine cF e1 ?_ ?_ <;> intro k4 h2 e1
  ·have f := ms f e1
   exact rt [.tmp 2] f
  exact ny1 (an w1 w2) e1
 have f := ms f e1
 exact rt [.tmp 2] f
theorem SE (a0 : List Yp) (a1 : List Zg) (a2 : Zf) (u0 : Sm 2318336 a0) (u1 : Sm 2318336 a1) : Sa 90 [rL 5 Yp.row a0, rL 3 Zg.row a1, a2.row] [(XD a0 a1 a2).1.row, rB (XD a0 a1 a2).2] := by
 have f := me (XD.eq_1 a0 a1 a2)
 refine so func90 ntmps90 ?_
 refine cRs (qt a1 a2.Authority) ?_
 refine cGs (fun gg => (zH a2.Time)) ?_
 refine cF f ?_ ?_ <;> intro k1 h1 f
 ·exact rt [.cell 6 142, .tmp 7] f
 refine dIo mixed ?_
 have i1 : (ZY a1 a2.Authority).toNat < a1.length := by have := qn a1 a2.Authority; exact il
 simp [i1, ZI]
 refine rpS ?_
 refine cRs (Yx.rd (VN a2)) ?_
 refine cRs (Sp a0 (nth a1 (ZY a1 a2.Authority).toNat).Key (QQ a2) (sg u0) (by simp (maxDischargeDepth := 12) [HD, Za (m := 2322432) (by decide) u0, Za (m := 2322432) (by decide) u1]; try omega)) ?_
 refine cF f ?_ ?_ <;> intro k3 h2 f
 ·exact rt [.cell 6 142, .tmp 7] f
 exact rt [.cell 6 142, .tmp 7] f
theorem La (a0 : List Yp) (a1 : List Zg) (a2 : Zf) (u0 : Sm 2314240 a0) (u1 : Sm 2314240 a1) : Sa 178 [rL 5 Yp.row a0, rL 3 Zg.row a1, a2.row] [rB (Th a0 a1 a2)] := by
 have f := me (Th.eq_1 a0 a1 a2)
 refine so func178 ntmps178 ?_
 refine cRs (SE a0 a1 a2 (sg u0) (sg u1)) ?_
 exact rt [.tmp 6] f
theorem OY (a0 : List Yp) (a1 : List Zg) (a2 : ZV) (a3 : Int) (u0 : Sm 2310144 a0) (u1 : Sm 2310144 a1) (u2 : Sm 2310144 a2) : Sa 94 [rL 5 Yp.row a0, rL 3 Zg.row a1, a2.row, rI a3] [rB (W9 a0 a1 a2 a3)] := by
 have f := me (W9.eq_1 a0 a1 a2 a3)
 refine so func94 ntmps94 ?_
 refine dIs mixed ?_
 refine cGs (fun gg => (Ms a2.Method a3 a2.Path)) ?_
 refine cGs (fun gg => (Z3 (a2.YI.length : Int) 1 6)) ?_
 refine cGs (fun gg => (yY a2.YI)) ?_
 refine cFo f ?_ ?_ <;> intro k2 h1 f
 ·have q1 := h1; try simp [Zc] at q1
  simp
  exact rt [.tmp 8] f
 have q1 := h1; try simp [Zc] at q1
 simp
 refine lp1 (kX.eq_2 a0 a1 a2) (fun J => Y5 59 [eL 0 5 a0 Yp.row, eL 1 3 a1 Zg.row, eX 6 (a2.row.map .d), eL 40 5 a2.YI Zf.row, eI 41 (a2.YI.length : Int), eI 42 (J : Int)]) (fun n1 J => a2.YI.length < n1 + J /\ J <= a2.YI.length) (a2.YI.length + 1) 0 (fun p1 J e1 j1 => ?_)
 refine cFf e1 ?_ ?_ <;> intro k4 h2 e1
 ·have i1 := ix h2
  have m2 := ml a2.YI (k4 40 _ rfl)
  have c1 := sl 2310144 a2.YI (an u0 (an u1 u2))
  have w1 := wr J
  simp [i1, ZI]
  refine rpS ?_
  refine cGs (fun gg => (La a0 a1 (nth a2.YI J) (sg u0) (sg u1))) ?_
  refine cF e1 ?_ ?_ <;> intro k5 h3 e1
  ·have f := ms f e1
   exact rt [.tmp 8] f
  exact ny1 w1 e1
 have c2 := sl 2310144 a2.YI (an u0 (an u1 u2))
 have f := ms f e1
 exact rt [.tmp 8] f
theorem UY (a0 : List Zg) (a1 : Zf) : Sa 260 [rL 3 Zg.row a0, a1.row] [rI (Xd a0 a1)] := by
 have f := me (Xd.eq_1 a0 a1)
 refine so func260 ntmps260 ?_
 refine cRs (qt a0 a1.Authority) ?_
 refine cFf f ?_ ?_ <;> intro k1 h1 f
 ·have i1 : (ZY a0 a1.Authority).toNat < a0.length := by have := qn a0 a1.Authority; exact il
  simp [i1, ZI]
  refine rpS ?_
  exact rt [.tmp 4] f
 exact rt [.tmp 4] f
theorem Of (a0 : List Yp) (a1 : List Zg) (a2 : List Z5) (a3 : ZV) : Sa 179 [rL 5 Yp.row a0, rL 3 Zg.row a1, rL 4 Z5.row a2, a3.row] [rI (Jz a0 a1 a2 a3)] := by
 have f := me (Jz.eq_1 a0 a1 a2 a3)
 refine so func179 ntmps179 ?_
 refine cRs (Wl a2 a3.Method) ?_
 refine lp2 (z4.eq_2 a0 a1 a2 a3) (fun J U => Y5 42 [eL 0 5 a0 Yp.row, eL 1 3 a1 Zg.row, eL 2 4 a2 Z5.row, eI 9 J, eL 18 5 a3.YI Zf.row, eI 19 (a3.YI.length : Int), eI 20 (U : Int)]) (fun n1 J U => a3.YI.length < n1 + U /\ U <= a3.YI.length) (a3.YI.length + 1) (Ky a2 a3.Method) 0 (fun p1 J U e1 j1 => ?_)
 refine cFf e1 ?_ ?_ <;> intro k2 h1 e1
 ·have i1 := ix h1
  have m2 := ml a3.YI (k2 18 _ rfl)
  have w1 := wr U
  simp [i1, ZI]
  refine rpS ?_
  refine cRs (UY a1 (nth a3.YI U)) ?_
  refine cRs (yO a0 (Xd a1 (nth a3.YI U))) ?_
  refine cFt e1 ?_ ?_ <;> intro k3 h2 e1
  ·have f := ms f e1
   exact rt [.tmp 8] f
  have i2 : (Zu a0 (Xd a1 (nth a3.YI U))).toNat < a0.length := by have := jZ a0 (Xd a1 (nth a3.YI U)); exact il
  simp [i2, ZI]
  refine rpS ?_
  refine cRs (Wl a2 (nth a0 (Zu a0 (Xd a1 (nth a3.YI U))).toNat).Method) ?_
  exact ny2 w1 e1
 have f := ms f e1
 exact rt [.tmp 8] f
theorem S3 {a b : Prop} (h : b) (k : a := by (intros; first | omega | with_unfolding_all (first | (first | omega | (have mm : a1.ZR.length <= 2306048 := XN (xs u1); have ww := Nu a1.ZR.length (by omega); (try rw [ww] at q1); (try rw [ww] at q2); have w3 : W (a2 + 1) = a2 + 1 := XA (by omega) (by omega); have w4 : IntKind.i64.wrap (a2 + 1) = a2 + 1 := w3; omega))) | ((try simp only [X9, show ∀ x, IntKind.i64.wrap x = W x from fun _ => rfl] at *); omega))) : a /\ b := ⟨k, h⟩
theorem RN (a0 : ZW) (a1 : ZQ) (a2 : Int) (u0 : Sm 2306048 a0) (u1 : Sm 2306048 a1) : Sa 96 [a0.row, a1.row, rI a2] [rB (jL a0 a1 a2)] := by
 have f := me (jL.eq_1 a0 a1 a2)
 refine so func96 ntmps96 ?_
 refine cRs (Z3 a2 0 (W ((a1.ZR.length : Int) - 1))) ?_
 have c1 := sl 2306048 a1.ZR (an u0 u1)
 have w1 : IntKind.i64.wrap ((a1.ZR.length : Int) - 1) = (a1.ZR.length : Int) - 1 := XA (by omega) (by omega)
 refine cFo f ?_ ?_ <;> intro k1 h1 f
 ·have q1 := h1; try simp [Zc, w1] at q1
  simp
  exact rt [.tmp 6] f
 have q1 := h1; try simp [Zc, w1] at q1
 simp
 refine dIo mixed ?_
 have i1 : a2.toNat < a1.ZR.length := by (have mm : a1.ZR.length <= 2306048 := XN (xs u1); (try simp [Zc] at q1); have ww := Nu a1.ZR.length (by omega); first | omega | ((try rw [ww] at q1); (try rw [ww] at q2); have w3 : W (a2 + 1) = a2 + 1 := XA (by omega) (by omega); omega))
 simp [i1, ZI]
 repeat with_reducible refine S3 ?_
 refine cRs (Of a0.Zo a0.ZC a0.Methods (nth a1.ZR a2.toNat)) ?_
 refine cFo f ?_ ?_ <;> intro k3 h2 f
 ·have q2 := h2; try simp [w1] at q2
  simp
  exact rt [.tmp 6] f
 have q2 := h2; try simp [w1] at q2
 simp
 refine dIo mixed ?_
 have i2 : (W (a2 + 1)).toNat < a1.ZR.length := by (have mm : a1.ZR.length <= 2306048 := XN (xs u1); (try simp [Zc] at q1); have ww := Nu a1.ZR.length (by omega); first | omega | ((try rw [ww] at q1); (try rw [ww] at q2); have w3 : W (a2 + 1) = a2 + 1 := XA (by omega) (by omega); omega))
 simp [i2, ZI]
 repeat with_reducible refine S3 ?_
 refine cRs (jS a0 (nth a1.ZR (W (a2 + 1)).toNat) (sg u0) (sg (Z4 (ZQ.yq u1)))) ?_ (pe := by first | (simp; done) | (simp [W, w1]; done))
 exact rt [.tmp 6] f
theorem Vi (a0 : ZW) (a1 : ZQ) (a2 : List Int) (u0 : Sm 2301952 a0) (u1 : Sm 2301952 a1) (u2 : Sm 2301952 a2) : Sa 30 [a0.row, a1.row, rL 1 iR a2] [rI (Y7 a0 a1 a2)] := by
 have f := me (Y7.eq_1 a0 a1 a2)
 refine so func30 ntmps30 ?_
 refine okL fun k1 => ?_
 refine lp1 (Qq.eq_2 a0 a1 a2) (fun J => Y5 58 [eL 2 1 a2 iR, eX 3 (a0.row.map .d), eX 4 (a1.row.map .d), eI 7 (J : Int)]) (fun n1 J => J < n1 /\ J <= a1.ZR.length) (a1.ZR.length + 1) a1.ZR.length (fun p1 J e1 j1 => ?_)
 refine cFo e1 ?_ ?_ <;> intro k2 h1 e1
 ·have q1 := h1; try simp at q1
  have m1 := ml a1.ZR (k1 11 _ rfl)
  have w1 : IntKind.i64.wrap ((J : Int) - 1) = (J : Int) - 1 := XA (by omega) (by omega)
  have w2 : ((J - 1 : Nat) : Int) = (J : Int) - 1 := by omega
  simp
  refine dIo mixed ?_
  have i2 := ik (J - 1) a1.ZR
  simp [i2, ZI, w1, zZ]
  refine rpS ?_
  refine cRs (jS a0 (nth a1.ZR (J - 1)) (sg u0) (sg (Z4 (ZQ.yq u1)))) ?_
  refine dIs mixed ?_
  refine gIf ?_ ?_ <;> intro G
  ·have nM := G
   have g1 := G; try simp at g1
   simp [i2, ZI, w1, zZ, G]
   refine rpG ?_
   refine Bn rfl rfl rfl rfl rfl rfl (fun gg => (Du a1 a2 (W ((J : Int) - 1)) (sg u1) (sg u2))) (by first | (simp; done) | (simp [G]; done) | (simp [G]; omega) | (simp_all; done)) (by first | (simp; done) | (simp [G]; done) | (simp [G]; omega) | (simp_all; done)) (by first | (simp; done) | (simp [G]; done) | (simp [G]; omega) | (simp_all; done)) (by first | (simp; done) | (simp [G]; done) | (simp [G]; omega) | (simp_all; done)) ?_
   simp [G]
   refine rpG ?_
   refine Bn rfl rfl rfl rfl rfl rfl (fun gg => (OY a0.Zo a0.ZC (nth a1.ZR (J - 1)) (jn a1 a2 (W ((J : Int) - 1))) (sg (ZW.XY u0)) (sg (ZW.XH u0)) (sg (Z4 (ZQ.yq u1))))) (by first | (simp; done) | (simp [G]; done) | (simp [G]; omega) | (simp_all; done)) (by first | (simp; done) | (simp [G]; done) | (simp [G]; omega) | (simp_all; done)) (by first | (simp; done) | (simp [G]; done) | (simp [G]; omega) | (simp_all; done)) (by first | (simp; done) | (simp [G]; done) | (simp [G]; omega) | (simp_all; done)) ?_
   simp [G]
   refine rpG ?_
   refine Bn rfl rfl rfl rfl rfl rfl (fun gg => (RN a0 a1 (W ((J : Int) - 1)) (sg u0) (sg u1))) (by first | (simp; done) | (simp [G]; done) | (simp [G]; omega) | (simp_all; done)) (by first | (simp; done) | (simp [G]; done) | (simp [G]; omega) | (simp_all; done)) (by first | (simp; done) | (simp [G]; done) | (simp [G]; omega) | (simp_all; done)) (by first | (simp; done) | (simp [G]; done) | (simp [G]; omega) | (simp_all; done)) ?_
   simp [G]
   refine rpG ?_
   refine cKo e1 ?_ ?_ <;> intro k5 h2 e1
   ·have q2 := h2; try simp [w1, w2] at q2
    have f := ms f e1
    simp [G]
    refine rpG ?_
    exact rtg [.tmp 6] f
   ·have q2 := h2; try simp [w1, w2] at q2
    simp [G]
    refine rpG ?_
    exact ny1 (an w1 (an w2 G)) e1
  ·have nM := G
   refine sGo ?_
   simp [G]
   refine rpG ?_
   refine sGo ?_
   simp [G]
   refine rpG ?_
   refine Bn rfl rfl rfl rfl rfl rfl (fun gg => (RN a0 a1 (W ((J : Int) - 1)) (sg u0) (sg u1))) (by first | (simp; done) | (simp [G]; done) | (simp [G]; omega) | (simp_all; done)) (by first | (simp; done) | (simp [G]; done) | (simp [G]; omega) | (simp_all; done)) (by first | (simp; done) | (simp [G]; done) | (simp [G]; omega) | (simp_all; done)) (by first | (simp; done) | (simp [G]; done) | (simp [G]; omega) | (simp_all; done)) ?_
   simp [G]
   refine rpG ?_
   refine cKo e1 ?_ ?_ <;> intro k6 h3 e1
   ·have q3 := h3; try simp [w1, w2] at q3
    have f := ms f e1
    simp [G]
    refine rpG ?_
    exact rtg [.tmp 6] f
   ·simp [G] at h3
 have q1 := h1; try simp at q1
 have f := ms f e1
 simp
 exact rt [.tmp 6] f
theorem OU (a0 : ZW) (a1 : ZQ) (a2 : List Int) (a3 : Int) (u0 : Sm 2297856 a0) (u1 : Sm 2297856 a1) (u2 : Sm 2297856 a2) : Sa 31 [a0.row, a1.row, rL 1 iR a2, rI a3] [rI (Kz a0 a1 a2 a3)] := by
 have f := me (Kz.eq_1 a0 a1 a2 a3)
 refine so func31 ntmps31 ?_
 refine cRs (Vi a0 a1 a2 (sg u0) (sg u1) (sg u2)) ?_
 refine lp2 (JT.eq_2 a0 a1 a3) (fun J U => Y5 49 [eI 3 a3, eX 4 (a0.row.map .d), eX 5 (a1.row.map .d), eI 9 J, eI 10 U]) (fun n1 J U => (a1.ZR.length : Int) + 1 < n1 + U /\ 0 <= U /\ U <= a1.ZR.length) (a1.ZR.length + 2) a0.Now (Y7 a0 a1 a2) (fun p1 J U e1 j1 => ?_) (hI := by (have z := Lc a0 a1 a2; (try dsimp only); omega))
 try dsimp only at j1
 refine cF e1 ?_ ?_ <;> intro k2 h1 e1
 ·refine okD fun k3 => ?_
  refine dIo mixed ?_
  have i1 := ik U.toNat a1.ZR
  simp [i1, ZI]
  refine rpS ?_
  refine cRf i1 (jS a0 (nth a1.ZR U.toNat) (sg u0) (sg (Z4 (ZQ.yq u1)))) ?_
  refine cF e1 ?_ ?_ <;> intro k4 h2 e1
  ·exact nx2 e1 (hI := by (have cc : a1.ZR.length <= 2297856 := XN (xs u1); have w2 : W (U + 1) = U + 1 := XA (by simp at *; omega) (by simp at *; omega); (try dsimp only); rw [w2]; simp at *; omega))
  exact nx2 e1 (hI := by (have cc : a1.ZR.length <= 2297856 := XN (xs u1); have w2 : W (U + 1) = U + 1 := XA (by simp at *; omega) (by simp at *; omega); (try dsimp only); rw [w2]; simp at *; omega))
 have f := ms f e1
 exact rt [.tmp 8] f
theorem LG (a0 : ZW) (a1 : ZQ) (a2 : List Int) (a3 : ZS) (u0 : Sm 2293760 a0) (u1 : Sm 2293760 a1) (u2 : Sm 2293760 a2) (u3 : Sm 2293760 a3) : Sa 305 [a0.row, a1.row, rL 1 iR a2, a3.row] [rI (Qt a0 a1 a2 a3)] := by
 have f := me (Qt.eq_1 a0 a1 a2 a3)
 refine so func305 ntmps305 ?_
 refine cRs (IF a1 a3) ?_
 refine cF f ?_ ?_ <;> intro k1 h1 f
 ·exact rt [.tmp 8] f
 refine cRs (OU a0 a1 a2 (QD a1 a3) (sg u0) (sg u1) (sg u2)) ?_
 exact rt [.tmp 8] f
theorem VP (a0 : ZW) (a1 : Zz) (a2 : List (List Int)) (a3 : ZS) (u0 : Sm 2289664 a0) (u1 : Sm 2289664 a1) (u2 : Sm 2289664 a2) (u3 : Sm 2289664 a3) : Sa 243 [a0.row, a1.row, rL 1 (slR 1 iR) a2, a3.row] [rI (Yk a0 a1 a2 a3)] := by
 have f := me (Yk.eq_1 a0 a1 a2 a3)
 refine so func243 ntmps243 ?_
 refine lp2 (zI.eq_2 a0 a1 a2 a3) (fun J U => Y5 38 [eL 2 1 a2 (slR 1 iR), eX 4 (a0.row.map .d), eX 7 (a3.row.map .d), eI 9 J, eL 15 2 a1.Zx ZQ.row, eI 16 (a1.Zx.length : Int), eI 17 (U : Int)]) (fun n1 J U => a1.Zx.length < n1 + U /\ U <= a1.Zx.length) (a1.Zx.length + 1) a0.Now 0 (fun p1 J U e1 j1 => ?_)
 refine cFf e1 ?_ ?_ <;> intro k2 h1 e1
 ·have i1 := ix h1
  have m2 := ml a1.Zx (k2 15 _ rfl)
  have c1 := sl 2289664 a1.Zx (an u0 (an u1 (an u2 u3)))
  have w1 := wr U
  simp [i1, ZI]
  refine rpS ?_
  refine cF e1 ?_ ?_ <;> intro k3 h2 e1
  ·have i2 := ix h2
   have m4 := ml a2 (k3 2 _ rfl)
   have c2 := sl 2289664 a2 (an u0 (an u1 (an u2 u3)))
   have w2 := wr U
   refine dIo mixed ?_
   simp [i2, ZI]
   refine rpS ?_
   refine cRs (LG a0 (nth a1.Zx U) (nth a2 U) a3 (sg u0) (sg (Z4 (Zz.QE u1))) (sg (Z4 u2)) (sg u3)) ?_
   exact ny2 w2 e1
  have c3 := sl 2289664 a2 (an u0 (an u1 (an u2 u3)))
  exact ny2 w1 e1
 have c4 := sl 2289664 a1.Zx (an u0 (an u1 (an u2 u3)))
 have f := ms f e1
 exact rt [.tmp 8] f
theorem U4 (a0 : ZS) : Sa 310 [a0.row] [(KY a0).1.row, rB (KY a0).2] := by
 have f := me (KY.eq_1 a0)
 refine so func310 ntmps310 ?_
 refine dIs mixed ?_
 refine cRs (Kc a0) ?_
 refine gIf ?_ ?_ <;> intro G
 ·have nM := G
  have g1 := G; try simp at g1
  have i1 : 4 < a0.YV.length := by (have z := Z8 a0; simp_all; done)
  simp [i1, ZI, G]
  refine rpG ?_
  refine cK f ?_ ?_ <;> intro k2 h1 f
  ·exact rtg [.cell 2 128, .tmp 3] f
  ·refine dIo mixed ?_
   have i2 : 1 < a0.YV.length := by (have z := Z8 a0; simp_all; done)
   have i3 : 2 < a0.YV.length := by (have z := Z8 a0; simp_all; done)
   have i4 : 3 < a0.YV.length := by (have z := Z8 a0; simp_all; done)
   simp [i2, ZI, i3, i4, i1, G]
   refine rpG ?_
   exact rtg [.cell 2 128, .tmp 3] f
 ·have nM := G
  refine cK f ?_ ?_ <;> intro k4 h2 f
  ·exact rtg [.cell 2 128, .tmp 3] f
  ·simp [G] at h2
theorem LS (a0 : ZS) : Sa 337 [a0.row] [(Wz a0).1.row, rB (Wz a0).2] := by
 have f := me (Wz.eq_1 a0)
 refine so func337 ntmps337 ?_
 refine cRs (Kc a0) ?_
 refine cF f ?_ ?_ <;> intro k1 h1 f
 ·exact rt [.cell 2 142, .tmp 3] f
 refine dIo mixed ?_
 have i1 : 1 < a0.YV.length := by (have z := Z8 a0; simp_all; done)
 have i2 : 2 < a0.YV.length := by (have z := Z8 a0; simp_all; done)
 have i3 : 3 < a0.YV.length := by (have z := Z8 a0; simp_all; done)
 have i4 : 4 < a0.YV.length := by (have z := Z8 a0; simp_all; done)
 simp [i1, ZI, i2, i3, i4]
 refine rpS ?_
 exact rt [.cell 2 142, .tmp 3] f
theorem HA (a0 : ZS) : Sa 338 [a0.row] [(V0 a0).1.row, rB (V0 a0).2] := by
 have f := me (V0.eq_1 a0)
 refine so func338 ntmps338 ?_
 refine dIs mixed ?_
 refine cRs (Kc a0) ?_
 refine gIf ?_ ?_ <;> intro G
 ·have nM := G
  have g1 := G; try simp at g1
  have i1 : 1 < a0.YV.length := by (have z := Z8 a0; simp_all; done)
  simp [i1, ZI, G]
  refine rpG ?_
  refine cK f ?_ ?_ <;> intro k2 h1 f
  ·exact rtg [.cell 2 64, .tmp 3] f
  ·refine dIo mixed ?_
   have i2 : 2 < a0.YV.length := by (have z := Z8 a0; simp_all; done)
   have i3 : 3 < a0.YV.length := by (have z := Z8 a0; simp_all; done)
   have i4 : 4 < a0.YV.length := by (have z := Z8 a0; simp_all; done)
   have i5 : 5 < a0.YV.length := by (have z := Z8 a0; simp_all; done)
   have i6 : 6 < a0.YV.length := by (have z := Z8 a0; simp_all; done)
   have i7 : 7 < a0.YV.length := by (have z := Z8 a0; simp_all; done)
   have i8 : 8 < a0.YV.length := by (have z := Z8 a0; simp_all; done)
   simp [i1, ZI, i2, i3, i4, i5, i6, i7, i8, G]
   refine rpG ?_
   exact rtg [.cell 2 64, .tmp 3] f
 ·have nM := G
  refine cK f ?_ ?_ <;> intro k4 h2 f
  ·exact rtg [.cell 2 64, .tmp 3] f
  ·simp [G] at h2
theorem Vy (a0 : ZS) : Sa 315 [a0.row] [(zp a0).1.row, rB (zp a0).2] := by
 have f := me (zp.eq_1 a0)
 refine so func315 ntmps315 ?_
 refine dIs mixed ?_
 refine cRs (Kc a0) ?_
 refine gIf ?_ ?_ <;> intro G
 ·have nM := G
  have g1 := G; try simp at g1
  have i1 : 5 < a0.YV.length := by (have z := Z8 a0; simp_all; done)
  simp [i1, ZI, G]
  refine rpG ?_
  refine cK f ?_ ?_ <;> intro k2 h1 f
  ·exact rtg [.cell 2 309, .tmp 3] f
  ·refine dIo mixed ?_
   have i2 : 1 < a0.YV.length := by (have z := Z8 a0; simp_all; done)
   have i3 : 2 < a0.YV.length := by (have z := Z8 a0; simp_all; done)
   have i4 : 3 < a0.YV.length := by (have z := Z8 a0; simp_all; done)
   have i5 : 4 < a0.YV.length := by (have z := Z8 a0; simp_all; done)
   simp [i2, ZI, i3, i4, i5, i1, G]
   refine rpG ?_
   exact rtg [.cell 2 309, .tmp 3] f
 ·have nM := G
  refine cK f ?_ ?_ <;> intro k4 h2 f
  ·exact rtg [.cell 2 309, .tmp 3] f
  ·simp [G] at h2
theorem M5 (a0 : List Yp) (a1 : ZS) (u0 : Sm 2314240 a0) (u1 : Sm 2314240 a1) : Sa 306 [rL 5 Yp.row a0, a1.row] [rB (TG a0 a1)] := by
 have f := me (TG.eq_1 a0 a1)
 refine so func306 ntmps306 ?_
 refine cRs (Kc a1) ?_
 refine cF f ?_ ?_ <;> intro k1 h1 f
 ·refine cRs (VO a1) ?_
  refine cGs (fun gg => (JM a0 a1.Key a1.YV a1.Mark (sg u0) (sg (ZS.TQ u1)))) ?_
  exact rt [.tmp 4] f
 refine cF f ?_ ?_ <;> intro k2 h2 f
 ·refine cRs (U4 a1) ?_
  refine cGs (fun gg => (JM a0 a1.Key a1.YV a1.Mark (sg u0) (sg (ZS.TQ u1)))) ?_
  exact rt [.tmp 4] f
 refine cF f ?_ ?_ <;> intro k3 h3 f
 ·refine cRs (LS a1) ?_
  refine cGs (fun gg => (JM a0 a1.Key a1.YV a1.Mark (sg u0) (sg (ZS.TQ u1)))) ?_
  exact rt [.tmp 4] f
 refine cF f ?_ ?_ <;> intro k4 h4 f
 ·refine cRs (HA a1) ?_
  refine cGs (fun gg => (JM a0 a1.Key a1.YV a1.Mark (sg u0) (sg (ZS.TQ u1)))) ?_
  exact rt [.tmp 4] f
 refine cF f ?_ ?_ <;> intro k5 h5 f
 ·refine cRs (Vy a1) ?_
  refine cGs (fun gg => (JM a0 a1.Key a1.YV a1.Mark (sg u0) (sg (ZS.TQ u1)))) ?_
  exact rt [.tmp 4] f
 refine cGs (fun gg => (JM a0 a1.Key a1.YV a1.Mark (sg u0) (sg (ZS.TQ u1)))) ?_
 exact rt [.tmp 4] f
theorem NR (a0 : ZS) (a1 : ZS) : Sa 307 [a0.row, a1.row] [rB (UX a0 a1)] := by
 have f := me (UX.eq_1 a0 a1)
 refine so func307 ntmps307 ?_
 refine lp1 (Wc.eq_2 a0 a1) (fun J => Y5 73 [eX 2 (a0.row.map .d), eX 3 (a1.row.map .d), eI 5 (J : Int)]) (fun n1 J => a0.YV.length < n1 + J /\ J <= a0.YV.length) (a0.YV.length + 1) 0 (fun p1 J e1 j1 => ?_)
 refine cF e1 ?_ ?_ <;> intro k2 h1 e1
 ·have i1 : J < a0.YV.length := by (simp at h1; omega)
  have m2 := ml a0.YV (k2 8 _ rfl)
  have w1 := wr J
  refine dIo mixed ?_
  have i2 := ik J a1.YV
  simp [i1, ZI, i2]
  refine rpS ?_
  refine cF e1 ?_ ?_ <;> intro k4 h2 e1
  ·refine okD fun k5 => ?_
   refine dIo mixed ?_
   have f := ms f e1
   simp [i1, ZI, i2]
   refine rpS ?_
   exact rt [.tmp 4] f
  exact ny1 w1 e1
 have f := ms f e1
 refine cF f ?_ ?_ <;> intro k6 h3 f
 ·exact rt [.tmp 4] f
 refine cF f ?_ ?_ <;> intro k7 h4 f
 ·exact rt [.tmp 4] f
 exact rt [.tmp 4] f
theorem UG {a b : Prop} (h : b) (k : a := by (intros; first | omega | with_unfolding_all (first | (first | omega | (simp_all; done) | (simp_all; omega))) | ((try simp only [X9, show ∀ x, IntKind.i64.wrap x = W x from fun _ => rfl] at *); omega))) : a /\ b := ⟨k, h⟩
theorem YT {a b : Prop} (h : b) (k : a := by (intros; first | omega | with_unfolding_all (first | (first | omega | (simp_all; done) | (simp_all; omega))) | (simp_all; done) | (simp_all; omega) | grind | ((try simp only [X9, show ∀ x, IntKind.i64.wrap x = W x from fun _ => rfl] at *); omega))) : a /\ b := ⟨k, h⟩
theorem OX (a0 : ZW) (a1 : Zz) (a2 : List (List Int)) (u0 : Sm 2285568 a0) (u1 : Sm 2285568 a1) (u2 : Sm 2285568 a2) (u3 : vi a1 <= 2097152) : So 244 [a0.row, a1.row, rL 1 (slR 1 iR) a2] [rL 3 ZS.row (Zy a0 a1 a2)] := by
 have f := me (Zy.eq_1 a0 a1 a2)
 refine so func244 ntmps244 ?_
 refine lp2 (Ka.eq_2 a0 a1 a2) (fun J U => Y5 79 [eL 2 1 a2 (slR 1 iR), eX 3 (a0.row.map .d), eX 4 (a1.row.map .d), (7, .one (.sref 7 0 0 J.length), [.arr false 3 (J.map ZS.row)]), eL 14 2 a1.Zx ZQ.row, eI 15 (a1.Zx.length : Int), eI 16 (U : Int)]) (fun n1 J U => a1.Zx.length < n1 + U /\ U <= a1.Zx.length /\ J.length + cnL (fun s : ZQ => s.ZM.length) (a1.Zx.drop U) <= 2097152 /\ Sm 2285568 J) (a1.Zx.length + 1) ([] : List ZS) 0 (fun p1 J U e1 j1 => ?_) (hI := by (have u : cnL (fun s : ZQ => s.ZM.length) a1.Zx <= 2097152 := u3; (try dsimp only); refine ⟨by omega, by omega, by omega, ?_, ⟨Nat.zero_le _, fun x hx => by cases hx⟩⟩; rw [List.drop_zero]; simp only [List.length_nil]; omega)) (h0 := wkS [((7, 0), none)] [])
 try dsimp only at j1
 refine cFo e1 ?_ ?_ <;> intro k2 h1 e1
 ·have q1 := h1; try simp at q1
  have i1 := ix h1
  have m2 := ml a1.Zx (k2 14 _ rfl)
  have c1 := sl 2285568 a1.Zx (an u0 (an u1 (an u2 u3)))
  have w1 := wr U
  simp [i1, ZI]
  repeat with_reducible refine UG ?_
  refine lp2 (XX.eq_2 a0 a1 a2 U) (fun pR pT => Y5 79 [eL 2 1 a2 (slR 1 iR), eX 3 (a0.row.map .d), eX 4 (a1.row.map .d), (7, .one (.sref 7 0 0 pR.length), [.arr false 3 (pR.map ZS.row)]), eL 14 2 a1.Zx ZQ.row, eI 15 (a1.Zx.length : Int), eI 16 (U : Int), eL 21 3 (nth a1.Zx U).ZM ZS.row, eI 22 ((nth a1.Zx U).ZM.length : Int), eI 23 (pT : Int)]) (fun n2 pR pT => (nth a1.Zx U).ZM.length < n2 + pT /\ pT <= (nth a1.Zx U).ZM.length /\ pR.length + ((nth a1.Zx U).ZM.length - pT) + cnL (fun s : ZQ => s.ZM.length) (a1.Zx.drop (U + 1)) <= 2097152 /\ Sm 2285568 pR) ((nth a1.Zx U).ZM.length + 1) J 0 (fun p2 pR pT e2 j2 => ?_) (hI := by (have d := Bj (l := a1.Zx) (i := U) (by first | omega | (simp at *; omega)); refine ⟨?_, ?_, ?_, ?_, j1.2.2.2.2⟩ <;> ((try dsimp only); omega)))
  try dsimp only at j2
  refine cFo e2 ?_ ?_ <;> intro k4 h2 e2
  ·have q2 := h2; try simp at q2
   have i2 := ix h2
   have m4 := ml (nth a1.Zx U).ZM (k4 21 _ rfl)
   have c2 := sl 2285568 (nth a1.Zx U).ZM (an u0 (an u1 (an u2 u3)))
   have w2 := wr pT
   simp [i2, ZI]
   repeat with_reducible refine UG ?_
   refine dIs mixed ?_
   refine cRs (ka pR (nth (nth a1.Zx U).ZM pT)) ?_
   refine cGs (fun gg => (M5 a0.Zo (nth (nth a1.Zx U).ZM pT) (by (first | exact sg u0 | exact sg u1 | exact sg u2 | exact sg (ZW.XY u0) | exact sg j2.2.2.2.2 | exact sg (Z4 j2.2.2.2.2) | exact sg (Z4 (ZQ.QB (Z4 (Zz.QE u1)))))) (by (first | exact sg u0 | exact sg u1 | exact sg u2 | exact sg (ZW.XY u0) | exact sg j2.2.2.2.2 | exact sg (Z4 j2.2.2.2.2) | exact sg (Z4 (ZQ.QB (Z4 (Zz.QE u1)))))))) ?_
   refine cGs (fun gg => (VP a0 a1 a2 (nth (nth a1.Zx U).ZM pT) (by (first | exact sg u0 | exact sg u1 | exact sg u2 | exact sg (ZW.XY u0) | exact sg j2.2.2.2.2 | exact sg (Z4 j2.2.2.2.2) | exact sg (Z4 (ZQ.QB (Z4 (Zz.QE u1)))))) (by (first | exact sg u0 | exact sg u1 | exact sg u2 | exact sg (ZW.XY u0) | exact sg j2.2.2.2.2 | exact sg (Z4 j2.2.2.2.2) | exact sg (Z4 (ZQ.QB (Z4 (Zz.QE u1)))))) (by (first | exact sg u0 | exact sg u1 | exact sg u2 | exact sg (ZW.XY u0) | exact sg j2.2.2.2.2 | exact sg (Z4 j2.2.2.2.2) | exact sg (Z4 (ZQ.QB (Z4 (Zz.QE u1)))))) (by (first | exact sg u0 | exact sg u1 | exact sg u2 | exact sg (ZW.XY u0) | exact sg j2.2.2.2.2 | exact sg (Z4 j2.2.2.2.2) | exact sg (Z4 (ZQ.QB (Z4 (Zz.QE u1)))))))) ?_
   refine cGs (fun gg => (WQ a0 (nth (nth a1.Zx U).ZM pT).Key)) ?_
   refine cFo e2 ?_ ?_ <;> intro k6 h3 e2
   ·have q3 := h3; try simp at q3
    simp
    exact ny2 (an w1 w2) e2 (hI := by first | (refine ⟨?_, ?_, ?_, ?_, j2.2.2.2.2⟩ <;> ((try dsimp only); omega)) | (have pk : Sm 2285568 (nth (nth a1.Zx U).ZM pT) := Z4 (ZQ.QB (Z4 (Zz.QE u1))); obtain ⟨q1, q2⟩ := Ft (z := pn) j2.2.2.2.2 pk (by omega); refine ⟨?_, ?_, ?_, ?_, q1⟩ <;> ((try dsimp only); omega)))
   have q3 := h3; try simp at q3
   simp
   refine lp1 (JE.eq_2 a1 U pR pT) (fun pn => Y5 79 [eL 2 1 a2 (slR 1 iR), eX 3 (a0.row.map .d), eX 4 (a1.row.map .d), (7, .one (.sref 7 0 0 pR.length), [.arr false 3 (pR.map ZS.row)]), eX 11 ((nth (nth a1.Zx U).ZM pT).row.map .d), eI 12 (pn : Int), eL 14 2 a1.Zx ZQ.row, eI 15 (a1.Zx.length : Int), eI 16 (U : Int), eL 21 3 (nth a1.Zx U).ZM ZS.row, eI 22 ((nth a1.Zx U).ZM.length : Int), eI 23 (pT : Int)]) (fun n3 pn => pR.length < n3 + pn /\ pn <= pR.length) (pR.length + 1) 0 (fun p3 pn e3 j3 => ?_)
   try dsimp only at j3
   refine dIs mixed ?_
   refine gIo ?_ ?_ <;> intro G
   ·have nM := G
    have g1 := G; try simp at g1
    have i3 := ik pn pR
    simp [i3, ZI, G]
    repeat with_reducible refine YT ?_
    refine cGo (fun gg => (NR (nth pR pn) (nth (nth a1.Zx U).ZM pT))) ?_
    simp [G]
    repeat with_reducible refine YT ?_
    refine cKo e3 ?_ ?_ <;> intro k9 h4 e3
    ·have q4 := h4; try simp at q4
     have i4 : pn < pR.length := by (simp at h4; omega)
     have m6 := ml pR (k9 7 _ rfl)
     have w3 := wr pn
     simp [G]
     repeat with_reducible refine YT ?_
     exact ny1 (an w1 (an w2 (an w3 G))) e3
    ·have q4 := h4; try simp at q4
     have e2 := ms e2 e3
     simp [G]
     repeat with_reducible refine YT ?_
     refine dIo mixed ?_
     simp [G]
     repeat with_reducible refine YT ?_
     refine evI rfl rfl rfl ?_
     simp [G]
     repeat with_reducible refine YT ?_
     refine evI rfl rfl rfl ?_
     simp [G]
     repeat with_reducible refine YT ?_
     refine cR (Yx.rd (qi (nth (nth a1.Zx U).ZM pT) (by (first | exact sg u0 | exact sg u1 | exact sg u2 | exact sg (ZW.XY u0) | exact sg j2.2.2.2.2 | exact sg (Z4 j2.2.2.2.2) | exact sg (Z4 (ZQ.QB (Z4 (Zz.QE u1)))))))) ?_
     simp [G]
     repeat with_reducible refine YT ?_
     refine evI rfl rfl rfl ?_
     simp [G]
     repeat with_reducible refine YT ?_
     refine evI rfl rfl rfl ?_
     simp [G]
     repeat with_reducible refine YT ?_
     refine evI rfl rfl rfl ?_
     simp [G]
     repeat with_reducible refine YT ?_
     exact nx2 e2 (hI := by first | (refine ⟨?_, ?_, ?_, ?_, j2.2.2.2.2⟩ <;> ((try dsimp only); omega)) | (have pk : Sm 2285568 (nth (nth a1.Zx U).ZM pT) := Z4 (ZQ.QB (Z4 (Zz.QE u1))); obtain ⟨q1, q2⟩ := Ft (z := pn) j2.2.2.2.2 pk (by omega); refine ⟨?_, ?_, ?_, ?_, q1⟩ <;> ((try dsimp only); omega))) (hw := X1 [((7, 0), some (75, 0))] [] rfl (by simp [w1, w2, G]))
   ·have nM := G
    simp [G]
    repeat with_reducible refine YT ?_
    refine sGo ?_
    simp [G]
    repeat with_reducible refine YT ?_
    refine cKo e3 ?_ ?_ <;> intro fz h5 e3
    ·simp [G] at h5
    ·have q5 := h5; try simp at q5
     have e2 := ms e2 e3
     simp [G]
     repeat with_reducible refine YT ?_
     refine dIo mixed ?_
     simp [G]
     repeat with_reducible refine YT ?_
     refine evI rfl rfl rfl ?_
     simp [G]
     repeat with_reducible refine YT ?_
     refine evI rfl rfl rfl ?_
     simp [G]
     repeat with_reducible refine YT ?_
     refine cR (Yx.rd (qi (nth (nth a1.Zx U).ZM pT) (by (first | exact sg u0 | exact sg u1 | exact sg u2 | exact sg (ZW.XY u0) | exact sg j2.2.2.2.2 | exact sg (Z4 j2.2.2.2.2) | exact sg (Z4 (ZQ.QB (Z4 (Zz.QE u1)))))))) ?_
     simp [G]
     repeat with_reducible refine YT ?_
     refine evI rfl rfl rfl ?_
     simp [G]
     repeat with_reducible refine YT ?_
     refine evI rfl rfl rfl ?_
     simp [G]
     repeat with_reducible refine YT ?_
     refine evI rfl rfl rfl ?_
     simp [G]
     repeat with_reducible refine YT ?_
     exact nx2 e2 (hI := by first | (refine ⟨?_, ?_, ?_, ?_, j2.2.2.2.2⟩ <;> ((try dsimp only); omega)) | (have pk : Sm 2285568 (nth (nth a1.Zx U).ZM pT) := Z4 (ZQ.QB (Z4 (Zz.QE u1))); obtain ⟨q1, q2⟩ := Ft (z := pn) j2.2.2.2.2 pk (by omega); refine ⟨?_, ?_, ?_, ?_, q1⟩ <;> ((try dsimp only); omega))) (hw := X1 [((7, 0), some (75, 0))] [] rfl (by simp [w1, w2, G]))
  have q2 := h2; try simp at q2
  have c3 := sl 2285568 (nth a1.Zx U).ZM (an u0 (an u1 (an u2 u3)))
  have e1 := ms e1 e2
  simp
  exact ny2 w1 e1 (hI := by (refine ⟨?_, ?_, ?_, ?_, j2.2.2.2.2⟩ <;> ((try dsimp only); omega)))
 have q1 := h1; try simp at q1
 have c4 := sl 2285568 a1.Zx (an u0 (an u1 (an u2 u3)))
 have f := ms f e1
 simp
 exact rtO [.tmp 6] f
theorem PF (a0 : Yb) : Sa 220 [a0.row] [(xg a0).row] := by
 have f := me (xg.eq_1 a0)
 refine so func220 ntmps220 ?_
 exact rt [.cell 2 59] f
theorem DW (a0 : Yb) : Sa 147 [a0.row] [rB (Sv a0)] := by
 have f := me (Sv.eq_1 a0)
 refine so func147 ntmps147 ?_
 refine cRs (Z3 a0.Zn 1 999) ?_
 refine cGs (fun gg => (Z3 a0.Key 1 99)) ?_
 refine cGs (fun gg => (Z3 a0.Z6 1 99)) ?_
 refine cGs (fun gg => (Z3 a0.Kr 0 99)) ?_
 refine cGs (fun gg => (PF a0)) ?_
 refine cGs (fun gg => (J5 (xg a0))) ?_
 exact rt [.tmp 2] f
theorem GM (a0 : Yb) : Sd 149 [a0.row] [rL 1 iR (zd a0)] := by
 have f := me (zd.eq_1 a0)
 refine soD func149 ntmps149 ?_
 exact rtD [.tmp 2] f
theorem Ow (a0 : List Yp) (a1 : Int) : Sa 150 [rL 5 Yp.row a0, rI a1] [rI (Ra a0 a1)] := by
 have f := me (Ra.eq_1 a0 a1)
 refine so func150 ntmps150 ?_
 refine cRs (yO a0 a1) ?_
 refine cFf f ?_ ?_ <;> intro k1 h1 f
 ·have i1 : (Zu a0 a1).toNat < a0.length := by have := jZ a0 a1; exact il
  simp [i1, ZI]
  refine rpS ?_
  exact rt [.tmp 4] f
 exact rt [.tmp 4] f
theorem Hh (a0 : List Yp) (a1 : Yb) (u0 : Sm 2314240 a0) : Sa 63 [rL 5 Yp.row a0, a1.row] [rB (jE a0 a1)] := by
 have f := me (jE.eq_1 a0 a1)
 refine so func63 ntmps63 ?_
 refine dIs mixed ?_
 refine cRs (DW a1) ?_
 refine cGs (fun gg => Yx.rd (GM a1)) ?_
 refine cGs (fun gg => (JM a0 a1.Z6 (zd a1) a1.Mark (sg u0) (by simp (maxDischargeDepth := 12) [GH, Za (m := 2318336) (by decide) u0]; try omega))) ?_
 refine cGs (fun gg => (Ow a0 a1.Key)) ?_
 exact rt [.tmp 4] f
theorem ER (a0 : ZW) (a1 : List ZS) (a2 : Zq) (u0 : Sm 2310144 a0) (u1 : Sm 2310144 a1) : Sa 245 [a0.row, rL 3 ZS.row a1, a2.row] [(Jf a0 a1 a2).1.row, rB (Jf a0 a1 a2).2] := by
 have f := me (Jf.eq_1 a0 a1 a2)
 refine so func245 ntmps245 ?_
 refine lp9 (UA.eq_2 a0 a1 a2) (fun J U pO pQ pw oM oN oO oP => Y5 54 [eX 3 (a0.row.map .d), eX 5 (a2.row.map .d), (6, .one (.bptr 6 0), [.box [.d (.int .i64 0), .d (.int .i64 0), .d (.int .i64 0), .d (.int .i64 0), .d (.int .i64 0), .d (.int .i64 0), .d (.int .i64 0)]]), (8, .one (.bptr 8 0), [.box [.d (.int .i64 pO), .d (.int .i64 pQ), .d (.int .i64 pw), .d (.int .i64 oM), .d (.int .i64 oN), .d (.int .i64 oO), .d (.int .i64 oP)]]), eI 9 J, eL 14 3 a1 ZS.row, eI 15 (a1.length : Int), eI 16 (U : Int)]) (fun n1 J U pO pQ pw oM oN oO oP => a1.length < n1 + U /\ U <= a1.length) (a1.length + 1) 0 0 0 0 0 0 0 0 0 (fun p1 J U pO pQ pw oM oN oO oP e1 j1 => ?_)
 refine cFf e1 ?_ ?_ <;> intro k2 h1 e1
 ·have i1 := ix h1
  have m2 := ml a1 (k2 14 _ rfl)
  have c1 := sl 2310144 a1 (an u0 u1)
  have w1 := wr U
  simp [i1, ZI]
  refine rpS ?_
  refine cRs (VO (nth a1 U)) ?_
  refine cGs (fun gg => (Hh a0.Zo (XE (nth a1 U)).1 (sg (ZW.XY u0)))) ?_
  refine cF e1 ?_ ?_ <;> intro k3 h2 e1
  ·exact ny9 w1 e1
  exact ny9 w1 e1
 have c2 := sl 2310144 a1 (an u0 u1)
 have f := ms f e1
 refine cF f ?_ ?_ <;> intro k4 h3 f
 ·exact rt [.cell 6 107, .tmp 7] f
 exact rt [.cell 6 107, .tmp 7] f
theorem vQ (a0 : Int) (a1 : Int) : Sa 53 [rI a0, rI a1] [rI (vO a0 a1)] := by
 have f := me (vO.eq_1 a0 a1)
 refine so func53 ntmps53 ?_
 exact rt [.tmp 4] f
theorem UI (a0 : Int) (a1 : List Zf) (u0 : Sm 2326528 a1) : Sa 308 [rI a0, rL 5 Zf.row a1] [rI (jy a0 a1)] := by
 have f := me (jy.eq_1 a0 a1)
 refine so func308 ntmps308 ?_
 refine cF f ?_ ?_ <;> intro k1 h1 f
 ·exact rt [.tmp 4] f
 refine lp2 (kG.eq_2 a1) (fun J U => Y5 27 [eI 0 a0, (5, .one (.sref 5 0 0 J.length), [.arr false 1 (J.map iR)]), eL 11 5 a1 Zf.row, eI 12 (a1.length : Int), eI 13 (U : Int)]) (fun n1 J U => a1.length < n1 + U /\ U <= a1.length /\ J.length <= 0 + 1 * U) (a1.length + 1) ([] : List Int) 0 (fun p1 J U e1 j1 => ?_) (h0 := wkS [((5, 0), none)] [])
 refine cFf e1 ?_ ?_ <;> intro k3 h2 e1
 ·have i1 := ix h2
  have m2 := ml a1 (k3 11 _ rfl)
  have c1 := sl 2326528 a1 u0
  have w1 := wr U
  simp [i1, ZI]
  refine rpS ?_
  exact nx2 e1 (hw := X1 [((5, 0), some (21, 0))] [] rfl (by simp [w1]))
 have c2 := sl 2326528 a1 u0
 have f := ms f e1
 refine cRs (KW a0 J (by first | (simp (maxDischargeDepth := 12) [Xo]; omega) | (simp (maxDischargeDepth := 12) [Za (m := 68719476736) (by decide) u0]; done))) ?_
 refine cRs (vQ 1 (Jj a0 J)) ?_
 exact rt [.tmp 4] f
theorem Tx (a0 : Int) (a1 : Zf) : Sd 309 [rI a0, a1.row] [(xm a0 a1).row] := by
 have f := me (xm.eq_1 a0 a1)
 refine soD func309 ntmps309 ?_
 refine dIs mixed ?_
 refine cDs [false] (VN a1) ?_
 exact rtD [.cell 4 177] f
theorem IC (a0 : ZW) (a1 : Zz) (a2 : List ZS) (a3 : Zq) (u0 : Sm 2314240 a0) (u1 : Sm 2314240 a1) (u2 : Sm 2314240 a2) : Sa 246 [a0.row, a1.row, rL 3 ZS.row a2, a3.row] [rI (X5 a0 a1 a2 a3)] := by
 have f := me (X5.eq_1 a0 a1 a2 a3)
 refine so func246 ntmps246 ?_
 refine cRs (yO a0.Zo a3.Key) ?_
 refine cFf f ?_ ?_ <;> intro k1 h1 f
 ·have i1 : (Zu a0.Zo a3.Key).toNat < a0.Zo.length := by have := jZ a0.Zo a3.Key; exact il
  simp [i1, ZI]
  refine rpS ?_
  refine lp2 (yx.eq_2 a0 a1 a2 a3) (fun J U => Y5 92 [eL 2 3 a2 ZS.row, eX 4 (a0.row.map .d), eX 7 (a3.row.map .d), eI 9 J, eL 32 1 a1.Y1 (slR 5 Zf.row), eI 33 (a1.Y1.length : Int), eI 34 (U : Int)]) (fun n1 J U => a1.Y1.length < n1 + U /\ U <= a1.Y1.length) (a1.Y1.length + 1) (nth a0.Zo (Zu a0.Zo a3.Key).toNat).qK 0 (fun p1 J U e1 j1 => ?_)
  refine cFf e1 ?_ ?_ <;> intro k3 h2 e1
  ·have i2 := ix h2
   have m2 := ml a1.Y1 (k3 32 _ rfl)
   have c1 := sl 2314240 a1.Y1 (an u0 (an u1 u2))
   have w1 := wr U
   simp [i2, ZI]
   refine rpS ?_
   refine dIs mixed ?_
   refine cGs (fun gg => (yY (nth a1.Y1 U))) ?_
   refine cGs (fun gg => (UI a3.Method (nth a1.Y1 U) (sg (Z4 (Zz.OL u1))))) ?_
   refine cF e1 ?_ ?_ <;> intro k5 h3 e1
   ·exact ny2 w1 e1
   refine lp2 (Ud.eq_2 a0 a1 a2 U) (fun pR pT => Y5 92 [eL 2 3 a2 ZS.row, eX 4 (a0.row.map .d), eX 7 (a3.row.map .d), eI 9 J, eL 12 5 (nth a1.Y1 U) Zf.row, eB 13 pR, eL 32 1 a1.Y1 (slR 5 Zf.row), eI 33 (a1.Y1.length : Int), eI 34 (U : Int), eL 55 5 (nth a1.Y1 U) Zf.row, eI 56 ((nth a1.Y1 U).length : Int), eI 57 (pT : Int)]) (fun n2 pR pT => (nth a1.Y1 U).length < n2 + pT /\ pT <= (nth a1.Y1 U).length) ((nth a1.Y1 U).length + 1) true 0 (fun p2 pR pT e2 j2 => ?_)
   refine cFf e2 ?_ ?_ <;> intro k7 h4 e2
   ·have i3 := ix h4
    have m4 := ml (nth a1.Y1 U) (k7 12 _ rfl)
    have c2 := sl 2314240 (nth a1.Y1 U) (an u0 (an u1 u2))
    have w2 := wr pT
    simp [i3, ZI]
    refine rpS ?_
    refine dIs mixed ?_
    refine cGs (fun gg => (UY a0.ZC (nth (nth a1.Y1 U) pT))) ?_
    refine cGs (fun gg => Yx.rd (Tx (Xd a0.ZC (nth (nth a1.Y1 U) pT)) (nth (nth a1.Y1 U) pT))) ?_
    refine cGs (fun gg => (ka a2 (xm (Xd a0.ZC (nth (nth a1.Y1 U) pT)) (nth (nth a1.Y1 U) pT)))) ?_
    exact ny2 (an w1 w2) e2
   have c3 := sl 2314240 (nth a1.Y1 U) (an u0 (an u1 u2))
   have e1 := ms e1 e2
   refine cRs (Ue a0.ZC (nth a1.Y1 U) a0.X8 (sg (ZW.XH u0)) (sg (Z4 (Zz.OL u1)))) ?_
   refine cF e1 ?_ ?_ <;> intro k9 h5 e1
   ·exact ny2 w1 e1
   exact ny2 w1 e1
  have c4 := sl 2314240 a1.Y1 (an u0 (an u1 u2))
  have f := ms f e1
  exact rt [.tmp 8] f
 refine lp2 (yw.eq_2 a0 a1 a2 a3) (fun pn oE => Y5 92 [eL 2 3 a2 ZS.row, eX 4 (a0.row.map .d), eX 7 (a3.row.map .d), eI 9 pn, eL 32 1 a1.Y1 (slR 5 Zf.row), eI 33 (a1.Y1.length : Int), eI 34 (oE : Int)]) (fun n3 pn oE => a1.Y1.length < n3 + oE /\ oE <= a1.Y1.length) (a1.Y1.length + 1) 0 0 (fun p3 pn oE e3 j3 => ?_)
 refine cFf e3 ?_ ?_ <;> intro fz h6 e3
 ·have i4 := ix h6
  have m6 := ml a1.Y1 (fz 32 _ rfl)
  have c5 := sl 2314240 a1.Y1 (an u0 (an u1 u2))
  have w3 := wr oE
  simp [i4, ZI]
  refine rpS ?_
  refine dIs mixed ?_
  refine cGs (fun gg => (yY (nth a1.Y1 oE))) ?_
  refine cGs (fun gg => (UI a3.Method (nth a1.Y1 oE) (sg (Z4 (Zz.OL u1))))) ?_
  refine cF e3 ?_ ?_ <;> intro ek h7 e3
  ·exact ny2 w3 e3
  refine lp2 (US.eq_2 a0 a1 a2 oE) (fun mj nV => Y5 92 [eL 2 3 a2 ZS.row, eX 4 (a0.row.map .d), eX 7 (a3.row.map .d), eI 9 pn, eL 12 5 (nth a1.Y1 oE) Zf.row, eB 13 mj, eL 32 1 a1.Y1 (slR 5 Zf.row), eI 33 (a1.Y1.length : Int), eI 34 (oE : Int), eL 55 5 (nth a1.Y1 oE) Zf.row, eI 56 ((nth a1.Y1 oE).length : Int), eI 57 (nV : Int)]) (fun n4 mj nV => (nth a1.Y1 oE).length < n4 + nV /\ nV <= (nth a1.Y1 oE).length) ((nth a1.Y1 oE).length + 1) true 0 (fun p4 mj nV e4 j4 => ?_)
  refine cFf e4 ?_ ?_ <;> intro aG h8 e4
  ·have i5 := ix h8
   have m8 := ml (nth a1.Y1 oE) (aG 12 _ rfl)
   have c6 := sl 2314240 (nth a1.Y1 oE) (an u0 (an u1 u2))
   have w4 := wr nV
   simp [i5, ZI]
   refine rpS ?_
   refine dIs mixed ?_
   refine cGs (fun gg => (UY a0.ZC (nth (nth a1.Y1 oE) nV))) ?_
   refine cGs (fun gg => Yx.rd (Tx (Xd a0.ZC (nth (nth a1.Y1 oE) nV)) (nth (nth a1.Y1 oE) nV))) ?_
   refine cGs (fun gg => (ka a2 (xm (Xd a0.ZC (nth (nth a1.Y1 oE) nV)) (nth (nth a1.Y1 oE) nV)))) ?_
   exact ny2 (an w3 w4) e4
  have c7 := sl 2314240 (nth a1.Y1 oE) (an u0 (an u1 u2))
  have e3 := ms e3 e4
  refine cRs (Ue a0.ZC (nth a1.Y1 oE) a0.X8 (sg (ZW.XH u0)) (sg (Z4 (Zz.OL u1)))) ?_
  refine cF e3 ?_ ?_ <;> intro k17 h9 e3
  ·exact ny2 w3 e3
  exact ny2 w3 e3
 have c8 := sl 2314240 a1.Y1 (an u0 (an u1 u2))
 have f := ms f e3
 exact rt [.tmp 8] f
theorem Ng (a0 : List ZS) (a1 : Yb) (u0 : Sm 2330624 a0) : Sd 247 [rL 3 ZS.row a0, a1.row] [rL 5 Zr.row (zT a0 a1)] := by
 have f := me (zT.eq_1 a0 a1)
 refine soD func247 ntmps247 ?_
 refine lp2 (ym.eq_2 a0 a1) (fun J U => Y5 42 [eX 3 (a1.row.map .d), (5, .one (.sref 5 0 0 J.length), [.arr false 5 (J.map Zr.row)]), eL 10 3 a0 ZS.row, eI 11 (a0.length : Int), eI 12 (U : Int)]) (fun n1 J U => a0.length < n1 + U /\ U <= a0.length /\ J.length <= 0 + 1 * U) (a0.length + 1) ([] : List Zr) 0 (fun p1 J U e1 j1 => ?_) (h0 := wkS [((5, 0), none)] [])
 refine cFf e1 ?_ ?_ <;> intro k2 h1 e1
 ·have i1 := ix h1
  have m2 := ml a0 (k2 10 _ rfl)
  have c1 := sl 2330624 a0 u0
  have w1 := wr U
  simp [i1, ZI]
  refine rpS ?_
  refine cRs (U4 (nth a0 U)) ?_
  refine cF e1 ?_ ?_ <;> intro k3 h2 e1
  ·exact nx2 e1 (hw := X1 [((5, 0), some (39, 0))] [] rfl (by simp [w1]))
  exact ny2 w1 e1
 have c2 := sl 2330624 a0 u0
 have f := ms f e1
 exact rtD [.tmp 4] f
theorem Jk (a0 : Int) (a1 : Int) (a2 : List Zl) (u0 : Sm 2326528 a2) : Lq prog 341 [rI a0, rI a1] [.sl 2 (a2.map Zl.row)] [.sl 2 ((Zv a0 a1 a2).map Zl.row)] := by
 refine AN func341 rfl (by kernel_rfl) [false] (by simp) (fun v => ?_)
 simp [ntmps341]
 refine cR (R1 a0 a1) ?_
 simp
 refine cC (yX a0 a1).2 (fun k1 h1 => ?_) (fun k1 h1 => ?_)
 ·have q1 := h1; try simp at q1
  have c1 : a2.length <= 2326528 := XN (xs u0)
  simp
  refine rpS ?_
  refine sP (lF := [(.sref 17 0 0 (a2 ++ ([(yX a0 a1).1] : List Zl)).length)]) rfl ?_ (.inr rfl)
  have f1 := Zv.eq_1 a0 a1 a2
  simp only [h1, Yf, YW] at f1
  simp [f1]
  all_goals ((rintro r (⟨a, _, rfl⟩ | rfl) x hx <;> simp at hx <;> rcases hx with rfl | rfl <;> rfl))
 ·have q1 := h1; try simp at q1
  simp
  refine sP (lF := [(.sref 2 1 0 a2.length)]) rfl ?_ (.inr rfl)
  have f2 := Zv.eq_1 a0 a1 a2
  simp only [h1, Yf, YW] at f2
  simp [f2]
  all_goals ((rintro r (⟨a, _, rfl⟩ | rfl) x hx <;> simp at hx <;> rcases hx with rfl | rfl <;> rfl))
theorem FO (a0 : List Zr) (a1 : Int) : Sa 351 [rL 5 Zr.row a0, rI a1] [rI (WZ a0 a1).1, rI (WZ a0 a1).2.1, rI (WZ a0 a1).2.2] := by
 have f := me (WZ.eq_1 a0 a1)
 refine so func351 ntmps351 ?_
 refine lp4 (Uo.eq_2 a0 a1) (fun J U pO pQ => Y5 49 [eI 1 a1, eI 7 J, eI 8 U, eI 9 pO, eL 12 5 a0 Zr.row, eI 13 (a0.length : Int), eI 14 (pQ : Int)]) (fun n1 J U pO pQ => a0.length < n1 + pQ /\ pQ <= a0.length) (a0.length + 1) (-1) (-1) (-1) 0 (fun p1 J U pO pQ e1 j1 => ?_)
 refine cFf e1 ?_ ?_ <;> intro k2 h1 e1
 ·have i1 := ix h1
  have m2 := ml a0 (k2 12 _ rfl)
  have w1 := wr pQ
  simp [i1, ZI]
  refine rpS ?_
  refine cF e1 ?_ ?_ <;> intro k3 h2 e1
  ·exact ny4 w1 e1
  refine cF e1 ?_ ?_ <;> intro k4 h3 e1
  ·exact ny4 w1 e1
  refine cF e1 ?_ ?_ <;> intro k5 h4 e1
  ·exact ny4 w1 e1
  exact ny4 w1 e1
 have f := ms f e1
 exact rt [.tmp 4, .tmp 5, .tmp 6] f
theorem Ww (a0 : List Zr) (a1 : Int) : Sa 342 [rL 5 Zr.row a0, rI a1] [rI (Qn a0 a1)] := by
 have f := me (Qn.eq_1 a0 a1)
 refine so func342 ntmps342 ?_
 refine cRs (FO a0 a1) ?_
 refine cF f ?_ ?_ <;> intro k1 h1 f
 ·exact rt [.tmp 4] f
 exact rt [.tmp 4] f
theorem Ti {a b : Prop} (h : b) (k : a := by (intros; first | omega | with_unfolding_all (first | (first | omega | (have z := XN u0; omega) | (have z := XN u0; simp at *; omega))) | ((try simp only [X9, show ∀ x, IntKind.i64.wrap x = W x from fun _ => rfl] at *); omega))) : a /\ b := ⟨k, h⟩
theorem ye {a b : Prop} (h : b) (k : a := by (intros; first | omega | with_unfolding_all (first | (first | omega | (have z := XN u0; omega) | (have z := XN u0; simp at *; omega))) | (simp_all; done) | (simp_all; omega) | grind | ((try simp only [X9, show ∀ x, IntKind.i64.wrap x = W x from fun _ => rfl] at *); omega))) : a /\ b := ⟨k, h⟩
theorem yW (a0 : List Zl) (u0 : Sm 2330624 a0) : Sd 339 [rL 2 Zl.row a0] [rL 2 Zl.row (QM a0)] := by
 have f := me (QM.eq_1 a0)
 refine soD func339 ntmps339 ?_
 refine lp2 (qz.eq_2 a0) (fun J U => Y5 85 [(3, .one (.sref 3 0 0 J.length), [.arr false 2 (J.map Zl.row)]), eL 10 2 a0 Zl.row, eI 11 (a0.length : Int), eI 12 (U : Int)]) (fun n1 J U => a0.length < n1 + U /\ U <= a0.length /\ J.length <= U) (a0.length + 1) ([] : List Zl) 0 (fun p1 J U e1 j1 => ?_) (h0 := wkS [((3, 0), none)] [])
 try dsimp only at j1
 refine cFf e1 ?_ ?_ <;> intro k2 h1 e1
 ·have i1 := ix h1
  have m2 := ml a0 (k2 10 _ rfl)
  have c1 := sl 2330624 a0 u0
  have w1 := wr U
  simp [i1, ZI]
  repeat with_reducible refine Ti ?_
  refine cRs (J5 (nth a0 U)) ?_
  refine cF e1 ?_ ?_ <;> intro k3 h2 e1
  ·exact ny2 w1 e1 (hI := by first | omega | (simp at *; omega))
  refine lp4 (jH.eq_2 J) (fun pR pT mV mn => Y5 85 [(3, .any, [.arr false 2 (J.map Zl.row)]), (5, .one (.bptr 5 0), [.box [.d (.int .i64 mV), .d (.int .i64 mn)]]), (6, .one (.sref 6 0 0 pR.length), [.arr false 2 (pR.map Zl.row)]), eL 10 2 a0 Zl.row, eI 11 (a0.length : Int), eI 12 (U : Int), (19, .one (.sref 3 0 0 J.length), []), eI 20 (J.length : Int), eI 21 (pT : Int)]) (fun n2 pR pT mV mn => J.length < n2 + pT /\ pT <= J.length /\ pR.length <= pT) (J.length + 1) ([] : List Zl) 0 (nth a0 U).X0 (nth a0 U).To (fun p2 pR pT mV mn e2 j2 => ?_) (h0 := wkS [((6, 0), none)] [])
  try dsimp only at j2
  refine cFf e2 ?_ ?_ <;> intro k5 h3 e2
  ·have i2 := ix h3
   have m4 := ml J (k5 19 _ rfl)
   have w2 := wr pT
   simp [i2, ZI]
   repeat with_reducible refine Ti ?_
   refine cFf e2 ?_ ?_ <;> intro k6 h4 e2
   ·simp
    repeat with_reducible refine Ti ?_
    exact nx4 e2 (hI := by first | omega | (simp at *; omega)) (hw := X1 [((6, 0), some (42, 0))] [] rfl (by simp [w1, w2]))
   exact ny4 (an w1 w2) e2 (hI := by first | omega | (simp at *; omega))
  have e1 := ms e1 e2
  refine lp1 (Sy.eq_2 pR mV) (fun pn => Y5 85 [(5, .one (.bptr 5 0), [.box [.d (.int .i64 mV), .d (.int .i64 mn)]]), (6, .one (.sref 6 0 0 pR.length), [.arr false 2 (pR.map Zl.row)]), eI 9 (pn : Int), eL 10 2 a0 Zl.row, eI 11 (a0.length : Int), eI 12 (U : Int)]) (fun n3 pn => pR.length < n3 + pn /\ pn <= pR.length) (pR.length + 1) 0 (fun p3 pn e3 j3 => ?_)
  try dsimp only at j3
  refine dIs mixed ?_
  refine gIo ?_ ?_ <;> intro G
  ·have nM := G
   have g1 := G; try simp at g1
   have i3 := ik pn pR
   simp [i3, ZI, G]
   repeat with_reducible refine ye ?_
   refine cKo e3 ?_ ?_ <;> intro k9 h5 e3
   ·have i4 : pn < pR.length := by (simp at h5; omega)
    have m6 := ml pR (k9 6 _ rfl)
    have w3 := wr pn
    simp [G]
    repeat with_reducible refine ye ?_
    exact ny1 (an w1 (an w3 G)) e3
   ·have e1 := ms e1 e3
    simp [G]
    repeat with_reducible refine ye ?_
    refine dIo mixed ?_
    simp [G]
    repeat with_reducible refine ye ?_
    exact nx2 e1 (hI := by first | omega | (simp at *; omega)) (hw := X1 [((3, 0), some (82, 0))] [] rfl (by simp [w1, G]))
  ·have nM := G
   simp [G]
   repeat with_reducible refine ye ?_
   refine cKo e3 ?_ ?_ <;> intro fz h6 e3
   ·simp [G] at h6
   ·have e1 := ms e1 e3
    simp [G]
    repeat with_reducible refine ye ?_
    refine dIo mixed ?_
    simp [G]
    repeat with_reducible refine ye ?_
    exact nx2 e1 (hI := by first | omega | (simp at *; omega)) (hw := X1 [((3, 0), some (82, 0))] [] rfl (by simp [w1, G]))
 have c2 := sl 2330624 a0 u0
 have f := ms f e1
 refine Cb (rv := [.tmp 2]) rfl ?_
 simp [f.h]
 all_goals ((rintro r (hr | rfl | hr) x hx <;> (first | (simp at hx; rcases hx with rfl | rfl <;> rfl) | ((first | (replace hr := List.mem_of_mem_take hr) | (replace hr := List.mem_of_mem_drop hr)); simp at hr; obtain ⟨a, _, rfl⟩ := hr; simp at hx; rcases hx with rfl | rfl <;> rfl))))
theorem GA (a0 : Yb) (a1 : List Zr) (u0 : Sm 2322432 a1) : Sd 312 [a0.row, rL 5 Zr.row a1] [rL 2 Zl.row (kZ a0 a1)] := by
 have f := me (kZ.eq_1 a0 a1)
 refine soD func312 ntmps312 ?_
 refine sS (t := 5) (cells := [.nil 2]) rfl rfl rfl rfl (by simp) (by simp) ?_
 simp
 refine cF f ?_ ?_ <;> intro k1 h1 f
 ·refine Ia (tf := 11) (u := 5) (row := [.sl 2 (([] : List Zl).map Zl.row)]) (pU := [.sl 2 ((Zv 0 (W (a0.X0 - 1)) ([] : List Zl)).map Zl.row)]) (cells := [.nil 2]) [false] rfl rfl rfl rfl (Jk 0 (W (a0.X0 - 1)) ([] : List Zl) (by (first | (exact ⟨Nat.zero_le _, fun _ _ => trivial⟩) | (refine ZL (n := 2322432) ?_; exact ⟨Nat.zero_le _, fun _ _ => trivial⟩) | (refine ZL (n := 2322432) (ZL (n := 2322432 - 1) ?_); exact ⟨Nat.zero_le _, fun _ _ => trivial⟩) | (refine Za (n := 3) (by decide) (ZL (ZL (ZL (n := 0) ?_))); exact ⟨Nat.zero_le _, fun _ _ => trivial⟩) | (refine Za (n := 2) (by decide) (ZL (ZL (n := 0) ?_)); exact ⟨Nat.zero_le _, fun _ _ => trivial⟩) | (refine Za (n := 1) (by decide) (ZL (n := 0) ?_); exact ⟨Nat.zero_le _, fun _ _ => trivial⟩)))) (by simp) (by simp) (by simp) (by simp) (by simp) (by simp) (by simp) (by simp) (by simp) (by simp) (by simp [XZ]) (by simp) (by simp) ?_
  simp
  refine cF f ?_ ?_ <;> intro k2 h2 f
  ·refine Ia (tf := 19) (u := 5) (row := [.sl 2 ((Zv 0 (W (a0.X0 - 1)) ([] : List Zl)).map Zl.row)]) (pU := [.sl 2 ((Zv (W (a0.To + 1)) 10000 (Zv 0 (W (a0.X0 - 1)) ([] : List Zl))).map Zl.row)]) (cells := [.sref 5 1 0 (Zv 0 (W (a0.X0 - 1)) ([] : List Zl)).length]) [false] rfl rfl rfl rfl (Jk (W (a0.To + 1)) 10000 (Zv 0 (W (a0.X0 - 1)) ([] : List Zl)) (by (first | (exact ⟨Nat.zero_le _, fun _ _ => trivial⟩) | (refine ZL (n := 2322432) ?_; exact ⟨Nat.zero_le _, fun _ _ => trivial⟩) | (refine ZL (n := 2322432) (ZL (n := 2322432 - 1) ?_); exact ⟨Nat.zero_le _, fun _ _ => trivial⟩) | (refine Za (n := 3) (by decide) (ZL (ZL (ZL (n := 0) ?_))); exact ⟨Nat.zero_le _, fun _ _ => trivial⟩) | (refine Za (n := 2) (by decide) (ZL (ZL (n := 0) ?_)); exact ⟨Nat.zero_le _, fun _ _ => trivial⟩) | (refine Za (n := 1) (by decide) (ZL (n := 0) ?_); exact ⟨Nat.zero_le _, fun _ _ => trivial⟩)))) (by simp) (by simp) (by simp) (by simp) (by simp) (by simp) (by simp) (by simp) (by simp) (by simp) (by simp [XZ]) (by simp) (by simp) ?_
   simp
   refine cRs (Ww a1 a0.Zn) ?_
   refine Ia (tf := 24) (u := 5) (row := [.sl 2 ((Zv (W (a0.To + 1)) 10000 (Zv 0 (W (a0.X0 - 1)) ([] : List Zl))).map Zl.row)]) (pU := [.sl 2 ((Zv (Qn a1 a0.Zn) 10000 (Zv (W (a0.To + 1)) 10000 (Zv 0 (W (a0.X0 - 1)) ([] : List Zl)))).map Zl.row)]) (cells := [.sref 5 1 0 (Zv (W (a0.To + 1)) 10000 (Zv 0 (W (a0.X0 - 1)) ([] : List Zl))).length]) [false] rfl rfl rfl rfl (Jk (Qn a1 a0.Zn) 10000 (Zv (W (a0.To + 1)) 10000 (Zv 0 (W (a0.X0 - 1)) ([] : List Zl))) (by (first | (exact ⟨Nat.zero_le _, fun _ _ => trivial⟩) | (refine ZL (n := 2322432) ?_; exact ⟨Nat.zero_le _, fun _ _ => trivial⟩) | (refine ZL (n := 2322432) (ZL (n := 2322432 - 1) ?_); exact ⟨Nat.zero_le _, fun _ _ => trivial⟩) | (refine Za (n := 3) (by decide) (ZL (ZL (ZL (n := 0) ?_))); exact ⟨Nat.zero_le _, fun _ _ => trivial⟩) | (refine Za (n := 2) (by decide) (ZL (ZL (n := 0) ?_)); exact ⟨Nat.zero_le _, fun _ _ => trivial⟩) | (refine Za (n := 1) (by decide) (ZL (n := 0) ?_); exact ⟨Nat.zero_le _, fun _ _ => trivial⟩)))) (by simp) (by simp) (by simp) (by simp) (by simp) (by simp) (by simp) (by simp) (by simp) (by simp) (by simp [XZ]) (by simp) (by simp) ?_
   simp
   refine cDs [false] (yW (Zv (Qn a1 a0.Zn) 10000 (Zv (W (a0.To + 1)) 10000 (Zv 0 (W (a0.X0 - 1)) ([] : List Zl)))) (by (first | (exact ⟨Nat.zero_le _, fun _ _ => trivial⟩) | (refine ZL (n := 2322432) ?_; exact ⟨Nat.zero_le _, fun _ _ => trivial⟩) | (refine ZL (n := 2322432) (ZL (n := 2322432 - 1) ?_); exact ⟨Nat.zero_le _, fun _ _ => trivial⟩) | (refine Za (n := 3) (by decide) (ZL (ZL (ZL (n := 0) ?_))); exact ⟨Nat.zero_le _, fun _ _ => trivial⟩) | (refine Za (n := 2) (by decide) (ZL (ZL (n := 0) ?_)); exact ⟨Nat.zero_le _, fun _ _ => trivial⟩) | (refine Za (n := 1) (by decide) (ZL (n := 0) ?_); exact ⟨Nat.zero_le _, fun _ _ => trivial⟩)))) ?_
   exact rtD [.tmp 4] f
  refine cRs (Ww a1 a0.Zn) ?_
  refine Ia (tf := 24) (u := 5) (row := [.sl 2 ((Zv 0 (W (a0.X0 - 1)) ([] : List Zl)).map Zl.row)]) (pU := [.sl 2 ((Zv (Qn a1 a0.Zn) 10000 (Zv 0 (W (a0.X0 - 1)) ([] : List Zl))).map Zl.row)]) (cells := [.sref 5 1 0 (Zv 0 (W (a0.X0 - 1)) ([] : List Zl)).length]) [false] rfl rfl rfl rfl (Jk (Qn a1 a0.Zn) 10000 (Zv 0 (W (a0.X0 - 1)) ([] : List Zl)) (by (first | (exact ⟨Nat.zero_le _, fun _ _ => trivial⟩) | (refine ZL (n := 2322432) ?_; exact ⟨Nat.zero_le _, fun _ _ => trivial⟩) | (refine ZL (n := 2322432) (ZL (n := 2322432 - 1) ?_); exact ⟨Nat.zero_le _, fun _ _ => trivial⟩) | (refine Za (n := 3) (by decide) (ZL (ZL (ZL (n := 0) ?_))); exact ⟨Nat.zero_le _, fun _ _ => trivial⟩) | (refine Za (n := 2) (by decide) (ZL (ZL (n := 0) ?_)); exact ⟨Nat.zero_le _, fun _ _ => trivial⟩) | (refine Za (n := 1) (by decide) (ZL (n := 0) ?_); exact ⟨Nat.zero_le _, fun _ _ => trivial⟩)))) (by simp) (by simp) (by simp) (by simp) (by simp) (by simp) (by simp) (by simp) (by simp) (by simp) (by simp [XZ]) (by simp) (by simp) ?_
  simp
  refine cDs [false] (yW (Zv (Qn a1 a0.Zn) 10000 (Zv 0 (W (a0.X0 - 1)) ([] : List Zl))) (by (first | (exact ⟨Nat.zero_le _, fun _ _ => trivial⟩) | (refine ZL (n := 2322432) ?_; exact ⟨Nat.zero_le _, fun _ _ => trivial⟩) | (refine ZL (n := 2322432) (ZL (n := 2322432 - 1) ?_); exact ⟨Nat.zero_le _, fun _ _ => trivial⟩) | (refine Za (n := 3) (by decide) (ZL (ZL (ZL (n := 0) ?_))); exact ⟨Nat.zero_le _, fun _ _ => trivial⟩) | (refine Za (n := 2) (by decide) (ZL (ZL (n := 0) ?_)); exact ⟨Nat.zero_le _, fun _ _ => trivial⟩) | (refine Za (n := 1) (by decide) (ZL (n := 0) ?_); exact ⟨Nat.zero_le _, fun _ _ => trivial⟩)))) ?_
  exact rtD [.tmp 4] f
 refine cF f ?_ ?_ <;> intro k3 h3 f
 ·refine Ia (tf := 19) (u := 5) (row := [.sl 2 (([] : List Zl).map Zl.row)]) (pU := [.sl 2 ((Zv (W (a0.To + 1)) 10000 ([] : List Zl)).map Zl.row)]) (cells := [.nil 2]) [false] rfl rfl rfl rfl (Jk (W (a0.To + 1)) 10000 ([] : List Zl) (by (first | (exact ⟨Nat.zero_le _, fun _ _ => trivial⟩) | (refine ZL (n := 2322432) ?_; exact ⟨Nat.zero_le _, fun _ _ => trivial⟩) | (refine ZL (n := 2322432) (ZL (n := 2322432 - 1) ?_); exact ⟨Nat.zero_le _, fun _ _ => trivial⟩) | (refine Za (n := 3) (by decide) (ZL (ZL (ZL (n := 0) ?_))); exact ⟨Nat.zero_le _, fun _ _ => trivial⟩) | (refine Za (n := 2) (by decide) (ZL (ZL (n := 0) ?_)); exact ⟨Nat.zero_le _, fun _ _ => trivial⟩) | (refine Za (n := 1) (by decide) (ZL (n := 0) ?_); exact ⟨Nat.zero_le _, fun _ _ => trivial⟩)))) (by simp) (by simp) (by simp) (by simp) (by simp) (by simp) (by simp) (by simp) (by simp) (by simp) (by simp [XZ]) (by simp) (by simp) ?_
  simp
  refine cRs (Ww a1 a0.Zn) ?_
  refine Ia (tf := 24) (u := 5) (row := [.sl 2 ((Zv (W (a0.To + 1)) 10000 ([] : List Zl)).map Zl.row)]) (pU := [.sl 2 ((Zv (Qn a1 a0.Zn) 10000 (Zv (W (a0.To + 1)) 10000 ([] : List Zl))).map Zl.row)]) (cells := [.sref 5 1 0 (Zv (W (a0.To + 1)) 10000 ([] : List Zl)).length]) [false] rfl rfl rfl rfl (Jk (Qn a1 a0.Zn) 10000 (Zv (W (a0.To + 1)) 10000 ([] : List Zl)) (by (first | (exact ⟨Nat.zero_le _, fun _ _ => trivial⟩) | (refine ZL (n := 2322432) ?_; exact ⟨Nat.zero_le _, fun _ _ => trivial⟩) | (refine ZL (n := 2322432) (ZL (n := 2322432 - 1) ?_); exact ⟨Nat.zero_le _, fun _ _ => trivial⟩) | (refine Za (n := 3) (by decide) (ZL (ZL (ZL (n := 0) ?_))); exact ⟨Nat.zero_le _, fun _ _ => trivial⟩) | (refine Za (n := 2) (by decide) (ZL (ZL (n := 0) ?_)); exact ⟨Nat.zero_le _, fun _ _ => trivial⟩) | (refine Za (n := 1) (by decide) (ZL (n := 0) ?_); exact ⟨Nat.zero_le _, fun _ _ => trivial⟩)))) (by simp) (by simp) (by simp) (by simp) (by simp) (by simp) (by simp) (by simp) (by simp) (by simp) (by simp [XZ]) (by simp) (by simp) ?_
  simp
  refine cDs [false] (yW (Zv (Qn a1 a0.Zn) 10000 (Zv (W (a0.To + 1)) 10000 ([] : List Zl))) (by (first | (exact ⟨Nat.zero_le _, fun _ _ => trivial⟩) | (refine ZL (n := 2322432) ?_; exact ⟨Nat.zero_le _, fun _ _ => trivial⟩) | (refine ZL (n := 2322432) (ZL (n := 2322432 - 1) ?_); exact ⟨Nat.zero_le _, fun _ _ => trivial⟩) | (refine Za (n := 3) (by decide) (ZL (ZL (ZL (n := 0) ?_))); exact ⟨Nat.zero_le _, fun _ _ => trivial⟩) | (refine Za (n := 2) (by decide) (ZL (ZL (n := 0) ?_)); exact ⟨Nat.zero_le _, fun _ _ => trivial⟩) | (refine Za (n := 1) (by decide) (ZL (n := 0) ?_); exact ⟨Nat.zero_le _, fun _ _ => trivial⟩)))) ?_
  exact rtD [.tmp 4] f
 refine cRs (Ww a1 a0.Zn) ?_
 refine Ia (tf := 24) (u := 5) (row := [.sl 2 (([] : List Zl).map Zl.row)]) (pU := [.sl 2 ((Zv (Qn a1 a0.Zn) 10000 ([] : List Zl)).map Zl.row)]) (cells := [.nil 2]) [false] rfl rfl rfl rfl (Jk (Qn a1 a0.Zn) 10000 ([] : List Zl) (by (first | (exact ⟨Nat.zero_le _, fun _ _ => trivial⟩) | (refine ZL (n := 2322432) ?_; exact ⟨Nat.zero_le _, fun _ _ => trivial⟩) | (refine ZL (n := 2322432) (ZL (n := 2322432 - 1) ?_); exact ⟨Nat.zero_le _, fun _ _ => trivial⟩) | (refine Za (n := 3) (by decide) (ZL (ZL (ZL (n := 0) ?_))); exact ⟨Nat.zero_le _, fun _ _ => trivial⟩) | (refine Za (n := 2) (by decide) (ZL (ZL (n := 0) ?_)); exact ⟨Nat.zero_le _, fun _ _ => trivial⟩) | (refine Za (n := 1) (by decide) (ZL (n := 0) ?_); exact ⟨Nat.zero_le _, fun _ _ => trivial⟩)))) (by simp) (by simp) (by simp) (by simp) (by simp) (by simp) (by simp) (by simp) (by simp) (by simp) (by simp [XZ]) (by simp) (by simp) ?_
 simp
 refine cDs [false] (yW (Zv (Qn a1 a0.Zn) 10000 ([] : List Zl)) (by (first | (exact ⟨Nat.zero_le _, fun _ _ => trivial⟩) | (refine ZL (n := 2322432) ?_; exact ⟨Nat.zero_le _, fun _ _ => trivial⟩) | (refine ZL (n := 2322432) (ZL (n := 2322432 - 1) ?_); exact ⟨Nat.zero_le _, fun _ _ => trivial⟩) | (refine Za (n := 3) (by decide) (ZL (ZL (ZL (n := 0) ?_))); exact ⟨Nat.zero_le _, fun _ _ => trivial⟩) | (refine Za (n := 2) (by decide) (ZL (ZL (n := 0) ?_)); exact ⟨Nat.zero_le _, fun _ _ => trivial⟩) | (refine Za (n := 1) (by decide) (ZL (n := 0) ?_); exact ⟨Nat.zero_le _, fun _ _ => trivial⟩)))) ?_
 exact rtD [.tmp 4] f
theorem GF (a0 : Zl) (a1 : Zl) : Sa 340 [a0.row, a1.row] [rB (Pp a0 a1)] := by
 have f := me (Pp.eq_1 a0 a1)
 refine so func340 ntmps340 ?_
 refine cRs (J5 a0) ?_
 refine cGs (fun gg => (J5 a1)) ?_
 exact rt [.tmp 4] f
theorem WX (a0 : List Zl) (a1 : Zl) (u0 : Sm 2326528 a0) : Sa 311 [rL 2 Zl.row a0, a1.row] [rB (js a0 a1)] := by
 have f := me (js.eq_1 a0 a1)
 refine so func311 ntmps311 ?_
 refine cRs (Yx.rd (yW a0 (sg u0))) ?_
 refine lp1 (VL.eq_2 a0 a1) (fun J => Y5 18 [eX 3 (a1.row.map .d), eL 8 2 (QM a0) Zl.row, eI 9 ((QM a0).length : Int), eI 10 (J : Int)]) (fun n1 J => (QM a0).length < n1 + J /\ J <= (QM a0).length) ((QM a0).length + 1) 0 (fun p1 J e1 j1 => ?_)
 refine cFf e1 ?_ ?_ <;> intro k2 h1 e1
 ·have i1 := ix h1
  have m2 := ml (QM a0) (k2 8 _ rfl)
  have w1 := wr J
  simp [i1, ZI]
  refine rpS ?_
  refine cRs (GF a1 (nth (QM a0) J)) ?_
  refine cF e1 ?_ ?_ <;> intro k3 h2 e1
  ·have f := ms f e1
   exact rt [.tmp 4] f
  exact ny1 w1 e1
 have f := ms f e1
 exact rt [.tmp 4] f
theorem GC (a0 : Yb) (a1 : List Zr) (a2 : Zl) (u0 : Sm 2318336 a1) : Sa 248 [a0.row, rL 5 Zr.row a1, a2.row] [rB (Pv a0 a1 a2)] := by
 have f := me (Pv.eq_1 a0 a1 a2)
 refine so func248 ntmps248 ?_
 refine dIs mixed ?_
 refine cRs (Yx.rd (GA a0 a1 (sg u0))) ?_
 refine cRs (WX (kZ a0 a1) a2 (by exact GR (by decide))) ?_
 exact rt [.tmp 6] f
theorem Hf (a0 : List Zr) (a1 : Int) : Sa 344 [rL 5 Zr.row a0, rI a1] [rI (UF a0 a1)] := by
 have f := me (UF.eq_1 a0 a1)
 refine so func344 ntmps344 ?_
 refine cRs (FO a0 a1) ?_
 refine cF f ?_ ?_ <;> intro k1 h1 f
 ·exact rt [.tmp 4] f
 exact rt [.tmp 4] f
theorem HP (a0 : Zl) (a1 : Zl) : Sa 352 [a0.row, a1.row] [(xa a0 a1).1.row, rB (xa a0 a1).2] := by
 have f := me (xa.eq_1 a0 a1)
 refine so func352 ntmps352 ?_
 refine cRs (J5 a0) ?_
 refine cGs (fun gg => (J5 a1)) ?_
 refine cGs (fun gg => (J5 (Zl.mk (if a1.X0 > a0.X0 then a1.X0 else a0.X0) (if a1.To < a0.To then a1.To else a0.To)))) ?_
 refine cF f ?_ ?_ <;> intro k1 h1 f
 ·exact rt [.cell 4 59, .tmp 5] f
 exact rt [.cell 4 59, .tmp 5] f
theorem TX {a b : Prop} (h : b) (k : a := by (intros; first | omega | with_unfolding_all (first | (first | omega | (simp at *; omega))) | ((try simp only [X9, show ∀ x, IntKind.i64.wrap x = W x from fun _ => rfl] at *); omega))) : a /\ b := ⟨k, h⟩
theorem Eg (a0 : List Zl) (a1 : List Zl) (u0 : Sm 2326528 a0) (u1 : Sm 2326528 a1) (u2 : a0.length <= 1 /\ a1.length <= 1) : Sd 343 [rL 2 Zl.row a0, rL 2 Zl.row a1] [rL 2 Zl.row (RU a0 a1)] := by
 have f := me (RU.eq_1 a0 a1)
 refine soD func343 ntmps343 ?_
 refine lp2 (SA.eq_2 a0 a1) (fun J U => Y5 39 [eL 1 2 a1 Zl.row, (5, .one (.sref 5 0 0 J.length), [.arr false 2 (J.map Zl.row)]), eL 12 2 a0 Zl.row, eI 13 (a0.length : Int), eI 14 (U : Int)]) (fun n1 J U => a0.length < n1 + U /\ U <= a0.length /\ J.length <= U) (a0.length + 1) ([] : List Zl) 0 (fun p1 J U e1 j1 => ?_) (h0 := wkS [((5, 0), none)] [])
 try dsimp only at j1
 refine cFf e1 ?_ ?_ <;> intro k2 h1 e1
 ·have i1 := ix h1
  have m2 := ml a0 (k2 12 _ rfl)
  have c1 := sl 2326528 a0 (an u0 (an u1 u2))
  have w1 := wr U
  simp [i1, ZI]
  repeat with_reducible refine TX ?_
  refine lp2 (Vv.eq_2 a0 a1 U) (fun pR pT => Y5 39 [eL 1 2 a1 Zl.row, (5, .one (.sref 5 0 0 pR.length), [.arr false 2 (pR.map Zl.row)]), eX 7 ((nth a0 U).row.map .d), eL 12 2 a0 Zl.row, eI 13 (a0.length : Int), eI 14 (U : Int), eL 18 2 a1 Zl.row, eI 19 (a1.length : Int), eI 20 (pT : Int)]) (fun n2 pR pT => a1.length < n2 + pT /\ pT <= a1.length /\ pR.length <= U + pT) (a1.length + 1) J 0 (fun p2 pR pT e2 j2 => ?_)
  try dsimp only at j2
  refine cFf e2 ?_ ?_ <;> intro k4 h2 e2
  ·have i2 := ix h2
   have m4 := ml a1 (k4 1 _ rfl)
   have c2 := sl 2326528 a1 (an u0 (an u1 u2))
   have w2 := wr pT
   simp [i2, ZI]
   repeat with_reducible refine TX ?_
   refine cRs (HP (nth a0 U) (nth a1 pT)) ?_
   refine cFf e2 ?_ ?_ <;> intro k5 h3 e2
   ·simp
    repeat with_reducible refine TX ?_
    exact nx2 e2 (hI := by first | omega | (simp at *; omega)) (hw := X1 [((5, 0), some (34, 0))] [] rfl (by simp [w1, w2]))
   exact ny2 (an w1 w2) e2 (hI := by first | omega | (simp at *; omega))
  have c3 := sl 2326528 a1 (an u0 (an u1 u2))
  have e1 := ms e1 e2
  exact ny2 w1 e1
 have c4 := sl 2326528 a0 (an u0 (an u1 u2))
 have f := ms f e1
 refine cDs [false] (yW J (by exact ⟨by omega, fun _ _ => trivial⟩)) ?_
 exact rtD [.tmp 4] f
theorem Hc (a0 : Yb) (a1 : List Zr) (u0 : Sm 2322432 a1) : Sd 313 [a0.row, rL 5 Zr.row a1] [rL 2 Zl.row (jB a0 a1)] := by
 have f := me (jB.eq_1 a0 a1)
 refine soD func313 ntmps313 ?_
 refine dIs mixed ?_
 refine cRs (PF a0) ?_
 refine cRs (Hf a1 a0.Zn) ?_
 refine cDs [false] (Eg ([(xg a0)] : List Zl) ([(Zl.mk 0 (UF a1 a0.Zn))] : List Zl) (by simp (maxDischargeDepth := 12) [xB, Xo, Za (m := 2326528) (by decide) u0]; try omega) (by simp (maxDischargeDepth := 12) [xB, Xo, Za (m := 2326528) (by decide) u0]; try omega) (by exact ⟨Nat.le_refl _, Nat.le_refl _⟩)) ?_
 exact rtD [.tmp 4] f
theorem LN (a0 : Yb) (a1 : List Zr) (a2 : Zl) (u0 : Sm 2318336 a1) : Sa 249 [a0.row, rL 5 Zr.row a1, a2.row] [rB (TV a0 a1 a2)] := by
 have f := me (TV.eq_1 a0 a1 a2)
 refine so func249 ntmps249 ?_
 refine dIs mixed ?_
 refine cRs (Yx.rd (Hc a0 a1 (sg u0))) ?_
 refine cRs (WX (jB a0 a1) a2 (by exact I6 (by decide))) ?_
 exact rt [.tmp 6] f
theorem My (a0 : List ZS) (u0 : Sm 2330624 a0) : Sd 251 [rL 3 ZS.row a0] [rL 6 XL.row (jP a0)] := by
 have f := me (jP.eq_1 a0)
 refine soD func251 ntmps251 ?_
 refine lp2 (xd.eq_2 a0) (fun J U => Y5 26 [(3, .one (.sref 3 0 0 J.length), [.arr false 6 (J.map XL.row)]), eL 8 3 a0 ZS.row, eI 9 (a0.length : Int), eI 10 (U : Int)]) (fun n1 J U => a0.length < n1 + U /\ U <= a0.length /\ J.length <= 0 + 1 * U) (a0.length + 1) ([] : List XL) 0 (fun p1 J U e1 j1 => ?_) (h0 := wkS [((3, 0), none)] [])
 refine cFf e1 ?_ ?_ <;> intro k2 h1 e1
 ·have i1 := ix h1
  have m2 := ml a0 (k2 8 _ rfl)
  have c1 := sl 2330624 a0 u0
  have w1 := wr U
  simp [i1, ZI]
  refine rpS ?_
  refine cRs (Vy (nth a0 U)) ?_
  refine cF e1 ?_ ?_ <;> intro k3 h2 e1
  ·exact nx2 e1 (hw := X1 [((3, 0), some (23, 0))] [] rfl (by simp [w1]))
  exact ny2 w1 e1
 have c2 := sl 2330624 a0 u0
 have f := ms f e1
 exact rtD [.tmp 2] f
theorem L3 (a0 : XL) : Sa 353 [a0.row] [rB (RD a0)] := by
 have f := me (RD.eq_1 a0)
 refine so func353 ntmps353 ?_
 refine cRs (Z3 a0.Org 1 99) ?_
 refine cGs (fun gg => (Z3 a0.Ns 0 99)) ?_
 refine cGs (fun gg => (Z3 a0.Key 1 99)) ?_
 refine cGs (fun gg => (J5 (Zl.mk a0.X0 a0.To))) ?_
 exact rt [.tmp 2] f
theorem N6 (a0 : XL) : Sd 354 [a0.row] [rL 1 iR (zV a0)] := by
 have f := me (zV.eq_1 a0)
 refine soD func354 ntmps354 ?_
 exact rtD [.tmp 2] f
theorem Oh (a0 : List Yp) (a1 : XL) (u0 : Sm 2314240 a0) : Sa 345 [rL 5 Yp.row a0, a1.row] [rB (VF a0 a1)] := by
 have f := me (VF.eq_1 a0 a1)
 refine so func345 ntmps345 ?_
 refine dIs mixed ?_
 refine cRs (L3 a1) ?_
 refine cGs (fun gg => (Ow a0 a1.Key)) ?_
 refine cGs (fun gg => Yx.rd (N6 a1)) ?_
 refine cGs (fun gg => (JM a0 a1.Key (zV a1) a1.Mark (sg u0) (by simp (maxDischargeDepth := 12) [NT, Za (m := 2318336) (by decide) u0]; try omega))) ?_
 exact rt [.tmp 4] f
theorem O1 (a0 : List Yp) (a1 : List XL) (a2 : Int) (a3 : Int) (u0 : Sm 2310144 a0) (u1 : Sm 2310144 a1) : Sd 314 [rL 5 Yp.row a0, rL 6 XL.row a1, rI a2, rI a3] [rL 2 Zl.row (xZ a0 a1 a2 a3)] := by
 have f := me (xZ.eq_1 a0 a1 a2 a3)
 refine soD func314 ntmps314 ?_
 refine lp2 (yF.eq_2 a0 a1 a2 a3) (fun J U => Y5 44 [eL 0 5 a0 Yp.row, eI 2 a2, eI 3 a3, (9, .one (.sref 9 0 0 J.length), [.arr false 2 (J.map Zl.row)]), eL 12 6 a1 XL.row, eI 13 (a1.length : Int), eI 14 (U : Int)]) (fun n1 J U => a1.length < n1 + U /\ U <= a1.length /\ J.length <= 0 + 1 * U) (a1.length + 1) ([] : List Zl) 0 (fun p1 J U e1 j1 => ?_) (h0 := wkS [((9, 0), none)] [])
 refine cFf e1 ?_ ?_ <;> intro k2 h1 e1
 ·have i1 := ix h1
  have m2 := ml a1 (k2 12 _ rfl)
  have c1 := sl 2310144 a1 (an u0 u1)
  have w1 := wr U
  simp [i1, ZI]
  refine rpS ?_
  refine cGs (fun gg => (Oh a0 (nth a1 U) (sg u0))) ?_
  refine cF e1 ?_ ?_ <;> intro k3 h2 e1
  ·exact nx2 e1 (hw := X1 [((9, 0), some (40, 0))] [] rfl (by simp [w1]))
  exact ny2 w1 e1
 have c2 := sl 2310144 a1 (an u0 u1)
 have f := ms f e1
 refine cDs [false] (yW J (by first | (simp (maxDischargeDepth := 12) [Xo]; omega) | (simp (maxDischargeDepth := 12) [Za (m := 2330624) (by decide) u0, Za (m := 2330624) (by decide) u1]; done))) ?_
 exact rtD [.tmp 8] f
theorem LH (a0 : List Yp) (a1 : List XL) (a2 : Int) (a3 : Int) (a4 : Zl) (u0 : Sm 2306048 a0) (u1 : Sm 2306048 a1) : Sa 250 [rL 5 Yp.row a0, rL 6 XL.row a1, rI a2, rI a3, a4.row] [rB (Td a0 a1 a2 a3 a4)] := by
 have f := me (Td.eq_1 a0 a1 a2 a3 a4)
 refine so func250 ntmps250 ?_
 refine dIs mixed ?_
 refine cGs (fun gg => (J5 a4)) ?_
 refine cGs (fun gg => Yx.rd (O1 a0 a1 a2 a3 (by first | exact sg u0 | exact sg u1) (by first | exact sg u0 | exact sg u1))) ?_
 refine cGs (fun gg => (WX (xZ a0 a1 a2 a3) a4 (by exact ND (by have z := XN u1; omega)))) ?_
 refine ⟨by by_cases h : a2 = 0 <;> simp [h], ?_⟩
 exact rt [.tmp 10] f
theorem OD (a0 : ZW) (a1 : Zz) (a2 : List (List Int)) (a3 : Int) (a4 : Zq) (u0 : Sm 2281472 a0) (u1 : Sm 2281472 a1) (u2 : Sm 2281472 a2) (u3 : vi a1 <= 2097152) : Sa 164 [a0.row, a1.row, rL 1 (slR 1 iR) a2, rI a3, a4.row] [(z9 a0 a1 a2 a3 a4).row] := by
 have f := me (z9.eq_1 a0 a1 a2 a3 a4)
 refine so func164 ntmps164 ?_
 refine cRs (EZ a0) ?_
 refine cF f ?_ ?_ <;> intro k1 h1 f
 ·refine cRs (W1 1) ?_
  exact rt [.cell 10 61] f
 refine cRs (Ut a4) ?_
 refine cF f ?_ ?_ <;> intro k2 h2 f
 ·refine cRs (Tj 1) ?_
  exact rt [.cell 10 61] f
 refine cF f ?_ ?_ <;> intro k3 h3 f
 ·refine cRs (W1 2) ?_
  exact rt [.cell 10 61] f
 refine cF f ?_ ?_ <;> intro k4 h4 f
 ·refine cRs (Tj 2) ?_
  exact rt [.cell 10 61] f
 refine cRs (yO a0.Zo a4.Key) ?_
 refine cF f ?_ ?_ <;> intro k5 h5 f
 ·refine cRs (W1 3) ?_
  exact rt [.cell 10 61] f
 refine cRs (Rp a0.Zo a4 (by (first | exact sg (Yy (n := 2281472) (by decide)) | exact sg u0 | exact sg u1 | exact sg u2 | exact u3 | exact sg (ZW.XY u0) | exact sg (ZW.Xm u0) | exact sg (ZX (K := 2281472) u1 u3 (by decide)) | exact sg (Yh (ZX (K := 2281472) u1 u3 (by decide))) | exact sg (Yn (ZX (K := 2281472) u1 u3 (by decide)))))) ?_
 refine cF f ?_ ?_ <;> intro k6 h6 f
 ·refine cRs (Tj 4) ?_
  exact rt [.cell 10 61] f
 refine dIs mixed ?_
 refine cRs (Yx.rd (Lv a4)) ?_
 refine cRs (VP a0 a1 a2 (Y6 a4) (by (first | exact sg (Yy (n := 2281472) (by decide)) | exact sg u0 | exact sg u1 | exact sg u2 | exact u3 | exact sg (ZW.XY u0) | exact sg (ZW.Xm u0) | exact sg (ZX (K := 2281472) u1 u3 (by decide)) | exact sg (Yh (ZX (K := 2281472) u1 u3 (by decide))) | exact sg (Yn (ZX (K := 2281472) u1 u3 (by decide))))) (by (first | exact sg (Yy (n := 2281472) (by decide)) | exact sg u0 | exact sg u1 | exact sg u2 | exact u3 | exact sg (ZW.XY u0) | exact sg (ZW.Xm u0) | exact sg (ZX (K := 2281472) u1 u3 (by decide)) | exact sg (Yh (ZX (K := 2281472) u1 u3 (by decide))) | exact sg (Yn (ZX (K := 2281472) u1 u3 (by decide))))) (by (first | exact sg (Yy (n := 2281472) (by decide)) | exact sg u0 | exact sg u1 | exact sg u2 | exact u3 | exact sg (ZW.XY u0) | exact sg (ZW.Xm u0) | exact sg (ZX (K := 2281472) u1 u3 (by decide)) | exact sg (Yh (ZX (K := 2281472) u1 u3 (by decide))) | exact sg (Yn (ZX (K := 2281472) u1 u3 (by decide))))) (by (first | exact sg (Yy (n := 2281472) (by decide)) | exact sg u0 | exact sg u1 | exact sg u2 | exact u3 | exact sg (ZW.XY u0) | exact sg (ZW.Xm u0) | exact sg (ZX (K := 2281472) u1 u3 (by decide)) | exact sg (Yh (ZX (K := 2281472) u1 u3 (by decide))) | exact sg (Yn (ZX (K := 2281472) u1 u3 (by decide)))))) ?_
 refine cRs (WQ a0 a4.Key) ?_
 refine cGs (fun gg => (Wl a0.Methods a4.Method)) ?_
 refine cF f ?_ ?_ <;> intro k8 h7 f
 ·refine cRs (W1 5) ?_
  exact rt [.cell 10 61] f
 refine cRs (OX a0 a1 a2 (by (first | exact sg (Yy (n := 2281472) (by decide)) | exact sg u0 | exact sg u1 | exact sg u2 | exact u3 | exact sg (ZW.XY u0) | exact sg (ZW.Xm u0) | exact sg (ZX (K := 2281472) u1 u3 (by decide)) | exact sg (Yh (ZX (K := 2281472) u1 u3 (by decide))) | exact sg (Yn (ZX (K := 2281472) u1 u3 (by decide))))) (by (first | exact sg (Yy (n := 2281472) (by decide)) | exact sg u0 | exact sg u1 | exact sg u2 | exact u3 | exact sg (ZW.XY u0) | exact sg (ZW.Xm u0) | exact sg (ZX (K := 2281472) u1 u3 (by decide)) | exact sg (Yh (ZX (K := 2281472) u1 u3 (by decide))) | exact sg (Yn (ZX (K := 2281472) u1 u3 (by decide))))) (by (first | exact sg (Yy (n := 2281472) (by decide)) | exact sg u0 | exact sg u1 | exact sg u2 | exact u3 | exact sg (ZW.XY u0) | exact sg (ZW.Xm u0) | exact sg (ZX (K := 2281472) u1 u3 (by decide)) | exact sg (Yh (ZX (K := 2281472) u1 u3 (by decide))) | exact sg (Yn (ZX (K := 2281472) u1 u3 (by decide))))) (by (first | exact sg (Yy (n := 2281472) (by decide)) | exact sg u0 | exact sg u1 | exact sg u2 | exact u3 | exact sg (ZW.XY u0) | exact sg (ZW.Xm u0) | exact sg (ZX (K := 2281472) u1 u3 (by decide)) | exact sg (Yh (ZX (K := 2281472) u1 u3 (by decide))) | exact sg (Yn (ZX (K := 2281472) u1 u3 (by decide)))))) ?_
 refine cRs (ER a0 (Zy a0 a1 a2) a4 (by (first | exact sg (Yy (n := 2281472) (by decide)) | exact sg u0 | exact sg u1 | exact sg u2 | exact u3 | exact sg (ZW.XY u0) | exact sg (ZW.Xm u0) | exact sg (ZX (K := 2281472) u1 u3 (by decide)) | exact sg (Yh (ZX (K := 2281472) u1 u3 (by decide))) | exact sg (Yn (ZX (K := 2281472) u1 u3 (by decide))))) (by (first | exact sg (Yy (n := 2281472) (by decide)) | exact sg u0 | exact sg u1 | exact sg u2 | exact u3 | exact sg (ZW.XY u0) | exact sg (ZW.Xm u0) | exact sg (ZX (K := 2281472) u1 u3 (by decide)) | exact sg (Yh (ZX (K := 2281472) u1 u3 (by decide))) | exact sg (Yn (ZX (K := 2281472) u1 u3 (by decide)))))) ?_
 refine cF f ?_ ?_ <;> intro k9 h8 f
 ·refine cRs (W1 6) ?_
  exact rt [.cell 10 61] f
 refine cRs (IC a0 a1 (Zy a0 a1 a2) a4 (by (first | exact sg (Yy (n := 2281472) (by decide)) | exact sg u0 | exact sg u1 | exact sg u2 | exact u3 | exact sg (ZW.XY u0) | exact sg (ZW.Xm u0) | exact sg (ZX (K := 2281472) u1 u3 (by decide)) | exact sg (Yh (ZX (K := 2281472) u1 u3 (by decide))) | exact sg (Yn (ZX (K := 2281472) u1 u3 (by decide))))) (by (first | exact sg (Yy (n := 2281472) (by decide)) | exact sg u0 | exact sg u1 | exact sg u2 | exact u3 | exact sg (ZW.XY u0) | exact sg (ZW.Xm u0) | exact sg (ZX (K := 2281472) u1 u3 (by decide)) | exact sg (Yh (ZX (K := 2281472) u1 u3 (by decide))) | exact sg (Yn (ZX (K := 2281472) u1 u3 (by decide))))) (by (first | exact sg (Yy (n := 2281472) (by decide)) | exact sg u0 | exact sg u1 | exact sg u2 | exact u3 | exact sg (ZW.XY u0) | exact sg (ZW.Xm u0) | exact sg (ZX (K := 2281472) u1 u3 (by decide)) | exact sg (Yh (ZX (K := 2281472) u1 u3 (by decide))) | exact sg (Yn (ZX (K := 2281472) u1 u3 (by decide)))))) ?_
 refine cF f ?_ ?_ <;> intro fy h9 f
 ·refine cRs (W1 7) ?_
  exact rt [.cell 10 61] f
 refine cRs (Yx.rd (Ng (Zy a0 a1 a2) (Jf a0 (Zy a0 a1 a2) a4).1 (by (first | exact sg (Yy (n := 2281472) (by decide)) | exact sg u0 | exact sg u1 | exact sg u2 | exact u3 | exact sg (ZW.XY u0) | exact sg (ZW.Xm u0) | exact sg (ZX (K := 2281472) u1 u3 (by decide)) | exact sg (Yh (ZX (K := 2281472) u1 u3 (by decide))) | exact sg (Yn (ZX (K := 2281472) u1 u3 (by decide))))))) ?_
 refine cRs (GC (Jf a0 (Zy a0 a1 a2) a4).1 (zT (Zy a0 a1 a2) (Jf a0 (Zy a0 a1 a2) a4).1) (Zl.mk (X5 a0 a1 (Zy a0 a1 a2) a4) (Yk a0 a1 a2 (Y6 a4))) (by (first | exact sg (Yy (n := 2281472) (by decide)) | exact sg u0 | exact sg u1 | exact sg u2 | exact u3 | exact sg (ZW.XY u0) | exact sg (ZW.Xm u0) | exact sg (ZX (K := 2281472) u1 u3 (by decide)) | exact sg (Yh (ZX (K := 2281472) u1 u3 (by decide))) | exact sg (Yn (ZX (K := 2281472) u1 u3 (by decide)))))) ?_
 refine cF f ?_ ?_ <;> intro fz ia f
 ·exact rt [.cell 10 61] f
 refine cRs (LN (Jf a0 (Zy a0 a1 a2) a4).1 (zT (Zy a0 a1 a2) (Jf a0 (Zy a0 a1 a2) a4).1) (Zl.mk (X5 a0 a1 (Zy a0 a1 a2) a4) (Yk a0 a1 a2 (Y6 a4))) (by (first | exact sg (Yy (n := 2281472) (by decide)) | exact sg u0 | exact sg u1 | exact sg u2 | exact u3 | exact sg (ZW.XY u0) | exact sg (ZW.Xm u0) | exact sg (ZX (K := 2281472) u1 u3 (by decide)) | exact sg (Yh (ZX (K := 2281472) u1 u3 (by decide))) | exact sg (Yn (ZX (K := 2281472) u1 u3 (by decide)))))) ?_
 refine cF f ?_ ?_ <;> intro k12 bA f
 ·exact rt [.cell 10 61] f
 refine dIs mixed ?_
 refine cRs (Yx.rd (My (Zy a0 a1 a2) (by (first | exact sg (Yy (n := 2281472) (by decide)) | exact sg u0 | exact sg u1 | exact sg u2 | exact u3 | exact sg (ZW.XY u0) | exact sg (ZW.Xm u0) | exact sg (ZX (K := 2281472) u1 u3 (by decide)) | exact sg (Yh (ZX (K := 2281472) u1 u3 (by decide))) | exact sg (Yn (ZX (K := 2281472) u1 u3 (by decide))))))) ?_
 refine cRs (LH a0.Zo (jP (Zy a0 a1 a2)) a4.Org (Jf a0 (Zy a0 a1 a2) a4).1.Kr (Zl.mk (X5 a0 a1 (Zy a0 a1 a2) a4) (Yk a0 a1 a2 (Y6 a4))) (by (first | exact sg (Yy (n := 2281472) (by decide)) | exact sg u0 | exact sg u1 | exact sg u2 | exact u3 | exact sg (ZW.XY u0) | exact sg (ZW.Xm u0) | exact sg (ZX (K := 2281472) u1 u3 (by decide)) | exact sg (Yh (ZX (K := 2281472) u1 u3 (by decide))) | exact sg (Yn (ZX (K := 2281472) u1 u3 (by decide))))) (by (first | exact sg (Yy (n := 2281472) (by decide)) | exact sg u0 | exact sg u1 | exact sg u2 | exact u3 | exact sg (ZW.XY u0) | exact sg (ZW.Xm u0) | exact sg (ZX (K := 2281472) u1 u3 (by decide)) | exact sg (Yh (ZX (K := 2281472) u1 u3 (by decide))) | exact sg (Yn (ZX (K := 2281472) u1 u3 (by decide)))))) ?_
 refine cF f ?_ ?_ <;> intro k14 bB f
 ·exact rt [.cell 10 61] f
 exact rt [.cell 10 61] f
theorem BN (a0 : ZW) (a1 : Zz) (a2 : Ze) (a3 : Zq) (u0 : Sm 2277376 a0) (u1 : Sm 2277376 a1) (u2 : Sm 2277376 a2) (u3 : vi a1 <= 2097152) : Sa 85 [a0.row, a1.row, a2.row, a3.row] [(Ex a0 a1 a2 a3).row] := by
 have f := me (Ex.eq_1 a0 a1 a2 a3)
 refine so func85 ntmps85 ?_
 refine dIs mixed ?_
 refine cRs (Yx.rd (Pn a1 a2 (by (first | exact sg u0 | exact sg u1 | exact sg u2 | exact u3 | exact sg (Q6 (n := 2277376) u1))) (by (first | exact sg u0 | exact sg u1 | exact sg u2 | exact u3 | exact sg (Q6 (n := 2277376) u1))))) ?_
 refine cRs (jb a3.Method a2 (by (first | exact sg u0 | exact sg u1 | exact sg u2 | exact u3 | exact sg (Q6 (n := 2277376) u1)))) ?_
 refine cRs (OD a0 a1 (Y9 a1 a2) (XC a3.Method a2) a3 (by (first | exact sg u0 | exact sg u1 | exact sg u2 | exact u3 | exact sg (Q6 (n := 2277376) u1))) (by (first | exact sg u0 | exact sg u1 | exact sg u2 | exact u3 | exact sg (Q6 (n := 2277376) u1))) (by (first | exact sg u0 | exact sg u1 | exact sg u2 | exact u3 | exact sg (Q6 (n := 2277376) u1))) (by (first | exact sg u0 | exact sg u1 | exact sg u2 | exact u3 | exact sg (Q6 (n := 2277376) u1)))) ?_
 exact rt [.cell 8 61] f
theorem SX (a0 : ZW) (a1 : Zj) (u0 : Sm 2273280 a0) (u1 : Sm 2097152 a1) : Sa 25 [a0.row, a1.row] [(X4 a0 a1).row] := by
 have f := me (X4.eq_1 a0 a1)
 refine so func25 ntmps25 ?_
 refine dIs mixed ?_
 refine cRs (Yx.rd (NC a1 (by (first | exact sg u0 | exact sg (Zj.W7 u1) | exact sg (n := 2097152) (show Sm 2097152 (Zz.mk [a1.ZP] []) from ⟨⟨Nat.le_of_ble_eq_true rfl, fun x hx => by rcases List.mem_cons.1 hx with rfl | hx; exact Zj.XS u1; cases hx⟩, ⟨Nat.zero_le _, fun x hx => by cases hx⟩⟩) | exact (show a1.ZP.ZM.length + 0 <= 2097152 from XN (ZQ.QB (Zj.XS u1))) | exact sg u1)))) ?_
 refine cRs (BN a0 (Z2 a1) a1.Doc a1.Sig (by (first | exact sg u0 | exact sg (Zj.W7 u1) | exact sg (n := 2097152) (show Sm 2097152 (Zz.mk [a1.ZP] []) from ⟨⟨Nat.le_of_ble_eq_true rfl, fun x hx => by rcases List.mem_cons.1 hx with rfl | hx; exact Zj.XS u1; cases hx⟩, ⟨Nat.zero_le _, fun x hx => by cases hx⟩⟩) | exact (show a1.ZP.ZM.length + 0 <= 2097152 from XN (ZQ.QB (Zj.XS u1))) | exact sg u1)) (by (first | exact sg u0 | exact sg (Zj.W7 u1) | exact sg (n := 2097152) (show Sm 2097152 (Zz.mk [a1.ZP] []) from ⟨⟨Nat.le_of_ble_eq_true rfl, fun x hx => by rcases List.mem_cons.1 hx with rfl | hx; exact Zj.XS u1; cases hx⟩, ⟨Nat.zero_le _, fun x hx => by cases hx⟩⟩) | exact (show a1.ZP.ZM.length + 0 <= 2097152 from XN (ZQ.QB (Zj.XS u1))) | exact sg u1)) (by (first | exact sg u0 | exact sg (Zj.W7 u1) | exact sg (n := 2097152) (show Sm 2097152 (Zz.mk [a1.ZP] []) from ⟨⟨Nat.le_of_ble_eq_true rfl, fun x hx => by rcases List.mem_cons.1 hx with rfl | hx; exact Zj.XS u1; cases hx⟩, ⟨Nat.zero_le _, fun x hx => by cases hx⟩⟩) | exact (show a1.ZP.ZM.length + 0 <= 2097152 from XN (ZQ.QB (Zj.XS u1))) | exact sg u1)) (by (first | exact sg u0 | exact sg (Zj.W7 u1) | exact sg (n := 2097152) (show Sm 2097152 (Zz.mk [a1.ZP] []) from ⟨⟨Nat.le_of_ble_eq_true rfl, fun x hx => by rcases List.mem_cons.1 hx with rfl | hx; exact Zj.XS u1; cases hx⟩, ⟨Nat.zero_le _, fun x hx => by cases hx⟩⟩) | exact (show a1.ZP.ZM.length + 0 <= 2097152 from XN (ZQ.QB (Zj.XS u1))) | exact sg u1))) ?_
 exact rt [.cell 4 61] f
theorem LF (a0 : List Z5) (a1 : Int) : Sa 87 [rL 4 Z5.row a0, rI a1] [rI (Zk a0 a1)] := by
 have f := me (Zk.eq_1 a0 a1)
 refine so func87 ntmps87 ?_
 refine lp2 (zg.eq_2 a0 a1) (fun J U => Y5 48 [eL 0 4 a0 Z5.row, eI 1 a1, eI 5 J, eL 8 4 a0 Z5.row, eI 9 (a0.length : Int), eI 10 (U : Int)]) (fun n1 J U => a0.length < n1 + U /\ U <= a0.length /\ -1 <= J /\ J < (a0.length : Int)) (a0.length + 1) (-1) 0 (fun p1 J U e1 j1 => ?_)
 refine cFf e1 ?_ ?_ <;> intro k2 h1 e1
 ·have i1 := ix h1
  have m2 := ml a0 (k2 0 _ rfl)
  have w1 := wr U
  simp [i1, ZI]
  refine rpS ?_
  refine dIs mixed ?_
  refine gIf ?_ ?_ <;> intro G
  ·have i2 := ik J.toNat a0
   simp [i2, ZI, G]
   refine rpG ?_
   refine cK e1 ?_ ?_ <;> intro k4 h2 e1
   ·exact ny2 (an w1 G) e1
   ·exact ny2 (an w1 G) e1
  ·refine cK e1 ?_ ?_ <;> intro k5 h3 e1
   ·exact ny2 (an w1 G) e1
   ·exact ny2 (an w1 G) e1
 have f := ms f e1
 refine cFt f ?_ ?_ <;> intro k6 h4 f
 ·exact rt _ f
 have i4 := ik J.toNat a0
 simp [i4, ZI]
 refine rpS ?_
 exact rt _ f
theorem EH (a0 : List Int) (a1 : Int) : Sa 152 [rL 1 iR a0, rI a1] [rI (Rc a0 a1)] := by
 have f := me (Rc.eq_1 a0 a1)
 refine so func152 ntmps152 ?_
 refine lp1 (V3.eq_2 a0 a1) (fun J => Y5 19 [eI 1 a1, eL 7 1 a0 iR, eI 8 (a0.length : Int), eI 9 (J : Int)]) (fun n1 J => a0.length < n1 + J /\ J <= a0.length) (a0.length + 1) 0 (fun p1 J e1 j1 => ?_)
 refine cFf e1 ?_ ?_ <;> intro k2 h1 e1
 ·have i1 := ix h1
  have m2 := ml a0 (k2 7 _ rfl)
  have w1 := wr J
  simp [i1, ZI]
  refine rpS ?_
  refine cF e1 ?_ ?_ <;> intro k3 h2 e1
  ·have f := ms f e1
   exact rt [.tmp 4] f
  exact ny1 w1 e1
 have f := ms f e1
 exact rt [.tmp 4] f
theorem MT (a0 : List Int) (a1 : Int) : Sa 66 [rL 1 iR a0, rI a1] [rB (XP a0 a1)] := by
 have f := me (XP.eq_1 a0 a1)
 refine so func66 ntmps66 ?_
 refine cRs (EH a0 a1) ?_
 exact rt [.tmp 4] f
theorem T9 (a0 : ZG) (u0 : Sm 2326528 a0) : Sd 88 [a0.row] [rL 1 iR (Zh a0)] := by
 have f := me (Zh.eq_1 a0)
 refine soD func88 ntmps88 ?_
 refine lp2 (Xl.eq_2 a0) (fun J U => Y5 33 [eX 1 (a0.row.map .d), (3, .one (.sref 3 0 0 J.length), [.arr false 1 (J.map iR)]), eL 8 3 a0.Frame.ZC Zg.row, eI 9 (a0.Frame.ZC.length : Int), eI 10 (U : Int)]) (fun n1 J U => a0.Frame.ZC.length < n1 + U /\ U <= a0.Frame.ZC.length /\ J.length <= 0 + 1 * U) (a0.Frame.ZC.length + 1) ([] : List Int) 0 (fun p1 J U e1 j1 => ?_) (h0 := wkS [((3, 0), none)] [])
 refine cFf e1 ?_ ?_ <;> intro k2 h1 e1
 ·have i1 := ix h1
  have m2 := ml a0.Frame.ZC (k2 8 _ rfl)
  have c1 := sl 2326528 a0.Frame.ZC u0
  have w1 := wr U
  simp [i1, ZI]
  refine rpS ?_
  refine cRs (MT a0.YR (nth a0.Frame.ZC U).Id) ?_
  refine cGs (fun gg => (PB a0.Frame (nth a0.Frame.ZC U).Key)) ?_
  refine cF e1 ?_ ?_ <;> intro k3 h2 e1
  ·exact nx2 e1 (hw := X1 [((3, 0), some (30, 0))] [] rfl (by simp [w1]))
  exact ny2 w1 e1
 have c2 := sl 2326528 a0.Frame.ZC u0
 have f := ms f e1
 exact rtD [.tmp 2] f
theorem Fl (a0 : Zj) (a1 : Int) (u0 : Sm 2318336 a0) : Sa 89 [a0.row, rI a1] [rI (QK a0 a1)] := by
 have f := me (QK.eq_1 a0 a1)
 refine so func89 ntmps89 ?_
 refine cFf f ?_ ?_ <;> intro k1 h1 f
 ·have i1 := ik (a0.ZP.ZR.length - 1) a0.ZP.ZR
  have m1 := ml a0.ZP.ZR (k1 9 _ rfl)
  have w1 : IntKind.i64.wrap ((a0.ZP.ZR.length : Int) - 1) = (a0.ZP.ZR.length : Int) - 1 := XA (by omega) (by omega)
  simp [i1, ZI, w1, zZ]
  refine rpS ?_
  refine cRs (Vk a1 (nth a0.ZP.ZR (a0.ZP.ZR.length - 1)) (sg (Z4 (ZQ.yq (Zj.XS u0))))) ?_
  refine dIs mixed ?_
  refine cRs (jb a1 a0.Doc (sg (Zj.W7 u0))) ?_
  refine cRs (V5 a1 (XC a1 a0.Doc) a0.ZP.ZM (JX a1 (nth a0.ZP.ZR (a0.ZP.ZR.length - 1))) (sg (ZQ.QB (Zj.XS u0)))) ?_
  exact rt [.tmp 4] f
 refine dIs mixed ?_
 refine cRs (jb a1 a0.Doc (sg (Zj.W7 u0))) ?_
 refine cRs (V5 a1 (XC a1 a0.Doc) a0.ZP.ZM 0 (sg (ZQ.QB (Zj.XS u0)))) ?_
 exact rt [.tmp 4] f
theorem LO (a0 : ZQ) (a1 : ZV) (u0 : Sm 2326528 a0) (u1 : Sm 2326528 a1) : Sd 91 [a0.row, a1.row] [(YL a0 a1).1.row, rB (YL a0 a1).2] := by
 have f := me (YL.eq_1 a0 a1)
 refine soD func91 ntmps91 ?_
 refine cDs [] (Kb a0 (sg u0)) ?_
 refine drJ [14] mixed ?_
 simp
 refine cDs [true, true, true, false, false] (UH a1 (sg u1)) ?_
 refine T7 ?_
 have c1 := sl 2326528 a0.ZR (an u0 u1)
 simp
 refine Ss (pW := (a0.ZR.map ZV.row)) (news := (([a1] : List ZV).map ZV.row)) (l1 := [(8, 1)]) (l2 := [(12, 3), (12, 4)]) (size := 5) ?_
 simp
 refine cRs (R8 (ZQ.mk a0.ZM (a0.ZR ++ ([a1] : List ZV)))) ?_
 refine cF f ?_ ?_ <;> intro k2 h1 f
 ·refine cDs [] (Kb a0 (sg u0)) ?_
  exact rtD [.cell 4 68, .tmp 5] f
 exact rtD [.cell 4 68, .tmp 5] f
theorem K2 {a b : Prop} (h : b) (k : a := by (intros; first | omega | with_unfolding_all (first | first | omega | (have f0 : 0 <= (ZF a0 a1).1 := (by first | omega | (simp at *; omega)); have fi := QH a0 a1 f0; omega) | (have fl := JK a0; have fm := XN (ZW.XH (ZG.Xk u0)); (try dsimp only at *); omega)) | ((try simp only [X9, show ∀ x, IntKind.i64.wrap x = W x from fun _ => rfl] at *); omega))) : a /\ b := ⟨k, h⟩
theorem O0 (a0 : ZG) (a1 : Int) (a2 : Int) (u0 : Sm 2314240 a0) : Sd 27 [a0.row, rI a1, rI a2] [(ZN a0 a1 a2).1.row, rB (ZN a0 a1 a2).2] := by
 have f := me (ZN.eq_1 a0 a1 a2)
 refine soD func27 ntmps27 ?_
 refine cDs [false, false, false, true, true, false, false, true, false, false, true, false] (ql a0 (sg u0)) ?_
 refine cRs (V2 a0 a1) ?_
 refine cRs (LF a0.Frame.Methods a0.Frame.Now) ?_
 refine cRs (Yx.rd (T9 a0 (sg u0))) ?_
 refine cRs (MT a0.YK a1) ?_
 refine cFt f ?_ ?_ <;> intro k1 h1 f
 ·exact rtD [.cell 6 33, .tmp 7] f
 have i1 : (ZF a0 a1).1.toNat < a0.ZB.length := by first | omega | (have f0 : 0 <= (ZF a0 a1).1 := (by first | omega | (simp at *; omega)); have fi := QH a0 a1 f0; omega)
 have i2 : (ZF a0 a1).2.toNat < (nth a0.ZB (ZF a0 a1).1.toNat).ZD.length := by first | omega | (have f0 : 0 <= (ZF a0 a1).1 := (by first | omega | (simp at *; omega)); have fi := QH a0 a1 f0; omega)
 simp [i1, ZI, i2]
 repeat with_reducible refine K2 ?_
 refine dIs mixed ?_
 refine cRs (Fl (nth (nth a0.ZB (ZF a0 a1).1.toNat).ZD (ZF a0 a1).2.toNat) (Zk a0.Frame.Methods a0.Frame.Now) (sg (Z4 (ZJ.XQ (Z4 (ZG.Yq u0)))))) ?_
 refine lp2 (Ya.eq_2 a0 a1 a2) (fun J U => Y5 124 [eI 2 a2, (6, .one (.bptr 6 0), [.box [.nil 5, .nil 3, .nil 4, .d (.int .i64 0), .d (.int .i64 0), .nil 7, .nil 1, .nil 2, .nil 1, .nil 1, .d (.int .i64 0), .nil 1]]), eX 8 (a0.Frame.row.map .d), (9, .one (.bptr 9 0), [.box [.sref 25 0 0 a0.Frame.Zo.length, .sref 25 1 0 a0.Frame.ZC.length, .sref 25 2 0 a0.Frame.Methods.length, .d (.int .i64 a0.Frame.X8), .d (.int .i64 a0.Frame.Now), .sref 25 5 0 a0.ZZ.length, .sref 25 6 0 a0.YQ.length, .sref 25 7 0 a0.ZB.length, .sref 25 8 0 a0.YZ.length, .sref 25 9 0 a0.YR.length, .d (.int .i64 a0.Next), .sref 25 11 0 a0.YK.length]]), eI 10 (ZF a0 a1).1, eI 11 (ZF a0 a1).2, eX 14 ((nth (nth a0.ZB (ZF a0 a1).1.toNat).ZD (ZF a0 a1).2.toNat).row.map .d), (15, .one (.bptr 15 0), [.box [.d (.int .i64 ((nth (nth a0.ZB (ZF a0 a1).1.toNat).ZD (ZF a0 a1).2.toNat).ZP.ZM.length : Int)), .d (.int .i64 (Zk a0.Frame.Methods a0.Frame.Now)), .d (.int .i64 (QK (nth (nth a0.ZB (ZF a0 a1).1.toNat).ZD (ZF a0 a1).2.toNat) (Zk a0.Frame.Methods a0.Frame.Now))), .nil 2, .sref 15 5 0 U.length], .none, .none, .none, .none, .arr false 5 (U.map Zf.row)]), (25, .any, [.arr false 5 (a0.Frame.Zo.map Yp.row), .arr false 3 (a0.Frame.ZC.map Zg.row), .arr false 4 (a0.Frame.Methods.map Z5.row), .none, .none, .arr false 7 (a0.ZZ.map Yb.row), .arr false 1 (a0.YQ.map iR), .arr true 2 (a0.ZB.map ZJ.row), .arr false 1 (a0.YZ.map iR), .arr false 1 (a0.YR.map iR), .none, .arr false 1 (a0.YK.map iR)]), eL 76 1 (Zh a0) iR, eI 77 ((Zh a0).length : Int), eI 78 (J : Int)]) (fun n1 J U => (Zh a0).length < n1 + J /\ J <= (Zh a0).length /\ U.length <= 0 + 1 * J) ((Zh a0).length + 1) 0 ([] : List Zf) (fun p1 J U e1 j1 => ?_) (h0 := wkS [((15, 5), none)] [])
 try dsimp only at j1
 refine cFf e1 ?_ ?_ <;> intro k4 h2 e1
 ·have i3 := ix h2
  have m2 := ml (Zh a0) (k4 76 _ rfl)
  have w1 := wr J
  simp [i3, ZI]
  repeat with_reducible refine K2 ?_
  refine cRs (SE a0.Frame.Zo a0.Frame.ZC (Zf.mk (nth (Zh a0) J) 0 a2 (QK (nth (nth a0.ZB (ZF a0 a1).1.toNat).ZD (ZF a0 a1).2.toNat) (Zk a0.Frame.Methods a0.Frame.Now)) 0) (sg (ZW.XY (ZG.Xk u0))) (sg (ZW.XH (ZG.Xk u0)))) ?_
  refine cFt e1 ?_ ?_ <;> intro k5 h3 e1
  ·have f := ms f e1
   exact rtD [.cell 6 33, .tmp 7] f
  simp
  repeat with_reducible refine K2 ?_
  exact nx2 e1 (hw := X1 [((15, 5), some (102, 0))] [] rfl (by simp [w1]))
 have f := ms f e1
 refine cDs [] (LO (nth (nth a0.ZB (ZF a0 a1).1.toNat).ZD (ZF a0 a1).2.toNat).ZP (ZV.mk ((nth (nth a0.ZB (ZF a0 a1).1.toNat).ZD (ZF a0 a1).2.toNat).ZP.ZM.length : Int) (Zk a0.Frame.Methods a0.Frame.Now) (QK (nth (nth a0.ZB (ZF a0 a1).1.toNat).ZD (ZF a0 a1).2.toNat) (Zk a0.Frame.Methods a0.Frame.Now)) ([] : List Xq) U) (by first | (have fl := JK a0; have fm := XN (ZW.XH (ZG.Xk u0)); simp [Xo]; omega) | (refine Za (n := 2314240) (by decide) ?_; simp (maxDischargeDepth := 12) [u0]; done)) (by first | (have fl := JK a0; have fm := XN (ZW.XH (ZG.Xk u0)); simp [Xo]; omega) | (refine Za (n := 2314240) (by decide) ?_; simp (maxDischargeDepth := 12) [u0]; done))) ?_
 refine drJ [] mixed ?_
 simp [i1, ZI, i2]
 repeat with_reducible refine K2 ?_
 refine sQ (t := 25) (j := 7) (i := (ZF a0 a1).1.toNat) (c := 1) (k' := (ZF a0 a1).2.toNat) (q := 14) (n := 16) (size := 2) (s := ((nth a0.ZB (ZF a0 a1).1.toNat).ZD.map Zj.row)) (rows := (a0.ZB.map ZJ.row)) (ds := (YL (nth (nth a0.ZB (ZF a0 a1).1.toNat).ZD (ZF a0 a1).2.toNat).ZP (ZV.mk ((nth (nth a0.ZB (ZF a0 a1).1.toNat).ZD (ZF a0 a1).2.toNat).ZP.ZM.length : Int) (Zk a0.Frame.Methods a0.Frame.Now) (QK (nth (nth a0.ZB (ZF a0 a1).1.toNat).ZD (ZF a0 a1).2.toNat) (Zk a0.Frame.Methods a0.Frame.Now)) ([] : List Xq) U)).1.row) (L := [(109, 0), (109, 1)]) rfl rfl rfl rfl (by simp; rfl) (by simp) (by simp) (by simp [i1, i2]) (by simp [ZI, Xy, i1, i2]) (by simp [i1, i2]) (by simp) (by simp) (by simp) (by simp) (by simp) (by simp) ?_
 simp [qh (x := (ZJ.mk (nth a0.ZB (ZF a0 a1).1.toNat).Id ((nth a0.ZB (ZF a0 a1).1.toNat).ZD.set (ZF a0 a1).2.toNat (Zj.mk (nth (nth a0.ZB (ZF a0 a1).1.toNat).ZD (ZF a0 a1).2.toNat).Id (nth (nth a0.ZB (ZF a0 a1).1.toNat).ZD (ZF a0 a1).2.toNat).XI (nth (nth a0.ZB (ZF a0 a1).1.toNat).ZD (ZF a0 a1).2.toNat).Doc (nth (nth a0.ZB (ZF a0 a1).1.toNat).ZD (ZF a0 a1).2.toNat).Sig (YL (nth (nth a0.ZB (ZF a0 a1).1.toNat).ZD (ZF a0 a1).2.toNat).ZP (ZV.mk ((nth (nth a0.ZB (ZF a0 a1).1.toNat).ZD (ZF a0 a1).2.toNat).ZP.ZM.length : Int) (Zk a0.Frame.Methods a0.Frame.Now) (QK (nth (nth a0.ZB (ZF a0 a1).1.toNat).ZD (ZF a0 a1).2.toNat) (Zk a0.Frame.Methods a0.Frame.Now)) ([] : List Xq) U)).1)))) rfl, ZI, Xy, i1, i2]
 repeat with_reducible refine K2 ?_
 exact rtD [.cell 6 33, .tmp 7] f
end Go.Proofs.YthjkhlcbpfnobaaGreat
