/- Contracts of the functions Mj the abstract machine, part S2. No condition. -/
import Derived.Test.YthjkhlcbpfnobaaGreatCS1
namespace Go.Proofs.YthjkhlcbpfnobaaGreat
open Tryz
open Go.Vm Go.Mo
set_option maxHeartbeats 1000000
set_option maxRecDepth 100000
set_option linter.unusedSimpArgs false
set_option linter.unusedVariables false
theorem Yp {a b : Prop} (h : b) (k : a := by (intros; first | omega | with_unfolding_all (first | first | omega | (have fi := XR a0 a1 zAX; omega) | (simp only [Bool.or_eq_false_iff, decide_eq_false_iff_not] at *; omega)) | (simp_all; done) | (simp_all; omega) | grind | ((try simp only [Y9, show ∀ x, IntKind.i64.wrap x = W x from fun _ => rfl] at *); omega))) : a /\ b := ⟨k, h⟩
theorem EG (a0 : ZF) (a1 : Int) (a2 : Int) (u0 : Sm 2318336 a0) : Sd 110 [a0.row, rI a1, rI a2] [(jV a0 a1 a2).1.row, rB (jV a0 a1 a2).2] := by
 have f := me (jV.eq_1 a0 a1 a2)
 refine soD func110 ntmps110 ?_
 refine cDs [false, false, false, true, true, false, false, true, false, false, true, false] (JM a0 (sg u0)) ?_
 refine cRs (R4 a0 a1) ?_
 refine gIo ?_ ?_ <;> intro G
 ·have g5 := G
  have g1 := G; try simp at g1
  have i1 : (ZG a0 a1).1.toNat < a0.ZA.length := zAi
  simp [i1, ZE, G]
  refine zB7 ?_
  refine gK (fun _ => ?_)
  have i2 : (ZG a0 a1).2.toNat < (nth a0.ZA (ZG a0 a1).1.toNat).ZC.length := zAi
  simp [i2, ZE, G]
  refine zB7 ?_
  refine cKo f ?_ ?_ <;> intro k1 h1 f
  ·simp [G]
   refine zB7 ?_
   exact yJ [.cell 6 33, .tmp 7] f
  ·have i3 : 1 < (nth (nth a0.ZA (ZG a0 a1).1.toNat).ZC (ZG a0 a1).2.toNat).ZK.ZJ.length := zAi
   simp [i1, ZE, i2, i3, G]
   refine zB7 ?_
   refine cR (Rw (nth (nth (nth a0.ZA (ZG a0 a1).1.toNat).ZC (ZG a0 a1).2.toNat).ZK.ZJ 1)) ?_
   simp [G]
   refine zB7 ?_
   refine cR (Pv a0.ZY (Ze (nth (nth (nth a0.ZA (ZG a0 a1).1.toNat).ZC (ZG a0 a1).2.toNat).ZK.ZJ 1)).1.Zd) ?_
   simp [G]
   refine zB7 ?_
   refine dIo mixed ?_
   simp [G]
   refine zB7 ?_
   refine gJo G ?_ ?_ <;> intro G
   ·have g2x := G.2
    try (simp at G; done)
    all_goals
     have g2 := G.2; try simp at g2
     all_goals
      have i4 : (Z3 a0.ZY (Ze (nth (nth (nth a0.ZA (ZG a0 a1).1.toNat).ZC (ZG a0 a1).2.toNat).ZK.ZJ 1)).1.Zd).toNat < a0.ZY.length := by have := TO a0.ZY (Ze (nth (nth (nth a0.ZA (ZG a0 a1).1.toNat).ZC (ZG a0 a1).2.toNat).ZK.ZJ 1)).1.Zd; first | omega | (have fi := XR a0 a1 zAX; omega) | (simp only [Bool.or_eq_false_iff, decide_eq_false_iff_not] at *; omega)
      simp [i4, ZE, G]
      refine zB7 ?_
      refine cGo (fun gg => (TY a0.Frame (nth a0.ZY (Z3 a0.ZY (Ze (nth (nth (nth a0.ZA (ZG a0 a1).1.toNat).ZC (ZG a0 a1).2.toNat).ZK.ZJ 1)).1.Zd).toNat).Z1)) ?_
      simp [G]
      refine zB7 ?_
      refine cKo f ?_ ?_ <;> intro k3 h2 f
      ·simp [G]
       refine zB7 ?_
       exact yJ [.cell 6 33, .tmp 7] f
      ·simp [G]
       refine zB7 ?_
       refine dIo mixed ?_
       simp [i4, ZE, G]
       refine zB7 ?_
       refine cR (Wy a0.Frame.Zo (Zn.mk (Ze (nth (nth (nth a0.ZA (ZG a0 a1).1.toNat).ZC (ZG a0 a1).2.toNat).ZK.ZJ 1)).1.Zd a2 (-1) (nth a0.ZY (Z3 a0.ZY (Ze (nth (nth (nth a0.ZA (ZG a0 a1).1.toNat).ZC (ZG a0 a1).2.toNat).ZK.ZJ 1)).1.Zd).toNat).Z1 0) (sg (ZX.XS (ZF.Y7 u0)))) ?_
       simp [G]
       refine zB7 ?_
       refine cKo f ?_ ?_ <;> intro k5 h3 f
       ·simp [G]
        refine zB7 ?_
        exact yJ [.cell 6 33, .tmp 7] f
       ·simp [G]
        refine zB7 ?_
        refine dIo mixed ?_
        simp [i1, ZE, G]
        refine zB7 ?_
        refine cR (YV.rd (kv (Yl a0.Frame.Zo (Zn.mk (Ze (nth (nth (nth a0.ZA (ZG a0 a1).1.toNat).ZC (ZG a0 a1).2.toNat).ZK.ZJ 1)).1.Zd a2 (-1) (nth a0.ZY (Z3 a0.ZY (Ze (nth (nth (nth a0.ZA (ZG a0 a1).1.toNat).ZC (ZG a0 a1).2.toNat).ZK.ZJ 1)).1.Zd).toNat).Z1 0)).1)) ?_
        simp [G]
        refine zB7 ?_
        refine cD [] (UX (nth a0.ZA (ZG a0 a1).1.toNat) a1 (XL (Yl a0.Frame.Zo (Zn.mk (Ze (nth (nth (nth a0.ZA (ZG a0 a1).1.toNat).ZC (ZG a0 a1).2.toNat).ZK.ZJ 1)).1.Zd a2 (-1) (nth a0.ZY (Z3 a0.ZY (Ze (nth (nth (nth a0.ZA (ZG a0 a1).1.toNat).ZC (ZG a0 a1).2.toNat).ZK.ZJ 1)).1.Zd).toNat).Z1 0)).1) (sg (Zp (ZF.Yn u0))) zA3) ?_
        simp [i1, ZE, G]
        refine zB7 ?_
        refine ND (t := 19) (j := 7) (i := (ZG a0 a1).1.toNat) (size := 2) (rows := (a0.ZA.map ZD.row)) (ds := (QE (nth a0.ZA (ZG a0 a1).1.toNat) a1 (XL (Yl a0.Frame.Zo (Zn.mk (Ze (nth (nth (nth a0.ZA (ZG a0 a1).1.toNat).ZC (ZG a0 a1).2.toNat).ZK.ZJ 1)).1.Zd a2 (-1) (nth a0.ZY (Z3 a0.ZY (Ze (nth (nth (nth a0.ZA (ZG a0 a1).1.toNat).ZC (ZG a0 a1).2.toNat).ZK.ZJ 1)).1.Zd).toNat).Z1 0)).1)).1.row) (L := [(114, 1)]) ?_
        simp [KM (x := (QE (nth a0.ZA (ZG a0 a1).1.toNat) a1 (XL (Yl a0.Frame.Zo (Zn.mk (Ze (nth (nth (nth a0.ZA (ZG a0 a1).1.toNat).ZC (ZG a0 a1).2.toNat).ZK.ZJ 1)).1.Zd a2 (-1) (nth a0.ZY (Z3 a0.ZY (Ze (nth (nth (nth a0.ZA (ZG a0 a1).1.toNat).ZC (ZG a0 a1).2.toNat).ZK.ZJ 1)).1.Zd).toNat).Z1 0)).1)).1) rfl, i1, ZE, XF, G]
        refine zB7 ?_
        exact yJ [.cell 6 33, .tmp 7] f
   ·have g2x := G.2
    try (simp at G; done)
    all_goals
     simp [G]
     refine zB7 ?_
     refine sGo ?_
     simp [G]
     refine zB7 ?_
     refine cKo f ?_ ?_ <;> intro k7 h4 f
     ·simp [G]
      refine zB7 ?_
      exact yJ [.cell 6 33, .tmp 7] f
     ·simp [G] at h4
 ·have g5 := G
  simp [G]
  refine zB7 ?_
  refine sGo ?_
  simp [G]
  refine zB7 ?_
  refine cKo f ?_ ?_ <;> intro bg h6 f
  ·simp [G]
   refine zB7 ?_
   exact yJ [.cell 6 33, .tmp 7] f
  ·simp [G] at h6
theorem IL (a0 : ZF) (a1 : Zs) (u0 : Sm 2293760 a0) (u1 : Sm 2293760 a1) : Sa 35 [a0.row, a1.row] [(xL a0 a1).1.row, rB (xL a0 a1).2] := by
 have f := me (xL.eq_1 a0 a1)
 refine so func35 ntmps35 ?_
 refine cF f ?_ ?_ <;> intro k1 h1 f
 ·refine cDs [false, false, false, true, true, false, false, true, false, false, true, false] (EM a0 a1.A (sg u0)) ?_
  exact rt [.cell 4 33, .tmp 5] f
 refine cF f ?_ ?_ <;> intro k2 h2 f
 ·refine cDs [false, false, false, true, true, false, false, true, false, false, true, false] (Fv a0 a1.A a1.B a1.Doc a1.C a1.D (sg u0) (sg (Zs.qp u1))) ?_
  exact rt [.cell 4 33, .tmp 5] f
 refine cF f ?_ ?_ <;> intro k3 h3 f
 ·refine cDs [false, false, false, true, true, false, false, true, false, false, true, false] (Ia a0 a1.A (sg u0)) ?_
  exact rt [.cell 4 33, .tmp 5] f
 refine cF f ?_ ?_ <;> intro k4 h4 f
 ·refine cDs [false, false, false, true, true, false, false, true, false, false, true, false] (Iw a0 a1.A (sg u0)) ?_
  exact rt [.cell 4 33, .tmp 5] f
 refine cF f ?_ ?_ <;> intro k5 h5 f
 ·refine cDs [false, false, false, true, true, false, false, true, false, false, true, false] (HX a0 a1.A a1.Ids a1.B (sg u0) (sg (Zs.Al u1))) ?_
  exact rt [.cell 4 33, .tmp 5] f
 refine cF f ?_ ?_ <;> intro k6 h6 f
 ·refine cDs [false, false, false, true, true, false, false, true, false, false, true, false] (Fy a0 a1.A a1.B a1.C (sg u0)) ?_
  exact rt [.cell 4 33, .tmp 5] f
 refine cF f ?_ ?_ <;> intro k7 h7 f
 ·refine cOs (HA a0 a1.A (sg u0)) ?_
  exact rt [.cell 4 33, .tmp 5] f
 refine cF f ?_ ?_ <;> intro k8 h8 f
 ·refine cDs [false, false, false, true, true, false, false, true, false, false, true, false] (Gp a0 a1.A a1.B a1.Doc (sg u0) (sg (Zs.qp u1))) ?_
  exact rt [.cell 4 33, .tmp 5] f
 refine cF f ?_ ?_ <;> intro k9 h9 f
 ·refine cDs [false, false, false, true, true, false, false, true, false, false, true, false] (MG a0 a1.A a1.B (sg u0)) ?_
  exact rt [.cell 4 33, .tmp 5] f
 refine cF f ?_ ?_ <;> intro bP ev f
 ·refine cDs [false, false, false, true, true, false, false, true, false, false, true, false] (EG a0 a1.A a1.B (sg u0)) ?_
  exact rt [.cell 4 33, .tmp 5] f
 refine cDs [false, false, false, true, true, false, false, true, false, false, true, false] (JM a0 (sg u0)) ?_
 exact rt [.cell 4 33, .tmp 5] f
end Go.Proofs.YthjkhlcbpfnobaaGreat
