/- Contracts of the functions U3 the abstract machine, part 1. No condition. -/
import Derived.Test.YtgkcgbmbdaapcaaGreatCA1
import Derived.Test.YtgkcgbmbdaapcaaGreatCI1
import Derived.Test.YtgkcgbmbdaapcaaGreatCS1
namespace Go.Proofs.YtgkcgbmbdaapcaaGreat
open Tryz
open Go.Vm Go.Mo
set_option maxHeartbeats 1000000
set_option maxRecDepth 4000
set_option linter.unusedSimpArgs false
set_option linter.unusedVariables false
theorem RF (a0 : List UInt8) (t0 : Sm maxLen a0) : Sa 3 [rL 1 bR a0] [rB (yN a0)] := by
 have f := me (yN.eq_1 a0)
 refine so func3 ntmps3 ?_
 refine cRs (Na a0) ?_
 refine cFo f ?_ ?_ <;> intro k1 h1 f
 ·have q1 := h1; try simp at q1
  simp
  exact rt [.tmp 2] f
 have q1 := h1; try simp at q1
 have u0 : Sm 1048576 a0 := (by have z := h1; simp [Ti] at z; simp [XM]; omega)
 simp
 refine cRs (UL a0 (ZW (n := 1048576) (by decide) (xs u0))) ?_
 refine cRs (YC.rd (PL (ZB a0).1 (ZB a0).2.1 (ZB a0).2.2 (by simp (maxDischargeDepth := 12) [QK, ZW (m := 2326528) (by decide) u0]; try omega) (by simp (maxDischargeDepth := 12) [QK, ZW (m := 2326528) (by decide) u0]; try omega))) ?_
 refine cRs (OM (ZB a0).1 (ZB a0).2.1) ?_
 refine lp1 (KV.eq_2 a0) (fun J => Yd 136 [eX 3 ((ZB a0).1.row.map .d), eX 4 ((ZB a0).2.1.row.map .d), eI 5 (ZB a0).2.2, eL 6 1 (XR (ZB a0).1 (ZB a0).2.1 (ZB a0).2.2) iR, eI 7 (JL (ZB a0).1 (ZB a0).2.1), eI 8 (J : Int)]) (fun n1 J => (ZB a0).2.1.ZK.length < n1 + J /\ J <= (ZB a0).2.1.ZK.length) ((ZB a0).2.1.ZK.length + 1) 0 (fun p1 J e1 j1 => ?_)
 refine cFo e1 ?_ ?_ <;> intro k3 h2 e1
 ·have q2 := h2; try simp at q2
  have i1 := ix h2
  have m2 := ml (ZB a0).2.1.ZK (k3 30 _ rfl)
  have w1 := wr J
  simp
  refine dIo mixed ?_
  simp [i1, ZC]
  refine rpS ?_
  refine cRf i1 (Rs (XR (ZB a0).1 (ZB a0).2.1 (ZB a0).2.2) (nth (ZB a0).2.1.ZK J).Id) ?_
  refine cRs (qN (ZB a0).1 (nth (ZB a0).2.1.ZK J) (ZB a0).2.2) ?_
  refine cFo e1 ?_ ?_ <;> intro k5 h3 e1
  ·have q3 := h3; try simp at q3
   have f := ms f e1
   simp
   exact rt [.tmp 2] f
  have q3 := h3; try simp at q3
  simp [i1, ZC]
  refine rpS ?_
  refine okD fun k6 => ?_
  refine dIo mixed ?_
  simp [i1, ZC]
  refine rpS ?_
  refine cRs (S4 (ZB a0).1 (nth (ZB a0).2.1.ZK J)) ?_
  refine gIf ?_ ?_ <;> intro G
  ·have tc := G
   have g1 := G; try simp at g1
   simp [i1, ZC, G]
   refine rpG ?_
   refine FN rfl rfl rfl rfl rfl rfl (fun gg => (SW (ZB a0).1 (nth (ZB a0).2.1.ZK J).YD (W (((nth (ZB a0).2.1.ZK J).YD.ZN.length : Int) - 1)) (by simp (maxDischargeDepth := 12) [QK, ZW (m := 2306048) (by decide) u0]; try omega) (by simp (maxDischargeDepth := 12) [QK, ZW (m := 2306048) (by decide) u0]; try omega))) (by first | (simp; done) | (simp [G]; done) | (simp [G]; omega) | (simp_all; done)) (by first | (simp; done) | (simp [G]; done) | (simp [G]; omega) | (simp_all; done)) (by first | (simp; done) | (simp [G]; done) | (simp [G]; omega) | (simp_all; done)) (by first | (simp; done) | (simp [G]; done) | (simp [G]; omega) | (simp_all; done)) ?_
   simp [G]
   refine rpG ?_
   have m3 := ml (nth (ZB a0).2.1.ZK J).YD.ZN (k6 58 _ rfl)
   have w2 : IntKind.i64.wrap (((nth (ZB a0).2.1.ZK J).YD.ZN.length : Int) - 1) = ((nth (ZB a0).2.1.ZK J).YD.ZN.length : Int) - 1 := Yi (by omega) (by omega)
   refine cKo e1 ?_ ?_ <;> intro k7 h4 e1
   ·try (simp [G] at h4; done)
    all_goals
     have q4 := h4; try simp [w2] at q4
     have f := ms f e1
     simp [G]
     refine rpG ?_
     exact rtg [.tmp 2] f
   ·try (simp [G] at h4; done)
    all_goals
     have q4 := h4; try simp [w2] at q4
     simp [G]
     refine rpG ?_
     exact ny1 (an w1 (an w2 G)) e1
  ·have tc := G
   refine sGo ?_
   simp [G]
   refine rpG ?_
   have m4 := ml (nth (ZB a0).2.1.ZK J).YD.ZN (k6 58 _ rfl)
   have w3 : IntKind.i64.wrap (((nth (ZB a0).2.1.ZK J).YD.ZN.length : Int) - 1) = ((nth (ZB a0).2.1.ZK J).YD.ZN.length : Int) - 1 := Yi (by omega) (by omega)
   refine cKo e1 ?_ ?_ <;> intro k8 h5 e1
   ·try (simp [G] at h5; done)
    all_goals
     have q5 := h5; try simp [w3] at q5
     have f := ms f e1
     simp [G]
     refine rpG ?_
     exact rtg [.tmp 2] f
   ·try (simp [G] at h5; done)
    all_goals
     have q5 := h5; try simp [w3] at q5
     simp [G]
     refine rpG ?_
     exact ny1 (an w1 (an w3 G)) e1
 have q2 := h2; try simp at q2
 have f := ms f e1
 simp
 refine cFo f ?_ ?_ <;> intro k9 h6 f
 ·have q6 := h6; try simp at q6
  simp
  exact rt [.tmp 2] f
 have q6 := h6; try simp at q6
 simp
 refine cRs (YC.rd (kV (ZB a0).1 (by simp (maxDischargeDepth := 12) [QK, ZW (m := 2334720) (by decide) u0]; try omega))) ?_
 refine lp1 (KR.eq_2 a0) (fun wB => Yd 136 [eX 3 ((ZB a0).1.row.map .d), eL 10 1 (Zq (ZB a0).1) iR, eI 11 (wB : Int)]) (fun n2 wB => (Zq (ZB a0).1).length < n2 + wB /\ wB <= (Zq (ZB a0).1).length) ((Zq (ZB a0).1).length + 1) 0 (fun p2 wB e2 j2 => ?_)
 refine cFo e2 ?_ ?_ <;> intro m9 h7 e2
 ·have q7 := h7; try simp at q7
  have i2 := ix h7
  have m6 := ml (Zq (ZB a0).1) (m9 10 _ rfl)
  have w4 := wr wB
  simp
  refine dIo mixed ?_
  simp [i2, ZC]
  refine rpS ?_
  refine cRs (JC (ZB a0).1.ZF (nth (Zq (ZB a0).1) wB)) ?_
  refine dIs mixed ?_
  refine gIf ?_ ?_ <;> intro G
  ·have gC := G
   have g2 := G; try simp at g2
   have i3 : (Zm (ZB a0).1.ZF (nth (Zq (ZB a0).1) wB)).toNat < (ZB a0).1.ZF.length := by have := Qt (ZB a0).1.ZF (nth (Zq (ZB a0).1) wB); exact il
   simp [i3, ZC, G]
   refine rpG ?_
   refine cGg (fun gg => (V5 (ZB a0).1.YE (nth (ZB a0).1.ZF (Zm (ZB a0).1.ZF (nth (Zq (ZB a0).1) wB)).toNat).Key)) ?_
   refine cGg (fun gg => (yo (ZB a0).1.YE)) ?_
   refine cKo e2 ?_ ?_ <;> intro l6 h8 e2
   ·try (simp [G] at h8; done)
    all_goals
     have q8 := h8; try simp at q8
     have f := ms f e2
     simp [G]
     refine rpG ?_
     exact rtg [.tmp 2] f
   ·try (simp [G] at h8; done)
    all_goals
     have q8 := h8; try simp at q8
     simp [G]
     refine rpG ?_
     exact ny1 (an w4 G) e2
  ·have gC := G
   refine sGo ?_
   simp [G]
   refine rpG ?_
   refine sGo ?_
   simp [G]
   refine rpG ?_
   refine cKo e2 ?_ ?_ <;> intro gB h9 e2
   ·try (simp [G] at h9; done)
    all_goals
     have q9 := h9; try simp at q9
     have f := ms f e2
     simp [G]
     refine rpG ?_
     exact rtg [.tmp 2] f
   ·try (simp [G] at h9; done)
    all_goals
     have q9 := h9; try simp at q9
     simp [G]
     refine rpG ?_
     exact ny1 (an w4 G) e2
 have q7 := h7; try simp at q7
 have f := ms f e2
 simp
 exact rt [.tmp 2] f
theorem Zx {a b : Prop} (h : b) (k : a := by (intros; first | omega | with_unfolding_all (first | first | omega | (have z := jd (Zg a0).1 (Zg a0).2; simp at *; omega)) | (simp_all; done) | (simp_all; omega) | grind | ((try simp only [XJ, show ∀ x, IntKind.i64.wrap x = W x from fun _ => rfl] at *); omega))) : a /\ b := ⟨k, h⟩
theorem R4 (a0 : List UInt8) (t0 : Sm maxLen a0) : Sa 4 [rL 1 bR a0] [rB (xF a0)] := by
 have f := me (xF.eq_1 a0)
 refine so func4 ntmps4 ?_
 refine cRs (Na a0) ?_
 refine cFo f ?_ ?_ <;> intro k1 h1 f
 ·have q1 := h1; try simp at q1
  simp
  exact rt [.tmp 2] f
 have q1 := h1; try simp at q1
 have u0 : Sm 1048576 a0 := (by have z := h1; simp [Ti] at z; simp [XM]; omega)
 simp
 refine cRs (Ua a0) ?_
 refine cRs (YC.rd (PG (YS a0))) ?_
 refine cRs (YC.rd (kK a0 (ZW (n := 1048576) (by decide) (xs u0)))) ?_
 refine cRs (YC.rd (SB a0)) ?_
 refine cRs (MN (Zg a0).1 (Zg a0).2) ?_
 refine gIo ?_ ?_ <;> intro G
 ·have tc := G
  have g1 := G; try simp at g1
  have i1 : (Yx (Zg a0).1 (Zg a0).2).1.toNat < (Zg a0).1.ZL.length := by (have z := jd (Zg a0).1 (Zg a0).2; simp at *; omega)
  simp [i1, ZC, G]
  repeat with_reducible refine Zx ?_
  refine gK (fun _ => ?_)
  have i2 : (Yx (Zg a0).1 (Zg a0).2).2.toNat < (nth (Zg a0).1.ZL (Yx (Zg a0).1 (Zg a0).2).1.toNat).ZK.length := by (have z := jd (Zg a0).1 (Zg a0).2; simp at *; omega)
  simp [i2, ZC, G]
  repeat with_reducible refine Zx ?_
  refine cKo f ?_ ?_ <;> intro k2 h2 f
  ·try (simp [G] at h2; done)
   all_goals
    have q2 := h2; try simp at q2
    simp [G]
    repeat with_reducible refine Zx ?_
    exact rtg [.tmp 2] f
  ·try (simp [G] at h2; done)
   all_goals
    have q2 := h2; try simp at q2
    simp [G]
    repeat with_reducible refine Zx ?_
    refine dIo mixed ?_
    simp [G]
    repeat with_reducible refine Zx ?_
    refine cR (V8 (Yb (YS a0)) (by exact W6 (YS a0) (by decide))) ?_
    simp [G]
    repeat with_reducible refine Zx ?_
    refine cGo (fun gg => YC.rd (y9)) ?_
    simp [G]
    repeat with_reducible refine Zx ?_
    refine cGo (fun gg => (yo Ye)) ?_
    simp [G]
    repeat with_reducible refine Zx ?_
    refine cGo (fun gg => YC.rd (K5)) ?_
    simp [G]
    repeat with_reducible refine Zx ?_
    refine cGo (fun gg => (yV YT)) ?_
    simp [G]
    repeat with_reducible refine Zx ?_
    refine cGo (fun gg => (Xy (Yb (YS a0)) (Yb (YS a0)))) ?_
    simp [G]
    repeat with_reducible refine Zx ?_
    refine cGo (fun gg => (Xy (YA a0).1 (YA a0).2)) ?_
    simp [G]
    repeat with_reducible refine Zx ?_
    refine cGo (fun gg => (Xy (YA a0).2 (YA a0).1)) ?_
    simp [G]
    repeat with_reducible refine Zx ?_
    exact rtg [.tmp 2] f
 ·have tc := G
  simp [G]
  repeat with_reducible refine Zx ?_
  refine sGo ?_
  simp [G]
  repeat with_reducible refine Zx ?_
  refine cKo f ?_ ?_ <;> intro k4 h3 f
  ·try (simp [G] at h3; done)
   all_goals
    have q3 := h3; try simp at q3
    simp [G]
    repeat with_reducible refine Zx ?_
    exact rtg [.tmp 2] f
  ·try (simp [G] at h3; done)
   all_goals
    have q3 := h3; try simp at q3
    simp [G]
    repeat with_reducible refine Zx ?_
    refine dIo mixed ?_
    simp [G]
    repeat with_reducible refine Zx ?_
    refine cR (V8 (Yb (YS a0)) (by exact W6 (YS a0) (by decide))) ?_
    simp [G]
    repeat with_reducible refine Zx ?_
    refine cGo (fun gg => YC.rd (y9)) ?_
    simp [G]
    repeat with_reducible refine Zx ?_
    refine cGo (fun gg => (yo Ye)) ?_
    simp [G]
    repeat with_reducible refine Zx ?_
    refine cGo (fun gg => YC.rd (K5)) ?_
    simp [G]
    repeat with_reducible refine Zx ?_
    refine cGo (fun gg => (yV YT)) ?_
    simp [G]
    repeat with_reducible refine Zx ?_
    refine cGo (fun gg => (Xy (Yb (YS a0)) (Yb (YS a0)))) ?_
    simp [G]
    repeat with_reducible refine Zx ?_
    refine cGo (fun gg => (Xy (YA a0).1 (YA a0).2)) ?_
    simp [G]
    repeat with_reducible refine Zx ?_
    refine cGo (fun gg => (Xy (YA a0).2 (YA a0).1)) ?_
    simp [G]
    repeat with_reducible refine Zx ?_
    exact rtg [.tmp 2] f
end Go.Proofs.YtgkcgbmbdaapcaaGreat
