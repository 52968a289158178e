/- Contracts of the functions NW the abstract machine, part 1. No condition. -/
import Derived.Test.YthbcljgpeciofaaGreatCA1
import Derived.Test.YthbcljgpeciofaaGreatCI1
import Derived.Test.YthbcljgpeciofaaGreatCS1
namespace Go.Proofs.YthbcljgpeciofaaGreat
open Tryz
open Go.Vm Go.Mo
set_option maxHeartbeats 1000000
set_option maxRecDepth 4000
set_option linter.unusedSimpArgs false
set_option linter.unusedVariables false
theorem IQ (a0 : List UInt8) (t0 : Sm maxLen a0) : Sa 3 [rL 1 bR a0] [rB (WY a0)] := by
 have f := me (WY.eq_1 a0)
 refine so func3 ntmps3 ?_
 refine cRs (D7 a0) ?_
 refine cFo f ?_ ?_ <;> intro k1 h1 f
 ·have q1 := h1; try simp at q1
  simp
  refine PM (rv := [.tmp 2]) rfl ?_
  simp [f.h]
  all_goals ((try (cases hR : (Z7 (ZY a0).1 (ZY a0).2).2 <;> cases hW : QM (Z7 (ZY a0).1 (ZY a0).2).1 <;> simp [hR, hW] at G ⊢ <;> simp_all)))
 have q1 := h1; try simp at q1
 have u0 : Sm 1048576 a0 := (by have z := h1; simp [F4] at z; simp [XO]; omega)
 simp
 refine cRs (YP.rd (SK a0 (Zb (n := 1048576) (by decide) (xs u0)))) ?_
 refine cRs (YP.rd (Mq (ZQ a0).1 (ZQ a0).2.1 (ZQ a0).2.2.1 (ZQ a0).2.2.2.1 (ZQ a0).2.2.2.2.1 (ZQ a0).2.2.2.2.2 (by with_reducible exact (za (by decide)).1) (by with_reducible exact (za (by decide)).2))) ?_
 refine cGs (fun gg => (J6 (XK (ZQ a0).1 (ZQ a0).2.1 (ZQ a0).2.2.1 (ZQ a0).2.2.2.1 (ZQ a0).2.2.2.2.1 (ZQ a0).2.2.2.2.2).1 (by with_reducible exact Zb (by decide) (Mv (za (n := 102) (a0 := a0) (by decide)).1 (za (n := 102) (a0 := a0) (by decide)).2 (by decide))))) ?_
 refine cGs (fun gg => (Wg (XK (ZQ a0).1 (ZQ a0).2.1 (ZQ a0).2.2.1 (ZQ a0).2.2.2.1 (ZQ a0).2.2.2.2.1 (ZQ a0).2.2.2.2.2).1 (ZQ a0).1)) ?_
 refine cFo f ?_ ?_ <;> intro k2 h2 f
 ·have q2 := h2; try simp at q2
  simp
  refine PM (rv := [.tmp 2]) rfl ?_
  simp [f.h]
  all_goals ((try (cases hR : (Z7 (ZY a0).1 (ZY a0).2).2 <;> cases hW : QM (Z7 (ZY a0).1 (ZY a0).2).1 <;> simp [hR, hW] at G ⊢ <;> simp_all)))
 have q2 := h2; try simp at q2
 simp
 refine cRs (YP.rd (T1 a0 (Zb (n := 1048576) (by decide) (xs u0)))) ?_
 refine cRs (YP.rd (MG (ZK a0).1 (ZK a0).2.1 (ZK a0).2.2.1 (ZK a0).2.2.2 (by with_reducible exact (Ji (by decide)).1) (by with_reducible exact (Ji (by decide)).2))) ?_
 refine cGs (fun gg => (J6 (YV (ZK a0).1 (ZK a0).2.1 (ZK a0).2.2.1 (ZK a0).2.2.2).1 (by with_reducible exact Zb (by decide) (Nv (Ji (n := 102) (a0 := a0) (by decide)).1 (Ji (n := 102) (a0 := a0) (by decide)).2 (by decide))))) ?_
 refine cGs (fun gg => (Wg (ZK a0).1 (YV (ZK a0).1 (ZK a0).2.1 (ZK a0).2.2.1 (ZK a0).2.2.2).1)) ?_
 refine cFo f ?_ ?_ <;> intro k3 h3 f
 ·have q3 := h3; try simp at q3
  simp
  refine PM (rv := [.tmp 2]) rfl ?_
  simp [f.h]
  all_goals ((try (cases hR : (Z7 (ZY a0).1 (ZY a0).2).2 <;> cases hW : QM (Z7 (ZY a0).1 (ZY a0).2).1 <;> simp [hR, hW] at G ⊢ <;> simp_all)))
 have q3 := h3; try simp at q3
 simp
 refine lp1 (qw.eq_2 a0) (fun J => Yy 223 [eL 0 1 a0 bR, eX 11 ((ZK a0).1.row.map .d), eX 15 ((YV (ZK a0).1 (ZK a0).2.1 (ZK a0).2.2.1 (ZK a0).2.2.2).1.row.map .d), eB 16 (YV (ZK a0).1 (ZK a0).2.1 (ZK a0).2.2.1 (ZK a0).2.2.2).2, eI 17 (J : Int)]) (fun n1 J => (ZK a0).1.YG.length < n1 + J /\ J <= (ZK a0).1.YG.length) ((ZK a0).1.YG.length + 1) 0 (fun p1 J e1 j1 => ?_)
 try dsimp only at j1
 refine cFo e1 ?_ ?_ <;> intro k5 h4 e1
 ·have q4 := h4; try simp at q4
  have i1 : J < (ZK a0).1.YG.length := by (simp at h4; omega)
  have m2 := ml (ZK a0).1.YG (k5 114 _ rfl)
  have w1 := wr J
  simp
  refine dIo mixed ?_
  have i2 : J < (YV (ZK a0).1 (ZK a0).2.1 (ZK a0).2.2.1 (ZK a0).2.2.2).1.YG.length := by first | omega | (simp at h4; omega) | (have z := WR (ZK a0).1 (ZK a0).2.1 (ZK a0).2.2.1 (ZK a0).2.2.2; simp at h4; omega) | (have z := qI (a1 := (ZY a0).2) (JH (n := 100) (a0 := a0) (by decide)) (by decide) (by simp_all); omega)
  simp [i2, ZE, i1]
  refine rpS ?_
  refine cFo e1 ?_ ?_ <;> intro k7 h5 e1
  ·have q5 := h5; try simp at q5
   have f := ms f e1
   simp
   refine PM (rv := [.tmp 2]) rfl ?_
   simp [f.h]
   all_goals ((try (cases hR : (Z7 (ZY a0).1 (ZY a0).2).2 <;> cases hW : QM (Z7 (ZY a0).1 (ZY a0).2).1 <;> simp [hR, hW] at G ⊢ <;> simp_all)))
  have q5 := h5; try simp at q5
  simp
  exact ny1 w1 e1
 have q4 := h4; try simp at q4
 have f := ms f e1
 simp
 refine cRs (YP.rd (U7 a0 (Zb (n := 1048576) (by decide) (xs u0)))) ?_
 refine cRs (YP.rd (Oe (Ym a0).1 (Ym a0).2 (by with_reducible exact jH (by decide)))) ?_
 refine cRs (YP.rd (U3 a0 (Zb (n := 1048576) (by decide) (xs u0)))) ?_
 refine cRs (YP.rd (OT (ZY a0).1 (ZY a0).2 (by with_reducible exact JH (by decide)))) ?_
 refine cRs (YP.rd (S5 a0)) ?_
 refine cRs (YP.rd (M1 (Z1 a0).1 (Z1 a0).2.1 (Z1 a0).2.2.1 (Z1 a0).2.2.2 (by with_reducible exact xQ (by decide)))) ?_
 refine cRs (YP.rd (TB a0)) ?_
 refine cRs (YP.rd (OQ (YY a0).1 (YY a0).2 (by with_reducible exact yU (by decide)))) ?_
 refine dIs mixed ?_
 refine cGs (fun gg => (J6 (Qb (Ym a0).1 (Ym a0).2).1 (by with_reducible exact Zb (by decide) (OH (jH (n := 102) (a0 := a0) (by decide)) (by decide))))) ?_
 refine cGs (fun gg => (J6 (Z7 (ZY a0).1 (ZY a0).2).1 (by with_reducible exact Zb (by decide) (OB (JH (n := 102) (a0 := a0) (by decide)))))) ?_
 refine gIf ?_ ?_ <;> intro G
 ·have sv := G
  have g1 := G; try simp at g1
  have i3 : (ZY a0).2.toNat < (Z7 (ZY a0).1 (ZY a0).2).1.Zu.length := by first | omega | (simp at h4; omega) | (have z := WR (ZK a0).1 (ZK a0).2.1 (ZK a0).2.2.1 (ZK a0).2.2.2; simp at h4; omega) | (have z := qI (a1 := (ZY a0).2) (JH (n := 100) (a0 := a0) (by decide)) (by decide) (by simp_all); omega)
  have iz := qI (a1 := (ZY a0).2) (JH (n := 100) (a0 := a0) (by decide)) (by decide) (by simp_all)
  simp [i3, ZE, G]
  refine rpG ?_
  refine cGg (fun gg => (J6 (Je (Z1 a0).1 (Z1 a0).2.1 (Z1 a0).2.2.1 (Z1 a0).2.2.2).1 (by with_reducible exact Zb (by decide) (TT (by decide) (xQ (n := 102) (a0 := a0) (by decide)) (by decide))))) ?_
  refine cGg (fun gg => (J6 (QU (YY a0).1 (YY a0).2).1 (by with_reducible exact Zb (by decide) (VO (yU (n := 102) (a0 := a0) (by decide)))))) ?_
  refine PM (rv := [.tmp 2]) rfl ?_
  simp [f.h, G]
  all_goals ((try (cases hR : (Z7 (ZY a0).1 (ZY a0).2).2 <;> cases hW : QM (Z7 (ZY a0).1 (ZY a0).2).1 <;> simp [hR, hW] at G ⊢ <;> simp_all)))
 ·have sv := G
  refine cGg (fun gg => (J6 (Je (Z1 a0).1 (Z1 a0).2.1 (Z1 a0).2.2.1 (Z1 a0).2.2.2).1 (by with_reducible exact Zb (by decide) (TT (by decide) (xQ (n := 102) (a0 := a0) (by decide)) (by decide))))) ?_
  refine cGg (fun gg => (J6 (QU (YY a0).1 (YY a0).2).1 (by with_reducible exact Zb (by decide) (VO (yU (n := 102) (a0 := a0) (by decide)))))) ?_
  refine PM (rv := [.tmp 2]) rfl ?_
  simp [f.h, G]
  all_goals ((try (cases hR : (Z7 (ZY a0).1 (ZY a0).2).2 <;> cases hW : QM (Z7 (ZY a0).1 (ZY a0).2).1 <;> simp [hR, hW] at G ⊢ <;> simp_all)))
end Go.Proofs.YthbcljgpeciofaaGreat
