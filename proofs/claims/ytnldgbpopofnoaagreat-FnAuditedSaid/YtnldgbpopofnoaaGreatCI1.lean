/- Contracts of the functions OB the abstract machine, part I1. No condition. -/
import Derived.Test.YtnldgbpopofnoaaGreatL
import Derived.Test.YtnldgbpopofnoaaGreatTy
namespace Go.Proofs.YtnldgbpopofnoaaGreat
open Tryz
open Go.Vm Go.Mo
set_option maxHeartbeats 1000000
set_option maxRecDepth 100000
set_option linter.unusedSimpArgs false
set_option linter.unusedVariables false
theorem Zw (a0 : Int) (a1 : Int) (a2 : Int) : Sa 13 [rI a0, rI a1, rI a2] [rB (Zd a0 a1 a2)] := by
 have f := me (Zd.eq_1 a0 a1 a2)
 refine so func13 ntmps13 ?_
 exact rt [.tmp 6] f
theorem Ji (a0 : Int) : Sa 28 [rI a0] [rB (yG a0)] := by
 have f := me (yG.eq_1 a0)
 refine so func28 ntmps28 ?_
 refine cRs (Zw a0 0 10000) ?_
 exact rt [.tmp 2] f
theorem P5 (a0 : Int) : Sa 65 [rI a0] [rB (VP a0)] := by
 have f := me (VP.eq_1 a0)
 refine so func65 ntmps65 ?_
 refine cRs (Zw a0 1 2147483646) ?_
 exact rt [.tmp 2] f
theorem Gp (a0 : Yj) : Sa 41 [a0.row] [rB (IG a0)] := by
 have f := me (IG.eq_1 a0)
 refine so func41 ntmps41 ?_
 refine cRs (Zw a0.Number 1 99) ?_
 refine cGs (fun gg => (Zw a0.yv 0 99)) ?_
 refine cGs (fun gg => (Zw a0.Method 0 99)) ?_
 refine cGs (fun gg => (Ji a0.NH)) ?_
 refine cGs (fun gg => (P5 a0.UA)) ?_
 exact rt [.tmp 2] f
theorem Lz (a0 : List Yj) : Sa 25 [rL 5 Yj.row a0] [rB (PA a0)] := by
 have f := me (PA.eq_1 a0)
 refine so func25 ntmps25 ?_
 refine lp1 (UB.eq_2 a0) (fun J => Yg 34 [eL 0 5 a0 Yj.row, eL 5 5 a0 Yj.row, eI 6 (a0.length : Int), eI 7 (J : Int)]) (fun n1 J => a0.length < n1 + J /\ J <= a0.length) (a0.length + 1) 0 (fun p1 J e1 j1 => ?_)
 refine cFf e1 ?_ ?_ <;> intro k2 h1 e1
 ·have i1 := ix h1
  have m2 := ml a0 (k2 0 _ rfl)
  have w1 := wr J
  simp [i1, ZC]
  refine rpS ?_
  refine dIs mixed ?_
  refine cRs (Gp (nth a0 J)) ?_
  refine gIf ?_ ?_ <;> intro G
  ·have i2 := ik (J - 1) a0
   have w2 : IntKind.i64.wrap ((J : Int) - 1) = (J : Int) - 1 := YW (by omega) (by omega)
   simp [i2, ZC, w2, Qs, G]
   refine rpG ?_
   refine cK e1 ?_ ?_ <;> intro k4 h2 e1
   ·try (simp [G] at h2; done)
    all_goals
     have f := ms f e1
     exact rtg [.tmp 2] f
   ·try (simp [G] at h2; done)
    all_goals
     exact ny1 (an w1 (an w2 G)) e1
  ·refine cK e1 ?_ ?_ <;> intro k5 h3 e1
   ·try (simp [G] at h3; done)
    all_goals
     have f := ms f e1
     exact rtg [.tmp 2] f
   ·try (simp [G] at h3; done)
    all_goals
     exact ny1 (an w1 G) e1
 have f := ms f e1
 exact rt [.tmp 2] f
theorem TJ (a0 : List Zg) : Sa 26 [rL 3 Zg.row a0] [rB (xf a0)] := by
 have f := me (xf.eq_1 a0)
 refine so func26 ntmps26 ?_
 refine lp1 (yP.eq_2 a0) (fun J => Yg 47 [eL 0 3 a0 Zg.row, eL 5 3 a0 Zg.row, eI 6 (a0.length : Int), eI 7 (J : Int)]) (fun n1 J => a0.length < n1 + J /\ J <= a0.length) (a0.length + 1) 0 (fun p1 J e1 j1 => ?_)
 refine cFf e1 ?_ ?_ <;> intro k2 h1 e1
 ·have i1 := ix h1
  have m2 := ml a0 (k2 0 _ rfl)
  have w1 := wr J
  simp [i1, ZC]
  refine rpS ?_
  refine dIs mixed ?_
  refine cRs (Zw (nth a0 J).Id 0 99) ?_
  refine cGs (fun gg => (Zw (nth a0 J).Key 1 99)) ?_
  refine cGs (fun gg => (Zw (nth a0 J).Error 0 100)) ?_
  refine gIf ?_ ?_ <;> intro G
  ·have i2 := ik (J - 1) a0
   have w2 : IntKind.i64.wrap ((J : Int) - 1) = (J : Int) - 1 := YW (by omega) (by omega)
   simp [i2, ZC, w2, Qs, G]
   refine rpG ?_
   refine cKo e1 ?_ ?_ <;> intro k4 h2 e1
   ·try (simp [G] at h2; done)
    all_goals
     have q2 := h2; try simp [Zd] at q2
     have f := ms f e1
     simp [G]
     refine rpG ?_
     exact rtg [.tmp 2] f
   ·try (simp [G] at h2; done)
    all_goals
     have q2 := h2; try simp [Zd] at q2
     simp [G]
     refine rpG ?_
     exact ny1 (an w1 (an w2 G)) e1
  ·refine cKo e1 ?_ ?_ <;> intro k5 h3 e1
   ·try (simp [G] at h3; done)
    all_goals
     have q3 := h3; try simp [Zd] at q3
     have f := ms f e1
     simp [G]
     refine rpG ?_
     exact rtg [.tmp 2] f
   ·try (simp [G] at h3; done)
    all_goals
     have q3 := h3; try simp [Zd] at q3
     simp [G]
     refine rpG ?_
     exact ny1 (an w1 G) e1
 have f := ms f e1
 exact rt [.tmp 2] f
theorem ML (a0 : YJ) : Sa 42 [a0.row] [rB (Tu a0)] := by
 have f := me (Tu.eq_1 a0)
 refine so func42 ntmps42 ?_
 refine cRs (Zw a0.Id 0 99) ?_
 refine cGs (fun gg => (Ji a0.Nq)) ?_
 refine cGs (fun gg => (Zw a0.Ends 1 10001)) ?_
 refine cGs (fun gg => (Zw a0.T3 1 10001)) ?_
 exact rt [.tmp 2] f
theorem OT (a0 : List YJ) : Sa 27 [rL 4 YJ.row a0] [rB (VB a0)] := by
 have f := me (VB.eq_1 a0)
 refine so func27 ntmps27 ?_
 refine lp1 (jh.eq_2 a0) (fun J => Yg 34 [eL 0 4 a0 YJ.row, eL 5 4 a0 YJ.row, eI 6 (a0.length : Int), eI 7 (J : Int)]) (fun n1 J => a0.length < n1 + J /\ J <= a0.length) (a0.length + 1) 0 (fun p1 J e1 j1 => ?_)
 refine cFf e1 ?_ ?_ <;> intro k2 h1 e1
 ·have i1 := ix h1
  have m2 := ml a0 (k2 0 _ rfl)
  have w1 := wr J
  simp [i1, ZC]
  refine rpS ?_
  refine dIs mixed ?_
  refine cRs (ML (nth a0 J)) ?_
  refine gIf ?_ ?_ <;> intro G
  ·have i2 := ik (J - 1) a0
   have w2 : IntKind.i64.wrap ((J : Int) - 1) = (J : Int) - 1 := YW (by omega) (by omega)
   simp [i2, ZC, w2, Qs, G]
   refine rpG ?_
   refine cK e1 ?_ ?_ <;> intro k4 h2 e1
   ·try (simp [G] at h2; done)
    all_goals
     have f := ms f e1
     exact rtg [.tmp 2] f
   ·try (simp [G] at h2; done)
    all_goals
     exact ny1 (an w1 (an w2 G)) e1
  ·refine cK e1 ?_ ?_ <;> intro k5 h3 e1
   ·try (simp [G] at h3; done)
    all_goals
     have f := ms f e1
     exact rtg [.tmp 2] f
   ·try (simp [G] at h3; done)
    all_goals
     exact ny1 (an w1 G) e1
 have f := ms f e1
 exact rt [.tmp 2] f
theorem RD (a0 : Ze) : Sa 12 [a0.row] [rB (U5 a0)] := by
 have f := me (U5.eq_1 a0)
 refine so func12 ntmps12 ?_
 refine cRs (Lz a0.Z6) ?_
 refine cGs (fun gg => (TJ a0.ZM)) ?_
 refine cGs (fun gg => (OT a0.Methods)) ?_
 refine cGs (fun gg => (Zw a0.Kk 0 6)) ?_
 refine cGs (fun gg => (Ji a0.Now)) ?_
 exact rt [.tmp 2] f
theorem Ui (a0 : List Int) : Sa 14 [rL 1 iR a0] [rB (kR a0)] := by
 have f := me (kR.eq_1 a0)
 refine so func14 ntmps14 ?_
 refine lp1 (WQ.eq_2 a0) (fun J => Yg 20 [eL 0 1 a0 iR, eI 3 (J : Int)]) (fun n1 J => a0.length < n1 + J /\ 1 <= J) (a0.length + 1) 1 (fun p1 J e1 j1 => ?_)
 refine cF e1 ?_ ?_ <;> intro k2 h1 e1
 ·have i1 := ix h1
  have m2 := ml a0 (k2 0 _ rfl)
  have w1 := wr J
  refine dIo mixed ?_
  have i2 := ik (J - 1) a0
  have w2 : IntKind.i64.wrap ((J : Int) - 1) = (J : Int) - 1 := YW (by omega) (by omega)
  simp [i2, ZC, w2, Qs, i1]
  refine rpS ?_
  refine cF e1 ?_ ?_ <;> intro k4 h2 e1
  ·have f := ms f e1
   exact rt [.tmp 2] f
  exact ny1 (an w1 w2) e1
 have f := ms f e1
 exact rt [.tmp 2] f
theorem Td (a0 : YY) : Sa 44 [a0.row] [(xh a0).row] := by
 have f := me (xh.eq_1 a0)
 refine so func44 ntmps44 ?_
 exact rt [.cell 2 65] f
theorem Qm (a0 : Za) : Sa 43 [a0.row] [rB (J1 a0)] := by
 have f := me (J1.eq_1 a0)
 refine so func43 ntmps43 ?_
 refine cRs (Ji a0.XU) ?_
 refine cGs (fun gg => (Ji a0.To)) ?_
 exact rt [.tmp 2] f
theorem HB (a0 : YY) : Sa 29 [a0.row] [rB (NY a0)] := by
 have f := me (NY.eq_1 a0)
 refine so func29 ntmps29 ?_
 refine cRs (Zw a0.ZO 1 999) ?_
 refine cGs (fun gg => (Zw a0.Key 1 99)) ?_
 refine cGs (fun gg => (Zw a0.Zq 1 99)) ?_
 refine cGs (fun gg => (Zw a0.yv 0 99)) ?_
 refine cGs (fun gg => (Td a0)) ?_
 refine cGs (fun gg => (Qm (xh a0))) ?_
 exact rt [.tmp 2] f
theorem Mj (a0 : YY) : Sd 31 [a0.row] [rL 1 iR (yQ a0)] := by
 have f := me (yQ.eq_1 a0)
 refine soD func31 ntmps31 ?_
 exact rtD [.tmp 2] f
theorem zW (a0 : List Yj) (a1 : Int) : Sa 46 [rL 5 Yj.row a0, rI a1] [rI (XE a0 a1)] := by
 have f := me (XE.eq_1 a0 a1)
 refine so func46 ntmps46 ?_
 refine lp1 (kM.eq_2 a0 a1) (fun J => Yg 20 [eI 1 a1, eL 7 5 a0 Yj.row, eI 8 (a0.length : Int), eI 9 (J : Int)]) (fun n1 J => a0.length < n1 + J /\ J <= a0.length) (a0.length + 1) 0 (fun p1 J e1 j1 => ?_)
 refine cFf e1 ?_ ?_ <;> intro k2 h1 e1
 ·have i1 := ix h1
  have m2 := ml a0 (k2 7 _ rfl)
  have w1 := wr J
  simp [i1, ZC]
  refine rpS ?_
  refine cF e1 ?_ ?_ <;> intro k3 h2 e1
  ·have f := ms f e1
   exact rt [.tmp 4] f
  exact ny1 w1 e1
 have f := ms f e1
 exact rt [.tmp 4] f
theorem EL (a0 : Int) (a1 : Int) : Sa 192 [rI a0, rI a1] [rI (Eu a0 a1)] := by
 have f := me (Eu.eq_1 a0 a1)
 refine so func192 ntmps192 ?_
 refine cRs (Zw a1 1 1000000000000) ?_
 refine cFo f ?_ ?_ <;> intro k1 h1 f
 ·have q1 := h1; try simp [Zd] at q1
  simp
  exact rt [.tmp 4] f
 have q1 := h1; try simp [Zd] at q1
 simp
 refine rpS ?_
 exact rt [.tmp 4] f
theorem Lj (a0 : List Int) : Sa 141 [rL 1 iR a0] [rI (Iz a0)] := by
 have f := me (Iz.eq_1 a0)
 refine so func141 ntmps141 ?_
 refine lp2 (Nt.eq_2 a0) (fun J U => Yg 21 [eI 3 J, eL 6 1 a0 iR, eI 7 (a0.length : Int), eI 8 (U : Int)]) (fun n1 J U => a0.length < n1 + U /\ U <= a0.length) (a0.length + 1) 11 0 (fun p1 J U e1 j1 => ?_)
 refine cFf e1 ?_ ?_ <;> intro k2 h1 e1
 ·have i1 := ix h1
  have m2 := ml a0 (k2 6 _ rfl)
  have w1 := wr U
  simp [i1, ZC]
  refine rpS ?_
  refine cRs (EL (nth a0 U) 2147483647) ?_
  exact ny2 w1 e1
 have f := ms f e1
 exact rt [.tmp 2] f
theorem Nf (a0 : Int) (a1 : List Int) (u0 : Sm 2330624 a1) : Sa 90 [rI a0, rL 1 iR a1] [rI (UX a0 a1)] := by
 have f := me (UX.eq_1 a0 a1)
 have c1 := sl 2330624 a1 u0
 refine so func90 ntmps90 ?_
 refine cRs (Lj ((([a0] : List Int) ++ a1) ++ ([a0] : List Int))) ?_
 exact rt [.tmp 4] f
theorem MU (a0 : Yj) (a1 : List Int) (u0 : Sm 2326528 a1) : Sa 66 [a0.row, rL 1 iR a1] [rI (Ty a0 a1)] := by
 have f := me (Ty.eq_1 a0 a1)
 refine so func66 ntmps66 ?_
 refine LQ [2, 3, 4, 5, 6, 0, 1, 7, 8] mixed (by kernel_rfl) (by kernel_rfl) (by kernel_rfl) ?_
 have c1 := sl 2326528 a1 u0
 simp
 refine rpS ?_
 refine cRs (Nf a0.UA (([a0.Method] : List Int) ++ a1) (by simp (maxDischargeDepth := 12) [JJ, XA, ZU (m := 2330624) (by decide) u0]; try omega)) ?_
 exact rt [.tmp 4] f
theorem PR (a0 : List Yj) (a1 : Int) (a2 : List Int) (u0 : Sm 2322432 a0) (u1 : Sm 2322432 a2) : Sa 45 [rL 5 Yj.row a0, rI a1, rL 1 iR a2] [rI (jt a0 a1 a2).1, rB (jt a0 a1 a2).2] := by
 have f := me (jt.eq_1 a0 a1 a2)
 refine so func45 ntmps45 ?_
 refine cRs (zW a0 a1) ?_
 refine cFt f ?_ ?_ <;> intro k1 h1 f
 ·exact rt [.tmp 6, .tmp 7] f
 have i1 : (XE a0 a1).toNat < a0.length := by have := yk a0 a1; exact il
 simp [i1, ZC]
 refine rpS ?_
 refine cRs (MU (nth a0 (XE a0 a1).toNat) a2 (sg u1)) ?_
 exact rt [.tmp 6, .tmp 7] f
theorem QJ (a0 : List Yj) (a1 : Int) (a2 : List Int) (a3 : Int) (u0 : Sm 2318336 a0) (u1 : Sm 2318336 a2) : Sa 30 [rL 5 Yj.row a0, rI a1, rL 1 iR a2, rI a3] [rB (Qh a0 a1 a2 a3)] := by
 have f := me (Qh.eq_1 a0 a1 a2 a3)
 refine so func30 ntmps30 ?_
 refine cRs (PR a0 a1 a2 (sg u0) (sg u1)) ?_
 exact rt [.tmp 8] f
theorem SS (a0 : List Yj) (a1 : Int) : Sa 32 [rL 5 Yj.row a0, rI a1] [rI (TD a0 a1)] := by
 have f := me (TD.eq_1 a0 a1)
 refine so func32 ntmps32 ?_
 refine cRs (zW a0 a1) ?_
 refine cFf f ?_ ?_ <;> intro k1 h1 f
 ·have i1 : (XE a0 a1).toNat < a0.length := by have := yk a0 a1; exact il
  simp [i1, ZC]
  refine rpS ?_
  exact rt [.tmp 4] f
 exact rt [.tmp 4] f
theorem UH (a0 : List Yj) (a1 : YY) (u0 : Sm 2314240 a0) : Sa 15 [rL 5 Yj.row a0, a1.row] [rB (km a0 a1)] := by
 have f := me (km.eq_1 a0 a1)
 refine so func15 ntmps15 ?_
 refine dIs mixed ?_
 refine cRs (HB a1) ?_
 refine cGs (fun gg => YN.rd (Mj a1)) ?_
 refine cGs (fun gg => (QJ a0 a1.Zq (yQ a1) a1.Mark (sg u0) (by simp (maxDischargeDepth := 12) [MT, ZU (m := 2318336) (by decide) u0]; try omega))) ?_
 refine cGs (fun gg => (SS a0 a1.Key)) ?_
 exact rt [.tmp 4] f
theorem MP (a0 : List YY) (a1 : Int) : Sa 16 [rL 7 YY.row a0, rI a1] [rI (Tp a0 a1)] := by
 have f := me (Tp.eq_1 a0 a1)
 refine so func16 ntmps16 ?_
 refine lp1 (VT.eq_2 a0 a1) (fun J => Yg 20 [eI 1 a1, eL 7 7 a0 YY.row, eI 8 (a0.length : Int), eI 9 (J : Int)]) (fun n1 J => a0.length < n1 + J /\ J <= a0.length) (a0.length + 1) 0 (fun p1 J e1 j1 => ?_)
 refine cFf e1 ?_ ?_ <;> intro k2 h1 e1
 ·have i1 := ix h1
  have m2 := ml a0 (k2 7 _ rfl)
  have w1 := wr J
  simp [i1, ZC]
  refine rpS ?_
  refine cF e1 ?_ ?_ <;> intro k3 h2 e1
  ·have f := ms f e1
   exact rt [.tmp 4] f
  exact ny1 w1 e1
 have f := ms f e1
 exact rt [.tmp 4] f
theorem Vx (a0 : ZV) : Sa 47 [a0.row] [rB (ze a0)] := by
 have f := me (ze.eq_1 a0)
 refine so func47 ntmps47 ?_
 refine cRs (Zw a0.jj 0 999) ?_
 refine cGs (fun gg => (Zw (a0.Yz.length : Int) 1 6)) ?_
 refine cFo f ?_ ?_ <;> intro k1 h1 f
 ·have q1 := h1; try simp [Zd] at q1
  simp
  exact rt [.tmp 2] f
 have q1 := h1; try simp [Zd] at q1
 simp
 refine lp1 (yi.eq_2 a0) (fun J => Yg 46 [eX 1 (a0.row.map .d), eL 26 1 a0.Yz sR, eI 27 (a0.Yz.length : Int), eI 28 (J : Int)]) (fun n1 J => a0.Yz.length < n1 + J /\ J <= a0.Yz.length) (a0.Yz.length + 1) 0 (fun p1 J e1 j1 => ?_)
 refine cFf e1 ?_ ?_ <;> intro k3 h2 e1
 ·have i1 := ix h2
  have m2 := ml a0.Yz (k3 26 _ rfl)
  have w1 := wr J
  simp [i1, ZC]
  refine rpS ?_
  refine gIf ?_ ?_ <;> intro G
  ·have i2 := ik J a0.QQ
   simp [i2, ZC, G]
   refine rpG ?_
   refine cGg (fun gg => (Zw (nth a0.QQ J) 1 1000000000000)) ?_
   refine cKo e1 ?_ ?_ <;> intro k4 h3 e1
   ·have q3 := h3; try simp [Zd] at q3
    have f := ms f e1
    simp [G]
    refine rpG ?_
    exact rtg [.tmp 2] f
   ·have q3 := h3; try simp [Zd] at q3
    simp [G]
    refine rpG ?_
    exact ny1 (an w1 G) e1
  ·refine sGo ?_
   simp [G]
   refine rpG ?_
   refine cKo e1 ?_ ?_ <;> intro k5 h4 e1
   ·have q4 := h4; try simp [Zd] at q4
    have f := ms f e1
    simp [G]
    refine rpG ?_
    exact rtg [.tmp 2] f
   ·simp [G] at h4
 have f := ms f e1
 exact rt [.tmp 2] f
theorem Ov (a0 : List Int) (a1 : List Int) : Sa 68 [rL 1 iR a0, rL 1 iR a1] [rB (UQ a0 a1)] := by
 have f := me (UQ.eq_1 a0 a1)
 refine so func68 ntmps68 ?_
 refine cF f ?_ ?_ <;> intro k1 h1 f
 ·exact rt [.tmp 4] f
 refine lp1 (WA.eq_2 a0 a1) (fun J => Yg 26 [eL 0 1 a0 iR, eL 1 1 a1 iR, eI 12 (a0.length : Int), eI 13 (J : Int)]) (fun n1 J => a0.length < n1 + J /\ J <= a0.length) (a0.length + 1) 0 (fun p1 J e1 j1 => ?_)
 refine cF e1 ?_ ?_ <;> intro k3 h2 e1
 ·have i1 := ix h2
  have m2 := ml a0 (k3 0 _ rfl)
  have w1 := wr J
  refine dIo mixed ?_
  have i2 := ik J a1
  simp [i1, ZC, i2]
  refine rpS ?_
  refine cF e1 ?_ ?_ <;> intro k5 h3 e1
  ·have f := ms f e1
   exact rt [.tmp 4] f
  exact ny1 w1 e1
 have f := ms f e1
 exact rt [.tmp 4] f
theorem xR (a0 : ZS) (a1 : ZS) : Sa 49 [a0.row, a1.row] [rB (z7 a0 a1)] := by
 have f := me (z7.eq_1 a0 a1)
 refine so func49 ntmps49 ?_
 refine cGs (fun gg => (Ov a0.Z4 a1.Z4)) ?_
 exact rt [.tmp 4] f
theorem xy (a0 : List ZS) (a1 : ZS) : Sa 67 [rL 3 ZS.row a0, a1.row] [rB (xm a0 a1)] := by
 have f := me (xm.eq_1 a0 a1)
 refine so func67 ntmps67 ?_
 refine lp1 (W6.eq_2 a0 a1) (fun J => Yg 17 [eX 3 (a1.row.map .d), eL 7 3 a0 ZS.row, eI 8 (a0.length : Int), eI 9 (J : Int)]) (fun n1 J => a0.length < n1 + J /\ J <= a0.length) (a0.length + 1) 0 (fun p1 J e1 j1 => ?_)
 refine cFf e1 ?_ ?_ <;> intro k2 h1 e1
 ·have i1 := ix h1
  have m2 := ml a0 (k2 7 _ rfl)
  have w1 := wr J
  simp [i1, ZC]
  refine rpS ?_
  refine cRs (xR (nth a0 J) a1) ?_
  refine cF e1 ?_ ?_ <;> intro k3 h2 e1
  ·have f := ms f e1
   exact rt [.tmp 4] f
  exact ny1 w1 e1
 have f := ms f e1
 exact rt [.tmp 4] f
theorem M7 (a0 : ZZ) : Sa 48 [a0.row] [rB (jn a0)] := by
 have f := me (jn.eq_1 a0)
 refine so func48 ntmps48 ?_
 refine cRs (Zw (a0.ZH.length : Int) 1 12) ?_
 refine cFo f ?_ ?_ <;> intro k1 h1 f
 ·have q1 := h1; try simp [Zd] at q1
  simp
  exact rt [.tmp 2] f
 have q1 := h1; try simp [Zd] at q1
 simp
 refine lp1 (qp.eq_2 a0) (fun J => Yg 65 [eX 1 (a0.row.map .d), eL 19 3 a0.ZH ZS.row, eI 20 (a0.ZH.length : Int), eI 21 (J : Int)]) (fun n1 J => a0.ZH.length < n1 + J /\ J <= a0.ZH.length) (a0.ZH.length + 1) 0 (fun p1 J e1 j1 => ?_)
 refine cFf e1 ?_ ?_ <;> intro k3 h2 e1
 ·have i1 := ix h2
  have m2 := ml a0.ZH (k3 19 _ rfl)
  have w1 := wr J
  simp [i1, ZC]
  refine rpS ?_
  refine dIs mixed ?_
  refine cRs (xy (a0.ZH.take J) (nth a0.ZH J)) ?_
  refine cF e1 ?_ ?_ <;> intro k5 h3 e1
  ·have f := ms f e1
   exact rt [.tmp 2] f
  exact ny1 w1 e1
 have f := ms f e1
 refine lp1 (qe.eq_2 a0) (fun wB => Yg 65 [eX 1 (a0.row.map .d), eL 34 5 a0.ZY Zi.row, eI 35 (a0.ZY.length : Int), eI 36 (wB : Int)]) (fun n2 wB => a0.ZY.length < n2 + wB /\ wB <= a0.ZY.length) (a0.ZY.length + 1) 0 (fun p2 wB e2 j2 => ?_)
 refine cFf e2 ?_ ?_ <;> intro k7 h4 e2
 ·have i2 := ix h4
  have m4 := ml a0.ZY (k7 34 _ rfl)
  have w2 := wr wB
  simp [i2, ZC]
  refine rpS ?_
  refine dIs mixed ?_
  refine cRs (Zw (nth a0.ZY wB).Count 1 (a0.ZH.length : Int)) ?_
  refine gIf ?_ ?_ <;> intro G
  ·have i3 := ik (wB - 1) a0.ZY
   have w3 : IntKind.i64.wrap ((wB : Int) - 1) = (wB : Int) - 1 := YW (by omega) (by omega)
   simp [i3, ZC, w3, Qs, G]
   refine rpG ?_
   refine cKo e2 ?_ ?_ <;> intro k9 h5 e2
   ·have q5 := h5; try simp [Zd] at q5
    have f := ms f e2
    simp [G]
    refine rpG ?_
    exact rtg [.tmp 2] f
   ·have q5 := h5; try simp [Zd] at q5
    simp [G]
    refine rpG ?_
    exact ny1 (an w2 (an w3 G)) e2
  ·refine cKo e2 ?_ ?_ <;> intro pr h6 e2
   ·have q6 := h6; try simp [Zd] at q6
    have f := ms f e2
    simp [G]
    refine rpG ?_
    exact rtg [.tmp 2] f
   ·have q6 := h6; try simp [Zd] at q6
    simp [G]
    refine rpG ?_
    exact ny1 (an w2 G) e2
 have f := ms f e2
 exact rt [.tmp 2] f
theorem jY (a0 : Zy) : Sd 69 [a0.row] [rL 1 iR (QO a0)] := by
 have f := me (QO.eq_1 a0)
 refine soD func69 ntmps69 ?_
 exact rtD [.tmp 2] f
theorem UJ (a0 : Zy) : Sd 50 [a0.row] [(Y8 a0).row] := by
 have f := me (Y8.eq_1 a0)
 refine soD func50 ntmps50 ?_
 refine dIs mixed ?_
 refine cDs [false] (jY a0) ?_
 exact rtD [.cell 2 109] f
theorem HT (a0 : Zk) : Sa 33 [a0.row] [rB (NR a0)] := by
 have f := me (NR.eq_1 a0)
 refine so func33 ntmps33 ?_
 refine dIs mixed ?_
 refine cRs (Zw a0.Id 1 999) ?_
 refine cGs (fun gg => (Ji a0.Yw)) ?_
 refine cGs (fun gg => (Vx a0.Doc)) ?_
 refine cGs (fun gg => (M7 a0.ZL)) ?_
 refine gIf ?_ ?_ <;> intro G
 ·have vh := G
  have g1 := G; try simp [Zd] at g1
  have i1 : 0 < a0.ZL.ZH.length := by have := MG (a := a0.ZL); simp_all
  simp [i1, ZC, G]
  refine rpG ?_
  refine cGg (fun gg => YN.rd (UJ a0.Sig)) ?_
  refine cGg (fun gg => (xR (nth a0.ZL.ZH 0) (Y8 a0.Sig))) ?_
  exact rtg [.tmp 2] f
 ·have vh := G
  refine sGo ?_
  simp [G]
  refine rpG ?_
  refine sGo ?_
  simp [G]
  refine rpG ?_
  exact rtg [.tmp 2] f
theorem NL (a0 : ZJ) : Sa 17 [a0.row] [rB (Uy a0)] := by
 have f := me (Uy.eq_1 a0)
 refine so func17 ntmps17 ?_
 refine lp1 (ko.eq_2 a0) (fun J => Yg 42 [eX 1 (a0.row.map .d), eL 6 16 a0.ZE Zk.row, eI 7 (a0.ZE.length : Int), eI 8 (J : Int)]) (fun n1 J => a0.ZE.length < n1 + J /\ J <= a0.ZE.length) (a0.ZE.length + 1) 0 (fun p1 J e1 j1 => ?_)
 refine cFf e1 ?_ ?_ <;> intro k2 h1 e1
 ·have i1 := ix h1
  have m2 := ml a0.ZE (k2 6 _ rfl)
  have w1 := wr J
  simp [i1, ZC]
  refine rpS ?_
  refine dIs mixed ?_
  refine cRs (HT (nth a0.ZE J)) ?_
  refine gIf ?_ ?_ <;> intro G
  ·have i2 := ik (J - 1) a0.ZE
   have w2 : IntKind.i64.wrap ((J : Int) - 1) = (J : Int) - 1 := YW (by omega) (by omega)
   simp [i2, ZC, w2, Qs, G]
   refine rpG ?_
   refine cK e1 ?_ ?_ <;> intro k4 h2 e1
   ·have f := ms f e1
    exact rtg [.tmp 2] f
   ·exact ny1 (an w1 (an w2 G)) e1
  ·refine cK e1 ?_ ?_ <;> intro k5 h3 e1
   ·have f := ms f e1
    exact rtg [.tmp 2] f
   ·exact ny1 (an w1 G) e1
 have f := ms f e1
 refine cRs (Zw a0.Id 0 99) ?_
 exact rt [.tmp 2] f
theorem IJ (a0 : List Int) (a1 : Int) : Sa 34 [rL 1 iR a0, rI a1] [rI (RM a0 a1)] := by
 have f := me (RM.eq_1 a0 a1)
 refine so func34 ntmps34 ?_
 refine lp1 (UL.eq_2 a0 a1) (fun J => Yg 19 [eI 1 a1, eL 7 1 a0 iR, eI 8 (a0.length : Int), eI 9 (J : Int)]) (fun n1 J => a0.length < n1 + J /\ J <= a0.length) (a0.length + 1) 0 (fun p1 J e1 j1 => ?_)
 refine cFf e1 ?_ ?_ <;> intro k2 h1 e1
 ·have i1 := ix h1
  have m2 := ml a0 (k2 7 _ rfl)
  have w1 := wr J
  simp [i1, ZC]
  refine rpS ?_
  refine cF e1 ?_ ?_ <;> intro k3 h2 e1
  ·have f := ms f e1
   exact rt [.tmp 4] f
  exact ny1 w1 e1
 have f := ms f e1
 exact rt [.tmp 4] f
theorem PQ (a0 : List Int) (a1 : Int) : Sa 18 [rL 1 iR a0, rI a1] [rB (SW a0 a1)] := by
 have f := me (SW.eq_1 a0 a1)
 refine so func18 ntmps18 ?_
 refine cRs (IJ a0 a1) ?_
 exact rt [.tmp 4] f
theorem Kc (a0 : List Zg) (a1 : Int) : Sa 19 [rL 3 Zg.row a0, rI a1] [rI (YE a0 a1)] := by
 have f := me (YE.eq_1 a0 a1)
 refine so func19 ntmps19 ?_
 refine lp1 (Ky.eq_2 a0 a1) (fun J => Yg 20 [eI 1 a1, eL 7 3 a0 Zg.row, eI 8 (a0.length : Int), eI 9 (J : Int)]) (fun n1 J => a0.length < n1 + J /\ J <= a0.length) (a0.length + 1) 0 (fun p1 J e1 j1 => ?_)
 refine cFf e1 ?_ ?_ <;> intro k2 h1 e1
 ·have i1 := ix h1
  have m2 := ml a0 (k2 7 _ rfl)
  have w1 := wr J
  simp [i1, ZC]
  refine rpS ?_
  refine cF e1 ?_ ?_ <;> intro k3 h2 e1
  ·have f := ms f e1
   exact rt [.tmp 4] f
  exact ny1 w1 e1
 have f := ms f e1
 exact rt [.tmp 4] f
theorem zX {a b : Prop} (h : b) (k : a := by (intros; first | omega | with_unfolding_all (first | first | omega | (have o : (nth a0.ZB wC).ZE.length <= 2310144 := Yb (xs u0); have o2 : a0.ZB.length <= 2310144 := Yb (xs u0); omega)) | ((try simp only [XT, show ∀ x, IntKind.i64.wrap x = W x from fun _ => rfl] at *); omega))) : a /\ b := ⟨k, h⟩
theorem Jj {a b : Prop} (h : b) (k : a := by (intros; first | omega | with_unfolding_all (first | first | omega | (have o : (nth a0.ZB wC).ZE.length <= 2310144 := Yb (xs u0); have o2 : a0.ZB.length <= 2310144 := Yb (xs u0); omega)) | (simp_all; done) | (simp_all; omega) | grind | ((try simp only [XT, show ∀ x, IntKind.i64.wrap x = W x from fun _ => rfl] at *); omega))) : a /\ b := ⟨k, h⟩
theorem RK (a0 : ZN) (u0 : Sm 2310144 a0) : Sa 7 [a0.row] [rB (jF a0)] := by
 have f := me (jF.eq_1 a0)
 refine so func7 ntmps7 ?_
 refine cRs (RD a0.Frame) ?_
 refine cGs (fun gg => (Zw (a0.ZB.length : Int) 1 4)) ?_
 refine cGs (fun gg => (Ui a0.XK)) ?_
 refine cGs (fun gg => (Ui a0.XJ)) ?_
 refine cFo f ?_ ?_ <;> intro k1 h1 f
 ·have q1 := h1; try simp [Zd] at q1
  simp
  exact rt [.tmp 2] f
 have q1 := h1; try simp [Zd] at q1
 simp
 refine lp1 (UI.eq_2 a0) (fun J => Yg 167 [eX 1 (a0.row.map .d), eX 3 (a0.Frame.row.map .d), eL 71 7 a0.ZT YY.row, eI 72 (a0.ZT.length : Int), eI 73 (J : Int)]) (fun n1 J => a0.ZT.length < n1 + J /\ J <= a0.ZT.length) (a0.ZT.length + 1) 0 (fun p1 J e1 j1 => ?_)
 try dsimp only at j1
 refine cFf e1 ?_ ?_ <;> intro k3 h2 e1
 ·have i1 := ix h2
  have m2 := ml a0.ZT (k3 71 _ rfl)
  have c1 := sl 2310144 a0.ZT u0
  have w1 := wr J
  simp [i1, ZC]
  repeat with_reducible refine zX ?_
  refine cRs (UH a0.Frame.Z6 (nth a0.ZT J) (sg (Ze.Yo (ZN.Xj u0)))) ?_
  refine cGs (fun gg => (MP a0.ZT (nth a0.ZT J).ZO)) ?_
  refine gIo ?_ ?_ <;> intro G
  ·have vh := G
   have g1 := G; try simp at g1
   have i2 := ik J a0.YX
   simp [i2, ZC, G]
   repeat with_reducible refine Jj ?_
   refine cGo (fun gg => (Zw (nth a0.YX J) (-1) 10001)) ?_
   simp [G]
   repeat with_reducible refine Jj ?_
   refine cKo e1 ?_ ?_ <;> intro k4 h3 e1
   ·try (simp [G] at h3; done)
    all_goals
     have q3 := h3; try simp [Zd] at q3
     have f := ms f e1
     simp [G]
     repeat with_reducible refine Jj ?_
     exact rtg [.tmp 2] f
   ·try (simp [G] at h3; done)
    all_goals
     have q3 := h3; try simp [Zd] at q3
     simp [G]
     repeat with_reducible refine Jj ?_
     exact ny1 (an w1 G) e1
  ·have vh := G
   simp [G]
   repeat with_reducible refine Jj ?_
   refine sGo ?_
   simp [G]
   repeat with_reducible refine Jj ?_
   refine cKo e1 ?_ ?_ <;> intro k5 h4 e1
   ·try (simp [G] at h4; done)
    all_goals
     have q4 := h4; try simp [Zd] at q4
     have f := ms f e1
     simp [G]
     repeat with_reducible refine Jj ?_
     exact rtg [.tmp 2] f
   ·try (simp [G] at h4; done)
    all_goals
     have q4 := h4; try simp [Zd] at q4
     simp [G]
     repeat with_reducible refine Jj ?_
     exact ny1 (an w1 G) e1
 have c2 := sl 2310144 a0.ZT u0
 have f := ms f e1
 refine lp2 (U3.eq_2 a0) (fun wB wC => Yg 167 [eX 1 (a0.row.map .d), eX 3 (a0.Frame.row.map .d), (6, .one (.sref 6 0 0 wB.length), [.arr false 1 (wB.map iR)]), eL 103 2 a0.ZB ZJ.row, eI 104 (a0.ZB.length : Int), eI 105 (wC : Int)]) (fun n2 wB wC => a0.ZB.length < n2 + wC /\ wB.length <= 2310144 * wC) (a0.ZB.length + 1) ([] : List Int) 0 (fun p2 wB wC e2 j2 => ?_) (h0 := wkS [((6, 0), none)] [])
 try dsimp only at j2
 refine cFf e2 ?_ ?_ <;> intro k7 h5 e2
 ·have i4 := ix h5
  have m4 := ml a0.ZB (k7 103 _ rfl)
  have c3 := sl 2310144 a0.ZB u0
  have w2 := wr wC
  simp [i4, ZC]
  repeat with_reducible refine zX ?_
  refine cRs (NL (nth a0.ZB wC)) ?_
  refine cF e2 ?_ ?_ <;> intro k8 h6 e2
  ·have f := ms f e2
   exact rt [.tmp 2] f
  refine lp2 (Uq.eq_2 a0 wC) (fun wZ wa => Yg 167 [eX 1 (a0.row.map .d), eX 3 (a0.Frame.row.map .d), (6, .one (.sref 6 0 0 wZ.length), [.arr false 1 (wZ.map iR)]), eL 103 2 a0.ZB ZJ.row, eI 104 (a0.ZB.length : Int), eI 105 (wC : Int), eL 120 16 (nth a0.ZB wC).ZE Zk.row, eI 121 ((nth a0.ZB wC).ZE.length : Int), eI 122 (wa : Int)]) (fun n3 wZ wa => (nth a0.ZB wC).ZE.length < n3 + wa /\ wa <= (nth a0.ZB wC).ZE.length /\ wZ.length <= 2310144 * wC + wa) ((nth a0.ZB wC).ZE.length + 1) wB 0 (fun p3 wZ wa e3 j3 => ?_)
  try dsimp only at j3
  refine cFf e3 ?_ ?_ <;> intro pr h7 e3
  ·have i5 := ix h7
   have m6 := ml (nth a0.ZB wC).ZE (pr 120 _ rfl)
   have c4 := sl 2310144 (nth a0.ZB wC).ZE u0
   have w3 := wr wa
   simp [i5, ZC]
   repeat with_reducible refine zX ?_
   refine cRs (PQ wZ (nth (nth a0.ZB wC).ZE wa).Id) ?_
   refine cFt e3 ?_ ?_ <;> intro pK h8 e3
   ·have e2 := ms e2 e3
    have f := ms f e2
    exact rt [.tmp 2] f
   simp
   repeat with_reducible refine zX ?_
   exact nx2 e3 (hI := by (have o : (nth a0.ZB wC).ZE.length <= 2310144 := Yb (xs u0); first | omega | (simp at *; omega))) (hw := Y5 [((6, 0), some (141, 0))] [] rfl (by simp [w2, w3]))
  have c5 := sl 2310144 (nth a0.ZB wC).ZE u0
  have e2 := ms e2 e3
  exact ny2 w2 e2 (hI := by (have o : (nth a0.ZB wC).ZE.length <= 2310144 := Yb (xs u0); first | omega | (simp at *; omega)))
 have c6 := sl 2310144 a0.ZB u0
 have f := ms f e2
 refine lp1 (U2.eq_2 a0) (fun vz => Yg 167 [eX 1 (a0.row.map .d), eX 3 (a0.Frame.row.map .d), eL 145 1 a0.QA iR, eI 146 (a0.QA.length : Int), eI 147 (vz : Int)]) (fun n4 vz => a0.QA.length < n4 + vz /\ vz <= a0.QA.length) (a0.QA.length + 1) 0 (fun p4 vz e4 j4 => ?_)
 try dsimp only at j4
 refine cFf e4 ?_ ?_ <;> intro pS h9 e4
 ·have i6 := ix h9
  have m8 := ml a0.QA (pS 145 _ rfl)
  have c7 := sl 2310144 a0.QA u0
  have w4 := wr vz
  simp [i6, ZC]
  repeat with_reducible refine zX ?_
  refine cF e4 ?_ ?_ <;> intro lZ tc e4
  ·have f := ms f e4
   exact rt [.tmp 2] f
  exact ny1 w4 e4
 have c8 := sl 2310144 a0.QA u0
 have f := ms f e4
 refine lp1 (UT.eq_2 a0) (fun uw => Yg 167 [eX 3 (a0.Frame.row.map .d), eL 155 1 a0.XK iR, eI 156 (a0.XK.length : Int), eI 157 (uw : Int)]) (fun n5 uw => a0.XK.length < n5 + uw /\ uw <= a0.XK.length) (a0.XK.length + 1) 0 (fun p5 uw e5 j5 => ?_)
 try dsimp only at j5
 refine cFf e5 ?_ ?_ <;> intro im nA e5
 ·have i7 := ix nA
  have eY := ml a0.XK (im 155 _ rfl)
  have c9 := sl 2310144 a0.XK u0
  have w5 := wr uw
  simp [i7, ZC]
  repeat with_reducible refine zX ?_
  refine cRs (Kc a0.Frame.ZM (nth a0.XK uw)) ?_
  refine cF e5 ?_ ?_ <;> intro lb ni e5
  ·have f := ms f e5
   exact rt [.tmp 2] f
  exact ny1 w5 e5
 have hD := sl 2310144 a0.XK u0
 have f := ms f e5
 exact rt [.tmp 2] f
theorem RF {a b : Prop} (h : b) (k : a := by (intros; first | omega | with_unfolding_all (first | (have d := HE (l := a0.ZB) (i := U) (by first | omega | (simp at *; omega)); omega)) | ((try simp only [XT, show ∀ x, IntKind.i64.wrap x = W x from fun _ => rfl] at *); omega))) : a /\ b := ⟨k, h⟩
theorem SP (a0 : ZN) (u0 : Sm 2342912 a0) (u1 : itn a0.ZB <= 1048576) : So 20 [a0.row] [rL 16 Zk.row (Z5 a0)] := by
 have f := me (Z5.eq_1 a0)
 refine so func20 ntmps20 ?_
 refine lp2 (ye.eq_2 a0) (fun J U => Yg 19 [(3, .one (.sref 3 0 0 J.length), [.arr false 16 (J.map Zk.row)]), eL 7 2 a0.ZB ZJ.row, eI 8 (a0.ZB.length : Int), eI 9 (U : Int)]) (fun n1 J U => a0.ZB.length < n1 + U /\ U <= a0.ZB.length /\ J.length + itn (a0.ZB.drop U) <= 1048576) (a0.ZB.length + 1) ([] : List Zk) 0 (fun p1 J U e1 j1 => ?_) (hI := by ((try dsimp only); simp only [List.length_nil, List.drop_zero]; omega)) (h0 := wkS [((3, 0), none)] [])
 try dsimp only at j1
 refine cFf e1 ?_ ?_ <;> intro k2 h1 e1
 ·have i1 := ix h1
  have m2 := ml a0.ZB (k2 7 _ rfl)
  have c1 := sl 2342912 a0.ZB (an u0 u1)
  have w1 := wr U
  simp [i1, ZC]
  repeat with_reducible refine RF ?_
  refine evI rfl rfl rfl ?_
  have c2 := sl 2342912 (nth a0.ZB U).ZE (an u0 u1)
  simp
  repeat with_reducible refine RF ?_
  exact nx2 e1 (hI := by (have d := HE (l := a0.ZB) (i := U) (by first | omega | (simp at *; omega)); (try dsimp only); simp only [List.length_append]; omega)) (hw := Y5 [((3, 0), some (16, 0))] [] rfl (by simp [w1]))
 have c3 := sl 2342912 a0.ZB (an u0 u1)
 have f := ms f e1
 exact rtO [.tmp 2] f
theorem MI (a0 : ZJ) (a1 : Int) : Sa 51 [a0.row, rI a1] [rI (Qq a0 a1)] := by
 have f := me (Qq.eq_1 a0 a1)
 refine so func51 ntmps51 ?_
 refine lp1 (zl.eq_2 a0 a1) (fun J => Yg 21 [eI 1 a1, eL 8 16 a0.ZE Zk.row, eI 9 (a0.ZE.length : Int), eI 10 (J : Int)]) (fun n1 J => a0.ZE.length < n1 + J /\ J <= a0.ZE.length) (a0.ZE.length + 1) 0 (fun p1 J e1 j1 => ?_)
 refine cFf e1 ?_ ?_ <;> intro k2 h1 e1
 ·have i1 := ix h1
  have m2 := ml a0.ZE (k2 8 _ rfl)
  have w1 := wr J
  simp [i1, ZC]
  refine rpS ?_
  refine cF e1 ?_ ?_ <;> intro k3 h2 e1
  ·have f := ms f e1
   exact rt [.tmp 4] f
  exact ny1 w1 e1
 have f := ms f e1
 exact rt [.tmp 4] f
theorem Hg (a0 : ZN) (a1 : Int) : Sa 35 [a0.row, rI a1] [rI (QI a0 a1).1, rI (QI a0 a1).2] := by
 have f := me (QI.eq_1 a0 a1)
 refine so func35 ntmps35 ?_
 refine lp1 (K8.eq_2 a0 a1) (fun J => Yg 25 [eI 1 a1, eL 10 2 a0.ZB ZJ.row, eI 11 (a0.ZB.length : Int), eI 12 (J : Int)]) (fun n1 J => a0.ZB.length < n1 + J /\ J <= a0.ZB.length) (a0.ZB.length + 1) 0 (fun p1 J e1 j1 => ?_)
 refine cFf e1 ?_ ?_ <;> intro k2 h1 e1
 ·have i1 := ix h1
  have m2 := ml a0.ZB (k2 10 _ rfl)
  have w1 := wr J
  simp [i1, ZC]
  refine rpS ?_
  refine cRs (MI (nth a0.ZB J) a1) ?_
  refine cF e1 ?_ ?_ <;> intro k3 h2 e1
  ·have f := ms f e1
   exact rt [.tmp 4, .tmp 5] f
  exact ny1 w1 e1
 have f := ms f e1
 exact rt [.tmp 4, .tmp 5] f
theorem MY (a0 : List Int) (u0 : Sm 2342912 a0) : Sd 198 [rL 1 iR a0] [rL 1 iR (T1 a0)] := by
 have f := me (T1.eq_1 a0)
 have c1 := sl 2342912 a0 u0
 refine soD func198 ntmps198 ?_
 exact rtD [.tmp 2] f
theorem MD (a0 : List Int) (u0 : Sm 2342912 a0) : Sd 198 [rL 1 iR a0] [rL 1 iR a0] := by
  have h := MY a0 u0
  rwa [Ma] at h
theorem Oi (a0 : ZS) (u0 : Sm 2338816 a0) : Sd 146 [a0.row] [(Uj a0).row] := by
 have f := me (Uj.eq_1 a0)
 refine soD func146 ntmps146 ?_
 refine cDs [false] (MD a0.Z4 (sg (ZS.VG u0))) ?_
 exact rtD [.cell 2 109] f
theorem qR (a0 : ZS) (u0 : Sm 2338816 a0) : Sd 146 [a0.row] [a0.row] := by
  have h := Oi a0 u0
  rwa [Nj] at h
theorem Pm (a0 : List ZS) (u0 : Sm 2334720 a0) : Sd 109 [rL 3 ZS.row a0] [rL 3 ZS.row (qm a0)] := by
 have f := me (qm.eq_1 a0)
 refine soD func109 ntmps109 ?_
 refine lp2 (yp.eq_2 a0) (fun J U => Yg 19 [(3, .one (.sref 3 0 0 J.length), [.arr true 3 (J.map ZS.row)]), eL 6 3 a0 ZS.row, eI 7 (a0.length : Int), eI 8 (U : Int)]) (fun n1 J U => a0.length < n1 + U /\ U <= a0.length /\ J.length <= 0 + 1 * U) (a0.length + 1) ([] : List ZS) 0 (fun p1 J U e1 j1 => ?_) (h0 := wkS [((3, 0), none)] [])
 refine cFf e1 ?_ ?_ <;> intro k2 h1 e1
 ·have i1 := ix h1
  have m2 := ml a0 (k2 6 _ rfl)
  have c1 := sl 2334720 a0 u0
  have w1 := wr U
  simp [i1, ZC]
  refine rpS ?_
  refine cDs [true, false] (qR (nth a0 U) (sg (Zu u0))) ?_
  refine Wc ?_
  simp
  refine VV (wH := (J.map ZS.row)) (news := (([(nth a0 U)] : List ZS).map ZS.row)) (l1 := [(3, 0)]) (l2 := [(14, 1)]) (size := 3) ?_
  simp
  exact nx2 e1 (hw := Y5 [((3, 0), some (16, 0))] [] rfl (by simp [w1]))
 have c2 := sl 2334720 a0 u0
 have f := ms f e1
 exact rtD [.tmp 2] f
theorem Ry (a0 : List ZS) (u0 : Sm 2334720 a0) : Sd 109 [rL 3 ZS.row a0] [rL 3 ZS.row a0] := by
  have h := Pm a0 u0
  rwa [P9] at h
theorem P6 (a0 : List Zr) (u0 : Sm 2342912 a0) : Sd 160 [rL 5 Zr.row a0] [rL 5 Zr.row (VH a0)] := by
 have f := me (VH.eq_1 a0)
 have c1 := sl 2342912 a0 u0
 refine soD func160 ntmps160 ?_
 exact rtD [.tmp 2] f
theorem R3 (a0 : List Zr) (u0 : Sm 2342912 a0) : Sd 160 [rL 5 Zr.row a0] [rL 5 Zr.row a0] := by
  have h := P6 a0 u0
  rwa [OG] at h
theorem Rb (a0 : Zi) (u0 : Sm 2338816 a0) : Sd 110 [a0.row] [(WT a0).row] := by
 have f := me (WT.eq_1 a0)
 have c1 := sl 2338816 a0.Path u0
 refine soD func110 ntmps110 ?_
 refine cDs [false] (R3 a0.YR (sg (Zi.LA u0))) ?_
 exact rtD [.cell 2 137] f
theorem Sp (a0 : Zi) (u0 : Sm 2338816 a0) : Sd 110 [a0.row] [a0.row] := by
  have h := Rb a0 u0
  rwa [R4] at h
theorem OJ (a0 : ZZ) (u0 : Sm 2330624 a0) : Sd 73 [a0.row] [(qv a0).row] := by
 have f := me (qv.eq_1 a0)
 refine soD func73 ntmps73 ?_
 refine cDs [] (Ry a0.ZH (sg (ZZ.XZ u0))) ?_
 refine lp2 (y5.eq_2 a0) (fun J U => Yg 26 [(2, .one (.bptr 2 0), [.box [.nil 3, .nil 5]]), (3, .one (.bptr 3 0), [.box [.sref 8 0 0 a0.ZH.length, .sref 3 2 0 U.length], .none, .arr true 5 (U.map Zi.row)]), (8, .any, [.arr true 3 (a0.ZH.map ZS.row)]), eL 11 5 a0.ZY Zi.row, eI 12 (a0.ZY.length : Int), eI 13 (J : Int)]) (fun n1 J U => a0.ZY.length < n1 + J /\ J <= a0.ZY.length /\ U.length <= 0 + 1 * J) (a0.ZY.length + 1) 0 ([] : List Zi) (fun p1 J U e1 j1 => ?_) (h0 := wkS [((3, 2), none)] [])
 refine cFf e1 ?_ ?_ <;> intro k2 h1 e1
 ·have i1 := ix h1
  have m2 := ml a0.ZY (k2 11 _ rfl)
  have c1 := sl 2330624 a0.ZY u0
  have w1 := wr J
  simp [i1, ZC]
  refine rpS ?_
  refine drJ [22] mixed ?_
  simp
  refine cDs [true, true, true, false, false] (Sp (nth a0.ZY J) (sg (Zu (ZZ.Kl u0)))) ?_
  refine Wc ?_
  simp
  refine VV (wH := (U.map Zi.row)) (news := (([(nth a0.ZY J)] : List Zi).map Zi.row)) (l1 := [(3, 2)]) (l2 := [(20, 3), (20, 4)]) (size := 5) ?_
  simp
  exact nx2 e1 (hw := Y5 [((3, 2), some (22, 0))] [] rfl (by simp [w1]))
 have c2 := sl 2330624 a0.ZY u0
 have f := ms f e1
 exact rtD [.cell 2 58] f
theorem PD (a0 : ZZ) (u0 : Sm 2330624 a0) : Sd 73 [a0.row] [a0.row] := by
  have h := OJ a0 u0
  rwa [OI] at h
theorem Sr (a0 : Zk) (u0 : Sm 2326528 a0) : Sd 53 [a0.row] [(J9 a0).row] := by
 have f := me (J9.eq_1 a0)
 refine soD func53 ntmps53 ?_
 refine cDs [] (PD a0.ZL (sg (Zk.X9 u0))) ?_
 refine FK (news := (([a0.ZL] : List ZZ).map ZZ.row)) (L := [(5, 0), (5, 1)]) rfl rfl rfl rfl (by simp) (by simp) (by simp) (by simp) (by simp) (by simp) ?_
 simp
 exact rtD [.cell 2 116] f
theorem IB (a0 : List UInt8) (u0 : Sm 2342912 a0) : Sd 159 [rL 1 bR a0] [rL 1 iR (jI a0)] := by
 have f := me (jI.eq_1 a0)
 refine soD func159 ntmps159 ?_
 refine lp2 (qP.eq_2 a0) (fun J U => Yg 19 [(3, .one (.sref 3 0 0 J.length), [.arr false 1 (J.map iR)]), eL 6 1 a0 bR, eI 7 (a0.length : Int), eI 8 (U : Int)]) (fun n1 J U => a0.length < n1 + U /\ U <= a0.length /\ J.length <= 0 + 1 * U) (a0.length + 1) ([] : List Int) 0 (fun p1 J U e1 j1 => ?_) (h0 := wkS [((3, 0), none)] [])
 refine cFf e1 ?_ ?_ <;> intro k2 h1 e1
 ·have i1 := ix h1
  have m2 := ml a0 (k2 6 _ rfl)
  have c1 := sl 2342912 a0 u0
  have w1 := wr U
  simp [i1, ZC]
  refine rpS ?_
  exact nx2 e1 (hw := Y5 [((3, 0), some (16, 0))] [] rfl (by simp [w1]))
 have c2 := sl 2342912 a0 u0
 have f := ms f e1
 exact rtD [.tmp 2] f
theorem Q6 (a0 : Int) (a1 : List Int) (u0 : Sm 68719476736 a1) : Sa 108 [rI a0, rL 1 iR a1] [rI (JR a0 a1)] := by
 have f := me (JR.eq_1 a0 a1)
 have c1 := sl 68719476736 a1 u0
 refine so func108 ntmps108 ?_
 refine cRs (Lj (([7, a0] : List Int) ++ a1)) ?_
 exact rt [.tmp 4] f
theorem OH (a0 : Int) (a1 : ByteArray) (a2 : Int) (u0 : Sm 2326528 a1) : Sa 107 [rI a0, rS a1, rI a2] [rI (VO a0 a1 a2)] := by
 have f := me (VO.eq_1 a0 a1 a2)
 refine so func107 ntmps107 ?_
 have c1 : a1.size <= 2326528 := Ly (xs u0)
 refine Dd (s := a1) rfl rfl rfl (by simp) (by simp) (by simp) (by simp) (by omega) ?_
 simp
 refine cRs (YN.rd (IB a1.data.toList (by simp [XA]; first | omega | (simp [ByteArray.size] at *; omega)))) ?_
 refine cRs (Q6 a0 (([a2] : List Int) ++ (jI a1.data.toList)) (by simp (maxDischargeDepth := 12) [JJ, XA, ZU (m := 68719476736) (by decide) u0]; try omega)) ?_
 exact rt [.tmp 6] f
theorem Ux (a0 : Int) (a1 : ZV) (u0 : Sm 2322432 a1) : Sa 72 [rI a0, a1.row] [rI (yf a0 a1)] := by
 have f := me (yf.eq_1 a0 a1)
 refine so func72 ntmps72 ?_
 refine cRs (Vx a1) ?_
 refine cF f ?_ ?_ <;> intro k1 h1 f
 ·exact rt [.tmp 4] f
 refine lp2 (WX.eq_2 a0 a1) (fun J U => Yg 37 [eI 0 a0, eX 3 (a1.row.map .d), (5, .one (.sref 5 0 0 J.length), [.arr false 1 (J.map iR)]), eL 15 1 a1.Yz sR, eI 16 (a1.Yz.length : Int), eI 17 (U : Int)]) (fun n1 J U => a1.Yz.length < n1 + U /\ U <= a1.Yz.length /\ J.length <= 1 + 1 * U) (a1.Yz.length + 1) ([a1.jj] : List Int) 0 (fun p1 J U e1 j1 => ?_) (h0 := wkS [((5, 0), some (13, 0))] [])
 try dsimp only at j1
 refine cFf e1 ?_ ?_ <;> intro k3 h2 e1
 ·have i1 := ix h2
  have m2 := ml a1.Yz (k3 15 _ rfl)
  have c1 := sl 2322432 a1.Yz u0
  have w1 := wr U
  have i2 : U < a1.QQ.length := by (have := Rh (a := a1); first | (simp_all; done) | (simp_all; omega))
  simp [i1, ZC, i2]
  refine rpS ?_
  refine cRs (OH a0 (nth a1.Yz U) (nth a1.QQ U) (sg (Zu (ZV.NP u0)))) ?_
  exact nx2 e1 (hw := Y5 [((5, 0), some (32, 0))] [] rfl (by simp [w1]))
 have c2 := sl 2322432 a1.Yz u0
 have f := ms f e1
 refine cRs (Q6 a0 J (by first | (simp (maxDischargeDepth := 12) [XA]; omega) | (simp (maxDischargeDepth := 12) [ZU (m := 68719476736) (by decide) u0]; done))) ?_
 exact rt [.tmp 4] f
theorem OL (a0 : ZZ) (a1 : ZV) (u0 : Sm 2318336 a0) (u1 : Sm 2318336 a1) : Sd 106 [a0.row, a1.row] [rL 1 iR (za a0 a1)] := by
 have f := me (za.eq_1 a0 a1)
 refine soD func106 ntmps106 ?_
 refine lp2 (zB.eq_2 a0 a1) (fun J U => Yg 24 [eX 3 (a1.row.map .d), (5, .one (.sref 5 0 0 J.length), [.arr false 1 (J.map iR)]), eL 9 5 a0.ZY Zi.row, eI 10 (a0.ZY.length : Int), eI 11 (U : Int)]) (fun n1 J U => a0.ZY.length < n1 + U /\ U <= a0.ZY.length /\ J.length <= 0 + 1 * U) (a0.ZY.length + 1) ([] : List Int) 0 (fun p1 J U e1 j1 => ?_) (h0 := wkS [((5, 0), none)] [])
 refine cFf e1 ?_ ?_ <;> intro k2 h1 e1
 ·have i1 := ix h1
  have m2 := ml a0.ZY (k2 9 _ rfl)
  have c1 := sl 2318336 a0.ZY (an u0 u1)
  have w1 := wr U
  simp [i1, ZC]
  refine rpS ?_
  refine cRs (Ux (nth a0.ZY U).Method a1 (sg u1)) ?_
  exact nx2 e1 (hw := Y5 [((5, 0), some (21, 0))] [] rfl (by simp [w1]))
 have c2 := sl 2318336 a0.ZY (an u0 u1)
 have f := ms f e1
 exact rtD [.tmp 4] f
theorem Tj {a b : Prop} (h : b) (k : a := by (intros; first | omega | with_unfolding_all (first | (first | omega | (have z := Yb (Zs.XR u0); omega))) | ((try simp only [XT, show ∀ x, IntKind.i64.wrap x = W x from fun _ => rfl] at *); omega))) : a /\ b := ⟨k, h⟩
theorem Ts (a0 : Zs) (a1 : ZV) (u0 : Sm 2314240 a0) (u1 : Sm 2314240 a1) : Sd 71 [a0.row, a1.row] [rL 1 (slR 1 iR) (Ja a0 a1)] := by
 have f := me (Ja.eq_1 a0 a1)
 refine soD func71 ntmps71 ?_
 refine lp2 (Jc.eq_2 a0 a1) (fun J U => Yg 23 [eX 3 (a1.row.map .d), (5, .one (.sref 5 0 0 J.length), [.arr true 1 (J.map (slR 1 iR))]), eL 9 2 a0.Zp ZZ.row, eI 10 (a0.Zp.length : Int), eI 11 (U : Int)]) (fun n1 J U => a0.Zp.length < n1 + U /\ U <= a0.Zp.length /\ J.length <= U) (a0.Zp.length + 1) ([] : List (List Int)) 0 (fun p1 J U e1 j1 => ?_) (h0 := wkS [((5, 0), none)] [])
 try dsimp only at j1
 refine cFf e1 ?_ ?_ <;> intro k2 h1 e1
 ·have i1 := ix h1
  have m2 := ml a0.Zp (k2 9 _ rfl)
  have c1 := sl 2314240 a0.Zp (an u0 u1)
  have w1 := wr U
  simp [i1, ZC]
  repeat with_reducible refine Tj ?_
  refine cDs [false] (OL (nth a0.Zp U) a1 (sg (Zu (Zs.XR u0))) (sg u1)) ?_
  refine Wc ?_
  simp
  refine C5 (wH := (J.map (slR 1 iR))) (news := (([(za (nth a0.Zp U) a1)] : List (List Int)).map (slR 1 iR))) (l1 := [(5, 0)]) (l2 := [(18, 0)]) (size := 1) rfl rfl rfl rfl (by simp) (by simp) (by simp) (by simp) (by simp) (by simp; (first | omega | (have z := Yb (Zs.XR u0); omega))) ?_
  simp
  exact nx2 e1 (hw := Y5 [((5, 0), some (20, 0))] [] rfl (by simp [w1]))
 have c2 := sl 2314240 a0.Zp (an u0 u1)
 have f := ms f e1
 exact rtD [.tmp 4] f
theorem jN (a0 : Int) : Sa 91 [rI a0] [(qW a0).row] := by
 have f := me (qW.eq_1 a0)
 refine so func91 ntmps91 ?_
 exact rt [.cell 2 67] f
theorem Wh (a0 : Zy) : Sa 92 [a0.row] [rB (xx a0)] := by
 have f := me (xx.eq_1 a0)
 refine so func92 ntmps92 ?_
 refine cRs (Zw a0.Key 1 99) ?_
 refine cGs (fun gg => (Zw a0.ZO 1 999)) ?_
 refine cGs (fun gg => (Zw a0.Method 0 99)) ?_
 refine cGs (fun gg => (Zw a0.Org 0 99)) ?_
 refine cGs (fun gg => (Zw a0.ky 1 3)) ?_
 refine cGs (fun gg => (Zw a0.XW 0 1000000000000)) ?_
 refine cGs (fun gg => (Zw a0.WD 0 1000000000000)) ?_
 refine cGs (fun gg => (Zw a0.kG 0 1000000000000)) ?_
 exact rt [.tmp 2] f
theorem VY (a0 : Int) : Sa 93 [rI a0] [(zZ a0).row] := by
 have f := me (zZ.eq_1 a0)
 refine so func93 ntmps93 ?_
 exact rt [.cell 2 67] f
theorem TL (a0 : List Yj) (a1 : Zy) (u0 : Sm 2314240 a0) : Sa 94 [rL 5 Yj.row a0, a1.row] [rB (xi a0 a1)] := by
 have f := me (xi.eq_1 a0 a1)
 refine so func94 ntmps94 ?_
 refine dIs mixed ?_
 refine cRs (Wh a1) ?_
 refine cGs (fun gg => YN.rd (jY a1)) ?_
 refine cGs (fun gg => (QJ a0 a1.Key (QO a1) a1.Mark (sg u0) (by simp (maxDischargeDepth := 12) [ji, ZU (m := 2318336) (by decide) u0]; try omega))) ?_
 exact rt [.tmp 4] f
theorem Oo (a0 : ZZ) (a1 : ZS) : Sa 193 [a0.row, a1.row] [rI (qE a0 a1)] := by
 have f := me (qE.eq_1 a0 a1)
 refine so func193 ntmps193 ?_
 refine lp1 (WJ.eq_2 a0 a1) (fun J => Yg 20 [eX 3 (a1.row.map .d), eL 8 3 a0.ZH ZS.row, eI 9 (a0.ZH.length : Int), eI 10 (J : Int)]) (fun n1 J => a0.ZH.length < n1 + J /\ J <= a0.ZH.length) (a0.ZH.length + 1) 0 (fun p1 J e1 j1 => ?_)
 refine cFf e1 ?_ ?_ <;> intro k2 h1 e1
 ·have i1 := ix h1
  have m2 := ml a0.ZH (k2 8 _ rfl)
  have w1 := wr J
  simp [i1, ZC]
  refine rpS ?_
  refine cRs (xR (nth a0.ZH J) a1) ?_
  refine cF e1 ?_ ?_ <;> intro k3 h2 e1
  ·have f := ms f e1
   exact rt [.tmp 4] f
  exact ny1 w1 e1
 have f := ms f e1
 exact rt [.tmp 4] f
theorem WL (a0 : Int) (a1 : Int) : Sa 206 [rI a0, rI a1] [(Kb a0 a1).1.row, rB (Kb a0 a1).2] := by
 have f := me (Kb.eq_1 a0 a1)
 refine so func206 ntmps206 ?_
 refine cGs (fun gg => (Qm (Za.mk (if 0 > a0 then 0 else a0) (if 10000 < a1 then 10000 else a1)))) ?_
 refine cF f ?_ ?_ <;> intro k1 h1 f
 ·exact rt [.cell 4 65, .tmp 5] f
 exact rt [.cell 4 65, .tmp 5] f
theorem O2 (a0 : List Zg) (a1 : Zr) : Sa 201 [rL 3 Zg.row a0, a1.row] [(qM a0 a1).1.row, rB (qM a0 a1).2] := by
 have f := me (qM.eq_1 a0 a1)
 refine so func201 ntmps201 ?_
 refine cRs (Kc a0 a1.Authority) ?_
 refine gIf ?_ ?_ <;> intro G
 ·have i1 : (YE a0 a1.Authority).toNat < a0.length := by have := KM a0 a1.Authority; exact il
  simp [i1, ZC, G]
  refine rpG ?_
  refine cGg (fun gg => (Ji a1.Time)) ?_
  refine cK f ?_ ?_ <;> intro k1 h1 f
  ·try (simp [G] at h1; done)
   all_goals
    exact rtg [.cell 4 65, .tmp 5] f
  ·try (simp [G] at h1; done)
   all_goals
    refine dIo mixed ?_
    simp [i1, ZC, G]
    refine rpG ?_
    refine cRg (WL (W (a1.Time - (nth a0 (YE a0 a1.Authority).toNat).Error)) (W (a1.Time + (nth a0 (YE a0 a1.Authority).toNat).Error))) ?_
    exact rtg [.cell 4 65, .tmp 5] f
 ·refine cGg (fun gg => (Ji a1.Time)) ?_
  refine cK f ?_ ?_ <;> intro k3 h2 f
  ·try (simp [G] at h2; done)
   all_goals
    exact rtg [.cell 4 65, .tmp 5] f
  ·try (simp [G] at h2; done)
   all_goals
    refine dIo mixed ?_
    have i3 : (YE a0 a1.Authority).toNat < a0.length := by have := KM a0 a1.Authority; exact il
    simp [i3, ZC, G]
    refine rpG ?_
    refine cRg (WL (W (a1.Time - (nth a0 (YE a0 a1.Authority).toNat).Error)) (W (a1.Time + (nth a0 (YE a0 a1.Authority).toNat).Error))) ?_
    exact rtg [.cell 4 65, .tmp 5] f
theorem IE (a0 : List Za) (a1 : Int) : Sa 242 [rL 2 Za.row a0, rI a1] [rI (Rw a0 a1)] := by
 have f := me (Rw.eq_1 a0 a1)
 refine so func242 ntmps242 ?_
 refine lp2 (kF.eq_2 a0 a1) (fun J U => Yg 28 [eI 1 a1, eI 5 J, eL 8 2 a0 Za.row, eI 9 (a0.length : Int), eI 10 (U : Int)]) (fun n1 J U => a0.length < n1 + U /\ U <= a0.length) (a0.length + 1) 0 0 (fun p1 J U e1 j1 => ?_)
 refine cFf e1 ?_ ?_ <;> intro k2 h1 e1
 ·have i1 := ix h1
  have m2 := ml a0 (k2 8 _ rfl)
  have w1 := wr U
  simp [i1, ZC]
  refine rpS ?_
  refine cRs (Qm (nth a0 U)) ?_
  refine cGs (fun gg => (Zw a1 (nth a0 U).XU (nth a0 U).To)) ?_
  refine cFo e1 ?_ ?_ <;> intro k3 h2 e1
  ·have q2 := h2; try simp [Zd] at q2
   simp
   exact ny2 w1 e1
  have q2 := h2; try simp [Zd] at q2
  simp
  exact ny2 w1 e1
 have f := ms f e1
 exact rt [.tmp 4] f
theorem RN (a0 : List Za) (a1 : Int) (a2 : Int) : Sa 228 [rL 2 Za.row a0, rI a1, rI a2] [rB (WM a0 a1 a2)] := by
 have f := me (WM.eq_1 a0 a1 a2)
 refine so func228 ntmps228 ?_
 refine cRs (Zw a2 0 (W ((a0.length : Int) - 1))) ?_
 refine cGs (fun gg => (IE a0 a1)) ?_
 exact rt [.tmp 6] f
theorem OR (a0 : List Za) (a1 : Int) : Sa 202 [rL 2 Za.row a0, rI a1] [(xE a0 a1).1.row, rB (xE a0 a1).2] := by
 have f := me (xE.eq_1 a0 a1)
 refine so func202 ntmps202 ?_
 refine lp4 (zF.eq_2 a0 a1) (fun J U wD wL => Yg 25 [eL 0 2 a0 Za.row, eI 1 a1, (4, .one (.bptr 4 0), [.box [.d (.int .i64 0), .d (.int .i64 0)]]), (6, .one (.bptr 6 0), [.box [.d (.int .i64 wD), .d (.int .i64 wL)]]), eB 7 J, eI 8 (U : Int)]) (fun n1 J U wD wL => 10001 < n1 + U) 10002 false 0 0 0 (fun p1 J U wD wL e1 j1 => ?_)
 refine cF e1 ?_ ?_ <;> intro k2 h1 e1
 ·have w1 := wr U
  refine cRs (RN a0 (U : Int) a1) ?_
  refine cF e1 ?_ ?_ <;> intro k3 h2 e1
  ·refine cF e1 ?_ ?_ <;> intro k4 h3 e1
   ·exact ny4 w1 e1
   exact ny4 w1 e1
  exact ny4 w1 e1
 have f := ms f e1
 exact rt [.cell 4 65, .tmp 5] f
theorem WN (a0 : List Zg) (a1 : List Zr) (a2 : Int) (u0 : Sm 2318336 a0) (u1 : Sm 2318336 a1) : Sa 152 [rL 3 Zg.row a0, rL 5 Zr.row a1, rI a2] [(JQ a0 a1 a2).1.row, rB (JQ a0 a1 a2).2] := by
 have f := me (JQ.eq_1 a0 a1 a2)
 refine so func152 ntmps152 ?_
 refine lp2 (VW.eq_2 a0 a1) (fun J U => Yg 38 [eL 0 3 a0 Zg.row, eI 2 a2, (6, .one (.bptr 6 0), [.box [.d (.int .i64 0), .d (.int .i64 0)]]), (8, .one (.sref 8 0 0 J.length), [.arr false 2 (J.map Za.row)]), eL 13 5 a1 Zr.row, eI 14 (a1.length : Int), eI 15 (U : Int)]) (fun n1 J U => a1.length < n1 + U /\ U <= a1.length /\ J.length <= 0 + 1 * U) (a1.length + 1) ([] : List Za) 0 (fun p1 J U e1 j1 => ?_) (h0 := wkS [((8, 0), none)] [])
 refine cFf e1 ?_ ?_ <;> intro k2 h1 e1
 ·have i1 := ix h1
  have m2 := ml a1 (k2 13 _ rfl)
  have c1 := sl 2318336 a1 (an u0 u1)
  have w1 := wr U
  simp [i1, ZC]
  refine rpS ?_
  refine cRs (O2 a0 (nth a1 U)) ?_
  refine cF e1 ?_ ?_ <;> intro k3 h2 e1
  ·have f := ms f e1
   exact rt [.cell 6 65, .tmp 7] f
  exact nx2 e1 (hw := Y5 [((8, 0), some (31, 0))] [] rfl (by simp [w1]))
 have c2 := sl 2318336 a1 (an u0 u1)
 have f := ms f e1
 refine cRs (OR J a2) ?_
 exact rt [.cell 6 65, .tmp 7] f
theorem RV (a0 : List Zg) (a1 : Zi) (a2 : Int) (u0 : Sm 2314240 a0) (u1 : Sm 2314240 a1) : Sa 241 [rL 3 Zg.row a0, a1.row, rI a2] [(yF a0 a1 a2).1.row, rB (yF a0 a1 a2).2] := by
 have f := me (yF.eq_1 a0 a1 a2)
 refine so func241 ntmps241 ?_
 refine cRs (WN a0 a1.YR a2 (sg u0) (sg (Zi.LA u1))) ?_
 exact rt [.cell 6 65, .tmp 7] f
theorem y8 (a0 : Ze) (a1 : Zi) (u0 : Sm 2310144 a0) (u1 : Sm 2310144 a1) : Sa 227 [a0.row, a1.row] [(Qi a0 a1).1.row, rB (Qi a0 a1).2] := by
 have f := me (Qi.eq_1 a0 a1)
 refine so func227 ntmps227 ?_
 refine cRs (RV a0.ZM a1 a0.Kk (sg (Ze.Xc u0)) (sg u1)) ?_
 exact rt [.cell 4 65, .tmp 5] f
theorem jl (a0 : Zr) : Sd 200 [a0.row] [rL 1 iR (JC a0)] := by
 have f := me (JC.eq_1 a0)
 refine soD func200 ntmps200 ?_
 exact rtD [.tmp 2] f
theorem jz (a0 : Int) (a1 : Zi) (u0 : Sm 2326528 a1) : Sa 246 [rI a0, a1.row] [rI (Kh a0 a1)] := by
 have f := me (Kh.eq_1 a0 a1)
 refine so func246 ntmps246 ?_
 refine lp2 (K2.eq_2 a1) (fun J U => Yg 59 [eI 0 a0, eX 3 (a1.row.map .d), (5, .one (.sref 5 0 0 J.length), [.arr false 1 (J.map iR)]), eL 19 2 a1.Path QB.row, eI 20 (a1.Path.length : Int), eI 21 (U : Int)]) (fun n1 J U => a1.Path.length < n1 + U /\ U <= a1.Path.length /\ J.length <= 4 + 2 * U) (a1.Path.length + 1) ([4, a1.Count, a1.Method, a1.Hp] : List Int) 0 (fun p1 J U e1 j1 => ?_) (h0 := wkS [((5, 0), some (17, 0))] [])
 refine cFo e1 ?_ ?_ <;> intro k2 h1 e1
 ·have q1 := h1; try simp at q1
  have i1 := ix h1
  have m2 := ml a1.Path (k2 19 _ rfl)
  have c1 := sl 2326528 a1.Path u0
  have w1 := wr U
  simp [i1, ZC]
  refine rpS ?_
  refine cFo e1 ?_ ?_ <;> intro k3 h2 e1
  ·have q2 := h2; try simp at q2
   simp
   refine rpS ?_
   exact nx2 e1 (hw := Y5 [((5, 0), some (32, 0))] [] rfl (by simp [w1]))
  have q2 := h2; try simp at q2
  simp
  refine rpS ?_
  exact nx2 e1 (hw := Y5 [((5, 0), some (32, 0))] [] rfl (by simp [w1]))
 have q1 := h1; try simp at q1
 have c2 := sl 2326528 a1.Path u0
 have f := ms f e1
 simp
 refine rpS ?_
 refine lp2 (yx.eq_2 a1) (fun wB wC => Yg 59 [eI 0 a0, (5, .one (.sref 5 0 0 wB.length), [.arr false 1 (wB.map iR)]), eL 41 5 a1.YR Zr.row, eI 42 (a1.YR.length : Int), eI 43 (wC : Int)]) (fun n2 wB wC => a1.YR.length < n2 + wC /\ wC <= a1.YR.length /\ wB.length <= 5 + 2 * 2326528 + 6 * wC) (a1.YR.length + 1) (J ++ ([(a1.YR.length : Int)] : List Int)) 0 (fun p2 wB wC e2 j2 => ?_) (hI := by (have o : a1.Path.length <= 2326528 := Yb (xs u0); simp at *; omega)) (h0 := wkS [((5, 0), some (39, 0))] [])
 try dsimp only at j2
 refine cFo e2 ?_ ?_ <;> intro k5 h3 e2
 ·have q3 := h3; try simp at q3
  have i2 := ix h3
  have m4 := ml a1.YR (k5 41 _ rfl)
  have c3 := sl 2326528 a1.YR u0
  have w2 := wr wC
  simp [i2, ZC]
  refine rpS ?_
  refine dIs mixed ?_
  refine cRs (YN.rd (jl (nth a1.YR wC))) ?_
  exact nx2 e2 (hI := by (simp; omega)) (hw := Y5 [((5, 0), some (54, 0))] [] rfl (by simp [w2]))
 have q3 := h3; try simp at q3
 have c4 := sl 2326528 a1.YR u0
 have f := ms f e2
 simp
 refine cRs (Q6 a0 wB (by first | (simp (maxDischargeDepth := 12) [XA]; omega) | (simp (maxDischargeDepth := 12) [ZU (m := 68719476736) (by decide) u0]; done))) ?_
 exact rt [.tmp 4] f
theorem SH (a0 : Int) (a1 : List ZS) (u0 : Sm 2326528 a1) : Sa 251 [rI a0, rL 3 ZS.row a1] [rI (yo a0 a1)] := by
 have f := me (yo.eq_1 a0 a1)
 refine so func251 ntmps251 ?_
 refine lp2 (xp.eq_2 a0 a1) (fun J U => Yg 32 [eI 0 a0, (5, .one (.sref 5 0 0 J.length), [.arr false 1 (J.map iR)]), eL 9 3 a1 ZS.row, eI 10 (a1.length : Int), eI 11 (U : Int)]) (fun n1 J U => a1.length < n1 + U /\ U <= a1.length /\ J.length <= 1 + 1 * U) (a1.length + 1) ([2] : List Int) 0 (fun p1 J U e1 j1 => ?_) (h0 := wkS [((5, 0), some (8, 0))] [])
 refine cFf e1 ?_ ?_ <;> intro k2 h1 e1
 ·have i1 := ix h1
  have m2 := ml a1 (k2 9 _ rfl)
  have c1 := sl 2326528 a1 u0
  have w1 := wr U
  have c2 := sl 2326528 (nth a1 U).Z4 u0
  simp [i1, ZC]
  refine rpS ?_
  refine cRs (Q6 a0 (([(nth a1 U).Key, (nth a1 U).Mark] : List Int) ++ (nth a1 U).Z4) (by simp (maxDischargeDepth := 12) [JJ, XA, ZU (m := 68719476736) (by decide) u0]; try omega)) ?_
  exact nx2 e1 (hw := Y5 [((5, 0), some (27, 0))] [] rfl (by simp [w1]))
 have c3 := sl 2326528 a1 u0
 have f := ms f e1
 refine cRs (Q6 a0 J (by first | (simp (maxDischargeDepth := 12) [XA]; omega) | (simp (maxDischargeDepth := 12) [ZU (m := 68719476736) (by decide) u0]; done))) ?_
 exact rt [.tmp 4] f
theorem kU (a0 : Int) (a1 : Int) (a2 : List ZS) (a3 : Int) (u0 : Sm 2322432 a2) : Sa 247 [rI a0, rI a1, rL 3 ZS.row a2, rI a3] [rI (S5 a0 a1 a2 a3)] := by
 have f := me (S5.eq_1 a0 a1 a2 a3)
 refine so func247 ntmps247 ?_
 refine cRs (SH a0 a2 (sg u0)) ?_
 refine cRs (Q6 a0 ([3, a1, (yo a0 a2), a3] : List Int) (by simp (maxDischargeDepth := 12) [JJ, XA, ZU (m := 68719476736) (by decide) u0]; try omega)) ?_
 exact rt [.tmp 8] f
theorem Yk {a b : Prop} (h : b) (k : a := by (intros; first | omega | with_unfolding_all (first | first | omega | (have cc : a0.ZY.length <= 2318336 := Yb (xs u0); have z0 := vh; simp at z0; have z := Qb (by omega) z0.1; have z2 := z0.2; (try have w3 : IntKind.i64.wrap (a2 - 1) = a2 - 1 := YW (by omega) (by omega)); (try have w4 : W (a2 - 1) = a2 - 1 := w3); first | omega | (refine ⟨⟨z0.1, by omega⟩, by omega, by omega⟩) | (simp_all; omega))) | (simp_all; done) | (simp_all; omega) | grind | ((try simp only [XT, show ∀ x, IntKind.i64.wrap x = W x from fun _ => rfl] at *); omega))) : a /\ b := ⟨k, h⟩
theorem H2 (a0 : ZZ) (a1 : List Int) (a2 : Int) (u0 : Sm 2318336 a0) (u1 : Sm 2318336 a1) : Sa 239 [a0.row, rL 1 iR a1, rI a2] [rI (Si a0 a1 a2)] := by
 have f := me (Si.eq_1 a0 a1 a2)
 refine so func239 ntmps239 ?_
 refine dIs mixed ?_
 refine cRs (Zw a2 0 (W ((a0.ZY.length : Int) - 1))) ?_
 refine gIo ?_ ?_ <;> intro G
 ·have vh := G
  have c1 := sl 2318336 a0.ZY (an u0 u1)
  have w1 : IntKind.i64.wrap ((a0.ZY.length : Int) - 1) = (a0.ZY.length : Int) - 1 := YW (by omega) (by omega)
  have g1 := G; try simp [Zd, w1] at g1
  have i1 : a2.toNat < a0.ZY.length := by (have cc : a0.ZY.length <= 2318336 := Yb (xs u0); have z0 := vh; simp at z0; have z := Qb (by omega) z0.1; have z2 := z0.2; (try have w3 : IntKind.i64.wrap (a2 - 1) = a2 - 1 := YW (by omega) (by omega)); (try have w4 : W (a2 - 1) = a2 - 1 := w3); omega)
  simp [i1, ZC, G]
  repeat with_reducible refine Yk ?_
  refine cGo (fun gg => (Zw (nth a0.ZY a2.toNat).Count 0 (a0.ZH.length : Int))) ?_
  simp [G]
  repeat with_reducible refine Yk ?_
  refine cKo f ?_ ?_ <;> intro k2 h1 f
  ·try (simp [G] at h1; done)
   all_goals
    have q1 := h1; try simp [Zd, w1] at q1
    simp [G]
    repeat with_reducible refine Yk ?_
    exact rtg [.tmp 6] f
  ·try (simp [G] at h1; done)
   all_goals
    have q1 := h1; try simp [Zd, w1] at q1
    simp [i1, ZC, G]
    repeat with_reducible refine Yk ?_
    refine cKo f ?_ ?_ <;> intro k3 h2 f
    ·try (simp [G] at h2; done)
     all_goals
      simp [G]
      repeat with_reducible refine Yk ?_
      refine dIo mixed ?_
      have i2 : (W (a2 - 1)).toNat < a0.ZY.length := by (have cc : a0.ZY.length <= 2318336 := Yb (xs u0); have z0 := vh; simp at z0; have z := Qb (by omega) z0.1; have z2 := z0.2; (try have w3 : IntKind.i64.wrap (a2 - 1) = a2 - 1 := YW (by omega) (by omega)); (try have w4 : W (a2 - 1) = a2 - 1 := w3); omega)
      simp [i2, ZC, G]
      repeat with_reducible refine Yk ?_
      refine cR (jz (nth a0.ZY a2.toNat).Method (nth a0.ZY (W (a2 - 1)).toNat) (sg (Zu (ZZ.Kl u0)))) ?_ (wP := by first | (simp; done) | (simp [W, w1]; done))
      simp [G]
      repeat with_reducible refine Yk ?_
      refine dIo mixed ?_
      have i3 : a2.toNat < a1.length := by (have cc : a0.ZY.length <= 2318336 := Yb (xs u0); have z0 := vh; simp at z0; have z := Qb (by omega) z0.1; have z2 := z0.2; (try have w3 : IntKind.i64.wrap (a2 - 1) = a2 - 1 := YW (by omega) (by omega)); (try have w4 : W (a2 - 1) = a2 - 1 := w3); omega)
      simp [i3, ZC, G]
      repeat with_reducible refine Yk ?_
      refine cR (kU (nth a0.ZY a2.toNat).Method (nth a1 a2.toNat) (a0.ZH.take (nth a0.ZY a2.toNat).Count.toNat) (Kh (nth a0.ZY a2.toNat).Method (nth a0.ZY (W (a2 - 1)).toNat)) (ZU (n := 2318336) (by decide) (xs (an u0 u1)))) ?_ (wP := by first | (simp; done) | (simp [W, w1]; done))
      simp [G]
      repeat with_reducible refine Yk ?_
      exact rtg [.tmp 6] f
    ·try (simp [G] at h2; done)
     all_goals
      simp [G]
      repeat with_reducible refine Yk ?_
      refine dIo mixed ?_
      have i4 : a2.toNat < a1.length := by (have cc : a0.ZY.length <= 2318336 := Yb (xs u0); have z0 := vh; simp at z0; have z := Qb (by omega) z0.1; have z2 := z0.2; (try have w3 : IntKind.i64.wrap (a2 - 1) = a2 - 1 := YW (by omega) (by omega)); (try have w4 : W (a2 - 1) = a2 - 1 := w3); omega)
      simp [i4, ZC, G]
      repeat with_reducible refine Yk ?_
      refine cR (kU (nth a0.ZY a2.toNat).Method (nth a1 a2.toNat) (a0.ZH.take (nth a0.ZY a2.toNat).Count.toNat) 0 (ZU (n := 2318336) (by decide) (xs (an u0 u1)))) ?_
      simp [G]
      repeat with_reducible refine Yk ?_
      exact rtg [.tmp 6] f
 ·have vh := G
  simp [G]
  repeat with_reducible refine Yk ?_
  refine sGo ?_
  simp [G]
  repeat with_reducible refine Yk ?_
  have c2 := sl 2318336 a0.ZY (an u0 u1)
  have w2 : IntKind.i64.wrap ((a0.ZY.length : Int) - 1) = (a0.ZY.length : Int) - 1 := YW (by omega) (by omega)
  refine cKo f ?_ ?_ <;> intro k7 h3 f
  ·try (simp [G] at h3; done)
   all_goals
    have q3 := h3; try simp [Zd, w2] at q3
    simp [G]
    repeat with_reducible refine Yk ?_
    exact rtg [.tmp 6] f
  ·try (simp [G] at h3; done)
   all_goals
    have q3 := h3; try simp [Zd, w2] at q3
    have i6 : a2.toNat < a0.ZY.length := by (have cc : a0.ZY.length <= 2318336 := Yb (xs u0); have z0 := vh; simp at z0; have z := Qb (by omega) z0.1; have z2 := z0.2; (try have w3 : IntKind.i64.wrap (a2 - 1) = a2 - 1 := YW (by omega) (by omega)); (try have w4 : W (a2 - 1) = a2 - 1 := w3); omega)
    simp [i6, ZC, G]
    repeat with_reducible refine Yk ?_
    refine cKo f ?_ ?_ <;> intro k8 h4 f
    ·try (simp [G] at h4; done)
     all_goals
      simp [G]
      repeat with_reducible refine Yk ?_
      refine dIo mixed ?_
      have i7 : (W (a2 - 1)).toNat < a0.ZY.length := by (have cc : a0.ZY.length <= 2318336 := Yb (xs u0); have z0 := vh; simp at z0; have z := Qb (by omega) z0.1; have z2 := z0.2; (try have w3 : IntKind.i64.wrap (a2 - 1) = a2 - 1 := YW (by omega) (by omega)); (try have w4 : W (a2 - 1) = a2 - 1 := w3); omega)
      simp [i7, ZC, G]
      repeat with_reducible refine Yk ?_
      refine cR (jz (nth a0.ZY a2.toNat).Method (nth a0.ZY (W (a2 - 1)).toNat) (sg (Zu (ZZ.Kl u0)))) ?_ (wP := by first | (simp; done) | (simp [W, w2]; done))
      simp [G]
      repeat with_reducible refine Yk ?_
      refine dIo mixed ?_
      have i8 : a2.toNat < a1.length := by (have cc : a0.ZY.length <= 2318336 := Yb (xs u0); have z0 := vh; simp at z0; have z := Qb (by omega) z0.1; have z2 := z0.2; (try have w3 : IntKind.i64.wrap (a2 - 1) = a2 - 1 := YW (by omega) (by omega)); (try have w4 : W (a2 - 1) = a2 - 1 := w3); omega)
      simp [i8, ZC, G]
      repeat with_reducible refine Yk ?_
      refine cR (kU (nth a0.ZY a2.toNat).Method (nth a1 a2.toNat) (a0.ZH.take (nth a0.ZY a2.toNat).Count.toNat) (Kh (nth a0.ZY a2.toNat).Method (nth a0.ZY (W (a2 - 1)).toNat)) (ZU (n := 2318336) (by decide) (xs (an u0 u1)))) ?_ (wP := by first | (simp; done) | (simp [W, w2]; done))
      simp [G]
      repeat with_reducible refine Yk ?_
      exact rtg [.tmp 6] f
    ·try (simp [G] at h4; done)
     all_goals
      simp [G]
      repeat with_reducible refine Yk ?_
      refine dIo mixed ?_
      have i9 : a2.toNat < a1.length := by (have cc : a0.ZY.length <= 2318336 := Yb (xs u0); have z0 := vh; simp at z0; have z := Qb (by omega) z0.1; have z2 := z0.2; (try have w3 : IntKind.i64.wrap (a2 - 1) = a2 - 1 := YW (by omega) (by omega)); (try have w4 : W (a2 - 1) = a2 - 1 := w3); omega)
      simp [i9, ZC, G]
      repeat with_reducible refine Yk ?_
      refine cR (kU (nth a0.ZY a2.toNat).Method (nth a1 a2.toNat) (a0.ZH.take (nth a0.ZY a2.toNat).Count.toNat) 0 (ZU (n := 2318336) (by decide) (xs (an u0 u1)))) ?_
      simp [G]
      repeat with_reducible refine Yk ?_
      exact rtg [.tmp 6] f
theorem Vs (a0 : Int) (a1 : Int) (a2 : Int) : Sa 249 [rI a0, rI a1, rI a2] [rI (qy a0 a1 a2)] := by
 have f := me (qy.eq_1 a0 a1 a2)
 refine so func249 ntmps249 ?_
 refine cRs (Q6 a0 ([1, a1, a2] : List Int) (by simp (maxDischargeDepth := 12) [JJ, XA]; try omega)) ?_
 exact rt [.tmp 6] f
theorem Pl (a0 : Int) (a1 : Int) (a2 : List QB) : Sa 244 [rI a0, rI a1, rL 2 QB.row a2] [rI (VI a0 a1 a2)] := by
 have f := me (VI.eq_1 a0 a1 a2)
 refine so func244 ntmps244 ?_
 refine lp2 (yq.eq_2 a0 a2) (fun J U => Yg 29 [eI 0 a0, eI 1 J, eL 9 2 a2 QB.row, eI 10 (a2.length : Int), eI 11 (U : Int)]) (fun n1 J U => a2.length < n1 + U /\ U <= a2.length) (a2.length + 1) a1 0 (fun p1 J U e1 j1 => ?_)
 refine cFf e1 ?_ ?_ <;> intro k2 h1 e1
 ·have i1 := ix h1
  have m2 := ml a2 (k2 9 _ rfl)
  have w1 := wr U
  simp [i1, ZC]
  refine rpS ?_
  refine cF e1 ?_ ?_ <;> intro k3 h2 e1
  ·refine cRs (Vs a0 (nth a2 U).XW J) ?_
   exact ny2 w1 e1
  refine cRs (Vs a0 J (nth a2 U).XW) ?_
  exact ny2 w1 e1
 have f := ms f e1
 exact rt [.tmp 6] f
theorem KW (a0 : List Zr) : Sa 148 [rL 5 Zr.row a0] [rB (Qu a0)] := by
 have f := me (Qu.eq_1 a0)
 refine so func148 ntmps148 ?_
 refine lp1 (Kt.eq_2 a0) (fun J => Yg 22 [eL 0 5 a0 Zr.row, eI 3 (J : Int)]) (fun n1 J => a0.length < n1 + J /\ 1 <= J) (a0.length + 1) 1 (fun p1 J e1 j1 => ?_)
 refine cF e1 ?_ ?_ <;> intro k2 h1 e1
 ·have i1 := ix h1
  have m2 := ml a0 (k2 0 _ rfl)
  have w1 := wr J
  refine dIo mixed ?_
  have i2 := ik (J - 1) a0
  have w2 : IntKind.i64.wrap ((J : Int) - 1) = (J : Int) - 1 := YW (by omega) (by omega)
  simp [i2, ZC, w2, Qs, i1]
  refine rpS ?_
  refine cF e1 ?_ ?_ <;> intro k4 h2 e1
  ·have f := ms f e1
   exact rt [.tmp 2] f
  exact ny1 (an w1 w2) e1
 have f := ms f e1
 exact rt [.tmp 2] f
theorem NF (a0 : List Yj) (a1 : List Zg) (a2 : Zr) (u0 : Sm 2318336 a0) (u1 : Sm 2318336 a1) : Sa 250 [rL 5 Yj.row a0, rL 3 Zg.row a1, a2.row] [(Jo a0 a1 a2).1.row, rB (Jo a0 a1 a2).2] := by
 have f := me (Jo.eq_1 a0 a1 a2)
 refine so func250 ntmps250 ?_
 refine cRs (Kc a1 a2.Authority) ?_
 refine cGs (fun gg => (Ji a2.Time)) ?_
 refine cF f ?_ ?_ <;> intro k1 h1 f
 ·exact rt [.cell 6 193, .tmp 7] f
 refine dIo mixed ?_
 have i1 : (YE a1 a2.Authority).toNat < a1.length := by have := KM a1 a2.Authority; exact il
 simp [i1, ZC]
 refine rpS ?_
 refine cRs (YN.rd (jl a2)) ?_
 refine cRs (PR a0 (nth a1 (YE a1 a2.Authority).toNat).Key (JC a2) (sg u0) (by simp (maxDischargeDepth := 12) [MF, ZU (m := 2322432) (by decide) u0, ZU (m := 2322432) (by decide) u1]; try omega)) ?_
 refine cF f ?_ ?_ <;> intro k3 h2 f
 ·exact rt [.cell 6 193, .tmp 7] f
 exact rt [.cell 6 193, .tmp 7] f
theorem OS (a0 : List Yj) (a1 : List Zg) (a2 : Zr) (u0 : Sm 2314240 a0) (u1 : Sm 2314240 a1) : Sa 245 [rL 5 Yj.row a0, rL 3 Zg.row a1, a2.row] [rB (Vl a0 a1 a2)] := by
 have f := me (Vl.eq_1 a0 a1 a2)
 refine so func245 ntmps245 ?_
 refine cRs (NF a0 a1 a2 (sg u0) (sg u1)) ?_
 exact rt [.tmp 6] f
theorem SF (a0 : List Yj) (a1 : List Zg) (a2 : Zi) (a3 : Int) (u0 : Sm 2310144 a0) (u1 : Sm 2310144 a1) (u2 : Sm 2310144 a2) : Sa 238 [rL 5 Yj.row a0, rL 3 Zg.row a1, a2.row, rI a3] [rB (jQ a0 a1 a2 a3)] := by
 have f := me (jQ.eq_1 a0 a1 a2 a3)
 refine so func238 ntmps238 ?_
 refine dIs mixed ?_
 refine cGs (fun gg => (Pl a2.Method a3 a2.Path)) ?_
 refine cGs (fun gg => (Zw (a2.YR.length : Int) 1 6)) ?_
 refine cGs (fun gg => (KW a2.YR)) ?_
 refine cFo f ?_ ?_ <;> intro k2 h1 f
 ·have q1 := h1; try simp [Zd] at q1
  simp
  exact rt [.tmp 8] f
 have q1 := h1; try simp [Zd] at q1
 simp
 refine lp1 (xj.eq_2 a0 a1 a2) (fun J => Yg 59 [eL 0 5 a0 Yj.row, eL 1 3 a1 Zg.row, eX 6 (a2.row.map .d), eL 40 5 a2.YR Zr.row, eI 41 (a2.YR.length : Int), eI 42 (J : Int)]) (fun n1 J => a2.YR.length < n1 + J /\ J <= a2.YR.length) (a2.YR.length + 1) 0 (fun p1 J e1 j1 => ?_)
 refine cFf e1 ?_ ?_ <;> intro k4 h2 e1
 ·have i1 := ix h2
  have m2 := ml a2.YR (k4 40 _ rfl)
  have c1 := sl 2310144 a2.YR (an u0 (an u1 u2))
  have w1 := wr J
  simp [i1, ZC]
  refine rpS ?_
  refine cGs (fun gg => (OS a0 a1 (nth a2.YR J) (sg u0) (sg u1))) ?_
  refine cF e1 ?_ ?_ <;> intro k5 h3 e1
  ·have f := ms f e1
   exact rt [.tmp 8] f
  exact ny1 w1 e1
 have c2 := sl 2310144 a2.YR (an u0 (an u1 u2))
 have f := ms f e1
 exact rt [.tmp 8] f
theorem P2 (a0 : List YJ) (a1 : Int) : Sa 143 [rL 4 YJ.row a0, rI a1] [rI (zo a0 a1)] := by
 have f := me (zo.eq_1 a0 a1)
 refine so func143 ntmps143 ?_
 refine lp1 (yz.eq_2 a0 a1) (fun J => Yg 20 [eI 1 a1, eL 7 4 a0 YJ.row, eI 8 (a0.length : Int), eI 9 (J : Int)]) (fun n1 J => a0.length < n1 + J /\ J <= a0.length) (a0.length + 1) 0 (fun p1 J e1 j1 => ?_)
 refine cFf e1 ?_ ?_ <;> intro k2 h1 e1
 ·have i1 := ix h1
  have m2 := ml a0 (k2 7 _ rfl)
  have w1 := wr J
  simp [i1, ZC]
  refine rpS ?_
  refine cF e1 ?_ ?_ <;> intro k3 h2 e1
  ·have f := ms f e1
   exact rt [.tmp 4] f
  exact ny1 w1 e1
 have f := ms f e1
 exact rt [.tmp 4] f
theorem qo (a0 : List YJ) (a1 : Int) : Sa 97 [rL 4 YJ.row a0, rI a1] [rI (yd a0 a1)] := by
 have f := me (yd.eq_1 a0 a1)
 refine so func97 ntmps97 ?_
 refine cRs (P2 a0 a1) ?_
 refine cFf f ?_ ?_ <;> intro k1 h1 f
 ·have i1 : (zo a0 a1).toNat < a0.length := by have := Ps a0 a1; exact il
  simp [i1, ZC]
  refine rpS ?_
  exact rt [.tmp 4] f
 exact rt [.tmp 4] f
theorem Wa (a0 : List Zg) (a1 : Zr) : Sa 151 [rL 3 Zg.row a0, a1.row] [rI (X0 a0 a1)] := by
 have f := me (X0.eq_1 a0 a1)
 refine so func151 ntmps151 ?_
 refine cRs (Kc a0 a1.Authority) ?_
 refine cFf f ?_ ?_ <;> intro k1 h1 f
 ·have i1 : (YE a0 a1.Authority).toNat < a0.length := by have := KM a0 a1.Authority; exact il
  simp [i1, ZC]
  refine rpS ?_
  exact rt [.tmp 4] f
 exact rt [.tmp 4] f
theorem Sq (a0 : List Yj) (a1 : List Zg) (a2 : List YJ) (a3 : Zi) : Sa 248 [rL 5 Yj.row a0, rL 3 Zg.row a1, rL 4 YJ.row a2, a3.row] [rI (yw a0 a1 a2 a3)] := by
 have f := me (yw.eq_1 a0 a1 a2 a3)
 refine so func248 ntmps248 ?_
 refine cRs (qo a2 a3.Method) ?_
 refine lp2 (xX.eq_2 a0 a1 a2 a3) (fun J U => Yg 42 [eL 0 5 a0 Yj.row, eL 1 3 a1 Zg.row, eL 2 4 a2 YJ.row, eI 9 J, eL 18 5 a3.YR Zr.row, eI 19 (a3.YR.length : Int), eI 20 (U : Int)]) (fun n1 J U => a3.YR.length < n1 + U /\ U <= a3.YR.length) (a3.YR.length + 1) (yd a2 a3.Method) 0 (fun p1 J U e1 j1 => ?_)
 refine cFf e1 ?_ ?_ <;> intro k2 h1 e1
 ·have i1 := ix h1
  have m2 := ml a3.YR (k2 18 _ rfl)
  have w1 := wr U
  simp [i1, ZC]
  refine rpS ?_
  refine cRs (Wa a1 (nth a3.YR U)) ?_
  refine cRs (zW a0 (X0 a1 (nth a3.YR U))) ?_
  refine cFt e1 ?_ ?_ <;> intro k3 h2 e1
  ·have f := ms f e1
   exact rt [.tmp 8] f
  have i2 : (XE a0 (X0 a1 (nth a3.YR U))).toNat < a0.length := by have := yk a0 (X0 a1 (nth a3.YR U)); exact il
  simp [i2, ZC]
  refine rpS ?_
  refine cRs (qo a2 (nth a0 (XE a0 (X0 a1 (nth a3.YR U))).toNat).Method) ?_
  exact ny2 w1 e1
 have f := ms f e1
 exact rt [.tmp 8] f
theorem Ue {a b : Prop} (h : b) (k : a := by (intros; first | omega | with_unfolding_all (first | (first | omega | (have mm : a1.ZY.length <= 2306048 := Yb (xs u1); have ww := N0 a1.ZY.length (by omega); (try rw [ww] at q1); (try rw [ww] at q2); have w3 : W (a2 + 1) = a2 + 1 := YW (by omega) (by omega); have w4 : IntKind.i64.wrap (a2 + 1) = a2 + 1 := w3; omega))) | ((try simp only [XT, show ∀ x, IntKind.i64.wrap x = W x from fun _ => rfl] at *); omega))) : a /\ b := ⟨k, h⟩
theorem Ug (a0 : Ze) (a1 : ZZ) (a2 : Int) (u0 : Sm 2306048 a0) (u1 : Sm 2306048 a1) : Sa 240 [a0.row, a1.row, rI a2] [rB (UD a0 a1 a2)] := by
 have f := me (UD.eq_1 a0 a1 a2)
 refine so func240 ntmps240 ?_
 refine cRs (Zw a2 0 (W ((a1.ZY.length : Int) - 1))) ?_
 have c1 := sl 2306048 a1.ZY (an u0 u1)
 have w1 : IntKind.i64.wrap ((a1.ZY.length : Int) - 1) = (a1.ZY.length : Int) - 1 := YW (by omega) (by omega)
 refine cFo f ?_ ?_ <;> intro k1 h1 f
 ·have q1 := h1; try simp [Zd, w1] at q1
  simp
  exact rt [.tmp 6] f
 have q1 := h1; try simp [Zd, w1] at q1
 simp
 refine dIo mixed ?_
 have i1 : a2.toNat < a1.ZY.length := by (have mm : a1.ZY.length <= 2306048 := Yb (xs u1); (try simp [Zd] at q1); have ww := N0 a1.ZY.length (by omega); first | omega | ((try rw [ww] at q1); (try rw [ww] at q2); have w3 : W (a2 + 1) = a2 + 1 := YW (by omega) (by omega); omega))
 simp [i1, ZC]
 repeat with_reducible refine Ue ?_
 refine cRs (Sq a0.Z6 a0.ZM a0.Methods (nth a1.ZY a2.toNat)) ?_
 refine cFo f ?_ ?_ <;> intro k3 h2 f
 ·have q2 := h2; try simp [w1] at q2
  simp
  exact rt [.tmp 6] f
 have q2 := h2; try simp [w1] at q2
 simp
 refine dIo mixed ?_
 have i2 : (W (a2 + 1)).toNat < a1.ZY.length := by (have mm : a1.ZY.length <= 2306048 := Yb (xs u1); (try simp [Zd] at q1); have ww := N0 a1.ZY.length (by omega); first | omega | ((try rw [ww] at q1); (try rw [ww] at q2); have w3 : W (a2 + 1) = a2 + 1 := YW (by omega) (by omega); omega))
 simp [i2, ZC]
 repeat with_reducible refine Ue ?_
 refine cRs (y8 a0 (nth a1.ZY (W (a2 + 1)).toNat) (sg u0) (sg (Zu (ZZ.Kl u1)))) ?_ (wP := by first | (simp; done) | (simp [W, w1]; done))
 exact rt [.tmp 6] f
theorem ND (a0 : Ze) (a1 : ZZ) (a2 : List Int) (u0 : Sm 2301952 a0) (u1 : Sm 2301952 a1) (u2 : Sm 2301952 a2) : Sa 226 [a0.row, a1.row, rL 1 iR a2] [rI (zR a0 a1 a2)] := by
 have f := me (zR.eq_1 a0 a1 a2)
 refine so func226 ntmps226 ?_
 refine okL fun k1 => ?_
 refine lp1 (yB.eq_2 a0 a1 a2) (fun J => Yg 58 [eL 2 1 a2 iR, eX 3 (a0.row.map .d), eX 4 (a1.row.map .d), eI 7 (J : Int)]) (fun n1 J => J < n1 /\ J <= a1.ZY.length) (a1.ZY.length + 1) a1.ZY.length (fun p1 J e1 j1 => ?_)
 refine cFo e1 ?_ ?_ <;> intro k2 h1 e1
 ·have q1 := h1; try simp at q1
  have m1 := ml a1.ZY (k1 11 _ rfl)
  have w1 : IntKind.i64.wrap ((J : Int) - 1) = (J : Int) - 1 := YW (by omega) (by omega)
  have w2 : ((J - 1 : Nat) : Int) = (J : Int) - 1 := by omega
  simp
  refine dIo mixed ?_
  have i2 := ik (J - 1) a1.ZY
  simp [i2, ZC, w1, Qs]
  refine rpS ?_
  refine cRs (y8 a0 (nth a1.ZY (J - 1)) (sg u0) (sg (Zu (ZZ.Kl u1)))) ?_
  refine dIs mixed ?_
  refine gIf ?_ ?_ <;> intro G
  ·have vh := G
   have g1 := G; try simp at g1
   simp [i2, ZC, w1, Qs, G]
   refine rpG ?_
   refine G5 rfl rfl rfl rfl rfl rfl (fun gg => (H2 a1 a2 (W ((J : Int) - 1)) (sg u1) (sg u2))) (by first | (simp; done) | (simp [G]; done) | (simp [G]; omega) | (simp_all; done)) (by first | (simp; done) | (simp [G]; done) | (simp [G]; omega) | (simp_all; done)) (by first | (simp; done) | (simp [G]; done) | (simp [G]; omega) | (simp_all; done)) (by first | (simp; done) | (simp [G]; done) | (simp [G]; omega) | (simp_all; done)) ?_
   simp [G]
   refine rpG ?_
   refine G5 rfl rfl rfl rfl rfl rfl (fun gg => (SF a0.Z6 a0.ZM (nth a1.ZY (J - 1)) (Si a1 a2 (W ((J : Int) - 1))) (sg (Ze.Yo u0)) (sg (Ze.Xc u0)) (sg (Zu (ZZ.Kl u1))))) (by first | (simp; done) | (simp [G]; done) | (simp [G]; omega) | (simp_all; done)) (by first | (simp; done) | (simp [G]; done) | (simp [G]; omega) | (simp_all; done)) (by first | (simp; done) | (simp [G]; done) | (simp [G]; omega) | (simp_all; done)) (by first | (simp; done) | (simp [G]; done) | (simp [G]; omega) | (simp_all; done)) ?_
   simp [G]
   refine rpG ?_
   refine G5 rfl rfl rfl rfl rfl rfl (fun gg => (Ug a0 a1 (W ((J : Int) - 1)) (sg u0) (sg u1))) (by first | (simp; done) | (simp [G]; done) | (simp [G]; omega) | (simp_all; done)) (by first | (simp; done) | (simp [G]; done) | (simp [G]; omega) | (simp_all; done)) (by first | (simp; done) | (simp [G]; done) | (simp [G]; omega) | (simp_all; done)) (by first | (simp; done) | (simp [G]; done) | (simp [G]; omega) | (simp_all; done)) ?_
   simp [G]
   refine rpG ?_
   refine cKo e1 ?_ ?_ <;> intro k5 h2 e1
   ·try (simp [G] at h2; done)
    all_goals
     have q2 := h2; try simp [w1, w2] at q2
     have f := ms f e1
     simp [G]
     refine rpG ?_
     exact rtg [.tmp 6] f
   ·try (simp [G] at h2; done)
    all_goals
     have q2 := h2; try simp [w1, w2] at q2
     simp [G]
     refine rpG ?_
     exact ny1 (an w1 (an w2 G)) e1
  ·have vh := G
   refine sGo ?_
   simp [G]
   refine rpG ?_
   refine sGo ?_
   simp [G]
   refine rpG ?_
   refine G5 rfl rfl rfl rfl rfl rfl (fun gg => (Ug a0 a1 (W ((J : Int) - 1)) (sg u0) (sg u1))) (by first | (simp; done) | (simp [G]; done) | (simp [G]; omega) | (simp_all; done)) (by first | (simp; done) | (simp [G]; done) | (simp [G]; omega) | (simp_all; done)) (by first | (simp; done) | (simp [G]; done) | (simp [G]; omega) | (simp_all; done)) (by first | (simp; done) | (simp [G]; done) | (simp [G]; omega) | (simp_all; done)) ?_
   simp [G]
   refine rpG ?_
   refine cKo e1 ?_ ?_ <;> intro k6 h3 e1
   ·try (simp [G] at h3; done)
    all_goals
     have q3 := h3; try simp [w1, w2] at q3
     have f := ms f e1
     simp [G]
     refine rpG ?_
     exact rtg [.tmp 6] f
   ·try (simp [G] at h3; done)
    all_goals
     have q3 := h3; try simp [w1, w2] at q3
     simp [G]
     refine rpG ?_
     exact ny1 (an w1 (an w2 G)) e1
 have q1 := h1; try simp at q1
 have f := ms f e1
 simp
 exact rt [.tmp 6] f
theorem Iw (a0 : Ze) (a1 : ZZ) (a2 : List Int) (a3 : Int) (u0 : Sm 2297856 a0) (u1 : Sm 2297856 a1) (u2 : Sm 2297856 a2) : Sa 194 [a0.row, a1.row, rL 1 iR a2, rI a3] [rI (RT a0 a1 a2 a3)] := by
 have f := me (RT.eq_1 a0 a1 a2 a3)
 refine so func194 ntmps194 ?_
 refine cRs (ND a0 a1 a2 (sg u0) (sg u1) (sg u2)) ?_
 refine lp2 (kC.eq_2 a0 a1 a3) (fun J U => Yg 49 [eI 3 a3, eX 4 (a0.row.map .d), eX 5 (a1.row.map .d), eI 9 J, eI 10 U]) (fun n1 J U => (a1.ZY.length : Int) + 1 < n1 + U /\ 0 <= U /\ U <= a1.ZY.length) (a1.ZY.length + 2) a0.Now (zR a0 a1 a2) (fun p1 J U e1 j1 => ?_) (hI := by (have z := OU a0 a1 a2; (try dsimp only); omega))
 try dsimp only at j1
 refine cF e1 ?_ ?_ <;> intro k2 h1 e1
 ·refine okD fun k3 => ?_
  refine dIo mixed ?_
  have i1 := ik U.toNat a1.ZY
  simp [i1, ZC]
  refine rpS ?_
  refine cRf i1 (y8 a0 (nth a1.ZY U.toNat) (sg u0) (sg (Zu (ZZ.Kl u1)))) ?_
  refine cF e1 ?_ ?_ <;> intro k4 h2 e1
  ·exact nx2 e1 (hI := by (have cc : a1.ZY.length <= 2297856 := Yb (xs u1); have w2 : W (U + 1) = U + 1 := YW (by simp at *; omega) (by simp at *; omega); (try dsimp only); rw [w2]; simp at *; omega))
  exact nx2 e1 (hI := by (have cc : a1.ZY.length <= 2297856 := Yb (xs u1); have w2 : W (U + 1) = U + 1 := YW (by simp at *; omega) (by simp at *; omega); (try dsimp only); rw [w2]; simp at *; omega))
 have f := ms f e1
 exact rt [.tmp 8] f
theorem ON (a0 : Ze) (a1 : ZZ) (a2 : List Int) (a3 : ZS) (u0 : Sm 2293760 a0) (u1 : Sm 2293760 a1) (u2 : Sm 2293760 a2) (u3 : Sm 2293760 a3) : Sa 142 [a0.row, a1.row, rL 1 iR a2, a3.row] [rI (q8 a0 a1 a2 a3)] := by
 have f := me (q8.eq_1 a0 a1 a2 a3)
 refine so func142 ntmps142 ?_
 refine cRs (Oo a1 a3) ?_
 refine cF f ?_ ?_ <;> intro k1 h1 f
 ·exact rt [.tmp 8] f
 refine cRs (Iw a0 a1 a2 (qE a1 a3) (sg u0) (sg u1) (sg u2)) ?_
 exact rt [.tmp 8] f
theorem jX (a0 : Ze) (a1 : Zs) (a2 : List (List Int)) (a3 : ZS) (u0 : Sm 2289664 a0) (u1 : Sm 2289664 a1) (u2 : Sm 2289664 a2) (u3 : Sm 2289664 a3) : Sa 95 [a0.row, a1.row, rL 1 (slR 1 iR) a2, a3.row] [rI (Ym a0 a1 a2 a3)] := by
 have f := me (Ym.eq_1 a0 a1 a2 a3)
 refine so func95 ntmps95 ?_
 refine lp2 (Kz.eq_2 a0 a1 a2 a3) (fun J U => Yg 38 [eL 2 1 a2 (slR 1 iR), eX 4 (a0.row.map .d), eX 7 (a3.row.map .d), eI 9 J, eL 15 2 a1.Zp ZZ.row, eI 16 (a1.Zp.length : Int), eI 17 (U : Int)]) (fun n1 J U => a1.Zp.length < n1 + U /\ U <= a1.Zp.length) (a1.Zp.length + 1) a0.Now 0 (fun p1 J U e1 j1 => ?_)
 refine cFf e1 ?_ ?_ <;> intro k2 h1 e1
 ·have i1 := ix h1
  have m2 := ml a1.Zp (k2 15 _ rfl)
  have c1 := sl 2289664 a1.Zp (an u0 (an u1 (an u2 u3)))
  have w1 := wr U
  simp [i1, ZC]
  refine rpS ?_
  refine cF e1 ?_ ?_ <;> intro k3 h2 e1
  ·have i2 := ix h2
   have m4 := ml a2 (k3 2 _ rfl)
   have c2 := sl 2289664 a2 (an u0 (an u1 (an u2 u3)))
   have w2 := wr U
   refine dIo mixed ?_
   simp [i2, ZC]
   refine rpS ?_
   refine cRs (ON a0 (nth a1.Zp U) (nth a2 U) a3 (sg u0) (sg (Zu (Zs.XR u1))) (sg (Zu u2)) (sg u3)) ?_
   exact ny2 w2 e1
  have c3 := sl 2289664 a2 (an u0 (an u1 (an u2 u3)))
  exact ny2 w1 e1
 have c4 := sl 2289664 a1.Zp (an u0 (an u1 (an u2 u3)))
 have f := ms f e1
 exact rt [.tmp 8] f
theorem Vy (a0 : Ze) (a1 : Int) : Sa 96 [a0.row, rI a1] [rI (qk a0 a1)] := by
 have f := me (qk.eq_1 a0 a1)
 refine so func96 ntmps96 ?_
 refine cRs (zW a0.Z6 a1) ?_
 refine cF f ?_ ?_ <;> intro k1 h1 f
 ·exact rt [.tmp 4] f
 refine dIo mixed ?_
 have i1 : (XE a0.Z6 a1).toNat < a0.Z6.length := by have := yk a0.Z6 a1; exact il
 simp [i1, ZC]
 refine rpS ?_
 refine cRs (qo a0.Methods (nth a0.Z6 (XE a0.Z6 a1).toNat).Method) ?_
 exact rt [.tmp 4] f
theorem JI (a0 : ZS) : Sa 195 [a0.row] [rI (Yn a0)] := by
 have f := me (Yn.eq_1 a0)
 refine so func195 ntmps195 ?_
 refine dIs mixed ?_
 refine gIf ?_ ?_ <;> intro G
 ·have i1 := ik 0 a0.Z4
  simp [i1, ZC, G]
  refine rpG ?_
  refine cGg (fun gg => (Zw (nth a0.Z4 0) 101 105)) ?_
  refine gJf G ?_ ?_ <;> intro G
  ·try (simp at G; done)
   all_goals
    have g2 := G.2; try simp [Zd] at g2
    all_goals
     simp [i1, ZC, G]
     refine rpG ?_
     refine gK (fun _ => ?_)
     have r1 : ∀ i : Nat, i < 5 -> cut [At.d (.int .i64 7), At.d (.int .i64 5), At.d (.int .i64 5), At.d (.int .i64 9), At.d (.int .i64 6)] i 1 = [At.d (.int .i64 (nth ([7, 5, 5, 9, 6] : List Int) i))] := by intro i h; (have z : i = 0 \/ i = 1 \/ i = 2 \/ i = 3 \/ i = 4 := by omega); rcases z with rfl | rfl | rfl | rfl | rfl <;> rfl
     have i2 : (W ((nth a0.Z4 0) - 101)).toNat < 5 := by first | omega | ((try simp only [XT, show ∀ x, IntKind.i64.wrap x = W x from fun _ => rfl] at *); omega)
     have hJ := r1 _ i2; simp only [cut] at hJ
     simp [r1 _ i2, hJ, G]
     refine rpG ?_
     refine cKo f ?_ ?_ <;> intro k2 h1 f
     ·have q1 := h1; try simp [Zd] at q1
      simp [G]
      refine rpG ?_
      exact rtg [.tmp 2] f
     ·have q1 := h1; try simp [Zd] at q1
      simp [i1, ZC, G]
      refine rpG ?_
      exact rtg [.tmp 2] f
  ·try (simp at G; done)
   all_goals
    refine sGg ?_
    refine cKo f ?_ ?_ <;> intro k3 h2 f
    ·have q2 := h2; try simp [Zd] at q2
     simp [G]
     refine rpG ?_
     exact rtg [.tmp 2] f
    ·simp [G] at h2
 ·refine sGo ?_
  simp [G]
  refine rpG ?_
  refine gJf G ?_ ?_ <;> intro G
  ·try (simp at G; done)
   all_goals
    have g3 := G.2; try simp [Zd] at g3
    all_goals
     have i5 := ik 0 a0.Z4
     simp [i5, ZC, G]
     refine rpG ?_
     refine gK (fun _ => ?_)
     have r3 : ∀ i : Nat, i < 5 -> cut [At.d (.int .i64 7), At.d (.int .i64 5), At.d (.int .i64 5), At.d (.int .i64 9), At.d (.int .i64 6)] i 1 = [At.d (.int .i64 (nth ([7, 5, 5, 9, 6] : List Int) i))] := by intro i h; (have z : i = 0 \/ i = 1 \/ i = 2 \/ i = 3 \/ i = 4 := by omega); rcases z with rfl | rfl | rfl | rfl | rfl <;> rfl
     have i6 : (W ((nth a0.Z4 0) - 101)).toNat < 5 := by first | omega | ((try simp only [XT, show ∀ x, IntKind.i64.wrap x = W x from fun _ => rfl] at *); omega)
     have hN := r3 _ i6; simp only [cut] at hN
     simp [r3 _ i6, hN, G]
     refine rpG ?_
     refine cKo f ?_ ?_ <;> intro k4 h3 f
     ·simp [G] at h3
     ·simp [G] at h3
  ·try (simp at G; done)
   all_goals
    refine sGg ?_
    refine cKo f ?_ ?_ <;> intro k5 h4 f
    ·have q4 := h4; try simp [Zd] at q4
     simp [G]
     refine rpG ?_
     exact rtg [.tmp 2] f
    ·simp [G] at h4
theorem UO (a0 : ZS) : Sa 147 [a0.row] [(XP a0).1.row, rB (XP a0).2] := by
 have f := me (XP.eq_1 a0)
 refine so func147 ntmps147 ?_
 refine dIs mixed ?_
 refine cRs (JI a0) ?_
 refine gIf ?_ ?_ <;> intro G
 ·have vh := G
  have g1 := G; try simp at g1
  have i1 : 6 < a0.Z4.length := by (have z := ZX a0; simp_all; done)
  simp [i1, ZC, G]
  refine rpG ?_
  refine cK f ?_ ?_ <;> intro k2 h1 f
  ·try (simp [G] at h1; done)
   all_goals
    exact rtg [.cell 2 46, .tmp 3] f
  ·try (simp [G] at h1; done)
   all_goals
    refine dIo mixed ?_
    have i2 : 1 < a0.Z4.length := by (have z := ZX a0; simp_all; done)
    have i3 : 2 < a0.Z4.length := by (have z := ZX a0; simp_all; done)
    have i4 : 3 < a0.Z4.length := by (have z := ZX a0; simp_all; done)
    have i5 : 4 < a0.Z4.length := by (have z := ZX a0; simp_all; done)
    have i6 : 5 < a0.Z4.length := by (have z := ZX a0; simp_all; done)
    simp [i2, ZC, i3, i4, i5, i6, i1, G]
    refine rpG ?_
    exact rtg [.cell 2 46, .tmp 3] f
 ·have vh := G
  refine cK f ?_ ?_ <;> intro k4 h2 f
  ·try (simp [G] at h2; done)
   all_goals
    exact rtg [.cell 2 46, .tmp 3] f
  ·try (simp [G] at h2; done)
   all_goals
    refine dIo mixed ?_
    have i8 : 1 < a0.Z4.length := by (have z := ZX a0; simp_all; done)
    have i9 : 2 < a0.Z4.length := by (have z := ZX a0; simp_all; done)
    have i10 : 3 < a0.Z4.length := by (have z := ZX a0; simp_all; done)
    have i11 : 4 < a0.Z4.length := by (have z := ZX a0; simp_all; done)
    have i12 : 5 < a0.Z4.length := by (have z := ZX a0; simp_all; done)
    have i13 : 6 < a0.Z4.length := by (have z := ZX a0; simp_all; done)
    simp [i8, ZC, i9, i10, i11, i12, i13, G]
    refine rpG ?_
    exact rtg [.cell 2 46, .tmp 3] f
theorem Wf (a0 : ZS) : Sa 153 [a0.row] [(Q7 a0).1.row, rB (Q7 a0).2] := by
 have f := me (Q7.eq_1 a0)
 refine so func153 ntmps153 ?_
 refine dIs mixed ?_
 refine cRs (JI a0) ?_
 refine gIf ?_ ?_ <;> intro G
 ·have vh := G
  have g1 := G; try simp at g1
  have i1 : 4 < a0.Z4.length := by (have z := ZX a0; simp_all; done)
  simp [i1, ZC, G]
  refine rpG ?_
  refine cK f ?_ ?_ <;> intro k2 h1 f
  ·try (simp [G] at h1; done)
   all_goals
    exact rtg [.cell 2 186, .tmp 3] f
  ·try (simp [G] at h1; done)
   all_goals
    refine dIo mixed ?_
    have i2 : 1 < a0.Z4.length := by (have z := ZX a0; simp_all; done)
    have i3 : 2 < a0.Z4.length := by (have z := ZX a0; simp_all; done)
    have i4 : 3 < a0.Z4.length := by (have z := ZX a0; simp_all; done)
    simp [i2, ZC, i3, i4, i1, G]
    refine rpG ?_
    exact rtg [.cell 2 186, .tmp 3] f
 ·have vh := G
  refine cK f ?_ ?_ <;> intro k4 h2 f
  ·try (simp [G] at h2; done)
   all_goals
    exact rtg [.cell 2 186, .tmp 3] f
  ·try (simp [G] at h2; done)
   all_goals
    refine dIo mixed ?_
    have i6 : 1 < a0.Z4.length := by (have z := ZX a0; simp_all; done)
    have i7 : 2 < a0.Z4.length := by (have z := ZX a0; simp_all; done)
    have i8 : 3 < a0.Z4.length := by (have z := ZX a0; simp_all; done)
    have i9 : 4 < a0.Z4.length := by (have z := ZX a0; simp_all; done)
    simp [i6, ZC, i7, i8, i9, G]
    refine rpG ?_
    exact rtg [.cell 2 186, .tmp 3] f
theorem Ph (a0 : ZS) : Sa 196 [a0.row] [(qf a0).1.row, rB (qf a0).2] := by
 have f := me (qf.eq_1 a0)
 refine so func196 ntmps196 ?_
 refine cRs (JI a0) ?_
 refine cF f ?_ ?_ <;> intro k1 h1 f
 ·exact rt [.cell 2 193, .tmp 3] f
 refine dIo mixed ?_
 have i1 : 1 < a0.Z4.length := by (have z := ZX a0; simp_all; done)
 have i2 : 2 < a0.Z4.length := by (have z := ZX a0; simp_all; done)
 have i3 : 3 < a0.Z4.length := by (have z := ZX a0; simp_all; done)
 have i4 : 4 < a0.Z4.length := by (have z := ZX a0; simp_all; done)
 simp [i1, ZC, i2, i3, i4]
 refine rpS ?_
 exact rt [.cell 2 193, .tmp 3] f
theorem NT (a0 : ZS) : Sa 197 [a0.row] [(kg a0).1.row, rB (kg a0).2] := by
 have f := me (kg.eq_1 a0)
 refine so func197 ntmps197 ?_
 refine dIs mixed ?_
 refine cRs (JI a0) ?_
 refine gIf ?_ ?_ <;> intro G
 ·have vh := G
  have g1 := G; try simp at g1
  have i1 : 1 < a0.Z4.length := by (have z := ZX a0; simp_all; done)
  simp [i1, ZC, G]
  refine rpG ?_
  refine cK f ?_ ?_ <;> intro k2 h1 f
  ·try (simp [G] at h1; done)
   all_goals
    exact rtg [.cell 2 54, .tmp 3] f
  ·try (simp [G] at h1; done)
   all_goals
    refine dIo mixed ?_
    have i2 : 2 < a0.Z4.length := by (have z := ZX a0; simp_all; done)
    have i3 : 3 < a0.Z4.length := by (have z := ZX a0; simp_all; done)
    have i4 : 4 < a0.Z4.length := by (have z := ZX a0; simp_all; done)
    have i5 : 5 < a0.Z4.length := by (have z := ZX a0; simp_all; done)
    have i6 : 6 < a0.Z4.length := by (have z := ZX a0; simp_all; done)
    have i7 : 7 < a0.Z4.length := by (have z := ZX a0; simp_all; done)
    have i8 : 8 < a0.Z4.length := by (have z := ZX a0; simp_all; done)
    simp [i1, ZC, i2, i3, i4, i5, i6, i7, i8, G]
    refine rpG ?_
    exact rtg [.cell 2 54, .tmp 3] f
 ·have vh := G
  refine cK f ?_ ?_ <;> intro k4 h2 f
  ·try (simp [G] at h2; done)
   all_goals
    exact rtg [.cell 2 54, .tmp 3] f
  ·try (simp [G] at h2; done)
   all_goals
    refine dIo mixed ?_
    have i10 : 1 < a0.Z4.length := by (have z := ZX a0; simp_all; done)
    have i11 : 2 < a0.Z4.length := by (have z := ZX a0; simp_all; done)
    have i12 : 3 < a0.Z4.length := by (have z := ZX a0; simp_all; done)
    have i13 : 4 < a0.Z4.length := by (have z := ZX a0; simp_all; done)
    have i14 : 5 < a0.Z4.length := by (have z := ZX a0; simp_all; done)
    have i15 : 6 < a0.Z4.length := by (have z := ZX a0; simp_all; done)
    have i16 : 7 < a0.Z4.length := by (have z := ZX a0; simp_all; done)
    have i17 : 8 < a0.Z4.length := by (have z := ZX a0; simp_all; done)
    simp [i10, ZC, i11, i12, i13, i14, i15, i16, i17, G]
    refine rpG ?_
    exact rtg [.cell 2 54, .tmp 3] f
theorem kT (a0 : ZS) : Sa 158 [a0.row] [(J6 a0).1.row, rB (J6 a0).2] := by
 have f := me (J6.eq_1 a0)
 refine so func158 ntmps158 ?_
 refine dIs mixed ?_
 refine cRs (JI a0) ?_
 refine gIf ?_ ?_ <;> intro G
 ·have vh := G
  have g1 := G; try simp at g1
  have i1 : 5 < a0.Z4.length := by (have z := ZX a0; simp_all; done)
  simp [i1, ZC, G]
  refine rpG ?_
  refine cK f ?_ ?_ <;> intro k2 h1 f
  ·try (simp [G] at h1; done)
   all_goals
    exact rtg [.cell 2 224, .tmp 3] f
  ·try (simp [G] at h1; done)
   all_goals
    refine dIo mixed ?_
    have i2 : 1 < a0.Z4.length := by (have z := ZX a0; simp_all; done)
    have i3 : 2 < a0.Z4.length := by (have z := ZX a0; simp_all; done)
    have i4 : 3 < a0.Z4.length := by (have z := ZX a0; simp_all; done)
    have i5 : 4 < a0.Z4.length := by (have z := ZX a0; simp_all; done)
    simp [i2, ZC, i3, i4, i5, i1, G]
    refine rpG ?_
    exact rtg [.cell 2 224, .tmp 3] f
 ·have vh := G
  refine cK f ?_ ?_ <;> intro k4 h2 f
  ·try (simp [G] at h2; done)
   all_goals
    exact rtg [.cell 2 224, .tmp 3] f
  ·try (simp [G] at h2; done)
   all_goals
    refine dIo mixed ?_
    have i7 : 1 < a0.Z4.length := by (have z := ZX a0; simp_all; done)
    have i8 : 2 < a0.Z4.length := by (have z := ZX a0; simp_all; done)
    have i9 : 3 < a0.Z4.length := by (have z := ZX a0; simp_all; done)
    have i10 : 4 < a0.Z4.length := by (have z := ZX a0; simp_all; done)
    have i11 : 5 < a0.Z4.length := by (have z := ZX a0; simp_all; done)
    simp [i7, ZC, i8, i9, i10, i11, G]
    refine rpG ?_
    exact rtg [.cell 2 224, .tmp 3] f
theorem Px (a0 : List Yj) (a1 : ZS) (u0 : Sm 2314240 a0) (u1 : Sm 2314240 a1) : Sa 144 [rL 5 Yj.row a0, a1.row] [rB (VN a0 a1)] := by
 have f := me (VN.eq_1 a0 a1)
 refine so func144 ntmps144 ?_
 refine cRs (JI a1) ?_
 refine cF f ?_ ?_ <;> intro k1 h1 f
 ·refine cRs (UO a1) ?_
  refine cGs (fun gg => (QJ a0 a1.Key a1.Z4 a1.Mark (sg u0) (sg (ZS.VG u1)))) ?_
  exact rt [.tmp 4] f
 refine cF f ?_ ?_ <;> intro k2 h2 f
 ·refine cRs (Wf a1) ?_
  refine cGs (fun gg => (QJ a0 a1.Key a1.Z4 a1.Mark (sg u0) (sg (ZS.VG u1)))) ?_
  exact rt [.tmp 4] f
 refine cF f ?_ ?_ <;> intro k3 h3 f
 ·refine cRs (Ph a1) ?_
  refine cGs (fun gg => (QJ a0 a1.Key a1.Z4 a1.Mark (sg u0) (sg (ZS.VG u1)))) ?_
  exact rt [.tmp 4] f
 refine cF f ?_ ?_ <;> intro k4 h4 f
 ·refine cRs (NT a1) ?_
  refine cGs (fun gg => (QJ a0 a1.Key a1.Z4 a1.Mark (sg u0) (sg (ZS.VG u1)))) ?_
  exact rt [.tmp 4] f
 refine cF f ?_ ?_ <;> intro k5 h5 f
 ·refine cRs (kT a1) ?_
  refine cGs (fun gg => (QJ a0 a1.Key a1.Z4 a1.Mark (sg u0) (sg (ZS.VG u1)))) ?_
  exact rt [.tmp 4] f
 refine cGs (fun gg => (QJ a0 a1.Key a1.Z4 a1.Mark (sg u0) (sg (ZS.VG u1)))) ?_
 exact rt [.tmp 4] f
theorem Re (a0 : ZS) (a1 : ZS) : Sa 145 [a0.row, a1.row] [rB (WK a0 a1)] := by
 have f := me (WK.eq_1 a0 a1)
 refine so func145 ntmps145 ?_
 refine lp1 (qa.eq_2 a0 a1) (fun J => Yg 73 [eX 2 (a0.row.map .d), eX 3 (a1.row.map .d), eI 5 (J : Int)]) (fun n1 J => a0.Z4.length < n1 + J /\ J <= a0.Z4.length) (a0.Z4.length + 1) 0 (fun p1 J e1 j1 => ?_)
 refine cF e1 ?_ ?_ <;> intro k2 h1 e1
 ·have i1 : J < a0.Z4.length := by (simp at h1; omega)
  have m2 := ml a0.Z4 (k2 8 _ rfl)
  have w1 := wr J
  refine dIo mixed ?_
  have i2 := ik J a1.Z4
  simp [i1, ZC, i2]
  refine rpS ?_
  refine cF e1 ?_ ?_ <;> intro k4 h2 e1
  ·refine okD fun k5 => ?_
   refine dIo mixed ?_
   have f := ms f e1
   simp [i1, ZC, i2]
   refine rpS ?_
   exact rt [.tmp 4] f
  exact ny1 w1 e1
 have f := ms f e1
 refine cF f ?_ ?_ <;> intro k6 h3 f
 ·exact rt [.tmp 4] f
 refine cF f ?_ ?_ <;> intro k7 h4 f
 ·exact rt [.tmp 4] f
 exact rt [.tmp 4] f
theorem kI {a b : Prop} (h : b) (k : a := by (intros; first | omega | with_unfolding_all (first | (first | omega | (simp_all; done) | (simp_all; omega))) | ((try simp only [XT, show ∀ x, IntKind.i64.wrap x = W x from fun _ => rfl] at *); omega))) : a /\ b := ⟨k, h⟩
theorem Z9 {a b : Prop} (h : b) (k : a := by (intros; first | omega | with_unfolding_all (first | (first | omega | (simp_all; done) | (simp_all; omega))) | (simp_all; done) | (simp_all; omega) | grind | ((try simp only [XT, show ∀ x, IntKind.i64.wrap x = W x from fun _ => rfl] at *); omega))) : a /\ b := ⟨k, h⟩
theorem Sn (a0 : Ze) (a1 : Zs) (a2 : List (List Int)) (u0 : Sm 2285568 a0) (u1 : Sm 2285568 a1) (u2 : Sm 2285568 a2) (u3 : DV a1 <= 2097152) : So 98 [a0.row, a1.row, rL 1 (slR 1 iR) a2] [rL 3 ZS.row (Zx a0 a1 a2)] := by
 have f := me (Zx.eq_1 a0 a1 a2)
 refine so func98 ntmps98 ?_
 refine lp2 (J7.eq_2 a0 a1 a2) (fun J U => Yg 79 [eL 2 1 a2 (slR 1 iR), eX 3 (a0.row.map .d), eX 4 (a1.row.map .d), (7, .one (.sref 7 0 0 J.length), [.arr false 3 (J.map ZS.row)]), eL 14 2 a1.Zp ZZ.row, eI 15 (a1.Zp.length : Int), eI 16 (U : Int)]) (fun n1 J U => a1.Zp.length < n1 + U /\ U <= a1.Zp.length /\ J.length + cnL (fun s : ZZ => s.ZH.length) (a1.Zp.drop U) <= 2097152 /\ Sm 2285568 J) (a1.Zp.length + 1) ([] : List ZS) 0 (fun p1 J U e1 j1 => ?_) (hI := by (have u : cnL (fun s : ZZ => s.ZH.length) a1.Zp <= 2097152 := u3; (try dsimp only); refine ⟨by omega, by omega, by omega, ?_, ⟨Nat.zero_le _, fun x hx => by cases hx⟩⟩; rw [List.drop_zero]; simp only [List.length_nil]; omega)) (h0 := wkS [((7, 0), none)] [])
 try dsimp only at j1
 refine cFo e1 ?_ ?_ <;> intro k2 h1 e1
 ·have q1 := h1; try simp at q1
  have i1 := ix h1
  have m2 := ml a1.Zp (k2 14 _ rfl)
  have c1 := sl 2285568 a1.Zp (an u0 (an u1 (an u2 u3)))
  have w1 := wr U
  simp [i1, ZC]
  repeat with_reducible refine kI ?_
  refine lp2 (QT.eq_2 a0 a1 a2 U) (fun wB wC => Yg 79 [eL 2 1 a2 (slR 1 iR), eX 3 (a0.row.map .d), eX 4 (a1.row.map .d), (7, .one (.sref 7 0 0 wB.length), [.arr false 3 (wB.map ZS.row)]), eL 14 2 a1.Zp ZZ.row, eI 15 (a1.Zp.length : Int), eI 16 (U : Int), eL 21 3 (nth a1.Zp U).ZH ZS.row, eI 22 ((nth a1.Zp U).ZH.length : Int), eI 23 (wC : Int)]) (fun n2 wB wC => (nth a1.Zp U).ZH.length < n2 + wC /\ wC <= (nth a1.Zp U).ZH.length /\ wB.length + ((nth a1.Zp U).ZH.length - wC) + cnL (fun s : ZZ => s.ZH.length) (a1.Zp.drop (U + 1)) <= 2097152 /\ Sm 2285568 wB) ((nth a1.Zp U).ZH.length + 1) J 0 (fun p2 wB wC e2 j2 => ?_) (hI := by (have d := FO (l := a1.Zp) (i := U) (by first | omega | (simp at *; omega)); refine ⟨?_, ?_, ?_, ?_, j1.2.2.2.2⟩ <;> ((try dsimp only); omega)))
  try dsimp only at j2
  refine cFo e2 ?_ ?_ <;> intro k4 h2 e2
  ·have q2 := h2; try simp at q2
   have i2 := ix h2
   have m4 := ml (nth a1.Zp U).ZH (k4 21 _ rfl)
   have c2 := sl 2285568 (nth a1.Zp U).ZH (an u0 (an u1 (an u2 u3)))
   have w2 := wr wC
   simp [i2, ZC]
   repeat with_reducible refine kI ?_
   refine dIs mixed ?_
   refine cRs (xy wB (nth (nth a1.Zp U).ZH wC)) ?_
   refine cGs (fun gg => (Px a0.Z6 (nth (nth a1.Zp U).ZH wC) (by (first | exact sg u0 | exact sg u1 | exact sg u2 | exact sg (Ze.Yo u0) | exact sg j2.2.2.2.2 | exact sg (Zu j2.2.2.2.2) | exact sg (Zu (ZZ.XZ (Zu (Zs.XR u1)))))) (by (first | exact sg u0 | exact sg u1 | exact sg u2 | exact sg (Ze.Yo u0) | exact sg j2.2.2.2.2 | exact sg (Zu j2.2.2.2.2) | exact sg (Zu (ZZ.XZ (Zu (Zs.XR u1)))))))) ?_
   refine cGs (fun gg => (jX a0 a1 a2 (nth (nth a1.Zp U).ZH wC) (by (first | exact sg u0 | exact sg u1 | exact sg u2 | exact sg (Ze.Yo u0) | exact sg j2.2.2.2.2 | exact sg (Zu j2.2.2.2.2) | exact sg (Zu (ZZ.XZ (Zu (Zs.XR u1)))))) (by (first | exact sg u0 | exact sg u1 | exact sg u2 | exact sg (Ze.Yo u0) | exact sg j2.2.2.2.2 | exact sg (Zu j2.2.2.2.2) | exact sg (Zu (ZZ.XZ (Zu (Zs.XR u1)))))) (by (first | exact sg u0 | exact sg u1 | exact sg u2 | exact sg (Ze.Yo u0) | exact sg j2.2.2.2.2 | exact sg (Zu j2.2.2.2.2) | exact sg (Zu (ZZ.XZ (Zu (Zs.XR u1)))))) (by (first | exact sg u0 | exact sg u1 | exact sg u2 | exact sg (Ze.Yo u0) | exact sg j2.2.2.2.2 | exact sg (Zu j2.2.2.2.2) | exact sg (Zu (ZZ.XZ (Zu (Zs.XR u1)))))))) ?_
   refine cGs (fun gg => (Vy a0 (nth (nth a1.Zp U).ZH wC).Key)) ?_
   refine cFo e2 ?_ ?_ <;> intro k6 h3 e2
   ·have q3 := h3; try simp at q3
    simp
    exact ny2 (an w1 w2) e2 (hI := by first | (refine ⟨?_, ?_, ?_, ?_, j2.2.2.2.2⟩ <;> ((try dsimp only); omega)) | (have pk : Sm 2285568 (nth (nth a1.Zp U).ZH wC) := Zu (ZZ.XZ (Zu (Zs.XR u1))); obtain ⟨q1, q2⟩ := IW (z := wZ) j2.2.2.2.2 pk (by omega); refine ⟨?_, ?_, ?_, ?_, q1⟩ <;> ((try dsimp only); omega)))
   have q3 := h3; try simp at q3
   simp
   refine lp1 (zg.eq_2 a1 U wB wC) (fun wZ => Yg 79 [eL 2 1 a2 (slR 1 iR), eX 3 (a0.row.map .d), eX 4 (a1.row.map .d), (7, .one (.sref 7 0 0 wB.length), [.arr false 3 (wB.map ZS.row)]), eX 11 ((nth (nth a1.Zp U).ZH wC).row.map .d), eI 12 (wZ : Int), eL 14 2 a1.Zp ZZ.row, eI 15 (a1.Zp.length : Int), eI 16 (U : Int), eL 21 3 (nth a1.Zp U).ZH ZS.row, eI 22 ((nth a1.Zp U).ZH.length : Int), eI 23 (wC : Int)]) (fun n3 wZ => wB.length < n3 + wZ /\ wZ <= wB.length) (wB.length + 1) 0 (fun p3 wZ e3 j3 => ?_)
   try dsimp only at j3
   refine dIs mixed ?_
   refine gIo ?_ ?_ <;> intro G
   ·have vh := G
    have g1 := G; try simp at g1
    have i3 := ik wZ wB
    simp [i3, ZC, G]
    repeat with_reducible refine Z9 ?_
    refine cGo (fun gg => (Re (nth wB wZ) (nth (nth a1.Zp U).ZH wC))) ?_
    simp [G]
    repeat with_reducible refine Z9 ?_
    refine cKo e3 ?_ ?_ <;> intro k9 h4 e3
    ·try (simp [G] at h4; done)
     all_goals
      have q4 := h4; try simp at q4
      have i4 : wZ < wB.length := by (simp at h4; omega)
      have m6 := ml wB (k9 7 _ rfl)
      have w3 := wr wZ
      simp [G]
      repeat with_reducible refine Z9 ?_
      exact ny1 (an w1 (an w2 (an w3 G))) e3
    ·try (simp [G] at h4; done)
     all_goals
      have q4 := h4; try simp at q4
      have e2 := ms e2 e3
      simp [G]
      repeat with_reducible refine Z9 ?_
      refine dIo mixed ?_
      simp [G]
      repeat with_reducible refine Z9 ?_
      refine evI rfl rfl rfl ?_
      simp [G]
      repeat with_reducible refine Z9 ?_
      refine evI rfl rfl rfl ?_
      simp [G]
      repeat with_reducible refine Z9 ?_
      refine cR (YN.rd (qR (nth (nth a1.Zp U).ZH wC) (by (first | exact sg u0 | exact sg u1 | exact sg u2 | exact sg (Ze.Yo u0) | exact sg j2.2.2.2.2 | exact sg (Zu j2.2.2.2.2) | exact sg (Zu (ZZ.XZ (Zu (Zs.XR u1)))))))) ?_
      simp [G]
      repeat with_reducible refine Z9 ?_
      refine evI rfl rfl rfl ?_
      simp [G]
      repeat with_reducible refine Z9 ?_
      refine evI rfl rfl rfl ?_
      simp [G]
      repeat with_reducible refine Z9 ?_
      refine evI rfl rfl rfl ?_
      simp [G]
      repeat with_reducible refine Z9 ?_
      exact nx2 e2 (hI := by first | (refine ⟨?_, ?_, ?_, ?_, j2.2.2.2.2⟩ <;> ((try dsimp only); omega)) | (have pk : Sm 2285568 (nth (nth a1.Zp U).ZH wC) := Zu (ZZ.XZ (Zu (Zs.XR u1))); obtain ⟨q1, q2⟩ := IW (z := wZ) j2.2.2.2.2 pk (by omega); refine ⟨?_, ?_, ?_, ?_, q1⟩ <;> ((try dsimp only); omega))) (hw := Y5 [((7, 0), some (75, 0))] [] rfl (by simp [w1, w2, G]))
   ·have vh := G
    simp [G]
    repeat with_reducible refine Z9 ?_
    refine sGo ?_
    simp [G]
    repeat with_reducible refine Z9 ?_
    refine cKo e3 ?_ ?_ <;> intro pK h5 e3
    ·try (simp [G] at h5; done)
     all_goals
      have q5 := h5; try simp at q5
      have i6 : wZ < wB.length := by (simp at h5; omega)
      have m8 := ml wB (pK 7 _ rfl)
      have w4 := wr wZ
      simp [G]
      repeat with_reducible refine Z9 ?_
      exact ny1 (an w1 (an w2 (an w4 G))) e3
    ·try (simp [G] at h5; done)
     all_goals
      have q5 := h5; try simp at q5
      have e2 := ms e2 e3
      simp [G]
      repeat with_reducible refine Z9 ?_
      refine dIo mixed ?_
      simp [G]
      repeat with_reducible refine Z9 ?_
      refine evI rfl rfl rfl ?_
      simp [G]
      repeat with_reducible refine Z9 ?_
      refine evI rfl rfl rfl ?_
      simp [G]
      repeat with_reducible refine Z9 ?_
      refine cR (YN.rd (qR (nth (nth a1.Zp U).ZH wC) (by (first | exact sg u0 | exact sg u1 | exact sg u2 | exact sg (Ze.Yo u0) | exact sg j2.2.2.2.2 | exact sg (Zu j2.2.2.2.2) | exact sg (Zu (ZZ.XZ (Zu (Zs.XR u1)))))))) ?_
      simp [G]
      repeat with_reducible refine Z9 ?_
      refine evI rfl rfl rfl ?_
      simp [G]
      repeat with_reducible refine Z9 ?_
      refine evI rfl rfl rfl ?_
      simp [G]
      repeat with_reducible refine Z9 ?_
      refine evI rfl rfl rfl ?_
      simp [G]
      repeat with_reducible refine Z9 ?_
      exact nx2 e2 (hI := by first | (refine ⟨?_, ?_, ?_, ?_, j2.2.2.2.2⟩ <;> ((try dsimp only); omega)) | (have pk : Sm 2285568 (nth (nth a1.Zp U).ZH wC) := Zu (ZZ.XZ (Zu (Zs.XR u1))); obtain ⟨q1, q2⟩ := IW (z := wZ) j2.2.2.2.2 pk (by omega); refine ⟨?_, ?_, ?_, ?_, q1⟩ <;> ((try dsimp only); omega))) (hw := Y5 [((7, 0), some (75, 0))] [] rfl (by simp [w1, w2, G]))
  have q2 := h2; try simp at q2
  have c3 := sl 2285568 (nth a1.Zp U).ZH (an u0 (an u1 (an u2 u3)))
  have e1 := ms e1 e2
  simp
  exact ny2 w1 e1 (hI := by (refine ⟨?_, ?_, ?_, ?_, j2.2.2.2.2⟩ <;> ((try dsimp only); omega)))
 have q1 := h1; try simp at q1
 have c4 := sl 2285568 a1.Zp (an u0 (an u1 (an u2 u3)))
 have f := ms f e1
 simp
 exact rtO [.tmp 6] f
theorem L8 (a0 : Ze) (a1 : List ZS) (a2 : Zy) (u0 : Sm 2310144 a0) (u1 : Sm 2310144 a1) : Sa 99 [a0.row, rL 3 ZS.row a1, a2.row] [(QU a0 a1 a2).1.row, rB (QU a0 a1 a2).2] := by
 have f := me (QU.eq_1 a0 a1 a2)
 refine so func99 ntmps99 ?_
 refine lp9 (kh.eq_2 a0 a1 a2) (fun J U wD wL wg vN vO vP vQ => Yg 54 [eX 3 (a0.row.map .d), eX 5 (a2.row.map .d), (6, .one (.bptr 6 0), [.box [.d (.int .i64 0), .d (.int .i64 0), .d (.int .i64 0), .d (.int .i64 0), .d (.int .i64 0), .d (.int .i64 0), .d (.int .i64 0)]]), (8, .one (.bptr 8 0), [.box [.d (.int .i64 wD), .d (.int .i64 wL), .d (.int .i64 wg), .d (.int .i64 vN), .d (.int .i64 vO), .d (.int .i64 vP), .d (.int .i64 vQ)]]), eI 9 J, eL 14 3 a1 ZS.row, eI 15 (a1.length : Int), eI 16 (U : Int)]) (fun n1 J U wD wL wg vN vO vP vQ => a1.length < n1 + U /\ U <= a1.length) (a1.length + 1) 0 0 0 0 0 0 0 0 0 (fun p1 J U wD wL wg vN vO vP vQ e1 j1 => ?_)
 refine cFf e1 ?_ ?_ <;> intro k2 h1 e1
 ·have i1 := ix h1
  have m2 := ml a1 (k2 14 _ rfl)
  have c1 := sl 2310144 a1 (an u0 u1)
  have w1 := wr U
  simp [i1, ZC]
  refine rpS ?_
  refine cRs (UO (nth a1 U)) ?_
  refine cGs (fun gg => (UH a0.Z6 (XP (nth a1 U)).1 (sg (Ze.Yo u0)))) ?_
  refine cF e1 ?_ ?_ <;> intro k3 h2 e1
  ·exact ny9 w1 e1
  exact ny9 w1 e1
 have c2 := sl 2310144 a1 (an u0 u1)
 have f := ms f e1
 refine cF f ?_ ?_ <;> intro k4 h3 f
 ·exact rt [.cell 6 46, .tmp 7] f
 exact rt [.cell 6 46, .tmp 7] f
theorem EE (a0 : Int) (a1 : Int) : Sa 199 [rI a0, rI a1] [rI (EN a0 a1)] := by
 have f := me (EN.eq_1 a0 a1)
 refine so func199 ntmps199 ?_
 exact rt [.tmp 4] f
theorem kJ (a0 : Int) (a1 : List Zr) (u0 : Sm 2326528 a1) : Sa 149 [rI a0, rL 5 Zr.row a1] [rI (xJ a0 a1)] := by
 have f := me (xJ.eq_1 a0 a1)
 refine so func149 ntmps149 ?_
 refine cF f ?_ ?_ <;> intro k1 h1 f
 ·exact rt [.tmp 4] f
 refine lp2 (xg.eq_2 a1) (fun J U => Yg 27 [eI 0 a0, (5, .one (.sref 5 0 0 J.length), [.arr false 1 (J.map iR)]), eL 11 5 a1 Zr.row, eI 12 (a1.length : Int), eI 13 (U : Int)]) (fun n1 J U => a1.length < n1 + U /\ U <= a1.length /\ J.length <= 0 + 1 * U) (a1.length + 1) ([] : List Int) 0 (fun p1 J U e1 j1 => ?_) (h0 := wkS [((5, 0), none)] [])
 refine cFf e1 ?_ ?_ <;> intro k3 h2 e1
 ·have i1 := ix h2
  have m2 := ml a1 (k3 11 _ rfl)
  have c1 := sl 2326528 a1 u0
  have w1 := wr U
  simp [i1, ZC]
  refine rpS ?_
  exact nx2 e1 (hw := Y5 [((5, 0), some (21, 0))] [] rfl (by simp [w1]))
 have c2 := sl 2326528 a1 u0
 have f := ms f e1
 refine cRs (Q6 a0 J (by first | (simp (maxDischargeDepth := 12) [XA]; omega) | (simp (maxDischargeDepth := 12) [ZU (m := 68719476736) (by decide) u0]; done))) ?_
 refine cRs (EE 1 (JR a0 J)) ?_
 exact rt [.tmp 4] f
theorem Vw (a0 : Int) (a1 : Zr) : Sd 150 [rI a0, a1.row] [(zh a0 a1).row] := by
 have f := me (zh.eq_1 a0 a1)
 refine soD func150 ntmps150 ?_
 refine dIs mixed ?_
 refine cDs [false] (jl a1) ?_
 exact rtD [.cell 4 109] f
theorem Oh (a0 : Ze) (a1 : Zs) (a2 : List ZS) (a3 : Zy) (u0 : Sm 2314240 a0) (u1 : Sm 2314240 a1) (u2 : Sm 2314240 a2) : Sa 100 [a0.row, a1.row, rL 3 ZS.row a2, a3.row] [rI (X7 a0 a1 a2 a3)] := by
 have f := me (X7.eq_1 a0 a1 a2 a3)
 refine so func100 ntmps100 ?_
 refine cRs (zW a0.Z6 a3.Key) ?_
 refine cFf f ?_ ?_ <;> intro k1 h1 f
 ·have i1 : (XE a0.Z6 a3.Key).toNat < a0.Z6.length := by have := yk a0.Z6 a3.Key; exact il
  simp [i1, ZC]
  refine rpS ?_
  refine lp2 (z9.eq_2 a0 a1 a2 a3) (fun J U => Yg 92 [eL 2 3 a2 ZS.row, eX 4 (a0.row.map .d), eX 7 (a3.row.map .d), eI 9 J, eL 32 1 a1.Yh (slR 5 Zr.row), eI 33 (a1.Yh.length : Int), eI 34 (U : Int)]) (fun n1 J U => a1.Yh.length < n1 + U /\ U <= a1.Yh.length) (a1.Yh.length + 1) (nth a0.Z6 (XE a0.Z6 a3.Key).toNat).NH 0 (fun p1 J U e1 j1 => ?_)
  refine cFf e1 ?_ ?_ <;> intro k3 h2 e1
  ·have i2 := ix h2
   have m2 := ml a1.Yh (k3 32 _ rfl)
   have c1 := sl 2314240 a1.Yh (an u0 (an u1 u2))
   have w1 := wr U
   simp [i2, ZC]
   refine rpS ?_
   refine dIs mixed ?_
   refine cGs (fun gg => (KW (nth a1.Yh U))) ?_
   refine cGs (fun gg => (kJ a3.Method (nth a1.Yh U) (sg (Zu (Zs.RC u1))))) ?_
   refine cF e1 ?_ ?_ <;> intro k5 h3 e1
   ·exact ny2 w1 e1
   refine lp2 (kx.eq_2 a0 a1 a2 U) (fun wB wC => Yg 92 [eL 2 3 a2 ZS.row, eX 4 (a0.row.map .d), eX 7 (a3.row.map .d), eI 9 J, eL 12 5 (nth a1.Yh U) Zr.row, eB 13 wB, eL 32 1 a1.Yh (slR 5 Zr.row), eI 33 (a1.Yh.length : Int), eI 34 (U : Int), eL 55 5 (nth a1.Yh U) Zr.row, eI 56 ((nth a1.Yh U).length : Int), eI 57 (wC : Int)]) (fun n2 wB wC => (nth a1.Yh U).length < n2 + wC /\ wC <= (nth a1.Yh U).length) ((nth a1.Yh U).length + 1) true 0 (fun p2 wB wC e2 j2 => ?_)
   refine cFf e2 ?_ ?_ <;> intro k7 h4 e2
   ·have i3 := ix h4
    have m4 := ml (nth a1.Yh U) (k7 12 _ rfl)
    have c2 := sl 2314240 (nth a1.Yh U) (an u0 (an u1 u2))
    have w2 := wr wC
    simp [i3, ZC]
    refine rpS ?_
    refine dIs mixed ?_
    refine cGs (fun gg => (Wa a0.ZM (nth (nth a1.Yh U) wC))) ?_
    refine cGs (fun gg => YN.rd (Vw (X0 a0.ZM (nth (nth a1.Yh U) wC)) (nth (nth a1.Yh U) wC))) ?_
    refine cGs (fun gg => (xy a2 (zh (X0 a0.ZM (nth (nth a1.Yh U) wC)) (nth (nth a1.Yh U) wC)))) ?_
    exact ny2 (an w1 w2) e2
   have c3 := sl 2314240 (nth a1.Yh U) (an u0 (an u1 u2))
   have e1 := ms e1 e2
   refine cRs (WN a0.ZM (nth a1.Yh U) a0.Kk (sg (Ze.Xc u0)) (sg (Zu (Zs.RC u1)))) ?_
   refine cF e1 ?_ ?_ <;> intro k9 h5 e1
   ·exact ny2 w1 e1
   exact ny2 w1 e1
  have c4 := sl 2314240 a1.Yh (an u0 (an u1 u2))
  have f := ms f e1
  exact rt [.tmp 8] f
 refine lp2 (yD.eq_2 a0 a1 a2 a3) (fun wZ wa => Yg 92 [eL 2 3 a2 ZS.row, eX 4 (a0.row.map .d), eX 7 (a3.row.map .d), eI 9 wZ, eL 32 1 a1.Yh (slR 5 Zr.row), eI 33 (a1.Yh.length : Int), eI 34 (wa : Int)]) (fun n3 wZ wa => a1.Yh.length < n3 + wa /\ wa <= a1.Yh.length) (a1.Yh.length + 1) 0 0 (fun p3 wZ wa e3 j3 => ?_)
 refine cFf e3 ?_ ?_ <;> intro pK h6 e3
 ·have i4 := ix h6
  have m6 := ml a1.Yh (pK 32 _ rfl)
  have c5 := sl 2314240 a1.Yh (an u0 (an u1 u2))
  have w3 := wr wa
  simp [i4, ZC]
  refine rpS ?_
  refine dIs mixed ?_
  refine cGs (fun gg => (KW (nth a1.Yh wa))) ?_
  refine cGs (fun gg => (kJ a3.Method (nth a1.Yh wa) (sg (Zu (Zs.RC u1))))) ?_
  refine cF e3 ?_ ?_ <;> intro pS h7 e3
  ·exact ny2 w3 e3
  refine lp2 (ku.eq_2 a0 a1 a2 wa) (fun vz uB => Yg 92 [eL 2 3 a2 ZS.row, eX 4 (a0.row.map .d), eX 7 (a3.row.map .d), eI 9 wZ, eL 12 5 (nth a1.Yh wa) Zr.row, eB 13 vz, eL 32 1 a1.Yh (slR 5 Zr.row), eI 33 (a1.Yh.length : Int), eI 34 (wa : Int), eL 55 5 (nth a1.Yh wa) Zr.row, eI 56 ((nth a1.Yh wa).length : Int), eI 57 (uB : Int)]) (fun n4 vz uB => (nth a1.Yh wa).length < n4 + uB /\ uB <= (nth a1.Yh wa).length) ((nth a1.Yh wa).length + 1) true 0 (fun p4 vz uB e4 j4 => ?_)
  refine cFf e4 ?_ ?_ <;> intro mr h8 e4
  ·have i5 := ix h8
   have m8 := ml (nth a1.Yh wa) (mr 12 _ rfl)
   have c6 := sl 2314240 (nth a1.Yh wa) (an u0 (an u1 u2))
   have w4 := wr uB
   simp [i5, ZC]
   refine rpS ?_
   refine dIs mixed ?_
   refine cGs (fun gg => (Wa a0.ZM (nth (nth a1.Yh wa) uB))) ?_
   refine cGs (fun gg => YN.rd (Vw (X0 a0.ZM (nth (nth a1.Yh wa) uB)) (nth (nth a1.Yh wa) uB))) ?_
   refine cGs (fun gg => (xy a2 (zh (X0 a0.ZM (nth (nth a1.Yh wa) uB)) (nth (nth a1.Yh wa) uB)))) ?_
   exact ny2 (an w3 w4) e4
  have c7 := sl 2314240 (nth a1.Yh wa) (an u0 (an u1 u2))
  have e3 := ms e3 e4
  refine cRs (WN a0.ZM (nth a1.Yh wa) a0.Kk (sg (Ze.Xc u0)) (sg (Zu (Zs.RC u1)))) ?_
  refine cF e3 ?_ ?_ <;> intro lb h9 e3
  ·exact ny2 w3 e3
  exact ny2 w3 e3
 have c8 := sl 2314240 a1.Yh (an u0 (an u1 u2))
 have f := ms f e3
 exact rt [.tmp 8] f
theorem Ri (a0 : List ZS) (a1 : YY) (u0 : Sm 2330624 a0) : Sd 101 [rL 3 ZS.row a0, a1.row] [rL 5 Zh.row (Jx a0 a1)] := by
 have f := me (Jx.eq_1 a0 a1)
 refine soD func101 ntmps101 ?_
 refine lp2 (Kf.eq_2 a0 a1) (fun J U => Yg 42 [eX 3 (a1.row.map .d), (5, .one (.sref 5 0 0 J.length), [.arr false 5 (J.map Zh.row)]), eL 10 3 a0 ZS.row, eI 11 (a0.length : Int), eI 12 (U : Int)]) (fun n1 J U => a0.length < n1 + U /\ U <= a0.length /\ J.length <= 0 + 1 * U) (a0.length + 1) ([] : List Zh) 0 (fun p1 J U e1 j1 => ?_) (h0 := wkS [((5, 0), none)] [])
 refine cFf e1 ?_ ?_ <;> intro k2 h1 e1
 ·have i1 := ix h1
  have m2 := ml a0 (k2 10 _ rfl)
  have c1 := sl 2330624 a0 u0
  have w1 := wr U
  simp [i1, ZC]
  refine rpS ?_
  refine cRs (Wf (nth a0 U)) ?_
  refine cF e1 ?_ ?_ <;> intro k3 h2 e1
  ·exact nx2 e1 (hw := Y5 [((5, 0), some (39, 0))] [] rfl (by simp [w1]))
  exact ny2 w1 e1
 have c2 := sl 2330624 a0 u0
 have f := ms f e1
 exact rtD [.tmp 4] f
theorem QS (a0 : Int) (a1 : Int) (a2 : List Za) (u0 : Sm 2326528 a2) : Nz prog 205 [rI a0, rI a1] [.sl 2 (a2.map Za.row)] [.sl 2 ((Zl a0 a1 a2).map Za.row)] := by
 refine F6 func205 rfl (by kernel_rfl) [false] (by simp) (fun v => ?_)
 simp [ntmps205]
 refine cR (WL a0 a1) ?_
 simp
 refine cC (Kb a0 a1).2 (fun k1 h1 => ?_) (fun k1 h1 => ?_)
 ·have q1 := h1; try simp at q1
  have c1 : a2.length <= 2326528 := Yb (xs u0)
  simp
  refine rpS ?_
  refine Co (tW := [(.sref 17 0 0 (a2 ++ ([(Kb a0 a1).1] : List Za)).length)]) rfl ?_ (.inr rfl)
  have f1 := Zl.eq_1 a0 a1 a2
  simp only [h1, Kx, KS] at f1
  simp [f1]
  all_goals ((rintro r (⟨a, _, rfl⟩ | rfl) x hx <;> simp at hx <;> rcases hx with rfl | rfl <;> rfl))
 ·have q1 := h1; try simp at q1
  simp
  refine Co (tW := [(.sref 2 1 0 a2.length)]) rfl ?_ (.inr rfl)
  have f2 := Zl.eq_1 a0 a1 a2
  simp only [h1, Kx, KS] at f2
  simp [f2]
  all_goals ((rintro r (⟨a, _, rfl⟩ | rfl) x hx <;> simp at hx <;> rcases hx with rfl | rfl <;> rfl))
theorem LY (a0 : List Zh) (a1 : Int) : Sa 229 [rL 5 Zh.row a0, rI a1] [rI (qb a0 a1).1, rI (qb a0 a1).2.1, rI (qb a0 a1).2.2] := by
 have f := me (qb.eq_1 a0 a1)
 refine so func229 ntmps229 ?_
 refine lp4 (Wq.eq_2 a0 a1) (fun J U wD wL => Yg 49 [eI 1 a1, eI 7 J, eI 8 U, eI 9 wD, eL 12 5 a0 Zh.row, eI 13 (a0.length : Int), eI 14 (wL : Int)]) (fun n1 J U wD wL => a0.length < n1 + wL /\ wL <= a0.length) (a0.length + 1) (-1) (-1) (-1) 0 (fun p1 J U wD wL e1 j1 => ?_)
 refine cFf e1 ?_ ?_ <;> intro k2 h1 e1
 ·have i1 := ix h1
  have m2 := ml a0 (k2 12 _ rfl)
  have w1 := wr wL
  simp [i1, ZC]
  refine rpS ?_
  refine cF e1 ?_ ?_ <;> intro k3 h2 e1
  ·exact ny4 w1 e1
  refine cF e1 ?_ ?_ <;> intro k4 h3 e1
  ·exact ny4 w1 e1
  refine cF e1 ?_ ?_ <;> intro k5 h4 e1
  ·exact ny4 w1 e1
  exact ny4 w1 e1
 have f := ms f e1
 exact rt [.tmp 4, .tmp 5, .tmp 6] f
theorem q7 (a0 : List Zh) (a1 : Int) : Sa 207 [rL 5 Zh.row a0, rI a1] [rI (Xo a0 a1)] := by
 have f := me (Xo.eq_1 a0 a1)
 refine so func207 ntmps207 ?_
 refine cRs (LY a0 a1) ?_
 refine cF f ?_ ?_ <;> intro k1 h1 f
 ·exact rt [.tmp 4] f
 exact rt [.tmp 4] f
theorem Vi {a b : Prop} (h : b) (k : a := by (intros; first | omega | with_unfolding_all (first | (first | omega | (have z := Yb u0; omega) | (have z := Yb u0; simp at *; omega))) | ((try simp only [XT, show ∀ x, IntKind.i64.wrap x = W x from fun _ => rfl] at *); omega))) : a /\ b := ⟨k, h⟩
theorem Je {a b : Prop} (h : b) (k : a := by (intros; first | omega | with_unfolding_all (first | (first | omega | (have z := Yb u0; omega) | (have z := Yb u0; simp at *; omega))) | (simp_all; done) | (simp_all; omega) | grind | ((try simp only [XT, show ∀ x, IntKind.i64.wrap x = W x from fun _ => rfl] at *); omega))) : a /\ b := ⟨k, h⟩
theorem KQ (a0 : List Za) (u0 : Sm 2330624 a0) : Sd 203 [rL 2 Za.row a0] [rL 2 Za.row (XX a0)] := by
 have f := me (XX.eq_1 a0)
 refine soD func203 ntmps203 ?_
 refine lp2 (yT.eq_2 a0) (fun J U => Yg 85 [(3, .one (.sref 3 0 0 J.length), [.arr false 2 (J.map Za.row)]), eL 10 2 a0 Za.row, eI 11 (a0.length : Int), eI 12 (U : Int)]) (fun n1 J U => a0.length < n1 + U /\ U <= a0.length /\ J.length <= U) (a0.length + 1) ([] : List Za) 0 (fun p1 J U e1 j1 => ?_) (h0 := wkS [((3, 0), none)] [])
 try dsimp only at j1
 refine cFf e1 ?_ ?_ <;> intro k2 h1 e1
 ·have i1 := ix h1
  have m2 := ml a0 (k2 10 _ rfl)
  have c1 := sl 2330624 a0 u0
  have w1 := wr U
  simp [i1, ZC]
  repeat with_reducible refine Vi ?_
  refine cRs (Qm (nth a0 U)) ?_
  refine cF e1 ?_ ?_ <;> intro k3 h2 e1
  ·exact ny2 w1 e1 (hI := by first | omega | (simp at *; omega))
  refine lp4 (yY.eq_2 J) (fun wB wC vd vg => Yg 85 [(3, .any, [.arr false 2 (J.map Za.row)]), (5, .one (.bptr 5 0), [.box [.d (.int .i64 vd), .d (.int .i64 vg)]]), (6, .one (.sref 6 0 0 wB.length), [.arr false 2 (wB.map Za.row)]), eL 10 2 a0 Za.row, eI 11 (a0.length : Int), eI 12 (U : Int), (19, .one (.sref 3 0 0 J.length), []), eI 20 (J.length : Int), eI 21 (wC : Int)]) (fun n2 wB wC vd vg => J.length < n2 + wC /\ wC <= J.length /\ wB.length <= wC) (J.length + 1) ([] : List Za) 0 (nth a0 U).XU (nth a0 U).To (fun p2 wB wC vd vg e2 j2 => ?_) (h0 := wkS [((6, 0), none)] [])
  try dsimp only at j2
  refine cFf e2 ?_ ?_ <;> intro k5 h3 e2
  ·have i2 := ix h3
   have m4 := ml J (k5 19 _ rfl)
   have w2 := wr wC
   simp [i2, ZC]
   repeat with_reducible refine Vi ?_
   refine cFf e2 ?_ ?_ <;> intro k6 h4 e2
   ·simp
    repeat with_reducible refine Vi ?_
    exact nx4 e2 (hI := by first | omega | (simp at *; omega)) (hw := Y5 [((6, 0), some (42, 0))] [] rfl (by simp [w1, w2]))
   exact ny4 (an w1 w2) e2 (hI := by first | omega | (simp at *; omega))
  have e1 := ms e1 e2
  refine lp1 (UE.eq_2 wB vd) (fun wZ => Yg 85 [(5, .one (.bptr 5 0), [.box [.d (.int .i64 vd), .d (.int .i64 vg)]]), (6, .one (.sref 6 0 0 wB.length), [.arr false 2 (wB.map Za.row)]), eI 9 (wZ : Int), eL 10 2 a0 Za.row, eI 11 (a0.length : Int), eI 12 (U : Int)]) (fun n3 wZ => wB.length < n3 + wZ /\ wZ <= wB.length) (wB.length + 1) 0 (fun p3 wZ e3 j3 => ?_)
  try dsimp only at j3
  refine dIs mixed ?_
  refine gIo ?_ ?_ <;> intro G
  ·have vh := G
   have g1 := G; try simp at g1
   have i3 := ik wZ wB
   simp [i3, ZC, G]
   repeat with_reducible refine Je ?_
   refine cKo e3 ?_ ?_ <;> intro k9 h5 e3
   ·try (simp [G] at h5; done)
    all_goals
     have i4 : wZ < wB.length := by (simp at h5; omega)
     have m6 := ml wB (k9 6 _ rfl)
     have w3 := wr wZ
     simp [G]
     repeat with_reducible refine Je ?_
     exact ny1 (an w1 (an w3 G)) e3
   ·try (simp [G] at h5; done)
    all_goals
     have e1 := ms e1 e3
     simp [G]
     repeat with_reducible refine Je ?_
     refine dIo mixed ?_
     simp [G]
     repeat with_reducible refine Je ?_
     exact nx2 e1 (hI := by first | omega | (simp at *; omega)) (hw := Y5 [((3, 0), some (82, 0))] [] rfl (by simp [w1, G]))
  ·have vh := G
   simp [G]
   repeat with_reducible refine Je ?_
   refine cKo e3 ?_ ?_ <;> intro pK h6 e3
   ·try (simp [G] at h6; done)
    all_goals
     have i6 : wZ < wB.length := by (simp at h6; omega)
     have m8 := ml wB (pK 6 _ rfl)
     have w4 := wr wZ
     simp [G]
     repeat with_reducible refine Je ?_
     exact ny1 (an w1 (an w4 G)) e3
   ·try (simp [G] at h6; done)
    all_goals
     have e1 := ms e1 e3
     simp [G]
     repeat with_reducible refine Je ?_
     refine dIo mixed ?_
     simp [G]
     repeat with_reducible refine Je ?_
     exact nx2 e1 (hI := by first | omega | (simp at *; omega)) (hw := Y5 [((3, 0), some (82, 0))] [] rfl (by simp [w1, G]))
 have c2 := sl 2330624 a0 u0
 have f := ms f e1
 refine IF (rv := [.tmp 2]) rfl ?_
 simp [f.h]
 all_goals ((rintro r (hr | rfl | hr) x hx <;> (first | (simp at hx; rcases hx with rfl | rfl <;> rfl) | ((first | (replace hr := List.mem_of_mem_take hr) | (replace hr := List.mem_of_mem_drop hr)); simp at hr; obtain ⟨a, _, rfl⟩ := hr; simp at hx; rcases hx with rfl | rfl <;> rfl))))
theorem Mi (a0 : YY) (a1 : List Zh) (u0 : Sm 2322432 a1) : Sd 155 [a0.row, rL 5 Zh.row a1] [rL 2 Za.row (xk a0 a1)] := by
 have f := me (xk.eq_1 a0 a1)
 refine soD func155 ntmps155 ?_
 refine Ce (t := 5) (cells := [.nil 2]) rfl rfl rfl rfl (by simp) (by simp) ?_
 simp
 refine cF f ?_ ?_ <;> intro k1 h1 f
 ·refine MB (tf := 11) (u := 5) (row := [.sl 2 (([] : List Za).map Za.row)]) (wF := [.sl 2 ((Zl 0 (W (a0.XU - 1)) ([] : List Za)).map Za.row)]) (cells := [.nil 2]) [false] rfl rfl rfl rfl (QS 0 (W (a0.XU - 1)) ([] : List Za) (by (first | (exact ⟨Nat.zero_le _, fun _ _ => trivial⟩) | (refine ZG (n := 2322432) ?_; exact ⟨Nat.zero_le _, fun _ _ => trivial⟩) | (refine ZG (n := 2322432) (ZG (n := 2322432 - 1) ?_); exact ⟨Nat.zero_le _, fun _ _ => trivial⟩) | (refine ZU (n := 3) (by decide) (ZG (ZG (ZG (n := 0) ?_))); exact ⟨Nat.zero_le _, fun _ _ => trivial⟩) | (refine ZU (n := 2) (by decide) (ZG (ZG (n := 0) ?_)); exact ⟨Nat.zero_le _, fun _ _ => trivial⟩) | (refine ZU (n := 1) (by decide) (ZG (n := 0) ?_); exact ⟨Nat.zero_le _, fun _ _ => trivial⟩)))) (by simp) (by simp) (by simp) (by simp) (by simp) (by simp) (by simp) (by simp) (by simp) (by simp) (by simp [Yx]) (by simp) (by simp) ?_
  simp
  refine cF f ?_ ?_ <;> intro k2 h2 f
  ·refine MB (tf := 19) (u := 5) (row := [.sl 2 ((Zl 0 (W (a0.XU - 1)) ([] : List Za)).map Za.row)]) (wF := [.sl 2 ((Zl (W (a0.To + 1)) 10000 (Zl 0 (W (a0.XU - 1)) ([] : List Za))).map Za.row)]) (cells := [.sref 5 1 0 (Zl 0 (W (a0.XU - 1)) ([] : List Za)).length]) [false] rfl rfl rfl rfl (QS (W (a0.To + 1)) 10000 (Zl 0 (W (a0.XU - 1)) ([] : List Za)) (by (first | (exact ⟨Nat.zero_le _, fun _ _ => trivial⟩) | (refine ZG (n := 2322432) ?_; exact ⟨Nat.zero_le _, fun _ _ => trivial⟩) | (refine ZG (n := 2322432) (ZG (n := 2322432 - 1) ?_); exact ⟨Nat.zero_le _, fun _ _ => trivial⟩) | (refine ZU (n := 3) (by decide) (ZG (ZG (ZG (n := 0) ?_))); exact ⟨Nat.zero_le _, fun _ _ => trivial⟩) | (refine ZU (n := 2) (by decide) (ZG (ZG (n := 0) ?_)); exact ⟨Nat.zero_le _, fun _ _ => trivial⟩) | (refine ZU (n := 1) (by decide) (ZG (n := 0) ?_); exact ⟨Nat.zero_le _, fun _ _ => trivial⟩)))) (by simp) (by simp) (by simp) (by simp) (by simp) (by simp) (by simp) (by simp) (by simp) (by simp) (by simp [Yx]) (by simp) (by simp) ?_
   simp
   refine cRs (q7 a1 a0.ZO) ?_
   refine MB (tf := 24) (u := 5) (row := [.sl 2 ((Zl (W (a0.To + 1)) 10000 (Zl 0 (W (a0.XU - 1)) ([] : List Za))).map Za.row)]) (wF := [.sl 2 ((Zl (Xo a1 a0.ZO) 10000 (Zl (W (a0.To + 1)) 10000 (Zl 0 (W (a0.XU - 1)) ([] : List Za)))).map Za.row)]) (cells := [.sref 5 1 0 (Zl (W (a0.To + 1)) 10000 (Zl 0 (W (a0.XU - 1)) ([] : List Za))).length]) [false] rfl rfl rfl rfl (QS (Xo a1 a0.ZO) 10000 (Zl (W (a0.To + 1)) 10000 (Zl 0 (W (a0.XU - 1)) ([] : List Za))) (by (first | (exact ⟨Nat.zero_le _, fun _ _ => trivial⟩) | (refine ZG (n := 2322432) ?_; exact ⟨Nat.zero_le _, fun _ _ => trivial⟩) | (refine ZG (n := 2322432) (ZG (n := 2322432 - 1) ?_); exact ⟨Nat.zero_le _, fun _ _ => trivial⟩) | (refine ZU (n := 3) (by decide) (ZG (ZG (ZG (n := 0) ?_))); exact ⟨Nat.zero_le _, fun _ _ => trivial⟩) | (refine ZU (n := 2) (by decide) (ZG (ZG (n := 0) ?_)); exact ⟨Nat.zero_le _, fun _ _ => trivial⟩) | (refine ZU (n := 1) (by decide) (ZG (n := 0) ?_); exact ⟨Nat.zero_le _, fun _ _ => trivial⟩)))) (by simp) (by simp) (by simp) (by simp) (by simp) (by simp) (by simp) (by simp) (by simp) (by simp) (by simp [Yx]) (by simp) (by simp) ?_
   simp
   refine cDs [false] (KQ (Zl (Xo a1 a0.ZO) 10000 (Zl (W (a0.To + 1)) 10000 (Zl 0 (W (a0.XU - 1)) ([] : List Za)))) (by (first | (exact ⟨Nat.zero_le _, fun _ _ => trivial⟩) | (refine ZG (n := 2322432) ?_; exact ⟨Nat.zero_le _, fun _ _ => trivial⟩) | (refine ZG (n := 2322432) (ZG (n := 2322432 - 1) ?_); exact ⟨Nat.zero_le _, fun _ _ => trivial⟩) | (refine ZU (n := 3) (by decide) (ZG (ZG (ZG (n := 0) ?_))); exact ⟨Nat.zero_le _, fun _ _ => trivial⟩) | (refine ZU (n := 2) (by decide) (ZG (ZG (n := 0) ?_)); exact ⟨Nat.zero_le _, fun _ _ => trivial⟩) | (refine ZU (n := 1) (by decide) (ZG (n := 0) ?_); exact ⟨Nat.zero_le _, fun _ _ => trivial⟩)))) ?_
   exact rtD [.tmp 4] f
  refine cRs (q7 a1 a0.ZO) ?_
  refine MB (tf := 24) (u := 5) (row := [.sl 2 ((Zl 0 (W (a0.XU - 1)) ([] : List Za)).map Za.row)]) (wF := [.sl 2 ((Zl (Xo a1 a0.ZO) 10000 (Zl 0 (W (a0.XU - 1)) ([] : List Za))).map Za.row)]) (cells := [.sref 5 1 0 (Zl 0 (W (a0.XU - 1)) ([] : List Za)).length]) [false] rfl rfl rfl rfl (QS (Xo a1 a0.ZO) 10000 (Zl 0 (W (a0.XU - 1)) ([] : List Za)) (by (first | (exact ⟨Nat.zero_le _, fun _ _ => trivial⟩) | (refine ZG (n := 2322432) ?_; exact ⟨Nat.zero_le _, fun _ _ => trivial⟩) | (refine ZG (n := 2322432) (ZG (n := 2322432 - 1) ?_); exact ⟨Nat.zero_le _, fun _ _ => trivial⟩) | (refine ZU (n := 3) (by decide) (ZG (ZG (ZG (n := 0) ?_))); exact ⟨Nat.zero_le _, fun _ _ => trivial⟩) | (refine ZU (n := 2) (by decide) (ZG (ZG (n := 0) ?_)); exact ⟨Nat.zero_le _, fun _ _ => trivial⟩) | (refine ZU (n := 1) (by decide) (ZG (n := 0) ?_); exact ⟨Nat.zero_le _, fun _ _ => trivial⟩)))) (by simp) (by simp) (by simp) (by simp) (by simp) (by simp) (by simp) (by simp) (by simp) (by simp) (by simp [Yx]) (by simp) (by simp) ?_
  simp
  refine cDs [false] (KQ (Zl (Xo a1 a0.ZO) 10000 (Zl 0 (W (a0.XU - 1)) ([] : List Za))) (by (first | (exact ⟨Nat.zero_le _, fun _ _ => trivial⟩) | (refine ZG (n := 2322432) ?_; exact ⟨Nat.zero_le _, fun _ _ => trivial⟩) | (refine ZG (n := 2322432) (ZG (n := 2322432 - 1) ?_); exact ⟨Nat.zero_le _, fun _ _ => trivial⟩) | (refine ZU (n := 3) (by decide) (ZG (ZG (ZG (n := 0) ?_))); exact ⟨Nat.zero_le _, fun _ _ => trivial⟩) | (refine ZU (n := 2) (by decide) (ZG (ZG (n := 0) ?_)); exact ⟨Nat.zero_le _, fun _ _ => trivial⟩) | (refine ZU (n := 1) (by decide) (ZG (n := 0) ?_); exact ⟨Nat.zero_le _, fun _ _ => trivial⟩)))) ?_
  exact rtD [.tmp 4] f
 refine cF f ?_ ?_ <;> intro k3 h3 f
 ·refine MB (tf := 19) (u := 5) (row := [.sl 2 (([] : List Za).map Za.row)]) (wF := [.sl 2 ((Zl (W (a0.To + 1)) 10000 ([] : List Za)).map Za.row)]) (cells := [.nil 2]) [false] rfl rfl rfl rfl (QS (W (a0.To + 1)) 10000 ([] : List Za) (by (first | (exact ⟨Nat.zero_le _, fun _ _ => trivial⟩) | (refine ZG (n := 2322432) ?_; exact ⟨Nat.zero_le _, fun _ _ => trivial⟩) | (refine ZG (n := 2322432) (ZG (n := 2322432 - 1) ?_); exact ⟨Nat.zero_le _, fun _ _ => trivial⟩) | (refine ZU (n := 3) (by decide) (ZG (ZG (ZG (n := 0) ?_))); exact ⟨Nat.zero_le _, fun _ _ => trivial⟩) | (refine ZU (n := 2) (by decide) (ZG (ZG (n := 0) ?_)); exact ⟨Nat.zero_le _, fun _ _ => trivial⟩) | (refine ZU (n := 1) (by decide) (ZG (n := 0) ?_); exact ⟨Nat.zero_le _, fun _ _ => trivial⟩)))) (by simp) (by simp) (by simp) (by simp) (by simp) (by simp) (by simp) (by simp) (by simp) (by simp) (by simp [Yx]) (by simp) (by simp) ?_
  simp
  refine cRs (q7 a1 a0.ZO) ?_
  refine MB (tf := 24) (u := 5) (row := [.sl 2 ((Zl (W (a0.To + 1)) 10000 ([] : List Za)).map Za.row)]) (wF := [.sl 2 ((Zl (Xo a1 a0.ZO) 10000 (Zl (W (a0.To + 1)) 10000 ([] : List Za))).map Za.row)]) (cells := [.sref 5 1 0 (Zl (W (a0.To + 1)) 10000 ([] : List Za)).length]) [false] rfl rfl rfl rfl (QS (Xo a1 a0.ZO) 10000 (Zl (W (a0.To + 1)) 10000 ([] : List Za)) (by (first | (exact ⟨Nat.zero_le _, fun _ _ => trivial⟩) | (refine ZG (n := 2322432) ?_; exact ⟨Nat.zero_le _, fun _ _ => trivial⟩) | (refine ZG (n := 2322432) (ZG (n := 2322432 - 1) ?_); exact ⟨Nat.zero_le _, fun _ _ => trivial⟩) | (refine ZU (n := 3) (by decide) (ZG (ZG (ZG (n := 0) ?_))); exact ⟨Nat.zero_le _, fun _ _ => trivial⟩) | (refine ZU (n := 2) (by decide) (ZG (ZG (n := 0) ?_)); exact ⟨Nat.zero_le _, fun _ _ => trivial⟩) | (refine ZU (n := 1) (by decide) (ZG (n := 0) ?_); exact ⟨Nat.zero_le _, fun _ _ => trivial⟩)))) (by simp) (by simp) (by simp) (by simp) (by simp) (by simp) (by simp) (by simp) (by simp) (by simp) (by simp [Yx]) (by simp) (by simp) ?_
  simp
  refine cDs [false] (KQ (Zl (Xo a1 a0.ZO) 10000 (Zl (W (a0.To + 1)) 10000 ([] : List Za))) (by (first | (exact ⟨Nat.zero_le _, fun _ _ => trivial⟩) | (refine ZG (n := 2322432) ?_; exact ⟨Nat.zero_le _, fun _ _ => trivial⟩) | (refine ZG (n := 2322432) (ZG (n := 2322432 - 1) ?_); exact ⟨Nat.zero_le _, fun _ _ => trivial⟩) | (refine ZU (n := 3) (by decide) (ZG (ZG (ZG (n := 0) ?_))); exact ⟨Nat.zero_le _, fun _ _ => trivial⟩) | (refine ZU (n := 2) (by decide) (ZG (ZG (n := 0) ?_)); exact ⟨Nat.zero_le _, fun _ _ => trivial⟩) | (refine ZU (n := 1) (by decide) (ZG (n := 0) ?_); exact ⟨Nat.zero_le _, fun _ _ => trivial⟩)))) ?_
  exact rtD [.tmp 4] f
 refine cRs (q7 a1 a0.ZO) ?_
 refine MB (tf := 24) (u := 5) (row := [.sl 2 (([] : List Za).map Za.row)]) (wF := [.sl 2 ((Zl (Xo a1 a0.ZO) 10000 ([] : List Za)).map Za.row)]) (cells := [.nil 2]) [false] rfl rfl rfl rfl (QS (Xo a1 a0.ZO) 10000 ([] : List Za) (by (first | (exact ⟨Nat.zero_le _, fun _ _ => trivial⟩) | (refine ZG (n := 2322432) ?_; exact ⟨Nat.zero_le _, fun _ _ => trivial⟩) | (refine ZG (n := 2322432) (ZG (n := 2322432 - 1) ?_); exact ⟨Nat.zero_le _, fun _ _ => trivial⟩) | (refine ZU (n := 3) (by decide) (ZG (ZG (ZG (n := 0) ?_))); exact ⟨Nat.zero_le _, fun _ _ => trivial⟩) | (refine ZU (n := 2) (by decide) (ZG (ZG (n := 0) ?_)); exact ⟨Nat.zero_le _, fun _ _ => trivial⟩) | (refine ZU (n := 1) (by decide) (ZG (n := 0) ?_); exact ⟨Nat.zero_le _, fun _ _ => trivial⟩)))) (by simp) (by simp) (by simp) (by simp) (by simp) (by simp) (by simp) (by simp) (by simp) (by simp) (by simp [Yx]) (by simp) (by simp) ?_
 simp
 refine cDs [false] (KQ (Zl (Xo a1 a0.ZO) 10000 ([] : List Za)) (by (first | (exact ⟨Nat.zero_le _, fun _ _ => trivial⟩) | (refine ZG (n := 2322432) ?_; exact ⟨Nat.zero_le _, fun _ _ => trivial⟩) | (refine ZG (n := 2322432) (ZG (n := 2322432 - 1) ?_); exact ⟨Nat.zero_le _, fun _ _ => trivial⟩) | (refine ZU (n := 3) (by decide) (ZG (ZG (ZG (n := 0) ?_))); exact ⟨Nat.zero_le _, fun _ _ => trivial⟩) | (refine ZU (n := 2) (by decide) (ZG (ZG (n := 0) ?_)); exact ⟨Nat.zero_le _, fun _ _ => trivial⟩) | (refine ZU (n := 1) (by decide) (ZG (n := 0) ?_); exact ⟨Nat.zero_le _, fun _ _ => trivial⟩)))) ?_
 exact rtD [.tmp 4] f
theorem Ml (a0 : Za) (a1 : Za) : Sa 204 [a0.row, a1.row] [rB (Tl a0 a1)] := by
 have f := me (Tl.eq_1 a0 a1)
 refine so func204 ntmps204 ?_
 refine cRs (Qm a0) ?_
 refine cGs (fun gg => (Qm a1)) ?_
 exact rt [.tmp 4] f
theorem qU (a0 : List Za) (a1 : Za) (u0 : Sm 2326528 a0) : Sa 154 [rL 2 Za.row a0, a1.row] [rB (y7 a0 a1)] := by
 have f := me (y7.eq_1 a0 a1)
 refine so func154 ntmps154 ?_
 refine cRs (YN.rd (KQ a0 (sg u0))) ?_
 refine lp1 (js.eq_2 a0 a1) (fun J => Yg 18 [eX 3 (a1.row.map .d), eL 8 2 (XX a0) Za.row, eI 9 ((XX a0).length : Int), eI 10 (J : Int)]) (fun n1 J => (XX a0).length < n1 + J /\ J <= (XX a0).length) ((XX a0).length + 1) 0 (fun p1 J e1 j1 => ?_)
 refine cFf e1 ?_ ?_ <;> intro k2 h1 e1
 ·have i1 := ix h1
  have m2 := ml (XX a0) (k2 8 _ rfl)
  have w1 := wr J
  simp [i1, ZC]
  refine rpS ?_
  refine cRs (Ml a1 (nth (XX a0) J)) ?_
  refine cF e1 ?_ ?_ <;> intro k3 h2 e1
  ·have f := ms f e1
   exact rt [.tmp 4] f
  exact ny1 w1 e1
 have f := ms f e1
 exact rt [.tmp 4] f
theorem Ms (a0 : YY) (a1 : List Zh) (a2 : Za) (u0 : Sm 2318336 a1) : Sa 102 [a0.row, rL 5 Zh.row a1, a2.row] [rB (T7 a0 a1 a2)] := by
 have f := me (T7.eq_1 a0 a1 a2)
 refine so func102 ntmps102 ?_
 refine dIs mixed ?_
 refine cRs (YN.rd (Mi a0 a1 (sg u0))) ?_
 refine cRs (qU (xk a0 a1) a2 (by exact M0 (by decide))) ?_
 exact rt [.tmp 6] f
theorem NM (a0 : List Zh) (a1 : Int) : Sa 209 [rL 5 Zh.row a0, rI a1] [rI (kA a0 a1)] := by
 have f := me (kA.eq_1 a0 a1)
 refine so func209 ntmps209 ?_
 refine cRs (LY a0 a1) ?_
 refine cF f ?_ ?_ <;> intro k1 h1 f
 ·exact rt [.tmp 4] f
 exact rt [.tmp 4] f
theorem NG (a0 : Za) (a1 : Za) : Sa 230 [a0.row, a1.row] [(zA a0 a1).1.row, rB (zA a0 a1).2] := by
 have f := me (zA.eq_1 a0 a1)
 refine so func230 ntmps230 ?_
 refine cRs (Qm a0) ?_
 refine cGs (fun gg => (Qm a1)) ?_
 refine cGs (fun gg => (Qm (Za.mk (if a1.XU > a0.XU then a1.XU else a0.XU) (if a1.To < a0.To then a1.To else a0.To)))) ?_
 refine cF f ?_ ?_ <;> intro k1 h1 f
 ·exact rt [.cell 4 65, .tmp 5] f
 exact rt [.cell 4 65, .tmp 5] f
theorem Vh {a b : Prop} (h : b) (k : a := by (intros; first | omega | with_unfolding_all (first | (first | omega | (simp at *; omega))) | ((try simp only [XT, show ∀ x, IntKind.i64.wrap x = W x from fun _ => rfl] at *); omega))) : a /\ b := ⟨k, h⟩
theorem Iu (a0 : List Za) (a1 : List Za) (u0 : Sm 2326528 a0) (u1 : Sm 2326528 a1) (u2 : a0.length <= 1 /\ a1.length <= 1) : Sd 208 [rL 2 Za.row a0, rL 2 Za.row a1] [rL 2 Za.row (U6 a0 a1)] := by
 have f := me (U6.eq_1 a0 a1)
 refine soD func208 ntmps208 ?_
 refine lp2 (Ua.eq_2 a0 a1) (fun J U => Yg 39 [eL 1 2 a1 Za.row, (5, .one (.sref 5 0 0 J.length), [.arr false 2 (J.map Za.row)]), eL 12 2 a0 Za.row, eI 13 (a0.length : Int), eI 14 (U : Int)]) (fun n1 J U => a0.length < n1 + U /\ U <= a0.length /\ J.length <= U) (a0.length + 1) ([] : List Za) 0 (fun p1 J U e1 j1 => ?_) (h0 := wkS [((5, 0), none)] [])
 try dsimp only at j1
 refine cFf e1 ?_ ?_ <;> intro k2 h1 e1
 ·have i1 := ix h1
  have m2 := ml a0 (k2 12 _ rfl)
  have c1 := sl 2326528 a0 (an u0 (an u1 u2))
  have w1 := wr U
  simp [i1, ZC]
  repeat with_reducible refine Vh ?_
  refine lp2 (kD.eq_2 a0 a1 U) (fun wB wC => Yg 39 [eL 1 2 a1 Za.row, (5, .one (.sref 5 0 0 wB.length), [.arr false 2 (wB.map Za.row)]), eX 7 ((nth a0 U).row.map .d), eL 12 2 a0 Za.row, eI 13 (a0.length : Int), eI 14 (U : Int), eL 18 2 a1 Za.row, eI 19 (a1.length : Int), eI 20 (wC : Int)]) (fun n2 wB wC => a1.length < n2 + wC /\ wC <= a1.length /\ wB.length <= U + wC) (a1.length + 1) J 0 (fun p2 wB wC e2 j2 => ?_)
  try dsimp only at j2
  refine cFf e2 ?_ ?_ <;> intro k4 h2 e2
  ·have i2 := ix h2
   have m4 := ml a1 (k4 1 _ rfl)
   have c2 := sl 2326528 a1 (an u0 (an u1 u2))
   have w2 := wr wC
   simp [i2, ZC]
   repeat with_reducible refine Vh ?_
   refine cRs (NG (nth a0 U) (nth a1 wC)) ?_
   refine cFf e2 ?_ ?_ <;> intro k5 h3 e2
   ·simp
    repeat with_reducible refine Vh ?_
    exact nx2 e2 (hI := by first | omega | (simp at *; omega)) (hw := Y5 [((5, 0), some (34, 0))] [] rfl (by simp [w1, w2]))
   exact ny2 (an w1 w2) e2 (hI := by first | omega | (simp at *; omega))
  have c3 := sl 2326528 a1 (an u0 (an u1 u2))
  have e1 := ms e1 e2
  exact ny2 w1 e1
 have c4 := sl 2326528 a0 (an u0 (an u1 u2))
 have f := ms f e1
 refine cDs [false] (KQ J (by exact ⟨by omega, fun _ _ => trivial⟩)) ?_
 exact rtD [.tmp 4] f
theorem Nv (a0 : YY) (a1 : List Zh) (u0 : Sm 2322432 a1) : Sd 156 [a0.row, rL 5 Zh.row a1] [rL 2 Za.row (yV a0 a1)] := by
 have f := me (yV.eq_1 a0 a1)
 refine soD func156 ntmps156 ?_
 refine dIs mixed ?_
 refine cRs (Td a0) ?_
 refine cRs (NM a1 a0.ZO) ?_
 refine cDs [false] (Iu ([(xh a0)] : List Za) ([(Za.mk 0 (kA a1 a0.ZO))] : List Za) (by simp (maxDischargeDepth := 12) [JJ, XA, ZU (m := 2326528) (by decide) u0]; try omega) (by simp (maxDischargeDepth := 12) [JJ, XA, ZU (m := 2326528) (by decide) u0]; try omega) (by exact ⟨Nat.le_refl _, Nat.le_refl _⟩)) ?_
 exact rtD [.tmp 4] f
theorem P7 (a0 : YY) (a1 : List Zh) (a2 : Za) (u0 : Sm 2318336 a1) : Sa 103 [a0.row, rL 5 Zh.row a1, a2.row] [rB (VF a0 a1 a2)] := by
 have f := me (VF.eq_1 a0 a1 a2)
 refine so func103 ntmps103 ?_
 refine dIs mixed ?_
 refine cRs (YN.rd (Nv a0 a1 (sg u0))) ?_
 refine cRs (qU (yV a0 a1) a2 (by exact NC (by decide))) ?_
 exact rt [.tmp 6] f
theorem P8 (a0 : List ZS) (u0 : Sm 2330624 a0) : Sd 105 [rL 3 ZS.row a0] [rL 6 Ys.row (xI a0)] := by
 have f := me (xI.eq_1 a0)
 refine soD func105 ntmps105 ?_
 refine lp2 (K5.eq_2 a0) (fun J U => Yg 26 [(3, .one (.sref 3 0 0 J.length), [.arr false 6 (J.map Ys.row)]), eL 8 3 a0 ZS.row, eI 9 (a0.length : Int), eI 10 (U : Int)]) (fun n1 J U => a0.length < n1 + U /\ U <= a0.length /\ J.length <= 0 + 1 * U) (a0.length + 1) ([] : List Ys) 0 (fun p1 J U e1 j1 => ?_) (h0 := wkS [((3, 0), none)] [])
 refine cFf e1 ?_ ?_ <;> intro k2 h1 e1
 ·have i1 := ix h1
  have m2 := ml a0 (k2 8 _ rfl)
  have c1 := sl 2330624 a0 u0
  have w1 := wr U
  simp [i1, ZC]
  refine rpS ?_
  refine cRs (kT (nth a0 U)) ?_
  refine cF e1 ?_ ?_ <;> intro k3 h2 e1
  ·exact nx2 e1 (hw := Y5 [((3, 0), some (23, 0))] [] rfl (by simp [w1]))
  exact ny2 w1 e1
 have c2 := sl 2330624 a0 u0
 have f := ms f e1
 exact rtD [.tmp 2] f
theorem Ok (a0 : Ys) : Sa 231 [a0.row] [rB (UG a0)] := by
 have f := me (UG.eq_1 a0)
 refine so func231 ntmps231 ?_
 refine cRs (Zw a0.Org 1 99) ?_
 refine cGs (fun gg => (Zw a0.Rk 0 99)) ?_
 refine cGs (fun gg => (Zw a0.Key 1 99)) ?_
 refine cGs (fun gg => (Qm (Za.mk a0.XU a0.To))) ?_
 exact rt [.tmp 2] f
theorem RY (a0 : Ys) : Sd 232 [a0.row] [rL 1 iR (Jt a0)] := by
 have f := me (Jt.eq_1 a0)
 refine soD func232 ntmps232 ?_
 exact rtD [.tmp 2] f
theorem RL (a0 : List Yj) (a1 : Ys) (u0 : Sm 2314240 a0) : Sa 210 [rL 5 Yj.row a0, a1.row] [rB (jf a0 a1)] := by
 have f := me (jf.eq_1 a0 a1)
 refine so func210 ntmps210 ?_
 refine dIs mixed ?_
 refine cRs (Ok a1) ?_
 refine cGs (fun gg => (SS a0 a1.Key)) ?_
 refine cGs (fun gg => YN.rd (RY a1)) ?_
 refine cGs (fun gg => (QJ a0 a1.Key (Jt a1) a1.Mark (sg u0) (by simp (maxDischargeDepth := 12) [R5, ZU (m := 2318336) (by decide) u0]; try omega))) ?_
 exact rt [.tmp 4] f
theorem S7 (a0 : List Yj) (a1 : List Ys) (a2 : Int) (a3 : Int) (u0 : Sm 2310144 a0) (u1 : Sm 2310144 a1) : Sd 157 [rL 5 Yj.row a0, rL 6 Ys.row a1, rI a2, rI a3] [rL 2 Za.row (zK a0 a1 a2 a3)] := by
 have f := me (zK.eq_1 a0 a1 a2 a3)
 refine soD func157 ntmps157 ?_
 refine lp2 (J2.eq_2 a0 a1 a2 a3) (fun J U => Yg 44 [eL 0 5 a0 Yj.row, eI 2 a2, eI 3 a3, (9, .one (.sref 9 0 0 J.length), [.arr false 2 (J.map Za.row)]), eL 12 6 a1 Ys.row, eI 13 (a1.length : Int), eI 14 (U : Int)]) (fun n1 J U => a1.length < n1 + U /\ U <= a1.length /\ J.length <= 0 + 1 * U) (a1.length + 1) ([] : List Za) 0 (fun p1 J U e1 j1 => ?_) (h0 := wkS [((9, 0), none)] [])
 refine cFf e1 ?_ ?_ <;> intro k2 h1 e1
 ·have i1 := ix h1
  have m2 := ml a1 (k2 12 _ rfl)
  have c1 := sl 2310144 a1 (an u0 u1)
  have w1 := wr U
  simp [i1, ZC]
  refine rpS ?_
  refine cGs (fun gg => (RL a0 (nth a1 U) (sg u0))) ?_
  refine cF e1 ?_ ?_ <;> intro k3 h2 e1
  ·exact nx2 e1 (hw := Y5 [((9, 0), some (40, 0))] [] rfl (by simp [w1]))
  exact ny2 w1 e1
 have c2 := sl 2310144 a1 (an u0 u1)
 have f := ms f e1
 refine cDs [false] (KQ J (by first | (simp (maxDischargeDepth := 12) [XA]; omega) | (simp (maxDischargeDepth := 12) [ZU (m := 2330624) (by decide) u0, ZU (m := 2330624) (by decide) u1]; done))) ?_
 exact rtD [.tmp 8] f
theorem OP (a0 : List Yj) (a1 : List Ys) (a2 : Int) (a3 : Int) (a4 : Za) (u0 : Sm 2306048 a0) (u1 : Sm 2306048 a1) : Sa 104 [rL 5 Yj.row a0, rL 6 Ys.row a1, rI a2, rI a3, a4.row] [rB (W7 a0 a1 a2 a3 a4)] := by
 have f := me (W7.eq_1 a0 a1 a2 a3 a4)
 refine so func104 ntmps104 ?_
 refine dIs mixed ?_
 refine cGs (fun gg => (Qm a4)) ?_
 refine cGs (fun gg => YN.rd (S7 a0 a1 a2 a3 (by first | exact sg u0 | exact sg u1) (by first | exact sg u0 | exact sg u1))) ?_
 refine cGs (fun gg => (qU (zK a0 a1 a2 a3) a4 (by exact S3 (by have z := Yb u1; omega)))) ?_
 refine ⟨by by_cases h : a2 = 0 <;> simp [h], ?_⟩
 exact rt [.tmp 10] f
theorem Sx (a0 : Ze) (a1 : Zs) (a2 : List (List Int)) (a3 : Int) (a4 : Zy) (u0 : Sm 2281472 a0) (u1 : Sm 2281472 a1) (u2 : Sm 2281472 a2) (u3 : DV a1 <= 2097152) : Sa 70 [a0.row, a1.row, rL 1 (slR 1 iR) a2, rI a3, a4.row] [(ym a0 a1 a2 a3 a4).row] := by
 have f := me (ym.eq_1 a0 a1 a2 a3 a4)
 refine so func70 ntmps70 ?_
 refine cRs (RD a0) ?_
 refine cF f ?_ ?_ <;> intro k1 h1 f
 ·refine cRs (jN 1) ?_
  exact rt [.cell 10 67] f
 refine cRs (Wh a4) ?_
 refine cF f ?_ ?_ <;> intro k2 h2 f
 ·refine cRs (VY 1) ?_
  exact rt [.cell 10 67] f
 refine cF f ?_ ?_ <;> intro k3 h3 f
 ·refine cRs (jN 2) ?_
  exact rt [.cell 10 67] f
 refine cF f ?_ ?_ <;> intro k4 h4 f
 ·refine cRs (VY 2) ?_
  exact rt [.cell 10 67] f
 refine cRs (zW a0.Z6 a4.Key) ?_
 refine cF f ?_ ?_ <;> intro k5 h5 f
 ·refine cRs (jN 3) ?_
  exact rt [.cell 10 67] f
 refine cRs (TL a0.Z6 a4 (by (first | exact sg (Yd (n := 2281472) (by decide)) | exact sg u0 | exact sg u1 | exact sg u2 | exact u3 | exact sg (Ze.Yo u0) | exact sg (Ze.XD u0) | exact sg (ZR (K := 2281472) u1 u3 (by decide)) | exact sg (YP (ZR (K := 2281472) u1 u3 (by decide))) | exact sg (YT (ZR (K := 2281472) u1 u3 (by decide)))))) ?_
 refine cF f ?_ ?_ <;> intro k6 h6 f
 ·refine cRs (VY 4) ?_
  exact rt [.cell 10 67] f
 refine dIs mixed ?_
 refine cRs (YN.rd (UJ a4)) ?_
 refine cRs (jX a0 a1 a2 (Y8 a4) (by (first | exact sg (Yd (n := 2281472) (by decide)) | exact sg u0 | exact sg u1 | exact sg u2 | exact u3 | exact sg (Ze.Yo u0) | exact sg (Ze.XD u0) | exact sg (ZR (K := 2281472) u1 u3 (by decide)) | exact sg (YP (ZR (K := 2281472) u1 u3 (by decide))) | exact sg (YT (ZR (K := 2281472) u1 u3 (by decide))))) (by (first | exact sg (Yd (n := 2281472) (by decide)) | exact sg u0 | exact sg u1 | exact sg u2 | exact u3 | exact sg (Ze.Yo u0) | exact sg (Ze.XD u0) | exact sg (ZR (K := 2281472) u1 u3 (by decide)) | exact sg (YP (ZR (K := 2281472) u1 u3 (by decide))) | exact sg (YT (ZR (K := 2281472) u1 u3 (by decide))))) (by (first | exact sg (Yd (n := 2281472) (by decide)) | exact sg u0 | exact sg u1 | exact sg u2 | exact u3 | exact sg (Ze.Yo u0) | exact sg (Ze.XD u0) | exact sg (ZR (K := 2281472) u1 u3 (by decide)) | exact sg (YP (ZR (K := 2281472) u1 u3 (by decide))) | exact sg (YT (ZR (K := 2281472) u1 u3 (by decide))))) (by (first | exact sg (Yd (n := 2281472) (by decide)) | exact sg u0 | exact sg u1 | exact sg u2 | exact u3 | exact sg (Ze.Yo u0) | exact sg (Ze.XD u0) | exact sg (ZR (K := 2281472) u1 u3 (by decide)) | exact sg (YP (ZR (K := 2281472) u1 u3 (by decide))) | exact sg (YT (ZR (K := 2281472) u1 u3 (by decide)))))) ?_
 refine cRs (Vy a0 a4.Key) ?_
 refine cGs (fun gg => (qo a0.Methods a4.Method)) ?_
 refine cF f ?_ ?_ <;> intro k8 h7 f
 ·refine cRs (jN 5) ?_
  exact rt [.cell 10 67] f
 refine cRs (Sn a0 a1 a2 (by (first | exact sg (Yd (n := 2281472) (by decide)) | exact sg u0 | exact sg u1 | exact sg u2 | exact u3 | exact sg (Ze.Yo u0) | exact sg (Ze.XD u0) | exact sg (ZR (K := 2281472) u1 u3 (by decide)) | exact sg (YP (ZR (K := 2281472) u1 u3 (by decide))) | exact sg (YT (ZR (K := 2281472) u1 u3 (by decide))))) (by (first | exact sg (Yd (n := 2281472) (by decide)) | exact sg u0 | exact sg u1 | exact sg u2 | exact u3 | exact sg (Ze.Yo u0) | exact sg (Ze.XD u0) | exact sg (ZR (K := 2281472) u1 u3 (by decide)) | exact sg (YP (ZR (K := 2281472) u1 u3 (by decide))) | exact sg (YT (ZR (K := 2281472) u1 u3 (by decide))))) (by (first | exact sg (Yd (n := 2281472) (by decide)) | exact sg u0 | exact sg u1 | exact sg u2 | exact u3 | exact sg (Ze.Yo u0) | exact sg (Ze.XD u0) | exact sg (ZR (K := 2281472) u1 u3 (by decide)) | exact sg (YP (ZR (K := 2281472) u1 u3 (by decide))) | exact sg (YT (ZR (K := 2281472) u1 u3 (by decide))))) (by (first | exact sg (Yd (n := 2281472) (by decide)) | exact sg u0 | exact sg u1 | exact sg u2 | exact u3 | exact sg (Ze.Yo u0) | exact sg (Ze.XD u0) | exact sg (ZR (K := 2281472) u1 u3 (by decide)) | exact sg (YP (ZR (K := 2281472) u1 u3 (by decide))) | exact sg (YT (ZR (K := 2281472) u1 u3 (by decide)))))) ?_
 refine cRs (L8 a0 (Zx a0 a1 a2) a4 (by (first | exact sg (Yd (n := 2281472) (by decide)) | exact sg u0 | exact sg u1 | exact sg u2 | exact u3 | exact sg (Ze.Yo u0) | exact sg (Ze.XD u0) | exact sg (ZR (K := 2281472) u1 u3 (by decide)) | exact sg (YP (ZR (K := 2281472) u1 u3 (by decide))) | exact sg (YT (ZR (K := 2281472) u1 u3 (by decide))))) (by (first | exact sg (Yd (n := 2281472) (by decide)) | exact sg u0 | exact sg u1 | exact sg u2 | exact u3 | exact sg (Ze.Yo u0) | exact sg (Ze.XD u0) | exact sg (ZR (K := 2281472) u1 u3 (by decide)) | exact sg (YP (ZR (K := 2281472) u1 u3 (by decide))) | exact sg (YT (ZR (K := 2281472) u1 u3 (by decide)))))) ?_
 refine cF f ?_ ?_ <;> intro k9 h8 f
 ·refine cRs (jN 6) ?_
  exact rt [.cell 10 67] f
 refine cRs (Oh a0 a1 (Zx a0 a1 a2) a4 (by (first | exact sg (Yd (n := 2281472) (by decide)) | exact sg u0 | exact sg u1 | exact sg u2 | exact u3 | exact sg (Ze.Yo u0) | exact sg (Ze.XD u0) | exact sg (ZR (K := 2281472) u1 u3 (by decide)) | exact sg (YP (ZR (K := 2281472) u1 u3 (by decide))) | exact sg (YT (ZR (K := 2281472) u1 u3 (by decide))))) (by (first | exact sg (Yd (n := 2281472) (by decide)) | exact sg u0 | exact sg u1 | exact sg u2 | exact u3 | exact sg (Ze.Yo u0) | exact sg (Ze.XD u0) | exact sg (ZR (K := 2281472) u1 u3 (by decide)) | exact sg (YP (ZR (K := 2281472) u1 u3 (by decide))) | exact sg (YT (ZR (K := 2281472) u1 u3 (by decide))))) (by (first | exact sg (Yd (n := 2281472) (by decide)) | exact sg u0 | exact sg u1 | exact sg u2 | exact u3 | exact sg (Ze.Yo u0) | exact sg (Ze.XD u0) | exact sg (ZR (K := 2281472) u1 u3 (by decide)) | exact sg (YP (ZR (K := 2281472) u1 u3 (by decide))) | exact sg (YT (ZR (K := 2281472) u1 u3 (by decide)))))) ?_
 refine cF f ?_ ?_ <;> intro pr h9 f
 ·refine cRs (jN 7) ?_
  exact rt [.cell 10 67] f
 refine cRs (YN.rd (Ri (Zx a0 a1 a2) (QU a0 (Zx a0 a1 a2) a4).1 (by (first | exact sg (Yd (n := 2281472) (by decide)) | exact sg u0 | exact sg u1 | exact sg u2 | exact u3 | exact sg (Ze.Yo u0) | exact sg (Ze.XD u0) | exact sg (ZR (K := 2281472) u1 u3 (by decide)) | exact sg (YP (ZR (K := 2281472) u1 u3 (by decide))) | exact sg (YT (ZR (K := 2281472) u1 u3 (by decide))))))) ?_
 refine cRs (Ms (QU a0 (Zx a0 a1 a2) a4).1 (Jx (Zx a0 a1 a2) (QU a0 (Zx a0 a1 a2) a4).1) (Za.mk (X7 a0 a1 (Zx a0 a1 a2) a4) (Ym a0 a1 a2 (Y8 a4))) (by (first | exact sg (Yd (n := 2281472) (by decide)) | exact sg u0 | exact sg u1 | exact sg u2 | exact u3 | exact sg (Ze.Yo u0) | exact sg (Ze.XD u0) | exact sg (ZR (K := 2281472) u1 u3 (by decide)) | exact sg (YP (ZR (K := 2281472) u1 u3 (by decide))) | exact sg (YT (ZR (K := 2281472) u1 u3 (by decide)))))) ?_
 refine cF f ?_ ?_ <;> intro pK tc f
 ·exact rt [.cell 10 67] f
 refine cRs (P7 (QU a0 (Zx a0 a1 a2) a4).1 (Jx (Zx a0 a1 a2) (QU a0 (Zx a0 a1 a2) a4).1) (Za.mk (X7 a0 a1 (Zx a0 a1 a2) a4) (Ym a0 a1 a2 (Y8 a4))) (by (first | exact sg (Yd (n := 2281472) (by decide)) | exact sg u0 | exact sg u1 | exact sg u2 | exact u3 | exact sg (Ze.Yo u0) | exact sg (Ze.XD u0) | exact sg (ZR (K := 2281472) u1 u3 (by decide)) | exact sg (YP (ZR (K := 2281472) u1 u3 (by decide))) | exact sg (YT (ZR (K := 2281472) u1 u3 (by decide)))))) ?_
 refine cF f ?_ ?_ <;> intro gY nA f
 ·exact rt [.cell 10 67] f
 refine dIs mixed ?_
 refine cRs (YN.rd (P8 (Zx a0 a1 a2) (by (first | exact sg (Yd (n := 2281472) (by decide)) | exact sg u0 | exact sg u1 | exact sg u2 | exact u3 | exact sg (Ze.Yo u0) | exact sg (Ze.XD u0) | exact sg (ZR (K := 2281472) u1 u3 (by decide)) | exact sg (YP (ZR (K := 2281472) u1 u3 (by decide))) | exact sg (YT (ZR (K := 2281472) u1 u3 (by decide))))))) ?_
 refine cRs (OP a0.Z6 (xI (Zx a0 a1 a2)) a4.Org (QU a0 (Zx a0 a1 a2) a4).1.yv (Za.mk (X7 a0 a1 (Zx a0 a1 a2) a4) (Ym a0 a1 a2 (Y8 a4))) (by (first | exact sg (Yd (n := 2281472) (by decide)) | exact sg u0 | exact sg u1 | exact sg u2 | exact u3 | exact sg (Ze.Yo u0) | exact sg (Ze.XD u0) | exact sg (ZR (K := 2281472) u1 u3 (by decide)) | exact sg (YP (ZR (K := 2281472) u1 u3 (by decide))) | exact sg (YT (ZR (K := 2281472) u1 u3 (by decide))))) (by (first | exact sg (Yd (n := 2281472) (by decide)) | exact sg u0 | exact sg u1 | exact sg u2 | exact u3 | exact sg (Ze.Yo u0) | exact sg (Ze.XD u0) | exact sg (ZR (K := 2281472) u1 u3 (by decide)) | exact sg (YP (ZR (K := 2281472) u1 u3 (by decide))) | exact sg (YT (ZR (K := 2281472) u1 u3 (by decide)))))) ?_
 refine cF f ?_ ?_ <;> intro lZ ni f
 ·exact rt [.cell 10 67] f
 exact rt [.cell 10 67] f
theorem GK (a0 : Ze) (a1 : Zs) (a2 : ZV) (a3 : Zy) (u0 : Sm 2277376 a0) (u1 : Sm 2277376 a1) (u2 : Sm 2277376 a2) (u3 : DV a1 <= 2097152) : Sa 52 [a0.row, a1.row, a2.row, a3.row] [(OZ a0 a1 a2 a3).row] := by
 have f := me (OZ.eq_1 a0 a1 a2 a3)
 refine so func52 ntmps52 ?_
 refine dIs mixed ?_
 refine cRs (YN.rd (Ts a1 a2 (by (first | exact sg u0 | exact sg u1 | exact sg u2 | exact u3 | exact sg (X1 (n := 2277376) u1))) (by (first | exact sg u0 | exact sg u1 | exact sg u2 | exact u3 | exact sg (X1 (n := 2277376) u1))))) ?_
 refine cRs (Ux a3.Method a2 (by (first | exact sg u0 | exact sg u1 | exact sg u2 | exact u3 | exact sg (X1 (n := 2277376) u1)))) ?_
 refine cRs (Sx a0 a1 (Ja a1 a2) (yf a3.Method a2) a3 (by (first | exact sg u0 | exact sg u1 | exact sg u2 | exact u3 | exact sg (X1 (n := 2277376) u1))) (by (first | exact sg u0 | exact sg u1 | exact sg u2 | exact u3 | exact sg (X1 (n := 2277376) u1))) (by (first | exact sg u0 | exact sg u1 | exact sg u2 | exact u3 | exact sg (X1 (n := 2277376) u1))) (by (first | exact sg u0 | exact sg u1 | exact sg u2 | exact u3 | exact sg (X1 (n := 2277376) u1)))) ?_
 exact rt [.cell 8 67] f
theorem NW (a0 : Ze) (a1 : Zk) (u0 : Sm 2273280 a0) (u1 : Sm 2097152 a1) : Sa 36 [a0.row, a1.row] [(zS a0 a1).row] := by
 have f := me (zS.eq_1 a0 a1)
 refine so func36 ntmps36 ?_
 refine dIs mixed ?_
 refine cRs (YN.rd (Sr a1 (by (first | exact sg u0 | exact sg (Zk.kp u1) | exact sg (n := 2097152) (show Sm 2097152 (Zs.mk [a1.ZL] []) from ⟨⟨Nat.le_of_ble_eq_true rfl, fun x hx => by rcases List.mem_cons.1 hx with rfl | hx; exact Zk.X9 u1; cases hx⟩, ⟨Nat.zero_le _, fun x hx => by cases hx⟩⟩) | exact (show a1.ZL.ZH.length + 0 <= 2097152 from Yb (ZZ.XZ (Zk.X9 u1))) | exact sg u1)))) ?_
 refine cRs (GK a0 (J9 a1) a1.Doc a1.Sig (by (first | exact sg u0 | exact sg (Zk.kp u1) | exact sg (n := 2097152) (show Sm 2097152 (Zs.mk [a1.ZL] []) from ⟨⟨Nat.le_of_ble_eq_true rfl, fun x hx => by rcases List.mem_cons.1 hx with rfl | hx; exact Zk.X9 u1; cases hx⟩, ⟨Nat.zero_le _, fun x hx => by cases hx⟩⟩) | exact (show a1.ZL.ZH.length + 0 <= 2097152 from Yb (ZZ.XZ (Zk.X9 u1))) | exact sg u1)) (by (first | exact sg u0 | exact sg (Zk.kp u1) | exact sg (n := 2097152) (show Sm 2097152 (Zs.mk [a1.ZL] []) from ⟨⟨Nat.le_of_ble_eq_true rfl, fun x hx => by rcases List.mem_cons.1 hx with rfl | hx; exact Zk.X9 u1; cases hx⟩, ⟨Nat.zero_le _, fun x hx => by cases hx⟩⟩) | exact (show a1.ZL.ZH.length + 0 <= 2097152 from Yb (ZZ.XZ (Zk.X9 u1))) | exact sg u1)) (by (first | exact sg u0 | exact sg (Zk.kp u1) | exact sg (n := 2097152) (show Sm 2097152 (Zs.mk [a1.ZL] []) from ⟨⟨Nat.le_of_ble_eq_true rfl, fun x hx => by rcases List.mem_cons.1 hx with rfl | hx; exact Zk.X9 u1; cases hx⟩, ⟨Nat.zero_le _, fun x hx => by cases hx⟩⟩) | exact (show a1.ZL.ZH.length + 0 <= 2097152 from Yb (ZZ.XZ (Zk.X9 u1))) | exact sg u1)) (by (first | exact sg u0 | exact sg (Zk.kp u1) | exact sg (n := 2097152) (show Sm 2097152 (Zs.mk [a1.ZL] []) from ⟨⟨Nat.le_of_ble_eq_true rfl, fun x hx => by rcases List.mem_cons.1 hx with rfl | hx; exact Zk.X9 u1; cases hx⟩, ⟨Nat.zero_le _, fun x hx => by cases hx⟩⟩) | exact (show a1.ZL.ZH.length + 0 <= 2097152 from Yb (ZZ.XZ (Zk.X9 u1))) | exact sg u1))) ?_
 exact rt [.cell 4 67] f
theorem RS {a b : Prop} (h : b) (k : a := by (intros; first | omega | with_unfolding_all (first | first | omega | (have fi := W9 a0 a1 (by first | omega | (simp at q1; omega)); omega)) | ((try simp only [XT, show ∀ x, IntKind.i64.wrap x = W x from fun _ => rfl] at *); omega))) : a /\ b := ⟨k, h⟩
theorem Wl (a0 : ZN) (a1 : Int) (u0 : Sm 1048576 a0) : Sa 21 [a0.row, rI a1] [(XO a0 a1).row] := by
 have f := me (XO.eq_1 a0 a1)
 refine so func21 ntmps21 ?_
 refine cRs (Hg a0 a1) ?_
 refine cFo f ?_ ?_ <;> intro k1 h1 f
 ·have q1 := h1; try simp at q1
  simp
  exact rt [.cell 4 67] f
 have q1 := h1; try simp at q1
 simp
 refine dIo mixed ?_
 have i1 : (QI a0 a1).1.toNat < a0.ZB.length := by first | omega | (have fi := W9 a0 a1 (by first | omega | (simp at q1; omega)); omega)
 have i2 : (QI a0 a1).2.toNat < (nth a0.ZB (QI a0 a1).1.toNat).ZE.length := by first | omega | (have fi := W9 a0 a1 (by first | omega | (simp at q1; omega)); omega)
 simp [i1, ZC, i2]
 repeat with_reducible refine RS ?_
 refine cRs (NW a0.Frame (nth (nth a0.ZB (QI a0 a1).1.toNat).ZE (QI a0 a1).2.toNat) (sg (ZN.Xj u0)) (sg (Zu (ZJ.Y4 (Zu (ZN.YQ u0)))))) ?_
 exact rt [.cell 4 67] f
theorem V0 {a b : Prop} (h : b) (k : a := by (intros; first | omega | with_unfolding_all (first | (first | omega | (have z := Te a0; omega))) | ((try simp only [XT, show ∀ x, IntKind.i64.wrap x = W x from fun _ => rfl] at *); omega))) : a /\ b := ⟨k, h⟩
theorem Vq (a0 : ZN) (u0 : Sm 1048576 a0) (u1 : itn a0.ZB <= 1048576) : Sd 10 [a0.row] [rL 1 iR (Y2 a0)] := by
 have f := me (Y2.eq_1 a0)
 refine soD func10 ntmps10 ?_
 refine cRs (SP a0 (sg u0) (by first | omega | (simp; done) | (simp; omega))) ?_
 refine lp2 (JN.eq_2 a0) (fun J U => Yg 26 [eX 1 (a0.row.map .d), (3, .one (.sref 3 0 0 J.length), [.arr false 1 (J.map iR)]), eL 7 16 (Z5 a0) Zk.row, eI 8 ((Z5 a0).length : Int), eI 9 (U : Int)]) (fun n1 J U => (Z5 a0).length < n1 + U /\ U <= (Z5 a0).length /\ J.length <= U) ((Z5 a0).length + 1) ([] : List Int) 0 (fun p1 J U e1 j1 => ?_) (h0 := wkS [((3, 0), none)] [])
 try dsimp only at j1
 refine cFf e1 ?_ ?_ <;> intro k2 h1 e1
 ·have i1 := ix h1
  have m2 := ml (Z5 a0) (k2 7 _ rfl)
  have w1 := wr U
  simp [i1, ZC]
  repeat with_reducible refine V0 ?_
  refine cRs (Wl a0 (nth (Z5 a0) U).Id u0) ?_
  refine cFf e1 ?_ ?_ <;> intro k3 h2 e1
  ·simp
   repeat with_reducible refine V0 ?_
   exact nx2 e1 (hw := Y5 [((3, 0), some (23, 0))] [] rfl (by simp [w1]))
  exact ny2 w1 e1
 have f := ms f e1
 exact rtD [.tmp 2] f
theorem Wj {a b : Prop} (h : b) (k : a := by (intros; first | omega | with_unfolding_all (first | (first | omega | (have z := R0 a0; omega))) | ((try simp only [XT, show ∀ x, IntKind.i64.wrap x = W x from fun _ => rfl] at *); omega))) : a /\ b := ⟨k, h⟩
theorem Wi (a0 : ZN) (u0 : Sm 1048576 a0) (u1 : itn a0.ZB <= 1048576) : Sd 8 [a0.row] [rL 1 iR (Kr a0)] := by
 have f := me (Kr.eq_1 a0)
 refine soD func8 ntmps8 ?_
 refine cRs (YN.rd (Vq a0 u0 (by first | omega | (simp; done) | (simp; omega)))) ?_
 refine lp2 (yH.eq_2 a0) (fun J U => Yg 23 [eX 1 (a0.row.map .d), (3, .one (.sref 3 0 0 J.length), [.arr false 1 (J.map iR)]), eL 7 1 (Y2 a0) iR, eI 8 ((Y2 a0).length : Int), eI 9 (U : Int)]) (fun n1 J U => (Y2 a0).length < n1 + U /\ U <= (Y2 a0).length /\ J.length <= 0 + 1 * U) ((Y2 a0).length + 1) ([] : List Int) 0 (fun p1 J U e1 j1 => ?_) (h0 := wkS [((3, 0), none)] [])
 try dsimp only at j1
 refine cFf e1 ?_ ?_ <;> intro k2 h1 e1
 ·have i1 := ix h1
  have m2 := ml (Y2 a0) (k2 7 _ rfl)
  have w1 := wr U
  simp [i1, ZC]
  repeat with_reducible refine Wj ?_
  refine cRs (PQ a0.XJ (nth (Y2 a0) U)) ?_
  refine cFf e1 ?_ ?_ <;> intro k3 h2 e1
  ·simp
   repeat with_reducible refine Wj ?_
   exact nx2 e1 (hw := Y5 [((3, 0), some (20, 0))] [] rfl (by simp [w1]))
  exact ny2 w1 e1
 have f := ms f e1
 exact rtD [.tmp 2] f
theorem Ik (a0 : ZN) (u0 : Sm 1048576 a0) (u1 : itn a0.ZB <= 1048576) : Sa 6 [a0.row] [rS (jH a0)] := by
 have f := me (jH.eq_1 a0)
 refine so func6 ntmps6 ?_
 refine cRs (RK a0 (sg u0)) ?_
 refine cF f ?_ ?_ <;> intro k1 h1 f
 ·exact rt [.tmp 2] f
 refine cRs (YN.rd (Wi a0 u0 (by first | omega | (simp; done) | (simp; omega)))) ?_
 refine cF f ?_ ?_ <;> intro k2 h2 f
 ·exact rt [.tmp 2] f
 exact rt [.tmp 2] f
theorem KZ (a0 : ZN) (a1 : Int) (u0 : Sm 1048576 a0) (u1 : itn a0.ZB <= 1048576) : Sa 9 [a0.row, rI a1] [rI (Qr a0 a1)] := by
 have f := me (Qr.eq_1 a0 a1)
 refine so func9 ntmps9 ?_
 refine cRs (SP a0 (sg u0) (by first | omega | (simp; done) | (simp; omega))) ?_
 refine lp2 (Qo.eq_2 a0 a1) (fun J U => Yg 26 [eI 1 a1, eX 2 (a0.row.map .d), eI 5 J, eL 9 16 (Z5 a0) Zk.row, eI 10 ((Z5 a0).length : Int), eI 11 (U : Int)]) (fun n1 J U => (Z5 a0).length < n1 + U /\ U <= (Z5 a0).length) ((Z5 a0).length + 1) 0 0 (fun p1 J U e1 j1 => ?_)
 refine cFf e1 ?_ ?_ <;> intro k2 h1 e1
 ·have i1 := ix h1
  have m2 := ml (Z5 a0) (k2 9 _ rfl)
  have w1 := wr U
  simp [i1, ZC]
  refine rpS ?_
  refine cRs (Wl a0 (nth (Z5 a0) U).Id u0) ?_
  refine cF e1 ?_ ?_ <;> intro k3 h2 e1
  ·exact ny2 w1 e1
  exact ny2 w1 e1
 have f := ms f e1
 exact rt [.tmp 4] f
end Go.Proofs.YtnldgbpopofnoaaGreat
