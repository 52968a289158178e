/- Contracts of the functions Hz the abstract machine, part I1. No condition. -/
import Derived.Test.YtfhmpplolpejnaaGreatL
import Derived.Test.YtfhmpplolpejnaaGreatTy
namespace Go.Proofs.YtfhmpplolpejnaaGreat
open Go.Vm Go.Mo
set_option maxHeartbeats 1000000
set_option maxRecDepth 100000
set_option linter.unusedSimpArgs false
set_option linter.unusedVariables false
theorem Zn (a0 : Int) (a1 : Int) (a2 : Int) : Sa 128 [rI a0, rI a1, rI a2] [rB (ZS a0 a1 a2)] := by
 have f := me (ZS.eq_1 a0 a1 a2)
 refine so Tryz.func128 Tryz.ntmps128 ?_
 exact rt [.tmp 6] f
theorem KM (a0 : Int) : Sa 163 [rI a0] [rB (J4 a0)] := by
 have f := me (J4.eq_1 a0)
 refine so Tryz.func163 Tryz.ntmps163 ?_
 refine cRs (Zn a0 0 10000) ?_
 exact rt [.tmp 2] f
theorem LA (a0 : Int) : Sa 288 [rI a0] [rB (jZ a0)] := by
 have f := me (jZ.eq_1 a0)
 refine so Tryz.func288 Tryz.ntmps288 ?_
 refine cRs (Zn a0 1 2147483646) ?_
 exact rt [.tmp 2] f
theorem AO (a0 : Zy) : Sa 228 [a0.row] [rB (NM a0)] := by
 have f := me (NM.eq_1 a0)
 refine so Tryz.func228 Tryz.ntmps228 ?_
 refine cRs (Zn a0.Number 1 99) ?_
 refine cGs (fun gg => (Zn a0.JZ 0 99)) ?_
 refine cGs (fun gg => (Zn a0.Method 0 99)) ?_
 refine cGs (fun gg => (KM a0.Nq)) ?_
 refine cGs (fun gg => (LA a0.jz)) ?_
 exact rt [.tmp 2] f
theorem D5 (a0 : List Zy) : Sa 160 [rL 5 Zy.row a0] [rB (Up a0)] := by
 have f := me (Up.eq_1 a0)
 refine so Tryz.func160 Tryz.ntmps160 ?_
 refine lp1 (km.eq_2 a0) (fun v1_0 => Z9 34 [eL 0 5 a0 Zy.row, eL 5 5 a0 Zy.row, eI 6 (↑a0.length : Int), eI 7 (↑v1_0 : Int)]) (fun n1 v1_0 => a0.length < n1 + v1_0 ∧ v1_0 ≤ a0.length) (a0.length + 1) 0 (fun p1 v1_0 e1 j1 => ?_)
 refine cFf e1 ?_ ?_ <;> intro k2 h1 e1
 ·have i1 := ix h1
  have m2 := ml a0 (k2 0 _ rfl)
  have w1 := wr v1_0
  simp [i1, ZA]
  repeat with_reducible refine sd ?_
  refine dIs mixed ?_
  refine cRs (AO (nth a0 v1_0)) ?_
  refine gIf ?_ ?_ <;> intro G
  ·have i2 := ik (v1_0 - 1) a0
   have w2 : IntKind.i64.wrap ((v1_0 : Int) - 1) = (v1_0 : Int) - 1 := YA (by omega) (by omega)
   simp [i2, ZA, w2, Y7, G]
   repeat with_reducible refine sdg ?_
   refine cK e1 ?_ ?_ <;> intro k4 h2 e1
   ·try (simp [G] at h2; done)
    all_goals
     have f := ms f e1
     exact rtg [.tmp 2] f
   ·try (simp [G] at h2; done)
    all_goals
     exact ny1 (an w1 (an w2 G)) e1
  ·refine cK e1 ?_ ?_ <;> intro k5 h3 e1
   ·try (simp [G] at h3; done)
    all_goals
     have f := ms f e1
     exact rtg [.tmp 2] f
   ·try (simp [G] at h3; done)
    all_goals
     exact ny1 (an w1 G) e1
 have f := ms f e1
 exact rt [.tmp 2] f
theorem PL (a0 : List ZF) : Sa 161 [rL 3 ZF.row a0] [rB (zJ a0)] := by
 have f := me (zJ.eq_1 a0)
 refine so Tryz.func161 Tryz.ntmps161 ?_
 refine lp1 (Jt.eq_2 a0) (fun v1_0 => Z9 47 [eL 0 3 a0 ZF.row, eL 5 3 a0 ZF.row, eI 6 (↑a0.length : Int), eI 7 (↑v1_0 : Int)]) (fun n1 v1_0 => a0.length < n1 + v1_0 ∧ v1_0 ≤ a0.length) (a0.length + 1) 0 (fun p1 v1_0 e1 j1 => ?_)
 refine cFf e1 ?_ ?_ <;> intro k2 h1 e1
 ·have i1 := ix h1
  have m2 := ml a0 (k2 0 _ rfl)
  have w1 := wr v1_0
  simp [i1, ZA]
  repeat with_reducible refine sd ?_
  refine dIs mixed ?_
  refine cRs (Zn (nth a0 v1_0).Id 0 99) ?_
  refine cGs (fun gg => (Zn (nth a0 v1_0).Key 1 99)) ?_
  refine cGs (fun gg => (Zn (nth a0 v1_0).Error 0 100)) ?_
  refine gIf ?_ ?_ <;> intro G
  ·have i2 := ik (v1_0 - 1) a0
   have w2 : IntKind.i64.wrap ((v1_0 : Int) - 1) = (v1_0 : Int) - 1 := YA (by omega) (by omega)
   simp [i2, ZA, w2, Y7, G]
   repeat with_reducible refine sdg ?_
   refine cKo e1 ?_ ?_ <;> intro k4 h2 e1
   ·try (simp [G] at h2; done)
    all_goals
     have q2 := h2; try simp [ZS] at q2
     have f := ms f e1
     simp [G]
     repeat with_reducible refine sdg ?_
     exact rtg [.tmp 2] f
   ·try (simp [G] at h2; done)
    all_goals
     have q2 := h2; try simp [ZS] at q2
     simp [G]
     repeat with_reducible refine sdg ?_
     exact ny1 (an w1 (an w2 G)) e1
  ·refine cKo e1 ?_ ?_ <;> intro k5 h3 e1
   ·try (simp [G] at h3; done)
    all_goals
     have q3 := h3; try simp [ZS] at q3
     have f := ms f e1
     simp [G]
     repeat with_reducible refine sdg ?_
     exact rtg [.tmp 2] f
   ·try (simp [G] at h3; done)
    all_goals
     have q3 := h3; try simp [ZS] at q3
     simp [G]
     repeat with_reducible refine sdg ?_
     exact ny1 (an w1 G) e1
 have f := ms f e1
 exact rt [.tmp 2] f
theorem FO (a0 : Zg) : Sa 229 [a0.row] [rB (VK a0)] := by
 have f := me (VK.eq_1 a0)
 refine so Tryz.func229 Tryz.ntmps229 ?_
 refine cRs (Zn a0.Id 0 99) ?_
 refine cGs (fun gg => (KM a0.U0)) ?_
 refine cGs (fun gg => (Zn a0.Ends 1 10001)) ?_
 refine cGs (fun gg => (Zn a0.js 1 10001)) ?_
 exact rt [.tmp 2] f
theorem M9 (a0 : List Zg) : Sa 162 [rL 4 Zg.row a0] [rB (qz a0)] := by
 have f := me (qz.eq_1 a0)
 refine so Tryz.func162 Tryz.ntmps162 ?_
 refine lp1 (yy.eq_2 a0) (fun v1_0 => Z9 34 [eL 0 4 a0 Zg.row, eL 5 4 a0 Zg.row, eI 6 (↑a0.length : Int), eI 7 (↑v1_0 : Int)]) (fun n1 v1_0 => a0.length < n1 + v1_0 ∧ v1_0 ≤ a0.length) (a0.length + 1) 0 (fun p1 v1_0 e1 j1 => ?_)
 refine cFf e1 ?_ ?_ <;> intro k2 h1 e1
 ·have i1 := ix h1
  have m2 := ml a0 (k2 0 _ rfl)
  have w1 := wr v1_0
  simp [i1, ZA]
  repeat with_reducible refine sd ?_
  refine dIs mixed ?_
  refine cRs (FO (nth a0 v1_0)) ?_
  refine gIf ?_ ?_ <;> intro G
  ·have i2 := ik (v1_0 - 1) a0
   have w2 : IntKind.i64.wrap ((v1_0 : Int) - 1) = (v1_0 : Int) - 1 := YA (by omega) (by omega)
   simp [i2, ZA, w2, Y7, G]
   repeat with_reducible refine sdg ?_
   refine cK e1 ?_ ?_ <;> intro k4 h2 e1
   ·try (simp [G] at h2; done)
    all_goals
     have f := ms f e1
     exact rtg [.tmp 2] f
   ·try (simp [G] at h2; done)
    all_goals
     exact ny1 (an w1 (an w2 G)) e1
  ·refine cK e1 ?_ ?_ <;> intro k5 h3 e1
   ·try (simp [G] at h3; done)
    all_goals
     have f := ms f e1
     exact rtg [.tmp 2] f
   ·try (simp [G] at h3; done)
    all_goals
     exact ny1 (an w1 G) e1
 have f := ms f e1
 exact rt [.tmp 2] f
theorem NC (a0 : ZH) : Sa 127 [a0.row] [rB (jk a0)] := by
 have f := me (jk.eq_1 a0)
 refine so Tryz.func127 Tryz.ntmps127 ?_
 refine cRs (D5 a0.Yb) ?_
 refine cGs (fun gg => (PL a0.ZU)) ?_
 refine cGs (fun gg => (M9 a0.Methods)) ?_
 refine cGs (fun gg => (Zn a0.QK 0 6)) ?_
 refine cGs (fun gg => (KM a0.Now)) ?_
 exact rt [.tmp 2] f
theorem RT (a0 : List Int) : Sa 129 [rL 1 iR a0] [rB (qi a0)] := by
 have f := me (qi.eq_1 a0)
 refine so Tryz.func129 Tryz.ntmps129 ?_
 refine lp1 (xf.eq_2 a0) (fun v1_0 => Z9 20 [eL 0 1 a0 iR, eI 3 (↑v1_0 : Int)]) (fun n1 v1_0 => a0.length < n1 + v1_0 ∧ 1 ≤ v1_0) (a0.length + 1) 1 (fun p1 v1_0 e1 j1 => ?_)
 refine cF e1 ?_ ?_ <;> intro k2 h1 e1
 ·have i1 := ix h1
  have m2 := ml a0 (k2 0 _ rfl)
  have w1 := wr v1_0
  refine dIo mixed ?_
  have i2 := ik (v1_0 - 1) a0
  have w2 : IntKind.i64.wrap ((v1_0 : Int) - 1) = (v1_0 : Int) - 1 := YA (by omega) (by omega)
  simp [i2, ZA, w2, Y7, i1]
  repeat with_reducible refine sd ?_
  refine cF e1 ?_ ?_ <;> intro k4 h2 e1
  ·have f := ms f e1
   exact rt [.tmp 2] f
  exact ny1 (an w1 w2) e1
 have f := ms f e1
 exact rt [.tmp 2] f
theorem PZ (a0 : Zs) : Sa 231 [a0.row] [(yv a0).row] := by
 have f := me (yv.eq_1 a0)
 refine so Tryz.func231 Tryz.ntmps231 ?_
 exact rt [.cell 2 77] f
theorem Qo (a0 : ZD) : Sa 230 [a0.row] [rB (YF a0)] := by
 have f := me (YF.eq_1 a0)
 refine so Tryz.func230 Tryz.ntmps230 ?_
 refine cRs (KM a0.YE) ?_
 refine cGs (fun gg => (KM a0.To)) ?_
 exact rt [.tmp 2] f
theorem BD (a0 : Zs) : Sa 164 [a0.row] [rB (RX a0)] := by
 have f := me (RX.eq_1 a0)
 refine so Tryz.func164 Tryz.ntmps164 ?_
 refine cRs (Zn a0.Z1 1 999) ?_
 refine cGs (fun gg => (Zn a0.Key 1 99)) ?_
 refine cGs (fun gg => (Zn a0.QP 1 99)) ?_
 refine cGs (fun gg => (Zn a0.JZ 0 99)) ?_
 refine cGs (fun gg => (PZ a0)) ?_
 refine cGs (fun gg => (Qo (yv a0))) ?_
 exact rt [.tmp 2] f
theorem Gc (a0 : Zs) : Sd 166 [a0.row] [rL 1 iR (z4 a0)] := by
 have f := me (z4.eq_1 a0)
 refine soD Tryz.func166 Tryz.ntmps166 ?_
 exact rtD [.tmp 2] f
theorem xC (a0 : List Zy) (a1 : Int) : Sa 196 [rL 5 Zy.row a0, rI a1] [rI (Yg a0 a1)] := by
 have f := me (Yg.eq_1 a0 a1)
 refine so Tryz.func196 Tryz.ntmps196 ?_
 refine lp1 (qY.eq_2 a0 a1) (fun v1_0 => Z9 20 [eI 1 a1, eL 7 5 a0 Zy.row, eI 8 (↑a0.length : Int), eI 9 (↑v1_0 : Int)]) (fun n1 v1_0 => a0.length < n1 + v1_0 ∧ v1_0 ≤ a0.length) (a0.length + 1) 0 (fun p1 v1_0 e1 j1 => ?_)
 refine cFf e1 ?_ ?_ <;> intro k2 h1 e1
 ·have i1 := ix h1
  have m2 := ml a0 (k2 7 _ rfl)
  have w1 := wr v1_0
  simp [i1, ZA]
  repeat with_reducible refine sd ?_
  refine cF e1 ?_ ?_ <;> intro k3 h2 e1
  ·have f := ms f e1
   exact rt [.tmp 4] f
  exact ny1 w1 e1
 have f := ms f e1
 exact rt [.tmp 4] f
theorem uE (a0 : Int) (a1 : Int) : Sa 328 [rI a0, rI a1] [rI (BV a0 a1)] := by
 have f := me (BV.eq_1 a0 a1)
 refine so Tryz.func328 Tryz.ntmps328 ?_
 refine cRs (Zn a1 1 1000000000000) ?_
 refine cFo f ?_ ?_ <;> intro k1 h1 f
 ·have q1 := h1; try simp [ZS] at q1
  simp
  exact rt [.tmp 4] f
 have q1 := h1; try simp [ZS] at q1
 simp
 repeat with_reducible refine sd ?_
 exact rt [.tmp 4] f
theorem EF (a0 : List Int) : Sa 279 [rL 1 iR a0] [rI (MC a0)] := by
 have f := me (MC.eq_1 a0)
 refine so Tryz.func279 Tryz.ntmps279 ?_
 refine lp2 (RB.eq_2 a0) (fun v1_0 v1_1 => Z9 21 [eI 3 v1_0, eL 6 1 a0 iR, eI 7 (↑a0.length : Int), eI 8 (↑v1_1 : Int)]) (fun n1 v1_0 v1_1 => a0.length < n1 + v1_1 ∧ v1_1 ≤ a0.length) (a0.length + 1) 11 0 (fun p1 v1_0 v1_1 e1 j1 => ?_)
 refine cFf e1 ?_ ?_ <;> intro k2 h1 e1
 ·have i1 := ix h1
  have m2 := ml a0 (k2 6 _ rfl)
  have w1 := wr v1_1
  simp [i1, ZA]
  repeat with_reducible refine sd ?_
  refine cRs (uE (nth a0 v1_1) 2147483647) ?_
  exact ny2 w1 e1
 have f := ms f e1
 exact rt [.tmp 2] f
theorem HZ (a0 : Int) (a1 : List Int) (u0 : Sm 2330624 a1) : Sa 331 [rI a0, rL 1 iR a1] [rI (kn a0 a1)] := by
 have f := me (kn.eq_1 a0 a1)
 have c1 := sl 2330624 a1 u0
 refine so Tryz.func331 Tryz.ntmps331 ?_
 refine cRs (EF ((([a0] : List Int) ++ a1) ++ ([a0] : List Int))) ?_
 exact rt [.tmp 4] f
theorem FW (a0 : Zy) (a1 : List Int) (u0 : Sm 2326528 a1) : Sa 289 [a0.row, rL 1 iR a1] [rI (VF a0 a1)] := by
 have f := me (VF.eq_1 a0 a1)
 refine so Tryz.func289 Tryz.ntmps289 ?_
 refine As [2, 3, 4, 5, 6, 0, 1, 7, 8] mixed (by kernel_rfl) (by kernel_rfl) (by kernel_rfl) ?_
 have c1 := sl 2326528 a1 u0
 simp
 repeat with_reducible refine sd ?_
 refine cRs (HZ a0.jz (([a0.Method] : List Int) ++ a1) (by simp (maxDischargeDepth := 12) [JX, XT, Za (m := 2330624) (by decide) u0]; try omega)) ?_
 exact rt [.tmp 4] f
theorem Mw (a0 : List Zy) (a1 : Int) (a2 : List Int) (u0 : Sm 2322432 a0) (u1 : Sm 2322432 a2) : Sa 232 [rL 5 Zy.row a0, rI a1, rL 1 iR a2] [rI (xx a0 a1 a2).1, rB (xx a0 a1 a2).2] := by
 have f := me (xx.eq_1 a0 a1 a2)
 refine so Tryz.func232 Tryz.ntmps232 ?_
 refine cRs (xC a0 a1) ?_
 refine cFt f ?_ ?_ <;> intro k1 h1 f
 ·exact rt [.tmp 6, .tmp 7] f
 have i1 : (Yg a0 a1).toNat < a0.length := by have := qu a0 a1; exact il
 simp [i1, ZA]
 repeat with_reducible refine sd ?_
 refine cRs (FW (nth a0 (Yg a0 a1).toNat) a2 (sg u1)) ?_
 exact rt [.tmp 6, .tmp 7] f
theorem QE (a0 : List Zy) (a1 : Int) (a2 : List Int) (a3 : Int) (u0 : Sm 2318336 a0) (u1 : Sm 2318336 a2) : Sa 165 [rL 5 Zy.row a0, rI a1, rL 1 iR a2, rI a3] [rB (Xg a0 a1 a2 a3)] := by
 have f := me (Xg.eq_1 a0 a1 a2 a3)
 refine so Tryz.func165 Tryz.ntmps165 ?_
 refine cRs (Mw a0 a1 a2 (sg u0) (sg u1)) ?_
 exact rt [.tmp 8] f
theorem NF (a0 : List Zy) (a1 : Int) : Sa 167 [rL 5 Zy.row a0, rI a1] [rI (Wq a0 a1)] := by
 have f := me (Wq.eq_1 a0 a1)
 refine so Tryz.func167 Tryz.ntmps167 ?_
 refine cRs (xC a0 a1) ?_
 refine cFf f ?_ ?_ <;> intro k1 h1 f
 ·have i1 : (Yg a0 a1).toNat < a0.length := by have := qu a0 a1; exact il
  simp [i1, ZA]
  repeat with_reducible refine sd ?_
  exact rt [.tmp 4] f
 exact rt [.tmp 4] f
theorem Rt (a0 : List Zy) (a1 : Zs) (u0 : Sm 2314240 a0) : Sa 130 [rL 5 Zy.row a0, a1.row] [rB (qX a0 a1)] := by
 have f := me (qX.eq_1 a0 a1)
 refine so Tryz.func130 Tryz.ntmps130 ?_
 refine dIs mixed ?_
 refine cRs (BD a1) ?_
 refine cGs (fun gg => YZ.rd (Gc a1)) ?_
 refine cGs (fun gg => (QE a0 a1.QP (z4 a1) a1.Mark (sg u0) (by simp (maxDischargeDepth := 12) [Fb, Za (m := 2318336) (by decide) u0]; try omega))) ?_
 refine cGs (fun gg => (NF a0 a1.Key)) ?_
 exact rt [.tmp 4] f
theorem Gk (a0 : List Zs) (a1 : Int) : Sa 131 [rL 7 Zs.row a0, rI a1] [rI (j9 a0 a1)] := by
 have f := me (j9.eq_1 a0 a1)
 refine so Tryz.func131 Tryz.ntmps131 ?_
 refine lp1 (y9.eq_2 a0 a1) (fun v1_0 => Z9 20 [eI 1 a1, eL 7 7 a0 Zs.row, eI 8 (↑a0.length : Int), eI 9 (↑v1_0 : Int)]) (fun n1 v1_0 => a0.length < n1 + v1_0 ∧ v1_0 ≤ a0.length) (a0.length + 1) 0 (fun p1 v1_0 e1 j1 => ?_)
 refine cFf e1 ?_ ?_ <;> intro k2 h1 e1
 ·have i1 := ix h1
  have m2 := ml a0 (k2 7 _ rfl)
  have w1 := wr v1_0
  simp [i1, ZA]
  repeat with_reducible refine sd ?_
  refine cF e1 ?_ ?_ <;> intro k3 h2 e1
  ·have f := ms f e1
   exact rt [.tmp 4] f
  exact ny1 w1 e1
 have f := ms f e1
 exact rt [.tmp 4] f
theorem SQ (a0 : Zd) : Sa 211 [a0.row] [rB (KD a0)] := by
 have f := me (KD.eq_1 a0)
 refine so Tryz.func211 Tryz.ntmps211 ?_
 refine cRs (Zn a0.jK 0 999) ?_
 refine cGs (fun gg => (Zn (↑a0.YY.length : Int) 1 6)) ?_
 refine cFo f ?_ ?_ <;> intro k1 h1 f
 ·have q1 := h1; try simp [ZS] at q1
  simp
  exact rt [.tmp 2] f
 have q1 := h1; try simp [ZS] at q1
 simp
 refine lp1 (zN.eq_2 a0) (fun v1_0 => Z9 46 [eX 1 (a0.row.map .d), eL 26 1 a0.YY sR, eI 27 (↑a0.YY.length : Int), eI 28 (↑v1_0 : Int)]) (fun n1 v1_0 => a0.YY.length < n1 + v1_0 ∧ v1_0 ≤ a0.YY.length) (a0.YY.length + 1) 0 (fun p1 v1_0 e1 j1 => ?_)
 refine cFf e1 ?_ ?_ <;> intro k3 h2 e1
 ·have i1 := ix h2
  have m2 := ml a0.YY (k3 26 _ rfl)
  have w1 := wr v1_0
  simp [i1, ZA]
  repeat with_reducible refine sd ?_
  refine gIf ?_ ?_ <;> intro G
  ·have i2 := ik v1_0 a0.XI
   simp [i2, ZA, G]
   repeat with_reducible refine sdg ?_
   refine cGg (fun gg => (Zn (nth a0.XI v1_0) 1 1000000000000)) ?_
   refine cKo e1 ?_ ?_ <;> intro k4 h3 e1
   ·try (simp [G] at h3; done)
    all_goals
     have q3 := h3; try simp [ZS] at q3
     have f := ms f e1
     simp [G]
     repeat with_reducible refine sdg ?_
     exact rtg [.tmp 2] f
   ·try (simp [G] at h3; done)
    all_goals
     have q3 := h3; try simp [ZS] at q3
     simp [G]
     repeat with_reducible refine sdg ?_
     exact ny1 (an w1 G) e1
  ·refine sGo ?_
   simp [G]
   repeat with_reducible refine sdg ?_
   refine cKo e1 ?_ ?_ <;> intro k5 h4 e1
   ·try (simp [G] at h4; done)
    all_goals
     have q4 := h4; try simp [ZS] at q4
     have f := ms f e1
     simp [G]
     repeat with_reducible refine sdg ?_
     exact rtg [.tmp 2] f
   ·try (simp [G] at h4; done)
    all_goals
     have q4 := h4; try simp [ZS] at q4
     simp [G]
     repeat with_reducible refine sdg ?_
     exact ny1 (an w1 G) e1
 have f := ms f e1
 exact rt [.tmp 2] f
theorem Im (a0 : List Int) (a1 : List Int) : Sa 290 [rL 1 iR a0, rL 1 iR a1] [rB (Vs a0 a1)] := by
 have f := me (Vs.eq_1 a0 a1)
 refine so Tryz.func290 Tryz.ntmps290 ?_
 refine cF f ?_ ?_ <;> intro k1 h1 f
 ·exact rt [.tmp 4] f
 refine lp1 (kK.eq_2 a0 a1) (fun v1_0 => Z9 26 [eL 0 1 a0 iR, eL 1 1 a1 iR, eI 12 (↑a0.length : Int), eI 13 (↑v1_0 : Int)]) (fun n1 v1_0 => a0.length < n1 + v1_0 ∧ v1_0 ≤ a0.length) (a0.length + 1) 0 (fun p1 v1_0 e1 j1 => ?_)
 refine cF e1 ?_ ?_ <;> intro k3 h2 e1
 ·have i1 := ix h2
  have m2 := ml a0 (k3 0 _ rfl)
  have w1 := wr v1_0
  refine dIo mixed ?_
  have i2 := ik v1_0 a1
  simp [i1, ZA, i2]
  repeat with_reducible refine sd ?_
  refine cF e1 ?_ ?_ <;> intro k5 h3 e1
  ·have f := ms f e1
   exact rt [.tmp 4] f
  exact ny1 w1 e1
 have f := ms f e1
 exact rt [.tmp 4] f
theorem jw (a0 : ZB) (a1 : ZB) : Sa 234 [a0.row, a1.row] [rB (JU a0 a1)] := by
 have f := me (JU.eq_1 a0 a1)
 refine so Tryz.func234 Tryz.ntmps234 ?_
 refine cGs (fun gg => (Im a0.Zb a1.Zb)) ?_
 exact rt [.tmp 4] f
theorem kE (a0 : List ZB) (a1 : ZB) : Sa 262 [rL 3 ZB.row a0, a1.row] [rB (XP a0 a1)] := by
 have f := me (XP.eq_1 a0 a1)
 refine so Tryz.func262 Tryz.ntmps262 ?_
 refine lp1 (zj.eq_2 a0 a1) (fun v1_0 => Z9 17 [eX 3 (a1.row.map .d), eL 7 3 a0 ZB.row, eI 8 (↑a0.length : Int), eI 9 (↑v1_0 : Int)]) (fun n1 v1_0 => a0.length < n1 + v1_0 ∧ v1_0 ≤ a0.length) (a0.length + 1) 0 (fun p1 v1_0 e1 j1 => ?_)
 refine cFf e1 ?_ ?_ <;> intro k2 h1 e1
 ·have i1 := ix h1
  have m2 := ml a0 (k2 7 _ rfl)
  have w1 := wr v1_0
  simp [i1, ZA]
  repeat with_reducible refine sd ?_
  refine cRs (jw (nth a0 v1_0) a1) ?_
  refine cF e1 ?_ ?_ <;> intro k3 h2 e1
  ·have f := ms f e1
   exact rt [.tmp 4] f
  exact ny1 w1 e1
 have f := ms f e1
 exact rt [.tmp 4] f
theorem FH (a0 : ZK) : Sa 233 [a0.row] [rB (qE a0)] := by
 have f := me (qE.eq_1 a0)
 refine so Tryz.func233 Tryz.ntmps233 ?_
 refine cRs (Zn (↑a0.ZT.length : Int) 1 12) ?_
 refine cFo f ?_ ?_ <;> intro k1 h1 f
 ·have q1 := h1; try simp [ZS] at q1
  simp
  exact rt [.tmp 2] f
 have q1 := h1; try simp [ZS] at q1
 simp
 refine lp1 (xG.eq_2 a0) (fun v1_0 => Z9 65 [eX 1 (a0.row.map .d), eL 19 3 a0.ZT ZB.row, eI 20 (↑a0.ZT.length : Int), eI 21 (↑v1_0 : Int)]) (fun n1 v1_0 => a0.ZT.length < n1 + v1_0 ∧ v1_0 ≤ a0.ZT.length) (a0.ZT.length + 1) 0 (fun p1 v1_0 e1 j1 => ?_)
 refine cFf e1 ?_ ?_ <;> intro k3 h2 e1
 ·have i1 := ix h2
  have m2 := ml a0.ZT (k3 19 _ rfl)
  have w1 := wr v1_0
  simp [i1, ZA]
  repeat with_reducible refine sd ?_
  refine dIs mixed ?_
  refine cRs (kE (a0.ZT.take v1_0) (nth a0.ZT v1_0)) ?_
  refine cF e1 ?_ ?_ <;> intro k5 h3 e1
  ·have f := ms f e1
   exact rt [.tmp 2] f
  exact ny1 w1 e1
 have f := ms f e1
 refine lp1 (xF.eq_2 a0) (fun v2_0 => Z9 65 [eX 1 (a0.row.map .d), eL 34 5 a0.ZM ZV.row, eI 35 (↑a0.ZM.length : Int), eI 36 (↑v2_0 : Int)]) (fun n2 v2_0 => a0.ZM.length < n2 + v2_0 ∧ v2_0 ≤ a0.ZM.length) (a0.ZM.length + 1) 0 (fun p2 v2_0 e2 j2 => ?_)
 refine cFf e2 ?_ ?_ <;> intro k7 h4 e2
 ·have i2 := ix h4
  have m4 := ml a0.ZM (k7 34 _ rfl)
  have w2 := wr v2_0
  simp [i2, ZA]
  repeat with_reducible refine sd ?_
  refine dIs mixed ?_
  refine cRs (Zn (nth a0.ZM v2_0).Count 1 (↑a0.ZT.length : Int)) ?_
  refine gIf ?_ ?_ <;> intro G
  ·have i3 := ik (v2_0 - 1) a0.ZM
   have w3 : IntKind.i64.wrap ((v2_0 : Int) - 1) = (v2_0 : Int) - 1 := YA (by omega) (by omega)
   simp [i3, ZA, w3, Y7, G]
   repeat with_reducible refine sdg ?_
   refine cKo e2 ?_ ?_ <;> intro k9 h5 e2
   ·try (simp [G] at h5; done)
    all_goals
     have q5 := h5; try simp [ZS] at q5
     have f := ms f e2
     simp [G]
     repeat with_reducible refine sdg ?_
     exact rtg [.tmp 2] f
   ·try (simp [G] at h5; done)
    all_goals
     have q5 := h5; try simp [ZS] at q5
     simp [G]
     repeat with_reducible refine sdg ?_
     exact ny1 (an w2 (an w3 G)) e2
  ·refine cKo e2 ?_ ?_ <;> intro k10 h6 e2
   ·try (simp [G] at h6; done)
    all_goals
     have q6 := h6; try simp [ZS] at q6
     have f := ms f e2
     simp [G]
     repeat with_reducible refine sdg ?_
     exact rtg [.tmp 2] f
   ·try (simp [G] at h6; done)
    all_goals
     have q6 := h6; try simp [ZS] at q6
     simp [G]
     repeat with_reducible refine sdg ?_
     exact ny1 (an w2 G) e2
 have f := ms f e2
 exact rt [.tmp 2] f
theorem W3 (a0 : ZY) : Sd 259 [a0.row] [rL 1 iR (XY a0)] := by
 have f := me (XY.eq_1 a0)
 refine soD Tryz.func259 Tryz.ntmps259 ?_
 exact rtD [.tmp 2] f
theorem Rn (a0 : ZY) : Sd 199 [a0.row] [(Yx a0).row] := by
 have f := me (Yx.eq_1 a0)
 refine soD Tryz.func199 Tryz.ntmps199 ?_
 refine dIs mixed ?_
 refine cDs [false] (W3 a0) ?_
 exact rtD [.cell 2 194] f
theorem CZ (a0 : Zt) : Sa 168 [a0.row] [rB (Sv a0)] := by
 have f := me (Sv.eq_1 a0)
 refine so Tryz.func168 Tryz.ntmps168 ?_
 refine dIs mixed ?_
 refine cRs (Zn a0.Id 1 999) ?_
 refine cGs (fun gg => (KM a0.XM)) ?_
 refine cGs (fun gg => (SQ a0.Doc)) ?_
 refine cGs (fun gg => (FH a0.Yl)) ?_
 refine gIf ?_ ?_ <;> intro G
 ·have g1x := G
  have g1 := G; try simp [ZS] at g1
  have i1 : 0 < a0.Yl.ZT.length := by have := H5 (a := a0.Yl); simp_all
  simp [i1, ZA, G]
  repeat with_reducible refine sdg ?_
  refine cGg (fun gg => YZ.rd (Rn a0.Sig)) ?_
  refine cGg (fun gg => (jw (nth a0.Yl.ZT 0) (Yx a0.Sig))) ?_
  exact rtg [.tmp 2] f
 ·have g1x := G
  refine sGo ?_
  simp [G]
  repeat with_reducible refine sdg ?_
  refine sGo ?_
  simp [G]
  repeat with_reducible refine sdg ?_
  exact rtg [.tmp 2] f
theorem IT (a0 : Zc) : Sa 132 [a0.row] [rB (qa a0)] := by
 have f := me (qa.eq_1 a0)
 refine so Tryz.func132 Tryz.ntmps132 ?_
 refine lp1 (xd.eq_2 a0) (fun v1_0 => Z9 42 [eX 1 (a0.row.map .d), eL 6 16 a0.Zh Zt.row, eI 7 (↑a0.Zh.length : Int), eI 8 (↑v1_0 : Int)]) (fun n1 v1_0 => a0.Zh.length < n1 + v1_0 ∧ v1_0 ≤ a0.Zh.length) (a0.Zh.length + 1) 0 (fun p1 v1_0 e1 j1 => ?_)
 refine cFf e1 ?_ ?_ <;> intro k2 h1 e1
 ·have i1 := ix h1
  have m2 := ml a0.Zh (k2 6 _ rfl)
  have w1 := wr v1_0
  simp [i1, ZA]
  repeat with_reducible refine sd ?_
  refine dIs mixed ?_
  refine cRs (CZ (nth a0.Zh v1_0)) ?_
  refine gIf ?_ ?_ <;> intro G
  ·have i2 := ik (v1_0 - 1) a0.Zh
   have w2 : IntKind.i64.wrap ((v1_0 : Int) - 1) = (v1_0 : Int) - 1 := YA (by omega) (by omega)
   simp [i2, ZA, w2, Y7, G]
   repeat with_reducible refine sdg ?_
   refine cK e1 ?_ ?_ <;> intro k4 h2 e1
   ·try (simp [G] at h2; done)
    all_goals
     have f := ms f e1
     exact rtg [.tmp 2] f
   ·try (simp [G] at h2; done)
    all_goals
     exact ny1 (an w1 (an w2 G)) e1
  ·refine cK e1 ?_ ?_ <;> intro k5 h3 e1
   ·try (simp [G] at h3; done)
    all_goals
     have f := ms f e1
     exact rtg [.tmp 2] f
   ·try (simp [G] at h3; done)
    all_goals
     exact ny1 (an w1 G) e1
 have f := ms f e1
 refine cRs (Zn a0.Id 0 99) ?_
 exact rt [.tmp 2] f
theorem Et (a0 : List Int) (a1 : Int) : Sa 134 [rL 1 iR a0, rI a1] [rI (R3 a0 a1)] := by
 have f := me (R3.eq_1 a0 a1)
 refine so Tryz.func134 Tryz.ntmps134 ?_
 refine lp1 (UO.eq_2 a0 a1) (fun v1_0 => Z9 19 [eI 1 a1, eL 7 1 a0 iR, eI 8 (↑a0.length : Int), eI 9 (↑v1_0 : Int)]) (fun n1 v1_0 => a0.length < n1 + v1_0 ∧ v1_0 ≤ a0.length) (a0.length + 1) 0 (fun p1 v1_0 e1 j1 => ?_)
 refine cFf e1 ?_ ?_ <;> intro k2 h1 e1
 ·have i1 := ix h1
  have m2 := ml a0 (k2 7 _ rfl)
  have w1 := wr v1_0
  simp [i1, ZA]
  repeat with_reducible refine sd ?_
  refine cF e1 ?_ ?_ <;> intro k3 h2 e1
  ·have f := ms f e1
   exact rt [.tmp 4] f
  exact ny1 w1 e1
 have f := ms f e1
 exact rt [.tmp 4] f
theorem Mu (a0 : List Int) (a1 : Int) : Sa 91 [rL 1 iR a0, rI a1] [rB (kT a0 a1)] := by
 have f := me (kT.eq_1 a0 a1)
 refine so Tryz.func91 Tryz.ntmps91 ?_
 refine cRs (Et a0 a1) ?_
 exact rt [.tmp 4] f
theorem zt (a0 : List ZF) (a1 : Int) : Sa 133 [rL 3 ZF.row a0, rI a1] [rI (Z4 a0 a1)] := by
 have f := me (Z4.eq_1 a0 a1)
 refine so Tryz.func133 Tryz.ntmps133 ?_
 refine lp1 (Qt.eq_2 a0 a1) (fun v1_0 => Z9 20 [eI 1 a1, eL 7 3 a0 ZF.row, eI 8 (↑a0.length : Int), eI 9 (↑v1_0 : Int)]) (fun n1 v1_0 => a0.length < n1 + v1_0 ∧ v1_0 ≤ a0.length) (a0.length + 1) 0 (fun p1 v1_0 e1 j1 => ?_)
 refine cFf e1 ?_ ?_ <;> intro k2 h1 e1
 ·have i1 := ix h1
  have m2 := ml a0 (k2 7 _ rfl)
  have w1 := wr v1_0
  simp [i1, ZA]
  repeat with_reducible refine sd ?_
  refine cF e1 ?_ ?_ <;> intro k3 h2 e1
  ·have f := ms f e1
   exact rt [.tmp 4] f
  exact ny1 w1 e1
 have f := ms f e1
 exact rt [.tmp 4] f
theorem xH {a b : Prop} (h : b) (k : a := by (intros; first | omega | with_unfolding_all (first | first | omega | (have o : (nth a0.ZE v2_1).Zh.length ≤ 2310144 := YH (by simp (maxDischargeDepth := 12) [u0]); have o2 : a0.ZE.length ≤ 2310144 := YH (by simp (maxDischargeDepth := 12) [u0]); omega)) | ((try simp only [Qv, show ∀ x, IntKind.i64.wrap x = W x from fun _ => rfl] at *); omega))) : a ∧ b := ⟨k, h⟩
theorem KH {a b : Prop} (h : b) (k : a := by (intros; first | omega | with_unfolding_all (first | first | omega | (have o : (nth a0.ZE v2_1).Zh.length ≤ 2310144 := YH (by simp (maxDischargeDepth := 12) [u0]); have o2 : a0.ZE.length ≤ 2310144 := YH (by simp (maxDischargeDepth := 12) [u0]); omega)) | (simp_all; done) | (simp_all; omega) | grind | ((try simp only [Qv, show ∀ x, IntKind.i64.wrap x = W x from fun _ => rfl] at *); omega))) : a ∧ b := ⟨k, h⟩
theorem De (a0 : Zi) (u0 : Sm 2310144 a0) : Sa 89 [a0.row] [rB (TS a0)] := by
 have f := me (TS.eq_1 a0)
 refine so Tryz.func89 Tryz.ntmps89 ?_
 refine cRs (NC a0.Frame) ?_
 refine cGs (fun gg => (Zn (↑a0.ZE.length : Int) 1 4)) ?_
 refine cGs (fun gg => (RT a0.Y4)) ?_
 refine cGs (fun gg => (RT a0.XQ)) ?_
 refine cFo f ?_ ?_ <;> intro k1 h1 f
 ·have q1 := h1; try simp [ZS] at q1
  simp
  exact rt [.tmp 2] f
 have q1 := h1; try simp [ZS] at q1
 simp
 refine lp1 (ke.eq_2 a0) (fun v1_0 => Z9 167 [eX 1 (a0.row.map .d), eX 3 (a0.Frame.row.map .d), eL 71 7 a0.YN Zs.row, eI 72 (↑a0.YN.length : Int), eI 73 (↑v1_0 : Int)]) (fun n1 v1_0 => a0.YN.length < n1 + v1_0 ∧ v1_0 ≤ a0.YN.length) (a0.YN.length + 1) 0 (fun p1 v1_0 e1 j1 => ?_)
 try dsimp only at j1
 refine cFf e1 ?_ ?_ <;> intro k3 h2 e1
 ·have i1 := ix h2
  have m2 := ml a0.YN (k3 71 _ rfl)
  have c1 := sl 2310144 a0.YN u0
  have w1 := wr v1_0
  simp [i1, ZA]
  repeat with_reducible refine xH ?_
  refine cRs (Rt a0.Frame.Yb (nth a0.YN v1_0) (sg (ZH.YL (Zi.S9 u0)))) ?_
  refine cGs (fun gg => (Gk a0.YN (nth a0.YN v1_0).Z1)) ?_
  refine gIo ?_ ?_ <;> intro G
  ·have g1x := G
   have g1 := G; try simp at g1
   have i2 := ik v1_0 a0.YX
   simp [i2, ZA, G]
   repeat with_reducible refine KH ?_
   refine cGo (fun gg => (Zn (nth a0.YX v1_0) (-1) 10001)) ?_
   simp [G]
   repeat with_reducible refine KH ?_
   refine cKo e1 ?_ ?_ <;> intro k4 h3 e1
   ·try (simp [G] at h3; done)
    all_goals
     have q3 := h3; try simp [ZS] at q3
     have f := ms f e1
     simp [G]
     repeat with_reducible refine KH ?_
     exact rtg [.tmp 2] f
   ·try (simp [G] at h3; done)
    all_goals
     have q3 := h3; try simp [ZS] at q3
     simp [G]
     repeat with_reducible refine KH ?_
     exact ny1 (an w1 G) e1
  ·have g1x := G
   simp [G]
   repeat with_reducible refine KH ?_
   refine sGo ?_
   simp [G]
   repeat with_reducible refine KH ?_
   refine cKo e1 ?_ ?_ <;> intro k5 h4 e1
   ·try (simp [G] at h4; done)
    all_goals
     have q4 := h4; try simp [ZS] at q4
     have f := ms f e1
     simp [G]
     repeat with_reducible refine KH ?_
     exact rtg [.tmp 2] f
   ·try (simp [G] at h4; done)
    all_goals
     have q4 := h4; try simp [ZS] at q4
     simp [G]
     repeat with_reducible refine KH ?_
     exact ny1 (an w1 G) e1
 have c2 := sl 2310144 a0.YN u0
 have f := ms f e1
 refine lp2 (zT.eq_2 a0) (fun v2_0 v2_1 => Z9 167 [eX 1 (a0.row.map .d), eX 3 (a0.Frame.row.map .d), (6, .one (.sref 6 0 0 v2_0.length), [.arr false 1 (v2_0.map iR)]), eL 103 2 a0.ZE Zc.row, eI 104 (↑a0.ZE.length : Int), eI 105 (↑v2_1 : Int)]) (fun n2 v2_0 v2_1 => a0.ZE.length < n2 + v2_1 ∧ v2_0.length ≤ 2310144 * v2_1) (a0.ZE.length + 1) ([] : List Int) 0 (fun p2 v2_0 v2_1 e2 j2 => ?_) (h0 := YI [((6, 0), none)] [] rfl (by simp))
 try dsimp only at j2
 refine cFf e2 ?_ ?_ <;> intro k7 h5 e2
 ·have i4 := ix h5
  have m4 := ml a0.ZE (k7 103 _ rfl)
  have c3 := sl 2310144 a0.ZE u0
  have w2 := wr v2_1
  simp [i4, ZA]
  repeat with_reducible refine xH ?_
  refine cRs (IT (nth a0.ZE v2_1)) ?_
  refine cF e2 ?_ ?_ <;> intro k8 h6 e2
  ·have f := ms f e2
   exact rt [.tmp 2] f
  refine lp2 (zZ.eq_2 a0 v2_1) (fun v3_0 v3_1 => Z9 167 [eX 1 (a0.row.map .d), eX 3 (a0.Frame.row.map .d), (6, .one (.sref 6 0 0 v3_0.length), [.arr false 1 (v3_0.map iR)]), eL 103 2 a0.ZE Zc.row, eI 104 (↑a0.ZE.length : Int), eI 105 (↑v2_1 : Int), eL 120 16 (nth a0.ZE v2_1).Zh Zt.row, eI 121 (↑(nth a0.ZE v2_1).Zh.length : Int), eI 122 (↑v3_1 : Int)]) (fun n3 v3_0 v3_1 => (nth a0.ZE v2_1).Zh.length < n3 + v3_1 ∧ v3_1 ≤ (nth a0.ZE v2_1).Zh.length ∧ v3_0.length ≤ 2310144 * v2_1 + v3_1) ((nth a0.ZE v2_1).Zh.length + 1) v2_0 0 (fun p3 v3_0 v3_1 e3 j3 => ?_)
  try dsimp only at j3
  refine cFf e3 ?_ ?_ <;> intro k10 h7 e3
  ·have i5 := ix h7
   have m6 := ml (nth a0.ZE v2_1).Zh (k10 120 _ rfl)
   have c4 := sl 2310144 (nth a0.ZE v2_1).Zh u0
   have w3 := wr v3_1
   simp [i5, ZA]
   repeat with_reducible refine xH ?_
   refine cRs (Mu v3_0 (nth (nth a0.ZE v2_1).Zh v3_1).Id) ?_
   refine cFt e3 ?_ ?_ <;> intro k11 h8 e3
   ·have e2 := ms e2 e3
    have f := ms f e2
    exact rt [.tmp 2] f
   simp
   repeat with_reducible refine xH ?_
   exact nx2 e3 (hI := by (have o : (nth a0.ZE v2_1).Zh.length ≤ 2310144 := YH (by simp (maxDischargeDepth := 12) [u0]); first | omega | (simp at *; omega))) (hw := YI [((6, 0), some (141, 0))] [] rfl (by simp [w2, w3]))
  have c5 := sl 2310144 (nth a0.ZE v2_1).Zh u0
  have e2 := ms e2 e3
  exact ny2 w2 e2 (hI := by (have o : (nth a0.ZE v2_1).Zh.length ≤ 2310144 := YH (by simp (maxDischargeDepth := 12) [u0]); first | omega | (simp at *; omega)))
 have c6 := sl 2310144 a0.ZE u0
 have f := ms f e2
 refine lp1 (kZ.eq_2 a0) (fun v4_0 => Z9 167 [eX 1 (a0.row.map .d), eX 3 (a0.Frame.row.map .d), eL 145 1 a0.Qg iR, eI 146 (↑a0.Qg.length : Int), eI 147 (↑v4_0 : Int)]) (fun n4 v4_0 => a0.Qg.length < n4 + v4_0 ∧ v4_0 ≤ a0.Qg.length) (a0.Qg.length + 1) 0 (fun p4 v4_0 e4 j4 => ?_)
 try dsimp only at j4
 refine cFf e4 ?_ ?_ <;> intro k13 h9 e4
 ·have i6 := ix h9
  have m8 := ml a0.Qg (k13 145 _ rfl)
  have c7 := sl 2310144 a0.Qg u0
  have w4 := wr v4_0
  simp [i6, ZA]
  repeat with_reducible refine xH ?_
  refine cF e4 ?_ ?_ <;> intro k14 h10 e4
  ·have f := ms f e4
   exact rt [.tmp 2] f
  exact ny1 w4 e4
 have c8 := sl 2310144 a0.Qg u0
 have f := ms f e4
 refine lp1 (kh.eq_2 a0) (fun v5_0 => Z9 167 [eX 3 (a0.Frame.row.map .d), eL 155 1 a0.Y4 iR, eI 156 (↑a0.Y4.length : Int), eI 157 (↑v5_0 : Int)]) (fun n5 v5_0 => a0.Y4.length < n5 + v5_0 ∧ v5_0 ≤ a0.Y4.length) (a0.Y4.length + 1) 0 (fun p5 v5_0 e5 j5 => ?_)
 try dsimp only at j5
 refine cFf e5 ?_ ?_ <;> intro k16 h11 e5
 ·have i7 := ix h11
  have m10 := ml a0.Y4 (k16 155 _ rfl)
  have c9 := sl 2310144 a0.Y4 u0
  have w5 := wr v5_0
  simp [i7, ZA]
  repeat with_reducible refine xH ?_
  refine cRs (zt a0.Frame.ZU (nth a0.Y4 v5_0)) ?_
  refine cF e5 ?_ ?_ <;> intro k17 h12 e5
  ·have f := ms f e5
   exact rt [.tmp 2] f
  exact ny1 w5 e5
 have c10 := sl 2310144 a0.Y4 u0
 have f := ms f e5
 exact rt [.tmp 2] f
theorem OP {a b : Prop} (h : b) (k : a := by (intros; first | omega | with_unfolding_all (first | (have d := Oe (l := a0.ZE) (i := v1_1) (by first | omega | (simp at *; omega)); omega)) | ((try simp only [Qv, show ∀ x, IntKind.i64.wrap x = W x from fun _ => rfl] at *); omega))) : a ∧ b := ⟨k, h⟩
theorem DU (a0 : Zi) (u0 : Sm 2342912 a0) (u1 : itn a0.ZE ≤ 1048576) : So 83 [a0.row] [rL 16 Zt.row (Xc a0)] := by
 have f := me (Xc.eq_1 a0)
 refine so Tryz.func83 Tryz.ntmps83 ?_
 refine lp2 (Vt.eq_2 a0) (fun v1_0 v1_1 => Z9 19 [(3, .one (.sref 3 0 0 v1_0.length), [.arr false 16 (v1_0.map Zt.row)]), eL 7 2 a0.ZE Zc.row, eI 8 (↑a0.ZE.length : Int), eI 9 (↑v1_1 : Int)]) (fun n1 v1_0 v1_1 => a0.ZE.length < n1 + v1_1 ∧ v1_1 ≤ a0.ZE.length ∧ v1_0.length + itn (a0.ZE.drop v1_1) ≤ 1048576) (a0.ZE.length + 1) ([] : List Zt) 0 (fun p1 v1_0 v1_1 e1 j1 => ?_) (hI := by ((try dsimp only); simp only [List.length_nil, List.drop_zero]; omega)) (h0 := YI [((3, 0), none)] [] rfl (by simp))
 try dsimp only at j1
 refine cFf e1 ?_ ?_ <;> intro k2 h1 e1
 ·have i1 := ix h1
  have m2 := ml a0.ZE (k2 7 _ rfl)
  have c1 := sl 2342912 a0.ZE (an u0 u1)
  have w1 := wr v1_1
  simp [i1, ZA]
  repeat with_reducible refine OP ?_
  refine evI rfl rfl rfl ?_
  have c2 := sl 2342912 (nth a0.ZE v1_1).Zh (an u0 u1)
  simp
  repeat with_reducible refine OP ?_
  exact nx2 e1 (hI := by (have d := Oe (l := a0.ZE) (i := v1_1) (by first | omega | (simp at *; omega)); (try dsimp only); simp only [List.length_append]; omega)) (hw := YI [((3, 0), some (16, 0))] [] rfl (by simp [w1]))
 have c3 := sl 2342912 a0.ZE (an u0 u1)
 have f := ms f e1
 exact rtO [.tmp 2] f
theorem Ga (a0 : Zc) (a1 : Int) : Sa 117 [a0.row, rI a1] [rI (yo a0 a1)] := by
 have f := me (yo.eq_1 a0 a1)
 refine so Tryz.func117 Tryz.ntmps117 ?_
 refine lp1 (xI.eq_2 a0 a1) (fun v1_0 => Z9 21 [eI 1 a1, eL 8 16 a0.Zh Zt.row, eI 9 (↑a0.Zh.length : Int), eI 10 (↑v1_0 : Int)]) (fun n1 v1_0 => a0.Zh.length < n1 + v1_0 ∧ v1_0 ≤ a0.Zh.length) (a0.Zh.length + 1) 0 (fun p1 v1_0 e1 j1 => ?_)
 refine cFf e1 ?_ ?_ <;> intro k2 h1 e1
 ·have i1 := ix h1
  have m2 := ml a0.Zh (k2 8 _ rfl)
  have w1 := wr v1_0
  simp [i1, ZA]
  repeat with_reducible refine sd ?_
  refine cF e1 ?_ ?_ <;> intro k3 h2 e1
  ·have f := ms f e1
   exact rt [.tmp 4] f
  exact ny1 w1 e1
 have f := ms f e1
 exact rt [.tmp 4] f
theorem BH (a0 : Zi) (a1 : Int) : Sa 78 [a0.row, rI a1] [rI (QD a0 a1).1, rI (QD a0 a1).2] := by
 have f := me (QD.eq_1 a0 a1)
 refine so Tryz.func78 Tryz.ntmps78 ?_
 refine lp1 (yQ.eq_2 a0 a1) (fun v1_0 => Z9 25 [eI 1 a1, eL 10 2 a0.ZE Zc.row, eI 11 (↑a0.ZE.length : Int), eI 12 (↑v1_0 : Int)]) (fun n1 v1_0 => a0.ZE.length < n1 + v1_0 ∧ v1_0 ≤ a0.ZE.length) (a0.ZE.length + 1) 0 (fun p1 v1_0 e1 j1 => ?_)
 refine cFf e1 ?_ ?_ <;> intro k2 h1 e1
 ·have i1 := ix h1
  have m2 := ml a0.ZE (k2 10 _ rfl)
  have w1 := wr v1_0
  simp [i1, ZA]
  repeat with_reducible refine sd ?_
  refine cRs (Ga (nth a0.ZE v1_0) a1) ?_
  refine cF e1 ?_ ?_ <;> intro k3 h2 e1
  ·have f := ms f e1
   exact rt [.tmp 4, .tmp 5] f
  exact ny1 w1 e1
 have f := ms f e1
 exact rt [.tmp 4, .tmp 5] f
theorem FZ (a0 : List Int) (u0 : Sm 2342912 a0) : Sd 315 [rL 1 iR a0] [rL 1 iR (Pm a0)] := by
 have f := me (Pm.eq_1 a0)
 have c1 := sl 2342912 a0 u0
 refine soD Tryz.func315 Tryz.ntmps315 ?_
 exact rtD [.tmp 2] f
theorem HG (a0 : List Int) (u0 : Sm 2342912 a0) : Sd 315 [rL 1 iR a0] [rL 1 iR a0] := by
  have h := FZ a0 u0
  rwa [Gh] at h
theorem Hg (a0 : ZB) (u0 : Sm 2338816 a0) : Sd 265 [a0.row] [(RQ a0).row] := by
 have f := me (RQ.eq_1 a0)
 refine soD Tryz.func265 Tryz.ntmps265 ?_
 refine cDs [false] (HG a0.Zb (sg (ZB.Wl u0))) ?_
 exact rtD [.cell 2 194] f
theorem WE (a0 : ZB) (u0 : Sm 2338816 a0) : Sd 265 [a0.row] [a0.row] := by
  have h := Hg a0 u0
  rwa [IN] at h
theorem IB (a0 : List ZB) (u0 : Sm 2334720 a0) : Sd 214 [rL 3 ZB.row a0] [rL 3 ZB.row (Wg a0)] := by
 have f := me (Wg.eq_1 a0)
 refine soD Tryz.func214 Tryz.ntmps214 ?_
 refine lp2 (jQ.eq_2 a0) (fun v1_0 v1_1 => Z9 19 [(3, .one (.sref 3 0 0 v1_0.length), [.arr true 3 (v1_0.map ZB.row)]), eL 6 3 a0 ZB.row, eI 7 (↑a0.length : Int), eI 8 (↑v1_1 : Int)]) (fun n1 v1_0 v1_1 => a0.length < n1 + v1_1 ∧ v1_1 ≤ a0.length ∧ v1_0.length ≤ 0 + 1 * v1_1) (a0.length + 1) ([] : List ZB) 0 (fun p1 v1_0 v1_1 e1 j1 => ?_) (h0 := YI [((3, 0), none)] [] rfl (by simp))
 refine cFf e1 ?_ ?_ <;> intro k2 h1 e1
 ·have i1 := ix h1
  have m2 := ml a0 (k2 6 _ rfl)
  have c1 := sl 2334720 a0 u0
  have w1 := wr v1_1
  simp [i1, ZA]
  repeat with_reducible refine sd ?_
  refine cDs [true, false] (WE (nth a0 v1_1) (sg (Zx u0))) ?_
  refine rO rfl rfl rfl (by simp) (by simp) (by simp) ?_
  simp
  refine su (olds := (v1_0.map ZB.row)) (news := (([(nth a0 v1_1)] : List ZB).map ZB.row)) (l1 := [(3, 0)]) (l2 := [(14, 1)]) (size := 3) rfl rfl rfl rfl (by simp) (by simp) (by simp) (by simp) (by simp) (by simp; omega) ?_
  simp
  exact nx2 e1 (hw := YI [((3, 0), some (16, 0))] [] rfl (by simp [w1]))
 have c2 := sl 2334720 a0 u0
 have f := ms f e1
 exact rtD [.tmp 2] f
theorem MM (a0 : List ZB) (u0 : Sm 2334720 a0) : Sd 214 [rL 3 ZB.row a0] [rL 3 ZB.row a0] := by
  have h := IB a0 u0
  rwa [LX] at h
theorem Lt (a0 : List ZZ) (u0 : Sm 2342912 a0) : Sd 280 [rL 5 ZZ.row a0] [rL 5 ZZ.row (T6 a0)] := by
 have f := me (T6.eq_1 a0)
 have c1 := sl 2342912 a0 u0
 refine soD Tryz.func280 Tryz.ntmps280 ?_
 exact rtD [.tmp 2] f
theorem N7 (a0 : List ZZ) (u0 : Sm 2342912 a0) : Sd 280 [rL 5 ZZ.row a0] [rL 5 ZZ.row a0] := by
  have h := Lt a0 u0
  rwa [LY] at h
theorem MR (a0 : ZV) (u0 : Sm 2338816 a0) : Sd 215 [a0.row] [(UZ a0).row] := by
 have f := me (UZ.eq_1 a0)
 have c1 := sl 2338816 a0.Path u0
 refine soD Tryz.func215 Tryz.ntmps215 ?_
 refine cDs [false] (N7 a0.Zf (sg (ZV.R4 u0))) ?_
 exact rtD [.cell 2 199] f
theorem NU (a0 : ZV) (u0 : Sm 2338816 a0) : Sd 215 [a0.row] [a0.row] := by
  have h := MR a0 u0
  rwa [MA] at h
theorem L8 (a0 : ZK) (u0 : Sm 2330624 a0) : Sd 147 [a0.row] [(Wh a0).row] := by
 have f := me (Wh.eq_1 a0)
 refine soD Tryz.func147 Tryz.ntmps147 ?_
 refine cDs [] (MM a0.ZT (sg (ZK.Yh u0))) ?_
 refine lp2 (jW.eq_2 a0) (fun v1_0 v1_1 => Z9 26 [(2, .one (.bptr 2 0), [.box [.nil 3, .nil 5]]), (3, .one (.bptr 3 0), [.box [.sref 8 0 0 a0.ZT.length, .sref 3 2 0 v1_1.length], .none, .arr true 5 (v1_1.map ZV.row)]), (8, .any, [.arr true 3 (a0.ZT.map ZB.row)]), eL 11 5 a0.ZM ZV.row, eI 12 (↑a0.ZM.length : Int), eI 13 (↑v1_0 : Int)]) (fun n1 v1_0 v1_1 => a0.ZM.length < n1 + v1_0 ∧ v1_0 ≤ a0.ZM.length ∧ v1_1.length ≤ 0 + 1 * v1_0) (a0.ZM.length + 1) 0 ([] : List ZV) (fun p1 v1_0 v1_1 e1 j1 => ?_) (h0 := YI [((3, 2), none)] [] rfl (by simp))
 refine cFf e1 ?_ ?_ <;> intro k2 h1 e1
 ·have i1 := ix h1
  have m2 := ml a0.ZM (k2 11 _ rfl)
  have c1 := sl 2330624 a0.ZM u0
  have w1 := wr v1_0
  simp [i1, ZA]
  repeat with_reducible refine sd ?_
  refine ph [22] mixed (by kernel_rfl) (by kernel_rfl) ?_
  simp
  refine cDs [true, true, true, false, false] (NU (nth a0.ZM v1_0) (sg (Zx (ZK.Xo u0)))) ?_
  refine rO rfl rfl rfl (by simp) (by simp) (by simp) ?_
  simp
  refine su (olds := (v1_1.map ZV.row)) (news := (([(nth a0.ZM v1_0)] : List ZV).map ZV.row)) (l1 := [(3, 2)]) (l2 := [(20, 3), (20, 4)]) (size := 5) rfl rfl rfl rfl (by simp) (by simp) (by simp) (by simp) (by simp) (by simp; omega) ?_
  simp
  exact nx2 e1 (hw := YI [((3, 2), some (22, 0))] [] rfl (by simp [w1]))
 have c2 := sl 2330624 a0.ZM u0
 have f := ms f e1
 exact rtD [.cell 2 53] f
theorem Nz (a0 : ZK) (u0 : Sm 2330624 a0) : Sd 147 [a0.row] [a0.row] := by
  have h := L8 a0 u0
  rwa [L1] at h
theorem NN (a0 : Zt) (u0 : Sm 2326528 a0) : Sd 108 [a0.row] [(zG a0).row] := by
 have f := me (zG.eq_1 a0)
 refine soD Tryz.func108 Tryz.ntmps108 ?_
 refine cDs [] (Nz a0.Yl (sg (Zt.Y8 u0))) ?_
 refine pJ (news := (([a0.Yl] : List ZK).map ZK.row)) (L := [(5, 0), (5, 1)]) rfl rfl rfl rfl (by simp) (by simp) (by simp) (by simp) (by simp) (by simp) ?_
 simp
 exact rtD [.cell 2 143] f
theorem D1 (a0 : List UInt8) (u0 : Sm 2342912 a0) : Sd 278 [rL 1 bR a0] [rL 1 iR (jn a0)] := by
 have f := me (jn.eq_1 a0)
 refine soD Tryz.func278 Tryz.ntmps278 ?_
 refine lp2 (yJ.eq_2 a0) (fun v1_0 v1_1 => Z9 19 [(3, .one (.sref 3 0 0 v1_0.length), [.arr false 1 (v1_0.map iR)]), eL 6 1 a0 bR, eI 7 (↑a0.length : Int), eI 8 (↑v1_1 : Int)]) (fun n1 v1_0 v1_1 => a0.length < n1 + v1_1 ∧ v1_1 ≤ a0.length ∧ v1_0.length ≤ 0 + 1 * v1_1) (a0.length + 1) ([] : List Int) 0 (fun p1 v1_0 v1_1 e1 j1 => ?_) (h0 := YI [((3, 0), none)] [] rfl (by simp))
 refine cFf e1 ?_ ?_ <;> intro k2 h1 e1
 ·have i1 := ix h1
  have m2 := ml a0 (k2 6 _ rfl)
  have c1 := sl 2342912 a0 u0
  have w1 := wr v1_1
  simp [i1, ZA]
  repeat with_reducible refine sd ?_
  exact nx2 e1 (hw := YI [((3, 0), some (16, 0))] [] rfl (by simp [w1]))
 have c2 := sl 2342912 a0 u0
 have f := ms f e1
 exact rtD [.tmp 2] f
theorem JO (a0 : Int) (a1 : List Int) (u0 : Sm 68719476736 a1) : Sa 213 [rI a0, rL 1 iR a1] [rI (QT a0 a1)] := by
 have f := me (QT.eq_1 a0 a1)
 have c1 := sl 68719476736 a1 u0
 refine so Tryz.func213 Tryz.ntmps213 ?_
 refine cRs (EF (([7, a0] : List Int) ++ a1)) ?_
 exact rt [.tmp 4] f
theorem LL (a0 : Int) (a1 : ByteArray) (a2 : Int) (u0 : Sm 2326528 a1) : Sa 212 [rI a0, rS a1, rI a2] [rI (jb a0 a1 a2)] := by
 have f := me (jb.eq_1 a0 a1 a2)
 refine so Tryz.func212 Tryz.ntmps212 ?_
 have c1 : a1.size ≤ 2326528 := DK (by simp (maxDischargeDepth := 12) [u0])
 refine tx (s := a1) rfl rfl rfl (by simp) (by simp) (by simp) (by simp) (by omega) ?_
 simp
 refine cRs (YZ.rd (D1 a1.data.toList (by simp [XT]; first | omega | (simp [ByteArray.size] at *; omega)))) ?_
 refine cRs (JO a0 (([a2] : List Int) ++ (jn a1.data.toList)) (by simp (maxDischargeDepth := 12) [JX, XT, Za (m := 68719476736) (by decide) u0]; try omega)) ?_
 exact rt [.tmp 6] f
theorem Sp (a0 : Int) (a1 : Zd) (u0 : Sm 2322432 a1) : Sa 146 [rI a0, a1.row] [rI (yh a0 a1)] := by
 have f := me (yh.eq_1 a0 a1)
 refine so Tryz.func146 Tryz.ntmps146 ?_
 refine cRs (SQ a1) ?_
 refine cF f ?_ ?_ <;> intro k1 h1 f
 ·exact rt [.tmp 4] f
 refine lp2 (xi.eq_2 a0 a1) (fun v1_0 v1_1 => Z9 37 [eI 0 a0, eX 3 (a1.row.map .d), (5, .one (.sref 5 0 0 v1_0.length), [.arr false 1 (v1_0.map iR)]), eL 15 1 a1.YY sR, eI 16 (↑a1.YY.length : Int), eI 17 (↑v1_1 : Int)]) (fun n1 v1_0 v1_1 => a1.YY.length < n1 + v1_1 ∧ v1_1 ≤ a1.YY.length ∧ v1_0.length ≤ 1 + 1 * v1_1) (a1.YY.length + 1) ([a1.jK] : List Int) 0 (fun p1 v1_0 v1_1 e1 j1 => ?_) (h0 := YI [((5, 0), some (13, 0))] [] rfl (by simp))
 try dsimp only at j1
 refine cFf e1 ?_ ?_ <;> intro k3 h2 e1
 ·have i1 := ix h2
  have m2 := ml a1.YY (k3 15 _ rfl)
  have c1 := sl 2322432 a1.YY u0
  have w1 := wr v1_1
  have i2 : v1_1 < a1.XI.length := by (have := MS (a := a1); first | (simp_all; done) | (simp_all; omega))
  simp [i1, ZA, i2]
  repeat with_reducible refine sd ?_
  refine cRs (LL a0 (nth a1.YY v1_1) (nth a1.XI v1_1) (sg (Zx (Zd.NW u0)))) ?_
  exact nx2 e1 (hw := YI [((5, 0), some (32, 0))] [] rfl (by simp [w1]))
 have c2 := sl 2322432 a1.YY u0
 have f := ms f e1
 refine cRs (JO a0 v1_0 (by first | (simp (maxDischargeDepth := 12) [XT]; omega) | (simp (maxDischargeDepth := 12) [Za (m := 68719476736) (by decide) u0]; done))) ?_
 exact rt [.tmp 4] f
theorem La (a0 : ZK) (a1 : Zd) (u0 : Sm 2318336 a0) (u1 : Sm 2318336 a1) : Sd 210 [a0.row, a1.row] [rL 1 iR (KG a0 a1)] := by
 have f := me (KG.eq_1 a0 a1)
 refine soD Tryz.func210 Tryz.ntmps210 ?_
 refine lp2 (Jb.eq_2 a0 a1) (fun v1_0 v1_1 => Z9 24 [eX 3 (a1.row.map .d), (5, .one (.sref 5 0 0 v1_0.length), [.arr false 1 (v1_0.map iR)]), eL 9 5 a0.ZM ZV.row, eI 10 (↑a0.ZM.length : Int), eI 11 (↑v1_1 : Int)]) (fun n1 v1_0 v1_1 => a0.ZM.length < n1 + v1_1 ∧ v1_1 ≤ a0.ZM.length ∧ v1_0.length ≤ 0 + 1 * v1_1) (a0.ZM.length + 1) ([] : List Int) 0 (fun p1 v1_0 v1_1 e1 j1 => ?_) (h0 := YI [((5, 0), none)] [] rfl (by simp))
 refine cFf e1 ?_ ?_ <;> intro k2 h1 e1
 ·have i1 := ix h1
  have m2 := ml a0.ZM (k2 9 _ rfl)
  have c1 := sl 2318336 a0.ZM (an u0 u1)
  have w1 := wr v1_1
  simp [i1, ZA]
  repeat with_reducible refine sd ?_
  refine cRs (Sp (nth a0.ZM v1_1).Method a1 (sg u1)) ?_
  exact nx2 e1 (hw := YI [((5, 0), some (21, 0))] [] rfl (by simp [w1]))
 have c2 := sl 2318336 a0.ZM (an u0 u1)
 have f := ms f e1
 exact rtD [.tmp 4] f
theorem Pw {a b : Prop} (h : b) (k : a := by (intros; first | omega | with_unfolding_all (first | (first | omega | (have z := YH (ZI.YS u0); omega))) | ((try simp only [Qv, show ∀ x, IntKind.i64.wrap x = W x from fun _ => rfl] at *); omega))) : a ∧ b := ⟨k, h⟩
theorem Px (a0 : ZI) (a1 : Zd) (u0 : Sm 2314240 a0) (u1 : Sm 2314240 a1) : Sd 145 [a0.row, a1.row] [rL 1 (slR 1 iR) (JA a0 a1)] := by
 have f := me (JA.eq_1 a0 a1)
 refine soD Tryz.func145 Tryz.ntmps145 ?_
 refine lp2 (X8.eq_2 a0 a1) (fun v1_0 v1_1 => Z9 23 [eX 3 (a1.row.map .d), (5, .one (.sref 5 0 0 v1_0.length), [.arr true 1 (v1_0.map (slR 1 iR))]), eL 9 2 a0.ZL ZK.row, eI 10 (↑a0.ZL.length : Int), eI 11 (↑v1_1 : Int)]) (fun n1 v1_0 v1_1 => a0.ZL.length < n1 + v1_1 ∧ v1_1 ≤ a0.ZL.length ∧ v1_0.length ≤ v1_1) (a0.ZL.length + 1) ([] : List (List Int)) 0 (fun p1 v1_0 v1_1 e1 j1 => ?_) (h0 := YI [((5, 0), none)] [] rfl (by simp))
 try dsimp only at j1
 refine cFf e1 ?_ ?_ <;> intro k2 h1 e1
 ·have i1 := ix h1
  have m2 := ml a0.ZL (k2 9 _ rfl)
  have c1 := sl 2314240 a0.ZL (an u0 u1)
  have w1 := wr v1_1
  simp [i1, ZA]
  repeat with_reducible refine Pw ?_
  refine cDs [false] (La (nth a0.ZL v1_1) a1 (sg (Zx (ZI.YS u0))) (sg u1)) ?_
  refine rO rfl rfl rfl (by simp) (by simp) (by simp) ?_
  simp
  refine su (olds := (v1_0.map (slR 1 iR))) (news := (([(KG (nth a0.ZL v1_1) a1)] : List (List Int)).map (slR 1 iR))) (l1 := [(5, 0)]) (l2 := [(18, 0)]) (size := 1) rfl rfl rfl rfl (by simp) (by simp) (by simp) (by simp) (by simp) (by simp; (first | omega | (have z := YH (ZI.YS u0); omega))) ?_
  simp
  exact nx2 e1 (hw := YI [((5, 0), some (20, 0))] [] rfl (by simp [w1]))
 have c2 := sl 2314240 a0.ZL (an u0 u1)
 have f := ms f e1
 exact rtD [.tmp 4] f
theorem Wt (a0 : Int) : Sa 193 [rI a0] [(Ro a0).row] := by
 have f := me (Ro.eq_1 a0)
 refine so Tryz.func193 Tryz.ntmps193 ?_
 exact rt [.cell 2 79] f
theorem Uy (a0 : ZY) : Sa 194 [a0.row] [rB (Kf a0)] := by
 have f := me (Kf.eq_1 a0)
 refine so Tryz.func194 Tryz.ntmps194 ?_
 refine cRs (Zn a0.Key 1 99) ?_
 refine cGs (fun gg => (Zn a0.Z1 1 999)) ?_
 refine cGs (fun gg => (Zn a0.Method 0 99)) ?_
 refine cGs (fun gg => (Zn a0.Org 0 99)) ?_
 refine cGs (fun gg => (Zn a0.WL 1 3)) ?_
 refine cGs (fun gg => (Zn a0.Yo 0 1000000000000)) ?_
 refine cGs (fun gg => (Zn a0.WR 0 1000000000000)) ?_
 refine cGs (fun gg => (Zn a0.yG 0 1000000000000)) ?_
 exact rt [.tmp 2] f
theorem Tc (a0 : Int) : Sa 195 [rI a0] [(TW a0).row] := by
 have f := me (TW.eq_1 a0)
 refine so Tryz.func195 Tryz.ntmps195 ?_
 exact rt [.cell 2 79] f
theorem PI (a0 : List Zy) (a1 : ZY) (u0 : Sm 2314240 a0) : Sa 197 [rL 5 Zy.row a0, a1.row] [rB (JW a0 a1)] := by
 have f := me (JW.eq_1 a0 a1)
 refine so Tryz.func197 Tryz.ntmps197 ?_
 refine dIs mixed ?_
 refine cRs (Uy a1) ?_
 refine cGs (fun gg => YZ.rd (W3 a1)) ?_
 refine cGs (fun gg => (QE a0 a1.Key (XY a1) a1.Mark (sg u0) (by simp (maxDischargeDepth := 12) [VX, Za (m := 2318336) (by decide) u0]; try omega))) ?_
 exact rt [.tmp 4] f
theorem I0 (a0 : ZK) (a1 : ZB) : Sa 310 [a0.row, a1.row] [rI (yu a0 a1)] := by
 have f := me (yu.eq_1 a0 a1)
 refine so Tryz.func310 Tryz.ntmps310 ?_
 refine lp1 (xn.eq_2 a0 a1) (fun v1_0 => Z9 20 [eX 3 (a1.row.map .d), eL 8 3 a0.ZT ZB.row, eI 9 (↑a0.ZT.length : Int), eI 10 (↑v1_0 : Int)]) (fun n1 v1_0 => a0.ZT.length < n1 + v1_0 ∧ v1_0 ≤ a0.ZT.length) (a0.ZT.length + 1) 0 (fun p1 v1_0 e1 j1 => ?_)
 refine cFf e1 ?_ ?_ <;> intro k2 h1 e1
 ·have i1 := ix h1
  have m2 := ml a0.ZT (k2 8 _ rfl)
  have w1 := wr v1_0
  simp [i1, ZA]
  repeat with_reducible refine sd ?_
  refine cRs (jw (nth a0.ZT v1_0) a1) ?_
  refine cF e1 ?_ ?_ <;> intro k3 h2 e1
  ·have f := ms f e1
   exact rt [.tmp 4] f
  exact ny1 w1 e1
 have f := ms f e1
 exact rt [.tmp 4] f
theorem Uh (a0 : Int) (a1 : Int) : Sa 323 [rI a0, rI a1] [(Q0 a0 a1).1.row, rB (Q0 a0 a1).2] := by
 have f := me (Q0.eq_1 a0 a1)
 refine so Tryz.func323 Tryz.ntmps323 ?_
 refine cGs (fun gg => (Qo (ZD.mk (if 0 > a0 then 0 else a0) (if 10000 < a1 then 10000 else a1)))) ?_
 refine cF f ?_ ?_ <;> intro k1 h1 f
 ·exact rt [.cell 4 77, .tmp 5] f
 exact rt [.cell 4 77, .tmp 5] f
theorem HI (a0 : List ZF) (a1 : ZZ) : Sa 318 [rL 3 ZF.row a0, a1.row] [(JP a0 a1).1.row, rB (JP a0 a1).2] := by
 have f := me (JP.eq_1 a0 a1)
 refine so Tryz.func318 Tryz.ntmps318 ?_
 refine cRs (zt a0 a1.Authority) ?_
 refine gIf ?_ ?_ <;> intro G
 ·have i1 : (Z4 a0 a1.Authority).toNat < a0.length := by have := zy a0 a1.Authority; exact il
  simp [i1, ZA, G]
  repeat with_reducible refine sdg ?_
  refine cGg (fun gg => (KM a1.Time)) ?_
  refine cK f ?_ ?_ <;> intro k1 h1 f
  ·try (simp [G] at h1; done)
   all_goals
    exact rtg [.cell 4 77, .tmp 5] f
  ·try (simp [G] at h1; done)
   all_goals
    refine dIo mixed ?_
    simp [i1, ZA, G]
    repeat with_reducible refine sdg ?_
    refine cRg (Uh (W (a1.Time - (nth a0 (Z4 a0 a1.Authority).toNat).Error)) (W (a1.Time + (nth a0 (Z4 a0 a1.Authority).toNat).Error))) ?_
    exact rtg [.cell 4 77, .tmp 5] f
 ·refine cGg (fun gg => (KM a1.Time)) ?_
  refine cK f ?_ ?_ <;> intro k3 h2 f
  ·try (simp [G] at h2; done)
   all_goals
    exact rtg [.cell 4 77, .tmp 5] f
  ·try (simp [G] at h2; done)
   all_goals
    refine dIo mixed ?_
    have i3 : (Z4 a0 a1.Authority).toNat < a0.length := by have := zy a0 a1.Authority; exact il
    simp [i3, ZA, G]
    repeat with_reducible refine sdg ?_
    refine cRg (Uh (W (a1.Time - (nth a0 (Z4 a0 a1.Authority).toNat).Error)) (W (a1.Time + (nth a0 (Z4 a0 a1.Authority).toNat).Error))) ?_
    exact rtg [.cell 4 77, .tmp 5] f
theorem EV (a0 : List ZD) (a1 : Int) : Sa 356 [rL 2 ZD.row a0, rI a1] [rI (jo a0 a1)] := by
 have f := me (jo.eq_1 a0 a1)
 refine so Tryz.func356 Tryz.ntmps356 ?_
 refine lp2 (zP.eq_2 a0 a1) (fun v1_0 v1_1 => Z9 28 [eI 1 a1, eI 5 v1_0, eL 8 2 a0 ZD.row, eI 9 (↑a0.length : Int), eI 10 (↑v1_1 : Int)]) (fun n1 v1_0 v1_1 => a0.length < n1 + v1_1 ∧ v1_1 ≤ a0.length) (a0.length + 1) 0 0 (fun p1 v1_0 v1_1 e1 j1 => ?_)
 refine cFf e1 ?_ ?_ <;> intro k2 h1 e1
 ·have i1 := ix h1
  have m2 := ml a0 (k2 8 _ rfl)
  have w1 := wr v1_1
  simp [i1, ZA]
  repeat with_reducible refine sd ?_
  refine cRs (Qo (nth a0 v1_1)) ?_
  refine cGs (fun gg => (Zn a1 (nth a0 v1_1).YE (nth a0 v1_1).To)) ?_
  refine cFo e1 ?_ ?_ <;> intro k3 h2 e1
  ·have q2 := h2; try simp [ZS] at q2
   simp
   exact ny2 w1 e1
  have q2 := h2; try simp [ZS] at q2
  simp
  exact ny2 w1 e1
 have f := ms f e1
 exact rt [.tmp 4] f
theorem MV (a0 : List ZD) (a1 : Int) (a2 : Int) : Sa 343 [rL 2 ZD.row a0, rI a1, rI a2] [rB (Zm a0 a1 a2)] := by
 have f := me (Zm.eq_1 a0 a1 a2)
 refine so Tryz.func343 Tryz.ntmps343 ?_
 refine cRs (Zn a2 0 (W ((↑a0.length : Int) - 1))) ?_
 refine cGs (fun gg => (EV a0 a1)) ?_
 exact rt [.tmp 6] f
theorem L2 (a0 : List ZD) (a1 : Int) : Sa 319 [rL 2 ZD.row a0, rI a1] [(zf a0 a1).1.row, rB (zf a0 a1).2] := by
 have f := me (zf.eq_1 a0 a1)
 refine so Tryz.func319 Tryz.ntmps319 ?_
 refine lp4 (X7.eq_2 a0 a1) (fun v1_0 v1_1 v1_2 v1_3 => Z9 25 [eL 0 2 a0 ZD.row, eI 1 a1, (4, .one (.bptr 4 0), [.box [.d (.int .i64 0), .d (.int .i64 0)]]), (6, .one (.bptr 6 0), [.box [.d (.int .i64 v1_2), .d (.int .i64 v1_3)]]), eB 7 v1_0, eI 8 (↑v1_1 : Int)]) (fun n1 v1_0 v1_1 v1_2 v1_3 => 10001 < n1 + v1_1) 10002 false 0 0 0 (fun p1 v1_0 v1_1 v1_2 v1_3 e1 j1 => ?_)
 refine cF e1 ?_ ?_ <;> intro k2 h1 e1
 ·have w1 := wr v1_1
  refine cRs (MV a0 (↑v1_1 : Int) a1) ?_
  refine cF e1 ?_ ?_ <;> intro k3 h2 e1
  ·refine cF e1 ?_ ?_ <;> intro k4 h3 e1
   ·exact ny4 w1 e1
   exact ny4 w1 e1
  exact ny4 w1 e1
 have f := ms f e1
 exact rt [.cell 4 77, .tmp 5] f
theorem Ub (a0 : List ZF) (a1 : List ZZ) (a2 : Int) (u0 : Sm 2318336 a0) (u1 : Sm 2318336 a1) : Sa 271 [rL 3 ZF.row a0, rL 5 ZZ.row a1, rI a2] [(Xt a0 a1 a2).1.row, rB (Xt a0 a1 a2).2] := by
 have f := me (Xt.eq_1 a0 a1 a2)
 refine so Tryz.func271 Tryz.ntmps271 ?_
 refine lp2 (Xd.eq_2 a0 a1) (fun v1_0 v1_1 => Z9 38 [eL 0 3 a0 ZF.row, eI 2 a2, (6, .one (.bptr 6 0), [.box [.d (.int .i64 0), .d (.int .i64 0)]]), (8, .one (.sref 8 0 0 v1_0.length), [.arr false 2 (v1_0.map ZD.row)]), eL 13 5 a1 ZZ.row, eI 14 (↑a1.length : Int), eI 15 (↑v1_1 : Int)]) (fun n1 v1_0 v1_1 => a1.length < n1 + v1_1 ∧ v1_1 ≤ a1.length ∧ v1_0.length ≤ 0 + 1 * v1_1) (a1.length + 1) ([] : List ZD) 0 (fun p1 v1_0 v1_1 e1 j1 => ?_) (h0 := YI [((8, 0), none)] [] rfl (by simp))
 refine cFf e1 ?_ ?_ <;> intro k2 h1 e1
 ·have i1 := ix h1
  have m2 := ml a1 (k2 13 _ rfl)
  have c1 := sl 2318336 a1 (an u0 u1)
  have w1 := wr v1_1
  simp [i1, ZA]
  repeat with_reducible refine sd ?_
  refine cRs (HI a0 (nth a1 v1_1)) ?_
  refine cF e1 ?_ ?_ <;> intro k3 h2 e1
  ·have f := ms f e1
   exact rt [.cell 6 77, .tmp 7] f
  exact nx2 e1 (hw := YI [((8, 0), some (31, 0))] [] rfl (by simp [w1]))
 have c2 := sl 2318336 a1 (an u0 u1)
 have f := ms f e1
 refine cRs (L2 v1_0 a2) ?_
 exact rt [.cell 6 77, .tmp 7] f
theorem N4 (a0 : List ZF) (a1 : ZV) (a2 : Int) (u0 : Sm 2314240 a0) (u1 : Sm 2314240 a1) : Sa 355 [rL 3 ZF.row a0, a1.row, rI a2] [(JR a0 a1 a2).1.row, rB (JR a0 a1 a2).2] := by
 have f := me (JR.eq_1 a0 a1 a2)
 refine so Tryz.func355 Tryz.ntmps355 ?_
 refine cRs (Ub a0 a1.Zf a2 (sg u0) (sg (ZV.R4 u1))) ?_
 exact rt [.cell 6 77, .tmp 7] f
theorem qt (a0 : ZH) (a1 : ZV) (u0 : Sm 2310144 a0) (u1 : Sm 2310144 a1) : Sa 342 [a0.row, a1.row] [(XX a0 a1).1.row, rB (XX a0 a1).2] := by
 have f := me (XX.eq_1 a0 a1)
 refine so Tryz.func342 Tryz.ntmps342 ?_
 refine cRs (N4 a0.ZU a1 a0.QK (sg (ZH.X9 u0)) (sg u1)) ?_
 exact rt [.cell 4 77, .tmp 5] f
theorem W7 (a0 : ZZ) : Sd 317 [a0.row] [rL 1 iR (QI a0)] := by
 have f := me (QI.eq_1 a0)
 refine soD Tryz.func317 Tryz.ntmps317 ?_
 exact rtD [.tmp 2] f
theorem VU (a0 : Int) (a1 : ZV) (u0 : Sm 2326528 a1) : Sa 362 [rI a0, a1.row] [rI (Q8 a0 a1)] := by
 have f := me (Q8.eq_1 a0 a1)
 refine so Tryz.func362 Tryz.ntmps362 ?_
 refine lp2 (Qu.eq_2 a1) (fun v1_0 v1_1 => Z9 59 [eI 0 a0, eX 3 (a1.row.map .d), (5, .one (.sref 5 0 0 v1_0.length), [.arr false 1 (v1_0.map iR)]), eL 19 2 a1.Path Yq.row, eI 20 (↑a1.Path.length : Int), eI 21 (↑v1_1 : Int)]) (fun n1 v1_0 v1_1 => a1.Path.length < n1 + v1_1 ∧ v1_1 ≤ a1.Path.length ∧ v1_0.length ≤ 4 + 2 * v1_1) (a1.Path.length + 1) ([4, a1.Count, a1.Method, a1.MD] : List Int) 0 (fun p1 v1_0 v1_1 e1 j1 => ?_) (h0 := YI [((5, 0), some (17, 0))] [] rfl (by simp))
 refine cFo e1 ?_ ?_ <;> intro k2 h1 e1
 ·have q1 := h1; try simp at q1
  have i1 := ix h1
  have m2 := ml a1.Path (k2 19 _ rfl)
  have c1 := sl 2326528 a1.Path u0
  have w1 := wr v1_1
  simp [i1, ZA]
  repeat with_reducible refine sd ?_
  refine cFo e1 ?_ ?_ <;> intro k3 h2 e1
  ·have q2 := h2; try simp at q2
   simp
   repeat with_reducible refine sd ?_
   exact nx2 e1 (hw := YI [((5, 0), some (32, 0))] [] rfl (by simp [w1]))
  have q2 := h2; try simp at q2
  simp
  repeat with_reducible refine sd ?_
  exact nx2 e1 (hw := YI [((5, 0), some (32, 0))] [] rfl (by simp [w1]))
 have q1 := h1; try simp at q1
 have c2 := sl 2326528 a1.Path u0
 have f := ms f e1
 simp
 repeat with_reducible refine sd ?_
 refine lp2 (KC.eq_2 a1) (fun v2_0 v2_1 => Z9 59 [eI 0 a0, (5, .one (.sref 5 0 0 v2_0.length), [.arr false 1 (v2_0.map iR)]), eL 41 5 a1.Zf ZZ.row, eI 42 (↑a1.Zf.length : Int), eI 43 (↑v2_1 : Int)]) (fun n2 v2_0 v2_1 => a1.Zf.length < n2 + v2_1 ∧ v2_1 ≤ a1.Zf.length ∧ v2_0.length ≤ 5 + 2 * 2326528 + 6 * v2_1) (a1.Zf.length + 1) (v1_0 ++ ([(↑a1.Zf.length : Int)] : List Int)) 0 (fun p2 v2_0 v2_1 e2 j2 => ?_) (hI := by (have o : a1.Path.length ≤ 2326528 := YH (by simp (maxDischargeDepth := 12) [u0]); simp at *; omega)) (h0 := YI [((5, 0), some (39, 0))] [] rfl (by simp))
 try dsimp only at j2
 refine cFo e2 ?_ ?_ <;> intro k5 h3 e2
 ·have q3 := h3; try simp at q3
  have i2 := ix h3
  have m4 := ml a1.Zf (k5 41 _ rfl)
  have c3 := sl 2326528 a1.Zf u0
  have w2 := wr v2_1
  simp [i2, ZA]
  repeat with_reducible refine sd ?_
  refine dIs mixed ?_
  refine cRs (YZ.rd (W7 (nth a1.Zf v2_1))) ?_
  exact nx2 e2 (hI := by (simp; omega)) (hw := YI [((5, 0), some (54, 0))] [] rfl (by simp [w2]))
 have q3 := h3; try simp at q3
 have c4 := sl 2326528 a1.Zf u0
 have f := ms f e2
 simp
 refine cRs (JO a0 v2_0 (by first | (simp (maxDischargeDepth := 12) [XT]; omega) | (simp (maxDischargeDepth := 12) [Za (m := 68719476736) (by decide) u0]; done))) ?_
 exact rt [.tmp 4] f
theorem NJ (a0 : Int) (a1 : List ZB) (u0 : Sm 2326528 a1) : Sa 372 [rI a0, rL 3 ZB.row a1] [rI (zO a0 a1)] := by
 have f := me (zO.eq_1 a0 a1)
 refine so Tryz.func372 Tryz.ntmps372 ?_
 refine lp2 (K4.eq_2 a0 a1) (fun v1_0 v1_1 => Z9 32 [eI 0 a0, (5, .one (.sref 5 0 0 v1_0.length), [.arr false 1 (v1_0.map iR)]), eL 9 3 a1 ZB.row, eI 10 (↑a1.length : Int), eI 11 (↑v1_1 : Int)]) (fun n1 v1_0 v1_1 => a1.length < n1 + v1_1 ∧ v1_1 ≤ a1.length ∧ v1_0.length ≤ 1 + 1 * v1_1) (a1.length + 1) ([2] : List Int) 0 (fun p1 v1_0 v1_1 e1 j1 => ?_) (h0 := YI [((5, 0), some (8, 0))] [] rfl (by simp))
 refine cFf e1 ?_ ?_ <;> intro k2 h1 e1
 ·have i1 := ix h1
  have m2 := ml a1 (k2 9 _ rfl)
  have c1 := sl 2326528 a1 u0
  have w1 := wr v1_1
  have c2 := sl 2326528 (nth a1 v1_1).Zb u0
  simp [i1, ZA]
  repeat with_reducible refine sd ?_
  refine cRs (JO a0 (([(nth a1 v1_1).Key, (nth a1 v1_1).Mark] : List Int) ++ (nth a1 v1_1).Zb) (by simp (maxDischargeDepth := 12) [JX, XT, Za (m := 68719476736) (by decide) u0]; try omega)) ?_
  exact nx2 e1 (hw := YI [((5, 0), some (27, 0))] [] rfl (by simp [w1]))
 have c3 := sl 2326528 a1 u0
 have f := ms f e1
 refine cRs (JO a0 v1_0 (by first | (simp (maxDischargeDepth := 12) [XT]; omega) | (simp (maxDischargeDepth := 12) [Za (m := 68719476736) (by decide) u0]; done))) ?_
 exact rt [.tmp 4] f
theorem Vk (a0 : Int) (a1 : Int) (a2 : List ZB) (a3 : Int) (u0 : Sm 2322432 a2) : Sa 363 [rI a0, rI a1, rL 3 ZB.row a2, rI a3] [rI (TF a0 a1 a2 a3)] := by
 have f := me (TF.eq_1 a0 a1 a2 a3)
 refine so Tryz.func363 Tryz.ntmps363 ?_
 refine cRs (NJ a0 a2 (sg u0)) ?_
 refine cRs (JO a0 ([3, a1, (zO a0 a2), a3] : List Int) (by simp (maxDischargeDepth := 12) [JX, XT, Za (m := 68719476736) (by decide) u0]; try omega)) ?_
 exact rt [.tmp 8] f
theorem Yk {a b : Prop} (h : b) (k : a := by (intros; first | omega | with_unfolding_all (first | first | omega | (have cc : a0.ZM.length ≤ 2318336 := YH (by simp (maxDischargeDepth := 12) [u0]); have z0 := g1x; simp at z0; have z := Qe (by omega) z0.1; have z2 := z0.2; (try have w3 : IntKind.i64.wrap (a2 - 1) = a2 - 1 := YA (by omega) (by omega)); (try have w4 : W (a2 - 1) = a2 - 1 := w3); first | omega | (refine ⟨⟨z0.1, by omega⟩, by omega, by omega⟩) | (simp_all; omega))) | (simp_all; done) | (simp_all; omega) | grind | ((try simp only [Qv, show ∀ x, IntKind.i64.wrap x = W x from fun _ => rfl] at *); omega))) : a ∧ b := ⟨k, h⟩
theorem BF (a0 : ZK) (a1 : List Int) (a2 : Int) (u0 : Sm 2318336 a0) (u1 : Sm 2318336 a1) : Sa 353 [a0.row, rL 1 iR a1, rI a2] [rI (W2 a0 a1 a2)] := by
 have f := me (W2.eq_1 a0 a1 a2)
 refine so Tryz.func353 Tryz.ntmps353 ?_
 refine dIs mixed ?_
 refine cRs (Zn a2 0 (W ((↑a0.ZM.length : Int) - 1))) ?_
 refine gIo ?_ ?_ <;> intro G
 ·have g1x := G
  have c1 := sl 2318336 a0.ZM (an u0 u1)
  have w1 : IntKind.i64.wrap ((a0.ZM.length : Int) - 1) = (a0.ZM.length : Int) - 1 := YA (by omega) (by omega)
  have g1 := G; try simp [ZS, w1] at g1
  have i1 : a2.toNat < a0.ZM.length := by (have cc : a0.ZM.length ≤ 2318336 := YH (by simp (maxDischargeDepth := 12) [u0]); have z0 := g1x; simp at z0; have z := Qe (by omega) z0.1; have z2 := z0.2; (try have w3 : IntKind.i64.wrap (a2 - 1) = a2 - 1 := YA (by omega) (by omega)); (try have w4 : W (a2 - 1) = a2 - 1 := w3); omega)
  simp [i1, ZA, G]
  repeat with_reducible refine Yk ?_
  refine cGo (fun gg => (Zn (nth a0.ZM a2.toNat).Count 0 (↑a0.ZT.length : Int))) ?_
  simp [G]
  repeat with_reducible refine Yk ?_
  refine cKo f ?_ ?_ <;> intro k2 h1 f
  ·try (simp [G] at h1; done)
   all_goals
    have q1 := h1; try simp [ZS, w1] at q1
    simp [G]
    repeat with_reducible refine Yk ?_
    exact rtg [.tmp 6] f
  ·try (simp [G] at h1; done)
   all_goals
    have q1 := h1; try simp [ZS, w1] at q1
    simp [i1, ZA, G]
    repeat with_reducible refine Yk ?_
    refine cKo f ?_ ?_ <;> intro k3 h2 f
    ·try (simp [G] at h2; done)
     all_goals
      simp [G]
      repeat with_reducible refine Yk ?_
      refine dIo mixed ?_
      have i2 : (W (a2 - 1)).toNat < a0.ZM.length := by (have cc : a0.ZM.length ≤ 2318336 := YH (by simp (maxDischargeDepth := 12) [u0]); have z0 := g1x; simp at z0; have z := Qe (by omega) z0.1; have z2 := z0.2; (try have w3 : IntKind.i64.wrap (a2 - 1) = a2 - 1 := YA (by omega) (by omega)); (try have w4 : W (a2 - 1) = a2 - 1 := w3); omega)
      simp [i2, ZA, G]
      repeat with_reducible refine Yk ?_
      refine cR (VU (nth a0.ZM a2.toNat).Method (nth a0.ZM (W (a2 - 1)).toNat) (sg (Zx (ZK.Xo u0)))) ?_ (hrows := by first | (simp; done) | (simp [W, w1]; done))
      simp [G]
      repeat with_reducible refine Yk ?_
      refine dIo mixed ?_
      have i3 : a2.toNat < a1.length := by (have cc : a0.ZM.length ≤ 2318336 := YH (by simp (maxDischargeDepth := 12) [u0]); have z0 := g1x; simp at z0; have z := Qe (by omega) z0.1; have z2 := z0.2; (try have w3 : IntKind.i64.wrap (a2 - 1) = a2 - 1 := YA (by omega) (by omega)); (try have w4 : W (a2 - 1) = a2 - 1 := w3); omega)
      simp [i3, ZA, G]
      repeat with_reducible refine Yk ?_
      refine cR (Vk (nth a0.ZM a2.toNat).Method (nth a1 a2.toNat) (a0.ZT.take (nth a0.ZM a2.toNat).Count.toNat) (Q8 (nth a0.ZM a2.toNat).Method (nth a0.ZM (W (a2 - 1)).toNat)) (Za (n := 2318336) (by decide) (by simp (maxDischargeDepth := 12) [u0, u1]))) ?_ (hrows := by first | (simp; done) | (simp [W, w1]; done))
      simp [G]
      repeat with_reducible refine Yk ?_
      exact rtg [.tmp 6] f
    ·try (simp [G] at h2; done)
     all_goals
      simp [G]
      repeat with_reducible refine Yk ?_
      refine dIo mixed ?_
      have i4 : a2.toNat < a1.length := by (have cc : a0.ZM.length ≤ 2318336 := YH (by simp (maxDischargeDepth := 12) [u0]); have z0 := g1x; simp at z0; have z := Qe (by omega) z0.1; have z2 := z0.2; (try have w3 : IntKind.i64.wrap (a2 - 1) = a2 - 1 := YA (by omega) (by omega)); (try have w4 : W (a2 - 1) = a2 - 1 := w3); omega)
      simp [i4, ZA, G]
      repeat with_reducible refine Yk ?_
      refine cR (Vk (nth a0.ZM a2.toNat).Method (nth a1 a2.toNat) (a0.ZT.take (nth a0.ZM a2.toNat).Count.toNat) 0 (Za (n := 2318336) (by decide) (by simp (maxDischargeDepth := 12) [u0, u1]))) ?_
      simp [G]
      repeat with_reducible refine Yk ?_
      exact rtg [.tmp 6] f
 ·have g1x := G
  simp [G]
  repeat with_reducible refine Yk ?_
  refine sGo ?_
  simp [G]
  repeat with_reducible refine Yk ?_
  have c2 := sl 2318336 a0.ZM (an u0 u1)
  have w2 : IntKind.i64.wrap ((a0.ZM.length : Int) - 1) = (a0.ZM.length : Int) - 1 := YA (by omega) (by omega)
  refine cKo f ?_ ?_ <;> intro k7 h3 f
  ·try (simp [G] at h3; done)
   all_goals
    have q3 := h3; try simp [ZS, w2] at q3
    simp [G]
    repeat with_reducible refine Yk ?_
    exact rtg [.tmp 6] f
  ·try (simp [G] at h3; done)
   all_goals
    have q3 := h3; try simp [ZS, w2] at q3
    have i6 : a2.toNat < a0.ZM.length := by (have cc : a0.ZM.length ≤ 2318336 := YH (by simp (maxDischargeDepth := 12) [u0]); have z0 := g1x; simp at z0; have z := Qe (by omega) z0.1; have z2 := z0.2; (try have w3 : IntKind.i64.wrap (a2 - 1) = a2 - 1 := YA (by omega) (by omega)); (try have w4 : W (a2 - 1) = a2 - 1 := w3); omega)
    simp [i6, ZA, G]
    repeat with_reducible refine Yk ?_
    refine cKo f ?_ ?_ <;> intro k8 h4 f
    ·try (simp [G] at h4; done)
     all_goals
      simp [G]
      repeat with_reducible refine Yk ?_
      refine dIo mixed ?_
      have i7 : (W (a2 - 1)).toNat < a0.ZM.length := by (have cc : a0.ZM.length ≤ 2318336 := YH (by simp (maxDischargeDepth := 12) [u0]); have z0 := g1x; simp at z0; have z := Qe (by omega) z0.1; have z2 := z0.2; (try have w3 : IntKind.i64.wrap (a2 - 1) = a2 - 1 := YA (by omega) (by omega)); (try have w4 : W (a2 - 1) = a2 - 1 := w3); omega)
      simp [i7, ZA, G]
      repeat with_reducible refine Yk ?_
      refine cR (VU (nth a0.ZM a2.toNat).Method (nth a0.ZM (W (a2 - 1)).toNat) (sg (Zx (ZK.Xo u0)))) ?_ (hrows := by first | (simp; done) | (simp [W, w2]; done))
      simp [G]
      repeat with_reducible refine Yk ?_
      refine dIo mixed ?_
      have i8 : a2.toNat < a1.length := by (have cc : a0.ZM.length ≤ 2318336 := YH (by simp (maxDischargeDepth := 12) [u0]); have z0 := g1x; simp at z0; have z := Qe (by omega) z0.1; have z2 := z0.2; (try have w3 : IntKind.i64.wrap (a2 - 1) = a2 - 1 := YA (by omega) (by omega)); (try have w4 : W (a2 - 1) = a2 - 1 := w3); omega)
      simp [i8, ZA, G]
      repeat with_reducible refine Yk ?_
      refine cR (Vk (nth a0.ZM a2.toNat).Method (nth a1 a2.toNat) (a0.ZT.take (nth a0.ZM a2.toNat).Count.toNat) (Q8 (nth a0.ZM a2.toNat).Method (nth a0.ZM (W (a2 - 1)).toNat)) (Za (n := 2318336) (by decide) (by simp (maxDischargeDepth := 12) [u0, u1]))) ?_ (hrows := by first | (simp; done) | (simp [W, w2]; done))
      simp [G]
      repeat with_reducible refine Yk ?_
      exact rtg [.tmp 6] f
    ·try (simp [G] at h4; done)
     all_goals
      simp [G]
      repeat with_reducible refine Yk ?_
      refine dIo mixed ?_
      have i9 : a2.toNat < a1.length := by (have cc : a0.ZM.length ≤ 2318336 := YH (by simp (maxDischargeDepth := 12) [u0]); have z0 := g1x; simp at z0; have z := Qe (by omega) z0.1; have z2 := z0.2; (try have w3 : IntKind.i64.wrap (a2 - 1) = a2 - 1 := YA (by omega) (by omega)); (try have w4 : W (a2 - 1) = a2 - 1 := w3); omega)
      simp [i9, ZA, G]
      repeat with_reducible refine Yk ?_
      refine cR (Vk (nth a0.ZM a2.toNat).Method (nth a1 a2.toNat) (a0.ZT.take (nth a0.ZM a2.toNat).Count.toNat) 0 (Za (n := 2318336) (by decide) (by simp (maxDischargeDepth := 12) [u0, u1]))) ?_
      simp [G]
      repeat with_reducible refine Yk ?_
      exact rtg [.tmp 6] f
theorem SO (a0 : Int) (a1 : Int) (a2 : Int) : Sa 370 [rI a0, rI a1, rI a2] [rI (xQ a0 a1 a2)] := by
 have f := me (xQ.eq_1 a0 a1 a2)
 refine so Tryz.func370 Tryz.ntmps370 ?_
 refine cRs (JO a0 ([1, a1, a2] : List Int) (by simp (maxDischargeDepth := 12) [JX, XT]; try omega)) ?_
 exact rt [.tmp 6] f
theorem Ls (a0 : Int) (a1 : Int) (a2 : List Yq) : Sa 360 [rI a0, rI a1, rL 2 Yq.row a2] [rI (jE a0 a1 a2)] := by
 have f := me (jE.eq_1 a0 a1 a2)
 refine so Tryz.func360 Tryz.ntmps360 ?_
 refine lp2 (Kw.eq_2 a0 a2) (fun v1_0 v1_1 => Z9 29 [eI 0 a0, eI 1 v1_0, eL 9 2 a2 Yq.row, eI 10 (↑a2.length : Int), eI 11 (↑v1_1 : Int)]) (fun n1 v1_0 v1_1 => a2.length < n1 + v1_1 ∧ v1_1 ≤ a2.length) (a2.length + 1) a1 0 (fun p1 v1_0 v1_1 e1 j1 => ?_)
 refine cFf e1 ?_ ?_ <;> intro k2 h1 e1
 ·have i1 := ix h1
  have m2 := ml a2 (k2 9 _ rfl)
  have w1 := wr v1_1
  simp [i1, ZA]
  repeat with_reducible refine sd ?_
  refine cF e1 ?_ ?_ <;> intro k3 h2 e1
  ·refine cRs (SO a0 (nth a2 v1_1).Yo v1_0) ?_
   exact ny2 w1 e1
  refine cRs (SO a0 v1_0 (nth a2 v1_1).Yo) ?_
  exact ny2 w1 e1
 have f := ms f e1
 exact rt [.tmp 6] f
theorem zw (a0 : List ZZ) : Sa 267 [rL 5 ZZ.row a0] [rB (Yn a0)] := by
 have f := me (Yn.eq_1 a0)
 refine so Tryz.func267 Tryz.ntmps267 ?_
 refine lp1 (QM.eq_2 a0) (fun v1_0 => Z9 22 [eL 0 5 a0 ZZ.row, eI 3 (↑v1_0 : Int)]) (fun n1 v1_0 => a0.length < n1 + v1_0 ∧ 1 ≤ v1_0) (a0.length + 1) 1 (fun p1 v1_0 e1 j1 => ?_)
 refine cF e1 ?_ ?_ <;> intro k2 h1 e1
 ·have i1 := ix h1
  have m2 := ml a0 (k2 0 _ rfl)
  have w1 := wr v1_0
  refine dIo mixed ?_
  have i2 := ik (v1_0 - 1) a0
  have w2 : IntKind.i64.wrap ((v1_0 : Int) - 1) = (v1_0 : Int) - 1 := YA (by omega) (by omega)
  simp [i2, ZA, w2, Y7, i1]
  repeat with_reducible refine sd ?_
  refine cF e1 ?_ ?_ <;> intro k4 h2 e1
  ·have f := ms f e1
   exact rt [.tmp 2] f
  exact ny1 (an w1 w2) e1
 have f := ms f e1
 exact rt [.tmp 2] f
theorem H4 (a0 : List Zy) (a1 : List ZF) (a2 : ZZ) (u0 : Sm 2318336 a0) (u1 : Sm 2318336 a1) : Sa 371 [rL 5 Zy.row a0, rL 3 ZF.row a1, a2.row] [(Qi a0 a1 a2).1.row, rB (Qi a0 a1 a2).2] := by
 have f := me (Qi.eq_1 a0 a1 a2)
 refine so Tryz.func371 Tryz.ntmps371 ?_
 refine cRs (zt a1 a2.Authority) ?_
 refine cGs (fun gg => (KM a2.Time)) ?_
 refine cF f ?_ ?_ <;> intro k1 h1 f
 ·exact rt [.cell 6 279, .tmp 7] f
 refine dIo mixed ?_
 have i1 : (Z4 a1 a2.Authority).toNat < a1.length := by have := zy a1 a2.Authority; exact il
 simp [i1, ZA]
 repeat with_reducible refine sd ?_
 refine cRs (YZ.rd (W7 a2)) ?_
 refine cRs (Mw a0 (nth a1 (Z4 a1 a2.Authority).toNat).Key (QI a2) (sg u0) (by simp (maxDischargeDepth := 12) [Ii, Za (m := 2322432) (by decide) u0, Za (m := 2322432) (by decide) u1]; try omega)) ?_
 refine cF f ?_ ?_ <;> intro k3 h2 f
 ·exact rt [.cell 6 279, .tmp 7] f
 exact rt [.cell 6 279, .tmp 7] f
theorem LU (a0 : List Zy) (a1 : List ZF) (a2 : ZZ) (u0 : Sm 2314240 a0) (u1 : Sm 2314240 a1) : Sa 361 [rL 5 Zy.row a0, rL 3 ZF.row a1, a2.row] [rB (qx a0 a1 a2)] := by
 have f := me (qx.eq_1 a0 a1 a2)
 refine so Tryz.func361 Tryz.ntmps361 ?_
 refine cRs (H4 a0 a1 a2 (sg u0) (sg u1)) ?_
 exact rt [.tmp 6] f
theorem OC (a0 : List Zy) (a1 : List ZF) (a2 : ZV) (a3 : Int) (u0 : Sm 2310144 a0) (u1 : Sm 2310144 a1) (u2 : Sm 2310144 a2) : Sa 352 [rL 5 Zy.row a0, rL 3 ZF.row a1, a2.row, rI a3] [rB (K7 a0 a1 a2 a3)] := by
 have f := me (K7.eq_1 a0 a1 a2 a3)
 refine so Tryz.func352 Tryz.ntmps352 ?_
 refine dIs mixed ?_
 refine cGs (fun gg => (Ls a2.Method a3 a2.Path)) ?_
 refine cGs (fun gg => (Zn (↑a2.Zf.length : Int) 1 6)) ?_
 refine cGs (fun gg => (zw a2.Zf)) ?_
 refine cFo f ?_ ?_ <;> intro k2 h1 f
 ·have q1 := h1; try simp [ZS] at q1
  simp
  exact rt [.tmp 8] f
 have q1 := h1; try simp [ZS] at q1
 simp
 refine lp1 (K0.eq_2 a0 a1 a2) (fun v1_0 => Z9 59 [eL 0 5 a0 Zy.row, eL 1 3 a1 ZF.row, eX 6 (a2.row.map .d), eL 40 5 a2.Zf ZZ.row, eI 41 (↑a2.Zf.length : Int), eI 42 (↑v1_0 : Int)]) (fun n1 v1_0 => a2.Zf.length < n1 + v1_0 ∧ v1_0 ≤ a2.Zf.length) (a2.Zf.length + 1) 0 (fun p1 v1_0 e1 j1 => ?_)
 refine cFf e1 ?_ ?_ <;> intro k4 h2 e1
 ·have i1 := ix h2
  have m2 := ml a2.Zf (k4 40 _ rfl)
  have c1 := sl 2310144 a2.Zf (an u0 (an u1 u2))
  have w1 := wr v1_0
  simp [i1, ZA]
  repeat with_reducible refine sd ?_
  refine cGs (fun gg => (LU a0 a1 (nth a2.Zf v1_0) (sg u0) (sg u1))) ?_
  refine cF e1 ?_ ?_ <;> intro k5 h3 e1
  ·have f := ms f e1
   exact rt [.tmp 8] f
  exact ny1 w1 e1
 have c2 := sl 2310144 a2.Zf (an u0 (an u1 u2))
 have f := ms f e1
 exact rt [.tmp 8] f
theorem LN (a0 : List Zg) (a1 : Int) : Sa 261 [rL 4 Zg.row a0, rI a1] [rI (KJ a0 a1)] := by
 have f := me (KJ.eq_1 a0 a1)
 refine so Tryz.func261 Tryz.ntmps261 ?_
 refine lp1 (Kt.eq_2 a0 a1) (fun v1_0 => Z9 20 [eI 1 a1, eL 7 4 a0 Zg.row, eI 8 (↑a0.length : Int), eI 9 (↑v1_0 : Int)]) (fun n1 v1_0 => a0.length < n1 + v1_0 ∧ v1_0 ≤ a0.length) (a0.length + 1) 0 (fun p1 v1_0 e1 j1 => ?_)
 refine cFf e1 ?_ ?_ <;> intro k2 h1 e1
 ·have i1 := ix h1
  have m2 := ml a0 (k2 7 _ rfl)
  have w1 := wr v1_0
  simp [i1, ZA]
  repeat with_reducible refine sd ?_
  refine cF e1 ?_ ?_ <;> intro k3 h2 e1
  ·have f := ms f e1
   exact rt [.tmp 4] f
  exact ny1 w1 e1
 have f := ms f e1
 exact rt [.tmp 4] f
theorem Wn (a0 : List Zg) (a1 : Int) : Sa 201 [rL 4 Zg.row a0, rI a1] [rI (zI a0 a1)] := by
 have f := me (zI.eq_1 a0 a1)
 refine so Tryz.func201 Tryz.ntmps201 ?_
 refine cRs (LN a0 a1) ?_
 refine cFf f ?_ ?_ <;> intro k1 h1 f
 ·have i1 : (KJ a0 a1).toNat < a0.length := by have := LB a0 a1; exact il
  simp [i1, ZA]
  repeat with_reducible refine sd ?_
  exact rt [.tmp 4] f
 exact rt [.tmp 4] f
theorem UR (a0 : List ZF) (a1 : ZZ) : Sa 270 [rL 3 ZF.row a0, a1.row] [rI (XH a0 a1)] := by
 have f := me (XH.eq_1 a0 a1)
 refine so Tryz.func270 Tryz.ntmps270 ?_
 refine cRs (zt a0 a1.Authority) ?_
 refine cFf f ?_ ?_ <;> intro k1 h1 f
 ·have i1 : (Z4 a0 a1.Authority).toNat < a0.length := by have := zy a0 a1.Authority; exact il
  simp [i1, ZA]
  repeat with_reducible refine sd ?_
  exact rt [.tmp 4] f
 exact rt [.tmp 4] f
theorem OM (a0 : List Zy) (a1 : List ZF) (a2 : List Zg) (a3 : ZV) : Sa 364 [rL 5 Zy.row a0, rL 3 ZF.row a1, rL 4 Zg.row a2, a3.row] [rI (Kv a0 a1 a2 a3)] := by
 have f := me (Kv.eq_1 a0 a1 a2 a3)
 refine so Tryz.func364 Tryz.ntmps364 ?_
 refine cRs (Wn a2 a3.Method) ?_
 refine lp2 (K5.eq_2 a0 a1 a2 a3) (fun v1_0 v1_1 => Z9 42 [eL 0 5 a0 Zy.row, eL 1 3 a1 ZF.row, eL 2 4 a2 Zg.row, eI 9 v1_0, eL 18 5 a3.Zf ZZ.row, eI 19 (↑a3.Zf.length : Int), eI 20 (↑v1_1 : Int)]) (fun n1 v1_0 v1_1 => a3.Zf.length < n1 + v1_1 ∧ v1_1 ≤ a3.Zf.length) (a3.Zf.length + 1) (zI a2 a3.Method) 0 (fun p1 v1_0 v1_1 e1 j1 => ?_)
 refine cFf e1 ?_ ?_ <;> intro k2 h1 e1
 ·have i1 := ix h1
  have m2 := ml a3.Zf (k2 18 _ rfl)
  have w1 := wr v1_1
  simp [i1, ZA]
  repeat with_reducible refine sd ?_
  refine cRs (UR a1 (nth a3.Zf v1_1)) ?_
  refine cRs (xC a0 (XH a1 (nth a3.Zf v1_1))) ?_
  refine cFt e1 ?_ ?_ <;> intro k3 h2 e1
  ·have f := ms f e1
   exact rt [.tmp 8] f
  have i2 : (Yg a0 (XH a1 (nth a3.Zf v1_1))).toNat < a0.length := by have := qu a0 (XH a1 (nth a3.Zf v1_1)); exact il
  simp [i2, ZA]
  repeat with_reducible refine sd ?_
  refine cRs (Wn a2 (nth a0 (Yg a0 (XH a1 (nth a3.Zf v1_1))).toNat).Method) ?_
  exact ny2 w1 e1
 have f := ms f e1
 exact rt [.tmp 8] f
theorem Rl {a b : Prop} (h : b) (k : a := by (intros; first | omega | with_unfolding_all (first | (first | omega | (have mm : a1.ZM.length ≤ 2306048 := YH (by simp (maxDischargeDepth := 12) [u1]); have ww := RS a1.ZM.length (by omega); (try rw [ww] at q1); (try rw [ww] at q2); have w3 : W (a2 + 1) = a2 + 1 := YA (by omega) (by omega); have w4 : IntKind.i64.wrap (a2 + 1) = a2 + 1 := w3; omega))) | ((try simp only [Qv, show ∀ x, IntKind.i64.wrap x = W x from fun _ => rfl] at *); omega))) : a ∧ b := ⟨k, h⟩
theorem Re (a0 : ZH) (a1 : ZK) (a2 : Int) (u0 : Sm 2306048 a0) (u1 : Sm 2306048 a1) : Sa 354 [a0.row, a1.row, rI a2] [rB (qc a0 a1 a2)] := by
 have f := me (qc.eq_1 a0 a1 a2)
 refine so Tryz.func354 Tryz.ntmps354 ?_
 refine cRs (Zn a2 0 (W ((↑a1.ZM.length : Int) - 1))) ?_
 have c1 := sl 2306048 a1.ZM (an u0 u1)
 have w1 : IntKind.i64.wrap ((a1.ZM.length : Int) - 1) = (a1.ZM.length : Int) - 1 := YA (by omega) (by omega)
 refine cFo f ?_ ?_ <;> intro k1 h1 f
 ·have q1 := h1; try simp [ZS, w1] at q1
  simp
  exact rt [.tmp 6] f
 have q1 := h1; try simp [ZS, w1] at q1
 simp
 refine dIo mixed ?_
 have i1 : a2.toNat < a1.ZM.length := by (have mm : a1.ZM.length ≤ 2306048 := YH (by simp (maxDischargeDepth := 12) [u1]); (try simp [ZS] at q1); have ww := RS a1.ZM.length (by omega); first | omega | ((try rw [ww] at q1); (try rw [ww] at q2); have w3 : W (a2 + 1) = a2 + 1 := YA (by omega) (by omega); omega))
 simp [i1, ZA]
 repeat with_reducible refine Rl ?_
 refine cRs (OM a0.Yb a0.ZU a0.Methods (nth a1.ZM a2.toNat)) ?_
 refine cFo f ?_ ?_ <;> intro k3 h2 f
 ·have q2 := h2; try simp [w1] at q2
  simp
  exact rt [.tmp 6] f
 have q2 := h2; try simp [w1] at q2
 simp
 refine dIo mixed ?_
 have i2 : (W (a2 + 1)).toNat < a1.ZM.length := by (have mm : a1.ZM.length ≤ 2306048 := YH (by simp (maxDischargeDepth := 12) [u1]); (try simp [ZS] at q1); have ww := RS a1.ZM.length (by omega); first | omega | ((try rw [ww] at q1); (try rw [ww] at q2); have w3 : W (a2 + 1) = a2 + 1 := YA (by omega) (by omega); omega))
 simp [i2, ZA]
 repeat with_reducible refine Rl ?_
 refine cRs (qt a0 (nth a1.ZM (W (a2 + 1)).toNat) (sg u0) (sg (Zx (ZK.Xo u1)))) ?_ (hrows := by first | (simp; done) | (simp [W, w1]; done))
 exact rt [.tmp 6] f
theorem Hk (a0 : ZH) (a1 : ZK) (a2 : List Int) (u0 : Sm 2301952 a0) (u1 : Sm 2301952 a1) (u2 : Sm 2301952 a2) : Sa 341 [a0.row, a1.row, rL 1 iR a2] [rI (KN a0 a1 a2)] := by
 have f := me (KN.eq_1 a0 a1 a2)
 refine so Tryz.func341 Tryz.ntmps341 ?_
 refine okL fun k1 => ?_
 refine lp1 (Kg.eq_2 a0 a1 a2) (fun v1_0 => Z9 58 [eL 2 1 a2 iR, eX 3 (a0.row.map .d), eX 4 (a1.row.map .d), eI 7 (↑v1_0 : Int)]) (fun n1 v1_0 => v1_0 < n1 ∧ v1_0 ≤ a1.ZM.length) (a1.ZM.length + 1) a1.ZM.length (fun p1 v1_0 e1 j1 => ?_)
 refine cFo e1 ?_ ?_ <;> intro k2 h1 e1
 ·have q1 := h1; try simp at q1
  have m1 := ml a1.ZM (k1 11 _ rfl)
  have w1 : IntKind.i64.wrap ((v1_0 : Int) - 1) = (v1_0 : Int) - 1 := YA (by omega) (by omega)
  have w2 : ((v1_0 - 1 : Nat) : Int) = (v1_0 : Int) - 1 := by omega
  simp
  refine dIo mixed ?_
  have i2 := ik (v1_0 - 1) a1.ZM
  simp [i2, ZA, w1, Y7]
  repeat with_reducible refine sd ?_
  refine cRs (qt a0 (nth a1.ZM (v1_0 - 1)) (sg u0) (sg (Zx (ZK.Xo u1)))) ?_
  refine dIs mixed ?_
  refine gIf ?_ ?_ <;> intro G
  ·have g1x := G
   have g1 := G; try simp at g1
   simp [i2, ZA, w1, Y7, G]
   repeat with_reducible refine sdg ?_
   refine wK rfl rfl rfl rfl rfl rfl (fun gg => (BF a1 a2 (W ((↑v1_0 : Int) - 1)) (sg u1) (sg u2))) (by first | (simp; done) | (simp [G]; done) | (simp [G]; omega) | (simp_all; done)) (by first | (simp; done) | (simp [G]; done) | (simp [G]; omega) | (simp_all; done)) (by first | (simp; done) | (simp [G]; done) | (simp [G]; omega) | (simp_all; done)) (by first | (simp; done) | (simp [G]; done) | (simp [G]; omega) | (simp_all; done)) ?_
   simp [G]
   repeat with_reducible refine sdg ?_
   refine wK rfl rfl rfl rfl rfl rfl (fun gg => (OC a0.Yb a0.ZU (nth a1.ZM (v1_0 - 1)) (W2 a1 a2 (W ((↑v1_0 : Int) - 1))) (sg (ZH.YL u0)) (sg (ZH.X9 u0)) (sg (Zx (ZK.Xo u1))))) (by first | (simp; done) | (simp [G]; done) | (simp [G]; omega) | (simp_all; done)) (by first | (simp; done) | (simp [G]; done) | (simp [G]; omega) | (simp_all; done)) (by first | (simp; done) | (simp [G]; done) | (simp [G]; omega) | (simp_all; done)) (by first | (simp; done) | (simp [G]; done) | (simp [G]; omega) | (simp_all; done)) ?_
   simp [G]
   repeat with_reducible refine sdg ?_
   refine wK rfl rfl rfl rfl rfl rfl (fun gg => (Re a0 a1 (W ((↑v1_0 : Int) - 1)) (sg u0) (sg u1))) (by first | (simp; done) | (simp [G]; done) | (simp [G]; omega) | (simp_all; done)) (by first | (simp; done) | (simp [G]; done) | (simp [G]; omega) | (simp_all; done)) (by first | (simp; done) | (simp [G]; done) | (simp [G]; omega) | (simp_all; done)) (by first | (simp; done) | (simp [G]; done) | (simp [G]; omega) | (simp_all; done)) ?_
   simp [G]
   repeat with_reducible refine sdg ?_
   refine cKo e1 ?_ ?_ <;> intro k5 h2 e1
   ·try (simp [G] at h2; done)
    all_goals
     have q2 := h2; try simp [w1, w2] at q2
     have f := ms f e1
     simp [G]
     repeat with_reducible refine sdg ?_
     exact rtg [.tmp 6] f
   ·try (simp [G] at h2; done)
    all_goals
     have q2 := h2; try simp [w1, w2] at q2
     simp [G]
     repeat with_reducible refine sdg ?_
     exact ny1 (an w1 (an w2 G)) e1
  ·have g1x := G
   refine sGo ?_
   simp [G]
   repeat with_reducible refine sdg ?_
   refine sGo ?_
   simp [G]
   repeat with_reducible refine sdg ?_
   refine wK rfl rfl rfl rfl rfl rfl (fun gg => (Re a0 a1 (W ((↑v1_0 : Int) - 1)) (sg u0) (sg u1))) (by first | (simp; done) | (simp [G]; done) | (simp [G]; omega) | (simp_all; done)) (by first | (simp; done) | (simp [G]; done) | (simp [G]; omega) | (simp_all; done)) (by first | (simp; done) | (simp [G]; done) | (simp [G]; omega) | (simp_all; done)) (by first | (simp; done) | (simp [G]; done) | (simp [G]; omega) | (simp_all; done)) ?_
   simp [G]
   repeat with_reducible refine sdg ?_
   refine cKo e1 ?_ ?_ <;> intro k6 h3 e1
   ·try (simp [G] at h3; done)
    all_goals
     have q3 := h3; try simp [w1, w2] at q3
     have f := ms f e1
     simp [G]
     repeat with_reducible refine sdg ?_
     exact rtg [.tmp 6] f
   ·try (simp [G] at h3; done)
    all_goals
     have q3 := h3; try simp [w1, w2] at q3
     simp [G]
     repeat with_reducible refine sdg ?_
     exact ny1 (an w1 (an w2 G)) e1
 have q1 := h1; try simp at q1
 have f := ms f e1
 simp
 exact rt [.tmp 6] f
theorem Eg (a0 : ZH) (a1 : ZK) (a2 : List Int) (a3 : Int) (u0 : Sm 2297856 a0) (u1 : Sm 2297856 a1) (u2 : Sm 2297856 a2) : Sa 311 [a0.row, a1.row, rL 1 iR a2, rI a3] [rI (Un a0 a1 a2 a3)] := by
 have f := me (Un.eq_1 a0 a1 a2 a3)
 refine so Tryz.func311 Tryz.ntmps311 ?_
 refine cRs (Hk a0 a1 a2 (sg u0) (sg u1) (sg u2)) ?_
 refine lp2 (qI.eq_2 a0 a1 a3) (fun v1_0 v1_1 => Z9 49 [eI 3 a3, eX 4 (a0.row.map .d), eX 5 (a1.row.map .d), eI 9 v1_0, eI 10 v1_1]) (fun n1 v1_0 v1_1 => (a1.ZM.length : Int) + 1 < n1 + v1_1 ∧ 0 ≤ v1_1 ∧ v1_1 ≤ a1.ZM.length) (a1.ZM.length + 2) a0.Now (KN a0 a1 a2) (fun p1 v1_0 v1_1 e1 j1 => ?_) (hI := by (have z := LW a0 a1 a2; (try dsimp only); omega))
 try dsimp only at j1
 refine cF e1 ?_ ?_ <;> intro k2 h1 e1
 ·refine okD fun k3 => ?_
  refine dIo mixed ?_
  have i1 := ik v1_1.toNat a1.ZM
  simp [i1, ZA]
  repeat with_reducible refine sd ?_
  refine cRf i1 (qt a0 (nth a1.ZM v1_1.toNat) (sg u0) (sg (Zx (ZK.Xo u1)))) ?_
  refine cF e1 ?_ ?_ <;> intro k4 h2 e1
  ·exact nx2 e1 (hI := by (have cc : a1.ZM.length ≤ 2297856 := YH (by simp (maxDischargeDepth := 12) [u1]); have w2 : W (v1_1 + 1) = v1_1 + 1 := YA (by simp at *; omega) (by simp at *; omega); (try dsimp only); rw [w2]; simp at *; omega))
  exact nx2 e1 (hI := by (have cc : a1.ZM.length ≤ 2297856 := YH (by simp (maxDischargeDepth := 12) [u1]); have w2 : W (v1_1 + 1) = v1_1 + 1 := YA (by simp at *; omega) (by simp at *; omega); (try dsimp only); rw [w2]; simp at *; omega))
 have f := ms f e1
 exact rt [.tmp 8] f
theorem Li (a0 : ZH) (a1 : ZK) (a2 : List Int) (a3 : ZB) (u0 : Sm 2293760 a0) (u1 : Sm 2293760 a1) (u2 : Sm 2293760 a2) (u3 : Sm 2293760 a3) : Sa 260 [a0.row, a1.row, rL 1 iR a2, a3.row] [rI (xM a0 a1 a2 a3)] := by
 have f := me (xM.eq_1 a0 a1 a2 a3)
 refine so Tryz.func260 Tryz.ntmps260 ?_
 refine cRs (I0 a1 a3) ?_
 refine cF f ?_ ?_ <;> intro k1 h1 f
 ·exact rt [.tmp 8] f
 refine cRs (Eg a0 a1 a2 (yu a1 a3) (sg u0) (sg u1) (sg u2)) ?_
 exact rt [.tmp 8] f
theorem W1 (a0 : ZH) (a1 : ZI) (a2 : List (List Int)) (a3 : ZB) (u0 : Sm 2289664 a0) (u1 : Sm 2289664 a1) (u2 : Sm 2289664 a2) (u3 : Sm 2289664 a3) : Sa 198 [a0.row, a1.row, rL 1 (slR 1 iR) a2, a3.row] [rI (YO a0 a1 a2 a3)] := by
 have f := me (YO.eq_1 a0 a1 a2 a3)
 refine so Tryz.func198 Tryz.ntmps198 ?_
 refine lp2 (Xj.eq_2 a0 a1 a2 a3) (fun v1_0 v1_1 => Z9 38 [eL 2 1 a2 (slR 1 iR), eX 4 (a0.row.map .d), eX 7 (a3.row.map .d), eI 9 v1_0, eL 15 2 a1.ZL ZK.row, eI 16 (↑a1.ZL.length : Int), eI 17 (↑v1_1 : Int)]) (fun n1 v1_0 v1_1 => a1.ZL.length < n1 + v1_1 ∧ v1_1 ≤ a1.ZL.length) (a1.ZL.length + 1) a0.Now 0 (fun p1 v1_0 v1_1 e1 j1 => ?_)
 refine cFf e1 ?_ ?_ <;> intro k2 h1 e1
 ·have i1 := ix h1
  have m2 := ml a1.ZL (k2 15 _ rfl)
  have c1 := sl 2289664 a1.ZL (an u0 (an u1 (an u2 u3)))
  have w1 := wr v1_1
  simp [i1, ZA]
  repeat with_reducible refine sd ?_
  refine cF e1 ?_ ?_ <;> intro k3 h2 e1
  ·have i2 := ix h2
   have m4 := ml a2 (k3 2 _ rfl)
   have c2 := sl 2289664 a2 (an u0 (an u1 (an u2 u3)))
   have w2 := wr v1_1
   refine dIo mixed ?_
   simp [i2, ZA]
   repeat with_reducible refine sd ?_
   refine cRs (Li a0 (nth a1.ZL v1_1) (nth a2 v1_1) a3 (sg u0) (sg (Zx (ZI.YS u1))) (sg (Zx u2)) (sg u3)) ?_
   exact ny2 w2 e1
  have c3 := sl 2289664 a2 (an u0 (an u1 (an u2 u3)))
  exact ny2 w1 e1
 have c4 := sl 2289664 a1.ZL (an u0 (an u1 (an u2 u3)))
 have f := ms f e1
 exact rt [.tmp 8] f
theorem SZ (a0 : ZH) (a1 : Int) : Sa 200 [a0.row, rI a1] [rI (JJ a0 a1)] := by
 have f := me (JJ.eq_1 a0 a1)
 refine so Tryz.func200 Tryz.ntmps200 ?_
 refine cRs (xC a0.Yb a1) ?_
 refine cF f ?_ ?_ <;> intro k1 h1 f
 ·exact rt [.tmp 4] f
 refine dIo mixed ?_
 have i1 : (Yg a0.Yb a1).toNat < a0.Yb.length := by have := qu a0.Yb a1; exact il
 simp [i1, ZA]
 repeat with_reducible refine sd ?_
 refine cRs (Wn a0.Methods (nth a0.Yb (Yg a0.Yb a1).toNat).Method) ?_
 exact rt [.tmp 4] f
theorem JY (a0 : ZB) : Sa 312 [a0.row] [rI (Zv a0)] := by
 have f := me (Zv.eq_1 a0)
 refine so Tryz.func312 Tryz.ntmps312 ?_
 refine dIs mixed ?_
 refine gIf ?_ ?_ <;> intro G
 ·have i1 := ik 0 a0.Zb
  simp [i1, ZA, G]
  repeat with_reducible refine sdg ?_
  refine cGg (fun gg => (Zn (nth a0.Zb 0) 101 105)) ?_
  refine gJf G ?_ ?_ <;> intro G
  ·try (simp at G; done)
   all_goals
    have g2 := G.2; try simp [ZS] at g2
    all_goals
     simp [i1, ZA, G]
     repeat with_reducible refine sdg ?_
     refine gK (fun _ => ?_)
     have r1 : ∀ i : Nat, i < 5 → cut [At.d (.int .i64 7), At.d (.int .i64 5), At.d (.int .i64 5), At.d (.int .i64 9), At.d (.int .i64 6)] i 1 = [At.d (.int .i64 (nth ([7, 5, 5, 9, 6] : List Int) i))] := by intro i h; (have z : i = 0 ∨ i = 1 ∨ i = 2 ∨ i = 3 ∨ i = 4 := by omega); rcases z with rfl | rfl | rfl | rfl | rfl <;> rfl
     have i2 : (W ((nth a0.Zb 0) - 101)).toNat < 5 := by first | omega | ((try simp only [Qv, show ∀ x, IntKind.i64.wrap x = W x from fun _ => rfl] at *); omega)
     have r1b := r1 _ i2; simp only [cut] at r1b
     simp [r1 _ i2, r1b, G]
     repeat with_reducible refine sdg ?_
     refine cKo f ?_ ?_ <;> intro k2 h1 f
     ·try (simp [G] at h1; done)
      all_goals
       have q1 := h1; try simp [ZS] at q1
       simp [G]
       repeat with_reducible refine sdg ?_
       exact rtg [.tmp 2] f
     ·try (simp [G] at h1; done)
      all_goals
       have q1 := h1; try simp [ZS] at q1
       simp [i1, ZA, G]
       repeat with_reducible refine sdg ?_
       exact rtg [.tmp 2] f
  ·try (simp at G; done)
   all_goals
    refine sGg ?_
    refine cKo f ?_ ?_ <;> intro k3 h2 f
    ·try (simp [G] at h2; done)
     all_goals
      have q2 := h2; try simp [ZS] at q2
      simp [G]
      repeat with_reducible refine sdg ?_
      exact rtg [.tmp 2] f
    ·try (simp [G] at h2; done)
     all_goals
      have q2 := h2; try simp [ZS] at q2
      simp [i1, ZA, G]
      repeat with_reducible refine sdg ?_
      exact rtg [.tmp 2] f
 ·refine sGo ?_
  simp [G]
  repeat with_reducible refine sdg ?_
  refine gJf G ?_ ?_ <;> intro G
  ·try (simp at G; done)
   all_goals
    have g3 := G.2; try simp [ZS] at g3
    all_goals
     have i5 := ik 0 a0.Zb
     simp [i5, ZA, G]
     repeat with_reducible refine sdg ?_
     refine gK (fun _ => ?_)
     have r3 : ∀ i : Nat, i < 5 → cut [At.d (.int .i64 7), At.d (.int .i64 5), At.d (.int .i64 5), At.d (.int .i64 9), At.d (.int .i64 6)] i 1 = [At.d (.int .i64 (nth ([7, 5, 5, 9, 6] : List Int) i))] := by intro i h; (have z : i = 0 ∨ i = 1 ∨ i = 2 ∨ i = 3 ∨ i = 4 := by omega); rcases z with rfl | rfl | rfl | rfl | rfl <;> rfl
     have i6 : (W ((nth a0.Zb 0) - 101)).toNat < 5 := by first | omega | ((try simp only [Qv, show ∀ x, IntKind.i64.wrap x = W x from fun _ => rfl] at *); omega)
     have r3b := r3 _ i6; simp only [cut] at r3b
     simp [r3 _ i6, r3b, G]
     repeat with_reducible refine sdg ?_
     refine cKo f ?_ ?_ <;> intro k4 h3 f
     ·try (simp [G] at h3; done)
      all_goals
       have q3 := h3; try simp [ZS] at q3
       simp [G]
       repeat with_reducible refine sdg ?_
       exact rtg [.tmp 2] f
     ·try (simp [G] at h3; done)
      all_goals
       have q3 := h3; try simp [ZS] at q3
       simp [i5, ZA, G]
       repeat with_reducible refine sdg ?_
       exact rtg [.tmp 2] f
  ·try (simp at G; done)
   all_goals
    refine sGg ?_
    refine cKo f ?_ ?_ <;> intro k5 h4 f
    ·try (simp [G] at h4; done)
     all_goals
      have q4 := h4; try simp [ZS] at q4
      simp [G]
      repeat with_reducible refine sdg ?_
      exact rtg [.tmp 2] f
    ·try (simp [G] at h4; done)
     all_goals
      have q4 := h4; try simp [ZS] at q4
      have i9 := ik 0 a0.Zb
      simp [i9, ZA, G]
      repeat with_reducible refine sdg ?_
      exact rtg [.tmp 2] f
theorem Rp (a0 : ZB) : Sa 266 [a0.row] [(Y0 a0).1.row, rB (Y0 a0).2] := by
 have f := me (Y0.eq_1 a0)
 refine so Tryz.func266 Tryz.ntmps266 ?_
 refine dIs mixed ?_
 refine cRs (JY a0) ?_
 refine gIf ?_ ?_ <;> intro G
 ·have g1x := G
  have g1 := G; try simp at g1
  have i1 : 6 < a0.Zb.length := by (have z := ZX a0; simp_all; done)
  simp [i1, ZA, G]
  repeat with_reducible refine sdg ?_
  refine cK f ?_ ?_ <;> intro k2 h1 f
  ·try (simp [G] at h1; done)
   all_goals
    exact rtg [.cell 2 168, .tmp 3] f
  ·try (simp [G] at h1; done)
   all_goals
    refine dIo mixed ?_
    have i2 : 1 < a0.Zb.length := by (have z := ZX a0; simp_all; done)
    have i3 : 2 < a0.Zb.length := by (have z := ZX a0; simp_all; done)
    have i4 : 3 < a0.Zb.length := by (have z := ZX a0; simp_all; done)
    have i5 : 4 < a0.Zb.length := by (have z := ZX a0; simp_all; done)
    have i6 : 5 < a0.Zb.length := by (have z := ZX a0; simp_all; done)
    simp [i2, ZA, i3, i4, i5, i6, i1, G]
    repeat with_reducible refine sdg ?_
    exact rtg [.cell 2 168, .tmp 3] f
 ·have g1x := G
  refine cK f ?_ ?_ <;> intro k4 h2 f
  ·try (simp [G] at h2; done)
   all_goals
    exact rtg [.cell 2 168, .tmp 3] f
  ·try (simp [G] at h2; done)
   all_goals
    refine dIo mixed ?_
    have i8 : 1 < a0.Zb.length := by (have z := ZX a0; simp_all; done)
    have i9 : 2 < a0.Zb.length := by (have z := ZX a0; simp_all; done)
    have i10 : 3 < a0.Zb.length := by (have z := ZX a0; simp_all; done)
    have i11 : 4 < a0.Zb.length := by (have z := ZX a0; simp_all; done)
    have i12 : 5 < a0.Zb.length := by (have z := ZX a0; simp_all; done)
    have i13 : 6 < a0.Zb.length := by (have z := ZX a0; simp_all; done)
    simp [i8, ZA, i9, i10, i11, i12, i13, G]
    repeat with_reducible refine sdg ?_
    exact rtg [.cell 2 168, .tmp 3] f
theorem TE (a0 : ZB) : Sa 272 [a0.row] [(XZ a0).1.row, rB (XZ a0).2] := by
 have f := me (XZ.eq_1 a0)
 refine so Tryz.func272 Tryz.ntmps272 ?_
 refine dIs mixed ?_
 refine cRs (JY a0) ?_
 refine gIf ?_ ?_ <;> intro G
 ·have g1x := G
  have g1 := G; try simp at g1
  have i1 : 4 < a0.Zb.length := by (have z := ZX a0; simp_all; done)
  simp [i1, ZA, G]
  repeat with_reducible refine sdg ?_
  refine cK f ?_ ?_ <;> intro k2 h1 f
  ·try (simp [G] at h1; done)
   all_goals
    exact rtg [.cell 2 261, .tmp 3] f
  ·try (simp [G] at h1; done)
   all_goals
    refine dIo mixed ?_
    have i2 : 1 < a0.Zb.length := by (have z := ZX a0; simp_all; done)
    have i3 : 2 < a0.Zb.length := by (have z := ZX a0; simp_all; done)
    have i4 : 3 < a0.Zb.length := by (have z := ZX a0; simp_all; done)
    simp [i2, ZA, i3, i4, i1, G]
    repeat with_reducible refine sdg ?_
    exact rtg [.cell 2 261, .tmp 3] f
 ·have g1x := G
  refine cK f ?_ ?_ <;> intro k4 h2 f
  ·try (simp [G] at h2; done)
   all_goals
    exact rtg [.cell 2 261, .tmp 3] f
  ·try (simp [G] at h2; done)
   all_goals
    refine dIo mixed ?_
    have i6 : 1 < a0.Zb.length := by (have z := ZX a0; simp_all; done)
    have i7 : 2 < a0.Zb.length := by (have z := ZX a0; simp_all; done)
    have i8 : 3 < a0.Zb.length := by (have z := ZX a0; simp_all; done)
    have i9 : 4 < a0.Zb.length := by (have z := ZX a0; simp_all; done)
    simp [i6, ZA, i7, i8, i9, G]
    repeat with_reducible refine sdg ?_
    exact rtg [.cell 2 261, .tmp 3] f
theorem L9 (a0 : ZB) : Sa 313 [a0.row] [(KO a0).1.row, rB (KO a0).2] := by
 have f := me (KO.eq_1 a0)
 refine so Tryz.func313 Tryz.ntmps313 ?_
 refine cRs (JY a0) ?_
 refine cF f ?_ ?_ <;> intro k1 h1 f
 ·exact rt [.cell 2 279, .tmp 3] f
 refine dIo mixed ?_
 have i1 : 1 < a0.Zb.length := by (have z := ZX a0; simp_all; done)
 have i2 : 2 < a0.Zb.length := by (have z := ZX a0; simp_all; done)
 have i3 : 3 < a0.Zb.length := by (have z := ZX a0; simp_all; done)
 have i4 : 4 < a0.Zb.length := by (have z := ZX a0; simp_all; done)
 simp [i1, ZA, i2, i3, i4]
 repeat with_reducible refine sd ?_
 exact rt [.cell 2 279, .tmp 3] f
theorem Ht (a0 : ZB) : Sa 314 [a0.row] [(zX a0).1.row, rB (zX a0).2] := by
 have f := me (zX.eq_1 a0)
 refine so Tryz.func314 Tryz.ntmps314 ?_
 refine dIs mixed ?_
 refine cRs (JY a0) ?_
 refine gIf ?_ ?_ <;> intro G
 ·have g1x := G
  have g1 := G; try simp at g1
  have i1 : 1 < a0.Zb.length := by (have z := ZX a0; simp_all; done)
  simp [i1, ZA, G]
  repeat with_reducible refine sdg ?_
  refine cK f ?_ ?_ <;> intro k2 h1 f
  ·try (simp [G] at h1; done)
   all_goals
    exact rtg [.cell 2 49, .tmp 3] f
  ·try (simp [G] at h1; done)
   all_goals
    refine dIo mixed ?_
    have i2 : 2 < a0.Zb.length := by (have z := ZX a0; simp_all; done)
    have i3 : 3 < a0.Zb.length := by (have z := ZX a0; simp_all; done)
    have i4 : 4 < a0.Zb.length := by (have z := ZX a0; simp_all; done)
    have i5 : 5 < a0.Zb.length := by (have z := ZX a0; simp_all; done)
    have i6 : 6 < a0.Zb.length := by (have z := ZX a0; simp_all; done)
    have i7 : 7 < a0.Zb.length := by (have z := ZX a0; simp_all; done)
    have i8 : 8 < a0.Zb.length := by (have z := ZX a0; simp_all; done)
    simp [i1, ZA, i2, i3, i4, i5, i6, i7, i8, G]
    repeat with_reducible refine sdg ?_
    exact rtg [.cell 2 49, .tmp 3] f
 ·have g1x := G
  refine cK f ?_ ?_ <;> intro k4 h2 f
  ·try (simp [G] at h2; done)
   all_goals
    exact rtg [.cell 2 49, .tmp 3] f
  ·try (simp [G] at h2; done)
   all_goals
    refine dIo mixed ?_
    have i10 : 1 < a0.Zb.length := by (have z := ZX a0; simp_all; done)
    have i11 : 2 < a0.Zb.length := by (have z := ZX a0; simp_all; done)
    have i12 : 3 < a0.Zb.length := by (have z := ZX a0; simp_all; done)
    have i13 : 4 < a0.Zb.length := by (have z := ZX a0; simp_all; done)
    have i14 : 5 < a0.Zb.length := by (have z := ZX a0; simp_all; done)
    have i15 : 6 < a0.Zb.length := by (have z := ZX a0; simp_all; done)
    have i16 : 7 < a0.Zb.length := by (have z := ZX a0; simp_all; done)
    have i17 : 8 < a0.Zb.length := by (have z := ZX a0; simp_all; done)
    simp [i10, ZA, i11, i12, i13, i14, i15, i16, i17, G]
    repeat with_reducible refine sdg ?_
    exact rtg [.cell 2 49, .tmp 3] f
theorem V6 (a0 : ZB) : Sa 277 [a0.row] [(Xm a0).1.row, rB (Xm a0).2] := by
 have f := me (Xm.eq_1 a0)
 refine so Tryz.func277 Tryz.ntmps277 ?_
 refine dIs mixed ?_
 refine cRs (JY a0) ?_
 refine gIf ?_ ?_ <;> intro G
 ·have g1x := G
  have g1 := G; try simp at g1
  have i1 : 5 < a0.Zb.length := by (have z := ZX a0; simp_all; done)
  simp [i1, ZA, G]
  repeat with_reducible refine sdg ?_
  refine cK f ?_ ?_ <;> intro k2 h1 f
  ·try (simp [G] at h1; done)
   all_goals
    exact rtg [.cell 2 269, .tmp 3] f
  ·try (simp [G] at h1; done)
   all_goals
    refine dIo mixed ?_
    have i2 : 1 < a0.Zb.length := by (have z := ZX a0; simp_all; done)
    have i3 : 2 < a0.Zb.length := by (have z := ZX a0; simp_all; done)
    have i4 : 3 < a0.Zb.length := by (have z := ZX a0; simp_all; done)
    have i5 : 4 < a0.Zb.length := by (have z := ZX a0; simp_all; done)
    simp [i2, ZA, i3, i4, i5, i1, G]
    repeat with_reducible refine sdg ?_
    exact rtg [.cell 2 269, .tmp 3] f
 ·have g1x := G
  refine cK f ?_ ?_ <;> intro k4 h2 f
  ·try (simp [G] at h2; done)
   all_goals
    exact rtg [.cell 2 269, .tmp 3] f
  ·try (simp [G] at h2; done)
   all_goals
    refine dIo mixed ?_
    have i7 : 1 < a0.Zb.length := by (have z := ZX a0; simp_all; done)
    have i8 : 2 < a0.Zb.length := by (have z := ZX a0; simp_all; done)
    have i9 : 3 < a0.Zb.length := by (have z := ZX a0; simp_all; done)
    have i10 : 4 < a0.Zb.length := by (have z := ZX a0; simp_all; done)
    have i11 : 5 < a0.Zb.length := by (have z := ZX a0; simp_all; done)
    simp [i7, ZA, i8, i9, i10, i11, G]
    repeat with_reducible refine sdg ?_
    exact rtg [.cell 2 269, .tmp 3] f
theorem IC (a0 : List Zy) (a1 : ZB) (u0 : Sm 2314240 a0) (u1 : Sm 2314240 a1) : Sa 263 [rL 5 Zy.row a0, a1.row] [rB (JH a0 a1)] := by
 have f := me (JH.eq_1 a0 a1)
 refine so Tryz.func263 Tryz.ntmps263 ?_
 refine cRs (JY a1) ?_
 refine cF f ?_ ?_ <;> intro k1 h1 f
 ·refine cRs (Rp a1) ?_
  refine cGs (fun gg => (QE a0 a1.Key a1.Zb a1.Mark (sg u0) (sg (ZB.Wl u1)))) ?_
  exact rt [.tmp 4] f
 refine cF f ?_ ?_ <;> intro k2 h2 f
 ·refine cRs (TE a1) ?_
  refine cGs (fun gg => (QE a0 a1.Key a1.Zb a1.Mark (sg u0) (sg (ZB.Wl u1)))) ?_
  exact rt [.tmp 4] f
 refine cF f ?_ ?_ <;> intro k3 h3 f
 ·refine cRs (L9 a1) ?_
  refine cGs (fun gg => (QE a0 a1.Key a1.Zb a1.Mark (sg u0) (sg (ZB.Wl u1)))) ?_
  exact rt [.tmp 4] f
 refine cF f ?_ ?_ <;> intro k4 h4 f
 ·refine cRs (Ht a1) ?_
  refine cGs (fun gg => (QE a0 a1.Key a1.Zb a1.Mark (sg u0) (sg (ZB.Wl u1)))) ?_
  exact rt [.tmp 4] f
 refine cF f ?_ ?_ <;> intro k5 h5 f
 ·refine cRs (V6 a1) ?_
  refine cGs (fun gg => (QE a0 a1.Key a1.Zb a1.Mark (sg u0) (sg (ZB.Wl u1)))) ?_
  exact rt [.tmp 4] f
 refine cGs (fun gg => (QE a0 a1.Key a1.Zb a1.Mark (sg u0) (sg (ZB.Wl u1)))) ?_
 exact rt [.tmp 4] f
theorem MU (a0 : ZB) (a1 : ZB) : Sa 264 [a0.row, a1.row] [rB (Yi a0 a1)] := by
 have f := me (Yi.eq_1 a0 a1)
 refine so Tryz.func264 Tryz.ntmps264 ?_
 refine lp1 (Q5.eq_2 a0 a1) (fun v1_0 => Z9 73 [eX 2 (a0.row.map .d), eX 3 (a1.row.map .d), eI 5 (↑v1_0 : Int)]) (fun n1 v1_0 => a0.Zb.length < n1 + v1_0 ∧ v1_0 ≤ a0.Zb.length) (a0.Zb.length + 1) 0 (fun p1 v1_0 e1 j1 => ?_)
 refine cF e1 ?_ ?_ <;> intro k2 h1 e1
 ·have i1 : v1_0 < a0.Zb.length := by (simp at h1; omega)
  have m2 := ml a0.Zb (k2 8 _ rfl)
  have w1 := wr v1_0
  refine dIo mixed ?_
  have i2 := ik v1_0 a1.Zb
  simp [i1, ZA, i2]
  repeat with_reducible refine sd ?_
  refine cF e1 ?_ ?_ <;> intro k4 h2 e1
  ·refine okD fun k5 => ?_
   refine dIo mixed ?_
   have f := ms f e1
   simp [i1, ZA, i2]
   repeat with_reducible refine sd ?_
   exact rt [.tmp 4] f
  exact ny1 w1 e1
 have f := ms f e1
 refine cF f ?_ ?_ <;> intro k6 h3 f
 ·exact rt [.tmp 4] f
 refine cF f ?_ ?_ <;> intro k7 h4 f
 ·exact rt [.tmp 4] f
 exact rt [.tmp 4] f
theorem UF {a b : Prop} (h : b) (k : a := by (intros; first | omega | with_unfolding_all (first | (first | omega | (simp_all; done) | (simp_all; omega))) | ((try simp only [Qv, show ∀ x, IntKind.i64.wrap x = W x from fun _ => rfl] at *); omega))) : a ∧ b := ⟨k, h⟩
theorem Z5 {a b : Prop} (h : b) (k : a := by (intros; first | omega | with_unfolding_all (first | (first | omega | (simp_all; done) | (simp_all; omega))) | (simp_all; done) | (simp_all; omega) | grind | ((try simp only [Qv, show ∀ x, IntKind.i64.wrap x = W x from fun _ => rfl] at *); omega))) : a ∧ b := ⟨k, h⟩
theorem NK (a0 : ZH) (a1 : ZI) (a2 : List (List Int)) (u0 : Sm 2285568 a0) (u1 : Sm 2285568 a1) (u2 : Sm 2285568 a2) (u3 : CC a1 ≤ 2097152) : So 202 [a0.row, a1.row, rL 1 (slR 1 iR) a2] [rL 3 ZB.row (Zj a0 a1 a2)] := by
 have f := me (Zj.eq_1 a0 a1 a2)
 refine so Tryz.func202 Tryz.ntmps202 ?_
 refine lp2 (QO.eq_2 a0 a1 a2) (fun v1_0 v1_1 => Z9 79 [eL 2 1 a2 (slR 1 iR), eX 3 (a0.row.map .d), eX 4 (a1.row.map .d), (7, .one (.sref 7 0 0 v1_0.length), [.arr false 3 (v1_0.map ZB.row)]), eL 14 2 a1.ZL ZK.row, eI 15 (↑a1.ZL.length : Int), eI 16 (↑v1_1 : Int)]) (fun n1 v1_0 v1_1 => a1.ZL.length < n1 + v1_1 ∧ v1_1 ≤ a1.ZL.length ∧ v1_0.length + cnL (fun s : ZK => s.ZT.length) (a1.ZL.drop v1_1) ≤ 2097152 ∧ Sm 2285568 v1_0) (a1.ZL.length + 1) ([] : List ZB) 0 (fun p1 v1_0 v1_1 e1 j1 => ?_) (hI := by (have u : cnL (fun s : ZK => s.ZT.length) a1.ZL ≤ 2097152 := u3; (try dsimp only); refine ⟨by omega, by omega, by omega, ?_, ⟨Nat.zero_le _, fun x hx => by cases hx⟩⟩; rw [List.drop_zero]; simp only [List.length_nil]; omega)) (h0 := YI [((7, 0), none)] [] rfl (by simp))
 try dsimp only at j1
 refine cFo e1 ?_ ?_ <;> intro k2 h1 e1
 ·have q1 := h1; try simp at q1
  have i1 := ix h1
  have m2 := ml a1.ZL (k2 14 _ rfl)
  have c1 := sl 2285568 a1.ZL (an u0 (an u1 (an u2 u3)))
  have w1 := wr v1_1
  simp [i1, ZA]
  repeat with_reducible refine UF ?_
  refine lp2 (Xe.eq_2 a0 a1 a2 v1_1) (fun v2_0 v2_1 => Z9 79 [eL 2 1 a2 (slR 1 iR), eX 3 (a0.row.map .d), eX 4 (a1.row.map .d), (7, .one (.sref 7 0 0 v2_0.length), [.arr false 3 (v2_0.map ZB.row)]), eL 14 2 a1.ZL ZK.row, eI 15 (↑a1.ZL.length : Int), eI 16 (↑v1_1 : Int), eL 21 3 (nth a1.ZL v1_1).ZT ZB.row, eI 22 (↑(nth a1.ZL v1_1).ZT.length : Int), eI 23 (↑v2_1 : Int)]) (fun n2 v2_0 v2_1 => (nth a1.ZL v1_1).ZT.length < n2 + v2_1 ∧ v2_1 ≤ (nth a1.ZL v1_1).ZT.length ∧ v2_0.length + ((nth a1.ZL v1_1).ZT.length - v2_1) + cnL (fun s : ZK => s.ZT.length) (a1.ZL.drop (v1_1 + 1)) ≤ 2097152 ∧ Sm 2285568 v2_0) ((nth a1.ZL v1_1).ZT.length + 1) v1_0 0 (fun p2 v2_0 v2_1 e2 j2 => ?_) (hI := by (have d := IL (l := a1.ZL) (i := v1_1) (by first | omega | (simp at *; omega)); refine ⟨?_, ?_, ?_, ?_, j1.2.2.2.2⟩ <;> ((try dsimp only); omega)))
  try dsimp only at j2
  refine cFo e2 ?_ ?_ <;> intro k4 h2 e2
  ·have q2 := h2; try simp at q2
   have i2 := ix h2
   have m4 := ml (nth a1.ZL v1_1).ZT (k4 21 _ rfl)
   have c2 := sl 2285568 (nth a1.ZL v1_1).ZT (an u0 (an u1 (an u2 u3)))
   have w2 := wr v2_1
   simp [i2, ZA]
   repeat with_reducible refine UF ?_
   refine dIs mixed ?_
   refine cRs (kE v2_0 (nth (nth a1.ZL v1_1).ZT v2_1)) ?_
   refine cGs (fun gg => (IC a0.Yb (nth (nth a1.ZL v1_1).ZT v2_1) (by (first | exact sg u0 | exact sg u1 | exact sg u2 | exact sg (ZH.YL u0) | exact sg j2.2.2.2.2 | exact sg (Zx j2.2.2.2.2) | exact sg (Zx (ZK.Yh (Zx (ZI.YS u1)))))) (by (first | exact sg u0 | exact sg u1 | exact sg u2 | exact sg (ZH.YL u0) | exact sg j2.2.2.2.2 | exact sg (Zx j2.2.2.2.2) | exact sg (Zx (ZK.Yh (Zx (ZI.YS u1)))))))) ?_
   refine cGs (fun gg => (W1 a0 a1 a2 (nth (nth a1.ZL v1_1).ZT v2_1) (by (first | exact sg u0 | exact sg u1 | exact sg u2 | exact sg (ZH.YL u0) | exact sg j2.2.2.2.2 | exact sg (Zx j2.2.2.2.2) | exact sg (Zx (ZK.Yh (Zx (ZI.YS u1)))))) (by (first | exact sg u0 | exact sg u1 | exact sg u2 | exact sg (ZH.YL u0) | exact sg j2.2.2.2.2 | exact sg (Zx j2.2.2.2.2) | exact sg (Zx (ZK.Yh (Zx (ZI.YS u1)))))) (by (first | exact sg u0 | exact sg u1 | exact sg u2 | exact sg (ZH.YL u0) | exact sg j2.2.2.2.2 | exact sg (Zx j2.2.2.2.2) | exact sg (Zx (ZK.Yh (Zx (ZI.YS u1)))))) (by (first | exact sg u0 | exact sg u1 | exact sg u2 | exact sg (ZH.YL u0) | exact sg j2.2.2.2.2 | exact sg (Zx j2.2.2.2.2) | exact sg (Zx (ZK.Yh (Zx (ZI.YS u1)))))))) ?_
   refine cGs (fun gg => (SZ a0 (nth (nth a1.ZL v1_1).ZT v2_1).Key)) ?_
   refine cFo e2 ?_ ?_ <;> intro k6 h3 e2
   ·have q3 := h3; try simp at q3
    simp
    exact ny2 (an w1 w2) e2 (hI := by first | (refine ⟨?_, ?_, ?_, ?_, j2.2.2.2.2⟩ <;> ((try dsimp only); omega)) | (have pk : Sm 2285568 (nth (nth a1.ZL v1_1).ZT v2_1) := Zx (ZK.Yh (Zx (ZI.YS u1))); obtain ⟨q1, q2⟩ := DC (z := v3_0) j2.2.2.2.2 pk (by omega); refine ⟨?_, ?_, ?_, ?_, q1⟩ <;> ((try dsimp only); omega)))
   have q3 := h3; try simp at q3
   simp
   refine lp1 (JV.eq_2 a1 v1_1 v2_0 v2_1) (fun v3_0 => Z9 79 [eL 2 1 a2 (slR 1 iR), eX 3 (a0.row.map .d), eX 4 (a1.row.map .d), (7, .one (.sref 7 0 0 v2_0.length), [.arr false 3 (v2_0.map ZB.row)]), eX 11 ((nth (nth a1.ZL v1_1).ZT v2_1).row.map .d), eI 12 (↑v3_0 : Int), eL 14 2 a1.ZL ZK.row, eI 15 (↑a1.ZL.length : Int), eI 16 (↑v1_1 : Int), eL 21 3 (nth a1.ZL v1_1).ZT ZB.row, eI 22 (↑(nth a1.ZL v1_1).ZT.length : Int), eI 23 (↑v2_1 : Int)]) (fun n3 v3_0 => v2_0.length < n3 + v3_0 ∧ v3_0 ≤ v2_0.length) (v2_0.length + 1) 0 (fun p3 v3_0 e3 j3 => ?_)
   try dsimp only at j3
   refine dIs mixed ?_
   refine gIo ?_ ?_ <;> intro G
   ·have g1x := G
    have g1 := G; try simp at g1
    have i3 := ik v3_0 v2_0
    simp [i3, ZA, G]
    repeat with_reducible refine Z5 ?_
    refine cGo (fun gg => (MU (nth v2_0 v3_0) (nth (nth a1.ZL v1_1).ZT v2_1))) ?_
    simp [G]
    repeat with_reducible refine Z5 ?_
    refine cKo e3 ?_ ?_ <;> intro k9 h4 e3
    ·try (simp [G] at h4; done)
     all_goals
      have q4 := h4; try simp at q4
      have i4 : v3_0 < v2_0.length := by (simp at h4; omega)
      have m6 := ml v2_0 (k9 7 _ rfl)
      have w3 := wr v3_0
      simp [G]
      repeat with_reducible refine Z5 ?_
      exact ny1 (an w1 (an w2 (an w3 G))) e3
    ·try (simp [G] at h4; done)
     all_goals
      have q4 := h4; try simp at q4
      have e2 := ms e2 e3
      simp [G]
      repeat with_reducible refine Z5 ?_
      refine dIo mixed ?_
      simp [G]
      repeat with_reducible refine Z5 ?_
      refine evI rfl rfl rfl ?_
      simp [G]
      repeat with_reducible refine Z5 ?_
      refine evI rfl rfl rfl ?_
      simp [G]
      repeat with_reducible refine Z5 ?_
      refine cR (YZ.rd (WE (nth (nth a1.ZL v1_1).ZT v2_1) (by (first | exact sg u0 | exact sg u1 | exact sg u2 | exact sg (ZH.YL u0) | exact sg j2.2.2.2.2 | exact sg (Zx j2.2.2.2.2) | exact sg (Zx (ZK.Yh (Zx (ZI.YS u1)))))))) ?_
      simp [G]
      repeat with_reducible refine Z5 ?_
      refine evI rfl rfl rfl ?_
      simp [G]
      repeat with_reducible refine Z5 ?_
      refine evI rfl rfl rfl ?_
      simp [G]
      repeat with_reducible refine Z5 ?_
      refine evI rfl rfl rfl ?_
      simp [G]
      repeat with_reducible refine Z5 ?_
      exact nx2 e2 (hI := by first | (refine ⟨?_, ?_, ?_, ?_, j2.2.2.2.2⟩ <;> ((try dsimp only); omega)) | (have pk : Sm 2285568 (nth (nth a1.ZL v1_1).ZT v2_1) := Zx (ZK.Yh (Zx (ZI.YS u1))); obtain ⟨q1, q2⟩ := DC (z := v3_0) j2.2.2.2.2 pk (by omega); refine ⟨?_, ?_, ?_, ?_, q1⟩ <;> ((try dsimp only); omega))) (hw := YI [((7, 0), some (75, 0))] [] rfl (by simp [w1, w2, G]))
   ·have g1x := G
    simp [G]
    repeat with_reducible refine Z5 ?_
    refine sGo ?_
    simp [G]
    repeat with_reducible refine Z5 ?_
    refine cKo e3 ?_ ?_ <;> intro k11 h5 e3
    ·try (simp [G] at h5; done)
     all_goals
      have q5 := h5; try simp at q5
      have i6 : v3_0 < v2_0.length := by (simp at h5; omega)
      have m8 := ml v2_0 (k11 7 _ rfl)
      have w4 := wr v3_0
      simp [G]
      repeat with_reducible refine Z5 ?_
      exact ny1 (an w1 (an w2 (an w4 G))) e3
    ·try (simp [G] at h5; done)
     all_goals
      have q5 := h5; try simp at q5
      have e2 := ms e2 e3
      simp [G]
      repeat with_reducible refine Z5 ?_
      refine dIo mixed ?_
      simp [G]
      repeat with_reducible refine Z5 ?_
      refine evI rfl rfl rfl ?_
      simp [G]
      repeat with_reducible refine Z5 ?_
      refine evI rfl rfl rfl ?_
      simp [G]
      repeat with_reducible refine Z5 ?_
      refine cR (YZ.rd (WE (nth (nth a1.ZL v1_1).ZT v2_1) (by (first | exact sg u0 | exact sg u1 | exact sg u2 | exact sg (ZH.YL u0) | exact sg j2.2.2.2.2 | exact sg (Zx j2.2.2.2.2) | exact sg (Zx (ZK.Yh (Zx (ZI.YS u1)))))))) ?_
      simp [G]
      repeat with_reducible refine Z5 ?_
      refine evI rfl rfl rfl ?_
      simp [G]
      repeat with_reducible refine Z5 ?_
      refine evI rfl rfl rfl ?_
      simp [G]
      repeat with_reducible refine Z5 ?_
      refine evI rfl rfl rfl ?_
      simp [G]
      repeat with_reducible refine Z5 ?_
      exact nx2 e2 (hI := by first | (refine ⟨?_, ?_, ?_, ?_, j2.2.2.2.2⟩ <;> ((try dsimp only); omega)) | (have pk : Sm 2285568 (nth (nth a1.ZL v1_1).ZT v2_1) := Zx (ZK.Yh (Zx (ZI.YS u1))); obtain ⟨q1, q2⟩ := DC (z := v3_0) j2.2.2.2.2 pk (by omega); refine ⟨?_, ?_, ?_, ?_, q1⟩ <;> ((try dsimp only); omega))) (hw := YI [((7, 0), some (75, 0))] [] rfl (by simp [w1, w2, G]))
  have q2 := h2; try simp at q2
  have c3 := sl 2285568 (nth a1.ZL v1_1).ZT (an u0 (an u1 (an u2 u3)))
  have e1 := ms e1 e2
  simp
  exact ny2 w1 e1 (hI := by (refine ⟨?_, ?_, ?_, ?_, j2.2.2.2.2⟩ <;> ((try dsimp only); omega)))
 have q1 := h1; try simp at q1
 have c4 := sl 2285568 a1.ZL (an u0 (an u1 (an u2 u3)))
 have f := ms f e1
 simp
 exact rtO [.tmp 6] f
theorem Dq (a0 : ZH) (a1 : List ZB) (a2 : ZY) (u0 : Sm 2310144 a0) (u1 : Sm 2310144 a1) : Sa 203 [a0.row, rL 3 ZB.row a1, a2.row] [(Xx a0 a1 a2).1.row, rB (Xx a0 a1 a2).2] := by
 have f := me (Xx.eq_1 a0 a1 a2)
 refine so Tryz.func203 Tryz.ntmps203 ?_
 refine lp9 (qP.eq_2 a0 a1 a2) (fun v1_0 v1_1 v1_2 v1_3 v1_4 v1_5 v1_6 v1_7 v1_8 => Z9 54 [eX 3 (a0.row.map .d), eX 5 (a2.row.map .d), (6, .one (.bptr 6 0), [.box [.d (.int .i64 0), .d (.int .i64 0), .d (.int .i64 0), .d (.int .i64 0), .d (.int .i64 0), .d (.int .i64 0), .d (.int .i64 0)]]), (8, .one (.bptr 8 0), [.box [.d (.int .i64 v1_2), .d (.int .i64 v1_3), .d (.int .i64 v1_4), .d (.int .i64 v1_5), .d (.int .i64 v1_6), .d (.int .i64 v1_7), .d (.int .i64 v1_8)]]), eI 9 v1_0, eL 14 3 a1 ZB.row, eI 15 (↑a1.length : Int), eI 16 (↑v1_1 : Int)]) (fun n1 v1_0 v1_1 v1_2 v1_3 v1_4 v1_5 v1_6 v1_7 v1_8 => a1.length < n1 + v1_1 ∧ v1_1 ≤ a1.length) (a1.length + 1) 0 0 0 0 0 0 0 0 0 (fun p1 v1_0 v1_1 v1_2 v1_3 v1_4 v1_5 v1_6 v1_7 v1_8 e1 j1 => ?_)
 refine cFf e1 ?_ ?_ <;> intro k2 h1 e1
 ·have i1 := ix h1
  have m2 := ml a1 (k2 14 _ rfl)
  have c1 := sl 2310144 a1 (an u0 u1)
  have w1 := wr v1_1
  simp [i1, ZA]
  repeat with_reducible refine sd ?_
  refine cRs (Rp (nth a1 v1_1)) ?_
  refine cGs (fun gg => (Rt a0.Yb (Y0 (nth a1 v1_1)).1 (sg (ZH.YL u0)))) ?_
  refine cF e1 ?_ ?_ <;> intro k3 h2 e1
  ·exact ny9 w1 e1
  exact ny9 w1 e1
 have c2 := sl 2310144 a1 (an u0 u1)
 have f := ms f e1
 refine cF f ?_ ?_ <;> intro k4 h3 f
 ·exact rt [.cell 6 168, .tmp 7] f
 exact rt [.cell 6 168, .tmp 7] f
theorem um (a0 : Int) (a1 : Int) : Sa 316 [rI a0, rI a1] [rI (wH a0 a1)] := by
 have f := me (wH.eq_1 a0 a1)
 refine so Tryz.func316 Tryz.ntmps316 ?_
 exact rt [.tmp 4] f
theorem Vz (a0 : Int) (a1 : List ZZ) (u0 : Sm 2326528 a1) : Sa 268 [rI a0, rL 5 ZZ.row a1] [rI (Jp a0 a1)] := by
 have f := me (Jp.eq_1 a0 a1)
 refine so Tryz.func268 Tryz.ntmps268 ?_
 refine cF f ?_ ?_ <;> intro k1 h1 f
 ·exact rt [.tmp 4] f
 refine lp2 (Kr.eq_2 a1) (fun v1_0 v1_1 => Z9 27 [eI 0 a0, (5, .one (.sref 5 0 0 v1_0.length), [.arr false 1 (v1_0.map iR)]), eL 11 5 a1 ZZ.row, eI 12 (↑a1.length : Int), eI 13 (↑v1_1 : Int)]) (fun n1 v1_0 v1_1 => a1.length < n1 + v1_1 ∧ v1_1 ≤ a1.length ∧ v1_0.length ≤ 0 + 1 * v1_1) (a1.length + 1) ([] : List Int) 0 (fun p1 v1_0 v1_1 e1 j1 => ?_) (h0 := YI [((5, 0), none)] [] rfl (by simp))
 refine cFf e1 ?_ ?_ <;> intro k3 h2 e1
 ·have i1 := ix h2
  have m2 := ml a1 (k3 11 _ rfl)
  have c1 := sl 2326528 a1 u0
  have w1 := wr v1_1
  simp [i1, ZA]
  repeat with_reducible refine sd ?_
  exact nx2 e1 (hw := YI [((5, 0), some (21, 0))] [] rfl (by simp [w1]))
 have c2 := sl 2326528 a1 u0
 have f := ms f e1
 refine cRs (JO a0 v1_0 (by first | (simp (maxDischargeDepth := 12) [XT]; omega) | (simp (maxDischargeDepth := 12) [Za (m := 68719476736) (by decide) u0]; done))) ?_
 refine cRs (um 1 (QT a0 v1_0)) ?_
 exact rt [.tmp 4] f
theorem SY (a0 : Int) (a1 : ZZ) : Sd 269 [rI a0, a1.row] [(QZ a0 a1).row] := by
 have f := me (QZ.eq_1 a0 a1)
 refine soD Tryz.func269 Tryz.ntmps269 ?_
 refine dIs mixed ?_
 refine cDs [false] (W7 a1) ?_
 exact rtD [.cell 4 194] f
theorem Hi (a0 : ZH) (a1 : ZI) (a2 : List ZB) (a3 : ZY) (u0 : Sm 2314240 a0) (u1 : Sm 2314240 a1) (u2 : Sm 2314240 a2) : Sa 204 [a0.row, a1.row, rL 3 ZB.row a2, a3.row] [rI (XV a0 a1 a2 a3)] := by
 have f := me (XV.eq_1 a0 a1 a2 a3)
 refine so Tryz.func204 Tryz.ntmps204 ?_
 refine cRs (xC a0.Yb a3.Key) ?_
 refine cFf f ?_ ?_ <;> intro k1 h1 f
 ·have i1 : (Yg a0.Yb a3.Key).toNat < a0.Yb.length := by have := qu a0.Yb a3.Key; exact il
  simp [i1, ZA]
  repeat with_reducible refine sd ?_
  refine lp2 (Xq.eq_2 a0 a1 a2 a3) (fun v1_0 v1_1 => Z9 92 [eL 2 3 a2 ZB.row, eX 4 (a0.row.map .d), eX 7 (a3.row.map .d), eI 9 v1_0, eL 32 1 a1.Zp (slR 5 ZZ.row), eI 33 (↑a1.Zp.length : Int), eI 34 (↑v1_1 : Int)]) (fun n1 v1_0 v1_1 => a1.Zp.length < n1 + v1_1 ∧ v1_1 ≤ a1.Zp.length) (a1.Zp.length + 1) (nth a0.Yb (Yg a0.Yb a3.Key).toNat).Nq 0 (fun p1 v1_0 v1_1 e1 j1 => ?_)
  refine cFf e1 ?_ ?_ <;> intro k3 h2 e1
  ·have i2 := ix h2
   have m2 := ml a1.Zp (k3 32 _ rfl)
   have c1 := sl 2314240 a1.Zp (an u0 (an u1 u2))
   have w1 := wr v1_1
   simp [i2, ZA]
   repeat with_reducible refine sd ?_
   refine dIs mixed ?_
   refine cGs (fun gg => (zw (nth a1.Zp v1_1))) ?_
   refine cGs (fun gg => (Vz a3.Method (nth a1.Zp v1_1) (sg (Zx (ZI.jV u1))))) ?_
   refine cF e1 ?_ ?_ <;> intro k5 h3 e1
   ·exact ny2 w1 e1
   refine lp2 (Xn.eq_2 a0 a1 a2 v1_1) (fun v2_0 v2_1 => Z9 92 [eL 2 3 a2 ZB.row, eX 4 (a0.row.map .d), eX 7 (a3.row.map .d), eI 9 v1_0, eL 12 5 (nth a1.Zp v1_1) ZZ.row, eB 13 v2_0, eL 32 1 a1.Zp (slR 5 ZZ.row), eI 33 (↑a1.Zp.length : Int), eI 34 (↑v1_1 : Int), eL 55 5 (nth a1.Zp v1_1) ZZ.row, eI 56 (↑(nth a1.Zp v1_1).length : Int), eI 57 (↑v2_1 : Int)]) (fun n2 v2_0 v2_1 => (nth a1.Zp v1_1).length < n2 + v2_1 ∧ v2_1 ≤ (nth a1.Zp v1_1).length) ((nth a1.Zp v1_1).length + 1) true 0 (fun p2 v2_0 v2_1 e2 j2 => ?_)
   refine cFf e2 ?_ ?_ <;> intro k7 h4 e2
   ·have i3 := ix h4
    have m4 := ml (nth a1.Zp v1_1) (k7 12 _ rfl)
    have c2 := sl 2314240 (nth a1.Zp v1_1) (an u0 (an u1 u2))
    have w2 := wr v2_1
    simp [i3, ZA]
    repeat with_reducible refine sd ?_
    refine dIs mixed ?_
    refine cGs (fun gg => (UR a0.ZU (nth (nth a1.Zp v1_1) v2_1))) ?_
    refine cGs (fun gg => YZ.rd (SY (XH a0.ZU (nth (nth a1.Zp v1_1) v2_1)) (nth (nth a1.Zp v1_1) v2_1))) ?_
    refine cGs (fun gg => (kE a2 (QZ (XH a0.ZU (nth (nth a1.Zp v1_1) v2_1)) (nth (nth a1.Zp v1_1) v2_1)))) ?_
    exact ny2 (an w1 w2) e2
   have c3 := sl 2314240 (nth a1.Zp v1_1) (an u0 (an u1 u2))
   have e1 := ms e1 e2
   refine cRs (Ub a0.ZU (nth a1.Zp v1_1) a0.QK (sg (ZH.X9 u0)) (sg (Zx (ZI.jV u1)))) ?_
   refine cF e1 ?_ ?_ <;> intro k9 h5 e1
   ·exact ny2 w1 e1
   exact ny2 w1 e1
  have c4 := sl 2314240 a1.Zp (an u0 (an u1 u2))
  have f := ms f e1
  exact rt [.tmp 8] f
 refine lp2 (KU.eq_2 a0 a1 a2 a3) (fun v3_0 v3_1 => Z9 92 [eL 2 3 a2 ZB.row, eX 4 (a0.row.map .d), eX 7 (a3.row.map .d), eI 9 v3_0, eL 32 1 a1.Zp (slR 5 ZZ.row), eI 33 (↑a1.Zp.length : Int), eI 34 (↑v3_1 : Int)]) (fun n3 v3_0 v3_1 => a1.Zp.length < n3 + v3_1 ∧ v3_1 ≤ a1.Zp.length) (a1.Zp.length + 1) 0 0 (fun p3 v3_0 v3_1 e3 j3 => ?_)
 refine cFf e3 ?_ ?_ <;> intro k11 h6 e3
 ·have i4 := ix h6
  have m6 := ml a1.Zp (k11 32 _ rfl)
  have c5 := sl 2314240 a1.Zp (an u0 (an u1 u2))
  have w3 := wr v3_1
  simp [i4, ZA]
  repeat with_reducible refine sd ?_
  refine dIs mixed ?_
  refine cGs (fun gg => (zw (nth a1.Zp v3_1))) ?_
  refine cGs (fun gg => (Vz a3.Method (nth a1.Zp v3_1) (sg (Zx (ZI.jV u1))))) ?_
  refine cF e3 ?_ ?_ <;> intro k13 h7 e3
  ·exact ny2 w3 e3
  refine lp2 (xe.eq_2 a0 a1 a2 v3_1) (fun v4_0 v4_1 => Z9 92 [eL 2 3 a2 ZB.row, eX 4 (a0.row.map .d), eX 7 (a3.row.map .d), eI 9 v3_0, eL 12 5 (nth a1.Zp v3_1) ZZ.row, eB 13 v4_0, eL 32 1 a1.Zp (slR 5 ZZ.row), eI 33 (↑a1.Zp.length : Int), eI 34 (↑v3_1 : Int), eL 55 5 (nth a1.Zp v3_1) ZZ.row, eI 56 (↑(nth a1.Zp v3_1).length : Int), eI 57 (↑v4_1 : Int)]) (fun n4 v4_0 v4_1 => (nth a1.Zp v3_1).length < n4 + v4_1 ∧ v4_1 ≤ (nth a1.Zp v3_1).length) ((nth a1.Zp v3_1).length + 1) true 0 (fun p4 v4_0 v4_1 e4 j4 => ?_)
  refine cFf e4 ?_ ?_ <;> intro k15 h8 e4
  ·have i5 := ix h8
   have m8 := ml (nth a1.Zp v3_1) (k15 12 _ rfl)
   have c6 := sl 2314240 (nth a1.Zp v3_1) (an u0 (an u1 u2))
   have w4 := wr v4_1
   simp [i5, ZA]
   repeat with_reducible refine sd ?_
   refine dIs mixed ?_
   refine cGs (fun gg => (UR a0.ZU (nth (nth a1.Zp v3_1) v4_1))) ?_
   refine cGs (fun gg => YZ.rd (SY (XH a0.ZU (nth (nth a1.Zp v3_1) v4_1)) (nth (nth a1.Zp v3_1) v4_1))) ?_
   refine cGs (fun gg => (kE a2 (QZ (XH a0.ZU (nth (nth a1.Zp v3_1) v4_1)) (nth (nth a1.Zp v3_1) v4_1)))) ?_
   exact ny2 (an w3 w4) e4
  have c7 := sl 2314240 (nth a1.Zp v3_1) (an u0 (an u1 u2))
  have e3 := ms e3 e4
  refine cRs (Ub a0.ZU (nth a1.Zp v3_1) a0.QK (sg (ZH.X9 u0)) (sg (Zx (ZI.jV u1)))) ?_
  refine cF e3 ?_ ?_ <;> intro k17 h9 e3
  ·exact ny2 w3 e3
  exact ny2 w3 e3
 have c8 := sl 2314240 a1.Zp (an u0 (an u1 u2))
 have f := ms f e3
 exact rt [.tmp 8] f
theorem Nt (a0 : List ZB) (a1 : Zs) (u0 : Sm 2330624 a0) : Sd 205 [rL 3 ZB.row a0, a1.row] [rL 5 Zo.row (Qc a0 a1)] := by
 have f := me (Qc.eq_1 a0 a1)
 refine soD Tryz.func205 Tryz.ntmps205 ?_
 refine lp2 (JD.eq_2 a0 a1) (fun v1_0 v1_1 => Z9 42 [eX 3 (a1.row.map .d), (5, .one (.sref 5 0 0 v1_0.length), [.arr false 5 (v1_0.map Zo.row)]), eL 10 3 a0 ZB.row, eI 11 (↑a0.length : Int), eI 12 (↑v1_1 : Int)]) (fun n1 v1_0 v1_1 => a0.length < n1 + v1_1 ∧ v1_1 ≤ a0.length ∧ v1_0.length ≤ 0 + 1 * v1_1) (a0.length + 1) ([] : List Zo) 0 (fun p1 v1_0 v1_1 e1 j1 => ?_) (h0 := YI [((5, 0), none)] [] rfl (by simp))
 refine cFf e1 ?_ ?_ <;> intro k2 h1 e1
 ·have i1 := ix h1
  have m2 := ml a0 (k2 10 _ rfl)
  have c1 := sl 2330624 a0 u0
  have w1 := wr v1_1
  simp [i1, ZA]
  repeat with_reducible refine sd ?_
  refine cRs (TE (nth a0 v1_1)) ?_
  refine cF e1 ?_ ?_ <;> intro k3 h2 e1
  ·exact nx2 e1 (hw := YI [((5, 0), some (39, 0))] [] rfl (by simp [w1]))
  exact ny2 w1 e1
 have c2 := sl 2330624 a0 u0
 have f := ms f e1
 exact rtD [.tmp 4] f
theorem QR (a0 : Int) (a1 : Int) (a2 : List ZD) (u0 : Sm 2326528 a2) : Io Tryz.prog 322 [rI a0, rI a1] [.sl 2 (a2.map ZD.row)] [.sl 2 ((Ze a0 a1 a2).map ZD.row)] := by
 refine wW Tryz.func322 rfl (by kernel_rfl) [false] (by simp) (fun v => ?_)
 simp [Tryz.ntmps322]
 refine cR (Uh a0 a1) ?_
 simp
 refine cC (Q0 a0 a1).2 (fun k1 h1 => ?_) (fun k1 h1 => ?_)
 ·have q1 := h1; try simp at q1
  have c1 : a2.length ≤ 2326528 := YH (by simp (maxDischargeDepth := 12) [u0])
  simp
  repeat with_reducible refine sd ?_
  refine pW (ats := [(.sref 17 0 0 (a2 ++ ([(Q0 a0 a1).1] : List ZD)).length)]) rfl ?_ (.inr rfl)
  have f1 := Ze.eq_1 a0 a1 a2
  simp only [h1, MH, Nu] at f1
  simp [f1]
  all_goals ((rintro r (⟨a, _, rfl⟩ | rfl) x hx <;> simp at hx <;> rcases hx with rfl | rfl <;> rfl))
 ·have q1 := h1; try simp at q1
  simp
  refine pW (ats := [(.sref 2 1 0 a2.length)]) rfl ?_ (.inr rfl)
  have f2 := Ze.eq_1 a0 a1 a2
  simp only [h1, MH, Nu] at f2
  simp [f2]
  all_goals ((rintro r (⟨a, _, rfl⟩ | rfl) x hx <;> simp at hx <;> rcases hx with rfl | rfl <;> rfl))
theorem F6 (a0 : List Zo) (a1 : Int) : Sa 344 [rL 5 Zo.row a0, rI a1] [rI (jJ a0 a1).1, rI (jJ a0 a1).2.1, rI (jJ a0 a1).2.2] := by
 have f := me (jJ.eq_1 a0 a1)
 refine so Tryz.func344 Tryz.ntmps344 ?_
 refine lp4 (yj.eq_2 a0 a1) (fun v1_0 v1_1 v1_2 v1_3 => Z9 49 [eI 1 a1, eI 7 v1_0, eI 8 v1_1, eI 9 v1_2, eL 12 5 a0 Zo.row, eI 13 (↑a0.length : Int), eI 14 (↑v1_3 : Int)]) (fun n1 v1_0 v1_1 v1_2 v1_3 => a0.length < n1 + v1_3 ∧ v1_3 ≤ a0.length) (a0.length + 1) (-1) (-1) (-1) 0 (fun p1 v1_0 v1_1 v1_2 v1_3 e1 j1 => ?_)
 refine cFf e1 ?_ ?_ <;> intro k2 h1 e1
 ·have i1 := ix h1
  have m2 := ml a0 (k2 12 _ rfl)
  have w1 := wr v1_3
  simp [i1, ZA]
  repeat with_reducible refine sd ?_
  refine cF e1 ?_ ?_ <;> intro k3 h2 e1
  ·exact ny4 w1 e1
  refine cF e1 ?_ ?_ <;> intro k4 h3 e1
  ·exact ny4 w1 e1
  refine cF e1 ?_ ?_ <;> intro k5 h4 e1
  ·exact ny4 w1 e1
  exact ny4 w1 e1
 have f := ms f e1
 exact rt [.tmp 4, .tmp 5, .tmp 6] f
theorem Wm (a0 : List Zo) (a1 : Int) : Sa 324 [rL 5 Zo.row a0, rI a1] [rI (XR a0 a1)] := by
 have f := me (XR.eq_1 a0 a1)
 refine so Tryz.func324 Tryz.ntmps324 ?_
 refine cRs (F6 a0 a1) ?_
 refine cF f ?_ ?_ <;> intro k1 h1 f
 ·exact rt [.tmp 4] f
 exact rt [.tmp 4] f
theorem Tw {a b : Prop} (h : b) (k : a := by (intros; first | omega | with_unfolding_all (first | (first | omega | (have z := YH u0; omega) | (have z := YH u0; simp at *; omega))) | ((try simp only [Qv, show ∀ x, IntKind.i64.wrap x = W x from fun _ => rfl] at *); omega))) : a ∧ b := ⟨k, h⟩
theorem KL {a b : Prop} (h : b) (k : a := by (intros; first | omega | with_unfolding_all (first | (first | omega | (have z := YH u0; omega) | (have z := YH u0; simp at *; omega))) | (simp_all; done) | (simp_all; omega) | grind | ((try simp only [Qv, show ∀ x, IntKind.i64.wrap x = W x from fun _ => rfl] at *); omega))) : a ∧ b := ⟨k, h⟩
theorem zz (a0 : List ZD) (u0 : Sm 2330624 a0) : Sd 320 [rL 2 ZD.row a0] [rL 2 ZD.row (Y1 a0)] := by
 have f := me (Y1.eq_1 a0)
 refine soD Tryz.func320 Tryz.ntmps320 ?_
 refine lp2 (zc.eq_2 a0) (fun v1_0 v1_1 => Z9 85 [(3, .one (.sref 3 0 0 v1_0.length), [.arr false 2 (v1_0.map ZD.row)]), eL 10 2 a0 ZD.row, eI 11 (↑a0.length : Int), eI 12 (↑v1_1 : Int)]) (fun n1 v1_0 v1_1 => a0.length < n1 + v1_1 ∧ v1_1 ≤ a0.length ∧ v1_0.length ≤ v1_1) (a0.length + 1) ([] : List ZD) 0 (fun p1 v1_0 v1_1 e1 j1 => ?_) (h0 := YI [((3, 0), none)] [] rfl (by simp))
 try dsimp only at j1
 refine cFf e1 ?_ ?_ <;> intro k2 h1 e1
 ·have i1 := ix h1
  have m2 := ml a0 (k2 10 _ rfl)
  have c1 := sl 2330624 a0 u0
  have w1 := wr v1_1
  simp [i1, ZA]
  repeat with_reducible refine Tw ?_
  refine cRs (Qo (nth a0 v1_1)) ?_
  refine cF e1 ?_ ?_ <;> intro k3 h2 e1
  ·exact ny2 w1 e1 (hI := by first | omega | (simp at *; omega))
  refine lp4 (zb.eq_2 v1_0) (fun v2_0 v2_1 v2_2 v2_3 => Z9 85 [(3, .any, [.arr false 2 (v1_0.map ZD.row)]), (5, .one (.bptr 5 0), [.box [.d (.int .i64 v2_2), .d (.int .i64 v2_3)]]), (6, .one (.sref 6 0 0 v2_0.length), [.arr false 2 (v2_0.map ZD.row)]), eL 10 2 a0 ZD.row, eI 11 (↑a0.length : Int), eI 12 (↑v1_1 : Int), (19, .one (.sref 3 0 0 v1_0.length), []), eI 20 (↑v1_0.length : Int), eI 21 (↑v2_1 : Int)]) (fun n2 v2_0 v2_1 v2_2 v2_3 => v1_0.length < n2 + v2_1 ∧ v2_1 ≤ v1_0.length ∧ v2_0.length ≤ v2_1) (v1_0.length + 1) ([] : List ZD) 0 (nth a0 v1_1).YE (nth a0 v1_1).To (fun p2 v2_0 v2_1 v2_2 v2_3 e2 j2 => ?_) (h0 := YI [((6, 0), none)] [] rfl (by simp))
  try dsimp only at j2
  refine cFf e2 ?_ ?_ <;> intro k5 h3 e2
  ·have i2 := ix h3
   have m4 := ml v1_0 (k5 19 _ rfl)
   have w2 := wr v2_1
   simp [i2, ZA]
   repeat with_reducible refine Tw ?_
   refine cFf e2 ?_ ?_ <;> intro k6 h4 e2
   ·simp
    repeat with_reducible refine Tw ?_
    exact nx4 e2 (hI := by first | omega | (simp at *; omega)) (hw := YI [((6, 0), some (42, 0))] [] rfl (by simp [w1, w2]))
   exact ny4 (an w1 w2) e2 (hI := by first | omega | (simp at *; omega))
  have e1 := ms e1 e2
  refine lp1 (kS.eq_2 v2_0 v2_2) (fun v3_0 => Z9 85 [(5, .one (.bptr 5 0), [.box [.d (.int .i64 v2_2), .d (.int .i64 v2_3)]]), (6, .one (.sref 6 0 0 v2_0.length), [.arr false 2 (v2_0.map ZD.row)]), eI 9 (↑v3_0 : Int), eL 10 2 a0 ZD.row, eI 11 (↑a0.length : Int), eI 12 (↑v1_1 : Int)]) (fun n3 v3_0 => v2_0.length < n3 + v3_0 ∧ v3_0 ≤ v2_0.length) (v2_0.length + 1) 0 (fun p3 v3_0 e3 j3 => ?_)
  try dsimp only at j3
  refine dIs mixed ?_
  refine gIo ?_ ?_ <;> intro G
  ·have g1x := G
   have g1 := G; try simp at g1
   have i3 := ik v3_0 v2_0
   simp [i3, ZA, G]
   repeat with_reducible refine KL ?_
   refine cKo e3 ?_ ?_ <;> intro k9 h5 e3
   ·try (simp [G] at h5; done)
    all_goals
     have i4 : v3_0 < v2_0.length := by (simp at h5; omega)
     have m6 := ml v2_0 (k9 6 _ rfl)
     have w3 := wr v3_0
     simp [G]
     repeat with_reducible refine KL ?_
     exact ny1 (an w1 (an w3 G)) e3
   ·try (simp [G] at h5; done)
    all_goals
     have e1 := ms e1 e3
     simp [G]
     repeat with_reducible refine KL ?_
     refine dIo mixed ?_
     simp [G]
     repeat with_reducible refine KL ?_
     exact nx2 e1 (hI := by first | omega | (simp at *; omega)) (hw := YI [((3, 0), some (82, 0))] [] rfl (by simp [w1, G]))
  ·have g1x := G
   simp [G]
   repeat with_reducible refine KL ?_
   refine cKo e3 ?_ ?_ <;> intro k11 h6 e3
   ·try (simp [G] at h6; done)
    all_goals
     have i6 : v3_0 < v2_0.length := by (simp at h6; omega)
     have m8 := ml v2_0 (k11 6 _ rfl)
     have w4 := wr v3_0
     simp [G]
     repeat with_reducible refine KL ?_
     exact ny1 (an w1 (an w4 G)) e3
   ·try (simp [G] at h6; done)
    all_goals
     have e1 := ms e1 e3
     simp [G]
     repeat with_reducible refine KL ?_
     refine dIo mixed ?_
     simp [G]
     repeat with_reducible refine KL ?_
     exact nx2 e1 (hI := by first | omega | (simp at *; omega)) (hw := YI [((3, 0), some (82, 0))] [] rfl (by simp [w1, G]))
 have c2 := sl 2330624 a0 u0
 have f := ms f e1
 refine tN (rv := [.tmp 2]) rfl ?_
 simp [f.h]
 all_goals ((rintro r (hr | rfl | hr) x hx <;> (first | (simp at hx; rcases hx with rfl | rfl <;> rfl) | ((first | (replace hr := List.mem_of_mem_take hr) | (replace hr := List.mem_of_mem_drop hr)); simp at hr; obtain ⟨a, _, rfl⟩ := hr; simp at hx; rcases hx with rfl | rfl <;> rfl))))
theorem FR (a0 : Zs) (a1 : List Zo) (u0 : Sm 2322432 a1) : Sd 274 [a0.row, rL 5 Zo.row a1] [rL 2 ZD.row (yS a0 a1)] := by
 have f := me (yS.eq_1 a0 a1)
 refine soD Tryz.func274 Tryz.ntmps274 ?_
 refine pX (t := 5) (cells := [.nil 2]) rfl rfl rfl rfl (by simp) (by simp) ?_
 simp
 refine cF f ?_ ?_ <;> intro k1 h1 f
 ·refine IV (tf := 11) (u := 5) (row := [.sl 2 (([] : List ZD).map ZD.row)]) (row' := [.sl 2 ((Ze 0 (W (a0.YE - 1)) ([] : List ZD)).map ZD.row)]) (cells := [.nil 2]) [false] rfl rfl rfl rfl (QR 0 (W (a0.YE - 1)) ([] : List ZD) (by (first | (exact ⟨Nat.zero_le _, fun _ _ => trivial⟩) | (refine ZC (n := 2322432) ?_; exact ⟨Nat.zero_le _, fun _ _ => trivial⟩) | (refine ZC (n := 2322432) (ZC (n := 2322432 - 1) ?_); exact ⟨Nat.zero_le _, fun _ _ => trivial⟩) | (refine Za (n := 3) (by decide) (ZC (ZC (ZC (n := 0) ?_))); exact ⟨Nat.zero_le _, fun _ _ => trivial⟩) | (refine Za (n := 2) (by decide) (ZC (ZC (n := 0) ?_)); exact ⟨Nat.zero_le _, fun _ _ => trivial⟩) | (refine Za (n := 1) (by decide) (ZC (n := 0) ?_); exact ⟨Nat.zero_le _, fun _ _ => trivial⟩)))) (by simp) (by simp) (by simp) (by simp) (by simp) (by simp) (by simp) (by simp) (by simp) (by simp) (by simp [XU]) (by simp) (by simp) ?_
  simp
  refine cF f ?_ ?_ <;> intro k2 h2 f
  ·refine IV (tf := 19) (u := 5) (row := [.sl 2 ((Ze 0 (W (a0.YE - 1)) ([] : List ZD)).map ZD.row)]) (row' := [.sl 2 ((Ze (W (a0.To + 1)) 10000 (Ze 0 (W (a0.YE - 1)) ([] : List ZD))).map ZD.row)]) (cells := [.sref 5 1 0 (Ze 0 (W (a0.YE - 1)) ([] : List ZD)).length]) [false] rfl rfl rfl rfl (QR (W (a0.To + 1)) 10000 (Ze 0 (W (a0.YE - 1)) ([] : List ZD)) (by (first | (exact ⟨Nat.zero_le _, fun _ _ => trivial⟩) | (refine ZC (n := 2322432) ?_; exact ⟨Nat.zero_le _, fun _ _ => trivial⟩) | (refine ZC (n := 2322432) (ZC (n := 2322432 - 1) ?_); exact ⟨Nat.zero_le _, fun _ _ => trivial⟩) | (refine Za (n := 3) (by decide) (ZC (ZC (ZC (n := 0) ?_))); exact ⟨Nat.zero_le _, fun _ _ => trivial⟩) | (refine Za (n := 2) (by decide) (ZC (ZC (n := 0) ?_)); exact ⟨Nat.zero_le _, fun _ _ => trivial⟩) | (refine Za (n := 1) (by decide) (ZC (n := 0) ?_); exact ⟨Nat.zero_le _, fun _ _ => trivial⟩)))) (by simp) (by simp) (by simp) (by simp) (by simp) (by simp) (by simp) (by simp) (by simp) (by simp) (by simp [XU]) (by simp) (by simp) ?_
   simp
   refine cRs (Wm a1 a0.Z1) ?_
   refine IV (tf := 24) (u := 5) (row := [.sl 2 ((Ze (W (a0.To + 1)) 10000 (Ze 0 (W (a0.YE - 1)) ([] : List ZD))).map ZD.row)]) (row' := [.sl 2 ((Ze (XR a1 a0.Z1) 10000 (Ze (W (a0.To + 1)) 10000 (Ze 0 (W (a0.YE - 1)) ([] : List ZD)))).map ZD.row)]) (cells := [.sref 5 1 0 (Ze (W (a0.To + 1)) 10000 (Ze 0 (W (a0.YE - 1)) ([] : List ZD))).length]) [false] rfl rfl rfl rfl (QR (XR a1 a0.Z1) 10000 (Ze (W (a0.To + 1)) 10000 (Ze 0 (W (a0.YE - 1)) ([] : List ZD))) (by (first | (exact ⟨Nat.zero_le _, fun _ _ => trivial⟩) | (refine ZC (n := 2322432) ?_; exact ⟨Nat.zero_le _, fun _ _ => trivial⟩) | (refine ZC (n := 2322432) (ZC (n := 2322432 - 1) ?_); exact ⟨Nat.zero_le _, fun _ _ => trivial⟩) | (refine Za (n := 3) (by decide) (ZC (ZC (ZC (n := 0) ?_))); exact ⟨Nat.zero_le _, fun _ _ => trivial⟩) | (refine Za (n := 2) (by decide) (ZC (ZC (n := 0) ?_)); exact ⟨Nat.zero_le _, fun _ _ => trivial⟩) | (refine Za (n := 1) (by decide) (ZC (n := 0) ?_); exact ⟨Nat.zero_le _, fun _ _ => trivial⟩)))) (by simp) (by simp) (by simp) (by simp) (by simp) (by simp) (by simp) (by simp) (by simp) (by simp) (by simp [XU]) (by simp) (by simp) ?_
   simp
   refine cDs [false] (zz (Ze (XR a1 a0.Z1) 10000 (Ze (W (a0.To + 1)) 10000 (Ze 0 (W (a0.YE - 1)) ([] : List ZD)))) (by (first | (exact ⟨Nat.zero_le _, fun _ _ => trivial⟩) | (refine ZC (n := 2322432) ?_; exact ⟨Nat.zero_le _, fun _ _ => trivial⟩) | (refine ZC (n := 2322432) (ZC (n := 2322432 - 1) ?_); exact ⟨Nat.zero_le _, fun _ _ => trivial⟩) | (refine Za (n := 3) (by decide) (ZC (ZC (ZC (n := 0) ?_))); exact ⟨Nat.zero_le _, fun _ _ => trivial⟩) | (refine Za (n := 2) (by decide) (ZC (ZC (n := 0) ?_)); exact ⟨Nat.zero_le _, fun _ _ => trivial⟩) | (refine Za (n := 1) (by decide) (ZC (n := 0) ?_); exact ⟨Nat.zero_le _, fun _ _ => trivial⟩)))) ?_
   exact rtD [.tmp 4] f
  refine cRs (Wm a1 a0.Z1) ?_
  refine IV (tf := 24) (u := 5) (row := [.sl 2 ((Ze 0 (W (a0.YE - 1)) ([] : List ZD)).map ZD.row)]) (row' := [.sl 2 ((Ze (XR a1 a0.Z1) 10000 (Ze 0 (W (a0.YE - 1)) ([] : List ZD))).map ZD.row)]) (cells := [.sref 5 1 0 (Ze 0 (W (a0.YE - 1)) ([] : List ZD)).length]) [false] rfl rfl rfl rfl (QR (XR a1 a0.Z1) 10000 (Ze 0 (W (a0.YE - 1)) ([] : List ZD)) (by (first | (exact ⟨Nat.zero_le _, fun _ _ => trivial⟩) | (refine ZC (n := 2322432) ?_; exact ⟨Nat.zero_le _, fun _ _ => trivial⟩) | (refine ZC (n := 2322432) (ZC (n := 2322432 - 1) ?_); exact ⟨Nat.zero_le _, fun _ _ => trivial⟩) | (refine Za (n := 3) (by decide) (ZC (ZC (ZC (n := 0) ?_))); exact ⟨Nat.zero_le _, fun _ _ => trivial⟩) | (refine Za (n := 2) (by decide) (ZC (ZC (n := 0) ?_)); exact ⟨Nat.zero_le _, fun _ _ => trivial⟩) | (refine Za (n := 1) (by decide) (ZC (n := 0) ?_); exact ⟨Nat.zero_le _, fun _ _ => trivial⟩)))) (by simp) (by simp) (by simp) (by simp) (by simp) (by simp) (by simp) (by simp) (by simp) (by simp) (by simp [XU]) (by simp) (by simp) ?_
  simp
  refine cDs [false] (zz (Ze (XR a1 a0.Z1) 10000 (Ze 0 (W (a0.YE - 1)) ([] : List ZD))) (by (first | (exact ⟨Nat.zero_le _, fun _ _ => trivial⟩) | (refine ZC (n := 2322432) ?_; exact ⟨Nat.zero_le _, fun _ _ => trivial⟩) | (refine ZC (n := 2322432) (ZC (n := 2322432 - 1) ?_); exact ⟨Nat.zero_le _, fun _ _ => trivial⟩) | (refine Za (n := 3) (by decide) (ZC (ZC (ZC (n := 0) ?_))); exact ⟨Nat.zero_le _, fun _ _ => trivial⟩) | (refine Za (n := 2) (by decide) (ZC (ZC (n := 0) ?_)); exact ⟨Nat.zero_le _, fun _ _ => trivial⟩) | (refine Za (n := 1) (by decide) (ZC (n := 0) ?_); exact ⟨Nat.zero_le _, fun _ _ => trivial⟩)))) ?_
  exact rtD [.tmp 4] f
 refine cF f ?_ ?_ <;> intro k3 h3 f
 ·refine IV (tf := 19) (u := 5) (row := [.sl 2 (([] : List ZD).map ZD.row)]) (row' := [.sl 2 ((Ze (W (a0.To + 1)) 10000 ([] : List ZD)).map ZD.row)]) (cells := [.nil 2]) [false] rfl rfl rfl rfl (QR (W (a0.To + 1)) 10000 ([] : List ZD) (by (first | (exact ⟨Nat.zero_le _, fun _ _ => trivial⟩) | (refine ZC (n := 2322432) ?_; exact ⟨Nat.zero_le _, fun _ _ => trivial⟩) | (refine ZC (n := 2322432) (ZC (n := 2322432 - 1) ?_); exact ⟨Nat.zero_le _, fun _ _ => trivial⟩) | (refine Za (n := 3) (by decide) (ZC (ZC (ZC (n := 0) ?_))); exact ⟨Nat.zero_le _, fun _ _ => trivial⟩) | (refine Za (n := 2) (by decide) (ZC (ZC (n := 0) ?_)); exact ⟨Nat.zero_le _, fun _ _ => trivial⟩) | (refine Za (n := 1) (by decide) (ZC (n := 0) ?_); exact ⟨Nat.zero_le _, fun _ _ => trivial⟩)))) (by simp) (by simp) (by simp) (by simp) (by simp) (by simp) (by simp) (by simp) (by simp) (by simp) (by simp [XU]) (by simp) (by simp) ?_
  simp
  refine cRs (Wm a1 a0.Z1) ?_
  refine IV (tf := 24) (u := 5) (row := [.sl 2 ((Ze (W (a0.To + 1)) 10000 ([] : List ZD)).map ZD.row)]) (row' := [.sl 2 ((Ze (XR a1 a0.Z1) 10000 (Ze (W (a0.To + 1)) 10000 ([] : List ZD))).map ZD.row)]) (cells := [.sref 5 1 0 (Ze (W (a0.To + 1)) 10000 ([] : List ZD)).length]) [false] rfl rfl rfl rfl (QR (XR a1 a0.Z1) 10000 (Ze (W (a0.To + 1)) 10000 ([] : List ZD)) (by (first | (exact ⟨Nat.zero_le _, fun _ _ => trivial⟩) | (refine ZC (n := 2322432) ?_; exact ⟨Nat.zero_le _, fun _ _ => trivial⟩) | (refine ZC (n := 2322432) (ZC (n := 2322432 - 1) ?_); exact ⟨Nat.zero_le _, fun _ _ => trivial⟩) | (refine Za (n := 3) (by decide) (ZC (ZC (ZC (n := 0) ?_))); exact ⟨Nat.zero_le _, fun _ _ => trivial⟩) | (refine Za (n := 2) (by decide) (ZC (ZC (n := 0) ?_)); exact ⟨Nat.zero_le _, fun _ _ => trivial⟩) | (refine Za (n := 1) (by decide) (ZC (n := 0) ?_); exact ⟨Nat.zero_le _, fun _ _ => trivial⟩)))) (by simp) (by simp) (by simp) (by simp) (by simp) (by simp) (by simp) (by simp) (by simp) (by simp) (by simp [XU]) (by simp) (by simp) ?_
  simp
  refine cDs [false] (zz (Ze (XR a1 a0.Z1) 10000 (Ze (W (a0.To + 1)) 10000 ([] : List ZD))) (by (first | (exact ⟨Nat.zero_le _, fun _ _ => trivial⟩) | (refine ZC (n := 2322432) ?_; exact ⟨Nat.zero_le _, fun _ _ => trivial⟩) | (refine ZC (n := 2322432) (ZC (n := 2322432 - 1) ?_); exact ⟨Nat.zero_le _, fun _ _ => trivial⟩) | (refine Za (n := 3) (by decide) (ZC (ZC (ZC (n := 0) ?_))); exact ⟨Nat.zero_le _, fun _ _ => trivial⟩) | (refine Za (n := 2) (by decide) (ZC (ZC (n := 0) ?_)); exact ⟨Nat.zero_le _, fun _ _ => trivial⟩) | (refine Za (n := 1) (by decide) (ZC (n := 0) ?_); exact ⟨Nat.zero_le _, fun _ _ => trivial⟩)))) ?_
  exact rtD [.tmp 4] f
 refine cRs (Wm a1 a0.Z1) ?_
 refine IV (tf := 24) (u := 5) (row := [.sl 2 (([] : List ZD).map ZD.row)]) (row' := [.sl 2 ((Ze (XR a1 a0.Z1) 10000 ([] : List ZD)).map ZD.row)]) (cells := [.nil 2]) [false] rfl rfl rfl rfl (QR (XR a1 a0.Z1) 10000 ([] : List ZD) (by (first | (exact ⟨Nat.zero_le _, fun _ _ => trivial⟩) | (refine ZC (n := 2322432) ?_; exact ⟨Nat.zero_le _, fun _ _ => trivial⟩) | (refine ZC (n := 2322432) (ZC (n := 2322432 - 1) ?_); exact ⟨Nat.zero_le _, fun _ _ => trivial⟩) | (refine Za (n := 3) (by decide) (ZC (ZC (ZC (n := 0) ?_))); exact ⟨Nat.zero_le _, fun _ _ => trivial⟩) | (refine Za (n := 2) (by decide) (ZC (ZC (n := 0) ?_)); exact ⟨Nat.zero_le _, fun _ _ => trivial⟩) | (refine Za (n := 1) (by decide) (ZC (n := 0) ?_); exact ⟨Nat.zero_le _, fun _ _ => trivial⟩)))) (by simp) (by simp) (by simp) (by simp) (by simp) (by simp) (by simp) (by simp) (by simp) (by simp) (by simp [XU]) (by simp) (by simp) ?_
 simp
 refine cDs [false] (zz (Ze (XR a1 a0.Z1) 10000 ([] : List ZD)) (by (first | (exact ⟨Nat.zero_le _, fun _ _ => trivial⟩) | (refine ZC (n := 2322432) ?_; exact ⟨Nat.zero_le _, fun _ _ => trivial⟩) | (refine ZC (n := 2322432) (ZC (n := 2322432 - 1) ?_); exact ⟨Nat.zero_le _, fun _ _ => trivial⟩) | (refine Za (n := 3) (by decide) (ZC (ZC (ZC (n := 0) ?_))); exact ⟨Nat.zero_le _, fun _ _ => trivial⟩) | (refine Za (n := 2) (by decide) (ZC (ZC (n := 0) ?_)); exact ⟨Nat.zero_le _, fun _ _ => trivial⟩) | (refine Za (n := 1) (by decide) (ZC (n := 0) ?_); exact ⟨Nat.zero_le _, fun _ _ => trivial⟩)))) ?_
 exact rtD [.tmp 4] f
theorem Fh (a0 : ZD) (a1 : ZD) : Sa 321 [a0.row, a1.row] [rB (qB a0 a1)] := by
 have f := me (qB.eq_1 a0 a1)
 refine so Tryz.func321 Tryz.ntmps321 ?_
 refine cRs (Qo a0) ?_
 refine cGs (fun gg => (Qo a1)) ?_
 exact rt [.tmp 4] f
theorem WK (a0 : List ZD) (a1 : ZD) (u0 : Sm 2326528 a0) : Sa 273 [rL 2 ZD.row a0, a1.row] [rB (QY a0 a1)] := by
 have f := me (QY.eq_1 a0 a1)
 refine so Tryz.func273 Tryz.ntmps273 ?_
 refine cRs (YZ.rd (zz a0 (sg u0))) ?_
 refine lp1 (K6.eq_2 a0 a1) (fun v1_0 => Z9 18 [eX 3 (a1.row.map .d), eL 8 2 (Y1 a0) ZD.row, eI 9 (↑(Y1 a0).length : Int), eI 10 (↑v1_0 : Int)]) (fun n1 v1_0 => (Y1 a0).length < n1 + v1_0 ∧ v1_0 ≤ (Y1 a0).length) ((Y1 a0).length + 1) 0 (fun p1 v1_0 e1 j1 => ?_)
 refine cFf e1 ?_ ?_ <;> intro k2 h1 e1
 ·have i1 := ix h1
  have m2 := ml (Y1 a0) (k2 8 _ rfl)
  have w1 := wr v1_0
  simp [i1, ZA]
  repeat with_reducible refine sd ?_
  refine cRs (Fh a1 (nth (Y1 a0) v1_0)) ?_
  refine cF e1 ?_ ?_ <;> intro k3 h2 e1
  ·have f := ms f e1
   exact rt [.tmp 4] f
  exact ny1 w1 e1
 have f := ms f e1
 exact rt [.tmp 4] f
theorem Gj (a0 : Zs) (a1 : List Zo) (a2 : ZD) (u0 : Sm 2318336 a1) : Sa 206 [a0.row, rL 5 Zo.row a1, a2.row] [rB (VT a0 a1 a2)] := by
 have f := me (VT.eq_1 a0 a1 a2)
 refine so Tryz.func206 Tryz.ntmps206 ?_
 refine dIs mixed ?_
 refine cRs (YZ.rd (FR a0 a1 (sg u0))) ?_
 refine cRs (WK (yS a0 a1) a2 (by exact FB (by decide))) ?_
 exact rt [.tmp 6] f
theorem HM (a0 : List Zo) (a1 : Int) : Sa 326 [rL 5 Zo.row a0, rI a1] [rI (yL a0 a1)] := by
 have f := me (yL.eq_1 a0 a1)
 refine so Tryz.func326 Tryz.ntmps326 ?_
 refine cRs (F6 a0 a1) ?_
 refine cF f ?_ ?_ <;> intro k1 h1 f
 ·exact rt [.tmp 4] f
 exact rt [.tmp 4] f
theorem HA (a0 : ZD) (a1 : ZD) : Sa 345 [a0.row, a1.row] [(QJ a0 a1).1.row, rB (QJ a0 a1).2] := by
 have f := me (QJ.eq_1 a0 a1)
 refine so Tryz.func345 Tryz.ntmps345 ?_
 refine cRs (Qo a0) ?_
 refine cGs (fun gg => (Qo a1)) ?_
 refine cGs (fun gg => (Qo (ZD.mk (if a1.YE > a0.YE then a1.YE else a0.YE) (if a1.To < a0.To then a1.To else a0.To)))) ?_
 refine cF f ?_ ?_ <;> intro k1 h1 f
 ·exact rt [.cell 4 77, .tmp 5] f
 exact rt [.cell 4 77, .tmp 5] f
theorem Tf {a b : Prop} (h : b) (k : a := by (intros; first | omega | with_unfolding_all (first | (first | omega | (simp at *; omega))) | ((try simp only [Qv, show ∀ x, IntKind.i64.wrap x = W x from fun _ => rfl] at *); omega))) : a ∧ b := ⟨k, h⟩
theorem CA (a0 : List ZD) (a1 : List ZD) (u0 : Sm 2326528 a0) (u1 : Sm 2326528 a1) (u2 : a0.length ≤ 1 ∧ a1.length ≤ 1) : Sd 325 [rL 2 ZD.row a0, rL 2 ZD.row a1] [rL 2 ZD.row (j7 a0 a1)] := by
 have f := me (j7.eq_1 a0 a1)
 refine soD Tryz.func325 Tryz.ntmps325 ?_
 refine lp2 (qQ.eq_2 a0 a1) (fun v1_0 v1_1 => Z9 39 [eL 1 2 a1 ZD.row, (5, .one (.sref 5 0 0 v1_0.length), [.arr false 2 (v1_0.map ZD.row)]), eL 12 2 a0 ZD.row, eI 13 (↑a0.length : Int), eI 14 (↑v1_1 : Int)]) (fun n1 v1_0 v1_1 => a0.length < n1 + v1_1 ∧ v1_1 ≤ a0.length ∧ v1_0.length ≤ v1_1) (a0.length + 1) ([] : List ZD) 0 (fun p1 v1_0 v1_1 e1 j1 => ?_) (h0 := YI [((5, 0), none)] [] rfl (by simp))
 try dsimp only at j1
 refine cFf e1 ?_ ?_ <;> intro k2 h1 e1
 ·have i1 := ix h1
  have m2 := ml a0 (k2 12 _ rfl)
  have c1 := sl 2326528 a0 (an u0 (an u1 u2))
  have w1 := wr v1_1
  simp [i1, ZA]
  repeat with_reducible refine Tf ?_
  refine lp2 (KF.eq_2 a0 a1 v1_1) (fun v2_0 v2_1 => Z9 39 [eL 1 2 a1 ZD.row, (5, .one (.sref 5 0 0 v2_0.length), [.arr false 2 (v2_0.map ZD.row)]), eX 7 ((nth a0 v1_1).row.map .d), eL 12 2 a0 ZD.row, eI 13 (↑a0.length : Int), eI 14 (↑v1_1 : Int), eL 18 2 a1 ZD.row, eI 19 (↑a1.length : Int), eI 20 (↑v2_1 : Int)]) (fun n2 v2_0 v2_1 => a1.length < n2 + v2_1 ∧ v2_1 ≤ a1.length ∧ v2_0.length ≤ v1_1 + v2_1) (a1.length + 1) v1_0 0 (fun p2 v2_0 v2_1 e2 j2 => ?_)
  try dsimp only at j2
  refine cFf e2 ?_ ?_ <;> intro k4 h2 e2
  ·have i2 := ix h2
   have m4 := ml a1 (k4 1 _ rfl)
   have c2 := sl 2326528 a1 (an u0 (an u1 u2))
   have w2 := wr v2_1
   simp [i2, ZA]
   repeat with_reducible refine Tf ?_
   refine cRs (HA (nth a0 v1_1) (nth a1 v2_1)) ?_
   refine cFf e2 ?_ ?_ <;> intro k5 h3 e2
   ·simp
    repeat with_reducible refine Tf ?_
    exact nx2 e2 (hI := by first | omega | (simp at *; omega)) (hw := YI [((5, 0), some (34, 0))] [] rfl (by simp [w1, w2]))
   exact ny2 (an w1 w2) e2 (hI := by first | omega | (simp at *; omega))
  have c3 := sl 2326528 a1 (an u0 (an u1 u2))
  have e1 := ms e1 e2
  exact ny2 w1 e1
 have c4 := sl 2326528 a0 (an u0 (an u1 u2))
 have f := ms f e1
 refine cDs [false] (zz v1_0 (by exact ⟨by omega, fun _ _ => trivial⟩)) ?_
 exact rtD [.tmp 4] f
theorem Ic (a0 : Zs) (a1 : List Zo) (u0 : Sm 2322432 a1) : Sd 275 [a0.row, rL 5 Zo.row a1] [rL 2 ZD.row (zV a0 a1)] := by
 have f := me (zV.eq_1 a0 a1)
 refine soD Tryz.func275 Tryz.ntmps275 ?_
 refine dIs mixed ?_
 refine cRs (PZ a0) ?_
 refine cRs (HM a1 a0.Z1) ?_
 refine cDs [false] (CA ([(yv a0)] : List ZD) ([(ZD.mk 0 (yL a1 a0.Z1))] : List ZD) (by simp (maxDischargeDepth := 12) [JX, XT, Za (m := 2326528) (by decide) u0]; try omega) (by simp (maxDischargeDepth := 12) [JX, XT, Za (m := 2326528) (by decide) u0]; try omega) (by exact ⟨Nat.le_refl _, Nat.le_refl _⟩)) ?_
 exact rtD [.tmp 4] f
theorem Ll (a0 : Zs) (a1 : List Zo) (a2 : ZD) (u0 : Sm 2318336 a1) : Sa 207 [a0.row, rL 5 Zo.row a1, a2.row] [rB (jA a0 a1 a2)] := by
 have f := me (jA.eq_1 a0 a1 a2)
 refine so Tryz.func207 Tryz.ntmps207 ?_
 refine dIs mixed ?_
 refine cRs (YZ.rd (Ic a0 a1 (sg u0))) ?_
 refine cRs (WK (zV a0 a1) a2 (by exact Hv (by decide))) ?_
 exact rt [.tmp 6] f
theorem L5 (a0 : List ZB) (u0 : Sm 2330624 a0) : Sd 209 [rL 3 ZB.row a0] [rL 6 Zr.row (zs a0)] := by
 have f := me (zs.eq_1 a0)
 refine soD Tryz.func209 Tryz.ntmps209 ?_
 refine lp2 (Je.eq_2 a0) (fun v1_0 v1_1 => Z9 26 [(3, .one (.sref 3 0 0 v1_0.length), [.arr false 6 (v1_0.map Zr.row)]), eL 8 3 a0 ZB.row, eI 9 (↑a0.length : Int), eI 10 (↑v1_1 : Int)]) (fun n1 v1_0 v1_1 => a0.length < n1 + v1_1 ∧ v1_1 ≤ a0.length ∧ v1_0.length ≤ 0 + 1 * v1_1) (a0.length + 1) ([] : List Zr) 0 (fun p1 v1_0 v1_1 e1 j1 => ?_) (h0 := YI [((3, 0), none)] [] rfl (by simp))
 refine cFf e1 ?_ ?_ <;> intro k2 h1 e1
 ·have i1 := ix h1
  have m2 := ml a0 (k2 8 _ rfl)
  have c1 := sl 2330624 a0 u0
  have w1 := wr v1_1
  simp [i1, ZA]
  repeat with_reducible refine sd ?_
  refine cRs (V6 (nth a0 v1_1)) ?_
  refine cF e1 ?_ ?_ <;> intro k3 h2 e1
  ·exact nx2 e1 (hw := YI [((3, 0), some (23, 0))] [] rfl (by simp [w1]))
  exact ny2 w1 e1
 have c2 := sl 2330624 a0 u0
 have f := ms f e1
 exact rtD [.tmp 2] f
theorem GM (a0 : Zr) : Sa 346 [a0.row] [rB (kb a0)] := by
 have f := me (kb.eq_1 a0)
 refine so Tryz.func346 Tryz.ntmps346 ?_
 refine cRs (Zn a0.Org 1 99) ?_
 refine cGs (fun gg => (Zn a0.W8 0 99)) ?_
 refine cGs (fun gg => (Zn a0.Key 1 99)) ?_
 refine cGs (fun gg => (Qo (ZD.mk a0.YE a0.To))) ?_
 exact rt [.tmp 2] f
theorem Na (a0 : Zr) : Sd 347 [a0.row] [rL 1 iR (QX a0)] := by
 have f := me (QX.eq_1 a0)
 refine soD Tryz.func347 Tryz.ntmps347 ?_
 exact rtD [.tmp 2] f
theorem Oo (a0 : List Zy) (a1 : Zr) (u0 : Sm 2314240 a0) : Sa 327 [rL 5 Zy.row a0, a1.row] [rB (yz a0 a1)] := by
 have f := me (yz.eq_1 a0 a1)
 refine so Tryz.func327 Tryz.ntmps327 ?_
 refine dIs mixed ?_
 refine cRs (GM a1) ?_
 refine cGs (fun gg => (NF a0 a1.Key)) ?_
 refine cGs (fun gg => YZ.rd (Na a1)) ?_
 refine cGs (fun gg => (QE a0 a1.Key (QX a1) a1.Mark (sg u0) (by simp (maxDischargeDepth := 12) [Nf, Za (m := 2318336) (by decide) u0]; try omega))) ?_
 exact rt [.tmp 4] f
theorem Ow (a0 : List Zy) (a1 : List Zr) (a2 : Int) (a3 : Int) (u0 : Sm 2310144 a0) (u1 : Sm 2310144 a1) : Sd 276 [rL 5 Zy.row a0, rL 6 Zr.row a1, rI a2, rI a3] [rL 2 ZD.row (Qk a0 a1 a2 a3)] := by
 have f := me (Qk.eq_1 a0 a1 a2 a3)
 refine soD Tryz.func276 Tryz.ntmps276 ?_
 refine lp2 (QS.eq_2 a0 a1 a2 a3) (fun v1_0 v1_1 => Z9 44 [eL 0 5 a0 Zy.row, eI 2 a2, eI 3 a3, (9, .one (.sref 9 0 0 v1_0.length), [.arr false 2 (v1_0.map ZD.row)]), eL 12 6 a1 Zr.row, eI 13 (↑a1.length : Int), eI 14 (↑v1_1 : Int)]) (fun n1 v1_0 v1_1 => a1.length < n1 + v1_1 ∧ v1_1 ≤ a1.length ∧ v1_0.length ≤ 0 + 1 * v1_1) (a1.length + 1) ([] : List ZD) 0 (fun p1 v1_0 v1_1 e1 j1 => ?_) (h0 := YI [((9, 0), none)] [] rfl (by simp))
 refine cFf e1 ?_ ?_ <;> intro k2 h1 e1
 ·have i1 := ix h1
  have m2 := ml a1 (k2 12 _ rfl)
  have c1 := sl 2310144 a1 (an u0 u1)
  have w1 := wr v1_1
  simp [i1, ZA]
  repeat with_reducible refine sd ?_
  refine cGs (fun gg => (Oo a0 (nth a1 v1_1) (sg u0))) ?_
  refine cF e1 ?_ ?_ <;> intro k3 h2 e1
  ·exact nx2 e1 (hw := YI [((9, 0), some (40, 0))] [] rfl (by simp [w1]))
  exact ny2 w1 e1
 have c2 := sl 2310144 a1 (an u0 u1)
 have f := ms f e1
 refine cDs [false] (zz v1_0 (by first | (simp (maxDischargeDepth := 12) [XT]; omega) | (simp (maxDischargeDepth := 12) [Za (m := 2330624) (by decide) u0, Za (m := 2330624) (by decide) u1]; done))) ?_
 exact rtD [.tmp 8] f
theorem Lf (a0 : List Zy) (a1 : List Zr) (a2 : Int) (a3 : Int) (a4 : ZD) (u0 : Sm 2306048 a0) (u1 : Sm 2306048 a1) : Sa 208 [rL 5 Zy.row a0, rL 6 Zr.row a1, rI a2, rI a3, a4.row] [rB (jT a0 a1 a2 a3 a4)] := by
 have f := me (jT.eq_1 a0 a1 a2 a3 a4)
 refine so Tryz.func208 Tryz.ntmps208 ?_
 refine dIs mixed ?_
 refine cGs (fun gg => (Qo a4)) ?_
 refine cGs (fun gg => YZ.rd (Ow a0 a1 a2 a3 (by first | exact sg u0 | exact sg u1) (by first | exact sg u0 | exact sg u1))) ?_
 refine cGs (fun gg => (WK (Qk a0 a1 a2 a3) a4 (by exact Ot (by have z := YH u1; omega)))) ?_
 refine ⟨by by_cases h : a2 = 0 <;> simp [h], ?_⟩
 exact rt [.tmp 10] f
theorem OZ (a0 : ZH) (a1 : ZI) (a2 : List (List Int)) (a3 : Int) (a4 : ZY) (u0 : Sm 2281472 a0) (u1 : Sm 2281472 a1) (u2 : Sm 2281472 a2) (u3 : CC a1 ≤ 2097152) : Sa 144 [a0.row, a1.row, rL 1 (slR 1 iR) a2, rI a3, a4.row] [(yX a0 a1 a2 a3 a4).row] := by
 have f := me (yX.eq_1 a0 a1 a2 a3 a4)
 refine so Tryz.func144 Tryz.ntmps144 ?_
 refine cRs (NC a0) ?_
 refine cF f ?_ ?_ <;> intro k1 h1 f
 ·refine cRs (Wt 1) ?_
  exact rt [.cell 10 79] f
 refine cRs (Uy a4) ?_
 refine cF f ?_ ?_ <;> intro k2 h2 f
 ·refine cRs (Tc 1) ?_
  exact rt [.cell 10 79] f
 refine cF f ?_ ?_ <;> intro k3 h3 f
 ·refine cRs (Wt 2) ?_
  exact rt [.cell 10 79] f
 refine cF f ?_ ?_ <;> intro k4 h4 f
 ·refine cRs (Tc 2) ?_
  exact rt [.cell 10 79] f
 refine cRs (xC a0.Yb a4.Key) ?_
 refine cF f ?_ ?_ <;> intro k5 h5 f
 ·refine cRs (Wt 3) ?_
  exact rt [.cell 10 79] f
 refine cRs (PI a0.Yb a4 (by (first | exact sg (Yd (n := 2281472) (by decide)) | exact sg u0 | exact sg u1 | exact sg u2 | exact u3 | exact sg (ZH.YL u0) | exact sg (ZH.Z6 u0) | exact sg (ZO (K := 2281472) u1 u3 (by decide)) | exact sg (YK (ZO (K := 2281472) u1 u3 (by decide))) | exact sg (YQ (ZO (K := 2281472) u1 u3 (by decide)))))) ?_
 refine cF f ?_ ?_ <;> intro k6 h6 f
 ·refine cRs (Tc 4) ?_
  exact rt [.cell 10 79] f
 refine dIs mixed ?_
 refine cRs (YZ.rd (Rn a4)) ?_
 refine cRs (W1 a0 a1 a2 (Yx a4) (by (first | exact sg (Yd (n := 2281472) (by decide)) | exact sg u0 | exact sg u1 | exact sg u2 | exact u3 | exact sg (ZH.YL u0) | exact sg (ZH.Z6 u0) | exact sg (ZO (K := 2281472) u1 u3 (by decide)) | exact sg (YK (ZO (K := 2281472) u1 u3 (by decide))) | exact sg (YQ (ZO (K := 2281472) u1 u3 (by decide))))) (by (first | exact sg (Yd (n := 2281472) (by decide)) | exact sg u0 | exact sg u1 | exact sg u2 | exact u3 | exact sg (ZH.YL u0) | exact sg (ZH.Z6 u0) | exact sg (ZO (K := 2281472) u1 u3 (by decide)) | exact sg (YK (ZO (K := 2281472) u1 u3 (by decide))) | exact sg (YQ (ZO (K := 2281472) u1 u3 (by decide))))) (by (first | exact sg (Yd (n := 2281472) (by decide)) | exact sg u0 | exact sg u1 | exact sg u2 | exact u3 | exact sg (ZH.YL u0) | exact sg (ZH.Z6 u0) | exact sg (ZO (K := 2281472) u1 u3 (by decide)) | exact sg (YK (ZO (K := 2281472) u1 u3 (by decide))) | exact sg (YQ (ZO (K := 2281472) u1 u3 (by decide))))) (by (first | exact sg (Yd (n := 2281472) (by decide)) | exact sg u0 | exact sg u1 | exact sg u2 | exact u3 | exact sg (ZH.YL u0) | exact sg (ZH.Z6 u0) | exact sg (ZO (K := 2281472) u1 u3 (by decide)) | exact sg (YK (ZO (K := 2281472) u1 u3 (by decide))) | exact sg (YQ (ZO (K := 2281472) u1 u3 (by decide)))))) ?_
 refine cRs (SZ a0 a4.Key) ?_
 refine cGs (fun gg => (Wn a0.Methods a4.Method)) ?_
 refine cF f ?_ ?_ <;> intro k8 h7 f
 ·refine cRs (Wt 5) ?_
  exact rt [.cell 10 79] f
 refine cRs (NK a0 a1 a2 (by (first | exact sg (Yd (n := 2281472) (by decide)) | exact sg u0 | exact sg u1 | exact sg u2 | exact u3 | exact sg (ZH.YL u0) | exact sg (ZH.Z6 u0) | exact sg (ZO (K := 2281472) u1 u3 (by decide)) | exact sg (YK (ZO (K := 2281472) u1 u3 (by decide))) | exact sg (YQ (ZO (K := 2281472) u1 u3 (by decide))))) (by (first | exact sg (Yd (n := 2281472) (by decide)) | exact sg u0 | exact sg u1 | exact sg u2 | exact u3 | exact sg (ZH.YL u0) | exact sg (ZH.Z6 u0) | exact sg (ZO (K := 2281472) u1 u3 (by decide)) | exact sg (YK (ZO (K := 2281472) u1 u3 (by decide))) | exact sg (YQ (ZO (K := 2281472) u1 u3 (by decide))))) (by (first | exact sg (Yd (n := 2281472) (by decide)) | exact sg u0 | exact sg u1 | exact sg u2 | exact u3 | exact sg (ZH.YL u0) | exact sg (ZH.Z6 u0) | exact sg (ZO (K := 2281472) u1 u3 (by decide)) | exact sg (YK (ZO (K := 2281472) u1 u3 (by decide))) | exact sg (YQ (ZO (K := 2281472) u1 u3 (by decide))))) (by (first | exact sg (Yd (n := 2281472) (by decide)) | exact sg u0 | exact sg u1 | exact sg u2 | exact u3 | exact sg (ZH.YL u0) | exact sg (ZH.Z6 u0) | exact sg (ZO (K := 2281472) u1 u3 (by decide)) | exact sg (YK (ZO (K := 2281472) u1 u3 (by decide))) | exact sg (YQ (ZO (K := 2281472) u1 u3 (by decide)))))) ?_
 refine cRs (Dq a0 (Zj a0 a1 a2) a4 (by (first | exact sg (Yd (n := 2281472) (by decide)) | exact sg u0 | exact sg u1 | exact sg u2 | exact u3 | exact sg (ZH.YL u0) | exact sg (ZH.Z6 u0) | exact sg (ZO (K := 2281472) u1 u3 (by decide)) | exact sg (YK (ZO (K := 2281472) u1 u3 (by decide))) | exact sg (YQ (ZO (K := 2281472) u1 u3 (by decide))))) (by (first | exact sg (Yd (n := 2281472) (by decide)) | exact sg u0 | exact sg u1 | exact sg u2 | exact u3 | exact sg (ZH.YL u0) | exact sg (ZH.Z6 u0) | exact sg (ZO (K := 2281472) u1 u3 (by decide)) | exact sg (YK (ZO (K := 2281472) u1 u3 (by decide))) | exact sg (YQ (ZO (K := 2281472) u1 u3 (by decide)))))) ?_
 refine cF f ?_ ?_ <;> intro k9 h8 f
 ·refine cRs (Wt 6) ?_
  exact rt [.cell 10 79] f
 refine cRs (Hi a0 a1 (Zj a0 a1 a2) a4 (by (first | exact sg (Yd (n := 2281472) (by decide)) | exact sg u0 | exact sg u1 | exact sg u2 | exact u3 | exact sg (ZH.YL u0) | exact sg (ZH.Z6 u0) | exact sg (ZO (K := 2281472) u1 u3 (by decide)) | exact sg (YK (ZO (K := 2281472) u1 u3 (by decide))) | exact sg (YQ (ZO (K := 2281472) u1 u3 (by decide))))) (by (first | exact sg (Yd (n := 2281472) (by decide)) | exact sg u0 | exact sg u1 | exact sg u2 | exact u3 | exact sg (ZH.YL u0) | exact sg (ZH.Z6 u0) | exact sg (ZO (K := 2281472) u1 u3 (by decide)) | exact sg (YK (ZO (K := 2281472) u1 u3 (by decide))) | exact sg (YQ (ZO (K := 2281472) u1 u3 (by decide))))) (by (first | exact sg (Yd (n := 2281472) (by decide)) | exact sg u0 | exact sg u1 | exact sg u2 | exact u3 | exact sg (ZH.YL u0) | exact sg (ZH.Z6 u0) | exact sg (ZO (K := 2281472) u1 u3 (by decide)) | exact sg (YK (ZO (K := 2281472) u1 u3 (by decide))) | exact sg (YQ (ZO (K := 2281472) u1 u3 (by decide)))))) ?_
 refine cF f ?_ ?_ <;> intro k10 h9 f
 ·refine cRs (Wt 7) ?_
  exact rt [.cell 10 79] f
 refine cRs (YZ.rd (Nt (Zj a0 a1 a2) (Xx a0 (Zj a0 a1 a2) a4).1 (by (first | exact sg (Yd (n := 2281472) (by decide)) | exact sg u0 | exact sg u1 | exact sg u2 | exact u3 | exact sg (ZH.YL u0) | exact sg (ZH.Z6 u0) | exact sg (ZO (K := 2281472) u1 u3 (by decide)) | exact sg (YK (ZO (K := 2281472) u1 u3 (by decide))) | exact sg (YQ (ZO (K := 2281472) u1 u3 (by decide))))))) ?_
 refine cRs (Gj (Xx a0 (Zj a0 a1 a2) a4).1 (Qc (Zj a0 a1 a2) (Xx a0 (Zj a0 a1 a2) a4).1) (ZD.mk (XV a0 a1 (Zj a0 a1 a2) a4) (YO a0 a1 a2 (Yx a4))) (by (first | exact sg (Yd (n := 2281472) (by decide)) | exact sg u0 | exact sg u1 | exact sg u2 | exact u3 | exact sg (ZH.YL u0) | exact sg (ZH.Z6 u0) | exact sg (ZO (K := 2281472) u1 u3 (by decide)) | exact sg (YK (ZO (K := 2281472) u1 u3 (by decide))) | exact sg (YQ (ZO (K := 2281472) u1 u3 (by decide)))))) ?_
 refine cF f ?_ ?_ <;> intro k11 h10 f
 ·exact rt [.cell 10 79] f
 refine cRs (Ll (Xx a0 (Zj a0 a1 a2) a4).1 (Qc (Zj a0 a1 a2) (Xx a0 (Zj a0 a1 a2) a4).1) (ZD.mk (XV a0 a1 (Zj a0 a1 a2) a4) (YO a0 a1 a2 (Yx a4))) (by (first | exact sg (Yd (n := 2281472) (by decide)) | exact sg u0 | exact sg u1 | exact sg u2 | exact u3 | exact sg (ZH.YL u0) | exact sg (ZH.Z6 u0) | exact sg (ZO (K := 2281472) u1 u3 (by decide)) | exact sg (YK (ZO (K := 2281472) u1 u3 (by decide))) | exact sg (YQ (ZO (K := 2281472) u1 u3 (by decide)))))) ?_
 refine cF f ?_ ?_ <;> intro k12 h11 f
 ·exact rt [.cell 10 79] f
 refine dIs mixed ?_
 refine cRs (YZ.rd (L5 (Zj a0 a1 a2) (by (first | exact sg (Yd (n := 2281472) (by decide)) | exact sg u0 | exact sg u1 | exact sg u2 | exact u3 | exact sg (ZH.YL u0) | exact sg (ZH.Z6 u0) | exact sg (ZO (K := 2281472) u1 u3 (by decide)) | exact sg (YK (ZO (K := 2281472) u1 u3 (by decide))) | exact sg (YQ (ZO (K := 2281472) u1 u3 (by decide))))))) ?_
 refine cRs (Lf a0.Yb (zs (Zj a0 a1 a2)) a4.Org (Xx a0 (Zj a0 a1 a2) a4).1.JZ (ZD.mk (XV a0 a1 (Zj a0 a1 a2) a4) (YO a0 a1 a2 (Yx a4))) (by (first | exact sg (Yd (n := 2281472) (by decide)) | exact sg u0 | exact sg u1 | exact sg u2 | exact u3 | exact sg (ZH.YL u0) | exact sg (ZH.Z6 u0) | exact sg (ZO (K := 2281472) u1 u3 (by decide)) | exact sg (YK (ZO (K := 2281472) u1 u3 (by decide))) | exact sg (YQ (ZO (K := 2281472) u1 u3 (by decide))))) (by (first | exact sg (Yd (n := 2281472) (by decide)) | exact sg u0 | exact sg u1 | exact sg u2 | exact u3 | exact sg (ZH.YL u0) | exact sg (ZH.Z6 u0) | exact sg (ZO (K := 2281472) u1 u3 (by decide)) | exact sg (YK (ZO (K := 2281472) u1 u3 (by decide))) | exact sg (YQ (ZO (K := 2281472) u1 u3 (by decide)))))) ?_
 refine cF f ?_ ?_ <;> intro k14 h12 f
 ·exact rt [.cell 10 79] f
 exact rt [.cell 10 79] f
theorem AV (a0 : ZH) (a1 : ZI) (a2 : Zd) (a3 : ZY) (u0 : Sm 2277376 a0) (u1 : Sm 2277376 a1) (u2 : Sm 2277376 a2) (u3 : CC a1 ≤ 2097152) : Sa 107 [a0.row, a1.row, a2.row, a3.row] [(OT a0 a1 a2 a3).row] := by
 have f := me (OT.eq_1 a0 a1 a2 a3)
 refine so Tryz.func107 Tryz.ntmps107 ?_
 refine dIs mixed ?_
 refine cRs (YZ.rd (Px a1 a2 (by (first | exact sg u0 | exact sg u1 | exact sg u2 | exact u3 | exact sg (Xu (n := 2277376) u1))) (by (first | exact sg u0 | exact sg u1 | exact sg u2 | exact u3 | exact sg (Xu (n := 2277376) u1))))) ?_
 refine cRs (Sp a3.Method a2 (by (first | exact sg u0 | exact sg u1 | exact sg u2 | exact u3 | exact sg (Xu (n := 2277376) u1)))) ?_
 refine cRs (OZ a0 a1 (JA a1 a2) (yh a3.Method a2) a3 (by (first | exact sg u0 | exact sg u1 | exact sg u2 | exact u3 | exact sg (Xu (n := 2277376) u1))) (by (first | exact sg u0 | exact sg u1 | exact sg u2 | exact u3 | exact sg (Xu (n := 2277376) u1))) (by (first | exact sg u0 | exact sg u1 | exact sg u2 | exact u3 | exact sg (Xu (n := 2277376) u1))) (by (first | exact sg u0 | exact sg u1 | exact sg u2 | exact u3 | exact sg (Xu (n := 2277376) u1)))) ?_
 exact rt [.cell 8 79] f
theorem Ie (a0 : ZH) (a1 : Zt) (u0 : Sm 2273280 a0) (u1 : Sm 2097152 a1) : Sa 60 [a0.row, a1.row] [(kR a0 a1).row] := by
 have f := me (kR.eq_1 a0 a1)
 refine so Tryz.func60 Tryz.ntmps60 ?_
 refine dIs mixed ?_
 refine cRs (YZ.rd (NN a1 (by (first | exact sg u0 | exact sg (Zt.WC u1) | exact sg (n := 2097152) (show Sm 2097152 (ZI.mk [a1.Yl] []) from ⟨⟨Nat.le_of_ble_eq_true rfl, fun x hx => by rcases List.mem_cons.1 hx with rfl | hx; exact Zt.Y8 u1; cases hx⟩, ⟨Nat.zero_le _, fun x hx => by cases hx⟩⟩) | exact (show a1.Yl.ZT.length + 0 ≤ 2097152 from YH (ZK.Yh (Zt.Y8 u1))) | exact sg u1)))) ?_
 refine cRs (AV a0 (zG a1) a1.Doc a1.Sig (by (first | exact sg u0 | exact sg (Zt.WC u1) | exact sg (n := 2097152) (show Sm 2097152 (ZI.mk [a1.Yl] []) from ⟨⟨Nat.le_of_ble_eq_true rfl, fun x hx => by rcases List.mem_cons.1 hx with rfl | hx; exact Zt.Y8 u1; cases hx⟩, ⟨Nat.zero_le _, fun x hx => by cases hx⟩⟩) | exact (show a1.Yl.ZT.length + 0 ≤ 2097152 from YH (ZK.Yh (Zt.Y8 u1))) | exact sg u1)) (by (first | exact sg u0 | exact sg (Zt.WC u1) | exact sg (n := 2097152) (show Sm 2097152 (ZI.mk [a1.Yl] []) from ⟨⟨Nat.le_of_ble_eq_true rfl, fun x hx => by rcases List.mem_cons.1 hx with rfl | hx; exact Zt.Y8 u1; cases hx⟩, ⟨Nat.zero_le _, fun x hx => by cases hx⟩⟩) | exact (show a1.Yl.ZT.length + 0 ≤ 2097152 from YH (ZK.Yh (Zt.Y8 u1))) | exact sg u1)) (by (first | exact sg u0 | exact sg (Zt.WC u1) | exact sg (n := 2097152) (show Sm 2097152 (ZI.mk [a1.Yl] []) from ⟨⟨Nat.le_of_ble_eq_true rfl, fun x hx => by rcases List.mem_cons.1 hx with rfl | hx; exact Zt.Y8 u1; cases hx⟩, ⟨Nat.zero_le _, fun x hx => by cases hx⟩⟩) | exact (show a1.Yl.ZT.length + 0 ≤ 2097152 from YH (ZK.Yh (Zt.Y8 u1))) | exact sg u1)) (by (first | exact sg u0 | exact sg (Zt.WC u1) | exact sg (n := 2097152) (show Sm 2097152 (ZI.mk [a1.Yl] []) from ⟨⟨Nat.le_of_ble_eq_true rfl, fun x hx => by rcases List.mem_cons.1 hx with rfl | hx; exact Zt.Y8 u1; cases hx⟩, ⟨Nat.zero_le _, fun x hx => by cases hx⟩⟩) | exact (show a1.Yl.ZT.length + 0 ≤ 2097152 from YH (ZK.Yh (Zt.Y8 u1))) | exact sg u1))) ?_
 exact rt [.cell 4 79] f
theorem N6 {a b : Prop} (h : b) (k : a := by (intros; first | omega | with_unfolding_all (first | first | omega | (have fi := Tn a0 a1 (by first | omega | (simp at q1; omega)); omega)) | ((try simp only [Qv, show ∀ x, IntKind.i64.wrap x = W x from fun _ => rfl] at *); omega))) : a ∧ b := ⟨k, h⟩
theorem Nn (a0 : Zi) (a1 : Int) (u0 : Sm 1048576 a0) : Sa 27 [a0.row, rI a1] [(KZ a0 a1).row] := by
 have f := me (KZ.eq_1 a0 a1)
 refine so Tryz.func27 Tryz.ntmps27 ?_
 refine cRs (BH a0 a1) ?_
 refine cFo f ?_ ?_ <;> intro k1 h1 f
 ·have q1 := h1; try simp at q1
  simp
  exact rt [.cell 4 79] f
 have q1 := h1; try simp at q1
 simp
 refine dIo mixed ?_
 have i1 : (QD a0 a1).1.toNat < a0.ZE.length := by first | omega | (have fi := Tn a0 a1 (by first | omega | (simp at q1; omega)); omega)
 have i2 : (QD a0 a1).2.toNat < (nth a0.ZE (QD a0 a1).1.toNat).Zh.length := by first | omega | (have fi := Tn a0 a1 (by first | omega | (simp at q1; omega)); omega)
 simp [i1, ZA, i2]
 repeat with_reducible refine N6 ?_
 refine cRs (Ie a0.Frame (nth (nth a0.ZE (QD a0 a1).1.toNat).Zh (QD a0 a1).2.toNat) (sg (Zi.S9 u0)) (sg (Zx (Zc.Ra (Zx (Zi.V8 u0)))))) ?_
 exact rt [.cell 4 79] f
theorem SP {a b : Prop} (h : b) (k : a := by (intros; first | omega | with_unfolding_all (first | (first | omega | (have z := Uc a0; omega))) | ((try simp only [Qv, show ∀ x, IntKind.i64.wrap x = W x from fun _ => rfl] at *); omega))) : a ∧ b := ⟨k, h⟩
theorem Lw (a0 : Zi) (u0 : Sm 1048576 a0) (u1 : itn a0.ZE ≤ 1048576) : Sd 35 [a0.row] [rL 1 iR (Y5 a0)] := by
 have f := me (Y5.eq_1 a0)
 refine soD Tryz.func35 Tryz.ntmps35 ?_
 refine cRs (DU a0 (sg u0) (by omega)) ?_
 refine lp2 (yp.eq_2 a0) (fun v1_0 v1_1 => Z9 26 [eX 1 (a0.row.map .d), (3, .one (.sref 3 0 0 v1_0.length), [.arr false 1 (v1_0.map iR)]), eL 7 16 (Xc a0) Zt.row, eI 8 (↑(Xc a0).length : Int), eI 9 (↑v1_1 : Int)]) (fun n1 v1_0 v1_1 => (Xc a0).length < n1 + v1_1 ∧ v1_1 ≤ (Xc a0).length ∧ v1_0.length ≤ v1_1) ((Xc a0).length + 1) ([] : List Int) 0 (fun p1 v1_0 v1_1 e1 j1 => ?_) (h0 := YI [((3, 0), none)] [] rfl (by simp))
 try dsimp only at j1
 refine cFf e1 ?_ ?_ <;> intro k2 h1 e1
 ·have i1 := ix h1
  have m2 := ml (Xc a0) (k2 7 _ rfl)
  have w1 := wr v1_1
  simp [i1, ZA]
  repeat with_reducible refine SP ?_
  refine cRs (Nn a0 (nth (Xc a0) v1_1).Id u0) ?_
  refine cFf e1 ?_ ?_ <;> intro k3 h2 e1
  ·simp
   repeat with_reducible refine SP ?_
   exact nx2 e1 (hw := YI [((3, 0), some (23, 0))] [] rfl (by simp [w1]))
  exact ny2 w1 e1
 have f := ms f e1
 exact rtD [.tmp 2] f
theorem U9 {a b : Prop} (h : b) (k : a := by (intros; first | omega | with_unfolding_all (first | (first | omega | (have z := Nk a0; omega))) | ((try simp only [Qv, show ∀ x, IntKind.i64.wrap x = W x from fun _ => rfl] at *); omega))) : a ∧ b := ⟨k, h⟩
theorem MN (a0 : Zi) (u0 : Sm 1048576 a0) (u1 : itn a0.ZE ≤ 1048576) : Sd 43 [a0.row] [rL 1 iR (xm a0)] := by
 have f := me (xm.eq_1 a0)
 refine soD Tryz.func43 Tryz.ntmps43 ?_
 refine cRs (YZ.rd (Lw a0 u0 (by omega))) ?_
 refine lp2 (J0.eq_2 a0) (fun v1_0 v1_1 => Z9 23 [eX 1 (a0.row.map .d), (3, .one (.sref 3 0 0 v1_0.length), [.arr false 1 (v1_0.map iR)]), eL 7 1 (Y5 a0) iR, eI 8 (↑(Y5 a0).length : Int), eI 9 (↑v1_1 : Int)]) (fun n1 v1_0 v1_1 => (Y5 a0).length < n1 + v1_1 ∧ v1_1 ≤ (Y5 a0).length ∧ v1_0.length ≤ 0 + 1 * v1_1) ((Y5 a0).length + 1) ([] : List Int) 0 (fun p1 v1_0 v1_1 e1 j1 => ?_) (h0 := YI [((3, 0), none)] [] rfl (by simp))
 try dsimp only at j1
 refine cFf e1 ?_ ?_ <;> intro k2 h1 e1
 ·have i1 := ix h1
  have m2 := ml (Y5 a0) (k2 7 _ rfl)
  have w1 := wr v1_1
  simp [i1, ZA]
  repeat with_reducible refine U9 ?_
  refine cRs (Mu a0.XQ (nth (Y5 a0) v1_1)) ?_
  refine cFf e1 ?_ ?_ <;> intro k3 h2 e1
  ·simp
   repeat with_reducible refine U9 ?_
   exact nx2 e1 (hw := YI [((3, 0), some (20, 0))] [] rfl (by simp [w1]))
  exact ny2 w1 e1
 have f := ms f e1
 exact rtD [.tmp 2] f
theorem E7 (a0 : Zi) (u0 : Sm 1048576 a0) (u1 : itn a0.ZE ≤ 1048576) : Sa 41 [a0.row] [rS (TU a0)] := by
 have f := me (TU.eq_1 a0)
 refine so Tryz.func41 Tryz.ntmps41 ?_
 refine cRs (De a0 (sg u0)) ?_
 refine cF f ?_ ?_ <;> intro k1 h1 f
 ·exact rt [.tmp 2] f
 refine cRs (YZ.rd (MN a0 u0 (by omega))) ?_
 refine cF f ?_ ?_ <;> intro k2 h2 f
 ·exact rt [.tmp 2] f
 exact rt [.tmp 2] f
end Go.Proofs.YtfhmpplolpejnaaGreat
