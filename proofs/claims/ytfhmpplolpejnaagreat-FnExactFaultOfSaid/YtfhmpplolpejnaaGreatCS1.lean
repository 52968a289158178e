/- Contracts of the functions Hz the abstract machine, part S1. No condition. -/
import Derived.Test.YtfhmpplolpejnaaGreatL
import Derived.Test.YtfhmpplolpejnaaGreatTy
namespace Go.Proofs.YtfhmpplolpejnaaGreat
open Go.Vm Go.Mo
set_option maxHeartbeats 1000000
set_option maxRecDepth 100000
set_option linter.unusedSimpArgs false
set_option linter.unusedVariables false
theorem zh (a0 : List ZF) (a1 : Int) : Sa 123 [rL 3 ZF.row a0, rI a1] [rI (Z2 a0 a1)] := by
 have f := me (Z2.eq_1 a0 a1)
 refine so Tryz.func123 Tryz.ntmps123 ?_
 refine lp1 (Qw.eq_2 a0 a1) (fun v1_0 => Z9 20 [eL 0 3 a0 ZF.row, eI 1 a1, eI 5 (↑v1_0 : Int)]) (fun n1 v1_0 => a0.length < n1 + v1_0 ∧ v1_0 ≤ a0.length) (a0.length + 1) 0 (fun p1 v1_0 e1 j1 => ?_)
 refine cFf e1 ?_ ?_ <;> intro k2 h1 e1
 ·have i1 := ix h1
  have m2 := ml a0 (k2 0 _ rfl)
  have w1 := wr v1_0
  simp [i1, ZA]
  repeat with_reducible refine sd ?_
  refine cF e1 ?_ ?_ <;> intro k3 h2 e1
  ·have f := ms f e1
   exact rt [.tmp 4] f
  exact ny1 w1 e1
 have f := ms f e1
 exact rt [.tmp 4] f
theorem YD (a0 : Int) (a1 : Int) (a2 : Int) : Sa 137 [rI a0, rI a1, rI a2] [rB (Zw a0 a1 a2)] := by
 have f := me (Zw.eq_1 a0 a1 a2)
 refine so Tryz.func137 Tryz.ntmps137 ?_
 exact rt [.tmp 6] f
theorem J7 (a0 : Int) : Sa 156 [rI a0] [rB (yO a0)] := by
 have f := me (yO.eq_1 a0)
 refine so Tryz.func156 Tryz.ntmps156 ?_
 refine cRs (YD a0 0 10000) ?_
 exact rt [.tmp 2] f
theorem LF (a0 : Int) : Sa 283 [rI a0] [rB (je a0)] := by
 have f := me (je.eq_1 a0)
 refine so Tryz.func283 Tryz.ntmps283 ?_
 refine cRs (YD a0 1 2147483646) ?_
 exact rt [.tmp 2] f
theorem AB (a0 : Zy) : Sa 221 [a0.row] [rB (P9 a0)] := by
 have f := me (P9.eq_1 a0)
 refine so Tryz.func221 Tryz.ntmps221 ?_
 refine cRs (YD a0.Number 1 99) ?_
 refine cGs (fun gg => (YD a0.JZ 0 99)) ?_
 refine cGs (fun gg => (YD a0.Method 0 99)) ?_
 refine cGs (fun gg => (J7 a0.Nq)) ?_
 refine cGs (fun gg => (LF a0.jz)) ?_
 exact rt [.tmp 2] f
theorem DW (a0 : List Zy) : Sa 153 [rL 5 Zy.row a0] [rB (U8 a0)] := by
 have f := me (U8.eq_1 a0)
 refine so Tryz.func153 Tryz.ntmps153 ?_
 refine lp1 (kq.eq_2 a0) (fun v1_0 => Z9 37 [eL 0 5 a0 Zy.row, eI 3 (↑v1_0 : Int)]) (fun n1 v1_0 => a0.length < n1 + v1_0 ∧ v1_0 ≤ a0.length) (a0.length + 1) 0 (fun p1 v1_0 e1 j1 => ?_)
 refine cF e1 ?_ ?_ <;> intro k2 h1 e1
 ·have i1 := ix h1
  have m2 := ml a0 (k2 0 _ rfl)
  have w1 := wr v1_0
  refine dIo mixed ?_
  simp [i1, ZA]
  repeat with_reducible refine sd ?_
  refine cRs (AB (nth a0 v1_0)) ?_
  refine gIf ?_ ?_ <;> intro G
  ·have i2 := ik (v1_0 - 1) a0
   have w2 : IntKind.i64.wrap ((v1_0 : Int) - 1) = (v1_0 : Int) - 1 := YA (by omega) (by omega)
   simp [i2, ZA, w2, Y7, G]
   repeat with_reducible refine sdg ?_
   refine gK (fun _ => ?_)
   simp [i1, ZA, G]
   repeat with_reducible refine sdg ?_
   refine cK e1 ?_ ?_ <;> intro k4 h2 e1
   ·try (simp [G] at h2; done)
    all_goals
     have f := ms f e1
     exact rtg [.tmp 2] f
   ·try (simp [G] at h2; done)
    all_goals
     exact ny1 (an w1 (an w2 G)) e1
  ·refine sGg ?_
   refine cK e1 ?_ ?_ <;> intro k5 h3 e1
   ·try (simp [G] at h3; done)
    all_goals
     have f := ms f e1
     exact rtg [.tmp 2] f
   ·try (simp [G] at h3; done)
    all_goals
     exact ny1 (an w1 G) e1
 have f := ms f e1
 exact rt [.tmp 2] f
theorem PK (a0 : List ZF) : Sa 154 [rL 3 ZF.row a0] [rB (Ku a0)] := by
 have f := me (Ku.eq_1 a0)
 refine so Tryz.func154 Tryz.ntmps154 ?_
 refine lp1 (Jn.eq_2 a0) (fun v1_0 => Z9 56 [eL 0 3 a0 ZF.row, eI 3 (↑v1_0 : Int)]) (fun n1 v1_0 => a0.length < n1 + v1_0 ∧ v1_0 ≤ a0.length) (a0.length + 1) 0 (fun p1 v1_0 e1 j1 => ?_)
 refine cF e1 ?_ ?_ <;> intro k2 h1 e1
 ·have i1 := ix h1
  have m2 := ml a0 (k2 0 _ rfl)
  have w1 := wr v1_0
  refine dIo mixed ?_
  simp [i1, ZA]
  repeat with_reducible refine sd ?_
  refine cRs (YD (nth a0 v1_0).Id 0 99) ?_
  refine gIf ?_ ?_ <;> intro G
  ·have g1 := G; try simp [Zw] at g1
   simp [i1, ZA, G]
   repeat with_reducible refine sdg ?_
   refine cGg (fun gg => (YD (nth a0 v1_0).Key 1 99)) ?_
   refine gJf G ?_ ?_ <;> intro G
   ·try (simp at G; done)
    all_goals
     have g2 := G.2; try simp [Zw] at g2
     all_goals
      simp [i1, ZA, G]
      repeat with_reducible refine sdg ?_
      refine cGg (fun gg => (YD (nth a0 v1_0).Error 0 100)) ?_
      refine gJf G ?_ ?_ <;> intro G
      ·try (simp at G; done)
       all_goals
        have i2 := ik (v1_0 - 1) a0
        have w2 : IntKind.i64.wrap ((v1_0 : Int) - 1) = (v1_0 : Int) - 1 := YA (by omega) (by omega)
        simp [i2, ZA, w2, Y7, G]
        repeat with_reducible refine sdg ?_
        refine gK (fun _ => ?_)
        simp [i1, ZA, G]
        repeat with_reducible refine sdg ?_
        refine cKo e1 ?_ ?_ <;> intro k4 h2 e1
        ·try (simp [G] at h2; done)
         all_goals
          have q2 := h2; try simp [Zw] at q2
          have f := ms f e1
          simp [G]
          repeat with_reducible refine sdg ?_
          exact rtg [.tmp 2] f
        ·try (simp [G] at h2; done)
         all_goals
          have q2 := h2; try simp [Zw] at q2
          simp [G]
          repeat with_reducible refine sdg ?_
          exact ny1 (an w1 (an w2 G)) e1
      ·try (simp at G; done)
       all_goals
        refine sGg ?_
        refine cKo e1 ?_ ?_ <;> intro k5 h3 e1
        ·try (simp [G] at h3; done)
         all_goals
          have q3 := h3; try simp [Zw] at q3
          have f := ms f e1
          simp [G]
          repeat with_reducible refine sdg ?_
          exact rtg [.tmp 2] f
        ·try (simp [G] at h3; done)
         all_goals
          have q3 := h3; try simp [Zw] at q3
          simp [G]
          repeat with_reducible refine sdg ?_
          exact ny1 (an w1 G) e1
   ·try (simp at G; done)
    all_goals
     refine sGo ?_
     simp [G]
     repeat with_reducible refine sdg ?_
     refine gJf G ?_ ?_ <;> intro G
     ·try (simp at G; done)
      all_goals
       have i4 := ik (v1_0 - 1) a0
       have w4 : IntKind.i64.wrap ((v1_0 : Int) - 1) = (v1_0 : Int) - 1 := YA (by omega) (by omega)
       simp [i4, ZA, w4, Y7, G]
       repeat with_reducible refine sdg ?_
       refine gK (fun _ => ?_)
       simp [i1, ZA, G]
       repeat with_reducible refine sdg ?_
       refine cKo e1 ?_ ?_ <;> intro k6 h4 e1
       ·try (simp [G] at h4; done)
        all_goals
         have q4 := h4; try simp [Zw] at q4
         have f := ms f e1
         simp [G]
         repeat with_reducible refine sdg ?_
         exact rtg [.tmp 2] f
       ·try (simp [G] at h4; done)
        all_goals
         have q4 := h4; try simp [Zw] at q4
         simp [G]
         repeat with_reducible refine sdg ?_
         exact ny1 (an w1 (an w4 G)) e1
     ·try (simp at G; done)
      all_goals
       refine sGg ?_
       refine cKo e1 ?_ ?_ <;> intro k7 h5 e1
       ·try (simp [G] at h5; done)
        all_goals
         have q5 := h5; try simp [Zw] at q5
         have f := ms f e1
         simp [G]
         repeat with_reducible refine sdg ?_
         exact rtg [.tmp 2] f
       ·try (simp [G] at h5; done)
        all_goals
         have q5 := h5; try simp [Zw] at q5
         simp [G]
         repeat with_reducible refine sdg ?_
         exact ny1 (an w1 G) e1
  ·refine sGo ?_
   simp [G]
   repeat with_reducible refine sdg ?_
   refine gJf G ?_ ?_ <;> intro G
   ·try (simp at G; done)
    all_goals
     have g5 := G.2; try simp [Zw] at g5
     all_goals
      simp [i1, ZA, G]
      repeat with_reducible refine sdg ?_
      refine cGg (fun gg => (YD (nth a0 v1_0).Error 0 100)) ?_
      refine gJf G ?_ ?_ <;> intro G
      ·try (simp at G; done)
       all_goals
        have i6 := ik (v1_0 - 1) a0
        have w6 : IntKind.i64.wrap ((v1_0 : Int) - 1) = (v1_0 : Int) - 1 := YA (by omega) (by omega)
        simp [i6, ZA, w6, Y7, G]
        repeat with_reducible refine sdg ?_
        refine gK (fun _ => ?_)
        simp [i1, ZA, G]
        repeat with_reducible refine sdg ?_
        refine cKo e1 ?_ ?_ <;> intro k8 h6 e1
        ·try (simp [G] at h6; done)
         all_goals
          have q6 := h6; try simp [Zw] at q6
          have f := ms f e1
          simp [G]
          repeat with_reducible refine sdg ?_
          exact rtg [.tmp 2] f
        ·try (simp [G] at h6; done)
         all_goals
          have q6 := h6; try simp [Zw] at q6
          simp [G]
          repeat with_reducible refine sdg ?_
          exact ny1 (an w1 (an w6 G)) e1
      ·try (simp at G; done)
       all_goals
        refine sGg ?_
        refine cKo e1 ?_ ?_ <;> intro k9 h7 e1
        ·try (simp [G] at h7; done)
         all_goals
          have q7 := h7; try simp [Zw] at q7
          have f := ms f e1
          simp [G]
          repeat with_reducible refine sdg ?_
          exact rtg [.tmp 2] f
        ·try (simp [G] at h7; done)
         all_goals
          have q7 := h7; try simp [Zw] at q7
          simp [G]
          repeat with_reducible refine sdg ?_
          exact ny1 (an w1 G) e1
   ·try (simp at G; done)
    all_goals
     refine sGo ?_
     simp [G]
     repeat with_reducible refine sdg ?_
     refine gJf G ?_ ?_ <;> intro G
     ·try (simp at G; done)
      all_goals
       have i8 := ik (v1_0 - 1) a0
       have w8 : IntKind.i64.wrap ((v1_0 : Int) - 1) = (v1_0 : Int) - 1 := YA (by omega) (by omega)
       simp [i8, ZA, w8, Y7, G]
       repeat with_reducible refine sdg ?_
       refine gK (fun _ => ?_)
       simp [i1, ZA, G]
       repeat with_reducible refine sdg ?_
       refine cKo e1 ?_ ?_ <;> intro k10 h8 e1
       ·try (simp [G] at h8; done)
        all_goals
         have q8 := h8; try simp [Zw] at q8
         have f := ms f e1
         simp [G]
         repeat with_reducible refine sdg ?_
         exact rtg [.tmp 2] f
       ·try (simp [G] at h8; done)
        all_goals
         have q8 := h8; try simp [Zw] at q8
         simp [G]
         repeat with_reducible refine sdg ?_
         exact ny1 (an w1 (an w8 G)) e1
     ·try (simp at G; done)
      all_goals
       refine sGg ?_
       refine cKo e1 ?_ ?_ <;> intro k11 h9 e1
       ·try (simp [G] at h9; done)
        all_goals
         have q9 := h9; try simp [Zw] at q9
         have f := ms f e1
         simp [G]
         repeat with_reducible refine sdg ?_
         exact rtg [.tmp 2] f
       ·try (simp [G] at h9; done)
        all_goals
         have q9 := h9; try simp [Zw] at q9
         simp [G]
         repeat with_reducible refine sdg ?_
         exact ny1 (an w1 G) e1
 have f := ms f e1
 exact rt [.tmp 2] f
theorem Ff (a0 : Zg) : Sa 222 [a0.row] [rB (VZ a0)] := by
 have f := me (VZ.eq_1 a0)
 refine so Tryz.func222 Tryz.ntmps222 ?_
 refine cRs (YD a0.Id 0 99) ?_
 refine cGs (fun gg => (J7 a0.U0)) ?_
 refine cGs (fun gg => (YD a0.Ends 1 10001)) ?_
 refine cGs (fun gg => (YD a0.js 1 10001)) ?_
 exact rt [.tmp 2] f
theorem Lv (a0 : List Zg) : Sa 155 [rL 4 Zg.row a0] [rB (qo a0)] := by
 have f := me (qo.eq_1 a0)
 refine so Tryz.func155 Tryz.ntmps155 ?_
 refine lp1 (yN.eq_2 a0) (fun v1_0 => Z9 37 [eL 0 4 a0 Zg.row, eI 3 (↑v1_0 : Int)]) (fun n1 v1_0 => a0.length < n1 + v1_0 ∧ v1_0 ≤ a0.length) (a0.length + 1) 0 (fun p1 v1_0 e1 j1 => ?_)
 refine cF e1 ?_ ?_ <;> intro k2 h1 e1
 ·have i1 := ix h1
  have m2 := ml a0 (k2 0 _ rfl)
  have w1 := wr v1_0
  refine dIo mixed ?_
  simp [i1, ZA]
  repeat with_reducible refine sd ?_
  refine cRs (Ff (nth a0 v1_0)) ?_
  refine gIf ?_ ?_ <;> intro G
  ·have i2 := ik (v1_0 - 1) a0
   have w2 : IntKind.i64.wrap ((v1_0 : Int) - 1) = (v1_0 : Int) - 1 := YA (by omega) (by omega)
   simp [i2, ZA, w2, Y7, G]
   repeat with_reducible refine sdg ?_
   refine gK (fun _ => ?_)
   simp [i1, ZA, G]
   repeat with_reducible refine sdg ?_
   refine cK e1 ?_ ?_ <;> intro k4 h2 e1
   ·try (simp [G] at h2; done)
    all_goals
     have f := ms f e1
     exact rtg [.tmp 2] f
   ·try (simp [G] at h2; done)
    all_goals
     exact ny1 (an w1 (an w2 G)) e1
  ·refine sGg ?_
   refine cK e1 ?_ ?_ <;> intro k5 h3 e1
   ·try (simp [G] at h3; done)
    all_goals
     have f := ms f e1
     exact rtg [.tmp 2] f
   ·try (simp [G] at h3; done)
    all_goals
     exact ny1 (an w1 G) e1
 have f := ms f e1
 exact rt [.tmp 2] f
theorem NS (a0 : ZH) : Sa 124 [a0.row] [rB (jr a0)] := by
 have f := me (jr.eq_1 a0)
 refine so Tryz.func124 Tryz.ntmps124 ?_
 refine cRs (DW a0.Yb) ?_
 refine cGs (fun gg => (PK a0.ZU)) ?_
 refine cGs (fun gg => (Lv a0.Methods)) ?_
 refine cGs (fun gg => (YD a0.QK 0 6)) ?_
 refine cGs (fun gg => (J7 a0.Now)) ?_
 exact rt [.tmp 2] f
theorem Pd (a0 : Zs) : Sa 284 [a0.row] [(yf a0).row] := by
 have f := me (yf.eq_1 a0)
 refine so Tryz.func284 Tryz.ntmps284 ?_
 exact rt [.cell 2 77] f
theorem XB (a0 : ZD) : Sa 252 [a0.row] [rB (JF a0)] := by
 have f := me (JF.eq_1 a0)
 refine so Tryz.func252 Tryz.ntmps252 ?_
 refine cRs (J7 a0.YE) ?_
 refine cGs (fun gg => (J7 a0.To)) ?_
 exact rt [.tmp 2] f
theorem Ce (a0 : Zs) : Sa 223 [a0.row] [rB (RO a0)] := by
 have f := me (RO.eq_1 a0)
 refine so Tryz.func223 Tryz.ntmps223 ?_
 refine cRs (YD a0.Z1 1 999) ?_
 refine cGs (fun gg => (YD a0.Key 1 99)) ?_
 refine cGs (fun gg => (YD a0.QP 1 99)) ?_
 refine cGs (fun gg => (YD a0.JZ 0 99)) ?_
 refine cGs (fun gg => (Pd a0)) ?_
 refine cGs (fun gg => (XB (yf a0))) ?_
 exact rt [.tmp 2] f
theorem FE (a0 : Zs) : Sd 225 [a0.row] [rL 1 iR (zu a0)] := by
 have f := me (zu.eq_1 a0)
 refine soD Tryz.func225 Tryz.ntmps225 ?_
 exact rtD [.tmp 2] f
theorem KP (a0 : List Zy) (a1 : Int) : Sa 174 [rL 5 Zy.row a0, rI a1] [rI (Yc a0 a1)] := by
 have f := me (Yc.eq_1 a0 a1)
 refine so Tryz.func174 Tryz.ntmps174 ?_
 refine lp1 (qJ.eq_2 a0 a1) (fun v1_0 => Z9 20 [eL 0 5 a0 Zy.row, eI 1 a1, eI 5 (↑v1_0 : Int)]) (fun n1 v1_0 => a0.length < n1 + v1_0 ∧ v1_0 ≤ a0.length) (a0.length + 1) 0 (fun p1 v1_0 e1 j1 => ?_)
 refine cFf e1 ?_ ?_ <;> intro k2 h1 e1
 ·have i1 := ix h1
  have m2 := ml a0 (k2 0 _ rfl)
  have w1 := wr v1_0
  simp [i1, ZA]
  repeat with_reducible refine sd ?_
  refine cF e1 ?_ ?_ <;> intro k3 h2 e1
  ·have f := ms f e1
   exact rt [.tmp 4] f
  exact ny1 w1 e1
 have f := ms f e1
 exact rt [.tmp 4] f
theorem uz (a0 : Int) (a1 : Int) : Sa 309 [rI a0, rI a1] [rI (BQ a0 a1)] := by
 have f := me (BQ.eq_1 a0 a1)
 refine so Tryz.func309 Tryz.ntmps309 ?_
 refine cRs (YD a1 1 1000000000000) ?_
 refine cFo f ?_ ?_ <;> intro k1 h1 f
 ·have q1 := h1; try simp [Zw] at q1
  simp
  exact rt [.tmp 4] f
 have q1 := h1; try simp [Zw] at q1
 simp
 repeat with_reducible refine sd ?_
 exact rt [.tmp 4] f
theorem Fk (a0 : List Int) : Sa 255 [rL 1 iR a0] [rI (Nr a0)] := by
 have f := me (Nr.eq_1 a0)
 refine so Tryz.func255 Tryz.ntmps255 ?_
 refine lp2 (Rv.eq_2 a0) (fun v1_0 v1_1 => Z9 22 [eL 0 1 a0 iR, eI 3 v1_0, eI 4 (↑v1_1 : Int)]) (fun n1 v1_0 v1_1 => a0.length < n1 + v1_1 ∧ v1_1 ≤ a0.length) (a0.length + 1) 11 0 (fun p1 v1_0 v1_1 e1 j1 => ?_)
 refine cFf e1 ?_ ?_ <;> intro k2 h1 e1
 ·have i1 := ix h1
  have m2 := ml a0 (k2 0 _ rfl)
  have w1 := wr v1_1
  simp [i1, ZA]
  repeat with_reducible refine sd ?_
  refine cRs (uz (nth a0 v1_1) 2147483647) ?_
  exact ny2 w1 e1
 have f := ms f e1
 exact rt [.tmp 2] f
theorem HW (a0 : Int) (a1 : List Int) (u0 : Sm 2330624 a1) : Sa 329 [rI a0, rL 1 iR a1] [rI (kr a0 a1)] := by
 have f := me (kr.eq_1 a0 a1)
 have c1 := sl 2330624 a1 u0
 refine so Tryz.func329 Tryz.ntmps329 ?_
 refine cRs (Fk ((([a0] : List Int) ++ a1) ++ ([a0] : List Int))) ?_
 exact rt [.tmp 4] f
theorem Pa (a0 : Zy) (a1 : List Int) (u0 : Sm 2326528 a1) : Sa 285 [a0.row, rL 1 iR a1] [rI (j8 a0 a1)] := by
 have f := me (j8.eq_1 a0 a1)
 refine so Tryz.func285 Tryz.ntmps285 ?_
 refine As [2, 3, 4, 5, 6, 0, 1, 7, 8] mixed (by kernel_rfl) (by kernel_rfl) (by kernel_rfl) ?_
 have c1 := sl 2326528 a1 u0
 simp
 repeat with_reducible refine sd ?_
 refine cRs (HW a0.jz (([a0.Method] : List Int) ++ a1) (by simp (maxDischargeDepth := 12) [JX, XT, Za (m := 2330624) (by decide) u0]; try omega)) ?_
 exact rt [.tmp 4] f
theorem jI (a0 : List Zy) (a1 : Int) (a2 : List Int) (a3 : Int) (u0 : Sm 2322432 a0) (u1 : Sm 2322432 a2) : Sa 224 [rL 5 Zy.row a0, rI a1, rL 1 iR a2, rI a3] [rB (zR a0 a1 a2 a3)] := by
 have f := me (zR.eq_1 a0 a1 a2 a3)
 refine so Tryz.func224 Tryz.ntmps224 ?_
 refine cRs (KP a0 a1) ?_
 refine gIf ?_ ?_ <;> intro G
 ·have i1 : (Yc a0 a1).toNat < a0.length := by have := JK a0 a1; exact il
  simp [i1, ZA, G]
  repeat with_reducible refine sdg ?_
  refine cGg (fun gg => (Pa (nth a0 (Yc a0 a1).toNat) a2 (sg u1))) ?_
  exact rtg [.tmp 8] f
 ·refine sGo ?_
  simp [G]
  repeat with_reducible refine sdg ?_
  exact rtg [.tmp 8] f
theorem O0 (a0 : List Zy) (a1 : Int) : Sa 226 [rL 5 Zy.row a0, rI a1] [rI (Ws a0 a1)] := by
 have f := me (Ws.eq_1 a0 a1)
 refine so Tryz.func226 Tryz.ntmps226 ?_
 refine cRs (KP a0 a1) ?_
 refine cFt f ?_ ?_ <;> intro k1 h1 f
 ·exact rt [.tmp 4] f
 have i1 : (Yc a0 a1).toNat < a0.length := by have := JK a0 a1; exact il
 simp [i1, ZA]
 repeat with_reducible refine sd ?_
 exact rt [.tmp 4] f
theorem RK (a0 : List Zy) (a1 : Zs) (u0 : Sm 2318336 a0) : Sa 157 [rL 5 Zy.row a0, a1.row] [rB (qZ a0 a1)] := by
 have f := me (qZ.eq_1 a0 a1)
 refine so Tryz.func157 Tryz.ntmps157 ?_
 refine dIs mixed ?_
 refine cRs (Ce a1) ?_
 refine cGs (fun gg => YZ.rd (FE a1)) ?_
 refine cGs (fun gg => (jI a0 a1.QP (zu a1) a1.Mark (sg u0) (by simp (maxDischargeDepth := 12) [FY, Za (m := 2322432) (by decide) u0]; try omega))) ?_
 refine cGs (fun gg => (O0 a0 a1.Key)) ?_
 exact rt [.tmp 4] f
theorem Gx (a0 : List Zs) (a1 : Int) : Sa 158 [rL 7 Zs.row a0, rI a1] [rI (VG a0 a1)] := by
 have f := me (VG.eq_1 a0 a1)
 refine so Tryz.func158 Tryz.ntmps158 ?_
 refine lp1 (jN.eq_2 a0 a1) (fun v1_0 => Z9 20 [eL 0 7 a0 Zs.row, eI 1 a1, eI 5 (↑v1_0 : Int)]) (fun n1 v1_0 => a0.length < n1 + v1_0 ∧ v1_0 ≤ a0.length) (a0.length + 1) 0 (fun p1 v1_0 e1 j1 => ?_)
 refine cFf e1 ?_ ?_ <;> intro k2 h1 e1
 ·have i1 := ix h1
  have m2 := ml a0 (k2 0 _ rfl)
  have w1 := wr v1_0
  simp [i1, ZA]
  repeat with_reducible refine sd ?_
  refine cF e1 ?_ ?_ <;> intro k3 h2 e1
  ·have f := ms f e1
   exact rt [.tmp 4] f
  exact ny1 w1 e1
 have f := ms f e1
 exact rt [.tmp 4] f
theorem FV (a0 : Zi) (u0 : Sm 2314240 a0) : Sa 125 [a0.row] [rB (Tr a0)] := by
 have f := me (Tr.eq_1 a0)
 refine so Tryz.func125 Tryz.ntmps125 ?_
 refine lp1 (Wd.eq_2 a0) (fun v1_0 => Z9 56 [eX 1 (a0.row.map .d), eI 3 (↑v1_0 : Int)]) (fun n1 v1_0 => a0.YN.length < n1 + v1_0 ∧ v1_0 ≤ a0.YN.length) (a0.YN.length + 1) 0 (fun p1 v1_0 e1 j1 => ?_)
 refine cF e1 ?_ ?_ <;> intro k2 h1 e1
 ·have i1 := ix h1
  have m2 := ml a0.YN (k2 7 _ rfl)
  have c1 := sl 2314240 a0.YN u0
  have w1 := wr v1_0
  refine dIo mixed ?_
  simp [i1, ZA]
  repeat with_reducible refine sd ?_
  refine cRs (RK a0.Frame.Yb (nth a0.YN v1_0) (sg (ZH.YL (Zi.S9 u0)))) ?_
  refine gIf ?_ ?_ <;> intro G
  ·simp [i1, ZA, G]
   repeat with_reducible refine sdg ?_
   refine cGg (fun gg => (Gx a0.YN (nth a0.YN v1_0).Z1)) ?_
   refine cK e1 ?_ ?_ <;> intro k4 h2 e1
   ·try (simp [G] at h2; done)
    all_goals
     have f := ms f e1
     exact rtg [.tmp 2] f
   ·try (simp [G] at h2; done)
    all_goals
     exact ny1 (an w1 G) e1
  ·refine sGo ?_
   simp [G]
   repeat with_reducible refine sdg ?_
   refine cK e1 ?_ ?_ <;> intro k5 h3 e1
   ·try (simp [G] at h3; done)
    all_goals
     have f := ms f e1
     exact rtg [.tmp 2] f
   ·try (simp [G] at h3; done)
    all_goals
     exact ny1 (an w1 G) e1
 have c2 := sl 2314240 a0.YN u0
 have f := ms f e1
 refine lp1 (Wa.eq_2 a0) (fun v2_0 => Z9 56 [eX 1 (a0.row.map .d), eI 4 (↑v2_0 : Int)]) (fun n2 v2_0 => a0.YX.length < n2 + v2_0 ∧ v2_0 ≤ a0.YX.length) (a0.YX.length + 1) 0 (fun p2 v2_0 e2 j2 => ?_)
 refine cFf e2 ?_ ?_ <;> intro k7 h4 e2
 ·have i2 := ix h4
  have m4 := ml a0.YX (k7 37 _ rfl)
  have c3 := sl 2314240 a0.YX u0
  have w2 := wr v2_0
  simp [i2, ZA]
  repeat with_reducible refine sd ?_
  refine cRs (YD (nth a0.YX v2_0) (-1) 10001) ?_
  refine cFo e2 ?_ ?_ <;> intro k8 h5 e2
  ·have q5 := h5; try simp [Zw] at q5
   have f := ms f e2
   simp
   exact rt [.tmp 2] f
  have q5 := h5; try simp [Zw] at q5
  simp
  exact ny1 w2 e2
 have c4 := sl 2314240 a0.YX u0
 have f := ms f e2
 exact rt [.tmp 2] f
theorem Se (a0 : Zd) : Sa 186 [a0.row] [rB (J6 a0)] := by
 have f := me (J6.eq_1 a0)
 refine so Tryz.func186 Tryz.ntmps186 ?_
 refine lp1 (Km.eq_2 a0) (fun v1_0 => Z9 51 [eX 1 (a0.row.map .d), eI 3 (↑v1_0 : Int)]) (fun n1 v1_0 => a0.YY.length < n1 + v1_0 ∧ v1_0 ≤ a0.YY.length) (a0.YY.length + 1) 0 (fun p1 v1_0 e1 j1 => ?_)
 refine cFf e1 ?_ ?_ <;> intro k2 h1 e1
 ·have i1 := ix h1
  have m2 := ml a0.YY (k2 7 _ rfl)
  have w1 := wr v1_0
  simp [i1, ZA]
  repeat with_reducible refine sd ?_
  refine cF e1 ?_ ?_ <;> intro k3 h2 e1
  ·have f := ms f e1
   exact rt [.tmp 2] f
  exact ny1 w1 e1
 have f := ms f e1
 refine lp1 (zB.eq_2 a0) (fun v2_0 => Z9 51 [eX 1 (a0.row.map .d), eI 4 (↑v2_0 : Int)]) (fun n2 v2_0 => a0.XI.length < n2 + v2_0 ∧ v2_0 ≤ a0.XI.length) (a0.XI.length + 1) 0 (fun p2 v2_0 e2 j2 => ?_)
 refine cFf e2 ?_ ?_ <;> intro k5 h3 e2
 ·have i2 := ix h3
  have m4 := ml a0.XI (k5 21 _ rfl)
  have w2 := wr v2_0
  simp [i2, ZA]
  repeat with_reducible refine sd ?_
  refine cRs (YD (nth a0.XI v2_0) 1 1000000000000) ?_
  refine cFo e2 ?_ ?_ <;> intro k6 h4 e2
  ·have q4 := h4; try simp [Zw] at q4
   have f := ms f e2
   simp
   exact rt [.tmp 2] f
  have q4 := h4; try simp [Zw] at q4
  simp
  exact ny1 w2 e2
 have f := ms f e2
 refine cRs (YD a0.jK 0 999) ?_
 refine cGs (fun gg => (YD (↑a0.YY.length : Int) 1 6)) ?_
 exact rt [.tmp 2] f
theorem H0 (a0 : List Int) (a1 : List Int) : Sa 330 [rL 1 iR a0, rL 1 iR a1] [rB (UI a0 a1)] := by
 have f := me (UI.eq_1 a0 a1)
 refine so Tryz.func330 Tryz.ntmps330 ?_
 refine cF f ?_ ?_ <;> intro k1 h1 f
 ·exact rt [.tmp 4] f
 refine lp1 (kC.eq_2 a0 a1) (fun v1_0 => Z9 26 [eL 0 1 a0 iR, eL 1 1 a1 iR, eI 5 (↑v1_0 : Int)]) (fun n1 v1_0 => a0.length < n1 + v1_0 ∧ v1_0 ≤ a0.length) (a0.length + 1) 0 (fun p1 v1_0 e1 j1 => ?_)
 refine cF e1 ?_ ?_ <;> intro k3 h2 e1
 ·have i1 := ix h2
  have m2 := ml a0 (k3 0 _ rfl)
  have w1 := wr v1_0
  refine dIo mixed ?_
  have i2 := ik v1_0 a1
  simp [i1, ZA, i2]
  repeat with_reducible refine sd ?_
  refine cF e1 ?_ ?_ <;> intro k5 h3 e1
  ·have f := ms f e1
   exact rt [.tmp 4] f
  exact ny1 w1 e1
 have f := ms f e1
 exact rt [.tmp 4] f
theorem Ks (a0 : ZB) (a1 : ZB) : Sa 287 [a0.row, a1.row] [rB (JQ a0 a1)] := by
 have f := me (JQ.eq_1 a0 a1)
 refine so Tryz.func287 Tryz.ntmps287 ?_
 refine cGs (fun gg => (H0 a0.Zb a1.Zb)) ?_
 exact rt [.tmp 4] f
theorem Rg (a0 : ZK) (a1 : ZB) : Sa 291 [a0.row, a1.row] [rI (Qj a0 a1)] := by
 have f := me (Qj.eq_1 a0 a1)
 refine so Tryz.func291 Tryz.ntmps291 ?_
 refine lp1 (yB.eq_2 a0 a1) (fun v1_0 => Z9 21 [eX 2 (a0.row.map .d), eX 3 (a1.row.map .d), eI 5 (↑v1_0 : Int)]) (fun n1 v1_0 => a0.ZT.length < n1 + v1_0 ∧ v1_0 ≤ a0.ZT.length) (a0.ZT.length + 1) 0 (fun p1 v1_0 e1 j1 => ?_)
 refine cF e1 ?_ ?_ <;> intro k2 h1 e1
 ·have i1 := ix h1
  have m2 := ml a0.ZT (k2 8 _ rfl)
  have w1 := wr v1_0
  refine dIo mixed ?_
  simp [i1, ZA]
  repeat with_reducible refine sd ?_
  refine cRs (Ks (nth a0.ZT v1_0) a1) ?_
  refine cF e1 ?_ ?_ <;> intro k4 h2 e1
  ·have f := ms f e1
   exact rt [.tmp 4] f
  exact ny1 w1 e1
 have f := ms f e1
 exact rt [.tmp 4] f
theorem Gi (a0 : ZK) : Sa 286 [a0.row] [rB (qC a0)] := by
 have f := me (qC.eq_1 a0)
 refine so Tryz.func286 Tryz.ntmps286 ?_
 refine lp1 (y7.eq_2 a0) (fun v1_0 => Z9 69 [eX 1 (a0.row.map .d), eI 3 (↑v1_0 : Int)]) (fun n1 v1_0 => a0.ZT.length < n1 + v1_0 ∧ v1_0 ≤ a0.ZT.length) (a0.ZT.length + 1) 0 (fun p1 v1_0 e1 j1 => ?_)
 refine cF e1 ?_ ?_ <;> intro k2 h1 e1
 ·have i1 := ix h1
  have m2 := ml a0.ZT (k2 7 _ rfl)
  have w1 := wr v1_0
  refine dIo mixed ?_
  simp [i1, ZA]
  repeat with_reducible refine sd ?_
  refine cRs (Rg a0 (nth a0.ZT v1_0)) ?_
  refine cF e1 ?_ ?_ <;> intro k4 h2 e1
  ·have f := ms f e1
   exact rt [.tmp 2] f
  exact ny1 w1 e1
 have f := ms f e1
 refine lp1 (xL.eq_2 a0) (fun v2_0 => Z9 69 [eX 1 (a0.row.map .d), eI 4 (↑v2_0 : Int)]) (fun n2 v2_0 => a0.ZM.length < n2 + v2_0 ∧ v2_0 ≤ a0.ZM.length) (a0.ZM.length + 1) 0 (fun p2 v2_0 e2 j2 => ?_)
 refine cF e2 ?_ ?_ <;> intro k6 h3 e2
 ·have i2 := ix h3
  have m4 := ml a0.ZM (k6 23 _ rfl)
  have w2 := wr v2_0
  refine dIo mixed ?_
  simp [i2, ZA]
  repeat with_reducible refine sd ?_
  refine cRs (YD (nth a0.ZM v2_0).Count 1 (↑a0.ZT.length : Int)) ?_
  refine gIf ?_ ?_ <;> intro G
  ·have i3 := ik (v2_0 - 1) a0.ZM
   have w3 : IntKind.i64.wrap ((v2_0 : Int) - 1) = (v2_0 : Int) - 1 := YA (by omega) (by omega)
   simp [i3, ZA, w3, Y7, G]
   repeat with_reducible refine sdg ?_
   refine gK (fun _ => ?_)
   simp [i2, ZA, G]
   repeat with_reducible refine sdg ?_
   refine cKo e2 ?_ ?_ <;> intro k8 h4 e2
   ·try (simp [G] at h4; done)
    all_goals
     have q4 := h4; try simp [Zw] at q4
     have f := ms f e2
     simp [G]
     repeat with_reducible refine sdg ?_
     exact rtg [.tmp 2] f
   ·try (simp [G] at h4; done)
    all_goals
     have q4 := h4; try simp [Zw] at q4
     simp [G]
     repeat with_reducible refine sdg ?_
     exact ny1 (an w2 (an w3 G)) e2
  ·refine sGg ?_
   refine cKo e2 ?_ ?_ <;> intro k9 h5 e2
   ·try (simp [G] at h5; done)
    all_goals
     have q5 := h5; try simp [Zw] at q5
     have f := ms f e2
     simp [G]
     repeat with_reducible refine sdg ?_
     exact rtg [.tmp 2] f
   ·try (simp [G] at h5; done)
    all_goals
     have q5 := h5; try simp [Zw] at q5
     simp [G]
     repeat with_reducible refine sdg ?_
     exact ny1 (an w2 G) e2
 have f := ms f e2
 refine cRs (YD (↑a0.ZT.length : Int) 1 12) ?_
 exact rt [.tmp 2] f
theorem W6 (a0 : ZY) : Sd 240 [a0.row] [rL 1 iR (Xa a0)] := by
 have f := me (Xa.eq_1 a0)
 refine soD Tryz.func240 Tryz.ntmps240 ?_
 exact rtD [.tmp 2] f
theorem Rf (a0 : ZY) : Sd 173 [a0.row] [(Yz a0).row] := by
 have f := me (Yz.eq_1 a0)
 refine soD Tryz.func173 Tryz.ntmps173 ?_
 refine dIs mixed ?_
 refine cDs [false] (W6 a0) ?_
 exact rtD [.cell 2 194] f
theorem BM (a0 : Zt) : Sa 227 [a0.row] [rB (RC a0)] := by
 have f := me (RC.eq_1 a0)
 refine so Tryz.func227 Tryz.ntmps227 ?_
 refine dIs mixed ?_
 refine cRs (YD a0.Id 1 999) ?_
 refine cGs (fun gg => (J7 a0.XM)) ?_
 refine cGs (fun gg => (Se a0.Doc)) ?_
 refine cGs (fun gg => (Gi a0.Yl)) ?_
 refine gIf ?_ ?_ <;> intro G
 ·have g1x := G
  have g1 := G; try simp [Zw] at g1
  have i1 : 0 < a0.Yl.ZT.length := by have := Hb (a := a0.Yl); simp_all
  simp [i1, ZA, G]
  repeat with_reducible refine sdg ?_
  refine cGg (fun gg => YZ.rd (Rf a0.Sig)) ?_
  refine cGg (fun gg => (Ks (nth a0.Yl.ZT 0) (Yz a0.Sig))) ?_
  exact rtg [.tmp 2] f
 ·have g1x := G
  refine sGo ?_
  simp [G]
  repeat with_reducible refine sdg ?_
  refine sGo ?_
  simp [G]
  repeat with_reducible refine sdg ?_
  exact rtg [.tmp 2] f
theorem GP (a0 : Zc) : Sa 159 [a0.row] [rB (kp a0)] := by
 have f := me (kp.eq_1 a0)
 refine so Tryz.func159 Tryz.ntmps159 ?_
 refine lp1 (xk.eq_2 a0) (fun v1_0 => Z9 47 [eX 1 (a0.row.map .d), eI 3 (↑v1_0 : Int)]) (fun n1 v1_0 => a0.Zh.length < n1 + v1_0 ∧ v1_0 ≤ a0.Zh.length) (a0.Zh.length + 1) 0 (fun p1 v1_0 e1 j1 => ?_)
 refine cF e1 ?_ ?_ <;> intro k2 h1 e1
 ·have i1 := ix h1
  have m2 := ml a0.Zh (k2 6 _ rfl)
  have w1 := wr v1_0
  refine dIo mixed ?_
  simp [i1, ZA]
  repeat with_reducible refine sd ?_
  refine cRs (BM (nth a0.Zh v1_0)) ?_
  refine gIf ?_ ?_ <;> intro G
  ·have i2 := ik (v1_0 - 1) a0.Zh
   have w2 : IntKind.i64.wrap ((v1_0 : Int) - 1) = (v1_0 : Int) - 1 := YA (by omega) (by omega)
   simp [i2, ZA, w2, Y7, G]
   repeat with_reducible refine sdg ?_
   refine gK (fun _ => ?_)
   simp [i1, ZA, G]
   repeat with_reducible refine sdg ?_
   refine cK e1 ?_ ?_ <;> intro k4 h2 e1
   ·try (simp [G] at h2; done)
    all_goals
     have f := ms f e1
     exact rtg [.tmp 2] f
   ·try (simp [G] at h2; done)
    all_goals
     exact ny1 (an w1 (an w2 G)) e1
  ·refine sGg ?_
   refine cK e1 ?_ ?_ <;> intro k5 h3 e1
   ·try (simp [G] at h3; done)
    all_goals
     have f := ms f e1
     exact rtg [.tmp 2] f
   ·try (simp [G] at h3; done)
    all_goals
     exact ny1 (an w1 G) e1
 have f := ms f e1
 refine cRs (YD a0.Id 0 99) ?_
 exact rt [.tmp 2] f
theorem Pt (a0 : List Int) (a1 : Int) : Sa 90 [rL 1 iR a0, rI a1] [rB (Ry a0 a1)] := by
 have f := me (Ry.eq_1 a0 a1)
 refine so Tryz.func90 Tryz.ntmps90 ?_
 refine lp1 (PB.eq_2 a0 a1) (fun v1_0 => Z9 18 [eL 0 1 a0 iR, eI 1 a1, eI 5 (↑v1_0 : Int)]) (fun n1 v1_0 => a0.length < n1 + v1_0 ∧ v1_0 ≤ a0.length) (a0.length + 1) 0 (fun p1 v1_0 e1 j1 => ?_)
 refine cFf e1 ?_ ?_ <;> intro k2 h1 e1
 ·have i1 := ix h1
  have m2 := ml a0 (k2 0 _ rfl)
  have w1 := wr v1_0
  simp [i1, ZA]
  repeat with_reducible refine sd ?_
  refine cF e1 ?_ ?_ <;> intro k3 h2 e1
  ·have f := ms f e1
   exact rt [.tmp 4] f
  exact ny1 w1 e1
 have f := ms f e1
 exact rt [.tmp 4] f
theorem FL {a b : Prop} (h : b) (k : a := by (intros; first | omega | with_unfolding_all (first | (have o : (nth a0.ZE v1_1).Zh.length ≤ 2318336 := YH (by simp (maxDischargeDepth := 12) [u0]); have o2 : a0.ZE.length ≤ 2318336 := YH (by simp (maxDischargeDepth := 12) [u0]); omega)) | ((try simp only [Qv, show ∀ x, IntKind.i64.wrap x = W x from fun _ => rfl] at *); omega))) : a ∧ b := ⟨k, h⟩
theorem Ys {a b : Prop} (h : b) (k : a := by (intros; first | omega | with_unfolding_all (first | (have o : (nth a0.ZE v1_1).Zh.length ≤ 2318336 := YH (by simp (maxDischargeDepth := 12) [u0]); have o2 : a0.ZE.length ≤ 2318336 := YH (by simp (maxDischargeDepth := 12) [u0]); omega)) | (simp_all; done) | (simp_all; omega) | grind | ((try simp only [Qv, show ∀ x, IntKind.i64.wrap x = W x from fun _ => rfl] at *); omega))) : a ∧ b := ⟨k, h⟩
theorem FJ (a0 : Zi) (u0 : Sm 2318336 a0) : Sa 126 [a0.row] [rB (T1 a0)] := by
 have f := me (T1.eq_1 a0)
 refine so Tryz.func126 Tryz.ntmps126 ?_
 refine lp2 (xJ.eq_2 a0) (fun v1_0 v1_1 => Z9 75 [eX 1 (a0.row.map .d), (3, .one (.sref 3 0 0 v1_0.length), [.arr false 1 (v1_0.map iR)]), eI 4 (↑v1_1 : Int)]) (fun n1 v1_0 v1_1 => a0.ZE.length < n1 + v1_1 ∧ v1_0.length ≤ 2318336 * v1_1) (a0.ZE.length + 1) ([] : List Int) 0 (fun p1 v1_0 v1_1 e1 j1 => ?_) (h0 := YI [((3, 0), some (7, 0))] [] rfl (by simp))
 try dsimp only at j1
 refine cFf e1 ?_ ?_ <;> intro k2 h1 e1
 ·have i1 := ix h1
  have m2 := ml a0.ZE (k2 10 _ rfl)
  have c1 := sl 2318336 a0.ZE u0
  have w1 := wr v1_1
  simp [i1, ZA]
  repeat with_reducible refine FL ?_
  refine cRs (GP (nth a0.ZE v1_1)) ?_
  refine gIo ?_ ?_ <;> intro G
  ·have g1x := G
   have g1 := G; try simp at g1
   simp [i1, ZA, G]
   repeat with_reducible refine Ys ?_
   refine cKo e1 ?_ ?_ <;> intro k3 h2 e1
   ·try (simp [G] at h2; done)
    all_goals
     have f := ms f e1
     simp [G]
     repeat with_reducible refine Ys ?_
     exact rtg [.tmp 2] f
   ·try (simp [G] at h2; done)
    all_goals
     simp [G]
     repeat with_reducible refine Ys ?_
     refine sF (jY.eq_2 a0 v1_1) (fun v2_0 v2_1 => Z9 75 [eX 1 (a0.row.map .d), (3, .one (.sref 3 0 0 v2_0.length), [.arr false 1 (v2_0.map iR)]), eI 4 (↑v1_1 : Int), eI 5 (↑v2_1 : Int)]) (fun n2 v2_0 v2_1 => (nth a0.ZE v1_1).Zh.length < n2 + v2_1 ∧ v2_1 ≤ (nth a0.ZE v1_1).Zh.length ∧ v2_0.length ≤ 2318336 * v1_1 + v2_1) ((nth a0.ZE v1_1).Zh.length + 1) v1_0 0 (fun p2 v2_0 v2_1 e2 j2 => ?_)
     try dsimp only at j2
     simp [i1, ZA, G]
     repeat with_reducible refine Ys ?_
     refine cKo e2 ?_ ?_ <;> intro k5 h3 e2
     ·try (simp [G] at h3; done)
      all_goals
       have i2 := ix h3
       have m4 := ml (nth a0.ZE v1_1).Zh (k5 38 _ rfl)
       have c2 := sl 2318336 (nth a0.ZE v1_1).Zh u0
       have w2 := wr v2_1
       simp [i1, ZA, i2, G]
       repeat with_reducible refine Ys ?_
       refine cR (Pt v2_0 (nth (nth a0.ZE v1_1).Zh v2_1).Id) ?_
       simp [G]
       repeat with_reducible refine Ys ?_
       refine cKo e2 ?_ ?_ <;> intro k6 h4 e2
       ·try (simp [G] at h4; done)
        all_goals
         have e1 := ms e1 e2
         have f := ms f e1
         simp [G]
         repeat with_reducible refine Ys ?_
         exact rtg [.tmp 2] f
       ·try (simp [G] at h4; done)
        all_goals
         simp [G]
         repeat with_reducible refine Ys ?_
         exact nx2 e2 (hI := by (have o : (nth a0.ZE v1_1).Zh.length ≤ 2318336 := YH (by simp (maxDischargeDepth := 12) [u0]); first | omega | (simp at *; omega))) (hw := YI [((3, 0), some (65, 0))] [] rfl (by simp [w1, w2, G]))
     ·try (simp [G] at h3; done)
      all_goals
       have c3 := sl 2318336 (nth a0.ZE v1_1).Zh u0
       have e1 := ms e1 e2
       simp [G]
       repeat with_reducible refine Ys ?_
       exact ny2 (an w1 G) e1 (hI := by (have o : (nth a0.ZE v1_1).Zh.length ≤ 2318336 := YH (by simp (maxDischargeDepth := 12) [u0]); first | omega | (simp at *; omega)))
  ·have g1x := G
   simp [G]
   repeat with_reducible refine Ys ?_
   refine cKo e1 ?_ ?_ <;> intro k7 h5 e1
   ·try (simp [G] at h5; done)
    all_goals
     have f := ms f e1
     simp [G]
     repeat with_reducible refine Ys ?_
     exact rtg [.tmp 2] f
   ·try (simp [G] at h5; done)
    all_goals
     simp [G]
     repeat with_reducible refine Ys ?_
     refine sF (Ou.eq_2 a0 v1_1) (fun v3_0 v3_1 => Z9 75 [eX 1 (a0.row.map .d), (3, .one (.sref 3 0 0 v3_0.length), [.arr false 1 (v3_0.map iR)]), eI 4 (↑v1_1 : Int), eI 5 (↑v3_1 : Int)]) (fun n3 v3_0 v3_1 => (nth a0.ZE v1_1).Zh.length < n3 + v3_1 ∧ v3_1 ≤ (nth a0.ZE v1_1).Zh.length ∧ v3_0.length ≤ 2318336 * v1_1 + v3_1) ((nth a0.ZE v1_1).Zh.length + 1) v1_0 0 (fun p3 v3_0 v3_1 e3 j3 => ?_)
     try dsimp only at j3
     simp [i1, ZA, G]
     repeat with_reducible refine Ys ?_
     refine cKo e3 ?_ ?_ <;> intro k9 h6 e3
     ·try (simp [G] at h6; done)
      all_goals
       have i3 := ix h6
       have m6 := ml (nth a0.ZE v1_1).Zh (k9 38 _ rfl)
       have c4 := sl 2318336 (nth a0.ZE v1_1).Zh u0
       have w3 := wr v3_1
       simp [i1, ZA, i3, G]
       repeat with_reducible refine Ys ?_
       refine cR (Pt v3_0 (nth (nth a0.ZE v1_1).Zh v3_1).Id) ?_
       simp [G]
       repeat with_reducible refine Ys ?_
       refine cKo e3 ?_ ?_ <;> intro k10 h7 e3
       ·try (simp [G] at h7; done)
        all_goals
         have e1 := ms e1 e3
         have f := ms f e1
         simp [G]
         repeat with_reducible refine Ys ?_
         exact rtg [.tmp 2] f
       ·try (simp [G] at h7; done)
        all_goals
         simp [G]
         repeat with_reducible refine Ys ?_
         exact nx2 e3 (hI := by (have o : (nth a0.ZE v1_1).Zh.length ≤ 2318336 := YH (by simp (maxDischargeDepth := 12) [u0]); first | omega | (simp at *; omega))) (hw := YI [((3, 0), some (65, 0))] [] rfl (by simp [w1, w3, G]))
     ·try (simp [G] at h6; done)
      all_goals
       have c5 := sl 2318336 (nth a0.ZE v1_1).Zh u0
       have e1 := ms e1 e3
       simp [G]
       repeat with_reducible refine Ys ?_
       exact ny2 (an w1 G) e1 (hI := by (have o : (nth a0.ZE v1_1).Zh.length ≤ 2318336 := YH (by simp (maxDischargeDepth := 12) [u0]); first | omega | (simp at *; omega)))
 have c6 := sl 2318336 a0.ZE u0
 have f := ms f e1
 refine cRs (YD (↑a0.ZE.length : Int) 1 4) ?_
 exact rt [.tmp 2] f
theorem Dd (a0 : Zi) (u0 : Sm 2310144 a0) : Sa 88 [a0.row] [rB (Uo a0)] := by
 have f := me (Uo.eq_1 a0)
 refine so Tryz.func88 Tryz.ntmps88 ?_
 refine lp1 (UK.eq_2 a0) (fun v1_0 => Z9 103 [eX 1 (a0.row.map .d), eI 3 (↑v1_0 : Int)]) (fun n1 v1_0 => a0.Qg.length < n1 + v1_0 ∧ v1_0 ≤ a0.Qg.length) (a0.Qg.length + 1) 0 (fun p1 v1_0 e1 j1 => ?_)
 refine cFf e1 ?_ ?_ <;> intro k2 h1 e1
 ·have i1 := ix h1
  have m2 := ml a0.Qg (k2 8 _ rfl)
  have c1 := sl 2310144 a0.Qg u0
  have w1 := wr v1_0
  simp [i1, ZA]
  repeat with_reducible refine sd ?_
  refine cF e1 ?_ ?_ <;> intro k3 h2 e1
  ·have f := ms f e1
   exact rt [.tmp 2] f
  exact ny1 w1 e1
 have c2 := sl 2310144 a0.Qg u0
 have f := ms f e1
 refine lp1 (UA.eq_2 a0) (fun v2_0 => Z9 103 [eX 1 (a0.row.map .d), eI 4 (↑v2_0 : Int)]) (fun n2 v2_0 => a0.Y4.length < n2 + v2_0 ∧ v2_0 ≤ a0.Y4.length) (a0.Y4.length + 1) 0 (fun p2 v2_0 e2 j2 => ?_)
 refine cF e2 ?_ ?_ <;> intro k5 h3 e2
 ·have i2 := ix h3
  have m4 := ml a0.Y4 (k5 21 _ rfl)
  have c3 := sl 2310144 a0.Y4 u0
  have w2 := wr v2_0
  refine dIo mixed ?_
  simp [i2, ZA]
  repeat with_reducible refine sd ?_
  refine cRs (zh a0.Frame.ZU (nth a0.Y4 v2_0)) ?_
  refine gIf ?_ ?_ <;> intro G
  ·have i3 := ik (v2_0 - 1) a0.Y4
   have w3 : IntKind.i64.wrap ((v2_0 : Int) - 1) = (v2_0 : Int) - 1 := YA (by omega) (by omega)
   simp [i3, ZA, w3, Y7, G]
   repeat with_reducible refine sdg ?_
   refine gK (fun _ => ?_)
   simp [i2, ZA, G]
   repeat with_reducible refine sdg ?_
   refine cK e2 ?_ ?_ <;> intro k7 h4 e2
   ·try (simp [G] at h4; done)
    all_goals
     have f := ms f e2
     exact rtg [.tmp 2] f
   ·try (simp [G] at h4; done)
    all_goals
     exact ny1 (an w2 (an w3 G)) e2
  ·refine sGg ?_
   refine cK e2 ?_ ?_ <;> intro k8 h5 e2
   ·try (simp [G] at h5; done)
    all_goals
     have f := ms f e2
     exact rtg [.tmp 2] f
   ·try (simp [G] at h5; done)
    all_goals
     exact ny1 (an w2 G) e2
 have c4 := sl 2310144 a0.Y4 u0
 have f := ms f e2
 refine lp1 (V1.eq_2 a0) (fun v3_0 => Z9 103 [eX 1 (a0.row.map .d), eI 5 (↑v3_0 : Int)]) (fun n3 v3_0 => a0.XQ.length < n3 + v3_0 ∧ 1 ≤ v3_0) (a0.XQ.length + 1) 1 (fun p3 v3_0 e3 j3 => ?_)
 refine cF e3 ?_ ?_ <;> intro k10 h6 e3
 ·have i5 := ix h6
  have m6 := ml a0.XQ (k10 56 _ rfl)
  have c5 := sl 2310144 a0.XQ u0
  have w5 := wr v3_0
  refine dIo mixed ?_
  have i6 := ik (v3_0 - 1) a0.XQ
  have w6 : IntKind.i64.wrap ((v3_0 : Int) - 1) = (v3_0 : Int) - 1 := YA (by omega) (by omega)
  simp [i6, ZA, w6, Y7, i5]
  repeat with_reducible refine sd ?_
  refine cF e3 ?_ ?_ <;> intro k12 h7 e3
  ·have f := ms f e3
   exact rt [.tmp 2] f
  exact ny1 (an w5 w6) e3
 have c6 := sl 2310144 a0.XQ u0
 have f := ms f e3
 refine cRs (NS a0.Frame) ?_
 refine cGs (fun gg => (FV a0 (sg u0))) ?_
 refine cGs (fun gg => (FJ a0 (sg u0))) ?_
 exact rt [.tmp 2] f
theorem Gz (a0 : Zc) (a1 : Int) : Sa 115 [a0.row, rI a1] [rI (y3 a0 a1)] := by
 have f := me (y3.eq_1 a0 a1)
 refine so Tryz.func115 Tryz.ntmps115 ?_
 refine lp1 (xO.eq_2 a0 a1) (fun v1_0 => Z9 22 [eI 1 a1, eX 2 (a0.row.map .d), eI 5 (↑v1_0 : Int)]) (fun n1 v1_0 => a0.Zh.length < n1 + v1_0 ∧ v1_0 ≤ a0.Zh.length) (a0.Zh.length + 1) 0 (fun p1 v1_0 e1 j1 => ?_)
 refine cFf e1 ?_ ?_ <;> intro k2 h1 e1
 ·have i1 := ix h1
  have m2 := ml a0.Zh (k2 8 _ rfl)
  have w1 := wr v1_0
  simp [i1, ZA]
  repeat with_reducible refine sd ?_
  refine cF e1 ?_ ?_ <;> intro k3 h2 e1
  ·have f := ms f e1
   exact rt [.tmp 4] f
  exact ny1 w1 e1
 have f := ms f e1
 exact rt [.tmp 4] f
theorem C9 (a0 : Zi) (a1 : Int) : Sa 74 [a0.row, rI a1] [rI (QB a0 a1).1, rI (QB a0 a1).2] := by
 have f := me (QB.eq_1 a0 a1)
 refine so Tryz.func74 Tryz.ntmps74 ?_
 refine lp1 (yW.eq_2 a0 a1) (fun v1_0 => Z9 26 [eI 1 a1, eX 2 (a0.row.map .d), eI 6 (↑v1_0 : Int)]) (fun n1 v1_0 => a0.ZE.length < n1 + v1_0 ∧ v1_0 ≤ a0.ZE.length) (a0.ZE.length + 1) 0 (fun p1 v1_0 e1 j1 => ?_)
 refine cFf e1 ?_ ?_ <;> intro k2 h1 e1
 ·have i1 := ix h1
  have m2 := ml a0.ZE (k2 10 _ rfl)
  have w1 := wr v1_0
  simp [i1, ZA]
  repeat with_reducible refine sd ?_
  refine cRs (Gz (nth a0.ZE v1_0) a1) ?_
  refine cF e1 ?_ ?_ <;> intro k3 h2 e1
  ·have f := ms f e1
   exact rt [.tmp 4, .tmp 5] f
  exact ny1 w1 e1
 have f := ms f e1
 exact rt [.tmp 4, .tmp 5] f
theorem Du (a0 : ZB) (u0 : Sm 2342912 a0) : Sd 256 [a0.row] [(Nw a0).row] := by
 have f := me (Nw.eq_1 a0)
 refine soD Tryz.func256 Tryz.ntmps256 ?_
 refine As [2, 3, 4, 5, 0, 1, 6, 7, 8, 9] mixed (by kernel_rfl) (by kernel_rfl) (by kernel_rfl) ?_
 have c1 := sl 2342912 a0.Zb u0
 simp
 repeat with_reducible refine sd ?_
 exact rtD [.cell 2 194] f
theorem xo (a0 : ZB) (u0 : Sm 2342912 a0) : Sd 256 [a0.row] [a0.row] := by
  have h := Du a0 u0
  rwa [E1] at h
theorem Cf (a0 : List ZB) (u0 : Sm 2338816 a0) : So 189 [rL 3 ZB.row a0] [rL 3 ZB.row (OI a0)] := by
 have f := me (OI.eq_1 a0)
 refine so Tryz.func189 Tryz.ntmps189 ?_
 refine eIs ?_
 refine lp2 (T5.eq_2 a0) (fun v1_0 v1_1 => Z9 21 [eL 0 3 a0 ZB.row, (3, .one (.sref 3 0 0 v1_0.length), [.arr false 3 (v1_0.map ZB.row)]), eI 4 (↑v1_1 : Int)]) (fun n1 v1_0 v1_1 => a0.length < n1 + v1_1 ∧ v1_1 ≤ a0.length ∧ v1_0.length ≤ 0 + 1 * v1_1) (a0.length + 1) ([] : List ZB) 0 (fun p1 v1_0 v1_1 e1 j1 => ?_) (h0 := YI [((3, 0), some (5, 0))] [] rfl (by simp))
 refine cFf e1 ?_ ?_ <;> intro k2 h1 e1
 ·have i1 := ix h1
  have m2 := ml a0 (k2 0 _ rfl)
  have c1 := sl 2338816 a0 u0
  have w1 := wr v1_1
  simp [i1, ZA]
  repeat with_reducible refine sd ?_
  refine cRs (YZ.rd (xo (nth a0 v1_1) (sg (Zx u0)))) ?_
  refine eIs ?_
  refine eIs ?_
  exact nx2 e1 (hw := YI [((3, 0), some (19, 0))] [] rfl (by simp [w1]))
 have c2 := sl 2338816 a0 u0
 have f := ms f e1
 exact rtO [.tmp 2] f
theorem DF (a0 : List ZB) (u0 : Sm 2338816 a0) : So 189 [rL 3 ZB.row a0] [rL 3 ZB.row a0] := by
  have h := Cf a0 u0
  rwa [Bf] at h
theorem Em (a0 : ZV) (u0 : Sm 2342912 a0) : Sd 190 [a0.row] [(MG a0).row] := by
 have f := me (MG.eq_1 a0)
 have c1 := sl 2342912 a0.Path u0
 have c2 := sl 2342912 a0.Zf u0
 refine soD Tryz.func190 Tryz.ntmps190 ?_
 exact rtD [.cell 2 199] f
theorem Gv (a0 : ZV) (u0 : Sm 2342912 a0) : Sd 190 [a0.row] [a0.row] := by
  have h := Em a0 u0
  rwa [Ew] at h
theorem Dt (a0 : ZK) (u0 : Sm 2334720 a0) : So 141 [a0.row] [(PA a0).row] := by
 have f := me (PA.eq_1 a0)
 refine so Tryz.func141 Tryz.ntmps141 ?_
 refine cOs (DF a0.ZT (sg (ZK.Yh u0))) ?_
 refine lp2 (Vu.eq_2 a0) (fun v1_0 v1_1 => Z9 28 [eX 1 (a0.row.map .d), (2, .one (.bptr 2 0), [.box [.nil 3, .nil 5]]), (3, .one (.bptr 3 0), [.box [.sref 7 0 0 a0.ZT.length, .sref 3 2 0 v1_1.length], .none, .arr false 5 (v1_1.map ZV.row)]), eI 4 (↑v1_0 : Int), (7, .any, [.arr false 3 (a0.ZT.map ZB.row)])]) (fun n1 v1_0 v1_1 => a0.ZM.length < n1 + v1_0 ∧ v1_0 ≤ a0.ZM.length ∧ v1_1.length ≤ 0 + 1 * v1_0) (a0.ZM.length + 1) 0 ([] : List ZV) (fun p1 v1_0 v1_1 e1 j1 => ?_) (h0 := YI [((3, 2), none)] [] rfl (by simp))
 refine cF e1 ?_ ?_ <;> intro k2 h1 e1
 ·have i1 := ix h1
  have m2 := ml a0.ZM (k2 11 _ rfl)
  have c1 := sl 2334720 a0.ZM u0
  have w1 := wr v1_0
  refine dIo mixed ?_
  simp [i1, ZA]
  repeat with_reducible refine sd ?_
  refine cRs (YZ.rd (Gv (nth a0.ZM v1_0) (sg (Zx (ZK.Xo u0))))) ?_
  refine eIs ?_
  refine eIs ?_
  exact nx2 e1 (hw := YI [((3, 2), some (25, 0))] [] rfl (by simp [w1]))
 have c2 := sl 2334720 a0.ZM u0
 have f := ms f e1
 exact rtO [.cell 2 53] f
theorem FG (a0 : ZK) (u0 : Sm 2334720 a0) : So 141 [a0.row] [a0.row] := by
  have h := Dt a0 u0
  rwa [DG] at h
theorem OF (a0 : Zt) (u0 : Sm 2330624 a0) : So 98 [a0.row] [(Kn a0).row] := by
 have f := me (Kn.eq_1 a0)
 refine so Tryz.func98 Tryz.ntmps98 ?_
 refine cRs (FG a0.Yl (sg (Zt.Y8 u0))) ?_
 refine eIs ?_
 exact rtO [.cell 2 143] f
theorem JT (a0 : Int) (a1 : List Int) (u0 : Sm 68719476736 a1) : Sa 188 [rI a0, rL 1 iR a1] [rI (QQ a0 a1)] := by
 have f := me (QQ.eq_1 a0 a1)
 have c1 := sl 68719476736 a1 u0
 refine so Tryz.func188 Tryz.ntmps188 ?_
 refine cRs (Fk (([7, a0] : List Int) ++ a1)) ?_
 exact rt [.tmp 4] f
theorem M8 (a0 : Int) (a1 : ByteArray) (a2 : Int) (u0 : Sm 2326528 a1) : Sa 187 [rI a0, rS a1, rI a2] [rI (qn a0 a1 a2)] := by
 have f := me (qn.eq_1 a0 a1 a2)
 refine so Tryz.func187 Tryz.ntmps187 ?_
 refine lp2 (y1.eq_2 a1) (fun v1_0 v1_1 => Z9 27 [eI 0 a0, (1, .one (.d (.str a1)), []), (7, .one (.sref 7 0 0 v1_0.length), [.arr false 1 (v1_0.map iR)]), eI 8 (↑v1_1 : Int)]) (fun n1 v1_0 v1_1 => a1.size < n1 + v1_1 ∧ v1_1 ≤ a1.size ∧ v1_0.length ≤ 1 + 1 * v1_1) (a1.size + 1) ([a2] : List Int) 0 (fun p1 v1_0 v1_1 e1 j1 => ?_) (h0 := YI [((7, 0), some (10, 0))] [] rfl (by simp))
 refine cFo e1 ?_ ?_ <;> intro k2 h1 e1
 ·have q1 := h1; try simp at q1
  have c1 : a1.size ≤ 2326528 := DK (by simp (maxDischargeDepth := 12) [u0])
  have w1 := wr v1_1
  simp
  repeat with_reducible refine sd ?_
  exact nx2 e1 (hw := YI [((7, 0), some (23, 0))] [] rfl (by simp [w1]))
 have q1 := h1; try simp at q1
 have c2 : a1.size ≤ 2326528 := DK (by simp (maxDischargeDepth := 12) [u0])
 have f := ms f e1
 simp
 refine cRs (JT a0 v1_0 (by first | (simp (maxDischargeDepth := 12) [XT]; omega) | (simp (maxDischargeDepth := 12) [Za (m := 68719476736) (by decide) u0]; done))) ?_
 exact rt [.tmp 6] f
theorem RR (a0 : Int) (a1 : Zd) (u0 : Sm 2322432 a1) : Sa 140 [rI a0, a1.row] [rI (yV a0 a1)] := by
 have f := me (yV.eq_1 a0 a1)
 refine so Tryz.func140 Tryz.ntmps140 ?_
 refine cRs (Se a1) ?_
 refine cF f ?_ ?_ <;> intro k1 h1 f
 ·exact rt [.tmp 4] f
 refine lp2 (xp.eq_2 a0 a1) (fun v1_0 v1_1 => Z9 38 [eI 0 a0, eX 3 (a1.row.map .d), (5, .one (.sref 5 0 0 v1_0.length), [.arr false 1 (v1_0.map iR)]), eI 6 (↑v1_1 : Int)]) (fun n1 v1_0 v1_1 => a1.YY.length < n1 + v1_1 ∧ v1_1 ≤ a1.YY.length ∧ v1_0.length ≤ 1 + 1 * v1_1) (a1.YY.length + 1) ([a1.jK] : List Int) 0 (fun p1 v1_0 v1_1 e1 j1 => ?_) (h0 := YI [((5, 0), some (12, 0))] [] rfl (by simp))
 try dsimp only at j1
 refine cF e1 ?_ ?_ <;> intro k3 h2 e1
 ·have i1 := ix h2
  have m2 := ml a1.YY (k3 15 _ rfl)
  have c1 := sl 2322432 a1.YY u0
  have w1 := wr v1_1
  refine dIo mixed ?_
  have i2 : v1_1 < a1.XI.length := by (have := Nh (a := a1); first | (simp_all; done) | (simp_all; omega))
  simp [i1, ZA, i2]
  repeat with_reducible refine sd ?_
  refine cRs (M8 a0 (nth a1.YY v1_1) (nth a1.XI v1_1) (sg (Zx (Zd.NW u0)))) ?_
  exact nx2 e1 (hw := YI [((5, 0), some (34, 0))] [] rfl (by simp [w1]))
 have c2 := sl 2322432 a1.YY u0
 have f := ms f e1
 refine cRs (JT a0 v1_0 (by first | (simp (maxDischargeDepth := 12) [XT]; omega) | (simp (maxDischargeDepth := 12) [Za (m := 68719476736) (by decide) u0]; done))) ?_
 exact rt [.tmp 4] f
theorem Lq (a0 : ZK) (a1 : Zd) (u0 : Sm 2318336 a0) (u1 : Sm 2318336 a1) : Sd 185 [a0.row, a1.row] [rL 1 iR (zi a0 a1)] := by
 have f := me (zi.eq_1 a0 a1)
 refine soD Tryz.func185 Tryz.ntmps185 ?_
 refine lp2 (Jg.eq_2 a0 a1) (fun v1_0 v1_1 => Z9 27 [eX 2 (a0.row.map .d), eX 3 (a1.row.map .d), (5, .one (.sref 5 0 0 v1_0.length), [.arr false 1 (v1_0.map iR)]), eI 6 (↑v1_1 : Int)]) (fun n1 v1_0 v1_1 => a0.ZM.length < n1 + v1_1 ∧ v1_1 ≤ a0.ZM.length ∧ v1_0.length ≤ 0 + 1 * v1_1) (a0.ZM.length + 1) ([] : List Int) 0 (fun p1 v1_0 v1_1 e1 j1 => ?_) (h0 := YI [((5, 0), some (7, 0))] [] rfl (by simp))
 refine cF e1 ?_ ?_ <;> intro k2 h1 e1
 ·have i1 := ix h1
  have m2 := ml a0.ZM (k2 10 _ rfl)
  have c1 := sl 2318336 a0.ZM (an u0 u1)
  have w1 := wr v1_1
  refine dIo mixed ?_
  simp [i1, ZA]
  repeat with_reducible refine sd ?_
  refine cRs (RR (nth a0.ZM v1_1).Method a1 (sg u1)) ?_
  exact nx2 e1 (hw := YI [((5, 0), some (25, 0))] [] rfl (by simp [w1]))
 have c2 := sl 2318336 a0.ZM (an u0 u1)
 have f := ms f e1
 exact rtD [.tmp 4] f
theorem VY {a b : Prop} (h : b) (k : a := by (intros; first | omega | with_unfolding_all (first | (first | omega | (have z := YH (ZI.YS u0); omega))) | ((try simp only [Qv, show ∀ x, IntKind.i64.wrap x = W x from fun _ => rfl] at *); omega))) : a ∧ b := ⟨k, h⟩
theorem Pl (a0 : ZI) (a1 : Zd) (u0 : Sm 2314240 a0) (u1 : Sm 2314240 a1) : So 139 [a0.row, a1.row] [rL 1 (slR 1 iR) (JE a0 a1)] := by
 have f := me (JE.eq_1 a0 a1)
 refine so Tryz.func139 Tryz.ntmps139 ?_
 refine eIs ?_
 refine lp2 (X6.eq_2 a0 a1) (fun v1_0 v1_1 => Z9 26 [eX 2 (a0.row.map .d), eX 3 (a1.row.map .d), (5, .one (.sref 5 0 0 v1_0.length), [.arr false 1 (v1_0.map (slR 1 iR))]), eI 6 (↑v1_1 : Int)]) (fun n1 v1_0 v1_1 => a0.ZL.length < n1 + v1_1 ∧ v1_1 ≤ a0.ZL.length ∧ v1_0.length ≤ v1_1) (a0.ZL.length + 1) ([] : List (List Int)) 0 (fun p1 v1_0 v1_1 e1 j1 => ?_) (h0 := YI [((5, 0), some (7, 0))] [] rfl (by simp))
 try dsimp only at j1
 refine cF e1 ?_ ?_ <;> intro k2 h1 e1
 ·have i1 := ix h1
  have m2 := ml a0.ZL (k2 10 _ rfl)
  have c1 := sl 2314240 a0.ZL (an u0 u1)
  have w1 := wr v1_1
  refine dIo mixed ?_
  simp [i1, ZA]
  repeat with_reducible refine VY ?_
  refine cRs (YZ.rd (Lq (nth a0.ZL v1_1) a1 (sg (Zx (ZI.YS u0))) (sg u1))) ?_
  refine eIs ?_
  refine evI rfl rfl rfl ?_
  simp
  repeat with_reducible refine VY ?_
  exact nx2 e1 (hw := YI [((5, 0), some (24, 0))] [] rfl (by simp [w1]))
 have c2 := sl 2314240 a0.ZL (an u0 u1)
 have f := ms f e1
 exact rtO [.tmp 4] f
theorem xR (a0 : Int) : Sa 176 [rI a0] [(qV a0).row] := by
 have f := me (qV.eq_1 a0)
 refine so Tryz.func176 Tryz.ntmps176 ?_
 exact rt [.cell 2 79] f
theorem TM (a0 : ZY) : Sa 235 [a0.row] [rB (Kj a0)] := by
 have f := me (Kj.eq_1 a0)
 refine so Tryz.func235 Tryz.ntmps235 ?_
 refine cRs (YD a0.Key 1 99) ?_
 refine cGs (fun gg => (YD a0.Z1 1 999)) ?_
 refine cGs (fun gg => (YD a0.Method 0 99)) ?_
 refine cGs (fun gg => (YD a0.Org 0 99)) ?_
 refine cGs (fun gg => (YD a0.WL 1 3)) ?_
 refine cGs (fun gg => (YD a0.Yo 0 1000000000000)) ?_
 refine cGs (fun gg => (YD a0.WR 0 1000000000000)) ?_
 refine cGs (fun gg => (YD a0.yG 0 1000000000000)) ?_
 exact rt [.tmp 2] f
theorem RN (a0 : Int) : Sa 236 [rI a0] [(Rq a0).row] := by
 have f := me (Rq.eq_1 a0)
 refine so Tryz.func236 Tryz.ntmps236 ?_
 exact rt [.cell 2 79] f
theorem PM (a0 : List Zy) (a1 : ZY) (u0 : Sm 2318336 a0) : Sa 237 [rL 5 Zy.row a0, a1.row] [rB (zM a0 a1)] := by
 have f := me (zM.eq_1 a0 a1)
 refine so Tryz.func237 Tryz.ntmps237 ?_
 refine dIs mixed ?_
 refine cRs (TM a1) ?_
 refine cGs (fun gg => YZ.rd (W6 a1)) ?_
 refine cGs (fun gg => (jI a0 a1.Key (Xa a1) a1.Mark (sg u0) (by simp (maxDischargeDepth := 12) [VD, Za (m := 2322432) (by decide) u0]; try omega))) ?_
 exact rt [.tmp 4] f
theorem Dk (a0 : ZH) (a1 : Int) (a2 : ZY) (u0 : Sm 2314240 a0) : Sa 171 [a0.row, rI a1, a2.row] [(jl a0 a1 a2).row] := by
 have f := me (jl.eq_1 a0 a1 a2)
 refine so Tryz.func171 Tryz.ntmps171 ?_
 refine cRs (NS a0) ?_
 refine cF f ?_ ?_ <;> intro k1 h1 f
 ·refine cRs (xR 1) ?_
  exact rt [.cell 6 79] f
 refine cRs (TM a2) ?_
 refine cF f ?_ ?_ <;> intro k2 h2 f
 ·refine cRs (RN 1) ?_
  exact rt [.cell 6 79] f
 refine cF f ?_ ?_ <;> intro k3 h3 f
 ·refine cRs (xR 2) ?_
  exact rt [.cell 6 79] f
 refine cF f ?_ ?_ <;> intro k4 h4 f
 ·refine cRs (RN 2) ?_
  exact rt [.cell 6 79] f
 refine cRs (KP a0.Yb a2.Key) ?_
 refine cF f ?_ ?_ <;> intro k5 h5 f
 ·refine cRs (xR 3) ?_
  exact rt [.cell 6 79] f
 refine cRs (PM a0.Yb a2 (sg (ZH.YL u0))) ?_
 refine cF f ?_ ?_ <;> intro k6 h6 f
 ·refine cRs (RN 4) ?_
  exact rt [.cell 6 79] f
 exact rt [.cell 6 79] f
theorem XG (a0 : Int) (a1 : Int) : Sa 247 [rI a0, rI a1] [rI (yH a0 a1)] := by
 have f := me (yH.eq_1 a0 a1)
 refine so Tryz.func247 Tryz.ntmps247 ?_
 refine cF f ?_ ?_ <;> intro k1 h1 f
 ·exact rt [.tmp 4] f
 exact rt [.tmp 4] f
theorem Uz (a0 : Int) (a1 : Int) : Sa 238 [rI a0, rI a1] [rI (VQ a0 a1)] := by
 have f := me (VQ.eq_1 a0 a1)
 refine so Tryz.func238 Tryz.ntmps238 ?_
 refine cF f ?_ ?_ <;> intro k1 h1 f
 ·exact rt [.tmp 4] f
 exact rt [.tmp 4] f
theorem xq (a0 : Int) (a1 : Int) : Sa 306 [rI a0, rI a1] [(XO a0 a1).1.row, rB (XO a0 a1).2] := by
 have f := me (XO.eq_1 a0 a1)
 refine so Tryz.func306 Tryz.ntmps306 ?_
 refine cRs (XG 0 a0) ?_
 refine cRs (Uz 10000 a1) ?_
 refine cF f ?_ ?_ <;> intro k1 h1 f
 ·exact rt [.cell 4 77, .tmp 5] f
 exact rt [.cell 4 77, .tmp 5] f
theorem Rm (a0 : List ZF) (a1 : ZZ) : Sa 296 [rL 3 ZF.row a0, a1.row] [(J9 a0 a1).1.row, rB (J9 a0 a1).2] := by
 have f := me (J9.eq_1 a0 a1)
 refine so Tryz.func296 Tryz.ntmps296 ?_
 refine cRs (zh a0 a1.Authority) ?_
 refine gIf ?_ ?_ <;> intro G
 ·have i1 : (Z2 a0 a1.Authority).toNat < a0.length := by have := zq a0 a1.Authority; exact il
  simp [i1, ZA, G]
  repeat with_reducible refine sdg ?_
  refine cGg (fun gg => (J7 a1.Time)) ?_
  refine cK f ?_ ?_ <;> intro k1 h1 f
  ·try (simp [G] at h1; done)
   all_goals
    exact rtg [.cell 4 77, .tmp 5] f
  ·try (simp [G] at h1; done)
   all_goals
    refine dIo mixed ?_
    simp [i1, ZA, G]
    repeat with_reducible refine sdg ?_
    refine cRg (xq (W (a1.Time - (nth a0 (Z2 a0 a1.Authority).toNat).Error)) (W (a1.Time + (nth a0 (Z2 a0 a1.Authority).toNat).Error))) ?_
    exact rtg [.cell 4 77, .tmp 5] f
 ·refine cGg (fun gg => (J7 a1.Time)) ?_
  refine cK f ?_ ?_ <;> intro k3 h2 f
  ·try (simp [G] at h2; done)
   all_goals
    exact rtg [.cell 4 77, .tmp 5] f
  ·try (simp [G] at h2; done)
   all_goals
    refine dIo mixed ?_
    have i3 : (Z2 a0 a1.Authority).toNat < a0.length := by have := zq a0 a1.Authority; exact il
    simp [i3, ZA, G]
    repeat with_reducible refine sdg ?_
    refine cRg (xq (W (a1.Time - (nth a0 (Z2 a0 a1.Authority).toNat).Error)) (W (a1.Time + (nth a0 (Z2 a0 a1.Authority).toNat).Error))) ?_
    exact rtg [.cell 4 77, .tmp 5] f
theorem El (a0 : List ZD) (a1 : Int) : Sa 351 [rL 2 ZD.row a0, rI a1] [rI (TG a0 a1)] := by
 have f := me (TG.eq_1 a0 a1)
 refine so Tryz.func351 Tryz.ntmps351 ?_
 refine lp2 (qW.eq_2 a0 a1) (fun v1_0 v1_1 => Z9 39 [eL 0 2 a0 ZD.row, eI 1 a1, eI 5 v1_0, eI 6 (↑v1_1 : Int)]) (fun n1 v1_0 v1_1 => a0.length < n1 + v1_1 ∧ v1_1 ≤ a0.length) (a0.length + 1) 0 0 (fun p1 v1_0 v1_1 e1 j1 => ?_)
 refine cFf e1 ?_ ?_ <;> intro k2 h1 e1
 ·have i1 := ix h1
  have m2 := ml a0 (k2 0 _ rfl)
  have w1 := wr v1_1
  simp [i1, ZA]
  repeat with_reducible refine sd ?_
  refine cRs (XB (nth a0 v1_1)) ?_
  refine gIf ?_ ?_ <;> intro G
  ·simp [i1, ZA, G]
   repeat with_reducible refine sdg ?_
   refine gJf G ?_ ?_ <;> intro G
   ·try (simp at G; done)
    all_goals
     simp [i1, ZA, G]
     repeat with_reducible refine sdg ?_
     refine cK e1 ?_ ?_ <;> intro k3 h2 e1
     ·try (simp [G] at h2; done)
      all_goals
       exact ny2 (an w1 G) e1
     ·try (simp [G] at h2; done)
      all_goals
       exact ny2 (an w1 G) e1
   ·try (simp at G; done)
    all_goals
     refine cK e1 ?_ ?_ <;> intro k4 h3 e1
     ·try (simp [G] at h3; done)
      all_goals
       exact ny2 (an w1 G) e1
     ·try (simp [G] at h3; done)
      all_goals
       exact ny2 (an w1 G) e1
  ·refine gJf G ?_ ?_ <;> intro G
   ·try (simp at G; done)
    all_goals
     simp [i1, ZA, G]
     repeat with_reducible refine sdg ?_
     refine cK e1 ?_ ?_ <;> intro k5 h4 e1
     ·try (simp [G] at h4; done)
      all_goals
       exact ny2 (an w1 G) e1
     ·try (simp [G] at h4; done)
      all_goals
       exact ny2 (an w1 G) e1
   ·try (simp at G; done)
    all_goals
     refine cK e1 ?_ ?_ <;> intro k6 h5 e1
     ·try (simp [G] at h5; done)
      all_goals
       exact ny2 (an w1 G) e1
     ·try (simp [G] at h5; done)
      all_goals
       exact ny2 (an w1 G) e1
 have f := ms f e1
 exact rt [.tmp 4] f
theorem Xb (a0 : List ZD) (a1 : Int) (a2 : Int) : Sa 336 [rL 2 ZD.row a0, rI a1, rI a2] [rB (KX a0 a1 a2)] := by
 have f := me (KX.eq_1 a0 a1 a2)
 refine so Tryz.func336 Tryz.ntmps336 ?_
 refine cRs (YD a2 0 (W ((↑a0.length : Int) - 1))) ?_
 refine cGs (fun gg => (El a0 a1)) ?_
 exact rt [.tmp 6] f
theorem Sf (a0 : List ZD) (a1 : Int) (u0 : Sm 2322432 a0) : Sa 300 [rL 2 ZD.row a0, rI a1] [(JI a0 a1).1.row, rB (JI a0 a1).2] := by
 have f := me (JI.eq_1 a0 a1)
 refine so Tryz.func300 Tryz.ntmps300 ?_
 refine cRs (YD a1 0 (W ((↑a0.length : Int) - 1))) ?_
 have c1 := sl 2322432 a0 u0
 have w1 : IntKind.i64.wrap ((a0.length : Int) - 1) = (a0.length : Int) - 1 := YA (by omega) (by omega)
 refine cFo f ?_ ?_ <;> intro k1 h1 f
 ·have q1 := h1; try simp [Zw, w1] at q1
  simp
  exact rt [.cell 4 77, .tmp 5] f
 have q1 := h1; try simp [Zw, w1] at q1
 simp
 refine lp3 (XJ.eq_2 a0 a1) (fun v1_0 v1_1 v1_2 => Z9 83 [eL 0 2 a0 ZD.row, eI 1 a1, (4, .one (.bptr 4 0), [.box [.d (.int .i64 0), .d (.int .i64 0)]]), eI 6 v1_0, eI 7 v1_1, eI 8 (↑v1_2 : Int)]) (fun n1 v1_0 v1_1 v1_2 => a0.length < n1 + v1_2 ∧ v1_2 ≤ a0.length) (a0.length + 1) (-1) (-1) 0 (fun p1 v1_0 v1_1 v1_2 e1 j1 => ?_)
 refine cFf e1 ?_ ?_ <;> intro k3 h2 e1
 ·have i1 := ix h2
  have m2 := ml a0 (k3 0 _ rfl)
  have w2 := wr v1_2
  simp [i1, ZA]
  repeat with_reducible refine sd ?_
  refine cRs (XB (nth a0 v1_2)) ?_
  refine gIf ?_ ?_ <;> intro G
  ·simp [i1, ZA, G]
   repeat with_reducible refine sdg ?_
   refine cGg (fun gg => (Xb a0 (nth a0 v1_2).YE a1)) ?_
   refine gJf G ?_ ?_ <;> intro G
   ·try (simp at G; done)
    all_goals
     simp [i1, ZA, G]
     repeat with_reducible refine sdg ?_
     refine cKo e1 ?_ ?_ <;> intro k4 h3 e1
     ·try (simp [G] at h3; done)
      all_goals
       simp [i1, ZA, G]
       repeat with_reducible refine sdg ?_
       refine cRg (XB (nth a0 v1_2)) ?_
       refine gJf G ?_ ?_ <;> intro G
       ·try (simp at G; done)
        all_goals
         simp [i1, ZA, G]
         repeat with_reducible refine sdg ?_
         refine cGg (fun gg => (Xb a0 (nth a0 v1_2).To a1)) ?_
         refine cKf e1 ?_ ?_ <;> intro k5 h4 e1
         ·try (simp [G] at h4; done)
          all_goals
           simp [i1, ZA, G]
           repeat with_reducible refine sdg ?_
           refine cRg (XG v1_1 (nth a0 v1_2).To) ?_
           exact ny3 (an w1 (an w2 G)) e1
         ·try (simp [G] at h4; done)
          all_goals
           exact ny3 (an w1 (an w2 G)) e1
       ·try (simp at G; done)
        all_goals
         refine sGo ?_
         simp [G]
         repeat with_reducible refine sdg ?_
         refine cKf e1 ?_ ?_ <;> intro k6 h5 e1
         ·try (simp [G] at h5; done)
          all_goals
           simp [i1, ZA, G]
           repeat with_reducible refine sdg ?_
           refine cRg (XG v1_1 (nth a0 v1_2).To) ?_
           exact ny3 (an w1 (an w2 G)) e1
         ·try (simp [G] at h5; done)
          all_goals
           exact ny3 (an w1 (an w2 G)) e1
     ·try (simp [G] at h3; done)
      all_goals
       simp [i1, ZA, G]
       repeat with_reducible refine sdg ?_
       refine cRg (XB (nth a0 v1_2)) ?_
       refine gJf G ?_ ?_ <;> intro G
       ·try (simp at G; done)
        all_goals
         simp [i1, ZA, G]
         repeat with_reducible refine sdg ?_
         refine cGg (fun gg => (Xb a0 (nth a0 v1_2).To a1)) ?_
         refine cKf e1 ?_ ?_ <;> intro k7 h6 e1
         ·try (simp [G] at h6; done)
          all_goals
           simp [i1, ZA, G]
           repeat with_reducible refine sdg ?_
           refine cRg (XG v1_1 (nth a0 v1_2).To) ?_
           exact ny3 (an w1 (an w2 G)) e1
         ·try (simp [G] at h6; done)
          all_goals
           exact ny3 (an w1 (an w2 G)) e1
       ·try (simp at G; done)
        all_goals
         refine sGo ?_
         simp [G]
         repeat with_reducible refine sdg ?_
         refine cKf e1 ?_ ?_ <;> intro k8 h7 e1
         ·try (simp [G] at h7; done)
          all_goals
           simp [i1, ZA, G]
           repeat with_reducible refine sdg ?_
           refine cRg (XG v1_1 (nth a0 v1_2).To) ?_
           exact ny3 (an w1 (an w2 G)) e1
         ·try (simp [G] at h7; done)
          all_goals
           exact ny3 (an w1 (an w2 G)) e1
   ·try (simp at G; done)
    all_goals
     refine cKo e1 ?_ ?_ <;> intro k9 h8 e1
     ·try (simp [G] at h8; done)
      all_goals
       simp [i1, ZA, G]
       repeat with_reducible refine sdg ?_
       refine cRg (XB (nth a0 v1_2)) ?_
       refine gJf G ?_ ?_ <;> intro G
       ·try (simp at G; done)
        all_goals
         simp [i1, ZA, G]
         repeat with_reducible refine sdg ?_
         refine cGg (fun gg => (Xb a0 (nth a0 v1_2).To a1)) ?_
         refine cKf e1 ?_ ?_ <;> intro k10 h9 e1
         ·try (simp [G] at h9; done)
          all_goals
           simp [i1, ZA, G]
           repeat with_reducible refine sdg ?_
           refine cRg (XG v1_1 (nth a0 v1_2).To) ?_
           exact ny3 (an w1 (an w2 G)) e1
         ·try (simp [G] at h9; done)
          all_goals
           exact ny3 (an w1 (an w2 G)) e1
       ·try (simp at G; done)
        all_goals
         refine sGo ?_
         simp [G]
         repeat with_reducible refine sdg ?_
         refine cKf e1 ?_ ?_ <;> intro k11 h10 e1
         ·try (simp [G] at h10; done)
          all_goals
           simp [i1, ZA, G]
           repeat with_reducible refine sdg ?_
           refine cRg (XG v1_1 (nth a0 v1_2).To) ?_
           exact ny3 (an w1 (an w2 G)) e1
         ·try (simp [G] at h10; done)
          all_goals
           exact ny3 (an w1 (an w2 G)) e1
     ·try (simp [G] at h8; done)
      all_goals
       simp [i1, ZA, G]
       repeat with_reducible refine sdg ?_
       refine cRg (XB (nth a0 v1_2)) ?_
       refine gJf G ?_ ?_ <;> intro G
       ·try (simp at G; done)
        all_goals
         simp [i1, ZA, G]
         repeat with_reducible refine sdg ?_
         refine cGg (fun gg => (Xb a0 (nth a0 v1_2).To a1)) ?_
         refine cKf e1 ?_ ?_ <;> intro k12 h11 e1
         ·try (simp [G] at h11; done)
          all_goals
           simp [i1, ZA, G]
           repeat with_reducible refine sdg ?_
           refine cRg (XG v1_1 (nth a0 v1_2).To) ?_
           exact ny3 (an w1 (an w2 G)) e1
         ·try (simp [G] at h11; done)
          all_goals
           exact ny3 (an w1 (an w2 G)) e1
       ·try (simp at G; done)
        all_goals
         refine sGo ?_
         simp [G]
         repeat with_reducible refine sdg ?_
         refine cKf e1 ?_ ?_ <;> intro k13 h12 e1
         ·try (simp [G] at h12; done)
          all_goals
           simp [i1, ZA, G]
           repeat with_reducible refine sdg ?_
           refine cRg (XG v1_1 (nth a0 v1_2).To) ?_
           exact ny3 (an w1 (an w2 G)) e1
         ·try (simp [G] at h12; done)
          all_goals
           exact ny3 (an w1 (an w2 G)) e1
  ·refine sGo ?_
   simp [G]
   repeat with_reducible refine sdg ?_
   refine gJf G ?_ ?_ <;> intro G
   ·try (simp at G; done)
    all_goals
     simp [i1, ZA, G]
     repeat with_reducible refine sdg ?_
     refine cKo e1 ?_ ?_ <;> intro k14 h13 e1
     ·try (simp [G] at h13; done)
      all_goals
       simp [i1, ZA, G]
       repeat with_reducible refine sdg ?_
       refine cRg (XB (nth a0 v1_2)) ?_
       refine gJf G ?_ ?_ <;> intro G
       ·try (simp at G; done)
        all_goals
         simp [i1, ZA, G]
         repeat with_reducible refine sdg ?_
         refine cGg (fun gg => (Xb a0 (nth a0 v1_2).To a1)) ?_
         refine cKf e1 ?_ ?_ <;> intro k15 h14 e1
         ·try (simp [G] at h14; done)
          all_goals
           simp [i1, ZA, G]
           repeat with_reducible refine sdg ?_
           refine cRg (XG v1_1 (nth a0 v1_2).To) ?_
           exact ny3 (an w1 (an w2 G)) e1
         ·try (simp [G] at h14; done)
          all_goals
           exact ny3 (an w1 (an w2 G)) e1
       ·try (simp at G; done)
        all_goals
         refine sGo ?_
         simp [G]
         repeat with_reducible refine sdg ?_
         refine cKf e1 ?_ ?_ <;> intro k16 h15 e1
         ·try (simp [G] at h15; done)
          all_goals
           simp [i1, ZA, G]
           repeat with_reducible refine sdg ?_
           refine cRg (XG v1_1 (nth a0 v1_2).To) ?_
           exact ny3 (an w1 (an w2 G)) e1
         ·try (simp [G] at h15; done)
          all_goals
           exact ny3 (an w1 (an w2 G)) e1
     ·try (simp [G] at h13; done)
      all_goals
       simp [i1, ZA, G]
       repeat with_reducible refine sdg ?_
       refine cRg (XB (nth a0 v1_2)) ?_
       refine gJf G ?_ ?_ <;> intro G
       ·try (simp at G; done)
        all_goals
         simp [i1, ZA, G]
         repeat with_reducible refine sdg ?_
         refine cGg (fun gg => (Xb a0 (nth a0 v1_2).To a1)) ?_
         refine cKf e1 ?_ ?_ <;> intro k17 h16 e1
         ·try (simp [G] at h16; done)
          all_goals
           simp [i1, ZA, G]
           repeat with_reducible refine sdg ?_
           refine cRg (XG v1_1 (nth a0 v1_2).To) ?_
           exact ny3 (an w1 (an w2 G)) e1
         ·try (simp [G] at h16; done)
          all_goals
           exact ny3 (an w1 (an w2 G)) e1
       ·try (simp at G; done)
        all_goals
         refine sGo ?_
         simp [G]
         repeat with_reducible refine sdg ?_
         refine cKf e1 ?_ ?_ <;> intro k18 h17 e1
         ·try (simp [G] at h17; done)
          all_goals
           simp [i1, ZA, G]
           repeat with_reducible refine sdg ?_
           refine cRg (XG v1_1 (nth a0 v1_2).To) ?_
           exact ny3 (an w1 (an w2 G)) e1
         ·try (simp [G] at h17; done)
          all_goals
           exact ny3 (an w1 (an w2 G)) e1
   ·try (simp at G; done)
    all_goals
     refine cKo e1 ?_ ?_ <;> intro k19 h18 e1
     ·try (simp [G] at h18; done)
      all_goals
       simp [i1, ZA, G]
       repeat with_reducible refine sdg ?_
       refine cRg (XB (nth a0 v1_2)) ?_
       refine gJf G ?_ ?_ <;> intro G
       ·try (simp at G; done)
        all_goals
         simp [i1, ZA, G]
         repeat with_reducible refine sdg ?_
         refine cGg (fun gg => (Xb a0 (nth a0 v1_2).To a1)) ?_
         refine cKf e1 ?_ ?_ <;> intro k20 h19 e1
         ·try (simp [G] at h19; done)
          all_goals
           simp [i1, ZA, G]
           repeat with_reducible refine sdg ?_
           refine cRg (XG v1_1 (nth a0 v1_2).To) ?_
           exact ny3 (an w1 (an w2 G)) e1
         ·try (simp [G] at h19; done)
          all_goals
           exact ny3 (an w1 (an w2 G)) e1
       ·try (simp at G; done)
        all_goals
         refine sGo ?_
         simp [G]
         repeat with_reducible refine sdg ?_
         refine cKf e1 ?_ ?_ <;> intro k21 h20 e1
         ·try (simp [G] at h20; done)
          all_goals
           simp [i1, ZA, G]
           repeat with_reducible refine sdg ?_
           refine cRg (XG v1_1 (nth a0 v1_2).To) ?_
           exact ny3 (an w1 (an w2 G)) e1
         ·try (simp [G] at h20; done)
          all_goals
           exact ny3 (an w1 (an w2 G)) e1
     ·try (simp [G] at h18; done)
      all_goals
       simp [i1, ZA, G]
       repeat with_reducible refine sdg ?_
       refine cRg (XB (nth a0 v1_2)) ?_
       refine gJf G ?_ ?_ <;> intro G
       ·try (simp at G; done)
        all_goals
         simp [i1, ZA, G]
         repeat with_reducible refine sdg ?_
         refine cGg (fun gg => (Xb a0 (nth a0 v1_2).To a1)) ?_
         refine cKf e1 ?_ ?_ <;> intro k22 h21 e1
         ·try (simp [G] at h21; done)
          all_goals
           simp [i1, ZA, G]
           repeat with_reducible refine sdg ?_
           refine cRg (XG v1_1 (nth a0 v1_2).To) ?_
           exact ny3 (an w1 (an w2 G)) e1
         ·try (simp [G] at h21; done)
          all_goals
           exact ny3 (an w1 (an w2 G)) e1
       ·try (simp at G; done)
        all_goals
         refine sGo ?_
         simp [G]
         repeat with_reducible refine sdg ?_
         refine cKf e1 ?_ ?_ <;> intro k23 h22 e1
         ·try (simp [G] at h22; done)
          all_goals
           simp [i1, ZA, G]
           repeat with_reducible refine sdg ?_
           refine cRg (XG v1_1 (nth a0 v1_2).To) ?_
           exact ny3 (an w1 (an w2 G)) e1
         ·try (simp [G] at h22; done)
          all_goals
           exact ny3 (an w1 (an w2 G)) e1
 have f := ms f e1
 refine cF f ?_ ?_ <;> intro k24 h23 f
 ·exact rt [.cell 4 77, .tmp 5] f
 exact rt [.cell 4 77, .tmp 5] f
theorem jq (a0 : List ZF) (a1 : ZV) (a2 : Int) (u0 : Sm 2318336 a0) (u1 : Sm 2318336 a1) : Sa 333 [rL 3 ZF.row a0, a1.row, rI a2] [(Xp a0 a1 a2).1.row, rB (Xp a0 a1 a2).2] := by
 have f := me (Xp.eq_1 a0 a1 a2)
 refine so Tryz.func333 Tryz.ntmps333 ?_
 refine lp2 (z6.eq_2 a0 a1) (fun v1_0 v1_1 => Z9 42 [eL 0 3 a0 ZF.row, eI 2 a2, eX 4 (a1.row.map .d), (6, .one (.bptr 6 0), [.box [.d (.int .i64 0), .d (.int .i64 0)]]), (8, .one (.sref 8 0 0 v1_0.length), [.arr false 2 (v1_0.map ZD.row)]), eI 9 (↑v1_1 : Int)]) (fun n1 v1_0 v1_1 => a1.Zf.length < n1 + v1_1 ∧ v1_1 ≤ a1.Zf.length ∧ v1_0.length ≤ 0 + 1 * v1_1) (a1.Zf.length + 1) ([] : List ZD) 0 (fun p1 v1_0 v1_1 e1 j1 => ?_) (h0 := YI [((8, 0), some (12, 0))] [] rfl (by simp))
 refine cFf e1 ?_ ?_ <;> intro k2 h1 e1
 ·have i1 := ix h1
  have m2 := ml a1.Zf (k2 15 _ rfl)
  have c1 := sl 2318336 a1.Zf (an u0 u1)
  have w1 := wr v1_1
  simp [i1, ZA]
  repeat with_reducible refine sd ?_
  refine cRs (Rm a0 (nth a1.Zf v1_1)) ?_
  refine cF e1 ?_ ?_ <;> intro k3 h2 e1
  ·have f := ms f e1
   exact rt [.cell 6 77, .tmp 7] f
  exact nx2 e1 (hw := YI [((8, 0), some (36, 0))] [] rfl (by simp [w1]))
 have c2 := sl 2318336 a1.Zf (an u0 u1)
 have f := ms f e1
 refine cRs (Sf v1_0 a2 (by first | (simp (maxDischargeDepth := 12) [XT]; omega) | (simp (maxDischargeDepth := 12) [Za (m := 2322432) (by decide) u0, Za (m := 2322432) (by decide) u1]; done))) ?_
 exact rt [.cell 6 77, .tmp 7] f
theorem Ln (a0 : List Zg) (a1 : Int) : Sa 241 [rL 4 Zg.row a0, rI a1] [rI (J8 a0 a1)] := by
 have f := me (J8.eq_1 a0 a1)
 refine so Tryz.func241 Tryz.ntmps241 ?_
 refine lp1 (Ko.eq_2 a0 a1) (fun v1_0 => Z9 20 [eL 0 4 a0 Zg.row, eI 1 a1, eI 5 (↑v1_0 : Int)]) (fun n1 v1_0 => a0.length < n1 + v1_0 ∧ v1_0 ≤ a0.length) (a0.length + 1) 0 (fun p1 v1_0 e1 j1 => ?_)
 refine cFf e1 ?_ ?_ <;> intro k2 h1 e1
 ·have i1 := ix h1
  have m2 := ml a0 (k2 0 _ rfl)
  have w1 := wr v1_0
  simp [i1, ZA]
  repeat with_reducible refine sd ?_
  refine cF e1 ?_ ?_ <;> intro k3 h2 e1
  ·have f := ms f e1
   exact rt [.tmp 4] f
  exact ny1 w1 e1
 have f := ms f e1
 exact rt [.tmp 4] f
theorem jB (a0 : List Zg) (a1 : Int) : Sa 175 [rL 4 Zg.row a0, rI a1] [rI (K3 a0 a1)] := by
 have f := me (K3.eq_1 a0 a1)
 refine so Tryz.func175 Tryz.ntmps175 ?_
 refine cRs (Ln a0 a1) ?_
 refine cFt f ?_ ?_ <;> intro k1 h1 f
 ·exact rt [.tmp 4] f
 have i1 : (J8 a0 a1).toNat < a0.length := by have := Ld a0 a1; exact il
 simp [i1, ZA]
 repeat with_reducible refine sd ?_
 exact rt [.tmp 4] f
theorem UU (a0 : List ZF) (a1 : ZZ) : Sa 299 [rL 3 ZF.row a0, a1.row] [rI (Xf a0 a1)] := by
 have f := me (Xf.eq_1 a0 a1)
 refine so Tryz.func299 Tryz.ntmps299 ?_
 refine cRs (zh a0 a1.Authority) ?_
 refine cFt f ?_ ?_ <;> intro k1 h1 f
 ·exact rt [.tmp 4] f
 have i1 : (Z2 a0 a1.Authority).toNat < a0.length := by have := zq a0 a1.Authority; exact il
 simp [i1, ZA]
 repeat with_reducible refine sd ?_
 exact rt [.tmp 4] f
theorem OG (a0 : List Zy) (a1 : List ZF) (a2 : List Zg) (a3 : ZV) : Sa 365 [rL 5 Zy.row a0, rL 3 ZF.row a1, rL 4 Zg.row a2, a3.row] [rI (zF a0 a1 a2 a3)] := by
 have f := me (zF.eq_1 a0 a1 a2 a3)
 refine so Tryz.func365 Tryz.ntmps365 ?_
 refine cRs (jB a2 a3.Method) ?_
 refine lp2 (Kl.eq_2 a0 a1 a2 a3) (fun v1_0 v1_1 => Z9 44 [eL 0 5 a0 Zy.row, eL 1 3 a1 ZF.row, eL 2 4 a2 Zg.row, eX 7 (a3.row.map .d), eI 9 v1_0, eI 10 (↑v1_1 : Int)]) (fun n1 v1_0 v1_1 => a3.Zf.length < n1 + v1_1 ∧ v1_1 ≤ a3.Zf.length) (a3.Zf.length + 1) (K3 a2 a3.Method) 0 (fun p1 v1_0 v1_1 e1 j1 => ?_)
 refine cFf e1 ?_ ?_ <;> intro k2 h1 e1
 ·have i1 := ix h1
  have m2 := ml a3.Zf (k2 18 _ rfl)
  have w1 := wr v1_1
  simp [i1, ZA]
  repeat with_reducible refine sd ?_
  refine cRs (UU a1 (nth a3.Zf v1_1)) ?_
  refine cRs (KP a0 (Xf a1 (nth a3.Zf v1_1))) ?_
  refine cFt e1 ?_ ?_ <;> intro k3 h2 e1
  ·have f := ms f e1
   exact rt [.tmp 8] f
  have i2 : (Yc a0 (Xf a1 (nth a3.Zf v1_1))).toNat < a0.length := by have := JK a0 (Xf a1 (nth a3.Zf v1_1)); exact il
  simp [i2, ZA]
  repeat with_reducible refine sd ?_
  refine cRs (jB a2 (nth a0 (Yc a0 (Xf a1 (nth a3.Zf v1_1))).toNat).Method) ?_
  refine cRs (Uz v1_0 (K3 a2 (nth a0 (Yc a0 (Xf a1 (nth a3.Zf v1_1))).toNat).Method)) ?_
  exact ny2 w1 e1
 have f := ms f e1
 exact rt [.tmp 8] f
theorem Su {a b : Prop} (h : b) (k : a := by (intros; first | omega | with_unfolding_all (first | (first | omega | (have mm : a1.ZM.length ≤ 2314240 := YH (by simp (maxDischargeDepth := 12) [u1]); have ww := RS a1.ZM.length (by omega); (try rw [ww] at q1); (try rw [ww] at q2); have w3 : W (a2 + 1) = a2 + 1 := YA (by omega) (by omega); have w4 : IntKind.i64.wrap (a2 + 1) = a2 + 1 := w3; omega))) | ((try simp only [Qv, show ∀ x, IntKind.i64.wrap x = W x from fun _ => rfl] at *); omega))) : a ∧ b := ⟨k, h⟩
theorem Hq (a0 : ZH) (a1 : ZK) (a2 : Int) (u0 : Sm 2314240 a0) (u1 : Sm 2314240 a1) : Sa 357 [a0.row, a1.row, rI a2] [rB (kx a0 a1 a2)] := by
 have f := me (kx.eq_1 a0 a1 a2)
 refine so Tryz.func357 Tryz.ntmps357 ?_
 refine cRs (YD a2 0 (W ((↑a1.ZM.length : Int) - 1))) ?_
 have c1 := sl 2314240 a1.ZM (an u0 u1)
 have w1 : IntKind.i64.wrap ((a1.ZM.length : Int) - 1) = (a1.ZM.length : Int) - 1 := YA (by omega) (by omega)
 refine cFo f ?_ ?_ <;> intro k1 h1 f
 ·have q1 := h1; try simp [Zw, w1] at q1
  simp
  exact rt [.tmp 6] f
 have q1 := h1; try simp [Zw, w1] at q1
 simp
 refine dIo mixed ?_
 have i1 : a2.toNat < a1.ZM.length := by (have mm : a1.ZM.length ≤ 2314240 := YH (by simp (maxDischargeDepth := 12) [u1]); (try simp [Zw] at q1); have ww := RS a1.ZM.length (by omega); first | omega | ((try rw [ww] at q1); (try rw [ww] at q2); have w3 : W (a2 + 1) = a2 + 1 := YA (by omega) (by omega); omega))
 simp [i1, ZA]
 repeat with_reducible refine Su ?_
 refine cRs (OG a0.Yb a0.ZU a0.Methods (nth a1.ZM a2.toNat)) ?_
 refine cFo f ?_ ?_ <;> intro k3 h2 f
 ·have q2 := h2; try simp [w1] at q2
  simp
  exact rt [.tmp 6] f
 have q2 := h2; try simp [w1] at q2
 simp
 refine dIo mixed ?_
 have i2 : (W (a2 + 1)).toNat < a1.ZM.length := by (have mm : a1.ZM.length ≤ 2314240 := YH (by simp (maxDischargeDepth := 12) [u1]); (try simp [Zw] at q1); have ww := RS a1.ZM.length (by omega); first | omega | ((try rw [ww] at q1); (try rw [ww] at q2); have w3 : W (a2 + 1) = a2 + 1 := YA (by omega) (by omega); omega))
 simp [i2, ZA]
 repeat with_reducible refine Su ?_
 refine cRs (jq a0.ZU (nth a1.ZM (W (a2 + 1)).toNat) a0.QK (sg (ZH.X9 u0)) (sg (Zx (ZK.Xo u1)))) ?_ (hrows := by first | (simp; done) | (simp [W, w1]; done))
 exact rt [.tmp 6] f
theorem VJ (a0 : ZZ) : Sd 335 [a0.row] [rL 1 iR (Qp a0)] := by
 have f := me (Qp.eq_1 a0)
 refine soD Tryz.func335 Tryz.ntmps335 ?_
 exact rtD [.tmp 2] f
theorem VS (a0 : Int) (a1 : ZV) (u0 : Sm 2326528 a1) : Sa 368 [rI a0, a1.row] [rI (JB a0 a1)] := by
 have f := me (JB.eq_1 a0 a1)
 refine so Tryz.func368 Tryz.ntmps368 ?_
 refine lp2 (Qs.eq_2 a1) (fun v1_0 v1_1 => Z9 75 [eI 0 a0, eX 3 (a1.row.map .d), (5, .one (.sref 5 0 0 v1_0.length), [.arr false 1 (v1_0.map iR)]), eI 6 (↑v1_1 : Int)]) (fun n1 v1_0 v1_1 => a1.Path.length < n1 + v1_1 ∧ v1_1 ≤ a1.Path.length ∧ v1_0.length ≤ 4 + 2 * v1_1) (a1.Path.length + 1) ([4, a1.Count, a1.Method, a1.MD] : List Int) 0 (fun p1 v1_0 v1_1 e1 j1 => ?_) (h0 := YI [((5, 0), some (14, 0))] [] rfl (by simp))
 refine cFo e1 ?_ ?_ <;> intro k2 h1 e1
 ·have q1 := h1; try simp at q1
  have i1 := ix h1
  have m2 := ml a1.Path (k2 17 _ rfl)
  have c1 := sl 2326528 a1.Path u0
  have w1 := wr v1_1
  simp [i1, ZA]
  repeat with_reducible refine sd ?_
  refine cFo e1 ?_ ?_ <;> intro k3 h2 e1
  ·have q2 := h2; try simp at q2
   simp
   repeat with_reducible refine sd ?_
   exact nx2 e1 (hw := YI [((5, 0), some (39, 0))] [] rfl (by simp [w1]))
  have q2 := h2; try simp at q2
  simp
  repeat with_reducible refine sd ?_
  exact nx2 e1 (hw := YI [((5, 0), some (42, 0))] [] rfl (by simp [w1]))
 have q1 := h1; try simp at q1
 have c2 := sl 2326528 a1.Path u0
 have f := ms f e1
 simp
 repeat with_reducible refine sd ?_
 refine lp2 (KA.eq_2 a1) (fun v2_0 v2_1 => Z9 75 [eI 0 a0, eX 3 (a1.row.map .d), (5, .one (.sref 5 0 0 v2_0.length), [.arr false 1 (v2_0.map iR)]), eI 7 (↑v2_1 : Int)]) (fun n2 v2_0 v2_1 => a1.Zf.length < n2 + v2_1 ∧ v2_1 ≤ a1.Zf.length ∧ v2_0.length ≤ 5 + 2 * 2326528 + 6 * v2_1) (a1.Zf.length + 1) (v1_0 ++ ([(↑a1.Zf.length : Int)] : List Int)) 0 (fun p2 v2_0 v2_1 e2 j2 => ?_) (hI := by (have o : a1.Path.length ≤ 2326528 := YH (by simp (maxDischargeDepth := 12) [u0]); simp at *; omega)) (h0 := YI [((5, 0), some (48, 0))] [] rfl (by simp))
 try dsimp only at j2
 refine cFo e2 ?_ ?_ <;> intro k5 h3 e2
 ·have q3 := h3; try simp at q3
  have i2 := ix h3
  have m4 := ml a1.Zf (k5 51 _ rfl)
  have c3 := sl 2326528 a1.Zf u0
  have w2 := wr v2_1
  simp
  refine dIo mixed ?_
  simp [i2, ZA]
  repeat with_reducible refine sd ?_
  refine cRf i2 (YZ.rd (VJ (nth a1.Zf v2_1))) ?_
  exact nx2 e2 (hI := by (simp; omega)) (hw := YI [((5, 0), some (71, 0))] [] rfl (by simp [w2]))
 have q3 := h3; try simp at q3
 have c4 := sl 2326528 a1.Zf u0
 have f := ms f e2
 simp
 refine cRs (JT a0 v2_0 (by first | (simp (maxDischargeDepth := 12) [XT]; omega) | (simp (maxDischargeDepth := 12) [Za (m := 68719476736) (by decide) u0]; done))) ?_
 exact rt [.tmp 4] f
theorem Ok (a0 : Int) (a1 : List ZB) (u0 : Sm 2326528 a1) : Sa 375 [rI a0, rL 3 ZB.row a1] [rI (Kx a0 a1)] := by
 have f := me (Kx.eq_1 a0 a1)
 refine so Tryz.func375 Tryz.ntmps375 ?_
 refine lp2 (K2.eq_2 a0 a1) (fun v1_0 v1_1 => Z9 39 [eI 0 a0, eL 1 3 a1 ZB.row, (5, .one (.sref 5 0 0 v1_0.length), [.arr false 1 (v1_0.map iR)]), eI 6 (↑v1_1 : Int)]) (fun n1 v1_0 v1_1 => a1.length < n1 + v1_1 ∧ v1_1 ≤ a1.length ∧ v1_0.length ≤ 1 + 1 * v1_1) (a1.length + 1) ([2] : List Int) 0 (fun p1 v1_0 v1_1 e1 j1 => ?_) (h0 := YI [((5, 0), some (7, 0))] [] rfl (by simp))
 refine cF e1 ?_ ?_ <;> intro k2 h1 e1
 ·have i1 := ix h1
  have m2 := ml a1 (k2 1 _ rfl)
  have c1 := sl 2326528 a1 u0
  have w1 := wr v1_1
  refine As [2, 3, 4, 5, 6, 7, 8, 9, 10, 11, 12, 13, 14, 15, 16, 17, 18, 0, 1, 19, 20, 21, 22] mixed (by kernel_rfl) (by kernel_rfl) (by kernel_rfl) ?_
  have c2 := sl 2326528 (nth a1 v1_1).Zb u0
  simp [i1, ZA]
  repeat with_reducible refine sd ?_
  refine cRs (JT a0 (([(nth a1 v1_1).Key, (nth a1 v1_1).Mark] : List Int) ++ (nth a1 v1_1).Zb) (by simp (maxDischargeDepth := 12) [JX, XT, Za (m := 68719476736) (by decide) u0]; try omega)) ?_
  exact nx2 e1 (hw := YI [((5, 0), some (35, 0))] [] rfl (by simp [w1]))
 have c3 := sl 2326528 a1 u0
 have f := ms f e1
 refine cRs (JT a0 v1_0 (by first | (simp (maxDischargeDepth := 12) [XT]; omega) | (simp (maxDischargeDepth := 12) [Za (m := 68719476736) (by decide) u0]; done))) ?_
 exact rt [.tmp 4] f
theorem UE (a0 : Int) (a1 : Int) (a2 : List ZB) (a3 : Int) (u0 : Sm 2322432 a2) : Sa 369 [rI a0, rI a1, rL 3 ZB.row a2, rI a3] [rI (U2 a0 a1 a2 a3)] := by
 have f := me (U2.eq_1 a0 a1 a2 a3)
 refine so Tryz.func369 Tryz.ntmps369 ?_
 refine cRs (Ok a0 a2 (sg u0)) ?_
 refine cRs (JT a0 ([3, a1, (Kx a0 a2), a3] : List Int) (by simp (maxDischargeDepth := 12) [JX, XT, Za (m := 68719476736) (by decide) u0]; try omega)) ?_
 exact rt [.tmp 8] f
theorem Yt {a b : Prop} (h : b) (k : a := by (intros; first | omega | with_unfolding_all (first | first | omega | (have cc : a0.ZM.length ≤ 2318336 := YH (by simp (maxDischargeDepth := 12) [u0]); have z0 := g1x; simp at z0; have z := zd (by omega) z0.1; have z2 := z0.2; (try have w3 : IntKind.i64.wrap (a2 - 1) = a2 - 1 := YA (by omega) (by omega)); (try have w4 : W (a2 - 1) = a2 - 1 := w3); first | omega | (refine ⟨⟨z0.1, by omega⟩, by omega, by omega⟩) | (simp_all; omega))) | (simp_all; done) | (simp_all; omega) | grind | ((try simp only [Qv, show ∀ x, IntKind.i64.wrap x = W x from fun _ => rfl] at *); omega))) : a ∧ b := ⟨k, h⟩
theorem C8 (a0 : ZK) (a1 : List Int) (a2 : Int) (u0 : Sm 2318336 a0) (u1 : Sm 2318336 a1) : Sa 359 [a0.row, rL 1 iR a1, rI a2] [rI (TH a0 a1 a2)] := by
 have f := me (TH.eq_1 a0 a1 a2)
 refine so Tryz.func359 Tryz.ntmps359 ?_
 refine dIs mixed ?_
 refine cRs (YD a2 0 (W ((↑a0.ZM.length : Int) - 1))) ?_
 refine gIo ?_ ?_ <;> intro G
 ·have g1x := G
  have c1 := sl 2318336 a0.ZM (an u0 u1)
  have w1 : IntKind.i64.wrap ((a0.ZM.length : Int) - 1) = (a0.ZM.length : Int) - 1 := YA (by omega) (by omega)
  have g1 := G; try simp [Zw, w1] at g1
  have i1 : a2.toNat < a0.ZM.length := by (have cc : a0.ZM.length ≤ 2318336 := YH (by simp (maxDischargeDepth := 12) [u0]); have z0 := g1x; simp at z0; have z := zd (by omega) z0.1; have z2 := z0.2; (try have w3 : IntKind.i64.wrap (a2 - 1) = a2 - 1 := YA (by omega) (by omega)); (try have w4 : W (a2 - 1) = a2 - 1 := w3); omega)
  simp [i1, ZA, G]
  repeat with_reducible refine Yt ?_
  refine cGo (fun gg => (YD (nth a0.ZM a2.toNat).Count 0 (↑a0.ZT.length : Int))) ?_
  simp [G]
  repeat with_reducible refine Yt ?_
  refine cKo f ?_ ?_ <;> intro k2 h1 f
  ·try (simp [G] at h1; done)
   all_goals
    have q1 := h1; try simp [Zw, w1] at q1
    simp [G]
    repeat with_reducible refine Yt ?_
    exact rtg [.tmp 6] f
  ·try (simp [G] at h1; done)
   all_goals
    have q1 := h1; try simp [Zw, w1] at q1
    simp [i1, ZA, G]
    repeat with_reducible refine Yt ?_
    refine cKo f ?_ ?_ <;> intro k3 h2 f
    ·try (simp [G] at h2; done)
     all_goals
      have q2 := h2; try simp at q2
      have i2 : (W (a2 - 1)).toNat < a0.ZM.length := by (have cc : a0.ZM.length ≤ 2318336 := YH (by simp (maxDischargeDepth := 12) [u0]); have z0 := g1x; simp at z0; have z := zd (by omega) z0.1; have z2 := z0.2; (try have w3 : IntKind.i64.wrap (a2 - 1) = a2 - 1 := YA (by omega) (by omega)); (try have w4 : W (a2 - 1) = a2 - 1 := w3); omega)
      simp [i2, ZA, G]
      repeat with_reducible refine Yt ?_
      refine cR (VS (nth a0.ZM a2.toNat).Method (nth a0.ZM (W (a2 - 1)).toNat) (sg (Zx (ZK.Xo u0)))) ?_ (hrows := by first | (simp; done) | (simp [W, w1]; done))
      simp [G]
      repeat with_reducible refine Yt ?_
      refine dIo mixed ?_
      have i3 : a2.toNat < a1.length := by (have cc : a0.ZM.length ≤ 2318336 := YH (by simp (maxDischargeDepth := 12) [u0]); have z0 := g1x; simp at z0; have z := zd (by omega) z0.1; have z2 := z0.2; (try have w3 : IntKind.i64.wrap (a2 - 1) = a2 - 1 := YA (by omega) (by omega)); (try have w4 : W (a2 - 1) = a2 - 1 := w3); omega)
      simp [i3, ZA, i1, G]
      repeat with_reducible refine Yt ?_
      refine cR (UE (nth a0.ZM a2.toNat).Method (nth a1 a2.toNat) (a0.ZT.take (nth a0.ZM a2.toNat).Count.toNat) (JB (nth a0.ZM a2.toNat).Method (nth a0.ZM (W (a2 - 1)).toNat)) (Za (n := 2318336) (by decide) (by simp (maxDischargeDepth := 12) [u0, u1]))) ?_ (hrows := by first | (simp; done) | (simp [W, w1]; done))
      simp [G]
      repeat with_reducible refine Yt ?_
      exact rtg [.tmp 6] f
    ·try (simp [G] at h2; done)
     all_goals
      have q2 := h2; try simp at q2
      simp [G]
      repeat with_reducible refine Yt ?_
      refine dIo mixed ?_
      have i4 : a2.toNat < a1.length := by (have cc : a0.ZM.length ≤ 2318336 := YH (by simp (maxDischargeDepth := 12) [u0]); have z0 := g1x; simp at z0; have z := zd (by omega) z0.1; have z2 := z0.2; (try have w3 : IntKind.i64.wrap (a2 - 1) = a2 - 1 := YA (by omega) (by omega)); (try have w4 : W (a2 - 1) = a2 - 1 := w3); omega)
      simp [i4, ZA, i1, G]
      repeat with_reducible refine Yt ?_
      refine cR (UE (nth a0.ZM a2.toNat).Method (nth a1 a2.toNat) (a0.ZT.take (nth a0.ZM a2.toNat).Count.toNat) 0 (Za (n := 2318336) (by decide) (by simp (maxDischargeDepth := 12) [u0, u1]))) ?_
      simp [G]
      repeat with_reducible refine Yt ?_
      exact rtg [.tmp 6] f
 ·have g1x := G
  simp [G]
  repeat with_reducible refine Yt ?_
  refine sGo ?_
  simp [G]
  repeat with_reducible refine Yt ?_
  have c2 := sl 2318336 a0.ZM (an u0 u1)
  have w2 : IntKind.i64.wrap ((a0.ZM.length : Int) - 1) = (a0.ZM.length : Int) - 1 := YA (by omega) (by omega)
  refine cKo f ?_ ?_ <;> intro k6 h3 f
  ·try (simp [G] at h3; done)
   all_goals
    have q3 := h3; try simp [Zw, w2] at q3
    simp [G]
    repeat with_reducible refine Yt ?_
    exact rtg [.tmp 6] f
  ·try (simp [G] at h3; done)
   all_goals
    have q3 := h3; try simp [Zw, w2] at q3
    have i6 : a2.toNat < a0.ZM.length := by (have cc : a0.ZM.length ≤ 2318336 := YH (by simp (maxDischargeDepth := 12) [u0]); have z0 := g1x; simp at z0; have z := zd (by omega) z0.1; have z2 := z0.2; (try have w3 : IntKind.i64.wrap (a2 - 1) = a2 - 1 := YA (by omega) (by omega)); (try have w4 : W (a2 - 1) = a2 - 1 := w3); omega)
    simp [i6, ZA, G]
    repeat with_reducible refine Yt ?_
    refine cKo f ?_ ?_ <;> intro k7 h4 f
    ·try (simp [G] at h4; done)
     all_goals
      have q4 := h4; try simp at q4
      have i7 : (W (a2 - 1)).toNat < a0.ZM.length := by (have cc : a0.ZM.length ≤ 2318336 := YH (by simp (maxDischargeDepth := 12) [u0]); have z0 := g1x; simp at z0; have z := zd (by omega) z0.1; have z2 := z0.2; (try have w3 : IntKind.i64.wrap (a2 - 1) = a2 - 1 := YA (by omega) (by omega)); (try have w4 : W (a2 - 1) = a2 - 1 := w3); omega)
      simp [i7, ZA, G]
      repeat with_reducible refine Yt ?_
      refine cR (VS (nth a0.ZM a2.toNat).Method (nth a0.ZM (W (a2 - 1)).toNat) (sg (Zx (ZK.Xo u0)))) ?_ (hrows := by first | (simp; done) | (simp [W, w2]; done))
      simp [G]
      repeat with_reducible refine Yt ?_
      refine dIo mixed ?_
      have i8 : a2.toNat < a1.length := by (have cc : a0.ZM.length ≤ 2318336 := YH (by simp (maxDischargeDepth := 12) [u0]); have z0 := g1x; simp at z0; have z := zd (by omega) z0.1; have z2 := z0.2; (try have w3 : IntKind.i64.wrap (a2 - 1) = a2 - 1 := YA (by omega) (by omega)); (try have w4 : W (a2 - 1) = a2 - 1 := w3); omega)
      simp [i8, ZA, i6, G]
      repeat with_reducible refine Yt ?_
      refine cR (UE (nth a0.ZM a2.toNat).Method (nth a1 a2.toNat) (a0.ZT.take (nth a0.ZM a2.toNat).Count.toNat) (JB (nth a0.ZM a2.toNat).Method (nth a0.ZM (W (a2 - 1)).toNat)) (Za (n := 2318336) (by decide) (by simp (maxDischargeDepth := 12) [u0, u1]))) ?_ (hrows := by first | (simp; done) | (simp [W, w2]; done))
      simp [G]
      repeat with_reducible refine Yt ?_
      exact rtg [.tmp 6] f
    ·try (simp [G] at h4; done)
     all_goals
      have q4 := h4; try simp at q4
      simp [G]
      repeat with_reducible refine Yt ?_
      refine dIo mixed ?_
      have i9 : a2.toNat < a1.length := by (have cc : a0.ZM.length ≤ 2318336 := YH (by simp (maxDischargeDepth := 12) [u0]); have z0 := g1x; simp at z0; have z := zd (by omega) z0.1; have z2 := z0.2; (try have w3 : IntKind.i64.wrap (a2 - 1) = a2 - 1 := YA (by omega) (by omega)); (try have w4 : W (a2 - 1) = a2 - 1 := w3); omega)
      simp [i9, ZA, i6, G]
      repeat with_reducible refine Yt ?_
      refine cR (UE (nth a0.ZM a2.toNat).Method (nth a1 a2.toNat) (a0.ZT.take (nth a0.ZM a2.toNat).Count.toNat) 0 (Za (n := 2318336) (by decide) (by simp (maxDischargeDepth := 12) [u0, u1]))) ?_
      simp [G]
      repeat with_reducible refine Yt ?_
      exact rtg [.tmp 6] f
theorem SV (a0 : Int) (a1 : Int) (a2 : Int) : Sa 373 [rI a0, rI a1, rI a2] [rI (xP a0 a1 a2)] := by
 have f := me (xP.eq_1 a0 a1 a2)
 refine so Tryz.func373 Tryz.ntmps373 ?_
 refine cRs (JT a0 ([1, a1, a2] : List Int) (by simp (maxDischargeDepth := 12) [JX, XT]; try omega)) ?_
 exact rt [.tmp 6] f
theorem LQ (a0 : Int) (a1 : Int) (a2 : List Yq) : Sa 366 [rI a0, rI a1, rL 2 Yq.row a2] [rI (qy a0 a1 a2)] := by
 have f := me (qy.eq_1 a0 a1 a2)
 refine so Tryz.func366 Tryz.ntmps366 ?_
 refine lp2 (K8.eq_2 a0 a2) (fun v1_0 v1_1 => Z9 38 [eI 0 a0, eL 2 2 a2 Yq.row, eI 7 v1_0, eI 8 (↑v1_1 : Int)]) (fun n1 v1_0 v1_1 => a2.length < n1 + v1_1 ∧ v1_1 ≤ a2.length) (a2.length + 1) a1 0 (fun p1 v1_0 v1_1 e1 j1 => ?_)
 refine cFf e1 ?_ ?_ <;> intro k2 h1 e1
 ·have i1 := ix h1
  have m2 := ml a2 (k2 2 _ rfl)
  have w1 := wr v1_1
  simp [i1, ZA]
  repeat with_reducible refine sd ?_
  refine cFo e1 ?_ ?_ <;> intro k3 h2 e1
  ·simp [i1, ZA]
   repeat with_reducible refine sd ?_
   refine cRs (SV a0 (nth a2 v1_1).Yo v1_0) ?_
   exact ny2 w1 e1
  simp [i1, ZA]
  repeat with_reducible refine sd ?_
  refine cRs (SV a0 v1_0 (nth a2 v1_1).Yo) ?_
  exact ny2 w1 e1
 have f := ms f e1
 exact rt [.tmp 6] f
theorem I6 (a0 : List Zy) (a1 : List ZF) (a2 : ZZ) (u0 : Sm 2322432 a0) (u1 : Sm 2322432 a1) : Sa 374 [rL 5 Zy.row a0, rL 3 ZF.row a1, a2.row] [(Ql a0 a1 a2).1.row, rB (Ql a0 a1 a2).2] := by
 have f := me (Ql.eq_1 a0 a1 a2)
 refine so Tryz.func374 Tryz.ntmps374 ?_
 refine cRs (zh a1 a2.Authority) ?_
 refine cGs (fun gg => (J7 a2.Time)) ?_
 refine cFt f ?_ ?_ <;> intro k1 h1 f
 ·exact rt [.cell 6 279, .tmp 7] f
 have i1 : (Z2 a1 a2.Authority).toNat < a1.length := by have := zq a1 a2.Authority; exact il
 simp [i1, ZA]
 repeat with_reducible refine sd ?_
 refine cRs (KP a0 (nth a1 (Z2 a1 a2.Authority).toNat).Key) ?_
 refine cF f ?_ ?_ <;> intro k2 h2 f
 ·exact rt [.cell 6 279, .tmp 7] f
 refine dIo mixed ?_
 have i2 : (Yc a0 (nth a1 (Z2 a1 a2.Authority).toNat).Key).toNat < a0.length := by have := JK a0 (nth a1 (Z2 a1 a2.Authority).toNat).Key; exact il
 simp [i2, ZA]
 repeat with_reducible refine sd ?_
 refine cRs (YZ.rd (VJ a2)) ?_
 refine cRs (Pa (nth a0 (Yc a0 (nth a1 (Z2 a1 a2.Authority).toNat).Key).toNat) (Qp a2) (by simp (maxDischargeDepth := 12) [HX, Za (m := 2326528) (by decide) u0, Za (m := 2326528) (by decide) u1]; try omega)) ?_
 exact rt [.cell 6 279, .tmp 7] f
theorem SR (a0 : List Zy) (a1 : List ZF) (a2 : ZZ) (u0 : Sm 2318336 a0) (u1 : Sm 2318336 a1) : Sa 367 [rL 5 Zy.row a0, rL 3 ZF.row a1, a2.row] [rB (jX a0 a1 a2)] := by
 have f := me (jX.eq_1 a0 a1 a2)
 refine so Tryz.func367 Tryz.ntmps367 ?_
 refine cRs (I6 a0 a1 a2 (sg u0) (sg u1)) ?_
 exact rt [.tmp 6] f
theorem Oz (a0 : List Zy) (a1 : List ZF) (a2 : ZV) (a3 : Int) (u0 : Sm 2314240 a0) (u1 : Sm 2314240 a1) (u2 : Sm 2314240 a2) : Sa 358 [rL 5 Zy.row a0, rL 3 ZF.row a1, a2.row, rI a3] [rB (yU a0 a1 a2 a3)] := by
 have f := me (yU.eq_1 a0 a1 a2 a3)
 refine so Tryz.func358 Tryz.ntmps358 ?_
 refine dIs mixed ?_
 refine cGs (fun gg => (LQ a2.Method a3 a2.Path)) ?_
 refine cGs (fun gg => (YD (↑a2.Zf.length : Int) 1 6)) ?_
 refine cFo f ?_ ?_ <;> intro k2 h1 f
 ·have q1 := h1; try simp [Zw] at q1
  simp
  exact rt [.tmp 8] f
 have q1 := h1; try simp [Zw] at q1
 simp
 refine lp1 (zK.eq_2 a0 a1 a2) (fun v1_0 => Z9 73 [eL 0 5 a0 Zy.row, eL 1 3 a1 ZF.row, eX 6 (a2.row.map .d), eI 9 (↑v1_0 : Int)]) (fun n1 v1_0 => a2.Zf.length < n1 + v1_0 ∧ v1_0 ≤ a2.Zf.length) (a2.Zf.length + 1) 0 (fun p1 v1_0 e1 j1 => ?_)
 refine cFf e1 ?_ ?_ <;> intro k4 h2 e1
 ·have i1 := ix h2
  have m2 := ml a2.Zf (k4 35 _ rfl)
  have c1 := sl 2314240 a2.Zf (an u0 (an u1 u2))
  have w1 := wr v1_0
  simp [i1, ZA]
  repeat with_reducible refine sd ?_
  refine dIs mixed ?_
  refine gIf ?_ ?_ <;> intro G
  ·have i2 := ik (v1_0 - 1) a2.Zf
   have w2 : IntKind.i64.wrap ((v1_0 : Int) - 1) = (v1_0 : Int) - 1 := YA (by omega) (by omega)
   simp [i2, ZA, w2, Y7, G]
   repeat with_reducible refine sdg ?_
   refine cGg (fun gg => (SR a0 a1 (nth a2.Zf v1_0) (sg u0) (sg u1))) ?_
   refine cK e1 ?_ ?_ <;> intro k6 h3 e1
   ·try (simp [G] at h3; done)
    all_goals
     have f := ms f e1
     exact rtg [.tmp 8] f
   ·try (simp [G] at h3; done)
    all_goals
     exact ny1 (an w1 (an w2 G)) e1
  ·refine cGg (fun gg => (SR a0 a1 (nth a2.Zf v1_0) (sg u0) (sg u1))) ?_
   refine cK e1 ?_ ?_ <;> intro k7 h4 e1
   ·try (simp [G] at h4; done)
    all_goals
     have f := ms f e1
     exact rtg [.tmp 8] f
   ·try (simp [G] at h4; done)
    all_goals
     exact ny1 (an w1 G) e1
 have c2 := sl 2314240 a2.Zf (an u0 (an u1 u2))
 have f := ms f e1
 exact rt [.tmp 8] f
theorem Dx (a0 : ZH) (a1 : ZK) (a2 : List Int) (a3 : Int) (u0 : Sm 2310144 a0) (u1 : Sm 2310144 a1) (u2 : Sm 2310144 a2) (u3 : 0 ≤ a3 ∧ a3 < (a1.ZM.length : Int)) : Sa 348 [a0.row, a1.row, rL 1 iR a2, rI a3] [rB (PC a0 a1 a2 a3)] := by
 have f := me (PC.eq_1 a0 a1 a2 a3)
 refine so Tryz.func348 Tryz.ntmps348 ?_
 refine dIo mixed ?_
 have i1 := ik a3.toNat a1.ZM
 simp [i1, ZA]
 repeat with_reducible refine sd ?_
 refine cRs (jq a0.ZU (nth a1.ZM a3.toNat) a0.QK (sg (ZH.X9 u0)) (sg (Zx (ZK.Xo u1)))) ?_
 refine dIs mixed ?_
 refine cGs (fun gg => (Hq a0 a1 a3 (sg u0) (sg u1))) ?_
 refine gIf ?_ ?_ <;> intro G
 ·simp [i1, ZA, G]
  repeat with_reducible refine sdg ?_
  refine cGg (fun gg => (C8 a1 a2 a3 (sg u1) (sg u2))) ?_
  refine cGg (fun gg => (Oz a0.Yb a0.ZU (nth a1.ZM a3.toNat) (TH a1 a2 a3) (sg (ZH.YL u0)) (sg (ZH.X9 u0)) (sg (Zx (ZK.Xo u1))))) ?_
  exact rtg [.tmp 8] f
 ·refine sGo ?_
  simp [G]
  repeat with_reducible refine sdg ?_
  refine sGo ?_
  simp [G]
  repeat with_reducible refine sdg ?_
  exact rtg [.tmp 8] f
theorem Iy (a0 : ZH) (a1 : ZK) (a2 : List Int) (u0 : Sm 2306048 a0) (u1 : Sm 2306048 a1) (u2 : Sm 2306048 a2) : Sa 332 [a0.row, a1.row, rL 1 iR a2] [rI (J3 a0 a1 a2)] := by
 have f := me (J3.eq_1 a0 a1 a2)
 refine so Tryz.func332 Tryz.ntmps332 ?_
 refine okL fun k1 => ?_
 refine lp1 (KW.eq_2 a0 a1 a2) (fun v1_0 => Z9 24 [eL 2 1 a2 iR, eX 3 (a0.row.map .d), eX 4 (a1.row.map .d), eI 7 (↑v1_0 : Int)]) (fun n1 v1_0 => v1_0 < n1 ∧ v1_0 ≤ a1.ZM.length) (a1.ZM.length + 1) a1.ZM.length (fun p1 v1_0 e1 j1 => ?_)
 refine cGs (fun gg => (Dx a0 a1 a2 (W ((↑v1_0 : Int) - 1)) (sg u0) (sg u1) (sg u2) (by (have g2 : ((decide (0 < v1_0)) == true) = true := gg; simp at g2; have cc : a1.ZM.length ≤ 2306048 := YH (by simp (maxDischargeDepth := 12) [u1]); have ww : W ((v1_0 : Int) - 1) = (v1_0 : Int) - 1 := YA (by omega) (by omega); rw [ww]; omega)))) ?_
 refine cFo e1 ?_ ?_ <;> intro k2 h1 e1
 ·have q1 := h1; try simp at q1
  have m1 := ml a1.ZM (k1 9 _ rfl)
  have w1 : IntKind.i64.wrap ((v1_0 : Int) - 1) = (v1_0 : Int) - 1 := YA (by omega) (by omega)
  have w2 : ((v1_0 - 1 : Nat) : Int) = (v1_0 : Int) - 1 := by omega
  simp
  exact ny1 (an w1 w2) e1
 have q1 := h1; try simp at q1
 have f := ms f e1
 simp
 exact rt [.tmp 6] f
theorem Eo (a0 : ZH) (a1 : ZK) (a2 : List Int) (a3 : Int) (u0 : Sm 2301952 a0) (u1 : Sm 2301952 a1) (u2 : Sm 2301952 a2) : Sa 292 [a0.row, a1.row, rL 1 iR a2, rI a3] [rI (TJ a0 a1 a2 a3)] := by
 have f := me (TJ.eq_1 a0 a1 a2 a3)
 refine so Tryz.func292 Tryz.ntmps292 ?_
 refine cRs (Iy a0 a1 a2 (sg u0) (sg u1) (sg u2)) ?_
 refine lp2 (qK.eq_2 a0 a1 a3) (fun v1_0 v1_1 => Z9 52 [eI 3 a3, eX 4 (a0.row.map .d), eX 5 (a1.row.map .d), eI 9 v1_0, eI 10 v1_1]) (fun n1 v1_0 v1_1 => (a1.ZM.length : Int) + 1 < n1 + v1_1 ∧ 0 ≤ v1_1 ∧ v1_1 ≤ a1.ZM.length) (a1.ZM.length + 2) a0.Now (J3 a0 a1 a2) (fun p1 v1_0 v1_1 e1 j1 => ?_) (hI := by (have z := Lc a0 a1 a2; (try dsimp only); omega))
 try dsimp only at j1
 refine cFf e1 ?_ ?_ <;> intro k2 h1 e1
 ·have i1 := ik v1_1.toNat a1.ZM
  simp [i1, ZA]
  repeat with_reducible refine sd ?_
  refine cF e1 ?_ ?_ <;> intro k3 h2 e1
  ·refine okD fun k4 => ?_
   refine dIo mixed ?_
   simp [i1, ZA]
   repeat with_reducible refine sd ?_
   refine cRs (jq a0.ZU (nth a1.ZM v1_1.toNat) a0.QK (sg (ZH.X9 u0)) (sg (Zx (ZK.Xo u1)))) ?_
   refine cRs (Uz v1_0 (Xp a0.ZU (nth a1.ZM v1_1.toNat) a0.QK).1.To) ?_
   exact nx2 e1 (hI := by (have cc : a1.ZM.length ≤ 2301952 := YH (by simp (maxDischargeDepth := 12) [u1]); have w2 : W (v1_1 + 1) = v1_1 + 1 := YA (by simp at *; omega) (by simp at *; omega); (try dsimp only); rw [w2]; simp at *; omega))
  exact nx2 e1 (hI := by (have cc : a1.ZM.length ≤ 2301952 := YH (by simp (maxDischargeDepth := 12) [u1]); have w2 : W (v1_1 + 1) = v1_1 + 1 := YA (by simp at *; omega) (by simp at *; omega); (try dsimp only); rw [w2]; simp at *; omega))
 have f := ms f e1
 exact rt [.tmp 8] f
theorem L3 (a0 : ZH) (a1 : ZK) (a2 : List Int) (a3 : ZB) (u0 : Sm 2297856 a0) (u1 : Sm 2297856 a1) (u2 : Sm 2297856 a2) (u3 : Sm 2297856 a3) : Sa 239 [a0.row, a1.row, rL 1 iR a2, a3.row] [rI (xK a0 a1 a2 a3)] := by
 have f := me (xK.eq_1 a0 a1 a2 a3)
 refine so Tryz.func239 Tryz.ntmps239 ?_
 refine cRs (Rg a1 a3) ?_
 refine cF f ?_ ?_ <;> intro k1 h1 f
 ·exact rt [.tmp 8] f
 refine cRs (Eo a0 a1 a2 (Qj a1 a3) (sg u0) (sg u1) (sg u2)) ?_
 exact rt [.tmp 8] f
theorem VV (a0 : ZH) (a1 : ZI) (a2 : List (List Int)) (a3 : ZB) (u0 : Sm 2293760 a0) (u1 : Sm 2293760 a1) (u2 : Sm 2293760 a2) (u3 : Sm 2293760 a3) : Sa 172 [a0.row, a1.row, rL 1 (slR 1 iR) a2, a3.row] [rI (Yf a0 a1 a2 a3)] := by
 have f := me (Yf.eq_1 a0 a1 a2 a3)
 refine so Tryz.func172 Tryz.ntmps172 ?_
 refine lp2 (KE.eq_2 a0 a1 a2 a3) (fun v1_0 v1_1 => Z9 41 [eL 2 1 a2 (slR 1 iR), eX 4 (a0.row.map .d), eX 5 (a1.row.map .d), eX 7 (a3.row.map .d), eI 9 v1_0, eI 10 (↑v1_1 : Int)]) (fun n1 v1_0 v1_1 => a1.ZL.length < n1 + v1_1 ∧ v1_1 ≤ a1.ZL.length) (a1.ZL.length + 1) a0.Now 0 (fun p1 v1_0 v1_1 e1 j1 => ?_)
 refine cF e1 ?_ ?_ <;> intro k2 h1 e1
 ·have i1 : v1_1 < a1.ZL.length := by (simp at h1; omega)
  have m2 := ml a1.ZL (k2 15 _ rfl)
  have c1 := sl 2293760 a1.ZL (an u0 (an u1 (an u2 u3)))
  have w1 := wr v1_1
  refine dIo mixed ?_
  have i2 := ik v1_1 a2
  simp [i1, ZA, i2]
  repeat with_reducible refine sd ?_
  refine cRs (L3 a0 (nth a1.ZL v1_1) (nth a2 v1_1) a3 (sg u0) (sg (Zx (ZI.YS u1))) (sg (Zx u2)) (sg u3)) ?_
  refine cRs (Uz v1_0 (xK a0 (nth a1.ZL v1_1) (nth a2 v1_1) a3)) ?_
  exact ny2 w1 e1
 have c2 := sl 2293760 a1.ZL (an u0 (an u1 (an u2 u3)))
 have f := ms f e1
 exact rt [.tmp 8] f
theorem Kk (a0 : ZB) : Sa 295 [a0.row] [rI (Y2 a0)] := by
 have f := me (Y2.eq_1 a0)
 refine so Tryz.func295 Tryz.ntmps295 ?_
 refine gIf ?_ ?_ <;> intro G
 ·have i1 := ik 0 a0.Zb
  simp [i1, ZA, G]
  repeat with_reducible refine sdg ?_
  refine cGg (fun gg => (YD (nth a0.Zb 0) 101 105)) ?_
  refine cKo f ?_ ?_ <;> intro k1 h1 f
  ·try (simp [G] at h1; done)
   all_goals
    have q1 := h1; try simp [Zw] at q1
    simp [G]
    repeat with_reducible refine sdg ?_
    exact rtg [.tmp 2] f
  ·try (simp [G] at h1; done)
   all_goals
    have q1 := h1; try simp [Zw] at q1
    simp [G]
    repeat with_reducible refine sdg ?_
    refine dIo mixed ?_
    have i2 := ik (W ((nth a0.Zb 0) - 101)).toNat ([7, 5, 5, 9, 6] : List Int)
    have r1 := ZA (f := iR) i2; try simp at r1
    simp [i1, ZA, i2, r1, G]
    repeat with_reducible refine sdg ?_
    refine cKt f ?_ ?_ <;> intro k3 h2 f
    ·try (simp [G] at h2; done)
     all_goals
      exact rtg [.tmp 2] f
    ·try (simp [G] at h2; done)
     all_goals
      simp [i1, ZA, G]
      repeat with_reducible refine sdg ?_
      exact rtg [.tmp 2] f
 ·refine sGo ?_
  simp [G]
  repeat with_reducible refine sdg ?_
  refine cKo f ?_ ?_ <;> intro k4 h3 f
  ·try (simp [G] at h3; done)
   all_goals
    have q3 := h3; try simp [Zw] at q3
    simp [G]
    repeat with_reducible refine sdg ?_
    exact rtg [.tmp 2] f
  ·try (simp [G] at h3; done)
   all_goals
    have q3 := h3; try simp [Zw] at q3
    simp [G]
    repeat with_reducible refine sdg ?_
    refine dIo mixed ?_
    have i4 := ik 0 a0.Zb
    have i5 := ik (W ((nth a0.Zb 0) - 101)).toNat ([7, 5, 5, 9, 6] : List Int)
    have r2 := ZA (f := iR) i5; try simp at r2
    simp [i4, ZA, i5, r2, G]
    repeat with_reducible refine sdg ?_
    refine cKt f ?_ ?_ <;> intro k6 h4 f
    ·try (simp [G] at h4; done)
     all_goals
      exact rtg [.tmp 2] f
    ·try (simp [G] at h4; done)
     all_goals
      simp [i4, ZA, G]
      repeat with_reducible refine sdg ?_
      exact rtg [.tmp 2] f
theorem RE (a0 : ZB) : Sa 244 [a0.row] [(XA a0).1.row, rB (XA a0).2] := by
 have f := me (XA.eq_1 a0)
 refine so Tryz.func244 Tryz.ntmps244 ?_
 refine dIs mixed ?_
 refine cRs (Kk a0) ?_
 refine gIf ?_ ?_ <;> intro G
 ·have g1x := G
  have g1 := G; try simp at g1
  have i1 : 6 < a0.Zb.length := by (have z := ZW a0; simp_all; done)
  simp [i1, ZA, G]
  repeat with_reducible refine sdg ?_
  refine cK f ?_ ?_ <;> intro k2 h1 f
  ·try (simp [G] at h1; done)
   all_goals
    exact rtg [.cell 2 168, .tmp 3] f
  ·try (simp [G] at h1; done)
   all_goals
    refine dIo mixed ?_
    have i2 : 1 < a0.Zb.length := by (have z := ZW a0; simp_all; done)
    have i3 : 2 < a0.Zb.length := by (have z := ZW a0; simp_all; done)
    have i4 : 3 < a0.Zb.length := by (have z := ZW a0; simp_all; done)
    have i5 : 4 < a0.Zb.length := by (have z := ZW a0; simp_all; done)
    have i6 : 5 < a0.Zb.length := by (have z := ZW a0; simp_all; done)
    simp [i2, ZA, i3, i4, i5, i6, i1, G]
    repeat with_reducible refine sdg ?_
    exact rtg [.cell 2 168, .tmp 3] f
 ·have g1x := G
  refine cK f ?_ ?_ <;> intro k4 h2 f
  ·try (simp [G] at h2; done)
   all_goals
    exact rtg [.cell 2 168, .tmp 3] f
  ·try (simp [G] at h2; done)
   all_goals
    refine dIo mixed ?_
    have i8 : 1 < a0.Zb.length := by (have z := ZW a0; simp_all; done)
    have i9 : 2 < a0.Zb.length := by (have z := ZW a0; simp_all; done)
    have i10 : 3 < a0.Zb.length := by (have z := ZW a0; simp_all; done)
    have i11 : 4 < a0.Zb.length := by (have z := ZW a0; simp_all; done)
    have i12 : 5 < a0.Zb.length := by (have z := ZW a0; simp_all; done)
    have i13 : 6 < a0.Zb.length := by (have z := ZW a0; simp_all; done)
    simp [i8, ZA, i9, i10, i11, i12, i13, G]
    repeat with_reducible refine sdg ?_
    exact rtg [.cell 2 168, .tmp 3] f
theorem TA (a0 : ZB) : Sa 248 [a0.row] [(X1 a0).1.row, rB (X1 a0).2] := by
 have f := me (X1.eq_1 a0)
 refine so Tryz.func248 Tryz.ntmps248 ?_
 refine dIs mixed ?_
 refine cRs (Kk a0) ?_
 refine gIf ?_ ?_ <;> intro G
 ·have g1x := G
  have g1 := G; try simp at g1
  have i1 : 4 < a0.Zb.length := by (have z := ZW a0; simp_all; done)
  simp [i1, ZA, G]
  repeat with_reducible refine sdg ?_
  refine cK f ?_ ?_ <;> intro k2 h1 f
  ·try (simp [G] at h1; done)
   all_goals
    exact rtg [.cell 2 261, .tmp 3] f
  ·try (simp [G] at h1; done)
   all_goals
    refine dIo mixed ?_
    have i2 : 1 < a0.Zb.length := by (have z := ZW a0; simp_all; done)
    have i3 : 2 < a0.Zb.length := by (have z := ZW a0; simp_all; done)
    have i4 : 3 < a0.Zb.length := by (have z := ZW a0; simp_all; done)
    simp [i2, ZA, i3, i4, i1, G]
    repeat with_reducible refine sdg ?_
    exact rtg [.cell 2 261, .tmp 3] f
 ·have g1x := G
  refine cK f ?_ ?_ <;> intro k4 h2 f
  ·try (simp [G] at h2; done)
   all_goals
    exact rtg [.cell 2 261, .tmp 3] f
  ·try (simp [G] at h2; done)
   all_goals
    refine dIo mixed ?_
    have i6 : 1 < a0.Zb.length := by (have z := ZW a0; simp_all; done)
    have i7 : 2 < a0.Zb.length := by (have z := ZW a0; simp_all; done)
    have i8 : 3 < a0.Zb.length := by (have z := ZW a0; simp_all; done)
    have i9 : 4 < a0.Zb.length := by (have z := ZW a0; simp_all; done)
    simp [i6, ZA, i7, i8, i9, G]
    repeat with_reducible refine sdg ?_
    exact rtg [.cell 2 261, .tmp 3] f
theorem Lo (a0 : ZB) : Sa 349 [a0.row] [(xD a0).1.row, rB (xD a0).2] := by
 have f := me (xD.eq_1 a0)
 refine so Tryz.func349 Tryz.ntmps349 ?_
 refine cRs (Kk a0) ?_
 refine cF f ?_ ?_ <;> intro k1 h1 f
 ·exact rt [.cell 2 279, .tmp 3] f
 refine dIo mixed ?_
 have i1 : 1 < a0.Zb.length := by (have z := ZW a0; simp_all; done)
 have i2 : 2 < a0.Zb.length := by (have z := ZW a0; simp_all; done)
 have i3 : 3 < a0.Zb.length := by (have z := ZW a0; simp_all; done)
 have i4 : 4 < a0.Zb.length := by (have z := ZW a0; simp_all; done)
 simp [i1, ZA, i2, i3, i4]
 repeat with_reducible refine sd ?_
 exact rt [.cell 2 279, .tmp 3] f
theorem Iq (a0 : ZB) : Sa 350 [a0.row] [(qh a0).1.row, rB (qh a0).2] := by
 have f := me (qh.eq_1 a0)
 refine so Tryz.func350 Tryz.ntmps350 ?_
 refine dIs mixed ?_
 refine cRs (Kk a0) ?_
 refine gIf ?_ ?_ <;> intro G
 ·have g1x := G
  have g1 := G; try simp at g1
  have i1 : 1 < a0.Zb.length := by (have z := ZW a0; simp_all; done)
  simp [i1, ZA, G]
  repeat with_reducible refine sdg ?_
  refine cK f ?_ ?_ <;> intro k2 h1 f
  ·try (simp [G] at h1; done)
   all_goals
    exact rtg [.cell 2 49, .tmp 3] f
  ·try (simp [G] at h1; done)
   all_goals
    refine dIo mixed ?_
    have i2 : 2 < a0.Zb.length := by (have z := ZW a0; simp_all; done)
    have i3 : 3 < a0.Zb.length := by (have z := ZW a0; simp_all; done)
    have i4 : 4 < a0.Zb.length := by (have z := ZW a0; simp_all; done)
    have i5 : 5 < a0.Zb.length := by (have z := ZW a0; simp_all; done)
    have i6 : 6 < a0.Zb.length := by (have z := ZW a0; simp_all; done)
    have i7 : 7 < a0.Zb.length := by (have z := ZW a0; simp_all; done)
    have i8 : 8 < a0.Zb.length := by (have z := ZW a0; simp_all; done)
    simp [i1, ZA, i2, i3, i4, i5, i6, i7, i8, G]
    repeat with_reducible refine sdg ?_
    exact rtg [.cell 2 49, .tmp 3] f
 ·have g1x := G
  refine cK f ?_ ?_ <;> intro k4 h2 f
  ·try (simp [G] at h2; done)
   all_goals
    exact rtg [.cell 2 49, .tmp 3] f
  ·try (simp [G] at h2; done)
   all_goals
    refine dIo mixed ?_
    have i10 : 1 < a0.Zb.length := by (have z := ZW a0; simp_all; done)
    have i11 : 2 < a0.Zb.length := by (have z := ZW a0; simp_all; done)
    have i12 : 3 < a0.Zb.length := by (have z := ZW a0; simp_all; done)
    have i13 : 4 < a0.Zb.length := by (have z := ZW a0; simp_all; done)
    have i14 : 5 < a0.Zb.length := by (have z := ZW a0; simp_all; done)
    have i15 : 6 < a0.Zb.length := by (have z := ZW a0; simp_all; done)
    have i16 : 7 < a0.Zb.length := by (have z := ZW a0; simp_all; done)
    have i17 : 8 < a0.Zb.length := by (have z := ZW a0; simp_all; done)
    simp [i10, ZA, i11, i12, i13, i14, i15, i16, i17, G]
    repeat with_reducible refine sdg ?_
    exact rtg [.cell 2 49, .tmp 3] f
theorem V5 (a0 : ZB) : Sa 254 [a0.row] [(Qm a0).1.row, rB (Qm a0).2] := by
 have f := me (Qm.eq_1 a0)
 refine so Tryz.func254 Tryz.ntmps254 ?_
 refine dIs mixed ?_
 refine cRs (Kk a0) ?_
 refine gIf ?_ ?_ <;> intro G
 ·have g1x := G
  have g1 := G; try simp at g1
  have i1 : 5 < a0.Zb.length := by (have z := ZW a0; simp_all; done)
  simp [i1, ZA, G]
  repeat with_reducible refine sdg ?_
  refine cK f ?_ ?_ <;> intro k2 h1 f
  ·try (simp [G] at h1; done)
   all_goals
    exact rtg [.cell 2 269, .tmp 3] f
  ·try (simp [G] at h1; done)
   all_goals
    refine dIo mixed ?_
    have i2 : 1 < a0.Zb.length := by (have z := ZW a0; simp_all; done)
    have i3 : 2 < a0.Zb.length := by (have z := ZW a0; simp_all; done)
    have i4 : 3 < a0.Zb.length := by (have z := ZW a0; simp_all; done)
    have i5 : 4 < a0.Zb.length := by (have z := ZW a0; simp_all; done)
    simp [i2, ZA, i3, i4, i5, i1, G]
    repeat with_reducible refine sdg ?_
    exact rtg [.cell 2 269, .tmp 3] f
 ·have g1x := G
  refine cK f ?_ ?_ <;> intro k4 h2 f
  ·try (simp [G] at h2; done)
   all_goals
    exact rtg [.cell 2 269, .tmp 3] f
  ·try (simp [G] at h2; done)
   all_goals
    refine dIo mixed ?_
    have i7 : 1 < a0.Zb.length := by (have z := ZW a0; simp_all; done)
    have i8 : 2 < a0.Zb.length := by (have z := ZW a0; simp_all; done)
    have i9 : 3 < a0.Zb.length := by (have z := ZW a0; simp_all; done)
    have i10 : 4 < a0.Zb.length := by (have z := ZW a0; simp_all; done)
    have i11 : 5 < a0.Zb.length := by (have z := ZW a0; simp_all; done)
    simp [i7, ZA, i8, i9, i10, i11, G]
    repeat with_reducible refine sdg ?_
    exact rtg [.cell 2 269, .tmp 3] f
theorem Gf (a0 : ZB) : Sa 334 [a0.row] [rB (SJ a0)] := by
 have f := me (SJ.eq_1 a0)
 refine so Tryz.func334 Tryz.ntmps334 ?_
 refine cRs (RE a0) ?_
 refine cRs (TA a0) ?_
 refine cRs (Lo a0) ?_
 refine cRs (Iq a0) ?_
 refine cRs (V5 a0) ?_
 exact rt [.tmp 2] f
theorem Le (a0 : List Zy) (a1 : ZB) (u0 : Sm 2318336 a0) (u1 : Sm 2318336 a1) : Sa 293 [rL 5 Zy.row a0, a1.row] [rB (xU a0 a1)] := by
 have f := me (xU.eq_1 a0 a1)
 refine so Tryz.func293 Tryz.ntmps293 ?_
 refine cRs (Gf a1) ?_
 refine cGs (fun gg => (jI a0 a1.Key a1.Zb a1.Mark (sg u0) (sg (ZB.Wl u1)))) ?_
 exact rt [.tmp 4] f
theorem Hy (a0 : ZH) (a1 : ZI) (a2 : List (List Int)) (a3 : ZB) (u0 : Sm 2289664 a0) (u1 : Sm 2289664 a1) (u2 : Sm 2289664 a2) (u3 : Sm 2289664 a3) : Sa 242 [a0.row, a1.row, rL 1 (slR 1 iR) a2, a3.row] [rB (ku a0 a1 a2 a3)] := by
 have f := me (ku.eq_1 a0 a1 a2 a3)
 refine so Tryz.func242 Tryz.ntmps242 ?_
 refine cRs (KP a0.Yb a3.Key) ?_
 refine dIs mixed ?_
 refine cGs (fun gg => (Le a0.Yb a3 (sg (ZH.YL u0)) (sg u3))) ?_
 refine cGs (fun gg => (VV a0 a1 a2 a3 (sg u0) (sg u1) (sg u2) (sg u3))) ?_
 refine gIf ?_ ?_ <;> intro G
 ·have i1 : (Yc a0.Yb a3.Key).toNat < a0.Yb.length := by have := JK a0.Yb a3.Key; exact il
  simp [i1, ZA, G]
  repeat with_reducible refine sdg ?_
  refine cGg (fun gg => (jB a0.Methods (nth a0.Yb (Yc a0.Yb a3.Key).toNat).Method)) ?_
  exact rtg [.tmp 8] f
 ·refine sGo ?_
  simp [G]
  repeat with_reducible refine sdg ?_
  exact rtg [.tmp 8] f
theorem MI (a0 : ZB) (a1 : ZB) : Sa 294 [a0.row, a1.row] [rB (xv a0 a1)] := by
 have f := me (xv.eq_1 a0 a1)
 refine so Tryz.func294 Tryz.ntmps294 ?_
 refine lp1 (z9.eq_2 a0 a1) (fun v1_0 => Z9 71 [eX 2 (a0.row.map .d), eX 3 (a1.row.map .d), eI 5 (↑v1_0 : Int)]) (fun n1 v1_0 => a0.Zb.length < n1 + v1_0 ∧ v1_0 ≤ a0.Zb.length) (a0.Zb.length + 1) 0 (fun p1 v1_0 e1 j1 => ?_)
 refine cF e1 ?_ ?_ <;> intro k2 h1 e1
 ·have i1 : v1_0 < a0.Zb.length := by (simp at h1; omega)
  have m2 := ml a0.Zb (k2 8 _ rfl)
  have w1 := wr v1_0
  refine dIo mixed ?_
  have i2 := ik v1_0 a1.Zb
  simp [i1, ZA, i2]
  repeat with_reducible refine sd ?_
  refine cF e1 ?_ ?_ <;> intro k4 h2 e1
  ·refine okD fun k5 => ?_
   refine dIo mixed ?_
   have f := ms f e1
   simp [i1, ZA, i2]
   repeat with_reducible refine sd ?_
   exact rt [.tmp 4] f
  exact ny1 w1 e1
 have f := ms f e1
 refine cF f ?_ ?_ <;> intro k6 h3 f
 ·exact rt [.tmp 4] f
 refine cF f ?_ ?_ <;> intro k7 h4 f
 ·exact rt [.tmp 4] f
 exact rt [.tmp 4] f
theorem Cd (a0 : List ZB) (a1 : ZB) (u0 : Sm 2334720 a0) (u1 : Sm 2334720 a1) : Sa 243 [rL 3 ZB.row a0, a1.row] [rL 3 ZB.row (z8 a0 a1)] := by
 have f := me (z8.eq_1 a0 a1)
 refine so Tryz.func243 Tryz.ntmps243 ?_
 refine lp1 (X4.eq_2 a0 a1) (fun v1_0 => Z9 46 [eL 0 3 a0 ZB.row, eX 3 (a1.row.map .d), eI 5 (↑v1_0 : Int)]) (fun n1 v1_0 => a0.length < n1 + v1_0 ∧ v1_0 ≤ a0.length) (a0.length + 1) 0 (fun p1 v1_0 e1 j1 => ?_)
 refine dIs mixed ?_
 refine gIf ?_ ?_ <;> intro G
 ·have i1 := ik v1_0 a0
  simp [i1, ZA, G]
  repeat with_reducible refine sdg ?_
  refine cGg (fun gg => (MI (nth a0 v1_0) a1)) ?_
  refine cK e1 ?_ ?_ <;> intro k3 h1 e1
  ·try (simp [G] at h1; done)
   all_goals
    have i2 : v1_0 < a0.length := by (simp at h1; omega)
    have m2 := ml a0 (k3 0 _ rfl)
    have c1 := sl 2334720 a0 (an u0 u1)
    have w1 := wr v1_0
    exact ny1 (an w1 G) e1
  ·try (simp [G] at h1; done)
   all_goals
    have c2 := sl 2334720 a0 (an u0 u1)
    have f := ms f e1
    refine dIg mixed ?_
    refine gJf G ?_ ?_ <;> intro G
    ·try (simp at G; done)
     all_goals
      simp [i1, ZA, G]
      repeat with_reducible refine sdg ?_
      refine cGg (fun gg => (Ks (nth a0 v1_0) a1)) ?_
      refine cK f ?_ ?_ <;> intro k5 h2 f
      ·try (simp [G] at h2; done)
       all_goals
        exact rtg [.tmp 4] f
      ·try (simp [G] at h2; done)
       all_goals
        refine dIg mixed ?_
        refine eIg ?_
        have c3 := sl 2334720 (a0.take v1_0) (an u0 u1)
        refine eIg ?_
        refine cRg (YZ.rd (xo a1 (sg u1))) ?_
        refine eIg ?_
        refine eIg ?_
        have c4 := sl 2334720 (a0.drop v1_0) (an u0 u1)
        refine eIg ?_
        exact rtg [.tmp 4] f
    ·try (simp at G; done)
     all_goals
      refine sGo ?_
      simp [G]
      repeat with_reducible refine sdg ?_
      refine cK f ?_ ?_ <;> intro k7 h3 f
      ·try (simp [G] at h3; done)
       all_goals
        exact rtg [.tmp 4] f
      ·try (simp [G] at h3; done)
       all_goals
        refine dIg mixed ?_
        refine eIg ?_
        have c5 := sl 2334720 (a0.take v1_0) (an u0 u1)
        refine eIg ?_
        refine cRg (YZ.rd (xo a1 (sg u1))) ?_
        refine eIg ?_
        refine eIg ?_
        have c6 := sl 2334720 (a0.drop v1_0) (an u0 u1)
        refine eIg ?_
        exact rtg [.tmp 4] f
 ·refine sGo ?_
  simp [G]
  repeat with_reducible refine sdg ?_
  refine cK e1 ?_ ?_ <;> intro k9 h4 e1
  ·try (simp [G] at h4; done)
   all_goals
    have i4 : v1_0 < a0.length := by (simp at h4; omega)
    have m4 := ml a0 (k9 0 _ rfl)
    have c7 := sl 2334720 a0 (an u0 u1)
    have w2 := wr v1_0
    exact ny1 (an w2 G) e1
  ·try (simp [G] at h4; done)
   all_goals
    have c8 := sl 2334720 a0 (an u0 u1)
    have f := ms f e1
    refine dIg mixed ?_
    refine gJf G ?_ ?_ <;> intro G
    ·try (simp at G; done)
     all_goals
      have i5 := ik v1_0 a0
      simp [i5, ZA, G]
      repeat with_reducible refine sdg ?_
      refine cGg (fun gg => (Ks (nth a0 v1_0) a1)) ?_
      refine cK f ?_ ?_ <;> intro k11 h5 f
      ·try (simp [G] at h5; done)
       all_goals
        exact rtg [.tmp 4] f
      ·try (simp [G] at h5; done)
       all_goals
        refine dIg mixed ?_
        refine eIg ?_
        have c9 := sl 2334720 (a0.take v1_0) (an u0 u1)
        refine eIg ?_
        refine cRg (YZ.rd (xo a1 (sg u1))) ?_
        refine eIg ?_
        refine eIg ?_
        have c10 := sl 2334720 (a0.drop v1_0) (an u0 u1)
        refine eIg ?_
        exact rtg [.tmp 4] f
    ·try (simp at G; done)
     all_goals
      refine sGo ?_
      simp [G]
      repeat with_reducible refine sdg ?_
      refine cK f ?_ ?_ <;> intro k13 h6 f
      ·try (simp [G] at h6; done)
       all_goals
        exact rtg [.tmp 4] f
      ·try (simp [G] at h6; done)
       all_goals
        refine dIg mixed ?_
        refine eIg ?_
        have c11 := sl 2334720 (a0.take v1_0) (an u0 u1)
        refine eIg ?_
        refine cRg (YZ.rd (xo a1 (sg u1))) ?_
        refine eIg ?_
        refine eIg ?_
        have c12 := sl 2334720 (a0.drop v1_0) (an u0 u1)
        refine eIg ?_
        exact rtg [.tmp 4] f
theorem NA (a0 : ZH) (a1 : ZI) (a2 : List (List Int)) (u0 : Sm 2285568 a0) (u1 : Sm 2285568 a1) (u2 : Sm 2285568 a2) (u3 : CC a1 ≤ 2097152) : Sa 177 [a0.row, a1.row, rL 1 (slR 1 iR) a2] [rL 3 ZB.row (Zl a0 a1 a2)] := by
 have f := me (Zl.eq_1 a0 a1 a2)
 refine so Tryz.func177 Tryz.ntmps177 ?_
 refine eIs ?_
 refine lp2 (QN.eq_2 a0 a1 a2) (fun v1_0 v1_1 => Z9 48 [eL 2 1 a2 (slR 1 iR), eX 3 (a0.row.map .d), eX 4 (a1.row.map .d), eL 7 3 v1_0 ZB.row, eI 8 (↑v1_1 : Int)]) (fun n1 v1_0 v1_1 => a1.ZL.length < n1 + v1_1 ∧ v1_1 ≤ a1.ZL.length ∧ v1_0.length + cnL (fun s : ZK => s.ZT.length) (a1.ZL.drop v1_1) ≤ 2097152 ∧ Sm 2285568 v1_0) (a1.ZL.length + 1) ([] : List ZB) 0 (fun p1 v1_0 v1_1 e1 j1 => ?_) (hI := by (have u : cnL (fun s : ZK => s.ZT.length) a1.ZL ≤ 2097152 := u3; (try dsimp only); refine ⟨by omega, by omega, by omega, ?_, ⟨Nat.zero_le _, fun x hx => by cases hx⟩⟩; rw [List.drop_zero]; simp only [List.length_nil]; omega)) (h0 := YI [] [(11, 0)] rfl (by simp))
 try dsimp only at j1
 refine cF e1 ?_ ?_ <;> intro k2 h1 e1
 ·have i1 := ix h1
  have m2 := ml a1.ZL (k2 14 _ rfl)
  have c1 := sl 2285568 a1.ZL (an u0 (an u1 (an u2 u3)))
  have w1 := wr v1_1
  refine sF (XN.eq_2 a0 a1 a2 v1_1) (fun v2_0 v2_1 => Z9 48 [eL 2 1 a2 (slR 1 iR), eX 3 (a0.row.map .d), eX 4 (a1.row.map .d), eL 7 3 v2_0 ZB.row, eI 8 (↑v1_1 : Int), eI 9 (↑v2_1 : Int)]) (fun n2 v2_0 v2_1 => (nth a1.ZL v1_1).ZT.length < n2 + v2_1 ∧ v2_1 ≤ (nth a1.ZL v1_1).ZT.length ∧ v2_0.length + ((nth a1.ZL v1_1).ZT.length - v2_1) + cnL (fun s : ZK => s.ZT.length) (a1.ZL.drop (v1_1 + 1)) ≤ 2097152 ∧ Sm 2285568 v2_0) ((nth a1.ZL v1_1).ZT.length + 1) v1_0 0 (fun p2 v2_0 v2_1 e2 j2 => ?_) (hI := by (have d := IL (l := a1.ZL) (i := v1_1) (by first | omega | (simp at *; omega)); refine ⟨?_, ?_, ?_, ?_, j1.2.2.2.2⟩ <;> ((try dsimp only); omega)))
  try dsimp only at j2
  simp [i1, ZA]
  repeat with_reducible refine sd ?_
  refine cFf e2 ?_ ?_ <;> intro k4 h2 e2
  ·have i2 := ix h2
   have m4 := ml (nth a1.ZL v1_1).ZT (k4 25 _ rfl)
   have c2 := sl 2285568 (nth a1.ZL v1_1).ZT (an u0 (an u1 (an u2 u3)))
   have w2 := wr v2_1
   simp [i1, ZA, i2]
   repeat with_reducible refine sd ?_
   refine cRs (Hy a0 a1 a2 (nth (nth a1.ZL v1_1).ZT v2_1) (by first | exact sg u0 | exact sg u1 | exact sg u2 | exact sg (Zx (ZK.Yh (Zx (ZI.YS u1))))) (by first | exact sg u0 | exact sg u1 | exact sg u2 | exact sg (Zx (ZK.Yh (Zx (ZI.YS u1))))) (by first | exact sg u0 | exact sg u1 | exact sg u2 | exact sg (Zx (ZK.Yh (Zx (ZI.YS u1))))) (by first | exact sg u0 | exact sg u1 | exact sg u2 | exact sg (Zx (ZK.Yh (Zx (ZI.YS u1)))))) ?_
   refine cF e2 ?_ ?_ <;> intro k5 h3 e2
   ·refine cRs (Cd v2_0 (nth (nth a1.ZL v1_1).ZT v2_1) (by first | exact sg j2.2.2.2.2 | exact sg (Zx (ZK.Yh (Zx (ZI.YS u1))))) (by first | exact sg j2.2.2.2.2 | exact sg (Zx (ZK.Yh (Zx (ZI.YS u1)))))) ?_
    exact ny2 (an w1 w2) e2 (hI := by first | (refine ⟨?_, ?_, ?_, ?_, j2.2.2.2.2⟩ <;> ((try dsimp only); omega)) | (have pk : Sm 2285568 (nth (nth a1.ZL v1_1).ZT v2_1) := Zx (ZK.Yh (Zx (ZI.YS u1))); have z := WX v2_0 (nth (nth a1.ZL v1_1).ZT v2_1); refine ⟨?_, ?_, ?_, ?_, S0 j2.2.2.2.2 pk (by omega)⟩ <;> ((try dsimp only); omega)))
   exact ny2 (an w1 w2) e2 (hI := by first | (refine ⟨?_, ?_, ?_, ?_, j2.2.2.2.2⟩ <;> ((try dsimp only); omega)) | (have pk : Sm 2285568 (nth (nth a1.ZL v1_1).ZT v2_1) := Zx (ZK.Yh (Zx (ZI.YS u1))); have z := WX v2_0 (nth (nth a1.ZL v1_1).ZT v2_1); refine ⟨?_, ?_, ?_, ?_, S0 j2.2.2.2.2 pk (by omega)⟩ <;> ((try dsimp only); omega)))
  have c3 := sl 2285568 (nth a1.ZL v1_1).ZT (an u0 (an u1 (an u2 u3)))
  have e1 := ms e1 e2
  exact ny2 w1 e1 (hI := by (refine ⟨?_, ?_, ?_, ?_, j2.2.2.2.2⟩ <;> ((try dsimp only); omega)))
 have c4 := sl 2285568 a1.ZL (an u0 (an u1 (an u2 u3)))
 have f := ms f e1
 exact rt [.tmp 6] f
theorem Ec (a0 : ZH) (a1 : List ZB) (a2 : ZY) (u0 : Sm 2314240 a0) (u1 : Sm 2314240 a1) : Sa 178 [a0.row, rL 3 ZB.row a1, a2.row] [(Xw a0 a1 a2).1.row, rB (Xw a0 a1 a2).2] := by
 have f := me (Xw.eq_1 a0 a1 a2)
 refine so Tryz.func178 Tryz.ntmps178 ?_
 refine lp9 (qR.eq_2 a0 a1 a2) (fun v1_0 v1_1 v1_2 v1_3 v1_4 v1_5 v1_6 v1_7 v1_8 => Z9 56 [eL 1 3 a1 ZB.row, eX 3 (a0.row.map .d), eX 5 (a2.row.map .d), (6, .one (.bptr 6 0), [.box [.d (.int .i64 0), .d (.int .i64 0), .d (.int .i64 0), .d (.int .i64 0), .d (.int .i64 0), .d (.int .i64 0), .d (.int .i64 0)]]), (8, .one (.bptr 8 0), [.box [.d (.int .i64 v1_2), .d (.int .i64 v1_3), .d (.int .i64 v1_4), .d (.int .i64 v1_5), .d (.int .i64 v1_6), .d (.int .i64 v1_7), .d (.int .i64 v1_8)]]), eI 9 v1_0, eI 10 (↑v1_1 : Int)]) (fun n1 v1_0 v1_1 v1_2 v1_3 v1_4 v1_5 v1_6 v1_7 v1_8 => a1.length < n1 + v1_1 ∧ v1_1 ≤ a1.length) (a1.length + 1) 0 0 0 0 0 0 0 0 0 (fun p1 v1_0 v1_1 v1_2 v1_3 v1_4 v1_5 v1_6 v1_7 v1_8 e1 j1 => ?_)
 refine cFf e1 ?_ ?_ <;> intro k2 h1 e1
 ·have i1 := ix h1
  have m2 := ml a1 (k2 1 _ rfl)
  have c1 := sl 2314240 a1 (an u0 u1)
  have w1 := wr v1_1
  simp [i1, ZA]
  repeat with_reducible refine sd ?_
  refine cRs (RE (nth a1 v1_1)) ?_
  refine cGs (fun gg => (RK a0.Yb (XA (nth a1 v1_1)).1 (sg (ZH.YL u0)))) ?_
  refine cF e1 ?_ ?_ <;> intro k3 h2 e1
  ·exact ny9 w1 e1
  exact ny9 w1 e1
 have c2 := sl 2314240 a1 (an u0 u1)
 have f := ms f e1
 refine cF f ?_ ?_ <;> intro k4 h3 f
 ·exact rt [.cell 6 168, .tmp 7] f
 exact rt [.cell 6 168, .tmp 7] f
theorem Vv (a0 : Int) (a1 : List ZZ) (u0 : Sm 2326528 a1) : Sa 245 [rI a0, rL 5 ZZ.row a1] [rI (Kq a0 a1)] := by
 have f := me (Kq.eq_1 a0 a1)
 refine so Tryz.func245 Tryz.ntmps245 ?_
 refine cF f ?_ ?_ <;> intro k1 h1 f
 ·exact rt [.tmp 4] f
 refine lp2 (Ky.eq_2 a1) (fun v1_0 v1_1 => Z9 29 [eI 0 a0, eL 1 5 a1 ZZ.row, (5, .one (.sref 5 0 0 v1_0.length), [.arr false 1 (v1_0.map iR)]), eI 6 (↑v1_1 : Int)]) (fun n1 v1_0 v1_1 => a1.length < n1 + v1_1 ∧ v1_1 ≤ a1.length ∧ v1_0.length ≤ 0 + 1 * v1_1) (a1.length + 1) ([] : List Int) 0 (fun p1 v1_0 v1_1 e1 j1 => ?_) (h0 := YI [((5, 0), some (10, 0))] [] rfl (by simp))
 refine cFf e1 ?_ ?_ <;> intro k3 h2 e1
 ·have i1 := ix h2
  have m2 := ml a1 (k3 1 _ rfl)
  have c1 := sl 2326528 a1 u0
  have w1 := wr v1_1
  simp [i1, ZA]
  repeat with_reducible refine sd ?_
  exact nx2 e1 (hw := YI [((5, 0), some (24, 0))] [] rfl (by simp [w1]))
 have c2 := sl 2326528 a1 u0
 have f := ms f e1
 refine cRs (JT a0 v1_0 (by first | (simp (maxDischargeDepth := 12) [XT]; omega) | (simp (maxDischargeDepth := 12) [Za (m := 68719476736) (by decide) u0]; done))) ?_
 refine cRs (XG 1 (QQ a0 v1_0)) ?_
 exact rt [.tmp 4] f
theorem SN (a0 : Int) (a1 : ZZ) : Sd 298 [rI a0, a1.row] [(zm a0 a1).row] := by
 have f := me (zm.eq_1 a0 a1)
 refine soD Tryz.func298 Tryz.ntmps298 ?_
 refine dIs mixed ?_
 refine cDs [false] (VJ a1) ?_
 exact rtD [.cell 4 194] f
theorem Mm (a0 : List ZB) (a1 : ZB) : Sa 297 [rL 3 ZB.row a0, a1.row] [rB (Rr a0 a1)] := by
 have f := me (Rr.eq_1 a0 a1)
 refine so Tryz.func297 Tryz.ntmps297 ?_
 refine lp1 (VE.eq_2 a0 a1) (fun v1_0 => Z9 18 [eL 0 3 a0 ZB.row, eX 3 (a1.row.map .d), eI 5 (↑v1_0 : Int)]) (fun n1 v1_0 => a0.length < n1 + v1_0 ∧ v1_0 ≤ a0.length) (a0.length + 1) 0 (fun p1 v1_0 e1 j1 => ?_)
 refine cF e1 ?_ ?_ <;> intro k2 h1 e1
 ·have i1 := ix h1
  have m2 := ml a0 (k2 0 _ rfl)
  have w1 := wr v1_0
  refine dIo mixed ?_
  simp [i1, ZA]
  repeat with_reducible refine sd ?_
  refine cRs (Ks (nth a0 v1_0) a1) ?_
  refine cF e1 ?_ ?_ <;> intro k4 h2 e1
  ·have f := ms f e1
   exact rt [.tmp 4] f
  exact ny1 w1 e1
 have f := ms f e1
 exact rt [.tmp 4] f
theorem PX (a0 : ZH) (a1 : List ZB) (a2 : List ZZ) (u0 : Sm 2318336 a0) (u1 : Sm 2318336 a1) (u2 : Sm 2318336 a2) : Sa 246 [a0.row, rL 3 ZB.row a1, rL 5 ZZ.row a2] [rI (Jr a0 a1 a2).1, rB (Jr a0 a1 a2).2] := by
 have f := me (Jr.eq_1 a0 a1 a2)
 refine so Tryz.func246 Tryz.ntmps246 ?_
 refine lp2 (jU.eq_2 a0 a1 a2) (fun v1_0 v1_1 => Z9 82 [eL 1 3 a1 ZB.row, eL 2 5 a2 ZZ.row, eX 3 (a0.row.map .d), (8, .one (.sref 8 0 0 v1_0.length), [.arr false 2 (v1_0.map ZD.row)]), eI 9 (↑v1_1 : Int)]) (fun n1 v1_0 v1_1 => a2.length < n1 + v1_1 ∧ v1_1 ≤ a2.length ∧ v1_0.length ≤ 0 + 1 * v1_1) (a2.length + 1) ([] : List ZD) 0 (fun p1 v1_0 v1_1 e1 j1 => ?_) (h0 := YI [((8, 0), some (14, 0))] [] rfl (by simp))
 refine cF e1 ?_ ?_ <;> intro k2 h1 e1
 ·have i1 := ix h1
  have m2 := ml a2 (k2 2 _ rfl)
  have c1 := sl 2318336 a2 (an u0 (an u1 u2))
  have w1 := wr v1_1
  refine dIo mixed ?_
  simp [i1, ZA]
  repeat with_reducible refine sd ?_
  refine cRs (Rm a0.ZU (nth a2 v1_1)) ?_
  refine dIs mixed ?_
  refine gIf ?_ ?_ <;> intro G
  ·have i2 := ik (v1_1 - 1) a2
   have w2 : IntKind.i64.wrap ((v1_1 : Int) - 1) = (v1_1 : Int) - 1 := YA (by omega) (by omega)
   simp [i2, ZA, w2, Y7, G]
   repeat with_reducible refine sdg ?_
   refine gK (fun _ => ?_)
   simp [i1, ZA, G]
   repeat with_reducible refine sdg ?_
   refine gJf G ?_ ?_ <;> intro G
   ·try (simp at G; done)
    all_goals
     simp [i1, ZA, G]
     repeat with_reducible refine sdg ?_
     refine cGg (fun gg => (UU a0.ZU (nth a2 v1_1))) ?_
     refine gK (fun _ => ?_)
     simp [i1, ZA, G]
     repeat with_reducible refine sdg ?_
     refine cGg (fun gg => YZ.rd (SN (Xf a0.ZU (nth a2 v1_1)) (nth a2 v1_1))) ?_
     refine cGg (fun gg => (Mm a1 (zm (Xf a0.ZU (nth a2 v1_1)) (nth a2 v1_1)))) ?_
     refine cK e1 ?_ ?_ <;> intro k5 h2 e1
     ·try (simp [G] at h2; done)
      all_goals
       have f := ms f e1
       exact rtg [.tmp 6, .tmp 7] f
     ·try (simp [G] at h2; done)
      all_goals
       exact nx2 e1 (hw := YI [((8, 0), some (71, 0))] [] rfl (by simp [w1, w2, G]))
   ·try (simp at G; done)
    all_goals
     refine sGo ?_
     simp [G]
     repeat with_reducible refine sdg ?_
     refine sGg ?_
     refine sGo ?_
     simp [G]
     repeat with_reducible refine sdg ?_
     refine sGo ?_
     simp [G]
     repeat with_reducible refine sdg ?_
     refine cK e1 ?_ ?_ <;> intro k6 h3 e1
     ·try (simp [G] at h3; done)
      all_goals
       have f := ms f e1
       exact rtg [.tmp 6, .tmp 7] f
     ·try (simp [G] at h3; done)
      all_goals
       exact nx2 e1 (hw := YI [((8, 0), some (71, 0))] [] rfl (by simp [w1, w2, G]))
  ·refine sGg ?_
   refine gJf G ?_ ?_ <;> intro G
   ·try (simp at G; done)
    all_goals
     simp [i1, ZA, G]
     repeat with_reducible refine sdg ?_
     refine cGg (fun gg => (UU a0.ZU (nth a2 v1_1))) ?_
     refine gK (fun _ => ?_)
     simp [i1, ZA, G]
     repeat with_reducible refine sdg ?_
     refine cGg (fun gg => YZ.rd (SN (Xf a0.ZU (nth a2 v1_1)) (nth a2 v1_1))) ?_
     refine cGg (fun gg => (Mm a1 (zm (Xf a0.ZU (nth a2 v1_1)) (nth a2 v1_1)))) ?_
     refine cK e1 ?_ ?_ <;> intro k7 h4 e1
     ·try (simp [G] at h4; done)
      all_goals
       have f := ms f e1
       exact rtg [.tmp 6, .tmp 7] f
     ·try (simp [G] at h4; done)
      all_goals
       exact nx2 e1 (hw := YI [((8, 0), some (71, 0))] [] rfl (by simp [w1, G]))
   ·try (simp at G; done)
    all_goals
     refine sGo ?_
     simp [G]
     repeat with_reducible refine sdg ?_
     refine sGg ?_
     refine sGo ?_
     simp [G]
     repeat with_reducible refine sdg ?_
     refine sGo ?_
     simp [G]
     repeat with_reducible refine sdg ?_
     refine cK e1 ?_ ?_ <;> intro k8 h5 e1
     ·try (simp [G] at h5; done)
      all_goals
       have f := ms f e1
       exact rtg [.tmp 6, .tmp 7] f
     ·try (simp [G] at h5; done)
      all_goals
       exact nx2 e1 (hw := YI [((8, 0), some (71, 0))] [] rfl (by simp [w1, G]))
 have c2 := sl 2318336 a2 (an u0 (an u1 u2))
 have f := ms f e1
 refine cRs (Sf v1_0 a0.QK (by first | (simp (maxDischargeDepth := 12) [XT]; omega) | (simp (maxDischargeDepth := 12) [Za (m := 2322432) (by decide) u0, Za (m := 2322432) (by decide) u1, Za (m := 2322432) (by decide) u2]; done))) ?_
 exact rt [.tmp 6, .tmp 7] f
theorem I3 (a0 : ZH) (a1 : ZI) (a2 : List ZB) (a3 : ZY) (u0 : Sm 2314240 a0) (u1 : Sm 2314240 a1) (u2 : Sm 2314240 a2) : Sa 179 [a0.row, a1.row, rL 3 ZB.row a2, a3.row] [rI (XW a0 a1 a2 a3)] := by
 have f := me (XW.eq_1 a0 a1 a2 a3)
 refine so Tryz.func179 Tryz.ntmps179 ?_
 refine cRs (KP a0.Yb a3.Key) ?_
 refine cFf f ?_ ?_ <;> intro k1 h1 f
 ·have i1 : (Yc a0.Yb a3.Key).toNat < a0.Yb.length := by have := JK a0.Yb a3.Key; exact il
  simp [i1, ZA]
  repeat with_reducible refine sd ?_
  refine lp2 (X3.eq_2 a0 a1 a2 a3) (fun v1_0 v1_1 => Z9 66 [eL 2 3 a2 ZB.row, eX 4 (a0.row.map .d), eX 5 (a1.row.map .d), eX 7 (a3.row.map .d), eI 9 v1_0, eI 11 (↑v1_1 : Int)]) (fun n1 v1_0 v1_1 => a1.Zp.length < n1 + v1_1 ∧ v1_1 ≤ a1.Zp.length) (a1.Zp.length + 1) (nth a0.Yb (Yc a0.Yb a3.Key).toNat).Nq 0 (fun p1 v1_0 v1_1 e1 j1 => ?_)
  refine cF e1 ?_ ?_ <;> intro k3 h2 e1
  ·have i2 : v1_1 < a1.Zp.length := by (simp at h2; omega)
   have m2 := ml a1.Zp (k3 29 _ rfl)
   have c1 := sl 2314240 a1.Zp (an u0 (an u1 u2))
   have w1 := wr v1_1
   refine dIo mixed ?_
   simp [i2, ZA]
   repeat with_reducible refine sd ?_
   refine cRs (Vv a3.Method (nth a1.Zp v1_1) (sg (Zx (ZI.jV u1)))) ?_
   refine cF e1 ?_ ?_ <;> intro k5 h3 e1
   ·exact ny2 w1 e1
   refine dIo mixed ?_
   simp [i2, ZA]
   repeat with_reducible refine sd ?_
   refine cRs (PX a0 a2 (nth a1.Zp v1_1) (sg u0) (sg u2) (sg (Zx (ZI.jV u1)))) ?_
   refine cF e1 ?_ ?_ <;> intro k7 h4 e1
   ·refine cRs (XG v1_0 (Jr a0 a2 (nth a1.Zp v1_1)).1) ?_
    exact ny2 w1 e1
   exact ny2 w1 e1
  have c2 := sl 2314240 a1.Zp (an u0 (an u1 u2))
  have f := ms f e1
  exact rt [.tmp 8] f
 refine lp2 (KT.eq_2 a0 a1 a2 a3) (fun v2_0 v2_1 => Z9 66 [eL 2 3 a2 ZB.row, eX 4 (a0.row.map .d), eX 5 (a1.row.map .d), eX 7 (a3.row.map .d), eI 9 v2_0, eI 11 (↑v2_1 : Int)]) (fun n2 v2_0 v2_1 => a1.Zp.length < n2 + v2_1 ∧ v2_1 ≤ a1.Zp.length) (a1.Zp.length + 1) 0 0 (fun p2 v2_0 v2_1 e2 j2 => ?_)
 refine cF e2 ?_ ?_ <;> intro k9 h5 e2
 ·have i3 : v2_1 < a1.Zp.length := by (simp at h5; omega)
  have m4 := ml a1.Zp (k9 29 _ rfl)
  have c3 := sl 2314240 a1.Zp (an u0 (an u1 u2))
  have w2 := wr v2_1
  refine dIo mixed ?_
  simp [i3, ZA]
  repeat with_reducible refine sd ?_
  refine cRs (Vv a3.Method (nth a1.Zp v2_1) (sg (Zx (ZI.jV u1)))) ?_
  refine cF e2 ?_ ?_ <;> intro k11 h6 e2
  ·exact ny2 w2 e2
  refine dIo mixed ?_
  simp [i3, ZA]
  repeat with_reducible refine sd ?_
  refine cRs (PX a0 a2 (nth a1.Zp v2_1) (sg u0) (sg u2) (sg (Zx (ZI.jV u1)))) ?_
  refine cF e2 ?_ ?_ <;> intro k13 h7 e2
  ·refine cRs (XG v2_0 (Jr a0 a2 (nth a1.Zp v2_1)).1) ?_
   exact ny2 w2 e2
  exact ny2 w2 e2
 have c4 := sl 2314240 a1.Zp (an u0 (an u1 u2))
 have f := ms f e2
 exact rt [.tmp 8] f
theorem MY (a0 : List ZB) (a1 : Zs) (u0 : Sm 2330624 a0) : Sd 180 [rL 3 ZB.row a0, a1.row] [rL 5 Zo.row (Qb a0 a1)] := by
 have f := me (Qb.eq_1 a0 a1)
 refine soD Tryz.func180 Tryz.ntmps180 ?_
 refine lp2 (Q7.eq_2 a0 a1) (fun v1_0 v1_1 => Z9 44 [eL 0 3 a0 ZB.row, eX 3 (a1.row.map .d), (5, .one (.sref 5 0 0 v1_0.length), [.arr false 5 (v1_0.map Zo.row)]), eI 6 (↑v1_1 : Int)]) (fun n1 v1_0 v1_1 => a0.length < n1 + v1_1 ∧ v1_1 ≤ a0.length ∧ v1_0.length ≤ 0 + 1 * v1_1) (a0.length + 1) ([] : List Zo) 0 (fun p1 v1_0 v1_1 e1 j1 => ?_) (h0 := YI [((5, 0), some (9, 0))] [] rfl (by simp))
 refine cFf e1 ?_ ?_ <;> intro k2 h1 e1
 ·have i1 := ix h1
  have m2 := ml a0 (k2 0 _ rfl)
  have c1 := sl 2330624 a0 u0
  have w1 := wr v1_1
  simp [i1, ZA]
  repeat with_reducible refine sd ?_
  refine cRs (TA (nth a0 v1_1)) ?_
  refine cF e1 ?_ ?_ <;> intro k3 h2 e1
  ·exact nx2 e1 (hw := YI [((5, 0), some (42, 0))] [] rfl (by simp [w1]))
  exact ny2 w1 e1
 have c2 := sl 2330624 a0 u0
 have f := ms f e1
 exact rtD [.tmp 4] f
theorem yY (a0 : List ZD) (a1 : Int) (a2 : Int) (u0 : Sm 2334720 a0) : HP Tryz.prog 303 2 (a0.map ZD.row) [rI a1, rI a2] ((Yv a0 a1 a2).map ZD.row) := by
 refine wk Tryz.func303 rfl (by kernel_rfl) (by simp [Kp]) ?_
 simp [Tryz.ntmps303]
 refine cR (xq a1 a2) ?_
 simp
 refine cC (!(XO a1 a2).2) (fun k1 h1 => ?_) (fun k1 h1 => ?_)
 ·have q1 := h1; try simp at q1
  simp
  refine pB (rv := [.tmp 6]) ((.sref 0 0 0 a0.length)) rfl ?_
  have f1 := Yv.eq_1 a0 a1 a2; simp only [h1, MH, Nu] at f1; simp [f1]
  all_goals ((rintro r (⟨a, _, rfl⟩ | rfl) x hx <;> simp at hx <;> rcases hx with rfl | rfl <;> rfl))
 ·have q1 := h1; try simp at q1
  have c1 : a0.length ≤ 2334720 := YH (by simp (maxDischargeDepth := 12) [u0])
  simp
  repeat with_reducible refine sd ?_
  refine pB (rv := [.tmp 6]) ((.sref 21 0 0 (a0 ++ ([(XO a1 a2).1] : List ZD)).length)) rfl ?_
  have f2 := Yv.eq_1 a0 a1 a2; simp only [h1, MH, Nu] at f2; simp [f2]
  all_goals ((rintro r (⟨a, _, rfl⟩ | rfl) x hx <;> simp at hx <;> rcases hx with rfl | rfl <;> rfl))
theorem WY (a0 : List Zo) (a1 : Int) : Sa 304 [rL 5 Zo.row a0, rI a1] [rI (QG a0 a1)] := by
 have f := me (QG.eq_1 a0 a1)
 refine so Tryz.func304 Tryz.ntmps304 ?_
 refine lp3 (ye.eq_2 a0 a1) (fun v1_0 v1_1 v1_2 => Z9 47 [eL 0 5 a0 Zo.row, eI 1 a1, eI 5 v1_0, eI 6 v1_1, eI 7 (↑v1_2 : Int)]) (fun n1 v1_0 v1_1 v1_2 => a0.length < n1 + v1_2 ∧ v1_2 ≤ a0.length) (a0.length + 1) (-1) (-1) 0 (fun p1 v1_0 v1_1 v1_2 e1 j1 => ?_)
 refine cFf e1 ?_ ?_ <;> intro k2 h1 e1
 ·have i1 := ix h1
  have m2 := ml a0 (k2 0 _ rfl)
  have w1 := wr v1_2
  simp [i1, ZA]
  repeat with_reducible refine sd ?_
  refine cFt e1 ?_ ?_ <;> intro k3 h2 e1
  ·exact ny3 w1 e1
  simp [i1, ZA]
  repeat with_reducible refine sd ?_
  refine cFo e1 ?_ ?_ <;> intro k4 h3 e1
  ·simp [i1, ZA]
   repeat with_reducible refine sd ?_
   refine cRs (XG v1_0 (nth a0 v1_2).YX) ?_
   exact ny3 w1 e1
  simp [i1, ZA]
  repeat with_reducible refine sd ?_
  refine cRs (XG v1_1 (nth a0 v1_2).Dg) ?_
  exact ny3 w1 e1
 have f := ms f e1
 refine cF f ?_ ?_ <;> intro k5 h4 f
 ·exact rt [.tmp 4] f
 refine cRs (XG v1_0 (W (v1_1 + 1))) ?_
 exact rt [.tmp 4] f
theorem Bp (a0 : List ZD) (a1 : ZD) (u0 : Sm 2338816 a0) : Sd 337 [rL 2 ZD.row a0, a1.row] [rL 2 ZD.row (Tg a0 a1)] := by
 have f := me (Tg.eq_1 a0 a1)
 refine soD Tryz.func337 Tryz.ntmps337 ?_
 refine lp4 (qL.eq_2 a0) (fun v1_0 v1_1 v1_2 v1_3 => Z9 78 [eL 0 2 a0 ZD.row, (3, .one (.bptr 3 0), [.box [.d (.int .i64 v1_2), .d (.int .i64 v1_3)]]), (5, .one (.sref 5 0 0 v1_0.length), [.arr false 2 (v1_0.map ZD.row)]), eI 6 (↑v1_1 : Int)]) (fun n1 v1_0 v1_1 v1_2 v1_3 => a0.length < n1 + v1_1 ∧ v1_1 ≤ a0.length ∧ v1_0.length ≤ 0 + 1 * v1_1) (a0.length + 1) ([] : List ZD) 0 a1.YE a1.To (fun p1 v1_0 v1_1 v1_2 v1_3 e1 j1 => ?_) (h0 := YI [((5, 0), some (9, 0))] [] rfl (by simp))
 refine cFf e1 ?_ ?_ <;> intro k2 h1 e1
 ·have i1 := ix h1
  have m2 := ml a0 (k2 0 _ rfl)
  have c1 := sl 2338816 a0 u0
  have w1 := wr v1_1
  simp [i1, ZA]
  repeat with_reducible refine sd ?_
  refine cF e1 ?_ ?_ <;> intro k3 h2 e1
  ·exact nx4 e1 (hw := YI [((5, 0), some (37, 0))] [] rfl (by simp [w1]))
  refine cRs (Uz v1_2 (nth a0 v1_1).YE) ?_
  refine cRs (XG v1_3 (nth a0 v1_1).To) ?_
  exact ny4 w1 e1
 have c2 := sl 2338816 a0 u0
 have f := ms f e1
 refine lp1 (TD.eq_2 v1_0 v1_2) (fun v2_0 => Z9 78 [(3, .one (.bptr 3 0), [.box [.d (.int .i64 v1_2), .d (.int .i64 v1_3)]]), (5, .one (.sref 5 0 0 v1_0.length), [.arr false 2 (v1_0.map ZD.row)]), eI 8 (↑v2_0 : Int)]) (fun n2 v2_0 => v1_0.length < n2 + v2_0 ∧ v2_0 ≤ v1_0.length) (v1_0.length + 1) 0 (fun p2 v2_0 e2 j2 => ?_)
 refine dIs mixed ?_
 refine gIf ?_ ?_ <;> intro G
 ·have i2 := ik v2_0 v1_0
  simp [i2, ZA, G]
  repeat with_reducible refine sdg ?_
  refine cK e2 ?_ ?_ <;> intro k6 h3 e2
  ·try (simp [G] at h3; done)
   all_goals
    have i3 : v2_0 < v1_0.length := by (simp at h3; omega)
    have m4 := ml v1_0 (k6 5 _ rfl)
    have w2 := wr v2_0
    exact ny1 (an w2 G) e2
  ·try (simp [G] at h3; done)
   all_goals
    have f := ms f e2
    refine dIg mixed ?_
    refine tN (rv := [.tmp 4]) rfl ?_
    simp [f.h, G]
    all_goals ((rintro r (hr | rfl | hr) x hx <;> (first | (simp at hx; rcases hx with rfl | rfl <;> rfl) | ((first | (replace hr := List.mem_of_mem_take hr) | (replace hr := List.mem_of_mem_drop hr)); simp at hr; obtain ⟨a, _, rfl⟩ := hr; simp at hx; rcases hx with rfl | rfl <;> rfl))))
 ·refine cK e2 ?_ ?_ <;> intro k8 h4 e2
  ·try (simp [G] at h4; done)
   all_goals
    have i5 : v2_0 < v1_0.length := by (simp at h4; omega)
    have m6 := ml v1_0 (k8 5 _ rfl)
    have w3 := wr v2_0
    exact ny1 (an w3 G) e2
  ·try (simp [G] at h4; done)
   all_goals
    have f := ms f e2
    refine dIg mixed ?_
    refine tN (rv := [.tmp 4]) rfl ?_
    simp [f.h, G]
    all_goals ((rintro r (hr | rfl | hr) x hx <;> (first | (simp at hx; rcases hx with rfl | rfl <;> rfl) | ((first | (replace hr := List.mem_of_mem_take hr) | (replace hr := List.mem_of_mem_drop hr)); simp at hr; obtain ⟨a, _, rfl⟩ := hr; simp at hx; rcases hx with rfl | rfl <;> rfl))))
theorem zp (a0 : List ZD) (u0 : Sm 2330624 a0) : Sd 301 [rL 2 ZD.row a0] [rL 2 ZD.row (XK a0)] := by
 have f := me (XK.eq_1 a0)
 refine soD Tryz.func301 Tryz.ntmps301 ?_
 refine lp2 (zQ.eq_2 a0) (fun v1_0 v1_1 => Z9 24 [eL 0 2 a0 ZD.row, (3, .one (.sref 3 0 0 v1_0.length), [.arr false 2 (v1_0.map ZD.row)]), eI 4 (↑v1_1 : Int)]) (fun n1 v1_0 v1_1 => a0.length < n1 + v1_1 ∧ v1_1 ≤ a0.length ∧ v1_0.length ≤ v1_1) (a0.length + 1) ([] : List ZD) 0 (fun p1 v1_0 v1_1 e1 j1 => ?_) (h0 := YI [((3, 0), some (5, 0))] [] rfl (by simp))
 try dsimp only at j1
 refine cFf e1 ?_ ?_ <;> intro k2 h1 e1
 ·have i1 := ix h1
  have m2 := ml a0 (k2 0 _ rfl)
  have c1 := sl 2330624 a0 u0
  have w1 := wr v1_1
  simp [i1, ZA]
  repeat with_reducible refine sd ?_
  refine cRs (XB (nth a0 v1_1)) ?_
  refine cFf e1 ?_ ?_ <;> intro k3 h2 e1
  ·simp [i1, ZA]
   repeat with_reducible refine sd ?_
   refine cDs [false] (Bp v1_0 (nth a0 v1_1) (by exact ⟨by have z := YH u0; omega, fun _ _ => trivial⟩)) ?_
   exact nx2 e1 (hI := by first | omega | (have z := Sr v1_0 (nth a0 v1_1); (try dsimp only); omega)) (hw := YI [((3, 0), some (22, 0))] [] rfl (by simp [w1]))
  exact ny2 w1 e1 (hI := by first | omega | (have z := Sr v1_0 (nth a0 v1_1); (try dsimp only); omega))
 have c2 := sl 2330624 a0 u0
 have f := ms f e1
 exact rtD [.tmp 2] f
theorem FF (a0 : Zs) (a1 : List Zo) (u0 : Sm 2326528 a1) : Sd 250 [a0.row, rL 5 Zo.row a1] [rL 2 ZD.row (yn a0 a1)] := by
 have f := me (yn.eq_1 a0 a1)
 refine soD Tryz.func250 Tryz.ntmps250 ?_
 refine cF f ?_ ?_ <;> intro k1 h1 f
 ·refine HJ (c := (.sref 6 0 0 0)) (L := [(6, 0)]) rfl rfl rfl rfl rfl rfl rfl (yY ([] : List ZD) 0 (W (a0.YE - 1)) (by (first | (exact ⟨Nat.zero_le _, fun _ _ => trivial⟩) | (refine ZJ (n := 2326528) ?_; exact ⟨Nat.zero_le _, fun _ _ => trivial⟩) | (refine ZJ (n := 2326528) (ZJ (n := 2326528 - 1) ?_); exact ⟨Nat.zero_le _, fun _ _ => trivial⟩) | (refine Za (n := 3) (by decide) (ZJ (ZJ (ZJ (n := 0) ?_))); exact ⟨Nat.zero_le _, fun _ _ => trivial⟩) | (refine Za (n := 2) (by decide) (ZJ (ZJ (n := 0) ?_)); exact ⟨Nat.zero_le _, fun _ _ => trivial⟩) | (refine Za (n := 1) (by decide) (ZJ (n := 0) ?_); exact ⟨Nat.zero_le _, fun _ _ => trivial⟩)))) (by simp) (by simp) (by simp) (by simp) (by simp) (by simp) (by simp) (by simp [Kp]) (by simp) ?_
  simp
  refine cF f ?_ ?_ <;> intro k2 h2 f
  ·refine HJ (c := (.sref 14 0 0 (Yv ([] : List ZD) 0 (W (a0.YE - 1))).length)) (L := [(14, 0)]) rfl rfl rfl rfl rfl rfl rfl (yY (Yv ([] : List ZD) 0 (W (a0.YE - 1))) (W (a0.To + 1)) 10000 (by (first | (exact ⟨Nat.zero_le _, fun _ _ => trivial⟩) | (refine ZJ (n := 2326528) ?_; exact ⟨Nat.zero_le _, fun _ _ => trivial⟩) | (refine ZJ (n := 2326528) (ZJ (n := 2326528 - 1) ?_); exact ⟨Nat.zero_le _, fun _ _ => trivial⟩) | (refine Za (n := 3) (by decide) (ZJ (ZJ (ZJ (n := 0) ?_))); exact ⟨Nat.zero_le _, fun _ _ => trivial⟩) | (refine Za (n := 2) (by decide) (ZJ (ZJ (n := 0) ?_)); exact ⟨Nat.zero_le _, fun _ _ => trivial⟩) | (refine Za (n := 1) (by decide) (ZJ (n := 0) ?_); exact ⟨Nat.zero_le _, fun _ _ => trivial⟩)))) (by simp) (by simp) (by simp) (by simp) (by simp) (by simp) (by simp) (by simp [Kp]) (by simp) ?_
   simp
   refine cRs (WY a1 a0.Z1) ?_
   refine HJ (c := (.sref 22 0 0 (Yv (Yv ([] : List ZD) 0 (W (a0.YE - 1))) (W (a0.To + 1)) 10000).length)) (L := [(22, 0)]) rfl rfl rfl rfl rfl rfl rfl (yY (Yv (Yv ([] : List ZD) 0 (W (a0.YE - 1))) (W (a0.To + 1)) 10000) (QG a1 a0.Z1) 10000 (by (first | (exact ⟨Nat.zero_le _, fun _ _ => trivial⟩) | (refine ZJ (n := 2326528) ?_; exact ⟨Nat.zero_le _, fun _ _ => trivial⟩) | (refine ZJ (n := 2326528) (ZJ (n := 2326528 - 1) ?_); exact ⟨Nat.zero_le _, fun _ _ => trivial⟩) | (refine Za (n := 3) (by decide) (ZJ (ZJ (ZJ (n := 0) ?_))); exact ⟨Nat.zero_le _, fun _ _ => trivial⟩) | (refine Za (n := 2) (by decide) (ZJ (ZJ (n := 0) ?_)); exact ⟨Nat.zero_le _, fun _ _ => trivial⟩) | (refine Za (n := 1) (by decide) (ZJ (n := 0) ?_); exact ⟨Nat.zero_le _, fun _ _ => trivial⟩)))) (by simp) (by simp) (by simp) (by simp) (by simp) (by simp) (by simp) (by simp [Kp]) (by simp) ?_
   simp
   refine cDs [false] (zp (Yv (Yv (Yv ([] : List ZD) 0 (W (a0.YE - 1))) (W (a0.To + 1)) 10000) (QG a1 a0.Z1) 10000) (by (first | (exact ⟨Nat.zero_le _, fun _ _ => trivial⟩) | (refine ZJ (n := 2326528) ?_; exact ⟨Nat.zero_le _, fun _ _ => trivial⟩) | (refine ZJ (n := 2326528) (ZJ (n := 2326528 - 1) ?_); exact ⟨Nat.zero_le _, fun _ _ => trivial⟩) | (refine Za (n := 3) (by decide) (ZJ (ZJ (ZJ (n := 0) ?_))); exact ⟨Nat.zero_le _, fun _ _ => trivial⟩) | (refine Za (n := 2) (by decide) (ZJ (ZJ (n := 0) ?_)); exact ⟨Nat.zero_le _, fun _ _ => trivial⟩) | (refine Za (n := 1) (by decide) (ZJ (n := 0) ?_); exact ⟨Nat.zero_le _, fun _ _ => trivial⟩)))) ?_
   exact rtD [.tmp 4] f
  refine cRs (WY a1 a0.Z1) ?_
  refine HJ (c := (.sref 14 0 0 (Yv ([] : List ZD) 0 (W (a0.YE - 1))).length)) (L := [(14, 0)]) rfl rfl rfl rfl rfl rfl rfl (yY (Yv ([] : List ZD) 0 (W (a0.YE - 1))) (QG a1 a0.Z1) 10000 (by (first | (exact ⟨Nat.zero_le _, fun _ _ => trivial⟩) | (refine ZJ (n := 2326528) ?_; exact ⟨Nat.zero_le _, fun _ _ => trivial⟩) | (refine ZJ (n := 2326528) (ZJ (n := 2326528 - 1) ?_); exact ⟨Nat.zero_le _, fun _ _ => trivial⟩) | (refine Za (n := 3) (by decide) (ZJ (ZJ (ZJ (n := 0) ?_))); exact ⟨Nat.zero_le _, fun _ _ => trivial⟩) | (refine Za (n := 2) (by decide) (ZJ (ZJ (n := 0) ?_)); exact ⟨Nat.zero_le _, fun _ _ => trivial⟩) | (refine Za (n := 1) (by decide) (ZJ (n := 0) ?_); exact ⟨Nat.zero_le _, fun _ _ => trivial⟩)))) (by simp) (by simp) (by simp) (by simp) (by simp) (by simp) (by simp) (by simp [Kp]) (by simp) ?_
  simp
  refine cDs [false] (zp (Yv (Yv ([] : List ZD) 0 (W (a0.YE - 1))) (QG a1 a0.Z1) 10000) (by (first | (exact ⟨Nat.zero_le _, fun _ _ => trivial⟩) | (refine ZJ (n := 2326528) ?_; exact ⟨Nat.zero_le _, fun _ _ => trivial⟩) | (refine ZJ (n := 2326528) (ZJ (n := 2326528 - 1) ?_); exact ⟨Nat.zero_le _, fun _ _ => trivial⟩) | (refine Za (n := 3) (by decide) (ZJ (ZJ (ZJ (n := 0) ?_))); exact ⟨Nat.zero_le _, fun _ _ => trivial⟩) | (refine Za (n := 2) (by decide) (ZJ (ZJ (n := 0) ?_)); exact ⟨Nat.zero_le _, fun _ _ => trivial⟩) | (refine Za (n := 1) (by decide) (ZJ (n := 0) ?_); exact ⟨Nat.zero_le _, fun _ _ => trivial⟩)))) ?_
  exact rtD [.tmp 4] f
 refine cF f ?_ ?_ <;> intro k3 h3 f
 ·refine HJ (c := (.sref 6 0 0 0)) (L := [(6, 0)]) rfl rfl rfl rfl rfl rfl rfl (yY ([] : List ZD) (W (a0.To + 1)) 10000 (by (first | (exact ⟨Nat.zero_le _, fun _ _ => trivial⟩) | (refine ZJ (n := 2326528) ?_; exact ⟨Nat.zero_le _, fun _ _ => trivial⟩) | (refine ZJ (n := 2326528) (ZJ (n := 2326528 - 1) ?_); exact ⟨Nat.zero_le _, fun _ _ => trivial⟩) | (refine Za (n := 3) (by decide) (ZJ (ZJ (ZJ (n := 0) ?_))); exact ⟨Nat.zero_le _, fun _ _ => trivial⟩) | (refine Za (n := 2) (by decide) (ZJ (ZJ (n := 0) ?_)); exact ⟨Nat.zero_le _, fun _ _ => trivial⟩) | (refine Za (n := 1) (by decide) (ZJ (n := 0) ?_); exact ⟨Nat.zero_le _, fun _ _ => trivial⟩)))) (by simp) (by simp) (by simp) (by simp) (by simp) (by simp) (by simp) (by simp [Kp]) (by simp) ?_
  simp
  refine cRs (WY a1 a0.Z1) ?_
  refine HJ (c := (.sref 22 0 0 (Yv ([] : List ZD) (W (a0.To + 1)) 10000).length)) (L := [(22, 0)]) rfl rfl rfl rfl rfl rfl rfl (yY (Yv ([] : List ZD) (W (a0.To + 1)) 10000) (QG a1 a0.Z1) 10000 (by (first | (exact ⟨Nat.zero_le _, fun _ _ => trivial⟩) | (refine ZJ (n := 2326528) ?_; exact ⟨Nat.zero_le _, fun _ _ => trivial⟩) | (refine ZJ (n := 2326528) (ZJ (n := 2326528 - 1) ?_); exact ⟨Nat.zero_le _, fun _ _ => trivial⟩) | (refine Za (n := 3) (by decide) (ZJ (ZJ (ZJ (n := 0) ?_))); exact ⟨Nat.zero_le _, fun _ _ => trivial⟩) | (refine Za (n := 2) (by decide) (ZJ (ZJ (n := 0) ?_)); exact ⟨Nat.zero_le _, fun _ _ => trivial⟩) | (refine Za (n := 1) (by decide) (ZJ (n := 0) ?_); exact ⟨Nat.zero_le _, fun _ _ => trivial⟩)))) (by simp) (by simp) (by simp) (by simp) (by simp) (by simp) (by simp) (by simp [Kp]) (by simp) ?_
  simp
  refine cDs [false] (zp (Yv (Yv ([] : List ZD) (W (a0.To + 1)) 10000) (QG a1 a0.Z1) 10000) (by (first | (exact ⟨Nat.zero_le _, fun _ _ => trivial⟩) | (refine ZJ (n := 2326528) ?_; exact ⟨Nat.zero_le _, fun _ _ => trivial⟩) | (refine ZJ (n := 2326528) (ZJ (n := 2326528 - 1) ?_); exact ⟨Nat.zero_le _, fun _ _ => trivial⟩) | (refine Za (n := 3) (by decide) (ZJ (ZJ (ZJ (n := 0) ?_))); exact ⟨Nat.zero_le _, fun _ _ => trivial⟩) | (refine Za (n := 2) (by decide) (ZJ (ZJ (n := 0) ?_)); exact ⟨Nat.zero_le _, fun _ _ => trivial⟩) | (refine Za (n := 1) (by decide) (ZJ (n := 0) ?_); exact ⟨Nat.zero_le _, fun _ _ => trivial⟩)))) ?_
  exact rtD [.tmp 4] f
 refine cRs (WY a1 a0.Z1) ?_
 refine HJ (c := (.sref 6 0 0 0)) (L := [(6, 0)]) rfl rfl rfl rfl rfl rfl rfl (yY ([] : List ZD) (QG a1 a0.Z1) 10000 (by (first | (exact ⟨Nat.zero_le _, fun _ _ => trivial⟩) | (refine ZJ (n := 2326528) ?_; exact ⟨Nat.zero_le _, fun _ _ => trivial⟩) | (refine ZJ (n := 2326528) (ZJ (n := 2326528 - 1) ?_); exact ⟨Nat.zero_le _, fun _ _ => trivial⟩) | (refine Za (n := 3) (by decide) (ZJ (ZJ (ZJ (n := 0) ?_))); exact ⟨Nat.zero_le _, fun _ _ => trivial⟩) | (refine Za (n := 2) (by decide) (ZJ (ZJ (n := 0) ?_)); exact ⟨Nat.zero_le _, fun _ _ => trivial⟩) | (refine Za (n := 1) (by decide) (ZJ (n := 0) ?_); exact ⟨Nat.zero_le _, fun _ _ => trivial⟩)))) (by simp) (by simp) (by simp) (by simp) (by simp) (by simp) (by simp) (by simp [Kp]) (by simp) ?_
 simp
 refine cDs [false] (zp (Yv ([] : List ZD) (QG a1 a0.Z1) 10000) (by (first | (exact ⟨Nat.zero_le _, fun _ _ => trivial⟩) | (refine ZJ (n := 2326528) ?_; exact ⟨Nat.zero_le _, fun _ _ => trivial⟩) | (refine ZJ (n := 2326528) (ZJ (n := 2326528 - 1) ?_); exact ⟨Nat.zero_le _, fun _ _ => trivial⟩) | (refine Za (n := 3) (by decide) (ZJ (ZJ (ZJ (n := 0) ?_))); exact ⟨Nat.zero_le _, fun _ _ => trivial⟩) | (refine Za (n := 2) (by decide) (ZJ (ZJ (n := 0) ?_)); exact ⟨Nat.zero_le _, fun _ _ => trivial⟩) | (refine Za (n := 1) (by decide) (ZJ (n := 0) ?_); exact ⟨Nat.zero_le _, fun _ _ => trivial⟩)))) ?_
 exact rtD [.tmp 4] f
theorem Gq (a0 : ZD) (a1 : ZD) : Sa 302 [a0.row, a1.row] [rB (VB a0 a1)] := by
 have f := me (VB.eq_1 a0 a1)
 refine so Tryz.func302 Tryz.ntmps302 ?_
 refine cRs (XB a0) ?_
 refine cGs (fun gg => (XB a1)) ?_
 exact rt [.tmp 4] f
theorem WQ (a0 : List ZD) (a1 : ZD) (u0 : Sm 2326528 a0) : Sa 249 [rL 2 ZD.row a0, a1.row] [rB (z1 a0 a1)] := by
 have f := me (z1.eq_1 a0 a1)
 refine so Tryz.func249 Tryz.ntmps249 ?_
 refine cRs (YZ.rd (zp a0 (sg u0))) ?_
 refine lp1 (yw.eq_2 a0 a1) (fun v1_0 => Z9 21 [eX 3 (a1.row.map .d), eL 5 2 (XK a0) ZD.row, eI 6 (↑v1_0 : Int)]) (fun n1 v1_0 => (XK a0).length < n1 + v1_0 ∧ v1_0 ≤ (XK a0).length) ((XK a0).length + 1) 0 (fun p1 v1_0 e1 j1 => ?_)
 refine cF e1 ?_ ?_ <;> intro k2 h1 e1
 ·have i1 := ix h1
  have m2 := ml (XK a0) (k2 5 _ rfl)
  have w1 := wr v1_0
  refine dIo mixed ?_
  simp [i1, ZA]
  repeat with_reducible refine sd ?_
  refine cRs (Gq a1 (nth (XK a0) v1_0)) ?_
  refine cF e1 ?_ ?_ <;> intro k4 h2 e1
  ·have f := ms f e1
   exact rt [.tmp 4] f
  exact ny1 w1 e1
 have f := ms f e1
 exact rt [.tmp 4] f
theorem FX (a0 : Zs) (a1 : List Zo) (a2 : ZD) (u0 : Sm 2322432 a1) : Sa 181 [a0.row, rL 5 Zo.row a1, a2.row] [rB (VL a0 a1 a2)] := by
 have f := me (VL.eq_1 a0 a1 a2)
 refine so Tryz.func181 Tryz.ntmps181 ?_
 refine dIs mixed ?_
 refine cRs (YZ.rd (FF a0 a1 (sg u0))) ?_
 refine cRs (WQ (yn a0 a1) a2 (by exact Gt (by decide))) ?_
 exact rt [.tmp 6] f
theorem GD (a0 : List Zo) (a1 : Int) : Sa 305 [rL 5 Zo.row a0, rI a1] [rI (KB a0 a1)] := by
 have f := me (KB.eq_1 a0 a1)
 refine so Tryz.func305 Tryz.ntmps305 ?_
 refine lp3 (JS.eq_2 a0 a1) (fun v1_0 v1_1 v1_2 => Z9 55 [eL 0 5 a0 Zo.row, eI 1 a1, eI 5 v1_0, eI 6 v1_1, eI 7 (↑v1_2 : Int)]) (fun n1 v1_0 v1_1 v1_2 => a0.length < n1 + v1_2 ∧ v1_2 ≤ a0.length) (a0.length + 1) (-1) (-1) 0 (fun p1 v1_0 v1_1 v1_2 e1 j1 => ?_)
 refine cFf e1 ?_ ?_ <;> intro k2 h1 e1
 ·have i1 := ix h1
  have m2 := ml a0 (k2 0 _ rfl)
  have w1 := wr v1_2
  simp [i1, ZA]
  repeat with_reducible refine sd ?_
  refine cFt e1 ?_ ?_ <;> intro k3 h2 e1
  ·exact ny3 w1 e1
  simp [i1, ZA]
  repeat with_reducible refine sd ?_
  refine cFf e1 ?_ ?_ <;> intro k4 h3 e1
  ·simp [i1, ZA]
   repeat with_reducible refine sd ?_
   refine cRs (XG v1_1 (nth a0 v1_2).Dg) ?_
   exact ny3 w1 e1
  refine gIf ?_ ?_ <;> intro G
  ·simp [i1, ZA, G]
   repeat with_reducible refine sdg ?_
   refine cKf e1 ?_ ?_ <;> intro k5 h4 e1
   ·try (simp [G] at h4; done)
    all_goals
     simp [i1, ZA, G]
     repeat with_reducible refine sdg ?_
     exact ny3 (an w1 G) e1
   ·try (simp [G] at h4; done)
    all_goals
     exact ny3 (an w1 G) e1
  ·refine cKf e1 ?_ ?_ <;> intro k6 h5 e1
   ·try (simp [G] at h5; done)
    all_goals
     simp [i1, ZA, G]
     repeat with_reducible refine sdg ?_
     exact ny3 (an w1 G) e1
   ·try (simp [G] at h5; done)
    all_goals
     exact ny3 (an w1 G) e1
 have f := ms f e1
 refine cF f ?_ ?_ <;> intro k7 h6 f
 ·exact rt [.tmp 4] f
 exact rt [.tmp 4] f
theorem HQ (a0 : ZD) (a1 : ZD) : Sa 338 [a0.row, a1.row] [(J5 a0 a1).1.row, rB (J5 a0 a1).2] := by
 have f := me (J5.eq_1 a0 a1)
 refine so Tryz.func338 Tryz.ntmps338 ?_
 refine cRs (XB a0) ?_
 refine cGs (fun gg => (XB a1)) ?_
 refine cF f ?_ ?_ <;> intro k1 h1 f
 ·exact rt [.cell 4 77, .tmp 5] f
 refine dIs mixed ?_
 refine cRs (XG a0.YE a1.YE) ?_
 refine cRs (Uz a0.To a1.To) ?_
 refine cRs (xq (yH a0.YE a1.YE) (VQ a0.To a1.To)) ?_
 exact rt [.cell 4 77, .tmp 5] f
theorem O9 {a b : Prop} (h : b) (k : a := by (intros; first | omega | with_unfolding_all (first | (first | omega | (simp at *; omega))) | ((try simp only [Qv, show ∀ x, IntKind.i64.wrap x = W x from fun _ => rfl] at *); omega))) : a ∧ b := ⟨k, h⟩
theorem DB (a0 : List ZD) (a1 : List ZD) (u0 : Sm 2326528 a0) (u1 : Sm 2326528 a1) (u2 : a0.length ≤ 1 ∧ a1.length ≤ 1) : Sd 307 [rL 2 ZD.row a0, rL 2 ZD.row a1] [rL 2 ZD.row (Wu a0 a1)] := by
 have f := me (Wu.eq_1 a0 a1)
 refine soD Tryz.func307 Tryz.ntmps307 ?_
 refine lp2 (ka.eq_2 a0 a1) (fun v1_0 v1_1 => Z9 42 [eL 0 2 a0 ZD.row, eL 1 2 a1 ZD.row, (5, .one (.sref 5 0 0 v1_0.length), [.arr false 2 (v1_0.map ZD.row)]), eI 6 (↑v1_1 : Int)]) (fun n1 v1_0 v1_1 => a0.length < n1 + v1_1 ∧ v1_1 ≤ a0.length ∧ v1_0.length ≤ v1_1) (a0.length + 1) ([] : List ZD) 0 (fun p1 v1_0 v1_1 e1 j1 => ?_) (h0 := YI [((5, 0), some (10, 0))] [] rfl (by simp))
 try dsimp only at j1
 refine cF e1 ?_ ?_ <;> intro k2 h1 e1
 ·have i1 := ix h1
  have m2 := ml a0 (k2 0 _ rfl)
  have c1 := sl 2326528 a0 (an u0 (an u1 u2))
  have w1 := wr v1_1
  refine lp2 (qe.eq_2 a0 a1 v1_1) (fun v2_0 v2_1 => Z9 42 [eL 0 2 a0 ZD.row, eL 1 2 a1 ZD.row, (5, .one (.sref 5 0 0 v2_0.length), [.arr false 2 (v2_0.map ZD.row)]), eI 6 (↑v1_1 : Int), eI 7 (↑v2_1 : Int)]) (fun n2 v2_0 v2_1 => a1.length < n2 + v2_1 ∧ v2_1 ≤ a1.length ∧ v2_0.length ≤ v1_1 + v2_1) (a1.length + 1) v1_0 0 (fun p2 v2_0 v2_1 e2 j2 => ?_)
  try dsimp only at j2
  refine cF e2 ?_ ?_ <;> intro k4 h2 e2
  ·have i2 := ix h2
   have m4 := ml a1 (k4 1 _ rfl)
   have c2 := sl 2326528 a1 (an u0 (an u1 u2))
   have w2 := wr v2_1
   refine dIo mixed ?_
   simp [i1, ZA, i2]
   repeat with_reducible refine O9 ?_
   refine cRs (HQ (nth a0 v1_1) (nth a1 v2_1)) ?_
   refine cFf e2 ?_ ?_ <;> intro k6 h3 e2
   ·simp
    repeat with_reducible refine O9 ?_
    exact nx2 e2 (hI := by first | omega | (simp at *; omega)) (hw := YI [((5, 0), some (39, 0))] [] rfl (by simp [w1, w2]))
   exact ny2 (an w1 w2) e2 (hI := by first | omega | (simp at *; omega))
  have c3 := sl 2326528 a1 (an u0 (an u1 u2))
  have e1 := ms e1 e2
  exact ny2 w1 e1
 have c4 := sl 2326528 a0 (an u0 (an u1 u2))
 have f := ms f e1
 refine cDs [false] (zp v1_0 (by exact ⟨by omega, fun _ _ => trivial⟩)) ?_
 exact rtD [.tmp 4] f
theorem HU (a0 : Zs) (a1 : List Zo) (u0 : Sm 2322432 a1) : Sd 251 [a0.row, rL 5 Zo.row a1] [rL 2 ZD.row (zY a0 a1)] := by
 have f := me (zY.eq_1 a0 a1)
 refine soD Tryz.func251 Tryz.ntmps251 ?_
 refine cRs (GD a1 a0.Z1) ?_
 refine cRs (xq 0 (KB a1 a0.Z1)) ?_
 refine cF f ?_ ?_ <;> intro k1 h1 f
 ·exact rtD [.tmp 4] f
 refine dIs mixed ?_
 refine cRs (Pd a0) ?_
 refine cDs [false] (DB ([(yf a0)] : List ZD) ([(XO 0 (KB a1 a0.Z1)).1] : List ZD) (by simp (maxDischargeDepth := 12) [JX, XT, Za (m := 2326528) (by decide) u0]; try omega) (by simp (maxDischargeDepth := 12) [JX, XT, Za (m := 2326528) (by decide) u0]; try omega) (by exact ⟨Nat.le_refl _, Nat.le_refl _⟩)) ?_
 exact rtD [.tmp 4] f
theorem IA (a0 : Zs) (a1 : List Zo) (a2 : ZD) (u0 : Sm 2318336 a1) : Sa 182 [a0.row, rL 5 Zo.row a1, a2.row] [rB (jR a0 a1 a2)] := by
 have f := me (jR.eq_1 a0 a1 a2)
 refine so Tryz.func182 Tryz.ntmps182 ?_
 refine dIs mixed ?_
 refine cRs (YZ.rd (HU a0 a1 (sg u0))) ?_
 refine cRs (WQ (zY a0 a1) a2 (by exact Hs (by decide))) ?_
 exact rt [.tmp 6] f
theorem Lx (a0 : List ZB) (u0 : Sm 2330624 a0) : Sd 184 [rL 3 ZB.row a0] [rL 6 Zr.row (z3 a0)] := by
 have f := me (z3.eq_1 a0)
 refine soD Tryz.func184 Tryz.ntmps184 ?_
 refine lp2 (Js.eq_2 a0) (fun v1_0 v1_1 => Z9 28 [eL 0 3 a0 ZB.row, (3, .one (.sref 3 0 0 v1_0.length), [.arr false 6 (v1_0.map Zr.row)]), eI 4 (↑v1_1 : Int)]) (fun n1 v1_0 v1_1 => a0.length < n1 + v1_1 ∧ v1_1 ≤ a0.length ∧ v1_0.length ≤ 0 + 1 * v1_1) (a0.length + 1) ([] : List Zr) 0 (fun p1 v1_0 v1_1 e1 j1 => ?_) (h0 := YI [((3, 0), some (7, 0))] [] rfl (by simp))
 refine cFf e1 ?_ ?_ <;> intro k2 h1 e1
 ·have i1 := ix h1
  have m2 := ml a0 (k2 0 _ rfl)
  have c1 := sl 2330624 a0 u0
  have w1 := wr v1_1
  simp [i1, ZA]
  repeat with_reducible refine sd ?_
  refine cRs (V5 (nth a0 v1_1)) ?_
  refine cF e1 ?_ ?_ <;> intro k3 h2 e1
  ·exact nx2 e1 (hw := YI [((3, 0), some (26, 0))] [] rfl (by simp [w1]))
  exact ny2 w1 e1
 have c2 := sl 2330624 a0 u0
 have f := ms f e1
 exact rtD [.tmp 2] f
theorem HC (a0 : Zr) : Sa 339 [a0.row] [rB (kX a0)] := by
 have f := me (kX.eq_1 a0)
 refine so Tryz.func339 Tryz.ntmps339 ?_
 refine cRs (YD a0.Org 1 99) ?_
 refine cGs (fun gg => (YD a0.W8 0 99)) ?_
 refine cGs (fun gg => (YD a0.Key 1 99)) ?_
 refine cGs (fun gg => (XB (ZD.mk a0.YE a0.To))) ?_
 exact rt [.tmp 2] f
theorem MT (a0 : Zr) : Sd 340 [a0.row] [rL 1 iR (Qh a0)] := by
 have f := me (Qh.eq_1 a0)
 refine soD Tryz.func340 Tryz.ntmps340 ?_
 exact rtD [.tmp 2] f
theorem V0 (a0 : List Zy) (a1 : Zr) (u0 : Sm 2318336 a0) : Sa 308 [rL 5 Zy.row a0, a1.row] [rB (ya a0 a1)] := by
 have f := me (ya.eq_1 a0 a1)
 refine so Tryz.func308 Tryz.ntmps308 ?_
 refine dIs mixed ?_
 refine cRs (HC a1) ?_
 refine cGs (fun gg => (O0 a0 a1.Key)) ?_
 refine cGs (fun gg => YZ.rd (MT a1)) ?_
 refine cGs (fun gg => (jI a0 a1.Key (Qh a1) a1.Mark (sg u0) (by simp (maxDischargeDepth := 12) [Ni, Za (m := 2322432) (by decide) u0]; try omega))) ?_
 exact rt [.tmp 4] f
theorem OR (a0 : List Zy) (a1 : List Zr) (a2 : Int) (a3 : Int) (u0 : Sm 2314240 a0) (u1 : Sm 2314240 a1) : Sd 253 [rL 5 Zy.row a0, rL 6 Zr.row a1, rI a2, rI a3] [rL 2 ZD.row (Jk a0 a1 a2 a3)] := by
 have f := me (Jk.eq_1 a0 a1 a2 a3)
 refine soD Tryz.func253 Tryz.ntmps253 ?_
 refine lp2 (QW.eq_2 a0 a1 a2 a3) (fun v1_0 v1_1 => Z9 58 [eL 0 5 a0 Zy.row, eL 1 6 a1 Zr.row, eI 2 a2, eI 3 a3, (9, .one (.sref 9 0 0 v1_0.length), [.arr false 2 (v1_0.map ZD.row)]), eI 10 (↑v1_1 : Int)]) (fun n1 v1_0 v1_1 => a1.length < n1 + v1_1 ∧ v1_1 ≤ a1.length ∧ v1_0.length ≤ 0 + 1 * v1_1) (a1.length + 1) ([] : List ZD) 0 (fun p1 v1_0 v1_1 e1 j1 => ?_) (h0 := YI [((9, 0), some (11, 0))] [] rfl (by simp))
 refine cFf e1 ?_ ?_ <;> intro k2 h1 e1
 ·have i1 := ix h1
  have m2 := ml a1 (k2 1 _ rfl)
  have c1 := sl 2314240 a1 (an u0 u1)
  have w1 := wr v1_1
  simp [i1, ZA]
  repeat with_reducible refine sd ?_
  refine gIf ?_ ?_ <;> intro G
  ·simp [i1, ZA, G]
   repeat with_reducible refine sdg ?_
   refine gJf G ?_ ?_ <;> intro G
   ·try (simp at G; done)
    all_goals
     simp [i1, ZA, G]
     repeat with_reducible refine sdg ?_
     refine cGg (fun gg => (V0 a0 (nth a1 v1_1) (sg u0))) ?_
     refine cK e1 ?_ ?_ <;> intro k3 h2 e1
     ·try (simp [G] at h2; done)
      all_goals
       refine dIo mixed ?_
       simp [i1, ZA, G]
       repeat with_reducible refine sdg ?_
       exact nx2 e1 (hw := YI [((9, 0), some (55, 0))] [] rfl (by simp [w1, G]))
     ·try (simp [G] at h2; done)
      all_goals
       exact ny2 (an w1 G) e1
   ·try (simp at G; done)
    all_goals
     refine sGo ?_
     simp [G]
     repeat with_reducible refine sdg ?_
     refine cK e1 ?_ ?_ <;> intro k5 h3 e1
     ·try (simp [G] at h3; done)
      all_goals
       refine dIo mixed ?_
       simp [i1, ZA, G]
       repeat with_reducible refine sdg ?_
       exact nx2 e1 (hw := YI [((9, 0), some (55, 0))] [] rfl (by simp [w1, G]))
     ·try (simp [G] at h3; done)
      all_goals
       exact ny2 (an w1 G) e1
  ·refine gJf G ?_ ?_ <;> intro G
   ·try (simp at G; done)
    all_goals
     simp [i1, ZA, G]
     repeat with_reducible refine sdg ?_
     refine cGg (fun gg => (V0 a0 (nth a1 v1_1) (sg u0))) ?_
     refine cK e1 ?_ ?_ <;> intro k7 h4 e1
     ·try (simp [G] at h4; done)
      all_goals
       refine dIo mixed ?_
       simp [i1, ZA, G]
       repeat with_reducible refine sdg ?_
       exact nx2 e1 (hw := YI [((9, 0), some (55, 0))] [] rfl (by simp [w1, G]))
     ·try (simp [G] at h4; done)
      all_goals
       exact ny2 (an w1 G) e1
   ·try (simp at G; done)
    all_goals
     refine sGo ?_
     simp [G]
     repeat with_reducible refine sdg ?_
     refine cK e1 ?_ ?_ <;> intro k9 h5 e1
     ·try (simp [G] at h5; done)
      all_goals
       refine dIo mixed ?_
       simp [i1, ZA, G]
       repeat with_reducible refine sdg ?_
       exact nx2 e1 (hw := YI [((9, 0), some (55, 0))] [] rfl (by simp [w1, G]))
     ·try (simp [G] at h5; done)
      all_goals
       exact ny2 (an w1 G) e1
 have c2 := sl 2314240 a1 (an u0 u1)
 have f := ms f e1
 refine cDs [false] (zp v1_0 (by first | (simp (maxDischargeDepth := 12) [XT]; omega) | (simp (maxDischargeDepth := 12) [Za (m := 2330624) (by decide) u0, Za (m := 2330624) (by decide) u1]; done))) ?_
 exact rtD [.tmp 8] f
theorem Lb (a0 : List Zy) (a1 : List Zr) (a2 : Int) (a3 : Int) (a4 : ZD) (u0 : Sm 2310144 a0) (u1 : Sm 2310144 a1) : Sa 183 [rL 5 Zy.row a0, rL 6 Zr.row a1, rI a2, rI a3, a4.row] [rB (jM a0 a1 a2 a3 a4)] := by
 have f := me (jM.eq_1 a0 a1 a2 a3 a4)
 refine so Tryz.func183 Tryz.ntmps183 ?_
 refine cF f ?_ ?_ <;> intro k1 h1 f
 ·refine cRs (XB a4) ?_
  exact rt [.tmp 10] f
 refine dIs mixed ?_
 refine cRs (YZ.rd (OR a0 a1 a2 a3 (by first | exact sg u0 | exact sg u1) (by first | exact sg u0 | exact sg u1))) ?_
 refine cRs (WQ (Jk a0 a1 a2 a3) a4 (by exact OY (by have z := YH u1; omega))) ?_
 exact rt [.tmp 10] f
theorem Oh {a b : Prop} (h : b) (k : a := by (intros; first | omega | with_unfolding_all (first | (first | omega | (have z := PU h1; have y := JK a0.Yb a4.Key; omega))) | ((try simp only [Qv, show ∀ x, IntKind.i64.wrap x = W x from fun _ => rfl] at *); omega))) : a ∧ b := ⟨k, h⟩
theorem NV (a0 : ZH) (a1 : ZI) (a2 : List (List Int)) (a3 : Int) (a4 : ZY) (u0 : Sm 2281472 a0) (u1 : Sm 2281472 a1) (u2 : Sm 2281472 a2) (u3 : CC a1 ≤ 2097152) : Sa 138 [a0.row, a1.row, rL 1 (slR 1 iR) a2, rI a3, a4.row] [(y2 a0 a1 a2 a3 a4).row] := by
 have f := me (y2.eq_1 a0 a1 a2 a3 a4)
 refine so Tryz.func138 Tryz.ntmps138 ?_
 refine cRs (Dk a0 a3 a4 (by (first | exact sg (Ye (n := 2281472) (by decide)) | exact sg u0 | exact sg u1 | exact sg u2 | exact u3 | exact sg (ZH.YL u0) | exact sg (ZH.Z6 u0) | exact sg (ZN (K := 2281472) u1 u3 (by decide)) | exact sg (YJ (ZN (K := 2281472) u1 u3 (by decide))) | exact sg (YP (ZN (K := 2281472) u1 u3 (by decide)))))) ?_
 refine cFo f ?_ ?_ <;> intro k1 h1 f
 ·have q1 := h1; try simp at q1
  simp
  exact rt [.cell 10 79] f
 have q1 := h1; try simp at q1
 simp
 refine dIs mixed ?_
 refine cRs (YZ.rd (Rf a4)) ?_
 refine cRs (VV a0 a1 a2 (Yz a4) (by (first | exact sg (Ye (n := 2281472) (by decide)) | exact sg u0 | exact sg u1 | exact sg u2 | exact u3 | exact sg (ZH.YL u0) | exact sg (ZH.Z6 u0) | exact sg (ZN (K := 2281472) u1 u3 (by decide)) | exact sg (YJ (ZN (K := 2281472) u1 u3 (by decide))) | exact sg (YP (ZN (K := 2281472) u1 u3 (by decide))))) (by (first | exact sg (Ye (n := 2281472) (by decide)) | exact sg u0 | exact sg u1 | exact sg u2 | exact u3 | exact sg (ZH.YL u0) | exact sg (ZH.Z6 u0) | exact sg (ZN (K := 2281472) u1 u3 (by decide)) | exact sg (YJ (ZN (K := 2281472) u1 u3 (by decide))) | exact sg (YP (ZN (K := 2281472) u1 u3 (by decide))))) (by (first | exact sg (Ye (n := 2281472) (by decide)) | exact sg u0 | exact sg u1 | exact sg u2 | exact u3 | exact sg (ZH.YL u0) | exact sg (ZH.Z6 u0) | exact sg (ZN (K := 2281472) u1 u3 (by decide)) | exact sg (YJ (ZN (K := 2281472) u1 u3 (by decide))) | exact sg (YP (ZN (K := 2281472) u1 u3 (by decide))))) (by (first | exact sg (Ye (n := 2281472) (by decide)) | exact sg u0 | exact sg u1 | exact sg u2 | exact u3 | exact sg (ZH.YL u0) | exact sg (ZH.Z6 u0) | exact sg (ZN (K := 2281472) u1 u3 (by decide)) | exact sg (YJ (ZN (K := 2281472) u1 u3 (by decide))) | exact sg (YP (ZN (K := 2281472) u1 u3 (by decide)))))) ?_
 refine dIs mixed ?_
 refine cR (KP a0.Yb a4.Key) ?_
 have i1 : (Yc a0.Yb a4.Key).toNat < a0.Yb.length := by have := JK a0.Yb a4.Key; (have z := PU h1; have y := JK a0.Yb a4.Key; omega)
 simp [i1, ZA]
 repeat with_reducible refine Oh ?_
 refine cRs (jB a0.Methods (nth a0.Yb (Yc a0.Yb a4.Key).toNat).Method) ?_
 refine cGs (fun gg => (jB a0.Methods a4.Method)) ?_
 refine cFo f ?_ ?_ <;> intro k4 h2 f
 ·have q2 := h2; try simp at q2
  simp
  refine cRs (xR 5) ?_
  exact rt [.cell 10 79] f
 have q2 := h2; try simp at q2
 simp
 refine cRs (NA a0 a1 a2 (by (first | exact sg (Ye (n := 2281472) (by decide)) | exact sg u0 | exact sg u1 | exact sg u2 | exact u3 | exact sg (ZH.YL u0) | exact sg (ZH.Z6 u0) | exact sg (ZN (K := 2281472) u1 u3 (by decide)) | exact sg (YJ (ZN (K := 2281472) u1 u3 (by decide))) | exact sg (YP (ZN (K := 2281472) u1 u3 (by decide))))) (by (first | exact sg (Ye (n := 2281472) (by decide)) | exact sg u0 | exact sg u1 | exact sg u2 | exact u3 | exact sg (ZH.YL u0) | exact sg (ZH.Z6 u0) | exact sg (ZN (K := 2281472) u1 u3 (by decide)) | exact sg (YJ (ZN (K := 2281472) u1 u3 (by decide))) | exact sg (YP (ZN (K := 2281472) u1 u3 (by decide))))) (by (first | exact sg (Ye (n := 2281472) (by decide)) | exact sg u0 | exact sg u1 | exact sg u2 | exact u3 | exact sg (ZH.YL u0) | exact sg (ZH.Z6 u0) | exact sg (ZN (K := 2281472) u1 u3 (by decide)) | exact sg (YJ (ZN (K := 2281472) u1 u3 (by decide))) | exact sg (YP (ZN (K := 2281472) u1 u3 (by decide))))) (by (first | exact sg (Ye (n := 2281472) (by decide)) | exact sg u0 | exact sg u1 | exact sg u2 | exact u3 | exact sg (ZH.YL u0) | exact sg (ZH.Z6 u0) | exact sg (ZN (K := 2281472) u1 u3 (by decide)) | exact sg (YJ (ZN (K := 2281472) u1 u3 (by decide))) | exact sg (YP (ZN (K := 2281472) u1 u3 (by decide)))))) ?_
 refine cRs (Ec a0 (Zl a0 a1 a2) a4 (by (first | exact sg (Ye (n := 2281472) (by decide)) | exact sg u0 | exact sg u1 | exact sg u2 | exact u3 | exact sg (ZH.YL u0) | exact sg (ZH.Z6 u0) | exact sg (ZN (K := 2281472) u1 u3 (by decide)) | exact sg (YJ (ZN (K := 2281472) u1 u3 (by decide))) | exact sg (YP (ZN (K := 2281472) u1 u3 (by decide))))) (by (first | exact sg (Ye (n := 2281472) (by decide)) | exact sg u0 | exact sg u1 | exact sg u2 | exact u3 | exact sg (ZH.YL u0) | exact sg (ZH.Z6 u0) | exact sg (ZN (K := 2281472) u1 u3 (by decide)) | exact sg (YJ (ZN (K := 2281472) u1 u3 (by decide))) | exact sg (YP (ZN (K := 2281472) u1 u3 (by decide)))))) ?_
 refine cFo f ?_ ?_ <;> intro k5 h3 f
 ·have q3 := h3; try simp at q3
  simp
  refine cRs (xR 6) ?_
  exact rt [.cell 10 79] f
 have q3 := h3; try simp at q3
 simp
 refine cRs (I3 a0 a1 (Zl a0 a1 a2) a4 (by (first | exact sg (Ye (n := 2281472) (by decide)) | exact sg u0 | exact sg u1 | exact sg u2 | exact u3 | exact sg (ZH.YL u0) | exact sg (ZH.Z6 u0) | exact sg (ZN (K := 2281472) u1 u3 (by decide)) | exact sg (YJ (ZN (K := 2281472) u1 u3 (by decide))) | exact sg (YP (ZN (K := 2281472) u1 u3 (by decide))))) (by (first | exact sg (Ye (n := 2281472) (by decide)) | exact sg u0 | exact sg u1 | exact sg u2 | exact u3 | exact sg (ZH.YL u0) | exact sg (ZH.Z6 u0) | exact sg (ZN (K := 2281472) u1 u3 (by decide)) | exact sg (YJ (ZN (K := 2281472) u1 u3 (by decide))) | exact sg (YP (ZN (K := 2281472) u1 u3 (by decide))))) (by (first | exact sg (Ye (n := 2281472) (by decide)) | exact sg u0 | exact sg u1 | exact sg u2 | exact u3 | exact sg (ZH.YL u0) | exact sg (ZH.Z6 u0) | exact sg (ZN (K := 2281472) u1 u3 (by decide)) | exact sg (YJ (ZN (K := 2281472) u1 u3 (by decide))) | exact sg (YP (ZN (K := 2281472) u1 u3 (by decide)))))) ?_
 refine cFo f ?_ ?_ <;> intro k6 h4 f
 ·have q4 := h4; try simp at q4
  simp
  refine cRs (xR 7) ?_
  exact rt [.cell 10 79] f
 have q4 := h4; try simp at q4
 simp
 refine cRs (YZ.rd (MY (Zl a0 a1 a2) (Xw a0 (Zl a0 a1 a2) a4).1 (by (first | exact sg (Ye (n := 2281472) (by decide)) | exact sg u0 | exact sg u1 | exact sg u2 | exact u3 | exact sg (ZH.YL u0) | exact sg (ZH.Z6 u0) | exact sg (ZN (K := 2281472) u1 u3 (by decide)) | exact sg (YJ (ZN (K := 2281472) u1 u3 (by decide))) | exact sg (YP (ZN (K := 2281472) u1 u3 (by decide))))))) ?_
 refine cRs (FX (Xw a0 (Zl a0 a1 a2) a4).1 (Qb (Zl a0 a1 a2) (Xw a0 (Zl a0 a1 a2) a4).1) (ZD.mk (XW a0 a1 (Zl a0 a1 a2) a4) (Yf a0 a1 a2 (Yz a4))) (by (first | exact sg (Ye (n := 2281472) (by decide)) | exact sg u0 | exact sg u1 | exact sg u2 | exact u3 | exact sg (ZH.YL u0) | exact sg (ZH.Z6 u0) | exact sg (ZN (K := 2281472) u1 u3 (by decide)) | exact sg (YJ (ZN (K := 2281472) u1 u3 (by decide))) | exact sg (YP (ZN (K := 2281472) u1 u3 (by decide)))))) ?_
 refine cFo f ?_ ?_ <;> intro k7 h5 f
 ·have q5 := h5; try simp at q5
  simp
  exact rt [.cell 10 79] f
 have q5 := h5; try simp at q5
 simp
 refine cRs (IA (Xw a0 (Zl a0 a1 a2) a4).1 (Qb (Zl a0 a1 a2) (Xw a0 (Zl a0 a1 a2) a4).1) (ZD.mk (XW a0 a1 (Zl a0 a1 a2) a4) (Yf a0 a1 a2 (Yz a4))) (by (first | exact sg (Ye (n := 2281472) (by decide)) | exact sg u0 | exact sg u1 | exact sg u2 | exact u3 | exact sg (ZH.YL u0) | exact sg (ZH.Z6 u0) | exact sg (ZN (K := 2281472) u1 u3 (by decide)) | exact sg (YJ (ZN (K := 2281472) u1 u3 (by decide))) | exact sg (YP (ZN (K := 2281472) u1 u3 (by decide)))))) ?_
 refine cFo f ?_ ?_ <;> intro k8 h6 f
 ·have q6 := h6; try simp at q6
  simp
  exact rt [.cell 10 79] f
 have q6 := h6; try simp at q6
 simp
 refine dIs mixed ?_
 refine cRs (YZ.rd (Lx (Zl a0 a1 a2) (by (first | exact sg (Ye (n := 2281472) (by decide)) | exact sg u0 | exact sg u1 | exact sg u2 | exact u3 | exact sg (ZH.YL u0) | exact sg (ZH.Z6 u0) | exact sg (ZN (K := 2281472) u1 u3 (by decide)) | exact sg (YJ (ZN (K := 2281472) u1 u3 (by decide))) | exact sg (YP (ZN (K := 2281472) u1 u3 (by decide))))))) ?_
 refine cRs (Lb a0.Yb (z3 (Zl a0 a1 a2)) a4.Org (Xw a0 (Zl a0 a1 a2) a4).1.JZ (ZD.mk (XW a0 a1 (Zl a0 a1 a2) a4) (Yf a0 a1 a2 (Yz a4))) (by (first | exact sg (Ye (n := 2281472) (by decide)) | exact sg u0 | exact sg u1 | exact sg u2 | exact u3 | exact sg (ZH.YL u0) | exact sg (ZH.Z6 u0) | exact sg (ZN (K := 2281472) u1 u3 (by decide)) | exact sg (YJ (ZN (K := 2281472) u1 u3 (by decide))) | exact sg (YP (ZN (K := 2281472) u1 u3 (by decide))))) (by (first | exact sg (Ye (n := 2281472) (by decide)) | exact sg u0 | exact sg u1 | exact sg u2 | exact u3 | exact sg (ZH.YL u0) | exact sg (ZH.Z6 u0) | exact sg (ZN (K := 2281472) u1 u3 (by decide)) | exact sg (YJ (ZN (K := 2281472) u1 u3 (by decide))) | exact sg (YP (ZN (K := 2281472) u1 u3 (by decide)))))) ?_
 refine cFo f ?_ ?_ <;> intro k10 h7 f
 ·have q7 := h7; try simp at q7
  simp
  exact rt [.cell 10 79] f
 have q7 := h7; try simp at q7
 simp
 exact rt [.cell 10 79] f
theorem AW (a0 : ZH) (a1 : ZI) (a2 : Zd) (a3 : ZY) (u0 : Sm 2277376 a0) (u1 : Sm 2277376 a1) (u2 : Sm 2277376 a2) (u3 : CC a1 ≤ 2097152) : Sa 97 [a0.row, a1.row, a2.row, a3.row] [(NG a0 a1 a2 a3).row] := by
 have f := me (NG.eq_1 a0 a1 a2 a3)
 refine so Tryz.func97 Tryz.ntmps97 ?_
 refine dIs mixed ?_
 refine cRs (Pl a1 a2 (by (first | exact sg u0 | exact sg u1 | exact sg u2 | exact u3 | exact sg (Xs (n := 2277376) u1))) (by (first | exact sg u0 | exact sg u1 | exact sg u2 | exact u3 | exact sg (Xs (n := 2277376) u1)))) ?_
 refine cRs (RR a3.Method a2 (by (first | exact sg u0 | exact sg u1 | exact sg u2 | exact u3 | exact sg (Xs (n := 2277376) u1)))) ?_
 refine cRs (NV a0 a1 (JE a1 a2) (yV a3.Method a2) a3 (by (first | exact sg u0 | exact sg u1 | exact sg u2 | exact u3 | exact sg (Xs (n := 2277376) u1))) (by (first | exact sg u0 | exact sg u1 | exact sg u2 | exact u3 | exact sg (Xs (n := 2277376) u1))) (by (first | exact sg u0 | exact sg u1 | exact sg u2 | exact u3 | exact sg (Xs (n := 2277376) u1))) (by (first | exact sg u0 | exact sg u1 | exact sg u2 | exact u3 | exact sg (Xs (n := 2277376) u1)))) ?_
 exact rt [.cell 8 79] f
theorem He (a0 : ZH) (a1 : Zt) (u0 : Sm 2273280 a0) (u1 : Sm 2097152 a1) : Sa 51 [a0.row, a1.row] [(ki a0 a1).row] := by
 have f := me (ki.eq_1 a0 a1)
 refine so Tryz.func51 Tryz.ntmps51 ?_
 refine dIs mixed ?_
 refine cRs (OF a1 (by (first | exact sg u0 | exact sg (Zt.WC u1) | exact sg (n := 2097152) (show Sm 2097152 (ZI.mk [a1.Yl] []) from ⟨⟨Nat.le_of_ble_eq_true rfl, fun x hx => by rcases List.mem_cons.1 hx with rfl | hx; exact Zt.Y8 u1; cases hx⟩, ⟨Nat.zero_le _, fun x hx => by cases hx⟩⟩) | exact (show a1.Yl.ZT.length + 0 ≤ 2097152 from YH (ZK.Yh (Zt.Y8 u1))) | exact sg u1))) ?_
 refine cRs (AW a0 (Kn a1) a1.Doc a1.Sig (by (first | exact sg u0 | exact sg (Zt.WC u1) | exact sg (n := 2097152) (show Sm 2097152 (ZI.mk [a1.Yl] []) from ⟨⟨Nat.le_of_ble_eq_true rfl, fun x hx => by rcases List.mem_cons.1 hx with rfl | hx; exact Zt.Y8 u1; cases hx⟩, ⟨Nat.zero_le _, fun x hx => by cases hx⟩⟩) | exact (show a1.Yl.ZT.length + 0 ≤ 2097152 from YH (ZK.Yh (Zt.Y8 u1))) | exact sg u1)) (by (first | exact sg u0 | exact sg (Zt.WC u1) | exact sg (n := 2097152) (show Sm 2097152 (ZI.mk [a1.Yl] []) from ⟨⟨Nat.le_of_ble_eq_true rfl, fun x hx => by rcases List.mem_cons.1 hx with rfl | hx; exact Zt.Y8 u1; cases hx⟩, ⟨Nat.zero_le _, fun x hx => by cases hx⟩⟩) | exact (show a1.Yl.ZT.length + 0 ≤ 2097152 from YH (ZK.Yh (Zt.Y8 u1))) | exact sg u1)) (by (first | exact sg u0 | exact sg (Zt.WC u1) | exact sg (n := 2097152) (show Sm 2097152 (ZI.mk [a1.Yl] []) from ⟨⟨Nat.le_of_ble_eq_true rfl, fun x hx => by rcases List.mem_cons.1 hx with rfl | hx; exact Zt.Y8 u1; cases hx⟩, ⟨Nat.zero_le _, fun x hx => by cases hx⟩⟩) | exact (show a1.Yl.ZT.length + 0 ≤ 2097152 from YH (ZK.Yh (Zt.Y8 u1))) | exact sg u1)) (by (first | exact sg u0 | exact sg (Zt.WC u1) | exact sg (n := 2097152) (show Sm 2097152 (ZI.mk [a1.Yl] []) from ⟨⟨Nat.le_of_ble_eq_true rfl, fun x hx => by rcases List.mem_cons.1 hx with rfl | hx; exact Zt.Y8 u1; cases hx⟩, ⟨Nat.zero_le _, fun x hx => by cases hx⟩⟩) | exact (show a1.Yl.ZT.length + 0 ≤ 2097152 from YH (ZK.Yh (Zt.Y8 u1))) | exact sg u1))) ?_
 exact rt [.cell 4 79] f
theorem Nl {a b : Prop} (h : b) (k : a := by (intros; first | omega | with_unfolding_all (first | first | omega | (have fi := SE a0 a1 (by first | omega | (simp at q1; omega)); omega)) | ((try simp only [Qv, show ∀ x, IntKind.i64.wrap x = W x from fun _ => rfl] at *); omega))) : a ∧ b := ⟨k, h⟩
theorem Ns (a0 : Zi) (a1 : Int) (u0 : Sm 1048576 a0) : Sa 25 [a0.row, rI a1] [(Qf a0 a1).row] := by
 have f := me (Qf.eq_1 a0 a1)
 refine so Tryz.func25 Tryz.ntmps25 ?_
 refine cRs (C9 a0 a1) ?_
 refine cFo f ?_ ?_ <;> intro k1 h1 f
 ·have q1 := h1; try simp at q1
  simp
  exact rt [.cell 4 79] f
 have q1 := h1; try simp at q1
 simp
 refine dIo mixed ?_
 have i1 : (QB a0 a1).1.toNat < a0.ZE.length := by first | omega | (have fi := SE a0 a1 (by first | omega | (simp at q1; omega)); omega)
 have i2 : (QB a0 a1).2.toNat < (nth a0.ZE (QB a0 a1).1.toNat).Zh.length := by first | omega | (have fi := SE a0 a1 (by first | omega | (simp at q1; omega)); omega)
 simp [i1, ZA, i2]
 repeat with_reducible refine Nl ?_
 refine cRs (He a0.Frame (nth (nth a0.ZE (QB a0 a1).1.toNat).Zh (QB a0 a1).2.toNat) (sg (Zi.S9 u0)) (sg (Zx (Zc.Ra (Zx (Zi.V8 u0)))))) ?_
 exact rt [.cell 4 79] f
theorem WA {a b : Prop} (h : b) (k : a := by (intros; first | omega | with_unfolding_all (first | (first | omega | (have d := Oe (l := a0.ZE) (i := v1_1) (by first | omega | (simp at *; omega)); omega))) | ((try simp only [Qv, show ∀ x, IntKind.i64.wrap x = W x from fun _ => rfl] at *); omega))) : a ∧ b := ⟨k, h⟩
theorem L6 (a0 : Zi) (u0 : Sm 1048576 a0) (u1 : itn a0.ZE ≤ 1048576) : Sd 34 [a0.row] [rL 1 iR (XE a0)] := by
 have f := me (XE.eq_1 a0)
 refine soD Tryz.func34 Tryz.ntmps34 ?_
 refine lp2 (yr.eq_2 a0) (fun v1_0 v1_1 => Z9 46 [eX 1 (a0.row.map .d), (3, .one (.sref 3 0 0 v1_0.length), [.arr false 1 (v1_0.map iR)]), eI 4 (↑v1_1 : Int)]) (fun n1 v1_0 v1_1 => a0.ZE.length < n1 + v1_1 ∧ v1_1 ≤ a0.ZE.length ∧ v1_0.length + itn (a0.ZE.drop v1_1) ≤ 1048576) (a0.ZE.length + 1) ([] : List Int) 0 (fun p1 v1_0 v1_1 e1 j1 => ?_) (hI := by ((try dsimp only); simp only [List.length_nil, List.drop_zero]; omega)) (h0 := YI [((3, 0), some (7, 0))] [] rfl (by simp))
 try dsimp only at j1
 refine cF e1 ?_ ?_ <;> intro k2 h1 e1
 ·have i1 := ix h1
  have m2 := ml a0.ZE (k2 10 _ rfl)
  have c1 := sl 1048576 a0.ZE (an u0 u1)
  have w1 := wr v1_1
  refine sF (Kz.eq_2 a0 v1_1) (fun v2_0 v2_1 => Z9 46 [eX 1 (a0.row.map .d), (3, .one (.sref 3 0 0 v2_0.length), [.arr false 1 (v2_0.map iR)]), eI 4 (↑v1_1 : Int), eI 5 (↑v2_1 : Int)]) (fun n2 v2_0 v2_1 => (nth a0.ZE v1_1).Zh.length < n2 + v2_1 ∧ v2_1 ≤ (nth a0.ZE v1_1).Zh.length ∧ v2_0.length + ((nth a0.ZE v1_1).Zh.length - v2_1) + itn (a0.ZE.drop (v1_1 + 1)) ≤ 1048576) ((nth a0.ZE v1_1).Zh.length + 1) v1_0 0 (fun p2 v2_0 v2_1 e2 j2 => ?_) (hI := by (have d := Oe (l := a0.ZE) (i := v1_1) (by first | omega | (simp at *; omega)); (try dsimp only); omega))
  try dsimp only at j2
  simp [i1, ZA]
  repeat with_reducible refine WA ?_
  refine cFf e2 ?_ ?_ <;> intro k4 h2 e2
  ·have i2 := ix h2
   have m4 := ml (nth a0.ZE v1_1).Zh (k4 21 _ rfl)
   have c2 := sl 1048576 (nth a0.ZE v1_1).Zh (an u0 u1)
   have w2 := wr v2_1
   simp [i1, ZA, i2]
   repeat with_reducible refine WA ?_
   refine cRs (Ns a0 (nth (nth a0.ZE v1_1).Zh v2_1).Id u0) ?_
   refine cFf e2 ?_ ?_ <;> intro k5 h3 e2
   ·simp
    repeat with_reducible refine WA ?_
    exact nx2 e2 (hI := by ((try dsimp only); (try simp only [List.length_append, List.length_singleton]); omega)) (hw := YI [((3, 0), some (44, 0))] [] rfl (by simp [w1, w2]))
   exact ny2 (an w1 w2) e2 (hI := by ((try dsimp only); (try simp only [List.length_append, List.length_singleton]); omega))
  have c3 := sl 1048576 (nth a0.ZE v1_1).Zh (an u0 u1)
  have e1 := ms e1 e2
  exact ny2 w1 e1 (hI := by (first | omega | ((try dsimp only); omega) | (simp at *; omega)))
 have c4 := sl 1048576 a0.ZE (an u0 u1)
 have f := ms f e1
 exact rtD [.tmp 2] f
theorem Us {a b : Prop} (h : b) (k : a := by (intros; first | omega | with_unfolding_all (first | (first | omega | (have z := Ny a0; omega))) | ((try simp only [Qv, show ∀ x, IntKind.i64.wrap x = W x from fun _ => rfl] at *); omega))) : a ∧ b := ⟨k, h⟩
theorem MK (a0 : Zi) (u0 : Sm 1048576 a0) (u1 : itn a0.ZE ≤ 1048576) : Sd 42 [a0.row] [rL 1 iR (xg a0)] := by
 have f := me (xg.eq_1 a0)
 refine soD Tryz.func42 Tryz.ntmps42 ?_
 refine cRs (YZ.rd (L6 a0 u0 (by omega))) ?_
 refine lp2 (J1.eq_2 a0) (fun v1_0 v1_1 => Z9 30 [eX 1 (a0.row.map .d), (3, .one (.sref 3 0 0 v1_0.length), [.arr false 1 (v1_0.map iR)]), eL 4 1 (XE a0) iR, eI 5 (↑v1_1 : Int)]) (fun n1 v1_0 v1_1 => (XE a0).length < n1 + v1_1 ∧ v1_1 ≤ (XE a0).length ∧ v1_0.length ≤ 0 + 1 * v1_1) ((XE a0).length + 1) ([] : List Int) 0 (fun p1 v1_0 v1_1 e1 j1 => ?_) (h0 := YI [((3, 0), some (6, 0))] [] rfl (by simp))
 try dsimp only at j1
 refine cF e1 ?_ ?_ <;> intro k2 h1 e1
 ·have i1 := ix h1
  have m2 := ml (XE a0) (k2 4 _ rfl)
  have w1 := wr v1_1
  refine dIo mixed ?_
  simp [i1, ZA]
  repeat with_reducible refine Us ?_
  refine cRs (Pt a0.XQ (nth (XE a0) v1_1)) ?_
  refine cFf e1 ?_ ?_ <;> intro k4 h2 e1
  ·simp [i1, ZA]
   repeat with_reducible refine Us ?_
   exact nx2 e1 (hw := YI [((3, 0), some (28, 0))] [] rfl (by simp [w1]))
  exact ny2 w1 e1
 have f := ms f e1
 exact rtD [.tmp 2] f
theorem Ep (a0 : Zi) (u0 : Sm 1048576 a0) (u1 : itn a0.ZE ≤ 1048576) : Sa 40 [a0.row] [rS (Uu a0)] := by
 have f := me (Uu.eq_1 a0)
 refine so Tryz.func40 Tryz.ntmps40 ?_
 refine cRs (Dd a0 (sg u0)) ?_
 refine cF f ?_ ?_ <;> intro k1 h1 f
 ·exact rt [.tmp 2] f
 refine cRs (YZ.rd (MK a0 u0 (by omega))) ?_
 refine cF f ?_ ?_ <;> intro k2 h2 f
 ·exact rt [.tmp 2] f
 exact rt [.tmp 2] f
end Go.Proofs.YtfhmpplolpejnaaGreat
