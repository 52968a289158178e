/- Contracts of the functions ZEa the abstract machine, part I1. No condition. -/
import Derived.Test.YtfhmpplolpejnaaGreatL
import Derived.Test.YtfhmpplolpejnaaGreatTy
namespace Go.Proofs.YtfhmpplolpejnaaGreat
open Go.Vm Go.Mo
set_option maxHeartbeats 1000000
set_option maxRecDepth 100000
set_option linter.unusedSimpArgs false
set_option linter.unusedVariables false
theorem QH (a0 : Int) : Sa 58 [rI a0] [rS (XJ a0)] := by
 have f := me (XJ.eq_1 a0)
 refine so Tryz.func58 Tryz.ntmps58 ?_
 refine lp2 (KC.eq_2) (fun v1_0 v1_1 => Yc 30 [eI 0 v1_0, (3, .one (.sref 3 0 0 v1_1.length), [.arr false 1 (v1_1.map bR)]), eB 4 (decide (a0 < 0))]) (fun n1 v1_0 v1_1 => (n1 = 21 ∨ v1_0.natAbs < 10 ^ n1) ∧ v1_1.length + n1 = 21) 21 a0 ([] : List UInt8) (fun p1 v1_0 v1_1 e1 j1 => ?_) (hI := by exact ⟨by omega, .inl rfl, rfl⟩) (h0 := Yh [((3, 0), none)] [] rfl (by simp))
 try dsimp only at j1
 refine cF e1 (fun k2 h1 e1 => ?_) (fun k2 h1 e1 => ?_)
 ·refine cF e1 (fun k3 h2 e1 => ?_) (fun k3 h2 e1 => ?_)
  ·have f := ms f e1
   refine cF f (fun k4 h3 f => ?_) (fun k4 h3 f => ?_)
   ·refine toStr (l := (([(UInt8.ofInt (W (48 + (W (-(Int.tmod v1_0 10))))))] : List UInt8) ++ v1_1)) rfl rfl rfl (by simp) (by simp) (by simp) (by simp [Kd, ZN1]) ?_
    simp
    repeat with_reducible refine sd ?_
    exact rt [.tmp 2] f
   refine toStr (l := (([(UInt8.ofInt (W (48 + (W (-(Int.tmod v1_0 10))))))] : List UInt8) ++ v1_1)) rfl rfl rfl (by simp) (by simp) (by simp) (by simp [Kd, ZN1]) ?_
   simp
   exact rt [.tmp 2] f
  exact nx2 e1 (hI := by (try dsimp only); obtain ⟨s1, s2⟩ := ZVy j1.2.1 h2; refine ⟨s1, s2, ?_⟩; have := j1.2.2; simp; omega) (hw := Yh [((3, 0), some (19, 0))] [] rfl (by simp))
 refine cF e1 (fun k5 h4 e1 => ?_) (fun k5 h4 e1 => ?_)
 ·have f := ms f e1
  refine cF f (fun k6 h5 f => ?_) (fun k6 h5 f => ?_)
  ·refine toStr (l := (([(UInt8.ofInt (W (48 + (Int.tmod v1_0 10))))] : List UInt8) ++ v1_1)) rfl rfl rfl (by simp) (by simp) (by simp) (by simp [Kd, ZN1]) ?_
   simp
   repeat with_reducible refine sd ?_
   exact rt [.tmp 2] f
  refine toStr (l := (([(UInt8.ofInt (W (48 + (Int.tmod v1_0 10))))] : List UInt8) ++ v1_1)) rfl rfl rfl (by simp) (by simp) (by simp) (by simp [Kd, ZN1]) ?_
  simp
  exact rt [.tmp 2] f
 exact nx2 e1 (hI := by (try dsimp only); obtain ⟨s1, s2⟩ := ZVy j1.2.1 h4; refine ⟨s1, s2, ?_⟩; have := j1.2.2; simp; omega) (hw := Yh [((3, 0), some (19, 0))] [] rfl (by simp))
theorem ZNA (a0 : List Int) (u0 : Sm 2342912 a0) : Sd 315 [rL 1 iR a0] [rL 1 iR (ZGc a0)] := by
 have f := me (ZGc.eq_1 a0)
 have c1 := sl 2342912 a0 u0
 refine soD Tryz.func315 Tryz.ntmps315 ?_
 exact rtD [.tmp 2] f
theorem ZKv (a0 : List Int) (u0 : Sm 2342912 a0) : Sd 315 [rL 1 iR a0] [rL 1 iR a0] := by
  have h := ZNA a0 u0
  rwa [ZNW] at h
theorem ZMe (a0 : ZB) (u0 : Sm 2338816 a0) : Sd 265 [a0.row] [(ZE8 a0).row] := by
 have f := me (ZE8.eq_1 a0)
 refine soD Tryz.func265 Tryz.ntmps265 ?_
 refine cDs [false] (ZKv a0.Zb (sg (ZB.ZBN u0))) ?_
 exact rtD [.cell 2 194] f
theorem ZAw (a0 : ZB) (u0 : Sm 2338816 a0) : Sd 265 [a0.row] [a0.row] := by
  have h := ZMe a0 u0
  rwa [ZK5] at h
theorem ZKa (a0 : List ZB) (u0 : Sm 2334720 a0) : Sd 214 [rL 3 ZB.row a0] [rL 3 ZB.row (ZBE a0)] := by
 have f := me (ZBE.eq_1 a0)
 refine soD Tryz.func214 Tryz.ntmps214 ?_
 refine lp2 (kO.eq_2 a0) (fun v1_0 v1_1 => Yc 19 [(3, .one (.sref 3 0 0 v1_0.length), [.arr true 3 (v1_0.map ZB.row)]), eL 6 3 a0 ZB.row, eI 7 (↑a0.length : Int), eI 8 (↑v1_1 : Int)]) (fun n1 v1_0 v1_1 => a0.length < n1 + v1_1 ∧ v1_1 ≤ a0.length ∧ v1_0.length ≤ 0 + 1 * v1_1) (a0.length + 1) ([] : List ZB) 0 (fun p1 v1_0 v1_1 e1 j1 => ?_) (h0 := Yh [((3, 0), none)] [] rfl (by simp))
 refine cFf e1 (fun k2 h1 e1 => ?_) (fun k2 h1 e1 => ?_)
 ·have i1 := ix h1
  have m2 := ml a0 (k2 6 _ rfl)
  have c1 := sl 2334720 a0 u0
  have w1 := wr v1_1
  simp [i1, ZA]
  repeat with_reducible refine sd ?_
  refine cDs [true, false] (ZAw (nth a0 v1_1) (sg (Z2 u0))) ?_
  refine ZWe rfl rfl rfl (by simp) (by simp) (by simp) ?_
  simp
  refine ZV8 (olds := (v1_0.map ZB.row)) (news := (([(nth a0 v1_1)] : List ZB).map ZB.row)) (l1 := [(3, 0)]) (l2 := [(14, 1)]) (size := 3) rfl rfl rfl rfl (by simp) (by simp) (by simp) (by simp) (by simp) (by simp; omega) ?_
  simp
  exact nx2 e1 (hw := Yh [((3, 0), some (16, 0))] [] rfl (by simp [w1]))
 have c2 := sl 2334720 a0 u0
 have f := ms f e1
 exact rtD [.tmp 2] f
theorem ZIt (a0 : List ZB) (u0 : Sm 2334720 a0) : Sd 214 [rL 3 ZB.row a0] [rL 3 ZB.row a0] := by
  have h := ZKa a0 u0
  rwa [ZJh] at h
theorem ZKh (a0 : List Za) (u0 : Sm 2342912 a0) : Sd 280 [rL 5 Za.row a0] [rL 5 Za.row (ZEY a0)] := by
 have f := me (ZEY.eq_1 a0)
 have c1 := sl 2342912 a0 u0
 refine soD Tryz.func280 Tryz.ntmps280 ?_
 exact rtD [.tmp 2] f
theorem ZII (a0 : List Za) (u0 : Sm 2342912 a0) : Sd 280 [rL 5 Za.row a0] [rL 5 Za.row a0] := by
  have h := ZKh a0 u0
  rwa [ZKg] at h
theorem ZIe (a0 : ZS) (u0 : Sm 2338816 a0) : Sd 215 [a0.row] [(ZC5 a0).row] := by
 have f := me (ZC5.eq_1 a0)
 have c1 := sl 2338816 a0.Path u0
 refine soD Tryz.func215 Tryz.ntmps215 ?_
 refine cDs [false] (ZII a0.Zi (sg (ZS.ZF3 u0))) ?_
 exact rtD [.cell 2 199] f
theorem ZHB (a0 : ZS) (u0 : Sm 2338816 a0) : Sd 215 [a0.row] [a0.row] := by
  have h := ZIe a0 u0
  rwa [ZIa] at h
theorem ZJ5 (a0 : ZN) (u0 : Sm 2330624 a0) : Sd 147 [a0.row] [(ZBB a0).row] := by
 have f := me (ZBB.eq_1 a0)
 refine soD Tryz.func147 Tryz.ntmps147 ?_
 refine cDs [] (ZIt a0.ZZ (sg (ZN.Y4 u0))) ?_
 refine lp2 (kU.eq_2 a0) (fun v1_0 v1_1 => Yc 26 [(2, .one (.bptr 2 0), [.box [.nil 3, .nil 5]]), (3, .one (.bptr 3 0), [.box [.sref 8 0 0 a0.ZZ.length, .sref 3 2 0 v1_1.length], .none, .arr true 5 (v1_1.map ZS.row)]), (8, .any, [.arr true 3 (a0.ZZ.map ZB.row)]), eL 11 5 a0.ZR ZS.row, eI 12 (↑a0.ZR.length : Int), eI 13 (↑v1_0 : Int)]) (fun n1 v1_0 v1_1 => a0.ZR.length < n1 + v1_0 ∧ v1_0 ≤ a0.ZR.length ∧ v1_1.length ≤ 0 + 1 * v1_0) (a0.ZR.length + 1) 0 ([] : List ZS) (fun p1 v1_0 v1_1 e1 j1 => ?_) (h0 := Yh [((3, 2), none)] [] rfl (by simp))
 refine cFf e1 (fun k2 h1 e1 => ?_) (fun k2 h1 e1 => ?_)
 ·have i1 := ix h1
  have m2 := ml a0.ZR (k2 11 _ rfl)
  have c1 := sl 2330624 a0.ZR u0
  have w1 := wr v1_0
  simp [i1, ZA]
  repeat with_reducible refine sd ?_
  refine ZXJ [22] mixed (by kernel_rfl) (by kernel_rfl) ?_
  simp
  refine cDs [true, true, true, false, false] (ZHB (nth a0.ZR v1_0) (sg (Z2 (ZN.QG u0)))) ?_
  refine ZWe rfl rfl rfl (by simp) (by simp) (by simp) ?_
  simp
  refine ZV8 (olds := (v1_1.map ZS.row)) (news := (([(nth a0.ZR v1_0)] : List ZS).map ZS.row)) (l1 := [(3, 2)]) (l2 := [(20, 3), (20, 4)]) (size := 5) rfl rfl rfl rfl (by simp) (by simp) (by simp) (by simp) (by simp) (by simp; omega) ?_
  simp
  exact nx2 e1 (hw := Yh [((3, 2), some (22, 0))] [] rfl (by simp [w1]))
 have c2 := sl 2330624 a0.ZR u0
 have f := ms f e1
 exact rtD [.cell 2 53] f
theorem ZIf (a0 : ZN) (u0 : Sm 2330624 a0) : Sd 147 [a0.row] [a0.row] := by
  have h := ZJ5 a0 u0
  rwa [ZJn] at h
theorem ZHG (a0 : Z3) (u0 : Sm 2326528 a0) : Sd 108 [a0.row] [(yG a0).row] := by
 have f := me (yG.eq_1 a0)
 refine soD Tryz.func108 Tryz.ntmps108 ?_
 refine cDs [] (ZIf a0.Y7 (sg (Z3.XZ u0))) ?_
 refine ZXI (news := (([a0.Y7] : List ZN).map ZN.row)) (L := [(5, 0), (5, 1)]) rfl rfl rfl rfl (by simp) (by simp) (by simp) (by simp) (by simp) (by simp) ?_
 simp
 exact rtD [.cell 2 143] f
theorem YA (a0 : Int) (a1 : Int) (a2 : Int) : Sa 128 [rI a0, rI a1, rI a2] [rB (ZW a0 a1 a2)] := by
 have f := me (ZW.eq_1 a0 a1 a2)
 refine so Tryz.func128 Tryz.ntmps128 ?_
 exact rt [.tmp 6] f
theorem ZJk (a0 : Zg) : Sa 211 [a0.row] [rB (yj a0)] := by
 have f := me (yj.eq_1 a0)
 refine so Tryz.func211 Tryz.ntmps211 ?_
 refine cRs (YA a0.kW 0 999) ?_
 refine cGs (fun gg => (YA (↑a0.Yx.length : Int) 1 6)) ?_
 refine cFo f (fun k1 h1 f => ?_) (fun k1 h1 f => ?_)
 ·have q1 := h1; try simp [ZW] at q1
  simp
  exact rt [.tmp 2] f
 have q1 := h1; try simp [ZW] at q1
 simp
 refine lp1 (zW.eq_2 a0) (fun v1_0 => Yc 46 [eX 1 (a0.row.map .d), eL 26 1 a0.Yx sR, eI 27 (↑a0.Yx.length : Int), eI 28 (↑v1_0 : Int)]) (fun n1 v1_0 => a0.Yx.length < n1 + v1_0 ∧ v1_0 ≤ a0.Yx.length) (a0.Yx.length + 1) 0 (fun p1 v1_0 e1 j1 => ?_)
 refine cFf e1 (fun k3 h2 e1 => ?_) (fun k3 h2 e1 => ?_)
 ·have i1 := ix h2
  have m2 := ml a0.Yx (k3 26 _ rfl)
  have w1 := wr v1_0
  simp [i1, ZA]
  repeat with_reducible refine sd ?_
  refine gIf (fun G => ?_) (fun G => ?_)
  ·have i2 := ik v1_0 a0.Xl
   simp [i2, ZA, G]
   repeat with_reducible refine sdg ?_
   refine cGg (fun gg => (YA (nth a0.Xl v1_0) 1 1000000000000)) ?_
   refine cKo e1 (fun k4 h3 e1 => ?_) (fun k4 h3 e1 => ?_)
   ·try (simp [G] at h3; done)
    all_goals
     have q3 := h3; try simp [ZW] at q3
     have f := ms f e1
     simp [G]
     repeat with_reducible refine sdg ?_
     exact rtg [.tmp 2] f
   ·try (simp [G] at h3; done)
    all_goals
     have q3 := h3; try simp [ZW] at q3
     simp [G]
     repeat with_reducible refine sdg ?_
     exact ny1 (an w1 G) e1
  ·refine sGo ?_
   simp [G]
   repeat with_reducible refine sdg ?_
   refine cKo e1 (fun k5 h4 e1 => ?_) (fun k5 h4 e1 => ?_)
   ·try (simp [G] at h4; done)
    all_goals
     have q4 := h4; try simp [ZW] at q4
     have f := ms f e1
     simp [G]
     repeat with_reducible refine sdg ?_
     exact rtg [.tmp 2] f
   ·try (simp [G] at h4; done)
    all_goals
     have q4 := h4; try simp [ZW] at q4
     simp [G]
     repeat with_reducible refine sdg ?_
     exact ny1 (an w1 G) e1
 have f := ms f e1
 exact rt [.tmp 2] f
theorem ZPH (a0 : List UInt8) (u0 : Sm 2342912 a0) : Sd 278 [rL 1 bR a0] [rL 1 iR (kv a0)] := by
 have f := me (kv.eq_1 a0)
 refine soD Tryz.func278 Tryz.ntmps278 ?_
 refine lp2 (xk.eq_2 a0) (fun v1_0 v1_1 => Yc 19 [(3, .one (.sref 3 0 0 v1_0.length), [.arr false 1 (v1_0.map iR)]), eL 6 1 a0 bR, eI 7 (↑a0.length : Int), eI 8 (↑v1_1 : Int)]) (fun n1 v1_0 v1_1 => a0.length < n1 + v1_1 ∧ v1_1 ≤ a0.length ∧ v1_0.length ≤ 0 + 1 * v1_1) (a0.length + 1) ([] : List Int) 0 (fun p1 v1_0 v1_1 e1 j1 => ?_) (h0 := Yh [((3, 0), none)] [] rfl (by simp))
 refine cFf e1 (fun k2 h1 e1 => ?_) (fun k2 h1 e1 => ?_)
 ·have i1 := ix h1
  have m2 := ml a0 (k2 6 _ rfl)
  have c1 := sl 2342912 a0 u0
  have w1 := wr v1_1
  simp [i1, ZA]
  repeat with_reducible refine sd ?_
  exact nx2 e1 (hw := Yh [((3, 0), some (16, 0))] [] rfl (by simp [w1]))
 have c2 := sl 2342912 a0 u0
 have f := ms f e1
 exact rtD [.tmp 2] f
theorem ZUO (a0 : Int) (a1 : Int) : Sa 328 [rI a0, rI a1] [rI (ZQk a0 a1)] := by
 have f := me (ZQk.eq_1 a0 a1)
 refine so Tryz.func328 Tryz.ntmps328 ?_
 refine cRs (YA a1 1 1000000000000) ?_
 refine cFo f (fun k1 h1 f => ?_) (fun k1 h1 f => ?_)
 ·have q1 := h1; try simp [ZW] at q1
  simp
  exact rt [.tmp 4] f
 have q1 := h1; try simp [ZW] at q1
 simp
 repeat with_reducible refine sd ?_
 exact rt [.tmp 4] f
theorem ZOF (a0 : List Int) : Sa 279 [rL 1 iR a0] [rI (ZIi a0)] := by
 have f := me (ZIi.eq_1 a0)
 refine so Tryz.func279 Tryz.ntmps279 ?_
 refine lp2 (ZFl.eq_2 a0) (fun v1_0 v1_1 => Yc 21 [eI 3 v1_0, eL 6 1 a0 iR, eI 7 (↑a0.length : Int), eI 8 (↑v1_1 : Int)]) (fun n1 v1_0 v1_1 => a0.length < n1 + v1_1 ∧ v1_1 ≤ a0.length) (a0.length + 1) 11 0 (fun p1 v1_0 v1_1 e1 j1 => ?_)
 refine cFf e1 (fun k2 h1 e1 => ?_) (fun k2 h1 e1 => ?_)
 ·have i1 := ix h1
  have m2 := ml a0 (k2 6 _ rfl)
  have w1 := wr v1_1
  simp [i1, ZA]
  repeat with_reducible refine sd ?_
  refine cRs (ZUO (nth a0 v1_1) 2147483647) ?_
  exact ny2 w1 e1
 have f := ms f e1
 exact rt [.tmp 2] f
theorem J5 (a0 : Int) (a1 : List Int) (u0 : Sm 68719476736 a1) : Sa 213 [rI a0, rL 1 iR a1] [rI (Qq a0 a1)] := by
 have f := me (Qq.eq_1 a0 a1)
 have c1 := sl 68719476736 a1 u0
 refine so Tryz.func213 Tryz.ntmps213 ?_
 refine cRs (ZOF (([7, a0] : List Int) ++ a1)) ?_
 exact rt [.tmp 4] f
theorem ZKI (a0 : Int) (a1 : ByteArray) (a2 : Int) (u0 : Sm 2326528 a1) : Sa 212 [rI a0, rS a1, rI a2] [rI (jx a0 a1 a2)] := by
 have f := me (jx.eq_1 a0 a1 a2)
 refine so Tryz.func212 Tryz.ntmps212 ?_
 have c1 : a1.size ≤ 2326528 := ZPl (by simp (maxDischargeDepth := 12) [u0])
 refine ZVD (s := a1) rfl rfl rfl (by simp) (by simp) (by simp) (by simp) (by omega) ?_
 simp
 refine cRs (Yb.rd (ZPH a1.data.toList (by simp [Xr]; first | omega | (simp [ByteArray.size] at *; omega)))) ?_
 refine cRs (J5 a0 (([a2] : List Int) ++ (kv a1.data.toList)) (by simp (maxDischargeDepth := 12) [KD, Xr, ZX (m := 68719476736) (by decide) u0]; try omega)) ?_
 exact rt [.tmp 6] f
theorem ZFR (a0 : Int) (a1 : Zg) (u0 : Sm 2322432 a1) : Sa 146 [rI a0, a1.row] [rI (xI a0 a1)] := by
 have f := me (xI.eq_1 a0 a1)
 refine so Tryz.func146 Tryz.ntmps146 ?_
 refine cRs (ZJk a1) ?_
 refine cF f (fun k1 h1 f => ?_) (fun k1 h1 f => ?_)
 ·exact rt [.tmp 4] f
 refine lp2 (qZ.eq_2 a0 a1) (fun v1_0 v1_1 => Yc 37 [eI 0 a0, eX 3 (a1.row.map .d), (5, .one (.sref 5 0 0 v1_0.length), [.arr false 1 (v1_0.map iR)]), eL 15 1 a1.Yx sR, eI 16 (↑a1.Yx.length : Int), eI 17 (↑v1_1 : Int)]) (fun n1 v1_0 v1_1 => a1.Yx.length < n1 + v1_1 ∧ v1_1 ≤ a1.Yx.length ∧ v1_0.length ≤ 1 + 1 * v1_1) (a1.Yx.length + 1) ([a1.kW] : List Int) 0 (fun p1 v1_0 v1_1 e1 j1 => ?_) (h0 := Yh [((5, 0), some (13, 0))] [] rfl (by simp))
 try dsimp only at j1
 refine cFf e1 (fun k3 h2 e1 => ?_) (fun k3 h2 e1 => ?_)
 ·have i1 := ix h2
  have m2 := ml a1.Yx (k3 15 _ rfl)
  have c1 := sl 2322432 a1.Yx u0
  have w1 := wr v1_1
  have i2 : v1_1 < a1.Xl.length := by (have := ZIy (a := a1); first | (simp_all; done) | (simp_all; omega))
  simp [i1, ZA, i2]
  repeat with_reducible refine sd ?_
  refine cRs (ZKI a0 (nth a1.Yx v1_1) (nth a1.Xl v1_1) (sg (Z2 (Zg.ZH5 u0)))) ?_
  exact nx2 e1 (hw := Yh [((5, 0), some (32, 0))] [] rfl (by simp [w1]))
 have c2 := sl 2322432 a1.Yx u0
 have f := ms f e1
 refine cRs (J5 a0 v1_0 (by first | (simp (maxDischargeDepth := 12) [Xr]; omega) | (simp (maxDischargeDepth := 12) [ZX (m := 68719476736) (by decide) u0]; done))) ?_
 exact rt [.tmp 4] f
theorem ZKV (a0 : ZN) (a1 : Zg) (u0 : Sm 2318336 a0) (u1 : Sm 2318336 a1) : Sd 210 [a0.row, a1.row] [rL 1 iR (K5 a0 a1)] := by
 have f := me (K5.eq_1 a0 a1)
 refine soD Tryz.func210 Tryz.ntmps210 ?_
 refine lp2 (KU.eq_2 a0 a1) (fun v1_0 v1_1 => Yc 24 [eX 3 (a1.row.map .d), (5, .one (.sref 5 0 0 v1_0.length), [.arr false 1 (v1_0.map iR)]), eL 9 5 a0.ZR ZS.row, eI 10 (↑a0.ZR.length : Int), eI 11 (↑v1_1 : Int)]) (fun n1 v1_0 v1_1 => a0.ZR.length < n1 + v1_1 ∧ v1_1 ≤ a0.ZR.length ∧ v1_0.length ≤ 0 + 1 * v1_1) (a0.ZR.length + 1) ([] : List Int) 0 (fun p1 v1_0 v1_1 e1 j1 => ?_) (h0 := Yh [((5, 0), none)] [] rfl (by simp))
 refine cFf e1 (fun k2 h1 e1 => ?_) (fun k2 h1 e1 => ?_)
 ·have i1 := ix h1
  have m2 := ml a0.ZR (k2 9 _ rfl)
  have c1 := sl 2318336 a0.ZR (an u0 u1)
  have w1 := wr v1_1
  simp [i1, ZA]
  repeat with_reducible refine sd ?_
  refine cRs (ZFR (nth a0.ZR v1_1).Method a1 (sg u1)) ?_
  exact nx2 e1 (hw := Yh [((5, 0), some (21, 0))] [] rfl (by simp [w1]))
 have c2 := sl 2318336 a0.ZR (an u0 u1)
 have f := ms f e1
 exact rtD [.tmp 4] f
theorem ZGp {a b : Prop} (h : b) (k : a := by (intros; first | omega | with_unfolding_all (first | (first | omega | (have z := Yw (ZI.Yr u0); omega))) | ((try simp only [J7, show ∀ x, IntKind.i64.wrap x = W x from fun _ => rfl] at *); omega))) : a ∧ b := ⟨k, h⟩
theorem ZGb (a0 : ZI) (a1 : Zg) (u0 : Sm 2314240 a0) (u1 : Sm 2314240 a1) : Sd 145 [a0.row, a1.row] [rL 1 (slR 1 iR) (Jo a0 a1)] := by
 have f := me (Jo.eq_1 a0 a1)
 refine soD Tryz.func145 Tryz.ntmps145 ?_
 refine lp2 (QV.eq_2 a0 a1) (fun v1_0 v1_1 => Yc 23 [eX 3 (a1.row.map .d), (5, .one (.sref 5 0 0 v1_0.length), [.arr true 1 (v1_0.map (slR 1 iR))]), eL 9 2 a0.ZK ZN.row, eI 10 (↑a0.ZK.length : Int), eI 11 (↑v1_1 : Int)]) (fun n1 v1_0 v1_1 => a0.ZK.length < n1 + v1_1 ∧ v1_1 ≤ a0.ZK.length ∧ v1_0.length ≤ v1_1) (a0.ZK.length + 1) ([] : List (List Int)) 0 (fun p1 v1_0 v1_1 e1 j1 => ?_) (h0 := Yh [((5, 0), none)] [] rfl (by simp))
 try dsimp only at j1
 refine cFf e1 (fun k2 h1 e1 => ?_) (fun k2 h1 e1 => ?_)
 ·have i1 := ix h1
  have m2 := ml a0.ZK (k2 9 _ rfl)
  have c1 := sl 2314240 a0.ZK (an u0 u1)
  have w1 := wr v1_1
  simp [i1, ZA]
  repeat with_reducible refine ZGp ?_
  refine cDs [false] (ZKV (nth a0.ZK v1_1) a1 (sg (Z2 (ZI.Yr u0))) (sg u1)) ?_
  refine ZWe rfl rfl rfl (by simp) (by simp) (by simp) ?_
  simp
  refine ZV8 (olds := (v1_0.map (slR 1 iR))) (news := (([(K5 (nth a0.ZK v1_1) a1)] : List (List Int)).map (slR 1 iR))) (l1 := [(5, 0)]) (l2 := [(18, 0)]) (size := 1) rfl rfl rfl rfl (by simp) (by simp) (by simp) (by simp) (by simp) (by simp; (first | omega | (have z := Yw (ZI.Yr u0); omega))) ?_
  simp
  exact nx2 e1 (hw := Yh [((5, 0), some (20, 0))] [] rfl (by simp [w1]))
 have c2 := sl 2314240 a0.ZK (an u0 u1)
 have f := ms f e1
 exact rtD [.tmp 4] f
theorem yO (a0 : Int) : Sa 163 [rI a0] [rB (zp a0)] := by
 have f := me (zp.eq_1 a0)
 refine so Tryz.func163 Tryz.ntmps163 ?_
 refine cRs (YA a0 0 10000) ?_
 exact rt [.tmp 2] f
theorem ZKG (a0 : Int) : Sa 288 [rI a0] [rB (jk a0)] := by
 have f := me (jk.eq_1 a0)
 refine so Tryz.func288 Tryz.ntmps288 ?_
 refine cRs (YA a0 1 2147483646) ?_
 exact rt [.tmp 2] f
theorem ZRR (a0 : YC) : Sa 228 [a0.row] [rB (ZHN a0)] := by
 have f := me (ZHN.eq_1 a0)
 refine so Tryz.func228 Tryz.ntmps228 ?_
 refine cRs (YA a0.Number 1 99) ?_
 refine cGs (fun gg => (YA a0.Kb 0 99)) ?_
 refine cGs (fun gg => (YA a0.Method 0 99)) ?_
 refine cGs (fun gg => (yO a0.ZIX)) ?_
 refine cGs (fun gg => (ZKG a0.kp)) ?_
 exact rt [.tmp 2] f
theorem ZPo (a0 : List YC) : Sa 160 [rL 5 YC.row a0] [rB (ZDb a0)] := by
 have f := me (ZDb.eq_1 a0)
 refine so Tryz.func160 Tryz.ntmps160 ?_
 refine lp1 (ZAU.eq_2 a0) (fun v1_0 => Yc 34 [eL 0 5 a0 YC.row, eL 5 5 a0 YC.row, eI 6 (↑a0.length : Int), eI 7 (↑v1_0 : Int)]) (fun n1 v1_0 => a0.length < n1 + v1_0 ∧ v1_0 ≤ a0.length) (a0.length + 1) 0 (fun p1 v1_0 e1 j1 => ?_)
 refine cFf e1 (fun k2 h1 e1 => ?_) (fun k2 h1 e1 => ?_)
 ·have i1 := ix h1
  have m2 := ml a0 (k2 0 _ rfl)
  have w1 := wr v1_0
  simp [i1, ZA]
  repeat with_reducible refine sd ?_
  refine dIs mixed ?_
  refine cRs (ZRR (nth a0 v1_0)) ?_
  refine gIf (fun G => ?_) (fun G => ?_)
  ·have i2 := ik (v1_0 - 1) a0
   have w2 : IntKind.i64.wrap ((v1_0 : Int) - 1) = (v1_0 : Int) - 1 := Yd (by omega) (by omega)
   simp [i2, ZA, w2, QW, G]
   repeat with_reducible refine sdg ?_
   refine cK e1 (fun k4 h2 e1 => ?_) (fun k4 h2 e1 => ?_)
   ·try (simp [G] at h2; done)
    all_goals
     have f := ms f e1
     exact rtg [.tmp 2] f
   ·try (simp [G] at h2; done)
    all_goals
     exact ny1 (an w1 (an w2 G)) e1
  ·refine cK e1 (fun k5 h3 e1 => ?_) (fun k5 h3 e1 => ?_)
   ·try (simp [G] at h3; done)
    all_goals
     have f := ms f e1
     exact rtg [.tmp 2] f
   ·try (simp [G] at h3; done)
    all_goals
     exact ny1 (an w1 G) e1
 have f := ms f e1
 exact rt [.tmp 2] f
theorem ZGF (a0 : List ZE) : Sa 161 [rL 3 ZE.row a0] [rB (zU a0)] := by
 have f := me (zU.eq_1 a0)
 refine so Tryz.func161 Tryz.ntmps161 ?_
 refine lp1 (KM.eq_2 a0) (fun v1_0 => Yc 47 [eL 0 3 a0 ZE.row, eL 5 3 a0 ZE.row, eI 6 (↑a0.length : Int), eI 7 (↑v1_0 : Int)]) (fun n1 v1_0 => a0.length < n1 + v1_0 ∧ v1_0 ≤ a0.length) (a0.length + 1) 0 (fun p1 v1_0 e1 j1 => ?_)
 refine cFf e1 (fun k2 h1 e1 => ?_) (fun k2 h1 e1 => ?_)
 ·have i1 := ix h1
  have m2 := ml a0 (k2 0 _ rfl)
  have w1 := wr v1_0
  simp [i1, ZA]
  repeat with_reducible refine sd ?_
  refine dIs mixed ?_
  refine cRs (YA (nth a0 v1_0).Id 0 99) ?_
  refine cGs (fun gg => (YA (nth a0 v1_0).Key 1 99)) ?_
  refine cGs (fun gg => (YA (nth a0 v1_0).Error 0 100)) ?_
  refine gIf (fun G => ?_) (fun G => ?_)
  ·have i2 := ik (v1_0 - 1) a0
   have w2 : IntKind.i64.wrap ((v1_0 : Int) - 1) = (v1_0 : Int) - 1 := Yd (by omega) (by omega)
   simp [i2, ZA, w2, QW, G]
   repeat with_reducible refine sdg ?_
   refine cKo e1 (fun k4 h2 e1 => ?_) (fun k4 h2 e1 => ?_)
   ·try (simp [G] at h2; done)
    all_goals
     have q2 := h2; try simp [ZW] at q2
     have f := ms f e1
     simp [G]
     repeat with_reducible refine sdg ?_
     exact rtg [.tmp 2] f
   ·try (simp [G] at h2; done)
    all_goals
     have q2 := h2; try simp [ZW] at q2
     simp [G]
     repeat with_reducible refine sdg ?_
     exact ny1 (an w1 (an w2 G)) e1
  ·refine cKo e1 (fun k5 h3 e1 => ?_) (fun k5 h3 e1 => ?_)
   ·try (simp [G] at h3; done)
    all_goals
     have q3 := h3; try simp [ZW] at q3
     have f := ms f e1
     simp [G]
     repeat with_reducible refine sdg ?_
     exact rtg [.tmp 2] f
   ·try (simp [G] at h3; done)
    all_goals
     have q3 := h3; try simp [ZW] at q3
     simp [G]
     repeat with_reducible refine sdg ?_
     exact ny1 (an w1 G) e1
 have f := ms f e1
 exact rt [.tmp 2] f
theorem ZNL (a0 : Zl) : Sa 229 [a0.row] [rB (ZBk a0)] := by
 have f := me (ZBk.eq_1 a0)
 refine so Tryz.func229 Tryz.ntmps229 ?_
 refine cRs (YA a0.Id 0 99) ?_
 refine cGs (fun gg => (yO a0.ZDY)) ?_
 refine cGs (fun gg => (YA a0.Ends 1 10001)) ?_
 refine cGs (fun gg => (YA a0.kj 1 10001)) ?_
 exact rt [.tmp 2] f
theorem ZJq (a0 : List Zl) : Sa 162 [rL 4 Zl.row a0] [rB (jl a0)] := by
 have f := me (jl.eq_1 a0)
 refine so Tryz.func162 Tryz.ntmps162 ?_
 refine lp1 (xM.eq_2 a0) (fun v1_0 => Yc 34 [eL 0 4 a0 Zl.row, eL 5 4 a0 Zl.row, eI 6 (↑a0.length : Int), eI 7 (↑v1_0 : Int)]) (fun n1 v1_0 => a0.length < n1 + v1_0 ∧ v1_0 ≤ a0.length) (a0.length + 1) 0 (fun p1 v1_0 e1 j1 => ?_)
 refine cFf e1 (fun k2 h1 e1 => ?_) (fun k2 h1 e1 => ?_)
 ·have i1 := ix h1
  have m2 := ml a0 (k2 0 _ rfl)
  have w1 := wr v1_0
  simp [i1, ZA]
  repeat with_reducible refine sd ?_
  refine dIs mixed ?_
  refine cRs (ZNL (nth a0 v1_0)) ?_
  refine gIf (fun G => ?_) (fun G => ?_)
  ·have i2 := ik (v1_0 - 1) a0
   have w2 : IntKind.i64.wrap ((v1_0 : Int) - 1) = (v1_0 : Int) - 1 := Yd (by omega) (by omega)
   simp [i2, ZA, w2, QW, G]
   repeat with_reducible refine sdg ?_
   refine cK e1 (fun k4 h2 e1 => ?_) (fun k4 h2 e1 => ?_)
   ·try (simp [G] at h2; done)
    all_goals
     have f := ms f e1
     exact rtg [.tmp 2] f
   ·try (simp [G] at h2; done)
    all_goals
     exact ny1 (an w1 (an w2 G)) e1
  ·refine cK e1 (fun k5 h3 e1 => ?_) (fun k5 h3 e1 => ?_)
   ·try (simp [G] at h3; done)
    all_goals
     have f := ms f e1
     exact rtg [.tmp 2] f
   ·try (simp [G] at h3; done)
    all_goals
     exact ny1 (an w1 G) e1
 have f := ms f e1
 exact rt [.tmp 2] f
theorem ZPq (a0 : ZF) : Sa 127 [a0.row] [rB (ZBX a0)] := by
 have f := me (ZBX.eq_1 a0)
 refine so Tryz.func127 Tryz.ntmps127 ?_
 refine cRs (ZPo a0.Y3) ?_
 refine cGs (fun gg => (ZGF a0.ZT)) ?_
 refine cGs (fun gg => (ZJq a0.Methods)) ?_
 refine cGs (fun gg => (YA a0.Q6 0 6)) ?_
 refine cGs (fun gg => (yO a0.Now)) ?_
 exact rt [.tmp 2] f
theorem ZBT (a0 : Int) : Sa 193 [rI a0] [(ZFt a0).row] := by
 have f := me (ZFt.eq_1 a0)
 refine so Tryz.func193 Tryz.ntmps193 ?_
 exact rt [.cell 2 79] f
theorem ZDK (a0 : ZY) : Sa 194 [a0.row] [rB (zR a0)] := by
 have f := me (zR.eq_1 a0)
 refine so Tryz.func194 Tryz.ntmps194 ?_
 refine cRs (YA a0.Key 1 99) ?_
 refine cGs (fun gg => (YA a0.YO 1 999)) ?_
 refine cGs (fun gg => (YA a0.Method 0 99)) ?_
 refine cGs (fun gg => (YA a0.Org 0 99)) ?_
 refine cGs (fun gg => (YA a0.ZAx 1 3)) ?_
 refine cGs (fun gg => (YA a0.XC 0 1000000000000)) ?_
 refine cGs (fun gg => (YA a0.ZA1 0 1000000000000)) ?_
 refine cGs (fun gg => (YA a0.xD 0 1000000000000)) ?_
 exact rt [.tmp 2] f
theorem ZEU (a0 : Int) : Sa 195 [rI a0] [(ZDq a0).row] := by
 have f := me (ZDq.eq_1 a0)
 refine so Tryz.func195 Tryz.ntmps195 ?_
 exact rt [.cell 2 79] f
theorem qA (a0 : List YC) (a1 : Int) : Sa 196 [rL 5 YC.row a0, rI a1] [rI (Y5 a0 a1)] := by
 have f := me (Y5.eq_1 a0 a1)
 refine so Tryz.func196 Tryz.ntmps196 ?_
 refine lp1 (jO.eq_2 a0 a1) (fun v1_0 => Yc 20 [eI 1 a1, eL 7 5 a0 YC.row, eI 8 (↑a0.length : Int), eI 9 (↑v1_0 : Int)]) (fun n1 v1_0 => a0.length < n1 + v1_0 ∧ v1_0 ≤ a0.length) (a0.length + 1) 0 (fun p1 v1_0 e1 j1 => ?_)
 refine cFf e1 (fun k2 h1 e1 => ?_) (fun k2 h1 e1 => ?_)
 ·have i1 := ix h1
  have m2 := ml a0 (k2 7 _ rfl)
  have w1 := wr v1_0
  simp [i1, ZA]
  repeat with_reducible refine sd ?_
  refine cF e1 (fun k3 h2 e1 => ?_) (fun k3 h2 e1 => ?_)
  ·have f := ms f e1
   exact rt [.tmp 4] f
  exact ny1 w1 e1
 have f := ms f e1
 exact rt [.tmp 4] f
theorem ZBt (a0 : ZY) : Sd 259 [a0.row] [rL 1 iR (Xx a0)] := by
 have f := me (Xx.eq_1 a0)
 refine soD Tryz.func259 Tryz.ntmps259 ?_
 exact rtD [.tmp 2] f
theorem ZLh (a0 : Int) (a1 : List Int) (u0 : Sm 2330624 a1) : Sa 331 [rI a0, rL 1 iR a1] [rI (ZAb a0 a1)] := by
 have f := me (ZAb.eq_1 a0 a1)
 have c1 := sl 2330624 a1 u0
 refine so Tryz.func331 Tryz.ntmps331 ?_
 refine cRs (ZOF ((([a0] : List Int) ++ a1) ++ ([a0] : List Int))) ?_
 exact rt [.tmp 4] f
theorem ZMn (a0 : YC) (a1 : List Int) (u0 : Sm 2326528 a1) : Sa 289 [a0.row, rL 1 iR a1] [rI (ZBf a0 a1)] := by
 have f := me (ZBf.eq_1 a0 a1)
 refine so Tryz.func289 Tryz.ntmps289 ?_
 refine ZSP [2, 3, 4, 5, 6, 0, 1, 7, 8] mixed (by kernel_rfl) (by kernel_rfl) (by kernel_rfl) ?_
 have c1 := sl 2326528 a1 u0
 simp
 repeat with_reducible refine sd ?_
 refine cRs (ZLh a0.kp (([a0.Method] : List Int) ++ a1) (by simp (maxDischargeDepth := 12) [KD, Xr, ZX (m := 2330624) (by decide) u0]; try omega)) ?_
 exact rt [.tmp 4] f
theorem ZJA (a0 : List YC) (a1 : Int) (a2 : List Int) (u0 : Sm 2322432 a0) (u1 : Sm 2322432 a2) : Sa 232 [rL 5 YC.row a0, rI a1, rL 1 iR a2] [rI (qg a0 a1 a2).1, rB (qg a0 a1 a2).2] := by
 have f := me (qg.eq_1 a0 a1 a2)
 refine so Tryz.func232 Tryz.ntmps232 ?_
 refine cRs (qA a0 a1) ?_
 refine cFt f (fun k1 h1 f => ?_) (fun k1 h1 f => ?_)
 ·exact rt [.tmp 6, .tmp 7] f
 have i1 : (Y5 a0 a1).toNat < a0.length := by have := kT a0 a1; exact il
 simp [i1, ZA]
 repeat with_reducible refine sd ?_
 refine cRs (ZMn (nth a0 (Y5 a0 a1).toNat) a2 (sg u1)) ?_
 exact rt [.tmp 6, .tmp 7] f
theorem Qg (a0 : List YC) (a1 : Int) (a2 : List Int) (a3 : Int) (u0 : Sm 2318336 a0) (u1 : Sm 2318336 a2) : Sa 165 [rL 5 YC.row a0, rI a1, rL 1 iR a2, rI a3] [rB (X7 a0 a1 a2 a3)] := by
 have f := me (X7.eq_1 a0 a1 a2 a3)
 refine so Tryz.func165 Tryz.ntmps165 ?_
 refine cRs (ZJA a0 a1 a2 (sg u0) (sg u1)) ?_
 exact rt [.tmp 8] f
theorem ZGG (a0 : List YC) (a1 : ZY) (u0 : Sm 2314240 a0) : Sa 197 [rL 5 YC.row a0, a1.row] [rB (KK a0 a1)] := by
 have f := me (KK.eq_1 a0 a1)
 refine so Tryz.func197 Tryz.ntmps197 ?_
 refine dIs mixed ?_
 refine cRs (ZDK a1) ?_
 refine cGs (fun gg => Yb.rd (ZBt a1)) ?_
 refine cGs (fun gg => (Qg a0 a1.Key (Xx a1) a1.Mark (sg u0) (by simp (maxDischargeDepth := 12) [ZB2, ZX (m := 2318336) (by decide) u0]; try omega))) ?_
 exact rt [.tmp 4] f
theorem ZMI (a0 : ZY) : Sd 199 [a0.row] [(XY a0).row] := by
 have f := me (XY.eq_1 a0)
 refine soD Tryz.func199 Tryz.ntmps199 ?_
 refine dIs mixed ?_
 refine cDs [false] (ZBt a0) ?_
 exact rtD [.cell 2 194] f
theorem ZLp (a0 : List Int) (a1 : List Int) : Sa 290 [rL 1 iR a0, rL 1 iR a1] [rB (ZCM a0 a1)] := by
 have f := me (ZCM.eq_1 a0 a1)
 refine so Tryz.func290 Tryz.ntmps290 ?_
 refine cF f (fun k1 h1 f => ?_) (fun k1 h1 f => ?_)
 ·exact rt [.tmp 4] f
 refine lp1 (ZAK.eq_2 a0 a1) (fun v1_0 => Yc 26 [eL 0 1 a0 iR, eL 1 1 a1 iR, eI 12 (↑a0.length : Int), eI 13 (↑v1_0 : Int)]) (fun n1 v1_0 => a0.length < n1 + v1_0 ∧ v1_0 ≤ a0.length) (a0.length + 1) 0 (fun p1 v1_0 e1 j1 => ?_)
 refine cF e1 (fun k3 h2 e1 => ?_) (fun k3 h2 e1 => ?_)
 ·have i1 := ix h2
  have m2 := ml a0 (k3 0 _ rfl)
  have w1 := wr v1_0
  refine dIo mixed ?_
  have i2 := ik v1_0 a1
  simp [i1, ZA, i2]
  repeat with_reducible refine sd ?_
  refine cF e1 (fun k5 h3 e1 => ?_) (fun k5 h3 e1 => ?_)
  ·have f := ms f e1
   exact rt [.tmp 4] f
  exact ny1 w1 e1
 have f := ms f e1
 exact rt [.tmp 4] f
theorem ZDj (a0 : ZB) (a1 : ZB) : Sa 234 [a0.row, a1.row] [rB (zQ a0 a1)] := by
 have f := me (zQ.eq_1 a0 a1)
 refine so Tryz.func234 Tryz.ntmps234 ?_
 refine cGs (fun gg => (ZLp a0.Zb a1.Zb)) ?_
 exact rt [.tmp 4] f
theorem ZLd (a0 : ZN) (a1 : ZB) : Sa 310 [a0.row, a1.row] [rI (xL a0 a1)] := by
 have f := me (xL.eq_1 a0 a1)
 refine so Tryz.func310 Tryz.ntmps310 ?_
 refine lp1 (qa.eq_2 a0 a1) (fun v1_0 => Yc 20 [eX 3 (a1.row.map .d), eL 8 3 a0.ZZ ZB.row, eI 9 (↑a0.ZZ.length : Int), eI 10 (↑v1_0 : Int)]) (fun n1 v1_0 => a0.ZZ.length < n1 + v1_0 ∧ v1_0 ≤ a0.ZZ.length) (a0.ZZ.length + 1) 0 (fun p1 v1_0 e1 j1 => ?_)
 refine cFf e1 (fun k2 h1 e1 => ?_) (fun k2 h1 e1 => ?_)
 ·have i1 := ix h1
  have m2 := ml a0.ZZ (k2 8 _ rfl)
  have w1 := wr v1_0
  simp [i1, ZA]
  repeat with_reducible refine sd ?_
  refine cRs (ZDj (nth a0.ZZ v1_0) a1) ?_
  refine cF e1 (fun k3 h2 e1 => ?_) (fun k3 h2 e1 => ?_)
  ·have f := ms f e1
   exact rt [.tmp 4] f
  exact ny1 w1 e1
 have f := ms f e1
 exact rt [.tmp 4] f
theorem jD (a0 : List ZE) (a1 : Int) : Sa 133 [rL 3 ZE.row a0, rI a1] [rI (YP a0 a1)] := by
 have f := me (YP.eq_1 a0 a1)
 refine so Tryz.func133 Tryz.ntmps133 ?_
 refine lp1 (JZ.eq_2 a0 a1) (fun v1_0 => Yc 20 [eI 1 a1, eL 7 3 a0 ZE.row, eI 8 (↑a0.length : Int), eI 9 (↑v1_0 : Int)]) (fun n1 v1_0 => a0.length < n1 + v1_0 ∧ v1_0 ≤ a0.length) (a0.length + 1) 0 (fun p1 v1_0 e1 j1 => ?_)
 refine cFf e1 (fun k2 h1 e1 => ?_) (fun k2 h1 e1 => ?_)
 ·have i1 := ix h1
  have m2 := ml a0 (k2 7 _ rfl)
  have w1 := wr v1_0
  simp [i1, ZA]
  repeat with_reducible refine sd ?_
  refine cF e1 (fun k3 h2 e1 => ?_) (fun k3 h2 e1 => ?_)
  ·have f := ms f e1
   exact rt [.tmp 4] f
  exact ny1 w1 e1
 have f := ms f e1
 exact rt [.tmp 4] f
theorem JO (a0 : ZD) : Sa 230 [a0.row] [rB (YZ a0)] := by
 have f := me (YZ.eq_1 a0)
 refine so Tryz.func230 Tryz.ntmps230 ?_
 refine cRs (yO a0.YQ) ?_
 refine cGs (fun gg => (yO a0.To)) ?_
 exact rt [.tmp 2] f
theorem ZCt (a0 : Int) (a1 : Int) : Sa 323 [rI a0, rI a1] [(Jh a0 a1).1.row, rB (Jh a0 a1).2] := by
 have f := me (Jh.eq_1 a0 a1)
 refine so Tryz.func323 Tryz.ntmps323 ?_
 refine cGs (fun gg => (JO (ZD.mk (if 0 > a0 then 0 else a0) (if 10000 < a1 then 10000 else a1)))) ?_
 refine cF f (fun k1 h1 f => ?_) (fun k1 h1 f => ?_)
 ·exact rt [.cell 4 77, .tmp 5] f
 exact rt [.cell 4 77, .tmp 5] f
theorem ZLa (a0 : List ZE) (a1 : Za) : Sa 318 [rL 3 ZE.row a0, a1.row] [(KA a0 a1).1.row, rB (KA a0 a1).2] := by
 have f := me (KA.eq_1 a0 a1)
 refine so Tryz.func318 Tryz.ntmps318 ?_
 refine cRs (jD a0 a1.Authority) ?_
 refine gIf (fun G => ?_) (fun G => ?_)
 ·have i1 : (YP a0 a1.Authority).toNat < a0.length := by have := yb a0 a1.Authority; exact il
  simp [i1, ZA, G]
  repeat with_reducible refine sdg ?_
  refine cGg (fun gg => (yO a1.Time)) ?_
  refine cK f (fun k1 h1 f => ?_) (fun k1 h1 f => ?_)
  ·try (simp [G] at h1; done)
   all_goals
    exact rtg [.cell 4 77, .tmp 5] f
  ·try (simp [G] at h1; done)
   all_goals
    refine dIo mixed ?_
    simp [i1, ZA, G]
    repeat with_reducible refine sdg ?_
    refine cRg (ZCt (W (a1.Time - (nth a0 (YP a0 a1.Authority).toNat).Error)) (W (a1.Time + (nth a0 (YP a0 a1.Authority).toNat).Error))) ?_
    exact rtg [.cell 4 77, .tmp 5] f
 ·refine cGg (fun gg => (yO a1.Time)) ?_
  refine cK f (fun k3 h2 f => ?_) (fun k3 h2 f => ?_)
  ·try (simp [G] at h2; done)
   all_goals
    exact rtg [.cell 4 77, .tmp 5] f
  ·try (simp [G] at h2; done)
   all_goals
    refine dIo mixed ?_
    have i3 : (YP a0 a1.Authority).toNat < a0.length := by have := yb a0 a1.Authority; exact il
    simp [i3, ZA, G]
    repeat with_reducible refine sdg ?_
    refine cRg (ZCt (W (a1.Time - (nth a0 (YP a0 a1.Authority).toNat).Error)) (W (a1.Time + (nth a0 (YP a0 a1.Authority).toNat).Error))) ?_
    exact rtg [.cell 4 77, .tmp 5] f
theorem ZO3 (a0 : List ZD) (a1 : Int) : Sa 356 [rL 2 ZD.row a0, rI a1] [rI (kg a0 a1)] := by
 have f := me (kg.eq_1 a0 a1)
 refine so Tryz.func356 Tryz.ntmps356 ?_
 refine lp2 (yH.eq_2 a0 a1) (fun v1_0 v1_1 => Yc 28 [eI 1 a1, eI 5 v1_0, eL 8 2 a0 ZD.row, eI 9 (↑a0.length : Int), eI 10 (↑v1_1 : Int)]) (fun n1 v1_0 v1_1 => a0.length < n1 + v1_1 ∧ v1_1 ≤ a0.length) (a0.length + 1) 0 0 (fun p1 v1_0 v1_1 e1 j1 => ?_)
 refine cFf e1 (fun k2 h1 e1 => ?_) (fun k2 h1 e1 => ?_)
 ·have i1 := ix h1
  have m2 := ml a0 (k2 8 _ rfl)
  have w1 := wr v1_1
  simp [i1, ZA]
  repeat with_reducible refine sd ?_
  refine cRs (JO (nth a0 v1_1)) ?_
  refine cGs (fun gg => (YA a1 (nth a0 v1_1).YQ (nth a0 v1_1).To)) ?_
  refine cFo e1 (fun k3 h2 e1 => ?_) (fun k3 h2 e1 => ?_)
  ·have q2 := h2; try simp [ZW] at q2
   simp
   exact ny2 w1 e1
  have q2 := h2; try simp [ZW] at q2
  simp
  exact ny2 w1 e1
 have f := ms f e1
 exact rt [.tmp 4] f
theorem ZIp (a0 : List ZD) (a1 : Int) (a2 : Int) : Sa 343 [rL 2 ZD.row a0, rI a1, rI a2] [rB (Zw a0 a1 a2)] := by
 have f := me (Zw.eq_1 a0 a1 a2)
 refine so Tryz.func343 Tryz.ntmps343 ?_
 refine cRs (YA a2 0 (W ((↑a0.length : Int) - 1))) ?_
 refine cGs (fun gg => (ZO3 a0 a1)) ?_
 exact rt [.tmp 6] f
theorem ZJt (a0 : List ZD) (a1 : Int) : Sa 319 [rL 2 ZD.row a0, rI a1] [(yY a0 a1).1.row, rB (yY a0 a1).2] := by
 have f := me (yY.eq_1 a0 a1)
 refine so Tryz.func319 Tryz.ntmps319 ?_
 refine lp4 (QX.eq_2 a0 a1) (fun v1_0 v1_1 v1_2 v1_3 => Yc 25 [eL 0 2 a0 ZD.row, eI 1 a1, (4, .one (.bptr 4 0), [.box [.d (.int .i64 0), .d (.int .i64 0)]]), (6, .one (.bptr 6 0), [.box [.d (.int .i64 v1_2), .d (.int .i64 v1_3)]]), eB 7 v1_0, eI 8 (↑v1_1 : Int)]) (fun n1 v1_0 v1_1 v1_2 v1_3 => 10001 < n1 + v1_1) 10002 false 0 0 0 (fun p1 v1_0 v1_1 v1_2 v1_3 e1 j1 => ?_)
 refine cF e1 (fun k2 h1 e1 => ?_) (fun k2 h1 e1 => ?_)
 ·have w1 := wr v1_1
  refine cRs (ZIp a0 (↑v1_1 : Int) a1) ?_
  refine cF e1 (fun k3 h2 e1 => ?_) (fun k3 h2 e1 => ?_)
  ·refine cF e1 (fun k4 h3 e1 => ?_) (fun k4 h3 e1 => ?_)
   ·exact ny4 w1 e1
   exact ny4 w1 e1
  exact ny4 w1 e1
 have f := ms f e1
 exact rt [.cell 4 77, .tmp 5] f
theorem ZCv (a0 : List ZE) (a1 : List Za) (a2 : Int) (u0 : Sm 2318336 a0) (u1 : Sm 2318336 a1) : Sa 271 [rL 3 ZE.row a0, rL 5 Za.row a1, rI a2] [(QK a0 a1 a2).1.row, rB (QK a0 a1 a2).2] := by
 have f := me (QK.eq_1 a0 a1 a2)
 refine so Tryz.func271 Tryz.ntmps271 ?_
 refine lp2 (X4.eq_2 a0 a1) (fun v1_0 v1_1 => Yc 38 [eL 0 3 a0 ZE.row, eI 2 a2, (6, .one (.bptr 6 0), [.box [.d (.int .i64 0), .d (.int .i64 0)]]), (8, .one (.sref 8 0 0 v1_0.length), [.arr false 2 (v1_0.map ZD.row)]), eL 13 5 a1 Za.row, eI 14 (↑a1.length : Int), eI 15 (↑v1_1 : Int)]) (fun n1 v1_0 v1_1 => a1.length < n1 + v1_1 ∧ v1_1 ≤ a1.length ∧ v1_0.length ≤ 0 + 1 * v1_1) (a1.length + 1) ([] : List ZD) 0 (fun p1 v1_0 v1_1 e1 j1 => ?_) (h0 := Yh [((8, 0), none)] [] rfl (by simp))
 refine cFf e1 (fun k2 h1 e1 => ?_) (fun k2 h1 e1 => ?_)
 ·have i1 := ix h1
  have m2 := ml a1 (k2 13 _ rfl)
  have c1 := sl 2318336 a1 (an u0 u1)
  have w1 := wr v1_1
  simp [i1, ZA]
  repeat with_reducible refine sd ?_
  refine cRs (ZLa a0 (nth a1 v1_1)) ?_
  refine cF e1 (fun k3 h2 e1 => ?_) (fun k3 h2 e1 => ?_)
  ·have f := ms f e1
   exact rt [.cell 6 77, .tmp 7] f
  exact nx2 e1 (hw := Yh [((8, 0), some (31, 0))] [] rfl (by simp [w1]))
 have c2 := sl 2318336 a1 (an u0 u1)
 have f := ms f e1
 refine cRs (ZJt v1_0 a2) ?_
 exact rt [.cell 6 77, .tmp 7] f
theorem ZI1 (a0 : List ZE) (a1 : ZS) (a2 : Int) (u0 : Sm 2314240 a0) (u1 : Sm 2314240 a1) : Sa 355 [rL 3 ZE.row a0, a1.row, rI a2] [(KB a0 a1 a2).1.row, rB (KB a0 a1 a2).2] := by
 have f := me (KB.eq_1 a0 a1 a2)
 refine so Tryz.func355 Tryz.ntmps355 ?_
 refine cRs (ZCv a0 a1.Zi a2 (sg u0) (sg (ZS.ZF3 u1))) ?_
 exact rt [.cell 6 77, .tmp 7] f
theorem j7 (a0 : ZF) (a1 : ZS) (u0 : Sm 2310144 a0) (u1 : Sm 2310144 a1) : Sa 342 [a0.row, a1.row] [(Xs a0 a1).1.row, rB (Xs a0 a1).2] := by
 have f := me (Xs.eq_1 a0 a1)
 refine so Tryz.func342 Tryz.ntmps342 ?_
 refine cRs (ZI1 a0.ZT a1 a0.Q6 (sg (ZF.Qf u0)) (sg u1)) ?_
 exact rt [.cell 4 77, .tmp 5] f
theorem ZBx (a0 : Za) : Sd 317 [a0.row] [rL 1 iR (Ql a0)] := by
 have f := me (Ql.eq_1 a0)
 refine soD Tryz.func317 Tryz.ntmps317 ?_
 exact rtD [.tmp 2] f
theorem ZCE (a0 : Int) (a1 : ZS) (u0 : Sm 2326528 a1) : Sa 362 [rI a0, a1.row] [rI (Jj a0 a1)] := by
 have f := me (Jj.eq_1 a0 a1)
 refine so Tryz.func362 Tryz.ntmps362 ?_
 refine lp2 (JV.eq_2 a1) (fun v1_0 v1_1 => Yc 59 [eI 0 a0, eX 3 (a1.row.map .d), (5, .one (.sref 5 0 0 v1_0.length), [.arr false 1 (v1_0.map iR)]), eL 19 2 a1.Path XG.row, eI 20 (↑a1.Path.length : Int), eI 21 (↑v1_1 : Int)]) (fun n1 v1_0 v1_1 => a1.Path.length < n1 + v1_1 ∧ v1_1 ≤ a1.Path.length ∧ v1_0.length ≤ 4 + 2 * v1_1) (a1.Path.length + 1) ([4, a1.Count, a1.Method, a1.ZIY] : List Int) 0 (fun p1 v1_0 v1_1 e1 j1 => ?_) (h0 := Yh [((5, 0), some (17, 0))] [] rfl (by simp))
 refine cFo e1 (fun k2 h1 e1 => ?_) (fun k2 h1 e1 => ?_)
 ·have q1 := h1; try simp at q1
  have i1 := ix h1
  have m2 := ml a1.Path (k2 19 _ rfl)
  have c1 := sl 2326528 a1.Path u0
  have w1 := wr v1_1
  simp [i1, ZA]
  repeat with_reducible refine sd ?_
  refine cFo e1 (fun k3 h2 e1 => ?_) (fun k3 h2 e1 => ?_)
  ·have q2 := h2; try simp at q2
   simp
   repeat with_reducible refine sd ?_
   exact nx2 e1 (hw := Yh [((5, 0), some (32, 0))] [] rfl (by simp [w1]))
  have q2 := h2; try simp at q2
  simp
  repeat with_reducible refine sd ?_
  exact nx2 e1 (hw := Yh [((5, 0), some (32, 0))] [] rfl (by simp [w1]))
 have q1 := h1; try simp at q1
 have c2 := sl 2326528 a1.Path u0
 have f := ms f e1
 simp
 repeat with_reducible refine sd ?_
 refine lp2 (zB.eq_2 a1) (fun v2_0 v2_1 => Yc 59 [eI 0 a0, (5, .one (.sref 5 0 0 v2_0.length), [.arr false 1 (v2_0.map iR)]), eL 41 5 a1.Zi Za.row, eI 42 (↑a1.Zi.length : Int), eI 43 (↑v2_1 : Int)]) (fun n2 v2_0 v2_1 => a1.Zi.length < n2 + v2_1 ∧ v2_1 ≤ a1.Zi.length ∧ v2_0.length ≤ 5 + 2 * 2326528 + 6 * v2_1) (a1.Zi.length + 1) (v1_0 ++ ([(↑a1.Zi.length : Int)] : List Int)) 0 (fun p2 v2_0 v2_1 e2 j2 => ?_) (hI := by (have o : a1.Path.length ≤ 2326528 := Yw (by simp (maxDischargeDepth := 12) [u0]); simp at *; omega)) (h0 := Yh [((5, 0), some (39, 0))] [] rfl (by simp))
 try dsimp only at j2
 refine cFo e2 (fun k5 h3 e2 => ?_) (fun k5 h3 e2 => ?_)
 ·have q3 := h3; try simp at q3
  have i2 := ix h3
  have m4 := ml a1.Zi (k5 41 _ rfl)
  have c3 := sl 2326528 a1.Zi u0
  have w2 := wr v2_1
  simp [i2, ZA]
  repeat with_reducible refine sd ?_
  refine dIs mixed ?_
  refine cRs (Yb.rd (ZBx (nth a1.Zi v2_1))) ?_
  exact nx2 e2 (hI := by (simp; omega)) (hw := Yh [((5, 0), some (54, 0))] [] rfl (by simp [w2]))
 have q3 := h3; try simp at q3
 have c4 := sl 2326528 a1.Zi u0
 have f := ms f e2
 simp
 refine cRs (J5 a0 v2_0 (by first | (simp (maxDischargeDepth := 12) [Xr]; omega) | (simp (maxDischargeDepth := 12) [ZX (m := 68719476736) (by decide) u0]; done))) ?_
 exact rt [.tmp 4] f
theorem ZHg (a0 : Int) (a1 : List ZB) (u0 : Sm 2326528 a1) : Sa 372 [rI a0, rL 3 ZB.row a1] [rI (zs a0 a1)] := by
 have f := me (zs.eq_1 a0 a1)
 refine so Tryz.func372 Tryz.ntmps372 ?_
 refine lp2 (zm.eq_2 a0 a1) (fun v1_0 v1_1 => Yc 32 [eI 0 a0, (5, .one (.sref 5 0 0 v1_0.length), [.arr false 1 (v1_0.map iR)]), eL 9 3 a1 ZB.row, eI 10 (↑a1.length : Int), eI 11 (↑v1_1 : Int)]) (fun n1 v1_0 v1_1 => a1.length < n1 + v1_1 ∧ v1_1 ≤ a1.length ∧ v1_0.length ≤ 1 + 1 * v1_1) (a1.length + 1) ([2] : List Int) 0 (fun p1 v1_0 v1_1 e1 j1 => ?_) (h0 := Yh [((5, 0), some (8, 0))] [] rfl (by simp))
 refine cFf e1 (fun k2 h1 e1 => ?_) (fun k2 h1 e1 => ?_)
 ·have i1 := ix h1
  have m2 := ml a1 (k2 9 _ rfl)
  have c1 := sl 2326528 a1 u0
  have w1 := wr v1_1
  have c2 := sl 2326528 (nth a1 v1_1).Zb u0
  simp [i1, ZA]
  repeat with_reducible refine sd ?_
  refine cRs (J5 a0 (([(nth a1 v1_1).Key, (nth a1 v1_1).Mark] : List Int) ++ (nth a1 v1_1).Zb) (by simp (maxDischargeDepth := 12) [KD, Xr, ZX (m := 68719476736) (by decide) u0]; try omega)) ?_
  exact nx2 e1 (hw := Yh [((5, 0), some (27, 0))] [] rfl (by simp [w1]))
 have c3 := sl 2326528 a1 u0
 have f := ms f e1
 refine cRs (J5 a0 v1_0 (by first | (simp (maxDischargeDepth := 12) [Xr]; omega) | (simp (maxDischargeDepth := 12) [ZX (m := 68719476736) (by decide) u0]; done))) ?_
 exact rt [.tmp 4] f
theorem ZCW (a0 : Int) (a1 : Int) (a2 : List ZB) (a3 : Int) (u0 : Sm 2322432 a2) : Sa 363 [rI a0, rI a1, rL 3 ZB.row a2, rI a3] [rI (ZDf a0 a1 a2 a3)] := by
 have f := me (ZDf.eq_1 a0 a1 a2 a3)
 refine so Tryz.func363 Tryz.ntmps363 ?_
 refine cRs (ZHg a0 a2 (sg u0)) ?_
 refine cRs (J5 a0 ([3, a1, (zs a0 a2), a3] : List Int) (by simp (maxDischargeDepth := 12) [KD, Xr, ZX (m := 68719476736) (by decide) u0]; try omega)) ?_
 exact rt [.tmp 8] f
theorem XA {a b : Prop} (h : b) (k : a := by (intros; first | omega | with_unfolding_all (first | first | omega | (have cc : a0.ZR.length ≤ 2318336 := Yw (by simp (maxDischargeDepth := 12) [u0]); have z0 := g1x; simp at z0; have z := Q8 (by omega) z0.1; have z2 := z0.2; (try have w3 : IntKind.i64.wrap (a2 - 1) = a2 - 1 := Yd (by omega) (by omega)); (try have w4 : W (a2 - 1) = a2 - 1 := w3); first | omega | (refine ⟨⟨z0.1, by omega⟩, by omega, by omega⟩) | (simp_all; omega))) | (simp_all; done) | (simp_all; omega) | grind | ((try simp only [J7, show ∀ x, IntKind.i64.wrap x = W x from fun _ => rfl] at *); omega))) : a ∧ b := ⟨k, h⟩
theorem ZQ9 (a0 : ZN) (a1 : List Int) (a2 : Int) (u0 : Sm 2318336 a0) (u1 : Sm 2318336 a1) : Sa 353 [a0.row, rL 1 iR a1, rI a2] [rI (ZB4 a0 a1 a2)] := by
 have f := me (ZB4.eq_1 a0 a1 a2)
 refine so Tryz.func353 Tryz.ntmps353 ?_
 refine dIs mixed ?_
 refine cRs (YA a2 0 (W ((↑a0.ZR.length : Int) - 1))) ?_
 refine gIo (fun G => ?_) (fun G => ?_)
 ·have g1x := G
  have c1 := sl 2318336 a0.ZR (an u0 u1)
  have w1 : IntKind.i64.wrap ((a0.ZR.length : Int) - 1) = (a0.ZR.length : Int) - 1 := Yd (by omega) (by omega)
  have g1 := G; try simp [ZW, w1] at g1
  have i1 : a2.toNat < a0.ZR.length := by (have cc : a0.ZR.length ≤ 2318336 := Yw (by simp (maxDischargeDepth := 12) [u0]); have z0 := g1x; simp at z0; have z := Q8 (by omega) z0.1; have z2 := z0.2; (try have w3 : IntKind.i64.wrap (a2 - 1) = a2 - 1 := Yd (by omega) (by omega)); (try have w4 : W (a2 - 1) = a2 - 1 := w3); omega)
  simp [i1, ZA, G]
  repeat with_reducible refine XA ?_
  refine cGo (fun gg => (YA (nth a0.ZR a2.toNat).Count 0 (↑a0.ZZ.length : Int))) ?_
  simp [G]
  repeat with_reducible refine XA ?_
  refine cKo f (fun k2 h1 f => ?_) (fun k2 h1 f => ?_)
  ·try (simp [G] at h1; done)
   all_goals
    have q1 := h1; try simp [ZW, w1] at q1
    simp [G]
    repeat with_reducible refine XA ?_
    exact rtg [.tmp 6] f
  ·try (simp [G] at h1; done)
   all_goals
    have q1 := h1; try simp [ZW, w1] at q1
    simp [i1, ZA, G]
    repeat with_reducible refine XA ?_
    refine cKo f (fun k3 h2 f => ?_) (fun k3 h2 f => ?_)
    ·try (simp [G] at h2; done)
     all_goals
      simp [G]
      repeat with_reducible refine XA ?_
      refine dIo mixed ?_
      have i2 : (W (a2 - 1)).toNat < a0.ZR.length := by (have cc : a0.ZR.length ≤ 2318336 := Yw (by simp (maxDischargeDepth := 12) [u0]); have z0 := g1x; simp at z0; have z := Q8 (by omega) z0.1; have z2 := z0.2; (try have w3 : IntKind.i64.wrap (a2 - 1) = a2 - 1 := Yd (by omega) (by omega)); (try have w4 : W (a2 - 1) = a2 - 1 := w3); omega)
      simp [i2, ZA, G]
      repeat with_reducible refine XA ?_
      refine cR (ZCE (nth a0.ZR a2.toNat).Method (nth a0.ZR (W (a2 - 1)).toNat) (sg (Z2 (ZN.QG u0)))) ?_ (hrows := by first | (simp; done) | (simp [W, w1]; done))
      simp [G]
      repeat with_reducible refine XA ?_
      refine dIo mixed ?_
      have i3 : a2.toNat < a1.length := by (have cc : a0.ZR.length ≤ 2318336 := Yw (by simp (maxDischargeDepth := 12) [u0]); have z0 := g1x; simp at z0; have z := Q8 (by omega) z0.1; have z2 := z0.2; (try have w3 : IntKind.i64.wrap (a2 - 1) = a2 - 1 := Yd (by omega) (by omega)); (try have w4 : W (a2 - 1) = a2 - 1 := w3); omega)
      simp [i3, ZA, G]
      repeat with_reducible refine XA ?_
      refine cR (ZCW (nth a0.ZR a2.toNat).Method (nth a1 a2.toNat) (a0.ZZ.take (nth a0.ZR a2.toNat).Count.toNat) (Jj (nth a0.ZR a2.toNat).Method (nth a0.ZR (W (a2 - 1)).toNat)) (ZX (n := 2318336) (by decide) (by simp (maxDischargeDepth := 12) [u0, u1]))) ?_ (hrows := by first | (simp; done) | (simp [W, w1]; done))
      simp [G]
      repeat with_reducible refine XA ?_
      exact rtg [.tmp 6] f
    ·try (simp [G] at h2; done)
     all_goals
      simp [G]
      repeat with_reducible refine XA ?_
      refine dIo mixed ?_
      have i4 : a2.toNat < a1.length := by (have cc : a0.ZR.length ≤ 2318336 := Yw (by simp (maxDischargeDepth := 12) [u0]); have z0 := g1x; simp at z0; have z := Q8 (by omega) z0.1; have z2 := z0.2; (try have w3 : IntKind.i64.wrap (a2 - 1) = a2 - 1 := Yd (by omega) (by omega)); (try have w4 : W (a2 - 1) = a2 - 1 := w3); omega)
      simp [i4, ZA, G]
      repeat with_reducible refine XA ?_
      refine cR (ZCW (nth a0.ZR a2.toNat).Method (nth a1 a2.toNat) (a0.ZZ.take (nth a0.ZR a2.toNat).Count.toNat) 0 (ZX (n := 2318336) (by decide) (by simp (maxDischargeDepth := 12) [u0, u1]))) ?_
      simp [G]
      repeat with_reducible refine XA ?_
      exact rtg [.tmp 6] f
 ·have g1x := G
  simp [G]
  repeat with_reducible refine XA ?_
  refine sGo ?_
  simp [G]
  repeat with_reducible refine XA ?_
  have c2 := sl 2318336 a0.ZR (an u0 u1)
  have w2 : IntKind.i64.wrap ((a0.ZR.length : Int) - 1) = (a0.ZR.length : Int) - 1 := Yd (by omega) (by omega)
  refine cKo f (fun k7 h3 f => ?_) (fun k7 h3 f => ?_)
  ·try (simp [G] at h3; done)
   all_goals
    have q3 := h3; try simp [ZW, w2] at q3
    simp [G]
    repeat with_reducible refine XA ?_
    exact rtg [.tmp 6] f
  ·try (simp [G] at h3; done)
   all_goals
    have q3 := h3; try simp [ZW, w2] at q3
    have i6 : a2.toNat < a0.ZR.length := by (have cc : a0.ZR.length ≤ 2318336 := Yw (by simp (maxDischargeDepth := 12) [u0]); have z0 := g1x; simp at z0; have z := Q8 (by omega) z0.1; have z2 := z0.2; (try have w3 : IntKind.i64.wrap (a2 - 1) = a2 - 1 := Yd (by omega) (by omega)); (try have w4 : W (a2 - 1) = a2 - 1 := w3); omega)
    simp [i6, ZA, G]
    repeat with_reducible refine XA ?_
    refine cKo f (fun k8 h4 f => ?_) (fun k8 h4 f => ?_)
    ·try (simp [G] at h4; done)
     all_goals
      simp [G]
      repeat with_reducible refine XA ?_
      refine dIo mixed ?_
      have i7 : (W (a2 - 1)).toNat < a0.ZR.length := by (have cc : a0.ZR.length ≤ 2318336 := Yw (by simp (maxDischargeDepth := 12) [u0]); have z0 := g1x; simp at z0; have z := Q8 (by omega) z0.1; have z2 := z0.2; (try have w3 : IntKind.i64.wrap (a2 - 1) = a2 - 1 := Yd (by omega) (by omega)); (try have w4 : W (a2 - 1) = a2 - 1 := w3); omega)
      simp [i7, ZA, G]
      repeat with_reducible refine XA ?_
      refine cR (ZCE (nth a0.ZR a2.toNat).Method (nth a0.ZR (W (a2 - 1)).toNat) (sg (Z2 (ZN.QG u0)))) ?_ (hrows := by first | (simp; done) | (simp [W, w2]; done))
      simp [G]
      repeat with_reducible refine XA ?_
      refine dIo mixed ?_
      have i8 : a2.toNat < a1.length := by (have cc : a0.ZR.length ≤ 2318336 := Yw (by simp (maxDischargeDepth := 12) [u0]); have z0 := g1x; simp at z0; have z := Q8 (by omega) z0.1; have z2 := z0.2; (try have w3 : IntKind.i64.wrap (a2 - 1) = a2 - 1 := Yd (by omega) (by omega)); (try have w4 : W (a2 - 1) = a2 - 1 := w3); omega)
      simp [i8, ZA, G]
      repeat with_reducible refine XA ?_
      refine cR (ZCW (nth a0.ZR a2.toNat).Method (nth a1 a2.toNat) (a0.ZZ.take (nth a0.ZR a2.toNat).Count.toNat) (Jj (nth a0.ZR a2.toNat).Method (nth a0.ZR (W (a2 - 1)).toNat)) (ZX (n := 2318336) (by decide) (by simp (maxDischargeDepth := 12) [u0, u1]))) ?_ (hrows := by first | (simp; done) | (simp [W, w2]; done))
      simp [G]
      repeat with_reducible refine XA ?_
      exact rtg [.tmp 6] f
    ·try (simp [G] at h4; done)
     all_goals
      simp [G]
      repeat with_reducible refine XA ?_
      refine dIo mixed ?_
      have i9 : a2.toNat < a1.length := by (have cc : a0.ZR.length ≤ 2318336 := Yw (by simp (maxDischargeDepth := 12) [u0]); have z0 := g1x; simp at z0; have z := Q8 (by omega) z0.1; have z2 := z0.2; (try have w3 : IntKind.i64.wrap (a2 - 1) = a2 - 1 := Yd (by omega) (by omega)); (try have w4 : W (a2 - 1) = a2 - 1 := w3); omega)
      simp [i9, ZA, G]
      repeat with_reducible refine XA ?_
      refine cR (ZCW (nth a0.ZR a2.toNat).Method (nth a1 a2.toNat) (a0.ZZ.take (nth a0.ZR a2.toNat).Count.toNat) 0 (ZX (n := 2318336) (by decide) (by simp (maxDischargeDepth := 12) [u0, u1]))) ?_
      simp [G]
      repeat with_reducible refine XA ?_
      exact rtg [.tmp 6] f
theorem ZEm (a0 : Int) (a1 : Int) (a2 : Int) : Sa 370 [rI a0, rI a1, rI a2] [rI (xy a0 a1 a2)] := by
 have f := me (xy.eq_1 a0 a1 a2)
 refine so Tryz.func370 Tryz.ntmps370 ?_
 refine cRs (J5 a0 ([1, a1, a2] : List Int) (by simp (maxDischargeDepth := 12) [KD, Xr]; try omega)) ?_
 exact rt [.tmp 6] f
theorem ZJj (a0 : Int) (a1 : Int) (a2 : List XG) : Sa 360 [rI a0, rI a1, rL 2 XG.row a2] [rI (kE a0 a1 a2)] := by
 have f := me (kE.eq_1 a0 a1 a2)
 refine so Tryz.func360 Tryz.ntmps360 ?_
 refine lp2 (yC.eq_2 a0 a2) (fun v1_0 v1_1 => Yc 29 [eI 0 a0, eI 1 v1_0, eL 9 2 a2 XG.row, eI 10 (↑a2.length : Int), eI 11 (↑v1_1 : Int)]) (fun n1 v1_0 v1_1 => a2.length < n1 + v1_1 ∧ v1_1 ≤ a2.length) (a2.length + 1) a1 0 (fun p1 v1_0 v1_1 e1 j1 => ?_)
 refine cFf e1 (fun k2 h1 e1 => ?_) (fun k2 h1 e1 => ?_)
 ·have i1 := ix h1
  have m2 := ml a2 (k2 9 _ rfl)
  have w1 := wr v1_1
  simp [i1, ZA]
  repeat with_reducible refine sd ?_
  refine cF e1 (fun k3 h2 e1 => ?_) (fun k3 h2 e1 => ?_)
  ·refine cRs (ZEm a0 (nth a2 v1_1).XC v1_0) ?_
   exact ny2 w1 e1
  refine cRs (ZEm a0 v1_0 (nth a2 v1_1).XC) ?_
  exact ny2 w1 e1
 have f := ms f e1
 exact rt [.tmp 6] f
theorem yl (a0 : List Za) : Sa 267 [rL 5 Za.row a0] [rB (XB a0)] := by
 have f := me (XB.eq_1 a0)
 refine so Tryz.func267 Tryz.ntmps267 ?_
 refine lp1 (Qo.eq_2 a0) (fun v1_0 => Yc 22 [eL 0 5 a0 Za.row, eI 3 (↑v1_0 : Int)]) (fun n1 v1_0 => a0.length < n1 + v1_0 ∧ 1 ≤ v1_0) (a0.length + 1) 1 (fun p1 v1_0 e1 j1 => ?_)
 refine cF e1 (fun k2 h1 e1 => ?_) (fun k2 h1 e1 => ?_)
 ·have i1 := ix h1
  have m2 := ml a0 (k2 0 _ rfl)
  have w1 := wr v1_0
  refine dIo mixed ?_
  have i2 := ik (v1_0 - 1) a0
  have w2 : IntKind.i64.wrap ((v1_0 : Int) - 1) = (v1_0 : Int) - 1 := Yd (by omega) (by omega)
  simp [i2, ZA, w2, QW, i1]
  repeat with_reducible refine sd ?_
  refine cF e1 (fun k4 h2 e1 => ?_) (fun k4 h2 e1 => ?_)
  ·have f := ms f e1
   exact rt [.tmp 2] f
  exact ny1 (an w1 w2) e1
 have f := ms f e1
 exact rt [.tmp 2] f
theorem ZLk (a0 : List YC) (a1 : List ZE) (a2 : Za) (u0 : Sm 2318336 a0) (u1 : Sm 2318336 a1) : Sa 371 [rL 5 YC.row a0, rL 3 ZE.row a1, a2.row] [(JK a0 a1 a2).1.row, rB (JK a0 a1 a2).2] := by
 have f := me (JK.eq_1 a0 a1 a2)
 refine so Tryz.func371 Tryz.ntmps371 ?_
 refine cRs (jD a1 a2.Authority) ?_
 refine cGs (fun gg => (yO a2.Time)) ?_
 refine cF f (fun k1 h1 f => ?_) (fun k1 h1 f => ?_)
 ·exact rt [.cell 6 279, .tmp 7] f
 refine dIo mixed ?_
 have i1 : (YP a1 a2.Authority).toNat < a1.length := by have := yb a1 a2.Authority; exact il
 simp [i1, ZA]
 repeat with_reducible refine sd ?_
 refine cRs (Yb.rd (ZBx a2)) ?_
 refine cRs (ZJA a0 (nth a1 (YP a1 a2.Authority).toNat).Key (Ql a2) (sg u0) (by simp (maxDischargeDepth := 12) [ZME, ZX (m := 2322432) (by decide) u0, ZX (m := 2322432) (by decide) u1]; try omega)) ?_
 refine cF f (fun k3 h2 f => ?_) (fun k3 h2 f => ?_)
 ·exact rt [.cell 6 279, .tmp 7] f
 exact rt [.cell 6 279, .tmp 7] f
theorem ZJ6 (a0 : List YC) (a1 : List ZE) (a2 : Za) (u0 : Sm 2314240 a0) (u1 : Sm 2314240 a1) : Sa 361 [rL 5 YC.row a0, rL 3 ZE.row a1, a2.row] [rB (j6 a0 a1 a2)] := by
 have f := me (j6.eq_1 a0 a1 a2)
 refine so Tryz.func361 Tryz.ntmps361 ?_
 refine cRs (ZLk a0 a1 a2 (sg u0) (sg u1)) ?_
 exact rt [.tmp 6] f
theorem ZHS (a0 : List YC) (a1 : List ZE) (a2 : ZS) (a3 : Int) (u0 : Sm 2310144 a0) (u1 : Sm 2310144 a1) (u2 : Sm 2310144 a2) : Sa 352 [rL 5 YC.row a0, rL 3 ZE.row a1, a2.row, rI a3] [rB (zi a0 a1 a2 a3)] := by
 have f := me (zi.eq_1 a0 a1 a2 a3)
 refine so Tryz.func352 Tryz.ntmps352 ?_
 refine dIs mixed ?_
 refine cGs (fun gg => (ZJj a2.Method a3 a2.Path)) ?_
 refine cGs (fun gg => (YA (↑a2.Zi.length : Int) 1 6)) ?_
 refine cGs (fun gg => (yl a2.Zi)) ?_
 refine cFo f (fun k2 h1 f => ?_) (fun k2 h1 f => ?_)
 ·have q1 := h1; try simp [ZW] at q1
  simp
  exact rt [.tmp 8] f
 have q1 := h1; try simp [ZW] at q1
 simp
 refine lp1 (z8.eq_2 a0 a1 a2) (fun v1_0 => Yc 59 [eL 0 5 a0 YC.row, eL 1 3 a1 ZE.row, eX 6 (a2.row.map .d), eL 40 5 a2.Zi Za.row, eI 41 (↑a2.Zi.length : Int), eI 42 (↑v1_0 : Int)]) (fun n1 v1_0 => a2.Zi.length < n1 + v1_0 ∧ v1_0 ≤ a2.Zi.length) (a2.Zi.length + 1) 0 (fun p1 v1_0 e1 j1 => ?_)
 refine cFf e1 (fun k4 h2 e1 => ?_) (fun k4 h2 e1 => ?_)
 ·have i1 := ix h2
  have m2 := ml a2.Zi (k4 40 _ rfl)
  have c1 := sl 2310144 a2.Zi (an u0 (an u1 u2))
  have w1 := wr v1_0
  simp [i1, ZA]
  repeat with_reducible refine sd ?_
  refine cGs (fun gg => (ZJ6 a0 a1 (nth a2.Zi v1_0) (sg u0) (sg u1))) ?_
  refine cF e1 (fun k5 h3 e1 => ?_) (fun k5 h3 e1 => ?_)
  ·have f := ms f e1
   exact rt [.tmp 8] f
  exact ny1 w1 e1
 have c2 := sl 2310144 a2.Zi (an u0 (an u1 u2))
 have f := ms f e1
 exact rt [.tmp 8] f
theorem ZKQ (a0 : List Zl) (a1 : Int) : Sa 261 [rL 4 Zl.row a0, rI a1] [rI (Kv a0 a1)] := by
 have f := me (Kv.eq_1 a0 a1)
 refine so Tryz.func261 Tryz.ntmps261 ?_
 refine lp1 (z3.eq_2 a0 a1) (fun v1_0 => Yc 20 [eI 1 a1, eL 7 4 a0 Zl.row, eI 8 (↑a0.length : Int), eI 9 (↑v1_0 : Int)]) (fun n1 v1_0 => a0.length < n1 + v1_0 ∧ v1_0 ≤ a0.length) (a0.length + 1) 0 (fun p1 v1_0 e1 j1 => ?_)
 refine cFf e1 (fun k2 h1 e1 => ?_) (fun k2 h1 e1 => ?_)
 ·have i1 := ix h1
  have m2 := ml a0 (k2 7 _ rfl)
  have w1 := wr v1_0
  simp [i1, ZA]
  repeat with_reducible refine sd ?_
  refine cF e1 (fun k3 h2 e1 => ?_) (fun k3 h2 e1 => ?_)
  ·have f := ms f e1
   exact rt [.tmp 4] f
  exact ny1 w1 e1
 have f := ms f e1
 exact rt [.tmp 4] f
theorem ZBH (a0 : List Zl) (a1 : Int) : Sa 201 [rL 4 Zl.row a0, rI a1] [rI (zd a0 a1)] := by
 have f := me (zd.eq_1 a0 a1)
 refine so Tryz.func201 Tryz.ntmps201 ?_
 refine cRs (ZKQ a0 a1) ?_
 refine cFf f (fun k1 h1 f => ?_) (fun k1 h1 f => ?_)
 ·have i1 : (Kv a0 a1).toNat < a0.length := by have := ZJ4 a0 a1; exact il
  simp [i1, ZA]
  repeat with_reducible refine sd ?_
  exact rt [.tmp 4] f
 exact rt [.tmp 4] f
theorem ZC7 (a0 : List ZE) (a1 : Za) : Sa 270 [rL 3 ZE.row a0, a1.row] [rI (Xj a0 a1)] := by
 have f := me (Xj.eq_1 a0 a1)
 refine so Tryz.func270 Tryz.ntmps270 ?_
 refine cRs (jD a0 a1.Authority) ?_
 refine cFf f (fun k1 h1 f => ?_) (fun k1 h1 f => ?_)
 ·have i1 : (YP a0 a1.Authority).toNat < a0.length := by have := yb a0 a1.Authority; exact il
  simp [i1, ZA]
  repeat with_reducible refine sd ?_
  exact rt [.tmp 4] f
 exact rt [.tmp 4] f
theorem ZHf (a0 : List YC) (a1 : List ZE) (a2 : List Zl) (a3 : ZS) : Sa 364 [rL 5 YC.row a0, rL 3 ZE.row a1, rL 4 Zl.row a2, a3.row] [rI (zj a0 a1 a2 a3)] := by
 have f := me (zj.eq_1 a0 a1 a2 a3)
 refine so Tryz.func364 Tryz.ntmps364 ?_
 refine cRs (ZBH a2 a3.Method) ?_
 refine lp2 (zz.eq_2 a0 a1 a2 a3) (fun v1_0 v1_1 => Yc 42 [eL 0 5 a0 YC.row, eL 1 3 a1 ZE.row, eL 2 4 a2 Zl.row, eI 9 v1_0, eL 18 5 a3.Zi Za.row, eI 19 (↑a3.Zi.length : Int), eI 20 (↑v1_1 : Int)]) (fun n1 v1_0 v1_1 => a3.Zi.length < n1 + v1_1 ∧ v1_1 ≤ a3.Zi.length) (a3.Zi.length + 1) (zd a2 a3.Method) 0 (fun p1 v1_0 v1_1 e1 j1 => ?_)
 refine cFf e1 (fun k2 h1 e1 => ?_) (fun k2 h1 e1 => ?_)
 ·have i1 := ix h1
  have m2 := ml a3.Zi (k2 18 _ rfl)
  have w1 := wr v1_1
  simp [i1, ZA]
  repeat with_reducible refine sd ?_
  refine cRs (ZC7 a1 (nth a3.Zi v1_1)) ?_
  refine cRs (qA a0 (Xj a1 (nth a3.Zi v1_1))) ?_
  refine cFt e1 (fun k3 h2 e1 => ?_) (fun k3 h2 e1 => ?_)
  ·have f := ms f e1
   exact rt [.tmp 8] f
  have i2 : (Y5 a0 (Xj a1 (nth a3.Zi v1_1))).toNat < a0.length := by have := kT a0 (Xj a1 (nth a3.Zi v1_1)); exact il
  simp [i2, ZA]
  repeat with_reducible refine sd ?_
  refine cRs (ZBH a2 (nth a0 (Y5 a0 (Xj a1 (nth a3.Zi v1_1))).toNat).Method) ?_
  exact ny2 w1 e1
 have f := ms f e1
 exact rt [.tmp 8] f
theorem ZFN {a b : Prop} (h : b) (k : a := by (intros; first | omega | with_unfolding_all (first | (first | omega | (have mm : a1.ZR.length ≤ 2306048 := Yw (by simp (maxDischargeDepth := 12) [u1]); have ww := ZFZ a1.ZR.length (by omega); (try rw [ww] at q1); (try rw [ww] at q2); have w3 : W (a2 + 1) = a2 + 1 := Yd (by omega) (by omega); have w4 : IntKind.i64.wrap (a2 + 1) = a2 + 1 := w3; omega))) | ((try simp only [J7, show ∀ x, IntKind.i64.wrap x = W x from fun _ => rfl] at *); omega))) : a ∧ b := ⟨k, h⟩
theorem ZFL (a0 : ZF) (a1 : ZN) (a2 : Int) (u0 : Sm 2306048 a0) (u1 : Sm 2306048 a1) : Sa 354 [a0.row, a1.row, rI a2] [rB (jN a0 a1 a2)] := by
 have f := me (jN.eq_1 a0 a1 a2)
 refine so Tryz.func354 Tryz.ntmps354 ?_
 refine cRs (YA a2 0 (W ((↑a1.ZR.length : Int) - 1))) ?_
 have c1 := sl 2306048 a1.ZR (an u0 u1)
 have w1 : IntKind.i64.wrap ((a1.ZR.length : Int) - 1) = (a1.ZR.length : Int) - 1 := Yd (by omega) (by omega)
 refine cFo f (fun k1 h1 f => ?_) (fun k1 h1 f => ?_)
 ·have q1 := h1; try simp [ZW, w1] at q1
  simp
  exact rt [.tmp 6] f
 have q1 := h1; try simp [ZW, w1] at q1
 simp
 refine dIo mixed ?_
 have i1 : a2.toNat < a1.ZR.length := by (have mm : a1.ZR.length ≤ 2306048 := Yw (by simp (maxDischargeDepth := 12) [u1]); (try simp [ZW] at q1); have ww := ZFZ a1.ZR.length (by omega); first | omega | ((try rw [ww] at q1); (try rw [ww] at q2); have w3 : W (a2 + 1) = a2 + 1 := Yd (by omega) (by omega); omega))
 simp [i1, ZA]
 repeat with_reducible refine ZFN ?_
 refine cRs (ZHf a0.Y3 a0.ZT a0.Methods (nth a1.ZR a2.toNat)) ?_
 refine cFo f (fun k3 h2 f => ?_) (fun k3 h2 f => ?_)
 ·have q2 := h2; try simp [w1] at q2
  simp
  exact rt [.tmp 6] f
 have q2 := h2; try simp [w1] at q2
 simp
 refine dIo mixed ?_
 have i2 : (W (a2 + 1)).toNat < a1.ZR.length := by (have mm : a1.ZR.length ≤ 2306048 := Yw (by simp (maxDischargeDepth := 12) [u1]); (try simp [ZW] at q1); have ww := ZFZ a1.ZR.length (by omega); first | omega | ((try rw [ww] at q1); (try rw [ww] at q2); have w3 : W (a2 + 1) = a2 + 1 := Yd (by omega) (by omega); omega))
 simp [i2, ZA]
 repeat with_reducible refine ZFN ?_
 refine cRs (j7 a0 (nth a1.ZR (W (a2 + 1)).toNat) (sg u0) (sg (Z2 (ZN.QG u1)))) ?_ (hrows := by first | (simp; done) | (simp [W, w1]; done))
 exact rt [.tmp 6] f
theorem ZLx (a0 : ZF) (a1 : ZN) (a2 : List Int) (u0 : Sm 2301952 a0) (u1 : Sm 2301952 a1) (u2 : Sm 2301952 a2) : Sa 341 [a0.row, a1.row, rL 1 iR a2] [rI (K7 a0 a1 a2)] := by
 have f := me (K7.eq_1 a0 a1 a2)
 refine so Tryz.func341 Tryz.ntmps341 ?_
 refine okL fun k1 => ?_
 refine lp1 (zO.eq_2 a0 a1 a2) (fun v1_0 => Yc 58 [eL 2 1 a2 iR, eX 3 (a0.row.map .d), eX 4 (a1.row.map .d), eI 7 (↑v1_0 : Int)]) (fun n1 v1_0 => v1_0 < n1 ∧ v1_0 ≤ a1.ZR.length) (a1.ZR.length + 1) a1.ZR.length (fun p1 v1_0 e1 j1 => ?_)
 refine cFo e1 (fun k2 h1 e1 => ?_) (fun k2 h1 e1 => ?_)
 ·have q1 := h1; try simp at q1
  have m1 := ml a1.ZR (k1 11 _ rfl)
  have w1 : IntKind.i64.wrap ((v1_0 : Int) - 1) = (v1_0 : Int) - 1 := Yd (by omega) (by omega)
  have w2 : ((v1_0 - 1 : Nat) : Int) = (v1_0 : Int) - 1 := by omega
  simp
  refine dIo mixed ?_
  have i2 := ik (v1_0 - 1) a1.ZR
  simp [i2, ZA, w1, QW]
  repeat with_reducible refine sd ?_
  refine cRs (j7 a0 (nth a1.ZR (v1_0 - 1)) (sg u0) (sg (Z2 (ZN.QG u1)))) ?_
  refine dIs mixed ?_
  refine gIf (fun G => ?_) (fun G => ?_)
  ·have g1x := G
   have g1 := G; try simp at g1
   simp [i2, ZA, w1, QW, G]
   repeat with_reducible refine sdg ?_
   refine ZSJ rfl rfl rfl rfl rfl rfl (fun gg => (ZQ9 a1 a2 (W ((↑v1_0 : Int) - 1)) (sg u1) (sg u2))) (by first | (simp; done) | (simp [G]; done) | (simp [G]; omega) | (simp_all; done)) (by first | (simp; done) | (simp [G]; done) | (simp [G]; omega) | (simp_all; done)) (by first | (simp; done) | (simp [G]; done) | (simp [G]; omega) | (simp_all; done)) (by first | (simp; done) | (simp [G]; done) | (simp [G]; omega) | (simp_all; done)) ?_
   simp [G]
   repeat with_reducible refine sdg ?_
   refine ZSJ rfl rfl rfl rfl rfl rfl (fun gg => (ZHS a0.Y3 a0.ZT (nth a1.ZR (v1_0 - 1)) (ZB4 a1 a2 (W ((↑v1_0 : Int) - 1))) (sg (ZF.Ym u0)) (sg (ZF.Qf u0)) (sg (Z2 (ZN.QG u1))))) (by first | (simp; done) | (simp [G]; done) | (simp [G]; omega) | (simp_all; done)) (by first | (simp; done) | (simp [G]; done) | (simp [G]; omega) | (simp_all; done)) (by first | (simp; done) | (simp [G]; done) | (simp [G]; omega) | (simp_all; done)) (by first | (simp; done) | (simp [G]; done) | (simp [G]; omega) | (simp_all; done)) ?_
   simp [G]
   repeat with_reducible refine sdg ?_
   refine ZSJ rfl rfl rfl rfl rfl rfl (fun gg => (ZFL a0 a1 (W ((↑v1_0 : Int) - 1)) (sg u0) (sg u1))) (by first | (simp; done) | (simp [G]; done) | (simp [G]; omega) | (simp_all; done)) (by first | (simp; done) | (simp [G]; done) | (simp [G]; omega) | (simp_all; done)) (by first | (simp; done) | (simp [G]; done) | (simp [G]; omega) | (simp_all; done)) (by first | (simp; done) | (simp [G]; done) | (simp [G]; omega) | (simp_all; done)) ?_
   simp [G]
   repeat with_reducible refine sdg ?_
   refine cKo e1 (fun k5 h2 e1 => ?_) (fun k5 h2 e1 => ?_)
   ·try (simp [G] at h2; done)
    all_goals
     have q2 := h2; try simp [w1, w2] at q2
     have f := ms f e1
     simp [G]
     repeat with_reducible refine sdg ?_
     exact rtg [.tmp 6] f
   ·try (simp [G] at h2; done)
    all_goals
     have q2 := h2; try simp [w1, w2] at q2
     simp [G]
     repeat with_reducible refine sdg ?_
     exact ny1 (an w1 (an w2 G)) e1
  ·have g1x := G
   refine sGo ?_
   simp [G]
   repeat with_reducible refine sdg ?_
   refine sGo ?_
   simp [G]
   repeat with_reducible refine sdg ?_
   refine ZSJ rfl rfl rfl rfl rfl rfl (fun gg => (ZFL a0 a1 (W ((↑v1_0 : Int) - 1)) (sg u0) (sg u1))) (by first | (simp; done) | (simp [G]; done) | (simp [G]; omega) | (simp_all; done)) (by first | (simp; done) | (simp [G]; done) | (simp [G]; omega) | (simp_all; done)) (by first | (simp; done) | (simp [G]; done) | (simp [G]; omega) | (simp_all; done)) (by first | (simp; done) | (simp [G]; done) | (simp [G]; omega) | (simp_all; done)) ?_
   simp [G]
   repeat with_reducible refine sdg ?_
   refine cKo e1 (fun k6 h3 e1 => ?_) (fun k6 h3 e1 => ?_)
   ·try (simp [G] at h3; done)
    all_goals
     have q3 := h3; try simp [w1, w2] at q3
     have f := ms f e1
     simp [G]
     repeat with_reducible refine sdg ?_
     exact rtg [.tmp 6] f
   ·try (simp [G] at h3; done)
    all_goals
     have q3 := h3; try simp [w1, w2] at q3
     simp [G]
     repeat with_reducible refine sdg ?_
     exact ny1 (an w1 (an w2 G)) e1
 have q1 := h1; try simp at q1
 have f := ms f e1
 simp
 exact rt [.tmp 6] f
theorem ZOu (a0 : ZF) (a1 : ZN) (a2 : List Int) (a3 : Int) (u0 : Sm 2297856 a0) (u1 : Sm 2297856 a1) (u2 : Sm 2297856 a2) : Sa 311 [a0.row, a1.row, rL 1 iR a2, rI a3] [rI (ZDE a0 a1 a2 a3)] := by
 have f := me (ZDE.eq_1 a0 a1 a2 a3)
 refine so Tryz.func311 Tryz.ntmps311 ?_
 refine cRs (ZLx a0 a1 a2 (sg u0) (sg u1) (sg u2)) ?_
 refine lp2 (jJ.eq_2 a0 a1 a3) (fun v1_0 v1_1 => Yc 49 [eI 3 a3, eX 4 (a0.row.map .d), eX 5 (a1.row.map .d), eI 9 v1_0, eI 10 v1_1]) (fun n1 v1_0 v1_1 => (a1.ZR.length : Int) + 1 < n1 + v1_1 ∧ 0 ≤ v1_1 ∧ v1_1 ≤ a1.ZR.length) (a1.ZR.length + 2) a0.Now (K7 a0 a1 a2) (fun p1 v1_0 v1_1 e1 j1 => ?_) (hI := by (have z := ZKO a0 a1 a2; (try dsimp only); omega))
 try dsimp only at j1
 refine cF e1 (fun k2 h1 e1 => ?_) (fun k2 h1 e1 => ?_)
 ·refine okD fun k3 => ?_
  refine dIo mixed ?_
  have i1 := ik v1_1.toNat a1.ZR
  simp [i1, ZA]
  repeat with_reducible refine sd ?_
  refine cRf i1 (j7 a0 (nth a1.ZR v1_1.toNat) (sg u0) (sg (Z2 (ZN.QG u1)))) ?_
  refine cF e1 (fun k4 h2 e1 => ?_) (fun k4 h2 e1 => ?_)
  ·exact nx2 e1 (hI := by (have cc : a1.ZR.length ≤ 2297856 := Yw (by simp (maxDischargeDepth := 12) [u1]); have w2 : W (v1_1 + 1) = v1_1 + 1 := Yd (by simp at *; omega) (by simp at *; omega); (try dsimp only); rw [w2]; simp at *; omega))
  exact nx2 e1 (hI := by (have cc : a1.ZR.length ≤ 2297856 := Yw (by simp (maxDischargeDepth := 12) [u1]); have w2 : W (v1_1 + 1) = v1_1 + 1 := Yd (by simp at *; omega) (by simp at *; omega); (try dsimp only); rw [w2]; simp at *; omega))
 have f := ms f e1
 exact rt [.tmp 8] f
theorem ZJ2 (a0 : ZF) (a1 : ZN) (a2 : List Int) (a3 : ZB) (u0 : Sm 2293760 a0) (u1 : Sm 2293760 a1) (u2 : Sm 2293760 a2) (u3 : Sm 2293760 a3) : Sa 260 [a0.row, a1.row, rL 1 iR a2, a3.row] [rI (qK a0 a1 a2 a3)] := by
 have f := me (qK.eq_1 a0 a1 a2 a3)
 refine so Tryz.func260 Tryz.ntmps260 ?_
 refine cRs (ZLd a1 a3) ?_
 refine cF f (fun k1 h1 f => ?_) (fun k1 h1 f => ?_)
 ·exact rt [.tmp 8] f
 refine cRs (ZOu a0 a1 a2 (xL a1 a3) (sg u0) (sg u1) (sg u2)) ?_
 exact rt [.tmp 8] f
theorem ZBn (a0 : ZF) (a1 : ZI) (a2 : List (List Int)) (a3 : ZB) (u0 : Sm 2289664 a0) (u1 : Sm 2289664 a1) (u2 : Sm 2289664 a2) (u3 : Sm 2289664 a3) : Sa 198 [a0.row, a1.row, rL 1 (slR 1 iR) a2, a3.row] [rI (Yp a0 a1 a2 a3)] := by
 have f := me (Yp.eq_1 a0 a1 a2 a3)
 refine so Tryz.func198 Tryz.ntmps198 ?_
 refine lp2 (X8.eq_2 a0 a1 a2 a3) (fun v1_0 v1_1 => Yc 38 [eL 2 1 a2 (slR 1 iR), eX 4 (a0.row.map .d), eX 7 (a3.row.map .d), eI 9 v1_0, eL 15 2 a1.ZK ZN.row, eI 16 (↑a1.ZK.length : Int), eI 17 (↑v1_1 : Int)]) (fun n1 v1_0 v1_1 => a1.ZK.length < n1 + v1_1 ∧ v1_1 ≤ a1.ZK.length) (a1.ZK.length + 1) a0.Now 0 (fun p1 v1_0 v1_1 e1 j1 => ?_)
 refine cFf e1 (fun k2 h1 e1 => ?_) (fun k2 h1 e1 => ?_)
 ·have i1 := ix h1
  have m2 := ml a1.ZK (k2 15 _ rfl)
  have c1 := sl 2289664 a1.ZK (an u0 (an u1 (an u2 u3)))
  have w1 := wr v1_1
  simp [i1, ZA]
  repeat with_reducible refine sd ?_
  refine cF e1 (fun k3 h2 e1 => ?_) (fun k3 h2 e1 => ?_)
  ·have i2 := ix h2
   have m4 := ml a2 (k3 2 _ rfl)
   have c2 := sl 2289664 a2 (an u0 (an u1 (an u2 u3)))
   have w2 := wr v1_1
   refine dIo mixed ?_
   simp [i2, ZA]
   repeat with_reducible refine sd ?_
   refine cRs (ZJ2 a0 (nth a1.ZK v1_1) (nth a2 v1_1) a3 (sg u0) (sg (Z2 (ZI.Yr u1))) (sg (Z2 u2)) (sg u3)) ?_
   exact ny2 w2 e1
  have c3 := sl 2289664 a2 (an u0 (an u1 (an u2 u3)))
  exact ny2 w1 e1
 have c4 := sl 2289664 a1.ZK (an u0 (an u1 (an u2 u3)))
 have f := ms f e1
 exact rt [.tmp 8] f
theorem ZEn (a0 : ZF) (a1 : Int) : Sa 200 [a0.row, rI a1] [rI (J4 a0 a1)] := by
 have f := me (J4.eq_1 a0 a1)
 refine so Tryz.func200 Tryz.ntmps200 ?_
 refine cRs (qA a0.Y3 a1) ?_
 refine cF f (fun k1 h1 f => ?_) (fun k1 h1 f => ?_)
 ·exact rt [.tmp 4] f
 refine dIo mixed ?_
 have i1 : (Y5 a0.Y3 a1).toNat < a0.Y3.length := by have := kT a0.Y3 a1; exact il
 simp [i1, ZA]
 repeat with_reducible refine sd ?_
 refine cRs (ZBH a0.Methods (nth a0.Y3 (Y5 a0.Y3 a1).toNat).Method) ?_
 exact rt [.tmp 4] f
theorem ZC1 (a0 : List ZB) (a1 : ZB) : Sa 262 [rL 3 ZB.row a0, a1.row] [rB (QM a0 a1)] := by
 have f := me (QM.eq_1 a0 a1)
 refine so Tryz.func262 Tryz.ntmps262 ?_
 refine lp1 (xz.eq_2 a0 a1) (fun v1_0 => Yc 17 [eX 3 (a1.row.map .d), eL 7 3 a0 ZB.row, eI 8 (↑a0.length : Int), eI 9 (↑v1_0 : Int)]) (fun n1 v1_0 => a0.length < n1 + v1_0 ∧ v1_0 ≤ a0.length) (a0.length + 1) 0 (fun p1 v1_0 e1 j1 => ?_)
 refine cFf e1 (fun k2 h1 e1 => ?_) (fun k2 h1 e1 => ?_)
 ·have i1 := ix h1
  have m2 := ml a0 (k2 7 _ rfl)
  have w1 := wr v1_0
  simp [i1, ZA]
  repeat with_reducible refine sd ?_
  refine cRs (ZDj (nth a0 v1_0) a1) ?_
  refine cF e1 (fun k3 h2 e1 => ?_) (fun k3 h2 e1 => ?_)
  ·have f := ms f e1
   exact rt [.tmp 4] f
  exact ny1 w1 e1
 have f := ms f e1
 exact rt [.tmp 4] f
theorem KI (a0 : ZB) : Sa 312 [a0.row] [rI (YB a0)] := by
 have f := me (YB.eq_1 a0)
 refine so Tryz.func312 Tryz.ntmps312 ?_
 refine dIs mixed ?_
 refine gIf (fun G => ?_) (fun G => ?_)
 ·have i1 := ik 0 a0.Zb
  simp [i1, ZA, G]
  repeat with_reducible refine sdg ?_
  refine cGg (fun gg => (YA (nth a0.Zb 0) 101 105)) ?_
  refine gJf G (fun G => ?_) (fun G => ?_)
  ·try (simp at G; done)
   all_goals
    have g2 := G.2; try simp [ZW] at g2
    all_goals
     simp [i1, ZA, G]
     repeat with_reducible refine sdg ?_
     refine gK (fun _ => ?_)
     have r1 : ∀ i : Nat, i < 5 → cut [At.d (.int .i64 7), At.d (.int .i64 5), At.d (.int .i64 5), At.d (.int .i64 9), At.d (.int .i64 6)] i 1 = [At.d (.int .i64 (nth ([7, 5, 5, 9, 6] : List Int) i))] := by intro i h; (have z : i = 0 ∨ i = 1 ∨ i = 2 ∨ i = 3 ∨ i = 4 := by omega); rcases z with rfl | rfl | rfl | rfl | rfl <;> rfl
     have i2 : (W ((nth a0.Zb 0) - 101)).toNat < 5 := by first | omega | ((try simp only [J7, show ∀ x, IntKind.i64.wrap x = W x from fun _ => rfl] at *); omega)
     have r1b := r1 _ i2; simp only [cut] at r1b
     simp [r1 _ i2, r1b, G]
     repeat with_reducible refine sdg ?_
     refine cKo f (fun k2 h1 f => ?_) (fun k2 h1 f => ?_)
     ·try (simp [G] at h1; done)
      all_goals
       have q1 := h1; try simp [ZW] at q1
       simp [G]
       repeat with_reducible refine sdg ?_
       exact rtg [.tmp 2] f
     ·try (simp [G] at h1; done)
      all_goals
       have q1 := h1; try simp [ZW] at q1
       simp [i1, ZA, G]
       repeat with_reducible refine sdg ?_
       exact rtg [.tmp 2] f
  ·try (simp at G; done)
   all_goals
    refine sGg ?_
    refine cKo f (fun k3 h2 f => ?_) (fun k3 h2 f => ?_)
    ·try (simp [G] at h2; done)
     all_goals
      have q2 := h2; try simp [ZW] at q2
      simp [G]
      repeat with_reducible refine sdg ?_
      exact rtg [.tmp 2] f
    ·try (simp [G] at h2; done)
     all_goals
      have q2 := h2; try simp [ZW] at q2
      simp [i1, ZA, G]
      repeat with_reducible refine sdg ?_
      exact rtg [.tmp 2] f
 ·refine sGo ?_
  simp [G]
  repeat with_reducible refine sdg ?_
  refine gJf G (fun G => ?_) (fun G => ?_)
  ·try (simp at G; done)
   all_goals
    have g3 := G.2; try simp [ZW] at g3
    all_goals
     have i5 := ik 0 a0.Zb
     simp [i5, ZA, G]
     repeat with_reducible refine sdg ?_
     refine gK (fun _ => ?_)
     have r3 : ∀ i : Nat, i < 5 → cut [At.d (.int .i64 7), At.d (.int .i64 5), At.d (.int .i64 5), At.d (.int .i64 9), At.d (.int .i64 6)] i 1 = [At.d (.int .i64 (nth ([7, 5, 5, 9, 6] : List Int) i))] := by intro i h; (have z : i = 0 ∨ i = 1 ∨ i = 2 ∨ i = 3 ∨ i = 4 := by omega); rcases z with rfl | rfl | rfl | rfl | rfl <;> rfl
     have i6 : (W ((nth a0.Zb 0) - 101)).toNat < 5 := by first | omega | ((try simp only [J7, show ∀ x, IntKind.i64.wrap x = W x from fun _ => rfl] at *); omega)
     have r3b := r3 _ i6; simp only [cut] at r3b
     simp [r3 _ i6, r3b, G]
     repeat with_reducible refine sdg ?_
     refine cKo f (fun k4 h3 f => ?_) (fun k4 h3 f => ?_)
     ·try (simp [G] at h3; done)
      all_goals
       have q3 := h3; try simp [ZW] at q3
       simp [G]
       repeat with_reducible refine sdg ?_
       exact rtg [.tmp 2] f
     ·try (simp [G] at h3; done)
      all_goals
       have q3 := h3; try simp [ZW] at q3
       simp [i5, ZA, G]
       repeat with_reducible refine sdg ?_
       exact rtg [.tmp 2] f
  ·try (simp at G; done)
   all_goals
    refine sGg ?_
    refine cKo f (fun k5 h4 f => ?_) (fun k5 h4 f => ?_)
    ·try (simp [G] at h4; done)
     all_goals
      have q4 := h4; try simp [ZW] at q4
      simp [G]
      repeat with_reducible refine sdg ?_
      exact rtg [.tmp 2] f
    ·try (simp [G] at h4; done)
     all_goals
      have q4 := h4; try simp [ZW] at q4
      have i9 := ik 0 a0.Zb
      simp [i9, ZA, G]
      repeat with_reducible refine sdg ?_
      exact rtg [.tmp 2] f
theorem ZFI (a0 : ZB) : Sa 266 [a0.row] [(XS a0).1.row, rB (XS a0).2] := by
 have f := me (XS.eq_1 a0)
 refine so Tryz.func266 Tryz.ntmps266 ?_
 refine dIs mixed ?_
 refine cRs (KI a0) ?_
 refine gIf (fun G => ?_) (fun G => ?_)
 ·have g1x := G
  have g1 := G; try simp at g1
  have i1 : 6 < a0.Zb.length := by (have z := ZV a0; simp_all; done)
  simp [i1, ZA, G]
  repeat with_reducible refine sdg ?_
  refine cK f (fun k2 h1 f => ?_) (fun k2 h1 f => ?_)
  ·try (simp [G] at h1; done)
   all_goals
    exact rtg [.cell 2 168, .tmp 3] f
  ·try (simp [G] at h1; done)
   all_goals
    refine dIo mixed ?_
    have i2 : 1 < a0.Zb.length := by (have z := ZV a0; simp_all; done)
    have i3 : 2 < a0.Zb.length := by (have z := ZV a0; simp_all; done)
    have i4 : 3 < a0.Zb.length := by (have z := ZV a0; simp_all; done)
    have i5 : 4 < a0.Zb.length := by (have z := ZV a0; simp_all; done)
    have i6 : 5 < a0.Zb.length := by (have z := ZV a0; simp_all; done)
    simp [i2, ZA, i3, i4, i5, i6, i1, G]
    repeat with_reducible refine sdg ?_
    exact rtg [.cell 2 168, .tmp 3] f
 ·have g1x := G
  refine cK f (fun k4 h2 f => ?_) (fun k4 h2 f => ?_)
  ·try (simp [G] at h2; done)
   all_goals
    exact rtg [.cell 2 168, .tmp 3] f
  ·try (simp [G] at h2; done)
   all_goals
    refine dIo mixed ?_
    have i8 : 1 < a0.Zb.length := by (have z := ZV a0; simp_all; done)
    have i9 : 2 < a0.Zb.length := by (have z := ZV a0; simp_all; done)
    have i10 : 3 < a0.Zb.length := by (have z := ZV a0; simp_all; done)
    have i11 : 4 < a0.Zb.length := by (have z := ZV a0; simp_all; done)
    have i12 : 5 < a0.Zb.length := by (have z := ZV a0; simp_all; done)
    have i13 : 6 < a0.Zb.length := by (have z := ZV a0; simp_all; done)
    simp [i8, ZA, i9, i10, i11, i12, i13, G]
    repeat with_reducible refine sdg ?_
    exact rtg [.cell 2 168, .tmp 3] f
theorem ZDX (a0 : ZB) : Sa 272 [a0.row] [(Xy a0).1.row, rB (Xy a0).2] := by
 have f := me (Xy.eq_1 a0)
 refine so Tryz.func272 Tryz.ntmps272 ?_
 refine dIs mixed ?_
 refine cRs (KI a0) ?_
 refine gIf (fun G => ?_) (fun G => ?_)
 ·have g1x := G
  have g1 := G; try simp at g1
  have i1 : 4 < a0.Zb.length := by (have z := ZV a0; simp_all; done)
  simp [i1, ZA, G]
  repeat with_reducible refine sdg ?_
  refine cK f (fun k2 h1 f => ?_) (fun k2 h1 f => ?_)
  ·try (simp [G] at h1; done)
   all_goals
    exact rtg [.cell 2 261, .tmp 3] f
  ·try (simp [G] at h1; done)
   all_goals
    refine dIo mixed ?_
    have i2 : 1 < a0.Zb.length := by (have z := ZV a0; simp_all; done)
    have i3 : 2 < a0.Zb.length := by (have z := ZV a0; simp_all; done)
    have i4 : 3 < a0.Zb.length := by (have z := ZV a0; simp_all; done)
    simp [i2, ZA, i3, i4, i1, G]
    repeat with_reducible refine sdg ?_
    exact rtg [.cell 2 261, .tmp 3] f
 ·have g1x := G
  refine cK f (fun k4 h2 f => ?_) (fun k4 h2 f => ?_)
  ·try (simp [G] at h2; done)
   all_goals
    exact rtg [.cell 2 261, .tmp 3] f
  ·try (simp [G] at h2; done)
   all_goals
    refine dIo mixed ?_
    have i6 : 1 < a0.Zb.length := by (have z := ZV a0; simp_all; done)
    have i7 : 2 < a0.Zb.length := by (have z := ZV a0; simp_all; done)
    have i8 : 3 < a0.Zb.length := by (have z := ZV a0; simp_all; done)
    have i9 : 4 < a0.Zb.length := by (have z := ZV a0; simp_all; done)
    simp [i6, ZA, i7, i8, i9, G]
    repeat with_reducible refine sdg ?_
    exact rtg [.cell 2 261, .tmp 3] f
theorem ZKb (a0 : ZB) : Sa 313 [a0.row] [(Ky a0).1.row, rB (Ky a0).2] := by
 have f := me (Ky.eq_1 a0)
 refine so Tryz.func313 Tryz.ntmps313 ?_
 refine cRs (KI a0) ?_
 refine cF f (fun k1 h1 f => ?_) (fun k1 h1 f => ?_)
 ·exact rt [.cell 2 279, .tmp 3] f
 refine dIo mixed ?_
 have i1 : 1 < a0.Zb.length := by (have z := ZV a0; simp_all; done)
 have i2 : 2 < a0.Zb.length := by (have z := ZV a0; simp_all; done)
 have i3 : 3 < a0.Zb.length := by (have z := ZV a0; simp_all; done)
 have i4 : 4 < a0.Zb.length := by (have z := ZV a0; simp_all; done)
 simp [i1, ZA, i2, i3, i4]
 repeat with_reducible refine sd ?_
 exact rt [.cell 2 279, .tmp 3] f
theorem ZLs (a0 : ZB) : Sa 314 [a0.row] [(yS a0).1.row, rB (yS a0).2] := by
 have f := me (yS.eq_1 a0)
 refine so Tryz.func314 Tryz.ntmps314 ?_
 refine dIs mixed ?_
 refine cRs (KI a0) ?_
 refine gIf (fun G => ?_) (fun G => ?_)
 ·have g1x := G
  have g1 := G; try simp at g1
  have i1 : 1 < a0.Zb.length := by (have z := ZV a0; simp_all; done)
  simp [i1, ZA, G]
  repeat with_reducible refine sdg ?_
  refine cK f (fun k2 h1 f => ?_) (fun k2 h1 f => ?_)
  ·try (simp [G] at h1; done)
   all_goals
    exact rtg [.cell 2 49, .tmp 3] f
  ·try (simp [G] at h1; done)
   all_goals
    refine dIo mixed ?_
    have i2 : 2 < a0.Zb.length := by (have z := ZV a0; simp_all; done)
    have i3 : 3 < a0.Zb.length := by (have z := ZV a0; simp_all; done)
    have i4 : 4 < a0.Zb.length := by (have z := ZV a0; simp_all; done)
    have i5 : 5 < a0.Zb.length := by (have z := ZV a0; simp_all; done)
    have i6 : 6 < a0.Zb.length := by (have z := ZV a0; simp_all; done)
    have i7 : 7 < a0.Zb.length := by (have z := ZV a0; simp_all; done)
    have i8 : 8 < a0.Zb.length := by (have z := ZV a0; simp_all; done)
    simp [i1, ZA, i2, i3, i4, i5, i6, i7, i8, G]
    repeat with_reducible refine sdg ?_
    exact rtg [.cell 2 49, .tmp 3] f
 ·have g1x := G
  refine cK f (fun k4 h2 f => ?_) (fun k4 h2 f => ?_)
  ·try (simp [G] at h2; done)
   all_goals
    exact rtg [.cell 2 49, .tmp 3] f
  ·try (simp [G] at h2; done)
   all_goals
    refine dIo mixed ?_
    have i10 : 1 < a0.Zb.length := by (have z := ZV a0; simp_all; done)
    have i11 : 2 < a0.Zb.length := by (have z := ZV a0; simp_all; done)
    have i12 : 3 < a0.Zb.length := by (have z := ZV a0; simp_all; done)
    have i13 : 4 < a0.Zb.length := by (have z := ZV a0; simp_all; done)
    have i14 : 5 < a0.Zb.length := by (have z := ZV a0; simp_all; done)
    have i15 : 6 < a0.Zb.length := by (have z := ZV a0; simp_all; done)
    have i16 : 7 < a0.Zb.length := by (have z := ZV a0; simp_all; done)
    have i17 : 8 < a0.Zb.length := by (have z := ZV a0; simp_all; done)
    simp [i10, ZA, i11, i12, i13, i14, i15, i16, i17, G]
    repeat with_reducible refine sdg ?_
    exact rtg [.cell 2 49, .tmp 3] f
theorem ZCj (a0 : ZB) : Sa 277 [a0.row] [(QD a0).1.row, rB (QD a0).2] := by
 have f := me (QD.eq_1 a0)
 refine so Tryz.func277 Tryz.ntmps277 ?_
 refine dIs mixed ?_
 refine cRs (KI a0) ?_
 refine gIf (fun G => ?_) (fun G => ?_)
 ·have g1x := G
  have g1 := G; try simp at g1
  have i1 : 5 < a0.Zb.length := by (have z := ZV a0; simp_all; done)
  simp [i1, ZA, G]
  repeat with_reducible refine sdg ?_
  refine cK f (fun k2 h1 f => ?_) (fun k2 h1 f => ?_)
  ·try (simp [G] at h1; done)
   all_goals
    exact rtg [.cell 2 269, .tmp 3] f
  ·try (simp [G] at h1; done)
   all_goals
    refine dIo mixed ?_
    have i2 : 1 < a0.Zb.length := by (have z := ZV a0; simp_all; done)
    have i3 : 2 < a0.Zb.length := by (have z := ZV a0; simp_all; done)
    have i4 : 3 < a0.Zb.length := by (have z := ZV a0; simp_all; done)
    have i5 : 4 < a0.Zb.length := by (have z := ZV a0; simp_all; done)
    simp [i2, ZA, i3, i4, i5, i1, G]
    repeat with_reducible refine sdg ?_
    exact rtg [.cell 2 269, .tmp 3] f
 ·have g1x := G
  refine cK f (fun k4 h2 f => ?_) (fun k4 h2 f => ?_)
  ·try (simp [G] at h2; done)
   all_goals
    exact rtg [.cell 2 269, .tmp 3] f
  ·try (simp [G] at h2; done)
   all_goals
    refine dIo mixed ?_
    have i7 : 1 < a0.Zb.length := by (have z := ZV a0; simp_all; done)
    have i8 : 2 < a0.Zb.length := by (have z := ZV a0; simp_all; done)
    have i9 : 3 < a0.Zb.length := by (have z := ZV a0; simp_all; done)
    have i10 : 4 < a0.Zb.length := by (have z := ZV a0; simp_all; done)
    have i11 : 5 < a0.Zb.length := by (have z := ZV a0; simp_all; done)
    simp [i7, ZA, i8, i9, i10, i11, G]
    repeat with_reducible refine sdg ?_
    exact rtg [.cell 2 269, .tmp 3] f
theorem ZJs (a0 : List YC) (a1 : ZB) (u0 : Sm 2314240 a0) (u1 : Sm 2314240 a1) : Sa 263 [rL 5 YC.row a0, a1.row] [rB (Jw a0 a1)] := by
 have f := me (Jw.eq_1 a0 a1)
 refine so Tryz.func263 Tryz.ntmps263 ?_
 refine cRs (KI a1) ?_
 refine cF f (fun k1 h1 f => ?_) (fun k1 h1 f => ?_)
 ·refine cRs (ZFI a1) ?_
  refine cGs (fun gg => (Qg a0 a1.Key a1.Zb a1.Mark (sg u0) (sg (ZB.ZBN u1)))) ?_
  exact rt [.tmp 4] f
 refine cF f (fun k2 h2 f => ?_) (fun k2 h2 f => ?_)
 ·refine cRs (ZDX a1) ?_
  refine cGs (fun gg => (Qg a0 a1.Key a1.Zb a1.Mark (sg u0) (sg (ZB.ZBN u1)))) ?_
  exact rt [.tmp 4] f
 refine cF f (fun k3 h3 f => ?_) (fun k3 h3 f => ?_)
 ·refine cRs (ZKb a1) ?_
  refine cGs (fun gg => (Qg a0 a1.Key a1.Zb a1.Mark (sg u0) (sg (ZB.ZBN u1)))) ?_
  exact rt [.tmp 4] f
 refine cF f (fun k4 h4 f => ?_) (fun k4 h4 f => ?_)
 ·refine cRs (ZLs a1) ?_
  refine cGs (fun gg => (Qg a0 a1.Key a1.Zb a1.Mark (sg u0) (sg (ZB.ZBN u1)))) ?_
  exact rt [.tmp 4] f
 refine cF f (fun k5 h5 f => ?_) (fun k5 h5 f => ?_)
 ·refine cRs (ZCj a1) ?_
  refine cGs (fun gg => (Qg a0 a1.Key a1.Zb a1.Mark (sg u0) (sg (ZB.ZBN u1)))) ?_
  exact rt [.tmp 4] f
 refine cGs (fun gg => (Qg a0 a1.Key a1.Zb a1.Mark (sg u0) (sg (ZB.ZBN u1)))) ?_
 exact rt [.tmp 4] f
theorem ZIN (a0 : ZB) (a1 : ZB) : Sa 264 [a0.row, a1.row] [rB (Y6 a0 a1)] := by
 have f := me (Y6.eq_1 a0 a1)
 refine so Tryz.func264 Tryz.ntmps264 ?_
 refine lp1 (Jp.eq_2 a0 a1) (fun v1_0 => Yc 73 [eX 2 (a0.row.map .d), eX 3 (a1.row.map .d), eI 5 (↑v1_0 : Int)]) (fun n1 v1_0 => a0.Zb.length < n1 + v1_0 ∧ v1_0 ≤ a0.Zb.length) (a0.Zb.length + 1) 0 (fun p1 v1_0 e1 j1 => ?_)
 refine cF e1 (fun k2 h1 e1 => ?_) (fun k2 h1 e1 => ?_)
 ·have i1 : v1_0 < a0.Zb.length := by (simp at h1; omega)
  have m2 := ml a0.Zb (k2 8 _ rfl)
  have w1 := wr v1_0
  refine dIo mixed ?_
  have i2 := ik v1_0 a1.Zb
  simp [i1, ZA, i2]
  repeat with_reducible refine sd ?_
  refine cF e1 (fun k4 h2 e1 => ?_) (fun k4 h2 e1 => ?_)
  ·refine okD fun k5 => ?_
   refine dIo mixed ?_
   have f := ms f e1
   simp [i1, ZA, i2]
   repeat with_reducible refine sd ?_
   exact rt [.tmp 4] f
  exact ny1 w1 e1
 have f := ms f e1
 refine cF f (fun k6 h3 f => ?_) (fun k6 h3 f => ?_)
 ·exact rt [.tmp 4] f
 refine cF f (fun k7 h4 f => ?_) (fun k7 h4 f => ?_)
 ·exact rt [.tmp 4] f
 exact rt [.tmp 4] f
theorem ZCL {a b : Prop} (h : b) (k : a := by (intros; first | omega | with_unfolding_all (first | (first | omega | (simp_all; done) | (simp_all; omega))) | ((try simp only [J7, show ∀ x, IntKind.i64.wrap x = W x from fun _ => rfl] at *); omega))) : a ∧ b := ⟨k, h⟩
theorem YR {a b : Prop} (h : b) (k : a := by (intros; first | omega | with_unfolding_all (first | (first | omega | (simp_all; done) | (simp_all; omega))) | (simp_all; done) | (simp_all; omega) | grind | ((try simp only [J7, show ∀ x, IntKind.i64.wrap x = W x from fun _ => rfl] at *); omega))) : a ∧ b := ⟨k, h⟩
theorem ZHU (a0 : ZF) (a1 : ZI) (a2 : List (List Int)) (u0 : Sm 2285568 a0) (u1 : Sm 2285568 a1) (u2 : Sm 2285568 a2) (u3 : ZQt a1 ≤ 2097152) : So 202 [a0.row, a1.row, rL 1 (slR 1 iR) a2] [rL 3 ZB.row (Zt a0 a1 a2)] := by
 have f := me (Zt.eq_1 a0 a1 a2)
 refine so Tryz.func202 Tryz.ntmps202 ?_
 refine lp2 (Q0.eq_2 a0 a1 a2) (fun v1_0 v1_1 => Yc 79 [eL 2 1 a2 (slR 1 iR), eX 3 (a0.row.map .d), eX 4 (a1.row.map .d), (7, .one (.sref 7 0 0 v1_0.length), [.arr false 3 (v1_0.map ZB.row)]), eL 14 2 a1.ZK ZN.row, eI 15 (↑a1.ZK.length : Int), eI 16 (↑v1_1 : Int)]) (fun n1 v1_0 v1_1 => a1.ZK.length < n1 + v1_1 ∧ v1_1 ≤ a1.ZK.length ∧ v1_0.length + cnL (fun s : ZN => s.ZZ.length) (a1.ZK.drop v1_1) ≤ 2097152 ∧ Sm 2285568 v1_0) (a1.ZK.length + 1) ([] : List ZB) 0 (fun p1 v1_0 v1_1 e1 j1 => ?_) (hI := by (have u : cnL (fun s : ZN => s.ZZ.length) a1.ZK ≤ 2097152 := u3; (try dsimp only); refine ⟨by omega, by omega, by omega, ?_, ⟨Nat.zero_le _, fun x hx => by cases hx⟩⟩; rw [List.drop_zero]; simp only [List.length_nil]; omega)) (h0 := Yh [((7, 0), none)] [] rfl (by simp))
 try dsimp only at j1
 refine cFo e1 (fun k2 h1 e1 => ?_) (fun k2 h1 e1 => ?_)
 ·have q1 := h1; try simp at q1
  have i1 := ix h1
  have m2 := ml a1.ZK (k2 14 _ rfl)
  have c1 := sl 2285568 a1.ZK (an u0 (an u1 (an u2 u3)))
  have w1 := wr v1_1
  simp [i1, ZA]
  repeat with_reducible refine ZCL ?_
  refine lp2 (Xz.eq_2 a0 a1 a2 v1_1) (fun v2_0 v2_1 => Yc 79 [eL 2 1 a2 (slR 1 iR), eX 3 (a0.row.map .d), eX 4 (a1.row.map .d), (7, .one (.sref 7 0 0 v2_0.length), [.arr false 3 (v2_0.map ZB.row)]), eL 14 2 a1.ZK ZN.row, eI 15 (↑a1.ZK.length : Int), eI 16 (↑v1_1 : Int), eL 21 3 (nth a1.ZK v1_1).ZZ ZB.row, eI 22 (↑(nth a1.ZK v1_1).ZZ.length : Int), eI 23 (↑v2_1 : Int)]) (fun n2 v2_0 v2_1 => (nth a1.ZK v1_1).ZZ.length < n2 + v2_1 ∧ v2_1 ≤ (nth a1.ZK v1_1).ZZ.length ∧ v2_0.length + ((nth a1.ZK v1_1).ZZ.length - v2_1) + cnL (fun s : ZN => s.ZZ.length) (a1.ZK.drop (v1_1 + 1)) ≤ 2097152 ∧ Sm 2285568 v2_0) ((nth a1.ZK v1_1).ZZ.length + 1) v1_0 0 (fun p2 v2_0 v2_1 e2 j2 => ?_) (hI := by (have d := ZKr (l := a1.ZK) (i := v1_1) (by first | omega | (simp at *; omega)); refine ⟨?_, ?_, ?_, ?_, j1.2.2.2.2⟩ <;> ((try dsimp only); omega)))
  try dsimp only at j2
  refine cFo e2 (fun k4 h2 e2 => ?_) (fun k4 h2 e2 => ?_)
  ·have q2 := h2; try simp at q2
   have i2 := ix h2
   have m4 := ml (nth a1.ZK v1_1).ZZ (k4 21 _ rfl)
   have c2 := sl 2285568 (nth a1.ZK v1_1).ZZ (an u0 (an u1 (an u2 u3)))
   have w2 := wr v2_1
   simp [i2, ZA]
   repeat with_reducible refine ZCL ?_
   refine dIs mixed ?_
   refine cRs (ZC1 v2_0 (nth (nth a1.ZK v1_1).ZZ v2_1)) ?_
   refine cGs (fun gg => (ZJs a0.Y3 (nth (nth a1.ZK v1_1).ZZ v2_1) (by (first | exact sg u0 | exact sg u1 | exact sg u2 | exact sg (ZF.Ym u0) | exact sg j2.2.2.2.2 | exact sg (Z2 j2.2.2.2.2) | exact sg (Z2 (ZN.Y4 (Z2 (ZI.Yr u1)))))) (by (first | exact sg u0 | exact sg u1 | exact sg u2 | exact sg (ZF.Ym u0) | exact sg j2.2.2.2.2 | exact sg (Z2 j2.2.2.2.2) | exact sg (Z2 (ZN.Y4 (Z2 (ZI.Yr u1)))))))) ?_
   refine cGs (fun gg => (ZBn a0 a1 a2 (nth (nth a1.ZK v1_1).ZZ v2_1) (by (first | exact sg u0 | exact sg u1 | exact sg u2 | exact sg (ZF.Ym u0) | exact sg j2.2.2.2.2 | exact sg (Z2 j2.2.2.2.2) | exact sg (Z2 (ZN.Y4 (Z2 (ZI.Yr u1)))))) (by (first | exact sg u0 | exact sg u1 | exact sg u2 | exact sg (ZF.Ym u0) | exact sg j2.2.2.2.2 | exact sg (Z2 j2.2.2.2.2) | exact sg (Z2 (ZN.Y4 (Z2 (ZI.Yr u1)))))) (by (first | exact sg u0 | exact sg u1 | exact sg u2 | exact sg (ZF.Ym u0) | exact sg j2.2.2.2.2 | exact sg (Z2 j2.2.2.2.2) | exact sg (Z2 (ZN.Y4 (Z2 (ZI.Yr u1)))))) (by (first | exact sg u0 | exact sg u1 | exact sg u2 | exact sg (ZF.Ym u0) | exact sg j2.2.2.2.2 | exact sg (Z2 j2.2.2.2.2) | exact sg (Z2 (ZN.Y4 (Z2 (ZI.Yr u1)))))))) ?_
   refine cGs (fun gg => (ZEn a0 (nth (nth a1.ZK v1_1).ZZ v2_1).Key)) ?_
   refine cFo e2 (fun k6 h3 e2 => ?_) (fun k6 h3 e2 => ?_)
   ·have q3 := h3; try simp at q3
    simp
    exact ny2 (an w1 w2) e2 (hI := by first | (refine ⟨?_, ?_, ?_, ?_, j2.2.2.2.2⟩ <;> ((try dsimp only); omega)) | (have pk : Sm 2285568 (nth (nth a1.ZK v1_1).ZZ v2_1) := Z2 (ZN.Y4 (Z2 (ZI.Yr u1))); obtain ⟨q1, q2⟩ := ZPN (z := v3_0) j2.2.2.2.2 pk (by omega); refine ⟨?_, ?_, ?_, ?_, q1⟩ <;> ((try dsimp only); omega)))
   have q3 := h3; try simp at q3
   simp
   refine lp1 (KJ.eq_2 a1 v1_1 v2_0 v2_1) (fun v3_0 => Yc 79 [eL 2 1 a2 (slR 1 iR), eX 3 (a0.row.map .d), eX 4 (a1.row.map .d), (7, .one (.sref 7 0 0 v2_0.length), [.arr false 3 (v2_0.map ZB.row)]), eX 11 ((nth (nth a1.ZK v1_1).ZZ v2_1).row.map .d), eI 12 (↑v3_0 : Int), eL 14 2 a1.ZK ZN.row, eI 15 (↑a1.ZK.length : Int), eI 16 (↑v1_1 : Int), eL 21 3 (nth a1.ZK v1_1).ZZ ZB.row, eI 22 (↑(nth a1.ZK v1_1).ZZ.length : Int), eI 23 (↑v2_1 : Int)]) (fun n3 v3_0 => v2_0.length < n3 + v3_0 ∧ v3_0 ≤ v2_0.length) (v2_0.length + 1) 0 (fun p3 v3_0 e3 j3 => ?_)
   try dsimp only at j3
   refine dIs mixed ?_
   refine gIo (fun G => ?_) (fun G => ?_)
   ·have g1x := G
    have g1 := G; try simp at g1
    have i3 := ik v3_0 v2_0
    simp [i3, ZA, G]
    repeat with_reducible refine YR ?_
    refine cGo (fun gg => (ZIN (nth v2_0 v3_0) (nth (nth a1.ZK v1_1).ZZ v2_1))) ?_
    simp [G]
    repeat with_reducible refine YR ?_
    refine cKo e3 (fun k9 h4 e3 => ?_) (fun k9 h4 e3 => ?_)
    ·try (simp [G] at h4; done)
     all_goals
      have q4 := h4; try simp at q4
      have i4 : v3_0 < v2_0.length := by (simp at h4; omega)
      have m6 := ml v2_0 (k9 7 _ rfl)
      have w3 := wr v3_0
      simp [G]
      repeat with_reducible refine YR ?_
      exact ny1 (an w1 (an w2 (an w3 G))) e3
    ·try (simp [G] at h4; done)
     all_goals
      have q4 := h4; try simp at q4
      have e2 := ms e2 e3
      simp [G]
      repeat with_reducible refine YR ?_
      refine dIo mixed ?_
      simp [G]
      repeat with_reducible refine YR ?_
      refine evI rfl rfl rfl ?_
      simp [G]
      repeat with_reducible refine YR ?_
      refine evI rfl rfl rfl ?_
      simp [G]
      repeat with_reducible refine YR ?_
      refine cR (Yb.rd (ZAw (nth (nth a1.ZK v1_1).ZZ v2_1) (by (first | exact sg u0 | exact sg u1 | exact sg u2 | exact sg (ZF.Ym u0) | exact sg j2.2.2.2.2 | exact sg (Z2 j2.2.2.2.2) | exact sg (Z2 (ZN.Y4 (Z2 (ZI.Yr u1)))))))) ?_
      simp [G]
      repeat with_reducible refine YR ?_
      refine evI rfl rfl rfl ?_
      simp [G]
      repeat with_reducible refine YR ?_
      refine evI rfl rfl rfl ?_
      simp [G]
      repeat with_reducible refine YR ?_
      refine evI rfl rfl rfl ?_
      simp [G]
      repeat with_reducible refine YR ?_
      exact nx2 e2 (hI := by first | (refine ⟨?_, ?_, ?_, ?_, j2.2.2.2.2⟩ <;> ((try dsimp only); omega)) | (have pk : Sm 2285568 (nth (nth a1.ZK v1_1).ZZ v2_1) := Z2 (ZN.Y4 (Z2 (ZI.Yr u1))); obtain ⟨q1, q2⟩ := ZPN (z := v3_0) j2.2.2.2.2 pk (by omega); refine ⟨?_, ?_, ?_, ?_, q1⟩ <;> ((try dsimp only); omega))) (hw := Yh [((7, 0), some (75, 0))] [] rfl (by simp [w1, w2, G]))
   ·have g1x := G
    simp [G]
    repeat with_reducible refine YR ?_
    refine sGo ?_
    simp [G]
    repeat with_reducible refine YR ?_
    refine cKo e3 (fun k11 h5 e3 => ?_) (fun k11 h5 e3 => ?_)
    ·try (simp [G] at h5; done)
     all_goals
      have q5 := h5; try simp at q5
      have i6 : v3_0 < v2_0.length := by (simp at h5; omega)
      have m8 := ml v2_0 (k11 7 _ rfl)
      have w4 := wr v3_0
      simp [G]
      repeat with_reducible refine YR ?_
      exact ny1 (an w1 (an w2 (an w4 G))) e3
    ·try (simp [G] at h5; done)
     all_goals
      have q5 := h5; try simp at q5
      have e2 := ms e2 e3
      simp [G]
      repeat with_reducible refine YR ?_
      refine dIo mixed ?_
      simp [G]
      repeat with_reducible refine YR ?_
      refine evI rfl rfl rfl ?_
      simp [G]
      repeat with_reducible refine YR ?_
      refine evI rfl rfl rfl ?_
      simp [G]
      repeat with_reducible refine YR ?_
      refine cR (Yb.rd (ZAw (nth (nth a1.ZK v1_1).ZZ v2_1) (by (first | exact sg u0 | exact sg u1 | exact sg u2 | exact sg (ZF.Ym u0) | exact sg j2.2.2.2.2 | exact sg (Z2 j2.2.2.2.2) | exact sg (Z2 (ZN.Y4 (Z2 (ZI.Yr u1)))))))) ?_
      simp [G]
      repeat with_reducible refine YR ?_
      refine evI rfl rfl rfl ?_
      simp [G]
      repeat with_reducible refine YR ?_
      refine evI rfl rfl rfl ?_
      simp [G]
      repeat with_reducible refine YR ?_
      refine evI rfl rfl rfl ?_
      simp [G]
      repeat with_reducible refine YR ?_
      exact nx2 e2 (hI := by first | (refine ⟨?_, ?_, ?_, ?_, j2.2.2.2.2⟩ <;> ((try dsimp only); omega)) | (have pk : Sm 2285568 (nth (nth a1.ZK v1_1).ZZ v2_1) := Z2 (ZN.Y4 (Z2 (ZI.Yr u1))); obtain ⟨q1, q2⟩ := ZPN (z := v3_0) j2.2.2.2.2 pk (by omega); refine ⟨?_, ?_, ?_, ?_, q1⟩ <;> ((try dsimp only); omega))) (hw := Yh [((7, 0), some (75, 0))] [] rfl (by simp [w1, w2, G]))
  have q2 := h2; try simp at q2
  have c3 := sl 2285568 (nth a1.ZK v1_1).ZZ (an u0 (an u1 (an u2 u3)))
  have e1 := ms e1 e2
  simp
  exact ny2 w1 e1 (hI := by (refine ⟨?_, ?_, ?_, ?_, j2.2.2.2.2⟩ <;> ((try dsimp only); omega)))
 have q1 := h1; try simp at q1
 have c4 := sl 2285568 a1.ZK (an u0 (an u1 (an u2 u3)))
 have f := ms f e1
 simp
 exact rtO [.tmp 6] f
theorem ZGU (a0 : YH) : Sa 231 [a0.row] [(xt a0).row] := by
 have f := me (xt.eq_1 a0)
 refine so Tryz.func231 Tryz.ntmps231 ?_
 exact rt [.cell 2 77] f
theorem ZQX (a0 : YH) : Sa 164 [a0.row] [rB (ZFn a0)] := by
 have f := me (ZFn.eq_1 a0)
 refine so Tryz.func164 Tryz.ntmps164 ?_
 refine cRs (YA a0.YO 1 999) ?_
 refine cGs (fun gg => (YA a0.Key 1 99)) ?_
 refine cGs (fun gg => (YA a0.Qs 1 99)) ?_
 refine cGs (fun gg => (YA a0.Kb 0 99)) ?_
 refine cGs (fun gg => (ZGU a0)) ?_
 refine cGs (fun gg => (JO (xt a0))) ?_
 exact rt [.tmp 2] f
theorem ZNI (a0 : YH) : Sd 166 [a0.row] [rL 1 iR (yn a0)] := by
 have f := me (yn.eq_1 a0)
 refine soD Tryz.func166 Tryz.ntmps166 ?_
 exact rtD [.tmp 2] f
theorem ZHa (a0 : List YC) (a1 : Int) : Sa 167 [rL 5 YC.row a0, rI a1] [rI (ZBY a0 a1)] := by
 have f := me (ZBY.eq_1 a0 a1)
 refine so Tryz.func167 Tryz.ntmps167 ?_
 refine cRs (qA a0 a1) ?_
 refine cFf f (fun k1 h1 f => ?_) (fun k1 h1 f => ?_)
 ·have i1 : (Y5 a0 a1).toNat < a0.length := by have := kT a0 a1; exact il
  simp [i1, ZA]
  repeat with_reducible refine sd ?_
  exact rt [.tmp 4] f
 exact rt [.tmp 4] f
theorem ZLH (a0 : List YC) (a1 : YH) (u0 : Sm 2314240 a0) : Sa 130 [rL 5 YC.row a0, a1.row] [rB (ZAg a0 a1)] := by
 have f := me (ZAg.eq_1 a0 a1)
 refine so Tryz.func130 Tryz.ntmps130 ?_
 refine dIs mixed ?_
 refine cRs (ZQX a1) ?_
 refine cGs (fun gg => Yb.rd (ZNI a1)) ?_
 refine cGs (fun gg => (Qg a0 a1.Qs (yn a1) a1.Mark (sg u0) (by simp (maxDischargeDepth := 12) [ZNG, ZX (m := 2318336) (by decide) u0]; try omega))) ?_
 refine cGs (fun gg => (ZHa a0 a1.Key)) ?_
 exact rt [.tmp 4] f
theorem ZPU (a0 : ZF) (a1 : List ZB) (a2 : ZY) (u0 : Sm 2310144 a0) (u1 : Sm 2310144 a1) : Sa 203 [a0.row, rL 3 ZB.row a1, a2.row] [(QQ a0 a1 a2).1.row, rB (QQ a0 a1 a2).2] := by
 have f := me (QQ.eq_1 a0 a1 a2)
 refine so Tryz.func203 Tryz.ntmps203 ?_
 refine lp9 (jg.eq_2 a0 a1 a2) (fun v1_0 v1_1 v1_2 v1_3 v1_4 v1_5 v1_6 v1_7 v1_8 => Yc 54 [eX 3 (a0.row.map .d), eX 5 (a2.row.map .d), (6, .one (.bptr 6 0), [.box [.d (.int .i64 0), .d (.int .i64 0), .d (.int .i64 0), .d (.int .i64 0), .d (.int .i64 0), .d (.int .i64 0), .d (.int .i64 0)]]), (8, .one (.bptr 8 0), [.box [.d (.int .i64 v1_2), .d (.int .i64 v1_3), .d (.int .i64 v1_4), .d (.int .i64 v1_5), .d (.int .i64 v1_6), .d (.int .i64 v1_7), .d (.int .i64 v1_8)]]), eI 9 v1_0, eL 14 3 a1 ZB.row, eI 15 (↑a1.length : Int), eI 16 (↑v1_1 : Int)]) (fun n1 v1_0 v1_1 v1_2 v1_3 v1_4 v1_5 v1_6 v1_7 v1_8 => a1.length < n1 + v1_1 ∧ v1_1 ≤ a1.length) (a1.length + 1) 0 0 0 0 0 0 0 0 0 (fun p1 v1_0 v1_1 v1_2 v1_3 v1_4 v1_5 v1_6 v1_7 v1_8 e1 j1 => ?_)
 refine cFf e1 (fun k2 h1 e1 => ?_) (fun k2 h1 e1 => ?_)
 ·have i1 := ix h1
  have m2 := ml a1 (k2 14 _ rfl)
  have c1 := sl 2310144 a1 (an u0 u1)
  have w1 := wr v1_1
  simp [i1, ZA]
  repeat with_reducible refine sd ?_
  refine cRs (ZFI (nth a1 v1_1)) ?_
  refine cGs (fun gg => (ZLH a0.Y3 (XS (nth a1 v1_1)).1 (sg (ZF.Ym u0)))) ?_
  refine cF e1 (fun k3 h2 e1 => ?_) (fun k3 h2 e1 => ?_)
  ·exact ny9 w1 e1
  exact ny9 w1 e1
 have c2 := sl 2310144 a1 (an u0 u1)
 have f := ms f e1
 refine cF f (fun k4 h3 f => ?_) (fun k4 h3 f => ?_)
 ·exact rt [.cell 6 168, .tmp 7] f
 exact rt [.cell 6 168, .tmp 7] f
theorem ZUr (a0 : Int) (a1 : Int) : Sa 316 [rI a0, rI a1] [rI (ZSo a0 a1)] := by
 have f := me (ZSo.eq_1 a0 a1)
 refine so Tryz.func316 Tryz.ntmps316 ?_
 exact rt [.tmp 4] f
theorem ZCi (a0 : Int) (a1 : List Za) (u0 : Sm 2326528 a1) : Sa 268 [rI a0, rL 5 Za.row a1] [rI (KX a0 a1)] := by
 have f := me (KX.eq_1 a0 a1)
 refine so Tryz.func268 Tryz.ntmps268 ?_
 refine cF f (fun k1 h1 f => ?_) (fun k1 h1 f => ?_)
 ·exact rt [.tmp 4] f
 refine lp2 (z5.eq_2 a1) (fun v1_0 v1_1 => Yc 27 [eI 0 a0, (5, .one (.sref 5 0 0 v1_0.length), [.arr false 1 (v1_0.map iR)]), eL 11 5 a1 Za.row, eI 12 (↑a1.length : Int), eI 13 (↑v1_1 : Int)]) (fun n1 v1_0 v1_1 => a1.length < n1 + v1_1 ∧ v1_1 ≤ a1.length ∧ v1_0.length ≤ 0 + 1 * v1_1) (a1.length + 1) ([] : List Int) 0 (fun p1 v1_0 v1_1 e1 j1 => ?_) (h0 := Yh [((5, 0), none)] [] rfl (by simp))
 refine cFf e1 (fun k3 h2 e1 => ?_) (fun k3 h2 e1 => ?_)
 ·have i1 := ix h2
  have m2 := ml a1 (k3 11 _ rfl)
  have c1 := sl 2326528 a1 u0
  have w1 := wr v1_1
  simp [i1, ZA]
  repeat with_reducible refine sd ?_
  exact nx2 e1 (hw := Yh [((5, 0), some (21, 0))] [] rfl (by simp [w1]))
 have c2 := sl 2326528 a1 u0
 have f := ms f e1
 refine cRs (J5 a0 v1_0 (by first | (simp (maxDischargeDepth := 12) [Xr]; omega) | (simp (maxDischargeDepth := 12) [ZX (m := 68719476736) (by decide) u0]; done))) ?_
 refine cRs (ZUr 1 (Qq a0 v1_0)) ?_
 exact rt [.tmp 4] f
theorem ZEo (a0 : Int) (a1 : Za) : Sd 269 [rI a0, a1.row] [(JA a0 a1).row] := by
 have f := me (JA.eq_1 a0 a1)
 refine soD Tryz.func269 Tryz.ntmps269 ?_
 refine dIs mixed ?_
 refine cDs [false] (ZBx a1) ?_
 exact rtD [.cell 4 194] f
theorem ZK8 (a0 : ZF) (a1 : ZI) (a2 : List ZB) (a3 : ZY) (u0 : Sm 2314240 a0) (u1 : Sm 2314240 a1) (u2 : Sm 2314240 a2) : Sa 204 [a0.row, a1.row, rL 3 ZB.row a2, a3.row] [rI (Xt a0 a1 a2 a3)] := by
 have f := me (Xt.eq_1 a0 a1 a2 a3)
 refine so Tryz.func204 Tryz.ntmps204 ?_
 refine cRs (qA a0.Y3 a3.Key) ?_
 refine cFf f (fun k1 h1 f => ?_) (fun k1 h1 f => ?_)
 ·have i1 : (Y5 a0.Y3 a3.Key).toNat < a0.Y3.length := by have := kT a0.Y3 a3.Key; exact il
  simp [i1, ZA]
  repeat with_reducible refine sd ?_
  refine lp2 (QE.eq_2 a0 a1 a2 a3) (fun v1_0 v1_1 => Yc 92 [eL 2 3 a2 ZB.row, eX 4 (a0.row.map .d), eX 7 (a3.row.map .d), eI 9 v1_0, eL 32 1 a1.Zz (slR 5 Za.row), eI 33 (↑a1.Zz.length : Int), eI 34 (↑v1_1 : Int)]) (fun n1 v1_0 v1_1 => a1.Zz.length < n1 + v1_1 ∧ v1_1 ≤ a1.Zz.length) (a1.Zz.length + 1) (nth a0.Y3 (Y5 a0.Y3 a3.Key).toNat).ZIX 0 (fun p1 v1_0 v1_1 e1 j1 => ?_)
  refine cFf e1 (fun k3 h2 e1 => ?_) (fun k3 h2 e1 => ?_)
  ·have i2 := ix h2
   have m2 := ml a1.Zz (k3 32 _ rfl)
   have c1 := sl 2314240 a1.Zz (an u0 (an u1 u2))
   have w1 := wr v1_1
   simp [i2, ZA]
   repeat with_reducible refine sd ?_
   refine dIs mixed ?_
   refine cGs (fun gg => (yl (nth a1.Zz v1_1))) ?_
   refine cGs (fun gg => (ZCi a3.Method (nth a1.Zz v1_1) (sg (Z2 (ZI.j9 u1))))) ?_
   refine cF e1 (fun k5 h3 e1 => ?_) (fun k5 h3 e1 => ?_)
   ·exact ny2 w1 e1
   refine lp2 (QC.eq_2 a0 a1 a2 v1_1) (fun v2_0 v2_1 => Yc 92 [eL 2 3 a2 ZB.row, eX 4 (a0.row.map .d), eX 7 (a3.row.map .d), eI 9 v1_0, eL 12 5 (nth a1.Zz v1_1) Za.row, eB 13 v2_0, eL 32 1 a1.Zz (slR 5 Za.row), eI 33 (↑a1.Zz.length : Int), eI 34 (↑v1_1 : Int), eL 55 5 (nth a1.Zz v1_1) Za.row, eI 56 (↑(nth a1.Zz v1_1).length : Int), eI 57 (↑v2_1 : Int)]) (fun n2 v2_0 v2_1 => (nth a1.Zz v1_1).length < n2 + v2_1 ∧ v2_1 ≤ (nth a1.Zz v1_1).length) ((nth a1.Zz v1_1).length + 1) true 0 (fun p2 v2_0 v2_1 e2 j2 => ?_)
   refine cFf e2 (fun k7 h4 e2 => ?_) (fun k7 h4 e2 => ?_)
   ·have i3 := ix h4
    have m4 := ml (nth a1.Zz v1_1) (k7 12 _ rfl)
    have c2 := sl 2314240 (nth a1.Zz v1_1) (an u0 (an u1 u2))
    have w2 := wr v2_1
    simp [i3, ZA]
    repeat with_reducible refine sd ?_
    refine dIs mixed ?_
    refine cGs (fun gg => (ZC7 a0.ZT (nth (nth a1.Zz v1_1) v2_1))) ?_
    refine cGs (fun gg => Yb.rd (ZEo (Xj a0.ZT (nth (nth a1.Zz v1_1) v2_1)) (nth (nth a1.Zz v1_1) v2_1))) ?_
    refine cGs (fun gg => (ZC1 a2 (JA (Xj a0.ZT (nth (nth a1.Zz v1_1) v2_1)) (nth (nth a1.Zz v1_1) v2_1)))) ?_
    exact ny2 (an w1 w2) e2
   have c3 := sl 2314240 (nth a1.Zz v1_1) (an u0 (an u1 u2))
   have e1 := ms e1 e2
   refine cRs (ZCv a0.ZT (nth a1.Zz v1_1) a0.Q6 (sg (ZF.Qf u0)) (sg (Z2 (ZI.j9 u1)))) ?_
   refine cF e1 (fun k9 h5 e1 => ?_) (fun k9 h5 e1 => ?_)
   ·exact ny2 w1 e1
   exact ny2 w1 e1
  have c4 := sl 2314240 a1.Zz (an u0 (an u1 u2))
  have f := ms f e1
  exact rt [.tmp 8] f
 refine lp2 (zL.eq_2 a0 a1 a2 a3) (fun v3_0 v3_1 => Yc 92 [eL 2 3 a2 ZB.row, eX 4 (a0.row.map .d), eX 7 (a3.row.map .d), eI 9 v3_0, eL 32 1 a1.Zz (slR 5 Za.row), eI 33 (↑a1.Zz.length : Int), eI 34 (↑v3_1 : Int)]) (fun n3 v3_0 v3_1 => a1.Zz.length < n3 + v3_1 ∧ v3_1 ≤ a1.Zz.length) (a1.Zz.length + 1) 0 0 (fun p3 v3_0 v3_1 e3 j3 => ?_)
 refine cFf e3 (fun k11 h6 e3 => ?_) (fun k11 h6 e3 => ?_)
 ·have i4 := ix h6
  have m6 := ml a1.Zz (k11 32 _ rfl)
  have c5 := sl 2314240 a1.Zz (an u0 (an u1 u2))
  have w3 := wr v3_1
  simp [i4, ZA]
  repeat with_reducible refine sd ?_
  refine dIs mixed ?_
  refine cGs (fun gg => (yl (nth a1.Zz v3_1))) ?_
  refine cGs (fun gg => (ZCi a3.Method (nth a1.Zz v3_1) (sg (Z2 (ZI.j9 u1))))) ?_
  refine cF e3 (fun k13 h7 e3 => ?_) (fun k13 h7 e3 => ?_)
  ·exact ny2 w3 e3
  refine lp2 (qn.eq_2 a0 a1 a2 v3_1) (fun v4_0 v4_1 => Yc 92 [eL 2 3 a2 ZB.row, eX 4 (a0.row.map .d), eX 7 (a3.row.map .d), eI 9 v3_0, eL 12 5 (nth a1.Zz v3_1) Za.row, eB 13 v4_0, eL 32 1 a1.Zz (slR 5 Za.row), eI 33 (↑a1.Zz.length : Int), eI 34 (↑v3_1 : Int), eL 55 5 (nth a1.Zz v3_1) Za.row, eI 56 (↑(nth a1.Zz v3_1).length : Int), eI 57 (↑v4_1 : Int)]) (fun n4 v4_0 v4_1 => (nth a1.Zz v3_1).length < n4 + v4_1 ∧ v4_1 ≤ (nth a1.Zz v3_1).length) ((nth a1.Zz v3_1).length + 1) true 0 (fun p4 v4_0 v4_1 e4 j4 => ?_)
  refine cFf e4 (fun k15 h8 e4 => ?_) (fun k15 h8 e4 => ?_)
  ·have i5 := ix h8
   have m8 := ml (nth a1.Zz v3_1) (k15 12 _ rfl)
   have c6 := sl 2314240 (nth a1.Zz v3_1) (an u0 (an u1 u2))
   have w4 := wr v4_1
   simp [i5, ZA]
   repeat with_reducible refine sd ?_
   refine dIs mixed ?_
   refine cGs (fun gg => (ZC7 a0.ZT (nth (nth a1.Zz v3_1) v4_1))) ?_
   refine cGs (fun gg => Yb.rd (ZEo (Xj a0.ZT (nth (nth a1.Zz v3_1) v4_1)) (nth (nth a1.Zz v3_1) v4_1))) ?_
   refine cGs (fun gg => (ZC1 a2 (JA (Xj a0.ZT (nth (nth a1.Zz v3_1) v4_1)) (nth (nth a1.Zz v3_1) v4_1)))) ?_
   exact ny2 (an w3 w4) e4
  have c7 := sl 2314240 (nth a1.Zz v3_1) (an u0 (an u1 u2))
  have e3 := ms e3 e4
  refine cRs (ZCv a0.ZT (nth a1.Zz v3_1) a0.Q6 (sg (ZF.Qf u0)) (sg (Z2 (ZI.j9 u1)))) ?_
  refine cF e3 (fun k17 h9 e3 => ?_) (fun k17 h9 e3 => ?_)
  ·exact ny2 w3 e3
  exact ny2 w3 e3
 have c8 := sl 2314240 a1.Zz (an u0 (an u1 u2))
 have f := ms f e3
 exact rt [.tmp 8] f
theorem ZIW (a0 : List ZB) (a1 : YH) (u0 : Sm 2330624 a0) : Sd 205 [rL 3 ZB.row a0, a1.row] [rL 5 Zy.row (JC a0 a1)] := by
 have f := me (JC.eq_1 a0 a1)
 refine soD Tryz.func205 Tryz.ntmps205 ?_
 refine lp2 (Jm.eq_2 a0 a1) (fun v1_0 v1_1 => Yc 42 [eX 3 (a1.row.map .d), (5, .one (.sref 5 0 0 v1_0.length), [.arr false 5 (v1_0.map Zy.row)]), eL 10 3 a0 ZB.row, eI 11 (↑a0.length : Int), eI 12 (↑v1_1 : Int)]) (fun n1 v1_0 v1_1 => a0.length < n1 + v1_1 ∧ v1_1 ≤ a0.length ∧ v1_0.length ≤ 0 + 1 * v1_1) (a0.length + 1) ([] : List Zy) 0 (fun p1 v1_0 v1_1 e1 j1 => ?_) (h0 := Yh [((5, 0), none)] [] rfl (by simp))
 refine cFf e1 (fun k2 h1 e1 => ?_) (fun k2 h1 e1 => ?_)
 ·have i1 := ix h1
  have m2 := ml a0 (k2 10 _ rfl)
  have c1 := sl 2330624 a0 u0
  have w1 := wr v1_1
  simp [i1, ZA]
  repeat with_reducible refine sd ?_
  refine cRs (ZDX (nth a0 v1_1)) ?_
  refine cF e1 (fun k3 h2 e1 => ?_) (fun k3 h2 e1 => ?_)
  ·exact nx2 e1 (hw := Yh [((5, 0), some (39, 0))] [] rfl (by simp [w1]))
  exact ny2 w1 e1
 have c2 := sl 2330624 a0 u0
 have f := ms f e1
 exact rtD [.tmp 4] f
theorem Q5 (a0 : Int) (a1 : Int) (a2 : List ZD) (u0 : Sm 2326528 a2) : ZLM Tryz.prog 322 [rI a0, rI a1] [.sl 2 (a2.map ZD.row)] [.sl 2 ((Zh a0 a1 a2).map ZD.row)] := by
 refine ZTD Tryz.func322 rfl (by kernel_rfl) [false] (by simp) (fun v => ?_)
 simp [Tryz.ntmps322]
 refine cR (ZCt a0 a1) ?_
 simp
 refine cC (Jh a0 a1).2 (fun k1 h1 => ?_) (fun k1 h1 => ?_)
 ·have q1 := h1; try simp at q1
  have c1 : a2.length ≤ 2326528 := Yw (by simp (maxDischargeDepth := 12) [u0])
  simp
  repeat with_reducible refine sd ?_
  refine ZXE (ats := [(.sref 17 0 0 (a2 ++ ([(Jh a0 a1).1] : List ZD)).length)]) rfl ?_ (.inr rfl)
  have f1 := Zh.eq_1 a0 a1 a2
  simp only [h1, ZC2, ZCz] at f1
  simp [f1]
  all_goals ((rintro r (⟨a, _, rfl⟩ | rfl) x hx <;> simp at hx <;> rcases hx with rfl | rfl <;> rfl))
 ·have q1 := h1; try simp at q1
  simp
  refine ZXE (ats := [(.sref 2 1 0 a2.length)]) rfl ?_ (.inr rfl)
  have f2 := Zh.eq_1 a0 a1 a2
  simp only [h1, ZC2, ZCz] at f2
  simp [f2]
  all_goals ((rintro r (⟨a, _, rfl⟩ | rfl) x hx <;> simp at hx <;> rcases hx with rfl | rfl <;> rfl))
theorem ZOI (a0 : List Zy) (a1 : Int) : Sa 344 [rL 5 Zy.row a0, rI a1] [rI (jo a0 a1).1, rI (jo a0 a1).2.1, rI (jo a0 a1).2.2] := by
 have f := me (jo.eq_1 a0 a1)
 refine so Tryz.func344 Tryz.ntmps344 ?_
 refine lp4 (xg.eq_2 a0 a1) (fun v1_0 v1_1 v1_2 v1_3 => Yc 49 [eI 1 a1, eI 7 v1_0, eI 8 v1_1, eI 9 v1_2, eL 12 5 a0 Zy.row, eI 13 (↑a0.length : Int), eI 14 (↑v1_3 : Int)]) (fun n1 v1_0 v1_1 v1_2 v1_3 => a0.length < n1 + v1_3 ∧ v1_3 ≤ a0.length) (a0.length + 1) (-1) (-1) (-1) 0 (fun p1 v1_0 v1_1 v1_2 v1_3 e1 j1 => ?_)
 refine cFf e1 (fun k2 h1 e1 => ?_) (fun k2 h1 e1 => ?_)
 ·have i1 := ix h1
  have m2 := ml a0 (k2 12 _ rfl)
  have w1 := wr v1_3
  simp [i1, ZA]
  repeat with_reducible refine sd ?_
  refine cF e1 (fun k3 h2 e1 => ?_) (fun k3 h2 e1 => ?_)
  ·exact ny4 w1 e1
  refine cF e1 (fun k4 h3 e1 => ?_) (fun k4 h3 e1 => ?_)
  ·exact ny4 w1 e1
  refine cF e1 (fun k5 h4 e1 => ?_) (fun k5 h4 e1 => ?_)
  ·exact ny4 w1 e1
  exact ny4 w1 e1
 have f := ms f e1
 exact rt [.tmp 4, .tmp 5, .tmp 6] f
theorem ZBJ (a0 : List Zy) (a1 : Int) : Sa 324 [rL 5 Zy.row a0, rI a1] [rI (Xp a0 a1)] := by
 have f := me (Xp.eq_1 a0 a1)
 refine so Tryz.func324 Tryz.ntmps324 ?_
 refine cRs (ZOI a0 a1) ?_
 refine cF f (fun k1 h1 f => ?_) (fun k1 h1 f => ?_)
 ·exact rt [.tmp 4] f
 exact rt [.tmp 4] f
theorem ZEf {a b : Prop} (h : b) (k : a := by (intros; first | omega | with_unfolding_all (first | (first | omega | (have z := Yw u0; omega) | (have z := Yw u0; simp at *; omega))) | ((try simp only [J7, show ∀ x, IntKind.i64.wrap x = W x from fun _ => rfl] at *); omega))) : a ∧ b := ⟨k, h⟩
theorem K2 {a b : Prop} (h : b) (k : a := by (intros; first | omega | with_unfolding_all (first | (first | omega | (have z := Yw u0; omega) | (have z := Yw u0; simp at *; omega))) | (simp_all; done) | (simp_all; omega) | grind | ((try simp only [J7, show ∀ x, IntKind.i64.wrap x = W x from fun _ => rfl] at *); omega))) : a ∧ b := ⟨k, h⟩
theorem yi (a0 : List ZD) (u0 : Sm 2330624 a0) : Sd 320 [rL 2 ZD.row a0] [rL 2 ZD.row (XU a0)] := by
 have f := me (XU.eq_1 a0)
 refine soD Tryz.func320 Tryz.ntmps320 ?_
 refine lp2 (yI.eq_2 a0) (fun v1_0 v1_1 => Yc 85 [(3, .one (.sref 3 0 0 v1_0.length), [.arr false 2 (v1_0.map ZD.row)]), eL 10 2 a0 ZD.row, eI 11 (↑a0.length : Int), eI 12 (↑v1_1 : Int)]) (fun n1 v1_0 v1_1 => a0.length < n1 + v1_1 ∧ v1_1 ≤ a0.length ∧ v1_0.length ≤ v1_1) (a0.length + 1) ([] : List ZD) 0 (fun p1 v1_0 v1_1 e1 j1 => ?_) (h0 := Yh [((3, 0), none)] [] rfl (by simp))
 try dsimp only at j1
 refine cFf e1 (fun k2 h1 e1 => ?_) (fun k2 h1 e1 => ?_)
 ·have i1 := ix h1
  have m2 := ml a0 (k2 10 _ rfl)
  have c1 := sl 2330624 a0 u0
  have w1 := wr v1_1
  simp [i1, ZA]
  repeat with_reducible refine ZEf ?_
  refine cRs (JO (nth a0 v1_1)) ?_
  refine cF e1 (fun k3 h2 e1 => ?_) (fun k3 h2 e1 => ?_)
  ·exact ny2 w1 e1 (hI := by first | omega | (simp at *; omega))
  refine lp4 (yK.eq_2 v1_0) (fun v2_0 v2_1 v2_2 v2_3 => Yc 85 [(3, .any, [.arr false 2 (v1_0.map ZD.row)]), (5, .one (.bptr 5 0), [.box [.d (.int .i64 v2_2), .d (.int .i64 v2_3)]]), (6, .one (.sref 6 0 0 v2_0.length), [.arr false 2 (v2_0.map ZD.row)]), eL 10 2 a0 ZD.row, eI 11 (↑a0.length : Int), eI 12 (↑v1_1 : Int), (19, .one (.sref 3 0 0 v1_0.length), []), eI 20 (↑v1_0.length : Int), eI 21 (↑v2_1 : Int)]) (fun n2 v2_0 v2_1 v2_2 v2_3 => v1_0.length < n2 + v2_1 ∧ v2_1 ≤ v1_0.length ∧ v2_0.length ≤ v2_1) (v1_0.length + 1) ([] : List ZD) 0 (nth a0 v1_1).YQ (nth a0 v1_1).To (fun p2 v2_0 v2_1 v2_2 v2_3 e2 j2 => ?_) (h0 := Yh [((6, 0), none)] [] rfl (by simp))
  try dsimp only at j2
  refine cFf e2 (fun k5 h3 e2 => ?_) (fun k5 h3 e2 => ?_)
  ·have i2 := ix h3
   have m4 := ml v1_0 (k5 19 _ rfl)
   have w2 := wr v2_1
   simp [i2, ZA]
   repeat with_reducible refine ZEf ?_
   refine cFf e2 (fun k6 h4 e2 => ?_) (fun k6 h4 e2 => ?_)
   ·simp
    repeat with_reducible refine ZEf ?_
    exact nx4 e2 (hI := by first | omega | (simp at *; omega)) (hw := Yh [((6, 0), some (42, 0))] [] rfl (by simp [w1, w2]))
   exact ny4 (an w1 w2) e2 (hI := by first | omega | (simp at *; omega))
  have e1 := ms e1 e2
  refine lp1 (ZAd.eq_2 v2_0 v2_2) (fun v3_0 => Yc 85 [(5, .one (.bptr 5 0), [.box [.d (.int .i64 v2_2), .d (.int .i64 v2_3)]]), (6, .one (.sref 6 0 0 v2_0.length), [.arr false 2 (v2_0.map ZD.row)]), eI 9 (↑v3_0 : Int), eL 10 2 a0 ZD.row, eI 11 (↑a0.length : Int), eI 12 (↑v1_1 : Int)]) (fun n3 v3_0 => v2_0.length < n3 + v3_0 ∧ v3_0 ≤ v2_0.length) (v2_0.length + 1) 0 (fun p3 v3_0 e3 j3 => ?_)
  try dsimp only at j3
  refine dIs mixed ?_
  refine gIo (fun G => ?_) (fun G => ?_)
  ·have g1x := G
   have g1 := G; try simp at g1
   have i3 := ik v3_0 v2_0
   simp [i3, ZA, G]
   repeat with_reducible refine K2 ?_
   refine cKo e3 (fun k9 h5 e3 => ?_) (fun k9 h5 e3 => ?_)
   ·try (simp [G] at h5; done)
    all_goals
     have i4 : v3_0 < v2_0.length := by (simp at h5; omega)
     have m6 := ml v2_0 (k9 6 _ rfl)
     have w3 := wr v3_0
     simp [G]
     repeat with_reducible refine K2 ?_
     exact ny1 (an w1 (an w3 G)) e3
   ·try (simp [G] at h5; done)
    all_goals
     have e1 := ms e1 e3
     simp [G]
     repeat with_reducible refine K2 ?_
     refine dIo mixed ?_
     simp [G]
     repeat with_reducible refine K2 ?_
     exact nx2 e1 (hI := by first | omega | (simp at *; omega)) (hw := Yh [((3, 0), some (82, 0))] [] rfl (by simp [w1, G]))
  ·have g1x := G
   simp [G]
   repeat with_reducible refine K2 ?_
   refine cKo e3 (fun k11 h6 e3 => ?_) (fun k11 h6 e3 => ?_)
   ·try (simp [G] at h6; done)
    all_goals
     have i6 : v3_0 < v2_0.length := by (simp at h6; omega)
     have m8 := ml v2_0 (k11 6 _ rfl)
     have w4 := wr v3_0
     simp [G]
     repeat with_reducible refine K2 ?_
     exact ny1 (an w1 (an w4 G)) e3
   ·try (simp [G] at h6; done)
    all_goals
     have e1 := ms e1 e3
     simp [G]
     repeat with_reducible refine K2 ?_
     refine dIo mixed ?_
     simp [G]
     repeat with_reducible refine K2 ?_
     exact nx2 e1 (hI := by first | omega | (simp at *; omega)) (hw := Yh [((3, 0), some (82, 0))] [] rfl (by simp [w1, G]))
 have c2 := sl 2330624 a0 u0
 have f := ms f e1
 refine ZVG (rv := [.tmp 2]) rfl ?_
 simp [f.h]
 all_goals ((rintro r (hr | rfl | hr) x hx <;> (first | (simp at hx; rcases hx with rfl | rfl <;> rfl) | ((first | (replace hr := List.mem_of_mem_take hr) | (replace hr := List.mem_of_mem_drop hr)); simp at hr; obtain ⟨a, _, rfl⟩ := hr; simp at hx; rcases hx with rfl | rfl <;> rfl))))
theorem ZNY (a0 : YH) (a1 : List Zy) (u0 : Sm 2322432 a1) : Sd 274 [a0.row, rL 5 Zy.row a1] [rL 2 ZD.row (xo a0 a1)] := by
 have f := me (xo.eq_1 a0 a1)
 refine soD Tryz.func274 Tryz.ntmps274 ?_
 refine ZWn (t := 5) (cells := [.nil 2]) rfl rfl rfl rfl (by simp) (by simp) ?_
 simp
 refine cF f (fun k1 h1 f => ?_) (fun k1 h1 f => ?_)
 ·refine ZLE (tf := 11) (u := 5) (row := [.sl 2 (([] : List ZD).map ZD.row)]) (row' := [.sl 2 ((Zh 0 (W (a0.YQ - 1)) ([] : List ZD)).map ZD.row)]) (cells := [.nil 2]) [false] rfl rfl rfl rfl (Q5 0 (W (a0.YQ - 1)) ([] : List ZD) (by (first | (exact ⟨Nat.zero_le _, fun _ _ => trivial⟩) | (refine ZC (n := 2322432) ?_; exact ⟨Nat.zero_le _, fun _ _ => trivial⟩) | (refine ZC (n := 2322432) (ZC (n := 2322432 - 1) ?_); exact ⟨Nat.zero_le _, fun _ _ => trivial⟩) | (refine ZX (n := 3) (by decide) (ZC (ZC (ZC (n := 0) ?_))); exact ⟨Nat.zero_le _, fun _ _ => trivial⟩) | (refine ZX (n := 2) (by decide) (ZC (ZC (n := 0) ?_)); exact ⟨Nat.zero_le _, fun _ _ => trivial⟩) | (refine ZX (n := 1) (by decide) (ZC (n := 0) ?_); exact ⟨Nat.zero_le _, fun _ _ => trivial⟩)))) (by simp) (by simp) (by simp) (by simp) (by simp) (by simp) (by simp) (by simp) (by simp) (by simp) (by simp [X3]) (by simp) (by simp) ?_
  simp
  refine cF f (fun k2 h2 f => ?_) (fun k2 h2 f => ?_)
  ·refine ZLE (tf := 19) (u := 5) (row := [.sl 2 ((Zh 0 (W (a0.YQ - 1)) ([] : List ZD)).map ZD.row)]) (row' := [.sl 2 ((Zh (W (a0.To + 1)) 10000 (Zh 0 (W (a0.YQ - 1)) ([] : List ZD))).map ZD.row)]) (cells := [.sref 5 1 0 (Zh 0 (W (a0.YQ - 1)) ([] : List ZD)).length]) [false] rfl rfl rfl rfl (Q5 (W (a0.To + 1)) 10000 (Zh 0 (W (a0.YQ - 1)) ([] : List ZD)) (by (first | (exact ⟨Nat.zero_le _, fun _ _ => trivial⟩) | (refine ZC (n := 2322432) ?_; exact ⟨Nat.zero_le _, fun _ _ => trivial⟩) | (refine ZC (n := 2322432) (ZC (n := 2322432 - 1) ?_); exact ⟨Nat.zero_le _, fun _ _ => trivial⟩) | (refine ZX (n := 3) (by decide) (ZC (ZC (ZC (n := 0) ?_))); exact ⟨Nat.zero_le _, fun _ _ => trivial⟩) | (refine ZX (n := 2) (by decide) (ZC (ZC (n := 0) ?_)); exact ⟨Nat.zero_le _, fun _ _ => trivial⟩) | (refine ZX (n := 1) (by decide) (ZC (n := 0) ?_); exact ⟨Nat.zero_le _, fun _ _ => trivial⟩)))) (by simp) (by simp) (by simp) (by simp) (by simp) (by simp) (by simp) (by simp) (by simp) (by simp) (by simp [X3]) (by simp) (by simp) ?_
   simp
   refine cRs (ZBJ a1 a0.YO) ?_
   refine ZLE (tf := 24) (u := 5) (row := [.sl 2 ((Zh (W (a0.To + 1)) 10000 (Zh 0 (W (a0.YQ - 1)) ([] : List ZD))).map ZD.row)]) (row' := [.sl 2 ((Zh (Xp a1 a0.YO) 10000 (Zh (W (a0.To + 1)) 10000 (Zh 0 (W (a0.YQ - 1)) ([] : List ZD)))).map ZD.row)]) (cells := [.sref 5 1 0 (Zh (W (a0.To + 1)) 10000 (Zh 0 (W (a0.YQ - 1)) ([] : List ZD))).length]) [false] rfl rfl rfl rfl (Q5 (Xp a1 a0.YO) 10000 (Zh (W (a0.To + 1)) 10000 (Zh 0 (W (a0.YQ - 1)) ([] : List ZD))) (by (first | (exact ⟨Nat.zero_le _, fun _ _ => trivial⟩) | (refine ZC (n := 2322432) ?_; exact ⟨Nat.zero_le _, fun _ _ => trivial⟩) | (refine ZC (n := 2322432) (ZC (n := 2322432 - 1) ?_); exact ⟨Nat.zero_le _, fun _ _ => trivial⟩) | (refine ZX (n := 3) (by decide) (ZC (ZC (ZC (n := 0) ?_))); exact ⟨Nat.zero_le _, fun _ _ => trivial⟩) | (refine ZX (n := 2) (by decide) (ZC (ZC (n := 0) ?_)); exact ⟨Nat.zero_le _, fun _ _ => trivial⟩) | (refine ZX (n := 1) (by decide) (ZC (n := 0) ?_); exact ⟨Nat.zero_le _, fun _ _ => trivial⟩)))) (by simp) (by simp) (by simp) (by simp) (by simp) (by simp) (by simp) (by simp) (by simp) (by simp) (by simp [X3]) (by simp) (by simp) ?_
   simp
   refine cDs [false] (yi (Zh (Xp a1 a0.YO) 10000 (Zh (W (a0.To + 1)) 10000 (Zh 0 (W (a0.YQ - 1)) ([] : List ZD)))) (by (first | (exact ⟨Nat.zero_le _, fun _ _ => trivial⟩) | (refine ZC (n := 2322432) ?_; exact ⟨Nat.zero_le _, fun _ _ => trivial⟩) | (refine ZC (n := 2322432) (ZC (n := 2322432 - 1) ?_); exact ⟨Nat.zero_le _, fun _ _ => trivial⟩) | (refine ZX (n := 3) (by decide) (ZC (ZC (ZC (n := 0) ?_))); exact ⟨Nat.zero_le _, fun _ _ => trivial⟩) | (refine ZX (n := 2) (by decide) (ZC (ZC (n := 0) ?_)); exact ⟨Nat.zero_le _, fun _ _ => trivial⟩) | (refine ZX (n := 1) (by decide) (ZC (n := 0) ?_); exact ⟨Nat.zero_le _, fun _ _ => trivial⟩)))) ?_
   exact rtD [.tmp 4] f
  refine cRs (ZBJ a1 a0.YO) ?_
  refine ZLE (tf := 24) (u := 5) (row := [.sl 2 ((Zh 0 (W (a0.YQ - 1)) ([] : List ZD)).map ZD.row)]) (row' := [.sl 2 ((Zh (Xp a1 a0.YO) 10000 (Zh 0 (W (a0.YQ - 1)) ([] : List ZD))).map ZD.row)]) (cells := [.sref 5 1 0 (Zh 0 (W (a0.YQ - 1)) ([] : List ZD)).length]) [false] rfl rfl rfl rfl (Q5 (Xp a1 a0.YO) 10000 (Zh 0 (W (a0.YQ - 1)) ([] : List ZD)) (by (first | (exact ⟨Nat.zero_le _, fun _ _ => trivial⟩) | (refine ZC (n := 2322432) ?_; exact ⟨Nat.zero_le _, fun _ _ => trivial⟩) | (refine ZC (n := 2322432) (ZC (n := 2322432 - 1) ?_); exact ⟨Nat.zero_le _, fun _ _ => trivial⟩) | (refine ZX (n := 3) (by decide) (ZC (ZC (ZC (n := 0) ?_))); exact ⟨Nat.zero_le _, fun _ _ => trivial⟩) | (refine ZX (n := 2) (by decide) (ZC (ZC (n := 0) ?_)); exact ⟨Nat.zero_le _, fun _ _ => trivial⟩) | (refine ZX (n := 1) (by decide) (ZC (n := 0) ?_); exact ⟨Nat.zero_le _, fun _ _ => trivial⟩)))) (by simp) (by simp) (by simp) (by simp) (by simp) (by simp) (by simp) (by simp) (by simp) (by simp) (by simp [X3]) (by simp) (by simp) ?_
  simp
  refine cDs [false] (yi (Zh (Xp a1 a0.YO) 10000 (Zh 0 (W (a0.YQ - 1)) ([] : List ZD))) (by (first | (exact ⟨Nat.zero_le _, fun _ _ => trivial⟩) | (refine ZC (n := 2322432) ?_; exact ⟨Nat.zero_le _, fun _ _ => trivial⟩) | (refine ZC (n := 2322432) (ZC (n := 2322432 - 1) ?_); exact ⟨Nat.zero_le _, fun _ _ => trivial⟩) | (refine ZX (n := 3) (by decide) (ZC (ZC (ZC (n := 0) ?_))); exact ⟨Nat.zero_le _, fun _ _ => trivial⟩) | (refine ZX (n := 2) (by decide) (ZC (ZC (n := 0) ?_)); exact ⟨Nat.zero_le _, fun _ _ => trivial⟩) | (refine ZX (n := 1) (by decide) (ZC (n := 0) ?_); exact ⟨Nat.zero_le _, fun _ _ => trivial⟩)))) ?_
  exact rtD [.tmp 4] f
 refine cF f (fun k3 h3 f => ?_) (fun k3 h3 f => ?_)
 ·refine ZLE (tf := 19) (u := 5) (row := [.sl 2 (([] : List ZD).map ZD.row)]) (row' := [.sl 2 ((Zh (W (a0.To + 1)) 10000 ([] : List ZD)).map ZD.row)]) (cells := [.nil 2]) [false] rfl rfl rfl rfl (Q5 (W (a0.To + 1)) 10000 ([] : List ZD) (by (first | (exact ⟨Nat.zero_le _, fun _ _ => trivial⟩) | (refine ZC (n := 2322432) ?_; exact ⟨Nat.zero_le _, fun _ _ => trivial⟩) | (refine ZC (n := 2322432) (ZC (n := 2322432 - 1) ?_); exact ⟨Nat.zero_le _, fun _ _ => trivial⟩) | (refine ZX (n := 3) (by decide) (ZC (ZC (ZC (n := 0) ?_))); exact ⟨Nat.zero_le _, fun _ _ => trivial⟩) | (refine ZX (n := 2) (by decide) (ZC (ZC (n := 0) ?_)); exact ⟨Nat.zero_le _, fun _ _ => trivial⟩) | (refine ZX (n := 1) (by decide) (ZC (n := 0) ?_); exact ⟨Nat.zero_le _, fun _ _ => trivial⟩)))) (by simp) (by simp) (by simp) (by simp) (by simp) (by simp) (by simp) (by simp) (by simp) (by simp) (by simp [X3]) (by simp) (by simp) ?_
  simp
  refine cRs (ZBJ a1 a0.YO) ?_
  refine ZLE (tf := 24) (u := 5) (row := [.sl 2 ((Zh (W (a0.To + 1)) 10000 ([] : List ZD)).map ZD.row)]) (row' := [.sl 2 ((Zh (Xp a1 a0.YO) 10000 (Zh (W (a0.To + 1)) 10000 ([] : List ZD))).map ZD.row)]) (cells := [.sref 5 1 0 (Zh (W (a0.To + 1)) 10000 ([] : List ZD)).length]) [false] rfl rfl rfl rfl (Q5 (Xp a1 a0.YO) 10000 (Zh (W (a0.To + 1)) 10000 ([] : List ZD)) (by (first | (exact ⟨Nat.zero_le _, fun _ _ => trivial⟩) | (refine ZC (n := 2322432) ?_; exact ⟨Nat.zero_le _, fun _ _ => trivial⟩) | (refine ZC (n := 2322432) (ZC (n := 2322432 - 1) ?_); exact ⟨Nat.zero_le _, fun _ _ => trivial⟩) | (refine ZX (n := 3) (by decide) (ZC (ZC (ZC (n := 0) ?_))); exact ⟨Nat.zero_le _, fun _ _ => trivial⟩) | (refine ZX (n := 2) (by decide) (ZC (ZC (n := 0) ?_)); exact ⟨Nat.zero_le _, fun _ _ => trivial⟩) | (refine ZX (n := 1) (by decide) (ZC (n := 0) ?_); exact ⟨Nat.zero_le _, fun _ _ => trivial⟩)))) (by simp) (by simp) (by simp) (by simp) (by simp) (by simp) (by simp) (by simp) (by simp) (by simp) (by simp [X3]) (by simp) (by simp) ?_
  simp
  refine cDs [false] (yi (Zh (Xp a1 a0.YO) 10000 (Zh (W (a0.To + 1)) 10000 ([] : List ZD))) (by (first | (exact ⟨Nat.zero_le _, fun _ _ => trivial⟩) | (refine ZC (n := 2322432) ?_; exact ⟨Nat.zero_le _, fun _ _ => trivial⟩) | (refine ZC (n := 2322432) (ZC (n := 2322432 - 1) ?_); exact ⟨Nat.zero_le _, fun _ _ => trivial⟩) | (refine ZX (n := 3) (by decide) (ZC (ZC (ZC (n := 0) ?_))); exact ⟨Nat.zero_le _, fun _ _ => trivial⟩) | (refine ZX (n := 2) (by decide) (ZC (ZC (n := 0) ?_)); exact ⟨Nat.zero_le _, fun _ _ => trivial⟩) | (refine ZX (n := 1) (by decide) (ZC (n := 0) ?_); exact ⟨Nat.zero_le _, fun _ _ => trivial⟩)))) ?_
  exact rtD [.tmp 4] f
 refine cRs (ZBJ a1 a0.YO) ?_
 refine ZLE (tf := 24) (u := 5) (row := [.sl 2 (([] : List ZD).map ZD.row)]) (row' := [.sl 2 ((Zh (Xp a1 a0.YO) 10000 ([] : List ZD)).map ZD.row)]) (cells := [.nil 2]) [false] rfl rfl rfl rfl (Q5 (Xp a1 a0.YO) 10000 ([] : List ZD) (by (first | (exact ⟨Nat.zero_le _, fun _ _ => trivial⟩) | (refine ZC (n := 2322432) ?_; exact ⟨Nat.zero_le _, fun _ _ => trivial⟩) | (refine ZC (n := 2322432) (ZC (n := 2322432 - 1) ?_); exact ⟨Nat.zero_le _, fun _ _ => trivial⟩) | (refine ZX (n := 3) (by decide) (ZC (ZC (ZC (n := 0) ?_))); exact ⟨Nat.zero_le _, fun _ _ => trivial⟩) | (refine ZX (n := 2) (by decide) (ZC (ZC (n := 0) ?_)); exact ⟨Nat.zero_le _, fun _ _ => trivial⟩) | (refine ZX (n := 1) (by decide) (ZC (n := 0) ?_); exact ⟨Nat.zero_le _, fun _ _ => trivial⟩)))) (by simp) (by simp) (by simp) (by simp) (by simp) (by simp) (by simp) (by simp) (by simp) (by simp) (by simp [X3]) (by simp) (by simp) ?_
 simp
 refine cDs [false] (yi (Zh (Xp a1 a0.YO) 10000 ([] : List ZD)) (by (first | (exact ⟨Nat.zero_le _, fun _ _ => trivial⟩) | (refine ZC (n := 2322432) ?_; exact ⟨Nat.zero_le _, fun _ _ => trivial⟩) | (refine ZC (n := 2322432) (ZC (n := 2322432 - 1) ?_); exact ⟨Nat.zero_le _, fun _ _ => trivial⟩) | (refine ZX (n := 3) (by decide) (ZC (ZC (ZC (n := 0) ?_))); exact ⟨Nat.zero_le _, fun _ _ => trivial⟩) | (refine ZX (n := 2) (by decide) (ZC (ZC (n := 0) ?_)); exact ⟨Nat.zero_le _, fun _ _ => trivial⟩) | (refine ZX (n := 1) (by decide) (ZC (n := 0) ?_); exact ⟨Nat.zero_le _, fun _ _ => trivial⟩)))) ?_
 exact rtD [.tmp 4] f
theorem ZNc (a0 : ZD) (a1 : ZD) : Sa 321 [a0.row, a1.row] [rB (jG a0 a1)] := by
 have f := me (jG.eq_1 a0 a1)
 refine so Tryz.func321 Tryz.ntmps321 ?_
 refine cRs (JO a0) ?_
 refine cGs (fun gg => (JO a1)) ?_
 exact rt [.tmp 4] f
theorem ZAt (a0 : List ZD) (a1 : ZD) (u0 : Sm 2326528 a0) : Sa 273 [rL 2 ZD.row a0, a1.row] [rB (JF a0 a1)] := by
 have f := me (JF.eq_1 a0 a1)
 refine so Tryz.func273 Tryz.ntmps273 ?_
 refine cRs (Yb.rd (yi a0 (sg u0))) ?_
 refine lp1 (zx.eq_2 a0 a1) (fun v1_0 => Yc 18 [eX 3 (a1.row.map .d), eL 8 2 (XU a0) ZD.row, eI 9 (↑(XU a0).length : Int), eI 10 (↑v1_0 : Int)]) (fun n1 v1_0 => (XU a0).length < n1 + v1_0 ∧ v1_0 ≤ (XU a0).length) ((XU a0).length + 1) 0 (fun p1 v1_0 e1 j1 => ?_)
 refine cFf e1 (fun k2 h1 e1 => ?_) (fun k2 h1 e1 => ?_)
 ·have i1 := ix h1
  have m2 := ml (XU a0) (k2 8 _ rfl)
  have w1 := wr v1_0
  simp [i1, ZA]
  repeat with_reducible refine sd ?_
  refine cRs (ZNc a1 (nth (XU a0) v1_0)) ?_
  refine cF e1 (fun k3 h2 e1 => ?_) (fun k3 h2 e1 => ?_)
  ·have f := ms f e1
   exact rt [.tmp 4] f
  exact ny1 w1 e1
 have f := ms f e1
 exact rt [.tmp 4] f
theorem ZMm (a0 : YH) (a1 : List Zy) (a2 : ZD) (u0 : Sm 2318336 a1) : Sa 206 [a0.row, rL 5 Zy.row a1, a2.row] [rB (ZBd a0 a1 a2)] := by
 have f := me (ZBd.eq_1 a0 a1 a2)
 refine so Tryz.func206 Tryz.ntmps206 ?_
 refine dIs mixed ?_
 refine cRs (Yb.rd (ZNY a0 a1 (sg u0))) ?_
 refine cRs (ZAt (xo a0 a1) a2 (by exact ZNf (by decide))) ?_
 exact rt [.tmp 6] f
theorem ZMK (a0 : List Zy) (a1 : Int) : Sa 326 [rL 5 Zy.row a0, rI a1] [rI (xP a0 a1)] := by
 have f := me (xP.eq_1 a0 a1)
 refine so Tryz.func326 Tryz.ntmps326 ?_
 refine cRs (ZOI a0 a1) ?_
 refine cF f (fun k1 h1 f => ?_) (fun k1 h1 f => ?_)
 ·exact rt [.tmp 4] f
 exact rt [.tmp 4] f
theorem ZLU (a0 : ZD) (a1 : ZD) : Sa 345 [a0.row, a1.row] [(Qm a0 a1).1.row, rB (Qm a0 a1).2] := by
 have f := me (Qm.eq_1 a0 a1)
 refine so Tryz.func345 Tryz.ntmps345 ?_
 refine cRs (JO a0) ?_
 refine cGs (fun gg => (JO a1)) ?_
 refine cGs (fun gg => (JO (ZD.mk (if a1.YQ > a0.YQ then a1.YQ else a0.YQ) (if a1.To < a0.To then a1.To else a0.To)))) ?_
 refine cF f (fun k1 h1 f => ?_) (fun k1 h1 f => ?_)
 ·exact rt [.cell 4 77, .tmp 5] f
 exact rt [.cell 4 77, .tmp 5] f
theorem ZEL {a b : Prop} (h : b) (k : a := by (intros; first | omega | with_unfolding_all (first | (first | omega | (simp at *; omega))) | ((try simp only [J7, show ∀ x, IntKind.i64.wrap x = W x from fun _ => rfl] at *); omega))) : a ∧ b := ⟨k, h⟩
theorem ZOq (a0 : List ZD) (a1 : List ZD) (u0 : Sm 2326528 a0) (u1 : Sm 2326528 a1) (u2 : a0.length ≤ 1 ∧ a1.length ≤ 1) : Sd 325 [rL 2 ZD.row a0, rL 2 ZD.row a1] [rL 2 ZD.row (ks a0 a1)] := by
 have f := me (ks.eq_1 a0 a1)
 refine soD Tryz.func325 Tryz.ntmps325 ?_
 refine lp2 (jU.eq_2 a0 a1) (fun v1_0 v1_1 => Yc 39 [eL 1 2 a1 ZD.row, (5, .one (.sref 5 0 0 v1_0.length), [.arr false 2 (v1_0.map ZD.row)]), eL 12 2 a0 ZD.row, eI 13 (↑a0.length : Int), eI 14 (↑v1_1 : Int)]) (fun n1 v1_0 v1_1 => a0.length < n1 + v1_1 ∧ v1_1 ≤ a0.length ∧ v1_0.length ≤ v1_1) (a0.length + 1) ([] : List ZD) 0 (fun p1 v1_0 v1_1 e1 j1 => ?_) (h0 := Yh [((5, 0), none)] [] rfl (by simp))
 try dsimp only at j1
 refine cFf e1 (fun k2 h1 e1 => ?_) (fun k2 h1 e1 => ?_)
 ·have i1 := ix h1
  have m2 := ml a0 (k2 12 _ rfl)
  have c1 := sl 2326528 a0 (an u0 (an u1 u2))
  have w1 := wr v1_1
  simp [i1, ZA]
  repeat with_reducible refine ZEL ?_
  refine lp2 (Kt.eq_2 a0 a1 v1_1) (fun v2_0 v2_1 => Yc 39 [eL 1 2 a1 ZD.row, (5, .one (.sref 5 0 0 v2_0.length), [.arr false 2 (v2_0.map ZD.row)]), eX 7 ((nth a0 v1_1).row.map .d), eL 12 2 a0 ZD.row, eI 13 (↑a0.length : Int), eI 14 (↑v1_1 : Int), eL 18 2 a1 ZD.row, eI 19 (↑a1.length : Int), eI 20 (↑v2_1 : Int)]) (fun n2 v2_0 v2_1 => a1.length < n2 + v2_1 ∧ v2_1 ≤ a1.length ∧ v2_0.length ≤ v1_1 + v2_1) (a1.length + 1) v1_0 0 (fun p2 v2_0 v2_1 e2 j2 => ?_)
  try dsimp only at j2
  refine cFf e2 (fun k4 h2 e2 => ?_) (fun k4 h2 e2 => ?_)
  ·have i2 := ix h2
   have m4 := ml a1 (k4 1 _ rfl)
   have c2 := sl 2326528 a1 (an u0 (an u1 u2))
   have w2 := wr v2_1
   simp [i2, ZA]
   repeat with_reducible refine ZEL ?_
   refine cRs (ZLU (nth a0 v1_1) (nth a1 v2_1)) ?_
   refine cFf e2 (fun k5 h3 e2 => ?_) (fun k5 h3 e2 => ?_)
   ·simp
    repeat with_reducible refine ZEL ?_
    exact nx2 e2 (hI := by first | omega | (simp at *; omega)) (hw := Yh [((5, 0), some (34, 0))] [] rfl (by simp [w1, w2]))
   exact ny2 (an w1 w2) e2 (hI := by first | omega | (simp at *; omega))
  have c3 := sl 2326528 a1 (an u0 (an u1 u2))
  have e1 := ms e1 e2
  exact ny2 w1 e1
 have c4 := sl 2326528 a0 (an u0 (an u1 u2))
 have f := ms f e1
 refine cDs [false] (yi v1_0 (by exact ⟨by omega, fun _ _ => trivial⟩)) ?_
 exact rtD [.tmp 4] f
theorem ZLQ (a0 : YH) (a1 : List Zy) (u0 : Sm 2322432 a1) : Sd 275 [a0.row, rL 5 Zy.row a1] [rL 2 ZD.row (yN a0 a1)] := by
 have f := me (yN.eq_1 a0 a1)
 refine soD Tryz.func275 Tryz.ntmps275 ?_
 refine dIs mixed ?_
 refine cRs (ZGU a0) ?_
 refine cRs (ZMK a1 a0.YO) ?_
 refine cDs [false] (ZOq ([(xt a0)] : List ZD) ([(ZD.mk 0 (xP a1 a0.YO))] : List ZD) (by simp (maxDischargeDepth := 12) [KD, Xr, ZX (m := 2326528) (by decide) u0]; try omega) (by simp (maxDischargeDepth := 12) [KD, Xr, ZX (m := 2326528) (by decide) u0]; try omega) (by exact ⟨Nat.le_refl _, Nat.le_refl _⟩)) ?_
 exact rtD [.tmp 4] f
theorem ZKc (a0 : YH) (a1 : List Zy) (a2 : ZD) (u0 : Sm 2318336 a1) : Sa 207 [a0.row, rL 5 Zy.row a1, a2.row] [rB (kK a0 a1 a2)] := by
 have f := me (kK.eq_1 a0 a1 a2)
 refine so Tryz.func207 Tryz.ntmps207 ?_
 refine dIs mixed ?_
 refine cRs (Yb.rd (ZLQ a0 a1 (sg u0))) ?_
 refine cRs (ZAt (yN a0 a1) a2 (by exact ZMU (by decide))) ?_
 exact rt [.tmp 6] f
theorem ZJ8 (a0 : List ZB) (u0 : Sm 2330624 a0) : Sd 209 [rL 3 ZB.row a0] [rL 6 Z1.row (yg a0)] := by
 have f := me (yg.eq_1 a0)
 refine soD Tryz.func209 Tryz.ntmps209 ?_
 refine lp2 (KV.eq_2 a0) (fun v1_0 v1_1 => Yc 26 [(3, .one (.sref 3 0 0 v1_0.length), [.arr false 6 (v1_0.map Z1.row)]), eL 8 3 a0 ZB.row, eI 9 (↑a0.length : Int), eI 10 (↑v1_1 : Int)]) (fun n1 v1_0 v1_1 => a0.length < n1 + v1_1 ∧ v1_1 ≤ a0.length ∧ v1_0.length ≤ 0 + 1 * v1_1) (a0.length + 1) ([] : List Z1) 0 (fun p1 v1_0 v1_1 e1 j1 => ?_) (h0 := Yh [((3, 0), none)] [] rfl (by simp))
 refine cFf e1 (fun k2 h1 e1 => ?_) (fun k2 h1 e1 => ?_)
 ·have i1 := ix h1
  have m2 := ml a0 (k2 8 _ rfl)
  have c1 := sl 2330624 a0 u0
  have w1 := wr v1_1
  simp [i1, ZA]
  repeat with_reducible refine sd ?_
  refine cRs (ZCj (nth a0 v1_1)) ?_
  refine cF e1 (fun k3 h2 e1 => ?_) (fun k3 h2 e1 => ?_)
  ·exact nx2 e1 (hw := Yh [((3, 0), some (23, 0))] [] rfl (by simp [w1]))
  exact ny2 w1 e1
 have c2 := sl 2330624 a0 u0
 have f := ms f e1
 exact rtD [.tmp 2] f
theorem ZLS (a0 : Z1) : Sa 346 [a0.row] [rB (ZAf a0)] := by
 have f := me (ZAf.eq_1 a0)
 refine so Tryz.func346 Tryz.ntmps346 ?_
 refine cRs (YA a0.Org 1 99) ?_
 refine cGs (fun gg => (YA a0.ZCC 0 99)) ?_
 refine cGs (fun gg => (YA a0.Key 1 99)) ?_
 refine cGs (fun gg => (JO (ZD.mk a0.YQ a0.To))) ?_
 exact rt [.tmp 2] f
theorem ZIz (a0 : Z1) : Sd 347 [a0.row] [rL 1 iR (JH a0)] := by
 have f := me (JH.eq_1 a0)
 refine soD Tryz.func347 Tryz.ntmps347 ?_
 exact rtD [.tmp 2] f
theorem ZIC (a0 : List YC) (a1 : Z1) (u0 : Sm 2314240 a0) : Sa 327 [rL 5 YC.row a0, a1.row] [rB (xh a0 a1)] := by
 have f := me (xh.eq_1 a0 a1)
 refine so Tryz.func327 Tryz.ntmps327 ?_
 refine dIs mixed ?_
 refine cRs (ZLS a1) ?_
 refine cGs (fun gg => (ZHa a0 a1.Key)) ?_
 refine cGs (fun gg => Yb.rd (ZIz a1)) ?_
 refine cGs (fun gg => (Qg a0 a1.Key (JH a1) a1.Mark (sg u0) (by simp (maxDischargeDepth := 12) [ZIu, ZX (m := 2318336) (by decide) u0]; try omega))) ?_
 exact rt [.tmp 4] f
theorem ZHJ (a0 : List YC) (a1 : List Z1) (a2 : Int) (a3 : Int) (u0 : Sm 2310144 a0) (u1 : Sm 2310144 a1) : Sd 276 [rL 5 YC.row a0, rL 6 Z1.row a1, rI a2, rI a3] [rL 2 ZD.row (JP a0 a1 a2 a3)] := by
 have f := me (JP.eq_1 a0 a1 a2 a3)
 refine soD Tryz.func276 Tryz.ntmps276 ?_
 refine lp2 (Qr.eq_2 a0 a1 a2 a3) (fun v1_0 v1_1 => Yc 44 [eL 0 5 a0 YC.row, eI 2 a2, eI 3 a3, (9, .one (.sref 9 0 0 v1_0.length), [.arr false 2 (v1_0.map ZD.row)]), eL 12 6 a1 Z1.row, eI 13 (↑a1.length : Int), eI 14 (↑v1_1 : Int)]) (fun n1 v1_0 v1_1 => a1.length < n1 + v1_1 ∧ v1_1 ≤ a1.length ∧ v1_0.length ≤ 0 + 1 * v1_1) (a1.length + 1) ([] : List ZD) 0 (fun p1 v1_0 v1_1 e1 j1 => ?_) (h0 := Yh [((9, 0), none)] [] rfl (by simp))
 refine cFf e1 (fun k2 h1 e1 => ?_) (fun k2 h1 e1 => ?_)
 ·have i1 := ix h1
  have m2 := ml a1 (k2 12 _ rfl)
  have c1 := sl 2310144 a1 (an u0 u1)
  have w1 := wr v1_1
  simp [i1, ZA]
  repeat with_reducible refine sd ?_
  refine cGs (fun gg => (ZIC a0 (nth a1 v1_1) (sg u0))) ?_
  refine cF e1 (fun k3 h2 e1 => ?_) (fun k3 h2 e1 => ?_)
  ·exact nx2 e1 (hw := Yh [((9, 0), some (40, 0))] [] rfl (by simp [w1]))
  exact ny2 w1 e1
 have c2 := sl 2310144 a1 (an u0 u1)
 have f := ms f e1
 refine cDs [false] (yi v1_0 (by first | (simp (maxDischargeDepth := 12) [Xr]; omega) | (simp (maxDischargeDepth := 12) [ZX (m := 2330624) (by decide) u0, ZX (m := 2330624) (by decide) u1]; done))) ?_
 exact rtD [.tmp 8] f
theorem ZKE (a0 : List YC) (a1 : List Z1) (a2 : Int) (a3 : Int) (a4 : ZD) (u0 : Sm 2306048 a0) (u1 : Sm 2306048 a1) : Sa 208 [rL 5 YC.row a0, rL 6 Z1.row a1, rI a2, rI a3, a4.row] [rB (kP a0 a1 a2 a3 a4)] := by
 have f := me (kP.eq_1 a0 a1 a2 a3 a4)
 refine so Tryz.func208 Tryz.ntmps208 ?_
 refine dIs mixed ?_
 refine cGs (fun gg => (JO a4)) ?_
 refine cGs (fun gg => Yb.rd (ZHJ a0 a1 a2 a3 (by first | exact sg u0 | exact sg u1) (by first | exact sg u0 | exact sg u1))) ?_
 refine cGs (fun gg => (ZAt (JP a0 a1 a2 a3) a4 (by exact ZHQ (by have z := Yw u1; omega)))) ?_
 refine ⟨by by_cases h : a2 = 0 <;> simp [h], ?_⟩
 exact rt [.tmp 10] f
theorem ZHC (a0 : ZF) (a1 : ZI) (a2 : List (List Int)) (a3 : Int) (a4 : ZY) (u0 : Sm 2281472 a0) (u1 : Sm 2281472 a1) (u2 : Sm 2281472 a2) (u3 : ZQt a1 ≤ 2097152) : Sa 144 [a0.row, a1.row, rL 1 (slR 1 iR) a2, rI a3, a4.row] [(xw a0 a1 a2 a3 a4).row] := by
 have f := me (xw.eq_1 a0 a1 a2 a3 a4)
 refine so Tryz.func144 Tryz.ntmps144 ?_
 refine cRs (ZPq a0) ?_
 refine cF f (fun k1 h1 f => ?_) (fun k1 h1 f => ?_)
 ·refine cRs (ZBT 1) ?_
  exact rt [.cell 10 79] f
 refine cRs (ZDK a4) ?_
 refine cF f (fun k2 h2 f => ?_) (fun k2 h2 f => ?_)
 ·refine cRs (ZEU 1) ?_
  exact rt [.cell 10 79] f
 refine cF f (fun k3 h3 f => ?_) (fun k3 h3 f => ?_)
 ·refine cRs (ZBT 2) ?_
  exact rt [.cell 10 79] f
 refine cF f (fun k4 h4 f => ?_) (fun k4 h4 f => ?_)
 ·refine cRs (ZEU 2) ?_
  exact rt [.cell 10 79] f
 refine cRs (qA a0.Y3 a4.Key) ?_
 refine cF f (fun k5 h5 f => ?_) (fun k5 h5 f => ?_)
 ·refine cRs (ZBT 3) ?_
  exact rt [.cell 10 79] f
 refine cRs (ZGG a0.Y3 a4 (by (first | exact sg (Y1 (n := 2281472) (by decide)) | exact sg u0 | exact sg u1 | exact sg u2 | exact u3 | exact sg (ZF.Ym u0) | exact sg (ZF.YS u0) | exact sg (ZM (K := 2281472) u1 u3 (by decide)) | exact sg (Yg (ZM (K := 2281472) u1 u3 (by decide))) | exact sg (Yn (ZM (K := 2281472) u1 u3 (by decide)))))) ?_
 refine cF f (fun k6 h6 f => ?_) (fun k6 h6 f => ?_)
 ·refine cRs (ZEU 4) ?_
  exact rt [.cell 10 79] f
 refine dIs mixed ?_
 refine cRs (Yb.rd (ZMI a4)) ?_
 refine cRs (ZBn a0 a1 a2 (XY a4) (by (first | exact sg (Y1 (n := 2281472) (by decide)) | exact sg u0 | exact sg u1 | exact sg u2 | exact u3 | exact sg (ZF.Ym u0) | exact sg (ZF.YS u0) | exact sg (ZM (K := 2281472) u1 u3 (by decide)) | exact sg (Yg (ZM (K := 2281472) u1 u3 (by decide))) | exact sg (Yn (ZM (K := 2281472) u1 u3 (by decide))))) (by (first | exact sg (Y1 (n := 2281472) (by decide)) | exact sg u0 | exact sg u1 | exact sg u2 | exact u3 | exact sg (ZF.Ym u0) | exact sg (ZF.YS u0) | exact sg (ZM (K := 2281472) u1 u3 (by decide)) | exact sg (Yg (ZM (K := 2281472) u1 u3 (by decide))) | exact sg (Yn (ZM (K := 2281472) u1 u3 (by decide))))) (by (first | exact sg (Y1 (n := 2281472) (by decide)) | exact sg u0 | exact sg u1 | exact sg u2 | exact u3 | exact sg (ZF.Ym u0) | exact sg (ZF.YS u0) | exact sg (ZM (K := 2281472) u1 u3 (by decide)) | exact sg (Yg (ZM (K := 2281472) u1 u3 (by decide))) | exact sg (Yn (ZM (K := 2281472) u1 u3 (by decide))))) (by (first | exact sg (Y1 (n := 2281472) (by decide)) | exact sg u0 | exact sg u1 | exact sg u2 | exact u3 | exact sg (ZF.Ym u0) | exact sg (ZF.YS u0) | exact sg (ZM (K := 2281472) u1 u3 (by decide)) | exact sg (Yg (ZM (K := 2281472) u1 u3 (by decide))) | exact sg (Yn (ZM (K := 2281472) u1 u3 (by decide)))))) ?_
 refine cRs (ZEn a0 a4.Key) ?_
 refine cGs (fun gg => (ZBH a0.Methods a4.Method)) ?_
 refine cF f (fun k8 h7 f => ?_) (fun k8 h7 f => ?_)
 ·refine cRs (ZBT 5) ?_
  exact rt [.cell 10 79] f
 refine cRs (ZHU a0 a1 a2 (by (first | exact sg (Y1 (n := 2281472) (by decide)) | exact sg u0 | exact sg u1 | exact sg u2 | exact u3 | exact sg (ZF.Ym u0) | exact sg (ZF.YS u0) | exact sg (ZM (K := 2281472) u1 u3 (by decide)) | exact sg (Yg (ZM (K := 2281472) u1 u3 (by decide))) | exact sg (Yn (ZM (K := 2281472) u1 u3 (by decide))))) (by (first | exact sg (Y1 (n := 2281472) (by decide)) | exact sg u0 | exact sg u1 | exact sg u2 | exact u3 | exact sg (ZF.Ym u0) | exact sg (ZF.YS u0) | exact sg (ZM (K := 2281472) u1 u3 (by decide)) | exact sg (Yg (ZM (K := 2281472) u1 u3 (by decide))) | exact sg (Yn (ZM (K := 2281472) u1 u3 (by decide))))) (by (first | exact sg (Y1 (n := 2281472) (by decide)) | exact sg u0 | exact sg u1 | exact sg u2 | exact u3 | exact sg (ZF.Ym u0) | exact sg (ZF.YS u0) | exact sg (ZM (K := 2281472) u1 u3 (by decide)) | exact sg (Yg (ZM (K := 2281472) u1 u3 (by decide))) | exact sg (Yn (ZM (K := 2281472) u1 u3 (by decide))))) (by (first | exact sg (Y1 (n := 2281472) (by decide)) | exact sg u0 | exact sg u1 | exact sg u2 | exact u3 | exact sg (ZF.Ym u0) | exact sg (ZF.YS u0) | exact sg (ZM (K := 2281472) u1 u3 (by decide)) | exact sg (Yg (ZM (K := 2281472) u1 u3 (by decide))) | exact sg (Yn (ZM (K := 2281472) u1 u3 (by decide)))))) ?_
 refine cRs (ZPU a0 (Zt a0 a1 a2) a4 (by (first | exact sg (Y1 (n := 2281472) (by decide)) | exact sg u0 | exact sg u1 | exact sg u2 | exact u3 | exact sg (ZF.Ym u0) | exact sg (ZF.YS u0) | exact sg (ZM (K := 2281472) u1 u3 (by decide)) | exact sg (Yg (ZM (K := 2281472) u1 u3 (by decide))) | exact sg (Yn (ZM (K := 2281472) u1 u3 (by decide))))) (by (first | exact sg (Y1 (n := 2281472) (by decide)) | exact sg u0 | exact sg u1 | exact sg u2 | exact u3 | exact sg (ZF.Ym u0) | exact sg (ZF.YS u0) | exact sg (ZM (K := 2281472) u1 u3 (by decide)) | exact sg (Yg (ZM (K := 2281472) u1 u3 (by decide))) | exact sg (Yn (ZM (K := 2281472) u1 u3 (by decide)))))) ?_
 refine cF f (fun k9 h8 f => ?_) (fun k9 h8 f => ?_)
 ·refine cRs (ZBT 6) ?_
  exact rt [.cell 10 79] f
 refine cRs (ZK8 a0 a1 (Zt a0 a1 a2) a4 (by (first | exact sg (Y1 (n := 2281472) (by decide)) | exact sg u0 | exact sg u1 | exact sg u2 | exact u3 | exact sg (ZF.Ym u0) | exact sg (ZF.YS u0) | exact sg (ZM (K := 2281472) u1 u3 (by decide)) | exact sg (Yg (ZM (K := 2281472) u1 u3 (by decide))) | exact sg (Yn (ZM (K := 2281472) u1 u3 (by decide))))) (by (first | exact sg (Y1 (n := 2281472) (by decide)) | exact sg u0 | exact sg u1 | exact sg u2 | exact u3 | exact sg (ZF.Ym u0) | exact sg (ZF.YS u0) | exact sg (ZM (K := 2281472) u1 u3 (by decide)) | exact sg (Yg (ZM (K := 2281472) u1 u3 (by decide))) | exact sg (Yn (ZM (K := 2281472) u1 u3 (by decide))))) (by (first | exact sg (Y1 (n := 2281472) (by decide)) | exact sg u0 | exact sg u1 | exact sg u2 | exact u3 | exact sg (ZF.Ym u0) | exact sg (ZF.YS u0) | exact sg (ZM (K := 2281472) u1 u3 (by decide)) | exact sg (Yg (ZM (K := 2281472) u1 u3 (by decide))) | exact sg (Yn (ZM (K := 2281472) u1 u3 (by decide)))))) ?_
 refine cF f (fun k10 h9 f => ?_) (fun k10 h9 f => ?_)
 ·refine cRs (ZBT 7) ?_
  exact rt [.cell 10 79] f
 refine cRs (Yb.rd (ZIW (Zt a0 a1 a2) (QQ a0 (Zt a0 a1 a2) a4).1 (by (first | exact sg (Y1 (n := 2281472) (by decide)) | exact sg u0 | exact sg u1 | exact sg u2 | exact u3 | exact sg (ZF.Ym u0) | exact sg (ZF.YS u0) | exact sg (ZM (K := 2281472) u1 u3 (by decide)) | exact sg (Yg (ZM (K := 2281472) u1 u3 (by decide))) | exact sg (Yn (ZM (K := 2281472) u1 u3 (by decide))))))) ?_
 refine cRs (ZMm (QQ a0 (Zt a0 a1 a2) a4).1 (JC (Zt a0 a1 a2) (QQ a0 (Zt a0 a1 a2) a4).1) (ZD.mk (Xt a0 a1 (Zt a0 a1 a2) a4) (Yp a0 a1 a2 (XY a4))) (by (first | exact sg (Y1 (n := 2281472) (by decide)) | exact sg u0 | exact sg u1 | exact sg u2 | exact u3 | exact sg (ZF.Ym u0) | exact sg (ZF.YS u0) | exact sg (ZM (K := 2281472) u1 u3 (by decide)) | exact sg (Yg (ZM (K := 2281472) u1 u3 (by decide))) | exact sg (Yn (ZM (K := 2281472) u1 u3 (by decide)))))) ?_
 refine cF f (fun k11 h10 f => ?_) (fun k11 h10 f => ?_)
 ·exact rt [.cell 10 79] f
 refine cRs (ZKc (QQ a0 (Zt a0 a1 a2) a4).1 (JC (Zt a0 a1 a2) (QQ a0 (Zt a0 a1 a2) a4).1) (ZD.mk (Xt a0 a1 (Zt a0 a1 a2) a4) (Yp a0 a1 a2 (XY a4))) (by (first | exact sg (Y1 (n := 2281472) (by decide)) | exact sg u0 | exact sg u1 | exact sg u2 | exact u3 | exact sg (ZF.Ym u0) | exact sg (ZF.YS u0) | exact sg (ZM (K := 2281472) u1 u3 (by decide)) | exact sg (Yg (ZM (K := 2281472) u1 u3 (by decide))) | exact sg (Yn (ZM (K := 2281472) u1 u3 (by decide)))))) ?_
 refine cF f (fun k12 h11 f => ?_) (fun k12 h11 f => ?_)
 ·exact rt [.cell 10 79] f
 refine dIs mixed ?_
 refine cRs (Yb.rd (ZJ8 (Zt a0 a1 a2) (by (first | exact sg (Y1 (n := 2281472) (by decide)) | exact sg u0 | exact sg u1 | exact sg u2 | exact u3 | exact sg (ZF.Ym u0) | exact sg (ZF.YS u0) | exact sg (ZM (K := 2281472) u1 u3 (by decide)) | exact sg (Yg (ZM (K := 2281472) u1 u3 (by decide))) | exact sg (Yn (ZM (K := 2281472) u1 u3 (by decide))))))) ?_
 refine cRs (ZKE a0.Y3 (yg (Zt a0 a1 a2)) a4.Org (QQ a0 (Zt a0 a1 a2) a4).1.Kb (ZD.mk (Xt a0 a1 (Zt a0 a1 a2) a4) (Yp a0 a1 a2 (XY a4))) (by (first | exact sg (Y1 (n := 2281472) (by decide)) | exact sg u0 | exact sg u1 | exact sg u2 | exact u3 | exact sg (ZF.Ym u0) | exact sg (ZF.YS u0) | exact sg (ZM (K := 2281472) u1 u3 (by decide)) | exact sg (Yg (ZM (K := 2281472) u1 u3 (by decide))) | exact sg (Yn (ZM (K := 2281472) u1 u3 (by decide))))) (by (first | exact sg (Y1 (n := 2281472) (by decide)) | exact sg u0 | exact sg u1 | exact sg u2 | exact u3 | exact sg (ZF.Ym u0) | exact sg (ZF.YS u0) | exact sg (ZM (K := 2281472) u1 u3 (by decide)) | exact sg (Yg (ZM (K := 2281472) u1 u3 (by decide))) | exact sg (Yn (ZM (K := 2281472) u1 u3 (by decide)))))) ?_
 refine cF f (fun k14 h12 f => ?_) (fun k14 h12 f => ?_)
 ·exact rt [.cell 10 79] f
 exact rt [.cell 10 79] f
theorem ZRw (a0 : ZF) (a1 : ZI) (a2 : Zg) (a3 : ZY) (u0 : Sm 2277376 a0) (u1 : Sm 2277376 a1) (u2 : Sm 2277376 a2) (u3 : ZQt a1 ≤ 2097152) : Sa 107 [a0.row, a1.row, a2.row, a3.row] [(ZHF a0 a1 a2 a3).row] := by
 have f := me (ZHF.eq_1 a0 a1 a2 a3)
 refine so Tryz.func107 Tryz.ntmps107 ?_
 refine dIs mixed ?_
 refine cRs (Yb.rd (ZGb a1 a2 (by (first | exact sg u0 | exact sg u1 | exact sg u2 | exact u3 | exact sg (QL (n := 2277376) u1))) (by (first | exact sg u0 | exact sg u1 | exact sg u2 | exact u3 | exact sg (QL (n := 2277376) u1))))) ?_
 refine cRs (ZFR a3.Method a2 (by (first | exact sg u0 | exact sg u1 | exact sg u2 | exact u3 | exact sg (QL (n := 2277376) u1)))) ?_
 refine cRs (ZHC a0 a1 (Jo a1 a2) (xI a3.Method a2) a3 (by (first | exact sg u0 | exact sg u1 | exact sg u2 | exact u3 | exact sg (QL (n := 2277376) u1))) (by (first | exact sg u0 | exact sg u1 | exact sg u2 | exact u3 | exact sg (QL (n := 2277376) u1))) (by (first | exact sg u0 | exact sg u1 | exact sg u2 | exact u3 | exact sg (QL (n := 2277376) u1))) (by (first | exact sg u0 | exact sg u1 | exact sg u2 | exact u3 | exact sg (QL (n := 2277376) u1)))) ?_
 exact rt [.cell 8 79] f
theorem ZFa (a0 : ZF) (a1 : Z3) (u0 : Sm 2273280 a0) (u1 : Sm 2097152 a1) : Sa 60 [a0.row, a1.row] [(Ks a0 a1).row] := by
 have f := me (Ks.eq_1 a0 a1)
 refine so Tryz.func60 Tryz.ntmps60 ?_
 refine dIs mixed ?_
 refine cRs (Yb.rd (ZHG a1 (by (first | exact sg u0 | exact sg (Z3.ZAz u1) | exact sg (n := 2097152) (show Sm 2097152 (ZI.mk [a1.Y7] []) from ⟨⟨Nat.le_of_ble_eq_true rfl, fun x hx => by rcases List.mem_cons.1 hx with rfl | hx; exact Z3.XZ u1; cases hx⟩, ⟨Nat.zero_le _, fun x hx => by cases hx⟩⟩) | exact (show a1.Y7.ZZ.length + 0 ≤ 2097152 from Yw (ZN.Y4 (Z3.XZ u1))) | exact sg u1)))) ?_
 refine cRs (ZRw a0 (yG a1) a1.Doc a1.Sig (by (first | exact sg u0 | exact sg (Z3.ZAz u1) | exact sg (n := 2097152) (show Sm 2097152 (ZI.mk [a1.Y7] []) from ⟨⟨Nat.le_of_ble_eq_true rfl, fun x hx => by rcases List.mem_cons.1 hx with rfl | hx; exact Z3.XZ u1; cases hx⟩, ⟨Nat.zero_le _, fun x hx => by cases hx⟩⟩) | exact (show a1.Y7.ZZ.length + 0 ≤ 2097152 from Yw (ZN.Y4 (Z3.XZ u1))) | exact sg u1)) (by (first | exact sg u0 | exact sg (Z3.ZAz u1) | exact sg (n := 2097152) (show Sm 2097152 (ZI.mk [a1.Y7] []) from ⟨⟨Nat.le_of_ble_eq_true rfl, fun x hx => by rcases List.mem_cons.1 hx with rfl | hx; exact Z3.XZ u1; cases hx⟩, ⟨Nat.zero_le _, fun x hx => by cases hx⟩⟩) | exact (show a1.Y7.ZZ.length + 0 ≤ 2097152 from Yw (ZN.Y4 (Z3.XZ u1))) | exact sg u1)) (by (first | exact sg u0 | exact sg (Z3.ZAz u1) | exact sg (n := 2097152) (show Sm 2097152 (ZI.mk [a1.Y7] []) from ⟨⟨Nat.le_of_ble_eq_true rfl, fun x hx => by rcases List.mem_cons.1 hx with rfl | hx; exact Z3.XZ u1; cases hx⟩, ⟨Nat.zero_le _, fun x hx => by cases hx⟩⟩) | exact (show a1.Y7.ZZ.length + 0 ≤ 2097152 from Yw (ZN.Y4 (Z3.XZ u1))) | exact sg u1)) (by (first | exact sg u0 | exact sg (Z3.ZAz u1) | exact sg (n := 2097152) (show Sm 2097152 (ZI.mk [a1.Y7] []) from ⟨⟨Nat.le_of_ble_eq_true rfl, fun x hx => by rcases List.mem_cons.1 hx with rfl | hx; exact Z3.XZ u1; cases hx⟩, ⟨Nat.zero_le _, fun x hx => by cases hx⟩⟩) | exact (show a1.Y7.ZZ.length + 0 ≤ 2097152 from Yw (ZN.Y4 (Z3.XZ u1))) | exact sg u1))) ?_
 exact rt [.cell 4 79] f
theorem ZI0 (a0 : Int) : Sa 105 [rI a0] [rS (JG a0)] := by
 have f := me (JG.eq_1 a0)
 refine so Tryz.func105 Tryz.ntmps105 ?_
 refine cRs (YA a0 1 3) ?_
 refine cFo f (fun k1 h1 f => ?_) (fun k1 h1 f => ?_)
 ·have q1 := h1; try simp [ZW] at q1
  simp
  exact rt [.tmp 2] f
 have q1 := h1; try simp [ZW] at q1
 have r1 : ∀ i : Nat, i < 4 → cut [At.d (.str (⟨#[]⟩ : ByteArray)), At.d (.str (⟨#[118, 97, 108, 105, 100]⟩ : ByteArray)), At.d (.str (⟨#[105, 110, 118, 97, 108, 105, 100]⟩ : ByteArray)), At.d (.str (⟨#[111, 112, 101, 110]⟩ : ByteArray))] i 1 = [At.d (.str (nth ([(⟨#[]⟩ : ByteArray), (⟨#[118, 97, 108, 105, 100]⟩ : ByteArray), (⟨#[105, 110, 118, 97, 108, 105, 100]⟩ : ByteArray), (⟨#[111, 112, 101, 110]⟩ : ByteArray)] : List ByteArray) i))] := by intro i h; (have z : i = 0 ∨ i = 1 ∨ i = 2 ∨ i = 3 := by omega); rcases z with rfl | rfl | rfl | rfl <;> rfl
 have i1 : a0.toNat < 4 := by first | omega | ((try simp only [J7, show ∀ x, IntKind.i64.wrap x = W x from fun _ => rfl] at *); omega)
 have r1b := r1 _ i1; simp only [cut] at r1b
 simp [r1 _ i1, r1b]
 repeat with_reducible refine sd ?_
 exact rt [.tmp 2] f
theorem ZJY (a0 : Int) : Sa 106 [rI a0] [rS (J3 a0)] := by
 have f := me (J3.eq_1 a0)
 refine so Tryz.func106 Tryz.ntmps106 ?_
 refine cRs (YA a0 0 9) ?_
 refine cFo f (fun k1 h1 f => ?_) (fun k1 h1 f => ?_)
 ·have q1 := h1; try simp [ZW] at q1
  simp
  exact rt [.tmp 2] f
 have q1 := h1; try simp [ZW] at q1
 have r1 : ∀ i : Nat, i < 10 → cut [At.d (.str (⟨#[110, 111, 110, 101]⟩ : ByteArray)), At.d (.str (⟨#[102, 111, 114, 109]⟩ : ByteArray)), At.d (.str (⟨#[100, 111, 99, 117, 109, 101, 110, 116]⟩ : ByteArray)), At.d (.str (⟨#[107, 101, 121]⟩ : ByteArray)), At.d (.str (⟨#[109, 97, 114, 107]⟩ : ByteArray)), At.d (.str (⟨#[98, 114, 111, 107, 101, 110]⟩ : ByteArray)), At.d (.str (⟨#[99, 101, 114, 116, 105, 102, 105, 99, 97, 116, 101]⟩ : ByteArray)), At.d (.str (⟨#[116, 105, 109, 101]⟩ : ByteArray)), At.d (.str (⟨#[101, 110, 100, 101, 100]⟩ : ByteArray)), At.d (.str (⟨#[109, 97, 110, 100, 97, 116, 101]⟩ : ByteArray))] i 1 = [At.d (.str (nth ([(⟨#[110, 111, 110, 101]⟩ : ByteArray), (⟨#[102, 111, 114, 109]⟩ : ByteArray), (⟨#[100, 111, 99, 117, 109, 101, 110, 116]⟩ : ByteArray), (⟨#[107, 101, 121]⟩ : ByteArray), (⟨#[109, 97, 114, 107]⟩ : ByteArray), (⟨#[98, 114, 111, 107, 101, 110]⟩ : ByteArray), (⟨#[99, 101, 114, 116, 105, 102, 105, 99, 97, 116, 101]⟩ : ByteArray), (⟨#[116, 105, 109, 101]⟩ : ByteArray), (⟨#[101, 110, 100, 101, 100]⟩ : ByteArray), (⟨#[109, 97, 110, 100, 97, 116, 101]⟩ : ByteArray)] : List ByteArray) i))] := by intro i h; (have z : i = 0 ∨ i = 1 ∨ i = 2 ∨ i = 3 ∨ i = 4 ∨ i = 5 ∨ i = 6 ∨ i = 7 ∨ i = 8 ∨ i = 9 := by omega); rcases z with rfl | rfl | rfl | rfl | rfl | rfl | rfl | rfl | rfl | rfl <;> rfl
 have i1 : a0.toNat < 10 := by first | omega | ((try simp only [J7, show ∀ x, IntKind.i64.wrap x = W x from fun _ => rfl] at *); omega)
 have r1b := r1 _ i1; simp only [cut] at r1b
 simp [r1 _ i1, r1b]
 repeat with_reducible refine sd ?_
 exact rt [.tmp 2] f
theorem ZGj (a0 : Yf) : Sa 59 [a0.row] [rS (Ji a0)] := by
 have f := me (Ji.eq_1 a0)
 refine so Tryz.func59 Tryz.ntmps59 ?_
 refine dIs mixed ?_
 refine cRs (ZI0 a0.Code) ?_
 refine cRs (ZJY a0.Reason) ?_
 refine cF f (fun k2 h1 f => ?_) (fun k2 h1 f => ?_)
 ·exact rt [.tmp 2] f
 refine cFf f (fun k3 h2 f => ?_) (fun k3 h2 f => ?_)
 ·have o1 := jI a0.Code
  have o2 := kL a0.Reason
  simp
  repeat with_reducible refine sd ?_
  exact rt [.tmp 2] f
 have o3 := jI a0.Code
 have o4 := kL a0.Reason
 refine dIs mixed ?_
 have o5 := Y8 a0.Span.YQ
 refine cRs (QH a0.Span.YQ) ?_
 have o6 := Y8 a0.Span.To
 refine cRs (QH a0.Span.To) ?_
 exact rt [.tmp 2] f
theorem ZEs (a0 : ZF) (a1 : Z3) (u0 : Sm 2269184 a0) (u1 : Sm 2097152 a1) : Sa 16 [a0.row, a1.row] [rS (Qi a0 a1)] := by
 have f := me (Qi.eq_1 a0 a1)
 refine so Tryz.func16 Tryz.ntmps16 ?_
 refine dIs mixed ?_
 have o1 := Y8 a1.Id
 refine cRs (QH a1.Id) ?_
 have o2 := Y8 a1.Sig.Key
 refine cRs (QH a1.Sig.Key) ?_
 have o3 := Y8 (↑a1.Y7.ZZ.length : Int)
 refine cRs (QH (↑a1.Y7.ZZ.length : Int)) ?_
 have o4 := Y8 (↑a1.Y7.ZR.length : Int)
 refine cRs (QH (↑a1.Y7.ZR.length : Int)) ?_
 refine cRs (ZFa a0 a1 (by (first | exact sg u0 | exact u1)) (by (first | exact sg u0 | exact u1))) ?_
 have o5 := ZAi (Ks a0 a1)
 refine cRs (ZGj (Ks a0 a1)) ?_
 exact rt [.tmp 4] f
theorem ZFQ {a b : Prop} (h : b) (k : a := by (intros; first | omega | with_unfolding_all (first | (have o : (nth a0 v1_1).size ≤ 2342912 := Z2 (i := v1_1) u0; have o2 : a1.size ≤ 2342912 := u1; have o3 : a0.length ≤ 2342912 := Yw u0; omega)) | ((try simp only [J7, show ∀ x, IntKind.i64.wrap x = W x from fun _ => rfl] at *); omega))) : a ∧ b := ⟨k, h⟩
theorem ZFA (a0 : List ByteArray) (a1 : ByteArray) (u0 : Sm 2342912 a0) (u1 : Sm 2342912 a1) : Sa 84 [rL 1 sR a0, rS a1] [rS (xX a0 a1)] := by
 have f := me (xX.eq_1 a0 a1)
 refine so Tryz.func84 Tryz.ntmps84 ?_
 refine lp2 (KY.eq_2 a0 a1) (fun v1_0 v1_1 => Yc 25 [(1, .one (.d (.str a1)), []), (5, .one (.d (.str v1_0)), []), eL 8 1 a0 sR, eI 9 (↑a0.length : Int), eI 10 (↑v1_1 : Int)]) (fun n1 v1_0 v1_1 => a0.length < n1 + v1_1 ∧ v1_1 ≤ a0.length ∧ v1_0.size ≤ 4685824 * v1_1) (a0.length + 1) (⟨#[]⟩ : ByteArray) 0 (fun p1 v1_0 v1_1 e1 j1 => ?_) (hI := by exact ⟨by omega, by omega, Nat.zero_le _, Nat.zero_le _⟩)
 try dsimp only at j1
 refine cFf e1 (fun k2 h1 e1 => ?_) (fun k2 h1 e1 => ?_)
 ·have i1 := ix h1
  have m2 := ml a0 (k2 8 _ rfl)
  have c1 := sl 2342912 a0 (an u0 u1)
  have w1 := wr v1_1
  simp [i1, ZA]
  repeat with_reducible refine ZFQ ?_
  refine cFo e1 (fun k3 h2 e1 => ?_) (fun k3 h2 e1 => ?_)
  ·simp
   repeat with_reducible refine ZFQ ?_
   exact ny2 w1 e1 (hI := by (have o : (nth a0 v1_1).size ≤ 2342912 := Z2 (i := v1_1) u0; have o2 : a1.size ≤ 2342912 := u1; have o3 : a0.length ≤ 2342912 := Yw u0; (try dsimp only); refine ⟨by omega, by omega, by omega, ?_⟩; simp; omega))
  simp
  repeat with_reducible refine ZFQ ?_
  exact ny2 w1 e1 (hI := by (have o : (nth a0 v1_1).size ≤ 2342912 := Z2 (i := v1_1) u0; have o2 : a1.size ≤ 2342912 := u1; have o3 : a0.length ≤ 2342912 := Yw u0; (try dsimp only); refine ⟨by omega, by omega, by omega, ?_⟩; simp; omega))
 have c2 := sl 2342912 a0 (an u0 u1)
 have f := ms f e1
 exact rt [.tmp 4] f
theorem ZP2 (a0 : List ByteArray) (a1 : ByteArray) (u0 : Sm 2338816 a0) (u1 : Sm 2338816 a1) : Sa 69 [rL 1 sR a0, rS a1] [rS (ZHR a0 a1)] := by
 have f := me (ZHR.eq_1 a0 a1)
 refine so Tryz.func69 Tryz.ntmps69 ?_
 refine cF f (fun k1 h1 f => ?_) (fun k1 h1 f => ?_)
 ·exact rt [.tmp 4] f
 refine cRs (ZFA a0 a1 (sg u0) (sg u1)) ?_
 exact rt [.tmp 4] f
theorem ZGd (a0 : ZF) (a1 : Zc) (u0 : Sm 1048576 a0) (u1 : Sm 1048576 a1) : Sa 22 [a0.row, a1.row] [rS (yx a0 a1)] := by
 have f := me (yx.eq_1 a0 a1)
 refine so Tryz.func22 Tryz.ntmps22 ?_
 refine lp2 (xC.eq_2 a0 a1) (fun v1_0 v1_1 => Yc 24 [eX 2 (a0.row.map .d), (5, .one (.sref 5 0 0 v1_0.length), [.arr false 1 (v1_0.map sR)]), eL 9 16 a1.Z5 Z3.row, eI 10 (↑a1.Z5.length : Int), eI 11 (↑v1_1 : Int)]) (fun n1 v1_0 v1_1 => a1.Z5.length < n1 + v1_1 ∧ v1_1 ≤ a1.Z5.length ∧ v1_0.length ≤ v1_1 ∧ (∀ x ∈ v1_0, x.size ≤ 400)) (a1.Z5.length + 1) ([] : List ByteArray) 0 (fun p1 v1_0 v1_1 e1 j1 => ?_) (hI := by exact ⟨by omega, by omega, Nat.zero_le _, Nat.zero_le _, fun x h => by cases h⟩) (h0 := Yh [((5, 0), none)] [] rfl (by simp))
 try dsimp only at j1
 refine cFf e1 (fun k2 h1 e1 => ?_) (fun k2 h1 e1 => ?_)
 ·have i1 := ix h1
  have m2 := ml a1.Z5 (k2 9 _ rfl)
  have c1 := sl 1048576 a1.Z5 (an u0 u1)
  have w1 := wr v1_1
  simp [i1, ZA]
  repeat with_reducible refine sd ?_
  refine cRs (ZEs a0 (nth a1.Z5 v1_1) (by (first | exact sg u0 | exact sg (Z2 (Zc.qt u1)))) (by (first | exact sg u0 | exact sg (Z2 (Zc.qt u1))))) ?_
  exact nx2 e1 (hI := by (refine ⟨by omega, by omega, by omega, by simp; omega, fun x hx => ?_⟩; rcases List.mem_append.1 hx with hx | hx; exact j1.2.2.2.2 x hx; simp at hx; rw [hx]; exact ZHH _ _)) (hw := Yh [((5, 0), some (20, 0))] [] rfl (by simp [w1]))
 have c2 := sl 1048576 a1.Z5 (an u0 u1)
 have f := ms f e1
 refine cRs (ZP2 v1_0 (⟨#[59, 32]⟩ : ByteArray) (by (first | exact ⟨by omega, fun x hx => Nat.le_trans (j1.2.2.2.2 x hx) (by decide)⟩ | exact Nat.le_of_ble_eq_true rfl)) (by (first | exact ⟨by omega, fun x hx => Nat.le_trans (j1.2.2.2.2 x hx) (by decide)⟩ | exact Nat.le_of_ble_eq_true rfl))) ?_
 exact rt [.tmp 4] f
theorem ZM0 (a0 : Zc) (a1 : Int) : Sa 117 [a0.row, rI a1] [rI (xK a0 a1)] := by
 have f := me (xK.eq_1 a0 a1)
 refine so Tryz.func117 Tryz.ntmps117 ?_
 refine lp1 (qC.eq_2 a0 a1) (fun v1_0 => Yc 21 [eI 1 a1, eL 8 16 a0.Z5 Z3.row, eI 9 (↑a0.Z5.length : Int), eI 10 (↑v1_0 : Int)]) (fun n1 v1_0 => a0.Z5.length < n1 + v1_0 ∧ v1_0 ≤ a0.Z5.length) (a0.Z5.length + 1) 0 (fun p1 v1_0 e1 j1 => ?_)
 refine cFf e1 (fun k2 h1 e1 => ?_) (fun k2 h1 e1 => ?_)
 ·have i1 := ix h1
  have m2 := ml a0.Z5 (k2 8 _ rfl)
  have w1 := wr v1_0
  simp [i1, ZA]
  repeat with_reducible refine sd ?_
  refine cF e1 (fun k3 h2 e1 => ?_) (fun k3 h2 e1 => ?_)
  ·have f := ms f e1
   exact rt [.tmp 4] f
  exact ny1 w1 e1
 have f := ms f e1
 exact rt [.tmp 4] f
theorem ZRE (a0 : YD) (a1 : Int) : Sa 78 [a0.row, rI a1] [rI (QY a0 a1).1, rI (QY a0 a1).2] := by
 have f := me (QY.eq_1 a0 a1)
 refine so Tryz.func78 Tryz.ntmps78 ?_
 refine lp1 (xH.eq_2 a0 a1) (fun v1_0 => Yc 25 [eI 1 a1, eL 10 2 a0.ZH Zc.row, eI 11 (↑a0.ZH.length : Int), eI 12 (↑v1_0 : Int)]) (fun n1 v1_0 => a0.ZH.length < n1 + v1_0 ∧ v1_0 ≤ a0.ZH.length) (a0.ZH.length + 1) 0 (fun p1 v1_0 e1 j1 => ?_)
 refine cFf e1 (fun k2 h1 e1 => ?_) (fun k2 h1 e1 => ?_)
 ·have i1 := ix h1
  have m2 := ml a0.ZH (k2 10 _ rfl)
  have w1 := wr v1_0
  simp [i1, ZA]
  repeat with_reducible refine sd ?_
  refine cRs (ZM0 (nth a0.ZH v1_0) a1) ?_
  refine cF e1 (fun k3 h2 e1 => ?_) (fun k3 h2 e1 => ?_)
  ·have f := ms f e1
   exact rt [.tmp 4, .tmp 5] f
  exact ny1 w1 e1
 have f := ms f e1
 exact rt [.tmp 4, .tmp 5] f
theorem ZIU {a b : Prop} (h : b) (k : a := by (intros; first | omega | with_unfolding_all (first | first | omega | (have fi := ZD3 a0 a1 (by first | omega | (simp at q1; omega)); omega)) | ((try simp only [J7, show ∀ x, IntKind.i64.wrap x = W x from fun _ => rfl] at *); omega))) : a ∧ b := ⟨k, h⟩
theorem ZDD (a0 : YD) (a1 : Int) (u0 : Sm 1048576 a0) : Sa 27 [a0.row, rI a1] [(zP a0 a1).row] := by
 have f := me (zP.eq_1 a0 a1)
 refine so Tryz.func27 Tryz.ntmps27 ?_
 refine cRs (ZRE a0 a1) ?_
 refine cFo f (fun k1 h1 f => ?_) (fun k1 h1 f => ?_)
 ·have q1 := h1; try simp at q1
  simp
  exact rt [.cell 4 79] f
 have q1 := h1; try simp at q1
 simp
 refine dIo mixed ?_
 have i1 : (QY a0 a1).1.toNat < a0.ZH.length := by first | omega | (have fi := ZD3 a0 a1 (by first | omega | (simp at q1; omega)); omega)
 have i2 : (QY a0 a1).2.toNat < (nth a0.ZH (QY a0 a1).1.toNat).Z5.length := by first | omega | (have fi := ZD3 a0 a1 (by first | omega | (simp at q1; omega)); omega)
 simp [i1, ZA, i2]
 repeat with_reducible refine ZIU ?_
 refine cRs (ZFa a0.Frame (nth (nth a0.ZH (QY a0 a1).1.toNat).Z5 (QY a0 a1).2.toNat) (sg (YD.ZMi u0)) (sg (Z2 (Zc.qt (Z2 (YD.ZCm u0)))))) ?_
 exact rt [.cell 4 79] f
theorem ZG2 {a b : Prop} (h : b) (k : a := by (intros; first | omega | with_unfolding_all (first | (have d := ZG9 (l := a0.ZH) (i := v1_1) (by first | omega | (simp at *; omega)); omega)) | ((try simp only [J7, show ∀ x, IntKind.i64.wrap x = W x from fun _ => rfl] at *); omega))) : a ∧ b := ⟨k, h⟩
theorem ZPe (a0 : YD) (u0 : Sm 2342912 a0) (u1 : itn a0.ZH ≤ 1048576) : So 83 [a0.row] [rL 16 Z3.row (X1 a0)] := by
 have f := me (X1.eq_1 a0)
 refine so Tryz.func83 Tryz.ntmps83 ?_
 refine lp2 (ZCp.eq_2 a0) (fun v1_0 v1_1 => Yc 19 [(3, .one (.sref 3 0 0 v1_0.length), [.arr false 16 (v1_0.map Z3.row)]), eL 7 2 a0.ZH Zc.row, eI 8 (↑a0.ZH.length : Int), eI 9 (↑v1_1 : Int)]) (fun n1 v1_0 v1_1 => a0.ZH.length < n1 + v1_1 ∧ v1_1 ≤ a0.ZH.length ∧ v1_0.length + itn (a0.ZH.drop v1_1) ≤ 1048576) (a0.ZH.length + 1) ([] : List Z3) 0 (fun p1 v1_0 v1_1 e1 j1 => ?_) (hI := by ((try dsimp only); simp only [List.length_nil, List.drop_zero]; omega)) (h0 := Yh [((3, 0), none)] [] rfl (by simp))
 try dsimp only at j1
 refine cFf e1 (fun k2 h1 e1 => ?_) (fun k2 h1 e1 => ?_)
 ·have i1 := ix h1
  have m2 := ml a0.ZH (k2 7 _ rfl)
  have c1 := sl 2342912 a0.ZH (an u0 u1)
  have w1 := wr v1_1
  simp [i1, ZA]
  repeat with_reducible refine ZG2 ?_
  refine evI rfl rfl rfl ?_
  have c2 := sl 2342912 (nth a0.ZH v1_1).Z5 (an u0 u1)
  simp
  repeat with_reducible refine ZG2 ?_
  exact nx2 e1 (hI := by (have d := ZG9 (l := a0.ZH) (i := v1_1) (by first | omega | (simp at *; omega)); (try dsimp only); simp only [List.length_append]; omega)) (hw := Yh [((3, 0), some (16, 0))] [] rfl (by simp [w1]))
 have c3 := sl 2342912 a0.ZH (an u0 u1)
 have f := ms f e1
 exact rtO [.tmp 2] f
theorem ZBv (a0 : YD) (a1 : Int) (u0 : Sm 1048576 a0) (u1 : itn a0.ZH ≤ 1048576) : Sa 31 [a0.row, rI a1] [rI (Xw a0 a1)] := by
 have f := me (Xw.eq_1 a0 a1)
 refine so Tryz.func31 Tryz.ntmps31 ?_
 refine cRs (ZPe a0 (sg u0) (by omega)) ?_
 refine lp2 (JY.eq_2 a0 a1) (fun v1_0 v1_1 => Yc 26 [eI 1 a1, eX 2 (a0.row.map .d), eI 5 v1_0, eL 9 16 (X1 a0) Z3.row, eI 10 (↑(X1 a0).length : Int), eI 11 (↑v1_1 : Int)]) (fun n1 v1_0 v1_1 => (X1 a0).length < n1 + v1_1 ∧ v1_1 ≤ (X1 a0).length) ((X1 a0).length + 1) 0 0 (fun p1 v1_0 v1_1 e1 j1 => ?_)
 refine cFf e1 (fun k2 h1 e1 => ?_) (fun k2 h1 e1 => ?_)
 ·have i1 := ix h1
  have m2 := ml (X1 a0) (k2 9 _ rfl)
  have w1 := wr v1_1
  simp [i1, ZA]
  repeat with_reducible refine sd ?_
  refine cRs (ZDD a0 (nth (X1 a0) v1_1).Id u0) ?_
  refine cF e1 (fun k3 h2 e1 => ?_) (fun k3 h2 e1 => ?_)
  ·exact ny2 w1 e1
  exact ny2 w1 e1
 have f := ms f e1
 exact rt [.tmp 4] f
theorem Qy {a b : Prop} (h : b) (k : a := by (intros; first | omega | with_unfolding_all (first | (first | omega | (have z1 := ZC6 (l := v1_0) (b := ⟨#[43]⟩) rfl j1.2.2.2.2; have z2 := ZC6 (l := v2_0) (b := ⟨#[47]⟩) rfl j2.2.2.2.2.2; omega) | (have z1 := ZC6 (l := v1_0) (b := ⟨#[43]⟩) rfl j1.2.2.2.2; omega))) | ((try simp only [J7, show ∀ x, IntKind.i64.wrap x = W x from fun _ => rfl] at *); omega))) : a ∧ b := ⟨k, h⟩
theorem ZIk (a0 : YD) (u0 : Sm 1048576 a0) (u1 : itn a0.ZH ≤ 1048576) : Sa 33 [a0.row] [rS (qo a0)] := by
 have f := me (qo.eq_1 a0)
 refine so Tryz.func33 Tryz.ntmps33 ?_
 refine lp2 (qz.eq_2 a0) (fun v1_0 v1_1 => Yc 52 [eX 1 (a0.row.map .d), (3, .one (.sref 3 0 0 v1_0.length), [.arr false 1 (v1_0.map sR)]), (4, .one (.nil 1), []), eL 9 2 a0.ZH Zc.row, eI 10 (↑a0.ZH.length : Int), eI 11 (↑v1_1 : Int)]) (fun n1 v1_0 v1_1 => a0.ZH.length < n1 + v1_1 ∧ v1_1 ≤ a0.ZH.length ∧ v1_0.length ≤ v1_1 ∧ (∀ x ∈ v1_0, x.size ≤ 24)) (a0.ZH.length + 1) ([] : List ByteArray) 0 (fun p1 v1_0 v1_1 e1 j1 => ?_) (hI := by exact ⟨by omega, by omega, Nat.zero_le _, Nat.zero_le _, fun x h => by cases h⟩) (h0 := Yh [((3, 0), none)] [] rfl (by simp))
 try dsimp only at j1
 refine cFf e1 (fun k2 h1 e1 => ?_) (fun k2 h1 e1 => ?_)
 ·have i1 := ix h1
  have m2 := ml a0.ZH (k2 9 _ rfl)
  have c1 := sl 1048576 a0.ZH (an u0 u1)
  have w1 := wr v1_1
  simp [i1, ZA]
  repeat with_reducible refine Qy ?_
  refine cR (QH (↑(nth a0.ZH v1_1).Z5.length : Int)) ?_
  simp
  repeat with_reducible refine Qy ?_
  exact nx2 e1 (hI := by (refine ⟨by omega, by omega, by omega, by simp; omega, fun x hx => ?_⟩; rcases List.mem_append.1 hx with hx | hx; exact j1.2.2.2.2 x hx; simp at hx; rw [hx]; exact Y8 _)) (hw := Yh [((3, 0), some (21, 0))] [] rfl (by simp [w1]))
 have c2 := sl 1048576 a0.ZH (an u0 u1)
 have f := ms f e1
 refine lp2 (yz.eq_2 a0) (fun v2_0 v2_1 => Yc 52 [eX 1 (a0.row.map .d), (3, .one (.sref 3 0 0 v1_0.length), [.arr false 1 (v1_0.map sR)]), (4, .one (.sref 4 0 0 v2_0.length), [.arr false 1 (v2_0.map sR)]), eI 7 (↑v2_1 : Int)]) (fun n2 v2_0 v2_1 => 4 < n2 + v2_1 ∧ v2_1 ≤ 4 ∧ 1 ≤ v2_1 ∧ v2_0.length ≤ v2_1 ∧ (∀ x ∈ v2_0, x.size ≤ 24)) 5 ([] : List ByteArray) 1 (fun p2 v2_0 v2_1 e2 j2 => ?_) (hI := by exact ⟨by omega, by omega, by omega, by omega, Nat.zero_le _, fun x h => by cases h⟩) (h0 := Yh [((4, 0), none)] [] rfl (by simp))
 try dsimp only at j2
 refine cF e2 (fun k4 h2 e2 => ?_) (fun k4 h2 e2 => ?_)
 ·have w2 := wr v2_1
  refine cRs (ZBv a0 (↑v2_1 : Int) (by (first | exact sg u0 | exact u1)) (by (first | exact sg u0 | exact u1))) ?_
  refine cR (QH (Xw a0 (↑v2_1 : Int))) ?_
  simp
  repeat with_reducible refine Qy ?_
  exact nx2 e2 (hI := by (have hh := h2; simp at hh; refine ⟨by omega, by omega, by omega, by omega, by simp; omega, fun x hx => ?_⟩; rcases List.mem_append.1 hx with hx | hx; exact j2.2.2.2.2.2 x hx; simp at hx; rw [hx]; exact Y8 _)) (hw := Yh [((4, 0), some (33, 0))] [] rfl (by simp [w2]))
 have f := ms f e2
 refine dIs mixed ?_
 refine cR (QH a0.Frame.Now) ?_
 have o1 := Y8 a0.Frame.Now
 simp
 repeat with_reducible refine Qy ?_
 refine cR (ZFA v1_0 (⟨#[43]⟩ : ByteArray) (by (first | exact ⟨by omega, fun x hx => Nat.le_trans (j1.2.2.2.2 x hx) (by decide)⟩ | exact ⟨by omega, fun x hx => Nat.le_trans (j2.2.2.2.2.2 x hx) (by decide)⟩ | exact Nat.le_of_ble_eq_true rfl)) (by (first | exact ⟨by omega, fun x hx => Nat.le_trans (j1.2.2.2.2 x hx) (by decide)⟩ | exact ⟨by omega, fun x hx => Nat.le_trans (j2.2.2.2.2.2 x hx) (by decide)⟩ | exact Nat.le_of_ble_eq_true rfl))) ?_
 simp
 repeat with_reducible refine Qy ?_
 refine cR (ZFA v2_0 (⟨#[47]⟩ : ByteArray) (by (first | exact ⟨by omega, fun x hx => Nat.le_trans (j1.2.2.2.2 x hx) (by decide)⟩ | exact ⟨by omega, fun x hx => Nat.le_trans (j2.2.2.2.2.2 x hx) (by decide)⟩ | exact Nat.le_of_ble_eq_true rfl)) (by (first | exact ⟨by omega, fun x hx => Nat.le_trans (j1.2.2.2.2 x hx) (by decide)⟩ | exact ⟨by omega, fun x hx => Nat.le_trans (j2.2.2.2.2.2 x hx) (by decide)⟩ | exact Nat.le_of_ble_eq_true rfl))) ?_
 simp
 repeat with_reducible refine Qy ?_
 refine cR (QH (↑a0.KW.length : Int)) ?_
 have o2 := Y8 (↑a0.KW.length : Int)
 simp
 repeat with_reducible refine Qy ?_
 exact rt [.tmp 2] f
end Go.Proofs.YtfhmpplolpejnaaGreat
