/- Contracts of the functions ZEa the abstract machine, part S1. No condition. -/
import Derived.Test.YtfhmpplolpejnaaGreatL
import Derived.Test.YtfhmpplolpejnaaGreatTy
namespace Go.Proofs.YtfhmpplolpejnaaGreat
open Go.Vm Go.Mo
set_option maxHeartbeats 1000000
set_option maxRecDepth 100000
set_option linter.unusedSimpArgs false
set_option linter.unusedVariables false
theorem Xh (a0 : Int) : Sa 49 [rI a0] [rS (XT a0)] := by
 have f := me (XT.eq_1 a0)
 refine so Tryz.func49 Tryz.ntmps49 ?_
 refine cF f (fun k1 h1 f => ?_) (fun k1 h1 f => ?_)
 ·exact rt [.tmp 2] f
 refine lp2 (Q7.eq_2) (fun v1_0 v1_1 => Yc 31 [eI 0 a0, (3, .one (.d (.str v1_0)), []), eI 4 v1_1]) (fun n1 v1_0 v1_1 => (n1 = 22 ∨ v1_1.natAbs < 10 ^ (n1 - 1)) ∧ v1_0.size + n1 = 22) 22 (⟨#[]⟩ : ByteArray) a0 (fun p1 v1_0 v1_1 e1 j1 => ?_) (hI := by exact ⟨by omega, .inl rfl, rfl⟩)
 try dsimp only at j1
 refine cF e1 (fun k3 h2 e1 => ?_) (fun k3 h2 e1 => ?_)
 ·refine cF e1 (fun k4 h3 e1 => ?_) (fun k4 h3 e1 => ?_)
  ·refine toStr (l := ([(UInt8.ofInt (W (48 + (W (-(Int.tmod v1_1 10))))))] : List UInt8)) rfl rfl rfl (by simp) (by simp) (by simp) (by simp [Kd, ZN1]) ?_
   simp
   repeat with_reducible refine sd ?_
   exact nx2 e1 (hI := by (try dsimp only); obtain ⟨s1, s2⟩ := ZV1 j1.2.1 h2; refine ⟨s1, s2, ?_⟩; have := j1.2.2; simp; omega)
  refine toStr (l := ([(UInt8.ofInt (W (48 + (Int.tmod v1_1 10))))] : List UInt8)) rfl rfl rfl (by simp) (by simp) (by simp) (by simp [Kd, ZN1]) ?_
  simp
  repeat with_reducible refine sd ?_
  exact nx2 e1 (hI := by (try dsimp only); obtain ⟨s1, s2⟩ := ZV1 j1.2.1 h2; refine ⟨s1, s2, ?_⟩; have := j1.2.2; simp; omega)
 have f := ms f e1
 refine cF f (fun k5 h4 f => ?_) (fun k5 h4 f => ?_)
 ·exact rt [.tmp 2] f
 exact rt [.tmp 2] f
theorem ZPn (a0 : ZB) (u0 : Sm 2342912 a0) : Sd 256 [a0.row] [(ZIK a0).row] := by
 have f := me (ZIK.eq_1 a0)
 refine soD Tryz.func256 Tryz.ntmps256 ?_
 refine ZSP [2, 3, 4, 5, 0, 1, 6, 7, 8, 9] mixed (by kernel_rfl) (by kernel_rfl) (by kernel_rfl) ?_
 have c1 := sl 2342912 a0.Zb u0
 simp
 repeat with_reducible refine sd ?_
 exact rtD [.cell 2 194] f
theorem qv (a0 : ZB) (u0 : Sm 2342912 a0) : Sd 256 [a0.row] [a0.row] := by
  have h := ZPn a0 u0
  rwa [ZPO] at h
theorem ZRF (a0 : List ZB) (u0 : Sm 2338816 a0) : So 189 [rL 3 ZB.row a0] [rL 3 ZB.row (ZG3 a0)] := by
 have f := me (ZG3.eq_1 a0)
 refine so Tryz.func189 Tryz.ntmps189 ?_
 refine eIs ?_
 refine lp2 (ZEF.eq_2 a0) (fun v1_0 v1_1 => Yc 21 [eL 0 3 a0 ZB.row, (3, .one (.sref 3 0 0 v1_0.length), [.arr false 3 (v1_0.map ZB.row)]), eI 4 (↑v1_1 : Int)]) (fun n1 v1_0 v1_1 => a0.length < n1 + v1_1 ∧ v1_1 ≤ a0.length ∧ v1_0.length ≤ 0 + 1 * v1_1) (a0.length + 1) ([] : List ZB) 0 (fun p1 v1_0 v1_1 e1 j1 => ?_) (h0 := Yh [((3, 0), some (5, 0))] [] rfl (by simp))
 refine cFf e1 (fun k2 h1 e1 => ?_) (fun k2 h1 e1 => ?_)
 ·have i1 := ix h1
  have m2 := ml a0 (k2 0 _ rfl)
  have c1 := sl 2338816 a0 u0
  have w1 := wr v1_1
  simp [i1, ZA]
  repeat with_reducible refine sd ?_
  refine cRs (Yb.rd (qv (nth a0 v1_1) (sg (Z2 u0)))) ?_
  refine eIs ?_
  refine eIs ?_
  exact nx2 e1 (hw := Yh [((3, 0), some (19, 0))] [] rfl (by simp [w1]))
 have c2 := sl 2338816 a0 u0
 have f := ms f e1
 exact rtO [.tmp 2] f
theorem ZOr (a0 : List ZB) (u0 : Sm 2338816 a0) : So 189 [rL 3 ZB.row a0] [rL 3 ZB.row a0] := by
  have h := ZRF a0 u0
  rwa [ZPz] at h
theorem ZPT (a0 : ZS) (u0 : Sm 2342912 a0) : Sd 190 [a0.row] [(ZIR a0).row] := by
 have f := me (ZIR.eq_1 a0)
 have c1 := sl 2342912 a0.Path u0
 have c2 := sl 2342912 a0.Zi u0
 refine soD Tryz.func190 Tryz.ntmps190 ?_
 exact rtD [.cell 2 199] f
theorem ZM9 (a0 : ZS) (u0 : Sm 2342912 a0) : Sd 190 [a0.row] [a0.row] := by
  have h := ZPT a0 u0
  rwa [ZPi] at h
theorem ZPI (a0 : ZN) (u0 : Sm 2334720 a0) : So 141 [a0.row] [(ZF1 a0).row] := by
 have f := me (ZF1.eq_1 a0)
 refine so Tryz.func141 Tryz.ntmps141 ?_
 refine cOs (ZOr a0.ZZ (sg (ZN.Y4 u0))) ?_
 refine lp2 (ZCU.eq_2 a0) (fun v1_0 v1_1 => Yc 28 [eX 1 (a0.row.map .d), (2, .one (.bptr 2 0), [.box [.nil 3, .nil 5]]), (3, .one (.bptr 3 0), [.box [.sref 7 0 0 a0.ZZ.length, .sref 3 2 0 v1_1.length], .none, .arr false 5 (v1_1.map ZS.row)]), eI 4 (↑v1_0 : Int), (7, .any, [.arr false 3 (a0.ZZ.map ZB.row)])]) (fun n1 v1_0 v1_1 => a0.ZR.length < n1 + v1_0 ∧ v1_0 ≤ a0.ZR.length ∧ v1_1.length ≤ 0 + 1 * v1_0) (a0.ZR.length + 1) 0 ([] : List ZS) (fun p1 v1_0 v1_1 e1 j1 => ?_) (h0 := Yh [((3, 2), none)] [] rfl (by simp))
 refine cF e1 (fun k2 h1 e1 => ?_) (fun k2 h1 e1 => ?_)
 ·have i1 := ix h1
  have m2 := ml a0.ZR (k2 11 _ rfl)
  have c1 := sl 2334720 a0.ZR u0
  have w1 := wr v1_0
  refine dIo mixed ?_
  simp [i1, ZA]
  repeat with_reducible refine sd ?_
  refine cRs (Yb.rd (ZM9 (nth a0.ZR v1_0) (sg (Z2 (ZN.QG u0))))) ?_
  refine eIs ?_
  refine eIs ?_
  exact nx2 e1 (hw := Yh [((3, 2), some (25, 0))] [] rfl (by simp [w1]))
 have c2 := sl 2334720 a0.ZR u0
 have f := ms f e1
 exact rtO [.cell 2 53] f
theorem ZM6 (a0 : ZN) (u0 : Sm 2334720 a0) : So 141 [a0.row] [a0.row] := by
  have h := ZPI a0 u0
  rwa [ZOY] at h
theorem ZHr (a0 : Z3) (u0 : Sm 2330624 a0) : So 98 [a0.row] [(zT a0).row] := by
 have f := me (zT.eq_1 a0)
 refine so Tryz.func98 Tryz.ntmps98 ?_
 refine cRs (ZM6 a0.Y7 (sg (Z3.XZ u0))) ?_
 refine eIs ?_
 exact rtO [.cell 2 143] f
theorem Ye (a0 : Int) (a1 : Int) (a2 : Int) : Sa 137 [rI a0, rI a1, rI a2] [rB (YN a0 a1 a2)] := by
 have f := me (YN.eq_1 a0 a1 a2)
 refine so Tryz.func137 Tryz.ntmps137 ?_
 exact rt [.tmp 6] f
theorem ZKJ (a0 : Zg) : Sa 186 [a0.row] [rB (yf a0)] := by
 have f := me (yf.eq_1 a0)
 refine so Tryz.func186 Tryz.ntmps186 ?_
 refine lp1 (zk.eq_2 a0) (fun v1_0 => Yc 51 [eX 1 (a0.row.map .d), eI 3 (↑v1_0 : Int)]) (fun n1 v1_0 => a0.Yx.length < n1 + v1_0 ∧ v1_0 ≤ a0.Yx.length) (a0.Yx.length + 1) 0 (fun p1 v1_0 e1 j1 => ?_)
 refine cFf e1 (fun k2 h1 e1 => ?_) (fun k2 h1 e1 => ?_)
 ·have i1 := ix h1
  have m2 := ml a0.Yx (k2 7 _ rfl)
  have w1 := wr v1_0
  simp [i1, ZA]
  repeat with_reducible refine sd ?_
  refine cF e1 (fun k3 h2 e1 => ?_) (fun k3 h2 e1 => ?_)
  ·have f := ms f e1
   exact rt [.tmp 2] f
  exact ny1 w1 e1
 have f := ms f e1
 refine lp1 (zw.eq_2 a0) (fun v2_0 => Yc 51 [eX 1 (a0.row.map .d), eI 4 (↑v2_0 : Int)]) (fun n2 v2_0 => a0.Xl.length < n2 + v2_0 ∧ v2_0 ≤ a0.Xl.length) (a0.Xl.length + 1) 0 (fun p2 v2_0 e2 j2 => ?_)
 refine cFf e2 (fun k5 h3 e2 => ?_) (fun k5 h3 e2 => ?_)
 ·have i2 := ix h3
  have m4 := ml a0.Xl (k5 21 _ rfl)
  have w2 := wr v2_0
  simp [i2, ZA]
  repeat with_reducible refine sd ?_
  refine cRs (Ye (nth a0.Xl v2_0) 1 1000000000000) ?_
  refine cFo e2 (fun k6 h4 e2 => ?_) (fun k6 h4 e2 => ?_)
  ·have q4 := h4; try simp [YN] at q4
   have f := ms f e2
   simp
   exact rt [.tmp 2] f
  have q4 := h4; try simp [YN] at q4
  simp
  exact ny1 w2 e2
 have f := ms f e2
 refine cRs (Ye a0.kW 0 999) ?_
 refine cGs (fun gg => (Ye (↑a0.Yx.length : Int) 1 6)) ?_
 exact rt [.tmp 2] f
theorem ZUY (a0 : Int) (a1 : Int) : Sa 309 [rI a0, rI a1] [rI (ZP8 a0 a1)] := by
 have f := me (ZP8.eq_1 a0 a1)
 refine so Tryz.func309 Tryz.ntmps309 ?_
 refine cRs (Ye a1 1 1000000000000) ?_
 refine cFo f (fun k1 h1 f => ?_) (fun k1 h1 f => ?_)
 ·have q1 := h1; try simp [YN] at q1
  simp
  exact rt [.tmp 4] f
 have q1 := h1; try simp [YN] at q1
 simp
 repeat with_reducible refine sd ?_
 exact rt [.tmp 4] f
theorem ZNr (a0 : List Int) : Sa 255 [rL 1 iR a0] [rI (ZIn a0)] := by
 have f := me (ZIn.eq_1 a0)
 refine so Tryz.func255 Tryz.ntmps255 ?_
 refine lp2 (ZE2.eq_2 a0) (fun v1_0 v1_1 => Yc 22 [eL 0 1 a0 iR, eI 3 v1_0, eI 4 (↑v1_1 : Int)]) (fun n1 v1_0 v1_1 => a0.length < n1 + v1_1 ∧ v1_1 ≤ a0.length) (a0.length + 1) 11 0 (fun p1 v1_0 v1_1 e1 j1 => ?_)
 refine cFf e1 (fun k2 h1 e1 => ?_) (fun k2 h1 e1 => ?_)
 ·have i1 := ix h1
  have m2 := ml a0 (k2 0 _ rfl)
  have w1 := wr v1_1
  simp [i1, ZA]
  repeat with_reducible refine sd ?_
  refine cRs (ZUY (nth a0 v1_1) 2147483647) ?_
  exact ny2 w1 e1
 have f := ms f e1
 exact rt [.tmp 2] f
theorem J9 (a0 : Int) (a1 : List Int) (u0 : Sm 68719476736 a1) : Sa 188 [rI a0, rL 1 iR a1] [rI (Qz a0 a1)] := by
 have f := me (Qz.eq_1 a0 a1)
 have c1 := sl 68719476736 a1 u0
 refine so Tryz.func188 Tryz.ntmps188 ?_
 refine cRs (ZNr (([7, a0] : List Int) ++ a1)) ?_
 exact rt [.tmp 4] f
theorem ZJy (a0 : Int) (a1 : ByteArray) (a2 : Int) (u0 : Sm 2326528 a1) : Sa 187 [rI a0, rS a1, rI a2] [rI (kN a0 a1 a2)] := by
 have f := me (kN.eq_1 a0 a1 a2)
 refine so Tryz.func187 Tryz.ntmps187 ?_
 refine lp2 (xT.eq_2 a1) (fun v1_0 v1_1 => Yc 27 [eI 0 a0, (1, .one (.d (.str a1)), []), (7, .one (.sref 7 0 0 v1_0.length), [.arr false 1 (v1_0.map iR)]), eI 8 (↑v1_1 : Int)]) (fun n1 v1_0 v1_1 => a1.size < n1 + v1_1 ∧ v1_1 ≤ a1.size ∧ v1_0.length ≤ 1 + 1 * v1_1) (a1.size + 1) ([a2] : List Int) 0 (fun p1 v1_0 v1_1 e1 j1 => ?_) (h0 := Yh [((7, 0), some (10, 0))] [] rfl (by simp))
 refine cFo e1 (fun k2 h1 e1 => ?_) (fun k2 h1 e1 => ?_)
 ·have q1 := h1; try simp at q1
  have c1 : a1.size ≤ 2326528 := ZPl (by simp (maxDischargeDepth := 12) [u0])
  have w1 := wr v1_1
  simp
  repeat with_reducible refine sd ?_
  exact nx2 e1 (hw := Yh [((7, 0), some (23, 0))] [] rfl (by simp [w1]))
 have q1 := h1; try simp at q1
 have c2 : a1.size ≤ 2326528 := ZPl (by simp (maxDischargeDepth := 12) [u0])
 have f := ms f e1
 simp
 refine cRs (J9 a0 v1_0 (by first | (simp (maxDischargeDepth := 12) [Xr]; omega) | (simp (maxDischargeDepth := 12) [ZX (m := 68719476736) (by decide) u0]; done))) ?_
 exact rt [.tmp 6] f
theorem ZFk (a0 : Int) (a1 : Zg) (u0 : Sm 2322432 a1) : Sa 140 [rI a0, a1.row] [rI (xa a0 a1)] := by
 have f := me (xa.eq_1 a0 a1)
 refine so Tryz.func140 Tryz.ntmps140 ?_
 refine cRs (ZKJ a1) ?_
 refine cF f (fun k1 h1 f => ?_) (fun k1 h1 f => ?_)
 ·exact rt [.tmp 4] f
 refine lp2 (qj.eq_2 a0 a1) (fun v1_0 v1_1 => Yc 38 [eI 0 a0, eX 3 (a1.row.map .d), (5, .one (.sref 5 0 0 v1_0.length), [.arr false 1 (v1_0.map iR)]), eI 6 (↑v1_1 : Int)]) (fun n1 v1_0 v1_1 => a1.Yx.length < n1 + v1_1 ∧ v1_1 ≤ a1.Yx.length ∧ v1_0.length ≤ 1 + 1 * v1_1) (a1.Yx.length + 1) ([a1.kW] : List Int) 0 (fun p1 v1_0 v1_1 e1 j1 => ?_) (h0 := Yh [((5, 0), some (12, 0))] [] rfl (by simp))
 try dsimp only at j1
 refine cF e1 (fun k3 h2 e1 => ?_) (fun k3 h2 e1 => ?_)
 ·have i1 := ix h2
  have m2 := ml a1.Yx (k3 15 _ rfl)
  have c1 := sl 2322432 a1.Yx u0
  have w1 := wr v1_1
  refine dIo mixed ?_
  have i2 : v1_1 < a1.Xl.length := by (have := ZIZ (a := a1); first | (simp_all; done) | (simp_all; omega))
  simp [i1, ZA, i2]
  repeat with_reducible refine sd ?_
  refine cRs (ZJy a0 (nth a1.Yx v1_1) (nth a1.Xl v1_1) (sg (Z2 (Zg.ZH5 u0)))) ?_
  exact nx2 e1 (hw := Yh [((5, 0), some (34, 0))] [] rfl (by simp [w1]))
 have c2 := sl 2322432 a1.Yx u0
 have f := ms f e1
 refine cRs (J9 a0 v1_0 (by first | (simp (maxDischargeDepth := 12) [Xr]; omega) | (simp (maxDischargeDepth := 12) [ZX (m := 68719476736) (by decide) u0]; done))) ?_
 exact rt [.tmp 4] f
theorem ZKS (a0 : ZN) (a1 : Zg) (u0 : Sm 2318336 a0) (u1 : Sm 2318336 a1) : Sd 185 [a0.row, a1.row] [rL 1 iR (yV a0 a1)] := by
 have f := me (yV.eq_1 a0 a1)
 refine soD Tryz.func185 Tryz.ntmps185 ?_
 refine lp2 (KP.eq_2 a0 a1) (fun v1_0 v1_1 => Yc 27 [eX 2 (a0.row.map .d), eX 3 (a1.row.map .d), (5, .one (.sref 5 0 0 v1_0.length), [.arr false 1 (v1_0.map iR)]), eI 6 (↑v1_1 : Int)]) (fun n1 v1_0 v1_1 => a0.ZR.length < n1 + v1_1 ∧ v1_1 ≤ a0.ZR.length ∧ v1_0.length ≤ 0 + 1 * v1_1) (a0.ZR.length + 1) ([] : List Int) 0 (fun p1 v1_0 v1_1 e1 j1 => ?_) (h0 := Yh [((5, 0), some (7, 0))] [] rfl (by simp))
 refine cF e1 (fun k2 h1 e1 => ?_) (fun k2 h1 e1 => ?_)
 ·have i1 := ix h1
  have m2 := ml a0.ZR (k2 10 _ rfl)
  have c1 := sl 2318336 a0.ZR (an u0 u1)
  have w1 := wr v1_1
  refine dIo mixed ?_
  simp [i1, ZA]
  repeat with_reducible refine sd ?_
  refine cRs (ZFk (nth a0.ZR v1_1).Method a1 (sg u1)) ?_
  exact nx2 e1 (hw := Yh [((5, 0), some (25, 0))] [] rfl (by simp [w1]))
 have c2 := sl 2318336 a0.ZR (an u0 u1)
 have f := ms f e1
 exact rtD [.tmp 4] f
theorem ZBh {a b : Prop} (h : b) (k : a := by (intros; first | omega | with_unfolding_all (first | (first | omega | (have z := Yw (ZI.Yr u0); omega))) | ((try simp only [J7, show ∀ x, IntKind.i64.wrap x = W x from fun _ => rfl] at *); omega))) : a ∧ b := ⟨k, h⟩
theorem ZGu (a0 : ZI) (a1 : Zg) (u0 : Sm 2314240 a0) (u1 : Sm 2314240 a1) : So 139 [a0.row, a1.row] [rL 1 (slR 1 iR) (Jf a0 a1)] := by
 have f := me (Jf.eq_1 a0 a1)
 refine so Tryz.func139 Tryz.ntmps139 ?_
 refine eIs ?_
 refine lp2 (Qe.eq_2 a0 a1) (fun v1_0 v1_1 => Yc 26 [eX 2 (a0.row.map .d), eX 3 (a1.row.map .d), (5, .one (.sref 5 0 0 v1_0.length), [.arr false 1 (v1_0.map (slR 1 iR))]), eI 6 (↑v1_1 : Int)]) (fun n1 v1_0 v1_1 => a0.ZK.length < n1 + v1_1 ∧ v1_1 ≤ a0.ZK.length ∧ v1_0.length ≤ v1_1) (a0.ZK.length + 1) ([] : List (List Int)) 0 (fun p1 v1_0 v1_1 e1 j1 => ?_) (h0 := Yh [((5, 0), some (7, 0))] [] rfl (by simp))
 try dsimp only at j1
 refine cF e1 (fun k2 h1 e1 => ?_) (fun k2 h1 e1 => ?_)
 ·have i1 := ix h1
  have m2 := ml a0.ZK (k2 10 _ rfl)
  have c1 := sl 2314240 a0.ZK (an u0 u1)
  have w1 := wr v1_1
  refine dIo mixed ?_
  simp [i1, ZA]
  repeat with_reducible refine ZBh ?_
  refine cRs (Yb.rd (ZKS (nth a0.ZK v1_1) a1 (sg (Z2 (ZI.Yr u0))) (sg u1))) ?_
  refine eIs ?_
  refine evI rfl rfl rfl ?_
  simp
  repeat with_reducible refine ZBh ?_
  exact nx2 e1 (hw := Yh [((5, 0), some (24, 0))] [] rfl (by simp [w1]))
 have c2 := sl 2314240 a0.ZK (an u0 u1)
 have f := ms f e1
 exact rtO [.tmp 4] f
theorem yR (a0 : Int) : Sa 156 [rI a0] [rB (qc a0)] := by
 have f := me (qc.eq_1 a0)
 refine so Tryz.func156 Tryz.ntmps156 ?_
 refine cRs (Ye a0 0 10000) ?_
 exact rt [.tmp 2] f
theorem ZJ1 (a0 : Int) : Sa 283 [rI a0] [rB (j0 a0)] := by
 have f := me (j0.eq_1 a0)
 refine so Tryz.func283 Tryz.ntmps283 ?_
 refine cRs (Ye a0 1 2147483646) ?_
 exact rt [.tmp 2] f
theorem ZSC (a0 : YC) : Sa 221 [a0.row] [rB (ZH3 a0)] := by
 have f := me (ZH3.eq_1 a0)
 refine so Tryz.func221 Tryz.ntmps221 ?_
 refine cRs (Ye a0.Number 1 99) ?_
 refine cGs (fun gg => (Ye a0.Kb 0 99)) ?_
 refine cGs (fun gg => (Ye a0.Method 0 99)) ?_
 refine cGs (fun gg => (yR a0.ZIX)) ?_
 refine cGs (fun gg => (ZJ1 a0.kp)) ?_
 exact rt [.tmp 2] f
theorem ZOZ (a0 : List YC) : Sa 153 [rL 5 YC.row a0] [rB (ZDC a0)] := by
 have f := me (ZDC.eq_1 a0)
 refine so Tryz.func153 Tryz.ntmps153 ?_
 refine lp1 (ZAY.eq_2 a0) (fun v1_0 => Yc 37 [eL 0 5 a0 YC.row, eI 3 (↑v1_0 : Int)]) (fun n1 v1_0 => a0.length < n1 + v1_0 ∧ v1_0 ≤ a0.length) (a0.length + 1) 0 (fun p1 v1_0 e1 j1 => ?_)
 refine cF e1 (fun k2 h1 e1 => ?_) (fun k2 h1 e1 => ?_)
 ·have i1 := ix h1
  have m2 := ml a0 (k2 0 _ rfl)
  have w1 := wr v1_0
  refine dIo mixed ?_
  simp [i1, ZA]
  repeat with_reducible refine sd ?_
  refine cRs (ZSC (nth a0 v1_0)) ?_
  refine gIf (fun G => ?_) (fun G => ?_)
  ·have i2 := ik (v1_0 - 1) a0
   have w2 : IntKind.i64.wrap ((v1_0 : Int) - 1) = (v1_0 : Int) - 1 := Yd (by omega) (by omega)
   simp [i2, ZA, w2, QW, G]
   repeat with_reducible refine sdg ?_
   refine gK (fun _ => ?_)
   simp [i1, ZA, G]
   repeat with_reducible refine sdg ?_
   refine cK e1 (fun k4 h2 e1 => ?_) (fun k4 h2 e1 => ?_)
   ·try (simp [G] at h2; done)
    all_goals
     have f := ms f e1
     exact rtg [.tmp 2] f
   ·try (simp [G] at h2; done)
    all_goals
     exact ny1 (an w1 (an w2 G)) e1
  ·refine sGg ?_
   refine cK e1 (fun k5 h3 e1 => ?_) (fun k5 h3 e1 => ?_)
   ·try (simp [G] at h3; done)
    all_goals
     have f := ms f e1
     exact rtg [.tmp 2] f
   ·try (simp [G] at h3; done)
    all_goals
     exact ny1 (an w1 G) e1
 have f := ms f e1
 exact rt [.tmp 2] f
theorem ZGI (a0 : List ZE) : Sa 154 [rL 3 ZE.row a0] [rB (yA a0)] := by
 have f := me (yA.eq_1 a0)
 refine so Tryz.func154 Tryz.ntmps154 ?_
 refine lp1 (KL.eq_2 a0) (fun v1_0 => Yc 56 [eL 0 3 a0 ZE.row, eI 3 (↑v1_0 : Int)]) (fun n1 v1_0 => a0.length < n1 + v1_0 ∧ v1_0 ≤ a0.length) (a0.length + 1) 0 (fun p1 v1_0 e1 j1 => ?_)
 refine cF e1 (fun k2 h1 e1 => ?_) (fun k2 h1 e1 => ?_)
 ·have i1 := ix h1
  have m2 := ml a0 (k2 0 _ rfl)
  have w1 := wr v1_0
  refine dIo mixed ?_
  simp [i1, ZA]
  repeat with_reducible refine sd ?_
  refine cRs (Ye (nth a0 v1_0).Id 0 99) ?_
  refine gIf (fun G => ?_) (fun G => ?_)
  ·have g1 := G; try simp [YN] at g1
   simp [i1, ZA, G]
   repeat with_reducible refine sdg ?_
   refine cGg (fun gg => (Ye (nth a0 v1_0).Key 1 99)) ?_
   refine gJf G (fun G => ?_) (fun G => ?_)
   ·try (simp at G; done)
    all_goals
     have g2 := G.2; try simp [YN] at g2
     all_goals
      simp [i1, ZA, G]
      repeat with_reducible refine sdg ?_
      refine cGg (fun gg => (Ye (nth a0 v1_0).Error 0 100)) ?_
      refine gJf G (fun G => ?_) (fun G => ?_)
      ·try (simp at G; done)
       all_goals
        have i2 := ik (v1_0 - 1) a0
        have w2 : IntKind.i64.wrap ((v1_0 : Int) - 1) = (v1_0 : Int) - 1 := Yd (by omega) (by omega)
        simp [i2, ZA, w2, QW, G]
        repeat with_reducible refine sdg ?_
        refine gK (fun _ => ?_)
        simp [i1, ZA, G]
        repeat with_reducible refine sdg ?_
        refine cKo e1 (fun k4 h2 e1 => ?_) (fun k4 h2 e1 => ?_)
        ·try (simp [G] at h2; done)
         all_goals
          have q2 := h2; try simp [YN] at q2
          have f := ms f e1
          simp [G]
          repeat with_reducible refine sdg ?_
          exact rtg [.tmp 2] f
        ·try (simp [G] at h2; done)
         all_goals
          have q2 := h2; try simp [YN] at q2
          simp [G]
          repeat with_reducible refine sdg ?_
          exact ny1 (an w1 (an w2 G)) e1
      ·try (simp at G; done)
       all_goals
        refine sGg ?_
        refine cKo e1 (fun k5 h3 e1 => ?_) (fun k5 h3 e1 => ?_)
        ·try (simp [G] at h3; done)
         all_goals
          have q3 := h3; try simp [YN] at q3
          have f := ms f e1
          simp [G]
          repeat with_reducible refine sdg ?_
          exact rtg [.tmp 2] f
        ·try (simp [G] at h3; done)
         all_goals
          have q3 := h3; try simp [YN] at q3
          simp [G]
          repeat with_reducible refine sdg ?_
          exact ny1 (an w1 G) e1
   ·try (simp at G; done)
    all_goals
     refine sGo ?_
     simp [G]
     repeat with_reducible refine sdg ?_
     refine gJf G (fun G => ?_) (fun G => ?_)
     ·try (simp at G; done)
      all_goals
       have i4 := ik (v1_0 - 1) a0
       have w4 : IntKind.i64.wrap ((v1_0 : Int) - 1) = (v1_0 : Int) - 1 := Yd (by omega) (by omega)
       simp [i4, ZA, w4, QW, G]
       repeat with_reducible refine sdg ?_
       refine gK (fun _ => ?_)
       simp [i1, ZA, G]
       repeat with_reducible refine sdg ?_
       refine cKo e1 (fun k6 h4 e1 => ?_) (fun k6 h4 e1 => ?_)
       ·try (simp [G] at h4; done)
        all_goals
         have q4 := h4; try simp [YN] at q4
         have f := ms f e1
         simp [G]
         repeat with_reducible refine sdg ?_
         exact rtg [.tmp 2] f
       ·try (simp [G] at h4; done)
        all_goals
         have q4 := h4; try simp [YN] at q4
         simp [G]
         repeat with_reducible refine sdg ?_
         exact ny1 (an w1 (an w4 G)) e1
     ·try (simp at G; done)
      all_goals
       refine sGg ?_
       refine cKo e1 (fun k7 h5 e1 => ?_) (fun k7 h5 e1 => ?_)
       ·try (simp [G] at h5; done)
        all_goals
         have q5 := h5; try simp [YN] at q5
         have f := ms f e1
         simp [G]
         repeat with_reducible refine sdg ?_
         exact rtg [.tmp 2] f
       ·try (simp [G] at h5; done)
        all_goals
         have q5 := h5; try simp [YN] at q5
         simp [G]
         repeat with_reducible refine sdg ?_
         exact ny1 (an w1 G) e1
  ·refine sGo ?_
   simp [G]
   repeat with_reducible refine sdg ?_
   refine gJf G (fun G => ?_) (fun G => ?_)
   ·try (simp at G; done)
    all_goals
     have g5 := G.2; try simp [YN] at g5
     all_goals
      simp [i1, ZA, G]
      repeat with_reducible refine sdg ?_
      refine cGg (fun gg => (Ye (nth a0 v1_0).Error 0 100)) ?_
      refine gJf G (fun G => ?_) (fun G => ?_)
      ·try (simp at G; done)
       all_goals
        have i6 := ik (v1_0 - 1) a0
        have w6 : IntKind.i64.wrap ((v1_0 : Int) - 1) = (v1_0 : Int) - 1 := Yd (by omega) (by omega)
        simp [i6, ZA, w6, QW, G]
        repeat with_reducible refine sdg ?_
        refine gK (fun _ => ?_)
        simp [i1, ZA, G]
        repeat with_reducible refine sdg ?_
        refine cKo e1 (fun k8 h6 e1 => ?_) (fun k8 h6 e1 => ?_)
        ·try (simp [G] at h6; done)
         all_goals
          have q6 := h6; try simp [YN] at q6
          have f := ms f e1
          simp [G]
          repeat with_reducible refine sdg ?_
          exact rtg [.tmp 2] f
        ·try (simp [G] at h6; done)
         all_goals
          have q6 := h6; try simp [YN] at q6
          simp [G]
          repeat with_reducible refine sdg ?_
          exact ny1 (an w1 (an w6 G)) e1
      ·try (simp at G; done)
       all_goals
        refine sGg ?_
        refine cKo e1 (fun k9 h7 e1 => ?_) (fun k9 h7 e1 => ?_)
        ·try (simp [G] at h7; done)
         all_goals
          have q7 := h7; try simp [YN] at q7
          have f := ms f e1
          simp [G]
          repeat with_reducible refine sdg ?_
          exact rtg [.tmp 2] f
        ·try (simp [G] at h7; done)
         all_goals
          have q7 := h7; try simp [YN] at q7
          simp [G]
          repeat with_reducible refine sdg ?_
          exact ny1 (an w1 G) e1
   ·try (simp at G; done)
    all_goals
     refine sGo ?_
     simp [G]
     repeat with_reducible refine sdg ?_
     refine gJf G (fun G => ?_) (fun G => ?_)
     ·try (simp at G; done)
      all_goals
       have i8 := ik (v1_0 - 1) a0
       have w8 : IntKind.i64.wrap ((v1_0 : Int) - 1) = (v1_0 : Int) - 1 := Yd (by omega) (by omega)
       simp [i8, ZA, w8, QW, G]
       repeat with_reducible refine sdg ?_
       refine gK (fun _ => ?_)
       simp [i1, ZA, G]
       repeat with_reducible refine sdg ?_
       refine cKo e1 (fun k10 h8 e1 => ?_) (fun k10 h8 e1 => ?_)
       ·try (simp [G] at h8; done)
        all_goals
         have q8 := h8; try simp [YN] at q8
         have f := ms f e1
         simp [G]
         repeat with_reducible refine sdg ?_
         exact rtg [.tmp 2] f
       ·try (simp [G] at h8; done)
        all_goals
         have q8 := h8; try simp [YN] at q8
         simp [G]
         repeat with_reducible refine sdg ?_
         exact ny1 (an w1 (an w8 G)) e1
     ·try (simp at G; done)
      all_goals
       refine sGg ?_
       refine cKo e1 (fun k11 h9 e1 => ?_) (fun k11 h9 e1 => ?_)
       ·try (simp [G] at h9; done)
        all_goals
         have q9 := h9; try simp [YN] at q9
         have f := ms f e1
         simp [G]
         repeat with_reducible refine sdg ?_
         exact rtg [.tmp 2] f
       ·try (simp [G] at h9; done)
        all_goals
         have q9 := h9; try simp [YN] at q9
         simp [G]
         repeat with_reducible refine sdg ?_
         exact ny1 (an w1 G) e1
 have f := ms f e1
 exact rt [.tmp 2] f
theorem ZMu (a0 : Zl) : Sa 222 [a0.row] [rB (ZB1 a0)] := by
 have f := me (ZB1.eq_1 a0)
 refine so Tryz.func222 Tryz.ntmps222 ?_
 refine cRs (Ye a0.Id 0 99) ?_
 refine cGs (fun gg => (yR a0.ZDY)) ?_
 refine cGs (fun gg => (Ye a0.Ends 1 10001)) ?_
 refine cGs (fun gg => (Ye a0.kj 1 10001)) ?_
 exact rt [.tmp 2] f
theorem ZKD (a0 : List Zl) : Sa 155 [rL 4 Zl.row a0] [rB (kV a0)] := by
 have f := me (kV.eq_1 a0)
 refine so Tryz.func155 Tryz.ntmps155 ?_
 refine lp1 (xQ.eq_2 a0) (fun v1_0 => Yc 37 [eL 0 4 a0 Zl.row, eI 3 (↑v1_0 : Int)]) (fun n1 v1_0 => a0.length < n1 + v1_0 ∧ v1_0 ≤ a0.length) (a0.length + 1) 0 (fun p1 v1_0 e1 j1 => ?_)
 refine cF e1 (fun k2 h1 e1 => ?_) (fun k2 h1 e1 => ?_)
 ·have i1 := ix h1
  have m2 := ml a0 (k2 0 _ rfl)
  have w1 := wr v1_0
  refine dIo mixed ?_
  simp [i1, ZA]
  repeat with_reducible refine sd ?_
  refine cRs (ZMu (nth a0 v1_0)) ?_
  refine gIf (fun G => ?_) (fun G => ?_)
  ·have i2 := ik (v1_0 - 1) a0
   have w2 : IntKind.i64.wrap ((v1_0 : Int) - 1) = (v1_0 : Int) - 1 := Yd (by omega) (by omega)
   simp [i2, ZA, w2, QW, G]
   repeat with_reducible refine sdg ?_
   refine gK (fun _ => ?_)
   simp [i1, ZA, G]
   repeat with_reducible refine sdg ?_
   refine cK e1 (fun k4 h2 e1 => ?_) (fun k4 h2 e1 => ?_)
   ·try (simp [G] at h2; done)
    all_goals
     have f := ms f e1
     exact rtg [.tmp 2] f
   ·try (simp [G] at h2; done)
    all_goals
     exact ny1 (an w1 (an w2 G)) e1
  ·refine sGg ?_
   refine cK e1 (fun k5 h3 e1 => ?_) (fun k5 h3 e1 => ?_)
   ·try (simp [G] at h3; done)
    all_goals
     have f := ms f e1
     exact rtg [.tmp 2] f
   ·try (simp [G] at h3; done)
    all_goals
     exact ny1 (an w1 G) e1
 have f := ms f e1
 exact rt [.tmp 2] f
theorem ZPZ (a0 : ZF) : Sa 124 [a0.row] [rB (ZBZ a0)] := by
 have f := me (ZBZ.eq_1 a0)
 refine so Tryz.func124 Tryz.ntmps124 ?_
 refine cRs (ZOZ a0.Y3) ?_
 refine cGs (fun gg => (ZGI a0.ZT)) ?_
 refine cGs (fun gg => (ZKD a0.Methods)) ?_
 refine cGs (fun gg => (Ye a0.Q6 0 6)) ?_
 refine cGs (fun gg => (yR a0.Now)) ?_
 exact rt [.tmp 2] f
theorem qL (a0 : Int) : Sa 176 [rI a0] [(jX a0).row] := by
 have f := me (jX.eq_1 a0)
 refine so Tryz.func176 Tryz.ntmps176 ?_
 exact rt [.cell 2 79] f
theorem ZDr (a0 : ZY) : Sa 235 [a0.row] [rB (zH a0)] := by
 have f := me (zH.eq_1 a0)
 refine so Tryz.func235 Tryz.ntmps235 ?_
 refine cRs (Ye a0.Key 1 99) ?_
 refine cGs (fun gg => (Ye a0.YO 1 999)) ?_
 refine cGs (fun gg => (Ye a0.Method 0 99)) ?_
 refine cGs (fun gg => (Ye a0.Org 0 99)) ?_
 refine cGs (fun gg => (Ye a0.ZAx 1 3)) ?_
 refine cGs (fun gg => (Ye a0.XC 0 1000000000000)) ?_
 refine cGs (fun gg => (Ye a0.ZA1 0 1000000000000)) ?_
 refine cGs (fun gg => (Ye a0.xD 0 1000000000000)) ?_
 exact rt [.tmp 2] f
theorem ZFG (a0 : Int) : Sa 236 [rI a0] [(ZFV a0).row] := by
 have f := me (ZFV.eq_1 a0)
 refine so Tryz.func236 Tryz.ntmps236 ?_
 exact rt [.cell 2 79] f
theorem K0 (a0 : List YC) (a1 : Int) : Sa 174 [rL 5 YC.row a0, rI a1] [rI (Y0 a0 a1)] := by
 have f := me (Y0.eq_1 a0 a1)
 refine so Tryz.func174 Tryz.ntmps174 ?_
 refine lp1 (jQ.eq_2 a0 a1) (fun v1_0 => Yc 20 [eL 0 5 a0 YC.row, eI 1 a1, eI 5 (↑v1_0 : Int)]) (fun n1 v1_0 => a0.length < n1 + v1_0 ∧ v1_0 ≤ a0.length) (a0.length + 1) 0 (fun p1 v1_0 e1 j1 => ?_)
 refine cFf e1 (fun k2 h1 e1 => ?_) (fun k2 h1 e1 => ?_)
 ·have i1 := ix h1
  have m2 := ml a0 (k2 0 _ rfl)
  have w1 := wr v1_0
  simp [i1, ZA]
  repeat with_reducible refine sd ?_
  refine cF e1 (fun k3 h2 e1 => ?_) (fun k3 h2 e1 => ?_)
  ·have f := ms f e1
   exact rt [.tmp 4] f
  exact ny1 w1 e1
 have f := ms f e1
 exact rt [.tmp 4] f
theorem ZBl (a0 : ZY) : Sd 240 [a0.row] [rL 1 iR (Xv a0)] := by
 have f := me (Xv.eq_1 a0)
 refine soD Tryz.func240 Tryz.ntmps240 ?_
 exact rtD [.tmp 2] f
theorem ZL0 (a0 : Int) (a1 : List Int) (u0 : Sm 2330624 a1) : Sa 329 [rI a0, rL 1 iR a1] [rI (ZAO a0 a1)] := by
 have f := me (ZAO.eq_1 a0 a1)
 have c1 := sl 2330624 a1 u0
 refine so Tryz.func329 Tryz.ntmps329 ?_
 refine cRs (ZNr ((([a0] : List Int) ++ a1) ++ ([a0] : List Int))) ?_
 exact rt [.tmp 4] f
theorem ZGT (a0 : YC) (a1 : List Int) (u0 : Sm 2326528 a1) : Sa 285 [a0.row, rL 1 iR a1] [rI (ke a0 a1)] := by
 have f := me (ke.eq_1 a0 a1)
 refine so Tryz.func285 Tryz.ntmps285 ?_
 refine ZSP [2, 3, 4, 5, 6, 0, 1, 7, 8] mixed (by kernel_rfl) (by kernel_rfl) (by kernel_rfl) ?_
 have c1 := sl 2326528 a1 u0
 simp
 repeat with_reducible refine sd ?_
 refine cRs (ZL0 a0.kp (([a0.Method] : List Int) ++ a1) (by simp (maxDischargeDepth := 12) [KD, Xr, ZX (m := 2330624) (by decide) u0]; try omega)) ?_
 exact rt [.tmp 4] f
theorem jq (a0 : List YC) (a1 : Int) (a2 : List Int) (a3 : Int) (u0 : Sm 2322432 a0) (u1 : Sm 2322432 a2) : Sa 224 [rL 5 YC.row a0, rI a1, rL 1 iR a2, rI a3] [rB (yT a0 a1 a2 a3)] := by
 have f := me (yT.eq_1 a0 a1 a2 a3)
 refine so Tryz.func224 Tryz.ntmps224 ?_
 refine cRs (K0 a0 a1) ?_
 refine gIf (fun G => ?_) (fun G => ?_)
 ·have i1 : (Y0 a0 a1).toNat < a0.length := by have := J2 a0 a1; exact il
  simp [i1, ZA, G]
  repeat with_reducible refine sdg ?_
  refine cGg (fun gg => (ZGT (nth a0 (Y0 a0 a1).toNat) a2 (sg u1))) ?_
  exact rtg [.tmp 8] f
 ·refine sGo ?_
  simp [G]
  repeat with_reducible refine sdg ?_
  exact rtg [.tmp 8] f
theorem ZGD (a0 : List YC) (a1 : ZY) (u0 : Sm 2318336 a0) : Sa 237 [rL 5 YC.row a0, a1.row] [rB (yB a0 a1)] := by
 have f := me (yB.eq_1 a0 a1)
 refine so Tryz.func237 Tryz.ntmps237 ?_
 refine dIs mixed ?_
 refine cRs (ZDr a1) ?_
 refine cGs (fun gg => Yb.rd (ZBl a1)) ?_
 refine cGs (fun gg => (jq a0 a1.Key (Xv a1) a1.Mark (sg u0) (by simp (maxDischargeDepth := 12) [ZB8, ZX (m := 2322432) (by decide) u0]; try omega))) ?_
 exact rt [.tmp 4] f
theorem ZPV (a0 : ZF) (a1 : Int) (a2 : ZY) (u0 : Sm 2314240 a0) : Sa 171 [a0.row, rI a1, a2.row] [(ki a0 a1 a2).row] := by
 have f := me (ki.eq_1 a0 a1 a2)
 refine so Tryz.func171 Tryz.ntmps171 ?_
 refine cRs (ZPZ a0) ?_
 refine cF f (fun k1 h1 f => ?_) (fun k1 h1 f => ?_)
 ·refine cRs (qL 1) ?_
  exact rt [.cell 6 79] f
 refine cRs (ZDr a2) ?_
 refine cF f (fun k2 h2 f => ?_) (fun k2 h2 f => ?_)
 ·refine cRs (ZFG 1) ?_
  exact rt [.cell 6 79] f
 refine cF f (fun k3 h3 f => ?_) (fun k3 h3 f => ?_)
 ·refine cRs (qL 2) ?_
  exact rt [.cell 6 79] f
 refine cF f (fun k4 h4 f => ?_) (fun k4 h4 f => ?_)
 ·refine cRs (ZFG 2) ?_
  exact rt [.cell 6 79] f
 refine cRs (K0 a0.Y3 a2.Key) ?_
 refine cF f (fun k5 h5 f => ?_) (fun k5 h5 f => ?_)
 ·refine cRs (qL 3) ?_
  exact rt [.cell 6 79] f
 refine cRs (ZGD a0.Y3 a2 (sg (ZF.Ym u0))) ?_
 refine cF f (fun k6 h6 f => ?_) (fun k6 h6 f => ?_)
 ·refine cRs (ZFG 4) ?_
  exact rt [.cell 6 79] f
 exact rt [.cell 6 79] f
theorem ZMS (a0 : ZY) : Sd 173 [a0.row] [(XW a0).row] := by
 have f := me (XW.eq_1 a0)
 refine soD Tryz.func173 Tryz.ntmps173 ?_
 refine dIs mixed ?_
 refine cDs [false] (ZBl a0) ?_
 exact rtD [.cell 2 194] f
theorem ZLL (a0 : List Int) (a1 : List Int) : Sa 330 [rL 1 iR a0, rL 1 iR a1] [rB (ZCo a0 a1)] := by
 have f := me (ZCo.eq_1 a0 a1)
 refine so Tryz.func330 Tryz.ntmps330 ?_
 refine cF f (fun k1 h1 f => ?_) (fun k1 h1 f => ?_)
 ·exact rt [.tmp 4] f
 refine lp1 (ZAA.eq_2 a0 a1) (fun v1_0 => Yc 26 [eL 0 1 a0 iR, eL 1 1 a1 iR, eI 5 (↑v1_0 : Int)]) (fun n1 v1_0 => a0.length < n1 + v1_0 ∧ v1_0 ≤ a0.length) (a0.length + 1) 0 (fun p1 v1_0 e1 j1 => ?_)
 refine cF e1 (fun k3 h2 e1 => ?_) (fun k3 h2 e1 => ?_)
 ·have i1 := ix h2
  have m2 := ml a0 (k3 0 _ rfl)
  have w1 := wr v1_0
  refine dIo mixed ?_
  have i2 := ik v1_0 a1
  simp [i1, ZA, i2]
  repeat with_reducible refine sd ?_
  refine cF e1 (fun k5 h3 e1 => ?_) (fun k5 h3 e1 => ?_)
  ·have f := ms f e1
   exact rt [.tmp 4] f
  exact ny1 w1 e1
 have f := ms f e1
 exact rt [.tmp 4] f
theorem qP (a0 : ZB) (a1 : ZB) : Sa 287 [a0.row, a1.row] [rB (zC a0 a1)] := by
 have f := me (zC.eq_1 a0 a1)
 refine so Tryz.func287 Tryz.ntmps287 ?_
 refine cGs (fun gg => (ZLL a0.Zb a1.Zb)) ?_
 exact rt [.tmp 4] f
theorem ZMG (a0 : ZN) (a1 : ZB) : Sa 291 [a0.row, a1.row] [rI (xx a0 a1)] := by
 have f := me (xx.eq_1 a0 a1)
 refine so Tryz.func291 Tryz.ntmps291 ?_
 refine lp1 (qe.eq_2 a0 a1) (fun v1_0 => Yc 21 [eX 2 (a0.row.map .d), eX 3 (a1.row.map .d), eI 5 (↑v1_0 : Int)]) (fun n1 v1_0 => a0.ZZ.length < n1 + v1_0 ∧ v1_0 ≤ a0.ZZ.length) (a0.ZZ.length + 1) 0 (fun p1 v1_0 e1 j1 => ?_)
 refine cF e1 (fun k2 h1 e1 => ?_) (fun k2 h1 e1 => ?_)
 ·have i1 := ix h1
  have m2 := ml a0.ZZ (k2 8 _ rfl)
  have w1 := wr v1_0
  refine dIo mixed ?_
  simp [i1, ZA]
  repeat with_reducible refine sd ?_
  refine cRs (qP (nth a0.ZZ v1_0) a1) ?_
  refine cF e1 (fun k4 h2 e1 => ?_) (fun k4 h2 e1 => ?_)
  ·have f := ms f e1
   exact rt [.tmp 4] f
  exact ny1 w1 e1
 have f := ms f e1
 exact rt [.tmp 4] f
theorem jF (a0 : List ZE) (a1 : Int) : Sa 123 [rL 3 ZE.row a0, rI a1] [rI (YM a0 a1)] := by
 have f := me (YM.eq_1 a0 a1)
 refine so Tryz.func123 Tryz.ntmps123 ?_
 refine lp1 (JX.eq_2 a0 a1) (fun v1_0 => Yc 20 [eL 0 3 a0 ZE.row, eI 1 a1, eI 5 (↑v1_0 : Int)]) (fun n1 v1_0 => a0.length < n1 + v1_0 ∧ v1_0 ≤ a0.length) (a0.length + 1) 0 (fun p1 v1_0 e1 j1 => ?_)
 refine cFf e1 (fun k2 h1 e1 => ?_) (fun k2 h1 e1 => ?_)
 ·have i1 := ix h1
  have m2 := ml a0 (k2 0 _ rfl)
  have w1 := wr v1_0
  simp [i1, ZA]
  repeat with_reducible refine sd ?_
  refine cF e1 (fun k3 h2 e1 => ?_) (fun k3 h2 e1 => ?_)
  ·have f := ms f e1
   exact rt [.tmp 4] f
  exact ny1 w1 e1
 have f := ms f e1
 exact rt [.tmp 4] f
theorem Xi (a0 : Int) (a1 : Int) : Sa 247 [rI a0, rI a1] [rI (xF a0 a1)] := by
 have f := me (xF.eq_1 a0 a1)
 refine so Tryz.func247 Tryz.ntmps247 ?_
 refine cF f (fun k1 h1 f => ?_) (fun k1 h1 f => ?_)
 ·exact rt [.tmp 4] f
 exact rt [.tmp 4] f
theorem ZDU (a0 : Int) (a1 : Int) : Sa 238 [rI a0, rI a1] [rI (ZBz a0 a1)] := by
 have f := me (ZBz.eq_1 a0 a1)
 refine so Tryz.func238 Tryz.ntmps238 ?_
 refine cF f (fun k1 h1 f => ?_) (fun k1 h1 f => ?_)
 ·exact rt [.tmp 4] f
 exact rt [.tmp 4] f
theorem ql (a0 : Int) (a1 : Int) : Sa 306 [rI a0, rI a1] [(Xo a0 a1).1.row, rB (Xo a0 a1).2] := by
 have f := me (Xo.eq_1 a0 a1)
 refine so Tryz.func306 Tryz.ntmps306 ?_
 refine cRs (Xi 0 a0) ?_
 refine cRs (ZDU 10000 a1) ?_
 refine cF f (fun k1 h1 f => ?_) (fun k1 h1 f => ?_)
 ·exact rt [.cell 4 77, .tmp 5] f
 exact rt [.cell 4 77, .tmp 5] f
theorem ZFW (a0 : List ZE) (a1 : Za) : Sa 296 [rL 3 ZE.row a0, a1.row] [(Kw a0 a1).1.row, rB (Kw a0 a1).2] := by
 have f := me (Kw.eq_1 a0 a1)
 refine so Tryz.func296 Tryz.ntmps296 ?_
 refine cRs (jF a0 a1.Authority) ?_
 refine gIf (fun G => ?_) (fun G => ?_)
 ·have i1 : (YM a0 a1.Authority).toNat < a0.length := by have := yX a0 a1.Authority; exact il
  simp [i1, ZA, G]
  repeat with_reducible refine sdg ?_
  refine cGg (fun gg => (yR a1.Time)) ?_
  refine cK f (fun k1 h1 f => ?_) (fun k1 h1 f => ?_)
  ·try (simp [G] at h1; done)
   all_goals
    exact rtg [.cell 4 77, .tmp 5] f
  ·try (simp [G] at h1; done)
   all_goals
    refine dIo mixed ?_
    simp [i1, ZA, G]
    repeat with_reducible refine sdg ?_
    refine cRg (ql (W (a1.Time - (nth a0 (YM a0 a1.Authority).toNat).Error)) (W (a1.Time + (nth a0 (YM a0 a1.Authority).toNat).Error))) ?_
    exact rtg [.cell 4 77, .tmp 5] f
 ·refine cGg (fun gg => (yR a1.Time)) ?_
  refine cK f (fun k3 h2 f => ?_) (fun k3 h2 f => ?_)
  ·try (simp [G] at h2; done)
   all_goals
    exact rtg [.cell 4 77, .tmp 5] f
  ·try (simp [G] at h2; done)
   all_goals
    refine dIo mixed ?_
    have i3 : (YM a0 a1.Authority).toNat < a0.length := by have := yX a0 a1.Authority; exact il
    simp [i3, ZA, G]
    repeat with_reducible refine sdg ?_
    refine cRg (ql (W (a1.Time - (nth a0 (YM a0 a1.Authority).toNat).Error)) (W (a1.Time + (nth a0 (YM a0 a1.Authority).toNat).Error))) ?_
    exact rtg [.cell 4 77, .tmp 5] f
theorem Xc (a0 : ZD) : Sa 252 [a0.row] [rB (Js a0)] := by
 have f := me (Js.eq_1 a0)
 refine so Tryz.func252 Tryz.ntmps252 ?_
 refine cRs (yR a0.YQ) ?_
 refine cGs (fun gg => (yR a0.To)) ?_
 exact rt [.tmp 2] f
theorem ZOX (a0 : List ZD) (a1 : Int) : Sa 351 [rL 2 ZD.row a0, rI a1] [rI (ZDe a0 a1)] := by
 have f := me (ZDe.eq_1 a0 a1)
 refine so Tryz.func351 Tryz.ntmps351 ?_
 refine lp2 (jf.eq_2 a0 a1) (fun v1_0 v1_1 => Yc 39 [eL 0 2 a0 ZD.row, eI 1 a1, eI 5 v1_0, eI 6 (↑v1_1 : Int)]) (fun n1 v1_0 v1_1 => a0.length < n1 + v1_1 ∧ v1_1 ≤ a0.length) (a0.length + 1) 0 0 (fun p1 v1_0 v1_1 e1 j1 => ?_)
 refine cFf e1 (fun k2 h1 e1 => ?_) (fun k2 h1 e1 => ?_)
 ·have i1 := ix h1
  have m2 := ml a0 (k2 0 _ rfl)
  have w1 := wr v1_1
  simp [i1, ZA]
  repeat with_reducible refine sd ?_
  refine cRs (Xc (nth a0 v1_1)) ?_
  refine gIf (fun G => ?_) (fun G => ?_)
  ·simp [i1, ZA, G]
   repeat with_reducible refine sdg ?_
   refine gJf G (fun G => ?_) (fun G => ?_)
   ·try (simp at G; done)
    all_goals
     simp [i1, ZA, G]
     repeat with_reducible refine sdg ?_
     refine cK e1 (fun k3 h2 e1 => ?_) (fun k3 h2 e1 => ?_)
     ·try (simp [G] at h2; done)
      all_goals
       exact ny2 (an w1 G) e1
     ·try (simp [G] at h2; done)
      all_goals
       exact ny2 (an w1 G) e1
   ·try (simp at G; done)
    all_goals
     refine cK e1 (fun k4 h3 e1 => ?_) (fun k4 h3 e1 => ?_)
     ·try (simp [G] at h3; done)
      all_goals
       exact ny2 (an w1 G) e1
     ·try (simp [G] at h3; done)
      all_goals
       exact ny2 (an w1 G) e1
  ·refine gJf G (fun G => ?_) (fun G => ?_)
   ·try (simp at G; done)
    all_goals
     simp [i1, ZA, G]
     repeat with_reducible refine sdg ?_
     refine cK e1 (fun k5 h4 e1 => ?_) (fun k5 h4 e1 => ?_)
     ·try (simp [G] at h4; done)
      all_goals
       exact ny2 (an w1 G) e1
     ·try (simp [G] at h4; done)
      all_goals
       exact ny2 (an w1 G) e1
   ·try (simp at G; done)
    all_goals
     refine cK e1 (fun k6 h5 e1 => ?_) (fun k6 h5 e1 => ?_)
     ·try (simp [G] at h5; done)
      all_goals
       exact ny2 (an w1 G) e1
     ·try (simp [G] at h5; done)
      all_goals
       exact ny2 (an w1 G) e1
 have f := ms f e1
 exact rt [.tmp 4] f
theorem X5 (a0 : List ZD) (a1 : Int) (a2 : Int) : Sa 336 [rL 2 ZD.row a0, rI a1, rI a2] [rB (zG a0 a1 a2)] := by
 have f := me (zG.eq_1 a0 a1 a2)
 refine so Tryz.func336 Tryz.ntmps336 ?_
 refine cRs (Ye a2 0 (W ((↑a0.length : Int) - 1))) ?_
 refine cGs (fun gg => (ZOX a0 a1)) ?_
 exact rt [.tmp 6] f
theorem ZEv (a0 : List ZD) (a1 : Int) (u0 : Sm 2322432 a0) : Sa 300 [rL 2 ZD.row a0, rI a1] [(J0 a0 a1).1.row, rB (J0 a0 a1).2] := by
 have f := me (J0.eq_1 a0 a1)
 refine so Tryz.func300 Tryz.ntmps300 ?_
 refine cRs (Ye a1 0 (W ((↑a0.length : Int) - 1))) ?_
 have c1 := sl 2322432 a0 u0
 have w1 : IntKind.i64.wrap ((a0.length : Int) - 1) = (a0.length : Int) - 1 := Yd (by omega) (by omega)
 refine cFo f (fun k1 h1 f => ?_) (fun k1 h1 f => ?_)
 ·have q1 := h1; try simp [YN, w1] at q1
  simp
  exact rt [.cell 4 77, .tmp 5] f
 have q1 := h1; try simp [YN, w1] at q1
 simp
 refine lp3 (Xk.eq_2 a0 a1) (fun v1_0 v1_1 v1_2 => Yc 83 [eL 0 2 a0 ZD.row, eI 1 a1, (4, .one (.bptr 4 0), [.box [.d (.int .i64 0), .d (.int .i64 0)]]), eI 6 v1_0, eI 7 v1_1, eI 8 (↑v1_2 : Int)]) (fun n1 v1_0 v1_1 v1_2 => a0.length < n1 + v1_2 ∧ v1_2 ≤ a0.length) (a0.length + 1) (-1) (-1) 0 (fun p1 v1_0 v1_1 v1_2 e1 j1 => ?_)
 refine cFf e1 (fun k3 h2 e1 => ?_) (fun k3 h2 e1 => ?_)
 ·have i1 := ix h2
  have m2 := ml a0 (k3 0 _ rfl)
  have w2 := wr v1_2
  simp [i1, ZA]
  repeat with_reducible refine sd ?_
  refine cRs (Xc (nth a0 v1_2)) ?_
  refine gIf (fun G => ?_) (fun G => ?_)
  ·simp [i1, ZA, G]
   repeat with_reducible refine sdg ?_
   refine cGg (fun gg => (X5 a0 (nth a0 v1_2).YQ a1)) ?_
   refine gJf G (fun G => ?_) (fun G => ?_)
   ·try (simp at G; done)
    all_goals
     simp [i1, ZA, G]
     repeat with_reducible refine sdg ?_
     refine cKo e1 (fun k4 h3 e1 => ?_) (fun k4 h3 e1 => ?_)
     ·try (simp [G] at h3; done)
      all_goals
       simp [i1, ZA, G]
       repeat with_reducible refine sdg ?_
       refine cRg (Xc (nth a0 v1_2)) ?_
       refine gJf G (fun G => ?_) (fun G => ?_)
       ·try (simp at G; done)
        all_goals
         simp [i1, ZA, G]
         repeat with_reducible refine sdg ?_
         refine cGg (fun gg => (X5 a0 (nth a0 v1_2).To a1)) ?_
         refine cKf e1 (fun k5 h4 e1 => ?_) (fun k5 h4 e1 => ?_)
         ·try (simp [G] at h4; done)
          all_goals
           simp [i1, ZA, G]
           repeat with_reducible refine sdg ?_
           refine cRg (Xi v1_1 (nth a0 v1_2).To) ?_
           exact ny3 (an w1 (an w2 G)) e1
         ·try (simp [G] at h4; done)
          all_goals
           exact ny3 (an w1 (an w2 G)) e1
       ·try (simp at G; done)
        all_goals
         refine sGo ?_
         simp [G]
         repeat with_reducible refine sdg ?_
         refine cKf e1 (fun k6 h5 e1 => ?_) (fun k6 h5 e1 => ?_)
         ·try (simp [G] at h5; done)
          all_goals
           simp [i1, ZA, G]
           repeat with_reducible refine sdg ?_
           refine cRg (Xi v1_1 (nth a0 v1_2).To) ?_
           exact ny3 (an w1 (an w2 G)) e1
         ·try (simp [G] at h5; done)
          all_goals
           exact ny3 (an w1 (an w2 G)) e1
     ·try (simp [G] at h3; done)
      all_goals
       simp [i1, ZA, G]
       repeat with_reducible refine sdg ?_
       refine cRg (Xc (nth a0 v1_2)) ?_
       refine gJf G (fun G => ?_) (fun G => ?_)
       ·try (simp at G; done)
        all_goals
         simp [i1, ZA, G]
         repeat with_reducible refine sdg ?_
         refine cGg (fun gg => (X5 a0 (nth a0 v1_2).To a1)) ?_
         refine cKf e1 (fun k7 h6 e1 => ?_) (fun k7 h6 e1 => ?_)
         ·try (simp [G] at h6; done)
          all_goals
           simp [i1, ZA, G]
           repeat with_reducible refine sdg ?_
           refine cRg (Xi v1_1 (nth a0 v1_2).To) ?_
           exact ny3 (an w1 (an w2 G)) e1
         ·try (simp [G] at h6; done)
          all_goals
           exact ny3 (an w1 (an w2 G)) e1
       ·try (simp at G; done)
        all_goals
         refine sGo ?_
         simp [G]
         repeat with_reducible refine sdg ?_
         refine cKf e1 (fun k8 h7 e1 => ?_) (fun k8 h7 e1 => ?_)
         ·try (simp [G] at h7; done)
          all_goals
           simp [i1, ZA, G]
           repeat with_reducible refine sdg ?_
           refine cRg (Xi v1_1 (nth a0 v1_2).To) ?_
           exact ny3 (an w1 (an w2 G)) e1
         ·try (simp [G] at h7; done)
          all_goals
           exact ny3 (an w1 (an w2 G)) e1
   ·try (simp at G; done)
    all_goals
     refine cKo e1 (fun k9 h8 e1 => ?_) (fun k9 h8 e1 => ?_)
     ·try (simp [G] at h8; done)
      all_goals
       simp [i1, ZA, G]
       repeat with_reducible refine sdg ?_
       refine cRg (Xc (nth a0 v1_2)) ?_
       refine gJf G (fun G => ?_) (fun G => ?_)
       ·try (simp at G; done)
        all_goals
         simp [i1, ZA, G]
         repeat with_reducible refine sdg ?_
         refine cGg (fun gg => (X5 a0 (nth a0 v1_2).To a1)) ?_
         refine cKf e1 (fun k10 h9 e1 => ?_) (fun k10 h9 e1 => ?_)
         ·try (simp [G] at h9; done)
          all_goals
           simp [i1, ZA, G]
           repeat with_reducible refine sdg ?_
           refine cRg (Xi v1_1 (nth a0 v1_2).To) ?_
           exact ny3 (an w1 (an w2 G)) e1
         ·try (simp [G] at h9; done)
          all_goals
           exact ny3 (an w1 (an w2 G)) e1
       ·try (simp at G; done)
        all_goals
         refine sGo ?_
         simp [G]
         repeat with_reducible refine sdg ?_
         refine cKf e1 (fun k11 h10 e1 => ?_) (fun k11 h10 e1 => ?_)
         ·try (simp [G] at h10; done)
          all_goals
           simp [i1, ZA, G]
           repeat with_reducible refine sdg ?_
           refine cRg (Xi v1_1 (nth a0 v1_2).To) ?_
           exact ny3 (an w1 (an w2 G)) e1
         ·try (simp [G] at h10; done)
          all_goals
           exact ny3 (an w1 (an w2 G)) e1
     ·try (simp [G] at h8; done)
      all_goals
       simp [i1, ZA, G]
       repeat with_reducible refine sdg ?_
       refine cRg (Xc (nth a0 v1_2)) ?_
       refine gJf G (fun G => ?_) (fun G => ?_)
       ·try (simp at G; done)
        all_goals
         simp [i1, ZA, G]
         repeat with_reducible refine sdg ?_
         refine cGg (fun gg => (X5 a0 (nth a0 v1_2).To a1)) ?_
         refine cKf e1 (fun k12 h11 e1 => ?_) (fun k12 h11 e1 => ?_)
         ·try (simp [G] at h11; done)
          all_goals
           simp [i1, ZA, G]
           repeat with_reducible refine sdg ?_
           refine cRg (Xi v1_1 (nth a0 v1_2).To) ?_
           exact ny3 (an w1 (an w2 G)) e1
         ·try (simp [G] at h11; done)
          all_goals
           exact ny3 (an w1 (an w2 G)) e1
       ·try (simp at G; done)
        all_goals
         refine sGo ?_
         simp [G]
         repeat with_reducible refine sdg ?_
         refine cKf e1 (fun k13 h12 e1 => ?_) (fun k13 h12 e1 => ?_)
         ·try (simp [G] at h12; done)
          all_goals
           simp [i1, ZA, G]
           repeat with_reducible refine sdg ?_
           refine cRg (Xi v1_1 (nth a0 v1_2).To) ?_
           exact ny3 (an w1 (an w2 G)) e1
         ·try (simp [G] at h12; done)
          all_goals
           exact ny3 (an w1 (an w2 G)) e1
  ·refine sGo ?_
   simp [G]
   repeat with_reducible refine sdg ?_
   refine gJf G (fun G => ?_) (fun G => ?_)
   ·try (simp at G; done)
    all_goals
     simp [i1, ZA, G]
     repeat with_reducible refine sdg ?_
     refine cKo e1 (fun k14 h13 e1 => ?_) (fun k14 h13 e1 => ?_)
     ·try (simp [G] at h13; done)
      all_goals
       simp [i1, ZA, G]
       repeat with_reducible refine sdg ?_
       refine cRg (Xc (nth a0 v1_2)) ?_
       refine gJf G (fun G => ?_) (fun G => ?_)
       ·try (simp at G; done)
        all_goals
         simp [i1, ZA, G]
         repeat with_reducible refine sdg ?_
         refine cGg (fun gg => (X5 a0 (nth a0 v1_2).To a1)) ?_
         refine cKf e1 (fun k15 h14 e1 => ?_) (fun k15 h14 e1 => ?_)
         ·try (simp [G] at h14; done)
          all_goals
           simp [i1, ZA, G]
           repeat with_reducible refine sdg ?_
           refine cRg (Xi v1_1 (nth a0 v1_2).To) ?_
           exact ny3 (an w1 (an w2 G)) e1
         ·try (simp [G] at h14; done)
          all_goals
           exact ny3 (an w1 (an w2 G)) e1
       ·try (simp at G; done)
        all_goals
         refine sGo ?_
         simp [G]
         repeat with_reducible refine sdg ?_
         refine cKf e1 (fun k16 h15 e1 => ?_) (fun k16 h15 e1 => ?_)
         ·try (simp [G] at h15; done)
          all_goals
           simp [i1, ZA, G]
           repeat with_reducible refine sdg ?_
           refine cRg (Xi v1_1 (nth a0 v1_2).To) ?_
           exact ny3 (an w1 (an w2 G)) e1
         ·try (simp [G] at h15; done)
          all_goals
           exact ny3 (an w1 (an w2 G)) e1
     ·try (simp [G] at h13; done)
      all_goals
       simp [i1, ZA, G]
       repeat with_reducible refine sdg ?_
       refine cRg (Xc (nth a0 v1_2)) ?_
       refine gJf G (fun G => ?_) (fun G => ?_)
       ·try (simp at G; done)
        all_goals
         simp [i1, ZA, G]
         repeat with_reducible refine sdg ?_
         refine cGg (fun gg => (X5 a0 (nth a0 v1_2).To a1)) ?_
         refine cKf e1 (fun k17 h16 e1 => ?_) (fun k17 h16 e1 => ?_)
         ·try (simp [G] at h16; done)
          all_goals
           simp [i1, ZA, G]
           repeat with_reducible refine sdg ?_
           refine cRg (Xi v1_1 (nth a0 v1_2).To) ?_
           exact ny3 (an w1 (an w2 G)) e1
         ·try (simp [G] at h16; done)
          all_goals
           exact ny3 (an w1 (an w2 G)) e1
       ·try (simp at G; done)
        all_goals
         refine sGo ?_
         simp [G]
         repeat with_reducible refine sdg ?_
         refine cKf e1 (fun k18 h17 e1 => ?_) (fun k18 h17 e1 => ?_)
         ·try (simp [G] at h17; done)
          all_goals
           simp [i1, ZA, G]
           repeat with_reducible refine sdg ?_
           refine cRg (Xi v1_1 (nth a0 v1_2).To) ?_
           exact ny3 (an w1 (an w2 G)) e1
         ·try (simp [G] at h17; done)
          all_goals
           exact ny3 (an w1 (an w2 G)) e1
   ·try (simp at G; done)
    all_goals
     refine cKo e1 (fun k19 h18 e1 => ?_) (fun k19 h18 e1 => ?_)
     ·try (simp [G] at h18; done)
      all_goals
       simp [i1, ZA, G]
       repeat with_reducible refine sdg ?_
       refine cRg (Xc (nth a0 v1_2)) ?_
       refine gJf G (fun G => ?_) (fun G => ?_)
       ·try (simp at G; done)
        all_goals
         simp [i1, ZA, G]
         repeat with_reducible refine sdg ?_
         refine cGg (fun gg => (X5 a0 (nth a0 v1_2).To a1)) ?_
         refine cKf e1 (fun k20 h19 e1 => ?_) (fun k20 h19 e1 => ?_)
         ·try (simp [G] at h19; done)
          all_goals
           simp [i1, ZA, G]
           repeat with_reducible refine sdg ?_
           refine cRg (Xi v1_1 (nth a0 v1_2).To) ?_
           exact ny3 (an w1 (an w2 G)) e1
         ·try (simp [G] at h19; done)
          all_goals
           exact ny3 (an w1 (an w2 G)) e1
       ·try (simp at G; done)
        all_goals
         refine sGo ?_
         simp [G]
         repeat with_reducible refine sdg ?_
         refine cKf e1 (fun k21 h20 e1 => ?_) (fun k21 h20 e1 => ?_)
         ·try (simp [G] at h20; done)
          all_goals
           simp [i1, ZA, G]
           repeat with_reducible refine sdg ?_
           refine cRg (Xi v1_1 (nth a0 v1_2).To) ?_
           exact ny3 (an w1 (an w2 G)) e1
         ·try (simp [G] at h20; done)
          all_goals
           exact ny3 (an w1 (an w2 G)) e1
     ·try (simp [G] at h18; done)
      all_goals
       simp [i1, ZA, G]
       repeat with_reducible refine sdg ?_
       refine cRg (Xc (nth a0 v1_2)) ?_
       refine gJf G (fun G => ?_) (fun G => ?_)
       ·try (simp at G; done)
        all_goals
         simp [i1, ZA, G]
         repeat with_reducible refine sdg ?_
         refine cGg (fun gg => (X5 a0 (nth a0 v1_2).To a1)) ?_
         refine cKf e1 (fun k22 h21 e1 => ?_) (fun k22 h21 e1 => ?_)
         ·try (simp [G] at h21; done)
          all_goals
           simp [i1, ZA, G]
           repeat with_reducible refine sdg ?_
           refine cRg (Xi v1_1 (nth a0 v1_2).To) ?_
           exact ny3 (an w1 (an w2 G)) e1
         ·try (simp [G] at h21; done)
          all_goals
           exact ny3 (an w1 (an w2 G)) e1
       ·try (simp at G; done)
        all_goals
         refine sGo ?_
         simp [G]
         repeat with_reducible refine sdg ?_
         refine cKf e1 (fun k23 h22 e1 => ?_) (fun k23 h22 e1 => ?_)
         ·try (simp [G] at h22; done)
          all_goals
           simp [i1, ZA, G]
           repeat with_reducible refine sdg ?_
           refine cRg (Xi v1_1 (nth a0 v1_2).To) ?_
           exact ny3 (an w1 (an w2 G)) e1
         ·try (simp [G] at h22; done)
          all_goals
           exact ny3 (an w1 (an w2 G)) e1
 have f := ms f e1
 refine cF f (fun k24 h23 f => ?_) (fun k24 h23 f => ?_)
 ·exact rt [.cell 4 77, .tmp 5] f
 exact rt [.cell 4 77, .tmp 5] f
theorem kz (a0 : List ZE) (a1 : ZS) (a2 : Int) (u0 : Sm 2318336 a0) (u1 : Sm 2318336 a1) : Sa 333 [rL 3 ZE.row a0, a1.row, rI a2] [(QF a0 a1 a2).1.row, rB (QF a0 a1 a2).2] := by
 have f := me (QF.eq_1 a0 a1 a2)
 refine so Tryz.func333 Tryz.ntmps333 ?_
 refine lp2 (yo.eq_2 a0 a1) (fun v1_0 v1_1 => Yc 42 [eL 0 3 a0 ZE.row, eI 2 a2, eX 4 (a1.row.map .d), (6, .one (.bptr 6 0), [.box [.d (.int .i64 0), .d (.int .i64 0)]]), (8, .one (.sref 8 0 0 v1_0.length), [.arr false 2 (v1_0.map ZD.row)]), eI 9 (↑v1_1 : Int)]) (fun n1 v1_0 v1_1 => a1.Zi.length < n1 + v1_1 ∧ v1_1 ≤ a1.Zi.length ∧ v1_0.length ≤ 0 + 1 * v1_1) (a1.Zi.length + 1) ([] : List ZD) 0 (fun p1 v1_0 v1_1 e1 j1 => ?_) (h0 := Yh [((8, 0), some (12, 0))] [] rfl (by simp))
 refine cFf e1 (fun k2 h1 e1 => ?_) (fun k2 h1 e1 => ?_)
 ·have i1 := ix h1
  have m2 := ml a1.Zi (k2 15 _ rfl)
  have c1 := sl 2318336 a1.Zi (an u0 u1)
  have w1 := wr v1_1
  simp [i1, ZA]
  repeat with_reducible refine sd ?_
  refine cRs (ZFW a0 (nth a1.Zi v1_1)) ?_
  refine cF e1 (fun k3 h2 e1 => ?_) (fun k3 h2 e1 => ?_)
  ·have f := ms f e1
   exact rt [.cell 6 77, .tmp 7] f
  exact nx2 e1 (hw := Yh [((8, 0), some (36, 0))] [] rfl (by simp [w1]))
 have c2 := sl 2318336 a1.Zi (an u0 u1)
 have f := ms f e1
 refine cRs (ZEv v1_0 a2 (by first | (simp (maxDischargeDepth := 12) [Xr]; omega) | (simp (maxDischargeDepth := 12) [ZX (m := 2322432) (by decide) u0, ZX (m := 2322432) (by decide) u1]; done))) ?_
 exact rt [.cell 6 77, .tmp 7] f
theorem ZKM (a0 : List Zl) (a1 : Int) : Sa 241 [rL 4 Zl.row a0, rI a1] [rI (Kz a0 a1)] := by
 have f := me (Kz.eq_1 a0 a1)
 refine so Tryz.func241 Tryz.ntmps241 ?_
 refine lp1 (zX.eq_2 a0 a1) (fun v1_0 => Yc 20 [eL 0 4 a0 Zl.row, eI 1 a1, eI 5 (↑v1_0 : Int)]) (fun n1 v1_0 => a0.length < n1 + v1_0 ∧ v1_0 ≤ a0.length) (a0.length + 1) 0 (fun p1 v1_0 e1 j1 => ?_)
 refine cFf e1 (fun k2 h1 e1 => ?_) (fun k2 h1 e1 => ?_)
 ·have i1 := ix h1
  have m2 := ml a0 (k2 0 _ rfl)
  have w1 := wr v1_0
  simp [i1, ZA]
  repeat with_reducible refine sd ?_
  refine cF e1 (fun k3 h2 e1 => ?_) (fun k3 h2 e1 => ?_)
  ·have f := ms f e1
   exact rt [.tmp 4] f
  exact ny1 w1 e1
 have f := ms f e1
 exact rt [.tmp 4] f
theorem kJ (a0 : List Zl) (a1 : Int) : Sa 175 [rL 4 Zl.row a0, rI a1] [rI (zn a0 a1)] := by
 have f := me (zn.eq_1 a0 a1)
 refine so Tryz.func175 Tryz.ntmps175 ?_
 refine cRs (ZKM a0 a1) ?_
 refine cFt f (fun k1 h1 f => ?_) (fun k1 h1 f => ?_)
 ·exact rt [.tmp 4] f
 have i1 : (Kz a0 a1).toNat < a0.length := by have := ZKF a0 a1; exact il
 simp [i1, ZA]
 repeat with_reducible refine sd ?_
 exact rt [.tmp 4] f
theorem ZC3 (a0 : List ZE) (a1 : Za) : Sa 299 [rL 3 ZE.row a0, a1.row] [rI (X6 a0 a1)] := by
 have f := me (X6.eq_1 a0 a1)
 refine so Tryz.func299 Tryz.ntmps299 ?_
 refine cRs (jF a0 a1.Authority) ?_
 refine cFt f (fun k1 h1 f => ?_) (fun k1 h1 f => ?_)
 ·exact rt [.tmp 4] f
 have i1 : (YM a0 a1.Authority).toNat < a0.length := by have := yX a0 a1.Authority; exact il
 simp [i1, ZA]
 repeat with_reducible refine sd ?_
 exact rt [.tmp 4] f
theorem ZHA (a0 : List YC) (a1 : List ZE) (a2 : List Zl) (a3 : ZS) : Sa 365 [rL 5 YC.row a0, rL 3 ZE.row a1, rL 4 Zl.row a2, a3.row] [rI (zh a0 a1 a2 a3)] := by
 have f := me (zh.eq_1 a0 a1 a2 a3)
 refine so Tryz.func365 Tryz.ntmps365 ?_
 refine cRs (kJ a2 a3.Method) ?_
 refine lp2 (zl.eq_2 a0 a1 a2 a3) (fun v1_0 v1_1 => Yc 44 [eL 0 5 a0 YC.row, eL 1 3 a1 ZE.row, eL 2 4 a2 Zl.row, eX 7 (a3.row.map .d), eI 9 v1_0, eI 10 (↑v1_1 : Int)]) (fun n1 v1_0 v1_1 => a3.Zi.length < n1 + v1_1 ∧ v1_1 ≤ a3.Zi.length) (a3.Zi.length + 1) (zn a2 a3.Method) 0 (fun p1 v1_0 v1_1 e1 j1 => ?_)
 refine cFf e1 (fun k2 h1 e1 => ?_) (fun k2 h1 e1 => ?_)
 ·have i1 := ix h1
  have m2 := ml a3.Zi (k2 18 _ rfl)
  have w1 := wr v1_1
  simp [i1, ZA]
  repeat with_reducible refine sd ?_
  refine cRs (ZC3 a1 (nth a3.Zi v1_1)) ?_
  refine cRs (K0 a0 (X6 a1 (nth a3.Zi v1_1))) ?_
  refine cFt e1 (fun k3 h2 e1 => ?_) (fun k3 h2 e1 => ?_)
  ·have f := ms f e1
   exact rt [.tmp 8] f
  have i2 : (Y0 a0 (X6 a1 (nth a3.Zi v1_1))).toNat < a0.length := by have := J2 a0 (X6 a1 (nth a3.Zi v1_1)); exact il
  simp [i2, ZA]
  repeat with_reducible refine sd ?_
  refine cRs (kJ a2 (nth a0 (Y0 a0 (X6 a1 (nth a3.Zi v1_1))).toNat).Method) ?_
  refine cRs (ZDU v1_0 (zn a2 (nth a0 (Y0 a0 (X6 a1 (nth a3.Zi v1_1))).toNat).Method)) ?_
  exact ny2 w1 e1
 have f := ms f e1
 exact rt [.tmp 8] f
theorem ZE3 {a b : Prop} (h : b) (k : a := by (intros; first | omega | with_unfolding_all (first | (first | omega | (have mm : a1.ZR.length ≤ 2314240 := Yw (by simp (maxDischargeDepth := 12) [u1]); have ww := ZFZ a1.ZR.length (by omega); (try rw [ww] at q1); (try rw [ww] at q2); have w3 : W (a2 + 1) = a2 + 1 := Yd (by omega) (by omega); have w4 : IntKind.i64.wrap (a2 + 1) = a2 + 1 := w3; omega))) | ((try simp only [J7, show ∀ x, IntKind.i64.wrap x = W x from fun _ => rfl] at *); omega))) : a ∧ b := ⟨k, h⟩
theorem ZMV (a0 : ZF) (a1 : ZN) (a2 : Int) (u0 : Sm 2314240 a0) (u1 : Sm 2314240 a1) : Sa 357 [a0.row, a1.row, rI a2] [rB (ZAe a0 a1 a2)] := by
 have f := me (ZAe.eq_1 a0 a1 a2)
 refine so Tryz.func357 Tryz.ntmps357 ?_
 refine cRs (Ye a2 0 (W ((↑a1.ZR.length : Int) - 1))) ?_
 have c1 := sl 2314240 a1.ZR (an u0 u1)
 have w1 : IntKind.i64.wrap ((a1.ZR.length : Int) - 1) = (a1.ZR.length : Int) - 1 := Yd (by omega) (by omega)
 refine cFo f (fun k1 h1 f => ?_) (fun k1 h1 f => ?_)
 ·have q1 := h1; try simp [YN, w1] at q1
  simp
  exact rt [.tmp 6] f
 have q1 := h1; try simp [YN, w1] at q1
 simp
 refine dIo mixed ?_
 have i1 : a2.toNat < a1.ZR.length := by (have mm : a1.ZR.length ≤ 2314240 := Yw (by simp (maxDischargeDepth := 12) [u1]); (try simp [YN] at q1); have ww := ZFZ a1.ZR.length (by omega); first | omega | ((try rw [ww] at q1); (try rw [ww] at q2); have w3 : W (a2 + 1) = a2 + 1 := Yd (by omega) (by omega); omega))
 simp [i1, ZA]
 repeat with_reducible refine ZE3 ?_
 refine cRs (ZHA a0.Y3 a0.ZT a0.Methods (nth a1.ZR a2.toNat)) ?_
 refine cFo f (fun k3 h2 f => ?_) (fun k3 h2 f => ?_)
 ·have q2 := h2; try simp [w1] at q2
  simp
  exact rt [.tmp 6] f
 have q2 := h2; try simp [w1] at q2
 simp
 refine dIo mixed ?_
 have i2 : (W (a2 + 1)).toNat < a1.ZR.length := by (have mm : a1.ZR.length ≤ 2314240 := Yw (by simp (maxDischargeDepth := 12) [u1]); (try simp [YN] at q1); have ww := ZFZ a1.ZR.length (by omega); first | omega | ((try rw [ww] at q1); (try rw [ww] at q2); have w3 : W (a2 + 1) = a2 + 1 := Yd (by omega) (by omega); omega))
 simp [i2, ZA]
 repeat with_reducible refine ZE3 ?_
 refine cRs (kz a0.ZT (nth a1.ZR (W (a2 + 1)).toNat) a0.Q6 (sg (ZF.Qf u0)) (sg (Z2 (ZN.QG u1)))) ?_ (hrows := by first | (simp; done) | (simp [W, w1]; done))
 exact rt [.tmp 6] f
theorem ZBo (a0 : Za) : Sd 335 [a0.row] [rL 1 iR (JN a0)] := by
 have f := me (JN.eq_1 a0)
 refine soD Tryz.func335 Tryz.ntmps335 ?_
 exact rtD [.tmp 2] f
theorem ZCD (a0 : Int) (a1 : ZS) (u0 : Sm 2326528 a1) : Sa 368 [rI a0, a1.row] [rI (Jn a0 a1)] := by
 have f := me (Jn.eq_1 a0 a1)
 refine so Tryz.func368 Tryz.ntmps368 ?_
 refine lp2 (Ja.eq_2 a1) (fun v1_0 v1_1 => Yc 75 [eI 0 a0, eX 3 (a1.row.map .d), (5, .one (.sref 5 0 0 v1_0.length), [.arr false 1 (v1_0.map iR)]), eI 6 (↑v1_1 : Int)]) (fun n1 v1_0 v1_1 => a1.Path.length < n1 + v1_1 ∧ v1_1 ≤ a1.Path.length ∧ v1_0.length ≤ 4 + 2 * v1_1) (a1.Path.length + 1) ([4, a1.Count, a1.Method, a1.ZIY] : List Int) 0 (fun p1 v1_0 v1_1 e1 j1 => ?_) (h0 := Yh [((5, 0), some (14, 0))] [] rfl (by simp))
 refine cFo e1 (fun k2 h1 e1 => ?_) (fun k2 h1 e1 => ?_)
 ·have q1 := h1; try simp at q1
  have i1 := ix h1
  have m2 := ml a1.Path (k2 17 _ rfl)
  have c1 := sl 2326528 a1.Path u0
  have w1 := wr v1_1
  simp [i1, ZA]
  repeat with_reducible refine sd ?_
  refine cFo e1 (fun k3 h2 e1 => ?_) (fun k3 h2 e1 => ?_)
  ·have q2 := h2; try simp at q2
   simp
   repeat with_reducible refine sd ?_
   exact nx2 e1 (hw := Yh [((5, 0), some (39, 0))] [] rfl (by simp [w1]))
  have q2 := h2; try simp at q2
  simp
  repeat with_reducible refine sd ?_
  exact nx2 e1 (hw := Yh [((5, 0), some (42, 0))] [] rfl (by simp [w1]))
 have q1 := h1; try simp at q1
 have c2 := sl 2326528 a1.Path u0
 have f := ms f e1
 simp
 repeat with_reducible refine sd ?_
 refine lp2 (K6.eq_2 a1) (fun v2_0 v2_1 => Yc 75 [eI 0 a0, eX 3 (a1.row.map .d), (5, .one (.sref 5 0 0 v2_0.length), [.arr false 1 (v2_0.map iR)]), eI 7 (↑v2_1 : Int)]) (fun n2 v2_0 v2_1 => a1.Zi.length < n2 + v2_1 ∧ v2_1 ≤ a1.Zi.length ∧ v2_0.length ≤ 5 + 2 * 2326528 + 6 * v2_1) (a1.Zi.length + 1) (v1_0 ++ ([(↑a1.Zi.length : Int)] : List Int)) 0 (fun p2 v2_0 v2_1 e2 j2 => ?_) (hI := by (have o : a1.Path.length ≤ 2326528 := Yw (by simp (maxDischargeDepth := 12) [u0]); simp at *; omega)) (h0 := Yh [((5, 0), some (48, 0))] [] rfl (by simp))
 try dsimp only at j2
 refine cFo e2 (fun k5 h3 e2 => ?_) (fun k5 h3 e2 => ?_)
 ·have q3 := h3; try simp at q3
  have i2 := ix h3
  have m4 := ml a1.Zi (k5 51 _ rfl)
  have c3 := sl 2326528 a1.Zi u0
  have w2 := wr v2_1
  simp
  refine dIo mixed ?_
  simp [i2, ZA]
  repeat with_reducible refine sd ?_
  refine cRf i2 (Yb.rd (ZBo (nth a1.Zi v2_1))) ?_
  exact nx2 e2 (hI := by (simp; omega)) (hw := Yh [((5, 0), some (71, 0))] [] rfl (by simp [w2]))
 have q3 := h3; try simp at q3
 have c4 := sl 2326528 a1.Zi u0
 have f := ms f e2
 simp
 refine cRs (J9 a0 v2_0 (by first | (simp (maxDischargeDepth := 12) [Xr]; omega) | (simp (maxDischargeDepth := 12) [ZX (m := 68719476736) (by decide) u0]; done))) ?_
 exact rt [.tmp 4] f
theorem ZHs (a0 : Int) (a1 : List ZB) (u0 : Sm 2326528 a1) : Sa 375 [rI a0, rL 3 ZB.row a1] [rI (ze a0 a1)] := by
 have f := me (ze.eq_1 a0 a1)
 refine so Tryz.func375 Tryz.ntmps375 ?_
 refine lp2 (zg.eq_2 a0 a1) (fun v1_0 v1_1 => Yc 39 [eI 0 a0, eL 1 3 a1 ZB.row, (5, .one (.sref 5 0 0 v1_0.length), [.arr false 1 (v1_0.map iR)]), eI 6 (↑v1_1 : Int)]) (fun n1 v1_0 v1_1 => a1.length < n1 + v1_1 ∧ v1_1 ≤ a1.length ∧ v1_0.length ≤ 1 + 1 * v1_1) (a1.length + 1) ([2] : List Int) 0 (fun p1 v1_0 v1_1 e1 j1 => ?_) (h0 := Yh [((5, 0), some (7, 0))] [] rfl (by simp))
 refine cF e1 (fun k2 h1 e1 => ?_) (fun k2 h1 e1 => ?_)
 ·have i1 := ix h1
  have m2 := ml a1 (k2 1 _ rfl)
  have c1 := sl 2326528 a1 u0
  have w1 := wr v1_1
  refine ZSP [2, 3, 4, 5, 6, 7, 8, 9, 10, 11, 12, 13, 14, 15, 16, 17, 18, 0, 1, 19, 20, 21, 22] mixed (by kernel_rfl) (by kernel_rfl) (by kernel_rfl) ?_
  have c2 := sl 2326528 (nth a1 v1_1).Zb u0
  simp [i1, ZA]
  repeat with_reducible refine sd ?_
  refine cRs (J9 a0 (([(nth a1 v1_1).Key, (nth a1 v1_1).Mark] : List Int) ++ (nth a1 v1_1).Zb) (by simp (maxDischargeDepth := 12) [KD, Xr, ZX (m := 68719476736) (by decide) u0]; try omega)) ?_
  exact nx2 e1 (hw := Yh [((5, 0), some (35, 0))] [] rfl (by simp [w1]))
 have c3 := sl 2326528 a1 u0
 have f := ms f e1
 refine cRs (J9 a0 v1_0 (by first | (simp (maxDischargeDepth := 12) [Xr]; omega) | (simp (maxDischargeDepth := 12) [ZX (m := 68719476736) (by decide) u0]; done))) ?_
 exact rt [.tmp 4] f
theorem ZCY (a0 : Int) (a1 : Int) (a2 : List ZB) (a3 : Int) (u0 : Sm 2322432 a2) : Sa 369 [rI a0, rI a1, rL 3 ZB.row a2, rI a3] [rI (ZDN a0 a1 a2 a3)] := by
 have f := me (ZDN.eq_1 a0 a1 a2 a3)
 refine so Tryz.func369 Tryz.ntmps369 ?_
 refine cRs (ZHs a0 a2 (sg u0)) ?_
 refine cRs (J9 a0 ([3, a1, (ze a0 a2), a3] : List Int) (by simp (maxDischargeDepth := 12) [KD, Xr, ZX (m := 68719476736) (by decide) u0]; try omega)) ?_
 exact rt [.tmp 8] f
theorem XK {a b : Prop} (h : b) (k : a := by (intros; first | omega | with_unfolding_all (first | first | omega | (have cc : a0.ZR.length ≤ 2318336 := Yw (by simp (maxDischargeDepth := 12) [u0]); have z0 := g1x; simp at z0; have z := yW (by omega) z0.1; have z2 := z0.2; (try have w3 : IntKind.i64.wrap (a2 - 1) = a2 - 1 := Yd (by omega) (by omega)); (try have w4 : W (a2 - 1) = a2 - 1 := w3); first | omega | (refine ⟨⟨z0.1, by omega⟩, by omega, by omega⟩) | (simp_all; omega))) | (simp_all; done) | (simp_all; omega) | grind | ((try simp only [J7, show ∀ x, IntKind.i64.wrap x = W x from fun _ => rfl] at *); omega))) : a ∧ b := ⟨k, h⟩
theorem ZQs (a0 : ZN) (a1 : List Int) (a2 : Int) (u0 : Sm 2318336 a0) (u1 : Sm 2318336 a1) : Sa 359 [a0.row, rL 1 iR a1, rI a2] [rI (ZDt a0 a1 a2)] := by
 have f := me (ZDt.eq_1 a0 a1 a2)
 refine so Tryz.func359 Tryz.ntmps359 ?_
 refine dIs mixed ?_
 refine cRs (Ye a2 0 (W ((↑a0.ZR.length : Int) - 1))) ?_
 refine gIo (fun G => ?_) (fun G => ?_)
 ·have g1x := G
  have c1 := sl 2318336 a0.ZR (an u0 u1)
  have w1 : IntKind.i64.wrap ((a0.ZR.length : Int) - 1) = (a0.ZR.length : Int) - 1 := Yd (by omega) (by omega)
  have g1 := G; try simp [YN, w1] at g1
  have i1 : a2.toNat < a0.ZR.length := by (have cc : a0.ZR.length ≤ 2318336 := Yw (by simp (maxDischargeDepth := 12) [u0]); have z0 := g1x; simp at z0; have z := yW (by omega) z0.1; have z2 := z0.2; (try have w3 : IntKind.i64.wrap (a2 - 1) = a2 - 1 := Yd (by omega) (by omega)); (try have w4 : W (a2 - 1) = a2 - 1 := w3); omega)
  simp [i1, ZA, G]
  repeat with_reducible refine XK ?_
  refine cGo (fun gg => (Ye (nth a0.ZR a2.toNat).Count 0 (↑a0.ZZ.length : Int))) ?_
  simp [G]
  repeat with_reducible refine XK ?_
  refine cKo f (fun k2 h1 f => ?_) (fun k2 h1 f => ?_)
  ·try (simp [G] at h1; done)
   all_goals
    have q1 := h1; try simp [YN, w1] at q1
    simp [G]
    repeat with_reducible refine XK ?_
    exact rtg [.tmp 6] f
  ·try (simp [G] at h1; done)
   all_goals
    have q1 := h1; try simp [YN, w1] at q1
    simp [i1, ZA, G]
    repeat with_reducible refine XK ?_
    refine cKo f (fun k3 h2 f => ?_) (fun k3 h2 f => ?_)
    ·try (simp [G] at h2; done)
     all_goals
      have q2 := h2; try simp at q2
      have i2 : (W (a2 - 1)).toNat < a0.ZR.length := by (have cc : a0.ZR.length ≤ 2318336 := Yw (by simp (maxDischargeDepth := 12) [u0]); have z0 := g1x; simp at z0; have z := yW (by omega) z0.1; have z2 := z0.2; (try have w3 : IntKind.i64.wrap (a2 - 1) = a2 - 1 := Yd (by omega) (by omega)); (try have w4 : W (a2 - 1) = a2 - 1 := w3); omega)
      simp [i2, ZA, G]
      repeat with_reducible refine XK ?_
      refine cR (ZCD (nth a0.ZR a2.toNat).Method (nth a0.ZR (W (a2 - 1)).toNat) (sg (Z2 (ZN.QG u0)))) ?_ (hrows := by first | (simp; done) | (simp [W, w1]; done))
      simp [G]
      repeat with_reducible refine XK ?_
      refine dIo mixed ?_
      have i3 : a2.toNat < a1.length := by (have cc : a0.ZR.length ≤ 2318336 := Yw (by simp (maxDischargeDepth := 12) [u0]); have z0 := g1x; simp at z0; have z := yW (by omega) z0.1; have z2 := z0.2; (try have w3 : IntKind.i64.wrap (a2 - 1) = a2 - 1 := Yd (by omega) (by omega)); (try have w4 : W (a2 - 1) = a2 - 1 := w3); omega)
      simp [i3, ZA, i1, G]
      repeat with_reducible refine XK ?_
      refine cR (ZCY (nth a0.ZR a2.toNat).Method (nth a1 a2.toNat) (a0.ZZ.take (nth a0.ZR a2.toNat).Count.toNat) (Jn (nth a0.ZR a2.toNat).Method (nth a0.ZR (W (a2 - 1)).toNat)) (ZX (n := 2318336) (by decide) (by simp (maxDischargeDepth := 12) [u0, u1]))) ?_ (hrows := by first | (simp; done) | (simp [W, w1]; done))
      simp [G]
      repeat with_reducible refine XK ?_
      exact rtg [.tmp 6] f
    ·try (simp [G] at h2; done)
     all_goals
      have q2 := h2; try simp at q2
      simp [G]
      repeat with_reducible refine XK ?_
      refine dIo mixed ?_
      have i4 : a2.toNat < a1.length := by (have cc : a0.ZR.length ≤ 2318336 := Yw (by simp (maxDischargeDepth := 12) [u0]); have z0 := g1x; simp at z0; have z := yW (by omega) z0.1; have z2 := z0.2; (try have w3 : IntKind.i64.wrap (a2 - 1) = a2 - 1 := Yd (by omega) (by omega)); (try have w4 : W (a2 - 1) = a2 - 1 := w3); omega)
      simp [i4, ZA, i1, G]
      repeat with_reducible refine XK ?_
      refine cR (ZCY (nth a0.ZR a2.toNat).Method (nth a1 a2.toNat) (a0.ZZ.take (nth a0.ZR a2.toNat).Count.toNat) 0 (ZX (n := 2318336) (by decide) (by simp (maxDischargeDepth := 12) [u0, u1]))) ?_
      simp [G]
      repeat with_reducible refine XK ?_
      exact rtg [.tmp 6] f
 ·have g1x := G
  simp [G]
  repeat with_reducible refine XK ?_
  refine sGo ?_
  simp [G]
  repeat with_reducible refine XK ?_
  have c2 := sl 2318336 a0.ZR (an u0 u1)
  have w2 : IntKind.i64.wrap ((a0.ZR.length : Int) - 1) = (a0.ZR.length : Int) - 1 := Yd (by omega) (by omega)
  refine cKo f (fun k6 h3 f => ?_) (fun k6 h3 f => ?_)
  ·try (simp [G] at h3; done)
   all_goals
    have q3 := h3; try simp [YN, w2] at q3
    simp [G]
    repeat with_reducible refine XK ?_
    exact rtg [.tmp 6] f
  ·try (simp [G] at h3; done)
   all_goals
    have q3 := h3; try simp [YN, w2] at q3
    have i6 : a2.toNat < a0.ZR.length := by (have cc : a0.ZR.length ≤ 2318336 := Yw (by simp (maxDischargeDepth := 12) [u0]); have z0 := g1x; simp at z0; have z := yW (by omega) z0.1; have z2 := z0.2; (try have w3 : IntKind.i64.wrap (a2 - 1) = a2 - 1 := Yd (by omega) (by omega)); (try have w4 : W (a2 - 1) = a2 - 1 := w3); omega)
    simp [i6, ZA, G]
    repeat with_reducible refine XK ?_
    refine cKo f (fun k7 h4 f => ?_) (fun k7 h4 f => ?_)
    ·try (simp [G] at h4; done)
     all_goals
      have q4 := h4; try simp at q4
      have i7 : (W (a2 - 1)).toNat < a0.ZR.length := by (have cc : a0.ZR.length ≤ 2318336 := Yw (by simp (maxDischargeDepth := 12) [u0]); have z0 := g1x; simp at z0; have z := yW (by omega) z0.1; have z2 := z0.2; (try have w3 : IntKind.i64.wrap (a2 - 1) = a2 - 1 := Yd (by omega) (by omega)); (try have w4 : W (a2 - 1) = a2 - 1 := w3); omega)
      simp [i7, ZA, G]
      repeat with_reducible refine XK ?_
      refine cR (ZCD (nth a0.ZR a2.toNat).Method (nth a0.ZR (W (a2 - 1)).toNat) (sg (Z2 (ZN.QG u0)))) ?_ (hrows := by first | (simp; done) | (simp [W, w2]; done))
      simp [G]
      repeat with_reducible refine XK ?_
      refine dIo mixed ?_
      have i8 : a2.toNat < a1.length := by (have cc : a0.ZR.length ≤ 2318336 := Yw (by simp (maxDischargeDepth := 12) [u0]); have z0 := g1x; simp at z0; have z := yW (by omega) z0.1; have z2 := z0.2; (try have w3 : IntKind.i64.wrap (a2 - 1) = a2 - 1 := Yd (by omega) (by omega)); (try have w4 : W (a2 - 1) = a2 - 1 := w3); omega)
      simp [i8, ZA, i6, G]
      repeat with_reducible refine XK ?_
      refine cR (ZCY (nth a0.ZR a2.toNat).Method (nth a1 a2.toNat) (a0.ZZ.take (nth a0.ZR a2.toNat).Count.toNat) (Jn (nth a0.ZR a2.toNat).Method (nth a0.ZR (W (a2 - 1)).toNat)) (ZX (n := 2318336) (by decide) (by simp (maxDischargeDepth := 12) [u0, u1]))) ?_ (hrows := by first | (simp; done) | (simp [W, w2]; done))
      simp [G]
      repeat with_reducible refine XK ?_
      exact rtg [.tmp 6] f
    ·try (simp [G] at h4; done)
     all_goals
      have q4 := h4; try simp at q4
      simp [G]
      repeat with_reducible refine XK ?_
      refine dIo mixed ?_
      have i9 : a2.toNat < a1.length := by (have cc : a0.ZR.length ≤ 2318336 := Yw (by simp (maxDischargeDepth := 12) [u0]); have z0 := g1x; simp at z0; have z := yW (by omega) z0.1; have z2 := z0.2; (try have w3 : IntKind.i64.wrap (a2 - 1) = a2 - 1 := Yd (by omega) (by omega)); (try have w4 : W (a2 - 1) = a2 - 1 := w3); omega)
      simp [i9, ZA, i6, G]
      repeat with_reducible refine XK ?_
      refine cR (ZCY (nth a0.ZR a2.toNat).Method (nth a1 a2.toNat) (a0.ZZ.take (nth a0.ZR a2.toNat).Count.toNat) 0 (ZX (n := 2318336) (by decide) (by simp (maxDischargeDepth := 12) [u0, u1]))) ?_
      simp [G]
      repeat with_reducible refine XK ?_
      exact rtg [.tmp 6] f
theorem ZEt (a0 : Int) (a1 : Int) (a2 : Int) : Sa 373 [rI a0, rI a1, rI a2] [rI (qN a0 a1 a2)] := by
 have f := me (qN.eq_1 a0 a1 a2)
 refine so Tryz.func373 Tryz.ntmps373 ?_
 refine cRs (J9 a0 ([1, a1, a2] : List Int) (by simp (maxDischargeDepth := 12) [KD, Xr]; try omega)) ?_
 exact rt [.tmp 6] f
theorem ZKK (a0 : Int) (a1 : Int) (a2 : List XG) : Sa 366 [rI a0, rI a1, rL 2 XG.row a2] [rI (ju a0 a1 a2)] := by
 have f := me (ju.eq_1 a0 a1 a2)
 refine so Tryz.func366 Tryz.ntmps366 ?_
 refine lp2 (z4.eq_2 a0 a2) (fun v1_0 v1_1 => Yc 38 [eI 0 a0, eL 2 2 a2 XG.row, eI 7 v1_0, eI 8 (↑v1_1 : Int)]) (fun n1 v1_0 v1_1 => a2.length < n1 + v1_1 ∧ v1_1 ≤ a2.length) (a2.length + 1) a1 0 (fun p1 v1_0 v1_1 e1 j1 => ?_)
 refine cFf e1 (fun k2 h1 e1 => ?_) (fun k2 h1 e1 => ?_)
 ·have i1 := ix h1
  have m2 := ml a2 (k2 2 _ rfl)
  have w1 := wr v1_1
  simp [i1, ZA]
  repeat with_reducible refine sd ?_
  refine cFo e1 (fun k3 h2 e1 => ?_) (fun k3 h2 e1 => ?_)
  ·simp [i1, ZA]
   repeat with_reducible refine sd ?_
   refine cRs (ZEt a0 (nth a2 v1_1).XC v1_0) ?_
   exact ny2 w1 e1
  simp [i1, ZA]
  repeat with_reducible refine sd ?_
  refine cRs (ZEt a0 v1_0 (nth a2 v1_1).XC) ?_
  exact ny2 w1 e1
 have f := ms f e1
 exact rt [.tmp 6] f
theorem ZLz (a0 : List YC) (a1 : List ZE) (a2 : Za) (u0 : Sm 2322432 a0) (u1 : Sm 2322432 a1) : Sa 374 [rL 5 YC.row a0, rL 3 ZE.row a1, a2.row] [(JL a0 a1 a2).1.row, rB (JL a0 a1 a2).2] := by
 have f := me (JL.eq_1 a0 a1 a2)
 refine so Tryz.func374 Tryz.ntmps374 ?_
 refine cRs (jF a1 a2.Authority) ?_
 refine cGs (fun gg => (yR a2.Time)) ?_
 refine cFt f (fun k1 h1 f => ?_) (fun k1 h1 f => ?_)
 ·exact rt [.cell 6 279, .tmp 7] f
 have i1 : (YM a1 a2.Authority).toNat < a1.length := by have := yX a1 a2.Authority; exact il
 simp [i1, ZA]
 repeat with_reducible refine sd ?_
 refine cRs (K0 a0 (nth a1 (YM a1 a2.Authority).toNat).Key) ?_
 refine cF f (fun k2 h2 f => ?_) (fun k2 h2 f => ?_)
 ·exact rt [.cell 6 279, .tmp 7] f
 refine dIo mixed ?_
 have i2 : (Y0 a0 (nth a1 (YM a1 a2.Authority).toNat).Key).toNat < a0.length := by have := J2 a0 (nth a1 (YM a1 a2.Authority).toNat).Key; exact il
 simp [i2, ZA]
 repeat with_reducible refine sd ?_
 refine cRs (Yb.rd (ZBo a2)) ?_
 refine cRs (ZGT (nth a0 (Y0 a0 (nth a1 (YM a1 a2.Authority).toNat).Key).toNat) (JN a2) (by simp (maxDischargeDepth := 12) [ZKt, ZX (m := 2326528) (by decide) u0, ZX (m := 2326528) (by decide) u1]; try omega)) ?_
 exact rt [.cell 6 279, .tmp 7] f
theorem ZEq (a0 : List YC) (a1 : List ZE) (a2 : Za) (u0 : Sm 2318336 a0) (u1 : Sm 2318336 a1) : Sa 367 [rL 5 YC.row a0, rL 3 ZE.row a1, a2.row] [rB (kF a0 a1 a2)] := by
 have f := me (kF.eq_1 a0 a1 a2)
 refine so Tryz.func367 Tryz.ntmps367 ?_
 refine cRs (ZLz a0 a1 a2 (sg u0) (sg u1)) ?_
 exact rt [.tmp 6] f
theorem ZHu (a0 : List YC) (a1 : List ZE) (a2 : ZS) (a3 : Int) (u0 : Sm 2314240 a0) (u1 : Sm 2314240 a1) (u2 : Sm 2314240 a2) : Sa 358 [rL 5 YC.row a0, rL 3 ZE.row a1, a2.row, rI a3] [rB (xf a0 a1 a2 a3)] := by
 have f := me (xf.eq_1 a0 a1 a2 a3)
 refine so Tryz.func358 Tryz.ntmps358 ?_
 refine dIs mixed ?_
 refine cGs (fun gg => (ZKK a2.Method a3 a2.Path)) ?_
 refine cGs (fun gg => (Ye (↑a2.Zi.length : Int) 1 6)) ?_
 refine cFo f (fun k2 h1 f => ?_) (fun k2 h1 f => ?_)
 ·have q1 := h1; try simp [YN] at q1
  simp
  exact rt [.tmp 8] f
 have q1 := h1; try simp [YN] at q1
 simp
 refine lp1 (zc.eq_2 a0 a1 a2) (fun v1_0 => Yc 73 [eL 0 5 a0 YC.row, eL 1 3 a1 ZE.row, eX 6 (a2.row.map .d), eI 9 (↑v1_0 : Int)]) (fun n1 v1_0 => a2.Zi.length < n1 + v1_0 ∧ v1_0 ≤ a2.Zi.length) (a2.Zi.length + 1) 0 (fun p1 v1_0 e1 j1 => ?_)
 refine cFf e1 (fun k4 h2 e1 => ?_) (fun k4 h2 e1 => ?_)
 ·have i1 := ix h2
  have m2 := ml a2.Zi (k4 35 _ rfl)
  have c1 := sl 2314240 a2.Zi (an u0 (an u1 u2))
  have w1 := wr v1_0
  simp [i1, ZA]
  repeat with_reducible refine sd ?_
  refine dIs mixed ?_
  refine gIf (fun G => ?_) (fun G => ?_)
  ·have i2 := ik (v1_0 - 1) a2.Zi
   have w2 : IntKind.i64.wrap ((v1_0 : Int) - 1) = (v1_0 : Int) - 1 := Yd (by omega) (by omega)
   simp [i2, ZA, w2, QW, G]
   repeat with_reducible refine sdg ?_
   refine cGg (fun gg => (ZEq a0 a1 (nth a2.Zi v1_0) (sg u0) (sg u1))) ?_
   refine cK e1 (fun k6 h3 e1 => ?_) (fun k6 h3 e1 => ?_)
   ·try (simp [G] at h3; done)
    all_goals
     have f := ms f e1
     exact rtg [.tmp 8] f
   ·try (simp [G] at h3; done)
    all_goals
     exact ny1 (an w1 (an w2 G)) e1
  ·refine cGg (fun gg => (ZEq a0 a1 (nth a2.Zi v1_0) (sg u0) (sg u1))) ?_
   refine cK e1 (fun k7 h4 e1 => ?_) (fun k7 h4 e1 => ?_)
   ·try (simp [G] at h4; done)
    all_goals
     have f := ms f e1
     exact rtg [.tmp 8] f
   ·try (simp [G] at h4; done)
    all_goals
     exact ny1 (an w1 G) e1
 have c2 := sl 2314240 a2.Zi (an u0 (an u1 u2))
 have f := ms f e1
 exact rt [.tmp 8] f
theorem ZOw (a0 : ZF) (a1 : ZN) (a2 : List Int) (a3 : Int) (u0 : Sm 2310144 a0) (u1 : Sm 2310144 a1) (u2 : Sm 2310144 a2) (u3 : 0 ≤ a3 ∧ a3 < (a1.ZR.length : Int)) : Sa 348 [a0.row, a1.row, rL 1 iR a2, rI a3] [rB (ZFz a0 a1 a2 a3)] := by
 have f := me (ZFz.eq_1 a0 a1 a2 a3)
 refine so Tryz.func348 Tryz.ntmps348 ?_
 refine dIo mixed ?_
 have i1 := ik a3.toNat a1.ZR
 simp [i1, ZA]
 repeat with_reducible refine sd ?_
 refine cRs (kz a0.ZT (nth a1.ZR a3.toNat) a0.Q6 (sg (ZF.Qf u0)) (sg (Z2 (ZN.QG u1)))) ?_
 refine dIs mixed ?_
 refine cGs (fun gg => (ZMV a0 a1 a3 (sg u0) (sg u1))) ?_
 refine gIf (fun G => ?_) (fun G => ?_)
 ·simp [i1, ZA, G]
  repeat with_reducible refine sdg ?_
  refine cGg (fun gg => (ZQs a1 a2 a3 (sg u1) (sg u2))) ?_
  refine cGg (fun gg => (ZHu a0.Y3 a0.ZT (nth a1.ZR a3.toNat) (ZDt a1 a2 a3) (sg (ZF.Ym u0)) (sg (ZF.Qf u0)) (sg (Z2 (ZN.QG u1))))) ?_
  exact rtg [.tmp 8] f
 ·refine sGo ?_
  simp [G]
  repeat with_reducible refine sdg ?_
  refine sGo ?_
  simp [G]
  repeat with_reducible refine sdg ?_
  exact rtg [.tmp 8] f
theorem ZLv (a0 : ZF) (a1 : ZN) (a2 : List Int) (u0 : Sm 2306048 a0) (u1 : Sm 2306048 a1) (u2 : Sm 2306048 a2) : Sa 332 [a0.row, a1.row, rL 1 iR a2] [rI (K4 a0 a1 a2)] := by
 have f := me (K4.eq_1 a0 a1 a2)
 refine so Tryz.func332 Tryz.ntmps332 ?_
 refine okL fun k1 => ?_
 refine lp1 (zI.eq_2 a0 a1 a2) (fun v1_0 => Yc 24 [eL 2 1 a2 iR, eX 3 (a0.row.map .d), eX 4 (a1.row.map .d), eI 7 (↑v1_0 : Int)]) (fun n1 v1_0 => v1_0 < n1 ∧ v1_0 ≤ a1.ZR.length) (a1.ZR.length + 1) a1.ZR.length (fun p1 v1_0 e1 j1 => ?_)
 refine cGs (fun gg => (ZOw a0 a1 a2 (W ((↑v1_0 : Int) - 1)) (sg u0) (sg u1) (sg u2) (by (have g2 : ((decide (0 < v1_0)) == true) = true := gg; simp at g2; have cc : a1.ZR.length ≤ 2306048 := Yw (by simp (maxDischargeDepth := 12) [u1]); have ww : W ((v1_0 : Int) - 1) = (v1_0 : Int) - 1 := Yd (by omega) (by omega); rw [ww]; omega)))) ?_
 refine cFo e1 (fun k2 h1 e1 => ?_) (fun k2 h1 e1 => ?_)
 ·have q1 := h1; try simp at q1
  have m1 := ml a1.ZR (k1 9 _ rfl)
  have w1 : IntKind.i64.wrap ((v1_0 : Int) - 1) = (v1_0 : Int) - 1 := Yd (by omega) (by omega)
  have w2 : ((v1_0 - 1 : Nat) : Int) = (v1_0 : Int) - 1 := by omega
  simp
  exact ny1 (an w1 w2) e1
 have q1 := h1; try simp at q1
 have f := ms f e1
 simp
 exact rt [.tmp 6] f
theorem ZOy (a0 : ZF) (a1 : ZN) (a2 : List Int) (a3 : Int) (u0 : Sm 2301952 a0) (u1 : Sm 2301952 a1) (u2 : Sm 2301952 a2) : Sa 292 [a0.row, a1.row, rL 1 iR a2, rI a3] [rI (ZDA a0 a1 a2 a3)] := by
 have f := me (ZDA.eq_1 a0 a1 a2 a3)
 refine so Tryz.func292 Tryz.ntmps292 ?_
 refine cRs (ZLv a0 a1 a2 (sg u0) (sg u1) (sg u2)) ?_
 refine lp2 (jM.eq_2 a0 a1 a3) (fun v1_0 v1_1 => Yc 52 [eI 3 a3, eX 4 (a0.row.map .d), eX 5 (a1.row.map .d), eI 9 v1_0, eI 10 v1_1]) (fun n1 v1_0 v1_1 => (a1.ZR.length : Int) + 1 < n1 + v1_1 ∧ 0 ≤ v1_1 ∧ v1_1 ≤ a1.ZR.length) (a1.ZR.length + 2) a0.Now (K4 a0 a1 a2) (fun p1 v1_0 v1_1 e1 j1 => ?_) (hI := by (have z := ZJW a0 a1 a2; (try dsimp only); omega))
 try dsimp only at j1
 refine cFf e1 (fun k2 h1 e1 => ?_) (fun k2 h1 e1 => ?_)
 ·have i1 := ik v1_1.toNat a1.ZR
  simp [i1, ZA]
  repeat with_reducible refine sd ?_
  refine cF e1 (fun k3 h2 e1 => ?_) (fun k3 h2 e1 => ?_)
  ·refine okD fun k4 => ?_
   refine dIo mixed ?_
   simp [i1, ZA]
   repeat with_reducible refine sd ?_
   refine cRs (kz a0.ZT (nth a1.ZR v1_1.toNat) a0.Q6 (sg (ZF.Qf u0)) (sg (Z2 (ZN.QG u1)))) ?_
   refine cRs (ZDU v1_0 (QF a0.ZT (nth a1.ZR v1_1.toNat) a0.Q6).1.To) ?_
   exact nx2 e1 (hI := by (have cc : a1.ZR.length ≤ 2301952 := Yw (by simp (maxDischargeDepth := 12) [u1]); have w2 : W (v1_1 + 1) = v1_1 + 1 := Yd (by simp at *; omega) (by simp at *; omega); (try dsimp only); rw [w2]; simp at *; omega))
  exact nx2 e1 (hI := by (have cc : a1.ZR.length ≤ 2301952 := Yw (by simp (maxDischargeDepth := 12) [u1]); have w2 : W (v1_1 + 1) = v1_1 + 1 := Yd (by simp at *; omega) (by simp at *; omega); (try dsimp only); rw [w2]; simp at *; omega))
 have f := ms f e1
 exact rt [.tmp 8] f
theorem ZKf (a0 : ZF) (a1 : ZN) (a2 : List Int) (a3 : ZB) (u0 : Sm 2297856 a0) (u1 : Sm 2297856 a1) (u2 : Sm 2297856 a2) (u3 : Sm 2297856 a3) : Sa 239 [a0.row, a1.row, rL 1 iR a2, a3.row] [rI (qR a0 a1 a2 a3)] := by
 have f := me (qR.eq_1 a0 a1 a2 a3)
 refine so Tryz.func239 Tryz.ntmps239 ?_
 refine cRs (ZMG a1 a3) ?_
 refine cF f (fun k1 h1 f => ?_) (fun k1 h1 f => ?_)
 ·exact rt [.tmp 8] f
 refine cRs (ZOy a0 a1 a2 (xx a1 a3) (sg u0) (sg u1) (sg u2)) ?_
 exact rt [.tmp 8] f
theorem ZBm (a0 : ZF) (a1 : ZI) (a2 : List (List Int)) (a3 : ZB) (u0 : Sm 2293760 a0) (u1 : Sm 2293760 a1) (u2 : Sm 2293760 a2) (u3 : Sm 2293760 a3) : Sa 172 [a0.row, a1.row, rL 1 (slR 1 iR) a2, a3.row] [rI (Y2 a0 a1 a2 a3)] := by
 have f := me (Y2.eq_1 a0 a1 a2 a3)
 refine so Tryz.func172 Tryz.ntmps172 ?_
 refine lp2 (K9.eq_2 a0 a1 a2 a3) (fun v1_0 v1_1 => Yc 41 [eL 2 1 a2 (slR 1 iR), eX 4 (a0.row.map .d), eX 5 (a1.row.map .d), eX 7 (a3.row.map .d), eI 9 v1_0, eI 10 (↑v1_1 : Int)]) (fun n1 v1_0 v1_1 => a1.ZK.length < n1 + v1_1 ∧ v1_1 ≤ a1.ZK.length) (a1.ZK.length + 1) a0.Now 0 (fun p1 v1_0 v1_1 e1 j1 => ?_)
 refine cF e1 (fun k2 h1 e1 => ?_) (fun k2 h1 e1 => ?_)
 ·have i1 : v1_1 < a1.ZK.length := by (simp at h1; omega)
  have m2 := ml a1.ZK (k2 15 _ rfl)
  have c1 := sl 2293760 a1.ZK (an u0 (an u1 (an u2 u3)))
  have w1 := wr v1_1
  refine dIo mixed ?_
  have i2 := ik v1_1 a2
  simp [i1, ZA, i2]
  repeat with_reducible refine sd ?_
  refine cRs (ZKf a0 (nth a1.ZK v1_1) (nth a2 v1_1) a3 (sg u0) (sg (Z2 (ZI.Yr u1))) (sg (Z2 u2)) (sg u3)) ?_
  refine cRs (ZDU v1_0 (qR a0 (nth a1.ZK v1_1) (nth a2 v1_1) a3)) ?_
  exact ny2 w1 e1
 have c2 := sl 2293760 a1.ZK (an u0 (an u1 (an u2 u3)))
 have f := ms f e1
 exact rt [.tmp 8] f
theorem z9 (a0 : ZB) : Sa 295 [a0.row] [rI (XV a0)] := by
 have f := me (XV.eq_1 a0)
 refine so Tryz.func295 Tryz.ntmps295 ?_
 refine gIf (fun G => ?_) (fun G => ?_)
 ·have i1 := ik 0 a0.Zb
  simp [i1, ZA, G]
  repeat with_reducible refine sdg ?_
  refine cGg (fun gg => (Ye (nth a0.Zb 0) 101 105)) ?_
  refine cKo f (fun k1 h1 f => ?_) (fun k1 h1 f => ?_)
  ·try (simp [G] at h1; done)
   all_goals
    have q1 := h1; try simp [YN] at q1
    simp [G]
    repeat with_reducible refine sdg ?_
    exact rtg [.tmp 2] f
  ·try (simp [G] at h1; done)
   all_goals
    have q1 := h1; try simp [YN] at q1
    simp [G]
    repeat with_reducible refine sdg ?_
    refine dIo mixed ?_
    have i2 := ik (W ((nth a0.Zb 0) - 101)).toNat ([7, 5, 5, 9, 6] : List Int)
    have r1 := ZA (f := iR) i2; try simp at r1
    simp [i1, ZA, i2, r1, G]
    repeat with_reducible refine sdg ?_
    refine cKt f (fun k3 h2 f => ?_) (fun k3 h2 f => ?_)
    ·try (simp [G] at h2; done)
     all_goals
      exact rtg [.tmp 2] f
    ·try (simp [G] at h2; done)
     all_goals
      simp [i1, ZA, G]
      repeat with_reducible refine sdg ?_
      exact rtg [.tmp 2] f
 ·refine sGo ?_
  simp [G]
  repeat with_reducible refine sdg ?_
  refine cKo f (fun k4 h3 f => ?_) (fun k4 h3 f => ?_)
  ·try (simp [G] at h3; done)
   all_goals
    have q3 := h3; try simp [YN] at q3
    simp [G]
    repeat with_reducible refine sdg ?_
    exact rtg [.tmp 2] f
  ·try (simp [G] at h3; done)
   all_goals
    have q3 := h3; try simp [YN] at q3
    simp [G]
    repeat with_reducible refine sdg ?_
    refine dIo mixed ?_
    have i4 := ik 0 a0.Zb
    have i5 := ik (W ((nth a0.Zb 0) - 101)).toNat ([7, 5, 5, 9, 6] : List Int)
    have r2 := ZA (f := iR) i5; try simp at r2
    simp [i4, ZA, i5, r2, G]
    repeat with_reducible refine sdg ?_
    refine cKt f (fun k6 h4 f => ?_) (fun k6 h4 f => ?_)
    ·try (simp [G] at h4; done)
     all_goals
      exact rtg [.tmp 2] f
    ·try (simp [G] at h4; done)
     all_goals
      simp [i4, ZA, G]
      repeat with_reducible refine sdg ?_
      exact rtg [.tmp 2] f
theorem ZE7 (a0 : ZB) : Sa 244 [a0.row] [(Xd a0).1.row, rB (Xd a0).2] := by
 have f := me (Xd.eq_1 a0)
 refine so Tryz.func244 Tryz.ntmps244 ?_
 refine dIs mixed ?_
 refine cRs (z9 a0) ?_
 refine gIf (fun G => ?_) (fun G => ?_)
 ·have g1x := G
  have g1 := G; try simp at g1
  have i1 : 6 < a0.Zb.length := by (have z := ZU a0; simp_all; done)
  simp [i1, ZA, G]
  repeat with_reducible refine sdg ?_
  refine cK f (fun k2 h1 f => ?_) (fun k2 h1 f => ?_)
  ·try (simp [G] at h1; done)
   all_goals
    exact rtg [.cell 2 168, .tmp 3] f
  ·try (simp [G] at h1; done)
   all_goals
    refine dIo mixed ?_
    have i2 : 1 < a0.Zb.length := by (have z := ZU a0; simp_all; done)
    have i3 : 2 < a0.Zb.length := by (have z := ZU a0; simp_all; done)
    have i4 : 3 < a0.Zb.length := by (have z := ZU a0; simp_all; done)
    have i5 : 4 < a0.Zb.length := by (have z := ZU a0; simp_all; done)
    have i6 : 5 < a0.Zb.length := by (have z := ZU a0; simp_all; done)
    simp [i2, ZA, i3, i4, i5, i6, i1, G]
    repeat with_reducible refine sdg ?_
    exact rtg [.cell 2 168, .tmp 3] f
 ·have g1x := G
  refine cK f (fun k4 h2 f => ?_) (fun k4 h2 f => ?_)
  ·try (simp [G] at h2; done)
   all_goals
    exact rtg [.cell 2 168, .tmp 3] f
  ·try (simp [G] at h2; done)
   all_goals
    refine dIo mixed ?_
    have i8 : 1 < a0.Zb.length := by (have z := ZU a0; simp_all; done)
    have i9 : 2 < a0.Zb.length := by (have z := ZU a0; simp_all; done)
    have i10 : 3 < a0.Zb.length := by (have z := ZU a0; simp_all; done)
    have i11 : 4 < a0.Zb.length := by (have z := ZU a0; simp_all; done)
    have i12 : 5 < a0.Zb.length := by (have z := ZU a0; simp_all; done)
    have i13 : 6 < a0.Zb.length := by (have z := ZU a0; simp_all; done)
    simp [i8, ZA, i9, i10, i11, i12, i13, G]
    repeat with_reducible refine sdg ?_
    exact rtg [.cell 2 168, .tmp 3] f
theorem ZDh (a0 : ZB) : Sa 248 [a0.row] [(QS a0).1.row, rB (QS a0).2] := by
 have f := me (QS.eq_1 a0)
 refine so Tryz.func248 Tryz.ntmps248 ?_
 refine dIs mixed ?_
 refine cRs (z9 a0) ?_
 refine gIf (fun G => ?_) (fun G => ?_)
 ·have g1x := G
  have g1 := G; try simp at g1
  have i1 : 4 < a0.Zb.length := by (have z := ZU a0; simp_all; done)
  simp [i1, ZA, G]
  repeat with_reducible refine sdg ?_
  refine cK f (fun k2 h1 f => ?_) (fun k2 h1 f => ?_)
  ·try (simp [G] at h1; done)
   all_goals
    exact rtg [.cell 2 261, .tmp 3] f
  ·try (simp [G] at h1; done)
   all_goals
    refine dIo mixed ?_
    have i2 : 1 < a0.Zb.length := by (have z := ZU a0; simp_all; done)
    have i3 : 2 < a0.Zb.length := by (have z := ZU a0; simp_all; done)
    have i4 : 3 < a0.Zb.length := by (have z := ZU a0; simp_all; done)
    simp [i2, ZA, i3, i4, i1, G]
    repeat with_reducible refine sdg ?_
    exact rtg [.cell 2 261, .tmp 3] f
 ·have g1x := G
  refine cK f (fun k4 h2 f => ?_) (fun k4 h2 f => ?_)
  ·try (simp [G] at h2; done)
   all_goals
    exact rtg [.cell 2 261, .tmp 3] f
  ·try (simp [G] at h2; done)
   all_goals
    refine dIo mixed ?_
    have i6 : 1 < a0.Zb.length := by (have z := ZU a0; simp_all; done)
    have i7 : 2 < a0.Zb.length := by (have z := ZU a0; simp_all; done)
    have i8 : 3 < a0.Zb.length := by (have z := ZU a0; simp_all; done)
    have i9 : 4 < a0.Zb.length := by (have z := ZU a0; simp_all; done)
    simp [i6, ZA, i7, i8, i9, G]
    repeat with_reducible refine sdg ?_
    exact rtg [.cell 2 261, .tmp 3] f
theorem ZKL (a0 : ZB) : Sa 349 [a0.row] [(qS a0).1.row, rB (qS a0).2] := by
 have f := me (qS.eq_1 a0)
 refine so Tryz.func349 Tryz.ntmps349 ?_
 refine cRs (z9 a0) ?_
 refine cF f (fun k1 h1 f => ?_) (fun k1 h1 f => ?_)
 ·exact rt [.cell 2 279, .tmp 3] f
 refine dIo mixed ?_
 have i1 : 1 < a0.Zb.length := by (have z := ZU a0; simp_all; done)
 have i2 : 2 < a0.Zb.length := by (have z := ZU a0; simp_all; done)
 have i3 : 3 < a0.Zb.length := by (have z := ZU a0; simp_all; done)
 have i4 : 4 < a0.Zb.length := by (have z := ZU a0; simp_all; done)
 simp [i1, ZA, i2, i3, i4]
 repeat with_reducible refine sd ?_
 exact rt [.cell 2 279, .tmp 3] f
theorem ZLZ (a0 : ZB) : Sa 350 [a0.row] [(jW a0).1.row, rB (jW a0).2] := by
 have f := me (jW.eq_1 a0)
 refine so Tryz.func350 Tryz.ntmps350 ?_
 refine dIs mixed ?_
 refine cRs (z9 a0) ?_
 refine gIf (fun G => ?_) (fun G => ?_)
 ·have g1x := G
  have g1 := G; try simp at g1
  have i1 : 1 < a0.Zb.length := by (have z := ZU a0; simp_all; done)
  simp [i1, ZA, G]
  repeat with_reducible refine sdg ?_
  refine cK f (fun k2 h1 f => ?_) (fun k2 h1 f => ?_)
  ·try (simp [G] at h1; done)
   all_goals
    exact rtg [.cell 2 49, .tmp 3] f
  ·try (simp [G] at h1; done)
   all_goals
    refine dIo mixed ?_
    have i2 : 2 < a0.Zb.length := by (have z := ZU a0; simp_all; done)
    have i3 : 3 < a0.Zb.length := by (have z := ZU a0; simp_all; done)
    have i4 : 4 < a0.Zb.length := by (have z := ZU a0; simp_all; done)
    have i5 : 5 < a0.Zb.length := by (have z := ZU a0; simp_all; done)
    have i6 : 6 < a0.Zb.length := by (have z := ZU a0; simp_all; done)
    have i7 : 7 < a0.Zb.length := by (have z := ZU a0; simp_all; done)
    have i8 : 8 < a0.Zb.length := by (have z := ZU a0; simp_all; done)
    simp [i1, ZA, i2, i3, i4, i5, i6, i7, i8, G]
    repeat with_reducible refine sdg ?_
    exact rtg [.cell 2 49, .tmp 3] f
 ·have g1x := G
  refine cK f (fun k4 h2 f => ?_) (fun k4 h2 f => ?_)
  ·try (simp [G] at h2; done)
   all_goals
    exact rtg [.cell 2 49, .tmp 3] f
  ·try (simp [G] at h2; done)
   all_goals
    refine dIo mixed ?_
    have i10 : 1 < a0.Zb.length := by (have z := ZU a0; simp_all; done)
    have i11 : 2 < a0.Zb.length := by (have z := ZU a0; simp_all; done)
    have i12 : 3 < a0.Zb.length := by (have z := ZU a0; simp_all; done)
    have i13 : 4 < a0.Zb.length := by (have z := ZU a0; simp_all; done)
    have i14 : 5 < a0.Zb.length := by (have z := ZU a0; simp_all; done)
    have i15 : 6 < a0.Zb.length := by (have z := ZU a0; simp_all; done)
    have i16 : 7 < a0.Zb.length := by (have z := ZU a0; simp_all; done)
    have i17 : 8 < a0.Zb.length := by (have z := ZU a0; simp_all; done)
    simp [i10, ZA, i11, i12, i13, i14, i15, i16, i17, G]
    repeat with_reducible refine sdg ?_
    exact rtg [.cell 2 49, .tmp 3] f
theorem ZCT (a0 : ZB) : Sa 254 [a0.row] [(JQ a0).1.row, rB (JQ a0).2] := by
 have f := me (JQ.eq_1 a0)
 refine so Tryz.func254 Tryz.ntmps254 ?_
 refine dIs mixed ?_
 refine cRs (z9 a0) ?_
 refine gIf (fun G => ?_) (fun G => ?_)
 ·have g1x := G
  have g1 := G; try simp at g1
  have i1 : 5 < a0.Zb.length := by (have z := ZU a0; simp_all; done)
  simp [i1, ZA, G]
  repeat with_reducible refine sdg ?_
  refine cK f (fun k2 h1 f => ?_) (fun k2 h1 f => ?_)
  ·try (simp [G] at h1; done)
   all_goals
    exact rtg [.cell 2 269, .tmp 3] f
  ·try (simp [G] at h1; done)
   all_goals
    refine dIo mixed ?_
    have i2 : 1 < a0.Zb.length := by (have z := ZU a0; simp_all; done)
    have i3 : 2 < a0.Zb.length := by (have z := ZU a0; simp_all; done)
    have i4 : 3 < a0.Zb.length := by (have z := ZU a0; simp_all; done)
    have i5 : 4 < a0.Zb.length := by (have z := ZU a0; simp_all; done)
    simp [i2, ZA, i3, i4, i5, i1, G]
    repeat with_reducible refine sdg ?_
    exact rtg [.cell 2 269, .tmp 3] f
 ·have g1x := G
  refine cK f (fun k4 h2 f => ?_) (fun k4 h2 f => ?_)
  ·try (simp [G] at h2; done)
   all_goals
    exact rtg [.cell 2 269, .tmp 3] f
  ·try (simp [G] at h2; done)
   all_goals
    refine dIo mixed ?_
    have i7 : 1 < a0.Zb.length := by (have z := ZU a0; simp_all; done)
    have i8 : 2 < a0.Zb.length := by (have z := ZU a0; simp_all; done)
    have i9 : 3 < a0.Zb.length := by (have z := ZU a0; simp_all; done)
    have i10 : 4 < a0.Zb.length := by (have z := ZU a0; simp_all; done)
    have i11 : 5 < a0.Zb.length := by (have z := ZU a0; simp_all; done)
    simp [i7, ZA, i8, i9, i10, i11, G]
    repeat with_reducible refine sdg ?_
    exact rtg [.cell 2 269, .tmp 3] f
theorem ZMv (a0 : ZB) : Sa 334 [a0.row] [rB (ZEJ a0)] := by
 have f := me (ZEJ.eq_1 a0)
 refine so Tryz.func334 Tryz.ntmps334 ?_
 refine cRs (ZE7 a0) ?_
 refine cRs (ZDh a0) ?_
 refine cRs (ZKL a0) ?_
 refine cRs (ZLZ a0) ?_
 refine cRs (ZCT a0) ?_
 exact rt [.tmp 2] f
theorem ZKC (a0 : List YC) (a1 : ZB) (u0 : Sm 2318336 a0) (u1 : Sm 2318336 a1) : Sa 293 [rL 5 YC.row a0, a1.row] [rB (qQ a0 a1)] := by
 have f := me (qQ.eq_1 a0 a1)
 refine so Tryz.func293 Tryz.ntmps293 ?_
 refine cRs (ZMv a1) ?_
 refine cGs (fun gg => (jq a0 a1.Key a1.Zb a1.Mark (sg u0) (sg (ZB.ZBN u1)))) ?_
 exact rt [.tmp 4] f
theorem ZL9 (a0 : ZF) (a1 : ZI) (a2 : List (List Int)) (a3 : ZB) (u0 : Sm 2289664 a0) (u1 : Sm 2289664 a1) (u2 : Sm 2289664 a2) (u3 : Sm 2289664 a3) : Sa 242 [a0.row, a1.row, rL 1 (slR 1 iR) a2, a3.row] [rB (ZAj a0 a1 a2 a3)] := by
 have f := me (ZAj.eq_1 a0 a1 a2 a3)
 refine so Tryz.func242 Tryz.ntmps242 ?_
 refine cRs (K0 a0.Y3 a3.Key) ?_
 refine dIs mixed ?_
 refine cGs (fun gg => (ZKC a0.Y3 a3 (sg (ZF.Ym u0)) (sg u3))) ?_
 refine cGs (fun gg => (ZBm a0 a1 a2 a3 (sg u0) (sg u1) (sg u2) (sg u3))) ?_
 refine gIf (fun G => ?_) (fun G => ?_)
 ·have i1 : (Y0 a0.Y3 a3.Key).toNat < a0.Y3.length := by have := J2 a0.Y3 a3.Key; exact il
  simp [i1, ZA, G]
  repeat with_reducible refine sdg ?_
  refine cGg (fun gg => (kJ a0.Methods (nth a0.Y3 (Y0 a0.Y3 a3.Key).toNat).Method)) ?_
  exact rtg [.tmp 8] f
 ·refine sGo ?_
  simp [G]
  repeat with_reducible refine sdg ?_
  exact rtg [.tmp 8] f
theorem ZIS (a0 : ZB) (a1 : ZB) : Sa 294 [a0.row, a1.row] [rB (qk a0 a1)] := by
 have f := me (qk.eq_1 a0 a1)
 refine so Tryz.func294 Tryz.ntmps294 ?_
 refine lp1 (yu.eq_2 a0 a1) (fun v1_0 => Yc 71 [eX 2 (a0.row.map .d), eX 3 (a1.row.map .d), eI 5 (↑v1_0 : Int)]) (fun n1 v1_0 => a0.Zb.length < n1 + v1_0 ∧ v1_0 ≤ a0.Zb.length) (a0.Zb.length + 1) 0 (fun p1 v1_0 e1 j1 => ?_)
 refine cF e1 (fun k2 h1 e1 => ?_) (fun k2 h1 e1 => ?_)
 ·have i1 : v1_0 < a0.Zb.length := by (simp at h1; omega)
  have m2 := ml a0.Zb (k2 8 _ rfl)
  have w1 := wr v1_0
  refine dIo mixed ?_
  have i2 := ik v1_0 a1.Zb
  simp [i1, ZA, i2]
  repeat with_reducible refine sd ?_
  refine cF e1 (fun k4 h2 e1 => ?_) (fun k4 h2 e1 => ?_)
  ·refine okD fun k5 => ?_
   refine dIo mixed ?_
   have f := ms f e1
   simp [i1, ZA, i2]
   repeat with_reducible refine sd ?_
   exact rt [.tmp 4] f
  exact ny1 w1 e1
 have f := ms f e1
 refine cF f (fun k6 h3 f => ?_) (fun k6 h3 f => ?_)
 ·exact rt [.tmp 4] f
 refine cF f (fun k7 h4 f => ?_) (fun k7 h4 f => ?_)
 ·exact rt [.tmp 4] f
 exact rt [.tmp 4] f
theorem ZQN (a0 : List ZB) (a1 : ZB) (u0 : Sm 2334720 a0) (u1 : Sm 2334720 a1) : Sa 243 [rL 3 ZB.row a0, a1.row] [rL 3 ZB.row (yr a0 a1)] := by
 have f := me (yr.eq_1 a0 a1)
 refine so Tryz.func243 Tryz.ntmps243 ?_
 refine lp1 (QU.eq_2 a0 a1) (fun v1_0 => Yc 46 [eL 0 3 a0 ZB.row, eX 3 (a1.row.map .d), eI 5 (↑v1_0 : Int)]) (fun n1 v1_0 => a0.length < n1 + v1_0 ∧ v1_0 ≤ a0.length) (a0.length + 1) 0 (fun p1 v1_0 e1 j1 => ?_)
 refine dIs mixed ?_
 refine gIf (fun G => ?_) (fun G => ?_)
 ·have i1 := ik v1_0 a0
  simp [i1, ZA, G]
  repeat with_reducible refine sdg ?_
  refine cGg (fun gg => (ZIS (nth a0 v1_0) a1)) ?_
  refine cK e1 (fun k3 h1 e1 => ?_) (fun k3 h1 e1 => ?_)
  ·try (simp [G] at h1; done)
   all_goals
    have i2 : v1_0 < a0.length := by (simp at h1; omega)
    have m2 := ml a0 (k3 0 _ rfl)
    have c1 := sl 2334720 a0 (an u0 u1)
    have w1 := wr v1_0
    exact ny1 (an w1 G) e1
  ·try (simp [G] at h1; done)
   all_goals
    have c2 := sl 2334720 a0 (an u0 u1)
    have f := ms f e1
    refine dIg mixed ?_
    refine gJf G (fun G => ?_) (fun G => ?_)
    ·try (simp at G; done)
     all_goals
      simp [i1, ZA, G]
      repeat with_reducible refine sdg ?_
      refine cGg (fun gg => (qP (nth a0 v1_0) a1)) ?_
      refine cK f (fun k5 h2 f => ?_) (fun k5 h2 f => ?_)
      ·try (simp [G] at h2; done)
       all_goals
        exact rtg [.tmp 4] f
      ·try (simp [G] at h2; done)
       all_goals
        refine dIg mixed ?_
        refine eIg ?_
        have c3 := sl 2334720 (a0.take v1_0) (an u0 u1)
        refine eIg ?_
        refine cRg (Yb.rd (qv a1 (sg u1))) ?_
        refine eIg ?_
        refine eIg ?_
        have c4 := sl 2334720 (a0.drop v1_0) (an u0 u1)
        refine eIg ?_
        exact rtg [.tmp 4] f
    ·try (simp at G; done)
     all_goals
      refine sGo ?_
      simp [G]
      repeat with_reducible refine sdg ?_
      refine cK f (fun k7 h3 f => ?_) (fun k7 h3 f => ?_)
      ·try (simp [G] at h3; done)
       all_goals
        exact rtg [.tmp 4] f
      ·try (simp [G] at h3; done)
       all_goals
        refine dIg mixed ?_
        refine eIg ?_
        have c5 := sl 2334720 (a0.take v1_0) (an u0 u1)
        refine eIg ?_
        refine cRg (Yb.rd (qv a1 (sg u1))) ?_
        refine eIg ?_
        refine eIg ?_
        have c6 := sl 2334720 (a0.drop v1_0) (an u0 u1)
        refine eIg ?_
        exact rtg [.tmp 4] f
 ·refine sGo ?_
  simp [G]
  repeat with_reducible refine sdg ?_
  refine cK e1 (fun k9 h4 e1 => ?_) (fun k9 h4 e1 => ?_)
  ·try (simp [G] at h4; done)
   all_goals
    have i4 : v1_0 < a0.length := by (simp at h4; omega)
    have m4 := ml a0 (k9 0 _ rfl)
    have c7 := sl 2334720 a0 (an u0 u1)
    have w2 := wr v1_0
    exact ny1 (an w2 G) e1
  ·try (simp [G] at h4; done)
   all_goals
    have c8 := sl 2334720 a0 (an u0 u1)
    have f := ms f e1
    refine dIg mixed ?_
    refine gJf G (fun G => ?_) (fun G => ?_)
    ·try (simp at G; done)
     all_goals
      have i5 := ik v1_0 a0
      simp [i5, ZA, G]
      repeat with_reducible refine sdg ?_
      refine cGg (fun gg => (qP (nth a0 v1_0) a1)) ?_
      refine cK f (fun k11 h5 f => ?_) (fun k11 h5 f => ?_)
      ·try (simp [G] at h5; done)
       all_goals
        exact rtg [.tmp 4] f
      ·try (simp [G] at h5; done)
       all_goals
        refine dIg mixed ?_
        refine eIg ?_
        have c9 := sl 2334720 (a0.take v1_0) (an u0 u1)
        refine eIg ?_
        refine cRg (Yb.rd (qv a1 (sg u1))) ?_
        refine eIg ?_
        refine eIg ?_
        have c10 := sl 2334720 (a0.drop v1_0) (an u0 u1)
        refine eIg ?_
        exact rtg [.tmp 4] f
    ·try (simp at G; done)
     all_goals
      refine sGo ?_
      simp [G]
      repeat with_reducible refine sdg ?_
      refine cK f (fun k13 h6 f => ?_) (fun k13 h6 f => ?_)
      ·try (simp [G] at h6; done)
       all_goals
        exact rtg [.tmp 4] f
      ·try (simp [G] at h6; done)
       all_goals
        refine dIg mixed ?_
        refine eIg ?_
        have c11 := sl 2334720 (a0.take v1_0) (an u0 u1)
        refine eIg ?_
        refine cRg (Yb.rd (qv a1 (sg u1))) ?_
        refine eIg ?_
        refine eIg ?_
        have c12 := sl 2334720 (a0.drop v1_0) (an u0 u1)
        refine eIg ?_
        exact rtg [.tmp 4] f
theorem ZHO (a0 : ZF) (a1 : ZI) (a2 : List (List Int)) (u0 : Sm 2285568 a0) (u1 : Sm 2285568 a1) (u2 : Sm 2285568 a2) (u3 : ZQt a1 ≤ 2097152) : Sa 177 [a0.row, a1.row, rL 1 (slR 1 iR) a2] [rL 3 ZB.row (Zu a0 a1 a2)] := by
 have f := me (Zu.eq_1 a0 a1 a2)
 refine so Tryz.func177 Tryz.ntmps177 ?_
 refine eIs ?_
 refine lp2 (Qv.eq_2 a0 a1 a2) (fun v1_0 v1_1 => Yc 48 [eL 2 1 a2 (slR 1 iR), eX 3 (a0.row.map .d), eX 4 (a1.row.map .d), eL 7 3 v1_0 ZB.row, eI 8 (↑v1_1 : Int)]) (fun n1 v1_0 v1_1 => a1.ZK.length < n1 + v1_1 ∧ v1_1 ≤ a1.ZK.length ∧ v1_0.length + cnL (fun s : ZN => s.ZZ.length) (a1.ZK.drop v1_1) ≤ 2097152 ∧ Sm 2285568 v1_0) (a1.ZK.length + 1) ([] : List ZB) 0 (fun p1 v1_0 v1_1 e1 j1 => ?_) (hI := by (have u : cnL (fun s : ZN => s.ZZ.length) a1.ZK ≤ 2097152 := u3; (try dsimp only); refine ⟨by omega, by omega, by omega, ?_, ⟨Nat.zero_le _, fun x hx => by cases hx⟩⟩; rw [List.drop_zero]; simp only [List.length_nil]; omega)) (h0 := Yh [] [(11, 0)] rfl (by simp))
 try dsimp only at j1
 refine cF e1 (fun k2 h1 e1 => ?_) (fun k2 h1 e1 => ?_)
 ·have i1 := ix h1
  have m2 := ml a1.ZK (k2 14 _ rfl)
  have c1 := sl 2285568 a1.ZK (an u0 (an u1 (an u2 u3)))
  have w1 := wr v1_1
  refine ZXQ (Xn.eq_2 a0 a1 a2 v1_1) (fun v2_0 v2_1 => Yc 48 [eL 2 1 a2 (slR 1 iR), eX 3 (a0.row.map .d), eX 4 (a1.row.map .d), eL 7 3 v2_0 ZB.row, eI 8 (↑v1_1 : Int), eI 9 (↑v2_1 : Int)]) (fun n2 v2_0 v2_1 => (nth a1.ZK v1_1).ZZ.length < n2 + v2_1 ∧ v2_1 ≤ (nth a1.ZK v1_1).ZZ.length ∧ v2_0.length + ((nth a1.ZK v1_1).ZZ.length - v2_1) + cnL (fun s : ZN => s.ZZ.length) (a1.ZK.drop (v1_1 + 1)) ≤ 2097152 ∧ Sm 2285568 v2_0) ((nth a1.ZK v1_1).ZZ.length + 1) v1_0 0 (fun p2 v2_0 v2_1 e2 j2 => ?_) (hI := by (have d := ZKr (l := a1.ZK) (i := v1_1) (by first | omega | (simp at *; omega)); refine ⟨?_, ?_, ?_, ?_, j1.2.2.2.2⟩ <;> ((try dsimp only); omega)))
  try dsimp only at j2
  simp [i1, ZA]
  repeat with_reducible refine sd ?_
  refine cFf e2 (fun k4 h2 e2 => ?_) (fun k4 h2 e2 => ?_)
  ·have i2 := ix h2
   have m4 := ml (nth a1.ZK v1_1).ZZ (k4 25 _ rfl)
   have c2 := sl 2285568 (nth a1.ZK v1_1).ZZ (an u0 (an u1 (an u2 u3)))
   have w2 := wr v2_1
   simp [i1, ZA, i2]
   repeat with_reducible refine sd ?_
   refine cRs (ZL9 a0 a1 a2 (nth (nth a1.ZK v1_1).ZZ v2_1) (by first | exact sg u0 | exact sg u1 | exact sg u2 | exact sg (Z2 (ZN.Y4 (Z2 (ZI.Yr u1))))) (by first | exact sg u0 | exact sg u1 | exact sg u2 | exact sg (Z2 (ZN.Y4 (Z2 (ZI.Yr u1))))) (by first | exact sg u0 | exact sg u1 | exact sg u2 | exact sg (Z2 (ZN.Y4 (Z2 (ZI.Yr u1))))) (by first | exact sg u0 | exact sg u1 | exact sg u2 | exact sg (Z2 (ZN.Y4 (Z2 (ZI.Yr u1)))))) ?_
   refine cF e2 (fun k5 h3 e2 => ?_) (fun k5 h3 e2 => ?_)
   ·refine cRs (ZQN v2_0 (nth (nth a1.ZK v1_1).ZZ v2_1) (by first | exact sg j2.2.2.2.2 | exact sg (Z2 (ZN.Y4 (Z2 (ZI.Yr u1))))) (by first | exact sg j2.2.2.2.2 | exact sg (Z2 (ZN.Y4 (Z2 (ZI.Yr u1)))))) ?_
    exact ny2 (an w1 w2) e2 (hI := by first | (refine ⟨?_, ?_, ?_, ?_, j2.2.2.2.2⟩ <;> ((try dsimp only); omega)) | (have pk : Sm 2285568 (nth (nth a1.ZK v1_1).ZZ v2_1) := Z2 (ZN.Y4 (Z2 (ZI.Yr u1))); have z := ZBO v2_0 (nth (nth a1.ZK v1_1).ZZ v2_1); refine ⟨?_, ?_, ?_, ?_, ZFc j2.2.2.2.2 pk (by omega)⟩ <;> ((try dsimp only); omega)))
   exact ny2 (an w1 w2) e2 (hI := by first | (refine ⟨?_, ?_, ?_, ?_, j2.2.2.2.2⟩ <;> ((try dsimp only); omega)) | (have pk : Sm 2285568 (nth (nth a1.ZK v1_1).ZZ v2_1) := Z2 (ZN.Y4 (Z2 (ZI.Yr u1))); have z := ZBO v2_0 (nth (nth a1.ZK v1_1).ZZ v2_1); refine ⟨?_, ?_, ?_, ?_, ZFc j2.2.2.2.2 pk (by omega)⟩ <;> ((try dsimp only); omega)))
  have c3 := sl 2285568 (nth a1.ZK v1_1).ZZ (an u0 (an u1 (an u2 u3)))
  have e1 := ms e1 e2
  exact ny2 w1 e1 (hI := by (refine ⟨?_, ?_, ?_, ?_, j2.2.2.2.2⟩ <;> ((try dsimp only); omega)))
 have c4 := sl 2285568 a1.ZK (an u0 (an u1 (an u2 u3)))
 have f := ms f e1
 exact rt [.tmp 6] f
theorem ZGQ (a0 : YH) : Sa 284 [a0.row] [(xj a0).row] := by
 have f := me (xj.eq_1 a0)
 refine so Tryz.func284 Tryz.ntmps284 ?_
 exact rt [.cell 2 77] f
theorem ZQp (a0 : YH) : Sa 223 [a0.row] [rB (ZFX a0)] := by
 have f := me (ZFX.eq_1 a0)
 refine so Tryz.func223 Tryz.ntmps223 ?_
 refine cRs (Ye a0.YO 1 999) ?_
 refine cGs (fun gg => (Ye a0.Key 1 99)) ?_
 refine cGs (fun gg => (Ye a0.Qs 1 99)) ?_
 refine cGs (fun gg => (Ye a0.Kb 0 99)) ?_
 refine cGs (fun gg => (ZGQ a0)) ?_
 refine cGs (fun gg => (Xc (xj a0))) ?_
 exact rt [.tmp 2] f
theorem ZNZ (a0 : YH) : Sd 225 [a0.row] [rL 1 iR (ya a0)] := by
 have f := me (ya.eq_1 a0)
 refine soD Tryz.func225 Tryz.ntmps225 ?_
 exact rtD [.tmp 2] f
theorem ZHK (a0 : List YC) (a1 : Int) : Sa 226 [rL 5 YC.row a0, rI a1] [rI (ZBR a0 a1)] := by
 have f := me (ZBR.eq_1 a0 a1)
 refine so Tryz.func226 Tryz.ntmps226 ?_
 refine cRs (K0 a0 a1) ?_
 refine cFt f (fun k1 h1 f => ?_) (fun k1 h1 f => ?_)
 ·exact rt [.tmp 4] f
 have i1 : (Y0 a0 a1).toNat < a0.length := by have := J2 a0 a1; exact il
 simp [i1, ZA]
 repeat with_reducible refine sd ?_
 exact rt [.tmp 4] f
theorem ZLi (a0 : List YC) (a1 : YH) (u0 : Sm 2318336 a0) : Sa 157 [rL 5 YC.row a0, a1.row] [rB (ZAX a0 a1)] := by
 have f := me (ZAX.eq_1 a0 a1)
 refine so Tryz.func157 Tryz.ntmps157 ?_
 refine dIs mixed ?_
 refine cRs (ZQp a1) ?_
 refine cGs (fun gg => Yb.rd (ZNZ a1)) ?_
 refine cGs (fun gg => (jq a0 a1.Qs (ya a1) a1.Mark (sg u0) (by simp (maxDischargeDepth := 12) [ZNN, ZX (m := 2322432) (by decide) u0]; try omega))) ?_
 refine cGs (fun gg => (ZHK a0 a1.Key)) ?_
 exact rt [.tmp 4] f
theorem ZPk (a0 : ZF) (a1 : List ZB) (a2 : ZY) (u0 : Sm 2314240 a0) (u1 : Sm 2314240 a1) : Sa 178 [a0.row, rL 3 ZB.row a1, a2.row] [(QP a0 a1 a2).1.row, rB (QP a0 a1 a2).2] := by
 have f := me (QP.eq_1 a0 a1 a2)
 refine so Tryz.func178 Tryz.ntmps178 ?_
 refine lp9 (ji.eq_2 a0 a1 a2) (fun v1_0 v1_1 v1_2 v1_3 v1_4 v1_5 v1_6 v1_7 v1_8 => Yc 56 [eL 1 3 a1 ZB.row, eX 3 (a0.row.map .d), eX 5 (a2.row.map .d), (6, .one (.bptr 6 0), [.box [.d (.int .i64 0), .d (.int .i64 0), .d (.int .i64 0), .d (.int .i64 0), .d (.int .i64 0), .d (.int .i64 0), .d (.int .i64 0)]]), (8, .one (.bptr 8 0), [.box [.d (.int .i64 v1_2), .d (.int .i64 v1_3), .d (.int .i64 v1_4), .d (.int .i64 v1_5), .d (.int .i64 v1_6), .d (.int .i64 v1_7), .d (.int .i64 v1_8)]]), eI 9 v1_0, eI 10 (↑v1_1 : Int)]) (fun n1 v1_0 v1_1 v1_2 v1_3 v1_4 v1_5 v1_6 v1_7 v1_8 => a1.length < n1 + v1_1 ∧ v1_1 ≤ a1.length) (a1.length + 1) 0 0 0 0 0 0 0 0 0 (fun p1 v1_0 v1_1 v1_2 v1_3 v1_4 v1_5 v1_6 v1_7 v1_8 e1 j1 => ?_)
 refine cFf e1 (fun k2 h1 e1 => ?_) (fun k2 h1 e1 => ?_)
 ·have i1 := ix h1
  have m2 := ml a1 (k2 1 _ rfl)
  have c1 := sl 2314240 a1 (an u0 u1)
  have w1 := wr v1_1
  simp [i1, ZA]
  repeat with_reducible refine sd ?_
  refine cRs (ZE7 (nth a1 v1_1)) ?_
  refine cGs (fun gg => (ZLi a0.Y3 (Xd (nth a1 v1_1)).1 (sg (ZF.Ym u0)))) ?_
  refine cF e1 (fun k3 h2 e1 => ?_) (fun k3 h2 e1 => ?_)
  ·exact ny9 w1 e1
  exact ny9 w1 e1
 have c2 := sl 2314240 a1 (an u0 u1)
 have f := ms f e1
 refine cF f (fun k4 h3 f => ?_) (fun k4 h3 f => ?_)
 ·exact rt [.cell 6 168, .tmp 7] f
 exact rt [.cell 6 168, .tmp 7] f
theorem ZCf (a0 : Int) (a1 : List Za) (u0 : Sm 2326528 a1) : Sa 245 [rI a0, rL 5 Za.row a1] [rI (zu a0 a1)] := by
 have f := me (zu.eq_1 a0 a1)
 refine so Tryz.func245 Tryz.ntmps245 ?_
 refine cF f (fun k1 h1 f => ?_) (fun k1 h1 f => ?_)
 ·exact rt [.tmp 4] f
 refine lp2 (zb.eq_2 a1) (fun v1_0 v1_1 => Yc 29 [eI 0 a0, eL 1 5 a1 Za.row, (5, .one (.sref 5 0 0 v1_0.length), [.arr false 1 (v1_0.map iR)]), eI 6 (↑v1_1 : Int)]) (fun n1 v1_0 v1_1 => a1.length < n1 + v1_1 ∧ v1_1 ≤ a1.length ∧ v1_0.length ≤ 0 + 1 * v1_1) (a1.length + 1) ([] : List Int) 0 (fun p1 v1_0 v1_1 e1 j1 => ?_) (h0 := Yh [((5, 0), some (10, 0))] [] rfl (by simp))
 refine cFf e1 (fun k3 h2 e1 => ?_) (fun k3 h2 e1 => ?_)
 ·have i1 := ix h2
  have m2 := ml a1 (k3 1 _ rfl)
  have c1 := sl 2326528 a1 u0
  have w1 := wr v1_1
  simp [i1, ZA]
  repeat with_reducible refine sd ?_
  exact nx2 e1 (hw := Yh [((5, 0), some (24, 0))] [] rfl (by simp [w1]))
 have c2 := sl 2326528 a1 u0
 have f := ms f e1
 refine cRs (J9 a0 v1_0 (by first | (simp (maxDischargeDepth := 12) [Xr]; omega) | (simp (maxDischargeDepth := 12) [ZX (m := 68719476736) (by decide) u0]; done))) ?_
 refine cRs (Xi 1 (Qz a0 v1_0)) ?_
 exact rt [.tmp 4] f
theorem ZEr (a0 : Int) (a1 : Za) : Sd 298 [rI a0, a1.row] [(yZ a0 a1).row] := by
 have f := me (yZ.eq_1 a0 a1)
 refine soD Tryz.func298 Tryz.ntmps298 ?_
 refine dIs mixed ?_
 refine cDs [false] (ZBo a1) ?_
 exact rtD [.cell 4 194] f
theorem ZJI (a0 : List ZB) (a1 : ZB) : Sa 297 [rL 3 ZB.row a0, a1.row] [rB (ZFg a0 a1)] := by
 have f := me (ZFg.eq_1 a0 a1)
 refine so Tryz.func297 Tryz.ntmps297 ?_
 refine lp1 (ZBg.eq_2 a0 a1) (fun v1_0 => Yc 18 [eL 0 3 a0 ZB.row, eX 3 (a1.row.map .d), eI 5 (↑v1_0 : Int)]) (fun n1 v1_0 => a0.length < n1 + v1_0 ∧ v1_0 ≤ a0.length) (a0.length + 1) 0 (fun p1 v1_0 e1 j1 => ?_)
 refine cF e1 (fun k2 h1 e1 => ?_) (fun k2 h1 e1 => ?_)
 ·have i1 := ix h1
  have m2 := ml a0 (k2 0 _ rfl)
  have w1 := wr v1_0
  refine dIo mixed ?_
  simp [i1, ZA]
  repeat with_reducible refine sd ?_
  refine cRs (qP (nth a0 v1_0) a1) ?_
  refine cF e1 (fun k4 h2 e1 => ?_) (fun k4 h2 e1 => ?_)
  ·have f := ms f e1
   exact rt [.tmp 4] f
  exact ny1 w1 e1
 have f := ms f e1
 exact rt [.tmp 4] f
theorem ZGW (a0 : ZF) (a1 : List ZB) (a2 : List Za) (u0 : Sm 2318336 a0) (u1 : Sm 2318336 a1) (u2 : Sm 2318336 a2) : Sa 246 [a0.row, rL 3 ZB.row a1, rL 5 Za.row a2] [rI (KQ a0 a1 a2).1, rB (KQ a0 a1 a2).2] := by
 have f := me (KQ.eq_1 a0 a1 a2)
 refine so Tryz.func246 Tryz.ntmps246 ?_
 refine lp2 (jr.eq_2 a0 a1 a2) (fun v1_0 v1_1 => Yc 82 [eL 1 3 a1 ZB.row, eL 2 5 a2 Za.row, eX 3 (a0.row.map .d), (8, .one (.sref 8 0 0 v1_0.length), [.arr false 2 (v1_0.map ZD.row)]), eI 9 (↑v1_1 : Int)]) (fun n1 v1_0 v1_1 => a2.length < n1 + v1_1 ∧ v1_1 ≤ a2.length ∧ v1_0.length ≤ 0 + 1 * v1_1) (a2.length + 1) ([] : List ZD) 0 (fun p1 v1_0 v1_1 e1 j1 => ?_) (h0 := Yh [((8, 0), some (14, 0))] [] rfl (by simp))
 refine cF e1 (fun k2 h1 e1 => ?_) (fun k2 h1 e1 => ?_)
 ·have i1 := ix h1
  have m2 := ml a2 (k2 2 _ rfl)
  have c1 := sl 2318336 a2 (an u0 (an u1 u2))
  have w1 := wr v1_1
  refine dIo mixed ?_
  simp [i1, ZA]
  repeat with_reducible refine sd ?_
  refine cRs (ZFW a0.ZT (nth a2 v1_1)) ?_
  refine dIs mixed ?_
  refine gIf (fun G => ?_) (fun G => ?_)
  ·have i2 := ik (v1_1 - 1) a2
   have w2 : IntKind.i64.wrap ((v1_1 : Int) - 1) = (v1_1 : Int) - 1 := Yd (by omega) (by omega)
   simp [i2, ZA, w2, QW, G]
   repeat with_reducible refine sdg ?_
   refine gK (fun _ => ?_)
   simp [i1, ZA, G]
   repeat with_reducible refine sdg ?_
   refine gJf G (fun G => ?_) (fun G => ?_)
   ·try (simp at G; done)
    all_goals
     simp [i1, ZA, G]
     repeat with_reducible refine sdg ?_
     refine cGg (fun gg => (ZC3 a0.ZT (nth a2 v1_1))) ?_
     refine gK (fun _ => ?_)
     simp [i1, ZA, G]
     repeat with_reducible refine sdg ?_
     refine cGg (fun gg => Yb.rd (ZEr (X6 a0.ZT (nth a2 v1_1)) (nth a2 v1_1))) ?_
     refine cGg (fun gg => (ZJI a1 (yZ (X6 a0.ZT (nth a2 v1_1)) (nth a2 v1_1)))) ?_
     refine cK e1 (fun k5 h2 e1 => ?_) (fun k5 h2 e1 => ?_)
     ·try (simp [G] at h2; done)
      all_goals
       have f := ms f e1
       exact rtg [.tmp 6, .tmp 7] f
     ·try (simp [G] at h2; done)
      all_goals
       exact nx2 e1 (hw := Yh [((8, 0), some (71, 0))] [] rfl (by simp [w1, w2, G]))
   ·try (simp at G; done)
    all_goals
     refine sGo ?_
     simp [G]
     repeat with_reducible refine sdg ?_
     refine sGg ?_
     refine sGo ?_
     simp [G]
     repeat with_reducible refine sdg ?_
     refine sGo ?_
     simp [G]
     repeat with_reducible refine sdg ?_
     refine cK e1 (fun k6 h3 e1 => ?_) (fun k6 h3 e1 => ?_)
     ·try (simp [G] at h3; done)
      all_goals
       have f := ms f e1
       exact rtg [.tmp 6, .tmp 7] f
     ·try (simp [G] at h3; done)
      all_goals
       exact nx2 e1 (hw := Yh [((8, 0), some (71, 0))] [] rfl (by simp [w1, w2, G]))
  ·refine sGg ?_
   refine gJf G (fun G => ?_) (fun G => ?_)
   ·try (simp at G; done)
    all_goals
     simp [i1, ZA, G]
     repeat with_reducible refine sdg ?_
     refine cGg (fun gg => (ZC3 a0.ZT (nth a2 v1_1))) ?_
     refine gK (fun _ => ?_)
     simp [i1, ZA, G]
     repeat with_reducible refine sdg ?_
     refine cGg (fun gg => Yb.rd (ZEr (X6 a0.ZT (nth a2 v1_1)) (nth a2 v1_1))) ?_
     refine cGg (fun gg => (ZJI a1 (yZ (X6 a0.ZT (nth a2 v1_1)) (nth a2 v1_1)))) ?_
     refine cK e1 (fun k7 h4 e1 => ?_) (fun k7 h4 e1 => ?_)
     ·try (simp [G] at h4; done)
      all_goals
       have f := ms f e1
       exact rtg [.tmp 6, .tmp 7] f
     ·try (simp [G] at h4; done)
      all_goals
       exact nx2 e1 (hw := Yh [((8, 0), some (71, 0))] [] rfl (by simp [w1, G]))
   ·try (simp at G; done)
    all_goals
     refine sGo ?_
     simp [G]
     repeat with_reducible refine sdg ?_
     refine sGg ?_
     refine sGo ?_
     simp [G]
     repeat with_reducible refine sdg ?_
     refine sGo ?_
     simp [G]
     repeat with_reducible refine sdg ?_
     refine cK e1 (fun k8 h5 e1 => ?_) (fun k8 h5 e1 => ?_)
     ·try (simp [G] at h5; done)
      all_goals
       have f := ms f e1
       exact rtg [.tmp 6, .tmp 7] f
     ·try (simp [G] at h5; done)
      all_goals
       exact nx2 e1 (hw := Yh [((8, 0), some (71, 0))] [] rfl (by simp [w1, G]))
 have c2 := sl 2318336 a2 (an u0 (an u1 u2))
 have f := ms f e1
 refine cRs (ZEv v1_0 a0.Q6 (by first | (simp (maxDischargeDepth := 12) [Xr]; omega) | (simp (maxDischargeDepth := 12) [ZX (m := 2322432) (by decide) u0, ZX (m := 2322432) (by decide) u1, ZX (m := 2322432) (by decide) u2]; done))) ?_
 exact rt [.tmp 6, .tmp 7] f
theorem ZLt (a0 : ZF) (a1 : ZI) (a2 : List ZB) (a3 : ZY) (u0 : Sm 2314240 a0) (u1 : Sm 2314240 a1) (u2 : Sm 2314240 a2) : Sa 179 [a0.row, a1.row, rL 3 ZB.row a2, a3.row] [rI (Xu a0 a1 a2 a3)] := by
 have f := me (Xu.eq_1 a0 a1 a2 a3)
 refine so Tryz.func179 Tryz.ntmps179 ?_
 refine cRs (K0 a0.Y3 a3.Key) ?_
 refine cFf f (fun k1 h1 f => ?_) (fun k1 h1 f => ?_)
 ·have i1 : (Y0 a0.Y3 a3.Key).toNat < a0.Y3.length := by have := J2 a0.Y3 a3.Key; exact il
  simp [i1, ZA]
  repeat with_reducible refine sd ?_
  refine lp2 (QT.eq_2 a0 a1 a2 a3) (fun v1_0 v1_1 => Yc 66 [eL 2 3 a2 ZB.row, eX 4 (a0.row.map .d), eX 5 (a1.row.map .d), eX 7 (a3.row.map .d), eI 9 v1_0, eI 11 (↑v1_1 : Int)]) (fun n1 v1_0 v1_1 => a1.Zz.length < n1 + v1_1 ∧ v1_1 ≤ a1.Zz.length) (a1.Zz.length + 1) (nth a0.Y3 (Y0 a0.Y3 a3.Key).toNat).ZIX 0 (fun p1 v1_0 v1_1 e1 j1 => ?_)
  refine cF e1 (fun k3 h2 e1 => ?_) (fun k3 h2 e1 => ?_)
  ·have i2 : v1_1 < a1.Zz.length := by (simp at h2; omega)
   have m2 := ml a1.Zz (k3 29 _ rfl)
   have c1 := sl 2314240 a1.Zz (an u0 (an u1 u2))
   have w1 := wr v1_1
   refine dIo mixed ?_
   simp [i2, ZA]
   repeat with_reducible refine sd ?_
   refine cRs (ZCf a3.Method (nth a1.Zz v1_1) (sg (Z2 (ZI.j9 u1)))) ?_
   refine cF e1 (fun k5 h3 e1 => ?_) (fun k5 h3 e1 => ?_)
   ·exact ny2 w1 e1
   refine dIo mixed ?_
   simp [i2, ZA]
   repeat with_reducible refine sd ?_
   refine cRs (ZGW a0 a2 (nth a1.Zz v1_1) (sg u0) (sg u2) (sg (Z2 (ZI.j9 u1)))) ?_
   refine cF e1 (fun k7 h4 e1 => ?_) (fun k7 h4 e1 => ?_)
   ·refine cRs (Xi v1_0 (KQ a0 a2 (nth a1.Zz v1_1)).1) ?_
    exact ny2 w1 e1
   exact ny2 w1 e1
  have c2 := sl 2314240 a1.Zz (an u0 (an u1 u2))
  have f := ms f e1
  exact rt [.tmp 8] f
 refine lp2 (zE.eq_2 a0 a1 a2 a3) (fun v2_0 v2_1 => Yc 66 [eL 2 3 a2 ZB.row, eX 4 (a0.row.map .d), eX 5 (a1.row.map .d), eX 7 (a3.row.map .d), eI 9 v2_0, eI 11 (↑v2_1 : Int)]) (fun n2 v2_0 v2_1 => a1.Zz.length < n2 + v2_1 ∧ v2_1 ≤ a1.Zz.length) (a1.Zz.length + 1) 0 0 (fun p2 v2_0 v2_1 e2 j2 => ?_)
 refine cF e2 (fun k9 h5 e2 => ?_) (fun k9 h5 e2 => ?_)
 ·have i3 : v2_1 < a1.Zz.length := by (simp at h5; omega)
  have m4 := ml a1.Zz (k9 29 _ rfl)
  have c3 := sl 2314240 a1.Zz (an u0 (an u1 u2))
  have w2 := wr v2_1
  refine dIo mixed ?_
  simp [i3, ZA]
  repeat with_reducible refine sd ?_
  refine cRs (ZCf a3.Method (nth a1.Zz v2_1) (sg (Z2 (ZI.j9 u1)))) ?_
  refine cF e2 (fun k11 h6 e2 => ?_) (fun k11 h6 e2 => ?_)
  ·exact ny2 w2 e2
  refine dIo mixed ?_
  simp [i3, ZA]
  repeat with_reducible refine sd ?_
  refine cRs (ZGW a0 a2 (nth a1.Zz v2_1) (sg u0) (sg u2) (sg (Z2 (ZI.j9 u1)))) ?_
  refine cF e2 (fun k13 h7 e2 => ?_) (fun k13 h7 e2 => ?_)
  ·refine cRs (Xi v2_0 (KQ a0 a2 (nth a1.Zz v2_1)).1) ?_
   exact ny2 w2 e2
  exact ny2 w2 e2
 have c4 := sl 2314240 a1.Zz (an u0 (an u1 u2))
 have f := ms f e2
 exact rt [.tmp 8] f
theorem ZIj (a0 : List ZB) (a1 : YH) (u0 : Sm 2330624 a0) : Sd 180 [rL 3 ZB.row a0, a1.row] [rL 5 Zy.row (JB a0 a1)] := by
 have f := me (JB.eq_1 a0 a1)
 refine soD Tryz.func180 Tryz.ntmps180 ?_
 refine lp2 (Jk.eq_2 a0 a1) (fun v1_0 v1_1 => Yc 44 [eL 0 3 a0 ZB.row, eX 3 (a1.row.map .d), (5, .one (.sref 5 0 0 v1_0.length), [.arr false 5 (v1_0.map Zy.row)]), eI 6 (↑v1_1 : Int)]) (fun n1 v1_0 v1_1 => a0.length < n1 + v1_1 ∧ v1_1 ≤ a0.length ∧ v1_0.length ≤ 0 + 1 * v1_1) (a0.length + 1) ([] : List Zy) 0 (fun p1 v1_0 v1_1 e1 j1 => ?_) (h0 := Yh [((5, 0), some (9, 0))] [] rfl (by simp))
 refine cFf e1 (fun k2 h1 e1 => ?_) (fun k2 h1 e1 => ?_)
 ·have i1 := ix h1
  have m2 := ml a0 (k2 0 _ rfl)
  have c1 := sl 2330624 a0 u0
  have w1 := wr v1_1
  simp [i1, ZA]
  repeat with_reducible refine sd ?_
  refine cRs (ZDh (nth a0 v1_1)) ?_
  refine cF e1 (fun k3 h2 e1 => ?_) (fun k3 h2 e1 => ?_)
  ·exact nx2 e1 (hw := Yh [((5, 0), some (42, 0))] [] rfl (by simp [w1]))
  exact ny2 w1 e1
 have c2 := sl 2330624 a0 u0
 have f := ms f e1
 exact rtD [.tmp 4] f
theorem xJ (a0 : List ZD) (a1 : Int) (a2 : Int) (u0 : Sm 2334720 a0) : ZL8 Tryz.prog 303 2 (a0.map ZD.row) [rI a1, rI a2] ((XM a0 a1 a2).map ZD.row) := by
 refine ZTV Tryz.func303 rfl (by kernel_rfl) (by simp [zq]) ?_
 simp [Tryz.ntmps303]
 refine cR (ql a1 a2) ?_
 simp
 refine cC (!(Xo a1 a2).2) (fun k1 h1 => ?_) (fun k1 h1 => ?_)
 ·have q1 := h1; try simp at q1
  simp
  refine ZW4 (rv := [.tmp 6]) ((.sref 0 0 0 a0.length)) rfl ?_
  have f1 := XM.eq_1 a0 a1 a2; simp only [h1, ZC2, ZCz] at f1; simp [f1]
  all_goals ((rintro r (⟨a, _, rfl⟩ | rfl) x hx <;> simp at hx <;> rcases hx with rfl | rfl <;> rfl))
 ·have q1 := h1; try simp at q1
  have c1 : a0.length ≤ 2334720 := Yw (by simp (maxDischargeDepth := 12) [u0])
  simp
  repeat with_reducible refine sd ?_
  refine ZW4 (rv := [.tmp 6]) ((.sref 21 0 0 (a0 ++ ([(Xo a1 a2).1] : List ZD)).length)) rfl ?_
  have f2 := XM.eq_1 a0 a1 a2; simp only [h1, ZC2, ZCz] at f2; simp [f2]
  all_goals ((rintro r (⟨a, _, rfl⟩ | rfl) x hx <;> simp at hx <;> rcases hx with rfl | rfl <;> rfl))
theorem ZBI (a0 : List Zy) (a1 : Int) : Sa 304 [rL 5 Zy.row a0, rI a1] [rI (Qk a0 a1)] := by
 have f := me (Qk.eq_1 a0 a1)
 refine so Tryz.func304 Tryz.ntmps304 ?_
 refine lp3 (xu.eq_2 a0 a1) (fun v1_0 v1_1 v1_2 => Yc 47 [eL 0 5 a0 Zy.row, eI 1 a1, eI 5 v1_0, eI 6 v1_1, eI 7 (↑v1_2 : Int)]) (fun n1 v1_0 v1_1 v1_2 => a0.length < n1 + v1_2 ∧ v1_2 ≤ a0.length) (a0.length + 1) (-1) (-1) 0 (fun p1 v1_0 v1_1 v1_2 e1 j1 => ?_)
 refine cFf e1 (fun k2 h1 e1 => ?_) (fun k2 h1 e1 => ?_)
 ·have i1 := ix h1
  have m2 := ml a0 (k2 0 _ rfl)
  have w1 := wr v1_2
  simp [i1, ZA]
  repeat with_reducible refine sd ?_
  refine cFt e1 (fun k3 h2 e1 => ?_) (fun k3 h2 e1 => ?_)
  ·exact ny3 w1 e1
  simp [i1, ZA]
  repeat with_reducible refine sd ?_
  refine cFo e1 (fun k4 h3 e1 => ?_) (fun k4 h3 e1 => ?_)
  ·simp [i1, ZA]
   repeat with_reducible refine sd ?_
   refine cRs (Xi v1_0 (nth a0 v1_2).XH) ?_
   exact ny3 w1 e1
  simp [i1, ZA]
  repeat with_reducible refine sd ?_
  refine cRs (Xi v1_1 (nth a0 v1_2).ZO7) ?_
  exact ny3 w1 e1
 have f := ms f e1
 refine cF f (fun k5 h4 f => ?_) (fun k5 h4 f => ?_)
 ·exact rt [.tmp 4] f
 refine cRs (Xi v1_0 (W (v1_1 + 1))) ?_
 exact rt [.tmp 4] f
theorem ZRs (a0 : List ZD) (a1 : ZD) (u0 : Sm 2338816 a0) : Sd 337 [rL 2 ZD.row a0, a1.row] [rL 2 ZD.row (ZEe a0 a1)] := by
 have f := me (ZEe.eq_1 a0 a1)
 refine soD Tryz.func337 Tryz.ntmps337 ?_
 refine lp4 (jY.eq_2 a0) (fun v1_0 v1_1 v1_2 v1_3 => Yc 78 [eL 0 2 a0 ZD.row, (3, .one (.bptr 3 0), [.box [.d (.int .i64 v1_2), .d (.int .i64 v1_3)]]), (5, .one (.sref 5 0 0 v1_0.length), [.arr false 2 (v1_0.map ZD.row)]), eI 6 (↑v1_1 : Int)]) (fun n1 v1_0 v1_1 v1_2 v1_3 => a0.length < n1 + v1_1 ∧ v1_1 ≤ a0.length ∧ v1_0.length ≤ 0 + 1 * v1_1) (a0.length + 1) ([] : List ZD) 0 a1.YQ a1.To (fun p1 v1_0 v1_1 v1_2 v1_3 e1 j1 => ?_) (h0 := Yh [((5, 0), some (9, 0))] [] rfl (by simp))
 refine cFf e1 (fun k2 h1 e1 => ?_) (fun k2 h1 e1 => ?_)
 ·have i1 := ix h1
  have m2 := ml a0 (k2 0 _ rfl)
  have c1 := sl 2338816 a0 u0
  have w1 := wr v1_1
  simp [i1, ZA]
  repeat with_reducible refine sd ?_
  refine cF e1 (fun k3 h2 e1 => ?_) (fun k3 h2 e1 => ?_)
  ·exact nx4 e1 (hw := Yh [((5, 0), some (37, 0))] [] rfl (by simp [w1]))
  refine cRs (ZDU v1_2 (nth a0 v1_1).YQ) ?_
  refine cRs (Xi v1_3 (nth a0 v1_1).To) ?_
  exact ny4 w1 e1
 have c2 := sl 2338816 a0 u0
 have f := ms f e1
 refine lp1 (ZDO.eq_2 v1_0 v1_2) (fun v2_0 => Yc 78 [(3, .one (.bptr 3 0), [.box [.d (.int .i64 v1_2), .d (.int .i64 v1_3)]]), (5, .one (.sref 5 0 0 v1_0.length), [.arr false 2 (v1_0.map ZD.row)]), eI 8 (↑v2_0 : Int)]) (fun n2 v2_0 => v1_0.length < n2 + v2_0 ∧ v2_0 ≤ v1_0.length) (v1_0.length + 1) 0 (fun p2 v2_0 e2 j2 => ?_)
 refine dIs mixed ?_
 refine gIf (fun G => ?_) (fun G => ?_)
 ·have i2 := ik v2_0 v1_0
  simp [i2, ZA, G]
  repeat with_reducible refine sdg ?_
  refine cK e2 (fun k6 h3 e2 => ?_) (fun k6 h3 e2 => ?_)
  ·try (simp [G] at h3; done)
   all_goals
    have i3 : v2_0 < v1_0.length := by (simp at h3; omega)
    have m4 := ml v1_0 (k6 5 _ rfl)
    have w2 := wr v2_0
    exact ny1 (an w2 G) e2
  ·try (simp [G] at h3; done)
   all_goals
    have f := ms f e2
    refine dIg mixed ?_
    refine ZVG (rv := [.tmp 4]) rfl ?_
    simp [f.h, G]
    all_goals ((rintro r (hr | rfl | hr) x hx <;> (first | (simp at hx; rcases hx with rfl | rfl <;> rfl) | ((first | (replace hr := List.mem_of_mem_take hr) | (replace hr := List.mem_of_mem_drop hr)); simp at hr; obtain ⟨a, _, rfl⟩ := hr; simp at hx; rcases hx with rfl | rfl <;> rfl))))
 ·refine cK e2 (fun k8 h4 e2 => ?_) (fun k8 h4 e2 => ?_)
  ·try (simp [G] at h4; done)
   all_goals
    have i5 : v2_0 < v1_0.length := by (simp at h4; omega)
    have m6 := ml v1_0 (k8 5 _ rfl)
    have w3 := wr v2_0
    exact ny1 (an w3 G) e2
  ·try (simp [G] at h4; done)
   all_goals
    have f := ms f e2
    refine dIg mixed ?_
    refine ZVG (rv := [.tmp 4]) rfl ?_
    simp [f.h, G]
    all_goals ((rintro r (hr | rfl | hr) x hx <;> (first | (simp at hx; rcases hx with rfl | rfl <;> rfl) | ((first | (replace hr := List.mem_of_mem_take hr) | (replace hr := List.mem_of_mem_drop hr)); simp at hr; obtain ⟨a, _, rfl⟩ := hr; simp at hx; rcases hx with rfl | rfl <;> rfl))))
theorem yk (a0 : List ZD) (u0 : Sm 2330624 a0) : Sd 301 [rL 2 ZD.row a0] [rL 2 ZD.row (Xm a0)] := by
 have f := me (Xm.eq_1 a0)
 refine soD Tryz.func301 Tryz.ntmps301 ?_
 refine lp2 (yM.eq_2 a0) (fun v1_0 v1_1 => Yc 24 [eL 0 2 a0 ZD.row, (3, .one (.sref 3 0 0 v1_0.length), [.arr false 2 (v1_0.map ZD.row)]), eI 4 (↑v1_1 : Int)]) (fun n1 v1_0 v1_1 => a0.length < n1 + v1_1 ∧ v1_1 ≤ a0.length ∧ v1_0.length ≤ v1_1) (a0.length + 1) ([] : List ZD) 0 (fun p1 v1_0 v1_1 e1 j1 => ?_) (h0 := Yh [((3, 0), some (5, 0))] [] rfl (by simp))
 try dsimp only at j1
 refine cFf e1 (fun k2 h1 e1 => ?_) (fun k2 h1 e1 => ?_)
 ·have i1 := ix h1
  have m2 := ml a0 (k2 0 _ rfl)
  have c1 := sl 2330624 a0 u0
  have w1 := wr v1_1
  simp [i1, ZA]
  repeat with_reducible refine sd ?_
  refine cRs (Xc (nth a0 v1_1)) ?_
  refine cFf e1 (fun k3 h2 e1 => ?_) (fun k3 h2 e1 => ?_)
  ·simp [i1, ZA]
   repeat with_reducible refine sd ?_
   refine cDs [false] (ZRs v1_0 (nth a0 v1_1) (by exact ⟨by have z := Yw u0; omega, fun _ _ => trivial⟩)) ?_
   exact nx2 e1 (hI := by first | omega | (have z := ZFC v1_0 (nth a0 v1_1); (try dsimp only); omega)) (hw := Yh [((3, 0), some (22, 0))] [] rfl (by simp [w1]))
  exact ny2 w1 e1 (hI := by first | omega | (have z := ZFC v1_0 (nth a0 v1_1); (try dsimp only); omega))
 have c2 := sl 2330624 a0 u0
 have f := ms f e1
 exact rtD [.tmp 2] f
theorem ZMx (a0 : YH) (a1 : List Zy) (u0 : Sm 2326528 a1) : Sd 250 [a0.row, rL 5 Zy.row a1] [rL 2 ZD.row (xm a0 a1)] := by
 have f := me (xm.eq_1 a0 a1)
 refine soD Tryz.func250 Tryz.ntmps250 ?_
 refine cF f (fun k1 h1 f => ?_) (fun k1 h1 f => ?_)
 ·refine ZMQ (c := (.sref 6 0 0 0)) (L := [(6, 0)]) rfl rfl rfl rfl rfl rfl rfl (xJ ([] : List ZD) 0 (W (a0.YQ - 1)) (by (first | (exact ⟨Nat.zero_le _, fun _ _ => trivial⟩) | (refine ZJ (n := 2326528) ?_; exact ⟨Nat.zero_le _, fun _ _ => trivial⟩) | (refine ZJ (n := 2326528) (ZJ (n := 2326528 - 1) ?_); exact ⟨Nat.zero_le _, fun _ _ => trivial⟩) | (refine ZX (n := 3) (by decide) (ZJ (ZJ (ZJ (n := 0) ?_))); exact ⟨Nat.zero_le _, fun _ _ => trivial⟩) | (refine ZX (n := 2) (by decide) (ZJ (ZJ (n := 0) ?_)); exact ⟨Nat.zero_le _, fun _ _ => trivial⟩) | (refine ZX (n := 1) (by decide) (ZJ (n := 0) ?_); exact ⟨Nat.zero_le _, fun _ _ => trivial⟩)))) (by simp) (by simp) (by simp) (by simp) (by simp) (by simp) (by simp) (by simp [zq]) (by simp) ?_
  simp
  refine cF f (fun k2 h2 f => ?_) (fun k2 h2 f => ?_)
  ·refine ZMQ (c := (.sref 14 0 0 (XM ([] : List ZD) 0 (W (a0.YQ - 1))).length)) (L := [(14, 0)]) rfl rfl rfl rfl rfl rfl rfl (xJ (XM ([] : List ZD) 0 (W (a0.YQ - 1))) (W (a0.To + 1)) 10000 (by (first | (exact ⟨Nat.zero_le _, fun _ _ => trivial⟩) | (refine ZJ (n := 2326528) ?_; exact ⟨Nat.zero_le _, fun _ _ => trivial⟩) | (refine ZJ (n := 2326528) (ZJ (n := 2326528 - 1) ?_); exact ⟨Nat.zero_le _, fun _ _ => trivial⟩) | (refine ZX (n := 3) (by decide) (ZJ (ZJ (ZJ (n := 0) ?_))); exact ⟨Nat.zero_le _, fun _ _ => trivial⟩) | (refine ZX (n := 2) (by decide) (ZJ (ZJ (n := 0) ?_)); exact ⟨Nat.zero_le _, fun _ _ => trivial⟩) | (refine ZX (n := 1) (by decide) (ZJ (n := 0) ?_); exact ⟨Nat.zero_le _, fun _ _ => trivial⟩)))) (by simp) (by simp) (by simp) (by simp) (by simp) (by simp) (by simp) (by simp [zq]) (by simp) ?_
   simp
   refine cRs (ZBI a1 a0.YO) ?_
   refine ZMQ (c := (.sref 22 0 0 (XM (XM ([] : List ZD) 0 (W (a0.YQ - 1))) (W (a0.To + 1)) 10000).length)) (L := [(22, 0)]) rfl rfl rfl rfl rfl rfl rfl (xJ (XM (XM ([] : List ZD) 0 (W (a0.YQ - 1))) (W (a0.To + 1)) 10000) (Qk a1 a0.YO) 10000 (by (first | (exact ⟨Nat.zero_le _, fun _ _ => trivial⟩) | (refine ZJ (n := 2326528) ?_; exact ⟨Nat.zero_le _, fun _ _ => trivial⟩) | (refine ZJ (n := 2326528) (ZJ (n := 2326528 - 1) ?_); exact ⟨Nat.zero_le _, fun _ _ => trivial⟩) | (refine ZX (n := 3) (by decide) (ZJ (ZJ (ZJ (n := 0) ?_))); exact ⟨Nat.zero_le _, fun _ _ => trivial⟩) | (refine ZX (n := 2) (by decide) (ZJ (ZJ (n := 0) ?_)); exact ⟨Nat.zero_le _, fun _ _ => trivial⟩) | (refine ZX (n := 1) (by decide) (ZJ (n := 0) ?_); exact ⟨Nat.zero_le _, fun _ _ => trivial⟩)))) (by simp) (by simp) (by simp) (by simp) (by simp) (by simp) (by simp) (by simp [zq]) (by simp) ?_
   simp
   refine cDs [false] (yk (XM (XM (XM ([] : List ZD) 0 (W (a0.YQ - 1))) (W (a0.To + 1)) 10000) (Qk a1 a0.YO) 10000) (by (first | (exact ⟨Nat.zero_le _, fun _ _ => trivial⟩) | (refine ZJ (n := 2326528) ?_; exact ⟨Nat.zero_le _, fun _ _ => trivial⟩) | (refine ZJ (n := 2326528) (ZJ (n := 2326528 - 1) ?_); exact ⟨Nat.zero_le _, fun _ _ => trivial⟩) | (refine ZX (n := 3) (by decide) (ZJ (ZJ (ZJ (n := 0) ?_))); exact ⟨Nat.zero_le _, fun _ _ => trivial⟩) | (refine ZX (n := 2) (by decide) (ZJ (ZJ (n := 0) ?_)); exact ⟨Nat.zero_le _, fun _ _ => trivial⟩) | (refine ZX (n := 1) (by decide) (ZJ (n := 0) ?_); exact ⟨Nat.zero_le _, fun _ _ => trivial⟩)))) ?_
   exact rtD [.tmp 4] f
  refine cRs (ZBI a1 a0.YO) ?_
  refine ZMQ (c := (.sref 14 0 0 (XM ([] : List ZD) 0 (W (a0.YQ - 1))).length)) (L := [(14, 0)]) rfl rfl rfl rfl rfl rfl rfl (xJ (XM ([] : List ZD) 0 (W (a0.YQ - 1))) (Qk a1 a0.YO) 10000 (by (first | (exact ⟨Nat.zero_le _, fun _ _ => trivial⟩) | (refine ZJ (n := 2326528) ?_; exact ⟨Nat.zero_le _, fun _ _ => trivial⟩) | (refine ZJ (n := 2326528) (ZJ (n := 2326528 - 1) ?_); exact ⟨Nat.zero_le _, fun _ _ => trivial⟩) | (refine ZX (n := 3) (by decide) (ZJ (ZJ (ZJ (n := 0) ?_))); exact ⟨Nat.zero_le _, fun _ _ => trivial⟩) | (refine ZX (n := 2) (by decide) (ZJ (ZJ (n := 0) ?_)); exact ⟨Nat.zero_le _, fun _ _ => trivial⟩) | (refine ZX (n := 1) (by decide) (ZJ (n := 0) ?_); exact ⟨Nat.zero_le _, fun _ _ => trivial⟩)))) (by simp) (by simp) (by simp) (by simp) (by simp) (by simp) (by simp) (by simp [zq]) (by simp) ?_
  simp
  refine cDs [false] (yk (XM (XM ([] : List ZD) 0 (W (a0.YQ - 1))) (Qk a1 a0.YO) 10000) (by (first | (exact ⟨Nat.zero_le _, fun _ _ => trivial⟩) | (refine ZJ (n := 2326528) ?_; exact ⟨Nat.zero_le _, fun _ _ => trivial⟩) | (refine ZJ (n := 2326528) (ZJ (n := 2326528 - 1) ?_); exact ⟨Nat.zero_le _, fun _ _ => trivial⟩) | (refine ZX (n := 3) (by decide) (ZJ (ZJ (ZJ (n := 0) ?_))); exact ⟨Nat.zero_le _, fun _ _ => trivial⟩) | (refine ZX (n := 2) (by decide) (ZJ (ZJ (n := 0) ?_)); exact ⟨Nat.zero_le _, fun _ _ => trivial⟩) | (refine ZX (n := 1) (by decide) (ZJ (n := 0) ?_); exact ⟨Nat.zero_le _, fun _ _ => trivial⟩)))) ?_
  exact rtD [.tmp 4] f
 refine cF f (fun k3 h3 f => ?_) (fun k3 h3 f => ?_)
 ·refine ZMQ (c := (.sref 6 0 0 0)) (L := [(6, 0)]) rfl rfl rfl rfl rfl rfl rfl (xJ ([] : List ZD) (W (a0.To + 1)) 10000 (by (first | (exact ⟨Nat.zero_le _, fun _ _ => trivial⟩) | (refine ZJ (n := 2326528) ?_; exact ⟨Nat.zero_le _, fun _ _ => trivial⟩) | (refine ZJ (n := 2326528) (ZJ (n := 2326528 - 1) ?_); exact ⟨Nat.zero_le _, fun _ _ => trivial⟩) | (refine ZX (n := 3) (by decide) (ZJ (ZJ (ZJ (n := 0) ?_))); exact ⟨Nat.zero_le _, fun _ _ => trivial⟩) | (refine ZX (n := 2) (by decide) (ZJ (ZJ (n := 0) ?_)); exact ⟨Nat.zero_le _, fun _ _ => trivial⟩) | (refine ZX (n := 1) (by decide) (ZJ (n := 0) ?_); exact ⟨Nat.zero_le _, fun _ _ => trivial⟩)))) (by simp) (by simp) (by simp) (by simp) (by simp) (by simp) (by simp) (by simp [zq]) (by simp) ?_
  simp
  refine cRs (ZBI a1 a0.YO) ?_
  refine ZMQ (c := (.sref 22 0 0 (XM ([] : List ZD) (W (a0.To + 1)) 10000).length)) (L := [(22, 0)]) rfl rfl rfl rfl rfl rfl rfl (xJ (XM ([] : List ZD) (W (a0.To + 1)) 10000) (Qk a1 a0.YO) 10000 (by (first | (exact ⟨Nat.zero_le _, fun _ _ => trivial⟩) | (refine ZJ (n := 2326528) ?_; exact ⟨Nat.zero_le _, fun _ _ => trivial⟩) | (refine ZJ (n := 2326528) (ZJ (n := 2326528 - 1) ?_); exact ⟨Nat.zero_le _, fun _ _ => trivial⟩) | (refine ZX (n := 3) (by decide) (ZJ (ZJ (ZJ (n := 0) ?_))); exact ⟨Nat.zero_le _, fun _ _ => trivial⟩) | (refine ZX (n := 2) (by decide) (ZJ (ZJ (n := 0) ?_)); exact ⟨Nat.zero_le _, fun _ _ => trivial⟩) | (refine ZX (n := 1) (by decide) (ZJ (n := 0) ?_); exact ⟨Nat.zero_le _, fun _ _ => trivial⟩)))) (by simp) (by simp) (by simp) (by simp) (by simp) (by simp) (by simp) (by simp [zq]) (by simp) ?_
  simp
  refine cDs [false] (yk (XM (XM ([] : List ZD) (W (a0.To + 1)) 10000) (Qk a1 a0.YO) 10000) (by (first | (exact ⟨Nat.zero_le _, fun _ _ => trivial⟩) | (refine ZJ (n := 2326528) ?_; exact ⟨Nat.zero_le _, fun _ _ => trivial⟩) | (refine ZJ (n := 2326528) (ZJ (n := 2326528 - 1) ?_); exact ⟨Nat.zero_le _, fun _ _ => trivial⟩) | (refine ZX (n := 3) (by decide) (ZJ (ZJ (ZJ (n := 0) ?_))); exact ⟨Nat.zero_le _, fun _ _ => trivial⟩) | (refine ZX (n := 2) (by decide) (ZJ (ZJ (n := 0) ?_)); exact ⟨Nat.zero_le _, fun _ _ => trivial⟩) | (refine ZX (n := 1) (by decide) (ZJ (n := 0) ?_); exact ⟨Nat.zero_le _, fun _ _ => trivial⟩)))) ?_
  exact rtD [.tmp 4] f
 refine cRs (ZBI a1 a0.YO) ?_
 refine ZMQ (c := (.sref 6 0 0 0)) (L := [(6, 0)]) rfl rfl rfl rfl rfl rfl rfl (xJ ([] : List ZD) (Qk a1 a0.YO) 10000 (by (first | (exact ⟨Nat.zero_le _, fun _ _ => trivial⟩) | (refine ZJ (n := 2326528) ?_; exact ⟨Nat.zero_le _, fun _ _ => trivial⟩) | (refine ZJ (n := 2326528) (ZJ (n := 2326528 - 1) ?_); exact ⟨Nat.zero_le _, fun _ _ => trivial⟩) | (refine ZX (n := 3) (by decide) (ZJ (ZJ (ZJ (n := 0) ?_))); exact ⟨Nat.zero_le _, fun _ _ => trivial⟩) | (refine ZX (n := 2) (by decide) (ZJ (ZJ (n := 0) ?_)); exact ⟨Nat.zero_le _, fun _ _ => trivial⟩) | (refine ZX (n := 1) (by decide) (ZJ (n := 0) ?_); exact ⟨Nat.zero_le _, fun _ _ => trivial⟩)))) (by simp) (by simp) (by simp) (by simp) (by simp) (by simp) (by simp) (by simp [zq]) (by simp) ?_
 simp
 refine cDs [false] (yk (XM ([] : List ZD) (Qk a1 a0.YO) 10000) (by (first | (exact ⟨Nat.zero_le _, fun _ _ => trivial⟩) | (refine ZJ (n := 2326528) ?_; exact ⟨Nat.zero_le _, fun _ _ => trivial⟩) | (refine ZJ (n := 2326528) (ZJ (n := 2326528 - 1) ?_); exact ⟨Nat.zero_le _, fun _ _ => trivial⟩) | (refine ZX (n := 3) (by decide) (ZJ (ZJ (ZJ (n := 0) ?_))); exact ⟨Nat.zero_le _, fun _ _ => trivial⟩) | (refine ZX (n := 2) (by decide) (ZJ (ZJ (n := 0) ?_)); exact ⟨Nat.zero_le _, fun _ _ => trivial⟩) | (refine ZX (n := 1) (by decide) (ZJ (n := 0) ?_); exact ⟨Nat.zero_le _, fun _ _ => trivial⟩)))) ?_
 exact rtD [.tmp 4] f
theorem ZMk (a0 : ZD) (a1 : ZD) : Sa 302 [a0.row, a1.row] [rB (ZBj a0 a1)] := by
 have f := me (ZBj.eq_1 a0 a1)
 refine so Tryz.func302 Tryz.ntmps302 ?_
 refine cRs (Xc a0) ?_
 refine cGs (fun gg => (Xc a1)) ?_
 exact rt [.tmp 4] f
theorem ZAu (a0 : List ZD) (a1 : ZD) (u0 : Sm 2326528 a0) : Sa 249 [rL 2 ZD.row a0, a1.row] [rB (yh a0 a1)] := by
 have f := me (yh.eq_1 a0 a1)
 refine so Tryz.func249 Tryz.ntmps249 ?_
 refine cRs (Yb.rd (yk a0 (sg u0))) ?_
 refine lp1 (xp.eq_2 a0 a1) (fun v1_0 => Yc 21 [eX 3 (a1.row.map .d), eL 5 2 (Xm a0) ZD.row, eI 6 (↑v1_0 : Int)]) (fun n1 v1_0 => (Xm a0).length < n1 + v1_0 ∧ v1_0 ≤ (Xm a0).length) ((Xm a0).length + 1) 0 (fun p1 v1_0 e1 j1 => ?_)
 refine cF e1 (fun k2 h1 e1 => ?_) (fun k2 h1 e1 => ?_)
 ·have i1 := ix h1
  have m2 := ml (Xm a0) (k2 5 _ rfl)
  have w1 := wr v1_0
  refine dIo mixed ?_
  simp [i1, ZA]
  repeat with_reducible refine sd ?_
  refine cRs (ZMk a1 (nth (Xm a0) v1_0)) ?_
  refine cF e1 (fun k4 h2 e1 => ?_) (fun k4 h2 e1 => ?_)
  ·have f := ms f e1
   exact rt [.tmp 4] f
  exact ny1 w1 e1
 have f := ms f e1
 exact rt [.tmp 4] f
theorem ZNR (a0 : YH) (a1 : List Zy) (a2 : ZD) (u0 : Sm 2322432 a1) : Sa 181 [a0.row, rL 5 Zy.row a1, a2.row] [rB (ZBy a0 a1 a2)] := by
 have f := me (ZBy.eq_1 a0 a1 a2)
 refine so Tryz.func181 Tryz.ntmps181 ?_
 refine dIs mixed ?_
 refine cRs (Yb.rd (ZMx a0 a1 (sg u0))) ?_
 refine cRs (ZAu (xm a0 a1) a2 (by exact ZNE (by decide))) ?_
 exact rt [.tmp 6] f
theorem ZMc (a0 : List Zy) (a1 : Int) : Sa 305 [rL 5 Zy.row a0, rI a1] [rI (K8 a0 a1)] := by
 have f := me (K8.eq_1 a0 a1)
 refine so Tryz.func305 Tryz.ntmps305 ?_
 refine lp3 (J8.eq_2 a0 a1) (fun v1_0 v1_1 v1_2 => Yc 55 [eL 0 5 a0 Zy.row, eI 1 a1, eI 5 v1_0, eI 6 v1_1, eI 7 (↑v1_2 : Int)]) (fun n1 v1_0 v1_1 v1_2 => a0.length < n1 + v1_2 ∧ v1_2 ≤ a0.length) (a0.length + 1) (-1) (-1) 0 (fun p1 v1_0 v1_1 v1_2 e1 j1 => ?_)
 refine cFf e1 (fun k2 h1 e1 => ?_) (fun k2 h1 e1 => ?_)
 ·have i1 := ix h1
  have m2 := ml a0 (k2 0 _ rfl)
  have w1 := wr v1_2
  simp [i1, ZA]
  repeat with_reducible refine sd ?_
  refine cFt e1 (fun k3 h2 e1 => ?_) (fun k3 h2 e1 => ?_)
  ·exact ny3 w1 e1
  simp [i1, ZA]
  repeat with_reducible refine sd ?_
  refine cFf e1 (fun k4 h3 e1 => ?_) (fun k4 h3 e1 => ?_)
  ·simp [i1, ZA]
   repeat with_reducible refine sd ?_
   refine cRs (Xi v1_1 (nth a0 v1_2).ZO7) ?_
   exact ny3 w1 e1
  refine gIf (fun G => ?_) (fun G => ?_)
  ·simp [i1, ZA, G]
   repeat with_reducible refine sdg ?_
   refine cKf e1 (fun k5 h4 e1 => ?_) (fun k5 h4 e1 => ?_)
   ·try (simp [G] at h4; done)
    all_goals
     simp [i1, ZA, G]
     repeat with_reducible refine sdg ?_
     exact ny3 (an w1 G) e1
   ·try (simp [G] at h4; done)
    all_goals
     exact ny3 (an w1 G) e1
  ·refine cKf e1 (fun k6 h5 e1 => ?_) (fun k6 h5 e1 => ?_)
   ·try (simp [G] at h5; done)
    all_goals
     simp [i1, ZA, G]
     repeat with_reducible refine sdg ?_
     exact ny3 (an w1 G) e1
   ·try (simp [G] at h5; done)
    all_goals
     exact ny3 (an w1 G) e1
 have f := ms f e1
 refine cF f (fun k7 h6 f => ?_) (fun k7 h6 f => ?_)
 ·exact rt [.tmp 4] f
 exact rt [.tmp 4] f
theorem ZMJ (a0 : ZD) (a1 : ZD) : Sa 338 [a0.row, a1.row] [(Kp a0 a1).1.row, rB (Kp a0 a1).2] := by
 have f := me (Kp.eq_1 a0 a1)
 refine so Tryz.func338 Tryz.ntmps338 ?_
 refine cRs (Xc a0) ?_
 refine cGs (fun gg => (Xc a1)) ?_
 refine cF f (fun k1 h1 f => ?_) (fun k1 h1 f => ?_)
 ·exact rt [.cell 4 77, .tmp 5] f
 refine dIs mixed ?_
 refine cRs (Xi a0.YQ a1.YQ) ?_
 refine cRs (ZDU a0.To a1.To) ?_
 refine cRs (ql (xF a0.YQ a1.YQ) (ZBz a0.To a1.To)) ?_
 exact rt [.cell 4 77, .tmp 5] f
theorem ZHc {a b : Prop} (h : b) (k : a := by (intros; first | omega | with_unfolding_all (first | (first | omega | (simp at *; omega))) | ((try simp only [J7, show ∀ x, IntKind.i64.wrap x = W x from fun _ => rfl] at *); omega))) : a ∧ b := ⟨k, h⟩
theorem ZOk (a0 : List ZD) (a1 : List ZD) (u0 : Sm 2326528 a0) (u1 : Sm 2326528 a1) (u2 : a0.length ≤ 1 ∧ a1.length ≤ 1) : Sd 307 [rL 2 ZD.row a0, rL 2 ZD.row a1] [rL 2 ZD.row (ZBW a0 a1)] := by
 have f := me (ZBW.eq_1 a0 a1)
 refine soD Tryz.func307 Tryz.ntmps307 ?_
 refine lp2 (ZAS.eq_2 a0 a1) (fun v1_0 v1_1 => Yc 42 [eL 0 2 a0 ZD.row, eL 1 2 a1 ZD.row, (5, .one (.sref 5 0 0 v1_0.length), [.arr false 2 (v1_0.map ZD.row)]), eI 6 (↑v1_1 : Int)]) (fun n1 v1_0 v1_1 => a0.length < n1 + v1_1 ∧ v1_1 ≤ a0.length ∧ v1_0.length ≤ v1_1) (a0.length + 1) ([] : List ZD) 0 (fun p1 v1_0 v1_1 e1 j1 => ?_) (h0 := Yh [((5, 0), some (10, 0))] [] rfl (by simp))
 try dsimp only at j1
 refine cF e1 (fun k2 h1 e1 => ?_) (fun k2 h1 e1 => ?_)
 ·have i1 := ix h1
  have m2 := ml a0 (k2 0 _ rfl)
  have c1 := sl 2326528 a0 (an u0 (an u1 u2))
  have w1 := wr v1_1
  refine lp2 (jV.eq_2 a0 a1 v1_1) (fun v2_0 v2_1 => Yc 42 [eL 0 2 a0 ZD.row, eL 1 2 a1 ZD.row, (5, .one (.sref 5 0 0 v2_0.length), [.arr false 2 (v2_0.map ZD.row)]), eI 6 (↑v1_1 : Int), eI 7 (↑v2_1 : Int)]) (fun n2 v2_0 v2_1 => a1.length < n2 + v2_1 ∧ v2_1 ≤ a1.length ∧ v2_0.length ≤ v1_1 + v2_1) (a1.length + 1) v1_0 0 (fun p2 v2_0 v2_1 e2 j2 => ?_)
  try dsimp only at j2
  refine cF e2 (fun k4 h2 e2 => ?_) (fun k4 h2 e2 => ?_)
  ·have i2 := ix h2
   have m4 := ml a1 (k4 1 _ rfl)
   have c2 := sl 2326528 a1 (an u0 (an u1 u2))
   have w2 := wr v2_1
   refine dIo mixed ?_
   simp [i1, ZA, i2]
   repeat with_reducible refine ZHc ?_
   refine cRs (ZMJ (nth a0 v1_1) (nth a1 v2_1)) ?_
   refine cFf e2 (fun k6 h3 e2 => ?_) (fun k6 h3 e2 => ?_)
   ·simp
    repeat with_reducible refine ZHc ?_
    exact nx2 e2 (hI := by first | omega | (simp at *; omega)) (hw := Yh [((5, 0), some (39, 0))] [] rfl (by simp [w1, w2]))
   exact ny2 (an w1 w2) e2 (hI := by first | omega | (simp at *; omega))
  have c3 := sl 2326528 a1 (an u0 (an u1 u2))
  have e1 := ms e1 e2
  exact ny2 w1 e1
 have c4 := sl 2326528 a0 (an u0 (an u1 u2))
 have f := ms f e1
 refine cDs [false] (yk v1_0 (by exact ⟨by omega, fun _ _ => trivial⟩)) ?_
 exact rtD [.tmp 4] f
theorem ZMR (a0 : YH) (a1 : List Zy) (u0 : Sm 2322432 a1) : Sd 251 [a0.row, rL 5 Zy.row a1] [rL 2 ZD.row (yL a0 a1)] := by
 have f := me (yL.eq_1 a0 a1)
 refine soD Tryz.func251 Tryz.ntmps251 ?_
 refine cRs (ZMc a1 a0.YO) ?_
 refine cRs (ql 0 (K8 a1 a0.YO)) ?_
 refine cF f (fun k1 h1 f => ?_) (fun k1 h1 f => ?_)
 ·exact rtD [.tmp 4] f
 refine dIs mixed ?_
 refine cRs (ZGQ a0) ?_
 refine cDs [false] (ZOk ([(xj a0)] : List ZD) ([(Xo 0 (K8 a1 a0.YO)).1] : List ZD) (by simp (maxDischargeDepth := 12) [KD, Xr, ZX (m := 2326528) (by decide) u0]; try omega) (by simp (maxDischargeDepth := 12) [KD, Xr, ZX (m := 2326528) (by decide) u0]; try omega) (by exact ⟨Nat.le_refl _, Nat.le_refl _⟩)) ?_
 exact rtD [.tmp 4] f
theorem ZJe (a0 : YH) (a1 : List Zy) (a2 : ZD) (u0 : Sm 2318336 a1) : Sa 182 [a0.row, rL 5 Zy.row a1, a2.row] [rB (kA a0 a1 a2)] := by
 have f := me (kA.eq_1 a0 a1 a2)
 refine so Tryz.func182 Tryz.ntmps182 ?_
 refine dIs mixed ?_
 refine cRs (Yb.rd (ZMR a0 a1 (sg u0))) ?_
 refine cRs (ZAu (yL a0 a1) a2 (by exact ZK1 (by decide))) ?_
 exact rt [.tmp 6] f
theorem ZKd (a0 : List ZB) (u0 : Sm 2330624 a0) : Sd 184 [rL 3 ZB.row a0] [rL 6 Z1.row (ym a0)] := by
 have f := me (ym.eq_1 a0)
 refine soD Tryz.func184 Tryz.ntmps184 ?_
 refine lp2 (KO.eq_2 a0) (fun v1_0 v1_1 => Yc 28 [eL 0 3 a0 ZB.row, (3, .one (.sref 3 0 0 v1_0.length), [.arr false 6 (v1_0.map Z1.row)]), eI 4 (↑v1_1 : Int)]) (fun n1 v1_0 v1_1 => a0.length < n1 + v1_1 ∧ v1_1 ≤ a0.length ∧ v1_0.length ≤ 0 + 1 * v1_1) (a0.length + 1) ([] : List Z1) 0 (fun p1 v1_0 v1_1 e1 j1 => ?_) (h0 := Yh [((3, 0), some (7, 0))] [] rfl (by simp))
 refine cFf e1 (fun k2 h1 e1 => ?_) (fun k2 h1 e1 => ?_)
 ·have i1 := ix h1
  have m2 := ml a0 (k2 0 _ rfl)
  have c1 := sl 2330624 a0 u0
  have w1 := wr v1_1
  simp [i1, ZA]
  repeat with_reducible refine sd ?_
  refine cRs (ZCT (nth a0 v1_1)) ?_
  refine cF e1 (fun k3 h2 e1 => ?_) (fun k3 h2 e1 => ?_)
  ·exact nx2 e1 (hw := Yh [((3, 0), some (26, 0))] [] rfl (by simp [w1]))
  exact ny2 w1 e1
 have c2 := sl 2330624 a0 u0
 have f := ms f e1
 exact rtD [.tmp 2] f
theorem ZMf (a0 : Z1) : Sa 339 [a0.row] [rB (ZAh a0)] := by
 have f := me (ZAh.eq_1 a0)
 refine so Tryz.func339 Tryz.ntmps339 ?_
 refine cRs (Ye a0.Org 1 99) ?_
 refine cGs (fun gg => (Ye a0.ZCC 0 99)) ?_
 refine cGs (fun gg => (Ye a0.Key 1 99)) ?_
 refine cGs (fun gg => (Xc (ZD.mk a0.YQ a0.To))) ?_
 exact rt [.tmp 2] f
theorem ZI3 (a0 : Z1) : Sd 340 [a0.row] [rL 1 iR (JE a0)] := by
 have f := me (JE.eq_1 a0)
 refine soD Tryz.func340 Tryz.ntmps340 ?_
 exact rtD [.tmp 2] f
theorem ZCO (a0 : List YC) (a1 : Z1) (u0 : Sm 2318336 a0) : Sa 308 [rL 5 YC.row a0, a1.row] [rB (xe a0 a1)] := by
 have f := me (xe.eq_1 a0 a1)
 refine so Tryz.func308 Tryz.ntmps308 ?_
 refine dIs mixed ?_
 refine cRs (ZMf a1) ?_
 refine cGs (fun gg => (ZHK a0 a1.Key)) ?_
 refine cGs (fun gg => Yb.rd (ZI3 a1)) ?_
 refine cGs (fun gg => (jq a0 a1.Key (JE a1) a1.Mark (sg u0) (by simp (maxDischargeDepth := 12) [ZId, ZX (m := 2322432) (by decide) u0]; try omega))) ?_
 exact rt [.tmp 4] f
theorem ZHI (a0 : List YC) (a1 : List Z1) (a2 : Int) (a3 : Int) (u0 : Sm 2314240 a0) (u1 : Sm 2314240 a1) : Sd 253 [rL 5 YC.row a0, rL 6 Z1.row a1, rI a2, rI a3] [rL 2 ZD.row (KS a0 a1 a2 a3)] := by
 have f := me (KS.eq_1 a0 a1 a2 a3)
 refine soD Tryz.func253 Tryz.ntmps253 ?_
 refine lp2 (Qt.eq_2 a0 a1 a2 a3) (fun v1_0 v1_1 => Yc 58 [eL 0 5 a0 YC.row, eL 1 6 a1 Z1.row, eI 2 a2, eI 3 a3, (9, .one (.sref 9 0 0 v1_0.length), [.arr false 2 (v1_0.map ZD.row)]), eI 10 (↑v1_1 : Int)]) (fun n1 v1_0 v1_1 => a1.length < n1 + v1_1 ∧ v1_1 ≤ a1.length ∧ v1_0.length ≤ 0 + 1 * v1_1) (a1.length + 1) ([] : List ZD) 0 (fun p1 v1_0 v1_1 e1 j1 => ?_) (h0 := Yh [((9, 0), some (11, 0))] [] rfl (by simp))
 refine cFf e1 (fun k2 h1 e1 => ?_) (fun k2 h1 e1 => ?_)
 ·have i1 := ix h1
  have m2 := ml a1 (k2 1 _ rfl)
  have c1 := sl 2314240 a1 (an u0 u1)
  have w1 := wr v1_1
  simp [i1, ZA]
  repeat with_reducible refine sd ?_
  refine gIf (fun G => ?_) (fun G => ?_)
  ·simp [i1, ZA, G]
   repeat with_reducible refine sdg ?_
   refine gJf G (fun G => ?_) (fun G => ?_)
   ·try (simp at G; done)
    all_goals
     simp [i1, ZA, G]
     repeat with_reducible refine sdg ?_
     refine cGg (fun gg => (ZCO a0 (nth a1 v1_1) (sg u0))) ?_
     refine cK e1 (fun k3 h2 e1 => ?_) (fun k3 h2 e1 => ?_)
     ·try (simp [G] at h2; done)
      all_goals
       refine dIo mixed ?_
       simp [i1, ZA, G]
       repeat with_reducible refine sdg ?_
       exact nx2 e1 (hw := Yh [((9, 0), some (55, 0))] [] rfl (by simp [w1, G]))
     ·try (simp [G] at h2; done)
      all_goals
       exact ny2 (an w1 G) e1
   ·try (simp at G; done)
    all_goals
     refine sGo ?_
     simp [G]
     repeat with_reducible refine sdg ?_
     refine cK e1 (fun k5 h3 e1 => ?_) (fun k5 h3 e1 => ?_)
     ·try (simp [G] at h3; done)
      all_goals
       refine dIo mixed ?_
       simp [i1, ZA, G]
       repeat with_reducible refine sdg ?_
       exact nx2 e1 (hw := Yh [((9, 0), some (55, 0))] [] rfl (by simp [w1, G]))
     ·try (simp [G] at h3; done)
      all_goals
       exact ny2 (an w1 G) e1
  ·refine gJf G (fun G => ?_) (fun G => ?_)
   ·try (simp at G; done)
    all_goals
     simp [i1, ZA, G]
     repeat with_reducible refine sdg ?_
     refine cGg (fun gg => (ZCO a0 (nth a1 v1_1) (sg u0))) ?_
     refine cK e1 (fun k7 h4 e1 => ?_) (fun k7 h4 e1 => ?_)
     ·try (simp [G] at h4; done)
      all_goals
       refine dIo mixed ?_
       simp [i1, ZA, G]
       repeat with_reducible refine sdg ?_
       exact nx2 e1 (hw := Yh [((9, 0), some (55, 0))] [] rfl (by simp [w1, G]))
     ·try (simp [G] at h4; done)
      all_goals
       exact ny2 (an w1 G) e1
   ·try (simp at G; done)
    all_goals
     refine sGo ?_
     simp [G]
     repeat with_reducible refine sdg ?_
     refine cK e1 (fun k9 h5 e1 => ?_) (fun k9 h5 e1 => ?_)
     ·try (simp [G] at h5; done)
      all_goals
       refine dIo mixed ?_
       simp [i1, ZA, G]
       repeat with_reducible refine sdg ?_
       exact nx2 e1 (hw := Yh [((9, 0), some (55, 0))] [] rfl (by simp [w1, G]))
     ·try (simp [G] at h5; done)
      all_goals
       exact ny2 (an w1 G) e1
 have c2 := sl 2314240 a1 (an u0 u1)
 have f := ms f e1
 refine cDs [false] (yk v1_0 (by first | (simp (maxDischargeDepth := 12) [Xr]; omega) | (simp (maxDischargeDepth := 12) [ZX (m := 2330624) (by decide) u0, ZX (m := 2330624) (by decide) u1]; done))) ?_
 exact rtD [.tmp 8] f
theorem ZJb (a0 : List YC) (a1 : List Z1) (a2 : Int) (a3 : Int) (a4 : ZD) (u0 : Sm 2310144 a0) (u1 : Sm 2310144 a1) : Sa 183 [rL 5 YC.row a0, rL 6 Z1.row a1, rI a2, rI a3, a4.row] [rB (js a0 a1 a2 a3 a4)] := by
 have f := me (js.eq_1 a0 a1 a2 a3 a4)
 refine so Tryz.func183 Tryz.ntmps183 ?_
 refine cF f (fun k1 h1 f => ?_) (fun k1 h1 f => ?_)
 ·refine cRs (Xc a4) ?_
  exact rt [.tmp 10] f
 refine dIs mixed ?_
 refine cRs (Yb.rd (ZHI a0 a1 a2 a3 (by first | exact sg u0 | exact sg u1) (by first | exact sg u0 | exact sg u1))) ?_
 refine cRs (ZAu (KS a0 a1 a2 a3) a4 (by exact ZHi (by have z := Yw u1; omega))) ?_
 exact rt [.tmp 10] f
theorem ZG0 {a b : Prop} (h : b) (k : a := by (intros; first | omega | with_unfolding_all (first | (first | omega | (have z := ZGJ h1; have y := J2 a0.Y3 a4.Key; omega))) | ((try simp only [J7, show ∀ x, IntKind.i64.wrap x = W x from fun _ => rfl] at *); omega))) : a ∧ b := ⟨k, h⟩
theorem ZHE (a0 : ZF) (a1 : ZI) (a2 : List (List Int)) (a3 : Int) (a4 : ZY) (u0 : Sm 2281472 a0) (u1 : Sm 2281472 a1) (u2 : Sm 2281472 a2) (u3 : ZQt a1 ≤ 2097152) : Sa 138 [a0.row, a1.row, rL 1 (slR 1 iR) a2, rI a3, a4.row] [(xi a0 a1 a2 a3 a4).row] := by
 have f := me (xi.eq_1 a0 a1 a2 a3 a4)
 refine so Tryz.func138 Tryz.ntmps138 ?_
 refine cRs (ZPV a0 a3 a4 (by (first | exact sg (Yz (n := 2281472) (by decide)) | exact sg u0 | exact sg u1 | exact sg u2 | exact u3 | exact sg (ZF.Ym u0) | exact sg (ZF.YS u0) | exact sg (ZL (K := 2281472) u1 u3 (by decide)) | exact sg (Yi (ZL (K := 2281472) u1 u3 (by decide))) | exact sg (Yo (ZL (K := 2281472) u1 u3 (by decide)))))) ?_
 refine cFo f (fun k1 h1 f => ?_) (fun k1 h1 f => ?_)
 ·have q1 := h1; try simp at q1
  simp
  exact rt [.cell 10 79] f
 have q1 := h1; try simp at q1
 simp
 refine dIs mixed ?_
 refine cRs (Yb.rd (ZMS a4)) ?_
 refine cRs (ZBm a0 a1 a2 (XW a4) (by (first | exact sg (Yz (n := 2281472) (by decide)) | exact sg u0 | exact sg u1 | exact sg u2 | exact u3 | exact sg (ZF.Ym u0) | exact sg (ZF.YS u0) | exact sg (ZL (K := 2281472) u1 u3 (by decide)) | exact sg (Yi (ZL (K := 2281472) u1 u3 (by decide))) | exact sg (Yo (ZL (K := 2281472) u1 u3 (by decide))))) (by (first | exact sg (Yz (n := 2281472) (by decide)) | exact sg u0 | exact sg u1 | exact sg u2 | exact u3 | exact sg (ZF.Ym u0) | exact sg (ZF.YS u0) | exact sg (ZL (K := 2281472) u1 u3 (by decide)) | exact sg (Yi (ZL (K := 2281472) u1 u3 (by decide))) | exact sg (Yo (ZL (K := 2281472) u1 u3 (by decide))))) (by (first | exact sg (Yz (n := 2281472) (by decide)) | exact sg u0 | exact sg u1 | exact sg u2 | exact u3 | exact sg (ZF.Ym u0) | exact sg (ZF.YS u0) | exact sg (ZL (K := 2281472) u1 u3 (by decide)) | exact sg (Yi (ZL (K := 2281472) u1 u3 (by decide))) | exact sg (Yo (ZL (K := 2281472) u1 u3 (by decide))))) (by (first | exact sg (Yz (n := 2281472) (by decide)) | exact sg u0 | exact sg u1 | exact sg u2 | exact u3 | exact sg (ZF.Ym u0) | exact sg (ZF.YS u0) | exact sg (ZL (K := 2281472) u1 u3 (by decide)) | exact sg (Yi (ZL (K := 2281472) u1 u3 (by decide))) | exact sg (Yo (ZL (K := 2281472) u1 u3 (by decide)))))) ?_
 refine dIs mixed ?_
 refine cR (K0 a0.Y3 a4.Key) ?_
 have i1 : (Y0 a0.Y3 a4.Key).toNat < a0.Y3.length := by have := J2 a0.Y3 a4.Key; (have z := ZGJ h1; have y := J2 a0.Y3 a4.Key; omega)
 simp [i1, ZA]
 repeat with_reducible refine ZG0 ?_
 refine cRs (kJ a0.Methods (nth a0.Y3 (Y0 a0.Y3 a4.Key).toNat).Method) ?_
 refine cGs (fun gg => (kJ a0.Methods a4.Method)) ?_
 refine cFo f (fun k4 h2 f => ?_) (fun k4 h2 f => ?_)
 ·have q2 := h2; try simp at q2
  simp
  refine cRs (qL 5) ?_
  exact rt [.cell 10 79] f
 have q2 := h2; try simp at q2
 simp
 refine cRs (ZHO a0 a1 a2 (by (first | exact sg (Yz (n := 2281472) (by decide)) | exact sg u0 | exact sg u1 | exact sg u2 | exact u3 | exact sg (ZF.Ym u0) | exact sg (ZF.YS u0) | exact sg (ZL (K := 2281472) u1 u3 (by decide)) | exact sg (Yi (ZL (K := 2281472) u1 u3 (by decide))) | exact sg (Yo (ZL (K := 2281472) u1 u3 (by decide))))) (by (first | exact sg (Yz (n := 2281472) (by decide)) | exact sg u0 | exact sg u1 | exact sg u2 | exact u3 | exact sg (ZF.Ym u0) | exact sg (ZF.YS u0) | exact sg (ZL (K := 2281472) u1 u3 (by decide)) | exact sg (Yi (ZL (K := 2281472) u1 u3 (by decide))) | exact sg (Yo (ZL (K := 2281472) u1 u3 (by decide))))) (by (first | exact sg (Yz (n := 2281472) (by decide)) | exact sg u0 | exact sg u1 | exact sg u2 | exact u3 | exact sg (ZF.Ym u0) | exact sg (ZF.YS u0) | exact sg (ZL (K := 2281472) u1 u3 (by decide)) | exact sg (Yi (ZL (K := 2281472) u1 u3 (by decide))) | exact sg (Yo (ZL (K := 2281472) u1 u3 (by decide))))) (by (first | exact sg (Yz (n := 2281472) (by decide)) | exact sg u0 | exact sg u1 | exact sg u2 | exact u3 | exact sg (ZF.Ym u0) | exact sg (ZF.YS u0) | exact sg (ZL (K := 2281472) u1 u3 (by decide)) | exact sg (Yi (ZL (K := 2281472) u1 u3 (by decide))) | exact sg (Yo (ZL (K := 2281472) u1 u3 (by decide)))))) ?_
 refine cRs (ZPk a0 (Zu a0 a1 a2) a4 (by (first | exact sg (Yz (n := 2281472) (by decide)) | exact sg u0 | exact sg u1 | exact sg u2 | exact u3 | exact sg (ZF.Ym u0) | exact sg (ZF.YS u0) | exact sg (ZL (K := 2281472) u1 u3 (by decide)) | exact sg (Yi (ZL (K := 2281472) u1 u3 (by decide))) | exact sg (Yo (ZL (K := 2281472) u1 u3 (by decide))))) (by (first | exact sg (Yz (n := 2281472) (by decide)) | exact sg u0 | exact sg u1 | exact sg u2 | exact u3 | exact sg (ZF.Ym u0) | exact sg (ZF.YS u0) | exact sg (ZL (K := 2281472) u1 u3 (by decide)) | exact sg (Yi (ZL (K := 2281472) u1 u3 (by decide))) | exact sg (Yo (ZL (K := 2281472) u1 u3 (by decide)))))) ?_
 refine cFo f (fun k5 h3 f => ?_) (fun k5 h3 f => ?_)
 ·have q3 := h3; try simp at q3
  simp
  refine cRs (qL 6) ?_
  exact rt [.cell 10 79] f
 have q3 := h3; try simp at q3
 simp
 refine cRs (ZLt a0 a1 (Zu a0 a1 a2) a4 (by (first | exact sg (Yz (n := 2281472) (by decide)) | exact sg u0 | exact sg u1 | exact sg u2 | exact u3 | exact sg (ZF.Ym u0) | exact sg (ZF.YS u0) | exact sg (ZL (K := 2281472) u1 u3 (by decide)) | exact sg (Yi (ZL (K := 2281472) u1 u3 (by decide))) | exact sg (Yo (ZL (K := 2281472) u1 u3 (by decide))))) (by (first | exact sg (Yz (n := 2281472) (by decide)) | exact sg u0 | exact sg u1 | exact sg u2 | exact u3 | exact sg (ZF.Ym u0) | exact sg (ZF.YS u0) | exact sg (ZL (K := 2281472) u1 u3 (by decide)) | exact sg (Yi (ZL (K := 2281472) u1 u3 (by decide))) | exact sg (Yo (ZL (K := 2281472) u1 u3 (by decide))))) (by (first | exact sg (Yz (n := 2281472) (by decide)) | exact sg u0 | exact sg u1 | exact sg u2 | exact u3 | exact sg (ZF.Ym u0) | exact sg (ZF.YS u0) | exact sg (ZL (K := 2281472) u1 u3 (by decide)) | exact sg (Yi (ZL (K := 2281472) u1 u3 (by decide))) | exact sg (Yo (ZL (K := 2281472) u1 u3 (by decide)))))) ?_
 refine cFo f (fun k6 h4 f => ?_) (fun k6 h4 f => ?_)
 ·have q4 := h4; try simp at q4
  simp
  refine cRs (qL 7) ?_
  exact rt [.cell 10 79] f
 have q4 := h4; try simp at q4
 simp
 refine cRs (Yb.rd (ZIj (Zu a0 a1 a2) (QP a0 (Zu a0 a1 a2) a4).1 (by (first | exact sg (Yz (n := 2281472) (by decide)) | exact sg u0 | exact sg u1 | exact sg u2 | exact u3 | exact sg (ZF.Ym u0) | exact sg (ZF.YS u0) | exact sg (ZL (K := 2281472) u1 u3 (by decide)) | exact sg (Yi (ZL (K := 2281472) u1 u3 (by decide))) | exact sg (Yo (ZL (K := 2281472) u1 u3 (by decide))))))) ?_
 refine cRs (ZNR (QP a0 (Zu a0 a1 a2) a4).1 (JB (Zu a0 a1 a2) (QP a0 (Zu a0 a1 a2) a4).1) (ZD.mk (Xu a0 a1 (Zu a0 a1 a2) a4) (Y2 a0 a1 a2 (XW a4))) (by (first | exact sg (Yz (n := 2281472) (by decide)) | exact sg u0 | exact sg u1 | exact sg u2 | exact u3 | exact sg (ZF.Ym u0) | exact sg (ZF.YS u0) | exact sg (ZL (K := 2281472) u1 u3 (by decide)) | exact sg (Yi (ZL (K := 2281472) u1 u3 (by decide))) | exact sg (Yo (ZL (K := 2281472) u1 u3 (by decide)))))) ?_
 refine cFo f (fun k7 h5 f => ?_) (fun k7 h5 f => ?_)
 ·have q5 := h5; try simp at q5
  simp
  exact rt [.cell 10 79] f
 have q5 := h5; try simp at q5
 simp
 refine cRs (ZJe (QP a0 (Zu a0 a1 a2) a4).1 (JB (Zu a0 a1 a2) (QP a0 (Zu a0 a1 a2) a4).1) (ZD.mk (Xu a0 a1 (Zu a0 a1 a2) a4) (Y2 a0 a1 a2 (XW a4))) (by (first | exact sg (Yz (n := 2281472) (by decide)) | exact sg u0 | exact sg u1 | exact sg u2 | exact u3 | exact sg (ZF.Ym u0) | exact sg (ZF.YS u0) | exact sg (ZL (K := 2281472) u1 u3 (by decide)) | exact sg (Yi (ZL (K := 2281472) u1 u3 (by decide))) | exact sg (Yo (ZL (K := 2281472) u1 u3 (by decide)))))) ?_
 refine cFo f (fun k8 h6 f => ?_) (fun k8 h6 f => ?_)
 ·have q6 := h6; try simp at q6
  simp
  exact rt [.cell 10 79] f
 have q6 := h6; try simp at q6
 simp
 refine dIs mixed ?_
 refine cRs (Yb.rd (ZKd (Zu a0 a1 a2) (by (first | exact sg (Yz (n := 2281472) (by decide)) | exact sg u0 | exact sg u1 | exact sg u2 | exact u3 | exact sg (ZF.Ym u0) | exact sg (ZF.YS u0) | exact sg (ZL (K := 2281472) u1 u3 (by decide)) | exact sg (Yi (ZL (K := 2281472) u1 u3 (by decide))) | exact sg (Yo (ZL (K := 2281472) u1 u3 (by decide))))))) ?_
 refine cRs (ZJb a0.Y3 (ym (Zu a0 a1 a2)) a4.Org (QP a0 (Zu a0 a1 a2) a4).1.Kb (ZD.mk (Xu a0 a1 (Zu a0 a1 a2) a4) (Y2 a0 a1 a2 (XW a4))) (by (first | exact sg (Yz (n := 2281472) (by decide)) | exact sg u0 | exact sg u1 | exact sg u2 | exact u3 | exact sg (ZF.Ym u0) | exact sg (ZF.YS u0) | exact sg (ZL (K := 2281472) u1 u3 (by decide)) | exact sg (Yi (ZL (K := 2281472) u1 u3 (by decide))) | exact sg (Yo (ZL (K := 2281472) u1 u3 (by decide))))) (by (first | exact sg (Yz (n := 2281472) (by decide)) | exact sg u0 | exact sg u1 | exact sg u2 | exact u3 | exact sg (ZF.Ym u0) | exact sg (ZF.YS u0) | exact sg (ZL (K := 2281472) u1 u3 (by decide)) | exact sg (Yi (ZL (K := 2281472) u1 u3 (by decide))) | exact sg (Yo (ZL (K := 2281472) u1 u3 (by decide)))))) ?_
 refine cFo f (fun k10 h7 f => ?_) (fun k10 h7 f => ?_)
 ·have q7 := h7; try simp at q7
  simp
  exact rt [.cell 10 79] f
 have q7 := h7; try simp at q7
 simp
 exact rt [.cell 10 79] f
theorem ZRt (a0 : ZF) (a1 : ZI) (a2 : Zg) (a3 : ZY) (u0 : Sm 2277376 a0) (u1 : Sm 2277376 a1) (u2 : Sm 2277376 a2) (u3 : ZQt a1 ≤ 2097152) : Sa 97 [a0.row, a1.row, a2.row, a3.row] [(ZHZ a0 a1 a2 a3).row] := by
 have f := me (ZHZ.eq_1 a0 a1 a2 a3)
 refine so Tryz.func97 Tryz.ntmps97 ?_
 refine dIs mixed ?_
 refine cRs (ZGu a1 a2 (by (first | exact sg u0 | exact sg u1 | exact sg u2 | exact u3 | exact sg (QN (n := 2277376) u1))) (by (first | exact sg u0 | exact sg u1 | exact sg u2 | exact u3 | exact sg (QN (n := 2277376) u1)))) ?_
 refine cRs (ZFk a3.Method a2 (by (first | exact sg u0 | exact sg u1 | exact sg u2 | exact u3 | exact sg (QN (n := 2277376) u1)))) ?_
 refine cRs (ZHE a0 a1 (Jf a1 a2) (xa a3.Method a2) a3 (by (first | exact sg u0 | exact sg u1 | exact sg u2 | exact u3 | exact sg (QN (n := 2277376) u1))) (by (first | exact sg u0 | exact sg u1 | exact sg u2 | exact u3 | exact sg (QN (n := 2277376) u1))) (by (first | exact sg u0 | exact sg u1 | exact sg u2 | exact u3 | exact sg (QN (n := 2277376) u1))) (by (first | exact sg u0 | exact sg u1 | exact sg u2 | exact u3 | exact sg (QN (n := 2277376) u1)))) ?_
 exact rt [.cell 8 79] f
theorem ZFf (a0 : ZF) (a1 : Z3) (u0 : Sm 2273280 a0) (u1 : Sm 2097152 a1) : Sa 51 [a0.row, a1.row] [(Kr a0 a1).row] := by
 have f := me (Kr.eq_1 a0 a1)
 refine so Tryz.func51 Tryz.ntmps51 ?_
 refine dIs mixed ?_
 refine cRs (ZHr a1 (by (first | exact sg u0 | exact sg (Z3.ZAz u1) | exact sg (n := 2097152) (show Sm 2097152 (ZI.mk [a1.Y7] []) from ⟨⟨Nat.le_of_ble_eq_true rfl, fun x hx => by rcases List.mem_cons.1 hx with rfl | hx; exact Z3.XZ u1; cases hx⟩, ⟨Nat.zero_le _, fun x hx => by cases hx⟩⟩) | exact (show a1.Y7.ZZ.length + 0 ≤ 2097152 from Yw (ZN.Y4 (Z3.XZ u1))) | exact sg u1))) ?_
 refine cRs (ZRt a0 (zT a1) a1.Doc a1.Sig (by (first | exact sg u0 | exact sg (Z3.ZAz u1) | exact sg (n := 2097152) (show Sm 2097152 (ZI.mk [a1.Y7] []) from ⟨⟨Nat.le_of_ble_eq_true rfl, fun x hx => by rcases List.mem_cons.1 hx with rfl | hx; exact Z3.XZ u1; cases hx⟩, ⟨Nat.zero_le _, fun x hx => by cases hx⟩⟩) | exact (show a1.Y7.ZZ.length + 0 ≤ 2097152 from Yw (ZN.Y4 (Z3.XZ u1))) | exact sg u1)) (by (first | exact sg u0 | exact sg (Z3.ZAz u1) | exact sg (n := 2097152) (show Sm 2097152 (ZI.mk [a1.Y7] []) from ⟨⟨Nat.le_of_ble_eq_true rfl, fun x hx => by rcases List.mem_cons.1 hx with rfl | hx; exact Z3.XZ u1; cases hx⟩, ⟨Nat.zero_le _, fun x hx => by cases hx⟩⟩) | exact (show a1.Y7.ZZ.length + 0 ≤ 2097152 from Yw (ZN.Y4 (Z3.XZ u1))) | exact sg u1)) (by (first | exact sg u0 | exact sg (Z3.ZAz u1) | exact sg (n := 2097152) (show Sm 2097152 (ZI.mk [a1.Y7] []) from ⟨⟨Nat.le_of_ble_eq_true rfl, fun x hx => by rcases List.mem_cons.1 hx with rfl | hx; exact Z3.XZ u1; cases hx⟩, ⟨Nat.zero_le _, fun x hx => by cases hx⟩⟩) | exact (show a1.Y7.ZZ.length + 0 ≤ 2097152 from Yw (ZN.Y4 (Z3.XZ u1))) | exact sg u1)) (by (first | exact sg u0 | exact sg (Z3.ZAz u1) | exact sg (n := 2097152) (show Sm 2097152 (ZI.mk [a1.Y7] []) from ⟨⟨Nat.le_of_ble_eq_true rfl, fun x hx => by rcases List.mem_cons.1 hx with rfl | hx; exact Z3.XZ u1; cases hx⟩, ⟨Nat.zero_le _, fun x hx => by cases hx⟩⟩) | exact (show a1.Y7.ZZ.length + 0 ≤ 2097152 from Yw (ZN.Y4 (Z3.XZ u1))) | exact sg u1))) ?_
 exact rt [.cell 4 79] f
theorem ZDB (a0 : Int) : Sa 95 [rI a0] [rS (JD a0)] := by
 have f := me (JD.eq_1 a0)
 refine so Tryz.func95 Tryz.ntmps95 ?_
 refine cRs (Ye a0 1 3) ?_
 refine cFo f (fun k1 h1 f => ?_) (fun k1 h1 f => ?_)
 ·have q1 := h1; try simp [YN] at q1
  simp
  exact rt [.tmp 2] f
 have q1 := h1; try simp [YN] at q1
 have i1 := ik a0.toNat ([(⟨#[]⟩ : ByteArray), (⟨#[118, 97, 108, 105, 100]⟩ : ByteArray), (⟨#[105, 110, 118, 97, 108, 105, 100]⟩ : ByteArray), (⟨#[111, 112, 101, 110]⟩ : ByteArray)] : List ByteArray)
 have r1 := ZA (f := sR) i1; try simp at r1
 simp [i1, r1, ZA]
 repeat with_reducible refine sd ?_
 exact rt [.tmp 2] f
theorem ZEk (a0 : Int) : Sa 96 [rI a0] [rS (Ju a0)] := by
 have f := me (Ju.eq_1 a0)
 refine so Tryz.func96 Tryz.ntmps96 ?_
 refine cRs (Ye a0 0 9) ?_
 refine cFo f (fun k1 h1 f => ?_) (fun k1 h1 f => ?_)
 ·have q1 := h1; try simp [YN] at q1
  simp
  exact rt [.tmp 2] f
 have q1 := h1; try simp [YN] at q1
 have i1 := ik a0.toNat ([(⟨#[110, 111, 110, 101]⟩ : ByteArray), (⟨#[102, 111, 114, 109]⟩ : ByteArray), (⟨#[100, 111, 99, 117, 109, 101, 110, 116]⟩ : ByteArray), (⟨#[107, 101, 121]⟩ : ByteArray), (⟨#[109, 97, 114, 107]⟩ : ByteArray), (⟨#[98, 114, 111, 107, 101, 110]⟩ : ByteArray), (⟨#[99, 101, 114, 116, 105, 102, 105, 99, 97, 116, 101]⟩ : ByteArray), (⟨#[116, 105, 109, 101]⟩ : ByteArray), (⟨#[101, 110, 100, 101, 100]⟩ : ByteArray), (⟨#[109, 97, 110, 100, 97, 116, 101]⟩ : ByteArray)] : List ByteArray)
 have r1 := ZA (f := sR) i1; try simp at r1
 simp [i1, r1, ZA]
 repeat with_reducible refine sd ?_
 exact rt [.tmp 2] f
theorem ZGv (a0 : Yf) : Sa 50 [a0.row] [rS (Je a0)] := by
 have f := me (Je.eq_1 a0)
 refine so Tryz.func50 Tryz.ntmps50 ?_
 refine cRs (ZDB a0.Code) ?_
 refine cGs (fun gg => (ZEk a0.Reason)) ?_
 refine cF f (fun k1 h1 f => ?_) (fun k1 h1 f => ?_)
 ·exact rt [.tmp 2] f
 refine dIs mixed ?_
 have o1 := ZB3 a0.Code
 refine cRs (ZDB a0.Code) ?_
 have o2 := ZCb a0.Reason
 refine cRs (ZEk a0.Reason) ?_
 refine cF f (fun k3 h2 f => ?_) (fun k3 h2 f => ?_)
 ·refine okD fun k4 => ?_
  refine dIs mixed ?_
  have o3 := YX a0.Span.YQ
  refine cRs (Xh a0.Span.YQ) ?_
  have o4 := YX a0.Span.To
  refine cRs (Xh a0.Span.To) ?_
  exact rt [.tmp 2] f
 exact rt [.tmp 2] f
theorem ZAs (a0 : ZF) (a1 : Z3) (u0 : Sm 2269184 a0) (u1 : Sm 2097152 a1) : Sa 13 [a0.row, a1.row] [rS (Jz a0 a1)] := by
 have f := me (Jz.eq_1 a0 a1)
 refine so Tryz.func13 Tryz.ntmps13 ?_
 refine dIs mixed ?_
 have o1 := YX a1.Id
 refine cRs (Xh a1.Id) ?_
 have o2 := YX a1.Sig.Key
 refine cRs (Xh a1.Sig.Key) ?_
 have o3 := YX (↑a1.Y7.ZZ.length : Int)
 refine cRs (Xh (↑a1.Y7.ZZ.length : Int)) ?_
 have o4 := YX (↑a1.Y7.ZR.length : Int)
 refine cRs (Xh (↑a1.Y7.ZR.length : Int)) ?_
 refine cRs (ZFf a0 a1 (by (first | exact sg u0 | exact u1)) (by (first | exact sg u0 | exact u1))) ?_
 have o5 := ZAk (Kr a0 a1)
 refine cRs (ZGv (Kr a0 a1)) ?_
 exact rt [.tmp 4] f
theorem ZGl (a0 : ZF) (a1 : Zc) (u0 : Sm 1048576 a0) (u1 : Sm 1048576 a1) : Sa 20 [a0.row, a1.row] [rS (yp a0 a1)] := by
 have f := me (yp.eq_1 a0 a1)
 refine so Tryz.func20 Tryz.ntmps20 ?_
 refine cF f (fun k1 h1 f => ?_) (fun k1 h1 f => ?_)
 ·exact rt [.tmp 4] f
 refine lp2 (Jd.eq_2 a0 a1) (fun v1_0 v1_1 => Yc 32 [eX 2 (a0.row.map .d), eX 3 (a1.row.map .d), (5, .one (.d (.str v1_0)), []), eI 6 (↑v1_1 : Int)]) (fun n1 v1_0 v1_1 => a1.Z5.length < n1 + v1_1 ∧ v1_1 ≤ a1.Z5.length ∧ v1_0.size ≤ 402 * v1_1) (a1.Z5.length + 1) (⟨#[]⟩ : ByteArray) 0 (fun p1 v1_0 v1_1 e1 j1 => ?_) (hI := by exact ⟨by omega, by omega, Nat.zero_le _, Nat.zero_le _⟩)
 try dsimp only at j1
 refine cF e1 (fun k3 h2 e1 => ?_) (fun k3 h2 e1 => ?_)
 ·have i1 := ix h2
  have m2 := ml a1.Z5 (k3 13 _ rfl)
  have c1 := sl 1048576 a1.Z5 (an u0 u1)
  have w1 := wr v1_1
  refine cF e1 (fun k4 h3 e1 => ?_) (fun k4 h3 e1 => ?_)
  ·refine okD fun k5 => ?_
   refine dIo mixed ?_
   simp [i1, ZA]
   repeat with_reducible refine sd ?_
   have o1 := xE a0 (nth a1.Z5 v1_1)
   refine cRs (ZAs a0 (nth a1.Z5 v1_1) (sg u0) (sg (Z2 (Zc.qt u1)))) ?_
   exact ny2 w1 e1 (hI := by (have o := xE a0 (nth a1.Z5 v1_1); (try dsimp only); refine ⟨by omega, by omega, by omega, ?_⟩; simp; omega))
  refine dIo mixed ?_
  simp [i1, ZA]
  repeat with_reducible refine sd ?_
  have o2 := xE a0 (nth a1.Z5 v1_1)
  refine cRs (ZAs a0 (nth a1.Z5 v1_1) (sg u0) (sg (Z2 (Zc.qt u1)))) ?_
  exact ny2 w1 e1 (hI := by (have o := xE a0 (nth a1.Z5 v1_1); (try dsimp only); refine ⟨by omega, by omega, by omega, ?_⟩; simp; omega))
 have c2 := sl 1048576 a1.Z5 (an u0 u1)
 have f := ms f e1
 exact rt [.tmp 4] f
theorem ZNC (a0 : Zc) (a1 : Int) : Sa 115 [a0.row, rI a1] [rI (xR a0 a1)] := by
 have f := me (xR.eq_1 a0 a1)
 refine so Tryz.func115 Tryz.ntmps115 ?_
 refine lp1 (qM.eq_2 a0 a1) (fun v1_0 => Yc 22 [eI 1 a1, eX 2 (a0.row.map .d), eI 5 (↑v1_0 : Int)]) (fun n1 v1_0 => a0.Z5.length < n1 + v1_0 ∧ v1_0 ≤ a0.Z5.length) (a0.Z5.length + 1) 0 (fun p1 v1_0 e1 j1 => ?_)
 refine cFf e1 (fun k2 h1 e1 => ?_) (fun k2 h1 e1 => ?_)
 ·have i1 := ix h1
  have m2 := ml a0.Z5 (k2 8 _ rfl)
  have w1 := wr v1_0
  simp [i1, ZA]
  repeat with_reducible refine sd ?_
  refine cF e1 (fun k3 h2 e1 => ?_) (fun k3 h2 e1 => ?_)
  ·have f := ms f e1
   exact rt [.tmp 4] f
  exact ny1 w1 e1
 have f := ms f e1
 exact rt [.tmp 4] f
theorem ZQl (a0 : YD) (a1 : Int) : Sa 74 [a0.row, rI a1] [rI (QZ a0 a1).1, rI (QZ a0 a1).2] := by
 have f := me (QZ.eq_1 a0 a1)
 refine so Tryz.func74 Tryz.ntmps74 ?_
 refine lp1 (xV.eq_2 a0 a1) (fun v1_0 => Yc 26 [eI 1 a1, eX 2 (a0.row.map .d), eI 6 (↑v1_0 : Int)]) (fun n1 v1_0 => a0.ZH.length < n1 + v1_0 ∧ v1_0 ≤ a0.ZH.length) (a0.ZH.length + 1) 0 (fun p1 v1_0 e1 j1 => ?_)
 refine cFf e1 (fun k2 h1 e1 => ?_) (fun k2 h1 e1 => ?_)
 ·have i1 := ix h1
  have m2 := ml a0.ZH (k2 10 _ rfl)
  have w1 := wr v1_0
  simp [i1, ZA]
  repeat with_reducible refine sd ?_
  refine cRs (ZNC (nth a0.ZH v1_0) a1) ?_
  refine cF e1 (fun k3 h2 e1 => ?_) (fun k3 h2 e1 => ?_)
  ·have f := ms f e1
   exact rt [.tmp 4, .tmp 5] f
  exact ny1 w1 e1
 have f := ms f e1
 exact rt [.tmp 4, .tmp 5] f
theorem ZIQ {a b : Prop} (h : b) (k : a := by (intros; first | omega | with_unfolding_all (first | first | omega | (have fi := ZEA a0 a1 (by first | omega | (simp at q1; omega)); omega)) | ((try simp only [J7, show ∀ x, IntKind.i64.wrap x = W x from fun _ => rfl] at *); omega))) : a ∧ b := ⟨k, h⟩
theorem ZDV (a0 : YD) (a1 : Int) (u0 : Sm 1048576 a0) : Sa 25 [a0.row, rI a1] [(zN a0 a1).row] := by
 have f := me (zN.eq_1 a0 a1)
 refine so Tryz.func25 Tryz.ntmps25 ?_
 refine cRs (ZQl a0 a1) ?_
 refine cFo f (fun k1 h1 f => ?_) (fun k1 h1 f => ?_)
 ·have q1 := h1; try simp at q1
  simp
  exact rt [.cell 4 79] f
 have q1 := h1; try simp at q1
 simp
 refine dIo mixed ?_
 have i1 : (QZ a0 a1).1.toNat < a0.ZH.length := by first | omega | (have fi := ZEA a0 a1 (by first | omega | (simp at q1; omega)); omega)
 have i2 : (QZ a0 a1).2.toNat < (nth a0.ZH (QZ a0 a1).1.toNat).Z5.length := by first | omega | (have fi := ZEA a0 a1 (by first | omega | (simp at q1; omega)); omega)
 simp [i1, ZA, i2]
 repeat with_reducible refine ZIQ ?_
 refine cRs (ZFf a0.Frame (nth (nth a0.ZH (QZ a0 a1).1.toNat).Z5 (QZ a0 a1).2.toNat) (sg (YD.ZMi u0)) (sg (Z2 (Zc.qt (Z2 (YD.ZCm u0)))))) ?_
 exact rt [.cell 4 79] f
theorem ZJP {a b : Prop} (h : b) (k : a := by (intros; first | omega | with_unfolding_all (first | (first | omega | (have d := ZG9 (l := a0.ZH) (i := v1_1) (by first | omega | (simp at *; omega)); omega))) | ((try simp only [J7, show ∀ x, IntKind.i64.wrap x = W x from fun _ => rfl] at *); omega))) : a ∧ b := ⟨k, h⟩
theorem ZQR (a0 : YD) (u0 : Sm 1048576 a0) (u1 : itn a0.ZH ≤ 1048576) : Sd 82 [a0.row] [rL 1 iR (KZ a0)] := by
 have f := me (KZ.eq_1 a0)
 refine soD Tryz.func82 Tryz.ntmps82 ?_
 refine lp2 (ZCA.eq_2 a0) (fun v1_0 v1_1 => Yc 39 [eX 1 (a0.row.map .d), (3, .one (.sref 3 0 0 v1_0.length), [.arr false 1 (v1_0.map iR)]), eI 4 (↑v1_1 : Int)]) (fun n1 v1_0 v1_1 => a0.ZH.length < n1 + v1_1 ∧ v1_1 ≤ a0.ZH.length ∧ v1_0.length + itn (a0.ZH.drop v1_1) ≤ 1048576) (a0.ZH.length + 1) ([] : List Int) 0 (fun p1 v1_0 v1_1 e1 j1 => ?_) (hI := by ((try dsimp only); simp only [List.length_nil, List.drop_zero]; omega)) (h0 := Yh [((3, 0), some (6, 0))] [] rfl (by simp))
 try dsimp only at j1
 refine cF e1 (fun k2 h1 e1 => ?_) (fun k2 h1 e1 => ?_)
 ·have i1 := ix h1
  have m2 := ml a0.ZH (k2 9 _ rfl)
  have c1 := sl 1048576 a0.ZH (an u0 u1)
  have w1 := wr v1_1
  refine ZXQ (ZBw.eq_2 a0 v1_1) (fun v2_0 v2_1 => Yc 39 [eX 1 (a0.row.map .d), (3, .one (.sref 3 0 0 v2_0.length), [.arr false 1 (v2_0.map iR)]), eI 4 (↑v1_1 : Int), eI 5 (↑v2_1 : Int)]) (fun n2 v2_0 v2_1 => (nth a0.ZH v1_1).Z5.length < n2 + v2_1 ∧ v2_1 ≤ (nth a0.ZH v1_1).Z5.length ∧ v2_0.length + ((nth a0.ZH v1_1).Z5.length - v2_1) + itn (a0.ZH.drop (v1_1 + 1)) ≤ 1048576) ((nth a0.ZH v1_1).Z5.length + 1) v1_0 0 (fun p2 v2_0 v2_1 e2 j2 => ?_) (hI := by (have d := ZG9 (l := a0.ZH) (i := v1_1) (by first | omega | (simp at *; omega)); (try dsimp only); omega))
  try dsimp only at j2
  simp [i1, ZA]
  repeat with_reducible refine ZJP ?_
  refine cFf e2 (fun k4 h2 e2 => ?_) (fun k4 h2 e2 => ?_)
  ·have i2 := ix h2
   have m4 := ml (nth a0.ZH v1_1).Z5 (k4 20 _ rfl)
   have c2 := sl 1048576 (nth a0.ZH v1_1).Z5 (an u0 u1)
   have w2 := wr v2_1
   simp [i1, ZA, i2]
   repeat with_reducible refine ZJP ?_
   exact nx2 e2 (hI := by ((try dsimp only); (try simp only [List.length_append, List.length_singleton]); omega)) (hw := Yh [((3, 0), some (37, 0))] [] rfl (by simp [w1, w2]))
  have c3 := sl 1048576 (nth a0.ZH v1_1).Z5 (an u0 u1)
  have e1 := ms e1 e2
  exact ny2 w1 e1 (hI := by (first | omega | ((try dsimp only); omega) | (simp at *; omega)))
 have c4 := sl 1048576 a0.ZH (an u0 u1)
 have f := ms f e1
 exact rtD [.tmp 2] f
theorem ye (a0 : YD) (a1 : Int) (u0 : Sm 1048576 a0) (u1 : itn a0.ZH ≤ 1048576) : Sa 30 [a0.row, rI a1] [rI (XQ a0 a1)] := by
 have f := me (XQ.eq_1 a0 a1)
 refine so Tryz.func30 Tryz.ntmps30 ?_
 refine cRs (Yb.rd (ZQR a0 u0 (by omega))) ?_
 refine lp2 (Jc.eq_2 a0 a1) (fun v1_0 v1_1 => Yc 28 [eI 1 a1, eX 2 (a0.row.map .d), eI 5 v1_0, eL 6 1 (KZ a0) iR, eI 7 (↑v1_1 : Int)]) (fun n1 v1_0 v1_1 => (KZ a0).length < n1 + v1_1 ∧ v1_1 ≤ (KZ a0).length) ((KZ a0).length + 1) 0 0 (fun p1 v1_0 v1_1 e1 j1 => ?_)
 refine cF e1 (fun k2 h1 e1 => ?_) (fun k2 h1 e1 => ?_)
 ·have i1 := ix h1
  have m2 := ml (KZ a0) (k2 6 _ rfl)
  have w1 := wr v1_1
  refine dIo mixed ?_
  simp [i1, ZA]
  repeat with_reducible refine sd ?_
  refine cRs (ZDV a0 (nth (KZ a0) v1_1) u0) ?_
  refine cF e1 (fun k4 h2 e1 => ?_) (fun k4 h2 e1 => ?_)
  ·exact ny2 w1 e1
  exact ny2 w1 e1
 have f := ms f e1
 exact rt [.tmp 4] f
theorem ZIM (a0 : YD) (u0 : Sm 1048576 a0) (u1 : itn a0.ZH ≤ 1048576) : Sa 32 [a0.row] [rS (qp a0)] := by
 have f := me (qp.eq_1 a0)
 refine so Tryz.func32 Tryz.ntmps32 ?_
 have o1 := YX a0.Frame.Now
 refine cRs (Xh a0.Frame.Now) ?_
 refine lp2 (Kn.eq_2 a0) (fun v1_0 v1_1 => Yc 53 [eX 1 (a0.row.map .d), (3, .one (.d (.str v1_0)), []), eI 4 (↑v1_1 : Int)]) (fun n1 v1_0 v1_1 => a0.ZH.length < n1 + v1_1 ∧ v1_1 ≤ a0.ZH.length ∧ v1_0.size ≤ 25 + 25 * v1_1) (a0.ZH.length + 1) ((XT a0.Frame.Now) ++ (⟨#[32]⟩ : ByteArray)) 0 (fun p1 v1_0 v1_1 e1 j1 => ?_) (hI := by (have z := YX a0.Frame.Now; (try dsimp only); refine ⟨by omega, by omega, Nat.zero_le _, ?_⟩; simp; omega))
 try dsimp only at j1
 refine cF e1 (fun k2 h1 e1 => ?_) (fun k2 h1 e1 => ?_)
 ·have i1 := ix h1
  have m2 := ml a0.ZH (k2 12 _ rfl)
  have c1 := sl 1048576 a0.ZH (an u0 u1)
  have w1 := wr v1_1
  refine cFo e1 (fun k3 h2 e1 => ?_) (fun k3 h2 e1 => ?_)
  ·simp [i1, ZA]
   repeat with_reducible refine sd ?_
   have o2 := YX (↑(nth a0.ZH v1_1).Z5.length : Int)
   refine cRs (Xh (↑(nth a0.ZH v1_1).Z5.length : Int)) ?_
   exact ny2 w1 e1 (hI := by (have o := YX (↑(nth a0.ZH v1_1).Z5.length : Int); (try dsimp only); refine ⟨by omega, by omega, by omega, ?_⟩; simp; omega))
  simp [i1, ZA]
  repeat with_reducible refine sd ?_
  have o3 := YX (↑(nth a0.ZH v1_1).Z5.length : Int)
  refine cRs (Xh (↑(nth a0.ZH v1_1).Z5.length : Int)) ?_
  exact ny2 w1 e1 (hI := by (have o := YX (↑(nth a0.ZH v1_1).Z5.length : Int); (try dsimp only); refine ⟨by omega, by omega, by omega, ?_⟩; simp; omega))
 have c2 := sl 1048576 a0.ZH (an u0 u1)
 have f := ms f e1
 refine dIs mixed ?_
 refine cRs (ye a0 1 u0 (by omega)) ?_
 have o4 := YX (XQ a0 1)
 refine cRs (Xh (XQ a0 1)) ?_
 refine cRs (ye a0 2 u0 (by omega)) ?_
 have o5 := YX (XQ a0 2)
 refine cRs (Xh (XQ a0 2)) ?_
 refine cRs (ye a0 3 u0 (by omega)) ?_
 have o6 := YX (XQ a0 3)
 refine cRs (Xh (XQ a0 3)) ?_
 have o7 := YX (↑a0.KW.length : Int)
 refine cRs (Xh (↑a0.KW.length : Int)) ?_
 exact rt [.tmp 2] f
end Go.Proofs.YtfhmpplolpejnaaGreat
