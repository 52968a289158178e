/- Contracts of the functions ON the abstract machine, part I1. No condition. -/
import Derived.Test.YtlilcnnajeeigaaGreatL
import Derived.Test.YtlilcnnajeeigaaGreatTy
namespace Go.Proofs.YtlilcnnajeeigaaGreat
open Tryz
open Go.Vm Go.Mo
set_option maxHeartbeats 1000000
set_option maxRecDepth 100000
set_option linter.unusedSimpArgs false
set_option linter.unusedVariables false
theorem QX (a0 : Int) : Sa 15 [rI a0] [rS (Y3 a0)] := by
 have f := me (Y3.eq_1 a0)
 refine so func15 ntmps15 ?_
 refine lp2 (QO.eq_2) (fun J U => Yd 30 [eI 0 J, (3, .one (.sref 3 0 0 U.length), [.arr false 1 (U.map bR)]), eB 4 (decide (a0 < 0))]) (fun n1 J U => (n1 = 21 \/ J.natAbs < 10 ^ n1) /\ U.length + n1 = 21) 21 a0 ([] : List UInt8) (fun p1 J U e1 j1 => ?_) (hI := by exact ⟨by omega, .inl rfl, rfl⟩) (h0 := wkS [((3, 0), none)] [])
 try dsimp only at j1
 refine cF e1 ?_ ?_ <;> intro k2 h1 e1
 ·refine cF e1 ?_ ?_ <;> intro k3 h2 e1
  ·have f := ms f e1
   refine cF f ?_ ?_ <;> intro k4 h3 f
   ·refine toStr (l := (([(UInt8.ofInt (W (48 + (W (-(Int.tmod J 10))))))] : List UInt8) ++ U)) rfl rfl rfl (by simp) (by simp) (by simp) (by simp [JG, HU]) ?_
    simp
    refine rpS ?_
    exact rt [.tmp 2] f
   refine toStr (l := (([(UInt8.ofInt (W (48 + (W (-(Int.tmod J 10))))))] : List UInt8) ++ U)) rfl rfl rfl (by simp) (by simp) (by simp) (by simp [JG, HU]) ?_
   simp
   exact rt [.tmp 2] f
  exact nx2 e1 (hI := by (try dsimp only); obtain ⟨s1, s2⟩ := EU j1.2.1 h2; refine ⟨s1, s2, ?_⟩; have := j1.2.2; simp; omega) (hw := wkS [((3, 0), some (19, 0))] [])
 refine cF e1 ?_ ?_ <;> intro k5 h4 e1
 ·have f := ms f e1
  refine cF f ?_ ?_ <;> intro k6 h5 f
  ·refine toStr (l := (([(UInt8.ofInt (W (48 + (Int.tmod J 10))))] : List UInt8) ++ U)) rfl rfl rfl (by simp) (by simp) (by simp) (by simp [JG, HU]) ?_
   simp
   refine rpS ?_
   exact rt [.tmp 2] f
  refine toStr (l := (([(UInt8.ofInt (W (48 + (Int.tmod J 10))))] : List UInt8) ++ U)) rfl rfl rfl (by simp) (by simp) (by simp) (by simp [JG, HU]) ?_
  simp
  exact rt [.tmp 2] f
 exact nx2 e1 (hI := by (try dsimp only); obtain ⟨s1, s2⟩ := EU j1.2.1 h4; refine ⟨s1, s2, ?_⟩; have := j1.2.2; simp; omega) (hw := wkS [((3, 0), some (19, 0))] [])
theorem NF (a0 : List Int) (u0 : Sm 2342912 a0) : Sd 161 [rL 1 iR a0] [rL 1 iR (Up a0)] := by
 have f := me (Up.eq_1 a0)
 have c1 := sl 2342912 a0 u0
 refine soD func161 ntmps161 ?_
 exact rtD [.tmp 2] f
theorem Pr (a0 : List Int) (u0 : Sm 2342912 a0) : Sd 161 [rL 1 iR a0] [rL 1 iR a0] := by
  have h := NF a0 u0
  rwa [Og] at h
theorem OE (a0 : ZE) (u0 : Sm 2338816 a0) : Sd 107 [a0.row] [(W4 a0).row] := by
 have f := me (W4.eq_1 a0)
 refine soD func107 ntmps107 ?_
 refine cDs [false] (Pr a0.Z0 (sg (ZE.WB u0))) ?_
 exact rtD [.cell 2 116] f
theorem xY (a0 : ZE) (u0 : Sm 2338816 a0) : Sd 107 [a0.row] [a0.row] := by
  have h := OE a0 u0
  rwa [OT] at h
theorem Rc (a0 : List ZE) (u0 : Sm 2334720 a0) : Sd 72 [rL 3 ZE.row a0] [rL 3 ZE.row (qA a0)] := by
 have f := me (qA.eq_1 a0)
 refine soD func72 ntmps72 ?_
 refine lp2 (zz.eq_2 a0) (fun J U => Yd 19 [(3, .one (.sref 3 0 0 J.length), [.arr true 3 (J.map ZE.row)]), eL 6 3 a0 ZE.row, eI 7 (a0.length : Int), eI 8 (U : Int)]) (fun n1 J U => a0.length < n1 + U /\ U <= a0.length /\ J.length <= 0 + 1 * U) (a0.length + 1) ([] : List ZE) 0 (fun p1 J U e1 j1 => ?_) (h0 := wkS [((3, 0), none)] [])
 refine cFf e1 ?_ ?_ <;> intro k2 h1 e1
 ·have i1 := ix h1
  have m2 := ml a0 (k2 6 _ rfl)
  have c1 := sl 2334720 a0 u0
  have w1 := wr U
  simp [i1, ZC]
  refine rpS ?_
  refine cDs [true, false] (xY (nth a0 U) (sg (Z2 u0))) ?_
  refine Vq ?_
  simp
  refine UB (wI := (J.map ZE.row)) (news := (([(nth a0 U)] : List ZE).map ZE.row)) (l1 := [(3, 0)]) (l2 := [(14, 1)]) (size := 3) ?_
  simp
  exact nx2 e1 (hw := Y5 [((3, 0), some (16, 0))] [] rfl (by simp [w1]))
 have c2 := sl 2334720 a0 u0
 have f := ms f e1
 exact rtD [.tmp 2] f
theorem Si (a0 : List ZE) (u0 : Sm 2334720 a0) : Sd 72 [rL 3 ZE.row a0] [rL 3 ZE.row a0] := by
  have h := Rc a0 u0
  rwa [Rv] at h
theorem Rl (a0 : List ZV) (u0 : Sm 2342912 a0) : Sd 124 [rL 5 ZV.row a0] [rL 5 ZV.row (WH a0)] := by
 have f := me (WH.eq_1 a0)
 have c1 := sl 2342912 a0 u0
 refine soD func124 ntmps124 ?_
 exact rtD [.tmp 2] f
theorem SY (a0 : List ZV) (u0 : Sm 2342912 a0) : Sd 124 [rL 5 ZV.row a0] [rL 5 ZV.row a0] := by
  have h := Rl a0 u0
  rwa [Rb] at h
theorem SB (a0 : ZK) (u0 : Sm 2338816 a0) : Sd 73 [a0.row] [(kI a0).row] := by
 have f := me (kI.eq_1 a0)
 have c1 := sl 2338816 a0.Path u0
 refine soD func73 ntmps73 ?_
 refine cDs [false] (SY a0.Z7 (sg (ZK.Nk u0))) ?_
 exact rtD [.cell 2 140] f
theorem Ty (a0 : ZK) (u0 : Sm 2338816 a0) : Sd 73 [a0.row] [a0.row] := by
  have h := SB a0 u0
  rwa [Sh] at h
theorem Ro (a0 : ZG) (u0 : Sm 2330624 a0) : Sd 42 [a0.row] [(xr a0).row] := by
 have f := me (xr.eq_1 a0)
 refine soD func42 ntmps42 ?_
 refine cDs [] (Si a0.ZO (sg (ZG.XJ u0))) ?_
 refine lp2 (zy.eq_2 a0) (fun J U => Yd 26 [(2, .one (.bptr 2 0), [.box [.nil 3, .nil 5]]), (3, .one (.bptr 3 0), [.box [.sref 8 0 0 a0.ZO.length, .sref 3 2 0 U.length], .none, .arr true 5 (U.map ZK.row)]), (8, .any, [.arr true 3 (a0.ZO.map ZE.row)]), eL 11 5 a0.ZJ ZK.row, eI 12 (a0.ZJ.length : Int), eI 13 (J : Int)]) (fun n1 J U => a0.ZJ.length < n1 + J /\ J <= a0.ZJ.length /\ U.length <= 0 + 1 * J) (a0.ZJ.length + 1) 0 ([] : List ZK) (fun p1 J U e1 j1 => ?_) (h0 := wkS [((3, 2), none)] [])
 refine cFf e1 ?_ ?_ <;> intro k2 h1 e1
 ·have i1 := ix h1
  have m2 := ml a0.ZJ (k2 11 _ rfl)
  have c1 := sl 2330624 a0.ZJ u0
  have w1 := wr J
  simp [i1, ZC]
  refine rpS ?_
  refine drJ [22] mixed ?_
  simp
  refine cDs [true, true, true, false, false] (Ty (nth a0.ZJ J) (sg (Z2 (ZG.KB u0)))) ?_
  refine Vq ?_
  simp
  refine UB (wI := (U.map ZK.row)) (news := (([(nth a0.ZJ J)] : List ZK).map ZK.row)) (l1 := [(3, 2)]) (l2 := [(20, 3), (20, 4)]) (size := 5) ?_
  simp
  exact nx2 e1 (hw := Y5 [((3, 2), some (22, 0))] [] rfl (by simp [w1]))
 have c2 := sl 2330624 a0.ZJ u0
 have f := ms f e1
 exact rtD [.cell 2 45] f
theorem SV (a0 : ZG) (u0 : Sm 2330624 a0) : Sd 42 [a0.row] [a0.row] := by
  have h := Ro a0 u0
  rwa [Rn] at h
theorem TY (a0 : Zp) (u0 : Sm 2326528 a0) : Sd 30 [a0.row] [(yL a0).row] := by
 have f := me (yL.eq_1 a0)
 refine soD func30 ntmps30 ?_
 refine cDs [] (SV a0.XM (sg (Zp.Qk u0))) ?_
 refine EM (news := (([a0.XM] : List ZG).map ZG.row)) (L := [(5, 0), (5, 1)]) rfl rfl rfl rfl (by simp) (by simp) (by simp) (by simp) (by simp) (by simp) ?_
 simp
 exact rtD [.cell 2 81] f
theorem Ze (a0 : Int) (a1 : Int) (a2 : Int) : Sa 38 [rI a0, rI a1, rI a2] [rB (ZS a0 a1 a2)] := by
 have f := me (ZS.eq_1 a0 a1 a2)
 refine so func38 ntmps38 ?_
 exact rt [.tmp 6] f
theorem RY (a0 : ZM) : Sa 69 [a0.row] [rB (zm a0)] := by
 have f := me (zm.eq_1 a0)
 refine so func69 ntmps69 ?_
 refine cRs (Ze a0.QF 0 999) ?_
 refine cGs (fun gg => (Ze (a0.Zd.length : Int) 1 6)) ?_
 refine cFo f ?_ ?_ <;> intro k1 h1 f
 ·have q1 := h1; try simp [ZS] at q1
  simp
  exact rt [.tmp 2] f
 have q1 := h1; try simp [ZS] at q1
 simp
 refine lp1 (zt.eq_2 a0) (fun J => Yd 46 [eX 1 (a0.row.map .d), eL 26 1 a0.Zd sR, eI 27 (a0.Zd.length : Int), eI 28 (J : Int)]) (fun n1 J => a0.Zd.length < n1 + J /\ J <= a0.Zd.length) (a0.Zd.length + 1) 0 (fun p1 J e1 j1 => ?_)
 refine cFf e1 ?_ ?_ <;> intro k3 h2 e1
 ·have i1 := ix h2
  have m2 := ml a0.Zd (k3 26 _ rfl)
  have w1 := wr J
  simp [i1, ZC]
  refine rpS ?_
  refine gIf ?_ ?_ <;> intro G
  ·have i2 := ik J a0.Yh
   simp [i2, ZC, G]
   refine rpG ?_
   refine cGg (fun gg => (Ze (nth a0.Yh J) 1 1000000000000)) ?_
   refine cKo e1 ?_ ?_ <;> intro k4 h3 e1
   ·have q3 := h3; try simp [ZS] at q3
    have f := ms f e1
    simp [G]
    refine rpG ?_
    exact rtg [.tmp 2] f
   ·have q3 := h3; try simp [ZS] at q3
    simp [G]
    refine rpG ?_
    exact ny1 (an w1 G) e1
  ·refine sGo ?_
   simp [G]
   refine rpG ?_
   refine cKo e1 ?_ ?_ <;> intro k5 h4 e1
   ·have q4 := h4; try simp [ZS] at q4
    have f := ms f e1
    simp [G]
    refine rpG ?_
    exact rtg [.tmp 2] f
   ·simp [G] at h4
 have f := ms f e1
 exact rt [.tmp 2] f
theorem MS (a0 : List UInt8) (u0 : Sm 2342912 a0) : Sd 122 [rL 1 bR a0] [rL 1 iR (qM a0)] := by
 have f := me (qM.eq_1 a0)
 refine soD func122 ntmps122 ?_
 refine lp2 (xE.eq_2 a0) (fun J U => Yd 19 [(3, .one (.sref 3 0 0 J.length), [.arr false 1 (J.map iR)]), eL 6 1 a0 bR, eI 7 (a0.length : Int), eI 8 (U : Int)]) (fun n1 J U => a0.length < n1 + U /\ U <= a0.length /\ J.length <= 0 + 1 * U) (a0.length + 1) ([] : List Int) 0 (fun p1 J U e1 j1 => ?_) (h0 := wkS [((3, 0), none)] [])
 refine cFf e1 ?_ ?_ <;> intro k2 h1 e1
 ·have i1 := ix h1
  have m2 := ml a0 (k2 6 _ rfl)
  have c1 := sl 2342912 a0 u0
  have w1 := wr U
  simp [i1, ZC]
  refine rpS ?_
  exact nx2 e1 (hw := Y5 [((3, 0), some (16, 0))] [] rfl (by simp [w1]))
 have c2 := sl 2342912 a0 u0
 have f := ms f e1
 exact rtD [.tmp 2] f
theorem FT (a0 : Int) (a1 : Int) : Sa 179 [rI a0, rI a1] [rI (FJ a0 a1)] := by
 have f := me (FJ.eq_1 a0 a1)
 refine so func179 ntmps179 ?_
 refine cRs (Ze a1 1 1000000000000) ?_
 refine cFo f ?_ ?_ <;> intro k1 h1 f
 ·have q1 := h1; try simp [ZS] at q1
  simp
  exact rt [.tmp 4] f
 have q1 := h1; try simp [ZS] at q1
 simp
 refine rpS ?_
 exact rt [.tmp 4] f
theorem NM (a0 : List Int) : Sa 123 [rL 1 iR a0] [rI (MN a0)] := by
 have f := me (MN.eq_1 a0)
 refine so func123 ntmps123 ?_
 refine lp2 (Pl.eq_2 a0) (fun J U => Yd 21 [eI 3 J, eL 6 1 a0 iR, eI 7 (a0.length : Int), eI 8 (U : Int)]) (fun n1 J U => a0.length < n1 + U /\ U <= a0.length) (a0.length + 1) 11 0 (fun p1 J U e1 j1 => ?_)
 refine cFf e1 ?_ ?_ <;> intro k2 h1 e1
 ·have i1 := ix h1
  have m2 := ml a0 (k2 6 _ rfl)
  have w1 := wr U
  simp [i1, ZC]
  refine rpS ?_
  refine cRs (FT (nth a0 U) 2147483647) ?_
  exact ny2 w1 e1
 have f := ms f e1
 exact rt [.tmp 2] f
theorem QL (a0 : Int) (a1 : List Int) (u0 : Sm 68719476736 a1) : Sa 71 [rI a0, rL 1 iR a1] [rI (QZ a0 a1)] := by
 have f := me (QZ.eq_1 a0 a1)
 have c1 := sl 68719476736 a1 u0
 refine so func71 ntmps71 ?_
 refine cRs (NM (([7, a0] : List Int) ++ a1)) ?_
 exact rt [.tmp 4] f
theorem Ri (a0 : Int) (a1 : ByteArray) (a2 : Int) (u0 : Sm 2326528 a1) : Sa 70 [rI a0, rS a1, rI a2] [rI (WN a0 a1 a2)] := by
 have f := me (WN.eq_1 a0 a1 a2)
 refine so func70 ntmps70 ?_
 have c1 : a1.size <= 2326528 := Mg (xs u0)
 refine Fm (s := a1) rfl rfl rfl (by simp) (by simp) (by simp) (by simp) (by omega) ?_
 simp
 refine cRs (YD.rd (MS a1.data.toList (by simp [Ye]; first | omega | (simp [ByteArray.size] at *; omega)))) ?_
 refine cRs (QL a0 (([a2] : List Int) ++ (qM a1.data.toList)) (by simp (maxDischargeDepth := 12) [XA, Ye, ZN (m := 68719476736) (by decide) u0]; try omega)) ?_
 exact rt [.tmp 6] f
theorem VO (a0 : Int) (a1 : ZM) (u0 : Sm 2322432 a1) : Sa 41 [rI a0, a1.row] [rI (xJ a0 a1)] := by
 have f := me (xJ.eq_1 a0 a1)
 refine so func41 ntmps41 ?_
 refine cRs (RY a1) ?_
 refine cF f ?_ ?_ <;> intro k1 h1 f
 ·exact rt [.tmp 4] f
 refine lp2 (jl.eq_2 a0 a1) (fun J U => Yd 37 [eI 0 a0, eX 3 (a1.row.map .d), (5, .one (.sref 5 0 0 J.length), [.arr false 1 (J.map iR)]), eL 15 1 a1.Zd sR, eI 16 (a1.Zd.length : Int), eI 17 (U : Int)]) (fun n1 J U => a1.Zd.length < n1 + U /\ U <= a1.Zd.length /\ J.length <= 1 + 1 * U) (a1.Zd.length + 1) ([a1.QF] : List Int) 0 (fun p1 J U e1 j1 => ?_) (h0 := wkS [((5, 0), some (13, 0))] [])
 try dsimp only at j1
 refine cFf e1 ?_ ?_ <;> intro k3 h2 e1
 ·have i1 := ix h2
  have m2 := ml a1.Zd (k3 15 _ rfl)
  have c1 := sl 2322432 a1.Zd u0
  have w1 := wr U
  have i2 : U < a1.Yh.length := by (have := SJ (a := a1); first | (simp_all; done) | (simp_all; omega))
  simp [i1, ZC, i2]
  refine rpS ?_
  refine cRs (Ri a0 (nth a1.Zd U) (nth a1.Yh U) (sg (Z2 (ZM.qb u0)))) ?_
  exact nx2 e1 (hw := Y5 [((5, 0), some (32, 0))] [] rfl (by simp [w1]))
 have c2 := sl 2322432 a1.Zd u0
 have f := ms f e1
 refine cRs (QL a0 J (by first | (simp (maxDischargeDepth := 12) [Ye]; omega) | (simp (maxDischargeDepth := 12) [ZN (m := 68719476736) (by decide) u0]; done))) ?_
 exact rt [.tmp 4] f
theorem RP (a0 : ZG) (a1 : ZM) (u0 : Sm 2318336 a0) (u1 : Sm 2318336 a1) : Sd 68 [a0.row, a1.row] [rL 1 iR (Ke a0 a1)] := by
 have f := me (Ke.eq_1 a0 a1)
 refine soD func68 ntmps68 ?_
 refine lp2 (KU.eq_2 a0 a1) (fun J U => Yd 24 [eX 3 (a1.row.map .d), (5, .one (.sref 5 0 0 J.length), [.arr false 1 (J.map iR)]), eL 9 5 a0.ZJ ZK.row, eI 10 (a0.ZJ.length : Int), eI 11 (U : Int)]) (fun n1 J U => a0.ZJ.length < n1 + U /\ U <= a0.ZJ.length /\ J.length <= 0 + 1 * U) (a0.ZJ.length + 1) ([] : List Int) 0 (fun p1 J U e1 j1 => ?_) (h0 := wkS [((5, 0), none)] [])
 refine cFf e1 ?_ ?_ <;> intro k2 h1 e1
 ·have i1 := ix h1
  have m2 := ml a0.ZJ (k2 9 _ rfl)
  have c1 := sl 2318336 a0.ZJ (an u0 u1)
  have w1 := wr U
  simp [i1, ZC]
  refine rpS ?_
  refine cRs (VO (nth a0.ZJ U).Method a1 (sg u1)) ?_
  exact nx2 e1 (hw := Y5 [((5, 0), some (21, 0))] [] rfl (by simp [w1]))
 have c2 := sl 2318336 a0.ZJ (an u0 u1)
 have f := ms f e1
 exact rtD [.tmp 4] f
theorem Uk {a b : Prop} (h : b) (k : a := by (intros; first | omega | with_unfolding_all (first | (first | omega | (have z := Yf (Zb.Y7 u0); omega))) | ((try simp only [Yw, show ∀ x, IntKind.i64.wrap x = W x from fun _ => rfl] at *); omega))) : a /\ b := ⟨k, h⟩
theorem Uu (a0 : Zb) (a1 : ZM) (u0 : Sm 2314240 a0) (u1 : Sm 2314240 a1) : Sd 40 [a0.row, a1.row] [rL 1 (slR 1 iR) (Jp a0 a1)] := by
 have f := me (Jp.eq_1 a0 a1)
 refine soD func40 ntmps40 ?_
 refine lp2 (Qu.eq_2 a0 a1) (fun J U => Yd 23 [eX 3 (a1.row.map .d), (5, .one (.sref 5 0 0 J.length), [.arr true 1 (J.map (slR 1 iR))]), eL 9 2 a0.ZZ ZG.row, eI 10 (a0.ZZ.length : Int), eI 11 (U : Int)]) (fun n1 J U => a0.ZZ.length < n1 + U /\ U <= a0.ZZ.length /\ J.length <= U) (a0.ZZ.length + 1) ([] : List (List Int)) 0 (fun p1 J U e1 j1 => ?_) (h0 := wkS [((5, 0), none)] [])
 try dsimp only at j1
 refine cFf e1 ?_ ?_ <;> intro k2 h1 e1
 ·have i1 := ix h1
  have m2 := ml a0.ZZ (k2 9 _ rfl)
  have c1 := sl 2314240 a0.ZZ (an u0 u1)
  have w1 := wr U
  simp [i1, ZC]
  repeat with_reducible refine Uk ?_
  refine cDs [false] (RP (nth a0.ZZ U) a1 (sg (Z2 (Zb.Y7 u0))) (sg u1)) ?_
  refine Vq ?_
  simp
  refine DP (wI := (J.map (slR 1 iR))) (news := (([(Ke (nth a0.ZZ U) a1)] : List (List Int)).map (slR 1 iR))) (l1 := [(5, 0)]) (l2 := [(18, 0)]) (size := 1) rfl rfl rfl rfl (by simp) (by simp) (by simp) (by simp) (by simp) (by simp; (first | omega | (have z := Yf (Zb.Y7 u0); omega))) ?_
  simp
  exact nx2 e1 (hw := Y5 [((5, 0), some (20, 0))] [] rfl (by simp [w1]))
 have c2 := sl 2314240 a0.ZZ (an u0 u1)
 have f := ms f e1
 exact rtD [.tmp 4] f
theorem Ja (a0 : Int) : Sa 99 [rI a0] [rB (yY a0)] := by
 have f := me (yY.eq_1 a0)
 refine so func99 ntmps99 ?_
 refine cRs (Ze a0 0 10000) ?_
 exact rt [.tmp 2] f
theorem Ru (a0 : Int) : Sa 193 [rI a0] [rB (kx a0)] := by
 have f := me (kx.eq_1 a0)
 refine so func193 ntmps193 ?_
 refine cRs (Ze a0 1 2147483646) ?_
 exact rt [.tmp 2] f
theorem Ih (a0 : YJ) : Sa 152 [a0.row] [rB (MB a0)] := by
 have f := me (MB.eq_1 a0)
 refine so func152 ntmps152 ?_
 refine cRs (Ze a0.Number 1 99) ?_
 refine cGs (fun gg => (Ze a0.yU 0 99)) ?_
 refine cGs (fun gg => (Ze a0.Method 0 99)) ?_
 refine cGs (fun gg => (Ja a0.Hq)) ?_
 refine cGs (fun gg => (Ru a0.Vl)) ?_
 exact rt [.tmp 2] f
theorem N3 (a0 : List YJ) : Sa 96 [rL 5 YJ.row a0] [rB (Sn a0)] := by
 have f := me (Sn.eq_1 a0)
 refine so func96 ntmps96 ?_
 refine lp1 (VZ.eq_2 a0) (fun J => Yd 34 [eL 0 5 a0 YJ.row, eL 5 5 a0 YJ.row, eI 6 (a0.length : Int), eI 7 (J : Int)]) (fun n1 J => a0.length < n1 + J /\ J <= a0.length) (a0.length + 1) 0 (fun p1 J e1 j1 => ?_)
 refine cFf e1 ?_ ?_ <;> intro k2 h1 e1
 ·have i1 := ix h1
  have m2 := ml a0 (k2 0 _ rfl)
  have w1 := wr J
  simp [i1, ZC]
  refine rpS ?_
  refine dIs mixed ?_
  refine cRs (Ih (nth a0 J)) ?_
  refine gIf ?_ ?_ <;> intro G
  ·have i2 := ik (J - 1) a0
   have w2 : IntKind.i64.wrap ((J : Int) - 1) = (J : Int) - 1 := YS (by omega) (by omega)
   simp [i2, ZC, w2, J9, G]
   refine rpG ?_
   refine cK e1 ?_ ?_ <;> intro k4 h2 e1
   ·try (simp [G] at h2; done)
    all_goals
     have f := ms f e1
     exact rtg [.tmp 2] f
   ·try (simp [G] at h2; done)
    all_goals
     exact ny1 (an w1 (an w2 G)) e1
  ·refine cK e1 ?_ ?_ <;> intro k5 h3 e1
   ·try (simp [G] at h3; done)
    all_goals
     have f := ms f e1
     exact rtg [.tmp 2] f
   ·try (simp [G] at h3; done)
    all_goals
     exact ny1 (an w1 G) e1
 have f := ms f e1
 exact rt [.tmp 2] f
theorem UE (a0 : List ZP) : Sa 97 [rL 3 ZP.row a0] [rB (yf a0)] := by
 have f := me (yf.eq_1 a0)
 refine so func97 ntmps97 ?_
 refine lp1 (zG.eq_2 a0) (fun J => Yd 47 [eL 0 3 a0 ZP.row, eL 5 3 a0 ZP.row, eI 6 (a0.length : Int), eI 7 (J : Int)]) (fun n1 J => a0.length < n1 + J /\ J <= a0.length) (a0.length + 1) 0 (fun p1 J e1 j1 => ?_)
 refine cFf e1 ?_ ?_ <;> intro k2 h1 e1
 ·have i1 := ix h1
  have m2 := ml a0 (k2 0 _ rfl)
  have w1 := wr J
  simp [i1, ZC]
  refine rpS ?_
  refine dIs mixed ?_
  refine cRs (Ze (nth a0 J).Id 0 99) ?_
  refine cGs (fun gg => (Ze (nth a0 J).Key 1 99)) ?_
  refine cGs (fun gg => (Ze (nth a0 J).Error 0 100)) ?_
  refine gIf ?_ ?_ <;> intro G
  ·have i2 := ik (J - 1) a0
   have w2 : IntKind.i64.wrap ((J : Int) - 1) = (J : Int) - 1 := YS (by omega) (by omega)
   simp [i2, ZC, w2, J9, G]
   refine rpG ?_
   refine cKo e1 ?_ ?_ <;> intro k4 h2 e1
   ·try (simp [G] at h2; done)
    all_goals
     have q2 := h2; try simp [ZS] at q2
     have f := ms f e1
     simp [G]
     refine rpG ?_
     exact rtg [.tmp 2] f
   ·try (simp [G] at h2; done)
    all_goals
     have q2 := h2; try simp [ZS] at q2
     simp [G]
     refine rpG ?_
     exact ny1 (an w1 (an w2 G)) e1
  ·refine cKo e1 ?_ ?_ <;> intro k5 h3 e1
   ·try (simp [G] at h3; done)
    all_goals
     have q3 := h3; try simp [ZS] at q3
     have f := ms f e1
     simp [G]
     refine rpG ?_
     exact rtg [.tmp 2] f
   ·try (simp [G] at h3; done)
    all_goals
     have q3 := h3; try simp [ZS] at q3
     simp [G]
     refine rpG ?_
     exact ny1 (an w1 G) e1
 have f := ms f e1
 exact rt [.tmp 2] f
theorem ND (a0 : YV) : Sa 153 [a0.row] [rB (Uw a0)] := by
 have f := me (Uw.eq_1 a0)
 refine so func153 ntmps153 ?_
 refine cRs (Ze a0.Id 0 99) ?_
 refine cGs (fun gg => (Ja a0.NW)) ?_
 refine cGs (fun gg => (Ze a0.Ends 1 10001)) ?_
 refine cGs (fun gg => (Ze a0.T1 1 10001)) ?_
 exact rt [.tmp 2] f
theorem RT (a0 : List YV) : Sa 98 [rL 4 YV.row a0] [rB (kp a0)] := by
 have f := me (kp.eq_1 a0)
 refine so func98 ntmps98 ?_
 refine lp1 (q7.eq_2 a0) (fun J => Yd 34 [eL 0 4 a0 YV.row, eL 5 4 a0 YV.row, eI 6 (a0.length : Int), eI 7 (J : Int)]) (fun n1 J => a0.length < n1 + J /\ J <= a0.length) (a0.length + 1) 0 (fun p1 J e1 j1 => ?_)
 refine cFf e1 ?_ ?_ <;> intro k2 h1 e1
 ·have i1 := ix h1
  have m2 := ml a0 (k2 0 _ rfl)
  have w1 := wr J
  simp [i1, ZC]
  refine rpS ?_
  refine dIs mixed ?_
  refine cRs (ND (nth a0 J)) ?_
  refine gIf ?_ ?_ <;> intro G
  ·have i2 := ik (J - 1) a0
   have w2 : IntKind.i64.wrap ((J : Int) - 1) = (J : Int) - 1 := YS (by omega) (by omega)
   simp [i2, ZC, w2, J9, G]
   refine rpG ?_
   refine cK e1 ?_ ?_ <;> intro k4 h2 e1
   ·try (simp [G] at h2; done)
    all_goals
     have f := ms f e1
     exact rtg [.tmp 2] f
   ·try (simp [G] at h2; done)
    all_goals
     exact ny1 (an w1 (an w2 G)) e1
  ·refine cK e1 ?_ ?_ <;> intro k5 h3 e1
   ·try (simp [G] at h3; done)
    all_goals
     have f := ms f e1
     exact rtg [.tmp 2] f
   ·try (simp [G] at h3; done)
    all_goals
     exact ny1 (an w1 G) e1
 have f := ms f e1
 exact rt [.tmp 2] f
theorem Mb (a0 : ZW) : Sa 50 [a0.row] [rB (Sl a0)] := by
 have f := me (Sl.eq_1 a0)
 refine so func50 ntmps50 ?_
 refine cRs (N3 a0.JW) ?_
 refine cGs (fun gg => (UE a0.Z6)) ?_
 refine cGs (fun gg => (RT a0.Methods)) ?_
 refine cGs (fun gg => (Ze a0.xh 0 6)) ?_
 refine cGs (fun gg => (Ja a0.Now)) ?_
 exact rt [.tmp 2] f
theorem qI (a0 : Int) : Sa 51 [rI a0] [(VB a0).row] := by
 have f := me (VB.eq_1 a0)
 refine so func51 ntmps51 ?_
 exact rt [.cell 2 65] f
theorem kR (a0 : ZX) : Sa 52 [a0.row] [rB (y8 a0)] := by
 have f := me (y8.eq_1 a0)
 refine so func52 ntmps52 ?_
 refine cRs (Ze a0.Key 1 99) ?_
 refine cGs (fun gg => (Ze a0.Zv 1 999)) ?_
 refine cGs (fun gg => (Ze a0.Method 0 99)) ?_
 refine cGs (fun gg => (Ze a0.Org 0 99)) ?_
 refine cGs (fun gg => (Ze a0.jk 1 3)) ?_
 refine cGs (fun gg => (Ze a0.XC 0 1000000000000)) ?_
 refine cGs (fun gg => (Ze a0.jt 0 1000000000000)) ?_
 refine cGs (fun gg => (Ze a0.ja 0 1000000000000)) ?_
 exact rt [.tmp 2] f
theorem Wf (a0 : Int) : Sa 53 [rI a0] [(kl a0).row] := by
 have f := me (kl.eq_1 a0)
 refine so func53 ntmps53 ?_
 exact rt [.cell 2 65] f
theorem Kq (a0 : List YJ) (a1 : Int) : Sa 54 [rL 5 YJ.row a0, rI a1] [rI (Yp a0 a1)] := by
 have f := me (Yp.eq_1 a0 a1)
 refine so func54 ntmps54 ?_
 refine lp1 (jd.eq_2 a0 a1) (fun J => Yd 20 [eI 1 a1, eL 7 5 a0 YJ.row, eI 8 (a0.length : Int), eI 9 (J : Int)]) (fun n1 J => a0.length < n1 + J /\ J <= a0.length) (a0.length + 1) 0 (fun p1 J e1 j1 => ?_)
 refine cFf e1 ?_ ?_ <;> intro k2 h1 e1
 ·have i1 := ix h1
  have m2 := ml a0 (k2 7 _ rfl)
  have w1 := wr J
  simp [i1, ZC]
  refine rpS ?_
  refine cF e1 ?_ ?_ <;> intro k3 h2 e1
  ·have f := ms f e1
   exact rt [.tmp 4] f
  exact ny1 w1 e1
 have f := ms f e1
 exact rt [.tmp 4] f
theorem qj (a0 : ZX) : Sd 101 [a0.row] [rL 1 iR (Xs a0)] := by
 have f := me (Xs.eq_1 a0)
 refine soD func101 ntmps101 ?_
 exact rtD [.tmp 2] f
theorem PC (a0 : Int) (a1 : List Int) (u0 : Sm 2330624 a1) : Sa 209 [rI a0, rL 1 iR a1] [rI (Wv a0 a1)] := by
 have f := me (Wv.eq_1 a0 a1)
 have c1 := sl 2330624 a1 u0
 refine so func209 ntmps209 ?_
 refine cRs (NM ((([a0] : List Int) ++ a1) ++ ([a0] : List Int))) ?_
 exact rt [.tmp 4] f
theorem Ox (a0 : YJ) (a1 : List Int) (u0 : Sm 2326528 a1) : Sa 194 [a0.row, rL 1 iR a1] [rI (Uz a0 a1)] := by
 have f := me (Uz.eq_1 a0 a1)
 refine so func194 ntmps194 ?_
 refine Nd [2, 3, 4, 5, 6, 0, 1, 7, 8] mixed (by kernel_rfl) (by kernel_rfl) (by kernel_rfl) ?_
 have c1 := sl 2326528 a1 u0
 simp
 refine rpS ?_
 refine cRs (PC a0.Vl (([a0.Method] : List Int) ++ a1) (by simp (maxDischargeDepth := 12) [XA, Ye, ZN (m := 2330624) (by decide) u0]; try omega)) ?_
 exact rt [.tmp 4] f
theorem Sw (a0 : List YJ) (a1 : Int) (a2 : List Int) (u0 : Sm 2322432 a0) (u1 : Sm 2322432 a2) : Sa 154 [rL 5 YJ.row a0, rI a1, rL 1 iR a2] [rI (qT a0 a1 a2).1, rB (qT a0 a1 a2).2] := by
 have f := me (qT.eq_1 a0 a1 a2)
 refine so func154 ntmps154 ?_
 refine cRs (Kq a0 a1) ?_
 refine cFt f ?_ ?_ <;> intro k1 h1 f
 ·exact rt [.tmp 6, .tmp 7] f
 have i1 : (Yp a0 a1).toNat < a0.length := by have := yO a0 a1; exact il
 simp [i1, ZC]
 refine rpS ?_
 refine cRs (Ox (nth a0 (Yp a0 a1).toNat) a2 (sg u1)) ?_
 exact rt [.tmp 6, .tmp 7] f
theorem Xh (a0 : List YJ) (a1 : Int) (a2 : List Int) (a3 : Int) (u0 : Sm 2318336 a0) (u1 : Sm 2318336 a2) : Sa 100 [rL 5 YJ.row a0, rI a1, rL 1 iR a2, rI a3] [rB (X4 a0 a1 a2 a3)] := by
 have f := me (X4.eq_1 a0 a1 a2 a3)
 refine so func100 ntmps100 ?_
 refine cRs (Sw a0 a1 a2 (sg u0) (sg u1)) ?_
 exact rt [.tmp 8] f
theorem UF (a0 : List YJ) (a1 : ZX) (u0 : Sm 2314240 a0) : Sa 55 [rL 5 YJ.row a0, a1.row] [rB (yp a0 a1)] := by
 have f := me (yp.eq_1 a0 a1)
 refine so func55 ntmps55 ?_
 refine dIs mixed ?_
 refine cRs (kR a1) ?_
 refine cGs (fun gg => YD.rd (qj a1)) ?_
 refine cGs (fun gg => (Xh a0 a1.Key (Xs a1) a1.Mark (sg u0) (by simp (maxDischargeDepth := 12) [qm, ZN (m := 2318336) (by decide) u0]; try omega))) ?_
 exact rt [.tmp 4] f
theorem PR (a0 : ZX) : Sd 57 [a0.row] [(Yu a0).row] := by
 have f := me (Yu.eq_1 a0)
 refine soD func57 ntmps57 ?_
 refine dIs mixed ?_
 refine cDs [false] (qj a0) ?_
 exact rtD [.cell 2 116] f
theorem Pe (a0 : List Int) (a1 : List Int) : Sa 197 [rL 1 iR a0, rL 1 iR a1] [rB (VU a0 a1)] := by
 have f := me (VU.eq_1 a0 a1)
 refine so func197 ntmps197 ?_
 refine cF f ?_ ?_ <;> intro k1 h1 f
 ·exact rt [.tmp 4] f
 refine lp1 (jn.eq_2 a0 a1) (fun J => Yd 26 [eL 0 1 a0 iR, eL 1 1 a1 iR, eI 12 (a0.length : Int), eI 13 (J : Int)]) (fun n1 J => a0.length < n1 + J /\ J <= a0.length) (a0.length + 1) 0 (fun p1 J e1 j1 => ?_)
 refine cF e1 ?_ ?_ <;> intro k3 h2 e1
 ·have i1 := ix h2
  have m2 := ml a0 (k3 0 _ rfl)
  have w1 := wr J
  refine dIo mixed ?_
  have i2 := ik J a1
  simp [i1, ZC, i2]
  refine rpS ?_
  refine cF e1 ?_ ?_ <;> intro k5 h3 e1
  ·have f := ms f e1
   exact rt [.tmp 4] f
  exact ny1 w1 e1
 have f := ms f e1
 exact rt [.tmp 4] f
theorem kb (a0 : ZE) (a1 : ZE) : Sa 157 [a0.row, a1.row] [rB (y7 a0 a1)] := by
 have f := me (y7.eq_1 a0 a1)
 refine so func157 ntmps157 ?_
 refine cGs (fun gg => (Pe a0.Z0 a1.Z0)) ?_
 exact rt [.tmp 4] f
theorem P3 (a0 : ZG) (a1 : ZE) : Sa 155 [a0.row, a1.row] [rI (xQ a0 a1)] := by
 have f := me (xQ.eq_1 a0 a1)
 refine so func155 ntmps155 ?_
 refine lp1 (ju.eq_2 a0 a1) (fun J => Yd 20 [eX 3 (a1.row.map .d), eL 8 3 a0.ZO ZE.row, eI 9 (a0.ZO.length : Int), eI 10 (J : Int)]) (fun n1 J => a0.ZO.length < n1 + J /\ J <= a0.ZO.length) (a0.ZO.length + 1) 0 (fun p1 J e1 j1 => ?_)
 refine cFf e1 ?_ ?_ <;> intro k2 h1 e1
 ·have i1 := ix h1
  have m2 := ml a0.ZO (k2 8 _ rfl)
  have w1 := wr J
  simp [i1, ZC]
  refine rpS ?_
  refine cRs (kb (nth a0.ZO J) a1) ?_
  refine cF e1 ?_ ?_ <;> intro k3 h2 e1
  ·have f := ms f e1
   exact rt [.tmp 4] f
  exact ny1 w1 e1
 have f := ms f e1
 exact rt [.tmp 4] f
theorem zO (a0 : List ZP) (a1 : Int) : Sa 167 [rL 3 ZP.row a0, rI a1] [rI (Zy a0 a1)] := by
 have f := me (Zy.eq_1 a0 a1)
 refine so func167 ntmps167 ?_
 refine lp1 (J5.eq_2 a0 a1) (fun J => Yd 20 [eI 1 a1, eL 7 3 a0 ZP.row, eI 8 (a0.length : Int), eI 9 (J : Int)]) (fun n1 J => a0.length < n1 + J /\ J <= a0.length) (a0.length + 1) 0 (fun p1 J e1 j1 => ?_)
 refine cFf e1 ?_ ?_ <;> intro k2 h1 e1
 ·have i1 := ix h1
  have m2 := ml a0 (k2 7 _ rfl)
  have w1 := wr J
  simp [i1, ZC]
  refine rpS ?_
  refine cF e1 ?_ ?_ <;> intro k3 h2 e1
  ·have f := ms f e1
   exact rt [.tmp 4] f
  exact ny1 w1 e1
 have f := ms f e1
 exact rt [.tmp 4] f
theorem X9 (a0 : ZL) : Sa 119 [a0.row] [rB (JJ a0)] := by
 have f := me (JJ.eq_1 a0)
 refine so func119 ntmps119 ?_
 refine cRs (Ja a0.Ys) ?_
 refine cGs (fun gg => (Ja a0.To)) ?_
 exact rt [.tmp 2] f
theorem jw (a0 : Int) (a1 : Int) : Sa 173 [rI a0, rI a1] [(Jk a0 a1).1.row, rB (Jk a0 a1).2] := by
 have f := me (Jk.eq_1 a0 a1)
 refine so func173 ntmps173 ?_
 refine cGs (fun gg => (X9 (ZL.mk (if 0 > a0 then 0 else a0) (if 10000 < a1 then 10000 else a1)))) ?_
 refine cF f ?_ ?_ <;> intro k1 h1 f
 ·exact rt [.cell 4 63, .tmp 5] f
 exact rt [.cell 4 63, .tmp 5] f
theorem PW (a0 : List ZP) (a1 : ZV) : Sa 168 [rL 3 ZP.row a0, a1.row] [(xN a0 a1).1.row, rB (xN a0 a1).2] := by
 have f := me (xN.eq_1 a0 a1)
 refine so func168 ntmps168 ?_
 refine cRs (zO a0 a1.Authority) ?_
 refine gIf ?_ ?_ <;> intro G
 ·have i1 : (Zy a0 a1.Authority).toNat < a0.length := by have := Je a0 a1.Authority; exact il
  simp [i1, ZC, G]
  refine rpG ?_
  refine cGg (fun gg => (Ja a1.Time)) ?_
  refine cK f ?_ ?_ <;> intro k1 h1 f
  ·try (simp [G] at h1; done)
   all_goals
    exact rtg [.cell 4 63, .tmp 5] f
  ·try (simp [G] at h1; done)
   all_goals
    refine dIo mixed ?_
    simp [i1, ZC, G]
    refine rpG ?_
    refine cRg (jw (W (a1.Time - (nth a0 (Zy a0 a1.Authority).toNat).Error)) (W (a1.Time + (nth a0 (Zy a0 a1.Authority).toNat).Error))) ?_
    exact rtg [.cell 4 63, .tmp 5] f
 ·refine cGg (fun gg => (Ja a1.Time)) ?_
  refine cK f ?_ ?_ <;> intro k3 h2 f
  ·try (simp [G] at h2; done)
   all_goals
    exact rtg [.cell 4 63, .tmp 5] f
  ·try (simp [G] at h2; done)
   all_goals
    refine dIo mixed ?_
    have i3 : (Zy a0 a1.Authority).toNat < a0.length := by have := Je a0 a1.Authority; exact il
    simp [i3, ZC, G]
    refine rpG ?_
    refine cRg (jw (W (a1.Time - (nth a0 (Zy a0 a1.Authority).toNat).Error)) (W (a1.Time + (nth a0 (Zy a0 a1.Authority).toNat).Error))) ?_
    exact rtg [.cell 4 63, .tmp 5] f
theorem Mt (a0 : List ZL) (a1 : Int) : Sa 214 [rL 2 ZL.row a0, rI a1] [rI (Sb a0 a1)] := by
 have f := me (Sb.eq_1 a0 a1)
 refine so func214 ntmps214 ?_
 refine lp2 (jI.eq_2 a0 a1) (fun J U => Yd 28 [eI 1 a1, eI 5 J, eL 8 2 a0 ZL.row, eI 9 (a0.length : Int), eI 10 (U : Int)]) (fun n1 J U => a0.length < n1 + U /\ U <= a0.length) (a0.length + 1) 0 0 (fun p1 J U e1 j1 => ?_)
 refine cFf e1 ?_ ?_ <;> intro k2 h1 e1
 ·have i1 := ix h1
  have m2 := ml a0 (k2 8 _ rfl)
  have w1 := wr U
  simp [i1, ZC]
  refine rpS ?_
  refine cRs (X9 (nth a0 U)) ?_
  refine cGs (fun gg => (Ze a1 (nth a0 U).Ys (nth a0 U).To)) ?_
  refine cFo e1 ?_ ?_ <;> intro k3 h2 e1
  ·have q2 := h2; try simp [ZS] at q2
   simp
   exact ny2 w1 e1
  have q2 := h2; try simp [ZS] at q2
  simp
  exact ny2 w1 e1
 have f := ms f e1
 exact rt [.tmp 4] f
theorem SR (a0 : List ZL) (a1 : Int) (a2 : Int) : Sa 198 [rL 2 ZL.row a0, rI a1, rI a2] [rB (jq a0 a1 a2)] := by
 have f := me (jq.eq_1 a0 a1 a2)
 refine so func198 ntmps198 ?_
 refine cRs (Ze a2 0 (W ((a0.length : Int) - 1))) ?_
 refine cGs (fun gg => (Mt a0 a1)) ?_
 exact rt [.tmp 6] f
theorem Rs (a0 : List ZL) (a1 : Int) : Sa 169 [rL 2 ZL.row a0, rI a1] [(yW a0 a1).1.row, rB (yW a0 a1).2] := by
 have f := me (yW.eq_1 a0 a1)
 refine so func169 ntmps169 ?_
 refine lp4 (J8.eq_2 a0 a1) (fun J U wB wH => Yd 25 [eL 0 2 a0 ZL.row, eI 1 a1, (4, .one (.bptr 4 0), [.box [.d (.int .i64 0), .d (.int .i64 0)]]), (6, .one (.bptr 6 0), [.box [.d (.int .i64 wB), .d (.int .i64 wH)]]), eB 7 J, eI 8 (U : Int)]) (fun n1 J U wB wH => 10001 < n1 + U) 10002 false 0 0 0 (fun p1 J U wB wH e1 j1 => ?_)
 refine cF e1 ?_ ?_ <;> intro k2 h1 e1
 ·have w1 := wr U
  refine cRs (SR a0 (U : Int) a1) ?_
  refine cF e1 ?_ ?_ <;> intro k3 h2 e1
  ·refine cF e1 ?_ ?_ <;> intro k4 h3 e1
   ·exact ny4 w1 e1
   exact ny4 w1 e1
  exact ny4 w1 e1
 have f := ms f e1
 exact rt [.cell 4 63, .tmp 5] f
theorem j8 (a0 : List ZP) (a1 : List ZV) (a2 : Int) (u0 : Sm 2318336 a0) (u1 : Sm 2318336 a1) : Sa 114 [rL 3 ZP.row a0, rL 5 ZV.row a1, rI a2] [(Qb a0 a1 a2).1.row, rB (Qb a0 a1 a2).2] := by
 have f := me (Qb.eq_1 a0 a1 a2)
 refine so func114 ntmps114 ?_
 refine lp2 (kr.eq_2 a0 a1) (fun J U => Yd 38 [eL 0 3 a0 ZP.row, eI 2 a2, (6, .one (.bptr 6 0), [.box [.d (.int .i64 0), .d (.int .i64 0)]]), (8, .one (.sref 8 0 0 J.length), [.arr false 2 (J.map ZL.row)]), eL 13 5 a1 ZV.row, eI 14 (a1.length : Int), eI 15 (U : Int)]) (fun n1 J U => a1.length < n1 + U /\ U <= a1.length /\ J.length <= 0 + 1 * U) (a1.length + 1) ([] : List ZL) 0 (fun p1 J U e1 j1 => ?_) (h0 := wkS [((8, 0), none)] [])
 refine cFf e1 ?_ ?_ <;> intro k2 h1 e1
 ·have i1 := ix h1
  have m2 := ml a1 (k2 13 _ rfl)
  have c1 := sl 2318336 a1 (an u0 u1)
  have w1 := wr U
  simp [i1, ZC]
  refine rpS ?_
  refine cRs (PW a0 (nth a1 U)) ?_
  refine cF e1 ?_ ?_ <;> intro k3 h2 e1
  ·have f := ms f e1
   exact rt [.cell 6 63, .tmp 7] f
  exact nx2 e1 (hw := Y5 [((8, 0), some (31, 0))] [] rfl (by simp [w1]))
 have c2 := sl 2318336 a1 (an u0 u1)
 have f := ms f e1
 refine cRs (Rs J a2) ?_
 exact rt [.cell 6 63, .tmp 7] f
theorem Sq (a0 : List ZP) (a1 : ZK) (a2 : Int) (u0 : Sm 2314240 a0) (u1 : Sm 2314240 a1) : Sa 213 [rL 3 ZP.row a0, a1.row, rI a2] [(K4 a0 a1 a2).1.row, rB (K4 a0 a1 a2).2] := by
 have f := me (K4.eq_1 a0 a1 a2)
 refine so func213 ntmps213 ?_
 refine cRs (j8 a0 a1.Z7 a2 (sg u0) (sg (ZK.Nk u1))) ?_
 exact rt [.cell 6 63, .tmp 7] f
theorem yP (a0 : ZW) (a1 : ZK) (u0 : Sm 2310144 a0) (u1 : Sm 2310144 a1) : Sa 196 [a0.row, a1.row] [(X8 a0 a1).1.row, rB (X8 a0 a1).2] := by
 have f := me (X8.eq_1 a0 a1)
 refine so func196 ntmps196 ?_
 refine cRs (Sq a0.Z6 a1 a0.xh (sg (ZW.yC u0)) (sg u1)) ?_
 exact rt [.cell 4 63, .tmp 5] f
theorem jB (a0 : ZV) : Sd 166 [a0.row] [rL 1 iR (QQ a0)] := by
 have f := me (QQ.eq_1 a0)
 refine soD func166 ntmps166 ?_
 exact rtD [.tmp 2] f
theorem qn (a0 : Int) (a1 : ZK) (u0 : Sm 2326528 a1) : Sa 218 [rI a0, a1.row] [rI (Jo a0 a1)] := by
 have f := me (Jo.eq_1 a0 a1)
 refine so func218 ntmps218 ?_
 refine lp2 (J7.eq_2 a1) (fun J U => Yd 59 [eI 0 a0, eX 3 (a1.row.map .d), (5, .one (.sref 5 0 0 J.length), [.arr false 1 (J.map iR)]), eL 19 2 a1.Path Yl.row, eI 20 (a1.Path.length : Int), eI 21 (U : Int)]) (fun n1 J U => a1.Path.length < n1 + U /\ U <= a1.Path.length /\ J.length <= 4 + 2 * U) (a1.Path.length + 1) ([4, a1.Count, a1.Method, a1.LA] : List Int) 0 (fun p1 J U e1 j1 => ?_) (h0 := wkS [((5, 0), some (17, 0))] [])
 refine cFo e1 ?_ ?_ <;> intro k2 h1 e1
 ·have q1 := h1; try simp at q1
  have i1 := ix h1
  have m2 := ml a1.Path (k2 19 _ rfl)
  have c1 := sl 2326528 a1.Path u0
  have w1 := wr U
  simp [i1, ZC]
  refine rpS ?_
  refine cFo e1 ?_ ?_ <;> intro k3 h2 e1
  ·have q2 := h2; try simp at q2
   simp
   refine rpS ?_
   exact nx2 e1 (hw := Y5 [((5, 0), some (32, 0))] [] rfl (by simp [w1]))
  have q2 := h2; try simp at q2
  simp
  refine rpS ?_
  exact nx2 e1 (hw := Y5 [((5, 0), some (32, 0))] [] rfl (by simp [w1]))
 have q1 := h1; try simp at q1
 have c2 := sl 2326528 a1.Path u0
 have f := ms f e1
 simp
 refine rpS ?_
 refine lp2 (z7.eq_2 a1) (fun wD wE => Yd 59 [eI 0 a0, (5, .one (.sref 5 0 0 wD.length), [.arr false 1 (wD.map iR)]), eL 41 5 a1.Z7 ZV.row, eI 42 (a1.Z7.length : Int), eI 43 (wE : Int)]) (fun n2 wD wE => a1.Z7.length < n2 + wE /\ wE <= a1.Z7.length /\ wD.length <= 5 + 2 * 2326528 + 6 * wE) (a1.Z7.length + 1) (J ++ ([(a1.Z7.length : Int)] : List Int)) 0 (fun p2 wD wE e2 j2 => ?_) (hI := by (have o : a1.Path.length <= 2326528 := Yf (xs u0); simp at *; omega)) (h0 := wkS [((5, 0), some (39, 0))] [])
 try dsimp only at j2
 refine cFo e2 ?_ ?_ <;> intro k5 h3 e2
 ·have q3 := h3; try simp at q3
  have i2 := ix h3
  have m4 := ml a1.Z7 (k5 41 _ rfl)
  have c3 := sl 2326528 a1.Z7 u0
  have w2 := wr wE
  simp [i2, ZC]
  refine rpS ?_
  refine dIs mixed ?_
  refine cRs (YD.rd (jB (nth a1.Z7 wE))) ?_
  exact nx2 e2 (hI := by (simp; omega)) (hw := Y5 [((5, 0), some (54, 0))] [] rfl (by simp [w2]))
 have q3 := h3; try simp at q3
 have c4 := sl 2326528 a1.Z7 u0
 have f := ms f e2
 simp
 refine cRs (QL a0 wD (by first | (simp (maxDischargeDepth := 12) [Ye]; omega) | (simp (maxDischargeDepth := 12) [ZN (m := 68719476736) (by decide) u0]; done))) ?_
 exact rt [.tmp 4] f
theorem Tc (a0 : Int) (a1 : List ZE) (u0 : Sm 2326528 a1) : Sa 223 [rI a0, rL 3 ZE.row a1] [rI (yT a0 a1)] := by
 have f := me (yT.eq_1 a0 a1)
 refine so func223 ntmps223 ?_
 refine lp2 (yj.eq_2 a0 a1) (fun J U => Yd 32 [eI 0 a0, (5, .one (.sref 5 0 0 J.length), [.arr false 1 (J.map iR)]), eL 9 3 a1 ZE.row, eI 10 (a1.length : Int), eI 11 (U : Int)]) (fun n1 J U => a1.length < n1 + U /\ U <= a1.length /\ J.length <= 1 + 1 * U) (a1.length + 1) ([2] : List Int) 0 (fun p1 J U e1 j1 => ?_) (h0 := wkS [((5, 0), some (8, 0))] [])
 refine cFf e1 ?_ ?_ <;> intro k2 h1 e1
 ·have i1 := ix h1
  have m2 := ml a1 (k2 9 _ rfl)
  have c1 := sl 2326528 a1 u0
  have w1 := wr U
  have c2 := sl 2326528 (nth a1 U).Z0 u0
  simp [i1, ZC]
  refine rpS ?_
  refine cRs (QL a0 (([(nth a1 U).Key, (nth a1 U).Mark] : List Int) ++ (nth a1 U).Z0) (by simp (maxDischargeDepth := 12) [XA, Ye, ZN (m := 68719476736) (by decide) u0]; try omega)) ?_
  exact nx2 e1 (hw := Y5 [((5, 0), some (27, 0))] [] rfl (by simp [w1]))
 have c3 := sl 2326528 a1 u0
 have f := ms f e1
 refine cRs (QL a0 J (by first | (simp (maxDischargeDepth := 12) [Ye]; omega) | (simp (maxDischargeDepth := 12) [ZN (m := 68719476736) (by decide) u0]; done))) ?_
 exact rt [.tmp 4] f
theorem jQ (a0 : Int) (a1 : Int) (a2 : List ZE) (a3 : Int) (u0 : Sm 2322432 a2) : Sa 219 [rI a0, rI a1, rL 3 ZE.row a2, rI a3] [rI (TJ a0 a1 a2 a3)] := by
 have f := me (TJ.eq_1 a0 a1 a2 a3)
 refine so func219 ntmps219 ?_
 refine cRs (Tc a0 a2 (sg u0)) ?_
 refine cRs (QL a0 ([3, a1, (yT a0 a2), a3] : List Int) (by simp (maxDischargeDepth := 12) [XA, Ye, ZN (m := 68719476736) (by decide) u0]; try omega)) ?_
 exact rt [.tmp 8] f
theorem YM {a b : Prop} (h : b) (k : a := by (intros; first | omega | with_unfolding_all (first | first | omega | (have cc : a0.ZJ.length <= 2318336 := Yf (xs u0); have z0 := vo; simp at z0; have z := X3 (by omega) z0.1; have z2 := z0.2; (try have w3 : IntKind.i64.wrap (a2 - 1) = a2 - 1 := YS (by omega) (by omega)); (try have w4 : W (a2 - 1) = a2 - 1 := w3); first | omega | (refine ⟨⟨z0.1, by omega⟩, by omega, by omega⟩) | (simp_all; omega))) | (simp_all; done) | (simp_all; omega) | grind | ((try simp only [Yw, show ∀ x, IntKind.i64.wrap x = W x from fun _ => rfl] at *); omega))) : a /\ b := ⟨k, h⟩
theorem IE (a0 : ZG) (a1 : List Int) (a2 : Int) (u0 : Sm 2318336 a0) (u1 : Sm 2318336 a1) : Sa 211 [a0.row, rL 1 iR a1, rI a2] [rI (TW a0 a1 a2)] := by
 have f := me (TW.eq_1 a0 a1 a2)
 refine so func211 ntmps211 ?_
 refine dIs mixed ?_
 refine cRs (Ze a2 0 (W ((a0.ZJ.length : Int) - 1))) ?_
 refine gIo ?_ ?_ <;> intro G
 ·have vo := G
  have c1 := sl 2318336 a0.ZJ (an u0 u1)
  have w1 : IntKind.i64.wrap ((a0.ZJ.length : Int) - 1) = (a0.ZJ.length : Int) - 1 := YS (by omega) (by omega)
  have g1 := G; try simp [ZS, w1] at g1
  have i1 : a2.toNat < a0.ZJ.length := by (have cc : a0.ZJ.length <= 2318336 := Yf (xs u0); have z0 := vo; simp at z0; have z := X3 (by omega) z0.1; have z2 := z0.2; (try have w3 : IntKind.i64.wrap (a2 - 1) = a2 - 1 := YS (by omega) (by omega)); (try have w4 : W (a2 - 1) = a2 - 1 := w3); omega)
  simp [i1, ZC, G]
  repeat with_reducible refine YM ?_
  refine cGo (fun gg => (Ze (nth a0.ZJ a2.toNat).Count 0 (a0.ZO.length : Int))) ?_
  simp [G]
  repeat with_reducible refine YM ?_
  refine cKo f ?_ ?_ <;> intro k2 h1 f
  ·try (simp [G] at h1; done)
   all_goals
    have q1 := h1; try simp [ZS, w1] at q1
    simp [G]
    repeat with_reducible refine YM ?_
    exact rtg [.tmp 6] f
  ·try (simp [G] at h1; done)
   all_goals
    have q1 := h1; try simp [ZS, w1] at q1
    simp [i1, ZC, G]
    repeat with_reducible refine YM ?_
    refine cKo f ?_ ?_ <;> intro k3 h2 f
    ·try (simp [G] at h2; done)
     all_goals
      simp [G]
      repeat with_reducible refine YM ?_
      refine dIo mixed ?_
      have i2 : (W (a2 - 1)).toNat < a0.ZJ.length := by (have cc : a0.ZJ.length <= 2318336 := Yf (xs u0); have z0 := vo; simp at z0; have z := X3 (by omega) z0.1; have z2 := z0.2; (try have w3 : IntKind.i64.wrap (a2 - 1) = a2 - 1 := YS (by omega) (by omega)); (try have w4 : W (a2 - 1) = a2 - 1 := w3); omega)
      simp [i2, ZC, G]
      repeat with_reducible refine YM ?_
      refine cR (qn (nth a0.ZJ a2.toNat).Method (nth a0.ZJ (W (a2 - 1)).toNat) (sg (Z2 (ZG.KB u0)))) ?_ (wU := by first | (simp; done) | (simp [W, w1]; done))
      simp [G]
      repeat with_reducible refine YM ?_
      refine dIo mixed ?_
      have i3 : a2.toNat < a1.length := by (have cc : a0.ZJ.length <= 2318336 := Yf (xs u0); have z0 := vo; simp at z0; have z := X3 (by omega) z0.1; have z2 := z0.2; (try have w3 : IntKind.i64.wrap (a2 - 1) = a2 - 1 := YS (by omega) (by omega)); (try have w4 : W (a2 - 1) = a2 - 1 := w3); omega)
      simp [i3, ZC, G]
      repeat with_reducible refine YM ?_
      refine cR (jQ (nth a0.ZJ a2.toNat).Method (nth a1 a2.toNat) (a0.ZO.take (nth a0.ZJ a2.toNat).Count.toNat) (Jo (nth a0.ZJ a2.toNat).Method (nth a0.ZJ (W (a2 - 1)).toNat)) (ZN (n := 2318336) (by decide) (xs (an u0 u1)))) ?_ (wU := by first | (simp; done) | (simp [W, w1]; done))
      simp [G]
      repeat with_reducible refine YM ?_
      exact rtg [.tmp 6] f
    ·try (simp [G] at h2; done)
     all_goals
      simp [G]
      repeat with_reducible refine YM ?_
      refine dIo mixed ?_
      have i4 : a2.toNat < a1.length := by (have cc : a0.ZJ.length <= 2318336 := Yf (xs u0); have z0 := vo; simp at z0; have z := X3 (by omega) z0.1; have z2 := z0.2; (try have w3 : IntKind.i64.wrap (a2 - 1) = a2 - 1 := YS (by omega) (by omega)); (try have w4 : W (a2 - 1) = a2 - 1 := w3); omega)
      simp [i4, ZC, G]
      repeat with_reducible refine YM ?_
      refine cR (jQ (nth a0.ZJ a2.toNat).Method (nth a1 a2.toNat) (a0.ZO.take (nth a0.ZJ a2.toNat).Count.toNat) 0 (ZN (n := 2318336) (by decide) (xs (an u0 u1)))) ?_
      simp [G]
      repeat with_reducible refine YM ?_
      exact rtg [.tmp 6] f
 ·have vo := G
  simp [G]
  repeat with_reducible refine YM ?_
  refine sGo ?_
  simp [G]
  repeat with_reducible refine YM ?_
  have c2 := sl 2318336 a0.ZJ (an u0 u1)
  have w2 : IntKind.i64.wrap ((a0.ZJ.length : Int) - 1) = (a0.ZJ.length : Int) - 1 := YS (by omega) (by omega)
  refine cKo f ?_ ?_ <;> intro k7 h3 f
  ·try (simp [G] at h3; done)
   all_goals
    have q3 := h3; try simp [ZS, w2] at q3
    simp [G]
    repeat with_reducible refine YM ?_
    exact rtg [.tmp 6] f
  ·try (simp [G] at h3; done)
   all_goals
    have q3 := h3; try simp [ZS, w2] at q3
    have i6 : a2.toNat < a0.ZJ.length := by (have cc : a0.ZJ.length <= 2318336 := Yf (xs u0); have z0 := vo; simp at z0; have z := X3 (by omega) z0.1; have z2 := z0.2; (try have w3 : IntKind.i64.wrap (a2 - 1) = a2 - 1 := YS (by omega) (by omega)); (try have w4 : W (a2 - 1) = a2 - 1 := w3); omega)
    simp [i6, ZC, G]
    repeat with_reducible refine YM ?_
    refine cKo f ?_ ?_ <;> intro k8 h4 f
    ·try (simp [G] at h4; done)
     all_goals
      simp [G]
      repeat with_reducible refine YM ?_
      refine dIo mixed ?_
      have i7 : (W (a2 - 1)).toNat < a0.ZJ.length := by (have cc : a0.ZJ.length <= 2318336 := Yf (xs u0); have z0 := vo; simp at z0; have z := X3 (by omega) z0.1; have z2 := z0.2; (try have w3 : IntKind.i64.wrap (a2 - 1) = a2 - 1 := YS (by omega) (by omega)); (try have w4 : W (a2 - 1) = a2 - 1 := w3); omega)
      simp [i7, ZC, G]
      repeat with_reducible refine YM ?_
      refine cR (qn (nth a0.ZJ a2.toNat).Method (nth a0.ZJ (W (a2 - 1)).toNat) (sg (Z2 (ZG.KB u0)))) ?_ (wU := by first | (simp; done) | (simp [W, w2]; done))
      simp [G]
      repeat with_reducible refine YM ?_
      refine dIo mixed ?_
      have i8 : a2.toNat < a1.length := by (have cc : a0.ZJ.length <= 2318336 := Yf (xs u0); have z0 := vo; simp at z0; have z := X3 (by omega) z0.1; have z2 := z0.2; (try have w3 : IntKind.i64.wrap (a2 - 1) = a2 - 1 := YS (by omega) (by omega)); (try have w4 : W (a2 - 1) = a2 - 1 := w3); omega)
      simp [i8, ZC, G]
      repeat with_reducible refine YM ?_
      refine cR (jQ (nth a0.ZJ a2.toNat).Method (nth a1 a2.toNat) (a0.ZO.take (nth a0.ZJ a2.toNat).Count.toNat) (Jo (nth a0.ZJ a2.toNat).Method (nth a0.ZJ (W (a2 - 1)).toNat)) (ZN (n := 2318336) (by decide) (xs (an u0 u1)))) ?_ (wU := by first | (simp; done) | (simp [W, w2]; done))
      simp [G]
      repeat with_reducible refine YM ?_
      exact rtg [.tmp 6] f
    ·try (simp [G] at h4; done)
     all_goals
      simp [G]
      repeat with_reducible refine YM ?_
      refine dIo mixed ?_
      have i9 : a2.toNat < a1.length := by (have cc : a0.ZJ.length <= 2318336 := Yf (xs u0); have z0 := vo; simp at z0; have z := X3 (by omega) z0.1; have z2 := z0.2; (try have w3 : IntKind.i64.wrap (a2 - 1) = a2 - 1 := YS (by omega) (by omega)); (try have w4 : W (a2 - 1) = a2 - 1 := w3); omega)
      simp [i9, ZC, G]
      repeat with_reducible refine YM ?_
      refine cR (jQ (nth a0.ZJ a2.toNat).Method (nth a1 a2.toNat) (a0.ZO.take (nth a0.ZJ a2.toNat).Count.toNat) 0 (ZN (n := 2318336) (by decide) (xs (an u0 u1)))) ?_
      simp [G]
      repeat with_reducible refine YM ?_
      exact rtg [.tmp 6] f
theorem Wh (a0 : Int) (a1 : Int) (a2 : Int) : Sa 221 [rI a0, rI a1, rI a2] [rI (xj a0 a1 a2)] := by
 have f := me (xj.eq_1 a0 a1 a2)
 refine so func221 ntmps221 ?_
 refine cRs (QL a0 ([1, a1, a2] : List Int) (by simp (maxDischargeDepth := 12) [XA, Ye]; try omega)) ?_
 exact rt [.tmp 6] f
theorem Rr (a0 : Int) (a1 : Int) (a2 : List Yl) : Sa 216 [rI a0, rI a1, rL 2 Yl.row a2] [rI (WS a0 a1 a2)] := by
 have f := me (WS.eq_1 a0 a1 a2)
 refine so func216 ntmps216 ?_
 refine lp2 (z8.eq_2 a0 a2) (fun J U => Yd 29 [eI 0 a0, eI 1 J, eL 9 2 a2 Yl.row, eI 10 (a2.length : Int), eI 11 (U : Int)]) (fun n1 J U => a2.length < n1 + U /\ U <= a2.length) (a2.length + 1) a1 0 (fun p1 J U e1 j1 => ?_)
 refine cFf e1 ?_ ?_ <;> intro k2 h1 e1
 ·have i1 := ix h1
  have m2 := ml a2 (k2 9 _ rfl)
  have w1 := wr U
  simp [i1, ZC]
  refine rpS ?_
  refine cF e1 ?_ ?_ <;> intro k3 h2 e1
  ·refine cRs (Wh a0 (nth a2 U).XC J) ?_
   exact ny2 w1 e1
  refine cRs (Wh a0 J (nth a2 U).XC) ?_
  exact ny2 w1 e1
 have f := ms f e1
 exact rt [.tmp 6] f
theorem Jh (a0 : List ZV) : Sa 110 [rL 5 ZV.row a0] [rB (QH a0)] := by
 have f := me (QH.eq_1 a0)
 refine so func110 ntmps110 ?_
 refine lp1 (J1.eq_2 a0) (fun J => Yd 22 [eL 0 5 a0 ZV.row, eI 3 (J : Int)]) (fun n1 J => a0.length < n1 + J /\ 1 <= J) (a0.length + 1) 1 (fun p1 J e1 j1 => ?_)
 refine cF e1 ?_ ?_ <;> intro k2 h1 e1
 ·have i1 := ix h1
  have m2 := ml a0 (k2 0 _ rfl)
  have w1 := wr J
  refine dIo mixed ?_
  have i2 := ik (J - 1) a0
  have w2 : IntKind.i64.wrap ((J : Int) - 1) = (J : Int) - 1 := YS (by omega) (by omega)
  simp [i2, ZC, w2, J9, i1]
  refine rpS ?_
  refine cF e1 ?_ ?_ <;> intro k4 h2 e1
  ·have f := ms f e1
   exact rt [.tmp 2] f
  exact ny1 (an w1 w2) e1
 have f := ms f e1
 exact rt [.tmp 2] f
theorem Pd (a0 : List YJ) (a1 : List ZP) (a2 : ZV) (u0 : Sm 2318336 a0) (u1 : Sm 2318336 a1) : Sa 222 [rL 5 YJ.row a0, rL 3 ZP.row a1, a2.row] [(Qx a0 a1 a2).1.row, rB (Qx a0 a1 a2).2] := by
 have f := me (Qx.eq_1 a0 a1 a2)
 refine so func222 ntmps222 ?_
 refine cRs (zO a1 a2.Authority) ?_
 refine cGs (fun gg => (Ja a2.Time)) ?_
 refine cF f ?_ ?_ <;> intro k1 h1 f
 ·exact rt [.cell 6 180, .tmp 7] f
 refine dIo mixed ?_
 have i1 : (Zy a1 a2.Authority).toNat < a1.length := by have := Je a1 a2.Authority; exact il
 simp [i1, ZC]
 refine rpS ?_
 refine cRs (YD.rd (jB a2)) ?_
 refine cRs (Sw a0 (nth a1 (Zy a1 a2.Authority).toNat).Key (QQ a2) (sg u0) (by simp (maxDischargeDepth := 12) [OS, ZN (m := 2322432) (by decide) u0, ZN (m := 2322432) (by decide) u1]; try omega)) ?_
 refine cF f ?_ ?_ <;> intro k3 h2 f
 ·exact rt [.cell 6 180, .tmp 7] f
 exact rt [.cell 6 180, .tmp 7] f
theorem Rk (a0 : List YJ) (a1 : List ZP) (a2 : ZV) (u0 : Sm 2314240 a0) (u1 : Sm 2314240 a1) : Sa 217 [rL 5 YJ.row a0, rL 3 ZP.row a1, a2.row] [rB (WG a0 a1 a2)] := by
 have f := me (WG.eq_1 a0 a1 a2)
 refine so func217 ntmps217 ?_
 refine cRs (Pd a0 a1 a2 (sg u0) (sg u1)) ?_
 exact rt [.tmp 6] f
theorem TV (a0 : List YJ) (a1 : List ZP) (a2 : ZK) (a3 : Int) (u0 : Sm 2310144 a0) (u1 : Sm 2310144 a1) (u2 : Sm 2310144 a2) : Sa 210 [rL 5 YJ.row a0, rL 3 ZP.row a1, a2.row, rI a3] [rB (qa a0 a1 a2 a3)] := by
 have f := me (qa.eq_1 a0 a1 a2 a3)
 refine so func210 ntmps210 ?_
 refine dIs mixed ?_
 refine cGs (fun gg => (Rr a2.Method a3 a2.Path)) ?_
 refine cGs (fun gg => (Ze (a2.Z7.length : Int) 1 6)) ?_
 refine cGs (fun gg => (Jh a2.Z7)) ?_
 refine cFo f ?_ ?_ <;> intro k2 h1 f
 ·have q1 := h1; try simp [ZS] at q1
  simp
  exact rt [.tmp 8] f
 have q1 := h1; try simp [ZS] at q1
 simp
 refine lp1 (yk.eq_2 a0 a1 a2) (fun J => Yd 59 [eL 0 5 a0 YJ.row, eL 1 3 a1 ZP.row, eX 6 (a2.row.map .d), eL 40 5 a2.Z7 ZV.row, eI 41 (a2.Z7.length : Int), eI 42 (J : Int)]) (fun n1 J => a2.Z7.length < n1 + J /\ J <= a2.Z7.length) (a2.Z7.length + 1) 0 (fun p1 J e1 j1 => ?_)
 refine cFf e1 ?_ ?_ <;> intro k4 h2 e1
 ·have i1 := ix h2
  have m2 := ml a2.Z7 (k4 40 _ rfl)
  have c1 := sl 2310144 a2.Z7 (an u0 (an u1 u2))
  have w1 := wr J
  simp [i1, ZC]
  refine rpS ?_
  refine cGs (fun gg => (Rk a0 a1 (nth a2.Z7 J) (sg u0) (sg u1))) ?_
  refine cF e1 ?_ ?_ <;> intro k5 h3 e1
  ·have f := ms f e1
   exact rt [.tmp 8] f
  exact ny1 w1 e1
 have c2 := sl 2310144 a2.Z7 (an u0 (an u1 u2))
 have f := ms f e1
 exact rt [.tmp 8] f
theorem Re (a0 : List YV) (a1 : Int) : Sa 103 [rL 4 YV.row a0, rI a1] [rI (Kr a0 a1)] := by
 have f := me (Kr.eq_1 a0 a1)
 refine so func103 ntmps103 ?_
 refine lp1 (zx.eq_2 a0 a1) (fun J => Yd 20 [eI 1 a1, eL 7 4 a0 YV.row, eI 8 (a0.length : Int), eI 9 (J : Int)]) (fun n1 J => a0.length < n1 + J /\ J <= a0.length) (a0.length + 1) 0 (fun p1 J e1 j1 => ?_)
 refine cFf e1 ?_ ?_ <;> intro k2 h1 e1
 ·have i1 := ix h1
  have m2 := ml a0 (k2 7 _ rfl)
  have w1 := wr J
  simp [i1, ZC]
  refine rpS ?_
  refine cF e1 ?_ ?_ <;> intro k3 h2 e1
  ·have f := ms f e1
   exact rt [.tmp 4] f
  exact ny1 w1 e1
 have f := ms f e1
 exact rt [.tmp 4] f
theorem xx (a0 : List YV) (a1 : Int) : Sa 59 [rL 4 YV.row a0, rI a1] [rI (zZ a0 a1)] := by
 have f := me (zZ.eq_1 a0 a1)
 refine so func59 ntmps59 ?_
 refine cRs (Re a0 a1) ?_
 refine cFf f ?_ ?_ <;> intro k1 h1 f
 ·have i1 : (Kr a0 a1).toNat < a0.length := by have := Rj a0 a1; exact il
  simp [i1, ZC]
  refine rpS ?_
  exact rt [.tmp 4] f
 exact rt [.tmp 4] f
theorem kD (a0 : List ZP) (a1 : ZV) : Sa 113 [rL 3 ZP.row a0, a1.row] [rI (Xa a0 a1)] := by
 have f := me (Xa.eq_1 a0 a1)
 refine so func113 ntmps113 ?_
 refine cRs (zO a0 a1.Authority) ?_
 refine cFf f ?_ ?_ <;> intro k1 h1 f
 ·have i1 : (Zy a0 a1.Authority).toNat < a0.length := by have := Je a0 a1.Authority; exact il
  simp [i1, ZC]
  refine rpS ?_
  exact rt [.tmp 4] f
 exact rt [.tmp 4] f
theorem TQ (a0 : List YJ) (a1 : List ZP) (a2 : List YV) (a3 : ZK) : Sa 220 [rL 5 YJ.row a0, rL 3 ZP.row a1, rL 4 YV.row a2, a3.row] [rI (yS a0 a1 a2 a3)] := by
 have f := me (yS.eq_1 a0 a1 a2 a3)
 refine so func220 ntmps220 ?_
 refine cRs (xx a2 a3.Method) ?_
 refine lp2 (yq.eq_2 a0 a1 a2 a3) (fun J U => Yd 42 [eL 0 5 a0 YJ.row, eL 1 3 a1 ZP.row, eL 2 4 a2 YV.row, eI 9 J, eL 18 5 a3.Z7 ZV.row, eI 19 (a3.Z7.length : Int), eI 20 (U : Int)]) (fun n1 J U => a3.Z7.length < n1 + U /\ U <= a3.Z7.length) (a3.Z7.length + 1) (zZ a2 a3.Method) 0 (fun p1 J U e1 j1 => ?_)
 refine cFf e1 ?_ ?_ <;> intro k2 h1 e1
 ·have i1 := ix h1
  have m2 := ml a3.Z7 (k2 18 _ rfl)
  have w1 := wr U
  simp [i1, ZC]
  refine rpS ?_
  refine cRs (kD a1 (nth a3.Z7 U)) ?_
  refine cRs (Kq a0 (Xa a1 (nth a3.Z7 U))) ?_
  refine cFt e1 ?_ ?_ <;> intro k3 h2 e1
  ·have f := ms f e1
   exact rt [.tmp 8] f
  have i2 : (Yp a0 (Xa a1 (nth a3.Z7 U))).toNat < a0.length := by have := yO a0 (Xa a1 (nth a3.Z7 U)); exact il
  simp [i2, ZC]
  refine rpS ?_
  refine cRs (xx a2 (nth a0 (Yp a0 (Xa a1 (nth a3.Z7 U))).toNat).Method) ?_
  exact ny2 w1 e1
 have f := ms f e1
 exact rt [.tmp 8] f
theorem W2 {a b : Prop} (h : b) (k : a := by (intros; first | omega | with_unfolding_all (first | (first | omega | (have mm : a1.ZJ.length <= 2306048 := Yf (xs u1); have ww := PZ a1.ZJ.length (by omega); (try rw [ww] at q1); (try rw [ww] at q2); have w3 : W (a2 + 1) = a2 + 1 := YS (by omega) (by omega); have w4 : IntKind.i64.wrap (a2 + 1) = a2 + 1 := w3; omega))) | ((try simp only [Yw, show ∀ x, IntKind.i64.wrap x = W x from fun _ => rfl] at *); omega))) : a /\ b := ⟨k, h⟩
theorem Vw (a0 : ZW) (a1 : ZG) (a2 : Int) (u0 : Sm 2306048 a0) (u1 : Sm 2306048 a1) : Sa 212 [a0.row, a1.row, rI a2] [rB (Wu a0 a1 a2)] := by
 have f := me (Wu.eq_1 a0 a1 a2)
 refine so func212 ntmps212 ?_
 refine cRs (Ze a2 0 (W ((a1.ZJ.length : Int) - 1))) ?_
 have c1 := sl 2306048 a1.ZJ (an u0 u1)
 have w1 : IntKind.i64.wrap ((a1.ZJ.length : Int) - 1) = (a1.ZJ.length : Int) - 1 := YS (by omega) (by omega)
 refine cFo f ?_ ?_ <;> intro k1 h1 f
 ·have q1 := h1; try simp [ZS, w1] at q1
  simp
  exact rt [.tmp 6] f
 have q1 := h1; try simp [ZS, w1] at q1
 simp
 refine dIo mixed ?_
 have i1 : a2.toNat < a1.ZJ.length := by (have mm : a1.ZJ.length <= 2306048 := Yf (xs u1); (try simp [ZS] at q1); have ww := PZ a1.ZJ.length (by omega); first | omega | ((try rw [ww] at q1); (try rw [ww] at q2); have w3 : W (a2 + 1) = a2 + 1 := YS (by omega) (by omega); omega))
 simp [i1, ZC]
 repeat with_reducible refine W2 ?_
 refine cRs (TQ a0.JW a0.Z6 a0.Methods (nth a1.ZJ a2.toNat)) ?_
 refine cFo f ?_ ?_ <;> intro k3 h2 f
 ·have q2 := h2; try simp [w1] at q2
  simp
  exact rt [.tmp 6] f
 have q2 := h2; try simp [w1] at q2
 simp
 refine dIo mixed ?_
 have i2 : (W (a2 + 1)).toNat < a1.ZJ.length := by (have mm : a1.ZJ.length <= 2306048 := Yf (xs u1); (try simp [ZS] at q1); have ww := PZ a1.ZJ.length (by omega); first | omega | ((try rw [ww] at q1); (try rw [ww] at q2); have w3 : W (a2 + 1) = a2 + 1 := YS (by omega) (by omega); omega))
 simp [i2, ZC]
 repeat with_reducible refine W2 ?_
 refine cRs (yP a0 (nth a1.ZJ (W (a2 + 1)).toNat) (sg u0) (sg (Z2 (ZG.KB u1)))) ?_ (wU := by first | (simp; done) | (simp [W, w1]; done))
 exact rt [.tmp 6] f
theorem Pg (a0 : ZW) (a1 : ZG) (a2 : List Int) (u0 : Sm 2301952 a0) (u1 : Sm 2301952 a1) (u2 : Sm 2301952 a2) : Sa 195 [a0.row, a1.row, rL 1 iR a2] [rI (KG a0 a1 a2)] := by
 have f := me (KG.eq_1 a0 a1 a2)
 refine so func195 ntmps195 ?_
 refine okL fun k1 => ?_
 refine lp1 (K8.eq_2 a0 a1 a2) (fun J => Yd 58 [eL 2 1 a2 iR, eX 3 (a0.row.map .d), eX 4 (a1.row.map .d), eI 7 (J : Int)]) (fun n1 J => J < n1 /\ J <= a1.ZJ.length) (a1.ZJ.length + 1) a1.ZJ.length (fun p1 J e1 j1 => ?_)
 refine cFo e1 ?_ ?_ <;> intro k2 h1 e1
 ·have q1 := h1; try simp at q1
  have m1 := ml a1.ZJ (k1 11 _ rfl)
  have w1 : IntKind.i64.wrap ((J : Int) - 1) = (J : Int) - 1 := YS (by omega) (by omega)
  have w2 : ((J - 1 : Nat) : Int) = (J : Int) - 1 := by omega
  simp
  refine dIo mixed ?_
  have i2 := ik (J - 1) a1.ZJ
  simp [i2, ZC, w1, J9]
  refine rpS ?_
  refine cRs (yP a0 (nth a1.ZJ (J - 1)) (sg u0) (sg (Z2 (ZG.KB u1)))) ?_
  refine dIs mixed ?_
  refine gIf ?_ ?_ <;> intro G
  ·have vo := G
   have g1 := G; try simp at g1
   simp [i2, ZC, w1, J9, G]
   refine rpG ?_
   refine HZ rfl rfl rfl rfl rfl rfl (fun gg => (IE a1 a2 (W ((J : Int) - 1)) (sg u1) (sg u2))) (by first | (simp; done) | (simp [G]; done) | (simp [G]; omega) | (simp_all; done)) (by first | (simp; done) | (simp [G]; done) | (simp [G]; omega) | (simp_all; done)) (by first | (simp; done) | (simp [G]; done) | (simp [G]; omega) | (simp_all; done)) (by first | (simp; done) | (simp [G]; done) | (simp [G]; omega) | (simp_all; done)) ?_
   simp [G]
   refine rpG ?_
   refine HZ rfl rfl rfl rfl rfl rfl (fun gg => (TV a0.JW a0.Z6 (nth a1.ZJ (J - 1)) (TW a1 a2 (W ((J : Int) - 1))) (sg (ZW.Yz u0)) (sg (ZW.yC u0)) (sg (Z2 (ZG.KB u1))))) (by first | (simp; done) | (simp [G]; done) | (simp [G]; omega) | (simp_all; done)) (by first | (simp; done) | (simp [G]; done) | (simp [G]; omega) | (simp_all; done)) (by first | (simp; done) | (simp [G]; done) | (simp [G]; omega) | (simp_all; done)) (by first | (simp; done) | (simp [G]; done) | (simp [G]; omega) | (simp_all; done)) ?_
   simp [G]
   refine rpG ?_
   refine HZ rfl rfl rfl rfl rfl rfl (fun gg => (Vw a0 a1 (W ((J : Int) - 1)) (sg u0) (sg u1))) (by first | (simp; done) | (simp [G]; done) | (simp [G]; omega) | (simp_all; done)) (by first | (simp; done) | (simp [G]; done) | (simp [G]; omega) | (simp_all; done)) (by first | (simp; done) | (simp [G]; done) | (simp [G]; omega) | (simp_all; done)) (by first | (simp; done) | (simp [G]; done) | (simp [G]; omega) | (simp_all; done)) ?_
   simp [G]
   refine rpG ?_
   refine cKo e1 ?_ ?_ <;> intro k5 h2 e1
   ·try (simp [G] at h2; done)
    all_goals
     have q2 := h2; try simp [w1, w2] at q2
     have f := ms f e1
     simp [G]
     refine rpG ?_
     exact rtg [.tmp 6] f
   ·try (simp [G] at h2; done)
    all_goals
     have q2 := h2; try simp [w1, w2] at q2
     simp [G]
     refine rpG ?_
     exact ny1 (an w1 (an w2 G)) e1
  ·have vo := G
   refine sGo ?_
   simp [G]
   refine rpG ?_
   refine sGo ?_
   simp [G]
   refine rpG ?_
   refine HZ rfl rfl rfl rfl rfl rfl (fun gg => (Vw a0 a1 (W ((J : Int) - 1)) (sg u0) (sg u1))) (by first | (simp; done) | (simp [G]; done) | (simp [G]; omega) | (simp_all; done)) (by first | (simp; done) | (simp [G]; done) | (simp [G]; omega) | (simp_all; done)) (by first | (simp; done) | (simp [G]; done) | (simp [G]; omega) | (simp_all; done)) (by first | (simp; done) | (simp [G]; done) | (simp [G]; omega) | (simp_all; done)) ?_
   simp [G]
   refine rpG ?_
   refine cKo e1 ?_ ?_ <;> intro k6 h3 e1
   ·try (simp [G] at h3; done)
    all_goals
     have q3 := h3; try simp [w1, w2] at q3
     have f := ms f e1
     simp [G]
     refine rpG ?_
     exact rtg [.tmp 6] f
   ·try (simp [G] at h3; done)
    all_goals
     have q3 := h3; try simp [w1, w2] at q3
     simp [G]
     refine rpG ?_
     exact ny1 (an w1 (an w2 G)) e1
 have q1 := h1; try simp at q1
 have f := ms f e1
 simp
 exact rt [.tmp 6] f
theorem MK (a0 : ZW) (a1 : ZG) (a2 : List Int) (a3 : Int) (u0 : Sm 2297856 a0) (u1 : Sm 2297856 a1) (u2 : Sm 2297856 a2) : Sa 156 [a0.row, a1.row, rL 1 iR a2, rI a3] [rI (SW a0 a1 a2 a3)] := by
 have f := me (SW.eq_1 a0 a1 a2 a3)
 refine so func156 ntmps156 ?_
 refine cRs (Pg a0 a1 a2 (sg u0) (sg u1) (sg u2)) ?_
 refine lp2 (jH.eq_2 a0 a1 a3) (fun J U => Yd 49 [eI 3 a3, eX 4 (a0.row.map .d), eX 5 (a1.row.map .d), eI 9 J, eI 10 U]) (fun n1 J U => (a1.ZJ.length : Int) + 1 < n1 + U /\ 0 <= U /\ U <= a1.ZJ.length) (a1.ZJ.length + 2) a0.Now (KG a0 a1 a2) (fun p1 J U e1 j1 => ?_) (hI := by (have z := Rp a0 a1 a2; (try dsimp only); omega))
 try dsimp only at j1
 refine cF e1 ?_ ?_ <;> intro k2 h1 e1
 ·refine okD fun k3 => ?_
  refine dIo mixed ?_
  have i1 := ik U.toNat a1.ZJ
  simp [i1, ZC]
  refine rpS ?_
  refine cRf i1 (yP a0 (nth a1.ZJ U.toNat) (sg u0) (sg (Z2 (ZG.KB u1)))) ?_
  refine cF e1 ?_ ?_ <;> intro k4 h2 e1
  ·exact nx2 e1 (hI := by (have cc : a1.ZJ.length <= 2297856 := Yf (xs u1); have w2 : W (U + 1) = U + 1 := YS (by simp at *; omega) (by simp at *; omega); (try dsimp only); rw [w2]; simp at *; omega))
  exact nx2 e1 (hI := by (have cc : a1.ZJ.length <= 2297856 := Yf (xs u1); have w2 : W (U + 1) = U + 1 := YS (by simp at *; omega) (by simp at *; omega); (try dsimp only); rw [w2]; simp at *; omega))
 have f := ms f e1
 exact rt [.tmp 8] f
theorem RR (a0 : ZW) (a1 : ZG) (a2 : List Int) (a3 : ZE) (u0 : Sm 2293760 a0) (u1 : Sm 2293760 a1) (u2 : Sm 2293760 a2) (u3 : Sm 2293760 a3) : Sa 102 [a0.row, a1.row, rL 1 iR a2, a3.row] [rI (xu a0 a1 a2 a3)] := by
 have f := me (xu.eq_1 a0 a1 a2 a3)
 refine so func102 ntmps102 ?_
 refine cRs (P3 a1 a3) ?_
 refine cF f ?_ ?_ <;> intro k1 h1 f
 ·exact rt [.tmp 8] f
 refine cRs (MK a0 a1 a2 (xQ a1 a3) (sg u0) (sg u1) (sg u2)) ?_
 exact rt [.tmp 8] f
theorem qv (a0 : ZW) (a1 : Zb) (a2 : List (List Int)) (a3 : ZE) (u0 : Sm 2289664 a0) (u1 : Sm 2289664 a1) (u2 : Sm 2289664 a2) (u3 : Sm 2289664 a3) : Sa 56 [a0.row, a1.row, rL 1 (slR 1 iR) a2, a3.row] [rI (YO a0 a1 a2 a3)] := by
 have f := me (YO.eq_1 a0 a1 a2 a3)
 refine so func56 ntmps56 ?_
 refine lp2 (J6.eq_2 a0 a1 a2 a3) (fun J U => Yd 38 [eL 2 1 a2 (slR 1 iR), eX 4 (a0.row.map .d), eX 7 (a3.row.map .d), eI 9 J, eL 15 2 a1.ZZ ZG.row, eI 16 (a1.ZZ.length : Int), eI 17 (U : Int)]) (fun n1 J U => a1.ZZ.length < n1 + U /\ U <= a1.ZZ.length) (a1.ZZ.length + 1) a0.Now 0 (fun p1 J U e1 j1 => ?_)
 refine cFf e1 ?_ ?_ <;> intro k2 h1 e1
 ·have i1 := ix h1
  have m2 := ml a1.ZZ (k2 15 _ rfl)
  have c1 := sl 2289664 a1.ZZ (an u0 (an u1 (an u2 u3)))
  have w1 := wr U
  simp [i1, ZC]
  refine rpS ?_
  refine cF e1 ?_ ?_ <;> intro k3 h2 e1
  ·have i2 := ix h2
   have m4 := ml a2 (k3 2 _ rfl)
   have c2 := sl 2289664 a2 (an u0 (an u1 (an u2 u3)))
   have w2 := wr U
   refine dIo mixed ?_
   simp [i2, ZC]
   refine rpS ?_
   refine cRs (RR a0 (nth a1.ZZ U) (nth a2 U) a3 (sg u0) (sg (Z2 (Zb.Y7 u1))) (sg (Z2 u2)) (sg u3)) ?_
   exact ny2 w2 e1
  have c3 := sl 2289664 a2 (an u0 (an u1 (an u2 u3)))
  exact ny2 w1 e1
 have c4 := sl 2289664 a1.ZZ (an u0 (an u1 (an u2 u3)))
 have f := ms f e1
 exact rt [.tmp 8] f
theorem Wm (a0 : ZW) (a1 : Int) : Sa 58 [a0.row, rI a1] [rI (xo a0 a1)] := by
 have f := me (xo.eq_1 a0 a1)
 refine so func58 ntmps58 ?_
 refine cRs (Kq a0.JW a1) ?_
 refine cF f ?_ ?_ <;> intro k1 h1 f
 ·exact rt [.tmp 4] f
 refine dIo mixed ?_
 have i1 : (Yp a0.JW a1).toNat < a0.JW.length := by have := yO a0.JW a1; exact il
 simp [i1, ZC]
 refine rpS ?_
 refine cRs (xx a0.Methods (nth a0.JW (Yp a0.JW a1).toNat).Method) ?_
 exact rt [.tmp 4] f
theorem jm (a0 : List ZE) (a1 : ZE) : Sa 104 [rL 3 ZE.row a0, a1.row] [rB (qh a0 a1)] := by
 have f := me (qh.eq_1 a0 a1)
 refine so func104 ntmps104 ?_
 refine lp1 (Wd.eq_2 a0 a1) (fun J => Yd 17 [eX 3 (a1.row.map .d), eL 7 3 a0 ZE.row, eI 8 (a0.length : Int), eI 9 (J : Int)]) (fun n1 J => a0.length < n1 + J /\ J <= a0.length) (a0.length + 1) 0 (fun p1 J e1 j1 => ?_)
 refine cFf e1 ?_ ?_ <;> intro k2 h1 e1
 ·have i1 := ix h1
  have m2 := ml a0 (k2 7 _ rfl)
  have w1 := wr J
  simp [i1, ZC]
  refine rpS ?_
  refine cRs (kb (nth a0 J) a1) ?_
  refine cF e1 ?_ ?_ <;> intro k3 h2 e1
  ·have f := ms f e1
   exact rt [.tmp 4] f
  exact ny1 w1 e1
 have f := ms f e1
 exact rt [.tmp 4] f
theorem QT (a0 : ZE) : Sa 158 [a0.row] [rI (YP a0)] := by
 have f := me (YP.eq_1 a0)
 refine so func158 ntmps158 ?_
 refine dIs mixed ?_
 refine gIf ?_ ?_ <;> intro G
 ·have i1 := ik 0 a0.Z0
  simp [i1, ZC, G]
  refine rpG ?_
  refine cGg (fun gg => (Ze (nth a0.Z0 0) 101 105)) ?_
  refine gJf G ?_ ?_ <;> intro G
  ·try (simp at G; done)
   all_goals
    have g2 := G.2; try simp [ZS] at g2
    all_goals
     simp [i1, ZC, G]
     refine rpG ?_
     refine gK (fun _ => ?_)
     have r1 : ∀ i : Nat, i < 5 -> cut [At.d (.int .i64 7), At.d (.int .i64 5), At.d (.int .i64 5), At.d (.int .i64 9), At.d (.int .i64 6)] i 1 = [At.d (.int .i64 (nth ([7, 5, 5, 9, 6] : List Int) i))] := by intro i h; (have z : i = 0 \/ i = 1 \/ i = 2 \/ i = 3 \/ i = 4 := by omega); rcases z with rfl | rfl | rfl | rfl | rfl <;> rfl
     have i2 : (W ((nth a0.Z0 0) - 101)).toNat < 5 := by first | omega | ((try simp only [Yw, show ∀ x, IntKind.i64.wrap x = W x from fun _ => rfl] at *); omega)
     have pR := r1 _ i2; simp only [cut] at pR
     simp [r1 _ i2, pR, G]
     refine rpG ?_
     refine cKo f ?_ ?_ <;> intro k2 h1 f
     ·have q1 := h1; try simp [ZS] at q1
      simp [G]
      refine rpG ?_
      exact rtg [.tmp 2] f
     ·have q1 := h1; try simp [ZS] at q1
      simp [i1, ZC, G]
      refine rpG ?_
      exact rtg [.tmp 2] f
  ·try (simp at G; done)
   all_goals
    refine sGg ?_
    refine cKo f ?_ ?_ <;> intro k3 h2 f
    ·have q2 := h2; try simp [ZS] at q2
     simp [G]
     refine rpG ?_
     exact rtg [.tmp 2] f
    ·simp [G] at h2
 ·refine sGo ?_
  simp [G]
  refine rpG ?_
  refine gJf G ?_ ?_ <;> intro G
  ·try (simp at G; done)
   all_goals
    have g3 := G.2; try simp [ZS] at g3
    all_goals
     have i5 := ik 0 a0.Z0
     simp [i5, ZC, G]
     refine rpG ?_
     refine gK (fun _ => ?_)
     have r3 : ∀ i : Nat, i < 5 -> cut [At.d (.int .i64 7), At.d (.int .i64 5), At.d (.int .i64 5), At.d (.int .i64 9), At.d (.int .i64 6)] i 1 = [At.d (.int .i64 (nth ([7, 5, 5, 9, 6] : List Int) i))] := by intro i h; (have z : i = 0 \/ i = 1 \/ i = 2 \/ i = 3 \/ i = 4 := by omega); rcases z with rfl | rfl | rfl | rfl | rfl <;> rfl
     have i6 : (W ((nth a0.Z0 0) - 101)).toNat < 5 := by first | omega | ((try simp only [Yw, show ∀ x, IntKind.i64.wrap x = W x from fun _ => rfl] at *); omega)
     have iL := r3 _ i6; simp only [cut] at iL
     simp [r3 _ i6, iL, G]
     refine rpG ?_
     refine cKo f ?_ ?_ <;> intro k4 h3 f
     ·simp [G] at h3
     ·simp [G] at h3
  ·try (simp at G; done)
   all_goals
    refine sGg ?_
    refine cKo f ?_ ?_ <;> intro k5 h4 f
    ·have q4 := h4; try simp [ZS] at q4
     simp [G]
     refine rpG ?_
     exact rtg [.tmp 2] f
    ·simp [G] at h4
theorem Wz (a0 : ZE) : Sa 108 [a0.row] [(Y4 a0).1.row, rB (Y4 a0).2] := by
 have f := me (Y4.eq_1 a0)
 refine so func108 ntmps108 ?_
 refine dIs mixed ?_
 refine cRs (QT a0) ?_
 refine gIf ?_ ?_ <;> intro G
 ·have vo := G
  have g1 := G; try simp at g1
  have i1 : 6 < a0.Z0.length := by (have z := ZH a0; simp_all; done)
  simp [i1, ZC, G]
  refine rpG ?_
  refine cK f ?_ ?_ <;> intro k2 h1 f
  ·try (simp [G] at h1; done)
   all_goals
    exact rtg [.cell 2 122, .tmp 3] f
  ·try (simp [G] at h1; done)
   all_goals
    refine dIo mixed ?_
    have i2 : 1 < a0.Z0.length := by (have z := ZH a0; simp_all; done)
    have i3 : 2 < a0.Z0.length := by (have z := ZH a0; simp_all; done)
    have i4 : 3 < a0.Z0.length := by (have z := ZH a0; simp_all; done)
    have i5 : 4 < a0.Z0.length := by (have z := ZH a0; simp_all; done)
    have i6 : 5 < a0.Z0.length := by (have z := ZH a0; simp_all; done)
    simp [i2, ZC, i3, i4, i5, i6, i1, G]
    refine rpG ?_
    exact rtg [.cell 2 122, .tmp 3] f
 ·have vo := G
  refine cK f ?_ ?_ <;> intro k4 h2 f
  ·try (simp [G] at h2; done)
   all_goals
    exact rtg [.cell 2 122, .tmp 3] f
  ·try (simp [G] at h2; done)
   all_goals
    refine dIo mixed ?_
    have i8 : 1 < a0.Z0.length := by (have z := ZH a0; simp_all; done)
    have i9 : 2 < a0.Z0.length := by (have z := ZH a0; simp_all; done)
    have i10 : 3 < a0.Z0.length := by (have z := ZH a0; simp_all; done)
    have i11 : 4 < a0.Z0.length := by (have z := ZH a0; simp_all; done)
    have i12 : 5 < a0.Z0.length := by (have z := ZH a0; simp_all; done)
    have i13 : 6 < a0.Z0.length := by (have z := ZH a0; simp_all; done)
    simp [i8, ZC, i9, i10, i11, i12, i13, G]
    refine rpG ?_
    exact rtg [.cell 2 122, .tmp 3] f
theorem kX (a0 : ZE) : Sa 115 [a0.row] [(QP a0).1.row, rB (QP a0).2] := by
 have f := me (QP.eq_1 a0)
 refine so func115 ntmps115 ?_
 refine dIs mixed ?_
 refine cRs (QT a0) ?_
 refine gIf ?_ ?_ <;> intro G
 ·have vo := G
  have g1 := G; try simp at g1
  have i1 : 4 < a0.Z0.length := by (have z := ZH a0; simp_all; done)
  simp [i1, ZC, G]
  refine rpG ?_
  refine cK f ?_ ?_ <;> intro k2 h1 f
  ·try (simp [G] at h1; done)
   all_goals
    exact rtg [.cell 2 155, .tmp 3] f
  ·try (simp [G] at h1; done)
   all_goals
    refine dIo mixed ?_
    have i2 : 1 < a0.Z0.length := by (have z := ZH a0; simp_all; done)
    have i3 : 2 < a0.Z0.length := by (have z := ZH a0; simp_all; done)
    have i4 : 3 < a0.Z0.length := by (have z := ZH a0; simp_all; done)
    simp [i2, ZC, i3, i4, i1, G]
    refine rpG ?_
    exact rtg [.cell 2 155, .tmp 3] f
 ·have vo := G
  refine cK f ?_ ?_ <;> intro k4 h2 f
  ·try (simp [G] at h2; done)
   all_goals
    exact rtg [.cell 2 155, .tmp 3] f
  ·try (simp [G] at h2; done)
   all_goals
    refine dIo mixed ?_
    have i6 : 1 < a0.Z0.length := by (have z := ZH a0; simp_all; done)
    have i7 : 2 < a0.Z0.length := by (have z := ZH a0; simp_all; done)
    have i8 : 3 < a0.Z0.length := by (have z := ZH a0; simp_all; done)
    have i9 : 4 < a0.Z0.length := by (have z := ZH a0; simp_all; done)
    simp [i6, ZC, i7, i8, i9, G]
    refine rpG ?_
    exact rtg [.cell 2 155, .tmp 3] f
theorem Ra (a0 : ZE) : Sa 159 [a0.row] [(xt a0).1.row, rB (xt a0).2] := by
 have f := me (xt.eq_1 a0)
 refine so func159 ntmps159 ?_
 refine cRs (QT a0) ?_
 refine cF f ?_ ?_ <;> intro k1 h1 f
 ·exact rt [.cell 2 180, .tmp 3] f
 refine dIo mixed ?_
 have i1 : 1 < a0.Z0.length := by (have z := ZH a0; simp_all; done)
 have i2 : 2 < a0.Z0.length := by (have z := ZH a0; simp_all; done)
 have i3 : 3 < a0.Z0.length := by (have z := ZH a0; simp_all; done)
 have i4 : 4 < a0.Z0.length := by (have z := ZH a0; simp_all; done)
 simp [i1, ZC, i2, i3, i4]
 refine rpS ?_
 exact rt [.cell 2 180, .tmp 3] f
theorem Pm (a0 : ZE) : Sa 160 [a0.row] [(jX a0).1.row, rB (jX a0).2] := by
 have f := me (jX.eq_1 a0)
 refine so func160 ntmps160 ?_
 refine dIs mixed ?_
 refine cRs (QT a0) ?_
 refine gIf ?_ ?_ <;> intro G
 ·have vo := G
  have g1 := G; try simp at g1
  have i1 : 1 < a0.Z0.length := by (have z := ZH a0; simp_all; done)
  simp [i1, ZC, G]
  refine rpG ?_
  refine cK f ?_ ?_ <;> intro k2 h1 f
  ·try (simp [G] at h1; done)
   all_goals
    exact rtg [.cell 2 41, .tmp 3] f
  ·try (simp [G] at h1; done)
   all_goals
    refine dIo mixed ?_
    have i2 : 2 < a0.Z0.length := by (have z := ZH a0; simp_all; done)
    have i3 : 3 < a0.Z0.length := by (have z := ZH a0; simp_all; done)
    have i4 : 4 < a0.Z0.length := by (have z := ZH a0; simp_all; done)
    have i5 : 5 < a0.Z0.length := by (have z := ZH a0; simp_all; done)
    have i6 : 6 < a0.Z0.length := by (have z := ZH a0; simp_all; done)
    have i7 : 7 < a0.Z0.length := by (have z := ZH a0; simp_all; done)
    have i8 : 8 < a0.Z0.length := by (have z := ZH a0; simp_all; done)
    simp [i1, ZC, i2, i3, i4, i5, i6, i7, i8, G]
    refine rpG ?_
    exact rtg [.cell 2 41, .tmp 3] f
 ·have vo := G
  refine cK f ?_ ?_ <;> intro k4 h2 f
  ·try (simp [G] at h2; done)
   all_goals
    exact rtg [.cell 2 41, .tmp 3] f
  ·try (simp [G] at h2; done)
   all_goals
    refine dIo mixed ?_
    have i10 : 1 < a0.Z0.length := by (have z := ZH a0; simp_all; done)
    have i11 : 2 < a0.Z0.length := by (have z := ZH a0; simp_all; done)
    have i12 : 3 < a0.Z0.length := by (have z := ZH a0; simp_all; done)
    have i13 : 4 < a0.Z0.length := by (have z := ZH a0; simp_all; done)
    have i14 : 5 < a0.Z0.length := by (have z := ZH a0; simp_all; done)
    have i15 : 6 < a0.Z0.length := by (have z := ZH a0; simp_all; done)
    have i16 : 7 < a0.Z0.length := by (have z := ZH a0; simp_all; done)
    have i17 : 8 < a0.Z0.length := by (have z := ZH a0; simp_all; done)
    simp [i10, ZC, i11, i12, i13, i14, i15, i16, i17, G]
    refine rpG ?_
    exact rtg [.cell 2 41, .tmp 3] f
theorem jT (a0 : ZE) : Sa 121 [a0.row] [(JQ a0).1.row, rB (JQ a0).2] := by
 have f := me (JQ.eq_1 a0)
 refine so func121 ntmps121 ?_
 refine dIs mixed ?_
 refine cRs (QT a0) ?_
 refine gIf ?_ ?_ <;> intro G
 ·have vo := G
  have g1 := G; try simp at g1
  have i1 : 5 < a0.Z0.length := by (have z := ZH a0; simp_all; done)
  simp [i1, ZC, G]
  refine rpG ?_
  refine cK f ?_ ?_ <;> intro k2 h1 f
  ·try (simp [G] at h1; done)
   all_goals
    exact rtg [.cell 2 192, .tmp 3] f
  ·try (simp [G] at h1; done)
   all_goals
    refine dIo mixed ?_
    have i2 : 1 < a0.Z0.length := by (have z := ZH a0; simp_all; done)
    have i3 : 2 < a0.Z0.length := by (have z := ZH a0; simp_all; done)
    have i4 : 3 < a0.Z0.length := by (have z := ZH a0; simp_all; done)
    have i5 : 4 < a0.Z0.length := by (have z := ZH a0; simp_all; done)
    simp [i2, ZC, i3, i4, i5, i1, G]
    refine rpG ?_
    exact rtg [.cell 2 192, .tmp 3] f
 ·have vo := G
  refine cK f ?_ ?_ <;> intro k4 h2 f
  ·try (simp [G] at h2; done)
   all_goals
    exact rtg [.cell 2 192, .tmp 3] f
  ·try (simp [G] at h2; done)
   all_goals
    refine dIo mixed ?_
    have i7 : 1 < a0.Z0.length := by (have z := ZH a0; simp_all; done)
    have i8 : 2 < a0.Z0.length := by (have z := ZH a0; simp_all; done)
    have i9 : 3 < a0.Z0.length := by (have z := ZH a0; simp_all; done)
    have i10 : 4 < a0.Z0.length := by (have z := ZH a0; simp_all; done)
    have i11 : 5 < a0.Z0.length := by (have z := ZH a0; simp_all; done)
    simp [i7, ZC, i8, i9, i10, i11, G]
    refine rpG ?_
    exact rtg [.cell 2 192, .tmp 3] f
theorem Rz (a0 : List YJ) (a1 : ZE) (u0 : Sm 2314240 a0) (u1 : Sm 2314240 a1) : Sa 105 [rL 5 YJ.row a0, a1.row] [rB (Wb a0 a1)] := by
 have f := me (Wb.eq_1 a0 a1)
 refine so func105 ntmps105 ?_
 refine cRs (QT a1) ?_
 refine cF f ?_ ?_ <;> intro k1 h1 f
 ·refine cRs (Wz a1) ?_
  refine cGs (fun gg => (Xh a0 a1.Key a1.Z0 a1.Mark (sg u0) (sg (ZE.WB u1)))) ?_
  exact rt [.tmp 4] f
 refine cF f ?_ ?_ <;> intro k2 h2 f
 ·refine cRs (kX a1) ?_
  refine cGs (fun gg => (Xh a0 a1.Key a1.Z0 a1.Mark (sg u0) (sg (ZE.WB u1)))) ?_
  exact rt [.tmp 4] f
 refine cF f ?_ ?_ <;> intro k3 h3 f
 ·refine cRs (Ra a1) ?_
  refine cGs (fun gg => (Xh a0 a1.Key a1.Z0 a1.Mark (sg u0) (sg (ZE.WB u1)))) ?_
  exact rt [.tmp 4] f
 refine cF f ?_ ?_ <;> intro k4 h4 f
 ·refine cRs (Pm a1) ?_
  refine cGs (fun gg => (Xh a0 a1.Key a1.Z0 a1.Mark (sg u0) (sg (ZE.WB u1)))) ?_
  exact rt [.tmp 4] f
 refine cF f ?_ ?_ <;> intro k5 h5 f
 ·refine cRs (jT a1) ?_
  refine cGs (fun gg => (Xh a0 a1.Key a1.Z0 a1.Mark (sg u0) (sg (ZE.WB u1)))) ?_
  exact rt [.tmp 4] f
 refine cGs (fun gg => (Xh a0 a1.Key a1.Z0 a1.Mark (sg u0) (sg (ZE.WB u1)))) ?_
 exact rt [.tmp 4] f
theorem T8 (a0 : ZE) (a1 : ZE) : Sa 106 [a0.row, a1.row] [rB (kG a0 a1)] := by
 have f := me (kG.eq_1 a0 a1)
 refine so func106 ntmps106 ?_
 refine lp1 (xV.eq_2 a0 a1) (fun J => Yd 73 [eX 2 (a0.row.map .d), eX 3 (a1.row.map .d), eI 5 (J : Int)]) (fun n1 J => a0.Z0.length < n1 + J /\ J <= a0.Z0.length) (a0.Z0.length + 1) 0 (fun p1 J e1 j1 => ?_)
 refine cF e1 ?_ ?_ <;> intro k2 h1 e1
 ·have i1 : J < a0.Z0.length := by (simp at h1; omega)
  have m2 := ml a0.Z0 (k2 8 _ rfl)
  have w1 := wr J
  refine dIo mixed ?_
  have i2 := ik J a1.Z0
  simp [i1, ZC, i2]
  refine rpS ?_
  refine cF e1 ?_ ?_ <;> intro k4 h2 e1
  ·refine okD fun k5 => ?_
   refine dIo mixed ?_
   have f := ms f e1
   simp [i1, ZC, i2]
   refine rpS ?_
   exact rt [.tmp 4] f
  exact ny1 w1 e1
 have f := ms f e1
 refine cF f ?_ ?_ <;> intro k6 h3 f
 ·exact rt [.tmp 4] f
 refine cF f ?_ ?_ <;> intro k7 h4 f
 ·exact rt [.tmp 4] f
 exact rt [.tmp 4] f
theorem jL {a b : Prop} (h : b) (k : a := by (intros; first | omega | with_unfolding_all (first | (first | omega | (simp_all; done) | (simp_all; omega))) | ((try simp only [Yw, show ∀ x, IntKind.i64.wrap x = W x from fun _ => rfl] at *); omega))) : a /\ b := ⟨k, h⟩
theorem Zo {a b : Prop} (h : b) (k : a := by (intros; first | omega | with_unfolding_all (first | (first | omega | (simp_all; done) | (simp_all; omega))) | (simp_all; done) | (simp_all; omega) | grind | ((try simp only [Yw, show ∀ x, IntKind.i64.wrap x = W x from fun _ => rfl] at *); omega))) : a /\ b := ⟨k, h⟩
theorem Tj (a0 : ZW) (a1 : Zb) (a2 : List (List Int)) (u0 : Sm 2285568 a0) (u1 : Sm 2285568 a1) (u2 : Sm 2285568 a2) (u3 : Fx a1 <= 2097152) : So 60 [a0.row, a1.row, rL 1 (slR 1 iR) a2] [rL 3 ZE.row (Zc a0 a1 a2)] := by
 have f := me (Zc.eq_1 a0 a1 a2)
 refine so func60 ntmps60 ?_
 refine lp2 (JM.eq_2 a0 a1 a2) (fun J U => Yd 79 [eL 2 1 a2 (slR 1 iR), eX 3 (a0.row.map .d), eX 4 (a1.row.map .d), (7, .one (.sref 7 0 0 J.length), [.arr false 3 (J.map ZE.row)]), eL 14 2 a1.ZZ ZG.row, eI 15 (a1.ZZ.length : Int), eI 16 (U : Int)]) (fun n1 J U => a1.ZZ.length < n1 + U /\ U <= a1.ZZ.length /\ J.length + cnL (fun s : ZG => s.ZO.length) (a1.ZZ.drop U) <= 2097152 /\ Sm 2285568 J) (a1.ZZ.length + 1) ([] : List ZE) 0 (fun p1 J U e1 j1 => ?_) (hI := by (have u : cnL (fun s : ZG => s.ZO.length) a1.ZZ <= 2097152 := u3; (try dsimp only); refine ⟨by omega, by omega, by omega, ?_, ⟨Nat.zero_le _, fun x hx => by cases hx⟩⟩; rw [List.drop_zero]; simp only [List.length_nil]; omega)) (h0 := wkS [((7, 0), none)] [])
 try dsimp only at j1
 refine cFo e1 ?_ ?_ <;> intro k2 h1 e1
 ·have q1 := h1; try simp at q1
  have i1 := ix h1
  have m2 := ml a1.ZZ (k2 14 _ rfl)
  have c1 := sl 2285568 a1.ZZ (an u0 (an u1 (an u2 u3)))
  have w1 := wr U
  simp [i1, ZC]
  repeat with_reducible refine jL ?_
  refine lp2 (Xz.eq_2 a0 a1 a2 U) (fun wD wE => Yd 79 [eL 2 1 a2 (slR 1 iR), eX 3 (a0.row.map .d), eX 4 (a1.row.map .d), (7, .one (.sref 7 0 0 wD.length), [.arr false 3 (wD.map ZE.row)]), eL 14 2 a1.ZZ ZG.row, eI 15 (a1.ZZ.length : Int), eI 16 (U : Int), eL 21 3 (nth a1.ZZ U).ZO ZE.row, eI 22 ((nth a1.ZZ U).ZO.length : Int), eI 23 (wE : Int)]) (fun n2 wD wE => (nth a1.ZZ U).ZO.length < n2 + wE /\ wE <= (nth a1.ZZ U).ZO.length /\ wD.length + ((nth a1.ZZ U).ZO.length - wE) + cnL (fun s : ZG => s.ZO.length) (a1.ZZ.drop (U + 1)) <= 2097152 /\ Sm 2285568 wD) ((nth a1.ZZ U).ZO.length + 1) J 0 (fun p2 wD wE e2 j2 => ?_) (hI := by (have d := Hl (l := a1.ZZ) (i := U) (by first | omega | (simp at *; omega)); refine ⟨?_, ?_, ?_, ?_, j1.2.2.2.2⟩ <;> ((try dsimp only); omega)))
  try dsimp only at j2
  refine cFo e2 ?_ ?_ <;> intro k4 h2 e2
  ·have q2 := h2; try simp at q2
   have i2 := ix h2
   have m4 := ml (nth a1.ZZ U).ZO (k4 21 _ rfl)
   have c2 := sl 2285568 (nth a1.ZZ U).ZO (an u0 (an u1 (an u2 u3)))
   have w2 := wr wE
   simp [i2, ZC]
   repeat with_reducible refine jL ?_
   refine dIs mixed ?_
   refine cRs (jm wD (nth (nth a1.ZZ U).ZO wE)) ?_
   refine cGs (fun gg => (Rz a0.JW (nth (nth a1.ZZ U).ZO wE) (by (first | exact sg u0 | exact sg u1 | exact sg u2 | exact sg (ZW.Yz u0) | exact sg j2.2.2.2.2 | exact sg (Z2 j2.2.2.2.2) | exact sg (Z2 (ZG.XJ (Z2 (Zb.Y7 u1)))))) (by (first | exact sg u0 | exact sg u1 | exact sg u2 | exact sg (ZW.Yz u0) | exact sg j2.2.2.2.2 | exact sg (Z2 j2.2.2.2.2) | exact sg (Z2 (ZG.XJ (Z2 (Zb.Y7 u1)))))))) ?_
   refine cGs (fun gg => (qv a0 a1 a2 (nth (nth a1.ZZ U).ZO wE) (by (first | exact sg u0 | exact sg u1 | exact sg u2 | exact sg (ZW.Yz u0) | exact sg j2.2.2.2.2 | exact sg (Z2 j2.2.2.2.2) | exact sg (Z2 (ZG.XJ (Z2 (Zb.Y7 u1)))))) (by (first | exact sg u0 | exact sg u1 | exact sg u2 | exact sg (ZW.Yz u0) | exact sg j2.2.2.2.2 | exact sg (Z2 j2.2.2.2.2) | exact sg (Z2 (ZG.XJ (Z2 (Zb.Y7 u1)))))) (by (first | exact sg u0 | exact sg u1 | exact sg u2 | exact sg (ZW.Yz u0) | exact sg j2.2.2.2.2 | exact sg (Z2 j2.2.2.2.2) | exact sg (Z2 (ZG.XJ (Z2 (Zb.Y7 u1)))))) (by (first | exact sg u0 | exact sg u1 | exact sg u2 | exact sg (ZW.Yz u0) | exact sg j2.2.2.2.2 | exact sg (Z2 j2.2.2.2.2) | exact sg (Z2 (ZG.XJ (Z2 (Zb.Y7 u1)))))))) ?_
   refine cGs (fun gg => (Wm a0 (nth (nth a1.ZZ U).ZO wE).Key)) ?_
   refine cFo e2 ?_ ?_ <;> intro k6 h3 e2
   ·have q3 := h3; try simp at q3
    simp
    exact ny2 (an w1 w2) e2 (hI := by first | (refine ⟨?_, ?_, ?_, ?_, j2.2.2.2.2⟩ <;> ((try dsimp only); omega)) | (have pk : Sm 2285568 (nth (nth a1.ZZ U).ZO wE) := Z2 (ZG.XJ (Z2 (Zb.Y7 u1))); obtain ⟨q1, q2⟩ := MM (z := wg) j2.2.2.2.2 pk (by omega); refine ⟨?_, ?_, ?_, ?_, q1⟩ <;> ((try dsimp only); omega)))
   have q3 := h3; try simp at q3
   simp
   refine lp1 (Ka.eq_2 a1 U wD wE) (fun wg => Yd 79 [eL 2 1 a2 (slR 1 iR), eX 3 (a0.row.map .d), eX 4 (a1.row.map .d), (7, .one (.sref 7 0 0 wD.length), [.arr false 3 (wD.map ZE.row)]), eX 11 ((nth (nth a1.ZZ U).ZO wE).row.map .d), eI 12 (wg : Int), eL 14 2 a1.ZZ ZG.row, eI 15 (a1.ZZ.length : Int), eI 16 (U : Int), eL 21 3 (nth a1.ZZ U).ZO ZE.row, eI 22 ((nth a1.ZZ U).ZO.length : Int), eI 23 (wE : Int)]) (fun n3 wg => wD.length < n3 + wg /\ wg <= wD.length) (wD.length + 1) 0 (fun p3 wg e3 j3 => ?_)
   try dsimp only at j3
   refine dIs mixed ?_
   refine gIo ?_ ?_ <;> intro G
   ·have vo := G
    have g1 := G; try simp at g1
    have i3 := ik wg wD
    simp [i3, ZC, G]
    repeat with_reducible refine Zo ?_
    refine cGo (fun gg => (T8 (nth wD wg) (nth (nth a1.ZZ U).ZO wE))) ?_
    simp [G]
    repeat with_reducible refine Zo ?_
    refine cKo e3 ?_ ?_ <;> intro k9 h4 e3
    ·try (simp [G] at h4; done)
     all_goals
      have q4 := h4; try simp at q4
      have i4 : wg < wD.length := by (simp at h4; omega)
      have m6 := ml wD (k9 7 _ rfl)
      have w3 := wr wg
      simp [G]
      repeat with_reducible refine Zo ?_
      exact ny1 (an w1 (an w2 (an w3 G))) e3
    ·try (simp [G] at h4; done)
     all_goals
      have q4 := h4; try simp at q4
      have e2 := ms e2 e3
      simp [G]
      repeat with_reducible refine Zo ?_
      refine dIo mixed ?_
      simp [G]
      repeat with_reducible refine Zo ?_
      refine evI rfl rfl rfl ?_
      simp [G]
      repeat with_reducible refine Zo ?_
      refine evI rfl rfl rfl ?_
      simp [G]
      repeat with_reducible refine Zo ?_
      refine cR (YD.rd (xY (nth (nth a1.ZZ U).ZO wE) (by (first | exact sg u0 | exact sg u1 | exact sg u2 | exact sg (ZW.Yz u0) | exact sg j2.2.2.2.2 | exact sg (Z2 j2.2.2.2.2) | exact sg (Z2 (ZG.XJ (Z2 (Zb.Y7 u1)))))))) ?_
      simp [G]
      repeat with_reducible refine Zo ?_
      refine evI rfl rfl rfl ?_
      simp [G]
      repeat with_reducible refine Zo ?_
      refine evI rfl rfl rfl ?_
      simp [G]
      repeat with_reducible refine Zo ?_
      refine evI rfl rfl rfl ?_
      simp [G]
      repeat with_reducible refine Zo ?_
      exact nx2 e2 (hI := by first | (refine ⟨?_, ?_, ?_, ?_, j2.2.2.2.2⟩ <;> ((try dsimp only); omega)) | (have pk : Sm 2285568 (nth (nth a1.ZZ U).ZO wE) := Z2 (ZG.XJ (Z2 (Zb.Y7 u1))); obtain ⟨q1, q2⟩ := MM (z := wg) j2.2.2.2.2 pk (by omega); refine ⟨?_, ?_, ?_, ?_, q1⟩ <;> ((try dsimp only); omega))) (hw := Y5 [((7, 0), some (75, 0))] [] rfl (by simp [w1, w2, G]))
   ·have vo := G
    simp [G]
    repeat with_reducible refine Zo ?_
    refine sGo ?_
    simp [G]
    repeat with_reducible refine Zo ?_
    refine cKo e3 ?_ ?_ <;> intro oa h5 e3
    ·try (simp [G] at h5; done)
     all_goals
      have q5 := h5; try simp at q5
      have i6 : wg < wD.length := by (simp at h5; omega)
      have m8 := ml wD (oa 7 _ rfl)
      have w4 := wr wg
      simp [G]
      repeat with_reducible refine Zo ?_
      exact ny1 (an w1 (an w2 (an w4 G))) e3
    ·try (simp [G] at h5; done)
     all_goals
      have q5 := h5; try simp at q5
      have e2 := ms e2 e3
      simp [G]
      repeat with_reducible refine Zo ?_
      refine dIo mixed ?_
      simp [G]
      repeat with_reducible refine Zo ?_
      refine evI rfl rfl rfl ?_
      simp [G]
      repeat with_reducible refine Zo ?_
      refine evI rfl rfl rfl ?_
      simp [G]
      repeat with_reducible refine Zo ?_
      refine cR (YD.rd (xY (nth (nth a1.ZZ U).ZO wE) (by (first | exact sg u0 | exact sg u1 | exact sg u2 | exact sg (ZW.Yz u0) | exact sg j2.2.2.2.2 | exact sg (Z2 j2.2.2.2.2) | exact sg (Z2 (ZG.XJ (Z2 (Zb.Y7 u1)))))))) ?_
      simp [G]
      repeat with_reducible refine Zo ?_
      refine evI rfl rfl rfl ?_
      simp [G]
      repeat with_reducible refine Zo ?_
      refine evI rfl rfl rfl ?_
      simp [G]
      repeat with_reducible refine Zo ?_
      refine evI rfl rfl rfl ?_
      simp [G]
      repeat with_reducible refine Zo ?_
      exact nx2 e2 (hI := by first | (refine ⟨?_, ?_, ?_, ?_, j2.2.2.2.2⟩ <;> ((try dsimp only); omega)) | (have pk : Sm 2285568 (nth (nth a1.ZZ U).ZO wE) := Z2 (ZG.XJ (Z2 (Zb.Y7 u1))); obtain ⟨q1, q2⟩ := MM (z := wg) j2.2.2.2.2 pk (by omega); refine ⟨?_, ?_, ?_, ?_, q1⟩ <;> ((try dsimp only); omega))) (hw := Y5 [((7, 0), some (75, 0))] [] rfl (by simp [w1, w2, G]))
  have q2 := h2; try simp at q2
  have c3 := sl 2285568 (nth a1.ZZ U).ZO (an u0 (an u1 (an u2 u3)))
  have e1 := ms e1 e2
  simp
  exact ny2 w1 e1 (hI := by (refine ⟨?_, ?_, ?_, ?_, j2.2.2.2.2⟩ <;> ((try dsimp only); omega)))
 have q1 := h1; try simp at q1
 have c4 := sl 2285568 a1.ZZ (an u0 (an u1 (an u2 u3)))
 have f := ms f e1
 simp
 exact rtO [.tmp 6] f
theorem UU (a0 : YR) : Sa 176 [a0.row] [(yo a0).row] := by
 have f := me (yo.eq_1 a0)
 refine so func176 ntmps176 ?_
 exact rt [.cell 2 63] f
theorem LQ (a0 : YR) : Sa 162 [a0.row] [rB (OI a0)] := by
 have f := me (OI.eq_1 a0)
 refine so func162 ntmps162 ?_
 refine cRs (Ze a0.Zv 1 999) ?_
 refine cGs (fun gg => (Ze a0.Key 1 99)) ?_
 refine cGs (fun gg => (Ze a0.Yo 1 99)) ?_
 refine cGs (fun gg => (Ze a0.yU 0 99)) ?_
 refine cGs (fun gg => (UU a0)) ?_
 refine cGs (fun gg => (X9 (yo a0))) ?_
 exact rt [.tmp 2] f
theorem Ov (a0 : YR) : Sd 163 [a0.row] [rL 1 iR (zP a0)] := by
 have f := me (zP.eq_1 a0)
 refine soD func163 ntmps163 ?_
 exact rtD [.tmp 2] f
theorem Tu (a0 : List YJ) (a1 : Int) : Sa 164 [rL 5 YJ.row a0, rI a1] [rI (V6 a0 a1)] := by
 have f := me (V6.eq_1 a0 a1)
 refine so func164 ntmps164 ?_
 refine cRs (Kq a0 a1) ?_
 refine cFf f ?_ ?_ <;> intro k1 h1 f
 ·have i1 : (Yp a0 a1).toNat < a0.length := by have := yO a0 a1; exact il
  simp [i1, ZC]
  refine rpS ?_
  exact rt [.tmp 4] f
 exact rt [.tmp 4] f
theorem Pj (a0 : List YJ) (a1 : YR) (u0 : Sm 2314240 a0) : Sa 109 [rL 5 YJ.row a0, a1.row] [rB (VL a0 a1)] := by
 have f := me (VL.eq_1 a0 a1)
 refine so func109 ntmps109 ?_
 refine dIs mixed ?_
 refine cRs (LQ a1) ?_
 refine cGs (fun gg => YD.rd (Ov a1)) ?_
 refine cGs (fun gg => (Xh a0 a1.Yo (zP a1) a1.Mark (sg u0) (by simp (maxDischargeDepth := 12) [Od, ZN (m := 2318336) (by decide) u0]; try omega))) ?_
 refine cGs (fun gg => (Tu a0 a1.Key)) ?_
 exact rt [.tmp 4] f
theorem M0 (a0 : ZW) (a1 : List ZE) (a2 : ZX) (u0 : Sm 2310144 a0) (u1 : Sm 2310144 a1) : Sa 61 [a0.row, rL 3 ZE.row a1, a2.row] [(Xw a0 a1 a2).1.row, rB (Xw a0 a1 a2).2] := by
 have f := me (Xw.eq_1 a0 a1 a2)
 refine so func61 ntmps61 ?_
 refine lp9 (jK.eq_2 a0 a1 a2) (fun J U wB wH wP wy vT sc se => Yd 54 [eX 3 (a0.row.map .d), eX 5 (a2.row.map .d), (6, .one (.bptr 6 0), [.box [.d (.int .i64 0), .d (.int .i64 0), .d (.int .i64 0), .d (.int .i64 0), .d (.int .i64 0), .d (.int .i64 0), .d (.int .i64 0)]]), (8, .one (.bptr 8 0), [.box [.d (.int .i64 wB), .d (.int .i64 wH), .d (.int .i64 wP), .d (.int .i64 wy), .d (.int .i64 vT), .d (.int .i64 sc), .d (.int .i64 se)]]), eI 9 J, eL 14 3 a1 ZE.row, eI 15 (a1.length : Int), eI 16 (U : Int)]) (fun n1 J U wB wH wP wy vT sc se => a1.length < n1 + U /\ U <= a1.length) (a1.length + 1) 0 0 0 0 0 0 0 0 0 (fun p1 J U wB wH wP wy vT sc se e1 j1 => ?_)
 refine cFf e1 ?_ ?_ <;> intro k2 h1 e1
 ·have i1 := ix h1
  have m2 := ml a1 (k2 14 _ rfl)
  have c1 := sl 2310144 a1 (an u0 u1)
  have w1 := wr U
  simp [i1, ZC]
  refine rpS ?_
  refine cRs (Wz (nth a1 U)) ?_
  refine cGs (fun gg => (Pj a0.JW (Y4 (nth a1 U)).1 (sg (ZW.Yz u0)))) ?_
  refine cF e1 ?_ ?_ <;> intro k3 h2 e1
  ·exact ny9 w1 e1
  exact ny9 w1 e1
 have c2 := sl 2310144 a1 (an u0 u1)
 have f := ms f e1
 refine cF f ?_ ?_ <;> intro k4 h3 f
 ·exact rt [.cell 6 122, .tmp 7] f
 exact rt [.cell 6 122, .tmp 7] f
theorem Gs (a0 : Int) (a1 : Int) : Sa 165 [rI a0, rI a1] [rI (Gl a0 a1)] := by
 have f := me (Gl.eq_1 a0 a1)
 refine so func165 ntmps165 ?_
 exact rt [.tmp 4] f
theorem jg (a0 : Int) (a1 : List ZV) (u0 : Sm 2326528 a1) : Sa 111 [rI a0, rL 5 ZV.row a1] [rI (zw a0 a1)] := by
 have f := me (zw.eq_1 a0 a1)
 refine so func111 ntmps111 ?_
 refine cF f ?_ ?_ <;> intro k1 h1 f
 ·exact rt [.tmp 4] f
 refine lp2 (yw.eq_2 a1) (fun J U => Yd 27 [eI 0 a0, (5, .one (.sref 5 0 0 J.length), [.arr false 1 (J.map iR)]), eL 11 5 a1 ZV.row, eI 12 (a1.length : Int), eI 13 (U : Int)]) (fun n1 J U => a1.length < n1 + U /\ U <= a1.length /\ J.length <= 0 + 1 * U) (a1.length + 1) ([] : List Int) 0 (fun p1 J U e1 j1 => ?_) (h0 := wkS [((5, 0), none)] [])
 refine cFf e1 ?_ ?_ <;> intro k3 h2 e1
 ·have i1 := ix h2
  have m2 := ml a1 (k3 11 _ rfl)
  have c1 := sl 2326528 a1 u0
  have w1 := wr U
  simp [i1, ZC]
  refine rpS ?_
  exact nx2 e1 (hw := Y5 [((5, 0), some (21, 0))] [] rfl (by simp [w1]))
 have c2 := sl 2326528 a1 u0
 have f := ms f e1
 refine cRs (QL a0 J (by first | (simp (maxDischargeDepth := 12) [Ye]; omega) | (simp (maxDischargeDepth := 12) [ZN (m := 68719476736) (by decide) u0]; done))) ?_
 refine cRs (Gs 1 (QZ a0 J)) ?_
 exact rt [.tmp 4] f
theorem Wg (a0 : Int) (a1 : ZV) : Sd 112 [rI a0, a1.row] [(Kd a0 a1).row] := by
 have f := me (Kd.eq_1 a0 a1)
 refine soD func112 ntmps112 ?_
 refine dIs mixed ?_
 refine cDs [false] (jB a1) ?_
 exact rtD [.cell 4 116] f
theorem Ph (a0 : ZW) (a1 : Zb) (a2 : List ZE) (a3 : ZX) (u0 : Sm 2314240 a0) (u1 : Sm 2314240 a1) (u2 : Sm 2314240 a2) : Sa 62 [a0.row, a1.row, rL 3 ZE.row a2, a3.row] [rI (Xb a0 a1 a2 a3)] := by
 have f := me (Xb.eq_1 a0 a1 a2 a3)
 refine so func62 ntmps62 ?_
 refine cRs (Kq a0.JW a3.Key) ?_
 refine cFf f ?_ ?_ <;> intro k1 h1 f
 ·have i1 : (Yp a0.JW a3.Key).toNat < a0.JW.length := by have := yO a0.JW a3.Key; exact il
  simp [i1, ZC]
  refine rpS ?_
  refine lp2 (K3.eq_2 a0 a1 a2 a3) (fun J U => Yd 92 [eL 2 3 a2 ZE.row, eX 4 (a0.row.map .d), eX 7 (a3.row.map .d), eI 9 J, eL 32 1 a1.YI (slR 5 ZV.row), eI 33 (a1.YI.length : Int), eI 34 (U : Int)]) (fun n1 J U => a1.YI.length < n1 + U /\ U <= a1.YI.length) (a1.YI.length + 1) (nth a0.JW (Yp a0.JW a3.Key).toNat).Hq 0 (fun p1 J U e1 j1 => ?_)
  refine cFf e1 ?_ ?_ <;> intro k3 h2 e1
  ·have i2 := ix h2
   have m2 := ml a1.YI (k3 32 _ rfl)
   have c1 := sl 2314240 a1.YI (an u0 (an u1 u2))
   have w1 := wr U
   simp [i2, ZC]
   refine rpS ?_
   refine dIs mixed ?_
   refine cGs (fun gg => (Jh (nth a1.YI U))) ?_
   refine cGs (fun gg => (jg a3.Method (nth a1.YI U) (sg (Z2 (Zb.TK u1))))) ?_
   refine cF e1 ?_ ?_ <;> intro k5 h3 e1
   ·exact ny2 w1 e1
   refine lp2 (jh.eq_2 a0 a1 a2 U) (fun wD wE => Yd 92 [eL 2 3 a2 ZE.row, eX 4 (a0.row.map .d), eX 7 (a3.row.map .d), eI 9 J, eL 12 5 (nth a1.YI U) ZV.row, eB 13 wD, eL 32 1 a1.YI (slR 5 ZV.row), eI 33 (a1.YI.length : Int), eI 34 (U : Int), eL 55 5 (nth a1.YI U) ZV.row, eI 56 ((nth a1.YI U).length : Int), eI 57 (wE : Int)]) (fun n2 wD wE => (nth a1.YI U).length < n2 + wE /\ wE <= (nth a1.YI U).length) ((nth a1.YI U).length + 1) true 0 (fun p2 wD wE e2 j2 => ?_)
   refine cFf e2 ?_ ?_ <;> intro k7 h4 e2
   ·have i3 := ix h4
    have m4 := ml (nth a1.YI U) (k7 12 _ rfl)
    have c2 := sl 2314240 (nth a1.YI U) (an u0 (an u1 u2))
    have w2 := wr wE
    simp [i3, ZC]
    refine rpS ?_
    refine dIs mixed ?_
    refine cGs (fun gg => (kD a0.Z6 (nth (nth a1.YI U) wE))) ?_
    refine cGs (fun gg => YD.rd (Wg (Xa a0.Z6 (nth (nth a1.YI U) wE)) (nth (nth a1.YI U) wE))) ?_
    refine cGs (fun gg => (jm a2 (Kd (Xa a0.Z6 (nth (nth a1.YI U) wE)) (nth (nth a1.YI U) wE)))) ?_
    exact ny2 (an w1 w2) e2
   have c3 := sl 2314240 (nth a1.YI U) (an u0 (an u1 u2))
   have e1 := ms e1 e2
   refine cRs (j8 a0.Z6 (nth a1.YI U) a0.xh (sg (ZW.yC u0)) (sg (Z2 (Zb.TK u1)))) ?_
   refine cF e1 ?_ ?_ <;> intro k9 h5 e1
   ·exact ny2 w1 e1
   exact ny2 w1 e1
  have c4 := sl 2314240 a1.YI (an u0 (an u1 u2))
  have f := ms f e1
  exact rt [.tmp 8] f
 refine lp2 (K9.eq_2 a0 a1 a2 a3) (fun wg wv => Yd 92 [eL 2 3 a2 ZE.row, eX 4 (a0.row.map .d), eX 7 (a3.row.map .d), eI 9 wg, eL 32 1 a1.YI (slR 5 ZV.row), eI 33 (a1.YI.length : Int), eI 34 (wv : Int)]) (fun n3 wg wv => a1.YI.length < n3 + wv /\ wv <= a1.YI.length) (a1.YI.length + 1) 0 0 (fun p3 wg wv e3 j3 => ?_)
 refine cFf e3 ?_ ?_ <;> intro oa h6 e3
 ·have i4 := ix h6
  have m6 := ml a1.YI (oa 32 _ rfl)
  have c5 := sl 2314240 a1.YI (an u0 (an u1 u2))
  have w3 := wr wv
  simp [i4, ZC]
  refine rpS ?_
  refine dIs mixed ?_
  refine cGs (fun gg => (Jh (nth a1.YI wv))) ?_
  refine cGs (fun gg => (jg a3.Method (nth a1.YI wv) (sg (Z2 (Zb.TK u1))))) ?_
  refine cF e3 ?_ ?_ <;> intro l8 h7 e3
  ·exact ny2 w3 e3
  refine lp2 (ji.eq_2 a0 a1 a2 wv) (fun sf vt => Yd 92 [eL 2 3 a2 ZE.row, eX 4 (a0.row.map .d), eX 7 (a3.row.map .d), eI 9 wg, eL 12 5 (nth a1.YI wv) ZV.row, eB 13 sf, eL 32 1 a1.YI (slR 5 ZV.row), eI 33 (a1.YI.length : Int), eI 34 (wv : Int), eL 55 5 (nth a1.YI wv) ZV.row, eI 56 ((nth a1.YI wv).length : Int), eI 57 (vt : Int)]) (fun n4 sf vt => (nth a1.YI wv).length < n4 + vt /\ vt <= (nth a1.YI wv).length) ((nth a1.YI wv).length + 1) true 0 (fun p4 sf vt e4 j4 => ?_)
  refine cFf e4 ?_ ?_ <;> intro l9 h8 e4
  ·have i5 := ix h8
   have m8 := ml (nth a1.YI wv) (l9 12 _ rfl)
   have c6 := sl 2314240 (nth a1.YI wv) (an u0 (an u1 u2))
   have w4 := wr vt
   simp [i5, ZC]
   refine rpS ?_
   refine dIs mixed ?_
   refine cGs (fun gg => (kD a0.Z6 (nth (nth a1.YI wv) vt))) ?_
   refine cGs (fun gg => YD.rd (Wg (Xa a0.Z6 (nth (nth a1.YI wv) vt)) (nth (nth a1.YI wv) vt))) ?_
   refine cGs (fun gg => (jm a2 (Kd (Xa a0.Z6 (nth (nth a1.YI wv) vt)) (nth (nth a1.YI wv) vt)))) ?_
   exact ny2 (an w3 w4) e4
  have c7 := sl 2314240 (nth a1.YI wv) (an u0 (an u1 u2))
  have e3 := ms e3 e4
  refine cRs (j8 a0.Z6 (nth a1.YI wv) a0.xh (sg (ZW.yC u0)) (sg (Z2 (Zb.TK u1)))) ?_
  refine cF e3 ?_ ?_ <;> intro fN h9 e3
  ·exact ny2 w3 e3
  exact ny2 w3 e3
 have c8 := sl 2314240 a1.YI (an u0 (an u1 u2))
 have f := ms f e3
 exact rt [.tmp 8] f
theorem SC (a0 : List ZE) (a1 : YR) (u0 : Sm 2330624 a0) : Sd 63 [rL 3 ZE.row a0, a1.row] [rL 5 Zn.row (JC a0 a1)] := by
 have f := me (JC.eq_1 a0 a1)
 refine soD func63 ntmps63 ?_
 refine lp2 (Ju.eq_2 a0 a1) (fun J U => Yd 42 [eX 3 (a1.row.map .d), (5, .one (.sref 5 0 0 J.length), [.arr false 5 (J.map Zn.row)]), eL 10 3 a0 ZE.row, eI 11 (a0.length : Int), eI 12 (U : Int)]) (fun n1 J U => a0.length < n1 + U /\ U <= a0.length /\ J.length <= 0 + 1 * U) (a0.length + 1) ([] : List Zn) 0 (fun p1 J U e1 j1 => ?_) (h0 := wkS [((5, 0), none)] [])
 refine cFf e1 ?_ ?_ <;> intro k2 h1 e1
 ·have i1 := ix h1
  have m2 := ml a0 (k2 10 _ rfl)
  have c1 := sl 2330624 a0 u0
  have w1 := wr U
  simp [i1, ZC]
  refine rpS ?_
  refine cRs (kX (nth a0 U)) ?_
  refine cF e1 ?_ ?_ <;> intro k3 h2 e1
  ·exact nx2 e1 (hw := Y5 [((5, 0), some (39, 0))] [] rfl (by simp [w1]))
  exact ny2 w1 e1
 have c2 := sl 2330624 a0 u0
 have f := ms f e1
 exact rtD [.tmp 4] f
theorem Xx (a0 : Int) (a1 : Int) (a2 : List ZL) (u0 : Sm 2326528 a2) : P8 prog 172 [rI a0, rI a1] [.sl 2 (a2.map ZL.row)] [.sl 2 ((ZU a0 a1 a2).map ZL.row)] := by
 refine Hp func172 rfl (by kernel_rfl) [false] (by simp) (fun v => ?_)
 simp [ntmps172]
 refine cR (jw a0 a1) ?_
 simp
 refine cC (Jk a0 a1).2 (fun k1 h1 => ?_) (fun k1 h1 => ?_)
 ·have q1 := h1; try simp at q1
  have c1 : a2.length <= 2326528 := Yf (xs u0)
  simp
  refine rpS ?_
  refine DE (tI := [(.sref 17 0 0 (a2 ++ ([(Jk a0 a1).1] : List ZL)).length)]) rfl ?_ (.inr rfl)
  have f1 := ZU.eq_1 a0 a1 a2
  simp only [h1, zS, Qi] at f1
  simp [f1]
  all_goals ((rintro r (⟨a, _, rfl⟩ | rfl) x hx <;> simp at hx <;> rcases hx with rfl | rfl <;> rfl))
 ·have q1 := h1; try simp at q1
  simp
  refine DE (tI := [(.sref 2 1 0 a2.length)]) rfl ?_ (.inr rfl)
  have f2 := ZU.eq_1 a0 a1 a2
  simp only [h1, zS, Qi] at f2
  simp [f2]
  all_goals ((rintro r (⟨a, _, rfl⟩ | rfl) x hx <;> simp at hx <;> rcases hx with rfl | rfl <;> rfl))
theorem Ns (a0 : List Zn) (a1 : Int) : Sa 199 [rL 5 Zn.row a0, rI a1] [rI (xU a0 a1).1, rI (xU a0 a1).2.1, rI (xU a0 a1).2.2] := by
 have f := me (xU.eq_1 a0 a1)
 refine so func199 ntmps199 ?_
 refine lp4 (kN.eq_2 a0 a1) (fun J U wB wH => Yd 49 [eI 1 a1, eI 7 J, eI 8 U, eI 9 wB, eL 12 5 a0 Zn.row, eI 13 (a0.length : Int), eI 14 (wH : Int)]) (fun n1 J U wB wH => a0.length < n1 + wH /\ wH <= a0.length) (a0.length + 1) (-1) (-1) (-1) 0 (fun p1 J U wB wH e1 j1 => ?_)
 refine cFf e1 ?_ ?_ <;> intro k2 h1 e1
 ·have i1 := ix h1
  have m2 := ml a0 (k2 12 _ rfl)
  have w1 := wr wH
  simp [i1, ZC]
  refine rpS ?_
  refine cF e1 ?_ ?_ <;> intro k3 h2 e1
  ·exact ny4 w1 e1
  refine cF e1 ?_ ?_ <;> intro k4 h3 e1
  ·exact ny4 w1 e1
  refine cF e1 ?_ ?_ <;> intro k5 h4 e1
  ·exact ny4 w1 e1
  exact ny4 w1 e1
 have f := ms f e1
 exact rt [.tmp 4, .tmp 5, .tmp 6] f
theorem xl (a0 : List Zn) (a1 : Int) : Sa 174 [rL 5 Zn.row a0, rI a1] [rI (XS a0 a1)] := by
 have f := me (XS.eq_1 a0 a1)
 refine so func174 ntmps174 ?_
 refine cRs (Ns a0 a1) ?_
 refine cF f ?_ ?_ <;> intro k1 h1 f
 ·exact rt [.tmp 4] f
 exact rt [.tmp 4] f
theorem kq {a b : Prop} (h : b) (k : a := by (intros; first | omega | with_unfolding_all (first | (first | omega | (have z := Yf u0; omega) | (have z := Yf u0; simp at *; omega))) | ((try simp only [Yw, show ∀ x, IntKind.i64.wrap x = W x from fun _ => rfl] at *); omega))) : a /\ b := ⟨k, h⟩
theorem Qn {a b : Prop} (h : b) (k : a := by (intros; first | omega | with_unfolding_all (first | (first | omega | (have z := Yf u0; omega) | (have z := Yf u0; simp at *; omega))) | (simp_all; done) | (simp_all; omega) | grind | ((try simp only [Yw, show ∀ x, IntKind.i64.wrap x = W x from fun _ => rfl] at *); omega))) : a /\ b := ⟨k, h⟩
theorem Jg (a0 : List ZL) (u0 : Sm 2330624 a0) : Sd 170 [rL 2 ZL.row a0] [rL 2 ZL.row (XB a0)] := by
 have f := me (XB.eq_1 a0)
 refine soD func170 ntmps170 ?_
 refine lp2 (zf.eq_2 a0) (fun J U => Yd 85 [(3, .one (.sref 3 0 0 J.length), [.arr false 2 (J.map ZL.row)]), eL 10 2 a0 ZL.row, eI 11 (a0.length : Int), eI 12 (U : Int)]) (fun n1 J U => a0.length < n1 + U /\ U <= a0.length /\ J.length <= U) (a0.length + 1) ([] : List ZL) 0 (fun p1 J U e1 j1 => ?_) (h0 := wkS [((3, 0), none)] [])
 try dsimp only at j1
 refine cFf e1 ?_ ?_ <;> intro k2 h1 e1
 ·have i1 := ix h1
  have m2 := ml a0 (k2 10 _ rfl)
  have c1 := sl 2330624 a0 u0
  have w1 := wr U
  simp [i1, ZC]
  repeat with_reducible refine kq ?_
  refine cRs (X9 (nth a0 U)) ?_
  refine cF e1 ?_ ?_ <;> intro k3 h2 e1
  ·exact ny2 w1 e1 (hI := by first | omega | (simp at *; omega))
  refine lp4 (ze.eq_2 J) (fun wD wE ue u7 => Yd 85 [(3, .any, [.arr false 2 (J.map ZL.row)]), (5, .one (.bptr 5 0), [.box [.d (.int .i64 ue), .d (.int .i64 u7)]]), (6, .one (.sref 6 0 0 wD.length), [.arr false 2 (wD.map ZL.row)]), eL 10 2 a0 ZL.row, eI 11 (a0.length : Int), eI 12 (U : Int), (19, .one (.sref 3 0 0 J.length), []), eI 20 (J.length : Int), eI 21 (wE : Int)]) (fun n2 wD wE ue u7 => J.length < n2 + wE /\ wE <= J.length /\ wD.length <= wE) (J.length + 1) ([] : List ZL) 0 (nth a0 U).Ys (nth a0 U).To (fun p2 wD wE ue u7 e2 j2 => ?_) (h0 := wkS [((6, 0), none)] [])
  try dsimp only at j2
  refine cFf e2 ?_ ?_ <;> intro k5 h3 e2
  ·have i2 := ix h3
   have m4 := ml J (k5 19 _ rfl)
   have w2 := wr wE
   simp [i2, ZC]
   repeat with_reducible refine kq ?_
   refine cFf e2 ?_ ?_ <;> intro k6 h4 e2
   ·simp
    repeat with_reducible refine kq ?_
    exact nx4 e2 (hI := by first | omega | (simp at *; omega)) (hw := Y5 [((6, 0), some (42, 0))] [] rfl (by simp [w1, w2]))
   exact ny4 (an w1 w2) e2 (hI := by first | omega | (simp at *; omega))
  have e1 := ms e1 e2
  refine lp1 (VJ.eq_2 wD ue) (fun wg => Yd 85 [(5, .one (.bptr 5 0), [.box [.d (.int .i64 ue), .d (.int .i64 u7)]]), (6, .one (.sref 6 0 0 wD.length), [.arr false 2 (wD.map ZL.row)]), eI 9 (wg : Int), eL 10 2 a0 ZL.row, eI 11 (a0.length : Int), eI 12 (U : Int)]) (fun n3 wg => wD.length < n3 + wg /\ wg <= wD.length) (wD.length + 1) 0 (fun p3 wg e3 j3 => ?_)
  try dsimp only at j3
  refine dIs mixed ?_
  refine gIo ?_ ?_ <;> intro G
  ·have vo := G
   have g1 := G; try simp at g1
   have i3 := ik wg wD
   simp [i3, ZC, G]
   repeat with_reducible refine Qn ?_
   refine cKo e3 ?_ ?_ <;> intro k9 h5 e3
   ·try (simp [G] at h5; done)
    all_goals
     have i4 : wg < wD.length := by (simp at h5; omega)
     have m6 := ml wD (k9 6 _ rfl)
     have w3 := wr wg
     simp [G]
     repeat with_reducible refine Qn ?_
     exact ny1 (an w1 (an w3 G)) e3
   ·try (simp [G] at h5; done)
    all_goals
     have e1 := ms e1 e3
     simp [G]
     repeat with_reducible refine Qn ?_
     refine dIo mixed ?_
     simp [G]
     repeat with_reducible refine Qn ?_
     exact nx2 e1 (hI := by first | omega | (simp at *; omega)) (hw := Y5 [((3, 0), some (82, 0))] [] rfl (by simp [w1, G]))
  ·have vo := G
   simp [G]
   repeat with_reducible refine Qn ?_
   refine cKo e3 ?_ ?_ <;> intro oa h6 e3
   ·try (simp [G] at h6; done)
    all_goals
     have i6 : wg < wD.length := by (simp at h6; omega)
     have m8 := ml wD (oa 6 _ rfl)
     have w4 := wr wg
     simp [G]
     repeat with_reducible refine Qn ?_
     exact ny1 (an w1 (an w4 G)) e3
   ·try (simp [G] at h6; done)
    all_goals
     have e1 := ms e1 e3
     simp [G]
     repeat with_reducible refine Qn ?_
     refine dIo mixed ?_
     simp [G]
     repeat with_reducible refine Qn ?_
     exact nx2 e1 (hI := by first | omega | (simp at *; omega)) (hw := Y5 [((3, 0), some (82, 0))] [] rfl (by simp [w1, G]))
 have c2 := sl 2330624 a0 u0
 have f := ms f e1
 refine E5 (rv := [.tmp 2]) rfl ?_
 simp [f.h]
 all_goals ((rintro r (hr | rfl | hr) x hx <;> (first | (simp at hx; rcases hx with rfl | rfl <;> rfl) | ((first | (replace hr := List.mem_of_mem_take hr) | (replace hr := List.mem_of_mem_drop hr)); simp at hr; obtain ⟨a, _, rfl⟩ := hr; simp at hx; rcases hx with rfl | rfl <;> rfl))))
theorem Oi (a0 : YR) (a1 : List Zn) (u0 : Sm 2322432 a1) : Sd 117 [a0.row, rL 5 Zn.row a1] [rL 2 ZL.row (yr a0 a1)] := by
 have f := me (yr.eq_1 a0 a1)
 refine soD func117 ntmps117 ?_
 refine DT (t := 5) (cells := [.nil 2]) rfl rfl rfl rfl (by simp) (by simp) ?_
 simp
 refine cF f ?_ ?_ <;> intro k1 h1 f
 ·refine P6 (tf := 11) (u := 5) (row := [.sl 2 (([] : List ZL).map ZL.row)]) (wF := [.sl 2 ((ZU 0 (W (a0.Ys - 1)) ([] : List ZL)).map ZL.row)]) (cells := [.nil 2]) [false] rfl rfl rfl rfl (Xx 0 (W (a0.Ys - 1)) ([] : List ZL) (by (first | (exact ⟨Nat.zero_le _, fun _ _ => trivial⟩) | (refine ZB (n := 2322432) ?_; exact ⟨Nat.zero_le _, fun _ _ => trivial⟩) | (refine ZB (n := 2322432) (ZB (n := 2322432 - 1) ?_); exact ⟨Nat.zero_le _, fun _ _ => trivial⟩) | (refine ZN (n := 3) (by decide) (ZB (ZB (ZB (n := 0) ?_))); exact ⟨Nat.zero_le _, fun _ _ => trivial⟩) | (refine ZN (n := 2) (by decide) (ZB (ZB (n := 0) ?_)); exact ⟨Nat.zero_le _, fun _ _ => trivial⟩) | (refine ZN (n := 1) (by decide) (ZB (n := 0) ?_); exact ⟨Nat.zero_le _, fun _ _ => trivial⟩)))) (by simp) (by simp) (by simp) (by simp) (by simp) (by simp) (by simp) (by simp) (by simp) (by simp) (by simp [Yc]) (by simp) (by simp) ?_
  simp
  refine cF f ?_ ?_ <;> intro k2 h2 f
  ·refine P6 (tf := 19) (u := 5) (row := [.sl 2 ((ZU 0 (W (a0.Ys - 1)) ([] : List ZL)).map ZL.row)]) (wF := [.sl 2 ((ZU (W (a0.To + 1)) 10000 (ZU 0 (W (a0.Ys - 1)) ([] : List ZL))).map ZL.row)]) (cells := [.sref 5 1 0 (ZU 0 (W (a0.Ys - 1)) ([] : List ZL)).length]) [false] rfl rfl rfl rfl (Xx (W (a0.To + 1)) 10000 (ZU 0 (W (a0.Ys - 1)) ([] : List ZL)) (by (first | (exact ⟨Nat.zero_le _, fun _ _ => trivial⟩) | (refine ZB (n := 2322432) ?_; exact ⟨Nat.zero_le _, fun _ _ => trivial⟩) | (refine ZB (n := 2322432) (ZB (n := 2322432 - 1) ?_); exact ⟨Nat.zero_le _, fun _ _ => trivial⟩) | (refine ZN (n := 3) (by decide) (ZB (ZB (ZB (n := 0) ?_))); exact ⟨Nat.zero_le _, fun _ _ => trivial⟩) | (refine ZN (n := 2) (by decide) (ZB (ZB (n := 0) ?_)); exact ⟨Nat.zero_le _, fun _ _ => trivial⟩) | (refine ZN (n := 1) (by decide) (ZB (n := 0) ?_); exact ⟨Nat.zero_le _, fun _ _ => trivial⟩)))) (by simp) (by simp) (by simp) (by simp) (by simp) (by simp) (by simp) (by simp) (by simp) (by simp) (by simp [Yc]) (by simp) (by simp) ?_
   simp
   refine cRs (xl a1 a0.Zv) ?_
   refine P6 (tf := 24) (u := 5) (row := [.sl 2 ((ZU (W (a0.To + 1)) 10000 (ZU 0 (W (a0.Ys - 1)) ([] : List ZL))).map ZL.row)]) (wF := [.sl 2 ((ZU (XS a1 a0.Zv) 10000 (ZU (W (a0.To + 1)) 10000 (ZU 0 (W (a0.Ys - 1)) ([] : List ZL)))).map ZL.row)]) (cells := [.sref 5 1 0 (ZU (W (a0.To + 1)) 10000 (ZU 0 (W (a0.Ys - 1)) ([] : List ZL))).length]) [false] rfl rfl rfl rfl (Xx (XS a1 a0.Zv) 10000 (ZU (W (a0.To + 1)) 10000 (ZU 0 (W (a0.Ys - 1)) ([] : List ZL))) (by (first | (exact ⟨Nat.zero_le _, fun _ _ => trivial⟩) | (refine ZB (n := 2322432) ?_; exact ⟨Nat.zero_le _, fun _ _ => trivial⟩) | (refine ZB (n := 2322432) (ZB (n := 2322432 - 1) ?_); exact ⟨Nat.zero_le _, fun _ _ => trivial⟩) | (refine ZN (n := 3) (by decide) (ZB (ZB (ZB (n := 0) ?_))); exact ⟨Nat.zero_le _, fun _ _ => trivial⟩) | (refine ZN (n := 2) (by decide) (ZB (ZB (n := 0) ?_)); exact ⟨Nat.zero_le _, fun _ _ => trivial⟩) | (refine ZN (n := 1) (by decide) (ZB (n := 0) ?_); exact ⟨Nat.zero_le _, fun _ _ => trivial⟩)))) (by simp) (by simp) (by simp) (by simp) (by simp) (by simp) (by simp) (by simp) (by simp) (by simp) (by simp [Yc]) (by simp) (by simp) ?_
   simp
   refine cDs [false] (Jg (ZU (XS a1 a0.Zv) 10000 (ZU (W (a0.To + 1)) 10000 (ZU 0 (W (a0.Ys - 1)) ([] : List ZL)))) (by (first | (exact ⟨Nat.zero_le _, fun _ _ => trivial⟩) | (refine ZB (n := 2322432) ?_; exact ⟨Nat.zero_le _, fun _ _ => trivial⟩) | (refine ZB (n := 2322432) (ZB (n := 2322432 - 1) ?_); exact ⟨Nat.zero_le _, fun _ _ => trivial⟩) | (refine ZN (n := 3) (by decide) (ZB (ZB (ZB (n := 0) ?_))); exact ⟨Nat.zero_le _, fun _ _ => trivial⟩) | (refine ZN (n := 2) (by decide) (ZB (ZB (n := 0) ?_)); exact ⟨Nat.zero_le _, fun _ _ => trivial⟩) | (refine ZN (n := 1) (by decide) (ZB (n := 0) ?_); exact ⟨Nat.zero_le _, fun _ _ => trivial⟩)))) ?_
   exact rtD [.tmp 4] f
  refine cRs (xl a1 a0.Zv) ?_
  refine P6 (tf := 24) (u := 5) (row := [.sl 2 ((ZU 0 (W (a0.Ys - 1)) ([] : List ZL)).map ZL.row)]) (wF := [.sl 2 ((ZU (XS a1 a0.Zv) 10000 (ZU 0 (W (a0.Ys - 1)) ([] : List ZL))).map ZL.row)]) (cells := [.sref 5 1 0 (ZU 0 (W (a0.Ys - 1)) ([] : List ZL)).length]) [false] rfl rfl rfl rfl (Xx (XS a1 a0.Zv) 10000 (ZU 0 (W (a0.Ys - 1)) ([] : List ZL)) (by (first | (exact ⟨Nat.zero_le _, fun _ _ => trivial⟩) | (refine ZB (n := 2322432) ?_; exact ⟨Nat.zero_le _, fun _ _ => trivial⟩) | (refine ZB (n := 2322432) (ZB (n := 2322432 - 1) ?_); exact ⟨Nat.zero_le _, fun _ _ => trivial⟩) | (refine ZN (n := 3) (by decide) (ZB (ZB (ZB (n := 0) ?_))); exact ⟨Nat.zero_le _, fun _ _ => trivial⟩) | (refine ZN (n := 2) (by decide) (ZB (ZB (n := 0) ?_)); exact ⟨Nat.zero_le _, fun _ _ => trivial⟩) | (refine ZN (n := 1) (by decide) (ZB (n := 0) ?_); exact ⟨Nat.zero_le _, fun _ _ => trivial⟩)))) (by simp) (by simp) (by simp) (by simp) (by simp) (by simp) (by simp) (by simp) (by simp) (by simp) (by simp [Yc]) (by simp) (by simp) ?_
  simp
  refine cDs [false] (Jg (ZU (XS a1 a0.Zv) 10000 (ZU 0 (W (a0.Ys - 1)) ([] : List ZL))) (by (first | (exact ⟨Nat.zero_le _, fun _ _ => trivial⟩) | (refine ZB (n := 2322432) ?_; exact ⟨Nat.zero_le _, fun _ _ => trivial⟩) | (refine ZB (n := 2322432) (ZB (n := 2322432 - 1) ?_); exact ⟨Nat.zero_le _, fun _ _ => trivial⟩) | (refine ZN (n := 3) (by decide) (ZB (ZB (ZB (n := 0) ?_))); exact ⟨Nat.zero_le _, fun _ _ => trivial⟩) | (refine ZN (n := 2) (by decide) (ZB (ZB (n := 0) ?_)); exact ⟨Nat.zero_le _, fun _ _ => trivial⟩) | (refine ZN (n := 1) (by decide) (ZB (n := 0) ?_); exact ⟨Nat.zero_le _, fun _ _ => trivial⟩)))) ?_
  exact rtD [.tmp 4] f
 refine cF f ?_ ?_ <;> intro k3 h3 f
 ·refine P6 (tf := 19) (u := 5) (row := [.sl 2 (([] : List ZL).map ZL.row)]) (wF := [.sl 2 ((ZU (W (a0.To + 1)) 10000 ([] : List ZL)).map ZL.row)]) (cells := [.nil 2]) [false] rfl rfl rfl rfl (Xx (W (a0.To + 1)) 10000 ([] : List ZL) (by (first | (exact ⟨Nat.zero_le _, fun _ _ => trivial⟩) | (refine ZB (n := 2322432) ?_; exact ⟨Nat.zero_le _, fun _ _ => trivial⟩) | (refine ZB (n := 2322432) (ZB (n := 2322432 - 1) ?_); exact ⟨Nat.zero_le _, fun _ _ => trivial⟩) | (refine ZN (n := 3) (by decide) (ZB (ZB (ZB (n := 0) ?_))); exact ⟨Nat.zero_le _, fun _ _ => trivial⟩) | (refine ZN (n := 2) (by decide) (ZB (ZB (n := 0) ?_)); exact ⟨Nat.zero_le _, fun _ _ => trivial⟩) | (refine ZN (n := 1) (by decide) (ZB (n := 0) ?_); exact ⟨Nat.zero_le _, fun _ _ => trivial⟩)))) (by simp) (by simp) (by simp) (by simp) (by simp) (by simp) (by simp) (by simp) (by simp) (by simp) (by simp [Yc]) (by simp) (by simp) ?_
  simp
  refine cRs (xl a1 a0.Zv) ?_
  refine P6 (tf := 24) (u := 5) (row := [.sl 2 ((ZU (W (a0.To + 1)) 10000 ([] : List ZL)).map ZL.row)]) (wF := [.sl 2 ((ZU (XS a1 a0.Zv) 10000 (ZU (W (a0.To + 1)) 10000 ([] : List ZL))).map ZL.row)]) (cells := [.sref 5 1 0 (ZU (W (a0.To + 1)) 10000 ([] : List ZL)).length]) [false] rfl rfl rfl rfl (Xx (XS a1 a0.Zv) 10000 (ZU (W (a0.To + 1)) 10000 ([] : List ZL)) (by (first | (exact ⟨Nat.zero_le _, fun _ _ => trivial⟩) | (refine ZB (n := 2322432) ?_; exact ⟨Nat.zero_le _, fun _ _ => trivial⟩) | (refine ZB (n := 2322432) (ZB (n := 2322432 - 1) ?_); exact ⟨Nat.zero_le _, fun _ _ => trivial⟩) | (refine ZN (n := 3) (by decide) (ZB (ZB (ZB (n := 0) ?_))); exact ⟨Nat.zero_le _, fun _ _ => trivial⟩) | (refine ZN (n := 2) (by decide) (ZB (ZB (n := 0) ?_)); exact ⟨Nat.zero_le _, fun _ _ => trivial⟩) | (refine ZN (n := 1) (by decide) (ZB (n := 0) ?_); exact ⟨Nat.zero_le _, fun _ _ => trivial⟩)))) (by simp) (by simp) (by simp) (by simp) (by simp) (by simp) (by simp) (by simp) (by simp) (by simp) (by simp [Yc]) (by simp) (by simp) ?_
  simp
  refine cDs [false] (Jg (ZU (XS a1 a0.Zv) 10000 (ZU (W (a0.To + 1)) 10000 ([] : List ZL))) (by (first | (exact ⟨Nat.zero_le _, fun _ _ => trivial⟩) | (refine ZB (n := 2322432) ?_; exact ⟨Nat.zero_le _, fun _ _ => trivial⟩) | (refine ZB (n := 2322432) (ZB (n := 2322432 - 1) ?_); exact ⟨Nat.zero_le _, fun _ _ => trivial⟩) | (refine ZN (n := 3) (by decide) (ZB (ZB (ZB (n := 0) ?_))); exact ⟨Nat.zero_le _, fun _ _ => trivial⟩) | (refine ZN (n := 2) (by decide) (ZB (ZB (n := 0) ?_)); exact ⟨Nat.zero_le _, fun _ _ => trivial⟩) | (refine ZN (n := 1) (by decide) (ZB (n := 0) ?_); exact ⟨Nat.zero_le _, fun _ _ => trivial⟩)))) ?_
  exact rtD [.tmp 4] f
 refine cRs (xl a1 a0.Zv) ?_
 refine P6 (tf := 24) (u := 5) (row := [.sl 2 (([] : List ZL).map ZL.row)]) (wF := [.sl 2 ((ZU (XS a1 a0.Zv) 10000 ([] : List ZL)).map ZL.row)]) (cells := [.nil 2]) [false] rfl rfl rfl rfl (Xx (XS a1 a0.Zv) 10000 ([] : List ZL) (by (first | (exact ⟨Nat.zero_le _, fun _ _ => trivial⟩) | (refine ZB (n := 2322432) ?_; exact ⟨Nat.zero_le _, fun _ _ => trivial⟩) | (refine ZB (n := 2322432) (ZB (n := 2322432 - 1) ?_); exact ⟨Nat.zero_le _, fun _ _ => trivial⟩) | (refine ZN (n := 3) (by decide) (ZB (ZB (ZB (n := 0) ?_))); exact ⟨Nat.zero_le _, fun _ _ => trivial⟩) | (refine ZN (n := 2) (by decide) (ZB (ZB (n := 0) ?_)); exact ⟨Nat.zero_le _, fun _ _ => trivial⟩) | (refine ZN (n := 1) (by decide) (ZB (n := 0) ?_); exact ⟨Nat.zero_le _, fun _ _ => trivial⟩)))) (by simp) (by simp) (by simp) (by simp) (by simp) (by simp) (by simp) (by simp) (by simp) (by simp) (by simp [Yc]) (by simp) (by simp) ?_
 simp
 refine cDs [false] (Jg (ZU (XS a1 a0.Zv) 10000 ([] : List ZL)) (by (first | (exact ⟨Nat.zero_le _, fun _ _ => trivial⟩) | (refine ZB (n := 2322432) ?_; exact ⟨Nat.zero_le _, fun _ _ => trivial⟩) | (refine ZB (n := 2322432) (ZB (n := 2322432 - 1) ?_); exact ⟨Nat.zero_le _, fun _ _ => trivial⟩) | (refine ZN (n := 3) (by decide) (ZB (ZB (ZB (n := 0) ?_))); exact ⟨Nat.zero_le _, fun _ _ => trivial⟩) | (refine ZN (n := 2) (by decide) (ZB (ZB (n := 0) ?_)); exact ⟨Nat.zero_le _, fun _ _ => trivial⟩) | (refine ZN (n := 1) (by decide) (ZB (n := 0) ?_); exact ⟨Nat.zero_le _, fun _ _ => trivial⟩)))) ?_
 exact rtD [.tmp 4] f
theorem Oz (a0 : ZL) (a1 : ZL) : Sa 171 [a0.row, a1.row] [rB (Un a0 a1)] := by
 have f := me (Un.eq_1 a0 a1)
 refine so func171 ntmps171 ?_
 refine cRs (X9 a0) ?_
 refine cGs (fun gg => (X9 a1)) ?_
 exact rt [.tmp 4] f
theorem xX (a0 : List ZL) (a1 : ZL) (u0 : Sm 2326528 a0) : Sa 116 [rL 2 ZL.row a0, a1.row] [rB (yV a0 a1)] := by
 have f := me (yV.eq_1 a0 a1)
 refine so func116 ntmps116 ?_
 refine cRs (YD.rd (Jg a0 (sg u0))) ?_
 refine lp1 (qk.eq_2 a0 a1) (fun J => Yd 18 [eX 3 (a1.row.map .d), eL 8 2 (XB a0) ZL.row, eI 9 ((XB a0).length : Int), eI 10 (J : Int)]) (fun n1 J => (XB a0).length < n1 + J /\ J <= (XB a0).length) ((XB a0).length + 1) 0 (fun p1 J e1 j1 => ?_)
 refine cFf e1 ?_ ?_ <;> intro k2 h1 e1
 ·have i1 := ix h1
  have m2 := ml (XB a0) (k2 8 _ rfl)
  have w1 := wr J
  simp [i1, ZC]
  refine rpS ?_
  refine cRs (Oz a1 (nth (XB a0) J)) ?_
  refine cF e1 ?_ ?_ <;> intro k3 h2 e1
  ·have f := ms f e1
   exact rt [.tmp 4] f
  exact ny1 w1 e1
 have f := ms f e1
 exact rt [.tmp 4] f
theorem NA (a0 : YR) (a1 : List Zn) (a2 : ZL) (u0 : Sm 2318336 a1) : Sa 64 [a0.row, rL 5 Zn.row a1, a2.row] [rB (Ud a0 a1 a2)] := by
 have f := me (Ud.eq_1 a0 a1 a2)
 refine so func64 ntmps64 ?_
 refine dIs mixed ?_
 refine cRs (YD.rd (Oi a0 a1 (sg u0))) ?_
 refine cRs (xX (yr a0 a1) a2 (by exact Oh (by decide))) ?_
 exact rt [.tmp 6] f
theorem OG (a0 : List Zn) (a1 : Int) : Sa 177 [rL 5 Zn.row a0, rI a1] [rI (je a0 a1)] := by
 have f := me (je.eq_1 a0 a1)
 refine so func177 ntmps177 ?_
 refine cRs (Ns a0 a1) ?_
 refine cF f ?_ ?_ <;> intro k1 h1 f
 ·exact rt [.tmp 4] f
 exact rt [.tmp 4] f
theorem Pv (a0 : ZL) (a1 : ZL) : Sa 200 [a0.row, a1.row] [(KM a0 a1).1.row, rB (KM a0 a1).2] := by
 have f := me (KM.eq_1 a0 a1)
 refine so func200 ntmps200 ?_
 refine cRs (X9 a0) ?_
 refine cGs (fun gg => (X9 a1)) ?_
 refine cGs (fun gg => (X9 (ZL.mk (if a1.Ys > a0.Ys then a1.Ys else a0.Ys) (if a1.To < a0.To then a1.To else a0.To)))) ?_
 refine cF f ?_ ?_ <;> intro k1 h1 f
 ·exact rt [.cell 4 63, .tmp 5] f
 exact rt [.cell 4 63, .tmp 5] f
theorem kn {a b : Prop} (h : b) (k : a := by (intros; first | omega | with_unfolding_all (first | (first | omega | (simp at *; omega))) | ((try simp only [Yw, show ∀ x, IntKind.i64.wrap x = W x from fun _ => rfl] at *); omega))) : a /\ b := ⟨k, h⟩
theorem MF (a0 : List ZL) (a1 : List ZL) (u0 : Sm 2326528 a0) (u1 : Sm 2326528 a1) (u2 : a0.length <= 1 /\ a1.length <= 1) : Sd 175 [rL 2 ZL.row a0, rL 2 ZL.row a1] [rL 2 ZL.row (V7 a0 a1)] := by
 have f := me (V7.eq_1 a0 a1)
 refine soD func175 ntmps175 ?_
 refine lp2 (Vv.eq_2 a0 a1) (fun J U => Yd 39 [eL 1 2 a1 ZL.row, (5, .one (.sref 5 0 0 J.length), [.arr false 2 (J.map ZL.row)]), eL 12 2 a0 ZL.row, eI 13 (a0.length : Int), eI 14 (U : Int)]) (fun n1 J U => a0.length < n1 + U /\ U <= a0.length /\ J.length <= U) (a0.length + 1) ([] : List ZL) 0 (fun p1 J U e1 j1 => ?_) (h0 := wkS [((5, 0), none)] [])
 try dsimp only at j1
 refine cFf e1 ?_ ?_ <;> intro k2 h1 e1
 ·have i1 := ix h1
  have m2 := ml a0 (k2 12 _ rfl)
  have c1 := sl 2326528 a0 (an u0 (an u1 u2))
  have w1 := wr U
  simp [i1, ZC]
  repeat with_reducible refine kn ?_
  refine lp2 (jb.eq_2 a0 a1 U) (fun wD wE => Yd 39 [eL 1 2 a1 ZL.row, (5, .one (.sref 5 0 0 wD.length), [.arr false 2 (wD.map ZL.row)]), eX 7 ((nth a0 U).row.map .d), eL 12 2 a0 ZL.row, eI 13 (a0.length : Int), eI 14 (U : Int), eL 18 2 a1 ZL.row, eI 19 (a1.length : Int), eI 20 (wE : Int)]) (fun n2 wD wE => a1.length < n2 + wE /\ wE <= a1.length /\ wD.length <= U + wE) (a1.length + 1) J 0 (fun p2 wD wE e2 j2 => ?_)
  try dsimp only at j2
  refine cFf e2 ?_ ?_ <;> intro k4 h2 e2
  ·have i2 := ix h2
   have m4 := ml a1 (k4 1 _ rfl)
   have c2 := sl 2326528 a1 (an u0 (an u1 u2))
   have w2 := wr wE
   simp [i2, ZC]
   repeat with_reducible refine kn ?_
   refine cRs (Pv (nth a0 U) (nth a1 wE)) ?_
   refine cFf e2 ?_ ?_ <;> intro k5 h3 e2
   ·simp
    repeat with_reducible refine kn ?_
    exact nx2 e2 (hI := by first | omega | (simp at *; omega)) (hw := Y5 [((5, 0), some (34, 0))] [] rfl (by simp [w1, w2]))
   exact ny2 (an w1 w2) e2 (hI := by first | omega | (simp at *; omega))
  have c3 := sl 2326528 a1 (an u0 (an u1 u2))
  have e1 := ms e1 e2
  exact ny2 w1 e1
 have c4 := sl 2326528 a0 (an u0 (an u1 u2))
 have f := ms f e1
 refine cDs [false] (Jg J (by exact ⟨by omega, fun _ _ => trivial⟩)) ?_
 exact rtD [.tmp 4] f
theorem OX (a0 : YR) (a1 : List Zn) (u0 : Sm 2322432 a1) : Sd 118 [a0.row, rL 5 Zn.row a1] [rL 2 ZL.row (zd a0 a1)] := by
 have f := me (zd.eq_1 a0 a1)
 refine soD func118 ntmps118 ?_
 refine dIs mixed ?_
 refine cRs (UU a0) ?_
 refine cRs (OG a1 a0.Zv) ?_
 refine cDs [false] (MF ([(yo a0)] : List ZL) ([(ZL.mk 0 (je a1 a0.Zv))] : List ZL) (by simp (maxDischargeDepth := 12) [XA, Ye, ZN (m := 2326528) (by decide) u0]; try omega) (by simp (maxDischargeDepth := 12) [XA, Ye, ZN (m := 2326528) (by decide) u0]; try omega) (by exact ⟨Nat.le_refl _, Nat.le_refl _⟩)) ?_
 exact rtD [.tmp 4] f
theorem Rt (a0 : YR) (a1 : List Zn) (a2 : ZL) (u0 : Sm 2318336 a1) : Sa 65 [a0.row, rL 5 Zn.row a1, a2.row] [rB (ku a0 a1 a2)] := by
 have f := me (ku.eq_1 a0 a1 a2)
 refine so func65 ntmps65 ?_
 refine dIs mixed ?_
 refine cRs (YD.rd (OX a0 a1 (sg u0))) ?_
 refine cRs (xX (zd a0 a1) a2 (by exact PX (by decide))) ?_
 exact rt [.tmp 6] f
theorem RS (a0 : List ZE) (u0 : Sm 2330624 a0) : Sd 67 [rL 3 ZE.row a0] [rL 6 Zx.row (yQ a0)] := by
 have f := me (yQ.eq_1 a0)
 refine soD func67 ntmps67 ?_
 refine lp2 (KF.eq_2 a0) (fun J U => Yd 26 [(3, .one (.sref 3 0 0 J.length), [.arr false 6 (J.map Zx.row)]), eL 8 3 a0 ZE.row, eI 9 (a0.length : Int), eI 10 (U : Int)]) (fun n1 J U => a0.length < n1 + U /\ U <= a0.length /\ J.length <= 0 + 1 * U) (a0.length + 1) ([] : List Zx) 0 (fun p1 J U e1 j1 => ?_) (h0 := wkS [((3, 0), none)] [])
 refine cFf e1 ?_ ?_ <;> intro k2 h1 e1
 ·have i1 := ix h1
  have m2 := ml a0 (k2 8 _ rfl)
  have c1 := sl 2330624 a0 u0
  have w1 := wr U
  simp [i1, ZC]
  refine rpS ?_
  refine cRs (jT (nth a0 U)) ?_
  refine cF e1 ?_ ?_ <;> intro k3 h2 e1
  ·exact nx2 e1 (hw := Y5 [((3, 0), some (23, 0))] [] rfl (by simp [w1]))
  exact ny2 w1 e1
 have c2 := sl 2330624 a0 u0
 have f := ms f e1
 exact rtD [.tmp 2] f
theorem OY (a0 : Zx) : Sa 201 [a0.row] [rB (Wy a0)] := by
 have f := me (Wy.eq_1 a0)
 refine so func201 ntmps201 ?_
 refine cRs (Ze a0.Org 1 99) ?_
 refine cGs (fun gg => (Ze a0.jx 0 99)) ?_
 refine cGs (fun gg => (Ze a0.Key 1 99)) ?_
 refine cGs (fun gg => (X9 (ZL.mk a0.Ys a0.To))) ?_
 exact rt [.tmp 2] f
theorem Ss (a0 : Zx) : Sd 202 [a0.row] [rL 1 iR (Qy a0)] := by
 have f := me (Qy.eq_1 a0)
 refine soD func202 ntmps202 ?_
 exact rtD [.tmp 2] f
theorem Tf (a0 : List YJ) (a1 : Zx) (u0 : Sm 2314240 a0) : Sa 178 [rL 5 YJ.row a0, a1.row] [rB (qV a0 a1)] := by
 have f := me (qV.eq_1 a0 a1)
 refine so func178 ntmps178 ?_
 refine dIs mixed ?_
 refine cRs (OY a1) ?_
 refine cGs (fun gg => (Tu a0 a1.Key)) ?_
 refine cGs (fun gg => YD.rd (Ss a1)) ?_
 refine cGs (fun gg => (Xh a0 a1.Key (Qy a1) a1.Mark (sg u0) (by simp (maxDischargeDepth := 12) [SE, ZN (m := 2318336) (by decide) u0]; try omega))) ?_
 exact rt [.tmp 4] f
theorem TX (a0 : List YJ) (a1 : List Zx) (a2 : Int) (a3 : Int) (u0 : Sm 2310144 a0) (u1 : Sm 2310144 a1) : Sd 120 [rL 5 YJ.row a0, rL 6 Zx.row a1, rI a2, rI a3] [rL 2 ZL.row (KC a0 a1 a2 a3)] := by
 have f := me (KC.eq_1 a0 a1 a2 a3)
 refine soD func120 ntmps120 ?_
 refine lp2 (JO.eq_2 a0 a1 a2 a3) (fun J U => Yd 44 [eL 0 5 a0 YJ.row, eI 2 a2, eI 3 a3, (9, .one (.sref 9 0 0 J.length), [.arr false 2 (J.map ZL.row)]), eL 12 6 a1 Zx.row, eI 13 (a1.length : Int), eI 14 (U : Int)]) (fun n1 J U => a1.length < n1 + U /\ U <= a1.length /\ J.length <= 0 + 1 * U) (a1.length + 1) ([] : List ZL) 0 (fun p1 J U e1 j1 => ?_) (h0 := wkS [((9, 0), none)] [])
 refine cFf e1 ?_ ?_ <;> intro k2 h1 e1
 ·have i1 := ix h1
  have m2 := ml a1 (k2 12 _ rfl)
  have c1 := sl 2310144 a1 (an u0 u1)
  have w1 := wr U
  simp [i1, ZC]
  refine rpS ?_
  refine cGs (fun gg => (Tf a0 (nth a1 U) (sg u0))) ?_
  refine cF e1 ?_ ?_ <;> intro k3 h2 e1
  ·exact nx2 e1 (hw := Y5 [((9, 0), some (40, 0))] [] rfl (by simp [w1]))
  exact ny2 w1 e1
 have c2 := sl 2310144 a1 (an u0 u1)
 have f := ms f e1
 refine cDs [false] (Jg J (by first | (simp (maxDischargeDepth := 12) [Ye]; omega) | (simp (maxDischargeDepth := 12) [ZN (m := 2330624) (by decide) u0, ZN (m := 2330624) (by decide) u1]; done))) ?_
 exact rtD [.tmp 8] f
theorem RV (a0 : List YJ) (a1 : List Zx) (a2 : Int) (a3 : Int) (a4 : ZL) (u0 : Sm 2306048 a0) (u1 : Sm 2306048 a1) : Sa 66 [rL 5 YJ.row a0, rL 6 Zx.row a1, rI a2, rI a3, a4.row] [rB (WK a0 a1 a2 a3 a4)] := by
 have f := me (WK.eq_1 a0 a1 a2 a3 a4)
 refine so func66 ntmps66 ?_
 refine dIs mixed ?_
 refine cGs (fun gg => (X9 a4)) ?_
 refine cGs (fun gg => YD.rd (TX a0 a1 a2 a3 (by first | exact sg u0 | exact sg u1) (by first | exact sg u0 | exact sg u1))) ?_
 refine cGs (fun gg => (xX (KC a0 a1 a2 a3) a4 (by exact U5 (by have z := Yf u1; omega)))) ?_
 refine ⟨by by_cases h : a2 = 0 <;> simp [h], ?_⟩
 exact rt [.tmp 10] f
theorem TT (a0 : ZW) (a1 : Zb) (a2 : List (List Int)) (a3 : Int) (a4 : ZX) (u0 : Sm 2281472 a0) (u1 : Sm 2281472 a1) (u2 : Sm 2281472 a2) (u3 : Fx a1 <= 2097152) : Sa 39 [a0.row, a1.row, rL 1 (slR 1 iR) a2, rI a3, a4.row] [(qz a0 a1 a2 a3 a4).row] := by
 have f := me (qz.eq_1 a0 a1 a2 a3 a4)
 refine so func39 ntmps39 ?_
 refine cRs (Mb a0) ?_
 refine cF f ?_ ?_ <;> intro k1 h1 f
 ·refine cRs (qI 1) ?_
  exact rt [.cell 10 65] f
 refine cRs (kR a4) ?_
 refine cF f ?_ ?_ <;> intro k2 h2 f
 ·refine cRs (Wf 1) ?_
  exact rt [.cell 10 65] f
 refine cF f ?_ ?_ <;> intro k3 h3 f
 ·refine cRs (qI 2) ?_
  exact rt [.cell 10 65] f
 refine cF f ?_ ?_ <;> intro k4 h4 f
 ·refine cRs (Wf 2) ?_
  exact rt [.cell 10 65] f
 refine cRs (Kq a0.JW a4.Key) ?_
 refine cF f ?_ ?_ <;> intro k5 h5 f
 ·refine cRs (qI 3) ?_
  exact rt [.cell 10 65] f
 refine cRs (UF a0.JW a4 (by (first | exact sg (YG (n := 2281472) (by decide)) | exact sg u0 | exact sg u1 | exact sg u2 | exact u3 | exact sg (ZW.Yz u0) | exact sg (ZW.Yn u0) | exact sg (ZF (K := 2281472) u1 u3 (by decide)) | exact sg (Z4 (ZF (K := 2281472) u1 u3 (by decide))) | exact sg (Z9 (ZF (K := 2281472) u1 u3 (by decide)))))) ?_
 refine cF f ?_ ?_ <;> intro k6 h6 f
 ·refine cRs (Wf 4) ?_
  exact rt [.cell 10 65] f
 refine dIs mixed ?_
 refine cRs (YD.rd (PR a4)) ?_
 refine cRs (qv a0 a1 a2 (Yu a4) (by (first | exact sg (YG (n := 2281472) (by decide)) | exact sg u0 | exact sg u1 | exact sg u2 | exact u3 | exact sg (ZW.Yz u0) | exact sg (ZW.Yn u0) | exact sg (ZF (K := 2281472) u1 u3 (by decide)) | exact sg (Z4 (ZF (K := 2281472) u1 u3 (by decide))) | exact sg (Z9 (ZF (K := 2281472) u1 u3 (by decide))))) (by (first | exact sg (YG (n := 2281472) (by decide)) | exact sg u0 | exact sg u1 | exact sg u2 | exact u3 | exact sg (ZW.Yz u0) | exact sg (ZW.Yn u0) | exact sg (ZF (K := 2281472) u1 u3 (by decide)) | exact sg (Z4 (ZF (K := 2281472) u1 u3 (by decide))) | exact sg (Z9 (ZF (K := 2281472) u1 u3 (by decide))))) (by (first | exact sg (YG (n := 2281472) (by decide)) | exact sg u0 | exact sg u1 | exact sg u2 | exact u3 | exact sg (ZW.Yz u0) | exact sg (ZW.Yn u0) | exact sg (ZF (K := 2281472) u1 u3 (by decide)) | exact sg (Z4 (ZF (K := 2281472) u1 u3 (by decide))) | exact sg (Z9 (ZF (K := 2281472) u1 u3 (by decide))))) (by (first | exact sg (YG (n := 2281472) (by decide)) | exact sg u0 | exact sg u1 | exact sg u2 | exact u3 | exact sg (ZW.Yz u0) | exact sg (ZW.Yn u0) | exact sg (ZF (K := 2281472) u1 u3 (by decide)) | exact sg (Z4 (ZF (K := 2281472) u1 u3 (by decide))) | exact sg (Z9 (ZF (K := 2281472) u1 u3 (by decide)))))) ?_
 refine cRs (Wm a0 a4.Key) ?_
 refine cGs (fun gg => (xx a0.Methods a4.Method)) ?_
 refine cF f ?_ ?_ <;> intro k8 h7 f
 ·refine cRs (qI 5) ?_
  exact rt [.cell 10 65] f
 refine cRs (Tj a0 a1 a2 (by (first | exact sg (YG (n := 2281472) (by decide)) | exact sg u0 | exact sg u1 | exact sg u2 | exact u3 | exact sg (ZW.Yz u0) | exact sg (ZW.Yn u0) | exact sg (ZF (K := 2281472) u1 u3 (by decide)) | exact sg (Z4 (ZF (K := 2281472) u1 u3 (by decide))) | exact sg (Z9 (ZF (K := 2281472) u1 u3 (by decide))))) (by (first | exact sg (YG (n := 2281472) (by decide)) | exact sg u0 | exact sg u1 | exact sg u2 | exact u3 | exact sg (ZW.Yz u0) | exact sg (ZW.Yn u0) | exact sg (ZF (K := 2281472) u1 u3 (by decide)) | exact sg (Z4 (ZF (K := 2281472) u1 u3 (by decide))) | exact sg (Z9 (ZF (K := 2281472) u1 u3 (by decide))))) (by (first | exact sg (YG (n := 2281472) (by decide)) | exact sg u0 | exact sg u1 | exact sg u2 | exact u3 | exact sg (ZW.Yz u0) | exact sg (ZW.Yn u0) | exact sg (ZF (K := 2281472) u1 u3 (by decide)) | exact sg (Z4 (ZF (K := 2281472) u1 u3 (by decide))) | exact sg (Z9 (ZF (K := 2281472) u1 u3 (by decide))))) (by (first | exact sg (YG (n := 2281472) (by decide)) | exact sg u0 | exact sg u1 | exact sg u2 | exact u3 | exact sg (ZW.Yz u0) | exact sg (ZW.Yn u0) | exact sg (ZF (K := 2281472) u1 u3 (by decide)) | exact sg (Z4 (ZF (K := 2281472) u1 u3 (by decide))) | exact sg (Z9 (ZF (K := 2281472) u1 u3 (by decide)))))) ?_
 refine cRs (M0 a0 (Zc a0 a1 a2) a4 (by (first | exact sg (YG (n := 2281472) (by decide)) | exact sg u0 | exact sg u1 | exact sg u2 | exact u3 | exact sg (ZW.Yz u0) | exact sg (ZW.Yn u0) | exact sg (ZF (K := 2281472) u1 u3 (by decide)) | exact sg (Z4 (ZF (K := 2281472) u1 u3 (by decide))) | exact sg (Z9 (ZF (K := 2281472) u1 u3 (by decide))))) (by (first | exact sg (YG (n := 2281472) (by decide)) | exact sg u0 | exact sg u1 | exact sg u2 | exact u3 | exact sg (ZW.Yz u0) | exact sg (ZW.Yn u0) | exact sg (ZF (K := 2281472) u1 u3 (by decide)) | exact sg (Z4 (ZF (K := 2281472) u1 u3 (by decide))) | exact sg (Z9 (ZF (K := 2281472) u1 u3 (by decide)))))) ?_
 refine cF f ?_ ?_ <;> intro k9 h8 f
 ·refine cRs (qI 6) ?_
  exact rt [.cell 10 65] f
 refine cRs (Ph a0 a1 (Zc a0 a1 a2) a4 (by (first | exact sg (YG (n := 2281472) (by decide)) | exact sg u0 | exact sg u1 | exact sg u2 | exact u3 | exact sg (ZW.Yz u0) | exact sg (ZW.Yn u0) | exact sg (ZF (K := 2281472) u1 u3 (by decide)) | exact sg (Z4 (ZF (K := 2281472) u1 u3 (by decide))) | exact sg (Z9 (ZF (K := 2281472) u1 u3 (by decide))))) (by (first | exact sg (YG (n := 2281472) (by decide)) | exact sg u0 | exact sg u1 | exact sg u2 | exact u3 | exact sg (ZW.Yz u0) | exact sg (ZW.Yn u0) | exact sg (ZF (K := 2281472) u1 u3 (by decide)) | exact sg (Z4 (ZF (K := 2281472) u1 u3 (by decide))) | exact sg (Z9 (ZF (K := 2281472) u1 u3 (by decide))))) (by (first | exact sg (YG (n := 2281472) (by decide)) | exact sg u0 | exact sg u1 | exact sg u2 | exact u3 | exact sg (ZW.Yz u0) | exact sg (ZW.Yn u0) | exact sg (ZF (K := 2281472) u1 u3 (by decide)) | exact sg (Z4 (ZF (K := 2281472) u1 u3 (by decide))) | exact sg (Z9 (ZF (K := 2281472) u1 u3 (by decide)))))) ?_
 refine cF f ?_ ?_ <;> intro l6 h9 f
 ·refine cRs (qI 7) ?_
  exact rt [.cell 10 65] f
 refine cRs (YD.rd (SC (Zc a0 a1 a2) (Xw a0 (Zc a0 a1 a2) a4).1 (by (first | exact sg (YG (n := 2281472) (by decide)) | exact sg u0 | exact sg u1 | exact sg u2 | exact u3 | exact sg (ZW.Yz u0) | exact sg (ZW.Yn u0) | exact sg (ZF (K := 2281472) u1 u3 (by decide)) | exact sg (Z4 (ZF (K := 2281472) u1 u3 (by decide))) | exact sg (Z9 (ZF (K := 2281472) u1 u3 (by decide))))))) ?_
 refine cRs (NA (Xw a0 (Zc a0 a1 a2) a4).1 (JC (Zc a0 a1 a2) (Xw a0 (Zc a0 a1 a2) a4).1) (ZL.mk (Xb a0 a1 (Zc a0 a1 a2) a4) (YO a0 a1 a2 (Yu a4))) (by (first | exact sg (YG (n := 2281472) (by decide)) | exact sg u0 | exact sg u1 | exact sg u2 | exact u3 | exact sg (ZW.Yz u0) | exact sg (ZW.Yn u0) | exact sg (ZF (K := 2281472) u1 u3 (by decide)) | exact sg (Z4 (ZF (K := 2281472) u1 u3 (by decide))) | exact sg (Z9 (ZF (K := 2281472) u1 u3 (by decide)))))) ?_
 refine cF f ?_ ?_ <;> intro oa rz f
 ·exact rt [.cell 10 65] f
 refine cRs (Rt (Xw a0 (Zc a0 a1 a2) a4).1 (JC (Zc a0 a1 a2) (Xw a0 (Zc a0 a1 a2) a4).1) (ZL.mk (Xb a0 a1 (Zc a0 a1 a2) a4) (YO a0 a1 a2 (Yu a4))) (by (first | exact sg (YG (n := 2281472) (by decide)) | exact sg u0 | exact sg u1 | exact sg u2 | exact u3 | exact sg (ZW.Yz u0) | exact sg (ZW.Yn u0) | exact sg (ZF (K := 2281472) u1 u3 (by decide)) | exact sg (Z4 (ZF (K := 2281472) u1 u3 (by decide))) | exact sg (Z9 (ZF (K := 2281472) u1 u3 (by decide)))))) ?_
 refine cF f ?_ ?_ <;> intro ij fO f
 ·exact rt [.cell 10 65] f
 refine dIs mixed ?_
 refine cRs (YD.rd (RS (Zc a0 a1 a2) (by (first | exact sg (YG (n := 2281472) (by decide)) | exact sg u0 | exact sg u1 | exact sg u2 | exact u3 | exact sg (ZW.Yz u0) | exact sg (ZW.Yn u0) | exact sg (ZF (K := 2281472) u1 u3 (by decide)) | exact sg (Z4 (ZF (K := 2281472) u1 u3 (by decide))) | exact sg (Z9 (ZF (K := 2281472) u1 u3 (by decide))))))) ?_
 refine cRs (RV a0.JW (yQ (Zc a0 a1 a2)) a4.Org (Xw a0 (Zc a0 a1 a2) a4).1.yU (ZL.mk (Xb a0 a1 (Zc a0 a1 a2) a4) (YO a0 a1 a2 (Yu a4))) (by (first | exact sg (YG (n := 2281472) (by decide)) | exact sg u0 | exact sg u1 | exact sg u2 | exact u3 | exact sg (ZW.Yz u0) | exact sg (ZW.Yn u0) | exact sg (ZF (K := 2281472) u1 u3 (by decide)) | exact sg (Z4 (ZF (K := 2281472) u1 u3 (by decide))) | exact sg (Z9 (ZF (K := 2281472) u1 u3 (by decide))))) (by (first | exact sg (YG (n := 2281472) (by decide)) | exact sg u0 | exact sg u1 | exact sg u2 | exact u3 | exact sg (ZW.Yz u0) | exact sg (ZW.Yn u0) | exact sg (ZF (K := 2281472) u1 u3 (by decide)) | exact sg (Z4 (ZF (K := 2281472) u1 u3 (by decide))) | exact sg (Z9 (ZF (K := 2281472) u1 u3 (by decide)))))) ?_
 refine cF f ?_ ?_ <;> intro l7 fP f
 ·exact rt [.cell 10 65] f
 exact rt [.cell 10 65] f
theorem I9 (a0 : ZW) (a1 : Zb) (a2 : ZM) (a3 : ZX) (u0 : Sm 2277376 a0) (u1 : Sm 2277376 a1) (u2 : Sm 2277376 a2) (u3 : Fx a1 <= 2097152) : Sa 29 [a0.row, a1.row, a2.row, a3.row] [(Nv a0 a1 a2 a3).row] := by
 have f := me (Nv.eq_1 a0 a1 a2 a3)
 refine so func29 ntmps29 ?_
 refine dIs mixed ?_
 refine cRs (YD.rd (Uu a1 a2 (by (first | exact sg u0 | exact sg u1 | exact sg u2 | exact u3 | exact sg (XX (n := 2277376) u1))) (by (first | exact sg u0 | exact sg u1 | exact sg u2 | exact u3 | exact sg (XX (n := 2277376) u1))))) ?_
 refine cRs (VO a3.Method a2 (by (first | exact sg u0 | exact sg u1 | exact sg u2 | exact u3 | exact sg (XX (n := 2277376) u1)))) ?_
 refine cRs (TT a0 a1 (Jp a1 a2) (xJ a3.Method a2) a3 (by (first | exact sg u0 | exact sg u1 | exact sg u2 | exact u3 | exact sg (XX (n := 2277376) u1))) (by (first | exact sg u0 | exact sg u1 | exact sg u2 | exact u3 | exact sg (XX (n := 2277376) u1))) (by (first | exact sg u0 | exact sg u1 | exact sg u2 | exact u3 | exact sg (XX (n := 2277376) u1))) (by (first | exact sg u0 | exact sg u1 | exact sg u2 | exact u3 | exact sg (XX (n := 2277376) u1)))) ?_
 exact rt [.cell 8 65] f
theorem OA (a0 : ZW) (a1 : Zp) (u0 : Sm 2273280 a0) (u1 : Sm 2097152 a1) : Sa 17 [a0.row, a1.row] [(zb a0 a1).row] := by
 have f := me (zb.eq_1 a0 a1)
 refine so func17 ntmps17 ?_
 refine dIs mixed ?_
 refine cRs (YD.rd (TY a1 (by (first | exact sg u0 | exact sg (Zp.U1 u1) | exact sg (n := 2097152) (show Sm 2097152 (Zb.mk [a1.XM] []) from ⟨⟨Nat.le_of_ble_eq_true rfl, fun x hx => by rcases List.mem_cons.1 hx with rfl | hx; exact Zp.Qk u1; cases hx⟩, ⟨Nat.zero_le _, fun x hx => by cases hx⟩⟩) | exact (show a1.XM.ZO.length + 0 <= 2097152 from Yf (ZG.XJ (Zp.Qk u1))) | exact sg u1)))) ?_
 refine cRs (I9 a0 (yL a1) a1.Doc a1.Sig (by (first | exact sg u0 | exact sg (Zp.U1 u1) | exact sg (n := 2097152) (show Sm 2097152 (Zb.mk [a1.XM] []) from ⟨⟨Nat.le_of_ble_eq_true rfl, fun x hx => by rcases List.mem_cons.1 hx with rfl | hx; exact Zp.Qk u1; cases hx⟩, ⟨Nat.zero_le _, fun x hx => by cases hx⟩⟩) | exact (show a1.XM.ZO.length + 0 <= 2097152 from Yf (ZG.XJ (Zp.Qk u1))) | exact sg u1)) (by (first | exact sg u0 | exact sg (Zp.U1 u1) | exact sg (n := 2097152) (show Sm 2097152 (Zb.mk [a1.XM] []) from ⟨⟨Nat.le_of_ble_eq_true rfl, fun x hx => by rcases List.mem_cons.1 hx with rfl | hx; exact Zp.Qk u1; cases hx⟩, ⟨Nat.zero_le _, fun x hx => by cases hx⟩⟩) | exact (show a1.XM.ZO.length + 0 <= 2097152 from Yf (ZG.XJ (Zp.Qk u1))) | exact sg u1)) (by (first | exact sg u0 | exact sg (Zp.U1 u1) | exact sg (n := 2097152) (show Sm 2097152 (Zb.mk [a1.XM] []) from ⟨⟨Nat.le_of_ble_eq_true rfl, fun x hx => by rcases List.mem_cons.1 hx with rfl | hx; exact Zp.Qk u1; cases hx⟩, ⟨Nat.zero_le _, fun x hx => by cases hx⟩⟩) | exact (show a1.XM.ZO.length + 0 <= 2097152 from Yf (ZG.XJ (Zp.Qk u1))) | exact sg u1)) (by (first | exact sg u0 | exact sg (Zp.U1 u1) | exact sg (n := 2097152) (show Sm 2097152 (Zb.mk [a1.XM] []) from ⟨⟨Nat.le_of_ble_eq_true rfl, fun x hx => by rcases List.mem_cons.1 hx with rfl | hx; exact Zp.Qk u1; cases hx⟩, ⟨Nat.zero_le _, fun x hx => by cases hx⟩⟩) | exact (show a1.XM.ZO.length + 0 <= 2097152 from Yf (ZG.XJ (Zp.Qk u1))) | exact sg u1))) ?_
 exact rt [.cell 4 65] f
theorem Sf (a0 : Int) : Sa 27 [rI a0] [rS (Q0 a0)] := by
 have f := me (Q0.eq_1 a0)
 refine so func27 ntmps27 ?_
 refine cRs (Ze a0 1 3) ?_
 refine cFo f ?_ ?_ <;> intro k1 h1 f
 ·have q1 := h1; try simp [ZS] at q1
  simp
  exact rt [.tmp 2] f
 have q1 := h1; try simp [ZS] at q1
 have r1 : ∀ i : Nat, i < 4 -> cut [At.d (.str (⟨#[]⟩ : ByteArray)), At.d (.str (⟨#[118, 97, 108, 105, 100]⟩ : ByteArray)), At.d (.str (⟨#[105, 110, 118, 97, 108, 105, 100]⟩ : ByteArray)), At.d (.str (⟨#[111, 112, 101, 110]⟩ : ByteArray))] i 1 = [At.d (.str (nth ([(⟨#[]⟩ : ByteArray), (⟨#[118, 97, 108, 105, 100]⟩ : ByteArray), (⟨#[105, 110, 118, 97, 108, 105, 100]⟩ : ByteArray), (⟨#[111, 112, 101, 110]⟩ : ByteArray)] : List ByteArray) i))] := by intro i h; (have z : i = 0 \/ i = 1 \/ i = 2 \/ i = 3 := by omega); rcases z with rfl | rfl | rfl | rfl <;> rfl
 have i1 : a0.toNat < 4 := by first | omega | ((try simp only [Yw, show ∀ x, IntKind.i64.wrap x = W x from fun _ => rfl] at *); omega)
 have pR := r1 _ i1; simp only [cut] at pR
 simp [r1 _ i1, pR]
 refine rpS ?_
 exact rt [.tmp 2] f
theorem RW (a0 : Int) : Sa 28 [rI a0] [rS (Jl a0)] := by
 have f := me (Jl.eq_1 a0)
 refine so func28 ntmps28 ?_
 refine cRs (Ze a0 0 9) ?_
 refine cFo f ?_ ?_ <;> intro k1 h1 f
 ·have q1 := h1; try simp [ZS] at q1
  simp
  exact rt [.tmp 2] f
 have q1 := h1; try simp [ZS] at q1
 have r1 : ∀ i : Nat, i < 10 -> cut [At.d (.str (⟨#[110, 111, 110, 101]⟩ : ByteArray)), At.d (.str (⟨#[102, 111, 114, 109]⟩ : ByteArray)), At.d (.str (⟨#[100, 111, 99, 117, 109, 101, 110, 116]⟩ : ByteArray)), At.d (.str (⟨#[107, 101, 121]⟩ : ByteArray)), At.d (.str (⟨#[109, 97, 114, 107]⟩ : ByteArray)), At.d (.str (⟨#[98, 114, 111, 107, 101, 110]⟩ : ByteArray)), At.d (.str (⟨#[99, 101, 114, 116, 105, 102, 105, 99, 97, 116, 101]⟩ : ByteArray)), At.d (.str (⟨#[116, 105, 109, 101]⟩ : ByteArray)), At.d (.str (⟨#[101, 110, 100, 101, 100]⟩ : ByteArray)), At.d (.str (⟨#[109, 97, 110, 100, 97, 116, 101]⟩ : ByteArray))] i 1 = [At.d (.str (nth ([(⟨#[110, 111, 110, 101]⟩ : ByteArray), (⟨#[102, 111, 114, 109]⟩ : ByteArray), (⟨#[100, 111, 99, 117, 109, 101, 110, 116]⟩ : ByteArray), (⟨#[107, 101, 121]⟩ : ByteArray), (⟨#[109, 97, 114, 107]⟩ : ByteArray), (⟨#[98, 114, 111, 107, 101, 110]⟩ : ByteArray), (⟨#[99, 101, 114, 116, 105, 102, 105, 99, 97, 116, 101]⟩ : ByteArray), (⟨#[116, 105, 109, 101]⟩ : ByteArray), (⟨#[101, 110, 100, 101, 100]⟩ : ByteArray), (⟨#[109, 97, 110, 100, 97, 116, 101]⟩ : ByteArray)] : List ByteArray) i))] := by intro i h; (have z : i = 0 \/ i = 1 \/ i = 2 \/ i = 3 \/ i = 4 \/ i = 5 \/ i = 6 \/ i = 7 \/ i = 8 \/ i = 9 := by omega); rcases z with rfl | rfl | rfl | rfl | rfl | rfl | rfl | rfl | rfl | rfl <;> rfl
 have i1 : a0.toNat < 10 := by first | omega | ((try simp only [Yw, show ∀ x, IntKind.i64.wrap x = W x from fun _ => rfl] at *); omega)
 have pR := r1 _ i1; simp only [cut] at pR
 simp [r1 _ i1, pR]
 refine rpS ?_
 exact rt [.tmp 2] f
theorem Ug (a0 : Xe) : Sa 16 [a0.row] [rS (Jq a0)] := by
 have f := me (Jq.eq_1 a0)
 refine so func16 ntmps16 ?_
 refine dIs mixed ?_
 refine cRs (Sf a0.Code) ?_
 refine cRs (RW a0.Reason) ?_
 refine cF f ?_ ?_ <;> intro k2 h1 f
 ·exact rt [.tmp 2] f
 refine cFf f ?_ ?_ <;> intro k3 h2 f
 ·have o1 := zV a0.Code
  have o2 := z9 a0.Reason
  simp
  refine rpS ?_
  exact rt [.tmp 2] f
 have o3 := zV a0.Code
 have o4 := z9 a0.Reason
 refine dIs mixed ?_
 have o5 := YQ a0.Span.Ys
 refine cRs (QX a0.Span.Ys) ?_
 have o6 := YQ a0.Span.To
 refine cRs (QX a0.Span.To) ?_
 exact rt [.tmp 2] f
theorem Wj (a0 : ZW) (a1 : Zp) (u0 : Sm 2269184 a0) (u1 : Sm 2097152 a1) : Sa 7 [a0.row, a1.row] [rS (Yq a0 a1)] := by
 have f := me (Yq.eq_1 a0 a1)
 refine so func7 ntmps7 ?_
 refine dIs mixed ?_
 have o1 := YQ a1.Id
 refine cRs (QX a1.Id) ?_
 have o2 := YQ a1.Sig.Key
 refine cRs (QX a1.Sig.Key) ?_
 have o3 := YQ (a1.XM.ZO.length : Int)
 refine cRs (QX (a1.XM.ZO.length : Int)) ?_
 have o4 := YQ (a1.XM.ZJ.length : Int)
 refine cRs (QX (a1.XM.ZJ.length : Int)) ?_
 refine cRs (OA a0 a1 (by (first | exact sg u0 | exact u1)) (by (first | exact sg u0 | exact u1))) ?_
 have o5 := xD (zb a0 a1)
 refine cRs (Ug (zb a0 a1)) ?_
 exact rt [.tmp 4] f
theorem VM {a b : Prop} (h : b) (k : a := by (intros; first | omega | with_unfolding_all (first | (have o : (nth a0 U).size <= 2342912 := Z2 (i := U) u0; have o2 : a1.size <= 2342912 := u1; have o3 : a0.length <= 2342912 := Yf u0; omega)) | ((try simp only [Yw, show ∀ x, IntKind.i64.wrap x = W x from fun _ => rfl] at *); omega))) : a /\ b := ⟨k, h⟩
theorem M8 (a0 : List ByteArray) (a1 : ByteArray) (u0 : Sm 2342912 a0) (u1 : Sm 2342912 a1) : Sa 26 [rL 1 sR a0, rS a1] [rS (Kz a0 a1)] := by
 have f := me (Kz.eq_1 a0 a1)
 refine so func26 ntmps26 ?_
 refine lp2 (XN.eq_2 a0 a1) (fun J U => Yd 25 [(1, .one (.d (.str a1)), []), (5, .one (.d (.str J)), []), eL 8 1 a0 sR, eI 9 (a0.length : Int), eI 10 (U : Int)]) (fun n1 J U => a0.length < n1 + U /\ U <= a0.length /\ J.size <= 4685824 * U) (a0.length + 1) (⟨#[]⟩ : ByteArray) 0 (fun p1 J U e1 j1 => ?_) (hI := by exact ⟨by omega, by omega, Nat.zero_le _, Nat.zero_le _⟩)
 try dsimp only at j1
 refine cFf e1 ?_ ?_ <;> intro k2 h1 e1
 ·have i1 := ix h1
  have m2 := ml a0 (k2 8 _ rfl)
  have c1 := sl 2342912 a0 (an u0 u1)
  have w1 := wr U
  simp [i1, ZC]
  repeat with_reducible refine VM ?_
  refine cFo e1 ?_ ?_ <;> intro k3 h2 e1
  ·simp
   repeat with_reducible refine VM ?_
   exact ny2 w1 e1 (hI := by (have o : (nth a0 U).size <= 2342912 := Z2 (i := U) u0; have o2 : a1.size <= 2342912 := u1; have o3 : a0.length <= 2342912 := Yf u0; (try dsimp only); refine ⟨by omega, by omega, by omega, ?_⟩; simp; omega))
  simp
  repeat with_reducible refine VM ?_
  exact ny2 w1 e1 (hI := by (have o : (nth a0 U).size <= 2342912 := Z2 (i := U) u0; have o2 : a1.size <= 2342912 := u1; have o3 : a0.length <= 2342912 := Yf u0; (try dsimp only); refine ⟨by omega, by omega, by omega, ?_⟩; simp; omega))
 have c2 := sl 2342912 a0 (an u0 u1)
 have f := ms f e1
 exact rt [.tmp 4] f
theorem Lh (a0 : List ByteArray) (a1 : ByteArray) (u0 : Sm 2338816 a0) (u1 : Sm 2338816 a1) : Sa 14 [rL 1 sR a0, rS a1] [rS (kc a0 a1)] := by
 have f := me (kc.eq_1 a0 a1)
 refine so func14 ntmps14 ?_
 refine cF f ?_ ?_ <;> intro k1 h1 f
 ·exact rt [.tmp 4] f
 refine cRs (M8 a0 a1 (sg u0) (sg u1)) ?_
 exact rt [.tmp 4] f
theorem U2 (a0 : ZW) (a1 : Zf) (u0 : Sm 1048576 a0) (u1 : Sm 1048576 a1) : Sa 6 [a0.row, a1.row] [rS (Yy a0 a1)] := by
 have f := me (Yy.eq_1 a0 a1)
 refine so func6 ntmps6 ?_
 refine lp2 (QB.eq_2 a0 a1) (fun J U => Yd 24 [eX 2 (a0.row.map .d), (5, .one (.sref 5 0 0 J.length), [.arr false 1 (J.map sR)]), eL 9 16 a1.Zl Zp.row, eI 10 (a1.Zl.length : Int), eI 11 (U : Int)]) (fun n1 J U => a1.Zl.length < n1 + U /\ U <= a1.Zl.length /\ J.length <= U /\ (∀ x ∈ J, x.size <= 400)) (a1.Zl.length + 1) ([] : List ByteArray) 0 (fun p1 J U e1 j1 => ?_) (hI := by exact ⟨by omega, by omega, Nat.zero_le _, Nat.zero_le _, fun x h => by cases h⟩) (h0 := wkS [((5, 0), none)] [])
 try dsimp only at j1
 refine cFf e1 ?_ ?_ <;> intro k2 h1 e1
 ·have i1 := ix h1
  have m2 := ml a1.Zl (k2 9 _ rfl)
  have c1 := sl 1048576 a1.Zl (an u0 u1)
  have w1 := wr U
  simp [i1, ZC]
  refine rpS ?_
  refine cRs (Wj a0 (nth a1.Zl U) (by (first | exact sg u0 | exact sg (Z2 (Zf.KI u1)))) (by (first | exact sg u0 | exact sg (Z2 (Zf.KI u1))))) ?_
  exact nx2 e1 (hI := by (refine ⟨by omega, by omega, by omega, by simp; omega, fun x hx => ?_⟩; rcases List.mem_append.1 hx with hx | hx; exact j1.2.2.2.2 x hx; simp at hx; rw [hx]; exact U9 _ _)) (hw := Y5 [((5, 0), some (20, 0))] [] rfl (by simp [w1]))
 have c2 := sl 1048576 a1.Zl (an u0 u1)
 have f := ms f e1
 refine cRs (Lh J (⟨#[59, 32]⟩ : ByteArray) (by (first | exact ⟨by omega, fun x hx => Nat.le_trans (j1.2.2.2.2 x hx) (by decide)⟩ | exact Nat.le_of_ble_eq_true rfl)) (by (first | exact ⟨by omega, fun x hx => Nat.le_trans (j1.2.2.2.2 x hx) (by decide)⟩ | exact Nat.le_of_ble_eq_true rfl))) ?_
 exact rt [.tmp 4] f
theorem JF {a b : Prop} (h : b) (k : a := by (intros; first | omega | with_unfolding_all (first | (have o : (nth a0.Zd U).size <= 1048576 := Z2 (i := U) u0.2.2.1; omega)) | ((try simp only [Yw, show ∀ x, IntKind.i64.wrap x = W x from fun _ => rfl] at *); omega))) : a /\ b := ⟨k, h⟩
theorem UD (a0 : Zi) (u0 : Sm 1048576 a0) : Sa 9 [a0.row] [rS (YC a0)] := by
 have f := me (YC.eq_1 a0)
 refine so func9 ntmps9 ?_
 refine cRs (QX a0.QF) ?_
 refine lp2 (Ym.eq_2 a0) (fun J U => Yd 41 [eX 1 (a0.row.map .d), (3, .one (.d (.str J)), []), eL 10 1 a0.Shown lR, eI 11 (a0.Shown.length : Int), eI 12 (U : Int)]) (fun n1 J U => a0.Shown.length < n1 + U /\ J.size <= 24 + 1048580 * U) (a0.Shown.length + 1) (Y3 a0.QF) 0 (fun p1 J U e1 j1 => ?_) (hI := by exact ⟨by omega, by simp, YQ a0.QF⟩)
 try dsimp only at j1
 refine cFf e1 ?_ ?_ <;> intro k2 h1 e1
 ·have i1 := ix h1
  have m2 := ml a0.Shown (k2 10 _ rfl)
  have c1 := sl 1048576 a0.Shown u0
  have w1 := wr U
  simp [i1, ZC]
  repeat with_reducible refine JF ?_
  refine cFf e1 ?_ ?_ <;> intro k3 h2 e1
  ·simp
   repeat with_reducible refine JF ?_
   exact ny2 w1 e1 (hI := by (have o : (nth a0.Zd U).size <= 1048576 := Z2 (i := U) u0.2.2.1; (try dsimp only); refine ⟨by omega, by omega, ?_⟩; simp; omega))
  refine cFo e1 ?_ ?_ <;> intro k4 h3 e1
  ·have i2 := ix h3
   have m4 := ml a0.Zd (k4 27 _ rfl)
   have c2 := sl 1048576 a0.Zd u0
   have w2 := wr U
   simp [i2, ZC]
   repeat with_reducible refine JF ?_
   exact ny2 w2 e1 (hI := by (have o : (nth a0.Zd U).size <= 1048576 := Z2 (i := U) u0.2.2.1; (try dsimp only); refine ⟨by omega, by omega, ?_⟩; simp; omega))
  have c3 := sl 1048576 a0.Zd u0
  simp
  repeat with_reducible refine JF ?_
  exact ny2 w1 e1 (hI := by (have o : (nth a0.Zd U).size <= 1048576 := Z2 (i := U) u0.2.2.1; (try dsimp only); refine ⟨by omega, by omega, ?_⟩; simp; omega))
 have c4 := sl 1048576 a0.Shown u0
 have f := ms f e1
 exact rt [.tmp 2] f
theorem R0 (a0 : Zi) : Sa 10 [a0.row] [rI (zn a0)] := by
 have f := me (zn.eq_1 a0)
 refine so func10 ntmps10 ?_
 refine lp2 (JR.eq_2 a0) (fun J U => Yd 18 [eI 3 J, eL 7 1 a0.Shown lR, eI 8 (a0.Shown.length : Int), eI 9 (U : Int)]) (fun n1 J U => a0.Shown.length < n1 + U /\ U <= a0.Shown.length) (a0.Shown.length + 1) 0 0 (fun p1 J U e1 j1 => ?_)
 refine cFf e1 ?_ ?_ <;> intro k2 h1 e1
 ·have i1 := ix h1
  have m2 := ml a0.Shown (k2 7 _ rfl)
  have w1 := wr U
  simp [i1, ZC]
  refine rpS ?_
  refine cF e1 ?_ ?_ <;> intro k3 h2 e1
  ·exact ny2 w1 e1
  exact ny2 w1 e1
 have f := ms f e1
 exact rt [.tmp 2] f
end Go.Proofs.YtlilcnnajeeigaaGreat
