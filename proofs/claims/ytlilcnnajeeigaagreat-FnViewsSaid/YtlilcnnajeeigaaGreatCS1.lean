/- Contracts of the functions ON the abstract machine, part S1. No condition. -/
import Derived.Test.YtlilcnnajeeigaaGreatL
import Derived.Test.YtlilcnnajeeigaaGreatTy
namespace Go.Proofs.YtlilcnnajeeigaaGreat
open Tryz
open Go.Vm Go.Mo
set_option maxHeartbeats 1000000
set_option maxRecDepth 100000
set_option linter.unusedSimpArgs false
set_option linter.unusedVariables false
theorem PE (a0 : List UInt8) : Sr prog 11 [rL 1 bR a0] (zE a0).row := by
 have f := me (zE.eq_1 a0)
 refine GJ func11 rfl (by kernel_rfl) ?_
 simp [ntmps11]
 refine lp2 (SK.eq_2 a0) (fun J U => Yd 32 [eL 0 1 a0 bR, eI 3 J, eI 4 (U : Int)]) (fun n1 J U => 4000 < n1 + U) 4001 (W (193017 + (a0.length : Int))) 0 (fun p1 J U e1 j1 => ?_)
 refine cFf e1 ?_ ?_ <;> intro k2 h1 e1
 ·have i1 : U < a0.length := by (simp at h1; omega)
  have m2 := ml a0 (k2 0 _ rfl)
  have w1 := wr U
  simp [i1, ZC]
  refine rpS ?_
  exact ny2 w1 e1
 have f := ms f e1
 refine Du 31 (rv := [.tmp 2]) rfl ?_
 simp [f.h]
theorem Xr : Sd 19 [] [rL 5 YJ.row YU] := by
 have f := me (YU.eq_1)
 refine soD func19 ntmps19 ?_
 exact rtD [.tmp 0] f
theorem QG : Sd 20 [] [rL 3 ZP.row YN] := by
 have f := me (YN.eq_1)
 refine soD func20 ntmps20 ?_
 exact rtD [.tmp 0] f
theorem MG : Sd 21 [] [rL 4 YV.row Vy] := by
 have f := me (Vy.eq_1)
 refine soD func21 ntmps21 ?_
 exact rtD [.tmp 0] f
theorem jO (a0 : ZI) : Xt prog 32 false a0.row [] (Zu a0).1.row [rI (Zu a0).2] := by
 have f := me (Zu.eq_1 a0)
 refine Y2 func32 rfl (by kernel_rfl) (fun v => ?_)
 simp [ntmps32]
 refine dIs mixed ?_
 refine dIs mixed ?_
 refine cF f ?_ ?_ <;> intro k3 h1 f
 ·refine okD fun k4 => ?_
  refine dIo mixed ?_
  have i1 := ik a0.i a0.b
  simp [i1, ZC]
  refine rpS ?_
  refine JS (rv := [.tmp 2]) rfl ?_
  first | (have w0 := wr a0.i (by have z := ml a0.b (k3 32 _ rfl); simp at h1; omega); simp [f.h, w0]; done) | simp [f.h]
 refine JS (rv := [.tmp 2]) rfl ?_
 first | (have w0 := wr a0.i (by have z := ml a0.b (k3 32 _ rfl); simp at h1; omega); simp [f.h, w0]; done) | simp [f.h]
theorem Zt (a0 : ZI) (a1 : Int) : Xt prog 22 false a0.row [rI a1] (ZA a0 a1).1.row [rI (ZA a0 a1).2] := by
 have f := me (ZA.eq_1 a0 a1)
 refine Y2 func22 rfl (by kernel_rfl) (fun v => ?_)
 simp [ntmps22]
 refine cF f ?_ ?_ <;> intro k1 h1 f
 ·refine JS (rv := [.tmp 4]) rfl ?_
  simp [f.h]
 refine cF f ?_ ?_ <;> intro k2 h2 f
 ·refine cBs [] (jO a0) ?_
  refine JS (rv := [.tmp 4]) rfl ?_
  simp [f.h]
 refine cBs [] (jO a0) ?_
 refine cBs [] (jO (Zu a0).1) ?_
 refine cBs [] (jO (Zu (Zu a0).1).1) ?_
 refine JS (rv := [.tmp 4]) rfl ?_
 simp [f.h]
theorem HF {a b : Prop} (h : b) (k : a := by (intros; first | omega | with_unfolding_all (first | first | omega | (have z := YY a0 (a1.length : Int); omega)) | ((try simp only [Yw, show ∀ x, IntKind.i64.wrap x = W x from fun _ => rfl] at *); omega))) : a /\ b := ⟨k, h⟩
theorem yv (a0 : ZI) (a1 : List Int) (u0 : 0 < a1.length) : Xt prog 23 false a0.row [rL 1 iR a1] (Z3 a0 a1).1.row [rI (Z3 a0 a1).2] := by
 have f := me (Z3.eq_1 a0 a1)
 refine Y2 func23 rfl (by kernel_rfl) (fun v => ?_)
 simp [ntmps23]
 refine cBo [] (Zt a0 (a1.length : Int)) ?_
 have i1 : (ZA a0 (a1.length : Int)).2.toNat < a1.length := by (have z := YY a0 (a1.length : Int); omega)
 simp [i1, ZC]
 repeat with_reducible refine HF ?_
 refine JS (rv := [.tmp 4]) rfl ?_
 simp [f.h]
theorem Oe (a0 : ZI) : Xt prog 12 true a0.row [] (KZ a0).1.row [(KZ a0).2.row] := by
 have f := me (KZ.eq_1 a0)
 refine Y2 func12 rfl (by kernel_rfl) (fun v => ?_)
 simp [ntmps12]
 refine cDs [false] (Xr) ?_
 refine cDs [false] (QG) ?_
 refine cDs [false] (MG) ?_
 refine cBs [] (Zt a0 2) ?_
 refine LF [(9, 0)] rfl (by simp) ?_
 refine cBs [] (yv (ZA a0 2).1 ([20, 45, 60, 75, 100, 150, 300] : List Int) (by first | omega | (simp; done) | (simp; omega))) ?_
 refine JS (rv := [.cell 2 28]) rfl ?_
 simp [f.h]
theorem HI {a b : Prop} (h : b) (k : a := by (intros; first | omega | with_unfolding_all (first | first | omega | (have z := YY a0 (a1.length : Int); omega)) | ((try simp only [Yw, show ∀ x, IntKind.i64.wrap x = W x from fun _ => rfl] at *); omega))) : a /\ b := ⟨k, h⟩
theorem Ig (a0 : ZI) (a1 : List ByteArray) (u0 : 0 < a1.length) : Xt prog 180 false a0.row [rL 1 sR a1] (Wc a0 a1).1.row [rS (Wc a0 a1).2] := by
 have f := me (Wc.eq_1 a0 a1)
 refine Y2 func180 rfl (by kernel_rfl) (fun v => ?_)
 simp [ntmps180]
 refine cBo [] (Zt a0 (a1.length : Int)) ?_
 have i1 : (ZA a0 (a1.length : Int)).2.toNat < a1.length := by (have z := YY a0 (a1.length : Int); omega)
 simp [i1, ZC]
 repeat with_reducible refine HI ?_
 refine JS (rv := [.tmp 4]) rfl ?_
 simp [f.h]
theorem Lf (a0 : ZI) : Xt prog 125 false a0.row [] (Xi a0).1.row [rS (Xi a0).2] := by
 have f := me (Xi.eq_1 a0)
 refine Y2 func125 rfl (by kernel_rfl) (fun v => ?_)
 simp [ntmps125]
 refine LF [(4, 0)] rfl (by simp) ?_
 refine cBs [] (Ig a0 ([(⟨#[]⟩ : ByteArray), (⟨#[97]⟩ : ByteArray), (⟨#[98]⟩ : ByteArray), (⟨#[97, 98]⟩ : ByteArray), (⟨#[121, 101, 115]⟩ : ByteArray), (⟨#[110, 111]⟩ : ByteArray), (⟨#[111, 110, 101, 32, 104, 117, 110, 100, 114, 101, 100]⟩ : ByteArray)] : List ByteArray) (by first | omega | (simp; done) | (simp; omega))) ?_
 refine JS (rv := [.tmp 2]) rfl ?_
 simp [f.h]
theorem YK (a0 : Int) (a1 : Int) (a2 : Int) : Sa 45 [rI a0, rI a1, rI a2] [rB (YE a0 a1 a2)] := by
 have f := me (YE.eq_1 a0 a1 a2)
 refine so func45 ntmps45 ?_
 exact rt [.tmp 6] f
theorem G2 (a0 : Int) (a1 : Int) : Sa 215 [rI a0, rI a1] [rI (RG a0 a1)] := by
 have f := me (RG.eq_1 a0 a1)
 refine so func215 ntmps215 ?_
 refine cRs (YK a1 1 1000000000000) ?_
 refine cFo f ?_ ?_ <;> intro k1 h1 f
 ·have q1 := h1; try simp [YE] at q1
  simp
  exact rt [.tmp 4] f
 have q1 := h1; try simp [YE] at q1
 simp
 refine rpS ?_
 exact rt [.tmp 4] f
theorem NI (a0 : List Int) : Sa 203 [rL 1 iR a0] [rI (SG a0)] := by
 have f := me (SG.eq_1 a0)
 refine so func203 ntmps203 ?_
 refine lp2 (kW.eq_2 a0) (fun J U => Yd 22 [eL 0 1 a0 iR, eI 3 J, eI 4 (U : Int)]) (fun n1 J U => a0.length < n1 + U /\ U <= a0.length) (a0.length + 1) 11 0 (fun p1 J U e1 j1 => ?_)
 refine cFf e1 ?_ ?_ <;> intro k2 h1 e1
 ·have i1 := ix h1
  have m2 := ml a0 (k2 0 _ rfl)
  have w1 := wr U
  simp [i1, ZC]
  refine rpS ?_
  refine cRs (G2 (nth a0 U) 2147483647) ?_
  exact ny2 w1 e1
 have f := ms f e1
 exact rt [.tmp 2] f
theorem W8 (a0 : Int) (a1 : List Int) (u0 : Sm 2330624 a1) : Sa 182 [rI a0, rL 1 iR a1] [rI (KN a0 a1)] := by
 have f := me (KN.eq_1 a0 a1)
 have c1 := sl 2330624 a1 u0
 refine so func182 ntmps182 ?_
 refine cRs (NI ((([a0] : List Int) ++ a1) ++ ([a0] : List Int))) ?_
 exact rt [.tmp 4] f
theorem G1 (a0 : Int) (a1 : Int) : Sa 181 [rI a0, rI a1] [rI (Lr a0 a1)] := by
 have f := me (Lr.eq_1 a0 a1)
 refine so func181 ntmps181 ?_
 refine cF f ?_ ?_ <;> intro k1 h1 f
 ·exact rt [.tmp 4] f
 exact rt [.tmp 4] f
theorem zC (a0 : ZM) : Sa 78 [a0.row] [rB (YW a0)] := by
 have f := me (YW.eq_1 a0)
 refine so func78 ntmps78 ?_
 refine lp1 (Yx.eq_2 a0) (fun J => Yd 51 [eX 1 (a0.row.map .d), eI 3 (J : Int)]) (fun n1 J => a0.Zd.length < n1 + J /\ J <= a0.Zd.length) (a0.Zd.length + 1) 0 (fun p1 J e1 j1 => ?_)
 refine cFf e1 ?_ ?_ <;> intro k2 h1 e1
 ·have i1 := ix h1
  have m2 := ml a0.Zd (k2 7 _ rfl)
  have w1 := wr J
  simp [i1, ZC]
  refine rpS ?_
  refine cF e1 ?_ ?_ <;> intro k3 h2 e1
  ·have f := ms f e1
   exact rt [.tmp 2] f
  exact ny1 w1 e1
 have f := ms f e1
 refine lp1 (Yt.eq_2 a0) (fun wD => Yd 51 [eX 1 (a0.row.map .d), eI 4 (wD : Int)]) (fun n2 wD => a0.Yh.length < n2 + wD /\ wD <= a0.Yh.length) (a0.Yh.length + 1) 0 (fun p2 wD e2 j2 => ?_)
 refine cFf e2 ?_ ?_ <;> intro k5 h3 e2
 ·have i2 := ix h3
  have m4 := ml a0.Yh (k5 21 _ rfl)
  have w2 := wr wD
  simp [i2, ZC]
  refine rpS ?_
  refine cRs (YK (nth a0.Yh wD) 1 1000000000000) ?_
  refine cFo e2 ?_ ?_ <;> intro k6 h4 e2
  ·have q4 := h4; try simp [YE] at q4
   have f := ms f e2
   simp
   exact rt [.tmp 2] f
  have q4 := h4; try simp [YE] at q4
  simp
  exact ny1 w2 e2
 have f := ms f e2
 refine cRs (YK a0.QF 0 999) ?_
 refine cGs (fun gg => (YK (a0.Zd.length : Int) 1 6)) ?_
 exact rt [.tmp 2] f
theorem Rw (a0 : Int) : Sa 183 [rI a0] [rB (xk a0)] := by
 have f := me (xk.eq_1 a0)
 refine so func183 ntmps183 ?_
 refine cRs (YK a0 1 2147483646) ?_
 exact rt [.tmp 2] f
theorem Ts (a0 : Int) (a1 : List ByteArray) (a2 : Int) (u0 : Sm 2326528 a1) : Sd 126 [rI a0, rL 1 sR a1, rI a2] [(XV a0 a1 a2).1.row, rB (XV a0 a1 a2).2] := by
 have f := me (XV.eq_1 a0 a1 a2)
 have c1 := sl 2326528 a1 u0
 refine soD func126 ntmps126 ?_
 refine lp2 (XF.eq_2 a0 a1 a2) (fun J U => Yd 42 [eI 0 a0, eL 1 1 a1 sR, eI 2 a2, (6, .one (.bptr 6 0), [.box [.d (.int .i64 0), .nil 1, .nil 1]]), (8, .one (.bptr 8 0), [.box [.d (.int .i64 a0), .sref 13 0 0 a1.length, .sref 8 3 0 U.length], .none, .none, .arr false 1 (U.map iR)]), eI 9 (J : Int), (13, .any, [.arr false 1 (a1.map sR)])]) (fun n1 J U => a1.length < n1 + J /\ J <= a1.length /\ U.length <= 0 + 1 * J) (a1.length + 1) 0 ([] : List Int) (fun p1 J U e1 j1 => ?_) (h0 := wkS [((8, 3), none)] [])
 refine cF e1 ?_ ?_ <;> intro k2 h1 e1
 ·have i1 := ix h1
  have m2 := ml a1 (k2 1 _ rfl)
  have w1 := wr J
  refine dIs mixed ?_
  refine cRs (W8 a2 ([a0, (J : Int)] : List Int) (by simp (maxDischargeDepth := 12) [XA, Ye, ZN (m := 2330624) (by decide) u0]; try omega)) ?_
  refine cRs (G1 1 (KN a2 ([a0, (J : Int)] : List Int))) ?_
  exact nx2 e1 (hw := Y5 [((8, 3), some (30, 0))] [] rfl (by simp [w1]))
 have f := ms f e1
 refine cRs (zC (ZM.mk a0 a1 U)) ?_
 refine cGs (fun gg => (Rw a2)) ?_
 refine cF f ?_ ?_ <;> intro k4 h2 f
 ·exact rtD [.cell 6 39, .tmp 7] f
 exact rtD [.cell 6 39, .tmp 7] f
theorem RH (a0 : ZI) : Xt prog 74 true a0.row [] (Zm a0).1.row [(Zm a0).2.row] := by
 have f := me (Zm.eq_1 a0)
 refine Y2 func74 rfl (by kernel_rfl) (fun v => ?_)
 simp [ntmps74]
 refine cBs [] (Zt a0 3) ?_
 refine lp5 (Xv.eq_2) (fun J U wB wH wP => Yd 28 [(0, .fix v (.one (.bptr 0 0)), [.box [.d (.sl 1 (wB.map bR)), .d (.int .i64 (wH : Int)), .d (.int .i64 wP)]]), (2, .one (.bptr 2 0), [.box [.d (.int .i64 0), .nil 1, .nil 1]]), (3, .one (.sref 3 0 0 J.length), [.arr false 1 (J.map sR)]), eI 4 U]) (fun n1 J U wB wH wP => U + 1 <= (n1 : Int) /\ 0 <= U /\ (J.length : Int) + U <= 3 /\ (∀ x ∈ J, x.size <= 11)) 5 ([] : List ByteArray) (W (1 + (ZA a0 3).2)) (ZA a0 3).1.b (ZA a0 3).1.i (ZA a0 3).1.h (fun p1 J U wB wH wP e1 j1 => ?_) (hI := by (have z := YY a0 3; (try dsimp only); simp only [Yw, List.length_nil]; refine ⟨by omega, by omega, by omega, by omega, fun x h => by cases h⟩)) (h0 := wkS [((3, 0), some (7, 0))] [])
 try dsimp only at j1
 refine cF e1 ?_ ?_ <;> intro k2 h1 e1
 ·refine cBs [] (Lf (ZI.mk wB wH wP)) ?_
  exact nx5 e1 (hI := by (have hh := h1; simp at hh; (try dsimp only); simp only [Yw, List.length_append, List.length_singleton]; refine ⟨by omega, by omega, by omega, by omega, fun x hx => ?_⟩; rcases List.mem_append.1 hx with hx | hx; exact j1.2.2.2.2 x hx; simp at hx; rw [hx]; exact UN _)) (hw := wkS [((3, 0), some (19, 0))] [])
 have f := ms f e1
 refine cBs [] (Zt (ZI.mk wB wH wP) 5) ?_
 refine cDs [true, false, false] (Ts (ZA (ZI.mk wB wH wP) 5).2 J 11 (by (exact ⟨by omega, fun x hx => Nat.le_trans (j1.2.2.2.2 x hx) (by decide)⟩))) ?_
 refine JS (rv := [.cell 2 39]) rfl ?_
 simp [f.h]
theorem JB (a0 : Int) (a1 : List Int) (u0 : Sm 68719476736 a1) : Sa 184 [rI a0, rL 1 iR a1] [rI (Jn a0 a1)] := by
 have f := me (Jn.eq_1 a0 a1)
 have c1 := sl 68719476736 a1 u0
 refine so func184 ntmps184 ?_
 refine cRs (NI (([7, a0] : List Int) ++ a1)) ?_
 exact rt [.tmp 4] f
theorem Wq (a0 : Int) (a1 : ByteArray) (a2 : Int) (u0 : Sm 2326528 a1) : Sa 128 [rI a0, rS a1, rI a2] [rI (xy a0 a1 a2)] := by
 have f := me (xy.eq_1 a0 a1 a2)
 refine so func128 ntmps128 ?_
 refine lp2 (qO.eq_2 a1) (fun J U => Yd 27 [eI 0 a0, (1, .one (.d (.str a1)), []), (7, .one (.sref 7 0 0 J.length), [.arr false 1 (J.map iR)]), eI 8 (U : Int)]) (fun n1 J U => a1.size < n1 + U /\ U <= a1.size /\ J.length <= 1 + 1 * U) (a1.size + 1) ([a2] : List Int) 0 (fun p1 J U e1 j1 => ?_) (h0 := wkS [((7, 0), some (10, 0))] [])
 refine cFo e1 ?_ ?_ <;> intro k2 h1 e1
 ·have q1 := h1; try simp at q1
  have c1 : a1.size <= 2326528 := Mg (xs u0)
  have w1 := wr U
  simp
  refine rpS ?_
  exact nx2 e1 (hw := Y5 [((7, 0), some (23, 0))] [] rfl (by simp [w1]))
 have q1 := h1; try simp at q1
 have c2 : a1.size <= 2326528 := Mg (xs u0)
 have f := ms f e1
 simp
 refine cRs (JB a0 J (by first | (simp (maxDischargeDepth := 12) [Ye]; omega) | (simp (maxDischargeDepth := 12) [ZN (m := 68719476736) (by decide) u0]; done))) ?_
 exact rt [.tmp 6] f
theorem Vk (a0 : Int) (a1 : ZM) (u0 : Sm 2322432 a1) : Sa 148 [rI a0, a1.row] [rI (QR a0 a1)] := by
 have f := me (QR.eq_1 a0 a1)
 refine so func148 ntmps148 ?_
 refine cRs (zC a1) ?_
 refine cF f ?_ ?_ <;> intro k1 h1 f
 ·exact rt [.tmp 4] f
 refine lp2 (kL.eq_2 a0 a1) (fun J U => Yd 38 [eI 0 a0, eX 3 (a1.row.map .d), (5, .one (.sref 5 0 0 J.length), [.arr false 1 (J.map iR)]), eI 6 (U : Int)]) (fun n1 J U => a1.Zd.length < n1 + U /\ U <= a1.Zd.length /\ J.length <= 1 + 1 * U) (a1.Zd.length + 1) ([a1.QF] : List Int) 0 (fun p1 J U e1 j1 => ?_) (h0 := wkS [((5, 0), some (12, 0))] [])
 try dsimp only at j1
 refine cF e1 ?_ ?_ <;> intro k3 h2 e1
 ·have i1 := ix h2
  have m2 := ml a1.Zd (k3 15 _ rfl)
  have c1 := sl 2322432 a1.Zd u0
  have w1 := wr U
  refine dIo mixed ?_
  have i2 : U < a1.Yh.length := by (have := Sj (a := a1); first | (simp_all; done) | (simp_all; omega))
  simp [i1, ZC, i2]
  refine rpS ?_
  refine cRs (Wq a0 (nth a1.Zd U) (nth a1.Yh U) (sg (Z2 (ZM.qb u0)))) ?_
  exact nx2 e1 (hw := Y5 [((5, 0), some (34, 0))] [] rfl (by simp [w1]))
 have c2 := sl 2322432 a1.Zd u0
 have f := ms f e1
 refine cRs (JB a0 J (by first | (simp (maxDischargeDepth := 12) [Ye]; omega) | (simp (maxDischargeDepth := 12) [ZN (m := 68719476736) (by decide) u0]; done))) ?_
 exact rt [.tmp 4] f
theorem Ko (a0 : List YJ) (a1 : Int) : Sa 136 [rL 5 YJ.row a0, rI a1] [rI (Yj a0 a1)] := by
 have f := me (Yj.eq_1 a0 a1)
 refine so func136 ntmps136 ?_
 refine lp1 (jf.eq_2 a0 a1) (fun J => Yd 20 [eL 0 5 a0 YJ.row, eI 1 a1, eI 5 (J : Int)]) (fun n1 J => a0.length < n1 + J /\ J <= a0.length) (a0.length + 1) 0 (fun p1 J e1 j1 => ?_)
 refine cFf e1 ?_ ?_ <;> intro k2 h1 e1
 ·have i1 := ix h1
  have m2 := ml a0 (k2 0 _ rfl)
  have w1 := wr J
  simp [i1, ZC]
  refine rpS ?_
  refine cF e1 ?_ ?_ <;> intro k3 h2 e1
  ·have f := ms f e1
   exact rt [.tmp 4] f
  exact ny1 w1 e1
 have f := ms f e1
 exact rt [.tmp 4] f
theorem SX (a0 : ZX) : Sa 204 [a0.row] [rB (K5 a0)] := by
 have f := me (K5.eq_1 a0)
 refine so func204 ntmps204 ?_
 refine cRs (YK a0.Key 1 99) ?_
 refine cGs (fun gg => (YK a0.Zv 1 999)) ?_
 refine cGs (fun gg => (YK a0.Method 0 99)) ?_
 refine cGs (fun gg => (YK a0.Org 0 99)) ?_
 refine cGs (fun gg => (YK a0.jk 1 3)) ?_
 refine cGs (fun gg => (YK a0.XC 0 1000000000000)) ?_
 refine cGs (fun gg => (YK a0.jt 0 1000000000000)) ?_
 refine cGs (fun gg => (YK a0.ja 0 1000000000000)) ?_
 exact rt [.tmp 2] f
theorem jA (a0 : ZX) : Sd 131 [a0.row] [rL 1 iR (Xq a0)] := by
 have f := me (Xq.eq_1 a0)
 refine soD func131 ntmps131 ?_
 exact rtD [.tmp 2] f
theorem K7 (a0 : YJ) (a1 : List Int) (u0 : Sm 2326528 a1) : Sa 138 [a0.row, rL 1 iR a1] [rI (zR a0 a1)] := by
 have f := me (zR.eq_1 a0 a1)
 refine so func138 ntmps138 ?_
 refine Nd [2, 3, 4, 5, 6, 0, 1, 7, 8] mixed (by kernel_rfl) (by kernel_rfl) (by kernel_rfl) ?_
 have c1 := sl 2326528 a1 u0
 simp
 refine rpS ?_
 refine cRs (W8 a0.Vl (([a0.Method] : List Int) ++ a1) (by simp (maxDischargeDepth := 12) [XA, Ye, ZN (m := 2330624) (by decide) u0]; try omega)) ?_
 exact rt [.tmp 4] f
theorem Rf (a0 : List YJ) (a1 : ZX) (u0 : Sm 2322432 a0) : Sa 185 [rL 5 YJ.row a0, a1.row] [(Kg a0 a1).1.row, rB (Kg a0 a1).2] := by
 have f := me (Kg.eq_1 a0 a1)
 refine so func185 ntmps185 ?_
 refine cRs (Ko a0 a1.Key) ?_
 refine cRs (SX a1) ?_
 refine cF f ?_ ?_ <;> intro k1 h1 f
 ·exact rt [.cell 4 41, .tmp 5] f
 refine dIo mixed ?_
 have i1 : (Yj a0 a1.Key).toNat < a0.length := by have := zo a0 a1.Key; exact il
 simp [i1, ZC]
 refine rpS ?_
 refine cRs (YD.rd (jA a1)) ?_
 refine cRs (K7 (nth a0 (Yj a0 a1.Key).toNat) (Xq a1) (by simp (maxDischargeDepth := 12) [qq, ZN (m := 2326528) (by decide) u0]; try omega)) ?_
 exact rt [.cell 4 41, .tmp 5] f
theorem TF (a0 : List YJ) (a1 : Int) (a2 : Int) (a3 : Int) (a4 : ZM) (a5 : Int) (u0 : Sm 2318336 a0) (u1 : Sm 2318336 a4) : Sa 133 [rL 5 YJ.row a0, rI a1, rI a2, rI a3, a4.row, rI a5] [(KE a0 a1 a2 a3 a4 a5).1.row, rB (KE a0 a1 a2 a3 a4 a5).2] := by
 have f := me (KE.eq_1 a0 a1 a2 a3 a4 a5)
 refine so func133 ntmps133 ?_
 refine cRs (Vk a3 a4 (sg u1)) ?_
 refine cRs (Rf a0 (ZX.mk a1 a2 a3 (QR a3 a4) a5 0 0 0 0) (sg u0)) ?_
 exact rt [.cell 12 41, .tmp 13] f
theorem TS (a0 : ZI) : Xt prog 84 true a0.row [] (ZY a0).1.row [(ZY a0).2.1.row, (ZY a0).2.2.row] := by
 have f := me (ZY.eq_1 a0)
 refine Y2 func84 rfl (by kernel_rfl) (fun v => ?_)
 simp [ntmps84]
 refine cBs [] (RH a0) ?_
 refine cBs [] (Zt (Zm a0).1 3) ?_
 refine UX [(0, 0), (4, 4), (21, 0)] [] [22, 3000001] mixed (by kernel_rfl) (by kernel_rfl) (by kernel_rfl) (by kernel_rfl) (by kernel_rfl) (by kernel_rfl) (by kernel_rfl) ?_
 simp
 refine cRs (YD.rd (Xr)) ?_
 refine cBs [] (Zt (ZA (Zm a0).1 3).1 3) ?_
 refine cRs (TF YU (W (11 + (ZA (Zm a0).1 3).2)) (W (1 + (ZA (Zm a0).1 3).2)) (W (1 + (ZA (Zm a0).1 3).2)) (Zm a0).2 (W (1 + (ZA (ZA (Zm a0).1 3).1 3).2)) (by simp (maxDischargeDepth := 12) [XQ]; try omega) (by simp (maxDischargeDepth := 12) [jc]; try omega)) ?_
 refine qR [(2, 2), (3, 3), (4, 4), (6, 6)] mixed (by kernel_rfl) (by kernel_rfl) (by kernel_rfl) (by kernel_rfl) ?_
 simp
 refine JS (rv := [.cell 2 41, .cell 3 39]) rfl ?_
 simp [f.h]
theorem qY (a0 : ZX) : Sd 81 [a0.row] [(Yv a0).row] := by
 have f := me (Yv.eq_1 a0)
 refine soD func81 ntmps81 ?_
 refine dIs mixed ?_
 refine cDs [false] (jA a0) ?_
 exact rtD [.cell 2 116] f
theorem O9 (a0 : YR) : Sa 206 [a0.row] [(WY a0).row] := by
 have f := me (WY.eq_1 a0)
 refine so func206 ntmps206 ?_
 exact rt [.cell 2 63] f
theorem xL (a0 : Int) : Sa 77 [rI a0] [rB (q8 a0)] := by
 have f := me (q8.eq_1 a0)
 refine so func77 ntmps77 ?_
 refine cRs (YK a0 0 10000) ?_
 exact rt [.tmp 2] f
theorem Sv (a0 : ZL) : Sa 205 [a0.row] [rB (Tx a0)] := by
 have f := me (Tx.eq_1 a0)
 refine so func205 ntmps205 ?_
 refine cRs (xL a0.Ys) ?_
 refine cGs (fun gg => (xL a0.To)) ?_
 exact rt [.tmp 2] f
theorem LO (a0 : YR) : Sa 186 [a0.row] [rB (OF a0)] := by
 have f := me (OF.eq_1 a0)
 refine so func186 ntmps186 ?_
 refine cRs (YK a0.Zv 1 999) ?_
 refine cGs (fun gg => (YK a0.Key 1 99)) ?_
 refine cGs (fun gg => (YK a0.Yo 1 99)) ?_
 refine cGs (fun gg => (YK a0.yU 0 99)) ?_
 refine cGs (fun gg => (O9 a0)) ?_
 refine cGs (fun gg => (Sv (WY a0))) ?_
 exact rt [.tmp 2] f
theorem UL (a0 : YR) : Sd 134 [a0.row] [rL 1 iR (KL a0)] := by
 have f := me (KL.eq_1 a0)
 refine soD func134 ntmps134 ?_
 exact rtD [.tmp 2] f
theorem qp (a0 : List YJ) (a1 : YR) (u0 : Sm 2322432 a0) : Sa 135 [rL 5 YJ.row a0, a1.row] [(zl a0 a1).1.row, rB (zl a0 a1).2] := by
 have f := me (zl.eq_1 a0 a1)
 refine so func135 ntmps135 ?_
 refine cRs (Ko a0 a1.Yo) ?_
 refine cRs (LO a1) ?_
 refine cGs (fun gg => (Ko a0 a1.Key)) ?_
 refine cF f ?_ ?_ <;> intro k1 h1 f
 ·exact rt [.cell 4 122, .tmp 5] f
 refine dIo mixed ?_
 have i1 : (Yj a0 a1.Yo).toNat < a0.length := by have := zo a0 a1.Yo; exact il
 simp [i1, ZC]
 refine rpS ?_
 refine cRs (YD.rd (UL a1)) ?_
 refine cRs (K7 (nth a0 (Yj a0 a1.Yo).toNat) (KL a1) (by simp (maxDischargeDepth := 12) [UT, ZN (m := 2326528) (by decide) u0]; try omega)) ?_
 exact rt [.cell 4 122, .tmp 5] f
theorem WJ : Sd 86 [] [rL 7 YR.row Y1] := by
 have f := me (Y1.eq_1)
 refine soD func86 ntmps86 ?_
 refine cRs (YD.rd (Xr)) ?_
 refine cRs (qp YU (YR.mk 1 11 1 0 60 1 0) (by simp (maxDischargeDepth := 12) [XQ]; try omega)) ?_
 refine cRs (YD.rd (Xr)) ?_
 refine cRs (qp YU (YR.mk 2 12 1 20 100 1 0) (by simp (maxDischargeDepth := 12) [XQ]; try omega)) ?_
 refine cRs (YD.rd (Xr)) ?_
 refine cRs (qp YU (YR.mk 3 13 2 40 150 2 0) (by simp (maxDischargeDepth := 12) [XQ]; try omega)) ?_
 exact rtD [.tmp 0] f
theorem W6 (a0 : YR) : Sd 85 [a0.row] [(XD a0).row] := by
 have f := me (XD.eq_1 a0)
 refine soD func85 ntmps85 ?_
 refine dIs mixed ?_
 refine cDs [false] (UL a0) ?_
 exact rtD [.cell 2 116] f
theorem NG (a0 : Zn) : Sa 137 [a0.row] [rB (U3 a0)] := by
 have f := me (U3.eq_1 a0)
 refine so func137 ntmps137 ?_
 refine cRs (YK a0.Zv 1 999) ?_
 refine cGs (fun gg => (xL a0.O0)) ?_
 refine cGs (fun gg => (YK a0.yb (-1) (W (a0.O0 + 1)))) ?_
 refine cGs (fun gg => (YK a0.Yo 1 99)) ?_
 exact rt [.tmp 2] f
theorem Wr (a0 : Zn) : Sd 139 [a0.row] [rL 1 iR (Qv a0)] := by
 have f := me (Qv.eq_1 a0)
 refine soD func139 ntmps139 ?_
 exact rtD [.tmp 2] f
theorem xW (a0 : List YJ) (a1 : Zn) (u0 : Sm 2322432 a0) : Sa 87 [rL 5 YJ.row a0, a1.row] [(X1 a0 a1).1.row, rB (X1 a0 a1).2] := by
 have f := me (X1.eq_1 a0 a1)
 refine so func87 ntmps87 ?_
 refine cRs (Ko a0 a1.Yo) ?_
 refine cRs (NG a1) ?_
 refine cF f ?_ ?_ <;> intro k1 h1 f
 ·exact rt [.cell 4 155, .tmp 5] f
 refine dIo mixed ?_
 have i1 : (Yj a0 a1.Yo).toNat < a0.length := by have := zo a0 a1.Yo; exact il
 simp [i1, ZC]
 refine rpS ?_
 refine cRs (YD.rd (Wr a1)) ?_
 refine cRs (K7 (nth a0 (Yj a0 a1.Yo).toNat) (Qv a1) (by simp (maxDischargeDepth := 12) [Wl, ZN (m := 2326528) (by decide) u0]; try omega)) ?_
 exact rt [.cell 4 155, .tmp 5] f
theorem zh (a0 : ZI) (a1 : Int) : Xt prog 75 false a0.row [rI a1] (Zk a0 a1).1.row [rB (Zk a0 a1).2] := by
 have f := me (Zk.eq_1 a0 a1)
 refine Y2 func75 rfl (by kernel_rfl) (fun v => ?_)
 simp [ntmps75]
 refine cBs [] (Zt a0 a1) ?_
 refine JS (rv := [.tmp 4]) rfl ?_
 simp [f.h]
theorem kg (a0 : Zn) : Sd 89 [a0.row] [(Xg a0).row] := by
 have f := me (Xg.eq_1 a0)
 refine soD func89 ntmps89 ?_
 refine dIs mixed ?_
 refine cDs [false] (Wr a0) ?_
 exact rtD [.cell 2 116] f
theorem M6 (a0 : ZE) (u0 : Sm 2342912 a0) : Sd 132 [a0.row] [(SA a0).row] := by
 have f := me (SA.eq_1 a0)
 refine soD func132 ntmps132 ?_
 refine Nd [2, 3, 4, 5, 0, 1, 6, 7, 8, 9] mixed (by kernel_rfl) (by kernel_rfl) (by kernel_rfl) ?_
 have c1 := sl 2342912 a0.Z0 u0
 simp
 refine rpS ?_
 exact rtD [.cell 2 116] f
theorem UQ (a0 : ZE) (u0 : Sm 2342912 a0) : Sd 132 [a0.row] [a0.row] := by
  have h := M6 a0 u0
  rwa [MY] at h
theorem LB (a0 : List ZE) (u0 : Sm 2338816 a0) : Sd 82 [rL 3 ZE.row a0] [rL 3 ZE.row (TA a0)] := by
 have f := me (TA.eq_1 a0)
 refine soD func82 ntmps82 ?_
 refine EM (news := (([] : List ZE).map ZE.row)) (L := []) rfl rfl rfl rfl (by simp) (by simp) (by simp) (by simp) (by simp) (by simp) ?_
 simp
 refine lp2 (ko.eq_2 a0) (fun J U => Yd 21 [eL 0 3 a0 ZE.row, (3, .one (.sref 3 0 0 J.length), [.arr true 3 (J.map ZE.row)]), eI 4 (U : Int)]) (fun n1 J U => a0.length < n1 + U /\ U <= a0.length /\ J.length <= 0 + 1 * U) (a0.length + 1) ([] : List ZE) 0 (fun p1 J U e1 j1 => ?_) (h0 := wkS [((3, 0), some (5, 0))] [])
 refine cFf e1 ?_ ?_ <;> intro k2 h1 e1
 ·have i1 := ix h1
  have m2 := ml a0 (k2 0 _ rfl)
  have c1 := sl 2338816 a0 u0
  have w1 := wr U
  simp [i1, ZC]
  refine rpS ?_
  refine cDs [true, false] (UQ (nth a0 U) (sg (Z2 u0))) ?_
  refine Vq ?_
  simp
  refine UB (wI := (J.map ZE.row)) (news := (([(nth a0 U)] : List ZE).map ZE.row)) (l1 := [(3, 0)]) (l2 := [(17, 1)]) (size := 3) ?_
  simp
  exact nx2 e1 (hw := Y5 [((3, 0), some (19, 0))] [] rfl (by simp [w1]))
 have c2 := sl 2338816 a0 u0
 have f := ms f e1
 exact rtD [.tmp 2] f
theorem Ms (a0 : List ZE) (u0 : Sm 2338816 a0) : Sd 82 [rL 3 ZE.row a0] [rL 3 ZE.row a0] := by
  have h := LB a0 u0
  rwa [LX] at h
theorem N4 (a0 : ZK) (u0 : Sm 2342912 a0) : Sd 83 [a0.row] [(SS a0).row] := by
 have f := me (SS.eq_1 a0)
 have c1 := sl 2342912 a0.Path u0
 have c2 := sl 2342912 a0.Z7 u0
 refine soD func83 ntmps83 ?_
 exact rtD [.cell 2 140] f
theorem Ua (a0 : ZK) (u0 : Sm 2342912 a0) : Sd 83 [a0.row] [a0.row] := by
  have h := N4 a0 u0
  rwa [M1] at h
theorem Mf (a0 : ZG) (u0 : Sm 2334720 a0) : Sd 47 [a0.row] [(V1 a0).row] := by
 have f := me (V1.eq_1 a0)
 refine soD func47 ntmps47 ?_
 refine cDs [] (Ms a0.ZO (sg (ZG.XJ u0))) ?_
 refine lp2 (jG.eq_2 a0) (fun J U => Yd 28 [eX 1 (a0.row.map .d), (2, .one (.bptr 2 0), [.box [.nil 3, .nil 5]]), (3, .one (.bptr 3 0), [.box [.sref 7 0 0 a0.ZO.length, .sref 3 2 0 U.length], .none, .arr true 5 (U.map ZK.row)]), eI 4 (J : Int), (7, .any, [.arr true 3 (a0.ZO.map ZE.row)])]) (fun n1 J U => a0.ZJ.length < n1 + J /\ J <= a0.ZJ.length /\ U.length <= 0 + 1 * J) (a0.ZJ.length + 1) 0 ([] : List ZK) (fun p1 J U e1 j1 => ?_) (h0 := wkS [((3, 2), none)] [])
 refine cF e1 ?_ ?_ <;> intro k2 h1 e1
 ·have i1 := ix h1
  have m2 := ml a0.ZJ (k2 11 _ rfl)
  have c1 := sl 2334720 a0.ZJ u0
  have w1 := wr J
  refine drJ [25] mixed ?_
  simp [i1, ZC]
  refine rpS ?_
  refine cDs [true, true, true, false, false] (Ua (nth a0.ZJ J) (sg (Z2 (ZG.KB u0)))) ?_
  refine Vq ?_
  simp
  refine UB (wI := (U.map ZK.row)) (news := (([(nth a0.ZJ J)] : List ZK).map ZK.row)) (l1 := [(3, 2)]) (l2 := [(23, 3), (23, 4)]) (size := 5) ?_
  simp
  exact nx2 e1 (hw := Y5 [((3, 2), some (25, 0))] [] rfl (by simp [w1]))
 have c2 := sl 2334720 a0.ZJ u0
 have f := ms f e1
 exact rtD [.cell 2 45] f
theorem K1 (a0 : ZG) (u0 : Sm 2334720 a0) : Sd 47 [a0.row] [a0.row] := by
  have h := Mf a0 u0
  rwa [MA] at h
theorem Pz (a0 : List Int) (a1 : List Int) : Sa 130 [rL 1 iR a0, rL 1 iR a1] [rB (VW a0 a1)] := by
 have f := me (VW.eq_1 a0 a1)
 refine so func130 ntmps130 ?_
 refine cF f ?_ ?_ <;> intro k1 h1 f
 ·exact rt [.tmp 4] f
 refine lp1 (kH.eq_2 a0 a1) (fun J => Yd 26 [eL 0 1 a0 iR, eL 1 1 a1 iR, eI 5 (J : Int)]) (fun n1 J => a0.length < n1 + J /\ J <= a0.length) (a0.length + 1) 0 (fun p1 J e1 j1 => ?_)
 refine cF e1 ?_ ?_ <;> intro k3 h2 e1
 ·have i1 := ix h2
  have m2 := ml a0 (k3 0 _ rfl)
  have w1 := wr J
  refine dIo mixed ?_
  have i2 := ik J a1
  simp [i1, ZC, i2]
  refine rpS ?_
  refine cF e1 ?_ ?_ <;> intro k5 h3 e1
  ·have f := ms f e1
   exact rt [.tmp 4] f
  exact ny1 w1 e1
 have f := ms f e1
 exact rt [.tmp 4] f
theorem ki (a0 : ZE) (a1 : ZE) : Sa 80 [a0.row, a1.row] [rB (y0 a0 a1)] := by
 have f := me (y0.eq_1 a0 a1)
 refine so func80 ntmps80 ?_
 refine cGs (fun gg => (Pz a0.Z0 a1.Z0)) ?_
 exact rt [.tmp 4] f
theorem PJ (a0 : ZG) (a1 : ZE) : Sa 129 [a0.row, a1.row] [rI (jU a0 a1)] := by
 have f := me (jU.eq_1 a0 a1)
 refine so func129 ntmps129 ?_
 refine lp1 (jr.eq_2 a0 a1) (fun J => Yd 21 [eX 2 (a0.row.map .d), eX 3 (a1.row.map .d), eI 5 (J : Int)]) (fun n1 J => a0.ZO.length < n1 + J /\ J <= a0.ZO.length) (a0.ZO.length + 1) 0 (fun p1 J e1 j1 => ?_)
 refine cF e1 ?_ ?_ <;> intro k2 h1 e1
 ·have i1 := ix h1
  have m2 := ml a0.ZO (k2 8 _ rfl)
  have w1 := wr J
  refine dIo mixed ?_
  simp [i1, ZC]
  refine rpS ?_
  refine cRs (ki (nth a0.ZO J) a1) ?_
  refine cF e1 ?_ ?_ <;> intro k4 h2 e1
  ·have f := ms f e1
   exact rt [.tmp 4] f
  exact ny1 w1 e1
 have f := ms f e1
 exact rt [.tmp 4] f
theorem j5 (a0 : ZG) : Sa 79 [a0.row] [rB (zU a0)] := by
 have f := me (zU.eq_1 a0)
 refine so func79 ntmps79 ?_
 refine lp1 (ya.eq_2 a0) (fun J => Yd 69 [eX 1 (a0.row.map .d), eI 3 (J : Int)]) (fun n1 J => a0.ZO.length < n1 + J /\ J <= a0.ZO.length) (a0.ZO.length + 1) 0 (fun p1 J e1 j1 => ?_)
 refine cF e1 ?_ ?_ <;> intro k2 h1 e1
 ·have i1 := ix h1
  have m2 := ml a0.ZO (k2 7 _ rfl)
  have w1 := wr J
  refine dIo mixed ?_
  simp [i1, ZC]
  refine rpS ?_
  refine cRs (PJ a0 (nth a0.ZO J)) ?_
  refine cF e1 ?_ ?_ <;> intro k4 h2 e1
  ·have f := ms f e1
   exact rt [.tmp 2] f
  exact ny1 w1 e1
 have f := ms f e1
 refine lp1 (yF.eq_2 a0) (fun wD => Yd 69 [eX 1 (a0.row.map .d), eI 4 (wD : Int)]) (fun n2 wD => a0.ZJ.length < n2 + wD /\ wD <= a0.ZJ.length) (a0.ZJ.length + 1) 0 (fun p2 wD e2 j2 => ?_)
 refine cF e2 ?_ ?_ <;> intro k6 h3 e2
 ·have i2 := ix h3
  have m4 := ml a0.ZJ (k6 23 _ rfl)
  have w2 := wr wD
  refine dIo mixed ?_
  simp [i2, ZC]
  refine rpS ?_
  refine cRs (YK (nth a0.ZJ wD).Count 1 (a0.ZO.length : Int)) ?_
  refine gIf ?_ ?_ <;> intro G
  ·have i3 := ik (wD - 1) a0.ZJ
   have w3 : IntKind.i64.wrap ((wD : Int) - 1) = (wD : Int) - 1 := YS (by omega) (by omega)
   simp [i3, ZC, w3, J9, G]
   refine rpG ?_
   refine gK (fun _ => ?_)
   simp [i2, ZC, G]
   refine rpG ?_
   refine cKo e2 ?_ ?_ <;> intro k8 h4 e2
   ·have q4 := h4; try simp [YE] at q4
    have f := ms f e2
    simp [G]
    refine rpG ?_
    exact rtg [.tmp 2] f
   ·have q4 := h4; try simp [YE] at q4
    simp [G]
    refine rpG ?_
    exact ny1 (an w2 (an w3 G)) e2
  ·refine sGg ?_
   refine cKo e2 ?_ ?_ <;> intro k9 h5 e2
   ·have q5 := h5; try simp [YE] at q5
    have f := ms f e2
    simp [G]
    refine rpG ?_
    exact rtg [.tmp 2] f
   ·have q5 := h5; try simp [YE] at q5
    simp [G]
    refine rpG ?_
    exact ny1 (an w2 G) e2
 have f := ms f e2
 refine cRs (YK (a0.ZO.length : Int) 1 12) ?_
 exact rt [.tmp 2] f
theorem j9 (a0 : ZG) (a1 : ZE) (u0 : Sm 2326528 a0) (u1 : Sm 2326528 a1) : Sd 88 [a0.row, a1.row] [(QC a0 a1).1.row, rB (QC a0 a1).2] := by
 have f := me (QC.eq_1 a0 a1)
 refine soD func88 ntmps88 ?_
 refine cDs [] (K1 a0 (sg u0)) ?_
 refine drJ [14] mixed ?_
 simp
 refine cDs [true, false] (UQ a1 (sg u1)) ?_
 refine Vq ?_
 have c1 := sl 2326528 a0.ZO (an u0 u1)
 simp
 refine UB (wI := (a0.ZO.map ZE.row)) (news := (([a1] : List ZE).map ZE.row)) (l1 := [(8, 0)]) (l2 := [(12, 1)]) (size := 3) ?_
 simp
 refine cRs (j5 (ZG.mk (a0.ZO ++ ([a1] : List ZE)) a0.ZJ)) ?_
 refine cF f ?_ ?_ <;> intro k2 h1 f
 ·refine cDs [] (K1 a0 (sg u0)) ?_
  exact rtD [.cell 4 45, .tmp 5] f
 exact rtD [.cell 4 45, .tmp 5] f
theorem MD (a0 : ZI) : Xt prog 140 false a0.row [] (qG a0).1.row [(qG a0).2.row] := by
 have f := me (qG.eq_1 a0)
 refine Y2 func140 rfl (by kernel_rfl) (fun v => ?_)
 simp [ntmps140]
 refine cBs [] (Zt a0 60) ?_
 refine cBs [] (Zt (ZA a0 60).1 3) ?_
 refine cBs [] (Zt (ZA (ZA a0 60).1 3).1 2) ?_
 refine cBs [] (zh (ZA (ZA (ZA a0 60).1 3).1 2).1 3) ?_
 refine cF f ?_ ?_ <;> intro k1 h1 f
 ·refine cBs [] (Zt (Zk (ZA (ZA (ZA a0 60).1 3).1 2).1 3).1 (W ((ZA a0 60).2 + 2))) ?_
  refine dIs mixed ?_
  refine cRs (YD.rd (Xr)) ?_
  refine cRs (xW YU (Zn.mk (W (1 + (ZA (ZA a0 60).1 3).2)) (ZA a0 60).2 (ZA (Zk (ZA (ZA (ZA a0 60).1 3).1 2).1 3).1 (W ((ZA a0 60).2 + 2))).2 (W (1 + (ZA (ZA (ZA a0 60).1 3).1 2).2)) 0) (by simp (maxDischargeDepth := 12) [XQ]; try omega)) ?_
  refine JS (rv := [.cell 2 155]) rfl ?_
  simp [f.h]
 refine dIs mixed ?_
 refine cRs (YD.rd (Xr)) ?_
 refine cRs (xW YU (Zn.mk (W (1 + (ZA (ZA a0 60).1 3).2)) (ZA a0 60).2 (-1) (W (1 + (ZA (ZA (ZA a0 60).1 3).1 2).2)) 0) (by simp (maxDischargeDepth := 12) [XQ]; try omega)) ?_
 refine JS (rv := [.cell 2 155]) rfl ?_
 simp [f.h]
theorem qW (a0 : List ZP) (a1 : Int) : Sa 188 [rL 3 ZP.row a0, rI a1] [rI (Yb a0 a1)] := by
 have f := me (Yb.eq_1 a0 a1)
 refine so func188 ntmps188 ?_
 refine lp1 (J4.eq_2 a0 a1) (fun J => Yd 20 [eL 0 3 a0 ZP.row, eI 1 a1, eI 5 (J : Int)]) (fun n1 J => a0.length < n1 + J /\ J <= a0.length) (a0.length + 1) 0 (fun p1 J e1 j1 => ?_)
 refine cFf e1 ?_ ?_ <;> intro k2 h1 e1
 ·have i1 := ix h1
  have m2 := ml a0 (k2 0 _ rfl)
  have w1 := wr J
  simp [i1, ZC]
  refine rpS ?_
  refine cF e1 ?_ ?_ <;> intro k3 h2 e1
  ·have f := ms f e1
   exact rt [.tmp 4] f
  exact ny1 w1 e1
 have f := ms f e1
 exact rt [.tmp 4] f
theorem qX (a0 : ZV) : Sd 187 [a0.row] [rL 1 iR (Qt a0)] := by
 have f := me (Qt.eq_1 a0)
 refine soD func187 ntmps187 ?_
 exact rtD [.tmp 2] f
theorem W9 (a0 : List YJ) (a1 : List ZP) (a2 : ZV) (u0 : Sm 2322432 a0) (u1 : Sm 2322432 a1) : Sa 151 [rL 5 YJ.row a0, rL 3 ZP.row a1, a2.row] [(zY a0 a1 a2).1.row, rB (zY a0 a1 a2).2] := by
 have f := me (zY.eq_1 a0 a1 a2)
 refine so func151 ntmps151 ?_
 refine cRs (qW a1 a2.Authority) ?_
 refine cGs (fun gg => (xL a2.Time)) ?_
 refine cFt f ?_ ?_ <;> intro k1 h1 f
 ·exact rt [.cell 6 180, .tmp 7] f
 have i1 : (Yb a1 a2.Authority).toNat < a1.length := by have := qt a1 a2.Authority; exact il
 simp [i1, ZC]
 refine rpS ?_
 refine cRs (Ko a0 (nth a1 (Yb a1 a2.Authority).toNat).Key) ?_
 refine cF f ?_ ?_ <;> intro k2 h2 f
 ·exact rt [.cell 6 180, .tmp 7] f
 refine dIo mixed ?_
 have i2 : (Yj a0 (nth a1 (Yb a1 a2.Authority).toNat).Key).toNat < a0.length := by have := zo a0 (nth a1 (Yb a1 a2.Authority).toNat).Key; exact il
 simp [i2, ZC]
 refine rpS ?_
 refine cRs (YD.rd (qX a2)) ?_
 refine cRs (K7 (nth a0 (Yj a0 (nth a1 (Yb a1 a2.Authority).toNat).Key).toNat) (Qt a2) (by simp (maxDischargeDepth := 12) [VR, ZN (m := 2326528) (by decide) u0, ZN (m := 2326528) (by decide) u1]; try omega)) ?_
 exact rt [.cell 6 180, .tmp 7] f
theorem Ou (a0 : ZI) : Xt prog 141 false a0.row [] (Jm a0).1.row [(Jm a0).2.row] := by
 have f := me (Jm.eq_1 a0)
 refine Y2 func141 rfl (by kernel_rfl) (fun v => ?_)
 simp [ntmps141]
 refine cRs (YD.rd (Xr)) ?_
 refine cRs (YD.rd (QG)) ?_
 refine cBs [] (Zt a0 4) ?_
 refine cBs [] (Zt (ZA a0 4).1 9) ?_
 refine cBs [] (Zt (ZA (ZA a0 4).1 9).1 60) ?_
 refine cBs [] (Zt (ZA (ZA (ZA a0 4).1 9).1 60).1 99) ?_
 refine cRs (W9 YU YN (ZV.mk (W (1 + (ZA a0 4).2)) (ZA (ZA a0 4).1 9).2 (ZA (ZA (ZA a0 4).1 9).1 60).2 (ZA (ZA (ZA (ZA a0 4).1 9).1 60).1 99).2 0) (by simp (maxDischargeDepth := 12) [XQ]; try omega) (by simp (maxDischargeDepth := 12) [Xo]; try omega)) ?_
 refine JS (rv := [.cell 2 180]) rfl ?_
 simp [f.h]
theorem O7 (a0 : List ZP) (a1 : ZV) : Sa 143 [rL 3 ZP.row a0, a1.row] [rI (WD a0 a1)] := by
 have f := me (WD.eq_1 a0 a1)
 refine so func143 ntmps143 ?_
 refine cRs (qW a0 a1.Authority) ?_
 refine cFt f ?_ ?_ <;> intro k1 h1 f
 ·exact rt [.tmp 4] f
 have i1 : (Yb a0 a1.Authority).toNat < a0.length := by have := qt a0 a1.Authority; exact il
 simp [i1, ZC]
 refine rpS ?_
 exact rt [.tmp 4] f
theorem RQ (a0 : Int) (a1 : ZV) : Sd 142 [rI a0, a1.row] [(qC a0 a1).row] := by
 have f := me (qC.eq_1 a0 a1)
 refine soD func142 ntmps142 ?_
 refine dIs mixed ?_
 refine cDs [false] (qX a1) ?_
 exact rtD [.cell 4 116] f
theorem Pk (a0 : Zx) : Sa 207 [a0.row] [rB (Vt a0)] := by
 have f := me (Vt.eq_1 a0)
 refine so func207 ntmps207 ?_
 refine cRs (YK a0.Org 1 99) ?_
 refine cGs (fun gg => (YK a0.jx 0 99)) ?_
 refine cGs (fun gg => (YK a0.Key 1 99)) ?_
 refine cGs (fun gg => (Sv (ZL.mk a0.Ys a0.To))) ?_
 exact rt [.tmp 2] f
theorem kS (a0 : Zx) : Sd 189 [a0.row] [rL 1 iR (QS a0)] := by
 have f := me (QS.eq_1 a0)
 refine soD func189 ntmps189 ?_
 exact rtD [.tmp 2] f
theorem T7 (a0 : List YJ) (a1 : Zx) (u0 : Sm 2322432 a0) : Sa 190 [rL 5 YJ.row a0, a1.row] [(y5 a0 a1).1.row, rB (y5 a0 a1).2] := by
 have f := me (y5.eq_1 a0 a1)
 refine so func190 ntmps190 ?_
 refine cRs (Ko a0 a1.Key) ?_
 refine cRs (Pk a1) ?_
 refine cF f ?_ ?_ <;> intro k1 h1 f
 ·exact rt [.cell 4 192, .tmp 5] f
 refine dIo mixed ?_
 have i1 : (Yj a0 a1.Key).toNat < a0.length := by have := zo a0 a1.Key; exact il
 simp [i1, ZC]
 refine rpS ?_
 refine cRs (YD.rd (kS a1)) ?_
 refine cRs (K7 (nth a0 (Yj a0 a1.Key).toNat) (QS a1) (by simp (maxDischargeDepth := 12) [km, ZN (m := 2326528) (by decide) u0]; try omega)) ?_
 exact rt [.cell 4 192, .tmp 5] f
theorem Mv (a0 : ZI) : Xt prog 145 false a0.row [] (qH a0).1.row [(qH a0).2.row] := by
 have f := me (qH.eq_1 a0)
 refine Y2 func145 rfl (by kernel_rfl) (fun v => ?_)
 simp [ntmps145]
 refine cBs [] (Zt a0 40) ?_
 refine cRs (YD.rd (Xr)) ?_
 refine cBs [] (Zt (ZA a0 40).1 2) ?_
 refine cBs [] (Zt (ZA (ZA a0 40).1 2).1 30) ?_
 refine cRs (T7 YU (Zx.mk 50 (W (1 + (ZA (ZA a0 40).1 2).2)) (ZA a0 40).2 (W ((ZA a0 40).2 + (ZA (ZA (ZA a0 40).1 2).1 30).2)) 21 0) (by simp (maxDischargeDepth := 12) [XQ]; try omega)) ?_
 refine JS (rv := [.cell 2 192]) rfl ?_
 simp [f.h]
theorem Tn (a0 : Zx) : Sd 144 [a0.row] [(yD a0).row] := by
 have f := me (yD.eq_1 a0)
 refine soD func144 ntmps144 ?_
 refine dIs mixed ?_
 refine cDs [false] (kS a0) ?_
 exact rtD [.cell 2 116] f
theorem N1 {a b : Prop} (h : b) (k : a := by (intros; first | omega | with_unfolding_all (first | first | omega | (have z := YY (ZA a0 5).1 3; have hl := xA; omega)) | ((try simp only [Yw, show ∀ x, IntKind.i64.wrap x = W x from fun _ => rfl] at *); omega))) : a /\ b := ⟨k, h⟩
theorem Tm (a0 : ZI) : Xt prog 90 true a0.row [] (JP a0).1.row [(JP a0).2.row] := by
 have f := me (JP.eq_1 a0)
 refine Y2 func90 rfl (by kernel_rfl) (fun v => ?_)
 simp [ntmps90]
 refine cBs [] (Zt a0 5) ?_
 refine cF f ?_ ?_ <;> intro k1 h1 f
 ·refine cRs (YD.rd (WJ)) ?_
  refine cBo [] (Zt (ZA a0 5).1 3) ?_
  have i1 : (ZA (ZA a0 5).1 3).2.toNat < Y1.length := by (have z := YY (ZA a0 5).1 3; have hl := xA; omega)
  simp [i1, ZC]
  repeat with_reducible refine N1 ?_
  refine cDs [true, false] (W6 (nth Y1 (ZA (ZA a0 5).1 3).2.toNat)) ?_
  refine JS (rv := [.cell 2 116]) rfl ?_
  simp [f.h]
 refine cF f ?_ ?_ <;> intro k2 h2 f
 ·refine cBs [] (MD (ZA a0 5).1) ?_
  refine cDs [true, false] (kg (qG (ZA a0 5).1).2) ?_
  refine JS (rv := [.cell 2 116]) rfl ?_
  simp [f.h]
 refine cF f ?_ ?_ <;> intro k3 h3 f
 ·refine cBs [] (Ou (ZA a0 5).1) ?_
  refine dIs mixed ?_
  refine cRs (YD.rd (QG)) ?_
  refine cRs (O7 YN (Jm (ZA a0 5).1).2) ?_
  refine cDs [true, false] (RQ (WD YN (Jm (ZA a0 5).1).2) (Jm (ZA a0 5).1).2) ?_
  refine JS (rv := [.cell 2 116]) rfl ?_
  simp [f.h]
 refine cF f ?_ ?_ <;> intro k5 h4 f
 ·refine cBs [] (TS (ZA a0 5).1) ?_
  refine cDs [true, false] (qY (ZY (ZA a0 5).1).2.1) ?_
  refine JS (rv := [.cell 2 116]) rfl ?_
  simp [f.h]
 refine cBs [] (Mv (ZA a0 5).1) ?_
 refine cDs [true, false] (Tn (qH (ZA a0 5).1).2) ?_
 refine JS (rv := [.cell 2 116]) rfl ?_
 simp [f.h]
theorem VK {a b : Prop} (h : b) (k : a := by (intros; first | omega | with_unfolding_all (first | first | omega | (have z := YY (Zm a0).1 3; have zs := UW a0; have hl := xA; simp only [Yw] at *; omega)) | ((try simp only [Yw, show ∀ x, IntKind.i64.wrap x = W x from fun _ => rfl] at *); omega))) : a /\ b := ⟨k, h⟩
theorem PH (a0 : ZI) : Xt prog 48 false a0.row [] (Zj a0).1.row [(Zj a0).2.1.row, (Zj a0).2.2.1.row, (Zj a0).2.2.2.row] := by
 have f := me (Zj.eq_1 a0)
 refine Y2 func48 rfl (by kernel_rfl) (fun v => ?_)
 simp [ntmps48]
 refine cBs [] (TS a0) ?_
 refine dIs mixed ?_
 refine cRs (YD.rd (qY (ZY a0).2.1)) ?_
 refine cR (YD.rd (WJ)) ?_
 have i1 : (W ((ZY a0).2.1.Zv - 1)).toNat < Y1.length := by (have z := YY (Zm a0).1 3; have zs := UW a0; have hl := xA; simp only [Yw]; omega)
 simp [i1, ZC]
 repeat with_reducible refine VK ?_
 refine cRs (YD.rd (W6 (nth Y1 (W ((ZY a0).2.1.Zv - 1)).toNat))) ?_
 refine eIs ?_
 refine UX [(0, 0), (5, 5), (28, 5), (30, 0), (34, 5)] [] [32, 2000031, 3000001] mixed (by kernel_rfl) (by kernel_rfl) (by kernel_rfl) (by kernel_rfl) (by kernel_rfl) (by kernel_rfl) (by kernel_rfl) ?_
 simp
 refine cRs (YD.rd (Xr)) ?_
 refine bsD ?_
 simp
 refine cBs [] (yv (ZY a0).1 ([10, 30, 60, 90] : List Int) (by first | omega | (simp; done) | (simp; omega))) ?_
 refine cR (YD.rd (WJ)) ?_
 simp [i1, ZC]
 repeat with_reducible refine VK ?_
 refine cRs (xW YU (Zn.mk (ZY a0).2.1.Zv (Z3 (ZY a0).1 ([10, 30, 60, 90] : List Int)).2 (-1) (nth Y1 (W ((ZY a0).2.1.Zv - 1)).toNat).Yo 0) (by simp (maxDischargeDepth := 12) [XQ]; try omega)) ?_
 refine cBs [] (zh (Z3 (ZY a0).1 ([10, 30, 60, 90] : List Int)).1 4) ?_
 refine cF f ?_ ?_ <;> intro k3 h1 f
 ·refine okD fun k4 => ?_
  refine dIs mixed ?_
  refine cRs (YD.rd (kg (X1 YU (Zn.mk (ZY a0).2.1.Zv (Z3 (ZY a0).1 ([10, 30, 60, 90] : List Int)).2 (-1) (nth Y1 (W ((ZY a0).2.1.Zv - 1)).toNat).Yo 0)).1)) ?_
  refine cDs [] (j9 (ZG.mk ([(Yv (ZY a0).2.1), (XD (nth Y1 (W ((ZY a0).2.1.Zv - 1)).toNat))] : List ZE) ([] : List ZK)) (Xg (X1 YU (Zn.mk (ZY a0).2.1.Zv (Z3 (ZY a0).1 ([10, 30, 60, 90] : List Int)).2 (-1) (nth Y1 (W ((ZY a0).2.1.Zv - 1)).toNat).Yo 0)).1) (by first | with_reducible exact Qo (by decide) | with_reducible exact Xc (by decide) | with_reducible exact Kf _ _ | with_reducible exact Ks _ _ _) (by first | with_reducible exact Qo (by decide) | with_reducible exact Xc (by decide) | with_reducible exact Kf _ _ | with_reducible exact Ks _ _ _)) ?_
  refine cBs [] (zh (Zk (Z3 (ZY a0).1 ([10, 30, 60, 90] : List Int)).1 4).1 4) ?_
  refine cF f ?_ ?_ <;> intro k5 h2 f
  ·refine okD fun k6 => ?_
   refine UX [(0, 0), (7, 7), (58, 0)] [] [59, 3000001] mixed (by kernel_rfl) (by kernel_rfl) (by kernel_rfl) (by kernel_rfl) (by kernel_rfl) (by kernel_rfl) (by kernel_rfl) ?_
   simp
   refine cBs [] (Tm (Zk (Zk (Z3 (ZY a0).1 ([10, 30, 60, 90] : List Int)).1 4).1 4).1) ?_
   refine cDs [] (j9 (QC (ZG.mk ([(Yv (ZY a0).2.1), (XD (nth Y1 (W ((ZY a0).2.1.Zv - 1)).toNat))] : List ZE) ([] : List ZK)) (Xg (X1 YU (Zn.mk (ZY a0).2.1.Zv (Z3 (ZY a0).1 ([10, 30, 60, 90] : List Int)).2 (-1) (nth Y1 (W ((ZY a0).2.1.Zv - 1)).toNat).Yo 0)).1)).1 (JP (Zk (Zk (Z3 (ZY a0).1 ([10, 30, 60, 90] : List Int)).1 4).1 4).1).2 (by first | with_reducible exact Qo (by decide) | with_reducible exact Xc (by decide) | with_reducible exact Kf _ _ | with_reducible exact Ks _ _ _) (by first | with_reducible exact Qo (by decide) | with_reducible exact Xc (by decide) | with_reducible exact Kf _ _ | with_reducible exact Ks _ _ _)) ?_
   refine qR [(2, 2), (3, 3), (4, 4), (5, 5), (6, 6), (7, 7)] mixed (by kernel_rfl) (by kernel_rfl) (by kernel_rfl) (by kernel_rfl) ?_
   simp
   refine JS (rv := [.cell 2 45, .cell 3 39, .cell 4 41]) rfl ?_
   simp [f.h]
  refine qR [(2, 2), (3, 3), (4, 4), (5, 5), (6, 6), (7, 7)] mixed (by kernel_rfl) (by kernel_rfl) (by kernel_rfl) (by kernel_rfl) ?_
  simp
  refine JS (rv := [.cell 2 45, .cell 3 39, .cell 4 41]) rfl ?_
  simp [f.h]
 refine cBs [] (zh (Zk (Z3 (ZY a0).1 ([10, 30, 60, 90] : List Int)).1 4).1 4) ?_
 refine cF f ?_ ?_ <;> intro k9 h3 f
 ·refine okD fun l6 => ?_
  refine UX [(0, 0), (7, 7), (58, 0)] [] [59, 3000001] mixed (by kernel_rfl) (by kernel_rfl) (by kernel_rfl) (by kernel_rfl) (by kernel_rfl) (by kernel_rfl) (by kernel_rfl) ?_
  simp
  refine cBs [] (Tm (Zk (Zk (Z3 (ZY a0).1 ([10, 30, 60, 90] : List Int)).1 4).1 4).1) ?_
  refine cDs [] (j9 (ZG.mk ([(Yv (ZY a0).2.1), (XD (nth Y1 (W ((ZY a0).2.1.Zv - 1)).toNat))] : List ZE) ([] : List ZK)) (JP (Zk (Zk (Z3 (ZY a0).1 ([10, 30, 60, 90] : List Int)).1 4).1 4).1).2 (by first | with_reducible exact Qo (by decide) | with_reducible exact Xc (by decide) | with_reducible exact Kf _ _ | with_reducible exact Ks _ _ _) (by first | with_reducible exact Qo (by decide) | with_reducible exact Xc (by decide) | with_reducible exact Kf _ _ | with_reducible exact Ks _ _ _)) ?_
  refine qR [(2, 2), (3, 3), (4, 4), (5, 5), (6, 6), (7, 7)] mixed (by kernel_rfl) (by kernel_rfl) (by kernel_rfl) (by kernel_rfl) ?_
  simp
  refine JS (rv := [.cell 2 45, .cell 3 39, .cell 4 41]) rfl ?_
  simp [f.h]
 refine qR [(2, 2), (3, 3), (4, 4), (5, 5), (6, 6), (7, 7)] mixed (by kernel_rfl) (by kernel_rfl) (by kernel_rfl) (by kernel_rfl) ?_
 simp
 refine JS (rv := [.cell 2 45, .cell 3 39, .cell 4 41]) rfl ?_
 simp [f.h]
theorem xa (a0 : ZG) (a1 : ZK) (u0 : Sm 2326528 a0) (u1 : Sm 2326528 a1) : Sd 91 [a0.row, a1.row] [(Zz a0 a1).1.row, rB (Zz a0 a1).2] := by
 have f := me (Zz.eq_1 a0 a1)
 refine soD func91 ntmps91 ?_
 refine cDs [] (K1 a0 (sg u0)) ?_
 refine drJ [14] mixed ?_
 simp
 refine cDs [true, true, true, false, false] (Ua a1 (sg u1)) ?_
 refine Vq ?_
 have c1 := sl 2326528 a0.ZJ (an u0 u1)
 simp
 refine UB (wI := (a0.ZJ.map ZK.row)) (news := (([a1] : List ZK).map ZK.row)) (l1 := [(8, 1)]) (l2 := [(12, 3), (12, 4)]) (size := 5) ?_
 simp
 refine cRs (j5 (ZG.mk a0.ZO (a0.ZJ ++ ([a1] : List ZK)))) ?_
 refine cF f ?_ ?_ <;> intro k2 h1 f
 ·refine cDs [] (K1 a0 (sg u0)) ?_
  exact rtD [.cell 4 45, .tmp 5] f
 exact rtD [.cell 4 45, .tmp 5] f
theorem Rq (a0 : ZG) (a1 : ZM) (u0 : Sm 2318336 a0) (u1 : Sm 2318336 a1) : Sd 93 [a0.row, a1.row] [rL 1 iR (Xl a0 a1)] := by
 have f := me (Xl.eq_1 a0 a1)
 refine soD func93 ntmps93 ?_
 refine lp2 (KD.eq_2 a0 a1) (fun J U => Yd 27 [eX 2 (a0.row.map .d), eX 3 (a1.row.map .d), (5, .one (.sref 5 0 0 J.length), [.arr false 1 (J.map iR)]), eI 6 (U : Int)]) (fun n1 J U => a0.ZJ.length < n1 + U /\ U <= a0.ZJ.length /\ J.length <= 0 + 1 * U) (a0.ZJ.length + 1) ([] : List Int) 0 (fun p1 J U e1 j1 => ?_) (h0 := wkS [((5, 0), some (7, 0))] [])
 refine cF e1 ?_ ?_ <;> intro k2 h1 e1
 ·have i1 := ix h1
  have m2 := ml a0.ZJ (k2 10 _ rfl)
  have c1 := sl 2318336 a0.ZJ (an u0 u1)
  have w1 := wr U
  refine dIo mixed ?_
  simp [i1, ZC]
  refine rpS ?_
  refine cRs (Vk (nth a0.ZJ U).Method a1 (sg u1)) ?_
  exact nx2 e1 (hw := Y5 [((5, 0), some (25, 0))] [] rfl (by simp [w1]))
 have c2 := sl 2318336 a0.ZJ (an u0 u1)
 have f := ms f e1
 exact rtD [.tmp 4] f
theorem Uf (a0 : Int) (a1 : ZK) (u0 : Sm 2326528 a1) : Sa 146 [rI a0, a1.row] [rI (zB a0 a1)] := by
 have f := me (zB.eq_1 a0 a1)
 refine so func146 ntmps146 ?_
 refine lp2 (J3.eq_2 a1) (fun J U => Yd 75 [eI 0 a0, eX 3 (a1.row.map .d), (5, .one (.sref 5 0 0 J.length), [.arr false 1 (J.map iR)]), eI 6 (U : Int)]) (fun n1 J U => a1.Path.length < n1 + U /\ U <= a1.Path.length /\ J.length <= 4 + 2 * U) (a1.Path.length + 1) ([4, a1.Count, a1.Method, a1.LA] : List Int) 0 (fun p1 J U e1 j1 => ?_) (h0 := wkS [((5, 0), some (14, 0))] [])
 refine cFo e1 ?_ ?_ <;> intro k2 h1 e1
 ·have q1 := h1; try simp at q1
  have i1 := ix h1
  have m2 := ml a1.Path (k2 17 _ rfl)
  have c1 := sl 2326528 a1.Path u0
  have w1 := wr U
  simp [i1, ZC]
  refine rpS ?_
  refine cFo e1 ?_ ?_ <;> intro k3 h2 e1
  ·have q2 := h2; try simp at q2
   simp
   refine rpS ?_
   exact nx2 e1 (hw := Y5 [((5, 0), some (39, 0))] [] rfl (by simp [w1]))
  have q2 := h2; try simp at q2
  simp
  refine rpS ?_
  exact nx2 e1 (hw := Y5 [((5, 0), some (42, 0))] [] rfl (by simp [w1]))
 have q1 := h1; try simp at q1
 have c2 := sl 2326528 a1.Path u0
 have f := ms f e1
 simp
 refine rpS ?_
 refine lp2 (zu.eq_2 a1) (fun wD wE => Yd 75 [eI 0 a0, eX 3 (a1.row.map .d), (5, .one (.sref 5 0 0 wD.length), [.arr false 1 (wD.map iR)]), eI 7 (wE : Int)]) (fun n2 wD wE => a1.Z7.length < n2 + wE /\ wE <= a1.Z7.length /\ wD.length <= 5 + 2 * 2326528 + 6 * wE) (a1.Z7.length + 1) (J ++ ([(a1.Z7.length : Int)] : List Int)) 0 (fun p2 wD wE e2 j2 => ?_) (hI := by (have o : a1.Path.length <= 2326528 := Yf (xs u0); simp at *; omega)) (h0 := wkS [((5, 0), some (48, 0))] [])
 try dsimp only at j2
 refine cFo e2 ?_ ?_ <;> intro k5 h3 e2
 ·have q3 := h3; try simp at q3
  have i2 := ix h3
  have m4 := ml a1.Z7 (k5 51 _ rfl)
  have c3 := sl 2326528 a1.Z7 u0
  have w2 := wr wE
  simp
  refine dIo mixed ?_
  simp [i2, ZC]
  refine rpS ?_
  refine cRf i2 (YD.rd (qX (nth a1.Z7 wE))) ?_
  exact nx2 e2 (hI := by (simp; omega)) (hw := Y5 [((5, 0), some (71, 0))] [] rfl (by simp [w2]))
 have q3 := h3; try simp at q3
 have c4 := sl 2326528 a1.Z7 u0
 have f := ms f e2
 simp
 refine cRs (JB a0 wD (by first | (simp (maxDischargeDepth := 12) [Ye]; omega) | (simp (maxDischargeDepth := 12) [ZN (m := 68719476736) (by decide) u0]; done))) ?_
 exact rt [.tmp 4] f
theorem TZ (a0 : Int) (a1 : List ZE) (u0 : Sm 2326528 a1) : Sa 191 [rI a0, rL 3 ZE.row a1] [rI (yH a0 a1)] := by
 have f := me (yH.eq_1 a0 a1)
 refine so func191 ntmps191 ?_
 refine lp2 (yn.eq_2 a0 a1) (fun J U => Yd 39 [eI 0 a0, eL 1 3 a1 ZE.row, (5, .one (.sref 5 0 0 J.length), [.arr false 1 (J.map iR)]), eI 6 (U : Int)]) (fun n1 J U => a1.length < n1 + U /\ U <= a1.length /\ J.length <= 1 + 1 * U) (a1.length + 1) ([2] : List Int) 0 (fun p1 J U e1 j1 => ?_) (h0 := wkS [((5, 0), some (7, 0))] [])
 refine cF e1 ?_ ?_ <;> intro k2 h1 e1
 ·have i1 := ix h1
  have m2 := ml a1 (k2 1 _ rfl)
  have c1 := sl 2326528 a1 u0
  have w1 := wr U
  refine Nd [2, 3, 4, 5, 6, 7, 8, 9, 10, 11, 12, 13, 14, 15, 16, 17, 18, 0, 1, 19, 20, 21, 22] mixed (by kernel_rfl) (by kernel_rfl) (by kernel_rfl) ?_
  have c2 := sl 2326528 (nth a1 U).Z0 u0
  simp [i1, ZC]
  refine rpS ?_
  refine cRs (JB a0 (([(nth a1 U).Key, (nth a1 U).Mark] : List Int) ++ (nth a1 U).Z0) (by simp (maxDischargeDepth := 12) [XA, Ye, ZN (m := 68719476736) (by decide) u0]; try omega)) ?_
  exact nx2 e1 (hw := Y5 [((5, 0), some (35, 0))] [] rfl (by simp [w1]))
 have c3 := sl 2326528 a1 u0
 have f := ms f e1
 refine cRs (JB a0 J (by first | (simp (maxDischargeDepth := 12) [Ye]; omega) | (simp (maxDischargeDepth := 12) [ZN (m := 68719476736) (by decide) u0]; done))) ?_
 exact rt [.tmp 4] f
theorem RF (a0 : Int) (a1 : Int) (a2 : List ZE) (a3 : Int) (u0 : Sm 2322432 a2) : Sa 147 [rI a0, rI a1, rL 3 ZE.row a2, rI a3] [rI (Te a0 a1 a2 a3)] := by
 have f := me (Te.eq_1 a0 a1 a2 a3)
 refine so func147 ntmps147 ?_
 refine cRs (TZ a0 a2 (sg u0)) ?_
 refine cRs (JB a0 ([3, a1, (yH a0 a2), a3] : List Int) (by simp (maxDischargeDepth := 12) [XA, Ye, ZN (m := 68719476736) (by decide) u0]; try omega)) ?_
 exact rt [.tmp 8] f
theorem XR {a b : Prop} (h : b) (k : a := by (intros; first | omega | with_unfolding_all (first | first | omega | (have cc : a0.ZJ.length <= 2318336 := Yf (xs u0); have z0 := vo; simp at z0; have z := qu (by omega) z0.1; have z2 := z0.2; (try have w3 : IntKind.i64.wrap (a2 - 1) = a2 - 1 := YS (by omega) (by omega)); (try have w4 : W (a2 - 1) = a2 - 1 := w3); first | omega | (refine ⟨⟨z0.1, by omega⟩, by omega, by omega⟩) | (simp_all; omega))) | (simp_all; done) | (simp_all; omega) | grind | ((try simp only [Yw, show ∀ x, IntKind.i64.wrap x = W x from fun _ => rfl] at *); omega))) : a /\ b := ⟨k, h⟩
theorem LZ (a0 : ZG) (a1 : List Int) (a2 : Int) (u0 : Sm 2318336 a0) (u1 : Sm 2318336 a1) : Sa 92 [a0.row, rL 1 iR a1, rI a2] [rI (xM a0 a1 a2)] := by
 have f := me (xM.eq_1 a0 a1 a2)
 refine so func92 ntmps92 ?_
 refine dIs mixed ?_
 refine cRs (YK a2 0 (W ((a0.ZJ.length : Int) - 1))) ?_
 refine gIo ?_ ?_ <;> intro G
 ·have vo := G
  have c1 := sl 2318336 a0.ZJ (an u0 u1)
  have w1 : IntKind.i64.wrap ((a0.ZJ.length : Int) - 1) = (a0.ZJ.length : Int) - 1 := YS (by omega) (by omega)
  have g1 := G; try simp [YE, w1] at g1
  have i1 : a2.toNat < a0.ZJ.length := by (have cc : a0.ZJ.length <= 2318336 := Yf (xs u0); have z0 := vo; simp at z0; have z := qu (by omega) z0.1; have z2 := z0.2; (try have w3 : IntKind.i64.wrap (a2 - 1) = a2 - 1 := YS (by omega) (by omega)); (try have w4 : W (a2 - 1) = a2 - 1 := w3); omega)
  simp [i1, ZC, G]
  repeat with_reducible refine XR ?_
  refine cGo (fun gg => (YK (nth a0.ZJ a2.toNat).Count 0 (a0.ZO.length : Int))) ?_
  simp [G]
  repeat with_reducible refine XR ?_
  refine cKo f ?_ ?_ <;> intro k2 h1 f
  ·have q1 := h1; try simp [YE, w1] at q1
   simp [G]
   repeat with_reducible refine XR ?_
   exact rtg [.tmp 6] f
  ·have q1 := h1; try simp [YE, w1] at q1
   simp [i1, ZC, G]
   repeat with_reducible refine XR ?_
   refine cKo f ?_ ?_ <;> intro k3 h2 f
   ·have q2 := h2; try simp at q2
    have i2 : (W (a2 - 1)).toNat < a0.ZJ.length := by (have cc : a0.ZJ.length <= 2318336 := Yf (xs u0); have z0 := vo; simp at z0; have z := qu (by omega) z0.1; have z2 := z0.2; (try have w3 : IntKind.i64.wrap (a2 - 1) = a2 - 1 := YS (by omega) (by omega)); (try have w4 : W (a2 - 1) = a2 - 1 := w3); omega)
    simp [i2, ZC, G]
    repeat with_reducible refine XR ?_
    refine cR (Uf (nth a0.ZJ a2.toNat).Method (nth a0.ZJ (W (a2 - 1)).toNat) (sg (Z2 (ZG.KB u0)))) ?_ (wU := by first | (simp; done) | (simp [W, w1]; done))
    simp [G]
    repeat with_reducible refine XR ?_
    refine dIo mixed ?_
    have i3 : a2.toNat < a1.length := by (have cc : a0.ZJ.length <= 2318336 := Yf (xs u0); have z0 := vo; simp at z0; have z := qu (by omega) z0.1; have z2 := z0.2; (try have w3 : IntKind.i64.wrap (a2 - 1) = a2 - 1 := YS (by omega) (by omega)); (try have w4 : W (a2 - 1) = a2 - 1 := w3); omega)
    simp [i3, ZC, i1, G]
    repeat with_reducible refine XR ?_
    refine cR (RF (nth a0.ZJ a2.toNat).Method (nth a1 a2.toNat) (a0.ZO.take (nth a0.ZJ a2.toNat).Count.toNat) (zB (nth a0.ZJ a2.toNat).Method (nth a0.ZJ (W (a2 - 1)).toNat)) (ZN (n := 2318336) (by decide) (xs (an u0 u1)))) ?_ (wU := by first | (simp; done) | (simp [W, w1]; done))
    simp [G]
    repeat with_reducible refine XR ?_
    exact rtg [.tmp 6] f
   ·have q2 := h2; try simp at q2
    simp [G]
    repeat with_reducible refine XR ?_
    refine dIo mixed ?_
    have i4 : a2.toNat < a1.length := by (have cc : a0.ZJ.length <= 2318336 := Yf (xs u0); have z0 := vo; simp at z0; have z := qu (by omega) z0.1; have z2 := z0.2; (try have w3 : IntKind.i64.wrap (a2 - 1) = a2 - 1 := YS (by omega) (by omega)); (try have w4 : W (a2 - 1) = a2 - 1 := w3); omega)
    simp [i4, ZC, i1, G]
    repeat with_reducible refine XR ?_
    refine cR (RF (nth a0.ZJ a2.toNat).Method (nth a1 a2.toNat) (a0.ZO.take (nth a0.ZJ a2.toNat).Count.toNat) 0 (ZN (n := 2318336) (by decide) (xs (an u0 u1)))) ?_
    simp [G]
    repeat with_reducible refine XR ?_
    exact rtg [.tmp 6] f
 ·have vo := G
  simp [G]
  repeat with_reducible refine XR ?_
  refine sGo ?_
  simp [G]
  repeat with_reducible refine XR ?_
  have c2 := sl 2318336 a0.ZJ (an u0 u1)
  have w2 : IntKind.i64.wrap ((a0.ZJ.length : Int) - 1) = (a0.ZJ.length : Int) - 1 := YS (by omega) (by omega)
  refine cKo f ?_ ?_ <;> intro k6 h3 f
  ·have q3 := h3; try simp [YE, w2] at q3
   simp [G]
   repeat with_reducible refine XR ?_
   exact rtg [.tmp 6] f
  ·simp [G] at h3
theorem Vh (a0 : ZI) (a1 : Int) : Xt prog 95 true a0.row [rI a1] (YZ a0 a1).1.row [rL 1 iR (YZ a0 a1).2] := by
 have f := me (YZ.eq_1 a0 a1)
 refine Y2 func95 rfl (by kernel_rfl) (fun v => ?_)
 simp [ntmps95]
 refine cBs [] (Zt a0 a1) ?_
 refine lp5 (Jx.eq_2) (fun J U wB wH wP => Yd 21 [(0, .fix v (.one (.bptr 0 0)), [.box [.d (.sl 1 (wB.map bR)), .d (.int .i64 (wH : Int)), .d (.int .i64 wP)]]), (5, .one (.sref 5 0 0 J.length), [.arr false 1 (J.map iR)]), eI 6 U]) (fun n1 J U wB wH wP => U + 1 <= (n1 : Int) /\ 0 <= U /\ (J.length : Int) + U <= 16777215) ((ZA a0 a1).2.toNat + 2) ([] : List Int) (ZA a0 a1).2 (ZA a0 a1).1.b (ZA a0 a1).1.i (ZA a0 a1).1.h (fun p1 J U wB wH wP e1 j1 => ?_) (hI := by (have z := YY a0 a1; have z2 := N5 a0 a1; (try dsimp only); simp only [List.length_nil]; omega)) (h0 := wkS [((5, 0), some (7, 0))] [])
 try dsimp only at j1
 refine cF e1 ?_ ?_ <;> intro k2 h1 e1
 ·refine cBs [] (Zt (ZI.mk wB wH wP) 99) ?_
  exact nx5 e1 (hI := by (have hh := h1; simp at hh; simp only [Yw]; (try dsimp only); simp only [List.length_append, List.length_singleton]; omega)) (hw := wkS [((5, 0), some (19, 0))] [])
 have f := ms f e1
 refine JS (rv := [.tmp 4]) rfl ?_
 simp [f.h]
theorem Rx (a0 : Int) (a1 : Int) (a2 : Int) : Sa 208 [rI a0, rI a1, rI a2] [rI (WO a0 a1 a2)] := by
 have f := me (WO.eq_1 a0 a1 a2)
 refine so func208 ntmps208 ?_
 refine cRs (JB a0 ([1, a1, a2] : List Int) (by simp (maxDischargeDepth := 12) [XA, Ye]; try omega)) ?_
 exact rt [.tmp 6] f
theorem kv (a0 : Int) (a1 : List Int) (u0 : Sm 2322432 a1) : Sd 192 [rI a0, rL 1 iR a1] [rL 1 iR (jF a0 a1)] := by
 have f := me (jF.eq_1 a0 a1)
 refine soD func192 ntmps192 ?_
 refine lp2 (yg.eq_2 a0 a1) (fun J U => Yd 41 [eI 0 a0, eL 1 1 a1 iR, (5, .one (.sref 5 0 0 J.length), [.arr false 1 (J.map iR)]), eI 6 (U : Int)]) (fun n1 J U => a1.length < n1 + U /\ U <= a1.length + 1 /\ J.length <= U) (a1.length + 1) ([] : List Int) 0 (fun p1 J U e1 j1 => ?_) (h0 := wkS [((5, 0), some (7, 0))] [])
 try dsimp only at j1
 refine cF e1 ?_ ?_ <;> intro k2 h1 e1
 ·have i1 := ix h1
  have m2 := ml a1 (k2 1 _ rfl)
  have c1 := sl 2322432 a1 u0
  have w1 := wr U
  refine cFt e1 ?_ ?_ <;> intro k3 h2 e1
  ·refine okD fun k4 => ?_
   refine dIo mixed ?_
   have i2 := ik (W ((U : Int) + 1)).toNat a1
   simp [i1, ZC, i2]
   refine rpS ?_
   refine cRs (Rx a0 (nth a1 U) (nth a1 (W ((U : Int) + 1)).toNat)) ?_ (wU := by first | (simp; done) | (simp [W, w1]; done))
   have w2 : IntKind.i64.wrap ((U : Int) + 2) = (U : Int) + 2 := YS (by omega) (by omega)
   exact nx2 e1 (hI := by first | omega | (simp at *; omega)) (hw := Y5 [((5, 0), some (32, 0))] [] rfl (by simp [w1, w2]))
  simp [i1, ZC]
  refine rpS ?_
  have w3 : IntKind.i64.wrap ((U : Int) + 2) = (U : Int) + 2 := YS (by omega) (by omega)
  exact nx2 e1 (hI := by first | omega | (simp at *; omega)) (hw := Y5 [((5, 0), some (39, 0))] [] rfl (by simp [w1, w3]))
 have c2 := sl 2322432 a1 u0
 have f := ms f e1
 exact rtD [.tmp 4] f
theorem Ot (a0 : Int) (a1 : List Int) (u0 : Sm 2318336 a1) : Sa 149 [rI a0, rL 1 iR a1] [rI (zL a0 a1)] := by
 have f := me (zL.eq_1 a0 a1)
 refine so func149 ntmps149 ?_
 refine cRs (YK (a1.length : Int) 1 16) ?_
 refine cFo f ?_ ?_ <;> intro k1 h1 f
 ·have q1 := h1; try simp [YE] at q1
  simp
  exact rt [.tmp 4] f
 have q1 := h1; try simp [YE] at q1
 have c1 := sl 2318336 a1 u0
 simp
 refine rpS ?_
 refine lp1 (kz.eq_2 a0) (fun J => Yd 22 [eI 0 a0, (5, .one (.sref 5 0 0 J.length), [.arr false 1 (J.map iR)])]) (fun n1 J => J.length < n1 /\ 1 <= J.length /\ J.length <= 16) (a1.length + 1) a1 (fun p1 J e1 j1 => ?_) (hI := by first | omega | (simp at *; omega)) (h0 := wkS [((5, 0), some (12, 0))] [])
 try dsimp only at j1
 refine cFt e1 ?_ ?_ <;> intro k3 h2 e1
 ·refine cDs [false] (kv a0 J (by first | (simp (maxDischargeDepth := 12) [Ye]; omega) | (simp (maxDischargeDepth := 12) [ZN (m := 2322432) (by decide) u0]; done))) ?_
  exact nx1 e1 (hI := by (have z := jM a0 J (by omega); (try dsimp only); simp at *; omega)) (hw := wkS [((5, 0), some (18, 0))] [])
 have f := ms f e1
 have i1 := ik 0 J
 simp [i1, ZC]
 refine rpS ?_
 exact rt [.tmp 4] f
theorem j0 {a b : Prop} (h : b) (k : a := by (intros; first | omega | with_unfolding_all (first | first | omega | (have tm := Int.tmod_eq_emod_of_nonneg (b := 2) (show 0 <= J by omega); (try simp only [Yw, show ∀ x, IntKind.i64.wrap x = W x from fun _ => rfl] at *); (try simp at *); omega)) | ((try simp only [Yw, show ∀ x, IntKind.i64.wrap x = W x from fun _ => rfl] at *); omega))) : a /\ b := ⟨k, h⟩
theorem Ol (a0 : Int) (a1 : List Int) (a2 : Int) (u0 : Sm 2318336 a1) : Sd 150 [rI a0, rL 1 iR a1, rI a2] [rL 2 Yl.row (zH a0 a1 a2)] := by
 have f := me (zH.eq_1 a0 a1 a2)
 refine soD func150 ntmps150 ?_
 refine cGs (fun gg => (YK a2 0 (W ((a1.length : Int) - 1)))) ?_
 have c1 := sl 2318336 a1 u0
 have w1 : IntKind.i64.wrap ((a1.length : Int) - 1) = (a1.length : Int) - 1 := YS (by omega) (by omega)
 refine cFo f ?_ ?_ <;> intro k1 h1 f
 ·have q1 := h1; try simp [YE, w1] at q1
  simp
  exact rtD [.tmp 6] f
 have q1 := h1; try simp [YE, w1] at q1
 simp
 repeat with_reducible refine j0 ?_
 refine lp3 (Jc.eq_2 a0) (fun J U wB => Yd 60 [eI 0 a0, eI 2 J, (7, .one (.sref 7 0 0 U.length), [.arr false 2 (U.map Yl.row)]), (8, .one (.sref 8 0 0 wB.length), [.arr false 1 (wB.map iR)])]) (fun n1 J U wB => wB.length < n1 /\ 0 <= J /\ J < (wB.length : Int) /\ wB.length <= 16 /\ U.length + n1 <= 17) (a1.length + 1) a2 ([] : List Yl) a1 (fun p1 J U wB e1 j1 => ?_) (hI := by first | omega | (simp at *; omega)) (h0 := wkS [((7, 0), some (9, 0)), ((8, 0), some (24, 0))] [])
 try dsimp only at j1
 refine cF e1 ?_ ?_ <;> intro k3 h2 e1
 ·refine cFf e1 ?_ ?_ <;> intro k4 h3 e1
  ·have i1 : (W (J - 1)).toNat < wB.length := by first | omega | (have tm := Int.tmod_eq_emod_of_nonneg (b := 2) (show 0 <= J by omega); (try simp only [Yw, show ∀ x, IntKind.i64.wrap x = W x from fun _ => rfl] at *); (try simp at *); omega)
   simp [i1, ZC]
   repeat with_reducible refine j0 ?_
   refine cDs [false] (kv a0 wB (by first | (simp (maxDischargeDepth := 12) [Ye]; omega) | (simp (maxDischargeDepth := 12) [ZN (m := 2322432) (by decide) u0]; done))) ?_
   exact nx3 e1 (hI := by (have z := jM a0 wB (by omega); have td := Int.tdiv_eq_ediv_of_nonneg (b := 2) (show 0 <= J by omega); have w2 : W (Int.tdiv J 2) = Int.tdiv J 2 := YS (by omega) (by omega); (try dsimp only); rw [w2]; simp at *; omega)) (hw := Y5 [((7, 0), some (39, 0)), ((8, 0), some (56, 0))] [] rfl (by simp [w1]))
  refine cFo e1 ?_ ?_ <;> intro k5 h4 e1
  ·have q4 := h4; try simp [w1] at q4
   have i2 : (W (J + 1)).toNat < wB.length := by first | omega | (have tm := Int.tmod_eq_emod_of_nonneg (b := 2) (show 0 <= J by omega); (try simp only [Yw, show ∀ x, IntKind.i64.wrap x = W x from fun _ => rfl] at *); (try simp at *); omega)
   simp [i2, ZC]
   repeat with_reducible refine j0 ?_
   refine cDs [false] (kv a0 wB (by first | (simp (maxDischargeDepth := 12) [Ye]; omega) | (simp (maxDischargeDepth := 12) [ZN (m := 2322432) (by decide) u0]; done))) ?_
   exact nx3 e1 (hI := by (have z := jM a0 wB (by omega); have td := Int.tdiv_eq_ediv_of_nonneg (b := 2) (show 0 <= J by omega); have w2 : W (Int.tdiv J 2) = Int.tdiv J 2 := YS (by omega) (by omega); (try dsimp only); rw [w2]; simp at *; omega)) (hw := Y5 [((7, 0), some (53, 0)), ((8, 0), some (56, 0))] [] rfl (by simp [w1]))
  have q4 := h4; try simp [w1] at q4
  simp
  refine cDs [false] (kv a0 wB (by first | (simp (maxDischargeDepth := 12) [Ye]; omega) | (simp (maxDischargeDepth := 12) [ZN (m := 2322432) (by decide) u0]; done))) ?_
  exact nx3 e1 (hI := by (have z := jM a0 wB (by omega); have td := Int.tdiv_eq_ediv_of_nonneg (b := 2) (show 0 <= J by omega); have w2 : W (Int.tdiv J 2) = Int.tdiv J 2 := YS (by omega) (by omega); (try dsimp only); rw [w2]; simp at *; omega)) (hw := Y5 [((8, 0), some (56, 0))] [] rfl (by simp [w1]))
 have f := ms f e1
 exact rtD [.tmp 6] f
theorem U4 (a0 : List YJ) (a1 : List ZP) (a2 : Int) (a3 : Int) (a4 : List Int) (a5 : Int) (a6 : List Int) (a7 : Int) (a8 : Int) (u0 : Sm 2314240 a0) (u1 : Sm 2314240 a1) (u2 : Sm 2314240 a4) (u3 : Sm 2314240 a6) : Sd 94 [rL 5 YJ.row a0, rL 3 ZP.row a1, rI a2, rI a3, rL 1 iR a4, rI a5, rL 1 iR a6, rI a7, rI a8] [(zi a0 a1 a2 a3 a4 a5 a6 a7 a8).row] := by
 have f := me (zi.eq_1 a0 a1 a2 a3 a4 a5 a6 a7 a8)
 have c1 := sl 2314240 a4 (an u0 (an u1 (an u2 u3)))
 refine soD func94 ntmps94 ?_
 refine cRs (Ot a2 (a4 ++ ([a3] : List Int)) (by simp (maxDischargeDepth := 12) [XA, Ye, ZN (m := 2318336) (by decide) u0, ZN (m := 2318336) (by decide) u1, ZN (m := 2318336) (by decide) u2, ZN (m := 2318336) (by decide) u3]; try omega)) ?_
 refine cDs [false] (Ol a2 (a4 ++ ([a3] : List Int)) (W (((a4 ++ ([a3] : List Int)).length : Int) - 1)) (by simp (maxDischargeDepth := 12) [XA, Ye, ZN (m := 2318336) (by decide) u0, ZN (m := 2318336) (by decide) u1, ZN (m := 2318336) (by decide) u2, ZN (m := 2318336) (by decide) u3]; try omega)) ?_
 refine lp2 (zj.eq_2 a0 a1 a2 a3 a4 a6 a7 a8) (fun J U => Yd 71 [eL 0 5 a0 YJ.row, eL 1 3 a1 ZP.row, eL 6 1 a6 iR, eI 7 a7, eI 8 a8, (18, .one (.bptr 18 0), [.box [.d (.int .i64 0), .d (.int .i64 0), .d (.int .i64 0), .nil 2, .nil 5]]), (20, .one (.bptr 20 0), [.box [.d (.int .i64 a5), .d (.int .i64 a2), .d (.int .i64 (zL a2 (a4 ++ ([a3] : List Int)))), .sref 40 0 0 (zH a2 (a4 ++ ([a3] : List Int)) (W (((a4 ++ ([a3] : List Int)).length : Int) - 1))).length, .sref 20 5 0 U.length], .none, .none, .none, .none, .arr false 5 (U.map ZV.row)]), eI 21 (J : Int), (40, .any, [.arr false 2 ((zH a2 (a4 ++ ([a3] : List Int)) (W (((a4 ++ ([a3] : List Int)).length : Int) - 1))).map Yl.row)])]) (fun n1 J U => a6.length < n1 + J /\ J <= a6.length /\ U.length <= 0 + 1 * J) (a6.length + 1) 0 ([] : List ZV) (fun p1 J U e1 j1 => ?_) (h0 := wkS [((20, 5), none)] [])
 refine cF e1 ?_ ?_ <;> intro k2 h1 e1
 ·have i1 := ix h1
  have m2 := ml a6 (k2 6 _ rfl)
  have c2 := sl 2314240 a6 (an u0 (an u1 (an u2 u3)))
  have w1 := wr J
  refine dIo mixed ?_
  simp [i1, ZC]
  refine rpS ?_
  refine cRs (W9 a0 a1 (ZV.mk (nth a6 J) a7 a8 (zL a2 (a4 ++ ([a3] : List Int))) 0) (sg u0) (sg u1)) ?_
  refine cF e1 ?_ ?_ <;> intro k4 h2 e1
  ·exact nx2 e1 (hw := Y5 [((20, 5), some (68, 0))] [] rfl (by simp [w1]))
  exact ny2 w1 e1
 have c3 := sl 2314240 a6 (an u0 (an u1 (an u2 u3)))
 have f := ms f e1
 exact rtD [.cell 18 140] f
theorem O6 (a0 : ZI) (a1 : ZG) (a2 : ZM) (a3 : Int) (a4 : Int) (u0 : Sm 2310144 a1) (u1 : Sm 2310144 a2) : Xt prog 49 false a0.row [a1.row, a2.row, rI a3, rI a4] (QD a0 a1 a2 a3 a4).1.row [(QD a0 a1 a2 a3 a4).2.row] := by
 have f := me (QD.eq_1 a0 a1 a2 a3 a4)
 refine Y2 func49 rfl (by kernel_rfl) (fun v => ?_)
 simp [ntmps49]
 refine cRs (YD.rd (xa a1 (ZK.mk (a1.ZO.length : Int) a3 0 ([] : List Yl) ([] : List ZV)) (sg u0) (by simp (maxDischargeDepth := 12) [XA, Ye, ZN (m := 2326528) (by decide) u0, ZN (m := 2326528) (by decide) u1]; try omega))) ?_
 refine cF f ?_ ?_ <;> intro k1 h1 f
 ·refine JS (rv := [.cell 10 45]) rfl ?_
  simp [f.h]
 refine dIs mixed ?_
 refine cRs (YD.rd (Rq (Zz a1 (ZK.mk (a1.ZO.length : Int) a3 0 ([] : List Yl) ([] : List ZV))).1 a2 (by first | exact Xp (n := 2310144) (by decide) u0 ⟨Sz.zero (α := List Yl) _, Sz.zero (α := List ZV) _⟩ | exact sg u1) (by first | exact Xp (n := 2310144) (by decide) u0 ⟨Sz.zero (α := List Yl) _, Sz.zero (α := List ZV) _⟩ | exact sg u1))) ?_
 refine cRs (LZ (Zz a1 (ZK.mk (a1.ZO.length : Int) a3 0 ([] : List Yl) ([] : List ZV))).1 (Xl (Zz a1 (ZK.mk (a1.ZO.length : Int) a3 0 ([] : List Yl) ([] : List ZV))).1 a2) (W (((Zz a1 (ZK.mk (a1.ZO.length : Int) a3 0 ([] : List Yl) ([] : List ZV))).1.ZJ.length : Int) - 1)) (by first | exact Xp (n := 2310144) (by decide) u0 ⟨Sz.zero (α := List Yl) _, Sz.zero (α := List ZV) _⟩ | exact zA (Xp (n := 2310144) (by decide) u0 ⟨Sz.zero (α := List Yl) _, Sz.zero (α := List ZV) _⟩)) (by first | exact Xp (n := 2310144) (by decide) u0 ⟨Sz.zero (α := List Yl) _, Sz.zero (α := List ZV) _⟩ | exact zA (Xp (n := 2310144) (by decide) u0 ⟨Sz.zero (α := List Yl) _, Sz.zero (α := List ZV) _⟩))) ?_
 refine cBs [] (zh a0 3) ?_
 refine cF f ?_ ?_ <;> intro k3 h2 f
 ·refine okD fun k4 => ?_
  refine UX [(0, 0), (6, 6), (11, 11), (49, 0), (51, 6), (55, 0)] [] [50, 56, 3000001] mixed (by kernel_rfl) (by kernel_rfl) (by kernel_rfl) (by kernel_rfl) (by kernel_rfl) (by kernel_rfl) (by kernel_rfl) ?_
  simp
  refine cRs (YD.rd (Xr)) ?_
  refine cRs (YD.rd (QG)) ?_
  refine cBs [] (Vh (Zk a0 3).1 4) ?_
  refine cBs [] (Zt (YZ (Zk a0 3).1 4).1 9) ?_
  refine cDs [true, true, true, false, false] (U4 YU YN a3 (xM (Zz a1 (ZK.mk (a1.ZO.length : Int) a3 0 ([] : List Yl) ([] : List ZV))).1 (Xl (Zz a1 (ZK.mk (a1.ZO.length : Int) a3 0 ([] : List Yl) ([] : List ZV))).1 a2) (W (((Zz a1 (ZK.mk (a1.ZO.length : Int) a3 0 ([] : List Yl) ([] : List ZV))).1.ZJ.length : Int) - 1))) (YZ (Zk a0 3).1 4).2 (a1.ZO.length : Int) ([1, 3, 4] : List Int) (ZA (YZ (Zk a0 3).1 4).1 9).2 a4 (by simp (maxDischargeDepth := 12) [XQ, ZN (m := 2314240) (by decide) u0, ZN (m := 2314240) (by decide) u1]; try omega) (by simp (maxDischargeDepth := 12) [Xo, ZN (m := 2314240) (by decide) u0, ZN (m := 2314240) (by decide) u1]; try omega) (by simp (maxDischargeDepth := 12) [yN, ZN (m := 2314240) (by decide) u0, ZN (m := 2314240) (by decide) u1]; try omega) (by simp (maxDischargeDepth := 12) [XA, Ye, ZN (m := 2314240) (by decide) u0, ZN (m := 2314240) (by decide) u1]; try omega)) ?_
  refine cDs [] (xa a1 (zi YU YN a3 (xM (Zz a1 (ZK.mk (a1.ZO.length : Int) a3 0 ([] : List Yl) ([] : List ZV))).1 (Xl (Zz a1 (ZK.mk (a1.ZO.length : Int) a3 0 ([] : List Yl) ([] : List ZV))).1 a2) (W (((Zz a1 (ZK.mk (a1.ZO.length : Int) a3 0 ([] : List Yl) ([] : List ZV))).1.ZJ.length : Int) - 1))) (YZ (Zk a0 3).1 4).2 (a1.ZO.length : Int) ([1, 3, 4] : List Int) (ZA (YZ (Zk a0 3).1 4).1 9).2 a4) (sg u0) (by simp (maxDischargeDepth := 12) [XA, Ye, zA, XQ, Xo, yN, xw, ZN (m := 2326528) (by decide) u0, ZN (m := 2326528) (by decide) u1]; try omega)) ?_
  refine JS (rv := [.cell 10 45]) rfl ?_
  simp [f.h]
 refine UX [(0, 0), (6, 6), (11, 11), (49, 0), (51, 6), (55, 0)] [] [50, 56, 3000001] mixed (by kernel_rfl) (by kernel_rfl) (by kernel_rfl) (by kernel_rfl) (by kernel_rfl) (by kernel_rfl) (by kernel_rfl) ?_
 simp
 refine cRs (YD.rd (Xr)) ?_
 refine cRs (YD.rd (QG)) ?_
 refine cBs [] (Vh (Zk a0 3).1 4) ?_
 refine cBs [] (Zt (YZ (Zk a0 3).1 4).1 9) ?_
 refine cDs [true, true, true, false, false] (U4 YU YN a3 (xM (Zz a1 (ZK.mk (a1.ZO.length : Int) a3 0 ([] : List Yl) ([] : List ZV))).1 (Xl (Zz a1 (ZK.mk (a1.ZO.length : Int) a3 0 ([] : List Yl) ([] : List ZV))).1 a2) (W (((Zz a1 (ZK.mk (a1.ZO.length : Int) a3 0 ([] : List Yl) ([] : List ZV))).1.ZJ.length : Int) - 1))) (YZ (Zk a0 3).1 4).2 (a1.ZO.length : Int) ([1, 2, 3, 4] : List Int) (ZA (YZ (Zk a0 3).1 4).1 9).2 a4 (by simp (maxDischargeDepth := 12) [XQ, ZN (m := 2314240) (by decide) u0, ZN (m := 2314240) (by decide) u1]; try omega) (by simp (maxDischargeDepth := 12) [Xo, ZN (m := 2314240) (by decide) u0, ZN (m := 2314240) (by decide) u1]; try omega) (by simp (maxDischargeDepth := 12) [yN, ZN (m := 2314240) (by decide) u0, ZN (m := 2314240) (by decide) u1]; try omega) (by simp (maxDischargeDepth := 12) [XA, Ye, ZN (m := 2314240) (by decide) u0, ZN (m := 2314240) (by decide) u1]; try omega)) ?_
 refine cDs [] (xa a1 (zi YU YN a3 (xM (Zz a1 (ZK.mk (a1.ZO.length : Int) a3 0 ([] : List Yl) ([] : List ZV))).1 (Xl (Zz a1 (ZK.mk (a1.ZO.length : Int) a3 0 ([] : List Yl) ([] : List ZV))).1 a2) (W (((Zz a1 (ZK.mk (a1.ZO.length : Int) a3 0 ([] : List Yl) ([] : List ZV))).1.ZJ.length : Int) - 1))) (YZ (Zk a0 3).1 4).2 (a1.ZO.length : Int) ([1, 2, 3, 4] : List Int) (ZA (YZ (Zk a0 3).1 4).1 9).2 a4) (sg u0) (by simp (maxDischargeDepth := 12) [XA, Ye, zA, XQ, Xo, yN, xw, ZN (m := 2326528) (by decide) u0, ZN (m := 2326528) (by decide) u1]; try omega)) ?_
 refine JS (rv := [.cell 10 45]) rfl ?_
 simp [f.h]
theorem Mc (a0 : ZI) : Xt prog 37 false a0.row [] (Xn a0).1.row [(Xn a0).2.1.row, (Xn a0).2.2.1.row, (Xn a0).2.2.2.row] := by
 have f := me (Xn.eq_1 a0)
 refine Y2 func37 rfl (by kernel_rfl) (fun v => ?_)
 simp [ntmps37]
 refine cBs [] (PH a0) ?_
 refine LF [(17, 0)] rfl (by simp) ?_
 refine cBs [] (yv (Zj a0).1 ([10, 25, 30] : List Int) (by first | omega | (simp; done) | (simp; omega))) ?_
 refine cBs [] (Zt (Z3 (Zj a0).1 ([10, 25, 30] : List Int)).1 4) ?_
 refine lp7 (KT.eq_2 a0) (fun J U wB wH wP wy vT => Yd 41 [(0, .fix v (.one (.bptr 0 0)), [.box [.d (.sl 1 (wB.map bR)), .d (.int .i64 (wH : Int)), .d (.int .i64 wP)]]), (2, .one (.bptr 2 0), [.box [.nil 3, .nil 5]]), (3, .one (.bptr 3 0), [.box [.d (.int .i64 0), .nil 1, .nil 1]]), (4, .one (.bptr 4 0), [.box [.d (.int .i64 0), .d (.int .i64 0), .d (.int .i64 0), .d (.int .i64 0), .d (.int .i64 0), .d (.int .i64 0), .d (.int .i64 0), .d (.int .i64 0), .d (.int .i64 0)]]), (5, .one (.bptr 5 0), [.box [.d (.sl 3 (wy.map ZE.row)), .d (.sl 5 (vT.map ZK.row))]]), eX 6 ((Zj a0).2.2.1.row.map .d), eX 7 ((Zj a0).2.2.2.row.map .d), eI 8 J, eI 9 U]) (fun n1 J U wB wH wP wy vT => U + 1 <= (n1 : Int) /\ 0 <= U /\ n1 <= 5 /\ Sm (100 - n1) (ZG.mk wy vT)) 5 (Z3 (Zj a0).1 ([10, 25, 30] : List Int)).2 (ZA (Z3 (Zj a0).1 ([10, 25, 30] : List Int)).1 4).2 (ZA (Z3 (Zj a0).1 ([10, 25, 30] : List Int)).1 4).1.b (ZA (Z3 (Zj a0).1 ([10, 25, 30] : List Int)).1 4).1.i (ZA (Z3 (Zj a0).1 ([10, 25, 30] : List Int)).1 4).1.h (Zj a0).2.1.ZO (Zj a0).2.1.ZJ (fun p1 J U wB wH wP wy vT e1 j1 => ?_) (hI := by (have z := YY ((Z3 (Zj a0).1 ([10, 25, 30] : List Int)).1) 4; (try dsimp only); exact ⟨by omega, by omega, by omega, by omega, ZN (show 50 <= 95 by decide) (N9 (qg (n := 50) (a0 := a0) (by decide)).1)⟩))
 try dsimp only at j1
 refine cF e1 ?_ ?_ <;> intro k2 h1 e1
 ·refine okD fun k3 => ?_
  refine UX [(0, 0), (5, 5), (6, 6), (25, 0), (28, 0)] [] [29, 32, 3000001] mixed (by kernel_rfl) (by kernel_rfl) (by kernel_rfl) (by kernel_rfl) (by kernel_rfl) (by kernel_rfl) (by kernel_rfl) ?_
  simp
  refine cBs [] (Zt (ZI.mk wB wH wP) 4) ?_
  refine cBs [] (O6 (ZA (ZI.mk wB wH wP) 4).1 (ZG.mk wy vT) (Zj a0).2.2.1 (W (1 + (ZA (ZI.mk wB wH wP) 4).2)) J (by first | with_reducible exact Wn (by decide) | with_reducible exact ZN (by omega) j1.2.2.2.2) (by first | with_reducible exact Wn (by decide) | with_reducible exact ZN (by omega) j1.2.2.2.2)) ?_
  refine LF [(35, 0)] rfl (by simp) ?_
  refine cBs [] (yv (QD (ZA (ZI.mk wB wH wP) 4).1 (ZG.mk wy vT) (Zj a0).2.2.1 (W (1 + (ZA (ZI.mk wB wH wP) 4).2)) J).1 ([10, 20, 40] : List Int) (by first | omega | (simp; done) | (simp; omega))) ?_
  exact nx7 e1 (hI := by (have hh := h1; simp at hh; have q := j1.2.2.2.1; have t := fun c d m t => N9 (UO (a0 := c) (a2 := d) (a3 := m) (a4 := t) (Nat.le_refl _) (by omega) j1.2.2.2.2); (try dsimp only); simp only [Yw]; exact ⟨by omega, by omega, by omega, by omega, by with_reducible exact ZN (by omega) (t _ _ _ _)⟩))
 have f := ms f e1
 refine qR [(2, 2), (3, 3), (4, 4), (5, 5), (6, 6), (7, 7)] mixed (by kernel_rfl) (by kernel_rfl) (by kernel_rfl) (by kernel_rfl) ?_
 simp
 refine JS (rv := [.cell 2 45, .cell 3 39, .cell 4 41]) rfl ?_
 simp [f.h]
theorem Mq (a0 : ZI) : Xt prog 25 false a0.row [] (Xm a0).1.row [(Xm a0).2.row] := by
 have f := me (Xm.eq_1 a0)
 refine Y2 func25 rfl (by kernel_rfl) (fun v => ?_)
 simp [ntmps25]
 refine cBs [] (Mc a0) ?_
 refine UX [(0, 0), (2, 2), (3, 3), (4, 4), (5, 5), (12, 0), (15, 0)] [] [13, 17, 2000016, 3000001] mixed (by kernel_rfl) (by kernel_rfl) (by kernel_rfl) (by kernel_rfl) (by kernel_rfl) (by kernel_rfl) (by kernel_rfl) ?_
 simp
 refine cBs [] (Zt (Xn a0).1 9) ?_
 refine bsD ?_
 simp
 refine cBs [] (yv (ZA (Xn a0).1 9).1 ([50, 100, 10000] : List Int) (by first | omega | (simp; done) | (simp; omega))) ?_
 refine JS (rv := [.cell 2 47]) rfl ?_
 simp [f.h]
theorem LV (a0 : Zp) : Sa 44 [a0.row] [rB (OU a0)] := by
 have f := me (OU.eq_1 a0)
 refine so func44 ntmps44 ?_
 refine dIs mixed ?_
 refine cRs (YK a0.Id 1 999) ?_
 refine cGs (fun gg => (xL a0.Y0)) ?_
 refine cGs (fun gg => (zC a0.Doc)) ?_
 refine cGs (fun gg => (j5 a0.XM)) ?_
 refine gIf ?_ ?_ <;> intro G
 ·have vo := G
  have g1 := G; try simp [YE] at g1
  have i1 : 0 < a0.XM.ZO.length := by have := PG (a := a0.XM); simp_all
  simp [i1, ZC, G]
  refine rpG ?_
  refine cGg (fun gg => YD.rd (qY a0.Sig)) ?_
  refine cGg (fun gg => (ki (nth a0.XM.ZO 0) (Yv a0.Sig))) ?_
  exact rtg [.tmp 2] f
 ·have vo := G
  refine sGo ?_
  simp [G]
  refine rpG ?_
  refine sGo ?_
  simp [G]
  refine rpG ?_
  exact rtg [.tmp 2] f
theorem q9 (a0 : Zf) : Sa 33 [a0.row] [rB (JX a0)] := by
 have f := me (JX.eq_1 a0)
 refine so func33 ntmps33 ?_
 refine lp1 (js.eq_2 a0) (fun J => Yd 47 [eX 1 (a0.row.map .d), eI 3 (J : Int)]) (fun n1 J => a0.Zl.length < n1 + J /\ J <= a0.Zl.length) (a0.Zl.length + 1) 0 (fun p1 J e1 j1 => ?_)
 refine cF e1 ?_ ?_ <;> intro k2 h1 e1
 ·have i1 := ix h1
  have m2 := ml a0.Zl (k2 6 _ rfl)
  have w1 := wr J
  refine dIo mixed ?_
  simp [i1, ZC]
  refine rpS ?_
  refine cRs (LV (nth a0.Zl J)) ?_
  refine gIf ?_ ?_ <;> intro G
  ·have i2 := ik (J - 1) a0.Zl
   have w2 : IntKind.i64.wrap ((J : Int) - 1) = (J : Int) - 1 := YS (by omega) (by omega)
   simp [i2, ZC, w2, J9, G]
   refine rpG ?_
   refine gK (fun _ => ?_)
   simp [i1, ZC, G]
   refine rpG ?_
   refine cK e1 ?_ ?_ <;> intro k4 h2 e1
   ·have f := ms f e1
    exact rtg [.tmp 2] f
   ·exact ny1 (an w1 (an w2 G)) e1
  ·refine sGg ?_
   refine cK e1 ?_ ?_ <;> intro k5 h3 e1
   ·have f := ms f e1
    exact rtg [.tmp 2] f
   ·exact ny1 (an w1 G) e1
 have f := ms f e1
 refine cRs (YK a0.Id 0 99) ?_
 exact rt [.tmp 2] f
theorem Oo (a0 : Zf) (a1 : Int) : Sa 34 [a0.row, rI a1] [rI (We a0 a1)] := by
 have f := me (We.eq_1 a0 a1)
 refine so func34 ntmps34 ?_
 refine lp1 (ky.eq_2 a0 a1) (fun J => Yd 22 [eI 1 a1, eX 2 (a0.row.map .d), eI 5 (J : Int)]) (fun n1 J => a0.Zl.length < n1 + J /\ J <= a0.Zl.length) (a0.Zl.length + 1) 0 (fun p1 J e1 j1 => ?_)
 refine cFf e1 ?_ ?_ <;> intro k2 h1 e1
 ·have i1 := ix h1
  have m2 := ml a0.Zl (k2 8 _ rfl)
  have w1 := wr J
  simp [i1, ZC]
  refine rpS ?_
  refine cF e1 ?_ ?_ <;> intro k3 h2 e1
  ·have f := ms f e1
   exact rt [.tmp 4] f
  exact ny1 w1 e1
 have f := ms f e1
 exact rt [.tmp 4] f
theorem Lb (a0 : ZM) (u0 : Sm 2342912 a0) : Sd 46 [a0.row] [(PS a0).row] := by
 have f := me (PS.eq_1 a0)
 refine soD func46 ntmps46 ?_
 refine Nd [2, 3, 4, 5, 6, 7, 8, 9, 0, 1, 10, 11] mixed (by kernel_rfl) (by kernel_rfl) (by kernel_rfl) ?_
 have c1 := sl 2342912 a0.Zd u0
 have c2 := sl 2342912 a0.Yh u0
 simp
 refine rpS ?_
 exact rtD [.cell 2 39] f
theorem Mp (a0 : ZM) (u0 : Sm 2342912 a0) : Sd 46 [a0.row] [a0.row] := by
  have h := Lb a0 u0
  rwa [Lu] at h
theorem ME (a0 : Zp) (u0 : Sm 2330624 a0) : Sd 36 [a0.row] [(SH a0).row] := by
 have f := me (SH.eq_1 a0)
 refine soD func36 ntmps36 ?_
 refine cDs [true, false, false] (Mp a0.Doc (sg (Zp.U1 u0))) ?_
 refine cDs [] (K1 a0.XM (sg (Zp.Qk u0))) ?_
 exact rtD [.cell 2 47] f
theorem QM (a0 : Zp) (u0 : Sm 2330624 a0) : Sd 36 [a0.row] [a0.row] := by
  have h := ME a0 u0
  rwa [Md] at h
theorem M3 (a0 : Zf) (u0 : Sm 2326528 a0) : Sd 35 [a0.row] [(V4 a0).row] := by
 have f := me (V4.eq_1 a0)
 refine soD func35 ntmps35 ?_
 refine lp2 (jR.eq_2 a0) (fun J U => Yd 27 [eX 1 (a0.row.map .d), (2, .one (.bptr 2 0), [.box [.d (.int .i64 0), .nil 16]]), (3, .one (.bptr 3 0), [.box [.d (.int .i64 a0.Id), .sref 3 2 0 U.length], .none, .arr true 16 (U.map Zp.row)]), eI 4 (J : Int)]) (fun n1 J U => a0.Zl.length < n1 + J /\ J <= a0.Zl.length /\ U.length <= 0 + 1 * J) (a0.Zl.length + 1) 0 ([] : List Zp) (fun p1 J U e1 j1 => ?_) (h0 := wkS [((3, 2), none)] [])
 refine cF e1 ?_ ?_ <;> intro k2 h1 e1
 ·have i1 := ix h1
  have m2 := ml a0.Zl (k2 10 _ rfl)
  have c1 := sl 2326528 a0.Zl u0
  have w1 := wr J
  refine drJ [24] mixed ?_
  simp [i1, ZC]
  refine rpS ?_
  refine cDs [true, true, true, false, false] (QM (nth a0.Zl J) (sg (Z2 (Zf.KI u0)))) ?_
  refine Vq ?_
  simp
  refine UB (wI := (U.map Zp.row)) (news := (([(nth a0.Zl J)] : List Zp).map Zp.row)) (l1 := [(3, 2)]) (l2 := [(22, 3), (22, 4), (22, 14), (22, 15)]) (size := 16) ?_
  simp
  exact nx2 e1 (hw := Y5 [((3, 2), some (24, 0))] [] rfl (by simp [w1]))
 have c2 := sl 2326528 a0.Zl u0
 have f := ms f e1
 exact rtD [.cell 2 31] f
theorem jj (a0 : Zf) (u0 : Sm 2326528 a0) : Sd 35 [a0.row] [a0.row] := by
  have h := M3 a0 u0
  rwa [M7] at h
theorem MC (a0 : Zf) (a1 : Zp) (u0 : Sm 2318336 a0) (u1 : Sm 2318336 a1) : Sd 24 [a0.row, a1.row] [(Km a0 a1).1.row, rB (Km a0 a1).2] := by
 have f := me (Km.eq_1 a0 a1)
 refine soD func24 ntmps24 ?_
 refine cRs (q9 a0) ?_
 refine cGs (fun gg => (Oo a0 a1.Id)) ?_
 refine cF f ?_ ?_ <;> intro k1 h1 f
 ·refine cDs [] (jj a0 (sg u0)) ?_
  exact rtD [.cell 4 31, .tmp 5] f
 refine lp3 (Qr.eq_2 a0 a1) (fun J U wB => Yd 77 [eX 2 (a0.row.map .d), eX 3 (a1.row.map .d), (4, .one (.bptr 4 0), [.box [.d (.int .i64 0), .nil 16]]), (6, .one (.bptr 6 0), [.box [.d (.int .i64 a0.Id), .sref 6 2 0 wB.length], .none, .arr true 16 (wB.map Zp.row)]), eB 7 J, eI 8 (U : Int)]) (fun n1 J U wB => a0.Zl.length < n1 + U /\ U <= a0.Zl.length /\ wB.length <= 0 + 2 * U) (a0.Zl.length + 1) false 0 ([] : List Zp) (fun p1 J U wB e1 j1 => ?_) (h0 := wkS [((6, 2), none)] [])
 refine cF e1 ?_ ?_ <;> intro k3 h2 e1
 ·have i1 := ix h2
  have m2 := ml a0.Zl (k3 26 _ rfl)
  have c1 := sl 2318336 a0.Zl (an u0 u1)
  have w1 := wr U
  refine dIs mixed ?_
  refine gIf ?_ ?_ <;> intro G
  ·simp [i1, ZC, G]
   refine rpG ?_
   refine cK e1 ?_ ?_ <;> intro k5 h3 e1
   ·try (simp [G] at h3; done)
    all_goals
     refine drJ [49] mixed ?_
     simp
     refine cDg [true, true, true, false, false] (QM a1 (sg u1)) ?_
     refine Vq ?_
     simp [G]
     refine rpG ?_
     refine UB (wI := (wB.map Zp.row)) (news := (([a1] : List Zp).map Zp.row)) (l1 := [(6, 2)]) (l2 := [(47, 3), (47, 4), (47, 14), (47, 15)]) (size := 16) ?_
     simp [G]
     refine rpG ?_
     refine drJ [60] mixed ?_
     simp [i1, ZC, G]
     refine rpG ?_
     refine cDg [true, true, true, false, false] (QM (nth a0.Zl U) (sg (Z2 (Zf.KI u0)))) ?_
     refine Vq ?_
     simp [G]
     refine rpG ?_
     refine UB (wI := ((wB ++ ([a1] : List Zp)).map Zp.row)) (news := (([(nth a0.Zl U)] : List Zp).map Zp.row)) (l1 := [(49, 0)]) (l2 := [(58, 3), (58, 4), (58, 14), (58, 15)]) (size := 16) ?_
     simp [G]
     refine rpG ?_
     exact nx3 e1 (hw := Y5 [((6, 2), some (60, 0))] [] rfl (by simp [w1, G]))
   ·try (simp [G] at h3; done)
    all_goals
     refine drJ [60] mixed ?_
     simp [i1, ZC, G]
     refine rpG ?_
     refine cDg [true, true, true, false, false] (QM (nth a0.Zl U) (sg (Z2 (Zf.KI u0)))) ?_
     refine Vq ?_
     simp [G]
     refine rpG ?_
     refine UB (wI := (wB.map Zp.row)) (news := (([(nth a0.Zl U)] : List Zp).map Zp.row)) (l1 := [(6, 2)]) (l2 := [(58, 3), (58, 4), (58, 14), (58, 15)]) (size := 16) ?_
     simp [G]
     refine rpG ?_
     exact nx3 e1 (hw := Y5 [((6, 2), some (60, 0))] [] rfl (by simp [w1, G]))
  ·refine cK e1 ?_ ?_ <;> intro k9 h4 e1
   ·try (simp [G] at h4; done)
    all_goals
     refine drJ [49] mixed ?_
     simp
     refine cDg [true, true, true, false, false] (QM a1 (sg u1)) ?_
     refine Vq ?_
     simp [G]
     refine rpG ?_
     refine UB (wI := (wB.map Zp.row)) (news := (([a1] : List Zp).map Zp.row)) (l1 := [(6, 2)]) (l2 := [(47, 3), (47, 4), (47, 14), (47, 15)]) (size := 16) ?_
     simp [G]
     refine rpG ?_
     refine drJ [60] mixed ?_
     simp [i1, ZC, G]
     refine rpG ?_
     refine cDg [true, true, true, false, false] (QM (nth a0.Zl U) (sg (Z2 (Zf.KI u0)))) ?_
     refine Vq ?_
     simp [G]
     refine rpG ?_
     refine UB (wI := ((wB ++ ([a1] : List Zp)).map Zp.row)) (news := (([(nth a0.Zl U)] : List Zp).map Zp.row)) (l1 := [(49, 0)]) (l2 := [(58, 3), (58, 4), (58, 14), (58, 15)]) (size := 16) ?_
     simp [G]
     refine rpG ?_
     exact nx3 e1 (hw := Y5 [((6, 2), some (60, 0))] [] rfl (by simp [w1, G]))
   ·try (simp [G] at h4; done)
    all_goals
     refine drJ [60] mixed ?_
     simp [i1, ZC, G]
     refine rpG ?_
     refine cDg [true, true, true, false, false] (QM (nth a0.Zl U) (sg (Z2 (Zf.KI u0)))) ?_
     refine Vq ?_
     simp [G]
     refine rpG ?_
     refine UB (wI := (wB.map Zp.row)) (news := (([(nth a0.Zl U)] : List Zp).map Zp.row)) (l1 := [(6, 2)]) (l2 := [(58, 3), (58, 4), (58, 14), (58, 15)]) (size := 16) ?_
     simp [G]
     refine rpG ?_
     exact nx3 e1 (hw := Y5 [((6, 2), some (60, 0))] [] rfl (by simp [w1, G]))
 have c2 := sl 2318336 a0.Zl (an u0 u1)
 have f := ms f e1
 refine cF f ?_ ?_ <;> intro l8 h5 f
 ·refine okD fun l7 => ?_
  refine drJ [69] mixed ?_
  simp
  refine cDs [true, true, true, false, false] (QM a1 (sg u1)) ?_
  refine Vq ?_
  simp
  refine UB (wI := (wB.map Zp.row)) (news := (([a1] : List Zp).map Zp.row)) (l1 := [(6, 2)]) (l2 := [(67, 3), (67, 4), (67, 14), (67, 15)]) (size := 16) ?_
  simp
  refine cRs (q9 (Zf.mk a0.Id (wB ++ ([a1] : List Zp)))) ?_
  refine cF f ?_ ?_ <;> intro l9 h6 f
  ·refine cDs [] (jj a0 (sg u0)) ?_
   exact rtD [.cell 4 31, .tmp 5] f
  exact rtD [.cell 4 31, .tmp 5] f
 refine cRs (q9 (Zf.mk a0.Id wB)) ?_
 refine cF f ?_ ?_ <;> intro fB h7 f
 ·refine cDs [] (jj a0 (sg u0)) ?_
  exact rtD [.cell 4 31, .tmp 5] f
 exact rtD [.cell 4 31, .tmp 5] f
theorem R1 (a0 : ZI) : Xt prog 13 true a0.row [] (Kc a0).1.row [(Kc a0).2.row] := by
 have f := me (Kc.eq_1 a0)
 refine Y2 func13 rfl (by kernel_rfl) (fun v => ?_)
 simp [ntmps13]
 refine cBs [] (Zt a0 3) ?_
 refine cBs [] (Zt (ZA a0 3).1 4) ?_
 refine lp6 (JV.eq_2) (fun J U wB wH wP wy => Yd 22 [(0, .fix v (.one (.bptr 0 0)), [.box [.d (.sl 1 (U.map bR)), .d (.int .i64 (wB : Int)), .d (.int .i64 wH)]]), (2, .one (.bptr 2 0), [.box [.d (.int .i64 0), .nil 16]]), (3, .one (.bptr 3 0), [.box [.d (.int .i64 wP), .sref 3 2 0 wy.length], .none, .arr true 16 (wy.map Zp.row)]), eI 4 J]) (fun n1 J U wB wH wP wy => J + 1 <= (n1 : Int) /\ 0 <= J /\ n1 <= 5 /\ Sm (100 - n1) (Zf.mk wP wy)) 5 (ZA (ZA a0 3).1 4).2 (ZA (ZA a0 3).1 4).1.b (ZA (ZA a0 3).1 4).1.i (ZA (ZA a0 3).1 4).1.h (ZA a0 3).2 ([] : List Zp) (fun p1 J U wB wH wP wy e1 j1 => ?_) (hI := by (have z := YY (ZA a0 3).1 4; (try dsimp only); exact ⟨by omega, by omega, by omega, by omega, Sz.zero (α := List Zp) _⟩)) (h0 := wkS [((3, 2), none)] [])
 try dsimp only at j1
 refine cF e1 ?_ ?_ <;> intro k2 h1 e1
 ·refine okD fun k3 => ?_
  refine UX [(0, 0), (3, 3), (16, 0)] [] [17, 3000001] mixed (by kernel_rfl) (by kernel_rfl) (by kernel_rfl) (by kernel_rfl) (by kernel_rfl) (by kernel_rfl) (by kernel_rfl) ?_
  simp
  refine cBs [] (Mq (ZI.mk U wB wH)) ?_
  refine cDs [] (MC (Zf.mk wP wy) (Xm (ZI.mk U wB wH)).2 (by first | with_reducible exact ZN (by omega) j1.2.2.2.2 | with_reducible exact xz (by decide)) (by first | with_reducible exact ZN (by omega) j1.2.2.2.2 | with_reducible exact xz (by decide))) ?_
  exact nx6 e1 (hI := by (have hh := h1; simp at hh; have q := j1.2.2.2.1; (try dsimp only); simp only [Yw]; exact ⟨by omega, by omega, by omega, by omega, ZN (by omega) (TH j1.2.2.2.2 (xz (by omega)))⟩)) (hw := wkS [((3, 2), some (18, 1))] [])
 have f := ms f e1
 refine JS (rv := [.cell 2 31]) rfl ?_
 simp [f.h]
theorem WM (a0 : List UInt8) : Sd 5 [rL 1 bR a0] [(ZQ a0).1.row, (ZQ a0).2.row] := by
 have f := me (ZQ.eq_1 a0)
 refine soD func5 ntmps5 ?_
 refine cNs (PE a0) ?_
 refine cBs [] (Oe (zE a0)) ?_
 refine UX [(2, 2), (3, 3), (4, 7), (5, 5), (11, 7)] [] [12, 3000001] mixed (by kernel_rfl) (by kernel_rfl) (by kernel_rfl) (by kernel_rfl) (by kernel_rfl) (by kernel_rfl) (by kernel_rfl) ?_
 simp
 refine cBs [] (R1 (KZ (zE a0)).1) ?_
 exact rtD [.cell 2 28, .cell 3 31] f
theorem Ue (a0 : List Int) (a1 : Int) : Sa 127 [rL 1 iR a0, rI a1] [rB (UA a0 a1)] := by
 have f := me (UA.eq_1 a0 a1)
 refine so func127 ntmps127 ?_
 refine lp1 (SZ.eq_2 a0 a1) (fun J => Yd 18 [eL 0 1 a0 iR, eI 1 a1, eI 5 (J : Int)]) (fun n1 J => a0.length < n1 + J /\ J <= a0.length) (a0.length + 1) 0 (fun p1 J e1 j1 => ?_)
 refine cFf e1 ?_ ?_ <;> intro k2 h1 e1
 ·have i1 := ix h1
  have m2 := ml a0 (k2 0 _ rfl)
  have w1 := wr J
  simp [i1, ZC]
  refine rpS ?_
  refine cF e1 ?_ ?_ <;> intro k3 h2 e1
  ·have f := ms f e1
   exact rt [.tmp 4] f
  exact ny1 w1 e1
 have f := ms f e1
 exact rt [.tmp 4] f
theorem UC (a0 : List Int) (a1 : ZM) (a2 : List Int) (u0 : Sm 2322432 a0) (u1 : Sm 2322432 a1) (u2 : Sm 2322432 a2) : Sd 76 [rL 1 iR a0, a1.row, rL 1 iR a2] [(Yi a0 a1 a2).1.row, rB (Yi a0 a1 a2).2] := by
 have f := me (Yi.eq_1 a0 a1 a2)
 refine soD func76 ntmps76 ?_
 refine cRs (zC a1) ?_
 refine cF f ?_ ?_ <;> intro k1 h1 f
 ·exact rtD [.cell 6 51, .tmp 7] f
 refine Nd [2, 3, 4, 0, 1, 5, 6, 7] mixed (by kernel_rfl) (by kernel_rfl) (by kernel_rfl) ?_
 have c1 := sl 2322432 a0 (an u0 (an u1 u2))
 simp
 refine rpS ?_
 refine lp5 (YF.eq_2 a0 a1 a2) (fun J U wB wH wP => Yd 103 [eL 0 1 a0 iR, eL 2 1 a2 iR, eX 4 (a1.row.map .d), (6, .one (.bptr 6 0), [.box [.d (.int .i64 0), .nil 1, .nil 1, .nil 1, .nil 1, .nil 1]]), (8, .one (.bptr 8 0), [.box [.d (.int .i64 a1.QF), .sref 20 0 0 a0.length, .sref 8 3 0 U.length, .sref 8 4 0 wB.length, .sref 8 5 0 wH.length, .sref 8 6 0 wP.length], .none, .none, .arr false 1 (U.map lR), .arr false 1 (wB.map sR), .arr false 1 (wH.map iR), .arr true 1 (wP.map (slR 1 iR))]), eI 9 (J : Int), (20, .any, [.arr false 1 (a0.map iR)])]) (fun n1 J U wB wH wP => a1.Zd.length < n1 + J /\ J <= a1.Zd.length /\ U.length <= J /\ wB.length <= J /\ wH.length <= J /\ wP.length <= J) (a1.Zd.length + 1) 0 ([] : List Bool) ([] : List ByteArray) ([] : List Int) ([] : List (List Int)) (fun p1 J U wB wH wP e1 j1 => ?_) (h0 := wkS [((8, 3), none), ((8, 4), none), ((8, 5), none), ((8, 6), none)] [])
 try dsimp only at j1
 refine cF e1 ?_ ?_ <;> intro k4 h2 e1
 ·have i1 := ix h2
  have m2 := ml a1.Zd (k4 24 _ rfl)
  have c2 := sl 2322432 a1.Zd (an u0 (an u1 u2))
  have w1 := wr J
  refine cRs (Ue a2 (J : Int)) ?_
  refine cF e1 ?_ ?_ <;> intro k5 h3 e1
  ·refine okL fun k6 => ?_
   refine lp2 (QW.eq_2 a0 a1 J) (fun wD wE => Yd 103 [eL 0 1 a0 iR, eL 2 1 a2 iR, eX 4 (a1.row.map .d), (6, .one (.bptr 6 0), [.box [.d (.int .i64 0), .nil 1, .nil 1, .nil 1, .nil 1, .nil 1]]), (8, .one (.bptr 8 0), [.box [.d (.int .i64 a1.QF), .sref 20 0 0 a0.length, .sref 8 3 0 U.length, .sref 8 4 0 wB.length, .sref 8 5 0 wH.length, .sref 8 6 0 wP.length], .none, .none, .arr false 1 (U.map lR), .arr false 1 (wB.map sR), .arr false 1 (wH.map iR), .arr true 1 (wP.map (slR 1 iR))]), eI 9 (J : Int), (10, .one (.sref 10 0 0 wD.length), [.arr false 1 (wD.map iR)]), eI 11 (wE : Int), (20, .any, [.arr false 1 (a0.map iR)])]) (fun n2 wD wE => a0.length < n2 + wE /\ wE <= a0.length /\ wD.length <= 0 + 1 * wE) (a0.length + 1) ([] : List Int) 0 (fun p2 wD wE e2 j2 => ?_) (h0 := wkS [((10, 0), some (29, 0))] [])
   try dsimp only at j2
   refine cF e2 ?_ ?_ <;> intro k7 h4 e2
   ·have i2 := ix h4
    have m4 := ml a0 (k7 0 _ rfl)
    have w2 := wr wE
    refine dIo mixed ?_
    have i3 : J < a1.Yh.length := by (have z := qy (a0 := a1) (by simpa using h1); omega)
    simp [i2, ZC, i1, i3]
    refine rpS ?_
    refine cRs (Wq (nth a0 wE) (nth a1.Zd J) (nth a1.Yh J) (sg (Z2 (ZM.qb u1)))) ?_
    exact nx2 e2 (hw := Y5 [((10, 0), some (56, 0))] [] rfl (by simp [w1, w2]))
   have e1 := ms e1 e2
   refine dIs mixed ?_
   refine cRs (Ue a2 (J : Int)) ?_
   refine Vq ?_
   simp
   refine UB (wI := (wP.map (slR 1 iR))) (news := (([wD] : List (List Int)).map (slR 1 iR))) (l1 := [(8, 6)]) (l2 := [(10, 0)]) (size := 1) ?_
   simp
   exact nx5 e1 (hw := Y5 [((8, 3), some (94, 0)), ((8, 4), some (60, 0)), ((8, 5), some (65, 0)), ((8, 6), some (100, 0))] [] rfl (by simp [w1]))
  refine dIo mixed ?_
  simp [i1, ZC]
  refine rpS ?_
  refine dIo mixed ?_
  have i4 : J < a1.Yh.length := by (have z := qy (a0 := a1) (by simpa using h1); omega)
  simp [i4, ZC]
  refine rpS ?_
  refine dIs mixed ?_
  refine cRs (Ue a2 (J : Int)) ?_
  refine Vq ?_
  simp
  refine UB (wI := (wP.map (slR 1 iR))) (news := (([([] : List Int)] : List (List Int)).map (slR 1 iR))) (l1 := [(8, 6)]) (l2 := [(29, 0)]) (size := 1) ?_
  simp
  exact nx5 e1 (hw := Y5 [((8, 3), some (94, 0)), ((8, 4), some (75, 0)), ((8, 5), some (85, 0)), ((8, 6), some (100, 0))] [] rfl (by simp [w1]))
 have c3 := sl 2322432 a1.Zd (an u0 (an u1 u2))
 have f := ms f e1
 exact rtD [.cell 6 51, .tmp 7] f
theorem Ls (a0 : ZI) : Xt prog 43 true a0.row [] (ZT a0).1.row [(ZT a0).2.1.row, (ZT a0).2.2.row] := by
 have f := me (ZT.eq_1 a0)
 refine Y2 func43 rfl (by kernel_rfl) (fun v => ?_)
 simp [ntmps43]
 refine cBs [] (RH a0) ?_
 refine lp5 (yz.eq_2) (fun J U wB wH wP => Yd 31 [(0, .fix v (.one (.bptr 0 0)), [.box [.d (.sl 1 (wB.map bR)), .d (.int .i64 (wH : Int)), .d (.int .i64 wP)]]), (2, .one (.bptr 2 0), [.box [.d (.int .i64 0), .nil 1, .nil 1, .nil 1, .nil 1, .nil 1]]), (3, .one (.bptr 3 0), [.box [.d (.int .i64 0), .nil 1, .nil 1]]), (4, .one (.bptr 4 0), [.box [.d (.int .i64 (Zm a0).2.QF), .sref 10 1 0 (Zm a0).2.Zd.length, .sref 10 2 0 (Zm a0).2.Yh.length]]), (5, .one (.sref 5 0 0 J.length), [.arr false 1 (J.map iR)]), eI 6 (U : Int), (10, .any, [.none, .arr true 1 ((Zm a0).2.Zd.map sR), .arr true 1 ((Zm a0).2.Yh.map iR)])]) (fun n1 J U wB wH wP => 3 < n1 + U /\ U <= 3 /\ J.length <= U) 4 ([] : List Int) 0 (Zm a0).1.b (Zm a0).1.i (Zm a0).1.h (fun p1 J U wB wH wP e1 j1 => ?_) (h0 := wkS [((5, 0), some (11, 0))] [])
 refine cF e1 ?_ ?_ <;> intro k2 h1 e1
 ·have w1 := wr U
  refine cBs [] (zh (ZI.mk wB wH wP) 2) ?_
  refine cF e1 ?_ ?_ <;> intro k3 h2 e1
  ·exact nx5 e1 (hw := Y5 [((5, 0), some (21, 0))] [] rfl (by simp [w1]))
  exact ny5 w1 e1
 have f := ms f e1
 refine cDs [true, false, false, false, false] (UC ([1, 2, 4] : List Int) (Zm a0).2 J (by simp (maxDischargeDepth := 12) [XA, Ye]; try omega) (by simp (maxDischargeDepth := 12) [jc]; try omega) (by first | (simp (maxDischargeDepth := 12) [Ye]; omega) | (simp (maxDischargeDepth := 12) []; done))) ?_
 refine qR [(2, 2), (3, 3), (4, 4), (7, 7)] mixed (by kernel_rfl) (by kernel_rfl) (by kernel_rfl) (by kernel_rfl) ?_
 simp
 refine JS (rv := [.cell 2 51, .cell 3 39]) rfl ?_
 simp [f.h, -Bool.exists_bool, -Bool.forall_bool]
theorem zM {a b : Prop} (h : b) (k : a := by (intros; first | omega | with_unfolding_all (first | first | omega | (have z := Kt a0; have z1 := Yf (Zi.PK z.1); omega)) | ((try simp only [Yw, show ∀ x, IntKind.i64.wrap x = W x from fun _ => rfl] at *); omega))) : a /\ b := ⟨k, h⟩
theorem IT (a0 : ZI) : Xt prog 31 false a0.row [] (qE a0).1.row [(qE a0).2.1.row, (qE a0).2.2.row] := by
 have f := me (qE.eq_1 a0)
 refine Y2 func31 rfl (by kernel_rfl) (fun v => ?_)
 simp [ntmps31]
 refine cBs [true, false, false, false, false, true, true, false, false] (Ls a0) ?_
 refine cBs [] (Zt (ZT a0).1 10) ?_
 refine cFf f ?_ ?_ <;> intro k1 h1 f
 ·have i1 : 0 < (ZT a0).2.1.Zd.length := by first | omega | (have z := Kt a0; omega) | (simp at h7; omega)
  simp [i1, ZC, MU (x := (⟨#[122]⟩ : ByteArray)) rfl]
  repeat with_reducible refine zM ?_
  refine qR [(2, 2), (3, 3), (4, 4), (5, 5)] mixed (by kernel_rfl) (by kernel_rfl) (by kernel_rfl) (by kernel_rfl) ?_
  simp
  refine JS (rv := [.cell 2 51, .cell 3 39]) rfl ?_
  simp [f.h, -Bool.exists_bool, -Bool.forall_bool]
  all_goals (repeat' (first | exact OB (by simp) (by simp) | refine And.intro ?_ ?_))
 refine cF f ?_ ?_ <;> intro k3 h2 f
 ·refine okD fun k4 => ?_
  refine dIo mixed ?_
  have i2 : 0 < (ZT a0).2.1.Shown.length := by first | omega | (have z := Kt a0; omega) | (simp at h7; omega)
  simp [i2, ZC, MU (x := (!(nth (ZT a0).2.1.Shown 0))) rfl]
  repeat with_reducible refine zM ?_
  refine qR [(2, 2), (3, 3), (4, 4), (5, 5)] mixed (by kernel_rfl) (by kernel_rfl) (by kernel_rfl) (by kernel_rfl) ?_
  simp
  refine JS (rv := [.cell 2 51, .cell 3 39]) rfl ?_
  simp [f.h, -Bool.exists_bool, -Bool.forall_bool]
  all_goals (repeat' (first | exact OB (by simp) (by simp) | refine And.intro ?_ ?_))
 refine cFf f ?_ ?_ <;> intro k6 h3 f
 ·simp
  repeat with_reducible refine zM ?_
  refine qR [(2, 2), (3, 3), (4, 4), (5, 5)] mixed (by kernel_rfl) (by kernel_rfl) (by kernel_rfl) (by kernel_rfl) ?_
  simp
  refine JS (rv := [.cell 2 51, .cell 3 39]) rfl ?_
  simp [f.h, -Bool.exists_bool, -Bool.forall_bool]
 refine cFf f ?_ ?_ <;> intro k8 h4 f
 ·simp
  repeat with_reducible refine zM ?_
  refine qR [(2, 2), (3, 3), (4, 4), (5, 5)] mixed (by kernel_rfl) (by kernel_rfl) (by kernel_rfl) (by kernel_rfl) ?_
  simp
  refine JS (rv := [.cell 2 51, .cell 3 39]) rfl ?_
  simp [f.h, -Bool.exists_bool, -Bool.forall_bool]
 refine cF f ?_ ?_ <;> intro l6 h5 f
 ·refine LF [(44, 0)] rfl (by simp) ?_
  refine cBs [] (yv (ZA (ZT a0).1 10).1 ([(-1), 7, 1000] : List Int) (by first | omega | (simp; done) | (simp; omega))) ?_
  refine qR [(2, 2), (3, 3), (4, 4), (5, 5)] mixed (by kernel_rfl) (by kernel_rfl) (by kernel_rfl) (by kernel_rfl) ?_
  simp
  refine JS (rv := [.cell 2 51, .cell 3 39]) rfl ?_
  simp [f.h, -Bool.exists_bool, -Bool.forall_bool]
 refine cFf f ?_ ?_ <;> intro ij h6 f
 ·have i3 : 0 < (ZT a0).2.1.Xu.length := by first | omega | (have z := Kt a0; omega) | (simp at h7; omega)
  simp [i3, ZC]
  repeat with_reducible refine zM ?_
  refine cF f ?_ ?_ <;> intro l8 h7 f
  ·refine okD fun l7 => ?_
   refine drJ [] mixed ?_
   have i4 : 0 < (nth (ZT a0).2.1.Xu 0).length := by first | omega | (have z := Kt a0; omega) | (simp at h7; omega)
   simp [i3, ZC, i4]
   repeat with_reducible refine zM ?_
   refine Dt (t := 8) (j := 5) (i := 0) (c := 0) (k' := 0) (q := 0) (n := 1) (size := 1) (s := ((nth (ZT a0).2.1.Xu 0).map iR)) (rows := ((ZT a0).2.1.Xu.map (slR 1 iR))) (ds := rI (W ((nth (nth (ZT a0).2.1.Xu 0) 0) + 1))) (L := []) rfl rfl rfl rfl (by simp; rfl) (by simp) (by simp) (by simp [i3, i4]) (by simp [ZC, W1, i3, i4]) (by simp [i3, i4]) (by simp) (by simp) (by simp) (by simp) (by simp) (by simp) ?_
   simp [MU (x := ((nth (ZT a0).2.1.Xu 0).set 0 (W ((nth (nth (ZT a0).2.1.Xu 0) 0) + 1)))) rfl, ZC, W1, i3, i4]
   repeat with_reducible refine zM ?_
   refine qR [(2, 2), (3, 3), (4, 4), (5, 5)] mixed (by kernel_rfl) (by kernel_rfl) (by kernel_rfl) (by kernel_rfl) ?_
   simp
   refine JS (rv := [.cell 2 51, .cell 3 39]) rfl ?_
   simp [f.h, -Bool.exists_bool, -Bool.forall_bool]
  refine qR [(2, 2), (3, 3), (4, 4), (5, 5)] mixed (by kernel_rfl) (by kernel_rfl) (by kernel_rfl) (by kernel_rfl) ?_
  simp
  refine JS (rv := [.cell 2 51, .cell 3 39]) rfl ?_
  simp [f.h, -Bool.exists_bool, -Bool.forall_bool]
 refine qR [(2, 2), (3, 3), (4, 4), (5, 5)] mixed (by kernel_rfl) (by kernel_rfl) (by kernel_rfl) (by kernel_rfl) ?_
 simp
 refine JS (rv := [.cell 2 51, .cell 3 39]) rfl ?_
 simp [f.h, -Bool.exists_bool, -Bool.forall_bool]
theorem UI (a0 : List UInt8) : Sa 18 [rL 1 bR a0] [(Kv a0).row] := by
 have f := me (Kv.eq_1 a0)
 refine so func18 ntmps18 ?_
 refine cNs (PE a0) ?_
 refine cBs [] (IT (zE a0)) ?_
 exact rt [.cell 2 51] f
theorem kT (a0 : List UInt8) : Sa 8 [rL 1 bR a0] [(Za a0).row] := by
 have f := me (Za.eq_1 a0)
 refine so func8 ntmps8 ?_
 refine cRs (UI a0) ?_
 exact rt [.cell 2 51] f
end Go.Proofs.YtlilcnnajeeigaaGreat
