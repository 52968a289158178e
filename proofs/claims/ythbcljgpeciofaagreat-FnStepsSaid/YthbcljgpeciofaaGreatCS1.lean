/- Contracts of the functions NW the abstract machine, part S1. No condition. -/
import Derived.Test.YthbcljgpeciofaaGreatL
import Derived.Test.YthbcljgpeciofaaGreatTy
namespace Go.Proofs.YthbcljgpeciofaaGreat
open Tryz
open Go.Vm Go.Mo
set_option maxHeartbeats 1000000
set_option maxRecDepth 100000
set_option linter.unusedSimpArgs false
set_option linter.unusedVariables false
theorem qG (a0 : List UInt8) : Rr prog 53 [rL 1 bR a0] (Zz a0).row := by
 have f := me (Zz.eq_1 a0)
 refine Em func53 rfl (by kernel_rfl) ?_
 simp [ntmps53]
 refine lp2 (PD.eq_2 a0) (fun J U => Yy 32 [eL 0 1 a0 bR, eI 3 J, eI 4 (U : Int)]) (fun n1 J U => 4000 < n1 + U) 4001 (W (193017 + (a0.length : Int))) 0 (fun p1 J U e1 j1 => ?_)
 refine cFf e1 ?_ ?_ <;> intro k2 h1 e1
 ·have i1 : U < a0.length := by (simp at h1; omega)
  have m2 := ml a0 (k2 0 _ rfl)
  have w1 := wr U
  simp [i1, ZE]
  refine rpS ?_
  exact ny2 w1 e1
 have f := ms f e1
 refine wv 31 (rv := [.tmp 2]) rfl ?_
 simp [f.h]
theorem kn (a0 : ZS) : zU prog 119 false a0.row [] (Xn a0).1.row [rI (Xn a0).2] := by
 have f := me (Xn.eq_1 a0)
 refine Kp func119 rfl (by kernel_rfl) (fun v => ?_)
 simp [ntmps119]
 refine dIs mixed ?_
 refine dIs mixed ?_
 refine cF f ?_ ?_ <;> intro k3 h1 f
 ·refine okD fun k4 => ?_
  refine dIo mixed ?_
  have i1 := ik a0.i a0.b
  simp [i1, ZE]
  refine rpS ?_
  refine Wt (rv := [.tmp 2]) rfl ?_
  first | (have w0 := wr a0.i (by have z := ml a0.b (k3 32 _ rfl); simp at h1; omega); simp [f.h, w0]; done) | simp [f.h]
 refine Wt (rv := [.tmp 2]) rfl ?_
 first | (have w0 := wr a0.i (by have z := ml a0.b (k3 32 _ rfl); simp at h1; omega); simp [f.h, w0]; done) | simp [f.h]
theorem Yd (a0 : ZS) (a1 : Int) : zU prog 55 false a0.row [rI a1] (ZB a0 a1).1.row [rI (ZB a0 a1).2] := by
 have f := me (ZB.eq_1 a0 a1)
 refine Kp func55 rfl (by kernel_rfl) (fun v => ?_)
 simp [ntmps55]
 refine cF f ?_ ?_ <;> intro k1 h1 f
 ·refine Wt (rv := [.tmp 4]) rfl ?_
  simp [f.h]
 refine cF f ?_ ?_ <;> intro k2 h2 f
 ·refine cBs [] (kn a0) ?_
  refine Wt (rv := [.tmp 4]) rfl ?_
  simp [f.h]
 refine cBs [] (kn a0) ?_
 refine cBs [] (kn (Xn a0).1) ?_
 refine cBs [] (kn (Xn (Xn a0).1).1) ?_
 refine Wt (rv := [.tmp 4]) rfl ?_
 simp [f.h]
theorem N7 (a0 : Int) (a1 : Int) : Sa 156 [rI a0, rI a1] [rI (zG a0 a1)] := by
 have f := me (zG.eq_1 a0 a1)
 refine so func156 ntmps156 ?_
 refine cF f ?_ ?_ <;> intro k1 h1 f
 ·exact rt [.tmp 4] f
 exact rt [.tmp 4] f
theorem GW (a0 : Int) (a1 : Int) : Sa 155 [rI a0, rI a1] [rI (qo a0 a1)] := by
 have f := me (qo.eq_1 a0 a1)
 refine so func155 ntmps155 ?_
 refine cF f ?_ ?_ <;> intro k1 h1 f
 ·exact rt [.tmp 4] f
 exact rt [.tmp 4] f
theorem kb : Sd 157 [] [rL 5 Y4.row zF] := by
 have f := me (zF.eq_1)
 refine soD func157 ntmps157 ?_
 exact rtD [.tmp 0] f
theorem U4 : Sd 158 [] [rL 3 Zr.row Ja] := by
 have f := me (Ja.eq_1)
 refine soD func158 ntmps158 ?_
 exact rtD [.tmp 0] f
theorem I5 : Sd 159 [] [rL 4 YH.row jW] := by
 have f := me (jW.eq_1)
 refine soD func159 ntmps159 ?_
 exact rtD [.tmp 0] f
theorem QW (a0 : List Y4) (a1 : Int) : Sa 138 [rL 5 Y4.row a0, rI a1] [rI (Z0 a0 a1)] := by
 have f := me (Z0.eq_1 a0 a1)
 refine so func138 ntmps138 ?_
 refine lp1 (xF.eq_2 a0 a1) (fun J => Yy 20 [eL 0 5 a0 Y4.row, eI 1 a1, eI 5 (J : Int)]) (fun n1 J => a0.length < n1 + J /\ J <= a0.length) (a0.length + 1) 0 (fun p1 J e1 j1 => ?_)
 refine cFf e1 ?_ ?_ <;> intro k2 h1 e1
 ·have i1 := ix h1
  have m2 := ml a0 (k2 0 _ rfl)
  have w1 := wr J
  simp [i1, ZE]
  refine rpS ?_
  refine cF e1 ?_ ?_ <;> intro k3 h2 e1
  ·have f := ms f e1
   exact rt [.tmp 4] f
  exact ny1 w1 e1
 have f := ms f e1
 exact rt [.tmp 4] f
theorem Yj (a0 : Int) (a1 : Int) (a2 : Int) : Sa 146 [rI a0, rI a1, rI a2] [rB (Z8 a0 a1 a2)] := by
 have f := me (Z8.eq_1 a0 a1 a2)
 refine so func146 ntmps146 ?_
 exact rt [.tmp 6] f
theorem M7 (a0 : Ye) : Sa 319 [a0.row] [(qD a0).row] := by
 have f := me (qD.eq_1 a0)
 refine so func319 ntmps319 ?_
 exact rt [.cell 2 71] f
theorem qu (a0 : Int) : Sa 262 [rI a0] [rB (qq a0)] := by
 have f := me (qq.eq_1 a0)
 refine so func262 ntmps262 ?_
 refine cRs (Yj a0 0 10000) ?_
 exact rt [.tmp 2] f
theorem H7 (a0 : jI) : Sa 318 [a0.row] [rB (Vv a0)] := by
 have f := me (Vv.eq_1 a0)
 refine so func318 ntmps318 ?_
 refine cRs (qu a0.qA) ?_
 refine cGs (fun gg => (qu a0.To)) ?_
 exact rt [.tmp 2] f
theorem GQ (a0 : Ye) : Sa 287 [a0.row] [rB (Ub a0)] := by
 have f := me (Ub.eq_1 a0)
 refine so func287 ntmps287 ?_
 refine cRs (Yj a0.ZV 1 999) ?_
 refine cGs (fun gg => (Yj a0.Key 1 99)) ?_
 refine cGs (fun gg => (Yj a0.Zn 1 99)) ?_
 refine cGs (fun gg => (Yj a0.zY 0 99)) ?_
 refine cGs (fun gg => (M7 a0)) ?_
 refine cGs (fun gg => (H7 (qD a0))) ?_
 exact rt [.tmp 2] f
theorem Td (a0 : Ye) : Sd 288 [a0.row] [rL 1 iR (KX a0)] := by
 have f := me (KX.eq_1 a0)
 refine soD func288 ntmps288 ?_
 exact rtD [.tmp 2] f
theorem Du (a0 : Int) (a1 : Int) : Sa 336 [rI a0, rI a1] [rI (Tg a0 a1)] := by
 have f := me (Tg.eq_1 a0 a1)
 refine so func336 ntmps336 ?_
 refine cRs (Yj a1 1 1000000000000) ?_
 refine cFo f ?_ ?_ <;> intro k1 h1 f
 ·have q1 := h1; try simp [Z8] at q1
  simp
  exact rt [.tmp 4] f
 have q1 := h1; try simp [Z8] at q1
 simp
 refine rpS ?_
 exact rt [.tmp 4] f
theorem Lk (a0 : List Int) : Sa 316 [rL 1 iR a0] [rI (V9 a0)] := by
 have f := me (V9.eq_1 a0)
 refine so func316 ntmps316 ?_
 refine lp2 (qh.eq_2 a0) (fun J U => Yy 22 [eL 0 1 a0 iR, eI 3 J, eI 4 (U : Int)]) (fun n1 J U => a0.length < n1 + U /\ U <= a0.length) (a0.length + 1) 11 0 (fun p1 J U e1 j1 => ?_)
 refine cFf e1 ?_ ?_ <;> intro k2 h1 e1
 ·have i1 := ix h1
  have m2 := ml a0 (k2 0 _ rfl)
  have w1 := wr U
  simp [i1, ZE]
  refine rpS ?_
  refine cRs (Du (nth a0 U) 2147483647) ?_
  exact ny2 w1 e1
 have f := ms f e1
 exact rt [.tmp 2] f
theorem Ue (a0 : Int) (a1 : List Int) (u0 : Sm 2330624 a1) : Sa 277 [rI a0, rL 1 iR a1] [rI (J0 a0 a1)] := by
 have f := me (J0.eq_1 a0 a1)
 have c1 := sl 2330624 a1 u0
 refine so func277 ntmps277 ?_
 refine cRs (Lk ((([a0] : List Int) ++ a1) ++ ([a0] : List Int))) ?_
 exact rt [.tmp 4] f
theorem qW (a0 : Y4) (a1 : List Int) (u0 : Sm 2326528 a1) : Sa 258 [a0.row, rL 1 iR a1] [rI (zu a0 a1)] := by
 have f := me (zu.eq_1 a0 a1)
 refine so func258 ntmps258 ?_
 refine MP [2, 3, 4, 5, 6, 0, 1, 7, 8] mixed (by kernel_rfl) (by kernel_rfl) (by kernel_rfl) ?_
 have c1 := sl 2326528 a1 u0
 simp
 refine rpS ?_
 refine cRs (Ue a0.jC (([a0.Method] : List Int) ++ a1) (by simp (maxDischargeDepth := 12) [Jz, XO, Zb (m := 2330624) (by decide) u0]; try omega)) ?_
 exact rt [.tmp 4] f
theorem kK (a0 : List Y4) (a1 : Ye) (u0 : Sm 2322432 a0) : Sa 224 [rL 5 Y4.row a0, a1.row] [(xK a0 a1).1.row, rB (xK a0 a1).2] := by
 have f := me (xK.eq_1 a0 a1)
 refine so func224 ntmps224 ?_
 refine cRs (QW a0 a1.Zn) ?_
 refine cRs (GQ a1) ?_
 refine cGs (fun gg => (QW a0 a1.Key)) ?_
 refine cF f ?_ ?_ <;> intro k1 h1 f
 ·exact rt [.cell 4 111, .tmp 5] f
 refine dIo mixed ?_
 have i1 : (Z0 a0 a1.Zn).toNat < a0.length := by have := Xk a0 a1.Zn; exact il
 simp [i1, ZE]
 refine rpS ?_
 refine cRs (YP.rd (Td a1)) ?_
 refine cRs (qW (nth a0 (Z0 a0 a1.Zn).toNat) (KX a1) (by simp (maxDischargeDepth := 12) [TS, Zb (m := 2326528) (by decide) u0]; try omega)) ?_
 exact rt [.cell 4 111, .tmp 5] f
theorem Ii : Sd 160 [] [rL 7 Ye.row qK] := by
 have f := me (qK.eq_1)
 refine soD func160 ntmps160 ?_
 refine cRs (YP.rd (kb)) ?_
 refine cRs (kK zF (Ye.mk 1 11 1 0 60 1 0) (by simp (maxDischargeDepth := 12) [kU]; try omega)) ?_
 refine cRs (YP.rd (kb)) ?_
 refine cRs (kK zF (Ye.mk 2 12 1 20 100 1 0) (by simp (maxDischargeDepth := 12) [kU]; try omega)) ?_
 refine cRs (YP.rd (kb)) ?_
 refine cRs (kK zF (Ye.mk 3 13 2 40 150 2 0) (by simp (maxDischargeDepth := 12) [kU]; try omega)) ?_
 exact rtD [.tmp 0] f
theorem My (a0 : Int) : Sd 86 [rI a0] [(YE a0).row] := by
 have f := me (YE.eq_1 a0)
 refine soD func86 ntmps86 ?_
 refine cRs (N7 0 a0) ?_
 refine cRs (GW 1 (zG 0 a0)) ?_
 refine cDs [false] (kb) ?_
 refine cDs [false] (U4) ?_
 refine cDs [false] (I5) ?_
 refine cDs [false] (Ii) ?_
 refine Bs (news := (([(ZF.mk 0 ([] : List ZZ)), (ZF.mk 1 ([] : List ZZ))] : List ZF).map ZF.row)) (L := []) rfl rfl rfl rfl (by simp) (by simp) (by simp) (by simp) (by simp) (by simp) ?_
 simp
 refine cF f ?_ ?_ <;> intro k1 h1 f
 ·exact rtD [.cell 2 33] f
 exact rtD [.cell 2 33] f
theorem FE {a b : Prop} (h : b) (k : a := by (intros; first | omega | with_unfolding_all (first | first | omega | (have z := X8 a0 (a1.length : Int); omega)) | ((try simp only [Xc, show ∀ x, IntKind.i64.wrap x = W x from fun _ => rfl] at *); omega))) : a /\ b := ⟨k, h⟩
theorem JC (a0 : ZS) (a1 : List Int) (u0 : 0 < a1.length) : zU prog 58 false a0.row [rL 1 iR a1] (ZJ a0 a1).1.row [rI (ZJ a0 a1).2] := by
 have f := me (ZJ.eq_1 a0 a1)
 refine Kp func58 rfl (by kernel_rfl) (fun v => ?_)
 simp [ntmps58]
 refine cBo [] (Yd a0 (a1.length : Int)) ?_
 have i1 : (ZB a0 (a1.length : Int)).2.toNat < a1.length := by (have z := X8 a0 (a1.length : Int); omega)
 simp [i1, ZE]
 repeat with_reducible refine FE ?_
 refine Wt (rv := [.tmp 4]) rfl ?_
 simp [f.h]
theorem FF {a b : Prop} (h : b) (k : a := by (intros; first | omega | with_unfolding_all (first | first | omega | (have z := X8 a0 (a1.length : Int); omega)) | ((try simp only [Xc, show ∀ x, IntKind.i64.wrap x = W x from fun _ => rfl] at *); omega))) : a /\ b := ⟨k, h⟩
theorem FJ (a0 : ZS) (a1 : List ByteArray) (u0 : 0 < a1.length) : zU prog 276 false a0.row [rL 1 sR a1] (Uv a0 a1).1.row [rS (Uv a0 a1).2] := by
 have f := me (Uv.eq_1 a0 a1)
 refine Kp func276 rfl (by kernel_rfl) (fun v => ?_)
 simp [ntmps276]
 refine cBo [] (Yd a0 (a1.length : Int)) ?_
 have i1 : (ZB a0 (a1.length : Int)).2.toNat < a1.length := by (have z := X8 a0 (a1.length : Int); omega)
 simp [i1, ZE]
 repeat with_reducible refine FF ?_
 refine Wt (rv := [.tmp 4]) rfl ?_
 simp [f.h]
theorem Hy (a0 : ZS) : zU prog 203 false a0.row [] (Qw a0).1.row [rS (Qw a0).2] := by
 have f := me (Qw.eq_1 a0)
 refine Kp func203 rfl (by kernel_rfl) (fun v => ?_)
 simp [ntmps203]
 refine Hi [(4, 0)] rfl (by simp) ?_
 refine cBs [] (FJ a0 ([(⟨#[]⟩ : ByteArray), (⟨#[97]⟩ : ByteArray), (⟨#[98]⟩ : ByteArray), (⟨#[97, 98]⟩ : ByteArray), (⟨#[121, 101, 115]⟩ : ByteArray), (⟨#[110, 111]⟩ : ByteArray), (⟨#[111, 110, 101, 32, 104, 117, 110, 100, 114, 101, 100]⟩ : ByteArray)] : List ByteArray) (by first | omega | (simp; done) | (simp; omega))) ?_
 refine Wt (rv := [.tmp 2]) rfl ?_
 simp [f.h]
theorem qy (a0 : Zd) : Sa 278 [a0.row] [rB (Y1 a0)] := by
 have f := me (Y1.eq_1 a0)
 refine so func278 ntmps278 ?_
 refine lp1 (XT.eq_2 a0) (fun J => Yy 51 [eX 1 (a0.row.map .d), eI 3 (J : Int)]) (fun n1 J => a0.YR.length < n1 + J /\ J <= a0.YR.length) (a0.YR.length + 1) 0 (fun p1 J e1 j1 => ?_)
 refine cFf e1 ?_ ?_ <;> intro k2 h1 e1
 ·have i1 := ix h1
  have m2 := ml a0.YR (k2 7 _ rfl)
  have w1 := wr J
  simp [i1, ZE]
  refine rpS ?_
  refine cF e1 ?_ ?_ <;> intro k3 h2 e1
  ·have f := ms f e1
   exact rt [.tmp 2] f
  exact ny1 w1 e1
 have f := ms f e1
 refine lp1 (XN.eq_2 a0) (fun uE => Yy 51 [eX 1 (a0.row.map .d), eI 4 (uE : Int)]) (fun n2 uE => a0.XP.length < n2 + uE /\ uE <= a0.XP.length) (a0.XP.length + 1) 0 (fun p2 uE e2 j2 => ?_)
 refine cFf e2 ?_ ?_ <;> intro k5 h3 e2
 ·have i2 := ix h3
  have m4 := ml a0.XP (k5 21 _ rfl)
  have w2 := wr uE
  simp [i2, ZE]
  refine rpS ?_
  refine cRs (Yj (nth a0.XP uE) 1 1000000000000) ?_
  refine cFo e2 ?_ ?_ <;> intro k6 h4 e2
  ·have q4 := h4; try simp [Z8] at q4
   have f := ms f e2
   simp
   exact rt [.tmp 2] f
  have q4 := h4; try simp [Z8] at q4
  simp
  exact ny1 w2 e2
 have f := ms f e2
 refine cRs (Yj a0.yS 0 999) ?_
 refine cGs (fun gg => (Yj (a0.YR.length : Int) 1 6)) ?_
 exact rt [.tmp 2] f
theorem OP (a0 : Int) : Sa 279 [rI a0] [rB (yL a0)] := by
 have f := me (yL.eq_1 a0)
 refine so func279 ntmps279 ?_
 refine cRs (Yj a0 1 2147483646) ?_
 exact rt [.tmp 2] f
theorem Sy (a0 : Int) (a1 : List ByteArray) (a2 : Int) (u0 : Sm 2326528 a1) : Sd 204 [rI a0, rL 1 sR a1, rI a2] [(Q0 a0 a1 a2).1.row, rB (Q0 a0 a1 a2).2] := by
 have f := me (Q0.eq_1 a0 a1 a2)
 have c1 := sl 2326528 a1 u0
 refine soD func204 ntmps204 ?_
 refine lp2 (Xw.eq_2 a0 a1 a2) (fun J U => Yy 42 [eI 0 a0, eL 1 1 a1 sR, eI 2 a2, (6, .one (.bptr 6 0), [.box [.d (.int .i64 0), .nil 1, .nil 1]]), (8, .one (.bptr 8 0), [.box [.d (.int .i64 a0), .sref 13 0 0 a1.length, .sref 8 3 0 U.length], .none, .none, .arr false 1 (U.map iR)]), eI 9 (J : Int), (13, .any, [.arr false 1 (a1.map sR)])]) (fun n1 J U => a1.length < n1 + J /\ J <= a1.length /\ U.length <= 0 + 1 * J) (a1.length + 1) 0 ([] : List Int) (fun p1 J U e1 j1 => ?_) (h0 := wkS [((8, 3), none)] [])
 refine cF e1 ?_ ?_ <;> intro k2 h1 e1
 ·have i1 := ix h1
  have m2 := ml a1 (k2 1 _ rfl)
  have w1 := wr J
  refine dIs mixed ?_
  refine cRs (Ue a2 ([a0, (J : Int)] : List Int) (by simp (maxDischargeDepth := 12) [Jz, XO, Zb (m := 2330624) (by decide) u0]; try omega)) ?_
  refine cRs (N7 1 (J0 a2 ([a0, (J : Int)] : List Int))) ?_
  exact nx2 e1 (hw := XI [((8, 3), some (30, 0))] [] rfl (by simp [w1]))
 have f := ms f e1
 refine cRs (qy (Zd.mk a0 a1 U)) ?_
 refine cGs (fun gg => (OP a2)) ?_
 refine cF f ?_ ?_ <;> intro k4 h2 f
 ·exact rtD [.cell 6 36, .tmp 7] f
 exact rtD [.cell 6 36, .tmp 7] f
theorem Pq (a0 : ZS) : zU prog 118 true a0.row [] (ZT a0).1.row [(ZT a0).2.row] := by
 have f := me (ZT.eq_1 a0)
 refine Kp func118 rfl (by kernel_rfl) (fun v => ?_)
 simp [ntmps118]
 refine cBs [] (Yd a0 3) ?_
 refine lp5 (KW.eq_2) (fun J U v9 uB ui => Yy 28 [(0, .fix v (.one (.bptr 0 0)), [.box [.d (.sl 1 (v9.map bR)), .d (.int .i64 (uB : Int)), .d (.int .i64 ui)]]), (2, .one (.bptr 2 0), [.box [.d (.int .i64 0), .nil 1, .nil 1]]), (3, .one (.sref 3 0 0 J.length), [.arr false 1 (J.map sR)]), eI 4 U]) (fun n1 J U v9 uB ui => U + 1 <= (n1 : Int) /\ 0 <= U /\ (J.length : Int) + U <= 3 /\ (∀ x ∈ J, x.size <= 11)) 5 ([] : List ByteArray) (W (1 + (ZB a0 3).2)) (ZB a0 3).1.b (ZB a0 3).1.i (ZB a0 3).1.h (fun p1 J U v9 uB ui e1 j1 => ?_) (hI := by (have z := X8 a0 3; (try dsimp only); simp only [Xc, List.length_nil]; refine ⟨by omega, by omega, by omega, by omega, fun x h => by cases h⟩)) (h0 := wkS [((3, 0), some (7, 0))] [])
 try dsimp only at j1
 refine cF e1 ?_ ?_ <;> intro k2 h1 e1
 ·refine cBs [] (Hy (ZS.mk v9 uB ui)) ?_
  exact nx5 e1 (hI := by (have hh := h1; simp at hh; (try dsimp only); simp only [Xc, List.length_append, List.length_singleton]; refine ⟨by omega, by omega, by omega, by omega, fun x hx => ?_⟩; rcases List.mem_append.1 hx with hx | hx; exact j1.2.2.2.2 x hx; simp at hx; rw [hx]; exact Tk _)) (hw := wkS [((3, 0), some (19, 0))] [])
 have f := ms f e1
 refine cBs [] (Yd (ZS.mk v9 uB ui) 5) ?_
 refine cDs [true, false, false] (Sy (ZB (ZS.mk v9 uB ui) 5).2 J 11 (by (exact ⟨by omega, fun x hx => Nat.le_trans (j1.2.2.2.2 x hx) (by decide)⟩))) ?_
 refine Wt (rv := [.cell 2 36]) rfl ?_
 simp [f.h]
theorem LH (a0 : Zv) (u0 : Sm 2342912 a0) : Sd 199 [a0.row] [(T2 a0).row] := by
 have f := me (T2.eq_1 a0)
 have c1 := sl 2342912 a0.Zk u0
 have c2 := sl 2342912 a0.ZD u0
 have c3 := sl 2342912 a0.Methods u0
 refine soD func199 ntmps199 ?_
 exact rtD [.cell 2 28] f
theorem O1 (a0 : Zv) (u0 : Sm 2342912 a0) : Sd 199 [a0.row] [a0.row] := by
  have h := LH a0 u0
  rwa [LX] at h
theorem HX (a0 : Zd) (u0 : Sm 2342912 a0) : Sd 250 [a0.row] [(Oy a0).row] := by
 have f := me (Oy.eq_1 a0)
 refine soD func250 ntmps250 ?_
 refine MP [2, 3, 4, 5, 6, 7, 8, 9, 0, 1, 10, 11] mixed (by kernel_rfl) (by kernel_rfl) (by kernel_rfl) ?_
 have c1 := sl 2342912 a0.YR u0
 have c2 := sl 2342912 a0.XP u0
 simp
 refine rpS ?_
 exact rtD [.cell 2 36] f
theorem SY (a0 : Zd) (u0 : Sm 2342912 a0) : Sd 250 [a0.row] [a0.row] := by
  have h := HX a0 u0
  rwa [Gl] at h
theorem IX (a0 : Zf) (u0 : Sm 2342912 a0) : Sd 306 [a0.row] [(Rf a0).row] := by
 have f := me (Rf.eq_1 a0)
 refine soD func306 ntmps306 ?_
 refine MP [2, 3, 4, 5, 0, 1, 6, 7, 8, 9] mixed (by kernel_rfl) (by kernel_rfl) (by kernel_rfl) ?_
 have c1 := sl 2342912 a0.Y0 u0
 simp
 refine rpS ?_
 exact rtD [.cell 2 176] f
theorem TY (a0 : Zf) (u0 : Sm 2342912 a0) : Sd 306 [a0.row] [a0.row] := by
  have h := IX a0 u0
  rwa [Iw] at h
theorem H6 (a0 : List Zf) (u0 : Sm 2338816 a0) : Sd 310 [rL 3 Zf.row a0] [rL 3 Zf.row (Se a0)] := by
 have f := me (Se.eq_1 a0)
 refine soD func310 ntmps310 ?_
 refine Bs (news := (([] : List Zf).map Zf.row)) (L := []) rfl rfl rfl rfl (by simp) (by simp) (by simp) (by simp) (by simp) (by simp) ?_
 simp
 refine lp2 (Wv.eq_2 a0) (fun J U => Yy 21 [eL 0 3 a0 Zf.row, (3, .one (.sref 3 0 0 J.length), [.arr true 3 (J.map Zf.row)]), eI 4 (U : Int)]) (fun n1 J U => a0.length < n1 + U /\ U <= a0.length /\ J.length <= 0 + 1 * U) (a0.length + 1) ([] : List Zf) 0 (fun p1 J U e1 j1 => ?_) (h0 := wkS [((3, 0), some (5, 0))] [])
 refine cFf e1 ?_ ?_ <;> intro k2 h1 e1
 ·have i1 := ix h1
  have m2 := ml a0 (k2 0 _ rfl)
  have c1 := sl 2338816 a0 u0
  have w1 := wr U
  simp [i1, ZE]
  refine rpS ?_
  refine cDs [true, false] (TY (nth a0 U) (sg (YU u0))) ?_
  refine jG ?_
  simp
  refine kC (uC := (J.map Zf.row)) (news := (([(nth a0 U)] : List Zf).map Zf.row)) (l1 := [(3, 0)]) (l2 := [(17, 1)]) (size := 3) ?_
  simp
  exact nx2 e1 (hw := XI [((3, 0), some (19, 0))] [] rfl (by simp [w1]))
 have c2 := sl 2338816 a0 u0
 have f := ms f e1
 exact rtD [.tmp 2] f
theorem I8 (a0 : List Zf) (u0 : Sm 2338816 a0) : Sd 310 [rL 3 Zf.row a0] [rL 3 Zf.row a0] := by
  have h := H6 a0 u0
  rwa [Gb] at h
theorem I4 (a0 : Zc) (u0 : Sm 2342912 a0) : Sd 272 [a0.row] [(R7 a0).row] := by
 have f := me (R7.eq_1 a0)
 have c1 := sl 2342912 a0.Path u0
 have c2 := sl 2342912 a0.Xe u0
 refine soD func272 ntmps272 ?_
 exact rtD [.cell 2 155] f
theorem TP (a0 : Zc) (u0 : Sm 2342912 a0) : Sd 272 [a0.row] [a0.row] := by
  have h := I4 a0 u0
  rwa [Ib] at h
theorem HI (a0 : Zi) (u0 : Sm 2334720 a0) : Sd 269 [a0.row] [(Uz a0).row] := by
 have f := me (Uz.eq_1 a0)
 refine soD func269 ntmps269 ?_
 refine cDs [] (I8 a0.ZO (sg (Zi.WX u0))) ?_
 refine lp2 (kX.eq_2 a0) (fun J U => Yy 28 [eX 1 (a0.row.map .d), (2, .one (.bptr 2 0), [.box [.nil 3, .nil 5]]), (3, .one (.bptr 3 0), [.box [.sref 7 0 0 a0.ZO.length, .sref 3 2 0 U.length], .none, .arr true 5 (U.map Zc.row)]), eI 4 (J : Int), (7, .any, [.arr true 3 (a0.ZO.map Zf.row)])]) (fun n1 J U => a0.Zj.length < n1 + J /\ J <= a0.Zj.length /\ U.length <= 0 + 1 * J) (a0.Zj.length + 1) 0 ([] : List Zc) (fun p1 J U e1 j1 => ?_) (h0 := wkS [((3, 2), none)] [])
 refine cF e1 ?_ ?_ <;> intro k2 h1 e1
 ·have i1 := ix h1
  have m2 := ml a0.Zj (k2 11 _ rfl)
  have c1 := sl 2334720 a0.Zj u0
  have w1 := wr J
  refine drJ [25] mixed ?_
  simp [i1, ZE]
  refine rpS ?_
  refine cDs [true, true, true, false, false] (TP (nth a0.Zj J) (sg (YU (Zi.j0 u0)))) ?_
  refine jG ?_
  simp
  refine kC (uC := (U.map Zc.row)) (news := (([(nth a0.Zj J)] : List Zc).map Zc.row)) (l1 := [(3, 2)]) (l2 := [(23, 3), (23, 4)]) (size := 5) ?_
  simp
  exact nx2 e1 (hw := XI [((3, 2), some (25, 0))] [] rfl (by simp [w1]))
 have c2 := sl 2334720 a0.Zj u0
 have f := ms f e1
 exact rtD [.cell 2 80] f
theorem zO (a0 : Zi) (u0 : Sm 2334720 a0) : Sd 269 [a0.row] [a0.row] := by
  have h := HI a0 u0
  rwa [IH] at h
theorem IZ (a0 : ZZ) (u0 : Sm 2330624 a0) : Sd 255 [a0.row] [(Rg a0).row] := by
 have f := me (Rg.eq_1 a0)
 refine soD func255 ntmps255 ?_
 refine cDs [true, false, false] (SY a0.Doc (sg (ZZ.PG u0))) ?_
 refine cDs [] (zO a0.ZM (sg (ZZ.JY u0))) ?_
 exact rtD [.cell 2 82] f
theorem JX (a0 : ZZ) (u0 : Sm 2330624 a0) : Sd 255 [a0.row] [a0.row] := by
  have h := IZ a0 u0
  rwa [I6] at h
theorem I7 (a0 : ZF) (u0 : Sm 2326528 a0) : Sd 200 [a0.row] [(Us a0).row] := by
 have f := me (Us.eq_1 a0)
 refine soD func200 ntmps200 ?_
 refine lp2 (kc.eq_2 a0) (fun J U => Yy 27 [eX 1 (a0.row.map .d), (2, .one (.bptr 2 0), [.box [.d (.int .i64 0), .nil 16]]), (3, .one (.bptr 3 0), [.box [.d (.int .i64 a0.Id), .sref 3 2 0 U.length], .none, .arr true 16 (U.map ZZ.row)]), eI 4 (J : Int)]) (fun n1 J U => a0.ZC.length < n1 + J /\ J <= a0.ZC.length /\ U.length <= 0 + 1 * J) (a0.ZC.length + 1) 0 ([] : List ZZ) (fun p1 J U e1 j1 => ?_) (h0 := wkS [((3, 2), none)] [])
 refine cF e1 ?_ ?_ <;> intro k2 h1 e1
 ·have i1 := ix h1
  have m2 := ml a0.ZC (k2 10 _ rfl)
  have c1 := sl 2326528 a0.ZC u0
  have w1 := wr J
  refine drJ [24] mixed ?_
  simp [i1, ZE]
  refine rpS ?_
  refine cDs [true, true, true, false, false] (JX (nth a0.ZC J) (sg (YU (ZF.Yn u0)))) ?_
  refine jG ?_
  simp
  refine kC (uC := (U.map ZZ.row)) (news := (([(nth a0.ZC J)] : List ZZ).map ZZ.row)) (l1 := [(3, 2)]) (l2 := [(22, 3), (22, 4), (22, 14), (22, 15)]) (size := 16) ?_
  simp
  exact nx2 e1 (hw := XI [((3, 2), some (24, 0))] [] rfl (by simp [w1]))
 have c2 := sl 2326528 a0.ZC u0
 have f := ms f e1
 exact rtD [.cell 2 85] f
theorem KU (a0 : ZF) (u0 : Sm 2326528 a0) : Sd 200 [a0.row] [a0.row] := by
  have h := I7 a0 u0
  rwa [IJ] at h
theorem Im (a0 : ZH) (u0 : Sm 2322432 a0) : Sd 112 [a0.row] [(U0 a0).row] := by
 have f := me (U0.eq_1 a0)
 refine soD func112 ntmps112 ?_
 refine MP [0, 1, 2, 3, 4, 5, 6, 7, 8, 9, 10, 11, 12, 13, 14, 15, 16, 17, 18, 21, 22, 23, 24, 19, 20, 25, 26, 27] mixed (by kernel_rfl) (by kernel_rfl) (by kernel_rfl) ?_
 simp
 have c1 := sl 2322432 a0.ZR u0
 have c2 := sl 2322432 a0.Zu u0
 have c3 := sl 2322432 a0.YG u0
 have c4 := sl 2322432 a0.YW u0
 have c5 := sl 2322432 a0.Yk u0
 refine cDs [false, false, false] (O1 a0.Frame (sg (ZH.XY u0))) ?_
 refine lp2 (kO.eq_2 a0) (fun J U => Yy 50 [eX 1 (a0.row.map .d), (2, .one (.bptr 2 0), [.box [.nil 5, .nil 3, .nil 4, .d (.int .i64 0), .d (.int .i64 0), .nil 7, .nil 1, .nil 2, .nil 1, .nil 1, .d (.int .i64 0), .nil 1]]), (3, .one (.bptr 3 0), [.box [.sref 7 0 0 a0.Frame.Zk.length, .sref 7 1 0 a0.Frame.ZD.length, .sref 7 2 0 a0.Frame.Methods.length, .d (.int .i64 a0.Frame.Ky), .d (.int .i64 a0.Frame.Now), .sref 11 0 0 a0.ZR.length, .sref 15 0 0 a0.Zu.length, .sref 3 8 0 U.length, .sref 19 0 0 a0.YG.length, .sref 23 0 0 a0.YW.length, .d (.int .i64 a0.Next), .sref 29 0 0 a0.Yk.length], .none, .none, .none, .none, .none, .none, .none, .arr true 2 (U.map ZF.row)]), eI 4 (J : Int), (7, .any, [.arr false 5 (a0.Frame.Zk.map Y4.row), .arr false 3 (a0.Frame.ZD.map Zr.row), .arr false 4 (a0.Frame.Methods.map YH.row)]), (11, .any, [.arr false 7 (a0.ZR.map Ye.row)]), (15, .any, [.arr false 1 (a0.Zu.map iR)]), (19, .any, [.arr false 1 (a0.YG.map iR)]), (23, .any, [.arr false 1 (a0.YW.map iR)]), (29, .any, [.arr false 1 (a0.Yk.map iR)])]) (fun n1 J U => a0.ZA.length < n1 + J /\ J <= a0.ZA.length /\ U.length <= 0 + 1 * J) (a0.ZA.length + 1) 0 ([] : List ZF) (fun p1 J U e1 j1 => ?_) (h0 := wkS [((3, 8), none)] [])
 refine cF e1 ?_ ?_ <;> intro k3 h1 e1
 ·have i1 := ix h1
  have m2 := ml a0.ZA (k3 33 _ rfl)
  have c6 := sl 2322432 a0.ZA u0
  have w1 := wr J
  refine drJ [47] mixed ?_
  simp [i1, ZE]
  refine rpS ?_
  refine cDs [] (KU (nth a0.ZA J) (sg (YU (ZH.YX u0)))) ?_
  refine jG ?_
  simp
  refine kC (uC := (U.map ZF.row)) (news := (([(nth a0.ZA J)] : List ZF).map ZF.row)) (l1 := [(3, 8)]) (l2 := [(45, 1)]) (size := 2) ?_
  simp
  exact nx2 e1 (hw := XI [((3, 8), some (47, 0))] [] rfl (by simp [w1]))
 have c7 := sl 2322432 a0.ZA u0
 have f := ms f e1
 exact rtD [.cell 2 33] f
theorem yY (a0 : ZH) (u0 : Sm 2322432 a0) : Sd 112 [a0.row] [a0.row] := by
  have h := Im a0 u0
  rwa [Ih] at h
theorem Pb (a0 : ZH) (a1 : Int) : Sa 177 [a0.row, rI a1] [rB (Kt a0 a1)] := by
 have f := me (Kt.eq_1 a0 a1)
 refine so func177 ntmps177 ?_
 refine cRs (Yj a1 0 (W ((a0.ZA.length : Int) - 1))) ?_
 exact rt [.tmp 4] f
theorem VU (a0 : List YH) (a1 : Int) : Sa 186 [rL 4 YH.row a0, rI a1] [rI (Z4 a0 a1)] := by
 have f := me (Z4.eq_1 a0 a1)
 refine so func186 ntmps186 ?_
 refine lp2 (Ke.eq_2 a0 a1) (fun J U => Yy 54 [eL 0 4 a0 YH.row, eI 1 a1, eI 5 J, eI 6 (U : Int)]) (fun n1 J U => a0.length < n1 + U /\ U <= a0.length /\ -1 <= J /\ J < (a0.length : Int)) (a0.length + 1) (-1) 0 (fun p1 J U e1 j1 => ?_)
 try dsimp only at j1
 refine cF e1 ?_ ?_ <;> intro k2 h1 e1
 ·have i1 := ix h1
  have m2 := ml a0 (k2 0 _ rfl)
  have w1 := wr U
  refine dIo mixed ?_
  simp [i1, ZE]
  refine rpS ?_
  refine gIf ?_ ?_ <;> intro G
  ·simp [i1, ZE, G]
   refine rpG ?_
   refine gJf G ?_ ?_ <;> intro G
   ·try (simp at G; done)
    all_goals
     simp [i1, ZE, G]
     refine rpG ?_
     refine gK (fun _ => ?_)
     have i2 := ik J.toNat a0
     simp [i2, ZE, G]
     refine rpG ?_
     refine cK e1 ?_ ?_ <;> intro k4 h2 e1
     ·exact ny2 (an w1 G) e1 (hI := by first | omega | (simp at *; omega))
     ·exact ny2 (an w1 G) e1 (hI := by first | omega | (simp at *; omega))
   ·try (simp at G; done)
    all_goals
     refine sGg ?_
     refine cK e1 ?_ ?_ <;> intro k5 h3 e1
     ·exact ny2 (an w1 G) e1 (hI := by first | omega | (simp at *; omega))
     ·exact ny2 (an w1 G) e1 (hI := by first | omega | (simp at *; omega))
  ·refine gJf G ?_ ?_ <;> intro G
   ·try (simp at G; done)
    all_goals
     simp [i1, ZE, G]
     refine rpG ?_
     refine gK (fun _ => ?_)
     have i4 := ik J.toNat a0
     simp [i4, ZE, G]
     refine rpG ?_
     refine cK e1 ?_ ?_ <;> intro k6 h4 e1
     ·simp [G] at h4
     ·simp [G] at h4
   ·try (simp at G; done)
    all_goals
     refine sGg ?_
     refine cK e1 ?_ ?_ <;> intro k7 h5 e1
     ·simp [G] at h5
     ·exact ny2 (an w1 G) e1 (hI := by first | omega | (simp at *; omega))
 have f := ms f e1
 refine cFt f ?_ ?_ <;> intro k8 h6 f
 ·exact rt [.tmp 4] f
 have i6 := ik J.toNat a0
 simp [i6, ZE]
 refine rpS ?_
 exact rt [.tmp 4] f
theorem MV (a0 : ZH) (a1 : Int) : Sa 247 [a0.row, rI a1] [rI (XG a0 a1)] := by
 have f := me (XG.eq_1 a0 a1)
 refine so func247 ntmps247 ?_
 refine lp1 (Qq.eq_2 a0 a1) (fun J => Yy 22 [eI 1 a1, eX 2 (a0.row.map .d), eI 5 (J : Int)]) (fun n1 J => a0.ZR.length < n1 + J /\ J <= a0.ZR.length) (a0.ZR.length + 1) 0 (fun p1 J e1 j1 => ?_)
 refine cFf e1 ?_ ?_ <;> intro k2 h1 e1
 ·have i1 := ix h1
  have m2 := ml a0.ZR (k2 8 _ rfl)
  have w1 := wr J
  simp [i1, ZE]
  refine rpS ?_
  refine cF e1 ?_ ?_ <;> intro k3 h2 e1
  ·have f := ms f e1
   exact rt [.tmp 4] f
  exact ny1 w1 e1
 have f := ms f e1
 exact rt [.tmp 4] f
theorem KR (a0 : Int) (a1 : List Int) (u0 : Sm 68719476736 a1) : Sa 304 [rI a0, rL 1 iR a1] [rI (Jg a0 a1)] := by
 have f := me (Jg.eq_1 a0 a1)
 have c1 := sl 68719476736 a1 u0
 refine so func304 ntmps304 ?_
 refine cRs (Lk (([7, a0] : List Int) ++ a1)) ?_
 exact rt [.tmp 4] f
theorem Pz (a0 : Int) (a1 : ByteArray) (a2 : Int) (u0 : Sm 2326528 a1) : Sa 303 [rI a0, rS a1, rI a2] [rI (xT a0 a1 a2)] := by
 have f := me (xT.eq_1 a0 a1 a2)
 refine so func303 ntmps303 ?_
 refine lp2 (zt.eq_2 a1) (fun J U => Yy 27 [eI 0 a0, (1, .one (.d (.str a1)), []), (7, .one (.sref 7 0 0 J.length), [.arr false 1 (J.map iR)]), eI 8 (U : Int)]) (fun n1 J U => a1.size < n1 + U /\ U <= a1.size /\ J.length <= 1 + 1 * U) (a1.size + 1) ([a2] : List Int) 0 (fun p1 J U e1 j1 => ?_) (h0 := wkS [((7, 0), some (10, 0))] [])
 refine cFo e1 ?_ ?_ <;> intro k2 h1 e1
 ·have q1 := h1; try simp at q1
  have c1 : a1.size <= 2326528 := Ia (xs u0)
  have w1 := wr U
  simp
  refine rpS ?_
  exact nx2 e1 (hw := XI [((7, 0), some (23, 0))] [] rfl (by simp [w1]))
 have q1 := h1; try simp at q1
 have c2 : a1.size <= 2326528 := Ia (xs u0)
 have f := ms f e1
 simp
 refine cRs (KR a0 J (by first | (simp (maxDischargeDepth := 12) [XO]; omega) | (simp (maxDischargeDepth := 12) [Zb (m := 68719476736) (by decide) u0]; done))) ?_
 exact rt [.tmp 6] f
theorem Uh (a0 : Int) (a1 : Zd) (u0 : Sm 2322432 a1) : Sa 249 [rI a0, a1.row] [rI (Qi a0 a1)] := by
 have f := me (Qi.eq_1 a0 a1)
 refine so func249 ntmps249 ?_
 refine cRs (qy a1) ?_
 refine cF f ?_ ?_ <;> intro k1 h1 f
 ·exact rt [.tmp 4] f
 refine lp2 (yb.eq_2 a0 a1) (fun J U => Yy 38 [eI 0 a0, eX 3 (a1.row.map .d), (5, .one (.sref 5 0 0 J.length), [.arr false 1 (J.map iR)]), eI 6 (U : Int)]) (fun n1 J U => a1.YR.length < n1 + U /\ U <= a1.YR.length /\ J.length <= 1 + 1 * U) (a1.YR.length + 1) ([a1.yS] : List Int) 0 (fun p1 J U e1 j1 => ?_) (h0 := wkS [((5, 0), some (12, 0))] [])
 try dsimp only at j1
 refine cF e1 ?_ ?_ <;> intro k3 h2 e1
 ·have i1 := ix h2
  have m2 := ml a1.YR (k3 15 _ rfl)
  have c1 := sl 2322432 a1.YR u0
  have w1 := wr U
  refine dIo mixed ?_
  have i2 : U < a1.XP.length := by (have := PE (a := a1); first | (simp_all; done) | (simp_all; omega))
  simp [i1, ZE, i2]
  refine rpS ?_
  refine cRs (Pz a0 (nth a1.YR U) (nth a1.XP U) (sg (YU (Zd.Um u0)))) ?_
  exact nx2 e1 (hw := XI [((5, 0), some (34, 0))] [] rfl (by simp [w1]))
 have c2 := sl 2322432 a1.YR u0
 have f := ms f e1
 refine cRs (KR a0 J (by first | (simp (maxDischargeDepth := 12) [XO]; omega) | (simp (maxDischargeDepth := 12) [Zb (m := 68719476736) (by decide) u0]; done))) ?_
 exact rt [.tmp 4] f
theorem RR (a0 : Zm) : Sa 301 [a0.row] [rB (yZ a0)] := by
 have f := me (yZ.eq_1 a0)
 refine so func301 ntmps301 ?_
 refine cRs (Yj a0.Key 1 99) ?_
 refine cGs (fun gg => (Yj a0.ZV 1 999)) ?_
 refine cGs (fun gg => (Yj a0.Method 0 99)) ?_
 refine cGs (fun gg => (Yj a0.Org 0 99)) ?_
 refine cGs (fun gg => (Yj a0.y6 1 3)) ?_
 refine cGs (fun gg => (Yj a0.XJ 0 1000000000000)) ?_
 refine cGs (fun gg => (Yj a0.y1 0 1000000000000)) ?_
 refine cGs (fun gg => (Yj a0.j6 0 1000000000000)) ?_
 exact rt [.tmp 2] f
theorem j7 (a0 : Zm) : Sd 302 [a0.row] [rL 1 iR (Xr a0)] := by
 have f := me (Xr.eq_1 a0)
 refine soD func302 ntmps302 ?_
 exact rtD [.tmp 2] f
theorem P5 (a0 : List Y4) (a1 : Zm) (u0 : Sm 2322432 a0) : Sa 248 [rL 5 Y4.row a0, a1.row] [(JJ a0 a1).1.row, rB (JJ a0 a1).2] := by
 have f := me (JJ.eq_1 a0 a1)
 refine so func248 ntmps248 ?_
 refine cRs (QW a0 a1.Key) ?_
 refine cRs (RR a1) ?_
 refine cF f ?_ ?_ <;> intro k1 h1 f
 ·exact rt [.cell 4 76, .tmp 5] f
 refine dIo mixed ?_
 have i1 : (Z0 a0 a1.Key).toNat < a0.length := by have := Xk a0 a1.Key; exact il
 simp [i1, ZE]
 refine rpS ?_
 refine cRs (YP.rd (j7 a1)) ?_
 refine cRs (qW (nth a0 (Z0 a0 a1.Key).toNat) (Xr a1) (by simp (maxDischargeDepth := 12) [jg, Zb (m := 2326528) (by decide) u0]; try omega)) ?_
 exact rt [.cell 4 76, .tmp 5] f
theorem UZ (a0 : Zm) : Sd 251 [a0.row] [(K2 a0).row] := by
 have f := me (K2.eq_1 a0)
 refine soD func251 ntmps251 ?_
 refine dIs mixed ?_
 refine cDs [false] (j7 a0) ?_
 exact rtD [.cell 2 176] f
theorem MU (a0 : Ye) : Sd 252 [a0.row] [(xG a0).row] := by
 have f := me (xG.eq_1 a0)
 refine soD func252 ntmps252 ?_
 refine dIs mixed ?_
 refine cDs [false] (Td a0) ?_
 exact rtD [.cell 2 176] f
theorem RB (a0 : ZH) (a1 : Int) (a2 : Zd) (a3 : Int) (a4 : Int) (u0 : Sm 2318336 a0) (u1 : Sm 2318336 a2) : So 178 [a0.row, rI a1, a2.row, rI a3, rI a4] [(Xx a0 a1 a2 a3 a4).1.row, rB (Xx a0 a1 a2 a3 a4).2] := by
 have f := me (Xx.eq_1 a0 a1 a2 a3 a4)
 refine so func178 ntmps178 ?_
 refine cRs (VU a0.Frame.Methods a0.Frame.Now) ?_
 refine cRs (MV a0 a1) ?_
 refine cF f ?_ ?_ <;> intro k1 h1 f
 ·exact rtO [.cell 10 82, .tmp 11] f
 refine dIo mixed ?_
 have i1 : (XG a0 a1).toNat < a0.ZR.length := by have := MM a0 a1; exact il
 simp [i1, ZE]
 refine rpS ?_
 refine cRs (Uh (Z4 a0.Frame.Methods a0.Frame.Now) a2 (sg u1)) ?_
 refine cRs (P5 a0.Frame.Zk (Zm.mk a1 (nth a0.ZR (XG a0 a1).toNat).ZV (Z4 a0.Frame.Methods a0.Frame.Now) (Qi (Z4 a0.Frame.Methods a0.Frame.Now) a2) 1 a3 0 0 0) (sg (Zv.zc (ZH.XY u0)))) ?_
 refine dIs mixed ?_
 refine cDs [true, false, false] (SY a2 (sg u1)) ?_
 refine cRf i1 (YP.rd (UZ (JJ a0.Frame.Zk (Zm.mk a1 (nth a0.ZR (XG a0 a1).toNat).ZV (Z4 a0.Frame.Methods a0.Frame.Now) (Qi (Z4 a0.Frame.Methods a0.Frame.Now) a2) 1 a3 0 0 0)).1)) ?_
 refine cRs (YP.rd (MU (nth a0.ZR (XG a0 a1).toNat))) ?_
 refine eIs ?_
 exact rtO [.cell 10 82, .tmp 11] f
theorem NI (a0 : List Int) (a1 : List Int) : Sa 341 [rL 1 iR a0, rL 1 iR a1] [rB (kP a0 a1)] := by
 have f := me (kP.eq_1 a0 a1)
 refine so func341 ntmps341 ?_
 refine cF f ?_ ?_ <;> intro k1 h1 f
 ·exact rt [.tmp 4] f
 refine lp1 (qY.eq_2 a0 a1) (fun J => Yy 26 [eL 0 1 a0 iR, eL 1 1 a1 iR, eI 5 (J : Int)]) (fun n1 J => a0.length < n1 + J /\ J <= a0.length) (a0.length + 1) 0 (fun p1 J e1 j1 => ?_)
 refine cF e1 ?_ ?_ <;> intro k3 h2 e1
 ·have i1 := ix h2
  have m2 := ml a0 (k3 0 _ rfl)
  have w1 := wr J
  refine dIo mixed ?_
  have i2 := ik J a1
  simp [i1, ZE, i2]
  refine rpS ?_
  refine cF e1 ?_ ?_ <;> intro k5 h3 e1
  ·have f := ms f e1
   exact rt [.tmp 4] f
  exact ny1 w1 e1
 have f := ms f e1
 exact rt [.tmp 4] f
theorem Wc (a0 : Zf) (a1 : Zf) : Sa 331 [a0.row, a1.row] [rB (zQ a0 a1)] := by
 have f := me (zQ.eq_1 a0 a1)
 refine so func331 ntmps331 ?_
 refine cGs (fun gg => (NI a0.Y0 a1.Y0)) ?_
 exact rt [.tmp 4] f
theorem NO (a0 : Zi) (a1 : Zf) : Sa 313 [a0.row, a1.row] [rI (y7 a0 a1)] := by
 have f := me (y7.eq_1 a0 a1)
 refine so func313 ntmps313 ?_
 refine lp1 (qf.eq_2 a0 a1) (fun J => Yy 21 [eX 2 (a0.row.map .d), eX 3 (a1.row.map .d), eI 5 (J : Int)]) (fun n1 J => a0.ZO.length < n1 + J /\ J <= a0.ZO.length) (a0.ZO.length + 1) 0 (fun p1 J e1 j1 => ?_)
 refine cF e1 ?_ ?_ <;> intro k2 h1 e1
 ·have i1 := ix h1
  have m2 := ml a0.ZO (k2 8 _ rfl)
  have w1 := wr J
  refine dIo mixed ?_
  simp [i1, ZE]
  refine rpS ?_
  refine cRs (Wc (nth a0.ZO J) a1) ?_
  refine cF e1 ?_ ?_ <;> intro k4 h2 e1
  ·have f := ms f e1
   exact rt [.tmp 4] f
  exact ny1 w1 e1
 have f := ms f e1
 exact rt [.tmp 4] f
theorem ks (a0 : Zi) : Sa 273 [a0.row] [rB (K4 a0)] := by
 have f := me (K4.eq_1 a0)
 refine so func273 ntmps273 ?_
 refine lp1 (yI.eq_2 a0) (fun J => Yy 69 [eX 1 (a0.row.map .d), eI 3 (J : Int)]) (fun n1 J => a0.ZO.length < n1 + J /\ J <= a0.ZO.length) (a0.ZO.length + 1) 0 (fun p1 J e1 j1 => ?_)
 refine cF e1 ?_ ?_ <;> intro k2 h1 e1
 ·have i1 := ix h1
  have m2 := ml a0.ZO (k2 7 _ rfl)
  have w1 := wr J
  refine dIo mixed ?_
  simp [i1, ZE]
  refine rpS ?_
  refine cRs (NO a0 (nth a0.ZO J)) ?_
  refine cF e1 ?_ ?_ <;> intro k4 h2 e1
  ·have f := ms f e1
   exact rt [.tmp 2] f
  exact ny1 w1 e1
 have f := ms f e1
 refine lp1 (yC.eq_2 a0) (fun uE => Yy 69 [eX 1 (a0.row.map .d), eI 4 (uE : Int)]) (fun n2 uE => a0.Zj.length < n2 + uE /\ uE <= a0.Zj.length) (a0.Zj.length + 1) 0 (fun p2 uE e2 j2 => ?_)
 refine cF e2 ?_ ?_ <;> intro k6 h3 e2
 ·have i2 := ix h3
  have m4 := ml a0.Zj (k6 23 _ rfl)
  have w2 := wr uE
  refine dIo mixed ?_
  simp [i2, ZE]
  refine rpS ?_
  refine cRs (Yj (nth a0.Zj uE).Count 1 (a0.ZO.length : Int)) ?_
  refine gIf ?_ ?_ <;> intro G
  ·have i3 := ik (uE - 1) a0.Zj
   have w3 : IntKind.i64.wrap ((uE : Int) - 1) = (uE : Int) - 1 := Yg (by omega) (by omega)
   simp [i3, ZE, w3, KM, G]
   refine rpG ?_
   refine gK (fun _ => ?_)
   simp [i2, ZE, G]
   refine rpG ?_
   refine cKo e2 ?_ ?_ <;> intro k8 h4 e2
   ·have q4 := h4; try simp [Z8] at q4
    have f := ms f e2
    simp [G]
    refine rpG ?_
    exact rtg [.tmp 2] f
   ·have q4 := h4; try simp [Z8] at q4
    simp [G]
    refine rpG ?_
    exact ny1 (an w2 (an w3 G)) e2
  ·refine sGg ?_
   refine cKo e2 ?_ ?_ <;> intro k9 h5 e2
   ·have q5 := h5; try simp [Z8] at q5
    have f := ms f e2
    simp [G]
    refine rpG ?_
    exact rtg [.tmp 2] f
   ·have q5 := h5; try simp [Z8] at q5
    simp [G]
    refine rpG ?_
    exact ny1 (an w2 G) e2
 have f := ms f e2
 refine cRs (Yj (a0.ZO.length : Int) 1 12) ?_
 exact rt [.tmp 2] f
theorem Hc (a0 : ZZ) : Sa 305 [a0.row] [rB (Vu a0)] := by
 have f := me (Vu.eq_1 a0)
 refine so func305 ntmps305 ?_
 refine dIs mixed ?_
 refine cRs (Yj a0.Id 1 999) ?_
 refine cGs (fun gg => (qu a0.Y9)) ?_
 refine cGs (fun gg => (qy a0.Doc)) ?_
 refine cGs (fun gg => (ks a0.ZM)) ?_
 refine gIf ?_ ?_ <;> intro G
 ·have sv := G
  have g1 := G; try simp [Z8] at g1
  have i1 : 0 < a0.ZM.ZO.length := by have := Ov (a := a0.ZM); simp_all
  simp [i1, ZE, G]
  refine rpG ?_
  refine cGg (fun gg => YP.rd (UZ a0.Sig)) ?_
  refine cGg (fun gg => (Wc (nth a0.ZM.ZO 0) (K2 a0.Sig))) ?_
  exact rtg [.tmp 2] f
 ·have sv := G
  refine sGo ?_
  simp [G]
  refine rpG ?_
  refine sGo ?_
  simp [G]
  refine rpG ?_
  exact rtg [.tmp 2] f
theorem zw (a0 : ZF) : Sa 253 [a0.row] [rB (Xm a0)] := by
 have f := me (Xm.eq_1 a0)
 refine so func253 ntmps253 ?_
 refine lp1 (yV.eq_2 a0) (fun J => Yy 47 [eX 1 (a0.row.map .d), eI 3 (J : Int)]) (fun n1 J => a0.ZC.length < n1 + J /\ J <= a0.ZC.length) (a0.ZC.length + 1) 0 (fun p1 J e1 j1 => ?_)
 refine cF e1 ?_ ?_ <;> intro k2 h1 e1
 ·have i1 := ix h1
  have m2 := ml a0.ZC (k2 6 _ rfl)
  have w1 := wr J
  refine dIo mixed ?_
  simp [i1, ZE]
  refine rpS ?_
  refine cRs (Hc (nth a0.ZC J)) ?_
  refine gIf ?_ ?_ <;> intro G
  ·have i2 := ik (J - 1) a0.ZC
   have w2 : IntKind.i64.wrap ((J : Int) - 1) = (J : Int) - 1 := Yg (by omega) (by omega)
   simp [i2, ZE, w2, KM, G]
   refine rpG ?_
   refine gK (fun _ => ?_)
   simp [i1, ZE, G]
   refine rpG ?_
   refine cK e1 ?_ ?_ <;> intro k4 h2 e1
   ·have f := ms f e1
    exact rtg [.tmp 2] f
   ·exact ny1 (an w1 (an w2 G)) e1
  ·refine sGg ?_
   refine cK e1 ?_ ?_ <;> intro k5 h3 e1
   ·have f := ms f e1
    exact rtg [.tmp 2] f
   ·exact ny1 (an w1 G) e1
 have f := ms f e1
 refine cRs (Yj a0.Id 0 99) ?_
 exact rt [.tmp 2] f
theorem WL (a0 : ZF) (a1 : Int) : Sa 254 [a0.row, rI a1] [rI (Yo a0 a1)] := by
 have f := me (Yo.eq_1 a0 a1)
 refine so func254 ntmps254 ?_
 refine lp1 (yN.eq_2 a0 a1) (fun J => Yy 22 [eI 1 a1, eX 2 (a0.row.map .d), eI 5 (J : Int)]) (fun n1 J => a0.ZC.length < n1 + J /\ J <= a0.ZC.length) (a0.ZC.length + 1) 0 (fun p1 J e1 j1 => ?_)
 refine cFf e1 ?_ ?_ <;> intro k2 h1 e1
 ·have i1 := ix h1
  have m2 := ml a0.ZC (k2 8 _ rfl)
  have w1 := wr J
  simp [i1, ZE]
  refine rpS ?_
  refine cF e1 ?_ ?_ <;> intro k3 h2 e1
  ·have f := ms f e1
   exact rt [.tmp 4] f
  exact ny1 w1 e1
 have f := ms f e1
 exact rt [.tmp 4] f
theorem SR (a0 : ZF) (a1 : ZZ) (u0 : Sm 2318336 a0) (u1 : Sm 2318336 a1) : Sd 179 [a0.row, a1.row] [(Q9 a0 a1).1.row, rB (Q9 a0 a1).2] := by
 have f := me (Q9.eq_1 a0 a1)
 refine soD func179 ntmps179 ?_
 refine cRs (zw a0) ?_
 refine cGs (fun gg => (WL a0 a1.Id)) ?_
 refine cF f ?_ ?_ <;> intro k1 h1 f
 ·refine cDs [] (KU a0 (sg u0)) ?_
  exact rtD [.cell 4 85, .tmp 5] f
 refine lp3 (Xq.eq_2 a0 a1) (fun J U v9 => Yy 77 [eX 2 (a0.row.map .d), eX 3 (a1.row.map .d), (4, .one (.bptr 4 0), [.box [.d (.int .i64 0), .nil 16]]), (6, .one (.bptr 6 0), [.box [.d (.int .i64 a0.Id), .sref 6 2 0 v9.length], .none, .arr true 16 (v9.map ZZ.row)]), eB 7 J, eI 8 (U : Int)]) (fun n1 J U v9 => a0.ZC.length < n1 + U /\ U <= a0.ZC.length /\ v9.length <= 0 + 2 * U) (a0.ZC.length + 1) false 0 ([] : List ZZ) (fun p1 J U v9 e1 j1 => ?_) (h0 := wkS [((6, 2), none)] [])
 refine cF e1 ?_ ?_ <;> intro k3 h2 e1
 ·have i1 := ix h2
  have m2 := ml a0.ZC (k3 26 _ rfl)
  have c1 := sl 2318336 a0.ZC (an u0 u1)
  have w1 := wr U
  refine dIs mixed ?_
  refine gIf ?_ ?_ <;> intro G
  ·simp [i1, ZE, G]
   refine rpG ?_
   refine cK e1 ?_ ?_ <;> intro k5 h3 e1
   ·try (simp [G] at h3; done)
    all_goals
     refine drJ [49] mixed ?_
     simp
     refine cDg [true, true, true, false, false] (JX a1 (sg u1)) ?_
     refine jG ?_
     simp [G]
     refine rpG ?_
     refine kC (uC := (v9.map ZZ.row)) (news := (([a1] : List ZZ).map ZZ.row)) (l1 := [(6, 2)]) (l2 := [(47, 3), (47, 4), (47, 14), (47, 15)]) (size := 16) ?_
     simp [G]
     refine rpG ?_
     refine drJ [60] mixed ?_
     simp [i1, ZE, G]
     refine rpG ?_
     refine cDg [true, true, true, false, false] (JX (nth a0.ZC U) (sg (YU (ZF.Yn u0)))) ?_
     refine jG ?_
     simp [G]
     refine rpG ?_
     refine kC (uC := ((v9 ++ ([a1] : List ZZ)).map ZZ.row)) (news := (([(nth a0.ZC U)] : List ZZ).map ZZ.row)) (l1 := [(49, 0)]) (l2 := [(58, 3), (58, 4), (58, 14), (58, 15)]) (size := 16) ?_
     simp [G]
     refine rpG ?_
     exact nx3 e1 (hw := XI [((6, 2), some (60, 0))] [] rfl (by simp [w1, G]))
   ·try (simp [G] at h3; done)
    all_goals
     refine drJ [60] mixed ?_
     simp [i1, ZE, G]
     refine rpG ?_
     refine cDg [true, true, true, false, false] (JX (nth a0.ZC U) (sg (YU (ZF.Yn u0)))) ?_
     refine jG ?_
     simp [G]
     refine rpG ?_
     refine kC (uC := (v9.map ZZ.row)) (news := (([(nth a0.ZC U)] : List ZZ).map ZZ.row)) (l1 := [(6, 2)]) (l2 := [(58, 3), (58, 4), (58, 14), (58, 15)]) (size := 16) ?_
     simp [G]
     refine rpG ?_
     exact nx3 e1 (hw := XI [((6, 2), some (60, 0))] [] rfl (by simp [w1, G]))
  ·refine cK e1 ?_ ?_ <;> intro k9 h4 e1
   ·try (simp [G] at h4; done)
    all_goals
     refine drJ [49] mixed ?_
     simp
     refine cDg [true, true, true, false, false] (JX a1 (sg u1)) ?_
     refine jG ?_
     simp [G]
     refine rpG ?_
     refine kC (uC := (v9.map ZZ.row)) (news := (([a1] : List ZZ).map ZZ.row)) (l1 := [(6, 2)]) (l2 := [(47, 3), (47, 4), (47, 14), (47, 15)]) (size := 16) ?_
     simp [G]
     refine rpG ?_
     refine drJ [60] mixed ?_
     simp [i1, ZE, G]
     refine rpG ?_
     refine cDg [true, true, true, false, false] (JX (nth a0.ZC U) (sg (YU (ZF.Yn u0)))) ?_
     refine jG ?_
     simp [G]
     refine rpG ?_
     refine kC (uC := ((v9 ++ ([a1] : List ZZ)).map ZZ.row)) (news := (([(nth a0.ZC U)] : List ZZ).map ZZ.row)) (l1 := [(49, 0)]) (l2 := [(58, 3), (58, 4), (58, 14), (58, 15)]) (size := 16) ?_
     simp [G]
     refine rpG ?_
     exact nx3 e1 (hw := XI [((6, 2), some (60, 0))] [] rfl (by simp [w1, G]))
   ·try (simp [G] at h4; done)
    all_goals
     refine drJ [60] mixed ?_
     simp [i1, ZE, G]
     refine rpG ?_
     refine cDg [true, true, true, false, false] (JX (nth a0.ZC U) (sg (YU (ZF.Yn u0)))) ?_
     refine jG ?_
     simp [G]
     refine rpG ?_
     refine kC (uC := (v9.map ZZ.row)) (news := (([(nth a0.ZC U)] : List ZZ).map ZZ.row)) (l1 := [(6, 2)]) (l2 := [(58, 3), (58, 4), (58, 14), (58, 15)]) (size := 16) ?_
     simp [G]
     refine rpG ?_
     exact nx3 e1 (hw := XI [((6, 2), some (60, 0))] [] rfl (by simp [w1, G]))
 have c2 := sl 2318336 a0.ZC (an u0 u1)
 have f := ms f e1
 refine cF f ?_ ?_ <;> intro mG h5 f
 ·refine okD fun fW => ?_
  refine drJ [69] mixed ?_
  simp
  refine cDs [true, true, true, false, false] (JX a1 (sg u1)) ?_
  refine jG ?_
  simp
  refine kC (uC := (v9.map ZZ.row)) (news := (([a1] : List ZZ).map ZZ.row)) (l1 := [(6, 2)]) (l2 := [(67, 3), (67, 4), (67, 14), (67, 15)]) (size := 16) ?_
  simp
  refine cRs (zw (ZF.mk a0.Id (v9 ++ ([a1] : List ZZ)))) ?_
  refine cF f ?_ ?_ <;> intro cO h6 f
  ·refine cDs [] (KU a0 (sg u0)) ?_
   exact rtD [.cell 4 85, .tmp 5] f
  exact rtD [.cell 4 85, .tmp 5] f
 refine cRs (zw (ZF.mk a0.Id v9)) ?_
 refine cF f ?_ ?_ <;> intro fX h7 f
 ·refine cDs [] (KU a0 (sg u0)) ?_
  exact rtD [.cell 4 85, .tmp 5] f
 exact rtD [.cell 4 85, .tmp 5] f
theorem LQ (a0 : ZH) (a1 : Int) (a2 : Int) (a3 : Zd) (a4 : Int) (a5 : Int) (u0 : Sm 2314240 a0) (u1 : Sm 2314240 a3) : Sd 104 [a0.row, rI a1, rI a2, a3.row, rI a4, rI a5] [(Z3 a0 a1 a2 a3 a4 a5).1.row, rB (Z3 a0 a1 a2 a3 a4 a5).2] := by
 have f := me (Z3.eq_1 a0 a1 a2 a3 a4 a5)
 refine soD func104 ntmps104 ?_
 refine cDs [false, false, false, true, true, false, false, true, false, false, true, false] (yY a0 (sg u0)) ?_
 refine cRs (QW a0.Frame.Zk a2) ?_
 refine dIs mixed ?_
 refine cRs (Pb a0 a1) ?_
 refine gIf ?_ ?_ <;> intro G
 ·have c1 := sl 2314240 a0.ZA (an u0 u1)
  have w1 : IntKind.i64.wrap ((a0.ZA.length : Int) - 1) = (a0.ZA.length : Int) - 1 := Yg (by omega) (by omega)
  have g1 := G; try simp [w1, Kt, Z8] at g1
  have i1 : (Z0 a0.Frame.Zk a2).toNat < a0.Frame.Zk.length := by have := Xk a0.Frame.Zk a2; exact il
  simp [i1, ZE, G]
  refine rpG ?_
  refine cKo f ?_ ?_ <;> intro k2 h1 f
  ·try (simp [G] at h1; done)
   all_goals
    have q1 := h1; try simp [w1, Kt, Z8] at q1
    simp [G]
    refine rpG ?_
    exact Q6 [.cell 12 33, .tmp 13] f
  ·try (simp [G] at h1; done)
   all_goals
    have q1 := h1; try simp [w1, Kt, Z8] at q1
    simp [G]
    refine rpG ?_
    refine cRg (RB a0 a2 a3 a4 a5 (sg u0) (sg u1)) ?_
    refine cK f ?_ ?_ <;> intro k3 h2 f
    ·try (simp [G] at h2; done)
     all_goals
      exact Q6 [.cell 12 33, .tmp 13] f
    ·try (simp [G] at h2; done)
     all_goals
      refine dIo mixed ?_
      have i2 := ik a1.toNat a0.ZA
      simp [i2, ZE, G]
      refine rpG ?_
      refine cDg [] (SR (nth a0.ZA a1.toNat) (Xx a0 a2 a3 a4 a5).1 (by first | (exact Zb (n := 2314240) (by decide) (xs (an u0 u1))) | (exact Zb (n := 2314240) (by decide) (xS (xs (an u0 u1)) (by decide)))) (by first | (exact Zb (n := 2314240) (by decide) (xs (an u0 u1))) | (exact Zb (n := 2314240) (by decide) (xS (xs (an u0 u1)) (by decide))))) ?_
      refine cKt f ?_ ?_ <;> intro k5 h3 f
      ·try (simp [G] at h3; done)
       all_goals
        exact Q6 [.cell 12 33, .tmp 13] f
      ·try (simp [G] at h3; done)
       all_goals
        simp [i2, ZE, G]
        refine rpG ?_
        refine Vk (t := 21) (j := 7) (i := a1.toNat) (size := 2) (rows := (a0.ZA.map ZF.row)) (ds := (Q9 (nth a0.ZA a1.toNat) (Xx a0 a2 a3 a4 a5).1).1.row) (L := [(68, 1)]) ?_
        simp [XW (x := (Q9 (nth a0.ZA a1.toNat) (Xx a0 a2 a3 a4 a5).1).1) rfl, c1, i2, ZE, YZ, G]
        refine rpG ?_
        exact Q6 [.cell 12 33, .tmp 13] f
 ·have c2 := sl 2314240 a0.ZA (an u0 u1)
  have w2 : IntKind.i64.wrap ((a0.ZA.length : Int) - 1) = (a0.ZA.length : Int) - 1 := Yg (by omega) (by omega)
  refine cKo f ?_ ?_ <;> intro k6 h4 f
  ·try (simp [G] at h4; done)
   all_goals
    have q4 := h4; try simp [w2, Kt, Z8] at q4
    simp [G]
    refine rpG ?_
    exact Q6 [.cell 12 33, .tmp 13] f
  ·try (simp [G] at h4; done)
   all_goals
    have q4 := h4; try simp [w2, Kt, Z8] at q4
    simp [G]
    refine rpG ?_
    refine cRg (RB a0 a2 a3 a4 a5 (sg u0) (sg u1)) ?_
    refine cK f ?_ ?_ <;> intro k7 h5 f
    ·try (simp [G] at h5; done)
     all_goals
      exact Q6 [.cell 12 33, .tmp 13] f
    ·try (simp [G] at h5; done)
     all_goals
      refine dIo mixed ?_
      have i4 := ik a1.toNat a0.ZA
      simp [i4, ZE, G]
      refine rpG ?_
      refine cDg [] (SR (nth a0.ZA a1.toNat) (Xx a0 a2 a3 a4 a5).1 (by first | (exact Zb (n := 2314240) (by decide) (xs (an u0 u1))) | (exact Zb (n := 2314240) (by decide) (xS (xs (an u0 u1)) (by decide)))) (by first | (exact Zb (n := 2314240) (by decide) (xs (an u0 u1))) | (exact Zb (n := 2314240) (by decide) (xS (xs (an u0 u1)) (by decide))))) ?_
      refine cKt f ?_ ?_ <;> intro k9 h6 f
      ·try (simp [G] at h6; done)
       all_goals
        exact Q6 [.cell 12 33, .tmp 13] f
      ·try (simp [G] at h6; done)
       all_goals
        simp [i4, ZE, G]
        refine rpG ?_
        refine Vk (t := 21) (j := 7) (i := a1.toNat) (size := 2) (rows := (a0.ZA.map ZF.row)) (ds := (Q9 (nth a0.ZA a1.toNat) (Xx a0 a2 a3 a4 a5).1).1.row) (L := [(68, 1)]) ?_
        simp [XW (x := (Q9 (nth a0.ZA a1.toNat) (Xx a0 a2 a3 a4 a5).1).1) rfl, c2, i4, ZE, YZ, G]
        refine rpG ?_
        exact Q6 [.cell 12 33, .tmp 13] f
theorem Gm (a0 : ZH) (a1 : Int) : Sa 180 [a0.row, rI a1] [rI (ZG a0 a1).1, rI (ZG a0 a1).2] := by
 have f := me (ZG.eq_1 a0 a1)
 refine so func180 ntmps180 ?_
 refine lp1 (zf.eq_2 a0 a1) (fun J => Yy 26 [eI 1 a1, eX 2 (a0.row.map .d), eI 6 (J : Int)]) (fun n1 J => a0.ZA.length < n1 + J /\ J <= a0.ZA.length) (a0.ZA.length + 1) 0 (fun p1 J e1 j1 => ?_)
 refine cFf e1 ?_ ?_ <;> intro k2 h1 e1
 ·have i1 := ix h1
  have m2 := ml a0.ZA (k2 10 _ rfl)
  have w1 := wr J
  simp [i1, ZE]
  refine rpS ?_
  refine cRs (WL (nth a0.ZA J) a1) ?_
  refine cF e1 ?_ ?_ <;> intro k3 h2 e1
  ·have f := ms f e1
   exact rt [.tmp 4, .tmp 5] f
  exact ny1 w1 e1
 have f := ms f e1
 exact rt [.tmp 4, .tmp 5] f
theorem R3 (a0 : Zf) : Sa 256 [a0.row] [rI (Xu a0)] := by
 have f := me (Xu.eq_1 a0)
 refine so func256 ntmps256 ?_
 refine gIf ?_ ?_ <;> intro G
 ·have i1 := ik 0 a0.Y0
  simp [i1, ZE, G]
  refine rpG ?_
  refine cGg (fun gg => (Yj (nth a0.Y0 0) 101 105)) ?_
  refine cKo f ?_ ?_ <;> intro k1 h1 f
  ·have q1 := h1; try simp [Z8] at q1
   simp [G]
   refine rpG ?_
   exact rtg [.tmp 2] f
  ·have q1 := h1; try simp [Z8] at q1
   simp [G]
   refine rpG ?_
   refine dIo mixed ?_
   have i2 := ik (W ((nth a0.Y0 0) - 101)).toNat ([7, 5, 5, 9, 6] : List Int)
   have r1 := ZE (f := iR) i2; try simp at r1
   simp [i1, ZE, i2, r1, G]
   refine rpG ?_
   refine cKt f ?_ ?_ <;> intro k3 h2 f
   ·exact rtg [.tmp 2] f
   ·simp [i1, ZE, G]
    refine rpG ?_
    exact rtg [.tmp 2] f
 ·refine sGo ?_
  simp [G]
  refine rpG ?_
  refine cKo f ?_ ?_ <;> intro k4 h3 f
  ·have q3 := h3; try simp [Z8] at q3
   simp [G]
   refine rpG ?_
   exact rtg [.tmp 2] f
  ·simp [G] at h3
theorem UA (a0 : Zf) : Sa 181 [a0.row] [(ZL a0).1.row, rB (ZL a0).2] := by
 have f := me (ZL.eq_1 a0)
 refine so func181 ntmps181 ?_
 refine dIs mixed ?_
 refine cRs (R3 a0) ?_
 refine gIf ?_ ?_ <;> intro G
 ·have sv := G
  have g1 := G; try simp at g1
  have i1 : 6 < a0.Y0.length := by (have z := XC a0; simp_all; done)
  simp [i1, ZE, G]
  refine rpG ?_
  refine cK f ?_ ?_ <;> intro k2 h1 f
  ·try (simp [G] at h1; done)
   all_goals
    exact rtg [.cell 2 111, .tmp 3] f
  ·try (simp [G] at h1; done)
   all_goals
    refine dIo mixed ?_
    have i2 : 1 < a0.Y0.length := by (have z := XC a0; simp_all; done)
    have i3 : 2 < a0.Y0.length := by (have z := XC a0; simp_all; done)
    have i4 : 3 < a0.Y0.length := by (have z := XC a0; simp_all; done)
    have i5 : 4 < a0.Y0.length := by (have z := XC a0; simp_all; done)
    have i6 : 5 < a0.Y0.length := by (have z := XC a0; simp_all; done)
    simp [i2, ZE, i3, i4, i5, i6, i1, G]
    refine rpG ?_
    exact rtg [.cell 2 111, .tmp 3] f
 ·have sv := G
  refine cK f ?_ ?_ <;> intro k4 h2 f
  ·try (simp [G] at h2; done)
   all_goals
    exact rtg [.cell 2 111, .tmp 3] f
  ·try (simp [G] at h2; done)
   all_goals
    refine dIo mixed ?_
    have i8 : 1 < a0.Y0.length := by (have z := XC a0; simp_all; done)
    have i9 : 2 < a0.Y0.length := by (have z := XC a0; simp_all; done)
    have i10 : 3 < a0.Y0.length := by (have z := XC a0; simp_all; done)
    have i11 : 4 < a0.Y0.length := by (have z := XC a0; simp_all; done)
    have i12 : 5 < a0.Y0.length := by (have z := XC a0; simp_all; done)
    have i13 : 6 < a0.Y0.length := by (have z := XC a0; simp_all; done)
    simp [i8, ZE, i9, i10, i11, i12, i13, G]
    refine rpG ?_
    exact rtg [.cell 2 111, .tmp 3] f
theorem Ta (a0 : List Ye) (a1 : Int) : Sa 182 [rL 7 Ye.row a0, rI a1] [rI (Zh a0 a1)] := by
 have f := me (Zh.eq_1 a0 a1)
 refine so func182 ntmps182 ?_
 refine lp1 (z5.eq_2 a0 a1) (fun J => Yy 20 [eL 0 7 a0 Ye.row, eI 1 a1, eI 5 (J : Int)]) (fun n1 J => a0.length < n1 + J /\ J <= a0.length) (a0.length + 1) 0 (fun p1 J e1 j1 => ?_)
 refine cFf e1 ?_ ?_ <;> intro k2 h1 e1
 ·have i1 := ix h1
  have m2 := ml a0 (k2 0 _ rfl)
  have w1 := wr J
  simp [i1, ZE]
  refine rpS ?_
  refine cF e1 ?_ ?_ <;> intro k3 h2 e1
  ·have f := ms f e1
   exact rt [.tmp 4] f
  exact ny1 w1 e1
 have f := ms f e1
 exact rt [.tmp 4] f
theorem LA (a0 : Zp) : Sa 257 [a0.row] [rB (qJ a0)] := by
 have f := me (qJ.eq_1 a0)
 refine so func257 ntmps257 ?_
 refine cRs (Yj a0.ZV 1 999) ?_
 refine cGs (fun gg => (qu a0.Sr)) ?_
 refine cGs (fun gg => (Yj a0.Zu (-1) (W (a0.Sr + 1)))) ?_
 refine cGs (fun gg => (Yj a0.Zn 1 99)) ?_
 exact rt [.tmp 2] f
theorem VS (a0 : Zp) : Sd 259 [a0.row] [rL 1 iR (Qn a0)] := by
 have f := me (Qn.eq_1 a0)
 refine soD func259 ntmps259 ?_
 exact rtD [.tmp 2] f
theorem yn (a0 : List Y4) (a1 : Zp) (u0 : Sm 2322432 a0) : Sa 183 [rL 5 Y4.row a0, a1.row] [(Zq a0 a1).1.row, rB (Zq a0 a1).2] := by
 have f := me (Zq.eq_1 a0 a1)
 refine so func183 ntmps183 ?_
 refine cRs (QW a0 a1.Zn) ?_
 refine cRs (LA a1) ?_
 refine cF f ?_ ?_ <;> intro k1 h1 f
 ·exact rt [.cell 4 135, .tmp 5] f
 refine dIo mixed ?_
 have i1 : (Z0 a0 a1.Zn).toNat < a0.length := by have := Xk a0 a1.Zn; exact il
 simp [i1, ZE]
 refine rpS ?_
 refine cRs (YP.rd (VS a1)) ?_
 refine cRs (qW (nth a0 (Z0 a0 a1.Zn).toNat) (Qn a1) (by simp (maxDischargeDepth := 12) [VJ, Zb (m := 2326528) (by decide) u0]; try omega)) ?_
 exact rt [.cell 4 135, .tmp 5] f
theorem QJ (a0 : Zp) : Sd 185 [a0.row] [(Z2 a0).row] := by
 have f := me (Z2.eq_1 a0)
 refine soD func185 ntmps185 ?_
 refine dIs mixed ?_
 refine cDs [false] (VS a0) ?_
 exact rtD [.cell 2 176] f
theorem Mz (a0 : Zi) (a1 : Zf) (u0 : Sm 2326528 a0) (u1 : Sm 2326528 a1) : Sd 260 [a0.row, a1.row] [(Jc a0 a1).1.row, rB (Jc a0 a1).2] := by
 have f := me (Jc.eq_1 a0 a1)
 refine soD func260 ntmps260 ?_
 refine cDs [] (zO a0 (sg u0)) ?_
 refine drJ [14] mixed ?_
 simp
 refine cDs [true, false] (TY a1 (sg u1)) ?_
 refine jG ?_
 have c1 := sl 2326528 a0.ZO (an u0 u1)
 simp
 refine kC (uC := (a0.ZO.map Zf.row)) (news := (([a1] : List Zf).map Zf.row)) (l1 := [(8, 0)]) (l2 := [(12, 1)]) (size := 3) ?_
 simp
 refine cRs (ks (Zi.mk (a0.ZO ++ ([a1] : List Zf)) a0.Zj)) ?_
 refine cF f ?_ ?_ <;> intro k2 h1 f
 ·refine cDs [] (zO a0 (sg u0)) ?_
  exact rtD [.cell 4 80, .tmp 5] f
 exact rtD [.cell 4 80, .tmp 5] f
theorem Qy (a0 : ZF) (a1 : Int) (a2 : Zf) (u0 : Sm 2322432 a0) (u1 : Sm 2322432 a2) : Sd 184 [a0.row, rI a1, a2.row] [(Yf a0 a1 a2).1.row, rB (Yf a0 a1 a2).2] := by
 have f := me (Yf.eq_1 a0 a1 a2)
 refine soD func184 ntmps184 ?_
 refine cDs [] (KU a0 (sg u0)) ?_
 refine cRs (WL a0 a1) ?_
 refine cF f ?_ ?_ <;> intro k1 h1 f
 ·exact rtD [.cell 6 85, .tmp 7] f
 refine dIo mixed ?_
 have i1 : (Yo a0 a1).toNat < a0.ZC.length := by have := TF a0 a1; exact il
 simp [i1, ZE]
 refine rpS ?_
 refine cDf i1 [] (Mz (nth a0.ZC (Yo a0 a1).toNat).ZM a2 (sg (ZZ.JY (YU (ZF.Yn u0)))) (sg u1)) ?_
 refine C5 (t := 13) (j := 1) (i := (Yo a0 a1).toNat) (c := 14) (size := 16) (rows := (a0.ZC.map ZZ.row)) (ds := (Jc (nth a0.ZC (Yo a0 a1).toNat).ZM a2).1.row) (L := [(28, 0), (28, 1)]) rfl rfl rfl rfl (by simp) (by simp) (by simp; try omega) (by simp) (by simp) (by simp) (by simp) (by simp) (by simp) ?_
 simp [XW (x := (ZZ.mk (nth a0.ZC (Yo a0 a1).toNat).Id (nth a0.ZC (Yo a0 a1).toNat).Y9 (nth a0.ZC (Yo a0 a1).toNat).Doc (nth a0.ZC (Yo a0 a1).toNat).Sig (Jc (nth a0.ZC (Yo a0 a1).toNat).ZM a2).1)) rfl, i1, ZE, YZ]
 refine rpS ?_
 exact rtD [.cell 6 85, .tmp 7] f
theorem ZN {a b : Prop} (h : b) (k : a := by (intros; first | omega | with_unfolding_all (first | first | omega | (have fi := Xa a0 a1 (by first | omega | (simp at *; omega)); omega) | (simp only [Bool.or_eq_false_iff, decide_eq_false_iff_not] at *; omega) | (have z := ZI G; (try simp only [] at z); omega) | (have z := ZI G.1; (try simp only [] at z); omega) | (have z := ZI G.2; (try simp only [] at z); omega) | (have z := ZI G.2.1; (try simp only [] at z); omega) | (have z := ZI G.2.2; (try simp only [] at z); omega) | (have z := ZI G.1.2; (try simp only [] at z); omega) | (have z := ZI G.2.2.2; (try simp only [] at z); omega) ) | (simp_all; done) | (simp_all; omega) | grind | ((try simp only [Xc, show ∀ x, IntKind.i64.wrap x = W x from fun _ => rfl] at *); omega))) : a /\ b := ⟨k, h⟩
theorem Oc (a0 : ZH) (a1 : Int) (u0 : Sm 2318336 a0) : Sd 105 [a0.row, rI a1] [(Zw a0 a1).1.row, rB (Zw a0 a1).2] := by
 have f := me (Zw.eq_1 a0 a1)
 refine soD func105 ntmps105 ?_
 refine cDs [false, false, false, true, true, false, false, true, false, false, true, false] (yY a0 (sg u0)) ?_
 refine cRs (Gm a0 a1) ?_
 refine gIo ?_ ?_ <;> intro G
 ·have sv := G
  have g1 := G; try simp at g1
  have i1 : (ZG a0 a1).1.toNat < a0.ZA.length := by first | omega | (have fi := Xa a0 a1 (by first | omega | (simp at *; omega)); omega) | (simp only [Bool.or_eq_false_iff, decide_eq_false_iff_not] at *; omega) | (have z := ZI G; (try simp only [] at z); omega) | (have z := ZI G.1; (try simp only [] at z); omega) | (have z := ZI G.2; (try simp only [] at z); omega) | (have z := ZI G.2.1; (try simp only [] at z); omega) | (have z := ZI G.2.2; (try simp only [] at z); omega) | (have z := ZI G.1.2; (try simp only [] at z); omega) | (have z := ZI G.2.2.2; (try simp only [] at z); omega) 
  simp [i1, ZE, G]
  repeat with_reducible refine ZN ?_
  refine gK (fun _ => ?_)
  have i2 : (ZG a0 a1).2.toNat < (nth a0.ZA (ZG a0 a1).1.toNat).ZC.length := by first | omega | (have fi := Xa a0 a1 (by first | omega | (simp at *; omega)); omega) | (simp only [Bool.or_eq_false_iff, decide_eq_false_iff_not] at *; omega) | (have z := ZI G; (try simp only [] at z); omega) | (have z := ZI G.1; (try simp only [] at z); omega) | (have z := ZI G.2; (try simp only [] at z); omega) | (have z := ZI G.2.1; (try simp only [] at z); omega) | (have z := ZI G.2.2; (try simp only [] at z); omega) | (have z := ZI G.1.2; (try simp only [] at z); omega) | (have z := ZI G.2.2.2; (try simp only [] at z); omega) 
  simp [i2, ZE, G]
  repeat with_reducible refine ZN ?_
  refine cKo f ?_ ?_ <;> intro k1 h1 f
  ·try (simp [G] at h1; done)
   all_goals
    simp [G]
    repeat with_reducible refine ZN ?_
    exact Q6 [.cell 4 33, .tmp 5] f
  ·try (simp [G] at h1; done)
   all_goals
    have i3 : 1 < (nth (nth a0.ZA (ZG a0 a1).1.toNat).ZC (ZG a0 a1).2.toNat).ZM.ZO.length := by first | omega | (have fi := Xa a0 a1 (by first | omega | (simp at *; omega)); omega) | (simp only [Bool.or_eq_false_iff, decide_eq_false_iff_not] at *; omega) | (have z := ZI G; (try simp only [] at z); omega) | (have z := ZI G.1; (try simp only [] at z); omega) | (have z := ZI G.2; (try simp only [] at z); omega) | (have z := ZI G.2.1; (try simp only [] at z); omega) | (have z := ZI G.2.2; (try simp only [] at z); omega) | (have z := ZI G.1.2; (try simp only [] at z); omega) | (have z := ZI G.2.2.2; (try simp only [] at z); omega) 
    simp [i1, ZE, i2, i3, G]
    repeat with_reducible refine ZN ?_
    refine cR (UA (nth (nth (nth a0.ZA (ZG a0 a1).1.toNat).ZC (ZG a0 a1).2.toNat).ZM.ZO 1)) ?_
    simp [G]
    repeat with_reducible refine ZN ?_
    refine cR (Ta a0.ZR (ZL (nth (nth (nth a0.ZA (ZG a0 a1).1.toNat).ZC (ZG a0 a1).2.toNat).ZM.ZO 1)).1.ZV) ?_
    simp [G]
    repeat with_reducible refine ZN ?_
    refine cKo f ?_ ?_ <;> intro k2 h2 f
    ·try (simp [G] at h2; done)
     all_goals
      simp [G]
      repeat with_reducible refine ZN ?_
      exact Q6 [.cell 4 33, .tmp 5] f
    ·try (simp [G] at h2; done)
     all_goals
      simp [G]
      repeat with_reducible refine ZN ?_
      refine dIo mixed ?_
      have i4 : (Zh a0.ZR (ZL (nth (nth (nth a0.ZA (ZG a0 a1).1.toNat).ZC (ZG a0 a1).2.toNat).ZM.ZO 1)).1.ZV).toNat < a0.ZR.length := by have := qS a0.ZR (ZL (nth (nth (nth a0.ZA (ZG a0 a1).1.toNat).ZC (ZG a0 a1).2.toNat).ZM.ZO 1)).1.ZV; first | omega | (have fi := Xa a0 a1 (by first | omega | (simp at *; omega)); omega) | (simp only [Bool.or_eq_false_iff, decide_eq_false_iff_not] at *; omega) | (have z := ZI G; (try simp only [] at z); omega) | (have z := ZI G.1; (try simp only [] at z); omega) | (have z := ZI G.2; (try simp only [] at z); omega) | (have z := ZI G.2.1; (try simp only [] at z); omega) | (have z := ZI G.2.2; (try simp only [] at z); omega) | (have z := ZI G.1.2; (try simp only [] at z); omega) | (have z := ZI G.2.2.2; (try simp only [] at z); omega) 
      simp [i4, ZE, G]
      repeat with_reducible refine ZN ?_
      refine cR (QW a0.Frame.Zk (nth a0.ZR (Zh a0.ZR (ZL (nth (nth (nth a0.ZA (ZG a0 a1).1.toNat).ZC (ZG a0 a1).2.toNat).ZM.ZO 1)).1.ZV).toNat).Zn) ?_
      simp [G]
      repeat with_reducible refine ZN ?_
      refine dIo mixed ?_
      simp [i4, ZE, G]
      repeat with_reducible refine ZN ?_
      refine dIo mixed ?_
      have i5 : (Zh a0.ZR (ZL (nth (nth (nth a0.ZA (ZG a0 a1).1.toNat).ZC (ZG a0 a1).2.toNat).ZM.ZO 1)).1.ZV).toNat < a0.Zu.length := by have := qS a0.ZR (ZL (nth (nth (nth a0.ZA (ZG a0 a1).1.toNat).ZC (ZG a0 a1).2.toNat).ZM.ZO 1)).1.ZV; first | omega | (have fi := Xa a0 a1 (by first | omega | (simp at *; omega)); omega) | (simp only [Bool.or_eq_false_iff, decide_eq_false_iff_not] at *; omega) | (have z := ZI G; (try simp only [] at z); omega) | (have z := ZI G.1; (try simp only [] at z); omega) | (have z := ZI G.2; (try simp only [] at z); omega) | (have z := ZI G.2.1; (try simp only [] at z); omega) | (have z := ZI G.2.2; (try simp only [] at z); omega) | (have z := ZI G.1.2; (try simp only [] at z); omega) | (have z := ZI G.2.2.2; (try simp only [] at z); omega) 
      simp [i5, ZE, G]
      repeat with_reducible refine ZN ?_
      refine cKo f ?_ ?_ <;> intro k6 h3 f
      ·try (simp [G] at h3; done)
       all_goals
        simp [i5, ZE, G]
        repeat with_reducible refine ZN ?_
        refine cR (yn a0.Frame.Zk (Zp.mk (ZL (nth (nth (nth a0.ZA (ZG a0 a1).1.toNat).ZC (ZG a0 a1).2.toNat).ZM.ZO 1)).1.ZV a0.Frame.Now (nth a0.Zu (Zh a0.ZR (ZL (nth (nth (nth a0.ZA (ZG a0 a1).1.toNat).ZC (ZG a0 a1).2.toNat).ZM.ZO 1)).1.ZV).toNat) (nth a0.ZR (Zh a0.ZR (ZL (nth (nth (nth a0.ZA (ZG a0 a1).1.toNat).ZC (ZG a0 a1).2.toNat).ZM.ZO 1)).1.ZV).toNat).Zn 0) (sg (Zv.zc (ZH.XY u0)))) ?_
        simp [G]
        repeat with_reducible refine ZN ?_
        refine dIo mixed ?_
        simp [G]
        repeat with_reducible refine ZN ?_
        refine gJo G ?_ ?_ <;> intro G
        ·have cP := G.2
         try (simp at G; done)
         all_goals
          have g2 := G.2; try simp at g2
          all_goals
           have i6 : (Z0 a0.Frame.Zk (nth a0.ZR (Zh a0.ZR (ZL (nth (nth (nth a0.ZA (ZG a0 a1).1.toNat).ZC (ZG a0 a1).2.toNat).ZM.ZO 1)).1.ZV).toNat).Zn).toNat < a0.Frame.Zk.length := by have := Xk a0.Frame.Zk (nth a0.ZR (Zh a0.ZR (ZL (nth (nth (nth a0.ZA (ZG a0 a1).1.toNat).ZC (ZG a0 a1).2.toNat).ZM.ZO 1)).1.ZV).toNat).Zn; first | omega | (have fi := Xa a0 a1 (by first | omega | (simp at *; omega)); omega) | (simp only [Bool.or_eq_false_iff, decide_eq_false_iff_not] at *; omega) | (have z := ZI G; (try simp only [] at z); omega) | (have z := ZI G.1; (try simp only [] at z); omega) | (have z := ZI G.2; (try simp only [] at z); omega) | (have z := ZI G.2.1; (try simp only [] at z); omega) | (have z := ZI G.2.2; (try simp only [] at z); omega) | (have z := ZI G.1.2; (try simp only [] at z); omega) | (have z := ZI G.2.2.2; (try simp only [] at z); omega) 
           simp [i6, ZE, G]
           repeat with_reducible refine ZN ?_
           refine cKo f ?_ ?_ <;> intro k8 h4 f
           ·try (simp [G] at h4; done)
            all_goals
             simp [G]
             repeat with_reducible refine ZN ?_
             exact Q6 [.cell 4 33, .tmp 5] f
           ·try (simp [G] at h4; done)
            all_goals
             simp [G]
             repeat with_reducible refine ZN ?_
             refine dIo mixed ?_
             simp [i1, ZE, G]
             repeat with_reducible refine ZN ?_
             refine cR (YP.rd (QJ (Zq a0.Frame.Zk (Zp.mk (ZL (nth (nth (nth a0.ZA (ZG a0 a1).1.toNat).ZC (ZG a0 a1).2.toNat).ZM.ZO 1)).1.ZV a0.Frame.Now (nth a0.Zu (Zh a0.ZR (ZL (nth (nth (nth a0.ZA (ZG a0 a1).1.toNat).ZC (ZG a0 a1).2.toNat).ZM.ZO 1)).1.ZV).toNat) (nth a0.ZR (Zh a0.ZR (ZL (nth (nth (nth a0.ZA (ZG a0 a1).1.toNat).ZC (ZG a0 a1).2.toNat).ZM.ZO 1)).1.ZV).toNat).Zn 0)).1)) ?_
             simp [G]
             repeat with_reducible refine ZN ?_
             refine cD [] (Qy (nth a0.ZA (ZG a0 a1).1.toNat) a1 (Z2 (Zq a0.Frame.Zk (Zp.mk (ZL (nth (nth (nth a0.ZA (ZG a0 a1).1.toNat).ZC (ZG a0 a1).2.toNat).ZM.ZO 1)).1.ZV a0.Frame.Now (nth a0.Zu (Zh a0.ZR (ZL (nth (nth (nth a0.ZA (ZG a0 a1).1.toNat).ZC (ZG a0 a1).2.toNat).ZM.ZO 1)).1.ZV).toNat) (nth a0.ZR (Zh a0.ZR (ZL (nth (nth (nth a0.ZA (ZG a0 a1).1.toNat).ZC (ZG a0 a1).2.toNat).ZM.ZO 1)).1.ZV).toNat).Zn 0)).1) (sg (YU (ZH.YX u0))) (by simp (maxDischargeDepth := 12) [Xy, Zb (m := 2322432) (by decide) u0]; try omega)) ?_
             simp [i1, ZE, G]
             repeat with_reducible refine ZN ?_
             refine Vk (t := 18) (j := 7) (i := (ZG a0 a1).1.toNat) (size := 2) (rows := (a0.ZA.map ZF.row)) (ds := (Yf (nth a0.ZA (ZG a0 a1).1.toNat) a1 (Z2 (Zq a0.Frame.Zk (Zp.mk (ZL (nth (nth (nth a0.ZA (ZG a0 a1).1.toNat).ZC (ZG a0 a1).2.toNat).ZM.ZO 1)).1.ZV a0.Frame.Now (nth a0.Zu (Zh a0.ZR (ZL (nth (nth (nth a0.ZA (ZG a0 a1).1.toNat).ZC (ZG a0 a1).2.toNat).ZM.ZO 1)).1.ZV).toNat) (nth a0.ZR (Zh a0.ZR (ZL (nth (nth (nth a0.ZA (ZG a0 a1).1.toNat).ZC (ZG a0 a1).2.toNat).ZM.ZO 1)).1.ZV).toNat).Zn 0)).1)).1.row) (L := [(150, 1)]) ?_
             simp [XW (x := (Yf (nth a0.ZA (ZG a0 a1).1.toNat) a1 (Z2 (Zq a0.Frame.Zk (Zp.mk (ZL (nth (nth (nth a0.ZA (ZG a0 a1).1.toNat).ZC (ZG a0 a1).2.toNat).ZM.ZO 1)).1.ZV a0.Frame.Now (nth a0.Zu (Zh a0.ZR (ZL (nth (nth (nth a0.ZA (ZG a0 a1).1.toNat).ZC (ZG a0 a1).2.toNat).ZM.ZO 1)).1.ZV).toNat) (nth a0.ZR (Zh a0.ZR (ZL (nth (nth (nth a0.ZA (ZG a0 a1).1.toNat).ZC (ZG a0 a1).2.toNat).ZM.ZO 1)).1.ZV).toNat).Zn 0)).1)).1) rfl, i1, ZE, YZ, G]
             repeat with_reducible refine ZN ?_
             exact Q6 [.cell 4 33, .tmp 5] f
        ·have cP := G.2
         try (simp at G; done)
         all_goals
          simp [G]
          repeat with_reducible refine ZN ?_
          refine cKo f ?_ ?_ <;> intro np h5 f
          ·try (simp [G] at h5; done)
           all_goals
            simp [G]
            repeat with_reducible refine ZN ?_
            exact Q6 [.cell 4 33, .tmp 5] f
          ·try (simp [G] at h5; done)
           all_goals
            simp [G]
            repeat with_reducible refine ZN ?_
            refine dIo mixed ?_
            simp [i1, ZE, G]
            repeat with_reducible refine ZN ?_
            refine cR (YP.rd (QJ (Zq a0.Frame.Zk (Zp.mk (ZL (nth (nth (nth a0.ZA (ZG a0 a1).1.toNat).ZC (ZG a0 a1).2.toNat).ZM.ZO 1)).1.ZV a0.Frame.Now (nth a0.Zu (Zh a0.ZR (ZL (nth (nth (nth a0.ZA (ZG a0 a1).1.toNat).ZC (ZG a0 a1).2.toNat).ZM.ZO 1)).1.ZV).toNat) (nth a0.ZR (Zh a0.ZR (ZL (nth (nth (nth a0.ZA (ZG a0 a1).1.toNat).ZC (ZG a0 a1).2.toNat).ZM.ZO 1)).1.ZV).toNat).Zn 0)).1)) ?_
            simp [G]
            repeat with_reducible refine ZN ?_
            refine cD [] (Qy (nth a0.ZA (ZG a0 a1).1.toNat) a1 (Z2 (Zq a0.Frame.Zk (Zp.mk (ZL (nth (nth (nth a0.ZA (ZG a0 a1).1.toNat).ZC (ZG a0 a1).2.toNat).ZM.ZO 1)).1.ZV a0.Frame.Now (nth a0.Zu (Zh a0.ZR (ZL (nth (nth (nth a0.ZA (ZG a0 a1).1.toNat).ZC (ZG a0 a1).2.toNat).ZM.ZO 1)).1.ZV).toNat) (nth a0.ZR (Zh a0.ZR (ZL (nth (nth (nth a0.ZA (ZG a0 a1).1.toNat).ZC (ZG a0 a1).2.toNat).ZM.ZO 1)).1.ZV).toNat).Zn 0)).1) (sg (YU (ZH.YX u0))) (by simp (maxDischargeDepth := 12) [Xy, Zb (m := 2322432) (by decide) u0]; try omega)) ?_
            simp [i1, ZE, G]
            repeat with_reducible refine ZN ?_
            refine Vk (t := 18) (j := 7) (i := (ZG a0 a1).1.toNat) (size := 2) (rows := (a0.ZA.map ZF.row)) (ds := (Yf (nth a0.ZA (ZG a0 a1).1.toNat) a1 (Z2 (Zq a0.Frame.Zk (Zp.mk (ZL (nth (nth (nth a0.ZA (ZG a0 a1).1.toNat).ZC (ZG a0 a1).2.toNat).ZM.ZO 1)).1.ZV a0.Frame.Now (nth a0.Zu (Zh a0.ZR (ZL (nth (nth (nth a0.ZA (ZG a0 a1).1.toNat).ZC (ZG a0 a1).2.toNat).ZM.ZO 1)).1.ZV).toNat) (nth a0.ZR (Zh a0.ZR (ZL (nth (nth (nth a0.ZA (ZG a0 a1).1.toNat).ZC (ZG a0 a1).2.toNat).ZM.ZO 1)).1.ZV).toNat).Zn 0)).1)).1.row) (L := [(150, 1)]) ?_
            simp [XW (x := (Yf (nth a0.ZA (ZG a0 a1).1.toNat) a1 (Z2 (Zq a0.Frame.Zk (Zp.mk (ZL (nth (nth (nth a0.ZA (ZG a0 a1).1.toNat).ZC (ZG a0 a1).2.toNat).ZM.ZO 1)).1.ZV a0.Frame.Now (nth a0.Zu (Zh a0.ZR (ZL (nth (nth (nth a0.ZA (ZG a0 a1).1.toNat).ZC (ZG a0 a1).2.toNat).ZM.ZO 1)).1.ZV).toNat) (nth a0.ZR (Zh a0.ZR (ZL (nth (nth (nth a0.ZA (ZG a0 a1).1.toNat).ZC (ZG a0 a1).2.toNat).ZM.ZO 1)).1.ZV).toNat).Zn 0)).1)).1) rfl, i1, ZE, YZ, G]
            repeat with_reducible refine ZN ?_
            exact Q6 [.cell 4 33, .tmp 5] f
      ·try (simp [G] at h3; done)
       all_goals
        simp [G]
        repeat with_reducible refine ZN ?_
        refine cR (yn a0.Frame.Zk (Zp.mk (ZL (nth (nth (nth a0.ZA (ZG a0 a1).1.toNat).ZC (ZG a0 a1).2.toNat).ZM.ZO 1)).1.ZV a0.Frame.Now (-1) (nth a0.ZR (Zh a0.ZR (ZL (nth (nth (nth a0.ZA (ZG a0 a1).1.toNat).ZC (ZG a0 a1).2.toNat).ZM.ZO 1)).1.ZV).toNat).Zn 0) (sg (Zv.zc (ZH.XY u0)))) ?_
        simp [G]
        repeat with_reducible refine ZN ?_
        refine dIo mixed ?_
        simp [G]
        repeat with_reducible refine ZN ?_
        refine gJo G ?_ ?_ <;> intro G
        ·have cQ := G.2
         try (simp at G; done)
         all_goals
          have g3 := G.2; try simp at g3
          all_goals
           have i8 : (Z0 a0.Frame.Zk (nth a0.ZR (Zh a0.ZR (ZL (nth (nth (nth a0.ZA (ZG a0 a1).1.toNat).ZC (ZG a0 a1).2.toNat).ZM.ZO 1)).1.ZV).toNat).Zn).toNat < a0.Frame.Zk.length := by have := Xk a0.Frame.Zk (nth a0.ZR (Zh a0.ZR (ZL (nth (nth (nth a0.ZA (ZG a0 a1).1.toNat).ZC (ZG a0 a1).2.toNat).ZM.ZO 1)).1.ZV).toNat).Zn; first | omega | (have fi := Xa a0 a1 (by first | omega | (simp at *; omega)); omega) | (simp only [Bool.or_eq_false_iff, decide_eq_false_iff_not] at *; omega) | (have z := ZI G; (try simp only [] at z); omega) | (have z := ZI G.1; (try simp only [] at z); omega) | (have z := ZI G.2; (try simp only [] at z); omega) | (have z := ZI G.2.1; (try simp only [] at z); omega) | (have z := ZI G.2.2; (try simp only [] at z); omega) | (have z := ZI G.1.2; (try simp only [] at z); omega) | (have z := ZI G.2.2.2; (try simp only [] at z); omega) 
           simp [i8, ZE, G]
           repeat with_reducible refine ZN ?_
           refine cKo f ?_ ?_ <;> intro mG h6 f
           ·try (simp [G] at h6; done)
            all_goals
             simp [G]
             repeat with_reducible refine ZN ?_
             exact Q6 [.cell 4 33, .tmp 5] f
           ·try (simp [G] at h6; done)
            all_goals
             simp [G]
             repeat with_reducible refine ZN ?_
             refine dIo mixed ?_
             simp [i1, ZE, G]
             repeat with_reducible refine ZN ?_
             refine cR (YP.rd (QJ (Zq a0.Frame.Zk (Zp.mk (ZL (nth (nth (nth a0.ZA (ZG a0 a1).1.toNat).ZC (ZG a0 a1).2.toNat).ZM.ZO 1)).1.ZV a0.Frame.Now (-1) (nth a0.ZR (Zh a0.ZR (ZL (nth (nth (nth a0.ZA (ZG a0 a1).1.toNat).ZC (ZG a0 a1).2.toNat).ZM.ZO 1)).1.ZV).toNat).Zn 0)).1)) ?_
             simp [G]
             repeat with_reducible refine ZN ?_
             refine cD [] (Qy (nth a0.ZA (ZG a0 a1).1.toNat) a1 (Z2 (Zq a0.Frame.Zk (Zp.mk (ZL (nth (nth (nth a0.ZA (ZG a0 a1).1.toNat).ZC (ZG a0 a1).2.toNat).ZM.ZO 1)).1.ZV a0.Frame.Now (-1) (nth a0.ZR (Zh a0.ZR (ZL (nth (nth (nth a0.ZA (ZG a0 a1).1.toNat).ZC (ZG a0 a1).2.toNat).ZM.ZO 1)).1.ZV).toNat).Zn 0)).1) (sg (YU (ZH.YX u0))) (by simp (maxDischargeDepth := 12) [Xy, Zb (m := 2322432) (by decide) u0]; try omega)) ?_
             simp [i1, ZE, G]
             repeat with_reducible refine ZN ?_
             refine Vk (t := 18) (j := 7) (i := (ZG a0 a1).1.toNat) (size := 2) (rows := (a0.ZA.map ZF.row)) (ds := (Yf (nth a0.ZA (ZG a0 a1).1.toNat) a1 (Z2 (Zq a0.Frame.Zk (Zp.mk (ZL (nth (nth (nth a0.ZA (ZG a0 a1).1.toNat).ZC (ZG a0 a1).2.toNat).ZM.ZO 1)).1.ZV a0.Frame.Now (-1) (nth a0.ZR (Zh a0.ZR (ZL (nth (nth (nth a0.ZA (ZG a0 a1).1.toNat).ZC (ZG a0 a1).2.toNat).ZM.ZO 1)).1.ZV).toNat).Zn 0)).1)).1.row) (L := [(150, 1)]) ?_
             simp [XW (x := (Yf (nth a0.ZA (ZG a0 a1).1.toNat) a1 (Z2 (Zq a0.Frame.Zk (Zp.mk (ZL (nth (nth (nth a0.ZA (ZG a0 a1).1.toNat).ZC (ZG a0 a1).2.toNat).ZM.ZO 1)).1.ZV a0.Frame.Now (-1) (nth a0.ZR (Zh a0.ZR (ZL (nth (nth (nth a0.ZA (ZG a0 a1).1.toNat).ZC (ZG a0 a1).2.toNat).ZM.ZO 1)).1.ZV).toNat).Zn 0)).1)).1) rfl, i1, ZE, YZ, G]
             repeat with_reducible refine ZN ?_
             exact Q6 [.cell 4 33, .tmp 5] f
        ·have cQ := G.2
         try (simp at G; done)
         all_goals
          simp [G]
          repeat with_reducible refine ZN ?_
          refine cKo f ?_ ?_ <;> intro cO h7 f
          ·try (simp [G] at h7; done)
           all_goals
            simp [G]
            repeat with_reducible refine ZN ?_
            exact Q6 [.cell 4 33, .tmp 5] f
          ·try (simp [G] at h7; done)
           all_goals
            simp [G]
            repeat with_reducible refine ZN ?_
            refine dIo mixed ?_
            simp [i1, ZE, G]
            repeat with_reducible refine ZN ?_
            refine cR (YP.rd (QJ (Zq a0.Frame.Zk (Zp.mk (ZL (nth (nth (nth a0.ZA (ZG a0 a1).1.toNat).ZC (ZG a0 a1).2.toNat).ZM.ZO 1)).1.ZV a0.Frame.Now (-1) (nth a0.ZR (Zh a0.ZR (ZL (nth (nth (nth a0.ZA (ZG a0 a1).1.toNat).ZC (ZG a0 a1).2.toNat).ZM.ZO 1)).1.ZV).toNat).Zn 0)).1)) ?_
            simp [G]
            repeat with_reducible refine ZN ?_
            refine cD [] (Qy (nth a0.ZA (ZG a0 a1).1.toNat) a1 (Z2 (Zq a0.Frame.Zk (Zp.mk (ZL (nth (nth (nth a0.ZA (ZG a0 a1).1.toNat).ZC (ZG a0 a1).2.toNat).ZM.ZO 1)).1.ZV a0.Frame.Now (-1) (nth a0.ZR (Zh a0.ZR (ZL (nth (nth (nth a0.ZA (ZG a0 a1).1.toNat).ZC (ZG a0 a1).2.toNat).ZM.ZO 1)).1.ZV).toNat).Zn 0)).1) (sg (YU (ZH.YX u0))) (by simp (maxDischargeDepth := 12) [Xy, Zb (m := 2322432) (by decide) u0]; try omega)) ?_
            simp [i1, ZE, G]
            repeat with_reducible refine ZN ?_
            refine Vk (t := 18) (j := 7) (i := (ZG a0 a1).1.toNat) (size := 2) (rows := (a0.ZA.map ZF.row)) (ds := (Yf (nth a0.ZA (ZG a0 a1).1.toNat) a1 (Z2 (Zq a0.Frame.Zk (Zp.mk (ZL (nth (nth (nth a0.ZA (ZG a0 a1).1.toNat).ZC (ZG a0 a1).2.toNat).ZM.ZO 1)).1.ZV a0.Frame.Now (-1) (nth a0.ZR (Zh a0.ZR (ZL (nth (nth (nth a0.ZA (ZG a0 a1).1.toNat).ZC (ZG a0 a1).2.toNat).ZM.ZO 1)).1.ZV).toNat).Zn 0)).1)).1.row) (L := [(150, 1)]) ?_
            simp [XW (x := (Yf (nth a0.ZA (ZG a0 a1).1.toNat) a1 (Z2 (Zq a0.Frame.Zk (Zp.mk (ZL (nth (nth (nth a0.ZA (ZG a0 a1).1.toNat).ZC (ZG a0 a1).2.toNat).ZM.ZO 1)).1.ZV a0.Frame.Now (-1) (nth a0.ZR (Zh a0.ZR (ZL (nth (nth (nth a0.ZA (ZG a0 a1).1.toNat).ZC (ZG a0 a1).2.toNat).ZM.ZO 1)).1.ZV).toNat).Zn 0)).1)).1) rfl, i1, ZE, YZ, G]
            repeat with_reducible refine ZN ?_
            exact Q6 [.cell 4 33, .tmp 5] f
 ·have sv := G
  simp [G]
  repeat with_reducible refine ZN ?_
  refine sGo ?_
  simp [G]
  repeat with_reducible refine ZN ?_
  refine cKo f ?_ ?_ <;> intro cJ h8 f
  ·try (simp [G] at h8; done)
   all_goals
    simp [G]
    repeat with_reducible refine ZN ?_
    exact Q6 [.cell 4 33, .tmp 5] f
  ·try (simp [G] at h8; done)
   all_goals
    have i12 : (ZG a0 a1).1.toNat < a0.ZA.length := by first | omega | (have fi := Xa a0 a1 (by first | omega | (simp at *; omega)); omega) | (simp only [Bool.or_eq_false_iff, decide_eq_false_iff_not] at *; omega) | (have z := ZI G; (try simp only [] at z); omega) | (have z := ZI G.1; (try simp only [] at z); omega) | (have z := ZI G.2; (try simp only [] at z); omega) | (have z := ZI G.2.1; (try simp only [] at z); omega) | (have z := ZI G.2.2; (try simp only [] at z); omega) | (have z := ZI G.1.2; (try simp only [] at z); omega) | (have z := ZI G.2.2.2; (try simp only [] at z); omega) 
    have i13 : (ZG a0 a1).2.toNat < (nth a0.ZA (ZG a0 a1).1.toNat).ZC.length := by first | omega | (have fi := Xa a0 a1 (by first | omega | (simp at *; omega)); omega) | (simp only [Bool.or_eq_false_iff, decide_eq_false_iff_not] at *; omega) | (have z := ZI G; (try simp only [] at z); omega) | (have z := ZI G.1; (try simp only [] at z); omega) | (have z := ZI G.2; (try simp only [] at z); omega) | (have z := ZI G.2.1; (try simp only [] at z); omega) | (have z := ZI G.2.2; (try simp only [] at z); omega) | (have z := ZI G.1.2; (try simp only [] at z); omega) | (have z := ZI G.2.2.2; (try simp only [] at z); omega) 
    have i14 : 1 < (nth (nth a0.ZA (ZG a0 a1).1.toNat).ZC (ZG a0 a1).2.toNat).ZM.ZO.length := by first | omega | (have fi := Xa a0 a1 (by first | omega | (simp at *; omega)); omega) | (simp only [Bool.or_eq_false_iff, decide_eq_false_iff_not] at *; omega) | (have z := ZI G; (try simp only [] at z); omega) | (have z := ZI G.1; (try simp only [] at z); omega) | (have z := ZI G.2; (try simp only [] at z); omega) | (have z := ZI G.2.1; (try simp only [] at z); omega) | (have z := ZI G.2.2; (try simp only [] at z); omega) | (have z := ZI G.1.2; (try simp only [] at z); omega) | (have z := ZI G.2.2.2; (try simp only [] at z); omega) 
    simp [i12, ZE, i13, i14, G]
    repeat with_reducible refine ZN ?_
    refine cR (UA (nth (nth (nth a0.ZA (ZG a0 a1).1.toNat).ZC (ZG a0 a1).2.toNat).ZM.ZO 1)) ?_
    simp [G]
    repeat with_reducible refine ZN ?_
    refine cR (Ta a0.ZR (ZL (nth (nth (nth a0.ZA (ZG a0 a1).1.toNat).ZC (ZG a0 a1).2.toNat).ZM.ZO 1)).1.ZV) ?_
    simp [G]
    repeat with_reducible refine ZN ?_
    refine cKo f ?_ ?_ <;> intro cM h9 f
    ·try (simp [G] at h9; done)
     all_goals
      simp [G]
      repeat with_reducible refine ZN ?_
      exact Q6 [.cell 4 33, .tmp 5] f
    ·try (simp [G] at h9; done)
     all_goals
      simp [G]
      repeat with_reducible refine ZN ?_
      refine dIo mixed ?_
      have i15 : (Zh a0.ZR (ZL (nth (nth (nth a0.ZA (ZG a0 a1).1.toNat).ZC (ZG a0 a1).2.toNat).ZM.ZO 1)).1.ZV).toNat < a0.ZR.length := by have := qS a0.ZR (ZL (nth (nth (nth a0.ZA (ZG a0 a1).1.toNat).ZC (ZG a0 a1).2.toNat).ZM.ZO 1)).1.ZV; first | omega | (have fi := Xa a0 a1 (by first | omega | (simp at *; omega)); omega) | (simp only [Bool.or_eq_false_iff, decide_eq_false_iff_not] at *; omega) | (have z := ZI G; (try simp only [] at z); omega) | (have z := ZI G.1; (try simp only [] at z); omega) | (have z := ZI G.2; (try simp only [] at z); omega) | (have z := ZI G.2.1; (try simp only [] at z); omega) | (have z := ZI G.2.2; (try simp only [] at z); omega) | (have z := ZI G.1.2; (try simp only [] at z); omega) | (have z := ZI G.2.2.2; (try simp only [] at z); omega) 
      simp [i15, ZE, G]
      repeat with_reducible refine ZN ?_
      refine cR (QW a0.Frame.Zk (nth a0.ZR (Zh a0.ZR (ZL (nth (nth (nth a0.ZA (ZG a0 a1).1.toNat).ZC (ZG a0 a1).2.toNat).ZM.ZO 1)).1.ZV).toNat).Zn) ?_
      simp [G]
      repeat with_reducible refine ZN ?_
      refine dIo mixed ?_
      simp [i15, ZE, G]
      repeat with_reducible refine ZN ?_
      refine dIo mixed ?_
      have i16 : (Zh a0.ZR (ZL (nth (nth (nth a0.ZA (ZG a0 a1).1.toNat).ZC (ZG a0 a1).2.toNat).ZM.ZO 1)).1.ZV).toNat < a0.Zu.length := by have := qS a0.ZR (ZL (nth (nth (nth a0.ZA (ZG a0 a1).1.toNat).ZC (ZG a0 a1).2.toNat).ZM.ZO 1)).1.ZV; first | omega | (have fi := Xa a0 a1 (by first | omega | (simp at *; omega)); omega) | (simp only [Bool.or_eq_false_iff, decide_eq_false_iff_not] at *; omega) | (have z := ZI G; (try simp only [] at z); omega) | (have z := ZI G.1; (try simp only [] at z); omega) | (have z := ZI G.2; (try simp only [] at z); omega) | (have z := ZI G.2.1; (try simp only [] at z); omega) | (have z := ZI G.2.2; (try simp only [] at z); omega) | (have z := ZI G.1.2; (try simp only [] at z); omega) | (have z := ZI G.2.2.2; (try simp only [] at z); omega) 
      simp [i16, ZE, G]
      repeat with_reducible refine ZN ?_
      refine cKo f ?_ ?_ <;> intro bW ru f
      ·try (simp [G] at ru; done)
       all_goals
        simp [i16, ZE, G]
        repeat with_reducible refine ZN ?_
        refine cR (yn a0.Frame.Zk (Zp.mk (ZL (nth (nth (nth a0.ZA (ZG a0 a1).1.toNat).ZC (ZG a0 a1).2.toNat).ZM.ZO 1)).1.ZV a0.Frame.Now (nth a0.Zu (Zh a0.ZR (ZL (nth (nth (nth a0.ZA (ZG a0 a1).1.toNat).ZC (ZG a0 a1).2.toNat).ZM.ZO 1)).1.ZV).toNat) (nth a0.ZR (Zh a0.ZR (ZL (nth (nth (nth a0.ZA (ZG a0 a1).1.toNat).ZC (ZG a0 a1).2.toNat).ZM.ZO 1)).1.ZV).toNat).Zn 0) (sg (Zv.zc (ZH.XY u0)))) ?_
        simp [G]
        repeat with_reducible refine ZN ?_
        refine dIo mixed ?_
        simp [G]
        repeat with_reducible refine ZN ?_
        refine gJo G ?_ ?_ <;> intro G
        ·have cS := G.2
         try (simp at G; done)
         all_goals
          have g4 := G.2; try simp at g4
          all_goals
           have i17 : (Z0 a0.Frame.Zk (nth a0.ZR (Zh a0.ZR (ZL (nth (nth (nth a0.ZA (ZG a0 a1).1.toNat).ZC (ZG a0 a1).2.toNat).ZM.ZO 1)).1.ZV).toNat).Zn).toNat < a0.Frame.Zk.length := by have := Xk a0.Frame.Zk (nth a0.ZR (Zh a0.ZR (ZL (nth (nth (nth a0.ZA (ZG a0 a1).1.toNat).ZC (ZG a0 a1).2.toNat).ZM.ZO 1)).1.ZV).toNat).Zn; first | omega | (have fi := Xa a0 a1 (by first | omega | (simp at *; omega)); omega) | (simp only [Bool.or_eq_false_iff, decide_eq_false_iff_not] at *; omega) | (have z := ZI G; (try simp only [] at z); omega) | (have z := ZI G.1; (try simp only [] at z); omega) | (have z := ZI G.2; (try simp only [] at z); omega) | (have z := ZI G.2.1; (try simp only [] at z); omega) | (have z := ZI G.2.2; (try simp only [] at z); omega) | (have z := ZI G.1.2; (try simp only [] at z); omega) | (have z := ZI G.2.2.2; (try simp only [] at z); omega) 
           simp [i17, ZE, G]
           repeat with_reducible refine ZN ?_
           refine cKo f ?_ ?_ <;> intro bX nq f
           ·try (simp [G] at nq; done)
            all_goals
             simp [G]
             repeat with_reducible refine ZN ?_
             exact Q6 [.cell 4 33, .tmp 5] f
           ·try (simp [G] at nq; done)
            all_goals
             simp [G]
             repeat with_reducible refine ZN ?_
             refine dIo mixed ?_
             simp [i12, ZE, G]
             repeat with_reducible refine ZN ?_
             refine cR (YP.rd (QJ (Zq a0.Frame.Zk (Zp.mk (ZL (nth (nth (nth a0.ZA (ZG a0 a1).1.toNat).ZC (ZG a0 a1).2.toNat).ZM.ZO 1)).1.ZV a0.Frame.Now (nth a0.Zu (Zh a0.ZR (ZL (nth (nth (nth a0.ZA (ZG a0 a1).1.toNat).ZC (ZG a0 a1).2.toNat).ZM.ZO 1)).1.ZV).toNat) (nth a0.ZR (Zh a0.ZR (ZL (nth (nth (nth a0.ZA (ZG a0 a1).1.toNat).ZC (ZG a0 a1).2.toNat).ZM.ZO 1)).1.ZV).toNat).Zn 0)).1)) ?_
             simp [G]
             repeat with_reducible refine ZN ?_
             refine cD [] (Qy (nth a0.ZA (ZG a0 a1).1.toNat) a1 (Z2 (Zq a0.Frame.Zk (Zp.mk (ZL (nth (nth (nth a0.ZA (ZG a0 a1).1.toNat).ZC (ZG a0 a1).2.toNat).ZM.ZO 1)).1.ZV a0.Frame.Now (nth a0.Zu (Zh a0.ZR (ZL (nth (nth (nth a0.ZA (ZG a0 a1).1.toNat).ZC (ZG a0 a1).2.toNat).ZM.ZO 1)).1.ZV).toNat) (nth a0.ZR (Zh a0.ZR (ZL (nth (nth (nth a0.ZA (ZG a0 a1).1.toNat).ZC (ZG a0 a1).2.toNat).ZM.ZO 1)).1.ZV).toNat).Zn 0)).1) (sg (YU (ZH.YX u0))) (by simp (maxDischargeDepth := 12) [Xy, Zb (m := 2322432) (by decide) u0]; try omega)) ?_
             simp [i12, ZE, G]
             repeat with_reducible refine ZN ?_
             refine Vk (t := 18) (j := 7) (i := (ZG a0 a1).1.toNat) (size := 2) (rows := (a0.ZA.map ZF.row)) (ds := (Yf (nth a0.ZA (ZG a0 a1).1.toNat) a1 (Z2 (Zq a0.Frame.Zk (Zp.mk (ZL (nth (nth (nth a0.ZA (ZG a0 a1).1.toNat).ZC (ZG a0 a1).2.toNat).ZM.ZO 1)).1.ZV a0.Frame.Now (nth a0.Zu (Zh a0.ZR (ZL (nth (nth (nth a0.ZA (ZG a0 a1).1.toNat).ZC (ZG a0 a1).2.toNat).ZM.ZO 1)).1.ZV).toNat) (nth a0.ZR (Zh a0.ZR (ZL (nth (nth (nth a0.ZA (ZG a0 a1).1.toNat).ZC (ZG a0 a1).2.toNat).ZM.ZO 1)).1.ZV).toNat).Zn 0)).1)).1.row) (L := [(150, 1)]) ?_
             simp [XW (x := (Yf (nth a0.ZA (ZG a0 a1).1.toNat) a1 (Z2 (Zq a0.Frame.Zk (Zp.mk (ZL (nth (nth (nth a0.ZA (ZG a0 a1).1.toNat).ZC (ZG a0 a1).2.toNat).ZM.ZO 1)).1.ZV a0.Frame.Now (nth a0.Zu (Zh a0.ZR (ZL (nth (nth (nth a0.ZA (ZG a0 a1).1.toNat).ZC (ZG a0 a1).2.toNat).ZM.ZO 1)).1.ZV).toNat) (nth a0.ZR (Zh a0.ZR (ZL (nth (nth (nth a0.ZA (ZG a0 a1).1.toNat).ZC (ZG a0 a1).2.toNat).ZM.ZO 1)).1.ZV).toNat).Zn 0)).1)).1) rfl, i12, ZE, YZ, G]
             repeat with_reducible refine ZN ?_
             exact Q6 [.cell 4 33, .tmp 5] f
        ·have cS := G.2
         try (simp at G; done)
         all_goals
          simp [G]
          repeat with_reducible refine ZN ?_
          refine cKo f ?_ ?_ <;> intro bY lN f
          ·try (simp [G] at lN; done)
           all_goals
            simp [G]
            repeat with_reducible refine ZN ?_
            exact Q6 [.cell 4 33, .tmp 5] f
          ·try (simp [G] at lN; done)
           all_goals
            simp [G]
            repeat with_reducible refine ZN ?_
            refine dIo mixed ?_
            simp [i12, ZE, G]
            repeat with_reducible refine ZN ?_
            refine cR (YP.rd (QJ (Zq a0.Frame.Zk (Zp.mk (ZL (nth (nth (nth a0.ZA (ZG a0 a1).1.toNat).ZC (ZG a0 a1).2.toNat).ZM.ZO 1)).1.ZV a0.Frame.Now (nth a0.Zu (Zh a0.ZR (ZL (nth (nth (nth a0.ZA (ZG a0 a1).1.toNat).ZC (ZG a0 a1).2.toNat).ZM.ZO 1)).1.ZV).toNat) (nth a0.ZR (Zh a0.ZR (ZL (nth (nth (nth a0.ZA (ZG a0 a1).1.toNat).ZC (ZG a0 a1).2.toNat).ZM.ZO 1)).1.ZV).toNat).Zn 0)).1)) ?_
            simp [G]
            repeat with_reducible refine ZN ?_
            refine cD [] (Qy (nth a0.ZA (ZG a0 a1).1.toNat) a1 (Z2 (Zq a0.Frame.Zk (Zp.mk (ZL (nth (nth (nth a0.ZA (ZG a0 a1).1.toNat).ZC (ZG a0 a1).2.toNat).ZM.ZO 1)).1.ZV a0.Frame.Now (nth a0.Zu (Zh a0.ZR (ZL (nth (nth (nth a0.ZA (ZG a0 a1).1.toNat).ZC (ZG a0 a1).2.toNat).ZM.ZO 1)).1.ZV).toNat) (nth a0.ZR (Zh a0.ZR (ZL (nth (nth (nth a0.ZA (ZG a0 a1).1.toNat).ZC (ZG a0 a1).2.toNat).ZM.ZO 1)).1.ZV).toNat).Zn 0)).1) (sg (YU (ZH.YX u0))) (by simp (maxDischargeDepth := 12) [Xy, Zb (m := 2322432) (by decide) u0]; try omega)) ?_
            simp [i12, ZE, G]
            repeat with_reducible refine ZN ?_
            refine Vk (t := 18) (j := 7) (i := (ZG a0 a1).1.toNat) (size := 2) (rows := (a0.ZA.map ZF.row)) (ds := (Yf (nth a0.ZA (ZG a0 a1).1.toNat) a1 (Z2 (Zq a0.Frame.Zk (Zp.mk (ZL (nth (nth (nth a0.ZA (ZG a0 a1).1.toNat).ZC (ZG a0 a1).2.toNat).ZM.ZO 1)).1.ZV a0.Frame.Now (nth a0.Zu (Zh a0.ZR (ZL (nth (nth (nth a0.ZA (ZG a0 a1).1.toNat).ZC (ZG a0 a1).2.toNat).ZM.ZO 1)).1.ZV).toNat) (nth a0.ZR (Zh a0.ZR (ZL (nth (nth (nth a0.ZA (ZG a0 a1).1.toNat).ZC (ZG a0 a1).2.toNat).ZM.ZO 1)).1.ZV).toNat).Zn 0)).1)).1.row) (L := [(150, 1)]) ?_
            simp [XW (x := (Yf (nth a0.ZA (ZG a0 a1).1.toNat) a1 (Z2 (Zq a0.Frame.Zk (Zp.mk (ZL (nth (nth (nth a0.ZA (ZG a0 a1).1.toNat).ZC (ZG a0 a1).2.toNat).ZM.ZO 1)).1.ZV a0.Frame.Now (nth a0.Zu (Zh a0.ZR (ZL (nth (nth (nth a0.ZA (ZG a0 a1).1.toNat).ZC (ZG a0 a1).2.toNat).ZM.ZO 1)).1.ZV).toNat) (nth a0.ZR (Zh a0.ZR (ZL (nth (nth (nth a0.ZA (ZG a0 a1).1.toNat).ZC (ZG a0 a1).2.toNat).ZM.ZO 1)).1.ZV).toNat).Zn 0)).1)).1) rfl, i12, ZE, YZ, G]
            repeat with_reducible refine ZN ?_
            exact Q6 [.cell 4 33, .tmp 5] f
      ·try (simp [G] at ru; done)
       all_goals
        simp [G]
        repeat with_reducible refine ZN ?_
        refine cR (yn a0.Frame.Zk (Zp.mk (ZL (nth (nth (nth a0.ZA (ZG a0 a1).1.toNat).ZC (ZG a0 a1).2.toNat).ZM.ZO 1)).1.ZV a0.Frame.Now (-1) (nth a0.ZR (Zh a0.ZR (ZL (nth (nth (nth a0.ZA (ZG a0 a1).1.toNat).ZC (ZG a0 a1).2.toNat).ZM.ZO 1)).1.ZV).toNat).Zn 0) (sg (Zv.zc (ZH.XY u0)))) ?_
        simp [G]
        repeat with_reducible refine ZN ?_
        refine dIo mixed ?_
        simp [G]
        repeat with_reducible refine ZN ?_
        refine gJo G ?_ ?_ <;> intro G
        ·have cT := G.2
         try (simp at G; done)
         all_goals
          have g5 := G.2; try simp at g5
          all_goals
           have i19 : (Z0 a0.Frame.Zk (nth a0.ZR (Zh a0.ZR (ZL (nth (nth (nth a0.ZA (ZG a0 a1).1.toNat).ZC (ZG a0 a1).2.toNat).ZM.ZO 1)).1.ZV).toNat).Zn).toNat < a0.Frame.Zk.length := by have := Xk a0.Frame.Zk (nth a0.ZR (Zh a0.ZR (ZL (nth (nth (nth a0.ZA (ZG a0 a1).1.toNat).ZC (ZG a0 a1).2.toNat).ZM.ZO 1)).1.ZV).toNat).Zn; first | omega | (have fi := Xa a0 a1 (by first | omega | (simp at *; omega)); omega) | (simp only [Bool.or_eq_false_iff, decide_eq_false_iff_not] at *; omega) | (have z := ZI G; (try simp only [] at z); omega) | (have z := ZI G.1; (try simp only [] at z); omega) | (have z := ZI G.2; (try simp only [] at z); omega) | (have z := ZI G.2.1; (try simp only [] at z); omega) | (have z := ZI G.2.2; (try simp only [] at z); omega) | (have z := ZI G.1.2; (try simp only [] at z); omega) | (have z := ZI G.2.2.2; (try simp only [] at z); omega) 
           simp [i19, ZE, G]
           repeat with_reducible refine ZN ?_
           refine cKo f ?_ ?_ <;> intro bZ gF f
           ·try (simp [G] at gF; done)
            all_goals
             simp [G]
             repeat with_reducible refine ZN ?_
             exact Q6 [.cell 4 33, .tmp 5] f
           ·try (simp [G] at gF; done)
            all_goals
             simp [G]
             repeat with_reducible refine ZN ?_
             refine dIo mixed ?_
             simp [i12, ZE, G]
             repeat with_reducible refine ZN ?_
             refine cR (YP.rd (QJ (Zq a0.Frame.Zk (Zp.mk (ZL (nth (nth (nth a0.ZA (ZG a0 a1).1.toNat).ZC (ZG a0 a1).2.toNat).ZM.ZO 1)).1.ZV a0.Frame.Now (-1) (nth a0.ZR (Zh a0.ZR (ZL (nth (nth (nth a0.ZA (ZG a0 a1).1.toNat).ZC (ZG a0 a1).2.toNat).ZM.ZO 1)).1.ZV).toNat).Zn 0)).1)) ?_
             simp [G]
             repeat with_reducible refine ZN ?_
             refine cD [] (Qy (nth a0.ZA (ZG a0 a1).1.toNat) a1 (Z2 (Zq a0.Frame.Zk (Zp.mk (ZL (nth (nth (nth a0.ZA (ZG a0 a1).1.toNat).ZC (ZG a0 a1).2.toNat).ZM.ZO 1)).1.ZV a0.Frame.Now (-1) (nth a0.ZR (Zh a0.ZR (ZL (nth (nth (nth a0.ZA (ZG a0 a1).1.toNat).ZC (ZG a0 a1).2.toNat).ZM.ZO 1)).1.ZV).toNat).Zn 0)).1) (sg (YU (ZH.YX u0))) (by simp (maxDischargeDepth := 12) [Xy, Zb (m := 2322432) (by decide) u0]; try omega)) ?_
             simp [i12, ZE, G]
             repeat with_reducible refine ZN ?_
             refine Vk (t := 18) (j := 7) (i := (ZG a0 a1).1.toNat) (size := 2) (rows := (a0.ZA.map ZF.row)) (ds := (Yf (nth a0.ZA (ZG a0 a1).1.toNat) a1 (Z2 (Zq a0.Frame.Zk (Zp.mk (ZL (nth (nth (nth a0.ZA (ZG a0 a1).1.toNat).ZC (ZG a0 a1).2.toNat).ZM.ZO 1)).1.ZV a0.Frame.Now (-1) (nth a0.ZR (Zh a0.ZR (ZL (nth (nth (nth a0.ZA (ZG a0 a1).1.toNat).ZC (ZG a0 a1).2.toNat).ZM.ZO 1)).1.ZV).toNat).Zn 0)).1)).1.row) (L := [(150, 1)]) ?_
             simp [XW (x := (Yf (nth a0.ZA (ZG a0 a1).1.toNat) a1 (Z2 (Zq a0.Frame.Zk (Zp.mk (ZL (nth (nth (nth a0.ZA (ZG a0 a1).1.toNat).ZC (ZG a0 a1).2.toNat).ZM.ZO 1)).1.ZV a0.Frame.Now (-1) (nth a0.ZR (Zh a0.ZR (ZL (nth (nth (nth a0.ZA (ZG a0 a1).1.toNat).ZC (ZG a0 a1).2.toNat).ZM.ZO 1)).1.ZV).toNat).Zn 0)).1)).1) rfl, i12, ZE, YZ, G]
             repeat with_reducible refine ZN ?_
             exact Q6 [.cell 4 33, .tmp 5] f
        ·have cT := G.2
         try (simp at G; done)
         all_goals
          simp [G]
          repeat with_reducible refine ZN ?_
          refine cKo f ?_ ?_ <;> intro ba gG f
          ·try (simp [G] at gG; done)
           all_goals
            simp [G]
            repeat with_reducible refine ZN ?_
            exact Q6 [.cell 4 33, .tmp 5] f
          ·try (simp [G] at gG; done)
           all_goals
            simp [G]
            repeat with_reducible refine ZN ?_
            refine dIo mixed ?_
            simp [i12, ZE, G]
            repeat with_reducible refine ZN ?_
            refine cR (YP.rd (QJ (Zq a0.Frame.Zk (Zp.mk (ZL (nth (nth (nth a0.ZA (ZG a0 a1).1.toNat).ZC (ZG a0 a1).2.toNat).ZM.ZO 1)).1.ZV a0.Frame.Now (-1) (nth a0.ZR (Zh a0.ZR (ZL (nth (nth (nth a0.ZA (ZG a0 a1).1.toNat).ZC (ZG a0 a1).2.toNat).ZM.ZO 1)).1.ZV).toNat).Zn 0)).1)) ?_
            simp [G]
            repeat with_reducible refine ZN ?_
            refine cD [] (Qy (nth a0.ZA (ZG a0 a1).1.toNat) a1 (Z2 (Zq a0.Frame.Zk (Zp.mk (ZL (nth (nth (nth a0.ZA (ZG a0 a1).1.toNat).ZC (ZG a0 a1).2.toNat).ZM.ZO 1)).1.ZV a0.Frame.Now (-1) (nth a0.ZR (Zh a0.ZR (ZL (nth (nth (nth a0.ZA (ZG a0 a1).1.toNat).ZC (ZG a0 a1).2.toNat).ZM.ZO 1)).1.ZV).toNat).Zn 0)).1) (sg (YU (ZH.YX u0))) (by simp (maxDischargeDepth := 12) [Xy, Zb (m := 2322432) (by decide) u0]; try omega)) ?_
            simp [i12, ZE, G]
            repeat with_reducible refine ZN ?_
            refine Vk (t := 18) (j := 7) (i := (ZG a0 a1).1.toNat) (size := 2) (rows := (a0.ZA.map ZF.row)) (ds := (Yf (nth a0.ZA (ZG a0 a1).1.toNat) a1 (Z2 (Zq a0.Frame.Zk (Zp.mk (ZL (nth (nth (nth a0.ZA (ZG a0 a1).1.toNat).ZC (ZG a0 a1).2.toNat).ZM.ZO 1)).1.ZV a0.Frame.Now (-1) (nth a0.ZR (Zh a0.ZR (ZL (nth (nth (nth a0.ZA (ZG a0 a1).1.toNat).ZC (ZG a0 a1).2.toNat).ZM.ZO 1)).1.ZV).toNat).Zn 0)).1)).1.row) (L := [(150, 1)]) ?_
            simp [XW (x := (Yf (nth a0.ZA (ZG a0 a1).1.toNat) a1 (Z2 (Zq a0.Frame.Zk (Zp.mk (ZL (nth (nth (nth a0.ZA (ZG a0 a1).1.toNat).ZC (ZG a0 a1).2.toNat).ZM.ZO 1)).1.ZV a0.Frame.Now (-1) (nth a0.ZR (Zh a0.ZR (ZL (nth (nth (nth a0.ZA (ZG a0 a1).1.toNat).ZC (ZG a0 a1).2.toNat).ZM.ZO 1)).1.ZV).toNat).Zn 0)).1)).1) rfl, i12, ZE, YZ, G]
            repeat with_reducible refine ZN ?_
            exact Q6 [.cell 4 33, .tmp 5] f
theorem LO (a0 : ZH) (a1 : Int) (u0 : Sm 2318336 a0) : Sd 103 [a0.row, rI a1] [(Z9 a0 a1).1.row, rB (Z9 a0 a1).2] := by
 have f := me (Z9.eq_1 a0 a1)
 refine soD func103 ntmps103 ?_
 refine cDs [false, false, false, true, true, false, false, true, false, false, true, false] (yY a0 (sg u0)) ?_
 refine cRs (Yj a1 0 100) ?_
 refine cFo f ?_ ?_ <;> intro k1 h1 f
 ·have q1 := h1; try simp [Z8] at q1
  simp
  exact rtD [.cell 4 33, .tmp 5] f
 have q1 := h1; try simp [Z8] at q1
 simp
 exact rtD [.cell 4 33, .tmp 5] f
theorem VH (a0 : List YH) (a1 : Int) : Sa 214 [rL 4 YH.row a0, rI a1] [rI (QV a0 a1)] := by
 have f := me (QV.eq_1 a0 a1)
 refine so func214 ntmps214 ?_
 refine lp1 (xm.eq_2 a0 a1) (fun J => Yy 20 [eL 0 4 a0 YH.row, eI 1 a1, eI 5 (J : Int)]) (fun n1 J => a0.length < n1 + J /\ J <= a0.length) (a0.length + 1) 0 (fun p1 J e1 j1 => ?_)
 refine cFf e1 ?_ ?_ <;> intro k2 h1 e1
 ·have i1 := ix h1
  have m2 := ml a0 (k2 0 _ rfl)
  have w1 := wr J
  simp [i1, ZE]
  refine rpS ?_
  refine cF e1 ?_ ?_ <;> intro k3 h2 e1
  ·have f := ms f e1
   exact rt [.tmp 4] f
  exact ny1 w1 e1
 have f := ms f e1
 exact rt [.tmp 4] f
theorem Sg (a0 : List YH) (a1 : Int) (a2 : Int) : Sa 139 [rL 4 YH.row a0, rI a1, rI a2] [rB (R5 a0 a1 a2)] := by
 have f := me (R5.eq_1 a0 a1 a2)
 refine so func139 ntmps139 ?_
 refine cRs (VH a0 a1) ?_
 refine gIf ?_ ?_ <;> intro G
 ·have i1 : (QV a0 a1).toNat < a0.length := by have := q9 a0 a1; exact il
  simp [i1, ZE, G]
  refine rpG ?_
  refine gJf G ?_ ?_ <;> intro G
  ·try (simp at G; done)
   all_goals
    simp [i1, ZE, G]
    refine rpG ?_
    exact rtg [.tmp 6] f
  ·try (simp at G; done)
   all_goals
    exact rtg [.tmp 6] f
 ·refine gJf G ?_ ?_ <;> intro G
  ·try (simp at G; done)
   all_goals
    have i3 : (QV a0 a1).toNat < a0.length := by have := q9 a0 a1; exact il
    simp [i3, ZE, G]
    refine rpG ?_
    exact rtg [.tmp 6] f
  ·try (simp at G; done)
   all_goals
    exact rtg [.tmp 6] f
theorem jR (a0 : List YH) (a1 : Int) : Sa 140 [rL 4 YH.row a0, rI a1] [rI (Rl a0 a1)] := by
 have f := me (Rl.eq_1 a0 a1)
 refine so func140 ntmps140 ?_
 refine cRs (VH a0 a1) ?_
 refine cFt f ?_ ?_ <;> intro k1 h1 f
 ·exact rt [.tmp 4] f
 have i1 : (QV a0 a1).toNat < a0.length := by have := q9 a0 a1; exact il
 simp [i1, ZE]
 refine rpS ?_
 exact rt [.tmp 4] f
theorem ql (a0 : Zv) (u0 : Sm 2334720 a0) : Sd 74 [a0.row] [rL 1 iR (Z5 a0)] := by
 have f := me (Z5.eq_1 a0)
 refine soD func74 ntmps74 ?_
 refine lp2 (Qe.eq_2 a0) (fun J U => Yy 73 [eX 1 (a0.row.map .d), (3, .one (.sref 3 0 0 J.length), [.arr false 1 (J.map iR)]), eI 4 (U : Int)]) (fun n1 J U => a0.ZD.length < n1 + U /\ U <= a0.ZD.length /\ J.length <= 0 + 1 * U) (a0.ZD.length + 1) ([] : List Int) 0 (fun p1 J U e1 j1 => ?_) (h0 := wkS [((3, 0), some (6, 0))] [])
 refine cF e1 ?_ ?_ <;> intro k2 h1 e1
 ·have i1 := ix h1
  have m2 := ml a0.ZD (k2 9 _ rfl)
  have c1 := sl 2334720 a0.ZD u0
  have w1 := wr U
  refine dIo mixed ?_
  simp [i1, ZE]
  refine rpS ?_
  refine cRs (QW a0.Zk (nth a0.ZD U).Key) ?_
  refine dIs mixed ?_
  refine gIf ?_ ?_ <;> intro G
  ·have i2 : (Z0 a0.Zk (nth a0.ZD U).Key).toNat < a0.Zk.length := by have := Xk a0.Zk (nth a0.ZD U).Key; exact il
   simp [i2, ZE, G]
   refine rpG ?_
   refine gJf G ?_ ?_ <;> intro G
   ·try (simp at G; done)
    all_goals
     simp [i2, ZE, G]
     refine rpG ?_
     refine cGg (fun gg => (Sg a0.Methods (nth a0.Zk (Z0 a0.Zk (nth a0.ZD U).Key).toNat).Method a0.Now)) ?_
     refine gJf G ?_ ?_ <;> intro G
     ·try (simp at G; done)
      all_goals
       simp [i2, ZE, G]
       refine rpG ?_
       refine cGg (fun gg => (jR a0.Methods (nth a0.Zk (Z0 a0.Zk (nth a0.ZD U).Key).toNat).Method)) ?_
       refine cKf e1 ?_ ?_ <;> intro k5 h2 e1
       ·try (simp [G] at h2; done)
        all_goals
         simp [i1, ZE, G]
         refine rpG ?_
         exact nx2 e1 (hw := XI [((3, 0), some (71, 0))] [] rfl (by simp [w1, G]))
       ·try (simp [G] at h2; done)
        all_goals
         exact ny2 (an w1 G) e1
     ·try (simp at G; done)
      all_goals
       refine sGo ?_
       simp [G]
       refine rpG ?_
       refine cKf e1 ?_ ?_ <;> intro k6 h3 e1
       ·try (simp [G] at h3; done)
        all_goals
         simp [i1, ZE, G]
         refine rpG ?_
         exact nx2 e1 (hw := XI [((3, 0), some (71, 0))] [] rfl (by simp [w1, G]))
       ·try (simp [G] at h3; done)
        all_goals
         exact ny2 (an w1 G) e1
   ·try (simp at G; done)
    all_goals
     refine sGo ?_
     simp [G]
     refine rpG ?_
     refine gJf G ?_ ?_ <;> intro G
     ·try (simp at G; done)
      all_goals
       simp [i2, ZE, G]
       refine rpG ?_
       refine cGg (fun gg => (jR a0.Methods (nth a0.Zk (Z0 a0.Zk (nth a0.ZD U).Key).toNat).Method)) ?_
       refine cKf e1 ?_ ?_ <;> intro k7 h4 e1
       ·try (simp [G] at h4; done)
        all_goals
         simp [i1, ZE, G]
         refine rpG ?_
         exact nx2 e1 (hw := XI [((3, 0), some (71, 0))] [] rfl (by simp [w1, G]))
       ·try (simp [G] at h4; done)
        all_goals
         exact ny2 (an w1 G) e1
     ·try (simp at G; done)
      all_goals
       refine sGo ?_
       simp [G]
       refine rpG ?_
       refine cKf e1 ?_ ?_ <;> intro k8 h5 e1
       ·try (simp [G] at h5; done)
        all_goals
         simp [i1, ZE, G]
         refine rpG ?_
         exact nx2 e1 (hw := XI [((3, 0), some (71, 0))] [] rfl (by simp [w1, G]))
       ·try (simp [G] at h5; done)
        all_goals
         exact ny2 (an w1 G) e1
  ·refine gJf G ?_ ?_ <;> intro G
   ·try (simp at G; done)
    all_goals
     have i4 : (Z0 a0.Zk (nth a0.ZD U).Key).toNat < a0.Zk.length := by have := Xk a0.Zk (nth a0.ZD U).Key; exact il
     simp [i4, ZE, G]
     refine rpG ?_
     refine cGg (fun gg => (Sg a0.Methods (nth a0.Zk (Z0 a0.Zk (nth a0.ZD U).Key).toNat).Method a0.Now)) ?_
     refine gJf G ?_ ?_ <;> intro G
     ·try (simp at G; done)
      all_goals
       simp [i4, ZE, G]
       refine rpG ?_
       refine cGg (fun gg => (jR a0.Methods (nth a0.Zk (Z0 a0.Zk (nth a0.ZD U).Key).toNat).Method)) ?_
       refine cKf e1 ?_ ?_ <;> intro k9 h6 e1
       ·try (simp [G] at h6; done)
        all_goals
         simp [i1, ZE, G]
         refine rpG ?_
         exact nx2 e1 (hw := XI [((3, 0), some (71, 0))] [] rfl (by simp [w1, G]))
       ·try (simp [G] at h6; done)
        all_goals
         exact ny2 (an w1 G) e1
     ·try (simp at G; done)
      all_goals
       refine sGo ?_
       simp [G]
       refine rpG ?_
       refine cKf e1 ?_ ?_ <;> intro np h7 e1
       ·try (simp [G] at h7; done)
        all_goals
         simp [i1, ZE, G]
         refine rpG ?_
         exact nx2 e1 (hw := XI [((3, 0), some (71, 0))] [] rfl (by simp [w1, G]))
       ·try (simp [G] at h7; done)
        all_goals
         exact ny2 (an w1 G) e1
   ·try (simp at G; done)
    all_goals
     refine sGo ?_
     simp [G]
     refine rpG ?_
     refine gJf G ?_ ?_ <;> intro G
     ·try (simp at G; done)
      all_goals
       have i6 : (Z0 a0.Zk (nth a0.ZD U).Key).toNat < a0.Zk.length := by have := Xk a0.Zk (nth a0.ZD U).Key; exact il
       simp [i6, ZE, G]
       refine rpG ?_
       refine cGg (fun gg => (jR a0.Methods (nth a0.Zk (Z0 a0.Zk (nth a0.ZD U).Key).toNat).Method)) ?_
       refine cKf e1 ?_ ?_ <;> intro fV h8 e1
       ·try (simp [G] at h8; done)
        all_goals
         simp [i1, ZE, G]
         refine rpG ?_
         exact nx2 e1 (hw := XI [((3, 0), some (71, 0))] [] rfl (by simp [w1, G]))
       ·try (simp [G] at h8; done)
        all_goals
         exact ny2 (an w1 G) e1
     ·try (simp at G; done)
      all_goals
       refine sGo ?_
       simp [G]
       refine rpG ?_
       refine cKf e1 ?_ ?_ <;> intro cL h9 e1
       ·try (simp [G] at h9; done)
        all_goals
         simp [i1, ZE, G]
         refine rpG ?_
         exact nx2 e1 (hw := XI [((3, 0), some (71, 0))] [] rfl (by simp [w1, G]))
       ·try (simp [G] at h9; done)
        all_goals
         exact ny2 (an w1 G) e1
 have c2 := sl 2334720 a0.ZD u0
 have f := ms f e1
 exact rtD [.tmp 2] f
theorem K8 (a0 : List Zr) (a1 : Int) : Sa 189 [rL 3 Zr.row a0, rI a1] [rI (Zg a0 a1)] := by
 have f := me (Zg.eq_1 a0 a1)
 refine so func189 ntmps189 ?_
 refine lp1 (Q8.eq_2 a0 a1) (fun J => Yy 20 [eL 0 3 a0 Zr.row, eI 1 a1, eI 5 (J : Int)]) (fun n1 J => a0.length < n1 + J /\ J <= a0.length) (a0.length + 1) 0 (fun p1 J e1 j1 => ?_)
 refine cFf e1 ?_ ?_ <;> intro k2 h1 e1
 ·have i1 := ix h1
  have m2 := ml a0 (k2 0 _ rfl)
  have w1 := wr J
  simp [i1, ZE]
  refine rpS ?_
  refine cF e1 ?_ ?_ <;> intro k3 h2 e1
  ·have f := ms f e1
   exact rt [.tmp 4] f
  exact ny1 w1 e1
 have f := ms f e1
 exact rt [.tmp 4] f
theorem GL (a0 : ZH) (a1 : List Int) : Sa 187 [a0.row, rL 1 iR a1] [rB (J4 a0 a1)] := by
 have f := me (J4.eq_1 a0 a1)
 refine so func187 ntmps187 ?_
 refine lp1 (zp.eq_2 a0 a1) (fun J => Yy 76 [eL 1 1 a1 iR, eX 2 (a0.row.map .d), eI 5 (J : Int)]) (fun n1 J => a1.length < n1 + J /\ J <= a1.length) (a1.length + 1) 0 (fun p1 J e1 j1 => ?_)
 refine cF e1 ?_ ?_ <;> intro k2 h1 e1
 ·have i1 := ix h1
  have m2 := ml a1 (k2 1 _ rfl)
  have w1 := wr J
  refine dIo mixed ?_
  simp [i1, ZE]
  refine rpS ?_
  refine cRs (K8 a0.Frame.ZD (nth a1 J)) ?_
  refine dIs mixed ?_
  refine gIf ?_ ?_ <;> intro G
  ·have i2 := ik (J - 1) a1
   have w2 : IntKind.i64.wrap ((J : Int) - 1) = (J : Int) - 1 := Yg (by omega) (by omega)
   simp [i2, ZE, w2, KM, G]
   refine rpG ?_
   refine gK (fun _ => ?_)
   simp [i1, ZE, G]
   refine rpG ?_
   refine cK e1 ?_ ?_ <;> intro k5 h2 e1
   ·have f := ms f e1
    exact rtg [.tmp 4] f
   ·refine dIo mixed ?_
    have i3 : (Zg a0.Frame.ZD (nth a1 J)).toNat < a0.Frame.ZD.length := by have := QE a0.Frame.ZD (nth a1 J); exact il
    simp [i3, ZE, G]
    refine rpG ?_
    refine cRg (QW a0.Frame.Zk (nth a0.Frame.ZD (Zg a0.Frame.ZD (nth a1 J)).toNat).Key) ?_
    refine dIg mixed ?_
    refine gJf G ?_ ?_ <;> intro G
    ·try (simp at G; done)
     all_goals
      have i4 : (Z0 a0.Frame.Zk (nth a0.Frame.ZD (Zg a0.Frame.ZD (nth a1 J)).toNat).Key).toNat < a0.Frame.Zk.length := by have := Xk a0.Frame.Zk (nth a0.Frame.ZD (Zg a0.Frame.ZD (nth a1 J)).toNat).Key; exact il
      simp [i4, ZE, G]
      refine rpG ?_
      refine cK e1 ?_ ?_ <;> intro k8 h3 e1
      ·have f := ms f e1
       exact rtg [.tmp 4] f
      ·exact ny1 (an w1 (an w2 G)) e1
    ·try (simp at G; done)
     all_goals
      refine cK e1 ?_ ?_ <;> intro k9 h4 e1
      ·have f := ms f e1
       exact rtg [.tmp 4] f
      ·simp [G] at h4
  ·refine sGg ?_
   refine cK e1 ?_ ?_ <;> intro np h5 e1
   ·have f := ms f e1
    exact rtg [.tmp 4] f
   ·refine dIo mixed ?_
    have i7 : (Zg a0.Frame.ZD (nth a1 J)).toNat < a0.Frame.ZD.length := by have := QE a0.Frame.ZD (nth a1 J); exact il
    simp [i7, ZE, G]
    refine rpG ?_
    refine cRg (QW a0.Frame.Zk (nth a0.Frame.ZD (Zg a0.Frame.ZD (nth a1 J)).toNat).Key) ?_
    refine dIg mixed ?_
    refine gJf G ?_ ?_ <;> intro G
    ·try (simp at G; done)
     all_goals
      have i8 : (Z0 a0.Frame.Zk (nth a0.Frame.ZD (Zg a0.Frame.ZD (nth a1 J)).toNat).Key).toNat < a0.Frame.Zk.length := by have := Xk a0.Frame.Zk (nth a0.Frame.ZD (Zg a0.Frame.ZD (nth a1 J)).toNat).Key; exact il
      simp [i8, ZE, G]
      refine rpG ?_
      refine cK e1 ?_ ?_ <;> intro mG h6 e1
      ·have f := ms f e1
       exact rtg [.tmp 4] f
      ·exact ny1 (an w1 G) e1
    ·try (simp at G; done)
     all_goals
      refine cK e1 ?_ ?_ <;> intro fW h7 e1
      ·have f := ms f e1
       exact rtg [.tmp 4] f
      ·simp [G] at h7
 have f := ms f e1
 exact rt [.tmp 4] f
theorem OA (a0 : Zi) (a1 : Zd) (u0 : Sm 2318336 a0) (u1 : Sm 2318336 a1) : Sd 271 [a0.row, a1.row] [rL 1 iR (JM a0 a1)] := by
 have f := me (JM.eq_1 a0 a1)
 refine soD func271 ntmps271 ?_
 refine lp2 (Kv.eq_2 a0 a1) (fun J U => Yy 27 [eX 2 (a0.row.map .d), eX 3 (a1.row.map .d), (5, .one (.sref 5 0 0 J.length), [.arr false 1 (J.map iR)]), eI 6 (U : Int)]) (fun n1 J U => a0.Zj.length < n1 + U /\ U <= a0.Zj.length /\ J.length <= 0 + 1 * U) (a0.Zj.length + 1) ([] : List Int) 0 (fun p1 J U e1 j1 => ?_) (h0 := wkS [((5, 0), some (7, 0))] [])
 refine cF e1 ?_ ?_ <;> intro k2 h1 e1
 ·have i1 := ix h1
  have m2 := ml a0.Zj (k2 10 _ rfl)
  have c1 := sl 2318336 a0.Zj (an u0 u1)
  have w1 := wr U
  refine dIo mixed ?_
  simp [i1, ZE]
  refine rpS ?_
  refine cRs (Uh (nth a0.Zj U).Method a1 (sg u1)) ?_
  exact nx2 e1 (hw := XI [((5, 0), some (25, 0))] [] rfl (by simp [w1]))
 have c2 := sl 2318336 a0.Zj (an u0 u1)
 have f := ms f e1
 exact rtD [.tmp 4] f
theorem UR (a0 : Zo) : Sd 263 [a0.row] [rL 1 iR (JU a0)] := by
 have f := me (JU.eq_1 a0)
 refine soD func263 ntmps263 ?_
 exact rtD [.tmp 2] f
theorem Tn (a0 : Int) (a1 : Zc) (u0 : Sm 2326528 a1) : Sa 311 [rI a0, a1.row] [rI (Ju a0 a1)] := by
 have f := me (Ju.eq_1 a0 a1)
 refine so func311 ntmps311 ?_
 refine lp2 (Q7.eq_2 a1) (fun J U => Yy 75 [eI 0 a0, eX 3 (a1.row.map .d), (5, .one (.sref 5 0 0 J.length), [.arr false 1 (J.map iR)]), eI 6 (U : Int)]) (fun n1 J U => a1.Path.length < n1 + U /\ U <= a1.Path.length /\ J.length <= 4 + 2 * U) (a1.Path.length + 1) ([4, a1.Count, a1.Method, a1.GB] : List Int) 0 (fun p1 J U e1 j1 => ?_) (h0 := wkS [((5, 0), some (14, 0))] [])
 refine cFo e1 ?_ ?_ <;> intro k2 h1 e1
 ·have q1 := h1; try simp at q1
  have i1 := ix h1
  have m2 := ml a1.Path (k2 17 _ rfl)
  have c1 := sl 2326528 a1.Path u0
  have w1 := wr U
  simp [i1, ZE]
  refine rpS ?_
  refine cFo e1 ?_ ?_ <;> intro k3 h2 e1
  ·have q2 := h2; try simp at q2
   simp
   refine rpS ?_
   exact nx2 e1 (hw := XI [((5, 0), some (39, 0))] [] rfl (by simp [w1]))
  have q2 := h2; try simp at q2
  simp
  refine rpS ?_
  exact nx2 e1 (hw := XI [((5, 0), some (42, 0))] [] rfl (by simp [w1]))
 have q1 := h1; try simp at q1
 have c2 := sl 2326528 a1.Path u0
 have f := ms f e1
 simp
 refine rpS ?_
 refine lp2 (J9.eq_2 a1) (fun uE uR => Yy 75 [eI 0 a0, eX 3 (a1.row.map .d), (5, .one (.sref 5 0 0 uE.length), [.arr false 1 (uE.map iR)]), eI 7 (uR : Int)]) (fun n2 uE uR => a1.Xe.length < n2 + uR /\ uR <= a1.Xe.length /\ uE.length <= 5 + 2 * 2326528 + 6 * uR) (a1.Xe.length + 1) (J ++ ([(a1.Xe.length : Int)] : List Int)) 0 (fun p2 uE uR e2 j2 => ?_) (hI := by (have o : a1.Path.length <= 2326528 := XZ (xs u0); simp at *; omega)) (h0 := wkS [((5, 0), some (48, 0))] [])
 try dsimp only at j2
 refine cFo e2 ?_ ?_ <;> intro k5 h3 e2
 ·have q3 := h3; try simp at q3
  have i2 := ix h3
  have m4 := ml a1.Xe (k5 51 _ rfl)
  have c3 := sl 2326528 a1.Xe u0
  have w2 := wr uR
  simp
  refine dIo mixed ?_
  simp [i2, ZE]
  refine rpS ?_
  refine cRf i2 (YP.rd (UR (nth a1.Xe uR))) ?_
  exact nx2 e2 (hI := by (simp; omega)) (hw := XI [((5, 0), some (71, 0))] [] rfl (by simp [w2]))
 have q3 := h3; try simp at q3
 have c4 := sl 2326528 a1.Xe u0
 have f := ms f e2
 simp
 refine cRs (KR a0 uE (by first | (simp (maxDischargeDepth := 12) [XO]; omega) | (simp (maxDischargeDepth := 12) [Zb (m := 68719476736) (by decide) u0]; done))) ?_
 exact rt [.tmp 4] f
theorem Sc (a0 : Int) (a1 : List Zf) (u0 : Sm 2326528 a1) : Sa 334 [rI a0, rL 3 Zf.row a1] [rI (Kf a0 a1)] := by
 have f := me (Kf.eq_1 a0 a1)
 refine so func334 ntmps334 ?_
 refine lp2 (Kk.eq_2 a0 a1) (fun J U => Yy 39 [eI 0 a0, eL 1 3 a1 Zf.row, (5, .one (.sref 5 0 0 J.length), [.arr false 1 (J.map iR)]), eI 6 (U : Int)]) (fun n1 J U => a1.length < n1 + U /\ U <= a1.length /\ J.length <= 1 + 1 * U) (a1.length + 1) ([2] : List Int) 0 (fun p1 J U e1 j1 => ?_) (h0 := wkS [((5, 0), some (7, 0))] [])
 refine cF e1 ?_ ?_ <;> intro k2 h1 e1
 ·have i1 := ix h1
  have m2 := ml a1 (k2 1 _ rfl)
  have c1 := sl 2326528 a1 u0
  have w1 := wr U
  refine MP [2, 3, 4, 5, 6, 7, 8, 9, 10, 11, 12, 13, 14, 15, 16, 17, 18, 0, 1, 19, 20, 21, 22] mixed (by kernel_rfl) (by kernel_rfl) (by kernel_rfl) ?_
  have c2 := sl 2326528 (nth a1 U).Y0 u0
  simp [i1, ZE]
  refine rpS ?_
  refine cRs (KR a0 (([(nth a1 U).Key, (nth a1 U).Mark] : List Int) ++ (nth a1 U).Y0) (by simp (maxDischargeDepth := 12) [Jz, XO, Zb (m := 68719476736) (by decide) u0]; try omega)) ?_
  exact nx2 e1 (hw := XI [((5, 0), some (35, 0))] [] rfl (by simp [w1]))
 have c3 := sl 2326528 a1 u0
 have f := ms f e1
 refine cRs (KR a0 J (by first | (simp (maxDischargeDepth := 12) [XO]; omega) | (simp (maxDischargeDepth := 12) [Zb (m := 68719476736) (by decide) u0]; done))) ?_
 exact rt [.tmp 4] f
theorem Pf (a0 : Int) (a1 : Int) (a2 : List Zf) (a3 : Int) (u0 : Sm 2322432 a2) : Sa 312 [rI a0, rI a1, rL 3 Zf.row a2, rI a3] [rI (Wj a0 a1 a2 a3)] := by
 have f := me (Wj.eq_1 a0 a1 a2 a3)
 refine so func312 ntmps312 ?_
 refine cRs (Sc a0 a2 (sg u0)) ?_
 refine cRs (KR a0 ([3, a1, (Kf a0 a2), a3] : List Int) (by simp (maxDischargeDepth := 12) [Jz, XO, Zb (m := 68719476736) (by decide) u0]; try omega)) ?_
 exact rt [.tmp 8] f
theorem X6 {a b : Prop} (h : b) (k : a := by (intros; first | omega | with_unfolding_all (first | first | omega | (have cc : a0.Zj.length <= 2318336 := XZ (xs u0); have z0 := sv; simp at z0; have z := j8 (by omega) z0.1; have z2 := z0.2; (try have w3 : IntKind.i64.wrap (a2 - 1) = a2 - 1 := Yg (by omega) (by omega)); (try have w4 : W (a2 - 1) = a2 - 1 := w3); first | omega | (refine ⟨⟨z0.1, by omega⟩, by omega, by omega⟩) | (simp_all; omega))) | (simp_all; done) | (simp_all; omega) | grind | ((try simp only [Xc, show ∀ x, IntKind.i64.wrap x = W x from fun _ => rfl] at *); omega))) : a /\ b := ⟨k, h⟩
theorem H2 (a0 : Zi) (a1 : List Int) (a2 : Int) (u0 : Sm 2318336 a0) (u1 : Sm 2318336 a1) : Sa 270 [a0.row, rL 1 iR a1, rI a2] [rI (UP a0 a1 a2)] := by
 have f := me (UP.eq_1 a0 a1 a2)
 refine so func270 ntmps270 ?_
 refine dIs mixed ?_
 refine cRs (Yj a2 0 (W ((a0.Zj.length : Int) - 1))) ?_
 refine gIo ?_ ?_ <;> intro G
 ·have sv := G
  have c1 := sl 2318336 a0.Zj (an u0 u1)
  have w1 : IntKind.i64.wrap ((a0.Zj.length : Int) - 1) = (a0.Zj.length : Int) - 1 := Yg (by omega) (by omega)
  have g1 := G; try simp [Z8, w1] at g1
  have i1 : a2.toNat < a0.Zj.length := by (have cc : a0.Zj.length <= 2318336 := XZ (xs u0); have z0 := sv; simp at z0; have z := j8 (by omega) z0.1; have z2 := z0.2; (try have w3 : IntKind.i64.wrap (a2 - 1) = a2 - 1 := Yg (by omega) (by omega)); (try have w4 : W (a2 - 1) = a2 - 1 := w3); omega)
  simp [i1, ZE, G]
  repeat with_reducible refine X6 ?_
  refine cGo (fun gg => (Yj (nth a0.Zj a2.toNat).Count 0 (a0.ZO.length : Int))) ?_
  simp [G]
  repeat with_reducible refine X6 ?_
  refine cKo f ?_ ?_ <;> intro k2 h1 f
  ·have q1 := h1; try simp [Z8, w1] at q1
   simp [G]
   repeat with_reducible refine X6 ?_
   exact rtg [.tmp 6] f
  ·have q1 := h1; try simp [Z8, w1] at q1
   simp [i1, ZE, G]
   repeat with_reducible refine X6 ?_
   refine cKo f ?_ ?_ <;> intro k3 h2 f
   ·have q2 := h2; try simp at q2
    have i2 : (W (a2 - 1)).toNat < a0.Zj.length := by (have cc : a0.Zj.length <= 2318336 := XZ (xs u0); have z0 := sv; simp at z0; have z := j8 (by omega) z0.1; have z2 := z0.2; (try have w3 : IntKind.i64.wrap (a2 - 1) = a2 - 1 := Yg (by omega) (by omega)); (try have w4 : W (a2 - 1) = a2 - 1 := w3); omega)
    simp [i2, ZE, G]
    repeat with_reducible refine X6 ?_
    refine cR (Tn (nth a0.Zj a2.toNat).Method (nth a0.Zj (W (a2 - 1)).toNat) (sg (YU (Zi.j0 u0)))) ?_ (uN := by first | (simp; done) | (simp [W, w1]; done))
    simp [G]
    repeat with_reducible refine X6 ?_
    refine dIo mixed ?_
    have i3 : a2.toNat < a1.length := by (have cc : a0.Zj.length <= 2318336 := XZ (xs u0); have z0 := sv; simp at z0; have z := j8 (by omega) z0.1; have z2 := z0.2; (try have w3 : IntKind.i64.wrap (a2 - 1) = a2 - 1 := Yg (by omega) (by omega)); (try have w4 : W (a2 - 1) = a2 - 1 := w3); omega)
    simp [i3, ZE, i1, G]
    repeat with_reducible refine X6 ?_
    refine cR (Pf (nth a0.Zj a2.toNat).Method (nth a1 a2.toNat) (a0.ZO.take (nth a0.Zj a2.toNat).Count.toNat) (Ju (nth a0.Zj a2.toNat).Method (nth a0.Zj (W (a2 - 1)).toNat)) (Zb (n := 2318336) (by decide) (xs (an u0 u1)))) ?_ (uN := by first | (simp; done) | (simp [W, w1]; done))
    simp [G]
    repeat with_reducible refine X6 ?_
    exact rtg [.tmp 6] f
   ·have q2 := h2; try simp at q2
    simp [G]
    repeat with_reducible refine X6 ?_
    refine dIo mixed ?_
    have i4 : a2.toNat < a1.length := by (have cc : a0.Zj.length <= 2318336 := XZ (xs u0); have z0 := sv; simp at z0; have z := j8 (by omega) z0.1; have z2 := z0.2; (try have w3 : IntKind.i64.wrap (a2 - 1) = a2 - 1 := Yg (by omega) (by omega)); (try have w4 : W (a2 - 1) = a2 - 1 := w3); omega)
    simp [i4, ZE, i1, G]
    repeat with_reducible refine X6 ?_
    refine cR (Pf (nth a0.Zj a2.toNat).Method (nth a1 a2.toNat) (a0.ZO.take (nth a0.Zj a2.toNat).Count.toNat) 0 (Zb (n := 2318336) (by decide) (xs (an u0 u1)))) ?_
    simp [G]
    repeat with_reducible refine X6 ?_
    exact rtg [.tmp 6] f
 ·have sv := G
  simp [G]
  repeat with_reducible refine X6 ?_
  refine sGo ?_
  simp [G]
  repeat with_reducible refine X6 ?_
  have c2 := sl 2318336 a0.Zj (an u0 u1)
  have w2 : IntKind.i64.wrap ((a0.Zj.length : Int) - 1) = (a0.Zj.length : Int) - 1 := Yg (by omega) (by omega)
  refine cKo f ?_ ?_ <;> intro k6 h3 f
  ·have q3 := h3; try simp [Z8, w2] at q3
   simp [G]
   repeat with_reducible refine X6 ?_
   exact rtg [.tmp 6] f
  ·simp [G] at h3
theorem UJ (a0 : ZF) (a1 : Int) (u0 : Sm 2314240 a0) : Sd 197 [a0.row, rI a1] [rL 1 iR (Yw a0 a1)] := by
 have f := me (Yw.eq_1 a0 a1)
 refine soD func197 ntmps197 ?_
 refine lp2 (zK.eq_2 a0 a1) (fun J U => Yy 51 [eI 1 a1, eX 2 (a0.row.map .d), (5, .one (.sref 5 0 0 J.length), [.arr false 1 (J.map iR)]), eI 6 (U : Int)]) (fun n1 J U => a0.ZC.length < n1 + U /\ U <= a0.ZC.length /\ J.length <= 0 + 1 * U) (a0.ZC.length + 1) ([] : List Int) 0 (fun p1 J U e1 j1 => ?_) (h0 := wkS [((5, 0), some (8, 0))] [])
 refine cFf e1 ?_ ?_ <;> intro k2 h1 e1
 ·have i1 := ix h1
  have m2 := ml a0.ZC (k2 11 _ rfl)
  have c1 := sl 2314240 a0.ZC u0
  have w1 := wr U
  simp [i1, ZE]
  refine rpS ?_
  refine cOs (YP.own (zO (nth a0.ZC U).ZM (sg (ZZ.JY (YU (ZF.Yn u0)))))) ?_
  refine eIs ?_
  have c2 := sl 2314240 (nth a0.ZC U).ZM.Zj u0
  refine eIs ?_
  refine dIo mixed ?_
  simp [i1, ZE]
  refine rpS ?_
  refine cDs [false] (OA (Zi.mk (nth a0.ZC U).ZM.ZO ((nth a0.ZC U).ZM.Zj ++ ([(Zc.mk ((nth a0.ZC U).ZM.ZO.length : Int) a1 0 ([] : List X4) ([] : List Zo))] : List Zc))) (nth a0.ZC U).Doc (by (first | (exact JS (s := (nth a0.ZC U).ZM) (by decide) (show Sm 2314240 _ by simp (maxDischargeDepth := 12) [u0]) (by simp)) | (refine yp ?_; exact JS (s := (nth a0.ZC U).ZM) (by decide) (show Sm 2314240 _ by simp (maxDischargeDepth := 12) [u0]) (by simp)) | (exact Zb (n := 2314240) (by decide) (xs u0)))) (by (first | (exact JS (s := (nth a0.ZC U).ZM) (by decide) (show Sm 2314240 _ by simp (maxDischargeDepth := 12) [u0]) (by simp)) | (refine yp ?_; exact JS (s := (nth a0.ZC U).ZM) (by decide) (show Sm 2314240 _ by simp (maxDischargeDepth := 12) [u0]) (by simp)) | (exact Zb (n := 2314240) (by decide) (xs u0))))) ?_
  refine cRs (H2 (Zi.mk (nth a0.ZC U).ZM.ZO ((nth a0.ZC U).ZM.Zj ++ ([(Zc.mk ((nth a0.ZC U).ZM.ZO.length : Int) a1 0 ([] : List X4) ([] : List Zo))] : List Zc))) (JM (Zi.mk (nth a0.ZC U).ZM.ZO ((nth a0.ZC U).ZM.Zj ++ ([(Zc.mk ((nth a0.ZC U).ZM.ZO.length : Int) a1 0 ([] : List X4) ([] : List Zo))] : List Zc))) (nth a0.ZC U).Doc) (W ((((nth a0.ZC U).ZM.Zj ++ ([(Zc.mk ((nth a0.ZC U).ZM.ZO.length : Int) a1 0 ([] : List X4) ([] : List Zo))] : List Zc)).length : Int) - 1)) (by (first | (exact JS (s := (nth a0.ZC U).ZM) (by decide) (show Sm 2314240 _ by simp (maxDischargeDepth := 12) [u0]) (by simp)) | (refine yp ?_; exact JS (s := (nth a0.ZC U).ZM) (by decide) (show Sm 2314240 _ by simp (maxDischargeDepth := 12) [u0]) (by simp)) | (exact Zb (n := 2314240) (by decide) (xs u0)))) (by (first | (exact JS (s := (nth a0.ZC U).ZM) (by decide) (show Sm 2314240 _ by simp (maxDischargeDepth := 12) [u0]) (by simp)) | (refine yp ?_; exact JS (s := (nth a0.ZC U).ZM) (by decide) (show Sm 2314240 _ by simp (maxDischargeDepth := 12) [u0]) (by simp)) | (exact Zb (n := 2314240) (by decide) (xs u0))))) ?_ (uN := by first | (simp; done) | (simp [W, w1]; done))
  exact nx2 e1 (hw := XI [((5, 0), some (49, 0))] [] rfl (by simp [w1]))
 have c3 := sl 2314240 a0.ZC u0
 have f := ms f e1
 exact rtD [.tmp 4] f
theorem P7 (a0 : Int) (a1 : Int) (a2 : Int) : Sa 332 [rI a0, rI a1, rI a2] [rI (xV a0 a1 a2)] := by
 have f := me (xV.eq_1 a0 a1 a2)
 refine so func332 ntmps332 ?_
 refine cRs (KR a0 ([1, a1, a2] : List Int) (by simp (maxDischargeDepth := 12) [Jz, XO]; try omega)) ?_
 exact rt [.tmp 6] f
theorem W0 (a0 : Int) (a1 : List Int) (u0 : Sm 2322432 a1) : Sd 307 [rI a0, rL 1 iR a1] [rL 1 iR (qa a0 a1)] := by
 have f := me (qa.eq_1 a0 a1)
 refine soD func307 ntmps307 ?_
 refine lp2 (yQ.eq_2 a0 a1) (fun J U => Yy 41 [eI 0 a0, eL 1 1 a1 iR, (5, .one (.sref 5 0 0 J.length), [.arr false 1 (J.map iR)]), eI 6 (U : Int)]) (fun n1 J U => a1.length < n1 + U /\ U <= a1.length + 1 /\ J.length <= U) (a1.length + 1) ([] : List Int) 0 (fun p1 J U e1 j1 => ?_) (h0 := wkS [((5, 0), some (7, 0))] [])
 try dsimp only at j1
 refine cF e1 ?_ ?_ <;> intro k2 h1 e1
 ·have i1 := ix h1
  have m2 := ml a1 (k2 1 _ rfl)
  have c1 := sl 2322432 a1 u0
  have w1 := wr U
  refine cFt e1 ?_ ?_ <;> intro k3 h2 e1
  ·refine okD fun k4 => ?_
   refine dIo mixed ?_
   have i2 := ik (W ((U : Int) + 1)).toNat a1
   simp [i1, ZE, i2]
   refine rpS ?_
   refine cRs (P7 a0 (nth a1 U) (nth a1 (W ((U : Int) + 1)).toNat)) ?_ (uN := by first | (simp; done) | (simp [W, w1]; done))
   have w2 : IntKind.i64.wrap ((U : Int) + 2) = (U : Int) + 2 := Yg (by omega) (by omega)
   exact nx2 e1 (hI := by first | omega | (simp at *; omega)) (hw := XI [((5, 0), some (32, 0))] [] rfl (by simp [w1, w2]))
  simp [i1, ZE]
  refine rpS ?_
  have w3 : IntKind.i64.wrap ((U : Int) + 2) = (U : Int) + 2 := Yg (by omega) (by omega)
  exact nx2 e1 (hI := by first | omega | (simp at *; omega)) (hw := XI [((5, 0), some (39, 0))] [] rfl (by simp [w1, w3]))
 have c2 := sl 2322432 a1 u0
 have f := ms f e1
 exact rtD [.tmp 4] f
theorem Th (a0 : Int) (a1 : List Int) (u0 : Sm 2318336 a1) : Sa 261 [rI a0, rL 1 iR a1] [rI (Jj a0 a1)] := by
 have f := me (Jj.eq_1 a0 a1)
 refine so func261 ntmps261 ?_
 refine cRs (Yj (a1.length : Int) 1 16) ?_
 refine cFo f ?_ ?_ <;> intro k1 h1 f
 ·have q1 := h1; try simp [Z8] at q1
  simp
  exact rt [.tmp 4] f
 have q1 := h1; try simp [Z8] at q1
 have c1 := sl 2318336 a1 u0
 simp
 refine rpS ?_
 refine lp1 (xP.eq_2 a0) (fun J => Yy 22 [eI 0 a0, (5, .one (.sref 5 0 0 J.length), [.arr false 1 (J.map iR)])]) (fun n1 J => J.length < n1 /\ 1 <= J.length /\ J.length <= 16) (a1.length + 1) a1 (fun p1 J e1 j1 => ?_) (hI := by first | omega | (simp at *; omega)) (h0 := wkS [((5, 0), some (12, 0))] [])
 try dsimp only at j1
 refine cFt e1 ?_ ?_ <;> intro k3 h2 e1
 ·refine cDs [false] (W0 a0 J (by first | (simp (maxDischargeDepth := 12) [XO]; omega) | (simp (maxDischargeDepth := 12) [Zb (m := 2322432) (by decide) u0]; done))) ?_
  exact nx1 e1 (hI := by (have z := kQ a0 J (by omega); (try dsimp only); simp at *; omega)) (hw := wkS [((5, 0), some (18, 0))] [])
 have f := ms f e1
 have i1 := ik 0 J
 simp [i1, ZE]
 refine rpS ?_
 exact rt [.tmp 4] f
theorem Is (a0 : ZF) (a1 : Int) (u0 : Sm 2310144 a0) : Sa 188 [a0.row, rI a1] [rI (Kq a0 a1)] := by
 have f := me (Kq.eq_1 a0 a1)
 refine so func188 ntmps188 ?_
 refine cRs (YP.rd (UJ a0 a1 (sg u0))) ?_
 refine cRs (Th a1 (Yw a0 a1) (by simp (maxDischargeDepth := 12) [xq, Zb (m := 2318336) (by decide) u0]; try omega)) ?_
 exact rt [.tmp 4] f
theorem FU (a0 : List Int) (a1 : Int) : Sa 190 [rL 1 iR a0, rI a1] [rB (On a0 a1)] := by
 have f := me (On.eq_1 a0 a1)
 refine so func190 ntmps190 ?_
 refine lp1 (Uq.eq_2 a0 a1) (fun J => Yy 18 [eL 0 1 a0 iR, eI 1 a1, eI 5 (J : Int)]) (fun n1 J => a0.length < n1 + J /\ J <= a0.length) (a0.length + 1) 0 (fun p1 J e1 j1 => ?_)
 refine cFf e1 ?_ ?_ <;> intro k2 h1 e1
 ·have i1 := ix h1
  have m2 := ml a0 (k2 0 _ rfl)
  have w1 := wr J
  simp [i1, ZE]
  refine rpS ?_
  refine cF e1 ?_ ?_ <;> intro k3 h2 e1
  ·have f := ms f e1
   exact rt [.tmp 4] f
  exact ny1 w1 e1
 have f := ms f e1
 exact rt [.tmp 4] f
theorem VX (a0 : List Y4) (a1 : List Zr) (a2 : Zo) (u0 : Sm 2322432 a0) (u1 : Sm 2322432 a1) : Sa 191 [rL 5 Y4.row a0, rL 3 Zr.row a1, a2.row] [(KB a0 a1 a2).1.row, rB (KB a0 a1 a2).2] := by
 have f := me (KB.eq_1 a0 a1 a2)
 refine so func191 ntmps191 ?_
 refine cRs (K8 a1 a2.Authority) ?_
 refine cGs (fun gg => (qu a2.Time)) ?_
 refine cFt f ?_ ?_ <;> intro k1 h1 f
 ·exact rt [.cell 6 125, .tmp 7] f
 have i1 : (Zg a1 a2.Authority).toNat < a1.length := by have := QE a1 a2.Authority; exact il
 simp [i1, ZE]
 refine rpS ?_
 refine cRs (QW a0 (nth a1 (Zg a1 a2.Authority).toNat).Key) ?_
 refine cF f ?_ ?_ <;> intro k2 h2 f
 ·exact rt [.cell 6 125, .tmp 7] f
 refine dIo mixed ?_
 have i2 : (Z0 a0 (nth a1 (Zg a1 a2.Authority).toNat).Key).toNat < a0.length := by have := Xk a0 (nth a1 (Zg a1 a2.Authority).toNat).Key; exact il
 simp [i2, ZE]
 refine rpS ?_
 refine cRs (YP.rd (UR a2)) ?_
 refine cRs (qW (nth a0 (Z0 a0 (nth a1 (Zg a1 a2.Authority).toNat).Key).toNat) (JU a2) (by simp (maxDischargeDepth := 12) [N4, Zb (m := 2326528) (by decide) u0, Zb (m := 2326528) (by decide) u1]; try omega)) ?_
 exact rt [.cell 6 125, .tmp 7] f
theorem WB {a b : Prop} (h : b) (k : a := by (intros; first | omega | with_unfolding_all (first | first | omega | (have tm := Int.tmod_eq_emod_of_nonneg (b := 2) (show 0 <= J by omega); (try simp only [Xc, show ∀ x, IntKind.i64.wrap x = W x from fun _ => rfl] at *); (try simp at *); omega)) | ((try simp only [Xc, show ∀ x, IntKind.i64.wrap x = W x from fun _ => rfl] at *); omega))) : a /\ b := ⟨k, h⟩
theorem Mx (a0 : Int) (a1 : List Int) (a2 : Int) (u0 : Sm 2318336 a1) : Sd 264 [rI a0, rL 1 iR a1, rI a2] [rL 2 X4.row (Jk a0 a1 a2)] := by
 have f := me (Jk.eq_1 a0 a1 a2)
 refine soD func264 ntmps264 ?_
 refine cGs (fun gg => (Yj a2 0 (W ((a1.length : Int) - 1)))) ?_
 have c1 := sl 2318336 a1 u0
 have w1 : IntKind.i64.wrap ((a1.length : Int) - 1) = (a1.length : Int) - 1 := Yg (by omega) (by omega)
 refine cFo f ?_ ?_ <;> intro k1 h1 f
 ·have q1 := h1; try simp [Z8, w1] at q1
  simp
  exact rtD [.tmp 6] f
 have q1 := h1; try simp [Z8, w1] at q1
 simp
 repeat with_reducible refine WB ?_
 refine lp3 (JO.eq_2 a0) (fun J U v9 => Yy 60 [eI 0 a0, eI 2 J, (7, .one (.sref 7 0 0 U.length), [.arr false 2 (U.map X4.row)]), (8, .one (.sref 8 0 0 v9.length), [.arr false 1 (v9.map iR)])]) (fun n1 J U v9 => v9.length < n1 /\ 0 <= J /\ J < (v9.length : Int) /\ v9.length <= 16 /\ U.length + n1 <= 17) (a1.length + 1) a2 ([] : List X4) a1 (fun p1 J U v9 e1 j1 => ?_) (hI := by first | omega | (simp at *; omega)) (h0 := wkS [((7, 0), some (9, 0)), ((8, 0), some (24, 0))] [])
 try dsimp only at j1
 refine cF e1 ?_ ?_ <;> intro k3 h2 e1
 ·refine cFf e1 ?_ ?_ <;> intro k4 h3 e1
  ·have i1 : (W (J - 1)).toNat < v9.length := by first | omega | (have tm := Int.tmod_eq_emod_of_nonneg (b := 2) (show 0 <= J by omega); (try simp only [Xc, show ∀ x, IntKind.i64.wrap x = W x from fun _ => rfl] at *); (try simp at *); omega)
   simp [i1, ZE]
   repeat with_reducible refine WB ?_
   refine cDs [false] (W0 a0 v9 (by first | (simp (maxDischargeDepth := 12) [XO]; omega) | (simp (maxDischargeDepth := 12) [Zb (m := 2322432) (by decide) u0]; done))) ?_
   exact nx3 e1 (hI := by (have z := kQ a0 v9 (by omega); have td := Int.tdiv_eq_ediv_of_nonneg (b := 2) (show 0 <= J by omega); have w2 : W (Int.tdiv J 2) = Int.tdiv J 2 := Yg (by omega) (by omega); (try dsimp only); rw [w2]; simp at *; omega)) (hw := XI [((7, 0), some (39, 0)), ((8, 0), some (56, 0))] [] rfl (by simp [w1]))
  refine cFo e1 ?_ ?_ <;> intro k5 h4 e1
  ·have q4 := h4; try simp [w1] at q4
   have i2 : (W (J + 1)).toNat < v9.length := by first | omega | (have tm := Int.tmod_eq_emod_of_nonneg (b := 2) (show 0 <= J by omega); (try simp only [Xc, show ∀ x, IntKind.i64.wrap x = W x from fun _ => rfl] at *); (try simp at *); omega)
   simp [i2, ZE]
   repeat with_reducible refine WB ?_
   refine cDs [false] (W0 a0 v9 (by first | (simp (maxDischargeDepth := 12) [XO]; omega) | (simp (maxDischargeDepth := 12) [Zb (m := 2322432) (by decide) u0]; done))) ?_
   exact nx3 e1 (hI := by (have z := kQ a0 v9 (by omega); have td := Int.tdiv_eq_ediv_of_nonneg (b := 2) (show 0 <= J by omega); have w2 : W (Int.tdiv J 2) = Int.tdiv J 2 := Yg (by omega) (by omega); (try dsimp only); rw [w2]; simp at *; omega)) (hw := XI [((7, 0), some (53, 0)), ((8, 0), some (56, 0))] [] rfl (by simp [w1]))
  have q4 := h4; try simp [w1] at q4
  simp
  refine cDs [false] (W0 a0 v9 (by first | (simp (maxDischargeDepth := 12) [XO]; omega) | (simp (maxDischargeDepth := 12) [Zb (m := 2322432) (by decide) u0]; done))) ?_
  exact nx3 e1 (hI := by (have z := kQ a0 v9 (by omega); have td := Int.tdiv_eq_ediv_of_nonneg (b := 2) (show 0 <= J by omega); have w2 : W (Int.tdiv J 2) = Int.tdiv J 2 := Yg (by omega) (by omega); (try dsimp only); rw [w2]; simp at *; omega)) (hw := XI [((8, 0), some (56, 0))] [] rfl (by simp [w1]))
 have f := ms f e1
 exact rtD [.tmp 6] f
theorem OZ (a0 : Zi) (a1 : Zc) (u0 : Sm 2326528 a0) (u1 : Sm 2326528 a1) : Sd 198 [a0.row, a1.row] [(QY a0 a1).1.row, rB (QY a0 a1).2] := by
 have f := me (QY.eq_1 a0 a1)
 refine soD func198 ntmps198 ?_
 refine cDs [] (zO a0 (sg u0)) ?_
 refine drJ [14] mixed ?_
 simp
 refine cDs [true, true, true, false, false] (TP a1 (sg u1)) ?_
 refine jG ?_
 have c1 := sl 2326528 a0.Zj (an u0 u1)
 simp
 refine kC (uC := (a0.Zj.map Zc.row)) (news := (([a1] : List Zc).map Zc.row)) (l1 := [(8, 1)]) (l2 := [(12, 3), (12, 4)]) (size := 5) ?_
 simp
 refine cRs (ks (Zi.mk a0.ZO (a0.Zj ++ ([a1] : List Zc)))) ?_
 refine cF f ?_ ?_ <;> intro k2 h1 f
 ·refine cDs [] (zO a0 (sg u0)) ?_
  exact rtD [.cell 4 80, .tmp 5] f
 exact rtD [.cell 4 80, .tmp 5] f
theorem R6 (a0 : ZF) (a1 : Int) (a2 : List Zo) (u0 : Sm 2310144 a0) (u1 : Sm 2310144 a2) : Sd 192 [a0.row, rI a1, rL 5 Zo.row a2] [(XV a0 a1 a2).1.row, rB (XV a0 a1 a2).2] := by
 have f := me (XV.eq_1 a0 a1 a2)
 refine soD func192 ntmps192 ?_
 refine cDs [] (KU a0 (sg u0)) ?_
 refine cRs (YP.rd (UJ a0 a1 (sg u0))) ?_
 refine cRs (Th a1 (Yw a0 a1) (by simp (maxDischargeDepth := 12) [xq, Zb (m := 2318336) (by decide) u0, Zb (m := 2318336) (by decide) u1]; try omega)) ?_
 refine cRs (zw a0) ?_
 refine lp3 (XM.eq_2 a0 a1 a2) (fun J U v9 => Yy 84 [eI 1 a1, eL 2 5 a2 Zo.row, eX 3 (a0.row.map .d), (6, .one (.bptr 6 0), [.box [.d (.int .i64 0), .nil 16]]), (8, .one (.bptr 8 0), [.box [.d (.int .i64 a0.Id), .sref 16 1 0 v9.length]]), eL 9 1 (Yw a0 a1) iR, eI 10 (Jj a1 (Yw a0 a1)), eB 11 J, eI 12 (U : Int), (16, .any, [.none, .arr true 16 (v9.map ZZ.row)])]) (fun n1 J U v9 => a0.ZC.length < n1 + U /\ U <= a0.ZC.length /\ v9.length = a0.ZC.length) (a0.ZC.length + 1) ((Xm a0) && (decide ((a0.ZC.length : Int) > 0))) 0 a0.ZC (fun p1 J U v9 e1 j1 => ?_)
 refine cF e1 ?_ ?_ <;> intro k2 h1 e1
 ·have i1 : U < a0.ZC.length := by (simp at h1; omega)
  have m2 := ml a0.ZC (k2 33 _ rfl)
  have c1 := sl 2310144 a0.ZC (an u0 u1)
  have w1 := wr U
  refine dIo mixed ?_
  simp [i1, ZE]
  refine rpS ?_
  refine cRs (YP.rd (Mx a1 (Yw a0 a1) (U : Int) (by simp (maxDischargeDepth := 12) [xq, Zb (m := 2318336) (by decide) u0, Zb (m := 2318336) (by decide) u1]; try omega))) ?_
  have i2 := ik U v9
  refine cDf i2 [] (OZ (nth a0.ZC U).ZM (Zc.mk ((nth a0.ZC U).ZM.ZO.length : Int) a1 (Jj a1 (Yw a0 a1)) (Jk a1 (Yw a0 a1) (U : Int)) a2) (sg (ZZ.JY (YU (ZF.Yn u0)))) (by simp (maxDischargeDepth := 12) [TR, xq, Zb (m := 2326528) (by decide) u0, Zb (m := 2326528) (by decide) u1]; try omega)) ?_
  refine C5 (t := 16) (j := 1) (i := U) (c := 14) (size := 16) (rows := (v9.map ZZ.row)) (ds := (QY (nth a0.ZC U).ZM (Zc.mk ((nth a0.ZC U).ZM.ZO.length : Int) a1 (Jj a1 (Yw a0 a1)) (Jk a1 (Yw a0 a1) (U : Int)) a2)).1.row) (L := [(64, 0), (64, 1)]) rfl rfl rfl rfl (by simp) (by simp) (by simp; try omega) (by simp) (by simp) (by simp) (by simp) (by simp) (by simp) ?_
  simp [XW (x := (ZZ.mk (nth v9 U).Id (nth v9 U).Y9 (nth v9 U).Doc (nth v9 U).Sig (QY (nth a0.ZC U).ZM (Zc.mk ((nth a0.ZC U).ZM.ZO.length : Int) a1 (Jj a1 (Yw a0 a1)) (Jk a1 (Yw a0 a1) (U : Int)) a2)).1)) rfl, i2, ZE, YZ]
  refine rpS ?_
  exact ny3 w1 e1
 have c2 := sl 2310144 a0.ZC (an u0 u1)
 have f := ms f e1
 refine cGs (fun gg => (zw (ZF.mk a0.Id v9))) ?_
 refine cF f ?_ ?_ <;> intro k4 h2 f
 ·refine cDs [] (KU a0 (sg u0)) ?_
  exact rtD [.cell 6 85, .tmp 7] f
 exact rtD [.cell 6 85, .tmp 7] f
theorem Xd {a b : Prop} (h : b) (k : a := by (intros; first | omega | with_unfolding_all (first | first | omega | (have z := Qf (a0 := a0) (a1 := a2) (j := U) (by have z1 := h1; simp at z1; simp [z1]) (by omega); omega) | (have z := Qf (a0 := a0) (a1 := a2) (j := uE) (by have z1 := h1; simp at z1; simp [z1]) (by omega); omega)) | ((try simp only [Xc, show ∀ x, IntKind.i64.wrap x = W x from fun _ => rfl] at *); omega))) : a /\ b := ⟨k, h⟩
theorem NC (a0 : ZH) (a1 : Int) (a2 : List Int) (a3 : Int) (u0 : Sm 2306048 a0) (u1 : Sm 2306048 a2) : Sd 106 [a0.row, rI a1, rL 1 iR a2, rI a3] [(Yu a0 a1 a2 a3).1.row, rB (Yu a0 a1 a2 a3).2] := by
 have f := me (Yu.eq_1 a0 a1 a2 a3)
 refine soD func106 ntmps106 ?_
 refine cDs [false, false, false, true, true, false, false, true, false, false, true, false] (yY a0 (sg u0)) ?_
 refine cRs (VU a0.Frame.Methods a0.Frame.Now) ?_
 refine cRs (Pb a0 a1) ?_
 refine cGs (fun gg => (GL a0 a2)) ?_
 refine cGs (fun gg => (Yj a3 (-10000) 10000)) ?_
 have c1 := sl 2306048 a0.ZA (an u0 u1)
 have w1 : IntKind.i64.wrap ((a0.ZA.length : Int) - 1) = (a0.ZA.length : Int) - 1 := Yg (by omega) (by omega)
 refine cFo f ?_ ?_ <;> intro k1 h1 f
 ·have q1 := h1; try simp [Z8, w1, Kt] at q1
  simp
  exact rtD [.cell 8 33, .tmp 9] f
 have q1 := h1; try simp [Z8, w1, Kt] at q1
 have i1 : a1.toNat < a0.ZA.length := by first | omega | (have z := Qf (a0 := a0) (a1 := a2) (j := U) (by have z1 := h1; simp at z1; simp [z1]) (by omega); omega) | (have z := Qf (a0 := a0) (a1 := a2) (j := uE) (by have z1 := h1; simp at z1; simp [z1]) (by omega); omega)
 simp [i1, ZE]
 repeat with_reducible refine Xd ?_
 refine cRs (Is (nth a0.ZA a1.toNat) (Z4 a0.Frame.Methods a0.Frame.Now) (sg (YU (ZH.YX u0)))) ?_
 refine lp2 (Xs.eq_2 a0 a1 a2 a3) (fun J U => Yy 162 [eI 1 a1, eL 2 1 a2 iR, eI 3 a3, eX 4 (a0.row.map .d), (8, .one (.bptr 8 0), [.box [.nil 5, .nil 3, .nil 4, .d (.int .i64 0), .d (.int .i64 0), .nil 7, .nil 1, .nil 2, .nil 1, .nil 1, .d (.int .i64 0), .nil 1]]), (10, .one (.bptr 10 0), [.box [.sref 24 0 0 a0.Frame.Zk.length, .sref 24 1 0 a0.Frame.ZD.length, .sref 24 2 0 a0.Frame.Methods.length, .d (.int .i64 a0.Frame.Ky), .d (.int .i64 a0.Frame.Now), .sref 24 5 0 a0.ZR.length, .sref 24 6 0 a0.Zu.length, .sref 24 7 0 a0.ZA.length, .sref 24 8 0 a0.YG.length, .sref 24 9 0 a0.YW.length, .d (.int .i64 a0.Next), .sref 24 11 0 a0.Yk.length]]), eI 11 (Z4 a0.Frame.Methods a0.Frame.Now), eI 12 (Kq (nth a0.ZA a1.toNat) (Z4 a0.Frame.Methods a0.Frame.Now)), (13, .one (.sref 13 0 0 J.length), [.arr false 5 (J.map Zo.row)]), eI 14 (U : Int), (24, .any, [.arr false 5 (a0.Frame.Zk.map Y4.row), .arr false 3 (a0.Frame.ZD.map Zr.row), .arr false 4 (a0.Frame.Methods.map YH.row), .none, .none, .arr false 7 (a0.ZR.map Ye.row), .arr false 1 (a0.Zu.map iR), .arr true 2 (a0.ZA.map ZF.row), .arr false 1 (a0.YG.map iR), .arr false 1 (a0.YW.map iR), .none, .arr false 1 (a0.Yk.map iR)])]) (fun n1 J U => a2.length < n1 + U /\ U <= a2.length /\ J.length <= 0 + 1 * U) (a2.length + 1) ([] : List Zo) 0 (fun p1 J U e1 j1 => ?_) (h0 := wkS [((13, 0), some (59, 0))] [])
 try dsimp only at j1
 refine cFt e1 ?_ ?_ <;> intro k3 h2 e1
 ·have i2 := ix h2
  have m2 := ml a2 (k3 2 _ rfl)
  have c2 := sl 2306048 a2 (an u0 u1)
  have w2 := wr U
  refine dIo mixed ?_
  simp [i2, ZE]
  repeat with_reducible refine Xd ?_
  refine cRs (K8 a0.Frame.ZD (nth a2 U)) ?_
  refine dIo mixed ?_
  simp [i2, ZE]
  repeat with_reducible refine Xd ?_
  refine cRs (FU a0.YW (nth a2 U)) ?_
  refine cF e1 ?_ ?_ <;> intro k6 h3 e1
  ·refine cRs (N7 0 (W (a0.Frame.Now + a3))) ?_ (uN := by first | (simp; done) | (simp [W, w1, w2]; done))
   refine cRs (GW 10000 (zG 0 (W (a0.Frame.Now + a3)))) ?_ (uN := by first | (simp; done) | (simp [W, w1, w2]; done))
   refine dIo mixed ?_
   have i3 : (Zg a0.Frame.ZD (nth a2 U)).toNat < a0.YG.length := by have := QE a0.Frame.ZD (nth a2 U); first | omega | (have z := Qf (a0 := a0) (a1 := a2) (j := U) (by have z1 := h1; simp at z1; simp [z1]) (by omega); omega) | (have z := Qf (a0 := a0) (a1 := a2) (j := uE) (by have z1 := h1; simp at z1; simp [z1]) (by omega); omega)
   simp [i2, ZE, i3]
   repeat with_reducible refine Xd ?_
   refine cRs (VX a0.Frame.Zk a0.Frame.ZD (Zo.mk (nth a2 U) (nth a0.YG (Zg a0.Frame.ZD (nth a2 U)).toNat) (qo 10000 (zG 0 (W (a0.Frame.Now + a3)))) (Kq (nth a0.ZA a1.toNat) (Z4 a0.Frame.Methods a0.Frame.Now)) 0) (sg (Zv.zc (ZH.XY u0))) (sg (Zv.Jf (ZH.XY u0)))) ?_ (uN := by first | (simp; done) | (simp [W, w1, w2]; done))
   refine cFo e1 ?_ ?_ <;> intro k8 h4 e1
   ·have q4 := h4; try simp [w1] at q4
    have f := ms f e1
    simp
    exact rtD [.cell 8 33, .tmp 9] f
   have q4 := h4; try simp [w1] at q4
   simp
   repeat with_reducible refine Xd ?_
   exact nx2 e1 (hw := XI [((13, 0), some (117, 0))] [] rfl (by simp [w1, w2]))
  refine dIo mixed ?_
  have i4 : (Zg a0.Frame.ZD (nth a2 U)).toNat < a0.YG.length := by have := QE a0.Frame.ZD (nth a2 U); first | omega | (have z := Qf (a0 := a0) (a1 := a2) (j := U) (by have z1 := h1; simp at z1; simp [z1]) (by omega); omega) | (have z := Qf (a0 := a0) (a1 := a2) (j := uE) (by have z1 := h1; simp at z1; simp [z1]) (by omega); omega)
  simp [i2, ZE, i4]
  repeat with_reducible refine Xd ?_
  refine cRs (VX a0.Frame.Zk a0.Frame.ZD (Zo.mk (nth a2 U) (nth a0.YG (Zg a0.Frame.ZD (nth a2 U)).toNat) a0.Frame.Now (Kq (nth a0.ZA a1.toNat) (Z4 a0.Frame.Methods a0.Frame.Now)) 0) (sg (Zv.zc (ZH.XY u0))) (sg (Zv.Jf (ZH.XY u0)))) ?_
  refine cFt e1 ?_ ?_ <;> intro np h5 e1
  ·have f := ms f e1
   exact rtD [.cell 8 33, .tmp 9] f
  simp
  repeat with_reducible refine Xd ?_
  exact nx2 e1 (hw := XI [((13, 0), some (117, 0))] [] rfl (by simp [w1, w2]))
 have c3 := sl 2306048 a2 (an u0 u1)
 have f := ms f e1
 simp [i1, ZE]
 repeat with_reducible refine Xd ?_
 refine cDs [] (R6 (nth a0.ZA a1.toNat) (Z4 a0.Frame.Methods a0.Frame.Now) J (sg (YU (ZH.YX u0))) (by first | (simp (maxDischargeDepth := 12) [XO]; omega) | (simp (maxDischargeDepth := 12) [Zb (m := 2310144) (by decide) u0, Zb (m := 2310144) (by decide) u1]; done))) ?_
 refine cF f ?_ ?_ <;> intro fV h6 f
 ·exact rtD [.cell 8 33, .tmp 9] f
 refine lp2 (KL.eq_2 a0 a2) (fun uE uR => Yy 162 [eI 1 a1, eL 2 1 a2 iR, eX 4 (a0.row.map .d), (8, .one (.bptr 8 0), [.box [.nil 5, .nil 3, .nil 4, .d (.int .i64 0), .d (.int .i64 0), .nil 7, .nil 1, .nil 2, .nil 1, .nil 1, .d (.int .i64 0), .nil 1]]), (10, .one (.bptr 10 0), [.box [.sref 24 0 0 a0.Frame.Zk.length, .sref 24 1 0 a0.Frame.ZD.length, .sref 24 2 0 a0.Frame.Methods.length, .d (.int .i64 a0.Frame.Ky), .d (.int .i64 a0.Frame.Now), .sref 24 5 0 a0.ZR.length, .sref 24 6 0 a0.Zu.length, .sref 24 7 0 a0.ZA.length, .sref 24 8 0 uR.length, .sref 24 9 0 a0.YW.length, .d (.int .i64 a0.Next), .sref 24 11 0 a0.Yk.length]]), (19, .one (.bptr 19 0), [.box [.d (.int .i64 (XV (nth a0.ZA a1.toNat) (Z4 a0.Frame.Methods a0.Frame.Now) J).1.Id), .sref 126 1 0 (XV (nth a0.ZA a1.toNat) (Z4 a0.Frame.Methods a0.Frame.Now) J).1.ZC.length]]), eI 21 (uE : Int), (24, .any, [.arr false 5 (a0.Frame.Zk.map Y4.row), .arr false 3 (a0.Frame.ZD.map Zr.row), .arr false 4 (a0.Frame.Methods.map YH.row), .none, .none, .arr false 7 (a0.ZR.map Ye.row), .arr false 1 (a0.Zu.map iR), .arr true 2 (a0.ZA.map ZF.row), .arr false 1 (uR.map iR), .arr false 1 (a0.YW.map iR), .none, .arr false 1 (a0.Yk.map iR)]), (126, .any, [.none, .arr true 16 ((XV (nth a0.ZA a1.toNat) (Z4 a0.Frame.Methods a0.Frame.Now) J).1.ZC.map ZZ.row)])]) (fun n2 uE uR => a2.length < n2 + uE /\ uE <= a2.length /\ uR.length = a0.YG.length) (a2.length + 1) 0 a0.YG (fun p2 uE uR e2 j2 => ?_)
 try dsimp only at j2
 refine cFt e2 ?_ ?_ <;> intro mG h7 e2
 ·have i5 := ix h7
  have m4 := ml a2 (mG 2 _ rfl)
  have w3 := wr uE
  refine dIo mixed ?_
  simp [i5, ZE]
  repeat with_reducible refine Xd ?_
  refine cRs (K8 a0.Frame.ZD (nth a2 uE)) ?_
  refine dIo mixed ?_
  have i6 : (Zg a0.Frame.ZD (nth a2 uE)).toNat < a0.YG.length := by have := QE a0.Frame.ZD (nth a2 uE); first | omega | (have z := Qf (a0 := a0) (a1 := a2) (j := U) (by have z1 := h1; simp at z1; simp [z1]) (by omega); omega) | (have z := Qf (a0 := a0) (a1 := a2) (j := uE) (by have z1 := h1; simp at z1; simp [z1]) (by omega); omega)
  have i7 : (Zg a0.Frame.ZD (nth a2 uE)).toNat < uR.length := by have := QE a0.Frame.ZD (nth a2 uE); first | omega | (have z := Qf (a0 := a0) (a1 := a2) (j := U) (by have z1 := h1; simp at z1; simp [z1]) (by omega); omega) | (have z := Qf (a0 := a0) (a1 := a2) (j := uE) (by have z1 := h1; simp at z1; simp [z1]) (by omega); omega)
  simp [i6, ZE, i7, XW (x := (W ((nth a0.YG (Zg a0.Frame.ZD (nth a2 uE)).toNat) + 1))) rfl]
  repeat with_reducible refine Xd ?_
  exact ny2 (an w1 w3) e2
 have f := ms f e2
 simp [i1, ZE]
 repeat with_reducible refine Xd ?_
 refine Vk (t := 24) (j := 7) (i := a1.toNat) (size := 2) (rows := (a0.ZA.map ZF.row)) (ds := (XV (nth a0.ZA a1.toNat) (Z4 a0.Frame.Methods a0.Frame.Now) J).1.row) (L := [(126, 1)]) ?_
 simp [XW (x := (XV (nth a0.ZA a1.toNat) (Z4 a0.Frame.Methods a0.Frame.Now) J).1) rfl, c1, i1, ZE, YZ]
 repeat with_reducible refine Xd ?_
 exact rtD [.cell 8 33, .tmp 9] f
theorem zL (a0 : ZS) : zU prog 54 true a0.row [] (Zl a0).1.row [(Zl a0).2.row] := by
 have f := me (Zl.eq_1 a0)
 refine Kp func54 rfl (by kernel_rfl) (fun v => ?_)
 simp [ntmps54]
 refine cBs [] (Yd a0 2) ?_
 refine cDs [false, false, false, true, true, false, false, true, false, false, true, false] (My (ZB a0 2).2) ?_
 refine cBs [] (Yd (ZB a0 2).1 3) ?_
 refine wi (z8.eq_2) (fun J U v9 uB ui uy uz u5 u6 u3 uY uZ ua uc ue ud => Yy 55 [(0, .fix v (.one (.bptr 0 0)), [.box [.d (.sl 1 (U.map bR)), .d (.int .i64 (v9 : Int)), .d (.int .i64 uB)]]), (2, .one (.bptr 2 0), [.box [.nil 5, .nil 3, .nil 4, .d (.int .i64 0), .d (.int .i64 0), .nil 7, .nil 1, .nil 2, .nil 1, .nil 1, .d (.int .i64 0), .nil 1]]), (3, .one (.bptr 3 0), [.box [.sref 3 1 0 ui.length, .sref 3 2 0 uy.length, .sref 3 3 0 uz.length, .d (.int .i64 u5), .d (.int .i64 u6), .sref 3 6 0 u3.length, .sref 3 7 0 uY.length, .sref 3 8 0 uZ.length, .sref 3 9 0 ua.length, .sref 3 10 0 uc.length, .d (.int .i64 ue), .sref 3 12 0 ud.length], .arr false 5 (ui.map Y4.row), .arr false 3 (uy.map Zr.row), .arr false 4 (uz.map YH.row), .none, .none, .arr false 7 (u3.map Ye.row), .arr false 1 (uY.map iR), .arr true 2 (uZ.map ZF.row), .arr false 1 (ua.map iR), .arr false 1 (uc.map iR), .none, .arr false 1 (ud.map iR)]), eI 4 J]) (fun n1 J U v9 uB ui uy uz u5 u6 u3 uY uZ ua uc ue ud => J + 1 <= (n1 : Int) /\ 0 <= J /\ n1 <= 5 /\ J <= 3 /\ Sm (100 - 4 * n1) (ZH.mk (Zv.mk ui uy uz u5 u6) u3 uY uZ ua uc ue ud)) 5 (W (1 + (ZB (ZB a0 2).1 3).2)) (ZB (ZB a0 2).1 3).1.b (ZB (ZB a0 2).1 3).1.i (ZB (ZB a0 2).1 3).1.h (YE (ZB a0 2).2).Frame.Zk (YE (ZB a0 2).2).Frame.ZD (YE (ZB a0 2).2).Frame.Methods (YE (ZB a0 2).2).Frame.Ky (YE (ZB a0 2).2).Frame.Now (YE (ZB a0 2).2).ZR (YE (ZB a0 2).2).Zu (YE (ZB a0 2).2).ZA (YE (ZB a0 2).2).YG (YE (ZB a0 2).2).YW (YE (ZB a0 2).2).Next (YE (ZB a0 2).2).Yk (fun p1 J U v9 uB ui uy uz u5 u6 u3 uY uZ ua uc ue ud e1 j1 => ?_) (hI := by (have z := X8 (ZB a0 2).1 3; simp only [Xc]; (try dsimp only); exact ⟨by omega, by omega, by omega, by omega, by omega, kx (by decide)⟩)) (h0 := wkS [((3, 1), some (7, 0)), ((3, 2), some (7, 1)), ((3, 3), some (7, 2)), ((3, 6), some (7, 5)), ((3, 7), some (7, 6)), ((3, 8), some (7, 7)), ((3, 9), some (7, 8)), ((3, 10), some (7, 9)), ((3, 12), some (7, 11))] [])
 try dsimp only at j1
 refine cF e1 ?_ ?_ <;> intro k2 h1 e1
 ·refine okD fun k3 => ?_
  refine xv [(0, 0), (3, 3), (17, 0), (19, 0), (22, 0), (24, 0)] [] [18, 21, 23, 26, 2000020, 2000025, 3000001] mixed (by kernel_rfl) (by kernel_rfl) (by kernel_rfl) (by kernel_rfl) (by kernel_rfl) (by kernel_rfl) (by kernel_rfl) ?_
  simp
  refine cBs [] (Yd (ZS.mk U v9 uB) 2) ?_
  refine bsD ?_
  simp
  refine cBs [] (JC (ZB (ZS.mk U v9 uB) 2).1 ([11, 11, 12, 13] : List Int) (by first | omega | (simp; done) | (simp; omega))) ?_
  refine cBs [] (Pq (ZJ (ZB (ZS.mk U v9 uB) 2).1 ([11, 11, 12, 13] : List Int)).1) ?_
  refine bsD ?_
  simp
  refine cBs [] (JC (ZT (ZJ (ZB (ZS.mk U v9 uB) 2).1 ([11, 11, 12, 13] : List Int)).1).1 ([30, 10000] : List Int) (by first | omega | (simp; done) | (simp; omega))) ?_
  refine cDs [false, false, false, true, true, false, false, true, false, false, true, false] (LQ (ZH.mk (Zv.mk ui uy uz u5 u6) u3 uY uZ ua uc ue ud) (ZB (ZS.mk U v9 uB) 2).2 (ZJ (ZB (ZS.mk U v9 uB) 2).1 ([11, 11, 12, 13] : List Int)).2 (ZT (ZJ (ZB (ZS.mk U v9 uB) 2).1 ([11, 11, 12, 13] : List Int)).1).2 0 (ZJ (ZT (ZJ (ZB (ZS.mk U v9 uB) 2).1 ([11, 11, 12, 13] : List Int)).1).1 ([30, 10000] : List Int)).2 (by with_reducible exact Zb (by omega) j1.2.2.2.2.2) (by with_reducible exact kr (by decide))) ?_
  refine cDs [false, false, false, true, true, false, false, true, false, false, true, false] (Oc (Z3 (ZH.mk (Zv.mk ui uy uz u5 u6) u3 uY uZ ua uc ue ud) (ZB (ZS.mk U v9 uB) 2).2 (ZJ (ZB (ZS.mk U v9 uB) 2).1 ([11, 11, 12, 13] : List Int)).2 (ZT (ZJ (ZB (ZS.mk U v9 uB) 2).1 ([11, 11, 12, 13] : List Int)).1).2 0 (ZJ (ZT (ZJ (ZB (ZS.mk U v9 uB) 2).1 ([11, 11, 12, 13] : List Int)).1).1 ([30, 10000] : List Int)).2).1 1 (by with_reducible exact Zb (by omega) (Bo j1.2.2.2.2.2 (by omega)))) ?_
  refine xv [(0, 0), (3, 3), (37, 0)] [] [39, 2000038, 3000001] mixed (by kernel_rfl) (by kernel_rfl) (by kernel_rfl) (by kernel_rfl) (by kernel_rfl) (by kernel_rfl) (by kernel_rfl) ?_
  simp
  refine bsD ?_
  simp
  refine cBs [] (JC (ZJ (ZT (ZJ (ZB (ZS.mk U v9 uB) 2).1 ([11, 11, 12, 13] : List Int)).1).1 ([30, 10000] : List Int)).1 ([0, 5, 20] : List Int) (by first | omega | (simp; done) | (simp; omega))) ?_
  refine cDs [false, false, false, true, true, false, false, true, false, false, true, false] (LO (Zw (Z3 (ZH.mk (Zv.mk ui uy uz u5 u6) u3 uY uZ ua uc ue ud) (ZB (ZS.mk U v9 uB) 2).2 (ZJ (ZB (ZS.mk U v9 uB) 2).1 ([11, 11, 12, 13] : List Int)).2 (ZT (ZJ (ZB (ZS.mk U v9 uB) 2).1 ([11, 11, 12, 13] : List Int)).1).2 0 (ZJ (ZT (ZJ (ZB (ZS.mk U v9 uB) 2).1 ([11, 11, 12, 13] : List Int)).1).1 ([30, 10000] : List Int)).2).1 1).1 (ZJ (ZJ (ZT (ZJ (ZB (ZS.mk U v9 uB) 2).1 ([11, 11, 12, 13] : List Int)).1).1 ([30, 10000] : List Int)).1 ([0, 5, 20] : List Int)).2 (by with_reducible exact Zb (by omega) (AA j1.2.2.2.2.2 (by omega)))) ?_
  refine xv [(0, 0), (3, 3), (45, 3), (48, 0)] [] [50, 2000049, 3000001] mixed (by kernel_rfl) (by kernel_rfl) (by kernel_rfl) (by kernel_rfl) (by kernel_rfl) (by kernel_rfl) (by kernel_rfl) ?_
  simp
  refine cDs [false] (ql (Z9 (Zw (Z3 (ZH.mk (Zv.mk ui uy uz u5 u6) u3 uY uZ ua uc ue ud) (ZB (ZS.mk U v9 uB) 2).2 (ZJ (ZB (ZS.mk U v9 uB) 2).1 ([11, 11, 12, 13] : List Int)).2 (ZT (ZJ (ZB (ZS.mk U v9 uB) 2).1 ([11, 11, 12, 13] : List Int)).1).2 0 (ZJ (ZT (ZJ (ZB (ZS.mk U v9 uB) 2).1 ([11, 11, 12, 13] : List Int)).1).1 ([30, 10000] : List Int)).2).1 1).1 (ZJ (ZJ (ZT (ZJ (ZB (ZS.mk U v9 uB) 2).1 ([11, 11, 12, 13] : List Int)).1).1 ([30, 10000] : List Int)).1 ([0, 5, 20] : List Int)).2).1.Frame (by with_reducible exact Zb (by omega) (ZH.XY (Hq j1.2.2.2.2.2 (by omega))))) ?_
  refine bsD ?_
  simp
  refine cBs [] (JC (ZJ (ZJ (ZT (ZJ (ZB (ZS.mk U v9 uB) 2).1 ([11, 11, 12, 13] : List Int)).1).1 ([30, 10000] : List Int)).1 ([0, 5, 20] : List Int)).1 ([0, (-5), 30] : List Int) (by first | omega | (simp; done) | (simp; omega))) ?_
  refine cDs [false, false, false, true, true, false, false, true, false, false, true, false] (NC (Z9 (Zw (Z3 (ZH.mk (Zv.mk ui uy uz u5 u6) u3 uY uZ ua uc ue ud) (ZB (ZS.mk U v9 uB) 2).2 (ZJ (ZB (ZS.mk U v9 uB) 2).1 ([11, 11, 12, 13] : List Int)).2 (ZT (ZJ (ZB (ZS.mk U v9 uB) 2).1 ([11, 11, 12, 13] : List Int)).1).2 0 (ZJ (ZT (ZJ (ZB (ZS.mk U v9 uB) 2).1 ([11, 11, 12, 13] : List Int)).1).1 ([30, 10000] : List Int)).2).1 1).1 (ZJ (ZJ (ZT (ZJ (ZB (ZS.mk U v9 uB) 2).1 ([11, 11, 12, 13] : List Int)).1).1 ([30, 10000] : List Int)).1 ([0, 5, 20] : List Int)).2).1 0 (Z5 (Z9 (Zw (Z3 (ZH.mk (Zv.mk ui uy uz u5 u6) u3 uY uZ ua uc ue ud) (ZB (ZS.mk U v9 uB) 2).2 (ZJ (ZB (ZS.mk U v9 uB) 2).1 ([11, 11, 12, 13] : List Int)).2 (ZT (ZJ (ZB (ZS.mk U v9 uB) 2).1 ([11, 11, 12, 13] : List Int)).1).2 0 (ZJ (ZT (ZJ (ZB (ZS.mk U v9 uB) 2).1 ([11, 11, 12, 13] : List Int)).1).1 ([30, 10000] : List Int)).2).1 1).1 (ZJ (ZJ (ZT (ZJ (ZB (ZS.mk U v9 uB) 2).1 ([11, 11, 12, 13] : List Int)).1).1 ([30, 10000] : List Int)).1 ([0, 5, 20] : List Int)).2).1.Frame) (ZJ (ZJ (ZJ (ZT (ZJ (ZB (ZS.mk U v9 uB) 2).1 ([11, 11, 12, 13] : List Int)).1).1 ([30, 10000] : List Int)).1 ([0, 5, 20] : List Int)).1 ([0, (-5), 30] : List Int)).2 (by with_reducible exact Zb (by omega) (Hq j1.2.2.2.2.2 (by omega))) (by with_reducible exact Zb (by omega) (CQ j1.2.2.2.2.2 (by omega)))) ?_
  exact wq e1 (hI := by (have hh := h1; simp at hh; have q := j1.2.2.2.2.2; have k := j1.2.2.2.1; have t := fun a b k c t e => BD (Zb (show 100 - 4 * (p1 + 1) + 3 <= 100 - 4 * p1 by omega) (Cg (a := a) (b := b) (k := k) (c := c) (t := t) (e := e) q (by omega))); (try dsimp only); simp only [Xc]; refine ⟨by omega, by omega, by omega, by omega, by omega, ?_⟩; with_reducible exact t _ _ _ _ _ _)) (hw := wkS [((3, 1), some (51, 0)), ((3, 2), some (51, 1)), ((3, 3), some (51, 2)), ((3, 6), some (51, 5)), ((3, 7), some (51, 6)), ((3, 8), some (51, 7)), ((3, 9), some (51, 8)), ((3, 10), some (51, 9)), ((3, 12), some (51, 11))] [])
 have f := ms f e1
 refine Wt (rv := [.cell 2 33]) rfl ?_
 simp [f.h]
theorem M8 (a0 : ZS) : zU prog 56 false a0.row [] (KP a0).1.row [rI (KP a0).2] := by
 have f := me (KP.eq_1 a0)
 refine Kp func56 rfl (by kernel_rfl) (fun v => ?_)
 simp [ntmps56]
 refine Hi [(4, 0)] rfl (by simp) ?_
 refine cBs [] (JC a0 ([1, 2, 11, 12, 13, 21, 31, 32, 33, 34, 0, 50] : List Int) (by first | omega | (simp; done) | (simp; omega))) ?_
 refine Wt (rv := [.tmp 2]) rfl ?_
 simp [f.h]
theorem SD {a b : Prop} (h : b) (k : a := by (intros; first | omega | with_unfolding_all (first | first | omega | (have z := XZ (Zd.Um (kr (n := 20) (a0 := a0) (by decide))); omega) | (have z := X8 (ZB (ZT a0).1 8).1 2; simp only [Xc] at *; omega)) | ((try simp only [Xc, show ∀ x, IntKind.i64.wrap x = W x from fun _ => rfl] at *); omega))) : a /\ b := ⟨k, h⟩
theorem Ff (a0 : ZS) : zU prog 57 true a0.row [] (qc a0).1.row [(qc a0).2.row] := by
 have f := me (qc.eq_1 a0)
 refine Kp func57 rfl (by kernel_rfl) (fun v => ?_)
 simp [ntmps57]
 refine cBs [true, false, false] (Pq a0) ?_
 refine cBs [] (Yd (ZT a0).1 8) ?_
 refine cF f ?_ ?_ <;> intro k1 h1 f
 ·refine Hi [(11, 0)] rfl (by simp) ?_
  refine cBs [] (JC (ZB (ZT a0).1 8).1 ([(-1), 999, 1000] : List Int) (by first | omega | (simp; done) | (simp; omega))) ?_
  refine Wt (rv := [.cell 2 36]) rfl ?_
  simp [f.h]
  all_goals ((try (rintro r (⟨a, _, rfl⟩ | rfl) x hx <;> simp at hx <;> subst hx <;> rfl)))
 refine cFf f ?_ ?_ <;> intro k2 h2 f
 ·simp
  repeat with_reducible refine SD ?_
  refine Wt (rv := [.cell 2 36]) rfl ?_
  simp [f.h]
  all_goals ((try (rintro r (⟨a, _, rfl⟩ | rfl) x hx <;> simp at hx <;> subst hx <;> rfl)))
 refine cF f ?_ ?_ <;> intro k3 h3 f
 ·refine okD fun k4 => ?_
  refine xv [(0, 0), (3, 3), (23, 3), (25, 0)] [28] [27, 2000026] mixed (by kernel_rfl) (by kernel_rfl) (by kernel_rfl) (by kernel_rfl) (by kernel_rfl) (by kernel_rfl) (by kernel_rfl) ?_
  simp
  refine bsD ?_
  simp
  refine cBo [] (JC (ZB (ZT a0).1 8).1 ([0, (-1), 1] : List Int) (by first | omega | (simp; done) | (simp; omega))) ?_
  have i1 : 0 < (ZT a0).2.XP.length := by (have z := UM a0; have z2 := jt (j9 a0); omega)
  simp [i1, ZE, XW (x := (ZJ (ZB (ZT a0).1 8).1 ([0, (-1), 1] : List Int)).2) rfl]
  repeat with_reducible refine SD ?_
  refine Wt (rv := [.cell 2 36]) rfl ?_
  simp [f.h]
  all_goals ((try (rintro r (⟨a, _, rfl⟩ | rfl) x hx <;> simp at hx <;> subst hx <;> rfl)))
  all_goals (repeat' (first | exact qE (by simp) (by simp) | refine And.intro ?_ ?_))
 refine cF f ?_ ?_ <;> intro k5 h4 f
 ·refine okD fun k6 => ?_
  refine xv [(0, 0), (3, 3), (31, 3), (33, 0)] [37] [34] mixed (by kernel_rfl) (by kernel_rfl) (by kernel_rfl) (by kernel_rfl) (by kernel_rfl) (by kernel_rfl) (by kernel_rfl) ?_
  simp
  refine cBo [] (Yd (ZB (ZT a0).1 8).1 2) ?_
  have i2 : 0 < (ZT a0).2.YR.length := by (have z := UM a0; have z2 := jt (j9 a0); omega)
  simp [i2, ZE, XW (x := ((⟨#[48, 49, 50, 51, 52, 53, 54, 55, 56, 57, 48, 49, 50, 51, 52, 53, 54, 55, 56, 57, 48, 49, 50, 51, 52, 53, 54, 55, 56, 57, 48, 49, 50, 51, 52, 53, 54, 55, 56, 57, 48]⟩ : ByteArray).extract 0 (W (40 + (ZB (ZB (ZT a0).1 8).1 2).2)).toNat)) rfl]
  repeat with_reducible refine SD ?_
  refine Wt (rv := [.cell 2 36]) rfl ?_
  simp [f.h]
  all_goals ((try (rintro r (⟨a, _, rfl⟩ | rfl) x hx <;> simp at hx <;> subst hx <;> rfl)))
  all_goals (repeat' (first | exact qE (by simp) (by simp) | refine And.intro ?_ ?_))
 refine Wt (rv := [.cell 2 36]) rfl ?_
 simp [f.h]
 all_goals ((try (rintro r (⟨a, _, rfl⟩ | rfl) x hx <;> simp at hx <;> subst hx <;> rfl)))
theorem UF (a0 : ZS) (a1 : Int) : zU prog 80 false a0.row [rI a1] (QK a0 a1).1.row [rB (QK a0 a1).2] := by
 have f := me (QK.eq_1 a0 a1)
 refine Kp func80 rfl (by kernel_rfl) (fun v => ?_)
 simp [ntmps80]
 refine cBs [] (Yd a0 a1) ?_
 refine Wt (rv := [.tmp 4]) rfl ?_
 simp [f.h]
theorem FQ (a0 : ZS) : zU prog 59 false a0.row [] (Oj a0).1.row [rI (Oj a0).2] := by
 have f := me (Oj.eq_1 a0)
 refine Kp func59 rfl (by kernel_rfl) (fun v => ?_)
 simp [ntmps59]
 refine cBs [] (UF a0 6) ?_
 refine cF f ?_ ?_ <;> intro k1 h1 f
 ·refine Hi [(6, 0)] rfl (by simp) ?_
  refine cBs [] (JC (QK a0 6).1 ([(-1), 0, 10000, 10001, 9223372036854775807, (-9223372036854775808)] : List Int) (by first | omega | (simp; done) | (simp; omega))) ?_
  refine Wt (rv := [.tmp 2]) rfl ?_
  simp [f.h]
 refine cBs [] (Yd (QK a0 6).1 40) ?_
 refine Wt (rv := [.tmp 2]) rfl ?_
 simp [f.h]
theorem SK (a0 : List UInt8) (u0 : Sm 2297856 a0) : Sd 11 [rL 1 bR a0] [(ZQ a0).1.row, rI (ZQ a0).2.1, rI (ZQ a0).2.2.1, (ZQ a0).2.2.2.1.row, rI (ZQ a0).2.2.2.2.1, rI (ZQ a0).2.2.2.2.2] := by
 have f := me (ZQ.eq_1 a0)
 refine soD func11 ntmps11 ?_
 refine cNs (qG a0) ?_
 refine cBs [] (zL (Zz a0)) ?_
 refine cBs [] (Yd (Zl (Zz a0)).1 4) ?_
 refine cBs [] (M8 (ZB (Zl (Zz a0)).1 4).1) ?_
 refine cBs [] (Ff (KP (ZB (Zl (Zz a0)).1 4).1).1) ?_
 refine Hi [(26, 0)] rfl (by simp) ?_
 refine cBs [] (JC (qc (KP (ZB (Zl (Zz a0)).1 4).1).1).1 ([0, 50, (-1)] : List Int) (by first | omega | (simp; done) | (simp; omega))) ?_
 refine xv [(2, 2), (5, 5), (8, 15), (9, 9), (12, 12), (33, 15)] [] [34, 3000001] mixed (by kernel_rfl) (by kernel_rfl) (by kernel_rfl) (by kernel_rfl) (by kernel_rfl) (by kernel_rfl) (by kernel_rfl) ?_
 simp
 refine cBs [] (FQ (ZJ (qc (KP (ZB (Zl (Zz a0)).1 4).1).1).1 ([0, 50, (-1)] : List Int)).1) ?_
 exact rtD [.cell 2 33, .tmp 3, .tmp 4, .cell 5 36, .tmp 6, .tmp 7] f
theorem T1 (a0 : List UInt8) (u0 : Sm 2297856 a0) : Sd 15 [rL 1 bR a0] [(ZK a0).1.row, rI (ZK a0).2.1, rL 1 iR (ZK a0).2.2.1, rI (ZK a0).2.2.2] := by
 have f := me (ZK.eq_1 a0)
 refine soD func15 ntmps15 ?_
 refine cNs (qG a0) ?_
 refine cBs [] (zL (Zz a0)) ?_
 refine cDs [false] (ql (Zl (Zz a0)).2.Frame (by exact ZH.XY (Qp (by decide)))) ?_
 refine cBs [] (Yd (Zl (Zz a0)).1 6) ?_
 refine cF f ?_ ?_ <;> intro k1 h1 f
 ·refine cBs [] (Yd (ZB (Zl (Zz a0)).1 6).1 6) ?_
  refine cBs [] (Yd (ZB (ZB (Zl (Zz a0)).1 6).1 6).1 4) ?_
  refine xv [(2, 2), (6, 11), (7, 7), (33, 11)] [] [35, 2000034, 3000001] mixed (by kernel_rfl) (by kernel_rfl) (by kernel_rfl) (by kernel_rfl) (by kernel_rfl) (by kernel_rfl) (by kernel_rfl) ?_
  simp
  refine bsD ?_
  simp
  refine cBs [] (JC (ZB (ZB (ZB (Zl (Zz a0)).1 6).1 6).1 4).1 ([0, (-20), 20, 10000, (-10001)] : List Int) (by first | omega | (simp; done) | (simp; omega))) ?_
  exact rtD [.cell 2 33, .tmp 3, .tmp 4, .tmp 5] f
 refine cF f ?_ ?_ <;> intro k3 h2 f
 ·refine cBs [] (Yd (ZB (Zl (Zz a0)).1 6).1 4) ?_
  refine xv [(2, 2), (6, 11), (7, 7), (33, 11)] [] [35, 2000034, 3000001] mixed (by kernel_rfl) (by kernel_rfl) (by kernel_rfl) (by kernel_rfl) (by kernel_rfl) (by kernel_rfl) (by kernel_rfl) ?_
  simp
  refine bsD ?_
  simp
  refine cBs [] (JC (ZB (ZB (Zl (Zz a0)).1 6).1 4).1 ([0, (-20), 20, 10000, (-10001)] : List Int) (by first | omega | (simp; done) | (simp; omega))) ?_
  exact rtD [.cell 2 33, .tmp 3, .tmp 4, .tmp 5] f
 refine cBs [] (Yd (ZB (Zl (Zz a0)).1 6).1 4) ?_
 refine xv [(2, 2), (6, 11), (7, 7), (33, 11)] [] [35, 2000034, 3000001] mixed (by kernel_rfl) (by kernel_rfl) (by kernel_rfl) (by kernel_rfl) (by kernel_rfl) (by kernel_rfl) (by kernel_rfl) ?_
 simp
 refine bsD ?_
 simp
 refine cBs [] (JC (ZB (ZB (Zl (Zz a0)).1 6).1 4).1 ([0, (-20), 20, 10000, (-10001)] : List Int) (by first | omega | (simp; done) | (simp; omega))) ?_
 exact rtD [.cell 2 33, .tmp 3, .tmp 4, .tmp 5] f
theorem VR (a0 : ZH) (a1 : Int) (u0 : Sm 2318336 a0) : Sd 81 [a0.row, rI a1] [(KA a0 a1).1.row, rB (KA a0 a1).2] := by
 have f := me (KA.eq_1 a0 a1)
 refine soD func81 ntmps81 ?_
 refine cDs [false, false, false, true, true, false, false, true, false, false, true, false] (yY a0 (sg u0)) ?_
 refine cRs (Yj a1 0 (W ((a0.Zu.length : Int) - 1))) ?_
 refine gIf ?_ ?_ <;> intro G
 ·have c1 := sl 2318336 a0.Zu u0
  have w1 : IntKind.i64.wrap ((a0.Zu.length : Int) - 1) = (a0.Zu.length : Int) - 1 := Yg (by omega) (by omega)
  have g1 := G; try simp [Z8, w1] at g1
  have i1 := ik a1.toNat a0.Zu
  simp [i1, ZE, G]
  refine rpG ?_
  refine cKo f ?_ ?_ <;> intro k1 h1 f
  ·try (simp [G] at h1; done)
   all_goals
    have q1 := h1; try simp [Z8, w1] at q1
    simp [G]
    refine rpG ?_
    exact Q6 [.cell 4 33, .tmp 5] f
  ·try (simp [G] at h1; done)
   all_goals
    have q1 := h1; try simp [Z8, w1] at q1
    simp [i1, ZE, XW (x := (W (a0.Frame.Now + 1))) rfl, G]
    refine rpG ?_
    refine Er (rv := [.cell 4 33, .tmp 5]) rfl ?_
    simp [f.h, G]
    all_goals (repeat' (first | exact qE (by simp) (by simp) | refine And.intro ?_ ?_))
 ·have c2 := sl 2318336 a0.Zu u0
  have w2 : IntKind.i64.wrap ((a0.Zu.length : Int) - 1) = (a0.Zu.length : Int) - 1 := Yg (by omega) (by omega)
  refine cKo f ?_ ?_ <;> intro k2 h2 f
  ·try (simp [G] at h2; done)
   all_goals
    have q2 := h2; try simp [Z8, w2] at q2
    simp [G]
    refine rpG ?_
    exact Q6 [.cell 4 33, .tmp 5] f
  ·try (simp [G] at h2; done)
   all_goals
    have q2 := h2; try simp [Z8, w2] at q2
    have i3 := ik a1.toNat a0.Zu
    simp [i3, ZE, XW (x := (W (a0.Frame.Now + 1))) rfl, G]
    refine rpG ?_
    refine Er (rv := [.cell 4 33, .tmp 5]) rfl ?_
    simp [f.h, G]
    all_goals (repeat' (first | exact qE (by simp) (by simp) | refine And.intro ?_ ?_))
theorem U7 (a0 : List UInt8) (u0 : Sm 2297856 a0) : Sd 17 [rL 1 bR a0] [(Ym a0).1.row, rI (Ym a0).2] := by
 have f := me (Ym.eq_1 a0)
 refine soD func17 ntmps17 ?_
 refine cNs (qG a0) ?_
 refine cBs [] (zL (Zz a0)) ?_
 refine cBs [] (UF (Zl (Zz a0)).1 3) ?_
 refine cF f ?_ ?_ <;> intro k1 h1 f
 ·refine cDs [false, false, false, true, true, false, false, true, false, false, true, false] (VR (Zl (Zz a0)).2 0 (by exact Qp (by decide))) ?_
  refine xv [(2, 2), (4, 7), (5, 5), (18, 7)] [] [19, 3000001] mixed (by kernel_rfl) (by kernel_rfl) (by kernel_rfl) (by kernel_rfl) (by kernel_rfl) (by kernel_rfl) (by kernel_rfl) ?_
  simp
  refine cBs [] (Yd (QK (Zl (Zz a0)).1 3).1 5) ?_
  exact rtD [.cell 2 33, .tmp 3] f
 refine xv [(2, 2), (4, 7), (5, 5), (18, 7)] [] [19, 3000001] mixed (by kernel_rfl) (by kernel_rfl) (by kernel_rfl) (by kernel_rfl) (by kernel_rfl) (by kernel_rfl) (by kernel_rfl) ?_
 simp
 refine cBs [] (Yd (QK (Zl (Zz a0)).1 3).1 5) ?_
 exact rtD [.cell 2 33, .tmp 3] f
theorem U3 (a0 : List UInt8) (u0 : Sm 2297856 a0) : Sd 19 [rL 1 bR a0] [(ZY a0).1.row, rI (ZY a0).2] := by
 have f := me (ZY.eq_1 a0)
 refine soD func19 ntmps19 ?_
 refine cNs (qG a0) ?_
 refine cBs [] (zL (Zz a0)) ?_
 refine cBs [] (UF (Zl (Zz a0)).1 3) ?_
 refine cF f ?_ ?_ <;> intro k1 h1 f
 ·refine cDs [false, false, false, true, true, false, false, true, false, false, true, false] (VR (Zl (Zz a0)).2 1 (by exact Qp (by decide))) ?_
  refine xv [(2, 2), (4, 7), (5, 5), (18, 7)] [] [19, 3000001] mixed (by kernel_rfl) (by kernel_rfl) (by kernel_rfl) (by kernel_rfl) (by kernel_rfl) (by kernel_rfl) (by kernel_rfl) ?_
  simp
  refine cBs [] (Yd (QK (Zl (Zz a0)).1 3).1 5) ?_
  exact rtD [.cell 2 33, .tmp 3] f
 refine xv [(2, 2), (4, 7), (5, 5), (18, 7)] [] [19, 3000001] mixed (by kernel_rfl) (by kernel_rfl) (by kernel_rfl) (by kernel_rfl) (by kernel_rfl) (by kernel_rfl) (by kernel_rfl) ?_
 simp
 refine cBs [] (Yd (QK (Zl (Zz a0)).1 3).1 5) ?_
 exact rtD [.cell 2 33, .tmp 3] f
theorem S5 (a0 : List UInt8) : Sd 21 [rL 1 bR a0] [(Z1 a0).1.row, rI (Z1 a0).2.1, rI (Z1 a0).2.2.1, rI (Z1 a0).2.2.2] := by
 have f := me (Z1.eq_1 a0)
 refine soD func21 ntmps21 ?_
 refine cNs (qG a0) ?_
 refine cBs [] (zL (Zz a0)) ?_
 refine cBs [] (Yd (Zl (Zz a0)).1 3) ?_
 refine cBs [] (Yd (ZB (Zl (Zz a0)).1 3).1 3) ?_
 refine xv [(2, 2), (6, 11), (7, 7), (21, 11)] [] [22, 3000001] mixed (by kernel_rfl) (by kernel_rfl) (by kernel_rfl) (by kernel_rfl) (by kernel_rfl) (by kernel_rfl) (by kernel_rfl) ?_
 simp
 refine cBs [] (Yd (ZB (ZB (Zl (Zz a0)).1 3).1 3).1 5) ?_
 exact rtD [.cell 2 33, .tmp 3, .tmp 4, .tmp 5] f
theorem TB (a0 : List UInt8) : Sd 23 [rL 1 bR a0] [(YY a0).1.row, rI (YY a0).2] := by
 have f := me (YY.eq_1 a0)
 refine soD func23 ntmps23 ?_
 refine cNs (qG a0) ?_
 refine cBs [] (zL (Zz a0)) ?_
 refine xv [(2, 2), (4, 7), (5, 5), (11, 7)] [] [12, 3000001] mixed (by kernel_rfl) (by kernel_rfl) (by kernel_rfl) (by kernel_rfl) (by kernel_rfl) (by kernel_rfl) (by kernel_rfl) ?_
 simp
 refine cBs [] (Yd (Zl (Zz a0)).1 4) ?_
 exact rtD [.cell 2 33, .tmp 3] f
end Go.Proofs.YthbcljgpeciofaaGreat
