/- Contracts of the functions Oe the abstract machine, part S1. No condition. -/
import Derived.Test.YthjkhlcbpfnobaaGreatL
import Derived.Test.YthjkhlcbpfnobaaGreatTy
namespace Go.Proofs.YthjkhlcbpfnobaaGreat
open Tryz
open Go.Vm Go.Mo
set_option maxHeartbeats 1000000
set_option maxRecDepth 100000
set_option linter.unusedSimpArgs false
set_option linter.unusedVariables false
theorem L8 (a0 : List UInt8) : NO prog 55 [rL 1 bR a0] (KN a0).row := by
 have f := me (KN.eq_1 a0)
 refine AE func55 rfl (by kernel_rfl) ?_
 simp [ntmps55]
 refine lp2 (NL.eq_2 a0) (fun J U => Y5 32 [eL 0 1 a0 bR, eI 3 J, eI 4 (U : Int)]) (fun n1 J U => 4000 < n1 + U) 4001 (W (193017 + (a0.length : Int))) 0 (fun p1 J U e1 j1 => ?_)
 refine cFf e1 ?_ ?_ <;> intro k2 h1 e1
 ·have i1 : U < a0.length := by (simp at h1; omega)
  have m2 := ml a0 (k2 0 _ rfl)
  have w1 := wr U
  simp [i1, ZI]
  refine rpS ?_
  exact ny2 w1 e1
 have f := ms f e1
 refine sv 31 (rv := [.tmp 2]) rfl ?_
 simp [f.h]
theorem Vz (a0 : ZU) : xY prog 139 false a0.row [] (QT a0).1.row [rI (QT a0).2] := by
 have f := me (QT.eq_1 a0)
 refine y7 func139 rfl (by kernel_rfl) (fun v => ?_)
 simp [ntmps139]
 refine dIs mixed ?_
 refine dIs mixed ?_
 refine cF f ?_ ?_ <;> intro k3 h1 f
 ·refine okD fun k4 => ?_
  refine dIo mixed ?_
  have i1 := ik a0.i a0.b
  simp [i1, ZI]
  refine rpS ?_
  refine Pq (rv := [.tmp 2]) rfl ?_
  first | (have w0 := wr a0.i (by have z := ml a0.b (k3 32 _ rfl); simp at h1; omega); simp [f.h, w0]; done) | simp [f.h]
 refine Pq (rv := [.tmp 2]) rfl ?_
 first | (have w0 := wr a0.i (by have z := ml a0.b (k3 32 _ rfl); simp at h1; omega); simp [f.h, w0]; done) | simp [f.h]
theorem Qu (a0 : ZU) (a1 : Int) : xY prog 57 false a0.row [rI a1] (ZH a0 a1).1.row [rI (ZH a0 a1).2] := by
 have f := me (ZH.eq_1 a0 a1)
 refine y7 func57 rfl (by kernel_rfl) (fun v => ?_)
 simp [ntmps57]
 refine cF f ?_ ?_ <;> intro k1 h1 f
 ·refine Pq (rv := [.tmp 4]) rfl ?_
  simp [f.h]
 refine cF f ?_ ?_ <;> intro k2 h2 f
 ·refine cBs [] (Vz a0) ?_
  refine Pq (rv := [.tmp 4]) rfl ?_
  simp [f.h]
 refine cBs [] (Vz a0) ?_
 refine cBs [] (Vz (QT a0).1) ?_
 refine cBs [] (Vz (QT (QT a0).1).1) ?_
 refine Pq (rv := [.tmp 4]) rfl ?_
 simp [f.h]
theorem IS (a0 : Int) (a1 : Int) : Sa 136 [rI a0, rI a1] [rI (KZ a0 a1)] := by
 have f := me (KZ.eq_1 a0 a1)
 refine so func136 ntmps136 ?_
 refine cF f ?_ ?_ <;> intro k1 h1 f
 ·exact rt [.tmp 4] f
 exact rt [.tmp 4] f
theorem Dy (a0 : Int) (a1 : Int) : Sa 135 [rI a0, rI a1] [rI (qM a0 a1)] := by
 have f := me (qM.eq_1 a0 a1)
 refine so func135 ntmps135 ?_
 refine cF f ?_ ?_ <;> intro k1 h1 f
 ·exact rt [.tmp 4] f
 exact rt [.tmp 4] f
theorem UC : Sd 121 [] [rL 5 Yp.row yD] := by
 have f := me (yD.eq_1)
 refine soD func121 ntmps121 ?_
 exact rtD [.tmp 0] f
theorem Rs : Sd 122 [] [rL 3 Zg.row Xv] := by
 have f := me (Xv.eq_1)
 refine soD func122 ntmps122 ?_
 exact rtD [.tmp 0] f
theorem Fu : Sd 137 [] [rL 4 Z5.row kS] := by
 have f := me (kS.eq_1)
 refine soD func137 ntmps137 ?_
 exact rtD [.tmp 0] f
theorem JI (a0 : List Yp) (a1 : Int) : Sa 181 [rL 5 Yp.row a0, rI a1] [rI (YA a0 a1)] := by
 have f := me (YA.eq_1 a0 a1)
 refine so func181 ntmps181 ?_
 refine lp1 (q9.eq_2 a0 a1) (fun J => Y5 20 [eL 0 5 a0 Yp.row, eI 1 a1, eI 5 (J : Int)]) (fun n1 J => a0.length < n1 + J /\ J <= a0.length) (a0.length + 1) 0 (fun p1 J e1 j1 => ?_)
 refine cFf e1 ?_ ?_ <;> intro k2 h1 e1
 ·have i1 := ix h1
  have m2 := ml a0 (k2 0 _ rfl)
  have w1 := wr J
  simp [i1, ZI]
  refine rpS ?_
  refine cF e1 ?_ ?_ <;> intro k3 h2 e1
  ·have f := ms f e1
   exact rt [.tmp 4] f
  exact ny1 w1 e1
 have f := ms f e1
 exact rt [.tmp 4] f
theorem Y4 (a0 : Int) (a1 : Int) (a2 : Int) : Sa 97 [rI a0, rI a1, rI a2] [rB (Yg a0 a1 a2)] := by
 have f := me (Yg.eq_1 a0 a1 a2)
 refine so func97 ntmps97 ?_
 exact rt [.tmp 6] f
theorem Hu (a0 : Yb) : Sa 332 [a0.row] [(kT a0).row] := by
 have f := me (kT.eq_1 a0)
 refine so func332 ntmps332 ?_
 exact rt [.cell 2 59] f
theorem WH (a0 : Int) : Sa 273 [rI a0] [rB (WG a0)] := by
 have f := me (WG.eq_1 a0)
 refine so func273 ntmps273 ?_
 refine cRs (Y4 a0 0 10000) ?_
 exact rt [.tmp 2] f
theorem D8 (a0 : Zl) : Sa 331 [a0.row] [rB (S0 a0)] := by
 have f := me (S0.eq_1 a0)
 refine so func331 ntmps331 ?_
 refine cRs (WH a0.X0) ?_
 refine cGs (fun gg => (WH a0.To)) ?_
 exact rt [.tmp 2] f
theorem Dj (a0 : Yb) : Sa 290 [a0.row] [rB (RM a0)] := by
 have f := me (RM.eq_1 a0)
 refine so func290 ntmps290 ?_
 refine cRs (Y4 a0.Zn 1 999) ?_
 refine cGs (fun gg => (Y4 a0.Key 1 99)) ?_
 refine cGs (fun gg => (Y4 a0.Z6 1 99)) ?_
 refine cGs (fun gg => (Y4 a0.Kr 0 99)) ?_
 refine cGs (fun gg => (Hu a0)) ?_
 refine cGs (fun gg => (D8 (kT a0))) ?_
 exact rt [.tmp 2] f
theorem R5 (a0 : Yb) : Sd 291 [a0.row] [rL 1 iR (zW a0)] := by
 have f := me (zW.eq_1 a0)
 refine soD func291 ntmps291 ?_
 exact rtD [.tmp 2] f
theorem wU (a0 : Int) (a1 : Int) : Sa 350 [rI a0, rI a1] [rI (DB a0 a1)] := by
 have f := me (DB.eq_1 a0 a1)
 refine so func350 ntmps350 ?_
 refine cRs (Y4 a1 1 1000000000000) ?_
 refine cFo f ?_ ?_ <;> intro k1 h1 f
 ·have q1 := h1; try simp [Yg] at q1
  simp
  exact rt [.tmp 4] f
 have q1 := h1; try simp [Yg] at q1
 simp
 refine rpS ?_
 exact rt [.tmp 4] f
theorem Gu (a0 : List Int) : Sa 334 [rL 1 iR a0] [rI (Nl a0)] := by
 have f := me (Nl.eq_1 a0)
 refine so func334 ntmps334 ?_
 refine lp2 (SD.eq_2 a0) (fun J U => Y5 22 [eL 0 1 a0 iR, eI 3 J, eI 4 (U : Int)]) (fun n1 J U => a0.length < n1 + U /\ U <= a0.length) (a0.length + 1) 11 0 (fun p1 J U e1 j1 => ?_)
 refine cFf e1 ?_ ?_ <;> intro k2 h1 e1
 ·have i1 := ix h1
  have m2 := ml a0 (k2 0 _ rfl)
  have w1 := wr U
  simp [i1, ZI]
  refine rpS ?_
  refine cRs (wU (nth a0 U) 2147483647) ?_
  exact ny2 w1 e1
 have f := ms f e1
 exact rt [.tmp 2] f
theorem Sl (a0 : Int) (a1 : List Int) (u0 : Sm 2330624 a1) : Sa 298 [rI a0, rL 1 iR a1] [rI (yG a0 a1)] := by
 have f := me (yG.eq_1 a0 a1)
 have c1 := sl 2330624 a1 u0
 refine so func298 ntmps298 ?_
 refine cRs (Gu ((([a0] : List Int) ++ a1) ++ ([a0] : List Int))) ?_
 exact rt [.tmp 4] f
theorem kg (a0 : Yp) (a1 : List Int) (u0 : Sm 2326528 a1) : Sa 270 [a0.row, rL 1 iR a1] [rI (xR a0 a1)] := by
 have f := me (xR.eq_1 a0 a1)
 refine so func270 ntmps270 ?_
 refine Ln [2, 3, 4, 5, 6, 0, 1, 7, 8] mixed (by kernel_rfl) (by kernel_rfl) (by kernel_rfl) ?_
 have c1 := sl 2326528 a1 u0
 simp
 refine rpS ?_
 refine cRs (Sl a0.jc (([a0.Method] : List Int) ++ a1) (by simp (maxDischargeDepth := 12) [xB, Xo, Za (m := 2330624) (by decide) u0]; try omega)) ?_
 exact rt [.tmp 4] f
theorem VH (a0 : List Yp) (a1 : Yb) (u0 : Sm 2322432 a0) : Sa 215 [rL 5 Yp.row a0, a1.row] [(jJ a0 a1).1.row, rB (jJ a0 a1).2] := by
 have f := me (jJ.eq_1 a0 a1)
 refine so func215 ntmps215 ?_
 refine cRs (JI a0 a1.Z6) ?_
 refine cRs (Dj a1) ?_
 refine cGs (fun gg => (JI a0 a1.Key)) ?_
 refine cF f ?_ ?_ <;> intro k1 h1 f
 ·exact rt [.cell 4 107, .tmp 5] f
 refine dIo mixed ?_
 have i1 : (YA a0 a1.Z6).toNat < a0.length := by have := Qb a0 a1.Z6; exact il
 simp [i1, ZI]
 refine rpS ?_
 refine cRs (Yx.rd (R5 a1)) ?_
 refine cRs (kg (nth a0 (YA a0 a1.Z6).toNat) (zW a1) (by simp (maxDischargeDepth := 12) [PJ, Za (m := 2326528) (by decide) u0]; try omega)) ?_
 exact rt [.cell 4 107, .tmp 5] f
theorem Ea : Sd 138 [] [rL 7 Yb.row W3] := by
 have f := me (W3.eq_1)
 refine soD func138 ntmps138 ?_
 refine cRs (Yx.rd (UC)) ?_
 refine cRs (VH yD (Yb.mk 1 11 1 0 60 1 0) (by simp (maxDischargeDepth := 12) [UQ]; try omega)) ?_
 refine cRs (Yx.rd (UC)) ?_
 refine cRs (VH yD (Yb.mk 2 12 1 20 100 1 0) (by simp (maxDischargeDepth := 12) [UQ]; try omega)) ?_
 refine cRs (Yx.rd (UC)) ?_
 refine cRs (VH yD (Yb.mk 3 13 2 40 150 2 0) (by simp (maxDischargeDepth := 12) [UQ]; try omega)) ?_
 exact rtD [.tmp 0] f
theorem GG (a0 : Int) : Sd 56 [rI a0] [(YD a0).row] := by
 have f := me (YD.eq_1 a0)
 refine soD func56 ntmps56 ?_
 refine cRs (IS 0 a0) ?_
 refine cRs (Dy 1 (KZ 0 a0)) ?_
 refine cDs [false] (UC) ?_
 refine cDs [false] (Rs) ?_
 refine cDs [false] (Fu) ?_
 refine cDs [false] (Ea) ?_
 refine wj (news := (([(ZJ.mk 0 ([] : List Zj)), (ZJ.mk 1 ([] : List Zj))] : List ZJ).map ZJ.row)) (L := []) rfl rfl rfl rfl (by simp) (by simp) (by simp) (by simp) (by simp) (by simp) ?_
 simp
 refine cF f ?_ ?_ <;> intro k1 h1 f
 ·exact rtD [.cell 2 33] f
 exact rtD [.cell 2 33] f
theorem BH {a b : Prop} (h : b) (k : a := by (intros; first | omega | with_unfolding_all (first | first | omega | (have z := KT a0 (a1.length : Int); omega)) | ((try simp only [X9, show ∀ x, IntKind.i64.wrap x = W x from fun _ => rfl] at *); omega))) : a /\ b := ⟨k, h⟩
theorem xL (a0 : ZU) (a1 : List Int) (u0 : 0 < a1.length) : xY prog 72 false a0.row [rL 1 iR a1] (ZK a0 a1).1.row [rI (ZK a0 a1).2] := by
 have f := me (ZK.eq_1 a0 a1)
 refine y7 func72 rfl (by kernel_rfl) (fun v => ?_)
 simp [ntmps72]
 refine cBo [] (Qu a0 (a1.length : Int)) ?_
 have i1 : (ZH a0 (a1.length : Int)).2.toNat < a1.length := by (have z := KT a0 (a1.length : Int); omega)
 simp [i1, ZI]
 repeat with_reducible refine BH ?_
 refine Pq (rv := [.tmp 4]) rfl ?_
 simp [f.h]
theorem BO {a b : Prop} (h : b) (k : a := by (intros; first | omega | with_unfolding_all (first | first | omega | (have z := KT a0 (a1.length : Int); omega)) | ((try simp only [X9, show ∀ x, IntKind.i64.wrap x = W x from fun _ => rfl] at *); omega))) : a /\ b := ⟨k, h⟩
theorem BJ (a0 : ZU) (a1 : List ByteArray) (u0 : 0 < a1.length) : xY prog 297 false a0.row [rL 1 sR a1] (RT a0 a1).1.row [rS (RT a0 a1).2] := by
 have f := me (RT.eq_1 a0 a1)
 refine y7 func297 rfl (by kernel_rfl) (fun v => ?_)
 simp [ntmps297]
 refine cBo [] (Qu a0 (a1.length : Int)) ?_
 have i1 : (ZH a0 (a1.length : Int)).2.toNat < a1.length := by (have z := KT a0 (a1.length : Int); omega)
 simp [i1, ZI]
 repeat with_reducible refine BO ?_
 refine Pq (rv := [.tmp 4]) rfl ?_
 simp [f.h]
theorem Da (a0 : ZU) : xY prog 225 false a0.row [] (zj a0).1.row [rS (zj a0).2] := by
 have f := me (zj.eq_1 a0)
 refine y7 func225 rfl (by kernel_rfl) (fun v => ?_)
 simp [ntmps225]
 refine ui [(4, 0)] rfl (by simp) ?_
 refine cBs [] (BJ a0 ([(⟨#[]⟩ : ByteArray), (⟨#[97]⟩ : ByteArray), (⟨#[98]⟩ : ByteArray), (⟨#[97, 98]⟩ : ByteArray), (⟨#[121, 101, 115]⟩ : ByteArray), (⟨#[110, 111]⟩ : ByteArray), (⟨#[111, 110, 101, 32, 104, 117, 110, 100, 114, 101, 100]⟩ : ByteArray)] : List ByteArray) (by first | omega | (simp; done) | (simp; omega))) ?_
 refine Pq (rv := [.tmp 2]) rfl ?_
 simp [f.h]
theorem WU (a0 : Ze) : Sa 287 [a0.row] [rB (KK a0)] := by
 have f := me (KK.eq_1 a0)
 refine so func287 ntmps287 ?_
 refine lp1 (zx.eq_2 a0) (fun J => Y5 51 [eX 1 (a0.row.map .d), eI 3 (J : Int)]) (fun n1 J => a0.XJ.length < n1 + J /\ J <= a0.XJ.length) (a0.XJ.length + 1) 0 (fun p1 J e1 j1 => ?_)
 refine cFf e1 ?_ ?_ <;> intro k2 h1 e1
 ·have i1 := ix h1
  have m2 := ml a0.XJ (k2 7 _ rfl)
  have w1 := wr J
  simp [i1, ZI]
  refine rpS ?_
  refine cF e1 ?_ ?_ <;> intro k3 h2 e1
  ·have f := ms f e1
   exact rt [.tmp 2] f
  exact ny1 w1 e1
 have f := ms f e1
 refine lp1 (yE.eq_2 a0) (fun pR => Y5 51 [eX 1 (a0.row.map .d), eI 4 (pR : Int)]) (fun n2 pR => a0.Qs.length < n2 + pR /\ pR <= a0.Qs.length) (a0.Qs.length + 1) 0 (fun p2 pR e2 j2 => ?_)
 refine cFf e2 ?_ ?_ <;> intro k5 h3 e2
 ·have i2 := ix h3
  have m4 := ml a0.Qs (k5 21 _ rfl)
  have w2 := wr pR
  simp [i2, ZI]
  refine rpS ?_
  refine cRs (Y4 (nth a0.Qs pR) 1 1000000000000) ?_
  refine cFo e2 ?_ ?_ <;> intro k6 h4 e2
  ·have q4 := h4; try simp [Yg] at q4
   have f := ms f e2
   simp
   exact rt [.tmp 2] f
  have q4 := h4; try simp [Yg] at q4
  simp
  exact ny1 w2 e2
 have f := ms f e2
 refine cRs (Y4 a0.WB 0 999) ?_
 refine cGs (fun gg => (Y4 (a0.XJ.length : Int) 1 6)) ?_
 exact rt [.tmp 2] f
theorem LB (a0 : Int) : Sa 299 [rI a0] [rB (jY a0)] := by
 have f := me (jY.eq_1 a0)
 refine so func299 ntmps299 ?_
 refine cRs (Y4 a0 1 2147483646) ?_
 exact rt [.tmp 2] f
theorem OP (a0 : Int) (a1 : List ByteArray) (a2 : Int) (u0 : Sm 2326528 a1) : Sd 226 [rI a0, rL 1 sR a1, rI a2] [(zq a0 a1 a2).1.row, rB (zq a0 a1 a2).2] := by
 have f := me (zq.eq_1 a0 a1 a2)
 have c1 := sl 2326528 a1 u0
 refine soD func226 ntmps226 ?_
 refine lp2 (yB.eq_2 a0 a1 a2) (fun J U => Y5 42 [eI 0 a0, eL 1 1 a1 sR, eI 2 a2, (6, .one (.bptr 6 0), [.box [.d (.int .i64 0), .nil 1, .nil 1]]), (8, .one (.bptr 8 0), [.box [.d (.int .i64 a0), .sref 13 0 0 a1.length, .sref 8 3 0 U.length], .none, .none, .arr false 1 (U.map iR)]), eI 9 (J : Int), (13, .any, [.arr false 1 (a1.map sR)])]) (fun n1 J U => a1.length < n1 + J /\ J <= a1.length /\ U.length <= 0 + 1 * J) (a1.length + 1) 0 ([] : List Int) (fun p1 J U e1 j1 => ?_) (h0 := wkS [((8, 3), none)] [])
 refine cF e1 ?_ ?_ <;> intro k2 h1 e1
 ·have i1 := ix h1
  have m2 := ml a1 (k2 1 _ rfl)
  have w1 := wr J
  refine dIs mixed ?_
  refine cRs (Sl a2 ([a0, (J : Int)] : List Int) (by simp (maxDischargeDepth := 12) [xB, Xo, Za (m := 2330624) (by decide) u0]; try omega)) ?_
  refine cRs (IS 1 (yG a2 ([a0, (J : Int)] : List Int))) ?_
  exact nx2 e1 (hw := X1 [((8, 3), some (30, 0))] [] rfl (by simp [w1]))
 have f := ms f e1
 refine cRs (WU (Ze.mk a0 a1 U)) ?_
 refine cGs (fun gg => (LB a2)) ?_
 refine cF f ?_ ?_ <;> intro k4 h2 f
 ·exact rtD [.cell 6 43, .tmp 7] f
 exact rtD [.cell 6 43, .tmp 7] f
theorem MS (a0 : ZU) : xY prog 154 true a0.row [] (Zb a0).1.row [(Zb a0).2.row] := by
 have f := me (Zb.eq_1 a0)
 refine y7 func154 rfl (by kernel_rfl) (fun v => ?_)
 simp [ntmps154]
 refine cBs [] (Qu a0 3) ?_
 refine lp5 (kW.eq_2) (fun J U pO pQ pw => Y5 28 [(0, .fix v (.one (.bptr 0 0)), [.box [.d (.sl 1 (pO.map bR)), .d (.int .i64 (pQ : Int)), .d (.int .i64 pw)]]), (2, .one (.bptr 2 0), [.box [.d (.int .i64 0), .nil 1, .nil 1]]), (3, .one (.sref 3 0 0 J.length), [.arr false 1 (J.map sR)]), eI 4 U]) (fun n1 J U pO pQ pw => U + 1 <= (n1 : Int) /\ 0 <= U /\ (J.length : Int) + U <= 3 /\ (∀ x ∈ J, x.size <= 11)) 5 ([] : List ByteArray) (W (1 + (ZH a0 3).2)) (ZH a0 3).1.b (ZH a0 3).1.i (ZH a0 3).1.h (fun p1 J U pO pQ pw e1 j1 => ?_) (hI := by (have z := KT a0 3; (try dsimp only); simp only [X9, List.length_nil]; refine ⟨by omega, by omega, by omega, by omega, fun x h => by cases h⟩)) (h0 := wkS [((3, 0), some (7, 0))] [])
 try dsimp only at j1
 refine cF e1 ?_ ?_ <;> intro k2 h1 e1
 ·refine cBs [] (Da (ZU.mk pO pQ pw)) ?_
  exact nx5 e1 (hI := by (have hh := h1; simp at hh; (try dsimp only); simp only [X9, List.length_append, List.length_singleton]; refine ⟨by omega, by omega, by omega, by omega, fun x hx => ?_⟩; rcases List.mem_append.1 hx with hx | hx; exact j1.2.2.2.2 x hx; simp at hx; rw [hx]; exact R9 _)) (hw := wkS [((3, 0), some (19, 0))] [])
 have f := ms f e1
 refine cBs [] (Qu (ZU.mk pO pQ pw) 5) ?_
 refine cDs [true, false, false] (OP (ZH (ZU.mk pO pQ pw) 5).2 J 11 (by (exact ⟨by omega, fun x hx => Nat.le_trans (j1.2.2.2.2 x hx) (by decide)⟩))) ?_
 refine Pq (rv := [.cell 2 43]) rfl ?_
 simp [f.h]
theorem GJ (a0 : ZW) (u0 : Sm 2342912 a0) : Sd 200 [a0.row] [(P9 a0).row] := by
 have f := me (P9.eq_1 a0)
 have c1 := sl 2342912 a0.Zo u0
 have c2 := sl 2342912 a0.ZC u0
 have c3 := sl 2342912 a0.Methods u0
 refine soD func200 ntmps200 ?_
 exact rtD [.cell 2 28] f
theorem L2 (a0 : ZW) (u0 : Sm 2342912 a0) : Sd 200 [a0.row] [a0.row] := by
  have h := GJ a0 u0
  rwa [GN] at h
theorem De (a0 : Ze) (u0 : Sm 2342912 a0) : Sd 264 [a0.row] [(IU a0).row] := by
 have f := me (IU.eq_1 a0)
 refine soD func264 ntmps264 ?_
 refine Ln [2, 3, 4, 5, 6, 7, 8, 9, 0, 1, 10, 11] mixed (by kernel_rfl) (by kernel_rfl) (by kernel_rfl) ?_
 have c1 := sl 2342912 a0.XJ u0
 have c2 := sl 2342912 a0.Qs u0
 simp
 refine rpS ?_
 exact rtD [.cell 2 43] f
theorem Ol (a0 : Ze) (u0 : Sm 2342912 a0) : Sd 264 [a0.row] [a0.row] := by
  have h := De a0 u0
  rwa [CD] at h
theorem Ee (a0 : ZS) (u0 : Sm 2342912 a0) : Sd 322 [a0.row] [(NS a0).row] := by
 have f := me (NS.eq_1 a0)
 refine soD func322 ntmps322 ?_
 refine Ln [2, 3, 4, 5, 0, 1, 6, 7, 8, 9] mixed (by kernel_rfl) (by kernel_rfl) (by kernel_rfl) ?_
 have c1 := sl 2342912 a0.YV u0
 simp
 refine rpS ?_
 exact rtD [.cell 2 177] f
theorem PQ (a0 : ZS) (u0 : Sm 2342912 a0) : Sd 322 [a0.row] [a0.row] := by
  have h := Ee a0 u0
  rwa [Fp] at h
theorem DD (a0 : List ZS) (u0 : Sm 2338816 a0) : Sd 283 [rL 3 ZS.row a0] [rL 3 ZS.row (OH a0)] := by
 have f := me (OH.eq_1 a0)
 refine soD func283 ntmps283 ?_
 refine wj (news := (([] : List ZS).map ZS.row)) (L := []) rfl rfl rfl rfl (by simp) (by simp) (by simp) (by simp) (by simp) (by simp) ?_
 simp
 refine lp2 (Tl.eq_2 a0) (fun J U => Y5 21 [eL 0 3 a0 ZS.row, (3, .one (.sref 3 0 0 J.length), [.arr true 3 (J.map ZS.row)]), eI 4 (U : Int)]) (fun n1 J U => a0.length < n1 + U /\ U <= a0.length /\ J.length <= 0 + 1 * U) (a0.length + 1) ([] : List ZS) 0 (fun p1 J U e1 j1 => ?_) (h0 := wkS [((3, 0), some (5, 0))] [])
 refine cFf e1 ?_ ?_ <;> intro k2 h1 e1
 ·have i1 := ix h1
  have m2 := ml a0 (k2 0 _ rfl)
  have c1 := sl 2338816 a0 u0
  have w1 := wr U
  simp [i1, ZI]
  refine rpS ?_
  refine cDs [true, false] (PQ (nth a0 U) (sg (Z4 u0))) ?_
  refine T7 ?_
  simp
  refine Ss (pW := (J.map ZS.row)) (news := (([(nth a0 U)] : List ZS).map ZS.row)) (l1 := [(3, 0)]) (l2 := [(17, 1)]) (size := 3) ?_
  simp
  exact nx2 e1 (hw := X1 [((3, 0), some (19, 0))] [] rfl (by simp [w1]))
 have c2 := sl 2338816 a0 u0
 have f := ms f e1
 exact rtD [.tmp 2] f
theorem Fe (a0 : List ZS) (u0 : Sm 2338816 a0) : Sd 283 [rL 3 ZS.row a0] [rL 3 ZS.row a0] := by
  have h := DD a0 u0
  rwa [DG] at h
theorem EV (a0 : ZV) (u0 : Sm 2342912 a0) : Sd 213 [a0.row] [(NU a0).row] := by
 have f := me (NU.eq_1 a0)
 have c1 := sl 2342912 a0.Path u0
 have c2 := sl 2342912 a0.YI u0
 refine soD func213 ntmps213 ?_
 exact rtD [.cell 2 140] f
theorem R7 (a0 : ZV) (u0 : Sm 2342912 a0) : Sd 213 [a0.row] [a0.row] := by
  have h := EV a0 u0
  rwa [Fq] at h
theorem EA (a0 : ZQ) (u0 : Sm 2334720 a0) : Sd 208 [a0.row] [(Re a0).row] := by
 have f := me (Re.eq_1 a0)
 refine soD func208 ntmps208 ?_
 refine cDs [] (Fe a0.ZM (sg (ZQ.QB u0))) ?_
 refine lp2 (UJ.eq_2 a0) (fun J U => Y5 28 [eX 1 (a0.row.map .d), (2, .one (.bptr 2 0), [.box [.nil 3, .nil 5]]), (3, .one (.bptr 3 0), [.box [.sref 7 0 0 a0.ZM.length, .sref 3 2 0 U.length], .none, .arr true 5 (U.map ZV.row)]), eI 4 (J : Int), (7, .any, [.arr true 3 (a0.ZM.map ZS.row)])]) (fun n1 J U => a0.ZR.length < n1 + J /\ J <= a0.ZR.length /\ U.length <= 0 + 1 * J) (a0.ZR.length + 1) 0 ([] : List ZV) (fun p1 J U e1 j1 => ?_) (h0 := wkS [((3, 2), none)] [])
 refine cF e1 ?_ ?_ <;> intro k2 h1 e1
 ·have i1 := ix h1
  have m2 := ml a0.ZR (k2 11 _ rfl)
  have c1 := sl 2334720 a0.ZR u0
  have w1 := wr J
  refine drJ [25] mixed ?_
  simp [i1, ZI]
  refine rpS ?_
  refine cDs [true, true, true, false, false] (R7 (nth a0.ZR J) (sg (Z4 (ZQ.yq u0)))) ?_
  refine T7 ?_
  simp
  refine Ss (pW := (U.map ZV.row)) (news := (([(nth a0.ZR J)] : List ZV).map ZV.row)) (l1 := [(3, 2)]) (l2 := [(23, 3), (23, 4)]) (size := 5) ?_
  simp
  exact nx2 e1 (hw := X1 [((3, 2), some (25, 0))] [] rfl (by simp [w1]))
 have c2 := sl 2334720 a0.ZR u0
 have f := ms f e1
 exact rtD [.cell 2 68] f
theorem y4 (a0 : ZQ) (u0 : Sm 2334720 a0) : Sd 208 [a0.row] [a0.row] := by
  have h := EA a0 u0
  rwa [EY] at h
theorem Fs (a0 : Zj) (u0 : Sm 2330624 a0) : Sd 207 [a0.row] [(N8 a0).row] := by
 have f := me (N8.eq_1 a0)
 refine soD func207 ntmps207 ?_
 refine cDs [true, false, false] (Ol a0.Doc (sg (Zj.W7 u0))) ?_
 refine cDs [] (y4 a0.ZP (sg (Zj.XS u0))) ?_
 exact rtD [.cell 2 70] f
theorem yy (a0 : Zj) (u0 : Sm 2330624 a0) : Sd 207 [a0.row] [a0.row] := by
  have h := Fs a0 u0
  rwa [F4] at h
theorem Fz (a0 : ZJ) (u0 : Sm 2326528 a0) : Sd 128 [a0.row] [(RW a0).row] := by
 have f := me (RW.eq_1 a0)
 refine soD func128 ntmps128 ?_
 refine lp2 (UB.eq_2 a0) (fun J U => Y5 27 [eX 1 (a0.row.map .d), (2, .one (.bptr 2 0), [.box [.d (.int .i64 0), .nil 16]]), (3, .one (.bptr 3 0), [.box [.d (.int .i64 a0.Id), .sref 3 2 0 U.length], .none, .arr true 16 (U.map Zj.row)]), eI 4 (J : Int)]) (fun n1 J U => a0.ZD.length < n1 + J /\ J <= a0.ZD.length /\ U.length <= 0 + 1 * J) (a0.ZD.length + 1) 0 ([] : List Zj) (fun p1 J U e1 j1 => ?_) (h0 := wkS [((3, 2), none)] [])
 refine cF e1 ?_ ?_ <;> intro k2 h1 e1
 ·have i1 := ix h1
  have m2 := ml a0.ZD (k2 10 _ rfl)
  have c1 := sl 2326528 a0.ZD u0
  have w1 := wr J
  refine drJ [24] mixed ?_
  simp [i1, ZI]
  refine rpS ?_
  refine cDs [true, true, true, false, false] (yy (nth a0.ZD J) (sg (Z4 (ZJ.XQ u0)))) ?_
  refine T7 ?_
  simp
  refine Ss (pW := (U.map Zj.row)) (news := (([(nth a0.ZD J)] : List Zj).map Zj.row)) (l1 := [(3, 2)]) (l2 := [(22, 3), (22, 4), (22, 14), (22, 15)]) (size := 16) ?_
  simp
  exact nx2 e1 (hw := X1 [((3, 2), some (24, 0))] [] rfl (by simp [w1]))
 have c2 := sl 2326528 a0.ZD u0
 have f := ms f e1
 exact rtD [.cell 2 73] f
theorem zX (a0 : ZJ) (u0 : Sm 2326528 a0) : Sd 128 [a0.row] [a0.row] := by
  have h := Fz a0 u0
  rwa [Ff] at h
theorem EK (a0 : ZG) (u0 : Sm 2322432 a0) : Sd 111 [a0.row] [(RV a0).row] := by
 have f := me (RV.eq_1 a0)
 refine soD func111 ntmps111 ?_
 refine Ln [0, 1, 2, 3, 4, 5, 6, 7, 8, 9, 10, 11, 12, 13, 14, 15, 16, 17, 18, 21, 22, 23, 24, 19, 20, 25, 26, 27] mixed (by kernel_rfl) (by kernel_rfl) (by kernel_rfl) ?_
 simp
 have c1 := sl 2322432 a0.ZZ u0
 have c2 := sl 2322432 a0.YQ u0
 have c3 := sl 2322432 a0.YZ u0
 have c4 := sl 2322432 a0.YR u0
 have c5 := sl 2322432 a0.YK u0
 refine cDs [false, false, false] (L2 a0.Frame (sg (ZG.Xk u0))) ?_
 refine lp2 (UE.eq_2 a0) (fun J U => Y5 50 [eX 1 (a0.row.map .d), (2, .one (.bptr 2 0), [.box [.nil 5, .nil 3, .nil 4, .d (.int .i64 0), .d (.int .i64 0), .nil 7, .nil 1, .nil 2, .nil 1, .nil 1, .d (.int .i64 0), .nil 1]]), (3, .one (.bptr 3 0), [.box [.sref 7 0 0 a0.Frame.Zo.length, .sref 7 1 0 a0.Frame.ZC.length, .sref 7 2 0 a0.Frame.Methods.length, .d (.int .i64 a0.Frame.X8), .d (.int .i64 a0.Frame.Now), .sref 11 0 0 a0.ZZ.length, .sref 15 0 0 a0.YQ.length, .sref 3 8 0 U.length, .sref 19 0 0 a0.YZ.length, .sref 23 0 0 a0.YR.length, .d (.int .i64 a0.Next), .sref 29 0 0 a0.YK.length], .none, .none, .none, .none, .none, .none, .none, .arr true 2 (U.map ZJ.row)]), eI 4 (J : Int), (7, .any, [.arr false 5 (a0.Frame.Zo.map Yp.row), .arr false 3 (a0.Frame.ZC.map Zg.row), .arr false 4 (a0.Frame.Methods.map Z5.row)]), (11, .any, [.arr false 7 (a0.ZZ.map Yb.row)]), (15, .any, [.arr false 1 (a0.YQ.map iR)]), (19, .any, [.arr false 1 (a0.YZ.map iR)]), (23, .any, [.arr false 1 (a0.YR.map iR)]), (29, .any, [.arr false 1 (a0.YK.map iR)])]) (fun n1 J U => a0.ZB.length < n1 + J /\ J <= a0.ZB.length /\ U.length <= 0 + 1 * J) (a0.ZB.length + 1) 0 ([] : List ZJ) (fun p1 J U e1 j1 => ?_) (h0 := wkS [((3, 8), none)] [])
 refine cF e1 ?_ ?_ <;> intro k3 h1 e1
 ·have i1 := ix h1
  have m2 := ml a0.ZB (k3 33 _ rfl)
  have c6 := sl 2322432 a0.ZB u0
  have w1 := wr J
  refine drJ [47] mixed ?_
  simp [i1, ZI]
  refine rpS ?_
  refine cDs [] (zX (nth a0.ZB J) (sg (Z4 (ZG.Yq u0)))) ?_
  refine T7 ?_
  simp
  refine Ss (pW := (U.map ZJ.row)) (news := (([(nth a0.ZB J)] : List ZJ).map ZJ.row)) (l1 := [(3, 8)]) (l2 := [(45, 1)]) (size := 2) ?_
  simp
  exact nx2 e1 (hw := X1 [((3, 8), some (47, 0))] [] rfl (by simp [w1]))
 have c7 := sl 2322432 a0.ZB u0
 have f := ms f e1
 exact rtD [.cell 2 33] f
theorem y8 (a0 : ZG) (u0 : Sm 2322432 a0) : Sd 111 [a0.row] [a0.row] := by
  have h := EK a0 u0
  rwa [Fg] at h
theorem SJ (a0 : ZG) (a1 : Int) : Sa 182 [a0.row, rI a1] [rB (Ke a0 a1)] := by
 have f := me (Ke.eq_1 a0 a1)
 refine so func182 ntmps182 ?_
 refine cRs (Y4 a1 0 (W ((a0.ZB.length : Int) - 1))) ?_
 exact rt [.tmp 4] f
theorem WY (a0 : List Z5) (a1 : Int) : Sa 191 [rL 4 Z5.row a0, rI a1] [rI (Zp a0 a1)] := by
 have f := me (Zp.eq_1 a0 a1)
 refine so func191 ntmps191 ?_
 refine lp2 (zy.eq_2 a0 a1) (fun J U => Y5 54 [eL 0 4 a0 Z5.row, eI 1 a1, eI 5 J, eI 6 (U : Int)]) (fun n1 J U => a0.length < n1 + U /\ U <= a0.length /\ -1 <= J /\ J < (a0.length : Int)) (a0.length + 1) (-1) 0 (fun p1 J U e1 j1 => ?_)
 try dsimp only at j1
 refine cF e1 ?_ ?_ <;> intro k2 h1 e1
 ·have i1 := ix h1
  have m2 := ml a0 (k2 0 _ rfl)
  have w1 := wr U
  refine dIo mixed ?_
  simp [i1, ZI]
  refine rpS ?_
  refine gIf ?_ ?_ <;> intro G
  ·simp [i1, ZI, G]
   refine rpG ?_
   refine gJf G ?_ ?_ <;> intro G
   ·try (simp at G; done)
    all_goals
     simp [i1, ZI, G]
     refine rpG ?_
     refine gK (fun _ => ?_)
     have i2 := ik J.toNat a0
     simp [i2, ZI, G]
     refine rpG ?_
     refine cK e1 ?_ ?_ <;> intro k4 h2 e1
     ·exact ny2 (an w1 G) e1 (hI := by first | omega | (simp at *; omega))
     ·exact ny2 (an w1 G) e1 (hI := by first | omega | (simp at *; omega))
   ·try (simp at G; done)
    all_goals
     refine sGg ?_
     refine cK e1 ?_ ?_ <;> intro k5 h3 e1
     ·exact ny2 (an w1 G) e1 (hI := by first | omega | (simp at *; omega))
     ·exact ny2 (an w1 G) e1 (hI := by first | omega | (simp at *; omega))
  ·refine gJf G ?_ ?_ <;> intro G
   ·try (simp at G; done)
    all_goals
     simp [i1, ZI, G]
     refine rpG ?_
     refine gK (fun _ => ?_)
     have i4 := ik J.toNat a0
     simp [i4, ZI, G]
     refine rpG ?_
     refine cK e1 ?_ ?_ <;> intro k6 h4 e1
     ·simp [G] at h4
     ·simp [G] at h4
   ·try (simp at G; done)
    all_goals
     refine sGg ?_
     refine cK e1 ?_ ?_ <;> intro k7 h5 e1
     ·simp [G] at h5
     ·exact ny2 (an w1 G) e1 (hI := by first | omega | (simp at *; omega))
 have f := ms f e1
 refine cFt f ?_ ?_ <;> intro k8 h6 f
 ·exact rt [.tmp 4] f
 have i6 := ik J.toNat a0
 simp [i6, ZI]
 refine rpS ?_
 exact rt [.tmp 4] f
theorem HE (a0 : ZG) (a1 : Int) : Sa 261 [a0.row, rI a1] [rI (Xb a0 a1)] := by
 have f := me (Xb.eq_1 a0 a1)
 refine so func261 ntmps261 ?_
 refine lp1 (Js.eq_2 a0 a1) (fun J => Y5 22 [eI 1 a1, eX 2 (a0.row.map .d), eI 5 (J : Int)]) (fun n1 J => a0.ZZ.length < n1 + J /\ J <= a0.ZZ.length) (a0.ZZ.length + 1) 0 (fun p1 J e1 j1 => ?_)
 refine cFf e1 ?_ ?_ <;> intro k2 h1 e1
 ·have i1 := ix h1
  have m2 := ml a0.ZZ (k2 8 _ rfl)
  have w1 := wr J
  simp [i1, ZI]
  refine rpS ?_
  refine cF e1 ?_ ?_ <;> intro k3 h2 e1
  ·have f := ms f e1
   exact rt [.tmp 4] f
  exact ny1 w1 e1
 have f := ms f e1
 exact rt [.tmp 4] f
theorem zR (a0 : Int) (a1 : List Int) (u0 : Sm 68719476736 a1) : Sa 321 [rI a0, rL 1 iR a1] [rI (Kh a0 a1)] := by
 have f := me (Kh.eq_1 a0 a1)
 have c1 := sl 68719476736 a1 u0
 refine so func321 ntmps321 ?_
 refine cRs (Gu (([7, a0] : List Int) ++ a1)) ?_
 exact rt [.tmp 4] f
theorem LC (a0 : Int) (a1 : ByteArray) (a2 : Int) (u0 : Sm 2326528 a1) : Sa 320 [rI a0, rS a1, rI a2] [rI (jr a0 a1 a2)] := by
 have f := me (jr.eq_1 a0 a1 a2)
 refine so func320 ntmps320 ?_
 refine lp2 (xk.eq_2 a1) (fun J U => Y5 27 [eI 0 a0, (1, .one (.d (.str a1)), []), (7, .one (.sref 7 0 0 J.length), [.arr false 1 (J.map iR)]), eI 8 (U : Int)]) (fun n1 J U => a1.size < n1 + U /\ U <= a1.size /\ J.length <= 1 + 1 * U) (a1.size + 1) ([a2] : List Int) 0 (fun p1 J U e1 j1 => ?_) (h0 := wkS [((7, 0), some (10, 0))] [])
 refine cFo e1 ?_ ?_ <;> intro k2 h1 e1
 ·have q1 := h1; try simp at q1
  have c1 : a1.size <= 2326528 := EG (xs u0)
  have w1 := wr U
  simp
  refine rpS ?_
  exact nx2 e1 (hw := X1 [((7, 0), some (23, 0))] [] rfl (by simp [w1]))
 have q1 := h1; try simp at q1
 have c2 : a1.size <= 2326528 := EG (xs u0)
 have f := ms f e1
 simp
 refine cRs (zR a0 J (by first | (simp (maxDischargeDepth := 12) [Xo]; omega) | (simp (maxDischargeDepth := 12) [Za (m := 68719476736) (by decide) u0]; done))) ?_
 exact rt [.tmp 6] f
theorem SV (a0 : Int) (a1 : Ze) (u0 : Sm 2322432 a1) : Sa 263 [rI a0, a1.row] [rI (JY a0 a1)] := by
 have f := me (JY.eq_1 a0 a1)
 refine so func263 ntmps263 ?_
 refine cRs (WU a1) ?_
 refine cF f ?_ ?_ <;> intro k1 h1 f
 ·exact rt [.tmp 4] f
 refine lp2 (qZ.eq_2 a0 a1) (fun J U => Y5 38 [eI 0 a0, eX 3 (a1.row.map .d), (5, .one (.sref 5 0 0 J.length), [.arr false 1 (J.map iR)]), eI 6 (U : Int)]) (fun n1 J U => a1.XJ.length < n1 + U /\ U <= a1.XJ.length /\ J.length <= 1 + 1 * U) (a1.XJ.length + 1) ([a1.WB] : List Int) 0 (fun p1 J U e1 j1 => ?_) (h0 := wkS [((5, 0), some (12, 0))] [])
 try dsimp only at j1
 refine cF e1 ?_ ?_ <;> intro k3 h2 e1
 ·have i1 := ix h2
  have m2 := ml a1.XJ (k3 15 _ rfl)
  have c1 := sl 2322432 a1.XJ u0
  have w1 := wr U
  refine dIo mixed ?_
  have i2 : U < a1.Qs.length := by (have := NW (a := a1); first | (simp_all; done) | (simp_all; omega))
  simp [i1, ZI, i2]
  refine rpS ?_
  refine cRs (LC a0 (nth a1.XJ U) (nth a1.Qs U) (sg (Z4 (Ze.Ij u0)))) ?_
  exact nx2 e1 (hw := X1 [((5, 0), some (34, 0))] [] rfl (by simp [w1]))
 have c2 := sl 2322432 a1.XJ u0
 have f := ms f e1
 refine cRs (zR a0 J (by first | (simp (maxDischargeDepth := 12) [Xo]; omega) | (simp (maxDischargeDepth := 12) [Za (m := 68719476736) (by decide) u0]; done))) ?_
 exact rt [.tmp 4] f
theorem MK (a0 : Zq) : Sa 318 [a0.row] [rB (qc a0)] := by
 have f := me (qc.eq_1 a0)
 refine so func318 ntmps318 ?_
 refine cRs (Y4 a0.Key 1 99) ?_
 refine cGs (fun gg => (Y4 a0.Zn 1 999)) ?_
 refine cGs (fun gg => (Y4 a0.Method 0 99)) ?_
 refine cGs (fun gg => (Y4 a0.Org 0 99)) ?_
 refine cGs (fun gg => (Y4 a0.xU 1 3)) ?_
 refine cGs (fun gg => (Y4 a0.Yt 0 1000000000000)) ?_
 refine cGs (fun gg => (Y4 a0.xQ 0 1000000000000)) ?_
 refine cGs (fun gg => (Y4 a0.qX 0 1000000000000)) ?_
 exact rt [.tmp 2] f
theorem VJ (a0 : Zq) : Sd 319 [a0.row] [rL 1 iR (QZ a0)] := by
 have f := me (QZ.eq_1 a0)
 refine soD func319 ntmps319 ?_
 exact rtD [.tmp 2] f
theorem Mv (a0 : List Yp) (a1 : Zq) (u0 : Sm 2322432 a0) : Sa 262 [rL 5 Yp.row a0, a1.row] [(KO a0 a1).1.row, rB (KO a0 a1).2] := by
 have f := me (KO.eq_1 a0 a1)
 refine so func262 ntmps262 ?_
 refine cRs (JI a0 a1.Key) ?_
 refine cRs (MK a1) ?_
 refine cF f ?_ ?_ <;> intro k1 h1 f
 ·exact rt [.cell 4 64, .tmp 5] f
 refine dIo mixed ?_
 have i1 : (YA a0 a1.Key).toNat < a0.length := by have := Qb a0 a1.Key; exact il
 simp [i1, ZI]
 refine rpS ?_
 refine cRs (Yx.rd (VJ a1)) ?_
 refine cRs (kg (nth a0 (YA a0 a1.Key).toNat) (QZ a1) (by simp (maxDischargeDepth := 12) [Vh, Za (m := 2326528) (by decide) u0]; try omega)) ?_
 exact rt [.cell 4 64, .tmp 5] f
theorem Se (a0 : Zq) : Sd 265 [a0.row] [(yJ a0).row] := by
 have f := me (yJ.eq_1 a0)
 refine soD func265 ntmps265 ?_
 refine dIs mixed ?_
 refine cDs [false] (VJ a0) ?_
 exact rtD [.cell 2 177] f
theorem Ik (a0 : Yb) : Sd 266 [a0.row] [(jM a0).row] := by
 have f := me (jM.eq_1 a0)
 refine soD func266 ntmps266 ?_
 refine dIs mixed ?_
 refine cDs [false] (R5 a0) ?_
 exact rtD [.cell 2 177] f
theorem Od (a0 : ZG) (a1 : Int) (a2 : Ze) (a3 : Int) (a4 : Int) (u0 : Sm 2318336 a0) (u1 : Sm 2318336 a2) : So 183 [a0.row, rI a1, a2.row, rI a3, rI a4] [(Xh a0 a1 a2 a3 a4).1.row, rB (Xh a0 a1 a2 a3 a4).2] := by
 have f := me (Xh.eq_1 a0 a1 a2 a3 a4)
 refine so func183 ntmps183 ?_
 refine cRs (WY a0.Frame.Methods a0.Frame.Now) ?_
 refine cRs (HE a0 a1) ?_
 refine cF f ?_ ?_ <;> intro k1 h1 f
 ·exact rtO [.cell 10 70, .tmp 11] f
 refine dIo mixed ?_
 have i1 : (Xb a0 a1).toNat < a0.ZZ.length := by have := I7 a0 a1; exact il
 simp [i1, ZI]
 refine rpS ?_
 refine cRs (SV (Zp a0.Frame.Methods a0.Frame.Now) a2 (sg u1)) ?_
 refine cRs (Mv a0.Frame.Zo (Zq.mk a1 (nth a0.ZZ (Xb a0 a1).toNat).Zn (Zp a0.Frame.Methods a0.Frame.Now) (JY (Zp a0.Frame.Methods a0.Frame.Now) a2) 1 a3 0 0 0) (sg (ZW.XY (ZG.Xk u0)))) ?_
 refine dIs mixed ?_
 refine cDs [true, false, false] (Ol a2 (sg u1)) ?_
 refine cRf i1 (Yx.rd (Se (KO a0.Frame.Zo (Zq.mk a1 (nth a0.ZZ (Xb a0 a1).toNat).Zn (Zp a0.Frame.Methods a0.Frame.Now) (JY (Zp a0.Frame.Methods a0.Frame.Now) a2) 1 a3 0 0 0)).1)) ?_
 refine cRs (Yx.rd (Ik (nth a0.ZZ (Xb a0 a1).toNat))) ?_
 refine eIs ?_
 exact rtO [.cell 10 70, .tmp 11] f
theorem He (a0 : List Int) (a1 : List Int) : Sa 330 [rL 1 iR a0, rL 1 iR a1] [rB (V8 a0 a1)] := by
 have f := me (V8.eq_1 a0 a1)
 refine so func330 ntmps330 ?_
 refine cF f ?_ ?_ <;> intro k1 h1 f
 ·exact rt [.tmp 4] f
 refine lp1 (kd.eq_2 a0 a1) (fun J => Y5 26 [eL 0 1 a0 iR, eL 1 1 a1 iR, eI 5 (J : Int)]) (fun n1 J => a0.length < n1 + J /\ J <= a0.length) (a0.length + 1) 0 (fun p1 J e1 j1 => ?_)
 refine cF e1 ?_ ?_ <;> intro k3 h2 e1
 ·have i1 := ix h2
  have m2 := ml a0 (k3 0 _ rfl)
  have w1 := wr J
  refine dIo mixed ?_
  have i2 := ik J a1
  simp [i1, ZI, i2]
  refine rpS ?_
  refine cF e1 ?_ ?_ <;> intro k5 h3 e1
  ·have f := ms f e1
   exact rt [.tmp 4] f
  exact ny1 w1 e1
 have f := ms f e1
 exact rt [.tmp 4] f
theorem Uu (a0 : ZS) (a1 : ZS) : Sa 288 [a0.row, a1.row] [rB (y2 a0 a1)] := by
 have f := me (y2.eq_1 a0 a1)
 refine so func288 ntmps288 ?_
 refine cGs (fun gg => (He a0.YV a1.YV)) ?_
 exact rt [.tmp 4] f
theorem IY (a0 : ZQ) (a1 : ZS) : Sa 289 [a0.row, a1.row] [rI (yH a0 a1)] := by
 have f := me (yH.eq_1 a0 a1)
 refine so func289 ntmps289 ?_
 refine lp1 (yz.eq_2 a0 a1) (fun J => Y5 21 [eX 2 (a0.row.map .d), eX 3 (a1.row.map .d), eI 5 (J : Int)]) (fun n1 J => a0.ZM.length < n1 + J /\ J <= a0.ZM.length) (a0.ZM.length + 1) 0 (fun p1 J e1 j1 => ?_)
 refine cF e1 ?_ ?_ <;> intro k2 h1 e1
 ·have i1 := ix h1
  have m2 := ml a0.ZM (k2 8 _ rfl)
  have w1 := wr J
  refine dIo mixed ?_
  simp [i1, ZI]
  refine rpS ?_
  refine cRs (Uu (nth a0.ZM J) a1) ?_
  refine cF e1 ?_ ?_ <;> intro k4 h2 e1
  ·have f := ms f e1
   exact rt [.tmp 4] f
  exact ny1 w1 e1
 have f := ms f e1
 exact rt [.tmp 4] f
theorem UW (a0 : ZQ) : Sa 214 [a0.row] [rB (yf a0)] := by
 have f := me (yf.eq_1 a0)
 refine so func214 ntmps214 ?_
 refine lp1 (xu.eq_2 a0) (fun J => Y5 69 [eX 1 (a0.row.map .d), eI 3 (J : Int)]) (fun n1 J => a0.ZM.length < n1 + J /\ J <= a0.ZM.length) (a0.ZM.length + 1) 0 (fun p1 J e1 j1 => ?_)
 refine cF e1 ?_ ?_ <;> intro k2 h1 e1
 ·have i1 := ix h1
  have m2 := ml a0.ZM (k2 7 _ rfl)
  have w1 := wr J
  refine dIo mixed ?_
  simp [i1, ZI]
  refine rpS ?_
  refine cRs (IY a0 (nth a0.ZM J)) ?_
  refine cF e1 ?_ ?_ <;> intro k4 h2 e1
  ·have f := ms f e1
   exact rt [.tmp 2] f
  exact ny1 w1 e1
 have f := ms f e1
 refine lp1 (xx.eq_2 a0) (fun pR => Y5 69 [eX 1 (a0.row.map .d), eI 4 (pR : Int)]) (fun n2 pR => a0.ZR.length < n2 + pR /\ pR <= a0.ZR.length) (a0.ZR.length + 1) 0 (fun p2 pR e2 j2 => ?_)
 refine cF e2 ?_ ?_ <;> intro k6 h3 e2
 ·have i2 := ix h3
  have m4 := ml a0.ZR (k6 23 _ rfl)
  have w2 := wr pR
  refine dIo mixed ?_
  simp [i2, ZI]
  refine rpS ?_
  refine cRs (Y4 (nth a0.ZR pR).Count 1 (a0.ZM.length : Int)) ?_
  refine gIf ?_ ?_ <;> intro G
  ·have i3 := ik (pR - 1) a0.ZR
   have w3 : IntKind.i64.wrap ((pR : Int) - 1) = (pR : Int) - 1 := XA (by omega) (by omega)
   simp [i3, ZI, w3, zZ, G]
   refine rpG ?_
   refine gK (fun _ => ?_)
   simp [i2, ZI, G]
   refine rpG ?_
   refine cKo e2 ?_ ?_ <;> intro k8 h4 e2
   ·have q4 := h4; try simp [Yg] at q4
    have f := ms f e2
    simp [G]
    refine rpG ?_
    exact rtg [.tmp 2] f
   ·have q4 := h4; try simp [Yg] at q4
    simp [G]
    refine rpG ?_
    exact ny1 (an w2 (an w3 G)) e2
  ·refine sGg ?_
   refine cKo e2 ?_ ?_ <;> intro k9 h5 e2
   ·have q5 := h5; try simp [Yg] at q5
    have f := ms f e2
    simp [G]
    refine rpG ?_
    exact rtg [.tmp 2] f
   ·have q5 := h5; try simp [Yg] at q5
    simp [G]
    refine rpG ?_
    exact ny1 (an w2 G) e2
 have f := ms f e2
 refine cRs (Y4 (a0.ZM.length : Int) 1 12) ?_
 exact rt [.tmp 2] f
theorem D1 (a0 : Zj) : Sa 212 [a0.row] [rB (SW a0)] := by
 have f := me (SW.eq_1 a0)
 refine so func212 ntmps212 ?_
 refine dIs mixed ?_
 refine cRs (Y4 a0.Id 1 999) ?_
 refine cGs (fun gg => (WH a0.XI)) ?_
 refine cGs (fun gg => (WU a0.Doc)) ?_
 refine cGs (fun gg => (UW a0.ZP)) ?_
 refine gIf ?_ ?_ <;> intro G
 ·have nM := G
  have g1 := G; try simp [Yg] at g1
  have i1 : 0 < a0.ZP.ZM.length := by have := Io (a := a0.ZP); simp_all
  simp [i1, ZI, G]
  refine rpG ?_
  refine cGg (fun gg => Yx.rd (Se a0.Sig)) ?_
  refine cGg (fun gg => (Uu (nth a0.ZP.ZM 0) (yJ a0.Sig))) ?_
  exact rtg [.tmp 2] f
 ·have nM := G
  refine sGo ?_
  simp [G]
  refine rpG ?_
  refine sGo ?_
  simp [G]
  refine rpG ?_
  exact rtg [.tmp 2] f
theorem xH (a0 : ZJ) : Sa 131 [a0.row] [rB (QW a0)] := by
 have f := me (QW.eq_1 a0)
 refine so func131 ntmps131 ?_
 refine lp1 (qa.eq_2 a0) (fun J => Y5 47 [eX 1 (a0.row.map .d), eI 3 (J : Int)]) (fun n1 J => a0.ZD.length < n1 + J /\ J <= a0.ZD.length) (a0.ZD.length + 1) 0 (fun p1 J e1 j1 => ?_)
 refine cF e1 ?_ ?_ <;> intro k2 h1 e1
 ·have i1 := ix h1
  have m2 := ml a0.ZD (k2 6 _ rfl)
  have w1 := wr J
  refine dIo mixed ?_
  simp [i1, ZI]
  refine rpS ?_
  refine cRs (D1 (nth a0.ZD J)) ?_
  refine gIf ?_ ?_ <;> intro G
  ·have i2 := ik (J - 1) a0.ZD
   have w2 : IntKind.i64.wrap ((J : Int) - 1) = (J : Int) - 1 := XA (by omega) (by omega)
   simp [i2, ZI, w2, zZ, G]
   refine rpG ?_
   refine gK (fun _ => ?_)
   simp [i1, ZI, G]
   refine rpG ?_
   refine cK e1 ?_ ?_ <;> intro k4 h2 e1
   ·have f := ms f e1
    exact rtg [.tmp 2] f
   ·exact ny1 (an w1 (an w2 G)) e1
  ·refine sGg ?_
   refine cK e1 ?_ ?_ <;> intro k5 h3 e1
   ·have f := ms f e1
    exact rtg [.tmp 2] f
   ·exact ny1 (an w1 G) e1
 have f := ms f e1
 refine cRs (Y4 a0.Id 0 99) ?_
 exact rt [.tmp 2] f
theorem UZ (a0 : ZJ) (a1 : Int) : Sa 267 [a0.row, rI a1] [rI (Y8 a0 a1)] := by
 have f := me (Y8.eq_1 a0 a1)
 refine so func267 ntmps267 ?_
 refine lp1 (qG.eq_2 a0 a1) (fun J => Y5 22 [eI 1 a1, eX 2 (a0.row.map .d), eI 5 (J : Int)]) (fun n1 J => a0.ZD.length < n1 + J /\ J <= a0.ZD.length) (a0.ZD.length + 1) 0 (fun p1 J e1 j1 => ?_)
 refine cFf e1 ?_ ?_ <;> intro k2 h1 e1
 ·have i1 := ix h1
  have m2 := ml a0.ZD (k2 8 _ rfl)
  have w1 := wr J
  simp [i1, ZI]
  refine rpS ?_
  refine cF e1 ?_ ?_ <;> intro k3 h2 e1
  ·have f := ms f e1
   exact rt [.tmp 4] f
  exact ny1 w1 e1
 have f := ms f e1
 exact rt [.tmp 4] f
theorem On (a0 : ZJ) (a1 : Zj) (u0 : Sm 2318336 a0) (u1 : Sm 2318336 a1) : Sd 184 [a0.row, a1.row] [(JA a0 a1).1.row, rB (JA a0 a1).2] := by
 have f := me (JA.eq_1 a0 a1)
 refine soD func184 ntmps184 ?_
 refine cRs (xH a0) ?_
 refine cGs (fun gg => (UZ a0 a1.Id)) ?_
 refine cF f ?_ ?_ <;> intro k1 h1 f
 ·refine cDs [] (zX a0 (sg u0)) ?_
  exact rtD [.cell 4 73, .tmp 5] f
 refine lp3 (QR.eq_2 a0 a1) (fun J U pO => Y5 77 [eX 2 (a0.row.map .d), eX 3 (a1.row.map .d), (4, .one (.bptr 4 0), [.box [.d (.int .i64 0), .nil 16]]), (6, .one (.bptr 6 0), [.box [.d (.int .i64 a0.Id), .sref 6 2 0 pO.length], .none, .arr true 16 (pO.map Zj.row)]), eB 7 J, eI 8 (U : Int)]) (fun n1 J U pO => a0.ZD.length < n1 + U /\ U <= a0.ZD.length /\ pO.length <= 0 + 2 * U) (a0.ZD.length + 1) false 0 ([] : List Zj) (fun p1 J U pO e1 j1 => ?_) (h0 := wkS [((6, 2), none)] [])
 refine cF e1 ?_ ?_ <;> intro k3 h2 e1
 ·have i1 := ix h2
  have m2 := ml a0.ZD (k3 26 _ rfl)
  have c1 := sl 2318336 a0.ZD (an u0 u1)
  have w1 := wr U
  refine dIs mixed ?_
  refine gIf ?_ ?_ <;> intro G
  ·simp [i1, ZI, G]
   refine rpG ?_
   refine cK e1 ?_ ?_ <;> intro k5 h3 e1
   ·refine drJ [49] mixed ?_
    simp
    refine cDg [true, true, true, false, false] (yy a1 (sg u1)) ?_
    refine T7 ?_
    simp [G]
    refine rpG ?_
    refine Ss (pW := (pO.map Zj.row)) (news := (([a1] : List Zj).map Zj.row)) (l1 := [(6, 2)]) (l2 := [(47, 3), (47, 4), (47, 14), (47, 15)]) (size := 16) ?_
    simp [G]
    refine rpG ?_
    refine drJ [60] mixed ?_
    simp [i1, ZI, G]
    refine rpG ?_
    refine cDg [true, true, true, false, false] (yy (nth a0.ZD U) (sg (Z4 (ZJ.XQ u0)))) ?_
    refine T7 ?_
    simp [G]
    refine rpG ?_
    refine Ss (pW := ((pO ++ ([a1] : List Zj)).map Zj.row)) (news := (([(nth a0.ZD U)] : List Zj).map Zj.row)) (l1 := [(49, 0)]) (l2 := [(58, 3), (58, 4), (58, 14), (58, 15)]) (size := 16) ?_
    simp [G]
    refine rpG ?_
    exact nx3 e1 (hw := X1 [((6, 2), some (60, 0))] [] rfl (by simp [w1, G]))
   ·refine drJ [60] mixed ?_
    simp [i1, ZI, G]
    refine rpG ?_
    refine cDg [true, true, true, false, false] (yy (nth a0.ZD U) (sg (Z4 (ZJ.XQ u0)))) ?_
    refine T7 ?_
    simp [G]
    refine rpG ?_
    refine Ss (pW := (pO.map Zj.row)) (news := (([(nth a0.ZD U)] : List Zj).map Zj.row)) (l1 := [(6, 2)]) (l2 := [(58, 3), (58, 4), (58, 14), (58, 15)]) (size := 16) ?_
    simp [G]
    refine rpG ?_
    exact nx3 e1 (hw := X1 [((6, 2), some (60, 0))] [] rfl (by simp [w1, G]))
  ·refine cK e1 ?_ ?_ <;> intro k9 h4 e1
   ·simp [G] at h4
   ·refine drJ [60] mixed ?_
    simp [i1, ZI, G]
    refine rpG ?_
    refine cDg [true, true, true, false, false] (yy (nth a0.ZD U) (sg (Z4 (ZJ.XQ u0)))) ?_
    refine T7 ?_
    simp [G]
    refine rpG ?_
    refine Ss (pW := (pO.map Zj.row)) (news := (([(nth a0.ZD U)] : List Zj).map Zj.row)) (l1 := [(6, 2)]) (l2 := [(58, 3), (58, 4), (58, 14), (58, 15)]) (size := 16) ?_
    simp [G]
    refine rpG ?_
    exact nx3 e1 (hw := X1 [((6, 2), some (60, 0))] [] rfl (by simp [w1, G]))
 have c2 := sl 2318336 a0.ZD (an u0 u1)
 have f := ms f e1
 refine cF f ?_ ?_ <;> intro ek h5 f
 ·refine okD fun k14 => ?_
  refine drJ [69] mixed ?_
  simp
  refine cDs [true, true, true, false, false] (yy a1 (sg u1)) ?_
  refine T7 ?_
  simp
  refine Ss (pW := (pO.map Zj.row)) (news := (([a1] : List Zj).map Zj.row)) (l1 := [(6, 2)]) (l2 := [(67, 3), (67, 4), (67, 14), (67, 15)]) (size := 16) ?_
  simp
  refine cRs (xH (ZJ.mk a0.Id (pO ++ ([a1] : List Zj)))) ?_
  refine cF f ?_ ?_ <;> intro aG h6 f
  ·refine cDs [] (zX a0 (sg u0)) ?_
   exact rtD [.cell 4 73, .tmp 5] f
  exact rtD [.cell 4 73, .tmp 5] f
 refine cRs (xH (ZJ.mk a0.Id pO)) ?_
 refine cF f ?_ ?_ <;> intro k16 h7 f
 ·refine cDs [] (zX a0 (sg u0)) ?_
  exact rtD [.cell 4 73, .tmp 5] f
 exact rtD [.cell 4 73, .tmp 5] f
theorem GV (a0 : ZG) (a1 : Int) (a2 : Int) (a3 : Ze) (a4 : Int) (a5 : Int) (u0 : Sm 2314240 a0) (u1 : Sm 2314240 a3) : Sd 102 [a0.row, rI a1, rI a2, a3.row, rI a4, rI a5] [(YG a0 a1 a2 a3 a4 a5).1.row, rB (YG a0 a1 a2 a3 a4 a5).2] := by
 have f := me (YG.eq_1 a0 a1 a2 a3 a4 a5)
 refine soD func102 ntmps102 ?_
 refine cDs [false, false, false, true, true, false, false, true, false, false, true, false] (y8 a0 (sg u0)) ?_
 refine cRs (JI a0.Frame.Zo a2) ?_
 refine dIs mixed ?_
 refine cRs (SJ a0 a1) ?_
 refine gIf ?_ ?_ <;> intro G
 ·have c1 := sl 2314240 a0.ZB (an u0 u1)
  have w1 : IntKind.i64.wrap ((a0.ZB.length : Int) - 1) = (a0.ZB.length : Int) - 1 := XA (by omega) (by omega)
  have g1 := G; try simp [w1, Ke, Yg] at g1
  have i1 : (YA a0.Frame.Zo a2).toNat < a0.Frame.Zo.length := by have := Qb a0.Frame.Zo a2; exact il
  simp [i1, ZI, G]
  refine rpG ?_
  refine cKo f ?_ ?_ <;> intro k2 h1 f
  ·have q1 := h1; try simp [w1, Ke, Yg] at q1
   simp [G]
   refine rpG ?_
   exact SO [.cell 12 33, .tmp 13] f
  ·have q1 := h1; try simp [w1, Ke, Yg] at q1
   simp [G]
   refine rpG ?_
   refine cRg (Od a0 a2 a3 a4 a5 (sg u0) (sg u1)) ?_
   refine cK f ?_ ?_ <;> intro k3 h2 f
   ·exact SO [.cell 12 33, .tmp 13] f
   ·refine dIo mixed ?_
    have i2 := ik a1.toNat a0.ZB
    simp [i2, ZI, G]
    refine rpG ?_
    refine cDg [] (On (nth a0.ZB a1.toNat) (Xh a0 a2 a3 a4 a5).1 (by first | (exact Za (n := 2314240) (by decide) (xs (an u0 u1))) | (exact Za (n := 2314240) (by decide) (xt (xs (an u0 u1)) (by decide)))) (by first | (exact Za (n := 2314240) (by decide) (xs (an u0 u1))) | (exact Za (n := 2314240) (by decide) (xt (xs (an u0 u1)) (by decide))))) ?_
    refine cKt f ?_ ?_ <;> intro k5 h3 f
    ·exact SO [.cell 12 33, .tmp 13] f
    ·simp [i2, ZI, G]
     refine rpG ?_
     refine AG (t := 21) (j := 7) (i := a1.toNat) (size := 2) (rows := (a0.ZB.map ZJ.row)) (ds := (JA (nth a0.ZB a1.toNat) (Xh a0 a2 a3 a4 a5).1).1.row) (L := [(68, 1)]) ?_
     simp [qh (x := (JA (nth a0.ZB a1.toNat) (Xh a0 a2 a3 a4 a5).1).1) rfl, c1, i2, ZI, Xy, G]
     refine rpG ?_
     exact SO [.cell 12 33, .tmp 13] f
 ·have c2 := sl 2314240 a0.ZB (an u0 u1)
  have w2 : IntKind.i64.wrap ((a0.ZB.length : Int) - 1) = (a0.ZB.length : Int) - 1 := XA (by omega) (by omega)
  refine cKo f ?_ ?_ <;> intro k6 h4 f
  ·have q4 := h4; try simp [w2, Ke, Yg] at q4
   simp [G]
   refine rpG ?_
   exact SO [.cell 12 33, .tmp 13] f
  ·simp [G] at h4
theorem Mg (a0 : ZG) (a1 : Int) : Sa 185 [a0.row, rI a1] [rI (ZO a0 a1).1, rI (ZO a0 a1).2] := by
 have f := me (ZO.eq_1 a0 a1)
 refine so func185 ntmps185 ?_
 refine lp1 (xS.eq_2 a0 a1) (fun J => Y5 26 [eI 1 a1, eX 2 (a0.row.map .d), eI 6 (J : Int)]) (fun n1 J => a0.ZB.length < n1 + J /\ J <= a0.ZB.length) (a0.ZB.length + 1) 0 (fun p1 J e1 j1 => ?_)
 refine cFf e1 ?_ ?_ <;> intro k2 h1 e1
 ·have i1 := ix h1
  have m2 := ml a0.ZB (k2 10 _ rfl)
  have w1 := wr J
  simp [i1, ZI]
  refine rpS ?_
  refine cRs (UZ (nth a0.ZB J) a1) ?_
  refine cF e1 ?_ ?_ <;> intro k3 h2 e1
  ·have f := ms f e1
   exact rt [.tmp 4, .tmp 5] f
  exact ny1 w1 e1
 have f := ms f e1
 exact rt [.tmp 4, .tmp 5] f
theorem NK (a0 : ZS) : Sa 268 [a0.row] [rI (QX a0)] := by
 have f := me (QX.eq_1 a0)
 refine so func268 ntmps268 ?_
 refine gIf ?_ ?_ <;> intro G
 ·have i1 := ik 0 a0.YV
  simp [i1, ZI, G]
  refine rpG ?_
  refine cGg (fun gg => (Y4 (nth a0.YV 0) 101 105)) ?_
  refine cKo f ?_ ?_ <;> intro k1 h1 f
  ·have q1 := h1; try simp [Yg] at q1
   simp [G]
   refine rpG ?_
   exact rtg [.tmp 2] f
  ·have q1 := h1; try simp [Yg] at q1
   simp [G]
   refine rpG ?_
   refine dIo mixed ?_
   have i2 := ik (W ((nth a0.YV 0) - 101)).toNat ([7, 5, 5, 9, 6] : List Int)
   have r1 := ZI (f := iR) i2; try simp at r1
   simp [i1, ZI, i2, r1, G]
   refine rpG ?_
   refine cKt f ?_ ?_ <;> intro k3 h2 f
   ·exact rtg [.tmp 2] f
   ·simp [i1, ZI, G]
    refine rpG ?_
    exact rtg [.tmp 2] f
 ·refine sGo ?_
  simp [G]
  refine rpG ?_
  refine cKo f ?_ ?_ <;> intro k4 h3 f
  ·have q3 := h3; try simp [Yg] at q3
   simp [G]
   refine rpG ?_
   exact rtg [.tmp 2] f
  ·simp [G] at h3
theorem HO (a0 : ZS) : Sa 186 [a0.row] [(Zt a0).1.row, rB (Zt a0).2] := by
 have f := me (Zt.eq_1 a0)
 refine so func186 ntmps186 ?_
 refine dIs mixed ?_
 refine cRs (NK a0) ?_
 refine gIf ?_ ?_ <;> intro G
 ·have nM := G
  have g1 := G; try simp at g1
  have i1 : 6 < a0.YV.length := by (have z := J7 a0; simp_all; done)
  simp [i1, ZI, G]
  refine rpG ?_
  refine cK f ?_ ?_ <;> intro k2 h1 f
  ·exact rtg [.cell 2 107, .tmp 3] f
  ·refine dIo mixed ?_
   have i2 : 1 < a0.YV.length := by (have z := J7 a0; simp_all; done)
   have i3 : 2 < a0.YV.length := by (have z := J7 a0; simp_all; done)
   have i4 : 3 < a0.YV.length := by (have z := J7 a0; simp_all; done)
   have i5 : 4 < a0.YV.length := by (have z := J7 a0; simp_all; done)
   have i6 : 5 < a0.YV.length := by (have z := J7 a0; simp_all; done)
   simp [i2, ZI, i3, i4, i5, i6, i1, G]
   refine rpG ?_
   exact rtg [.cell 2 107, .tmp 3] f
 ·have nM := G
  refine cK f ?_ ?_ <;> intro k4 h2 f
  ·exact rtg [.cell 2 107, .tmp 3] f
  ·simp [G] at h2
theorem H6 (a0 : List Yb) (a1 : Int) : Sa 187 [rL 7 Yb.row a0, rI a1] [rI (YP a0 a1)] := by
 have f := me (YP.eq_1 a0 a1)
 refine so func187 ntmps187 ?_
 refine lp1 (qD.eq_2 a0 a1) (fun J => Y5 20 [eL 0 7 a0 Yb.row, eI 1 a1, eI 5 (J : Int)]) (fun n1 J => a0.length < n1 + J /\ J <= a0.length) (a0.length + 1) 0 (fun p1 J e1 j1 => ?_)
 refine cFf e1 ?_ ?_ <;> intro k2 h1 e1
 ·have i1 := ix h1
  have m2 := ml a0 (k2 0 _ rfl)
  have w1 := wr J
  simp [i1, ZI]
  refine rpS ?_
  refine cF e1 ?_ ?_ <;> intro k3 h2 e1
  ·have f := ms f e1
   exact rt [.tmp 4] f
  exact ny1 w1 e1
 have f := ms f e1
 exact rt [.tmp 4] f
theorem Hr (a0 : Zr) : Sa 269 [a0.row] [rB (kQ a0)] := by
 have f := me (kQ.eq_1 a0)
 refine so func269 ntmps269 ?_
 refine cRs (Y4 a0.Zn 1 999) ?_
 refine cGs (fun gg => (WH a0.Ru)) ?_
 refine cGs (fun gg => (Y4 a0.YQ (-1) (W (a0.Ru + 1)))) ?_
 refine cGs (fun gg => (Y4 a0.Z6 1 99)) ?_
 exact rt [.tmp 2] f
theorem T5 (a0 : Zr) : Sd 271 [a0.row] [rL 1 iR (Jp a0)] := by
 have f := me (Jp.eq_1 a0)
 refine soD func271 ntmps271 ?_
 exact rtD [.tmp 2] f
theorem T1 (a0 : List Yp) (a1 : Zr) (u0 : Sm 2322432 a0) : Sa 188 [rL 5 Yp.row a0, a1.row] [(XB a0 a1).1.row, rB (XB a0 a1).2] := by
 have f := me (XB.eq_1 a0 a1)
 refine so func188 ntmps188 ?_
 refine cRs (JI a0 a1.Z6) ?_
 refine cRs (Hr a1) ?_
 refine cF f ?_ ?_ <;> intro k1 h1 f
 ·exact rt [.cell 4 128, .tmp 5] f
 refine dIo mixed ?_
 have i1 : (YA a0 a1.Z6).toNat < a0.length := by have := Qb a0 a1.Z6; exact il
 simp [i1, ZI]
 refine rpS ?_
 refine cRs (Yx.rd (T5 a1)) ?_
 refine cRs (kg (nth a0 (YA a0 a1.Z6).toNat) (Jp a1) (by simp (maxDischargeDepth := 12) [T4, Za (m := 2326528) (by decide) u0]; try omega)) ?_
 exact rt [.cell 4 128, .tmp 5] f
theorem Uw (a0 : Zr) : Sd 190 [a0.row] [(Xc a0).row] := by
 have f := me (Xc.eq_1 a0)
 refine soD func190 ntmps190 ?_
 refine dIs mixed ?_
 refine cDs [false] (T5 a0) ?_
 exact rtD [.cell 2 177] f
theorem Ga (a0 : ZQ) (a1 : ZS) (u0 : Sm 2326528 a0) (u1 : Sm 2326528 a1) : Sd 272 [a0.row, a1.row] [(Kl a0 a1).1.row, rB (Kl a0 a1).2] := by
 have f := me (Kl.eq_1 a0 a1)
 refine soD func272 ntmps272 ?_
 refine cDs [] (y4 a0 (sg u0)) ?_
 refine drJ [14] mixed ?_
 simp
 refine cDs [true, false] (PQ a1 (sg u1)) ?_
 refine T7 ?_
 have c1 := sl 2326528 a0.ZM (an u0 u1)
 simp
 refine Ss (pW := (a0.ZM.map ZS.row)) (news := (([a1] : List ZS).map ZS.row)) (l1 := [(8, 0)]) (l2 := [(12, 1)]) (size := 3) ?_
 simp
 refine cRs (UW (ZQ.mk (a0.ZM ++ ([a1] : List ZS)) a0.ZR)) ?_
 refine cF f ?_ ?_ <;> intro k2 h1 f
 ·refine cDs [] (y4 a0 (sg u0)) ?_
  exact rtD [.cell 4 68, .tmp 5] f
 exact rtD [.cell 4 68, .tmp 5] f
theorem SH (a0 : ZJ) (a1 : Int) (a2 : ZS) (u0 : Sm 2322432 a0) (u1 : Sm 2322432 a2) : Sd 189 [a0.row, rI a1, a2.row] [(QO a0 a1 a2).1.row, rB (QO a0 a1 a2).2] := by
 have f := me (QO.eq_1 a0 a1 a2)
 refine soD func189 ntmps189 ?_
 refine cDs [] (zX a0 (sg u0)) ?_
 refine cRs (UZ a0 a1) ?_
 refine cF f ?_ ?_ <;> intro k1 h1 f
 ·exact rtD [.cell 6 73, .tmp 7] f
 refine dIo mixed ?_
 have i1 : (Y8 a0 a1).toNat < a0.ZD.length := by have := R3 a0 a1; exact il
 simp [i1, ZI]
 refine rpS ?_
 refine cDf i1 [] (Ga (nth a0.ZD (Y8 a0 a1).toNat).ZP a2 (sg (Zj.XS (Z4 (ZJ.XQ u0)))) (sg u1)) ?_
 refine tg (t := 13) (j := 1) (i := (Y8 a0 a1).toNat) (c := 14) (size := 16) (rows := (a0.ZD.map Zj.row)) (ds := (Kl (nth a0.ZD (Y8 a0 a1).toNat).ZP a2).1.row) (L := [(28, 0), (28, 1)]) rfl rfl rfl rfl (by simp) (by simp) (by simp; try omega) (by simp) (by simp) (by simp) (by simp) (by simp) (by simp) ?_
 simp [qh (x := (Zj.mk (nth a0.ZD (Y8 a0 a1).toNat).Id (nth a0.ZD (Y8 a0 a1).toNat).XI (nth a0.ZD (Y8 a0 a1).toNat).Doc (nth a0.ZD (Y8 a0 a1).toNat).Sig (Kl (nth a0.ZD (Y8 a0 a1).toNat).ZP a2).1)) rfl, i1, ZI, Xy]
 refine rpS ?_
 exact rtD [.cell 6 73, .tmp 7] f
theorem Zw {a b : Prop} (h : b) (k : a := by (intros; first | omega | with_unfolding_all (first | first | omega | (have fi := Xr a0 a1 (by first | omega | (simp at *; omega)); omega) | (simp only [Bool.or_eq_false_iff, decide_eq_false_iff_not] at *; omega) | (have z := Zd G; (try simp only [] at z); omega) | (have z := Zd G.1; (try simp only [] at z); omega) | (have z := Zd G.2; (try simp only [] at z); omega) | (have z := Zd G.2.1; (try simp only [] at z); omega) | (have z := Zd G.2.2; (try simp only [] at z); omega) | (have z := Zd G.1.2; (try simp only [] at z); omega) | (have z := Zd G.2.2.2; (try simp only [] at z); omega) ) | (simp_all; done) | (simp_all; omega) | grind | ((try simp only [X9, show ∀ x, IntKind.i64.wrap x = W x from fun _ => rfl] at *); omega))) : a /\ b := ⟨k, h⟩
theorem Mu (a0 : ZG) (a1 : Int) (u0 : Sm 2318336 a0) : Sd 103 [a0.row, rI a1] [(Z0 a0 a1).1.row, rB (Z0 a0 a1).2] := by
 have f := me (Z0.eq_1 a0 a1)
 refine soD func103 ntmps103 ?_
 refine cDs [false, false, false, true, true, false, false, true, false, false, true, false] (y8 a0 (sg u0)) ?_
 refine cRs (Mg a0 a1) ?_
 refine gIo ?_ ?_ <;> intro G
 ·have nM := G
  have g1 := G; try simp at g1
  have i1 : (ZO a0 a1).1.toNat < a0.ZB.length := by first | omega | (have fi := Xr a0 a1 (by first | omega | (simp at *; omega)); omega) | (simp only [Bool.or_eq_false_iff, decide_eq_false_iff_not] at *; omega) | (have z := Zd G; (try simp only [] at z); omega) | (have z := Zd G.1; (try simp only [] at z); omega) | (have z := Zd G.2; (try simp only [] at z); omega) | (have z := Zd G.2.1; (try simp only [] at z); omega) | (have z := Zd G.2.2; (try simp only [] at z); omega) | (have z := Zd G.1.2; (try simp only [] at z); omega) | (have z := Zd G.2.2.2; (try simp only [] at z); omega) 
  simp [i1, ZI, G]
  repeat with_reducible refine Zw ?_
  refine gK (fun _ => ?_)
  have i2 : (ZO a0 a1).2.toNat < (nth a0.ZB (ZO a0 a1).1.toNat).ZD.length := by first | omega | (have fi := Xr a0 a1 (by first | omega | (simp at *; omega)); omega) | (simp only [Bool.or_eq_false_iff, decide_eq_false_iff_not] at *; omega) | (have z := Zd G; (try simp only [] at z); omega) | (have z := Zd G.1; (try simp only [] at z); omega) | (have z := Zd G.2; (try simp only [] at z); omega) | (have z := Zd G.2.1; (try simp only [] at z); omega) | (have z := Zd G.2.2; (try simp only [] at z); omega) | (have z := Zd G.1.2; (try simp only [] at z); omega) | (have z := Zd G.2.2.2; (try simp only [] at z); omega) 
  simp [i2, ZI, G]
  repeat with_reducible refine Zw ?_
  refine cKo f ?_ ?_ <;> intro k1 h1 f
  ·simp [G]
   repeat with_reducible refine Zw ?_
   exact SO [.cell 4 33, .tmp 5] f
  ·have i3 : 1 < (nth (nth a0.ZB (ZO a0 a1).1.toNat).ZD (ZO a0 a1).2.toNat).ZP.ZM.length := by first | omega | (have fi := Xr a0 a1 (by first | omega | (simp at *; omega)); omega) | (simp only [Bool.or_eq_false_iff, decide_eq_false_iff_not] at *; omega) | (have z := Zd G; (try simp only [] at z); omega) | (have z := Zd G.1; (try simp only [] at z); omega) | (have z := Zd G.2; (try simp only [] at z); omega) | (have z := Zd G.2.1; (try simp only [] at z); omega) | (have z := Zd G.2.2; (try simp only [] at z); omega) | (have z := Zd G.1.2; (try simp only [] at z); omega) | (have z := Zd G.2.2.2; (try simp only [] at z); omega) 
   simp [i1, ZI, i2, i3, G]
   repeat with_reducible refine Zw ?_
   refine cR (HO (nth (nth (nth a0.ZB (ZO a0 a1).1.toNat).ZD (ZO a0 a1).2.toNat).ZP.ZM 1)) ?_
   simp [G]
   repeat with_reducible refine Zw ?_
   refine cR (H6 a0.ZZ (Zt (nth (nth (nth a0.ZB (ZO a0 a1).1.toNat).ZD (ZO a0 a1).2.toNat).ZP.ZM 1)).1.Zn) ?_
   simp [G]
   repeat with_reducible refine Zw ?_
   refine cKo f ?_ ?_ <;> intro k2 h2 f
   ·simp [G]
    repeat with_reducible refine Zw ?_
    exact SO [.cell 4 33, .tmp 5] f
   ·simp [G]
    repeat with_reducible refine Zw ?_
    refine dIo mixed ?_
    have i4 : (YP a0.ZZ (Zt (nth (nth (nth a0.ZB (ZO a0 a1).1.toNat).ZD (ZO a0 a1).2.toNat).ZP.ZM 1)).1.Zn).toNat < a0.ZZ.length := by have := PL a0.ZZ (Zt (nth (nth (nth a0.ZB (ZO a0 a1).1.toNat).ZD (ZO a0 a1).2.toNat).ZP.ZM 1)).1.Zn; first | omega | (have fi := Xr a0 a1 (by first | omega | (simp at *; omega)); omega) | (simp only [Bool.or_eq_false_iff, decide_eq_false_iff_not] at *; omega) | (have z := Zd G; (try simp only [] at z); omega) | (have z := Zd G.1; (try simp only [] at z); omega) | (have z := Zd G.2; (try simp only [] at z); omega) | (have z := Zd G.2.1; (try simp only [] at z); omega) | (have z := Zd G.2.2; (try simp only [] at z); omega) | (have z := Zd G.1.2; (try simp only [] at z); omega) | (have z := Zd G.2.2.2; (try simp only [] at z); omega) 
    simp [i4, ZI, G]
    repeat with_reducible refine Zw ?_
    refine cR (JI a0.Frame.Zo (nth a0.ZZ (YP a0.ZZ (Zt (nth (nth (nth a0.ZB (ZO a0 a1).1.toNat).ZD (ZO a0 a1).2.toNat).ZP.ZM 1)).1.Zn).toNat).Z6) ?_
    simp [G]
    repeat with_reducible refine Zw ?_
    refine dIo mixed ?_
    simp [i4, ZI, G]
    repeat with_reducible refine Zw ?_
    refine dIo mixed ?_
    have i5 : (YP a0.ZZ (Zt (nth (nth (nth a0.ZB (ZO a0 a1).1.toNat).ZD (ZO a0 a1).2.toNat).ZP.ZM 1)).1.Zn).toNat < a0.YQ.length := by have := PL a0.ZZ (Zt (nth (nth (nth a0.ZB (ZO a0 a1).1.toNat).ZD (ZO a0 a1).2.toNat).ZP.ZM 1)).1.Zn; first | omega | (have fi := Xr a0 a1 (by first | omega | (simp at *; omega)); omega) | (simp only [Bool.or_eq_false_iff, decide_eq_false_iff_not] at *; omega) | (have z := Zd G; (try simp only [] at z); omega) | (have z := Zd G.1; (try simp only [] at z); omega) | (have z := Zd G.2; (try simp only [] at z); omega) | (have z := Zd G.2.1; (try simp only [] at z); omega) | (have z := Zd G.2.2; (try simp only [] at z); omega) | (have z := Zd G.1.2; (try simp only [] at z); omega) | (have z := Zd G.2.2.2; (try simp only [] at z); omega) 
    simp [i5, ZI, G]
    repeat with_reducible refine Zw ?_
    refine cKo f ?_ ?_ <;> intro k6 h3 f
    ·simp [i5, ZI, G]
     repeat with_reducible refine Zw ?_
     refine cR (T1 a0.Frame.Zo (Zr.mk (Zt (nth (nth (nth a0.ZB (ZO a0 a1).1.toNat).ZD (ZO a0 a1).2.toNat).ZP.ZM 1)).1.Zn a0.Frame.Now (nth a0.YQ (YP a0.ZZ (Zt (nth (nth (nth a0.ZB (ZO a0 a1).1.toNat).ZD (ZO a0 a1).2.toNat).ZP.ZM 1)).1.Zn).toNat) (nth a0.ZZ (YP a0.ZZ (Zt (nth (nth (nth a0.ZB (ZO a0 a1).1.toNat).ZD (ZO a0 a1).2.toNat).ZP.ZM 1)).1.Zn).toNat).Z6 0) (sg (ZW.XY (ZG.Xk u0)))) ?_
     simp [G]
     repeat with_reducible refine Zw ?_
     refine dIo mixed ?_
     simp [G]
     repeat with_reducible refine Zw ?_
     refine gJo G ?_ ?_ <;> intro G
     ·have g2x := G.2
      try (simp at G; done)
      all_goals
       have g2 := G.2; try simp at g2
       all_goals
        have i6 : (YA a0.Frame.Zo (nth a0.ZZ (YP a0.ZZ (Zt (nth (nth (nth a0.ZB (ZO a0 a1).1.toNat).ZD (ZO a0 a1).2.toNat).ZP.ZM 1)).1.Zn).toNat).Z6).toNat < a0.Frame.Zo.length := by have := Qb a0.Frame.Zo (nth a0.ZZ (YP a0.ZZ (Zt (nth (nth (nth a0.ZB (ZO a0 a1).1.toNat).ZD (ZO a0 a1).2.toNat).ZP.ZM 1)).1.Zn).toNat).Z6; first | omega | (have fi := Xr a0 a1 (by first | omega | (simp at *; omega)); omega) | (simp only [Bool.or_eq_false_iff, decide_eq_false_iff_not] at *; omega) | (have z := Zd G; (try simp only [] at z); omega) | (have z := Zd G.1; (try simp only [] at z); omega) | (have z := Zd G.2; (try simp only [] at z); omega) | (have z := Zd G.2.1; (try simp only [] at z); omega) | (have z := Zd G.2.2; (try simp only [] at z); omega) | (have z := Zd G.1.2; (try simp only [] at z); omega) | (have z := Zd G.2.2.2; (try simp only [] at z); omega) 
        simp [i6, ZI, G]
        repeat with_reducible refine Zw ?_
        refine cKo f ?_ ?_ <;> intro k8 h4 f
        ·simp [G]
         repeat with_reducible refine Zw ?_
         exact SO [.cell 4 33, .tmp 5] f
        ·simp [G]
         repeat with_reducible refine Zw ?_
         refine dIo mixed ?_
         simp [i1, ZI, G]
         repeat with_reducible refine Zw ?_
         refine cR (Yx.rd (Uw (XB a0.Frame.Zo (Zr.mk (Zt (nth (nth (nth a0.ZB (ZO a0 a1).1.toNat).ZD (ZO a0 a1).2.toNat).ZP.ZM 1)).1.Zn a0.Frame.Now (nth a0.YQ (YP a0.ZZ (Zt (nth (nth (nth a0.ZB (ZO a0 a1).1.toNat).ZD (ZO a0 a1).2.toNat).ZP.ZM 1)).1.Zn).toNat) (nth a0.ZZ (YP a0.ZZ (Zt (nth (nth (nth a0.ZB (ZO a0 a1).1.toNat).ZD (ZO a0 a1).2.toNat).ZP.ZM 1)).1.Zn).toNat).Z6 0)).1)) ?_
         simp [G]
         repeat with_reducible refine Zw ?_
         refine cD [] (SH (nth a0.ZB (ZO a0 a1).1.toNat) a1 (Xc (XB a0.Frame.Zo (Zr.mk (Zt (nth (nth (nth a0.ZB (ZO a0 a1).1.toNat).ZD (ZO a0 a1).2.toNat).ZP.ZM 1)).1.Zn a0.Frame.Now (nth a0.YQ (YP a0.ZZ (Zt (nth (nth (nth a0.ZB (ZO a0 a1).1.toNat).ZD (ZO a0 a1).2.toNat).ZP.ZM 1)).1.Zn).toNat) (nth a0.ZZ (YP a0.ZZ (Zt (nth (nth (nth a0.ZB (ZO a0 a1).1.toNat).ZD (ZO a0 a1).2.toNat).ZP.ZM 1)).1.Zn).toNat).Z6 0)).1) (sg (Z4 (ZG.Yq u0))) (by simp (maxDischargeDepth := 12) [kL, Za (m := 2322432) (by decide) u0]; try omega)) ?_
         simp [i1, ZI, G]
         repeat with_reducible refine Zw ?_
         refine AG (t := 18) (j := 7) (i := (ZO a0 a1).1.toNat) (size := 2) (rows := (a0.ZB.map ZJ.row)) (ds := (QO (nth a0.ZB (ZO a0 a1).1.toNat) a1 (Xc (XB a0.Frame.Zo (Zr.mk (Zt (nth (nth (nth a0.ZB (ZO a0 a1).1.toNat).ZD (ZO a0 a1).2.toNat).ZP.ZM 1)).1.Zn a0.Frame.Now (nth a0.YQ (YP a0.ZZ (Zt (nth (nth (nth a0.ZB (ZO a0 a1).1.toNat).ZD (ZO a0 a1).2.toNat).ZP.ZM 1)).1.Zn).toNat) (nth a0.ZZ (YP a0.ZZ (Zt (nth (nth (nth a0.ZB (ZO a0 a1).1.toNat).ZD (ZO a0 a1).2.toNat).ZP.ZM 1)).1.Zn).toNat).Z6 0)).1)).1.row) (L := [(150, 1)]) ?_
         simp [qh (x := (QO (nth a0.ZB (ZO a0 a1).1.toNat) a1 (Xc (XB a0.Frame.Zo (Zr.mk (Zt (nth (nth (nth a0.ZB (ZO a0 a1).1.toNat).ZD (ZO a0 a1).2.toNat).ZP.ZM 1)).1.Zn a0.Frame.Now (nth a0.YQ (YP a0.ZZ (Zt (nth (nth (nth a0.ZB (ZO a0 a1).1.toNat).ZD (ZO a0 a1).2.toNat).ZP.ZM 1)).1.Zn).toNat) (nth a0.ZZ (YP a0.ZZ (Zt (nth (nth (nth a0.ZB (ZO a0 a1).1.toNat).ZD (ZO a0 a1).2.toNat).ZP.ZM 1)).1.Zn).toNat).Z6 0)).1)).1) rfl, i1, ZI, Xy, G]
         repeat with_reducible refine Zw ?_
         exact SO [.cell 4 33, .tmp 5] f
     ·have g2x := G.2
      try (simp at G; done)
      all_goals
       simp [G]
       repeat with_reducible refine Zw ?_
       refine cKo f ?_ ?_ <;> intro fy h5 f
       ·simp [G]
        repeat with_reducible refine Zw ?_
        exact SO [.cell 4 33, .tmp 5] f
       ·simp [G] at h5
    ·simp [G]
     repeat with_reducible refine Zw ?_
     refine cR (T1 a0.Frame.Zo (Zr.mk (Zt (nth (nth (nth a0.ZB (ZO a0 a1).1.toNat).ZD (ZO a0 a1).2.toNat).ZP.ZM 1)).1.Zn a0.Frame.Now (-1) (nth a0.ZZ (YP a0.ZZ (Zt (nth (nth (nth a0.ZB (ZO a0 a1).1.toNat).ZD (ZO a0 a1).2.toNat).ZP.ZM 1)).1.Zn).toNat).Z6 0) (sg (ZW.XY (ZG.Xk u0)))) ?_
     simp [G]
     repeat with_reducible refine Zw ?_
     refine dIo mixed ?_
     simp [G]
     repeat with_reducible refine Zw ?_
     refine gJo G ?_ ?_ <;> intro G
     ·have g3x := G.2
      try (simp at G; done)
      all_goals
       have g3 := G.2; try simp at g3
       all_goals
        have i8 : (YA a0.Frame.Zo (nth a0.ZZ (YP a0.ZZ (Zt (nth (nth (nth a0.ZB (ZO a0 a1).1.toNat).ZD (ZO a0 a1).2.toNat).ZP.ZM 1)).1.Zn).toNat).Z6).toNat < a0.Frame.Zo.length := by have := Qb a0.Frame.Zo (nth a0.ZZ (YP a0.ZZ (Zt (nth (nth (nth a0.ZB (ZO a0 a1).1.toNat).ZD (ZO a0 a1).2.toNat).ZP.ZM 1)).1.Zn).toNat).Z6; first | omega | (have fi := Xr a0 a1 (by first | omega | (simp at *; omega)); omega) | (simp only [Bool.or_eq_false_iff, decide_eq_false_iff_not] at *; omega) | (have z := Zd G; (try simp only [] at z); omega) | (have z := Zd G.1; (try simp only [] at z); omega) | (have z := Zd G.2; (try simp only [] at z); omega) | (have z := Zd G.2.1; (try simp only [] at z); omega) | (have z := Zd G.2.2; (try simp only [] at z); omega) | (have z := Zd G.1.2; (try simp only [] at z); omega) | (have z := Zd G.2.2.2; (try simp only [] at z); omega) 
        simp [i8, ZI, G]
        repeat with_reducible refine Zw ?_
        refine cKo f ?_ ?_ <;> intro ek h6 f
        ·simp [G]
         repeat with_reducible refine Zw ?_
         exact SO [.cell 4 33, .tmp 5] f
        ·simp [G]
         repeat with_reducible refine Zw ?_
         refine dIo mixed ?_
         simp [i1, ZI, G]
         repeat with_reducible refine Zw ?_
         refine cR (Yx.rd (Uw (XB a0.Frame.Zo (Zr.mk (Zt (nth (nth (nth a0.ZB (ZO a0 a1).1.toNat).ZD (ZO a0 a1).2.toNat).ZP.ZM 1)).1.Zn a0.Frame.Now (-1) (nth a0.ZZ (YP a0.ZZ (Zt (nth (nth (nth a0.ZB (ZO a0 a1).1.toNat).ZD (ZO a0 a1).2.toNat).ZP.ZM 1)).1.Zn).toNat).Z6 0)).1)) ?_
         simp [G]
         repeat with_reducible refine Zw ?_
         refine cD [] (SH (nth a0.ZB (ZO a0 a1).1.toNat) a1 (Xc (XB a0.Frame.Zo (Zr.mk (Zt (nth (nth (nth a0.ZB (ZO a0 a1).1.toNat).ZD (ZO a0 a1).2.toNat).ZP.ZM 1)).1.Zn a0.Frame.Now (-1) (nth a0.ZZ (YP a0.ZZ (Zt (nth (nth (nth a0.ZB (ZO a0 a1).1.toNat).ZD (ZO a0 a1).2.toNat).ZP.ZM 1)).1.Zn).toNat).Z6 0)).1) (sg (Z4 (ZG.Yq u0))) (by simp (maxDischargeDepth := 12) [kL, Za (m := 2322432) (by decide) u0]; try omega)) ?_
         simp [i1, ZI, G]
         repeat with_reducible refine Zw ?_
         refine AG (t := 18) (j := 7) (i := (ZO a0 a1).1.toNat) (size := 2) (rows := (a0.ZB.map ZJ.row)) (ds := (QO (nth a0.ZB (ZO a0 a1).1.toNat) a1 (Xc (XB a0.Frame.Zo (Zr.mk (Zt (nth (nth (nth a0.ZB (ZO a0 a1).1.toNat).ZD (ZO a0 a1).2.toNat).ZP.ZM 1)).1.Zn a0.Frame.Now (-1) (nth a0.ZZ (YP a0.ZZ (Zt (nth (nth (nth a0.ZB (ZO a0 a1).1.toNat).ZD (ZO a0 a1).2.toNat).ZP.ZM 1)).1.Zn).toNat).Z6 0)).1)).1.row) (L := [(150, 1)]) ?_
         simp [qh (x := (QO (nth a0.ZB (ZO a0 a1).1.toNat) a1 (Xc (XB a0.Frame.Zo (Zr.mk (Zt (nth (nth (nth a0.ZB (ZO a0 a1).1.toNat).ZD (ZO a0 a1).2.toNat).ZP.ZM 1)).1.Zn a0.Frame.Now (-1) (nth a0.ZZ (YP a0.ZZ (Zt (nth (nth (nth a0.ZB (ZO a0 a1).1.toNat).ZD (ZO a0 a1).2.toNat).ZP.ZM 1)).1.Zn).toNat).Z6 0)).1)).1) rfl, i1, ZI, Xy, G]
         repeat with_reducible refine Zw ?_
         exact SO [.cell 4 33, .tmp 5] f
     ·have g3x := G.2
      try (simp at G; done)
      all_goals
       simp [G]
       repeat with_reducible refine Zw ?_
       refine cKo f ?_ ?_ <;> intro aG h7 f
       ·simp [G]
        repeat with_reducible refine Zw ?_
        exact SO [.cell 4 33, .tmp 5] f
       ·simp [G] at h7
 ·have nM := G
  simp [G]
  repeat with_reducible refine Zw ?_
  refine sGo ?_
  simp [G]
  repeat with_reducible refine Zw ?_
  refine cKo f ?_ ?_ <;> intro k17 h8 f
  ·simp [G]
   repeat with_reducible refine Zw ?_
   exact SO [.cell 4 33, .tmp 5] f
  ·simp [G] at h8
theorem PU (a0 : ZG) (a1 : Int) (u0 : Sm 2318336 a0) : Sd 101 [a0.row, rI a1] [(YE a0 a1).1.row, rB (YE a0 a1).2] := by
 have f := me (YE.eq_1 a0 a1)
 refine soD func101 ntmps101 ?_
 refine cDs [false, false, false, true, true, false, false, true, false, false, true, false] (y8 a0 (sg u0)) ?_
 refine cRs (Y4 a1 0 100) ?_
 refine cFo f ?_ ?_ <;> intro k1 h1 f
 ·have q1 := h1; try simp [Yg] at q1
  simp
  exact rtD [.cell 4 33, .tmp 5] f
 have q1 := h1; try simp [Yg] at q1
 simp
 exact rtD [.cell 4 33, .tmp 5] f
theorem WV (a0 : List Z5) (a1 : Int) : Sa 325 [rL 4 Z5.row a0, rI a1] [rI (Xt a0 a1)] := by
 have f := me (Xt.eq_1 a0 a1)
 refine so func325 ntmps325 ?_
 refine lp1 (zl.eq_2 a0 a1) (fun J => Y5 20 [eL 0 4 a0 Z5.row, eI 1 a1, eI 5 (J : Int)]) (fun n1 J => a0.length < n1 + J /\ J <= a0.length) (a0.length + 1) 0 (fun p1 J e1 j1 => ?_)
 refine cFf e1 ?_ ?_ <;> intro k2 h1 e1
 ·have i1 := ix h1
  have m2 := ml a0 (k2 0 _ rfl)
  have w1 := wr J
  simp [i1, ZI]
  refine rpS ?_
  refine cF e1 ?_ ?_ <;> intro k3 h2 e1
  ·have f := ms f e1
   exact rt [.tmp 4] f
  exact ny1 w1 e1
 have f := ms f e1
 exact rt [.tmp 4] f
theorem O2 (a0 : List Z5) (a1 : Int) (a2 : Int) : Sa 302 [rL 4 Z5.row a0, rI a1, rI a2] [rB (NP a0 a1 a2)] := by
 have f := me (NP.eq_1 a0 a1 a2)
 refine so func302 ntmps302 ?_
 refine cRs (WV a0 a1) ?_
 refine gIf ?_ ?_ <;> intro G
 ·have i1 : (Xt a0 a1).toNat < a0.length := by have := qk a0 a1; exact il
  simp [i1, ZI, G]
  refine rpG ?_
  refine gJf G ?_ ?_ <;> intro G
  ·try (simp at G; done)
   all_goals
    simp [i1, ZI, G]
    refine rpG ?_
    exact rtg [.tmp 6] f
  ·try (simp at G; done)
   all_goals
    exact rtg [.tmp 6] f
 ·refine gJf G ?_ ?_ <;> intro G
  ·try (simp at G; done)
   all_goals
    have i3 : (Xt a0 a1).toNat < a0.length := by have := qk a0 a1; exact il
    simp [i3, ZI, G]
    refine rpG ?_
    exact rtg [.tmp 6] f
  ·try (simp at G; done)
   all_goals
    exact rtg [.tmp 6] f
theorem Wn (a0 : List Z5) (a1 : Int) : Sa 303 [rL 4 Z5.row a0, rI a1] [rI (Nq a0 a1)] := by
 have f := me (Nq.eq_1 a0 a1)
 refine so func303 ntmps303 ?_
 refine cRs (WV a0 a1) ?_
 refine cFt f ?_ ?_ <;> intro k1 h1 f
 ·exact rt [.tmp 4] f
 have i1 : (Xt a0 a1).toNat < a0.length := by have := qk a0 a1; exact il
 simp [i1, ZI]
 refine rpS ?_
 exact rt [.tmp 4] f
theorem RA (a0 : ZW) (u0 : Sm 2334720 a0) : Sd 233 [a0.row] [rL 1 iR (YN a0)] := by
 have f := me (YN.eq_1 a0)
 refine soD func233 ntmps233 ?_
 refine lp2 (JR.eq_2 a0) (fun J U => Y5 73 [eX 1 (a0.row.map .d), (3, .one (.sref 3 0 0 J.length), [.arr false 1 (J.map iR)]), eI 4 (U : Int)]) (fun n1 J U => a0.ZC.length < n1 + U /\ U <= a0.ZC.length /\ J.length <= 0 + 1 * U) (a0.ZC.length + 1) ([] : List Int) 0 (fun p1 J U e1 j1 => ?_) (h0 := wkS [((3, 0), some (6, 0))] [])
 refine cF e1 ?_ ?_ <;> intro k2 h1 e1
 ·have i1 := ix h1
  have m2 := ml a0.ZC (k2 9 _ rfl)
  have c1 := sl 2334720 a0.ZC u0
  have w1 := wr U
  refine dIo mixed ?_
  simp [i1, ZI]
  refine rpS ?_
  refine cRs (JI a0.Zo (nth a0.ZC U).Key) ?_
  refine dIs mixed ?_
  refine gIf ?_ ?_ <;> intro G
  ·have i2 : (YA a0.Zo (nth a0.ZC U).Key).toNat < a0.Zo.length := by have := Qb a0.Zo (nth a0.ZC U).Key; exact il
   simp [i2, ZI, G]
   refine rpG ?_
   refine gJf G ?_ ?_ <;> intro G
   ·try (simp at G; done)
    all_goals
     simp [i2, ZI, G]
     refine rpG ?_
     refine cGg (fun gg => (O2 a0.Methods (nth a0.Zo (YA a0.Zo (nth a0.ZC U).Key).toNat).Method a0.Now)) ?_
     refine gJf G ?_ ?_ <;> intro G
     ·try (simp at G; done)
      all_goals
       simp [i2, ZI, G]
       refine rpG ?_
       refine cGg (fun gg => (Wn a0.Methods (nth a0.Zo (YA a0.Zo (nth a0.ZC U).Key).toNat).Method)) ?_
       refine cKf e1 ?_ ?_ <;> intro k5 h2 e1
       ·simp [i1, ZI, G]
        refine rpG ?_
        exact nx2 e1 (hw := X1 [((3, 0), some (71, 0))] [] rfl (by simp [w1, G]))
       ·exact ny2 (an w1 G) e1
     ·try (simp at G; done)
      all_goals
       refine sGo ?_
       simp [G]
       refine rpG ?_
       refine cKf e1 ?_ ?_ <;> intro k6 h3 e1
       ·simp [G] at h3
       ·exact ny2 (an w1 G) e1
   ·try (simp at G; done)
    all_goals
     refine sGo ?_
     simp [G]
     refine rpG ?_
     refine gJf G ?_ ?_ <;> intro G
     ·try (simp at G; done)
      all_goals
       simp [i2, ZI, G]
       refine rpG ?_
       refine cGg (fun gg => (Wn a0.Methods (nth a0.Zo (YA a0.Zo (nth a0.ZC U).Key).toNat).Method)) ?_
       refine cKf e1 ?_ ?_ <;> intro k7 h4 e1
       ·simp [G] at h4
       ·simp [G] at h4
     ·try (simp at G; done)
      all_goals
       refine sGo ?_
       simp [G]
       refine rpG ?_
       refine cKf e1 ?_ ?_ <;> intro k8 h5 e1
       ·simp [G] at h5
       ·exact ny2 (an w1 G) e1
  ·refine gJf G ?_ ?_ <;> intro G
   ·try (simp at G; done)
    all_goals
     have i4 : (YA a0.Zo (nth a0.ZC U).Key).toNat < a0.Zo.length := by have := Qb a0.Zo (nth a0.ZC U).Key; exact il
     simp [i4, ZI, G]
     refine rpG ?_
     refine cGg (fun gg => (O2 a0.Methods (nth a0.Zo (YA a0.Zo (nth a0.ZC U).Key).toNat).Method a0.Now)) ?_
     refine gJf G ?_ ?_ <;> intro G
     ·try (simp at G; done)
      all_goals
       simp [i4, ZI, G]
       refine rpG ?_
       refine cGg (fun gg => (Wn a0.Methods (nth a0.Zo (YA a0.Zo (nth a0.ZC U).Key).toNat).Method)) ?_
       refine cKf e1 ?_ ?_ <;> intro k9 h6 e1
       ·simp [G] at h6
       ·simp [G] at h6
     ·try (simp at G; done)
      all_goals
       refine sGo ?_
       simp [G]
       refine rpG ?_
       refine cKf e1 ?_ ?_ <;> intro fy h7 e1
       ·simp [G] at h7
       ·simp [G] at h7
   ·try (simp at G; done)
    all_goals
     refine sGo ?_
     simp [G]
     refine rpG ?_
     refine gJf G ?_ ?_ <;> intro G
     ·try (simp at G; done)
      all_goals
       have i6 : (YA a0.Zo (nth a0.ZC U).Key).toNat < a0.Zo.length := by have := Qb a0.Zo (nth a0.ZC U).Key; exact il
       simp [i6, ZI, G]
       refine rpG ?_
       refine cGg (fun gg => (Wn a0.Methods (nth a0.Zo (YA a0.Zo (nth a0.ZC U).Key).toNat).Method)) ?_
       refine cKf e1 ?_ ?_ <;> intro fz h8 e1
       ·simp [G] at h8
       ·simp [G] at h8
     ·try (simp at G; done)
      all_goals
       refine sGo ?_
       simp [G]
       refine rpG ?_
       refine cKf e1 ?_ ?_ <;> intro k12 h9 e1
       ·simp [G] at h9
       ·exact ny2 (an w1 G) e1
 have c2 := sl 2334720 a0.ZC u0
 have f := ms f e1
 exact rtD [.tmp 2] f
theorem yV (a0 : List Zg) (a1 : Int) : Sa 193 [rL 3 Zg.row a0, rI a1] [rI (Zi a0 a1)] := by
 have f := me (Zi.eq_1 a0 a1)
 refine so func193 ntmps193 ?_
 refine lp1 (KB.eq_2 a0 a1) (fun J => Y5 20 [eL 0 3 a0 Zg.row, eI 1 a1, eI 5 (J : Int)]) (fun n1 J => a0.length < n1 + J /\ J <= a0.length) (a0.length + 1) 0 (fun p1 J e1 j1 => ?_)
 refine cFf e1 ?_ ?_ <;> intro k2 h1 e1
 ·have i1 := ix h1
  have m2 := ml a0 (k2 0 _ rfl)
  have w1 := wr J
  simp [i1, ZI]
  refine rpS ?_
  refine cF e1 ?_ ?_ <;> intro k3 h2 e1
  ·have f := ms f e1
   exact rt [.tmp 4] f
  exact ny1 w1 e1
 have f := ms f e1
 exact rt [.tmp 4] f
theorem DO (a0 : ZG) (a1 : List Int) : Sa 192 [a0.row, rL 1 iR a1] [rB (zC a0 a1)] := by
 have f := me (zC.eq_1 a0 a1)
 refine so func192 ntmps192 ?_
 refine lp1 (xI.eq_2 a0 a1) (fun J => Y5 76 [eL 1 1 a1 iR, eX 2 (a0.row.map .d), eI 5 (J : Int)]) (fun n1 J => a1.length < n1 + J /\ J <= a1.length) (a1.length + 1) 0 (fun p1 J e1 j1 => ?_)
 refine cF e1 ?_ ?_ <;> intro k2 h1 e1
 ·have i1 := ix h1
  have m2 := ml a1 (k2 1 _ rfl)
  have w1 := wr J
  refine dIo mixed ?_
  simp [i1, ZI]
  refine rpS ?_
  refine cRs (yV a0.Frame.ZC (nth a1 J)) ?_
  refine dIs mixed ?_
  refine gIf ?_ ?_ <;> intro G
  ·have i2 := ik (J - 1) a1
   have w2 : IntKind.i64.wrap ((J : Int) - 1) = (J : Int) - 1 := XA (by omega) (by omega)
   simp [i2, ZI, w2, zZ, G]
   refine rpG ?_
   refine gK (fun _ => ?_)
   simp [i1, ZI, G]
   refine rpG ?_
   refine cK e1 ?_ ?_ <;> intro k5 h2 e1
   ·have f := ms f e1
    exact rtg [.tmp 4] f
   ·refine dIo mixed ?_
    have i3 : (Zi a0.Frame.ZC (nth a1 J)).toNat < a0.Frame.ZC.length := by have := Q8 a0.Frame.ZC (nth a1 J); exact il
    simp [i3, ZI, G]
    refine rpG ?_
    refine cRg (JI a0.Frame.Zo (nth a0.Frame.ZC (Zi a0.Frame.ZC (nth a1 J)).toNat).Key) ?_
    refine dIg mixed ?_
    refine gJf G ?_ ?_ <;> intro G
    ·try (simp at G; done)
     all_goals
      have i4 : (YA a0.Frame.Zo (nth a0.Frame.ZC (Zi a0.Frame.ZC (nth a1 J)).toNat).Key).toNat < a0.Frame.Zo.length := by have := Qb a0.Frame.Zo (nth a0.Frame.ZC (Zi a0.Frame.ZC (nth a1 J)).toNat).Key; exact il
      simp [i4, ZI, G]
      refine rpG ?_
      refine cK e1 ?_ ?_ <;> intro k8 h3 e1
      ·have f := ms f e1
       exact rtg [.tmp 4] f
      ·exact ny1 (an w1 (an w2 G)) e1
    ·try (simp at G; done)
     all_goals
      refine cK e1 ?_ ?_ <;> intro k9 h4 e1
      ·have f := ms f e1
       exact rtg [.tmp 4] f
      ·simp [G] at h4
  ·refine sGg ?_
   refine cK e1 ?_ ?_ <;> intro fy h5 e1
   ·have f := ms f e1
    exact rtg [.tmp 4] f
   ·refine dIo mixed ?_
    have i7 : (Zi a0.Frame.ZC (nth a1 J)).toNat < a0.Frame.ZC.length := by have := Q8 a0.Frame.ZC (nth a1 J); exact il
    simp [i7, ZI, G]
    refine rpG ?_
    refine cRg (JI a0.Frame.Zo (nth a0.Frame.ZC (Zi a0.Frame.ZC (nth a1 J)).toNat).Key) ?_
    refine dIg mixed ?_
    refine gJf G ?_ ?_ <;> intro G
    ·try (simp at G; done)
     all_goals
      have i8 : (YA a0.Frame.Zo (nth a0.Frame.ZC (Zi a0.Frame.ZC (nth a1 J)).toNat).Key).toNat < a0.Frame.Zo.length := by have := Qb a0.Frame.Zo (nth a0.Frame.ZC (Zi a0.Frame.ZC (nth a1 J)).toNat).Key; exact il
      simp [i8, ZI, G]
      refine rpG ?_
      refine cK e1 ?_ ?_ <;> intro ek h6 e1
      ·have f := ms f e1
       exact rtg [.tmp 4] f
      ·exact ny1 (an w1 G) e1
    ·try (simp at G; done)
     all_goals
      refine cK e1 ?_ ?_ <;> intro k14 h7 e1
      ·have f := ms f e1
       exact rtg [.tmp 4] f
      ·simp [G] at h7
 have f := ms f e1
 exact rt [.tmp 4] f
theorem LU (a0 : ZQ) (a1 : Ze) (u0 : Sm 2318336 a0) (u1 : Sm 2318336 a1) : Sd 210 [a0.row, a1.row] [rL 1 iR (Qv a0 a1)] := by
 have f := me (Qv.eq_1 a0 a1)
 refine soD func210 ntmps210 ?_
 refine lp2 (J1.eq_2 a0 a1) (fun J U => Y5 27 [eX 2 (a0.row.map .d), eX 3 (a1.row.map .d), (5, .one (.sref 5 0 0 J.length), [.arr false 1 (J.map iR)]), eI 6 (U : Int)]) (fun n1 J U => a0.ZR.length < n1 + U /\ U <= a0.ZR.length /\ J.length <= 0 + 1 * U) (a0.ZR.length + 1) ([] : List Int) 0 (fun p1 J U e1 j1 => ?_) (h0 := wkS [((5, 0), some (7, 0))] [])
 refine cF e1 ?_ ?_ <;> intro k2 h1 e1
 ·have i1 := ix h1
  have m2 := ml a0.ZR (k2 10 _ rfl)
  have c1 := sl 2318336 a0.ZR (an u0 u1)
  have w1 := wr U
  refine dIo mixed ?_
  simp [i1, ZI]
  refine rpS ?_
  refine cRs (SV (nth a0.ZR U).Method a1 (sg u1)) ?_
  exact nx2 e1 (hw := X1 [((5, 0), some (25, 0))] [] rfl (by simp [w1]))
 have c2 := sl 2318336 a0.ZR (an u0 u1)
 have f := ms f e1
 exact rtD [.tmp 4] f
theorem Sg (a0 : Zf) : Sd 274 [a0.row] [rL 1 iR (KS a0)] := by
 have f := me (KS.eq_1 a0)
 refine soD func274 ntmps274 ?_
 exact rtD [.tmp 2] f
theorem Pt (a0 : Int) (a1 : ZV) (u0 : Sm 2326528 a1) : Sa 284 [rI a0, a1.row] [rI (K0 a0 a1)] := by
 have f := me (K0.eq_1 a0 a1)
 refine so func284 ntmps284 ?_
 refine lp2 (J8.eq_2 a1) (fun J U => Y5 75 [eI 0 a0, eX 3 (a1.row.map .d), (5, .one (.sref 5 0 0 J.length), [.arr false 1 (J.map iR)]), eI 6 (U : Int)]) (fun n1 J U => a1.Path.length < n1 + U /\ U <= a1.Path.length /\ J.length <= 4 + 2 * U) (a1.Path.length + 1) ([4, a1.Count, a1.Method, a1.H2] : List Int) 0 (fun p1 J U e1 j1 => ?_) (h0 := wkS [((5, 0), some (14, 0))] [])
 refine cFo e1 ?_ ?_ <;> intro k2 h1 e1
 ·have q1 := h1; try simp at q1
  have i1 := ix h1
  have m2 := ml a1.Path (k2 17 _ rfl)
  have c1 := sl 2326528 a1.Path u0
  have w1 := wr U
  simp [i1, ZI]
  refine rpS ?_
  refine cFo e1 ?_ ?_ <;> intro k3 h2 e1
  ·have q2 := h2; try simp at q2
   simp
   refine rpS ?_
   exact nx2 e1 (hw := X1 [((5, 0), some (39, 0))] [] rfl (by simp [w1]))
  have q2 := h2; try simp at q2
  simp
  refine rpS ?_
  exact nx2 e1 (hw := X1 [((5, 0), some (42, 0))] [] rfl (by simp [w1]))
 have q1 := h1; try simp at q1
 have c2 := sl 2326528 a1.Path u0
 have f := ms f e1
 simp
 refine rpS ?_
 refine lp2 (K3.eq_2 a1) (fun pR pT => Y5 75 [eI 0 a0, eX 3 (a1.row.map .d), (5, .one (.sref 5 0 0 pR.length), [.arr false 1 (pR.map iR)]), eI 7 (pT : Int)]) (fun n2 pR pT => a1.YI.length < n2 + pT /\ pT <= a1.YI.length /\ pR.length <= 5 + 2 * 2326528 + 6 * pT) (a1.YI.length + 1) (J ++ ([(a1.YI.length : Int)] : List Int)) 0 (fun p2 pR pT e2 j2 => ?_) (hI := by (have o : a1.Path.length <= 2326528 := XN (xs u0); simp at *; omega)) (h0 := wkS [((5, 0), some (48, 0))] [])
 try dsimp only at j2
 refine cFo e2 ?_ ?_ <;> intro k5 h3 e2
 ·have q3 := h3; try simp at q3
  have i2 := ix h3
  have m4 := ml a1.YI (k5 51 _ rfl)
  have c3 := sl 2326528 a1.YI u0
  have w2 := wr pT
  simp
  refine dIo mixed ?_
  simp [i2, ZI]
  refine rpS ?_
  refine cRf i2 (Yx.rd (Sg (nth a1.YI pT))) ?_
  exact nx2 e2 (hI := by (simp; omega)) (hw := X1 [((5, 0), some (71, 0))] [] rfl (by simp [w2]))
 have q3 := h3; try simp at q3
 have c4 := sl 2326528 a1.YI u0
 have f := ms f e2
 simp
 refine cRs (zR a0 pR (by first | (simp (maxDischargeDepth := 12) [Xo]; omega) | (simp (maxDischargeDepth := 12) [Za (m := 68719476736) (by decide) u0]; done))) ?_
 exact rt [.tmp 4] f
theorem OC (a0 : Int) (a1 : List ZS) (u0 : Sm 2326528 a1) : Sa 329 [rI a0, rL 3 ZS.row a1] [rI (zn a0 a1)] := by
 have f := me (zn.eq_1 a0 a1)
 refine so func329 ntmps329 ?_
 refine lp2 (yA.eq_2 a0 a1) (fun J U => Y5 39 [eI 0 a0, eL 1 3 a1 ZS.row, (5, .one (.sref 5 0 0 J.length), [.arr false 1 (J.map iR)]), eI 6 (U : Int)]) (fun n1 J U => a1.length < n1 + U /\ U <= a1.length /\ J.length <= 1 + 1 * U) (a1.length + 1) ([2] : List Int) 0 (fun p1 J U e1 j1 => ?_) (h0 := wkS [((5, 0), some (7, 0))] [])
 refine cF e1 ?_ ?_ <;> intro k2 h1 e1
 ·have i1 := ix h1
  have m2 := ml a1 (k2 1 _ rfl)
  have c1 := sl 2326528 a1 u0
  have w1 := wr U
  refine Ln [2, 3, 4, 5, 6, 7, 8, 9, 10, 11, 12, 13, 14, 15, 16, 17, 18, 0, 1, 19, 20, 21, 22] mixed (by kernel_rfl) (by kernel_rfl) (by kernel_rfl) ?_
  have c2 := sl 2326528 (nth a1 U).YV u0
  simp [i1, ZI]
  refine rpS ?_
  refine cRs (zR a0 (([(nth a1 U).Key, (nth a1 U).Mark] : List Int) ++ (nth a1 U).YV) (by simp (maxDischargeDepth := 12) [xB, Xo, Za (m := 68719476736) (by decide) u0]; try omega)) ?_
  exact nx2 e1 (hw := X1 [((5, 0), some (35, 0))] [] rfl (by simp [w1]))
 have c3 := sl 2326528 a1 u0
 have f := ms f e1
 refine cRs (zR a0 J (by first | (simp (maxDischargeDepth := 12) [Xo]; omega) | (simp (maxDischargeDepth := 12) [Za (m := 68719476736) (by decide) u0]; done))) ?_
 exact rt [.tmp 4] f
theorem MY (a0 : Int) (a1 : Int) (a2 : List ZS) (a3 : Int) (u0 : Sm 2322432 a2) : Sa 285 [rI a0, rI a1, rL 3 ZS.row a2, rI a3] [rI (U8 a0 a1 a2 a3)] := by
 have f := me (U8.eq_1 a0 a1 a2 a3)
 refine so func285 ntmps285 ?_
 refine cRs (OC a0 a2 (sg u0)) ?_
 refine cRs (zR a0 ([3, a1, (zn a0 a2), a3] : List Int) (by simp (maxDischargeDepth := 12) [xB, Xo, Za (m := 68719476736) (by decide) u0]; try omega)) ?_
 exact rt [.tmp 8] f
theorem Qk {a b : Prop} (h : b) (k : a := by (intros; first | omega | with_unfolding_all (first | first | omega | (have cc : a0.ZR.length <= 2318336 := XN (xs u0); have z0 := nM; simp at z0; have z := VC (by omega) z0.1; have z2 := z0.2; (try have w3 : IntKind.i64.wrap (a2 - 1) = a2 - 1 := XA (by omega) (by omega)); (try have w4 : W (a2 - 1) = a2 - 1 := w3); first | omega | (refine ⟨⟨z0.1, by omega⟩, by omega, by omega⟩) | (simp_all; omega))) | (simp_all; done) | (simp_all; omega) | grind | ((try simp only [X9, show ∀ x, IntKind.i64.wrap x = W x from fun _ => rfl] at *); omega))) : a /\ b := ⟨k, h⟩
theorem CK (a0 : ZQ) (a1 : List Int) (a2 : Int) (u0 : Sm 2318336 a0) (u1 : Sm 2318336 a1) : Sa 209 [a0.row, rL 1 iR a1, rI a2] [rI (WE a0 a1 a2)] := by
 have f := me (WE.eq_1 a0 a1 a2)
 refine so func209 ntmps209 ?_
 refine dIs mixed ?_
 refine cRs (Y4 a2 0 (W ((a0.ZR.length : Int) - 1))) ?_
 refine gIo ?_ ?_ <;> intro G
 ·have nM := G
  have c1 := sl 2318336 a0.ZR (an u0 u1)
  have w1 : IntKind.i64.wrap ((a0.ZR.length : Int) - 1) = (a0.ZR.length : Int) - 1 := XA (by omega) (by omega)
  have g1 := G; try simp [Yg, w1] at g1
  have i1 : a2.toNat < a0.ZR.length := by (have cc : a0.ZR.length <= 2318336 := XN (xs u0); have z0 := nM; simp at z0; have z := VC (by omega) z0.1; have z2 := z0.2; (try have w3 : IntKind.i64.wrap (a2 - 1) = a2 - 1 := XA (by omega) (by omega)); (try have w4 : W (a2 - 1) = a2 - 1 := w3); omega)
  simp [i1, ZI, G]
  repeat with_reducible refine Qk ?_
  refine cGo (fun gg => (Y4 (nth a0.ZR a2.toNat).Count 0 (a0.ZM.length : Int))) ?_
  simp [G]
  repeat with_reducible refine Qk ?_
  refine cKo f ?_ ?_ <;> intro k2 h1 f
  ·have q1 := h1; try simp [Yg, w1] at q1
   simp [G]
   repeat with_reducible refine Qk ?_
   exact rtg [.tmp 6] f
  ·have q1 := h1; try simp [Yg, w1] at q1
   simp [i1, ZI, G]
   repeat with_reducible refine Qk ?_
   refine cKo f ?_ ?_ <;> intro k3 h2 f
   ·have q2 := h2; try simp at q2
    have i2 : (W (a2 - 1)).toNat < a0.ZR.length := by (have cc : a0.ZR.length <= 2318336 := XN (xs u0); have z0 := nM; simp at z0; have z := VC (by omega) z0.1; have z2 := z0.2; (try have w3 : IntKind.i64.wrap (a2 - 1) = a2 - 1 := XA (by omega) (by omega)); (try have w4 : W (a2 - 1) = a2 - 1 := w3); omega)
    simp [i2, ZI, G]
    repeat with_reducible refine Qk ?_
    refine cR (Pt (nth a0.ZR a2.toNat).Method (nth a0.ZR (W (a2 - 1)).toNat) (sg (Z4 (ZQ.yq u0)))) ?_ (pe := by first | (simp; done) | (simp [W, w1]; done))
    simp [G]
    repeat with_reducible refine Qk ?_
    refine dIo mixed ?_
    have i3 : a2.toNat < a1.length := by (have cc : a0.ZR.length <= 2318336 := XN (xs u0); have z0 := nM; simp at z0; have z := VC (by omega) z0.1; have z2 := z0.2; (try have w3 : IntKind.i64.wrap (a2 - 1) = a2 - 1 := XA (by omega) (by omega)); (try have w4 : W (a2 - 1) = a2 - 1 := w3); omega)
    simp [i3, ZI, i1, G]
    repeat with_reducible refine Qk ?_
    refine cR (MY (nth a0.ZR a2.toNat).Method (nth a1 a2.toNat) (a0.ZM.take (nth a0.ZR a2.toNat).Count.toNat) (K0 (nth a0.ZR a2.toNat).Method (nth a0.ZR (W (a2 - 1)).toNat)) (Za (n := 2318336) (by decide) (xs (an u0 u1)))) ?_ (pe := by first | (simp; done) | (simp [W, w1]; done))
    simp [G]
    repeat with_reducible refine Qk ?_
    exact rtg [.tmp 6] f
   ·have q2 := h2; try simp at q2
    simp [G]
    repeat with_reducible refine Qk ?_
    refine dIo mixed ?_
    have i4 : a2.toNat < a1.length := by (have cc : a0.ZR.length <= 2318336 := XN (xs u0); have z0 := nM; simp at z0; have z := VC (by omega) z0.1; have z2 := z0.2; (try have w3 : IntKind.i64.wrap (a2 - 1) = a2 - 1 := XA (by omega) (by omega)); (try have w4 : W (a2 - 1) = a2 - 1 := w3); omega)
    simp [i4, ZI, i1, G]
    repeat with_reducible refine Qk ?_
    refine cR (MY (nth a0.ZR a2.toNat).Method (nth a1 a2.toNat) (a0.ZM.take (nth a0.ZR a2.toNat).Count.toNat) 0 (Za (n := 2318336) (by decide) (xs (an u0 u1)))) ?_
    simp [G]
    repeat with_reducible refine Qk ?_
    exact rtg [.tmp 6] f
 ·have nM := G
  simp [G]
  repeat with_reducible refine Qk ?_
  refine sGo ?_
  simp [G]
  repeat with_reducible refine Qk ?_
  have c2 := sl 2318336 a0.ZR (an u0 u1)
  have w2 : IntKind.i64.wrap ((a0.ZR.length : Int) - 1) = (a0.ZR.length : Int) - 1 := XA (by omega) (by omega)
  refine cKo f ?_ ?_ <;> intro k6 h3 f
  ·have q3 := h3; try simp [Yg, w2] at q3
   simp [G]
   repeat with_reducible refine Qk ?_
   exact rtg [.tmp 6] f
  ·simp [G] at h3
theorem VR (a0 : ZJ) (a1 : Int) (u0 : Sm 2314240 a0) : Sd 129 [a0.row, rI a1] [rL 1 iR (YM a0 a1)] := by
 have f := me (YM.eq_1 a0 a1)
 refine soD func129 ntmps129 ?_
 refine lp2 (Jr.eq_2 a0 a1) (fun J U => Y5 51 [eI 1 a1, eX 2 (a0.row.map .d), (5, .one (.sref 5 0 0 J.length), [.arr false 1 (J.map iR)]), eI 6 (U : Int)]) (fun n1 J U => a0.ZD.length < n1 + U /\ U <= a0.ZD.length /\ J.length <= 0 + 1 * U) (a0.ZD.length + 1) ([] : List Int) 0 (fun p1 J U e1 j1 => ?_) (h0 := wkS [((5, 0), some (8, 0))] [])
 refine cFf e1 ?_ ?_ <;> intro k2 h1 e1
 ·have i1 := ix h1
  have m2 := ml a0.ZD (k2 11 _ rfl)
  have c1 := sl 2314240 a0.ZD u0
  have w1 := wr U
  simp [i1, ZI]
  refine rpS ?_
  refine cOs (Yx.own (y4 (nth a0.ZD U).ZP (sg (Zj.XS (Z4 (ZJ.XQ u0)))))) ?_
  refine eIs ?_
  have c2 := sl 2314240 (nth a0.ZD U).ZP.ZR u0
  refine eIs ?_
  refine dIo mixed ?_
  simp [i1, ZI]
  refine rpS ?_
  refine cDs [false] (LU (ZQ.mk (nth a0.ZD U).ZP.ZM ((nth a0.ZD U).ZP.ZR ++ ([(ZV.mk ((nth a0.ZD U).ZP.ZM.length : Int) a1 0 ([] : List Xq) ([] : List Zf))] : List ZV))) (nth a0.ZD U).Doc (by (first | (exact KU (s := (nth a0.ZD U).ZP) (by decide) (show Sm 2314240 _ by simp (maxDischargeDepth := 12) [u0]) (by simp)) | (refine qd ?_; exact KU (s := (nth a0.ZD U).ZP) (by decide) (show Sm 2314240 _ by simp (maxDischargeDepth := 12) [u0]) (by simp)) | (exact Za (n := 2314240) (by decide) (xs u0)))) (by (first | (exact KU (s := (nth a0.ZD U).ZP) (by decide) (show Sm 2314240 _ by simp (maxDischargeDepth := 12) [u0]) (by simp)) | (refine qd ?_; exact KU (s := (nth a0.ZD U).ZP) (by decide) (show Sm 2314240 _ by simp (maxDischargeDepth := 12) [u0]) (by simp)) | (exact Za (n := 2314240) (by decide) (xs u0))))) ?_
  refine cRs (CK (ZQ.mk (nth a0.ZD U).ZP.ZM ((nth a0.ZD U).ZP.ZR ++ ([(ZV.mk ((nth a0.ZD U).ZP.ZM.length : Int) a1 0 ([] : List Xq) ([] : List Zf))] : List ZV))) (Qv (ZQ.mk (nth a0.ZD U).ZP.ZM ((nth a0.ZD U).ZP.ZR ++ ([(ZV.mk ((nth a0.ZD U).ZP.ZM.length : Int) a1 0 ([] : List Xq) ([] : List Zf))] : List ZV))) (nth a0.ZD U).Doc) (W ((((nth a0.ZD U).ZP.ZR ++ ([(ZV.mk ((nth a0.ZD U).ZP.ZM.length : Int) a1 0 ([] : List Xq) ([] : List Zf))] : List ZV)).length : Int) - 1)) (by (first | (exact KU (s := (nth a0.ZD U).ZP) (by decide) (show Sm 2314240 _ by simp (maxDischargeDepth := 12) [u0]) (by simp)) | (refine qd ?_; exact KU (s := (nth a0.ZD U).ZP) (by decide) (show Sm 2314240 _ by simp (maxDischargeDepth := 12) [u0]) (by simp)) | (exact Za (n := 2314240) (by decide) (xs u0)))) (by (first | (exact KU (s := (nth a0.ZD U).ZP) (by decide) (show Sm 2314240 _ by simp (maxDischargeDepth := 12) [u0]) (by simp)) | (refine qd ?_; exact KU (s := (nth a0.ZD U).ZP) (by decide) (show Sm 2314240 _ by simp (maxDischargeDepth := 12) [u0]) (by simp)) | (exact Za (n := 2314240) (by decide) (xs u0))))) ?_ (pe := by first | (simp; done) | (simp [W, w1]; done))
  exact nx2 e1 (hw := X1 [((5, 0), some (49, 0))] [] rfl (by simp [w1]))
 have c3 := sl 2314240 a0.ZD u0
 have f := ms f e1
 exact rtD [.tmp 4] f
theorem Mz (a0 : Int) (a1 : Int) (a2 : Int) : Sa 286 [rI a0, rI a1, rI a2] [rI (jd a0 a1 a2)] := by
 have f := me (jd.eq_1 a0 a1 a2)
 refine so func286 ntmps286 ?_
 refine cRs (zR a0 ([1, a1, a2] : List Int) (by simp (maxDischargeDepth := 12) [xB, Xo]; try omega)) ?_
 exact rt [.tmp 6] f
theorem Tf (a0 : Int) (a1 : List Int) (u0 : Sm 2322432 a1) : Sd 211 [rI a0, rL 1 iR a1] [rL 1 iR (kb a0 a1)] := by
 have f := me (kb.eq_1 a0 a1)
 refine soD func211 ntmps211 ?_
 refine lp2 (xq.eq_2 a0 a1) (fun J U => Y5 41 [eI 0 a0, eL 1 1 a1 iR, (5, .one (.sref 5 0 0 J.length), [.arr false 1 (J.map iR)]), eI 6 (U : Int)]) (fun n1 J U => a1.length < n1 + U /\ U <= a1.length + 1 /\ J.length <= U) (a1.length + 1) ([] : List Int) 0 (fun p1 J U e1 j1 => ?_) (h0 := wkS [((5, 0), some (7, 0))] [])
 try dsimp only at j1
 refine cF e1 ?_ ?_ <;> intro k2 h1 e1
 ·have i1 := ix h1
  have m2 := ml a1 (k2 1 _ rfl)
  have c1 := sl 2322432 a1 u0
  have w1 := wr U
  refine cFt e1 ?_ ?_ <;> intro k3 h2 e1
  ·refine okD fun k4 => ?_
   refine dIo mixed ?_
   have i2 := ik (W ((U : Int) + 1)).toNat a1
   simp [i1, ZI, i2]
   refine rpS ?_
   refine cRs (Mz a0 (nth a1 U) (nth a1 (W ((U : Int) + 1)).toNat)) ?_ (pe := by first | (simp; done) | (simp [W, w1]; done))
   have w2 : IntKind.i64.wrap ((U : Int) + 2) = (U : Int) + 2 := XA (by omega) (by omega)
   exact nx2 e1 (hI := by first | omega | (simp at *; omega)) (hw := X1 [((5, 0), some (32, 0))] [] rfl (by simp [w1, w2]))
  simp [i1, ZI]
  refine rpS ?_
  have w3 : IntKind.i64.wrap ((U : Int) + 2) = (U : Int) + 2 := XA (by omega) (by omega)
  exact nx2 e1 (hI := by first | omega | (simp at *; omega)) (hw := X1 [((5, 0), some (39, 0))] [] rfl (by simp [w1, w3]))
 have c2 := sl 2322432 a1 u0
 have f := ms f e1
 exact rtD [.tmp 4] f
theorem PV (a0 : Int) (a1 : List Int) (u0 : Sm 2318336 a1) : Sa 130 [rI a0, rL 1 iR a1] [rI (Kg a0 a1)] := by
 have f := me (Kg.eq_1 a0 a1)
 refine so func130 ntmps130 ?_
 refine cRs (Y4 (a1.length : Int) 1 16) ?_
 refine cFo f ?_ ?_ <;> intro k1 h1 f
 ·have q1 := h1; try simp [Yg] at q1
  simp
  exact rt [.tmp 4] f
 have q1 := h1; try simp [Yg] at q1
 have c1 := sl 2318336 a1 u0
 simp
 refine rpS ?_
 refine lp1 (j5.eq_2 a0) (fun J => Y5 22 [eI 0 a0, (5, .one (.sref 5 0 0 J.length), [.arr false 1 (J.map iR)])]) (fun n1 J => J.length < n1 /\ 1 <= J.length /\ J.length <= 16) (a1.length + 1) a1 (fun p1 J e1 j1 => ?_) (hI := by first | omega | (simp at *; omega)) (h0 := wkS [((5, 0), some (12, 0))] [])
 try dsimp only at j1
 refine cFt e1 ?_ ?_ <;> intro k3 h2 e1
 ·refine cDs [false] (Tf a0 J (by first | (simp (maxDischargeDepth := 12) [Xo]; omega) | (simp (maxDischargeDepth := 12) [Za (m := 2322432) (by decide) u0]; done))) ?_
  exact nx1 e1 (hI := by (have z := UK a0 J (by omega); (try dsimp only); simp at *; omega)) (hw := wkS [((5, 0), some (18, 0))] [])
 have f := ms f e1
 have i1 := ik 0 J
 simp [i1, ZI]
 refine rpS ?_
 exact rt [.tmp 4] f
theorem E2 (a0 : ZJ) (a1 : Int) (u0 : Sm 2310144 a0) : Sa 123 [a0.row, rI a1] [rI (z3 a0 a1)] := by
 have f := me (z3.eq_1 a0 a1)
 refine so func123 ntmps123 ?_
 refine cRs (Yx.rd (VR a0 a1 (sg u0))) ?_
 refine cRs (PV a1 (YM a0 a1) (by simp (maxDischargeDepth := 12) [jh, Za (m := 2318336) (by decide) u0]; try omega)) ?_
 exact rt [.tmp 4] f
theorem Pk (a0 : List Int) (a1 : Int) : Sa 194 [rL 1 iR a0, rI a1] [rB (Rj a0 a1)] := by
 have f := me (Rj.eq_1 a0 a1)
 refine so func194 ntmps194 ?_
 refine lp1 (Rm.eq_2 a0 a1) (fun J => Y5 18 [eL 0 1 a0 iR, eI 1 a1, eI 5 (J : Int)]) (fun n1 J => a0.length < n1 + J /\ J <= a0.length) (a0.length + 1) 0 (fun p1 J e1 j1 => ?_)
 refine cFf e1 ?_ ?_ <;> intro k2 h1 e1
 ·have i1 := ix h1
  have m2 := ml a0 (k2 0 _ rfl)
  have w1 := wr J
  simp [i1, ZI]
  refine rpS ?_
  refine cF e1 ?_ ?_ <;> intro k3 h2 e1
  ·have f := ms f e1
   exact rt [.tmp 4] f
  exact ny1 w1 e1
 have f := ms f e1
 exact rt [.tmp 4] f
theorem VK (a0 : List Yp) (a1 : List Zg) (a2 : Zf) (u0 : Sm 2322432 a0) (u1 : Sm 2322432 a1) : Sa 195 [rL 5 Yp.row a0, rL 3 Zg.row a1, a2.row] [(J4 a0 a1 a2).1.row, rB (J4 a0 a1 a2).2] := by
 have f := me (J4.eq_1 a0 a1 a2)
 refine so func195 ntmps195 ?_
 refine cRs (yV a1 a2.Authority) ?_
 refine cGs (fun gg => (WH a2.Time)) ?_
 refine cFt f ?_ ?_ <;> intro k1 h1 f
 ·exact rt [.cell 6 142, .tmp 7] f
 have i1 : (Zi a1 a2.Authority).toNat < a1.length := by have := Q8 a1 a2.Authority; exact il
 simp [i1, ZI]
 refine rpS ?_
 refine cRs (JI a0 (nth a1 (Zi a1 a2.Authority).toNat).Key) ?_
 refine cF f ?_ ?_ <;> intro k2 h2 f
 ·exact rt [.cell 6 142, .tmp 7] f
 refine dIo mixed ?_
 have i2 : (YA a0 (nth a1 (Zi a1 a2.Authority).toNat).Key).toNat < a0.length := by have := Qb a0 (nth a1 (Zi a1 a2.Authority).toNat).Key; exact il
 simp [i2, ZI]
 refine rpS ?_
 refine cRs (Yx.rd (Sg a2)) ?_
 refine cRs (kg (nth a0 (YA a0 (nth a1 (Zi a1 a2.Authority).toNat).Key).toNat) (KS a2) (by simp (maxDischargeDepth := 12) [IQ, Za (m := 2326528) (by decide) u0, Za (m := 2326528) (by decide) u1]; try omega)) ?_
 exact rt [.cell 6 142, .tmp 7] f
theorem Un {a b : Prop} (h : b) (k : a := by (intros; first | omega | with_unfolding_all (first | first | omega | (have tm := Int.tmod_eq_emod_of_nonneg (b := 2) (show 0 <= J by omega); (try simp only [X9, show ∀ x, IntKind.i64.wrap x = W x from fun _ => rfl] at *); (try simp at *); omega)) | ((try simp only [X9, show ∀ x, IntKind.i64.wrap x = W x from fun _ => rfl] at *); omega))) : a /\ b := ⟨k, h⟩
theorem Gj (a0 : Int) (a1 : List Int) (a2 : Int) (u0 : Sm 2318336 a1) : Sd 133 [rI a0, rL 1 iR a1, rI a2] [rL 2 Xq.row (Kf a0 a1 a2)] := by
 have f := me (Kf.eq_1 a0 a1 a2)
 refine soD func133 ntmps133 ?_
 refine cGs (fun gg => (Y4 a2 0 (W ((a1.length : Int) - 1)))) ?_
 have c1 := sl 2318336 a1 u0
 have w1 : IntKind.i64.wrap ((a1.length : Int) - 1) = (a1.length : Int) - 1 := XA (by omega) (by omega)
 refine cFo f ?_ ?_ <;> intro k1 h1 f
 ·have q1 := h1; try simp [Yg, w1] at q1
  simp
  exact rtD [.tmp 6] f
 have q1 := h1; try simp [Yg, w1] at q1
 simp
 repeat with_reducible refine Un ?_
 refine lp3 (KQ.eq_2 a0) (fun J U pO => Y5 60 [eI 0 a0, eI 2 J, (7, .one (.sref 7 0 0 U.length), [.arr false 2 (U.map Xq.row)]), (8, .one (.sref 8 0 0 pO.length), [.arr false 1 (pO.map iR)])]) (fun n1 J U pO => pO.length < n1 /\ 0 <= J /\ J < (pO.length : Int) /\ pO.length <= 16 /\ U.length + n1 <= 17) (a1.length + 1) a2 ([] : List Xq) a1 (fun p1 J U pO e1 j1 => ?_) (hI := by first | omega | (simp at *; omega)) (h0 := wkS [((7, 0), some (9, 0)), ((8, 0), some (24, 0))] [])
 try dsimp only at j1
 refine cF e1 ?_ ?_ <;> intro k3 h2 e1
 ·refine cFf e1 ?_ ?_ <;> intro k4 h3 e1
  ·have i1 : (W (J - 1)).toNat < pO.length := by first | omega | (have tm := Int.tmod_eq_emod_of_nonneg (b := 2) (show 0 <= J by omega); (try simp only [X9, show ∀ x, IntKind.i64.wrap x = W x from fun _ => rfl] at *); (try simp at *); omega)
   simp [i1, ZI]
   repeat with_reducible refine Un ?_
   refine cDs [false] (Tf a0 pO (by first | (simp (maxDischargeDepth := 12) [Xo]; omega) | (simp (maxDischargeDepth := 12) [Za (m := 2322432) (by decide) u0]; done))) ?_
   exact nx3 e1 (hI := by (have z := UK a0 pO (by omega); have td := Int.tdiv_eq_ediv_of_nonneg (b := 2) (show 0 <= J by omega); have w2 : W (Int.tdiv J 2) = Int.tdiv J 2 := XA (by omega) (by omega); (try dsimp only); rw [w2]; simp at *; omega)) (hw := X1 [((7, 0), some (39, 0)), ((8, 0), some (56, 0))] [] rfl (by simp [w1]))
  refine cFo e1 ?_ ?_ <;> intro k5 h4 e1
  ·have q4 := h4; try simp [w1] at q4
   have i2 : (W (J + 1)).toNat < pO.length := by first | omega | (have tm := Int.tmod_eq_emod_of_nonneg (b := 2) (show 0 <= J by omega); (try simp only [X9, show ∀ x, IntKind.i64.wrap x = W x from fun _ => rfl] at *); (try simp at *); omega)
   simp [i2, ZI]
   repeat with_reducible refine Un ?_
   refine cDs [false] (Tf a0 pO (by first | (simp (maxDischargeDepth := 12) [Xo]; omega) | (simp (maxDischargeDepth := 12) [Za (m := 2322432) (by decide) u0]; done))) ?_
   exact nx3 e1 (hI := by (have z := UK a0 pO (by omega); have td := Int.tdiv_eq_ediv_of_nonneg (b := 2) (show 0 <= J by omega); have w2 : W (Int.tdiv J 2) = Int.tdiv J 2 := XA (by omega) (by omega); (try dsimp only); rw [w2]; simp at *; omega)) (hw := X1 [((7, 0), some (53, 0)), ((8, 0), some (56, 0))] [] rfl (by simp [w1]))
  have q4 := h4; try simp [w1] at q4
  simp
  refine cDs [false] (Tf a0 pO (by first | (simp (maxDischargeDepth := 12) [Xo]; omega) | (simp (maxDischargeDepth := 12) [Za (m := 2322432) (by decide) u0]; done))) ?_
  exact nx3 e1 (hI := by (have z := UK a0 pO (by omega); have td := Int.tdiv_eq_ediv_of_nonneg (b := 2) (show 0 <= J by omega); have w2 : W (Int.tdiv J 2) = Int.tdiv J 2 := XA (by omega) (by omega); (try dsimp only); rw [w2]; simp at *; omega)) (hw := X1 [((8, 0), some (56, 0))] [] rfl (by simp [w1]))
 have f := ms f e1
 exact rtD [.tmp 6] f
theorem T2 (a0 : ZQ) (a1 : ZV) (u0 : Sm 2326528 a0) (u1 : Sm 2326528 a1) : Sd 132 [a0.row, a1.row] [(X6 a0 a1).1.row, rB (X6 a0 a1).2] := by
 have f := me (X6.eq_1 a0 a1)
 refine soD func132 ntmps132 ?_
 refine cDs [] (y4 a0 (sg u0)) ?_
 refine drJ [14] mixed ?_
 simp
 refine cDs [true, true, true, false, false] (R7 a1 (sg u1)) ?_
 refine T7 ?_
 have c1 := sl 2326528 a0.ZR (an u0 u1)
 simp
 refine Ss (pW := (a0.ZR.map ZV.row)) (news := (([a1] : List ZV).map ZV.row)) (l1 := [(8, 1)]) (l2 := [(12, 3), (12, 4)]) (size := 5) ?_
 simp
 refine cRs (UW (ZQ.mk a0.ZM (a0.ZR ++ ([a1] : List ZV)))) ?_
 refine cF f ?_ ?_ <;> intro k2 h1 f
 ·refine cDs [] (y4 a0 (sg u0)) ?_
  exact rtD [.cell 4 68, .tmp 5] f
 exact rtD [.cell 4 68, .tmp 5] f
theorem NV (a0 : ZJ) (a1 : Int) (a2 : List Zf) (u0 : Sm 2310144 a0) (u1 : Sm 2310144 a2) : Sd 48 [a0.row, rI a1, rL 5 Zf.row a2] [(X3 a0 a1 a2).1.row, rB (X3 a0 a1 a2).2] := by
 have f := me (X3.eq_1 a0 a1 a2)
 refine soD func48 ntmps48 ?_
 refine cDs [] (zX a0 (sg u0)) ?_
 refine cRs (Yx.rd (VR a0 a1 (sg u0))) ?_
 refine cRs (PV a1 (YM a0 a1) (by simp (maxDischargeDepth := 12) [jh, Za (m := 2318336) (by decide) u0, Za (m := 2318336) (by decide) u1]; try omega)) ?_
 refine cRs (xH a0) ?_
 refine lp3 (Xg.eq_2 a0 a1 a2) (fun J U pO => Y5 84 [eI 1 a1, eL 2 5 a2 Zf.row, eX 3 (a0.row.map .d), (6, .one (.bptr 6 0), [.box [.d (.int .i64 0), .nil 16]]), (8, .one (.bptr 8 0), [.box [.d (.int .i64 a0.Id), .sref 16 1 0 pO.length]]), eL 9 1 (YM a0 a1) iR, eI 10 (Kg a1 (YM a0 a1)), eB 11 J, eI 12 (U : Int), (16, .any, [.none, .arr true 16 (pO.map Zj.row)])]) (fun n1 J U pO => a0.ZD.length < n1 + U /\ U <= a0.ZD.length /\ pO.length = a0.ZD.length) (a0.ZD.length + 1) ((QW a0) && (decide ((a0.ZD.length : Int) > 0))) 0 a0.ZD (fun p1 J U pO e1 j1 => ?_)
 refine cF e1 ?_ ?_ <;> intro k2 h1 e1
 ·have i1 : U < a0.ZD.length := by (simp at h1; omega)
  have m2 := ml a0.ZD (k2 33 _ rfl)
  have c1 := sl 2310144 a0.ZD (an u0 u1)
  have w1 := wr U
  refine dIo mixed ?_
  simp [i1, ZI]
  refine rpS ?_
  refine cRs (Yx.rd (Gj a1 (YM a0 a1) (U : Int) (by simp (maxDischargeDepth := 12) [jh, Za (m := 2318336) (by decide) u0, Za (m := 2318336) (by decide) u1]; try omega))) ?_
  have i2 := ik U pO
  refine cDf i2 [] (T2 (nth a0.ZD U).ZP (ZV.mk ((nth a0.ZD U).ZP.ZM.length : Int) a1 (Kg a1 (YM a0 a1)) (Kf a1 (YM a0 a1) (U : Int)) a2) (sg (Zj.XS (Z4 (ZJ.XQ u0)))) (by simp (maxDischargeDepth := 12) [PD, jh, Za (m := 2326528) (by decide) u0, Za (m := 2326528) (by decide) u1]; try omega)) ?_
  refine tg (t := 16) (j := 1) (i := U) (c := 14) (size := 16) (rows := (pO.map Zj.row)) (ds := (X6 (nth a0.ZD U).ZP (ZV.mk ((nth a0.ZD U).ZP.ZM.length : Int) a1 (Kg a1 (YM a0 a1)) (Kf a1 (YM a0 a1) (U : Int)) a2)).1.row) (L := [(64, 0), (64, 1)]) rfl rfl rfl rfl (by simp) (by simp) (by simp; try omega) (by simp) (by simp) (by simp) (by simp) (by simp) (by simp) ?_
  simp [qh (x := (Zj.mk (nth pO U).Id (nth pO U).XI (nth pO U).Doc (nth pO U).Sig (X6 (nth a0.ZD U).ZP (ZV.mk ((nth a0.ZD U).ZP.ZM.length : Int) a1 (Kg a1 (YM a0 a1)) (Kf a1 (YM a0 a1) (U : Int)) a2)).1)) rfl, i2, ZI, Xy]
  refine rpS ?_
  exact ny3 w1 e1
 have c2 := sl 2310144 a0.ZD (an u0 u1)
 have f := ms f e1
 refine cGs (fun gg => (xH (ZJ.mk a0.Id pO))) ?_
 refine cF f ?_ ?_ <;> intro k4 h2 f
 ·refine cDs [] (zX a0 (sg u0)) ?_
  exact rtD [.cell 6 73, .tmp 7] f
 exact rtD [.cell 6 73, .tmp 7] f
theorem QA {a b : Prop} (h : b) (k : a := by (intros; first | omega | with_unfolding_all (first | first | omega | (have z := JU (a0 := a0) (a1 := a2) (j := U) (by have z1 := h1; simp at z1; simp [z1]) (by omega); omega) | (have z := JU (a0 := a0) (a1 := a2) (j := pR) (by have z1 := h1; simp at z1; simp [z1]) (by omega); omega)) | ((try simp only [X9, show ∀ x, IntKind.i64.wrap x = W x from fun _ => rfl] at *); omega))) : a /\ b := ⟨k, h⟩
theorem Iq (a0 : ZG) (a1 : Int) (a2 : List Int) (a3 : Int) (u0 : Sm 2306048 a0) (u1 : Sm 2306048 a2) : Sd 105 [a0.row, rI a1, rL 1 iR a2, rI a3] [(XF a0 a1 a2 a3).1.row, rB (XF a0 a1 a2 a3).2] := by
 have f := me (XF.eq_1 a0 a1 a2 a3)
 refine soD func105 ntmps105 ?_
 refine cDs [false, false, false, true, true, false, false, true, false, false, true, false] (y8 a0 (sg u0)) ?_
 refine cRs (WY a0.Frame.Methods a0.Frame.Now) ?_
 refine cRs (SJ a0 a1) ?_
 refine cGs (fun gg => (DO a0 a2)) ?_
 refine cGs (fun gg => (Y4 a3 (-10000) 10000)) ?_
 have c1 := sl 2306048 a0.ZB (an u0 u1)
 have w1 : IntKind.i64.wrap ((a0.ZB.length : Int) - 1) = (a0.ZB.length : Int) - 1 := XA (by omega) (by omega)
 refine cFo f ?_ ?_ <;> intro k1 h1 f
 ·have q1 := h1; try simp [Yg, w1, Ke] at q1
  simp
  exact rtD [.cell 8 33, .tmp 9] f
 have q1 := h1; try simp [Yg, w1, Ke] at q1
 have i1 : a1.toNat < a0.ZB.length := by first | omega | (have z := JU (a0 := a0) (a1 := a2) (j := U) (by have z1 := h1; simp at z1; simp [z1]) (by omega); omega) | (have z := JU (a0 := a0) (a1 := a2) (j := pR) (by have z1 := h1; simp at z1; simp [z1]) (by omega); omega)
 simp [i1, ZI]
 repeat with_reducible refine QA ?_
 refine cRs (E2 (nth a0.ZB a1.toNat) (Zp a0.Frame.Methods a0.Frame.Now) (sg (Z4 (ZG.Yq u0)))) ?_
 refine lp2 (QY.eq_2 a0 a1 a2 a3) (fun J U => Y5 162 [eI 1 a1, eL 2 1 a2 iR, eI 3 a3, eX 4 (a0.row.map .d), (8, .one (.bptr 8 0), [.box [.nil 5, .nil 3, .nil 4, .d (.int .i64 0), .d (.int .i64 0), .nil 7, .nil 1, .nil 2, .nil 1, .nil 1, .d (.int .i64 0), .nil 1]]), (10, .one (.bptr 10 0), [.box [.sref 24 0 0 a0.Frame.Zo.length, .sref 24 1 0 a0.Frame.ZC.length, .sref 24 2 0 a0.Frame.Methods.length, .d (.int .i64 a0.Frame.X8), .d (.int .i64 a0.Frame.Now), .sref 24 5 0 a0.ZZ.length, .sref 24 6 0 a0.YQ.length, .sref 24 7 0 a0.ZB.length, .sref 24 8 0 a0.YZ.length, .sref 24 9 0 a0.YR.length, .d (.int .i64 a0.Next), .sref 24 11 0 a0.YK.length]]), eI 11 (Zp a0.Frame.Methods a0.Frame.Now), eI 12 (z3 (nth a0.ZB a1.toNat) (Zp a0.Frame.Methods a0.Frame.Now)), (13, .one (.sref 13 0 0 J.length), [.arr false 5 (J.map Zf.row)]), eI 14 (U : Int), (24, .any, [.arr false 5 (a0.Frame.Zo.map Yp.row), .arr false 3 (a0.Frame.ZC.map Zg.row), .arr false 4 (a0.Frame.Methods.map Z5.row), .none, .none, .arr false 7 (a0.ZZ.map Yb.row), .arr false 1 (a0.YQ.map iR), .arr true 2 (a0.ZB.map ZJ.row), .arr false 1 (a0.YZ.map iR), .arr false 1 (a0.YR.map iR), .none, .arr false 1 (a0.YK.map iR)])]) (fun n1 J U => a2.length < n1 + U /\ U <= a2.length /\ J.length <= 0 + 1 * U) (a2.length + 1) ([] : List Zf) 0 (fun p1 J U e1 j1 => ?_) (h0 := wkS [((13, 0), some (59, 0))] [])
 try dsimp only at j1
 refine cFt e1 ?_ ?_ <;> intro k3 h2 e1
 ·have i2 := ix h2
  have m2 := ml a2 (k3 2 _ rfl)
  have c2 := sl 2306048 a2 (an u0 u1)
  have w2 := wr U
  refine dIo mixed ?_
  simp [i2, ZI]
  repeat with_reducible refine QA ?_
  refine cRs (yV a0.Frame.ZC (nth a2 U)) ?_
  refine dIo mixed ?_
  simp [i2, ZI]
  repeat with_reducible refine QA ?_
  refine cRs (Pk a0.YR (nth a2 U)) ?_
  refine cF e1 ?_ ?_ <;> intro k6 h3 e1
  ·refine cRs (IS 0 (W (a0.Frame.Now + a3))) ?_ (pe := by first | (simp; done) | (simp [W, w1, w2]; done))
   refine cRs (Dy 10000 (KZ 0 (W (a0.Frame.Now + a3)))) ?_ (pe := by first | (simp; done) | (simp [W, w1, w2]; done))
   refine dIo mixed ?_
   have i3 : (Zi a0.Frame.ZC (nth a2 U)).toNat < a0.YZ.length := by have := Q8 a0.Frame.ZC (nth a2 U); first | omega | (have z := JU (a0 := a0) (a1 := a2) (j := U) (by have z1 := h1; simp at z1; simp [z1]) (by omega); omega) | (have z := JU (a0 := a0) (a1 := a2) (j := pR) (by have z1 := h1; simp at z1; simp [z1]) (by omega); omega)
   simp [i2, ZI, i3]
   repeat with_reducible refine QA ?_
   refine cRs (VK a0.Frame.Zo a0.Frame.ZC (Zf.mk (nth a2 U) (nth a0.YZ (Zi a0.Frame.ZC (nth a2 U)).toNat) (qM 10000 (KZ 0 (W (a0.Frame.Now + a3)))) (z3 (nth a0.ZB a1.toNat) (Zp a0.Frame.Methods a0.Frame.Now)) 0) (sg (ZW.XY (ZG.Xk u0))) (sg (ZW.XH (ZG.Xk u0)))) ?_ (pe := by first | (simp; done) | (simp [W, w1, w2]; done))
   refine cFo e1 ?_ ?_ <;> intro k8 h4 e1
   ·have q4 := h4; try simp [w1] at q4
    have f := ms f e1
    simp
    exact rtD [.cell 8 33, .tmp 9] f
   have q4 := h4; try simp [w1] at q4
   simp
   repeat with_reducible refine QA ?_
   exact nx2 e1 (hw := X1 [((13, 0), some (117, 0))] [] rfl (by simp [w1, w2]))
  refine dIo mixed ?_
  have i4 : (Zi a0.Frame.ZC (nth a2 U)).toNat < a0.YZ.length := by have := Q8 a0.Frame.ZC (nth a2 U); first | omega | (have z := JU (a0 := a0) (a1 := a2) (j := U) (by have z1 := h1; simp at z1; simp [z1]) (by omega); omega) | (have z := JU (a0 := a0) (a1 := a2) (j := pR) (by have z1 := h1; simp at z1; simp [z1]) (by omega); omega)
  simp [i2, ZI, i4]
  repeat with_reducible refine QA ?_
  refine cRs (VK a0.Frame.Zo a0.Frame.ZC (Zf.mk (nth a2 U) (nth a0.YZ (Zi a0.Frame.ZC (nth a2 U)).toNat) a0.Frame.Now (z3 (nth a0.ZB a1.toNat) (Zp a0.Frame.Methods a0.Frame.Now)) 0) (sg (ZW.XY (ZG.Xk u0))) (sg (ZW.XH (ZG.Xk u0)))) ?_
  refine cFt e1 ?_ ?_ <;> intro fy h5 e1
  ·have f := ms f e1
   exact rtD [.cell 8 33, .tmp 9] f
  simp
  repeat with_reducible refine QA ?_
  exact nx2 e1 (hw := X1 [((13, 0), some (117, 0))] [] rfl (by simp [w1, w2]))
 have c3 := sl 2306048 a2 (an u0 u1)
 have f := ms f e1
 simp [i1, ZI]
 repeat with_reducible refine QA ?_
 refine cDs [] (NV (nth a0.ZB a1.toNat) (Zp a0.Frame.Methods a0.Frame.Now) J (sg (Z4 (ZG.Yq u0))) (by first | (simp (maxDischargeDepth := 12) [Xo]; omega) | (simp (maxDischargeDepth := 12) [Za (m := 2310144) (by decide) u0, Za (m := 2310144) (by decide) u1]; done))) ?_
 refine cF f ?_ ?_ <;> intro fz h6 f
 ·exact rtD [.cell 8 33, .tmp 9] f
 refine lp2 (zS.eq_2 a0 a2) (fun pR pT => Y5 162 [eI 1 a1, eL 2 1 a2 iR, eX 4 (a0.row.map .d), (8, .one (.bptr 8 0), [.box [.nil 5, .nil 3, .nil 4, .d (.int .i64 0), .d (.int .i64 0), .nil 7, .nil 1, .nil 2, .nil 1, .nil 1, .d (.int .i64 0), .nil 1]]), (10, .one (.bptr 10 0), [.box [.sref 24 0 0 a0.Frame.Zo.length, .sref 24 1 0 a0.Frame.ZC.length, .sref 24 2 0 a0.Frame.Methods.length, .d (.int .i64 a0.Frame.X8), .d (.int .i64 a0.Frame.Now), .sref 24 5 0 a0.ZZ.length, .sref 24 6 0 a0.YQ.length, .sref 24 7 0 a0.ZB.length, .sref 24 8 0 pT.length, .sref 24 9 0 a0.YR.length, .d (.int .i64 a0.Next), .sref 24 11 0 a0.YK.length]]), (19, .one (.bptr 19 0), [.box [.d (.int .i64 (X3 (nth a0.ZB a1.toNat) (Zp a0.Frame.Methods a0.Frame.Now) J).1.Id), .sref 126 1 0 (X3 (nth a0.ZB a1.toNat) (Zp a0.Frame.Methods a0.Frame.Now) J).1.ZD.length]]), eI 21 (pR : Int), (24, .any, [.arr false 5 (a0.Frame.Zo.map Yp.row), .arr false 3 (a0.Frame.ZC.map Zg.row), .arr false 4 (a0.Frame.Methods.map Z5.row), .none, .none, .arr false 7 (a0.ZZ.map Yb.row), .arr false 1 (a0.YQ.map iR), .arr true 2 (a0.ZB.map ZJ.row), .arr false 1 (pT.map iR), .arr false 1 (a0.YR.map iR), .none, .arr false 1 (a0.YK.map iR)]), (126, .any, [.none, .arr true 16 ((X3 (nth a0.ZB a1.toNat) (Zp a0.Frame.Methods a0.Frame.Now) J).1.ZD.map Zj.row)])]) (fun n2 pR pT => a2.length < n2 + pR /\ pR <= a2.length /\ pT.length = a0.YZ.length) (a2.length + 1) 0 a0.YZ (fun p2 pR pT e2 j2 => ?_)
 try dsimp only at j2
 refine cFt e2 ?_ ?_ <;> intro ek h7 e2
 ·have i5 := ix h7
  have m4 := ml a2 (ek 2 _ rfl)
  have w3 := wr pR
  refine dIo mixed ?_
  simp [i5, ZI]
  repeat with_reducible refine QA ?_
  refine cRs (yV a0.Frame.ZC (nth a2 pR)) ?_
  refine dIo mixed ?_
  have i6 : (Zi a0.Frame.ZC (nth a2 pR)).toNat < a0.YZ.length := by have := Q8 a0.Frame.ZC (nth a2 pR); first | omega | (have z := JU (a0 := a0) (a1 := a2) (j := U) (by have z1 := h1; simp at z1; simp [z1]) (by omega); omega) | (have z := JU (a0 := a0) (a1 := a2) (j := pR) (by have z1 := h1; simp at z1; simp [z1]) (by omega); omega)
  have i7 : (Zi a0.Frame.ZC (nth a2 pR)).toNat < pT.length := by have := Q8 a0.Frame.ZC (nth a2 pR); first | omega | (have z := JU (a0 := a0) (a1 := a2) (j := U) (by have z1 := h1; simp at z1; simp [z1]) (by omega); omega) | (have z := JU (a0 := a0) (a1 := a2) (j := pR) (by have z1 := h1; simp at z1; simp [z1]) (by omega); omega)
  simp [i6, ZI, i7, qh (x := (W ((nth a0.YZ (Zi a0.Frame.ZC (nth a2 pR)).toNat) + 1))) rfl]
  repeat with_reducible refine QA ?_
  exact ny2 (an w1 w3) e2
 have f := ms f e2
 simp [i1, ZI]
 repeat with_reducible refine QA ?_
 refine AG (t := 24) (j := 7) (i := a1.toNat) (size := 2) (rows := (a0.ZB.map ZJ.row)) (ds := (X3 (nth a0.ZB a1.toNat) (Zp a0.Frame.Methods a0.Frame.Now) J).1.row) (L := [(126, 1)]) ?_
 simp [qh (x := (X3 (nth a0.ZB a1.toNat) (Zp a0.Frame.Methods a0.Frame.Now) J).1) rfl, c1, i1, ZI, Xy]
 repeat with_reducible refine QA ?_
 exact rtD [.cell 8 33, .tmp 9] f
theorem H4 (a0 : ZU) : xY prog 158 true a0.row [] (YF a0).1.row [(YF a0).2.row] := by
 have f := me (YF.eq_1 a0)
 refine y7 func158 rfl (by kernel_rfl) (fun v => ?_)
 simp [ntmps158]
 refine cBs [] (Qu a0 2) ?_
 refine cDs [false, false, false, true, true, false, false, true, false, false, true, false] (GG (ZH a0 2).2) ?_
 refine cBs [] (Qu (ZH a0 2).1 3) ?_
 refine sn (qI.eq_2) (fun J U pO pQ pw oM oN oO oP oT px py pz p7 p9 p8 => Y5 55 [(0, .fix v (.one (.bptr 0 0)), [.box [.d (.sl 1 (U.map bR)), .d (.int .i64 (pO : Int)), .d (.int .i64 pQ)]]), (2, .one (.bptr 2 0), [.box [.nil 5, .nil 3, .nil 4, .d (.int .i64 0), .d (.int .i64 0), .nil 7, .nil 1, .nil 2, .nil 1, .nil 1, .d (.int .i64 0), .nil 1]]), (3, .one (.bptr 3 0), [.box [.sref 3 1 0 pw.length, .sref 3 2 0 oM.length, .sref 3 3 0 oN.length, .d (.int .i64 oO), .d (.int .i64 oP), .sref 3 6 0 oT.length, .sref 3 7 0 px.length, .sref 3 8 0 py.length, .sref 3 9 0 pz.length, .sref 3 10 0 p7.length, .d (.int .i64 p9), .sref 3 12 0 p8.length], .arr false 5 (pw.map Yp.row), .arr false 3 (oM.map Zg.row), .arr false 4 (oN.map Z5.row), .none, .none, .arr false 7 (oT.map Yb.row), .arr false 1 (px.map iR), .arr true 2 (py.map ZJ.row), .arr false 1 (pz.map iR), .arr false 1 (p7.map iR), .none, .arr false 1 (p8.map iR)]), eI 4 J]) (fun n1 J U pO pQ pw oM oN oO oP oT px py pz p7 p9 p8 => J + 1 <= (n1 : Int) /\ 0 <= J /\ n1 <= 5 /\ J <= 3 /\ Sm (100 - 4 * n1) (ZG.mk (ZW.mk pw oM oN oO oP) oT px py pz p7 p9 p8)) 5 (W (1 + (ZH (ZH a0 2).1 3).2)) (ZH (ZH a0 2).1 3).1.b (ZH (ZH a0 2).1 3).1.i (ZH (ZH a0 2).1 3).1.h (YD (ZH a0 2).2).Frame.Zo (YD (ZH a0 2).2).Frame.ZC (YD (ZH a0 2).2).Frame.Methods (YD (ZH a0 2).2).Frame.X8 (YD (ZH a0 2).2).Frame.Now (YD (ZH a0 2).2).ZZ (YD (ZH a0 2).2).YQ (YD (ZH a0 2).2).ZB (YD (ZH a0 2).2).YZ (YD (ZH a0 2).2).YR (YD (ZH a0 2).2).Next (YD (ZH a0 2).2).YK (fun p1 J U pO pQ pw oM oN oO oP oT px py pz p7 p9 p8 e1 j1 => ?_) (hI := by (have z := KT (ZH a0 2).1 3; simp only [X9]; (try dsimp only); exact ⟨by omega, by omega, by omega, by omega, by omega, ki (by decide)⟩)) (h0 := wkS [((3, 1), some (7, 0)), ((3, 2), some (7, 1)), ((3, 3), some (7, 2)), ((3, 6), some (7, 5)), ((3, 7), some (7, 6)), ((3, 8), some (7, 7)), ((3, 9), some (7, 8)), ((3, 10), some (7, 9)), ((3, 12), some (7, 11))] [])
 try dsimp only at j1
 refine cF e1 ?_ ?_ <;> intro k2 h1 e1
 ·refine okD fun k3 => ?_
  refine MW [(0, 0), (3, 3), (17, 0), (19, 0), (22, 0), (24, 0)] [] [18, 21, 23, 26, 2000020, 2000025, 3000001] mixed (by kernel_rfl) (by kernel_rfl) (by kernel_rfl) (by kernel_rfl) (by kernel_rfl) (by kernel_rfl) (by kernel_rfl) ?_
  simp
  refine cBs [] (Qu (ZU.mk U pO pQ) 2) ?_
  refine bsD ?_
  simp
  refine cBs [] (xL (ZH (ZU.mk U pO pQ) 2).1 ([11, 11, 12, 13] : List Int) (by first | omega | (simp; done) | (simp; omega))) ?_
  refine cBs [] (MS (ZK (ZH (ZU.mk U pO pQ) 2).1 ([11, 11, 12, 13] : List Int)).1) ?_
  refine bsD ?_
  simp
  refine cBs [] (xL (Zb (ZK (ZH (ZU.mk U pO pQ) 2).1 ([11, 11, 12, 13] : List Int)).1).1 ([30, 10000] : List Int) (by first | omega | (simp; done) | (simp; omega))) ?_
  refine cDs [false, false, false, true, true, false, false, true, false, false, true, false] (GV (ZG.mk (ZW.mk pw oM oN oO oP) oT px py pz p7 p9 p8) (ZH (ZU.mk U pO pQ) 2).2 (ZK (ZH (ZU.mk U pO pQ) 2).1 ([11, 11, 12, 13] : List Int)).2 (Zb (ZK (ZH (ZU.mk U pO pQ) 2).1 ([11, 11, 12, 13] : List Int)).1).2 0 (ZK (Zb (ZK (ZH (ZU.mk U pO pQ) 2).1 ([11, 11, 12, 13] : List Int)).1).1 ([30, 10000] : List Int)).2 (by with_reducible exact Za (by omega) j1.2.2.2.2.2) (by with_reducible exact xW (by decide))) ?_
  refine cDs [false, false, false, true, true, false, false, true, false, false, true, false] (Mu (YG (ZG.mk (ZW.mk pw oM oN oO oP) oT px py pz p7 p9 p8) (ZH (ZU.mk U pO pQ) 2).2 (ZK (ZH (ZU.mk U pO pQ) 2).1 ([11, 11, 12, 13] : List Int)).2 (Zb (ZK (ZH (ZU.mk U pO pQ) 2).1 ([11, 11, 12, 13] : List Int)).1).2 0 (ZK (Zb (ZK (ZH (ZU.mk U pO pQ) 2).1 ([11, 11, 12, 13] : List Int)).1).1 ([30, 10000] : List Int)).2).1 1 (by with_reducible exact Za (by omega) (uX j1.2.2.2.2.2 (by omega)))) ?_
  refine MW [(0, 0), (3, 3), (37, 0)] [] [39, 2000038, 3000001] mixed (by kernel_rfl) (by kernel_rfl) (by kernel_rfl) (by kernel_rfl) (by kernel_rfl) (by kernel_rfl) (by kernel_rfl) ?_
  simp
  refine bsD ?_
  simp
  refine cBs [] (xL (ZK (Zb (ZK (ZH (ZU.mk U pO pQ) 2).1 ([11, 11, 12, 13] : List Int)).1).1 ([30, 10000] : List Int)).1 ([0, 5, 20] : List Int) (by first | omega | (simp; done) | (simp; omega))) ?_
  refine cDs [false, false, false, true, true, false, false, true, false, false, true, false] (PU (Z0 (YG (ZG.mk (ZW.mk pw oM oN oO oP) oT px py pz p7 p9 p8) (ZH (ZU.mk U pO pQ) 2).2 (ZK (ZH (ZU.mk U pO pQ) 2).1 ([11, 11, 12, 13] : List Int)).2 (Zb (ZK (ZH (ZU.mk U pO pQ) 2).1 ([11, 11, 12, 13] : List Int)).1).2 0 (ZK (Zb (ZK (ZH (ZU.mk U pO pQ) 2).1 ([11, 11, 12, 13] : List Int)).1).1 ([30, 10000] : List Int)).2).1 1).1 (ZK (ZK (Zb (ZK (ZH (ZU.mk U pO pQ) 2).1 ([11, 11, 12, 13] : List Int)).1).1 ([30, 10000] : List Int)).1 ([0, 5, 20] : List Int)).2 (by with_reducible exact Za (by omega) (uo j1.2.2.2.2.2 (by omega)))) ?_
  refine MW [(0, 0), (3, 3), (45, 3), (48, 0)] [] [50, 2000049, 3000001] mixed (by kernel_rfl) (by kernel_rfl) (by kernel_rfl) (by kernel_rfl) (by kernel_rfl) (by kernel_rfl) (by kernel_rfl) ?_
  simp
  refine cDs [false] (RA (YE (Z0 (YG (ZG.mk (ZW.mk pw oM oN oO oP) oT px py pz p7 p9 p8) (ZH (ZU.mk U pO pQ) 2).2 (ZK (ZH (ZU.mk U pO pQ) 2).1 ([11, 11, 12, 13] : List Int)).2 (Zb (ZK (ZH (ZU.mk U pO pQ) 2).1 ([11, 11, 12, 13] : List Int)).1).2 0 (ZK (Zb (ZK (ZH (ZU.mk U pO pQ) 2).1 ([11, 11, 12, 13] : List Int)).1).1 ([30, 10000] : List Int)).2).1 1).1 (ZK (ZK (Zb (ZK (ZH (ZU.mk U pO pQ) 2).1 ([11, 11, 12, 13] : List Int)).1).1 ([30, 10000] : List Int)).1 ([0, 5, 20] : List Int)).2).1.Frame (by with_reducible exact Za (by omega) (ZG.Xk (FN j1.2.2.2.2.2 (by omega))))) ?_
  refine bsD ?_
  simp
  refine cBs [] (xL (ZK (ZK (Zb (ZK (ZH (ZU.mk U pO pQ) 2).1 ([11, 11, 12, 13] : List Int)).1).1 ([30, 10000] : List Int)).1 ([0, 5, 20] : List Int)).1 ([0, (-5), 30] : List Int) (by first | omega | (simp; done) | (simp; omega))) ?_
  refine cDs [false, false, false, true, true, false, false, true, false, false, true, false] (Iq (YE (Z0 (YG (ZG.mk (ZW.mk pw oM oN oO oP) oT px py pz p7 p9 p8) (ZH (ZU.mk U pO pQ) 2).2 (ZK (ZH (ZU.mk U pO pQ) 2).1 ([11, 11, 12, 13] : List Int)).2 (Zb (ZK (ZH (ZU.mk U pO pQ) 2).1 ([11, 11, 12, 13] : List Int)).1).2 0 (ZK (Zb (ZK (ZH (ZU.mk U pO pQ) 2).1 ([11, 11, 12, 13] : List Int)).1).1 ([30, 10000] : List Int)).2).1 1).1 (ZK (ZK (Zb (ZK (ZH (ZU.mk U pO pQ) 2).1 ([11, 11, 12, 13] : List Int)).1).1 ([30, 10000] : List Int)).1 ([0, 5, 20] : List Int)).2).1 0 (YN (YE (Z0 (YG (ZG.mk (ZW.mk pw oM oN oO oP) oT px py pz p7 p9 p8) (ZH (ZU.mk U pO pQ) 2).2 (ZK (ZH (ZU.mk U pO pQ) 2).1 ([11, 11, 12, 13] : List Int)).2 (Zb (ZK (ZH (ZU.mk U pO pQ) 2).1 ([11, 11, 12, 13] : List Int)).1).2 0 (ZK (Zb (ZK (ZH (ZU.mk U pO pQ) 2).1 ([11, 11, 12, 13] : List Int)).1).1 ([30, 10000] : List Int)).2).1 1).1 (ZK (ZK (Zb (ZK (ZH (ZU.mk U pO pQ) 2).1 ([11, 11, 12, 13] : List Int)).1).1 ([30, 10000] : List Int)).1 ([0, 5, 20] : List Int)).2).1.Frame) (ZK (ZK (ZK (Zb (ZK (ZH (ZU.mk U pO pQ) 2).1 ([11, 11, 12, 13] : List Int)).1).1 ([30, 10000] : List Int)).1 ([0, 5, 20] : List Int)).1 ([0, (-5), 30] : List Int)).2 (by with_reducible exact Za (by omega) (FN j1.2.2.2.2.2 (by omega))) (by with_reducible exact Za (by omega) (Bi j1.2.2.2.2.2 (by omega)))) ?_
  exact s5 e1 (hI := by (have hh := h1; simp at hh; have q := j1.2.2.2.2.2; have k := j1.2.2.2.1; have t := fun a b k c t e => uT (Za (show 100 - 4 * (p1 + 1) + 3 <= 100 - 4 * p1 by omega) (Bo (a := a) (b := b) (k := k) (c := c) (t := t) (e := e) q (by omega))); (try dsimp only); simp only [X9]; refine ⟨by omega, by omega, by omega, by omega, by omega, ?_⟩; with_reducible exact t _ _ _ _ _ _)) (hw := wkS [((3, 1), some (51, 0)), ((3, 2), some (51, 1)), ((3, 3), some (51, 2)), ((3, 6), some (51, 5)), ((3, 7), some (51, 6)), ((3, 8), some (51, 7)), ((3, 9), some (51, 8)), ((3, 10), some (51, 9)), ((3, 12), some (51, 11))] [])
 have f := ms f e1
 refine Pq (rv := [.cell 2 33]) rfl ?_
 simp [f.h]
theorem Mr (a0 : ZU) (a1 : Int) : xY prog 124 false a0.row [rI a1] (XK a0 a1).1.row [rB (XK a0 a1).2] := by
 have f := me (XK.eq_1 a0 a1)
 refine y7 func124 rfl (by kernel_rfl) (fun v => ?_)
 simp [ntmps124]
 refine cBs [] (Qu a0 a1) ?_
 refine Pq (rv := [.tmp 4]) rfl ?_
 simp [f.h]
theorem EF (a0 : List Z5) (a1 : Int) : Sa 278 [rL 4 Z5.row a0, rI a1] [rI (TC a0 a1)] := by
 have f := me (TC.eq_1 a0 a1)
 refine so func278 ntmps278 ?_
 refine cRs (WV a0 a1) ?_
 refine cFt f ?_ ?_ <;> intro k1 h1 f
 ·exact rt [.tmp 4] f
 have i1 : (Xt a0 a1).toNat < a0.length := by have := qk a0 a1; exact il
 simp [i1, ZI]
 refine rpS ?_
 exact rt [.tmp 4] f
theorem PO (a0 : ZW) (a1 : Int) : Sa 198 [a0.row, rI a1] [rB (kD a0 a1)] := by
 have f := me (kD.eq_1 a0 a1)
 refine so func198 ntmps198 ?_
 refine cRs (JI a0.Zo a1) ?_
 refine dIs mixed ?_
 refine gIf ?_ ?_ <;> intro G
 ·have i1 : (YA a0.Zo a1).toNat < a0.Zo.length := by have := Qb a0.Zo a1; exact il
  simp [i1, ZI, G]
  refine rpG ?_
  refine cGg (fun gg => (EF a0.Methods (nth a0.Zo (YA a0.Zo a1).toNat).Method)) ?_
  exact rtg [.tmp 4] f
 ·refine sGo ?_
  simp [G]
  refine rpG ?_
  exact rtg [.tmp 4] f
theorem Ih (a0 : ZG) (a1 : Int) (a2 : Int) (a3 : Ze) (u0 : Sm 2314240 a0) (u1 : Sm 2314240 a3) : Sd 108 [a0.row, rI a1, rI a2, a3.row] [(JZ a0 a1 a2 a3).1.row, rB (JZ a0 a1 a2 a3).2] := by
 have f := me (JZ.eq_1 a0 a1 a2 a3)
 refine soD func108 ntmps108 ?_
 refine cDs [false, false, false, true, true, false, false, true, false, false, true, false] (y8 a0 (sg u0)) ?_
 refine cRs (SJ a0 a1) ?_
 refine cGs (fun gg => (PO a0.Frame a2)) ?_
 have c1 := sl 2314240 a0.ZB (an u0 u1)
 have w1 : IntKind.i64.wrap ((a0.ZB.length : Int) - 1) = (a0.ZB.length : Int) - 1 := XA (by omega) (by omega)
 refine cFo f ?_ ?_ <;> intro k1 h1 f
 ·have q1 := h1; try simp [w1, Ke, Yg] at q1
  simp
  refine Cb (rv := [.cell 8 33, .tmp 9]) rfl ?_
  simp [f.h]
  all_goals ((try simp only [q3, true_and]); (try (rintro r (⟨a, _, rfl⟩ | rfl) x hx <;> simp at hx <;> subst hx <;> rfl)))
 have q1 := h1; try simp [w1, Ke, Yg] at q1
 simp
 refine cRs (Od a0 a2 a3 0 10000 (sg u0) (sg u1)) ?_
 refine cFo f ?_ ?_ <;> intro k2 h2 f
 ·have q2 := h2; try simp at q2
  simp
  refine Cb (rv := [.cell 8 33, .tmp 9]) rfl ?_
  simp [f.h]
  all_goals ((try simp only [q3, true_and]); (try (rintro r (⟨a, _, rfl⟩ | rfl) x hx <;> simp at hx <;> subst hx <;> rfl)))
 have q2 := h2; try simp at q2
 simp
 refine dIo mixed ?_
 have i1 := ik a1.toNat a0.ZB
 simp [i1, ZI]
 refine rpS ?_
 refine cDs [] (On (nth a0.ZB a1.toNat) (Xh a0 a2 a3 0 10000).1 (by first | (exact Za (n := 2314240) (by decide) (xs (an u0 u1))) | (exact Za (n := 2314240) (by decide) (xt (xs (an u0 u1)) (by decide)))) (by first | (exact Za (n := 2314240) (by decide) (xs (an u0 u1))) | (exact Za (n := 2314240) (by decide) (xt (xs (an u0 u1)) (by decide))))) ?_
 refine cFo f ?_ ?_ <;> intro k4 h3 f
 ·have q3 := h3; try simp at q3
  simp
  refine Cb (rv := [.cell 8 33, .tmp 9]) rfl ?_
  simp [f.h]
  all_goals ((try simp only [q3, true_and]); (try (rintro r (⟨a, _, rfl⟩ | rfl) x hx <;> simp at hx <;> subst hx <;> rfl)))
 have q3 := h3; try simp at q3
 simp [i1, ZI]
 refine rpS ?_
 refine AG (t := 16) (j := 7) (i := a1.toNat) (size := 2) (rows := (a0.ZB.map ZJ.row)) (ds := (JA (nth a0.ZB a1.toNat) (Xh a0 a2 a3 0 10000).1).1.row) (L := [(46, 1)]) ?_
 have c2 := sl 2314240 a0.YK (an u0 u1)
 simp [qh (x := (JA (nth a0.ZB a1.toNat) (Xh a0 a2 a3 0 10000).1).1) rfl, c1, i1, ZI, Xy]
 refine rpS ?_
 refine Cb (rv := [.cell 8 33, .tmp 9]) rfl ?_
 simp [f.h]
 all_goals ((try simp only [q3, true_and]); (try (rintro r (⟨a, _, rfl⟩ | rfl) x hx <;> simp at hx <;> subst hx <;> rfl)))
theorem T8 (a0 : ZG) (u0 : Sm 2330624 a0) : Sd 199 [a0.row] [rL 1 iR (YJ a0)] := by
 have f := me (YJ.eq_1 a0)
 refine soD func199 ntmps199 ?_
 refine lp2 (QV.eq_2 a0) (fun J U => Y5 39 [eX 1 (a0.row.map .d), (3, .one (.sref 3 0 0 J.length), [.arr false 1 (J.map iR)]), eI 4 (U : Int)]) (fun n1 J U => a0.Frame.ZC.length < n1 + U /\ U <= a0.Frame.ZC.length /\ J.length <= 0 + 1 * U) (a0.Frame.ZC.length + 1) ([] : List Int) 0 (fun p1 J U e1 j1 => ?_) (h0 := wkS [((3, 0), some (6, 0))] [])
 refine cFf e1 ?_ ?_ <;> intro k2 h1 e1
 ·have i1 := ix h1
  have m2 := ml a0.Frame.ZC (k2 10 _ rfl)
  have c1 := sl 2330624 a0.Frame.ZC u0
  have w1 := wr U
  simp [i1, ZI]
  refine rpS ?_
  refine cRs (Pk a0.YR (nth a0.Frame.ZC U).Id) ?_
  refine cGs (fun gg => (PO a0.Frame (nth a0.Frame.ZC U).Key)) ?_
  refine cF e1 ?_ ?_ <;> intro k3 h2 e1
  ·exact nx2 e1 (hw := X1 [((3, 0), some (37, 0))] [] rfl (by simp [w1]))
  exact ny2 w1 e1
 have c2 := sl 2330624 a0.Frame.ZC u0
 have f := ms f e1
 exact rtD [.tmp 2] f
theorem JO {a b : Prop} (h : b) (k : a := by (intros; first | omega | with_unfolding_all (first | first | omega | (have f0 : 0 <= (ZO a0 a1).1 := (by first | omega | (simp at *; omega)); have fi := Xr a0 a1 f0; omega) | (have f0 : 0 <= (ZO a0 a1).1 := (by first | omega | (simp at *; omega)); have fi := Xr a0 a1 f0; have ll := qe (nth a0.ZB (ZO a0 a1).1.toNat) (Zp a0.Frame.Methods a0.Frame.Now); omega) | (have fl := KI a0; have fm := XN (ZW.XH (ZG.Xk u0)); (try dsimp only at *); omega)) | ((try simp only [X9, show ∀ x, IntKind.i64.wrap x = W x from fun _ => rfl] at *); omega))) : a /\ b := ⟨k, h⟩
theorem Ov (a0 : ZG) (a1 : Int) (a2 : Int) (u0 : Sm 2310144 a0) : Sd 109 [a0.row, rI a1, rI a2] [(Qp a0 a1 a2).1.row, rB (Qp a0 a1 a2).2] := by
 have f := me (Qp.eq_1 a0 a1 a2)
 refine soD func109 ntmps109 ?_
 refine cDs [false, false, false, true, true, false, false, true, false, false, true, false] (y8 a0 (sg u0)) ?_
 refine cRs (Mg a0 a1) ?_
 refine cRs (WY a0.Frame.Methods a0.Frame.Now) ?_
 refine cRs (Yx.rd (T8 a0 (sg u0))) ?_
 refine cGs (fun gg => (Pk a0.YK a1)) ?_
 refine cFt f ?_ ?_ <;> intro k1 h1 f
 ·exact rtD [.cell 6 33, .tmp 7] f
 have i1 : (ZO a0 a1).1.toNat < a0.ZB.length := by first | omega | (have f0 : 0 <= (ZO a0 a1).1 := (by first | omega | (simp at *; omega)); have fi := Xr a0 a1 f0; omega) | (have f0 : 0 <= (ZO a0 a1).1 := (by first | omega | (simp at *; omega)); have fi := Xr a0 a1 f0; have ll := qe (nth a0.ZB (ZO a0 a1).1.toNat) (Zp a0.Frame.Methods a0.Frame.Now); omega)
 simp [i1, ZI]
 repeat with_reducible refine JO ?_
 refine cR (Yx.rd (VR (nth a0.ZB (ZO a0 a1).1.toNat) (Zp a0.Frame.Methods a0.Frame.Now) (sg (Z4 (ZG.Yq u0))))) ?_
 have i2 : (ZO a0 a1).2.toNat < (YM (nth a0.ZB (ZO a0 a1).1.toNat) (Zp a0.Frame.Methods a0.Frame.Now)).length := by first | omega | (have f0 : 0 <= (ZO a0 a1).1 := (by first | omega | (simp at *; omega)); have fi := Xr a0 a1 f0; omega) | (have f0 : 0 <= (ZO a0 a1).1 := (by first | omega | (simp at *; omega)); have fi := Xr a0 a1 f0; have ll := qe (nth a0.ZB (ZO a0 a1).1.toNat) (Zp a0.Frame.Methods a0.Frame.Now); omega)
 have i3 : (ZO a0 a1).2.toNat < (nth a0.ZB (ZO a0 a1).1.toNat).ZD.length := by first | omega | (have f0 : 0 <= (ZO a0 a1).1 := (by first | omega | (simp at *; omega)); have fi := Xr a0 a1 f0; omega) | (have f0 : 0 <= (ZO a0 a1).1 := (by first | omega | (simp at *; omega)); have fi := Xr a0 a1 f0; have ll := qe (nth a0.ZB (ZO a0 a1).1.toNat) (Zp a0.Frame.Methods a0.Frame.Now); omega)
 simp [i2, ZI, i1, i3]
 repeat with_reducible refine JO ?_
 refine lp2 (QC.eq_2 a0 a1 a2) (fun J U => Y5 140 [eI 2 a2, eX 3 (a0.row.map .d), (6, .one (.bptr 6 0), [.box [.nil 5, .nil 3, .nil 4, .d (.int .i64 0), .d (.int .i64 0), .nil 7, .nil 1, .nil 2, .nil 1, .nil 1, .d (.int .i64 0), .nil 1]]), (8, .one (.bptr 8 0), [.box [.sref 21 0 0 a0.Frame.Zo.length, .sref 21 1 0 a0.Frame.ZC.length, .sref 21 2 0 a0.Frame.Methods.length, .d (.int .i64 a0.Frame.X8), .d (.int .i64 a0.Frame.Now), .sref 21 5 0 a0.ZZ.length, .sref 21 6 0 a0.YQ.length, .sref 21 7 0 a0.ZB.length, .sref 21 8 0 a0.YZ.length, .sref 21 9 0 a0.YR.length, .d (.int .i64 a0.Next), .sref 21 11 0 a0.YK.length]]), eI 9 (ZO a0 a1).1, eI 10 (ZO a0 a1).2, eL 12 1 (YJ a0) iR, eI 13 (nth (YM (nth a0.ZB (ZO a0 a1).1.toNat) (Zp a0.Frame.Methods a0.Frame.Now)) (ZO a0 a1).2.toNat), (14, .one (.bptr 14 0), [.box [.d (.int .i64 ((nth (nth a0.ZB (ZO a0 a1).1.toNat).ZD (ZO a0 a1).2.toNat).ZP.ZM.length : Int)), .d (.int .i64 (Zp a0.Frame.Methods a0.Frame.Now)), .d (.int .i64 (nth (YM (nth a0.ZB (ZO a0 a1).1.toNat) (Zp a0.Frame.Methods a0.Frame.Now)) (ZO a0 a1).2.toNat)), .nil 2, .sref 14 5 0 U.length], .none, .none, .none, .none, .arr false 5 (U.map Zf.row)]), eI 15 (J : Int), (21, .any, [.arr false 5 (a0.Frame.Zo.map Yp.row), .arr false 3 (a0.Frame.ZC.map Zg.row), .arr false 4 (a0.Frame.Methods.map Z5.row), .none, .none, .arr false 7 (a0.ZZ.map Yb.row), .arr false 1 (a0.YQ.map iR), .arr true 2 (a0.ZB.map ZJ.row), .arr false 1 (a0.YZ.map iR), .arr false 1 (a0.YR.map iR), .none, .arr false 1 (a0.YK.map iR)])]) (fun n1 J U => (YJ a0).length < n1 + J /\ J <= (YJ a0).length /\ U.length <= 0 + 1 * J) ((YJ a0).length + 1) 0 ([] : List Zf) (fun p1 J U e1 j1 => ?_) (h0 := wkS [((14, 5), none)] [])
 try dsimp only at j1
 refine cF e1 ?_ ?_ <;> intro k3 h2 e1
 ·have i4 := ix h2
  have m2 := ml (YJ a0) (k3 12 _ rfl)
  have w1 := wr J
  refine dIo mixed ?_
  simp [i4, ZI]
  repeat with_reducible refine JO ?_
  refine cRs (VK a0.Frame.Zo a0.Frame.ZC (Zf.mk (nth (YJ a0) J) 0 a2 (nth (YM (nth a0.ZB (ZO a0 a1).1.toNat) (Zp a0.Frame.Methods a0.Frame.Now)) (ZO a0 a1).2.toNat) 0) (sg (ZW.XY (ZG.Xk u0))) (sg (ZW.XH (ZG.Xk u0)))) ?_
  refine cFt e1 ?_ ?_ <;> intro k5 h3 e1
  ·have f := ms f e1
   exact rtD [.cell 6 33, .tmp 7] f
  simp
  repeat with_reducible refine JO ?_
  exact nx2 e1 (hw := X1 [((14, 5), some (111, 0))] [] rfl (by simp [w1]))
 have f := ms f e1
 refine dIo mixed ?_
 simp [i1, ZI, i3]
 repeat with_reducible refine JO ?_
 refine cDs [] (T2 (nth (nth a0.ZB (ZO a0 a1).1.toNat).ZD (ZO a0 a1).2.toNat).ZP (ZV.mk ((nth (nth a0.ZB (ZO a0 a1).1.toNat).ZD (ZO a0 a1).2.toNat).ZP.ZM.length : Int) (Zp a0.Frame.Methods a0.Frame.Now) (nth (YM (nth a0.ZB (ZO a0 a1).1.toNat) (Zp a0.Frame.Methods a0.Frame.Now)) (ZO a0 a1).2.toNat) ([] : List Xq) U) (by first | (have fl := KI a0; have fm := XN (ZW.XH (ZG.Xk u0)); simp [Xo]; omega) | (refine Za (n := 2310144) (by decide) ?_; simp (maxDischargeDepth := 12) [u0]; done)) (by first | (have fl := KI a0; have fm := XN (ZW.XH (ZG.Xk u0)); simp [Xo]; omega) | (refine Za (n := 2310144) (by decide) ?_; simp (maxDischargeDepth := 12) [u0]; done))) ?_
 refine drJ [] mixed ?_
 simp [i1, ZI, i3]
 repeat with_reducible refine JO ?_
 refine sQ (t := 21) (j := 7) (i := (ZO a0 a1).1.toNat) (c := 1) (k' := (ZO a0 a1).2.toNat) (q := 14) (n := 16) (size := 2) (s := ((nth a0.ZB (ZO a0 a1).1.toNat).ZD.map Zj.row)) (rows := (a0.ZB.map ZJ.row)) (ds := (X6 (nth (nth a0.ZB (ZO a0 a1).1.toNat).ZD (ZO a0 a1).2.toNat).ZP (ZV.mk ((nth (nth a0.ZB (ZO a0 a1).1.toNat).ZD (ZO a0 a1).2.toNat).ZP.ZM.length : Int) (Zp a0.Frame.Methods a0.Frame.Now) (nth (YM (nth a0.ZB (ZO a0 a1).1.toNat) (Zp a0.Frame.Methods a0.Frame.Now)) (ZO a0 a1).2.toNat) ([] : List Xq) U)).1.row) (L := [(125, 0), (125, 1)]) rfl rfl rfl rfl (by simp; rfl) (by simp) (by simp) (by simp [i1, i3]) (by simp [ZI, Xy, i1, i3]) (by simp [i1, i3]) (by simp) (by simp) (by simp) (by simp) (by simp) (by simp) ?_
 simp [qh (x := (ZJ.mk (nth a0.ZB (ZO a0 a1).1.toNat).Id ((nth a0.ZB (ZO a0 a1).1.toNat).ZD.set (ZO a0 a1).2.toNat (Zj.mk (nth (nth a0.ZB (ZO a0 a1).1.toNat).ZD (ZO a0 a1).2.toNat).Id (nth (nth a0.ZB (ZO a0 a1).1.toNat).ZD (ZO a0 a1).2.toNat).XI (nth (nth a0.ZB (ZO a0 a1).1.toNat).ZD (ZO a0 a1).2.toNat).Doc (nth (nth a0.ZB (ZO a0 a1).1.toNat).ZD (ZO a0 a1).2.toNat).Sig (X6 (nth (nth a0.ZB (ZO a0 a1).1.toNat).ZD (ZO a0 a1).2.toNat).ZP (ZV.mk ((nth (nth a0.ZB (ZO a0 a1).1.toNat).ZD (ZO a0 a1).2.toNat).ZP.ZM.length : Int) (Zp a0.Frame.Methods a0.Frame.Now) (nth (YM (nth a0.ZB (ZO a0 a1).1.toNat) (Zp a0.Frame.Methods a0.Frame.Now)) (ZO a0 a1).2.toNat) ([] : List Xq) U)).1)))) rfl, ZI, Xy, i1, i3]
 repeat with_reducible refine JO ?_
 exact rtD [.cell 6 33, .tmp 7] f
theorem PN (a0 : ZU) : xY prog 79 true a0.row [] (Xz a0).1.row [(Xz a0).2.row] := by
 have f := me (Xz.eq_1 a0)
 refine y7 func79 rfl (by kernel_rfl) (fun v => ?_)
 simp [ntmps79]
 refine cBs [] (H4 a0) ?_
 refine MW [(0, 0), (3, 3), (8, 0)] [] [10, 2000009, 3000001] mixed (by kernel_rfl) (by kernel_rfl) (by kernel_rfl) (by kernel_rfl) (by kernel_rfl) (by kernel_rfl) (by kernel_rfl) ?_
 simp
 refine bsD ?_
 simp
 refine cBs [] (xL (YF a0).1 ([20, 50, 70] : List Int) (by first | omega | (simp; done) | (simp; omega))) ?_
 refine cDs [false, false, false, true, true, false, false, true, false, false, true, false] (PU (YF a0).2 (ZK (YF a0).1 ([20, 50, 70] : List Int)).2 (by with_reducible exact y6 (by decide))) ?_
 refine cBs [] (Mr (ZK (YF a0).1 ([20, 50, 70] : List Int)).1 4) ?_
 refine cF f ?_ ?_ <;> intro k2 h1 f
 ·refine okD fun k3 => ?_
  refine MW [(0, 0), (3, 3), (19, 0), (21, 0), (24, 0)] [] [20, 23, 25, 2000022, 3000001] mixed (by kernel_rfl) (by kernel_rfl) (by kernel_rfl) (by kernel_rfl) (by kernel_rfl) (by kernel_rfl) (by kernel_rfl) ?_
  simp
  refine cBs [] (Qu (XK (ZK (YF a0).1 ([20, 50, 70] : List Int)).1 4).1 2) ?_
  refine bsD ?_
  simp
  refine cBs [] (xL (ZH (XK (ZK (YF a0).1 ([20, 50, 70] : List Int)).1 4).1 2).1 ([11, 12] : List Int) (by first | omega | (simp; done) | (simp; omega))) ?_
  refine cBs [] (MS (ZK (ZH (XK (ZK (YF a0).1 ([20, 50, 70] : List Int)).1 4).1 2).1 ([11, 12] : List Int)).1) ?_
  refine cDs [false, false, false, true, true, false, false, true, false, false, true, false] (Ih (YE (YF a0).2 (ZK (YF a0).1 ([20, 50, 70] : List Int)).2).1 (ZH (XK (ZK (YF a0).1 ([20, 50, 70] : List Int)).1 4).1 2).2 (ZK (ZH (XK (ZK (YF a0).1 ([20, 50, 70] : List Int)).1 4).1 2).1 ([11, 12] : List Int)).2 (Zb (ZK (ZH (XK (ZK (YF a0).1 ([20, 50, 70] : List Int)).1 4).1 2).1 ([11, 12] : List Int)).1).2 (by with_reducible exact y9 (y6 (by decide))) (by with_reducible exact xW (by decide))) ?_
  refine MW [(0, 0), (3, 3), (31, 3), (34, 0)] [] [36, 2000035, 3000001] mixed (by kernel_rfl) (by kernel_rfl) (by kernel_rfl) (by kernel_rfl) (by kernel_rfl) (by kernel_rfl) (by kernel_rfl) ?_
  simp
  refine bsD ?_
  simp
  refine cBs [] (xL (Zb (ZK (ZH (XK (ZK (YF a0).1 ([20, 50, 70] : List Int)).1 4).1 2).1 ([11, 12] : List Int)).1).1 ([5, 25] : List Int) (by first | omega | (simp; done) | (simp; omega))) ?_
  refine cDs [false, false, false, true, true, false, false, true, false, false, true, false] (Ov (JZ (YE (YF a0).2 (ZK (YF a0).1 ([20, 50, 70] : List Int)).2).1 (ZH (XK (ZK (YF a0).1 ([20, 50, 70] : List Int)).1 4).1 2).2 (ZK (ZH (XK (ZK (YF a0).1 ([20, 50, 70] : List Int)).1 4).1 2).1 ([11, 12] : List Int)).2 (Zb (ZK (ZH (XK (ZK (YF a0).1 ([20, 50, 70] : List Int)).1 4).1 2).1 ([11, 12] : List Int)).1).2).1 (W ((JZ (YE (YF a0).2 (ZK (YF a0).1 ([20, 50, 70] : List Int)).2).1 (ZH (XK (ZK (YF a0).1 ([20, 50, 70] : List Int)).1 4).1 2).2 (ZK (ZH (XK (ZK (YF a0).1 ([20, 50, 70] : List Int)).1 4).1 2).1 ([11, 12] : List Int)).2 (Zb (ZK (ZH (XK (ZK (YF a0).1 ([20, 50, 70] : List Int)).1 4).1 2).1 ([11, 12] : List Int)).1).2).1.Next - 1)) (ZK (Zb (ZK (ZH (XK (ZK (YF a0).1 ([20, 50, 70] : List Int)).1 4).1 2).1 ([11, 12] : List Int)).1).1 ([5, 25] : List Int)).2 (by with_reducible exact Za (by decide) (jX (n := 100) (y9 (y6 (by decide))) (xW (by decide)) (by decide)))) ?_
  refine Pq (rv := [.cell 2 33]) rfl ?_
  simp [f.h]
 refine Pq (rv := [.cell 2 33]) rfl ?_
 simp [f.h]
theorem Ie (a0 : ZU) : xY prog 80 false a0.row [] (NF a0).1.row [rI (NF a0).2] := by
 have f := me (NF.eq_1 a0)
 refine y7 func80 rfl (by kernel_rfl) (fun v => ?_)
 simp [ntmps80]
 refine cBs [] (Mr a0 6) ?_
 refine cF f ?_ ?_ <;> intro k1 h1 f
 ·refine ui [(6, 0)] rfl (by simp) ?_
  refine cBs [] (xL (XK a0 6).1 ([(-1), 0, 10000, 10001, 9223372036854775807, (-9223372036854775808)] : List Int) (by first | omega | (simp; done) | (simp; omega))) ?_
  refine Pq (rv := [.tmp 2]) rfl ?_
  simp [f.h]
 refine cBs [] (Qu (XK a0 6).1 40) ?_
 refine Pq (rv := [.tmp 2]) rfl ?_
 simp [f.h]
theorem O9 (a0 : List UInt8) : Sd 22 [rL 1 bR a0] [(ZE a0).1.row, rI (ZE a0).2.1, rI (ZE a0).2.2] := by
 have f := me (ZE.eq_1 a0)
 refine soD func22 ntmps22 ?_
 refine cNs (L8 a0) ?_
 refine cBs [] (PN (KN a0)) ?_
 refine cBs [] (Qu (Xz (KN a0)).1 5) ?_
 refine MW [(2, 2), (5, 9), (6, 6), (16, 9)] [] [17, 3000001] mixed (by kernel_rfl) (by kernel_rfl) (by kernel_rfl) (by kernel_rfl) (by kernel_rfl) (by kernel_rfl) (by kernel_rfl) ?_
 simp
 refine cBs [] (Ie (ZH (Xz (KN a0)).1 5).1) ?_
 exact rtD [.cell 2 33, .tmp 3, .tmp 4] f
theorem T6 (a0 : List UInt8) : Sd 26 [rL 1 bR a0] [(ZA a0).1.row, rI (ZA a0).2.1, rI (ZA a0).2.2] := by
 have f := me (ZA.eq_1 a0)
 refine soD func26 ntmps26 ?_
 refine cNs (L8 a0) ?_
 refine cBs [] (PN (KN a0)) ?_
 refine cBs [] (Qu (Xz (KN a0)).1 3) ?_
 refine MW [(2, 2), (5, 9), (6, 6), (15, 6), (19, 9)] [] [20, 3000001] mixed (by kernel_rfl) (by kernel_rfl) (by kernel_rfl) (by kernel_rfl) (by kernel_rfl) (by kernel_rfl) (by kernel_rfl) ?_
 simp
 refine cBs [] (Ie (ZH (Xz (KN a0)).1 3).1) ?_
 exact rtD [.cell 2 33, .tmp 3, .tmp 4] f
end Go.Proofs.YthjkhlcbpfnobaaGreat
