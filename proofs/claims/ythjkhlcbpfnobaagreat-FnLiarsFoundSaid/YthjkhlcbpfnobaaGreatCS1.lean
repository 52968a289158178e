/- Contracts of the functions RH the abstract machine, part S1. No condition. -/
import Derived.Test.YthjkhlcbpfnobaaGreatL
import Derived.Test.YthjkhlcbpfnobaaGreatTy
namespace Go.Proofs.YthjkhlcbpfnobaaGreat
open Tryz
open Go.Vm Go.Mo
set_option maxHeartbeats 1000000
set_option maxRecDepth 100000
set_option linter.unusedSimpArgs false
set_option linter.unusedVariables false
theorem Mu (a0 : List UInt8) : Ui prog 55 [rL 1 bR a0] (yp a0).row := by
 have f := me (yp.eq_1 a0)
 refine Ig func55 rfl (by kernel_rfl) ?_
 simp [ntmps55]
 refine lp2 (Ue.eq_2 a0) (fun J U => XQ 32 [eL 0 1 a0 bR, eI 3 J, eI 4 (U : Int)]) (fun n1 J U => 4000 < n1 + U) 4001 (W (193017 + (a0.length : Int))) 0 (fun p1 J U e1 j1 => ?_)
 refine cFf e1 ?_ ?_ <;> intro k2 h1 e1
 ·have i1 : U < a0.length := by (simp at h1; omega)
  have m2 := ml a0 (k2 0 _ rfl)
  have w1 := wr U
  simp [i1, ZI]
  refine rpS ?_
  exact ny2 w1 e1
 have f := ms f e1
 refine E4 31 (rv := [.tmp 2]) rfl ?_
 simp [f.h]
theorem xy (a0 : Zj) : KE prog 139 false a0.row [] (Zu a0).1.row [rI (Zu a0).2] := by
 have f := me (Zu.eq_1 a0)
 refine Jc func139 rfl (by kernel_rfl) (fun v => ?_)
 simp [ntmps139]
 refine dIs mixed ?_
 refine dIs mixed ?_
 refine cF f ?_ ?_ <;> intro k3 h1 f
 ·refine okD fun k4 => ?_
  refine dIo mixed ?_
  have i1 := ik a0.i a0.b
  simp [i1, ZI]
  refine rpS ?_
  refine KU (rv := [.tmp 2]) rfl ?_
  first | (have w0 := wr a0.i (by have z := ml a0.b (k3 32 _ rfl); simp at h1; omega); simp [f.h, w0]; done) | simp [f.h]
 refine KU (rv := [.tmp 2]) rfl ?_
 first | (have w0 := wr a0.i (by have z := ml a0.b (k3 32 _ rfl); simp at h1; omega); simp [f.h, w0]; done) | simp [f.h]
theorem YA (a0 : Zj) (a1 : Int) : KE prog 57 false a0.row [rI a1] (ZB a0 a1).1.row [rI (ZB a0 a1).2] := by
 have f := me (ZB.eq_1 a0 a1)
 refine Jc func57 rfl (by kernel_rfl) (fun v => ?_)
 simp [ntmps57]
 refine cF f ?_ ?_ <;> intro k1 h1 f
 ·refine KU (rv := [.tmp 4]) rfl ?_
  simp [f.h]
 refine cF f ?_ ?_ <;> intro k2 h2 f
 ·refine cBs [] (xy a0) ?_
  refine KU (rv := [.tmp 4]) rfl ?_
  simp [f.h]
 refine cBs [] (xy a0) ?_
 refine cBs [] (xy (Zu a0).1) ?_
 refine cBs [] (xy (Zu (Zu a0).1).1) ?_
 refine KU (rv := [.tmp 4]) rfl ?_
 simp [f.h]
theorem NT (a0 : Int) (a1 : Int) : Sa 136 [rI a0, rI a1] [rI (yb a0 a1)] := by
 have f := me (yb.eq_1 a0 a1)
 refine so func136 ntmps136 ?_
 refine cF f ?_ ?_ <;> intro k1 h1 f
 ·exact rt [.tmp 4] f
 exact rt [.tmp 4] f
theorem GG (a0 : Int) (a1 : Int) : Sa 135 [rI a0, rI a1] [rI (WN a0 a1)] := by
 have f := me (WN.eq_1 a0 a1)
 refine so func135 ntmps135 ?_
 refine cF f ?_ ?_ <;> intro k1 h1 f
 ·exact rt [.tmp 4] f
 exact rt [.tmp 4] f
theorem xr : Sd 121 [] [rL 5 Yq.row J1] := by
 have f := me (J1.eq_1)
 refine soD func121 ntmps121 ?_
 exact rtD [.tmp 0] f
theorem WH : Sd 122 [] [rL 3 ZZ.row Qm] := by
 have f := me (Qm.eq_1)
 refine soD func122 ntmps122 ?_
 exact rtD [.tmp 0] f
theorem Oj : Sd 137 [] [rL 4 YJ.row yw] := by
 have f := me (yw.eq_1)
 refine soD func137 ntmps137 ?_
 exact rtD [.tmp 0] f
theorem VZ (a0 : List Yq) (a1 : Int) : Sa 181 [rL 5 Yq.row a0, rI a1] [rI (zG a0 a1)] := by
 have f := me (zG.eq_1 a0 a1)
 refine so func181 ntmps181 ?_
 refine lp1 (xv.eq_2 a0 a1) (fun J => XQ 20 [eL 0 5 a0 Yq.row, eI 1 a1, eI 5 (J : Int)]) (fun n1 J => a0.length < n1 + J /\ J <= a0.length) (a0.length + 1) 0 (fun p1 J e1 j1 => ?_)
 refine cFf e1 ?_ ?_ <;> intro k2 h1 e1
 ·have i1 := ix h1
  have m2 := ml a0 (k2 0 _ rfl)
  have w1 := wr J
  simp [i1, ZI]
  refine rpS ?_
  refine cF e1 ?_ ?_ <;> intro k3 h2 e1
  ·have f := ms f e1
   exact rt [.tmp 4] f
  exact ny1 w1 e1
 have f := ms f e1
 exact rt [.tmp 4] f
theorem JW (a0 : Int) (a1 : Int) (a2 : Int) : Sa 97 [rI a0, rI a1, rI a2] [rB (Jo a0 a1 a2)] := by
 have f := me (Jo.eq_1 a0 a1 a2)
 refine so func97 ntmps97 ?_
 exact rt [.tmp 6] f
theorem PO (a0 : Ym) : Sa 332 [a0.row] [(jA a0).row] := by
 have f := me (jA.eq_1 a0)
 refine so func332 ntmps332 ?_
 exact rt [.cell 2 59] f
theorem TB (a0 : Int) : Sa 273 [rI a0] [rB (VK a0)] := by
 have f := me (VK.eq_1 a0)
 refine so func273 ntmps273 ?_
 refine cRs (JW a0 0 10000) ?_
 exact rt [.tmp 2] f
theorem NS (a0 : qI) : Sa 331 [a0.row] [rB (T7 a0)] := by
 have f := me (T7.eq_1 a0)
 refine so func331 ntmps331 ?_
 refine cRs (TB a0.xb) ?_
 refine cGs (fun gg => (TB a0.To)) ?_
 exact rt [.tmp 2] f
theorem Nj (a0 : Ym) : Sa 290 [a0.row] [rB (Sv a0)] := by
 have f := me (Sv.eq_1 a0)
 refine so func290 ntmps290 ?_
 refine cRs (JW a0.YD 1 999) ?_
 refine cGs (fun gg => (JW a0.Key 1 99)) ?_
 refine cGs (fun gg => (JW a0.YZ 1 99)) ?_
 refine cGs (fun gg => (JW a0.xi 0 99)) ?_
 refine cGs (fun gg => (PO a0)) ?_
 refine cGs (fun gg => (NS (jA a0))) ?_
 exact rt [.tmp 2] f
theorem Ru (a0 : Ym) : Sd 291 [a0.row] [rL 1 iR (Kx a0)] := by
 have f := me (Kx.eq_1 a0)
 refine soD func291 ntmps291 ?_
 exact rtD [.tmp 2] f
theorem Hj (a0 : Int) (a1 : Int) : Sa 350 [rI a0, rI a1] [rI (H7 a0 a1)] := by
 have f := me (H7.eq_1 a0 a1)
 refine so func350 ntmps350 ?_
 refine cRs (JW a1 1 1000000000000) ?_
 refine cFo f ?_ ?_ <;> intro k1 h1 f
 ·have q1 := h1; try simp [Jo] at q1
  simp
  exact rt [.tmp 4] f
 have q1 := h1; try simp [Jo] at q1
 simp
 refine rpS ?_
 exact rt [.tmp 4] f
theorem L7 (a0 : List Int) : Sa 334 [rL 1 iR a0] [rI (Mt a0)] := by
 have f := me (Mt.eq_1 a0)
 refine so func334 ntmps334 ?_
 refine lp2 (Sh.eq_2 a0) (fun J U => XQ 22 [eL 0 1 a0 iR, eI 3 J, eI 4 (U : Int)]) (fun n1 J U => a0.length < n1 + U /\ U <= a0.length) (a0.length + 1) 11 0 (fun p1 J U e1 j1 => ?_)
 refine cFf e1 ?_ ?_ <;> intro k2 h1 e1
 ·have i1 := ix h1
  have m2 := ml a0 (k2 0 _ rfl)
  have w1 := wr U
  simp [i1, ZI]
  refine rpS ?_
  refine cRs (Hj (nth a0 U) 2147483647) ?_
  exact ny2 w1 e1
 have f := ms f e1
 exact rt [.tmp 2] f
theorem kJ (a0 : Int) (a1 : List Int) (u0 : Sm 2330624 a1) : Sa 298 [rI a0, rL 1 iR a1] [rI (zC a0 a1)] := by
 have f := me (zC.eq_1 a0 a1)
 have c1 := sl 2330624 a1 u0
 refine so func298 ntmps298 ?_
 refine cRs (L7 ((([a0] : List Int) ++ a1) ++ ([a0] : List Int))) ?_
 exact rt [.tmp 4] f
theorem Rq (a0 : Yq) (a1 : List Int) (u0 : Sm 2326528 a1) : Sa 270 [a0.row, rL 1 iR a1] [rI (Wr a0 a1)] := by
 have f := me (Wr.eq_1 a0 a1)
 refine so func270 ntmps270 ?_
 refine H8 [2, 3, 4, 5, 6, 0, 1, 7, 8] mixed (by kernel_rfl) (by kernel_rfl) (by kernel_rfl) ?_
 have c1 := sl 2326528 a1 u0
 simp
 refine rpS ?_
 refine cRs (kJ a0.W5 (([a0.Method] : List Int) ++ a1) (by simp (maxDischargeDepth := 12) [Kc, Xg, ZW (m := 2330624) (by decide) u0]; try omega)) ?_
 exact rt [.tmp 4] f
theorem xJ (a0 : List Yq) (a1 : Ym) (u0 : Sm 2322432 a0) : Sa 215 [rL 5 Yq.row a0, a1.row] [(zA a0 a1).1.row, rB (zA a0 a1).2] := by
 have f := me (zA.eq_1 a0 a1)
 refine so func215 ntmps215 ?_
 refine cRs (VZ a0 a1.YZ) ?_
 refine cRs (Nj a1) ?_
 refine cGs (fun gg => (VZ a0 a1.Key)) ?_
 refine cF f ?_ ?_ <;> intro k1 h1 f
 ·exact rt [.cell 4 107, .tmp 5] f
 refine dIo mixed ?_
 have i1 : (zG a0 a1.YZ).toNat < a0.length := by have := ON a0 a1.YZ; exact il
 simp [i1, ZI]
 refine rpS ?_
 refine cRs (Yx.rd (Ru a1)) ?_
 refine cRs (Rq (nth a0 (zG a0 a1.YZ).toNat) (Kx a1) (by simp (maxDischargeDepth := 12) [Rn, ZW (m := 2326528) (by decide) u0]; try omega)) ?_
 exact rt [.cell 4 107, .tmp 5] f
theorem Oa : Sd 138 [] [rL 7 Ym.row z5] := by
 have f := me (z5.eq_1)
 refine soD func138 ntmps138 ?_
 refine cRs (Yx.rd (xr)) ?_
 refine cRs (xJ J1 (Ym.mk 1 11 1 0 60 1 0) (by simp (maxDischargeDepth := 12) [xn]; try omega)) ?_
 refine cRs (Yx.rd (xr)) ?_
 refine cRs (xJ J1 (Ym.mk 2 12 1 20 100 1 0) (by simp (maxDischargeDepth := 12) [xn]; try omega)) ?_
 refine cRs (Yx.rd (xr)) ?_
 refine cRs (xJ J1 (Ym.mk 3 13 2 40 150 2 0) (by simp (maxDischargeDepth := 12) [xn]; try omega)) ?_
 exact rtD [.tmp 0] f
theorem Ry (a0 : Int) : Sd 56 [rI a0] [(Yl a0).row] := by
 have f := me (Yl.eq_1 a0)
 refine soD func56 ntmps56 ?_
 refine cRs (NT 0 a0) ?_
 refine cRs (GG 1 (yb 0 a0)) ?_
 refine cDs [false] (xr) ?_
 refine cDs [false] (WH) ?_
 refine cDs [false] (Oj) ?_
 refine cDs [false] (Oa) ?_
 refine Fe (news := (([(ZD.mk 0 ([] : List ZS)), (ZD.mk 1 ([] : List ZS))] : List ZD).map ZD.row)) (L := []) rfl rfl rfl rfl (by simp) (by simp) (by simp) (by simp) (by simp) (by simp) ?_
 simp
 refine cF f ?_ ?_ <;> intro k1 h1 f
 ·exact rtD [.cell 2 33] f
 exact rtD [.cell 2 33] f
theorem NV (a0 : Zj) (a1 : Int) : KE prog 124 false a0.row [rI a1] (Zh a0 a1).1.row [rB (Zh a0 a1).2] := by
 have f := me (Zh.eq_1 a0 a1)
 refine Jc func124 rfl (by kernel_rfl) (fun v => ?_)
 simp [ntmps124]
 refine cBs [] (YA a0 a1) ?_
 refine KU (rv := [.tmp 4]) rfl ?_
 simp [f.h]
theorem M4 {a b : Prop} (h : b) (k : a := by (intros; first | omega | with_unfolding_all (first | first | omega | (have z := XI a0 (a1.length : Int); omega)) | ((try simp only [XR, show ∀ x, IntKind.i64.wrap x = W x from fun _ => rfl] at *); omega))) : a /\ b := ⟨k, h⟩
theorem X9 (a0 : Zj) (a1 : List Int) (u0 : 0 < a1.length) : KE prog 72 false a0.row [rL 1 iR a1] (Ze a0 a1).1.row [rI (Ze a0 a1).2] := by
 have f := me (Ze.eq_1 a0 a1)
 refine Jc func72 rfl (by kernel_rfl) (fun v => ?_)
 simp [ntmps72]
 refine cBo [] (YA a0 (a1.length : Int)) ?_
 have i1 : (ZB a0 (a1.length : Int)).2.toNat < a1.length := by (have z := XI a0 (a1.length : Int); omega)
 simp [i1, ZI]
 repeat with_reducible refine M4 ?_
 refine KU (rv := [.tmp 4]) rfl ?_
 simp [f.h]
theorem Mf {a b : Prop} (h : b) (k : a := by (intros; first | omega | with_unfolding_all (first | first | omega | (have z := XI a0 (a1.length : Int); omega)) | ((try simp only [XR, show ∀ x, IntKind.i64.wrap x = W x from fun _ => rfl] at *); omega))) : a /\ b := ⟨k, h⟩
theorem Mb (a0 : Zj) (a1 : List ByteArray) (u0 : 0 < a1.length) : KE prog 297 false a0.row [rL 1 sR a1] (kv a0 a1).1.row [rS (kv a0 a1).2] := by
 have f := me (kv.eq_1 a0 a1)
 refine Jc func297 rfl (by kernel_rfl) (fun v => ?_)
 simp [ntmps297]
 refine cBo [] (YA a0 (a1.length : Int)) ?_
 have i1 : (ZB a0 (a1.length : Int)).2.toNat < a1.length := by (have z := XI a0 (a1.length : Int); omega)
 simp [i1, ZI]
 repeat with_reducible refine Mf ?_
 refine KU (rv := [.tmp 4]) rfl ?_
 simp [f.h]
theorem Nz (a0 : Zj) : KE prog 225 false a0.row [] (JS a0).1.row [rS (JS a0).2] := by
 have f := me (JS.eq_1 a0)
 refine Jc func225 rfl (by kernel_rfl) (fun v => ?_)
 simp [ntmps225]
 refine xt [(4, 0)] rfl (by simp) ?_
 refine cBs [] (Mb a0 ([(⟨#[]⟩ : ByteArray), (⟨#[97]⟩ : ByteArray), (⟨#[98]⟩ : ByteArray), (⟨#[97, 98]⟩ : ByteArray), (⟨#[121, 101, 115]⟩ : ByteArray), (⟨#[110, 111]⟩ : ByteArray), (⟨#[111, 110, 101, 32, 104, 117, 110, 100, 114, 101, 100]⟩ : ByteArray)] : List ByteArray) (by first | omega | (simp; done) | (simp; omega))) ?_
 refine KU (rv := [.tmp 2]) rfl ?_
 simp [f.h]
theorem TL (a0 : ZP) : Sa 287 [a0.row] [rB (jG a0)] := by
 have f := me (jG.eq_1 a0)
 refine so func287 ntmps287 ?_
 refine lp1 (xH.eq_2 a0) (fun J => XQ 51 [eX 1 (a0.row.map .d), eI 3 (J : Int)]) (fun n1 J => a0.XA.length < n1 + J /\ J <= a0.XA.length) (a0.XA.length + 1) 0 (fun p1 J e1 j1 => ?_)
 refine cFf e1 ?_ ?_ <;> intro k2 h1 e1
 ·have i1 := ix h1
  have m2 := ml a0.XA (k2 7 _ rfl)
  have w1 := wr J
  simp [i1, ZI]
  refine rpS ?_
  refine cF e1 ?_ ?_ <;> intro k3 h2 e1
  ·have f := ms f e1
   exact rt [.tmp 2] f
  exact ny1 w1 e1
 have f := ms f e1
 refine lp1 (xU.eq_2 a0) (fun wR => XQ 51 [eX 1 (a0.row.map .d), eI 4 (wR : Int)]) (fun n2 wR => a0.Qr.length < n2 + wR /\ wR <= a0.Qr.length) (a0.Qr.length + 1) 0 (fun p2 wR e2 j2 => ?_)
 refine cFf e2 ?_ ?_ <;> intro k5 h3 e2
 ·have i2 := ix h3
  have m4 := ml a0.Qr (k5 21 _ rfl)
  have w2 := wr wR
  simp [i2, ZI]
  refine rpS ?_
  refine cRs (JW (nth a0.Qr wR) 1 1000000000000) ?_
  refine cFo e2 ?_ ?_ <;> intro k6 h4 e2
  ·have q4 := h4; try simp [Jo] at q4
   have f := ms f e2
   simp
   exact rt [.tmp 2] f
  have q4 := h4; try simp [Jo] at q4
  simp
  exact ny1 w2 e2
 have f := ms f e2
 refine cRs (JW a0.qn 0 999) ?_
 refine cGs (fun gg => (JW (a0.XA.length : Int) 1 6)) ?_
 exact rt [.tmp 2] f
theorem Tr (a0 : Int) : Sa 299 [rI a0] [rB (jW a0)] := by
 have f := me (jW.eq_1 a0)
 refine so func299 ntmps299 ?_
 refine cRs (JW a0 1 2147483646) ?_
 exact rt [.tmp 2] f
theorem VN (a0 : Int) (a1 : List ByteArray) (a2 : Int) (u0 : Sm 2326528 a1) : Sd 226 [rI a0, rL 1 sR a1, rI a2] [(Ji a0 a1 a2).1.row, rB (Ji a0 a1 a2).2] := by
 have f := me (Ji.eq_1 a0 a1 a2)
 have c1 := sl 2326528 a1 u0
 refine soD func226 ntmps226 ?_
 refine lp2 (Ja.eq_2 a0 a1 a2) (fun J U => XQ 42 [eI 0 a0, eL 1 1 a1 sR, eI 2 a2, (6, .one (.bptr 6 0), [.box [.d (.int .i64 0), .nil 1, .nil 1]]), (8, .one (.bptr 8 0), [.box [.d (.int .i64 a0), .sref 13 0 0 a1.length, .sref 8 3 0 U.length], .none, .none, .arr false 1 (U.map iR)]), eI 9 (J : Int), (13, .any, [.arr false 1 (a1.map sR)])]) (fun n1 J U => a1.length < n1 + J /\ J <= a1.length /\ U.length <= 0 + 1 * J) (a1.length + 1) 0 ([] : List Int) (fun p1 J U e1 j1 => ?_) (h0 := wkS [((8, 3), none)] [])
 refine cF e1 ?_ ?_ <;> intro k2 h1 e1
 ·have i1 := ix h1
  have m2 := ml a1 (k2 1 _ rfl)
  have w1 := wr J
  refine dIs mixed ?_
  refine cRs (kJ a2 ([a0, (J : Int)] : List Int) (by simp (maxDischargeDepth := 12) [Kc, Xg, ZW (m := 2330624) (by decide) u0]; try omega)) ?_
  refine cRs (NT 1 (zC a2 ([a0, (J : Int)] : List Int))) ?_
  exact nx2 e1 (hw := QB [((8, 3), some (30, 0))] [] rfl (by simp [w1]))
 have f := ms f e1
 refine cRs (TL (ZP.mk a0 a1 U)) ?_
 refine cGs (fun gg => (Tr a2)) ?_
 refine cF f ?_ ?_ <;> intro k4 h2 f
 ·exact rtD [.cell 6 43, .tmp 7] f
 exact rtD [.cell 6 43, .tmp 7] f
theorem xm (a0 : Zj) : KE prog 154 true a0.row [] (Yp a0).1.row [(Yp a0).2.row] := by
 have f := me (Yp.eq_1 a0)
 refine Jc func154 rfl (by kernel_rfl) (fun v => ?_)
 simp [ntmps154]
 refine cBs [] (YA a0 3) ?_
 refine lp5 (zp.eq_2) (fun J U wJ wx wy => XQ 28 [(0, .fix v (.one (.bptr 0 0)), [.box [.d (.sl 1 (wJ.map bR)), .d (.int .i64 (wx : Int)), .d (.int .i64 wy)]]), (2, .one (.bptr 2 0), [.box [.d (.int .i64 0), .nil 1, .nil 1]]), (3, .one (.sref 3 0 0 J.length), [.arr false 1 (J.map sR)]), eI 4 U]) (fun n1 J U wJ wx wy => U + 1 <= (n1 : Int) /\ 0 <= U /\ (J.length : Int) + U <= 3 /\ (∀ x ∈ J, x.size <= 11)) 5 ([] : List ByteArray) (W (1 + (ZB a0 3).2)) (ZB a0 3).1.b (ZB a0 3).1.i (ZB a0 3).1.h (fun p1 J U wJ wx wy e1 j1 => ?_) (hI := by (have z := XI a0 3; (try dsimp only); simp only [XR, List.length_nil]; refine ⟨by omega, by omega, by omega, by omega, fun x h => by cases h⟩)) (h0 := wkS [((3, 0), some (7, 0))] [])
 try dsimp only at j1
 refine cF e1 ?_ ?_ <;> intro k2 h1 e1
 ·refine cBs [] (Nz (Zj.mk wJ wx wy)) ?_
  exact nx5 e1 (hI := by (have hh := h1; simp at hh; (try dsimp only); simp only [XR, List.length_append, List.length_singleton]; refine ⟨by omega, by omega, by omega, by omega, fun x hx => ?_⟩; rcases List.mem_append.1 hx with hx | hx; exact j1.2.2.2.2 x hx; simp at hx; rw [hx]; exact WZ _)) (hw := wkS [((3, 0), some (19, 0))] [])
 have f := ms f e1
 refine cBs [] (YA (Zj.mk wJ wx wy) 5) ?_
 refine cDs [true, false, false] (VN (ZB (Zj.mk wJ wx wy) 5).2 J 11 (by (exact ⟨by omega, fun x hx => Nat.le_trans (j1.2.2.2.2 x hx) (by decide)⟩))) ?_
 refine KU (rv := [.cell 2 43]) rfl ?_
 simp [f.h]
theorem qV (a0 : Zj) (a1 : Int) : KE prog 216 true a0.row [rI a1] (YL a0 a1).1.row [(YL a0 a1).2.row] := by
 have f := me (YL.eq_1 a0 a1)
 refine Jc func216 rfl (by kernel_rfl) (fun v => ?_)
 simp [ntmps216]
 refine xt [(7, 0)] rfl (by simp) ?_
 refine cBs [] (X9 a0 ([0, (-10), 40] : List Int) (by first | omega | (simp; done) | (simp; omega))) ?_
 refine cF f ?_ ?_ <;> intro k1 h1 f
 ·refine cF f ?_ ?_ <;> intro k2 h2 f
  ·refine cF f ?_ ?_ <;> intro k3 h3 f
   ·refine KU (rv := [.cell 4 45]) rfl ?_
    simp [f.h]
   refine KU (rv := [.cell 4 45]) rfl ?_
   simp [f.h]
  refine cF f ?_ ?_ <;> intro k4 h4 f
  ·refine KU (rv := [.cell 4 45]) rfl ?_
   simp [f.h]
  refine KU (rv := [.cell 4 45]) rfl ?_
  simp [f.h]
 refine cF f ?_ ?_ <;> intro k5 h5 f
 ·refine cF f ?_ ?_ <;> intro k6 h6 f
  ·refine KU (rv := [.cell 4 45]) rfl ?_
   simp [f.h]
  refine KU (rv := [.cell 4 45]) rfl ?_
  simp [f.h]
 refine cF f ?_ ?_ <;> intro k7 h7 f
 ·refine KU (rv := [.cell 4 45]) rfl ?_
  simp [f.h]
 refine KU (rv := [.cell 4 45]) rfl ?_
 simp [f.h]
theorem Tm (a0 : Zj) : KE prog 140 true a0.row [] (ZV a0).1.row [rL 9 ZR.row (ZV a0).2] := by
 have f := me (ZV.eq_1 a0)
 refine Jc func140 rfl (by kernel_rfl) (fun v => ?_)
 simp [ntmps140]
 refine xt [(6, 0)] rfl (by simp) ?_
 refine cBs [] (X9 a0 ([11, 12] : List Int) (by first | omega | (simp; done) | (simp; omega))) ?_
 refine cBs [] (xm (Ze a0 ([11, 12] : List Int)).1) ?_
 refine Fe (news := (([(ZR.mk 1 22 0 0 0 (ZP.mk 0 ([] : List ByteArray) ([] : List Int)) ([] : List Int)), (ZR.mk 2 0 (Ze a0 ([11, 12] : List Int)).2 0 10000 (Yp (Ze a0 ([11, 12] : List Int)).1).2 ([] : List Int)), (ZR.mk 1 3 0 0 0 (ZP.mk 0 ([] : List ByteArray) ([] : List Int)) ([] : List Int)), (ZR.mk 3 1 0 0 0 (ZP.mk 0 ([] : List ByteArray) ([] : List Int)) ([] : List Int))] : List ZR).map ZR.row)) (L := [(9, 1), (9, 2)]) rfl rfl rfl rfl (by simp) (by simp) (by simp) (by simp) (by simp) (by simp) ?_
 simp
 refine cBs [] (qV (Yp (Ze a0 ([11, 12] : List Int)).1).1 25) ?_
 refine Wu ?_
 simp
 refine UO (wC := (([(ZR.mk 1 22 0 0 0 (ZP.mk 0 ([] : List ByteArray) ([] : List Int)) ([] : List Int)), (ZR.mk 2 0 (Ze a0 ([11, 12] : List Int)).2 0 10000 (Yp (Ze a0 ([11, 12] : List Int)).1).2 ([] : List Int)), (ZR.mk 1 3 0 0 0 (ZP.mk 0 ([] : List ByteArray) ([] : List Int)) ([] : List Int)), (ZR.mk 3 1 0 0 0 (ZP.mk 0 ([] : List ByteArray) ([] : List Int)) ([] : List Int))] : List ZR).map ZR.row)) (news := (([(YL (Yp (Ze a0 ([11, 12] : List Int)).1).1 25).2, (ZR.mk 1 18 0 0 0 (ZP.mk 0 ([] : List ByteArray) ([] : List Int)) ([] : List Int))] : List ZR).map ZR.row)) (l1 := [(13, 0)]) (l2 := [(16, 6), (16, 7), (16, 8)]) (size := 9) ?_
 simp
 refine cBs [] (qV (YL (Yp (Ze a0 ([11, 12] : List Int)).1).1 25).1 43) ?_
 refine Wu ?_
 simp
 refine UO (wC := ((([(ZR.mk 1 22 0 0 0 (ZP.mk 0 ([] : List ByteArray) ([] : List Int)) ([] : List Int)), (ZR.mk 2 0 (Ze a0 ([11, 12] : List Int)).2 0 10000 (Yp (Ze a0 ([11, 12] : List Int)).1).2 ([] : List Int)), (ZR.mk 1 3 0 0 0 (ZP.mk 0 ([] : List ByteArray) ([] : List Int)) ([] : List Int)), (ZR.mk 3 1 0 0 0 (ZP.mk 0 ([] : List ByteArray) ([] : List Int)) ([] : List Int))] : List ZR) ++ ([(YL (Yp (Ze a0 ([11, 12] : List Int)).1).1 25).2, (ZR.mk 1 18 0 0 0 (ZP.mk 0 ([] : List ByteArray) ([] : List Int)) ([] : List Int))] : List ZR)).map ZR.row)) (news := (([(YL (YL (Yp (Ze a0 ([11, 12] : List Int)).1).1 25).1 43).2, (ZR.mk 1 22 0 0 0 (ZP.mk 0 ([] : List ByteArray) ([] : List Int)) ([] : List Int))] : List ZR).map ZR.row)) (l1 := [(19, 0)]) (l2 := [(22, 6), (22, 7), (22, 8)]) (size := 9) ?_
 simp
 refine cBs [] (qV (YL (YL (Yp (Ze a0 ([11, 12] : List Int)).1).1 25).1 43).1 65) ?_
 refine Wu ?_
 simp
 refine UO (wC := (((([(ZR.mk 1 22 0 0 0 (ZP.mk 0 ([] : List ByteArray) ([] : List Int)) ([] : List Int)), (ZR.mk 2 0 (Ze a0 ([11, 12] : List Int)).2 0 10000 (Yp (Ze a0 ([11, 12] : List Int)).1).2 ([] : List Int)), (ZR.mk 1 3 0 0 0 (ZP.mk 0 ([] : List ByteArray) ([] : List Int)) ([] : List Int)), (ZR.mk 3 1 0 0 0 (ZP.mk 0 ([] : List ByteArray) ([] : List Int)) ([] : List Int))] : List ZR) ++ ([(YL (Yp (Ze a0 ([11, 12] : List Int)).1).1 25).2, (ZR.mk 1 18 0 0 0 (ZP.mk 0 ([] : List ByteArray) ([] : List Int)) ([] : List Int))] : List ZR)) ++ ([(YL (YL (Yp (Ze a0 ([11, 12] : List Int)).1).1 25).1 43).2, (ZR.mk 1 22 0 0 0 (ZP.mk 0 ([] : List ByteArray) ([] : List Int)) ([] : List Int))] : List ZR)).map ZR.row)) (news := (([(YL (YL (YL (Yp (Ze a0 ([11, 12] : List Int)).1).1 25).1 43).1 65).2, (ZR.mk 1 20 0 0 0 (ZP.mk 0 ([] : List ByteArray) ([] : List Int)) ([] : List Int))] : List ZR).map ZR.row)) (l1 := [(25, 0)]) (l2 := [(28, 6), (28, 7), (28, 8)]) (size := 9) ?_
 simp
 refine KU (rv := [.tmp 2]) rfl ?_
 simp [f.h]
theorem Pb {a b : Prop} (h : b) (k : a := by (intros; first | omega | with_unfolding_all (first | first | omega | (have z := XI (Ze (ZB (ZB a0 16).1 2).1 ([0, (-10), 40] : List Int)).1 3; omega)) | ((try simp only [XR, show ∀ x, IntKind.i64.wrap x = W x from fun _ => rfl] at *); omega))) : a /\ b := ⟨k, h⟩
theorem Wa (a0 : Zj) : KE prog 71 false a0.row [] (Ye a0).1.row [(Ye a0).2.row] := by
 have f := me (Ye.eq_1 a0)
 refine Jc func71 rfl (by kernel_rfl) (fun v => ?_)
 simp [ntmps71]
 refine cBs [] (YA a0 16) ?_
 refine cF f ?_ ?_ <;> intro k1 h1 f
 ·refine cY h1 ?_
  refine xt [(10, 0)] rfl (by simp) ?_
  refine cBs [] (X9 (ZB a0 16).1 ([1, 5, 10, 20, 30] : List Int) (by first | omega | (simp; done) | (simp; omega))) ?_
  refine KU (rv := [.cell 2 45]) rfl ?_
  simp [f.h]
 refine cF f ?_ ?_ <;> intro k2 h2 f
 ·refine cY h2 ?_
  refine xt [(10, 0)] rfl (by simp) ?_
  refine cBs [] (X9 (ZB a0 16).1 ([1, 5, 10, 20, 30] : List Int) (by first | omega | (simp; done) | (simp; omega))) ?_
  refine KU (rv := [.cell 2 45]) rfl ?_
  simp [f.h]
 refine cF f ?_ ?_ <;> intro k3 h3 f
 ·refine xt [(10, 0)] rfl (by simp) ?_
  refine cBs [] (X9 (ZB a0 16).1 ([1, 5, 10, 20, 30] : List Int) (by first | omega | (simp; done) | (simp; omega))) ?_
  refine KU (rv := [.cell 2 45]) rfl ?_
  simp [f.h]
 refine cF f ?_ ?_ <;> intro k4 h4 f
 ·refine cY h4 ?_
  refine cBs [] (YA (ZB a0 16).1 2) ?_
  refine xt [(19, 0)] rfl (by simp) ?_
  refine cBs [] (X9 (ZB (ZB a0 16).1 2).1 ([11, 12, 13] : List Int) (by first | omega | (simp; done) | (simp; omega))) ?_
  refine xt [(22, 0)] rfl (by simp) ?_
  refine cBs [] (X9 (Ze (ZB (ZB a0 16).1 2).1 ([11, 12, 13] : List Int)).1 ([30, 10000] : List Int) (by first | omega | (simp; done) | (simp; omega))) ?_
  refine cBs [] (xm (Ze (Ze (ZB (ZB a0 16).1 2).1 ([11, 12, 13] : List Int)).1 ([30, 10000] : List Int)).1) ?_
  refine KU (rv := [.cell 2 45]) rfl ?_
  simp [f.h]
 refine cF f ?_ ?_ <;> intro k5 h5 f
 ·refine cBs [] (YA (ZB a0 16).1 2) ?_
  refine xt [(19, 0)] rfl (by simp) ?_
  refine cBs [] (X9 (ZB (ZB a0 16).1 2).1 ([11, 12, 13] : List Int) (by first | omega | (simp; done) | (simp; omega))) ?_
  refine xt [(22, 0)] rfl (by simp) ?_
  refine cBs [] (X9 (Ze (ZB (ZB a0 16).1 2).1 ([11, 12, 13] : List Int)).1 ([30, 10000] : List Int) (by first | omega | (simp; done) | (simp; omega))) ?_
  refine cBs [] (xm (Ze (Ze (ZB (ZB a0 16).1 2).1 ([11, 12, 13] : List Int)).1 ([30, 10000] : List Int)).1) ?_
  refine KU (rv := [.cell 2 45]) rfl ?_
  simp [f.h]
 refine cF f ?_ ?_ <;> intro k6 h6 f
 ·refine cY h6 ?_
  refine cBs [] (YA (ZB a0 16).1 3) ?_
  refine KU (rv := [.cell 2 45]) rfl ?_
  simp [f.h]
 refine cF f ?_ ?_ <;> intro k7 h7 f
 ·refine cBs [] (YA (ZB a0 16).1 3) ?_
  refine KU (rv := [.cell 2 45]) rfl ?_
  simp [f.h]
 refine cF f ?_ ?_ <;> intro k8 h8 f
 ·refine cBs [] (YA (ZB a0 16).1 3) ?_
  refine KU (rv := [.cell 2 45]) rfl ?_
  simp [f.h]
 refine cF f ?_ ?_ <;> intro k9 h9 f
 ·refine cBs [] (YA (ZB a0 16).1 2) ?_
  refine cBs [] (YA (ZB (ZB a0 16).1 2).1 2) ?_
  refine cBs [] (YA (ZB (ZB (ZB a0 16).1 2).1 2).1 3) ?_
  refine KU (rv := [.cell 2 45]) rfl ?_
  simp [f.h]
 refine cF f ?_ ?_ <;> intro iD tg f
 ·refine cBs [] (YA (ZB a0 16).1 2) ?_
  refine KU (rv := [.cell 2 45]) rfl ?_
  simp [f.h]
 refine cF f ?_ ?_ <;> intro eb nk f
 ·refine cBs [] (YA (ZB a0 16).1 2) ?_
  refine xt [(59, 0)] rfl (by simp) ?_
  refine cBs [] (X9 (ZB (ZB a0 16).1 2).1 ([11, 12] : List Int) (by first | omega | (simp; done) | (simp; omega))) ?_
  refine cBs [] (xm (Ze (ZB (ZB a0 16).1 2).1 ([11, 12] : List Int)).1) ?_
  refine KU (rv := [.cell 2 45]) rfl ?_
  simp [f.h]
 refine cF f ?_ ?_ <;> intro g7 lS f
 ·refine cBs [] (YA (ZB a0 16).1 4) ?_
  refine xt [(70, 0)] rfl (by simp) ?_
  refine cBs [] (X9 (ZB (ZB a0 16).1 4).1 ([5, 25, 60] : List Int) (by first | omega | (simp; done) | (simp; omega))) ?_
  refine KU (rv := [.cell 2 45]) rfl ?_
  simp [f.h]
 refine cF f ?_ ?_ <;> intro g8 hO f
 ·refine cBs [] (YA (ZB a0 16).1 3) ?_
  refine xt [(79, 0)] rfl (by simp) ?_
  refine cBs [] (X9 (ZB (ZB a0 16).1 3).1 ([10, 40, 60] : List Int) (by first | omega | (simp; done) | (simp; omega))) ?_
  refine KU (rv := [.cell 2 45]) rfl ?_
  simp [f.h]
 refine cBs [] (YA (ZB a0 16).1 2) ?_
 refine xt [(85, 0)] rfl (by simp) ?_
 refine cBs [] (X9 (ZB (ZB a0 16).1 2).1 ([0, (-10), 40] : List Int) (by first | omega | (simp; done) | (simp; omega))) ?_
 refine cBo [] (YA (Ze (ZB (ZB a0 16).1 2).1 ([0, (-10), 40] : List Int)).1 3) ?_
 simp
 repeat with_reducible refine Pb ?_
 refine KU (rv := [.cell 2 45]) rfl ?_
 simp [f.h]
theorem xI {a b : Prop} (h : b) (k : a := by (intros; first | omega | with_unfolding_all (first | first | omega | (have z := XI (ZV (Zh a0 2).1).1 (W (((ZV (Zh a0 2).1).2.length : Int) + 1)); have z3 := Ql (Zh a0 2).1; simp only [XR] at *; omega)) | ((try simp only [XR, show ∀ x, IntKind.i64.wrap x = W x from fun _ => rfl] at *); omega))) : a /\ b := ⟨k, h⟩
theorem Ss (a0 : Zj) (a1 : Int) : KE prog 58 false a0.row [rI a1] (K6 a0 a1).1.row [rL 9 ZR.row (K6 a0 a1).2] := by
 have f := me (K6.eq_1 a0 a1)
 refine Jc func58 rfl (by kernel_rfl) (fun v => ?_)
 simp [ntmps58]
 refine eIs ?_
 refine cBs [] (NV a0 2) ?_
 refine cF f ?_ ?_ <;> intro k1 h1 f
 ·refine cBs [] (Tm (Zh a0 2).1) ?_
  refine cBo [] (YA (ZV (Zh a0 2).1).1 (W (((ZV (Zh a0 2).1).2.length : Int) + 1))) ?_
  simp
  repeat with_reducible refine xI ?_
  refine cBs [] (YA (ZB (ZV (Zh a0 2).1).1 (W (((ZV (Zh a0 2).1).2.length : Int) + 1))).1 a1) ?_
  refine lp5 (Qi.eq_2) (fun J U wJ wx wy => XQ 32 [(0, .fix v (.one (.bptr 0 0)), [.box [.d (.sl 1 (wJ.map bR)), .d (.int .i64 (wx : Int)), .d (.int .i64 wy)]]), (5, .one (.sref 5 0 0 J.length), [.arr false 9 (J.map ZR.row)]), eI 6 U]) (fun n1 J U wJ wx wy => U + 1 <= (n1 : Int) /\ 0 <= U /\ (J.length : Int) + U <= 16777300) ((ZB (ZB (ZV (Zh a0 2).1).1 (W (((ZV (Zh a0 2).1).2.length : Int) + 1))).1 a1).2.toNat + 2) ((ZV (Zh a0 2).1).2.take (ZB (ZV (Zh a0 2).1).1 (W (((ZV (Zh a0 2).1).2.length : Int) + 1))).2.toNat) (ZB (ZB (ZV (Zh a0 2).1).1 (W (((ZV (Zh a0 2).1).2.length : Int) + 1))).1 a1).2 (ZB (ZB (ZV (Zh a0 2).1).1 (W (((ZV (Zh a0 2).1).2.length : Int) + 1))).1 a1).1.b (ZB (ZB (ZV (Zh a0 2).1).1 (W (((ZV (Zh a0 2).1).2.length : Int) + 1))).1 a1).1.i (ZB (ZB (ZV (Zh a0 2).1).1 (W (((ZV (Zh a0 2).1).2.length : Int) + 1))).1 a1).1.h (fun p1 J U wJ wx wy e1 j1 => ?_) (hI := by (have z := XI (ZB (ZV (Zh a0 2).1).1 (W (((ZV (Zh a0 2).1).2.length : Int) + 1))).1 a1; have z2 := VB (ZB (ZV (Zh a0 2).1).1 (W (((ZV (Zh a0 2).1).2.length : Int) + 1))).1 a1; (try dsimp only); first | (simp only [List.length_nil]; omega) | (have z3 := Ql (Zh a0 2).1; simp only [List.length_take]; omega))) (h0 := El (qq := true) prog false (d := 5) (u := 11) (j := 0) (n := (ZB (ZV (Zh a0 2).1).1 (W (((ZV (Zh a0 2).1).2.length : Int) + 1))).2.toNat) (size := 9) (rows := ((ZV (Zh a0 2).1).2.map ZR.row)) (by simp) (by simp) (by simp; first | omega | (have z := XI (ZV (Zh a0 2).1).1 (W (((ZV (Zh a0 2).1).2.length : Int) + 1)); have z3 := Ql (Zh a0 2).1; simp only [XR] at *; omega)) (by simp) (by simp) (Qv (by simp)))
  try dsimp only at j1
  refine cF e1 ?_ ?_ <;> intro k3 h2 e1
  ·refine cBs [] (Wa (Zj.mk wJ wx wy)) ?_
   refine eIs ?_
   refine evI rfl rfl rfl ?_
   simp
   repeat with_reducible refine xI ?_
   exact nx5 e1 (hI := by (have hh := h2; simp at hh; simp only [XR]; (try dsimp only); simp only [List.length_append, List.length_cons, List.length_nil]; omega)) (hw := wkS [((5, 0), some (30, 0))] [])
  have f := ms f e1
  refine KU (rv := [.tmp 4]) rfl ?_
  simp [f.h]
 refine cBs [] (YA (Zh a0 2).1 a1) ?_
 refine lp5 (Qj.eq_2) (fun wR wT tK tL tM => XQ 32 [(0, .fix v (.one (.bptr 0 0)), [.box [.d (.sl 1 (tK.map bR)), .d (.int .i64 (tL : Int)), .d (.int .i64 tM)]]), (5, .one (.sref 5 0 0 wR.length), [.arr false 9 (wR.map ZR.row)]), eI 6 wT]) (fun n2 wR wT tK tL tM => wT + 1 <= (n2 : Int) /\ 0 <= wT /\ (wR.length : Int) + wT <= 16777300) ((ZB (Zh a0 2).1 a1).2.toNat + 2) ([] : List ZR) (ZB (Zh a0 2).1 a1).2 (ZB (Zh a0 2).1 a1).1.b (ZB (Zh a0 2).1 a1).1.i (ZB (Zh a0 2).1 a1).1.h (fun p2 wR wT tK tL tM e2 j2 => ?_) (hI := by (have z := XI (Zh a0 2).1 a1; have z2 := VB (Zh a0 2).1 a1; (try dsimp only); first | (simp only [List.length_nil]; omega) | (have z3 := Ql (Zh a0 2).1; simp only [List.length_take]; omega))) (h0 := wkS [((5, 0), some (7, 0))] [])
 try dsimp only at j2
 refine cF e2 ?_ ?_ <;> intro k5 h3 e2
 ·refine cBs [] (Wa (Zj.mk tK tL tM)) ?_
  refine eIs ?_
  refine evI rfl rfl rfl ?_
  simp
  repeat with_reducible refine xI ?_
  exact nx5 e2 (hI := by (have hh := h3; simp at hh; simp only [XR]; (try dsimp only); simp only [List.length_append, List.length_cons, List.length_nil]; omega)) (hw := wkS [((5, 0), some (30, 0))] [])
 have f := ms f e2
 refine KU (rv := [.tmp 4]) rfl ?_
 simp [f.h]
theorem Ww (a0 : List UInt8) : Sa 12 [rL 1 bR a0] [(ZC a0).1.row, rL 9 ZR.row (ZC a0).2] := by
 have f := me (ZC.eq_1 a0)
 refine so func12 ntmps12 ?_
 refine cNs (Mu a0) ?_
 refine cBs [] (YA (yp a0) 2) ?_
 refine cDs [false, false, false, true, true, false, false, true, false, false, true, false] (Ry (ZB (yp a0) 2).2) ?_
 refine Lg [(2, 2), (4, 7), (5, 5), (12, 7)] [] [13, 3000001] mixed (by kernel_rfl) (by kernel_rfl) (by kernel_rfl) (by kernel_rfl) (by kernel_rfl) (by kernel_rfl) (by kernel_rfl) ?_
 simp
 refine cBs [] (Ss (ZB (yp a0) 2).1 12) ?_
 exact rt [.cell 2 33, .tmp 3] f
theorem R4 (a0 : List ZR) : Sa 32 [rL 9 ZR.row a0] [rB (xW a0)] := by
 have f := me (xW.eq_1 a0)
 refine so func32 ntmps32 ?_
 refine lp1 (zh.eq_2 a0) (fun J => XQ 16 [eL 0 9 a0 ZR.row, eI 3 (J : Int)]) (fun n1 J => a0.length < n1 + J /\ J <= a0.length) (a0.length + 1) 0 (fun p1 J e1 j1 => ?_)
 refine cFf e1 ?_ ?_ <;> intro k2 h1 e1
 ·have i1 := ix h1
  have m2 := ml a0 (k2 0 _ rfl)
  have w1 := wr J
  simp [i1, ZI]
  refine rpS ?_
  refine cRs (JW (nth a0 J).Kind 8 10) ?_
  refine cFo e1 ?_ ?_ <;> intro k3 h2 e1
  ·have q2 := h2; try simp [Jo] at q2
   have f := ms f e1
   simp
   exact rt [.tmp 2] f
  have q2 := h2; try simp [Jo] at q2
  simp
  exact ny1 w1 e1
 have f := ms f e1
 exact rt [.tmp 2] f
end Go.Proofs.YthjkhlcbpfnobaaGreat
