/- Contracts of the functions NL the abstract machine, part S1. No condition. -/
import Derived.Test.YthjkhlcbpfnobaaGreatL
import Derived.Test.YthjkhlcbpfnobaaGreatTy
namespace Go.Proofs.YthjkhlcbpfnobaaGreat
open Tryz
open Go.Vm Go.Mo
set_option maxHeartbeats 1000000
set_option maxRecDepth 100000
set_option linter.unusedSimpArgs false
set_option linter.unusedVariables false
theorem M9 (a0 : List UInt8) : Pz prog 55 [rL 1 bR a0] (YY a0).row := by
 have f := me (YY.eq_1 a0)
 refine Df func55 rfl (by kernel_rfl) ?_
 simp [ntmps55]
 refine lp2 (Pf.eq_2 a0) (fun J U => Yn 32 [eL 0 1 a0 bR, eI 3 J, eI 4 (U : Int)]) (fun n1 J U => 4000 < n1 + U) 4001 (W (193017 + (a0.length : Int))) 0 (fun p1 J U e1 j1 => ?_)
 refine cFf e1 ?_ ?_ <;> intro k2 h1 e1
 ·have i1 : U < a0.length := by (simp at h1; omega)
  have m2 := ml a0 (k2 0 _ rfl)
  have w1 := wr U
  simp [i1, ZD]
  refine rpS ?_
  exact ny2 w1 e1
 have f := ms f e1
 refine wm 31 (rv := [.tmp 2]) rfl ?_
 simp [f.h]
theorem Wn (a0 : YC) : zc prog 139 false a0.row [] (YP a0).1.row [rI (YP a0).2] := by
 have f := me (YP.eq_1 a0)
 refine Kq func139 rfl (by kernel_rfl) (fun v => ?_)
 simp [ntmps139]
 refine dIs mixed ?_
 refine dIs mixed ?_
 refine cF f ?_ ?_ <;> intro k3 h1 f
 ·refine okD fun k4 => ?_
  refine dIo mixed ?_
  have i1 := ik a0.i a0.b
  simp [i1, ZD]
  refine rpS ?_
  refine zp (rv := [.tmp 2]) rfl ?_
  first | (have w0 := wr a0.i (by have z := ml a0.b (k3 32 _ rfl); simp at h1; omega); simp [f.h, w0]; done) | simp [f.h]
 refine zp (rv := [.tmp 2]) rfl ?_
 first | (have w0 := wr a0.i (by have z := ml a0.b (k3 32 _ rfl); simp at h1; omega); simp [f.h, w0]; done) | simp [f.h]
theorem Yc (a0 : YC) (a1 : Int) : zc prog 57 false a0.row [rI a1] (ZH a0 a1).1.row [rI (ZH a0 a1).2] := by
 have f := me (ZH.eq_1 a0 a1)
 refine Kq func57 rfl (by kernel_rfl) (fun v => ?_)
 simp [ntmps57]
 refine cF f ?_ ?_ <;> intro k1 h1 f
 ·refine zp (rv := [.tmp 4]) rfl ?_
  simp [f.h]
 refine cF f ?_ ?_ <;> intro k2 h2 f
 ·refine cBs [] (Wn a0) ?_
  refine zp (rv := [.tmp 4]) rfl ?_
  simp [f.h]
 refine cBs [] (Wn a0) ?_
 refine cBs [] (Wn (YP a0).1) ?_
 refine cBs [] (Wn (YP (YP a0).1).1) ?_
 refine zp (rv := [.tmp 4]) rfl ?_
 simp [f.h]
theorem Mg (a0 : Int) (a1 : Int) : Sa 136 [rI a0, rI a1] [rI (xV a0 a1)] := by
 have f := me (xV.eq_1 a0 a1)
 refine so func136 ntmps136 ?_
 refine cF f ?_ ?_ <;> intro k1 h1 f
 ·exact rt [.tmp 4] f
 exact rt [.tmp 4] f
theorem GX (a0 : Int) (a1 : Int) : Sa 135 [rI a0, rI a1] [rI (Vl a0 a1)] := by
 have f := me (Vl.eq_1 a0 a1)
 refine so func135 ntmps135 ?_
 refine cF f ?_ ?_ <;> intro k1 h1 f
 ·exact rt [.tmp 4] f
 exact rt [.tmp 4] f
theorem Wm : Sd 121 [] [rL 5 XD.row zM] := by
 have f := me (zM.eq_1)
 refine soD func121 ntmps121 ?_
 exact rtD [.tmp 0] f
theorem T3 : Sd 122 [] [rL 3 Zw.row Jh] := by
 have f := me (Jh.eq_1)
 refine soD func122 ntmps122 ?_
 exact rtD [.tmp 0] f
theorem Hk : Sd 137 [] [rL 4 YE.row kB] := by
 have f := me (kB.eq_1)
 refine soD func137 ntmps137 ?_
 exact rtD [.tmp 0] f
theorem Qh (a0 : List XD) (a1 : Int) : Sa 181 [rL 5 XD.row a0, rI a1] [rI (YT a0 a1)] := by
 have f := me (YT.eq_1 a0 a1)
 refine so func181 ntmps181 ?_
 refine lp1 (Wl.eq_2 a0 a1) (fun J => Yn 20 [eL 0 5 a0 XD.row, eI 1 a1, eI 5 (J : Int)]) (fun n1 J => a0.length < n1 + J /\ J <= a0.length) (a0.length + 1) 0 (fun p1 J e1 j1 => ?_)
 refine cFf e1 ?_ ?_ <;> intro k2 h1 e1
 ·have i1 := ix h1
  have m2 := ml a0 (k2 0 _ rfl)
  have w1 := wr J
  simp [i1, ZD]
  refine rpS ?_
  refine cF e1 ?_ ?_ <;> intro k3 h2 e1
  ·have f := ms f e1
   exact rt [.tmp 4] f
  exact ny1 w1 e1
 have f := ms f e1
 exact rt [.tmp 4] f
theorem Yj (a0 : Int) (a1 : Int) (a2 : Int) : Sa 97 [rI a0, rI a1, rI a2] [rB (YJ a0 a1 a2)] := by
 have f := me (YJ.eq_1 a0 a1 a2)
 refine so func97 ntmps97 ?_
 exact rt [.tmp 6] f
theorem Lo (a0 : Yi) : Sa 332 [a0.row] [(Vw a0).row] := by
 have f := me (Vw.eq_1 a0)
 refine so func332 ntmps332 ?_
 exact rt [.cell 2 59] f
theorem jP (a0 : Int) : Sa 273 [rI a0] [rB (kX a0)] := by
 have f := me (kX.eq_1 a0)
 refine so func273 ntmps273 ?_
 refine cRs (Yj a0 0 10000) ?_
 exact rt [.tmp 2] f
theorem Fb (a0 : WG) : Sa 331 [a0.row] [rB (Mc a0)] := by
 have f := me (Mc.eq_1 a0)
 refine so func331 ntmps331 ?_
 refine cRs (jP a0.qR) ?_
 refine cGs (fun gg => (jP a0.To)) ?_
 exact rt [.tmp 2] f
theorem Gj (a0 : Yi) : Sa 290 [a0.row] [rB (Ny a0)] := by
 have f := me (Ny.eq_1 a0)
 refine so func290 ntmps290 ?_
 refine cRs (Yj a0.ZQ 1 999) ?_
 refine cGs (fun gg => (Yj a0.Key 1 99)) ?_
 refine cGs (fun gg => (Yj a0.Zm 1 99)) ?_
 refine cGs (fun gg => (Yj a0.zf 0 99)) ?_
 refine cGs (fun gg => (Lo a0)) ?_
 refine cGs (fun gg => (Fb (Vw a0))) ?_
 exact rt [.tmp 2] f
theorem SP (a0 : Yi) : Sd 291 [a0.row] [rL 1 iR (yD a0)] := by
 have f := me (yD.eq_1 a0)
 refine soD func291 ntmps291 ?_
 exact rtD [.tmp 2] f
theorem Cl (a0 : Int) (a1 : Int) : Sa 350 [rI a0, rI a1] [rI (Cx a0 a1)] := by
 have f := me (Cx.eq_1 a0 a1)
 refine so func350 ntmps350 ?_
 refine cRs (Yj a1 1 1000000000000) ?_
 refine cFo f ?_ ?_ <;> intro k1 h1 f
 ·have q1 := h1; try simp [YJ] at q1
  simp
  exact rt [.tmp 4] f
 have q1 := h1; try simp [YJ] at q1
 simp
 refine rpS ?_
 exact rt [.tmp 4] f
theorem Ij (a0 : List Int) : Sa 334 [rL 1 iR a0] [rI (Hx a0)] := by
 have f := me (Hx.eq_1 a0)
 refine so func334 ntmps334 ?_
 refine lp2 (Lc.eq_2 a0) (fun J U => Yn 22 [eL 0 1 a0 iR, eI 3 J, eI 4 (U : Int)]) (fun n1 J U => a0.length < n1 + U /\ U <= a0.length) (a0.length + 1) 11 0 (fun p1 J U e1 j1 => ?_)
 refine cFf e1 ?_ ?_ <;> intro k2 h1 e1
 ·have i1 := ix h1
  have m2 := ml a0 (k2 0 _ rfl)
  have w1 := wr U
  simp [i1, ZD]
  refine rpS ?_
  refine cRs (Cl (nth a0 U) 2147483647) ?_
  exact ny2 w1 e1
 have f := ms f e1
 exact rt [.tmp 2] f
theorem U7 (a0 : Int) (a1 : List Int) (u0 : Sm 2330624 a1) : Sa 298 [rI a0, rL 1 iR a1] [rI (xS a0 a1)] := by
 have f := me (xS.eq_1 a0 a1)
 have c1 := sl 2330624 a1 u0
 refine so func298 ntmps298 ?_
 refine cRs (Ij ((([a0] : List Int) ++ a1) ++ ([a0] : List Int))) ?_
 exact rt [.tmp 4] f
theorem jG (a0 : XD) (a1 : List Int) (u0 : Sm 2326528 a1) : Sa 270 [a0.row, rL 1 iR a1] [rI (qj a0 a1)] := by
 have f := me (qj.eq_1 a0 a1)
 refine so func270 ntmps270 ?_
 refine MD [2, 3, 4, 5, 6, 0, 1, 7, 8] mixed (by kernel_rfl) (by kernel_rfl) (by kernel_rfl) ?_
 have c1 := sl 2326528 a1 u0
 simp
 refine rpS ?_
 refine cRs (U7 a0.ja (([a0.Method] : List Int) ++ a1) (by simp (maxDischargeDepth := 12) [Jl, Yx, ZN (m := 2330624) (by decide) u0]; try omega)) ?_
 exact rt [.tmp 4] f
theorem kj (a0 : List XD) (a1 : Yi) (u0 : Sm 2322432 a0) : Sa 215 [rL 5 XD.row a0, a1.row] [(xO a0 a1).1.row, rB (xO a0 a1).2] := by
 have f := me (xO.eq_1 a0 a1)
 refine so func215 ntmps215 ?_
 refine cRs (Qh a0 a1.Zm) ?_
 refine cRs (Gj a1) ?_
 refine cGs (fun gg => (Qh a0 a1.Key)) ?_
 refine cF f ?_ ?_ <;> intro k1 h1 f
 ·exact rt [.cell 4 107, .tmp 5] f
 refine dIo mixed ?_
 have i1 : (YT a0 a1.Zm).toNat < a0.length := by have := QI a0 a1.Zm; exact il
 simp [i1, ZD]
 refine rpS ?_
 refine cRs (YR.rd (SP a1)) ?_
 refine cRs (jG (nth a0 (YT a0 a1.Zm).toNat) (yD a1) (by simp (maxDischargeDepth := 12) [T7, ZN (m := 2326528) (by decide) u0]; try omega)) ?_
 exact rt [.cell 4 107, .tmp 5] f
theorem Hq : Sd 138 [] [rL 7 Yi.row qU] := by
 have f := me (qU.eq_1)
 refine soD func138 ntmps138 ?_
 refine cRs (YR.rd (Wm)) ?_
 refine cRs (kj zM (Yi.mk 1 11 1 0 60 1 0) (by simp (maxDischargeDepth := 12) [WW]; try omega)) ?_
 refine cRs (YR.rd (Wm)) ?_
 refine cRs (kj zM (Yi.mk 2 12 1 20 100 1 0) (by simp (maxDischargeDepth := 12) [WW]; try omega)) ?_
 refine cRs (YR.rd (Wm)) ?_
 refine cRs (kj zM (Yi.mk 3 13 2 40 150 2 0) (by simp (maxDischargeDepth := 12) [WW]; try omega)) ?_
 exact rtD [.tmp 0] f
theorem SK (a0 : Int) : Sd 56 [rI a0] [(XS a0).row] := by
 have f := me (XS.eq_1 a0)
 refine soD func56 ntmps56 ?_
 refine cRs (Mg 0 a0) ?_
 refine cRs (GX 1 (xV 0 a0)) ?_
 refine cDs [false] (Wm) ?_
 refine cDs [false] (T3) ?_
 refine cDs [false] (Hk) ?_
 refine cDs [false] (Hq) ?_
 refine Cc (news := (([(ZE.mk 0 ([] : List ZV)), (ZE.mk 1 ([] : List ZV))] : List ZE).map ZE.row)) (L := []) rfl rfl rfl rfl (by simp) (by simp) (by simp) (by simp) (by simp) (by simp) ?_
 simp
 refine cF f ?_ ?_ <;> intro k1 h1 f
 ·exact rtD [.cell 2 33] f
 exact rtD [.cell 2 33] f
theorem GY (a0 : YC) (a1 : Int) : zc prog 124 false a0.row [rI a1] (Z8 a0 a1).1.row [rB (Z8 a0 a1).2] := by
 have f := me (Z8.eq_1 a0 a1)
 refine Kq func124 rfl (by kernel_rfl) (fun v => ?_)
 simp [ntmps124]
 refine cBs [] (Yc a0 a1) ?_
 refine zp (rv := [.tmp 4]) rfl ?_
 simp [f.h]
theorem Fz {a b : Prop} (h : b) (k : a := by (intros; first | omega | with_unfolding_all (first | first | omega | (have z := Xv a0 (a1.length : Int); omega)) | ((try simp only [XL, show ∀ x, IntKind.i64.wrap x = W x from fun _ => rfl] at *); omega))) : a /\ b := ⟨k, h⟩
theorem QO (a0 : YC) (a1 : List Int) (u0 : 0 < a1.length) : zc prog 72 false a0.row [rL 1 iR a1] (Z2 a0 a1).1.row [rI (Z2 a0 a1).2] := by
 have f := me (Z2.eq_1 a0 a1)
 refine Kq func72 rfl (by kernel_rfl) (fun v => ?_)
 simp [ntmps72]
 refine cBo [] (Yc a0 (a1.length : Int)) ?_
 have i1 : (ZH a0 (a1.length : Int)).2.toNat < a1.length := by (have z := Xv a0 (a1.length : Int); omega)
 simp [i1, ZD]
 repeat with_reducible refine Fz ?_
 refine zp (rv := [.tmp 4]) rfl ?_
 simp [f.h]
theorem EC {a b : Prop} (h : b) (k : a := by (intros; first | omega | with_unfolding_all (first | first | omega | (have z := Xv a0 (a1.length : Int); omega)) | ((try simp only [XL, show ∀ x, IntKind.i64.wrap x = W x from fun _ => rfl] at *); omega))) : a /\ b := ⟨k, h⟩
theorem EG (a0 : YC) (a1 : List ByteArray) (u0 : 0 < a1.length) : zc prog 297 false a0.row [rL 1 sR a1] (Ti a0 a1).1.row [rS (Ti a0 a1).2] := by
 have f := me (Ti.eq_1 a0 a1)
 refine Kq func297 rfl (by kernel_rfl) (fun v => ?_)
 simp [ntmps297]
 refine cBo [] (Yc a0 (a1.length : Int)) ?_
 have i1 : (ZH a0 (a1.length : Int)).2.toNat < a1.length := by (have z := Xv a0 (a1.length : Int); omega)
 simp [i1, ZD]
 repeat with_reducible refine EC ?_
 refine zp (rv := [.tmp 4]) rfl ?_
 simp [f.h]
theorem G1 (a0 : YC) : zc prog 225 false a0.row [] (Ku a0).1.row [rS (Ku a0).2] := by
 have f := me (Ku.eq_1 a0)
 refine Kq func225 rfl (by kernel_rfl) (fun v => ?_)
 simp [ntmps225]
 refine jh [(4, 0)] rfl (by simp) ?_
 refine cBs [] (EG a0 ([(⟨#[]⟩ : ByteArray), (⟨#[97]⟩ : ByteArray), (⟨#[98]⟩ : ByteArray), (⟨#[97, 98]⟩ : ByteArray), (⟨#[121, 101, 115]⟩ : ByteArray), (⟨#[110, 111]⟩ : ByteArray), (⟨#[111, 110, 101, 32, 104, 117, 110, 100, 114, 101, 100]⟩ : ByteArray)] : List ByteArray) (by first | omega | (simp; done) | (simp; omega))) ?_
 refine zp (rv := [.tmp 2]) rfl ?_
 simp [f.h]
theorem jZ (a0 : ZU) : Sa 287 [a0.row] [rB (K9 a0)] := by
 have f := me (K9.eq_1 a0)
 refine so func287 ntmps287 ?_
 refine lp1 (yN.eq_2 a0) (fun J => Yn 51 [eX 1 (a0.row.map .d), eI 3 (J : Int)]) (fun n1 J => a0.Y3.length < n1 + J /\ J <= a0.Y3.length) (a0.Y3.length + 1) 0 (fun p1 J e1 j1 => ?_)
 refine cFf e1 ?_ ?_ <;> intro k2 h1 e1
 ·have i1 := ix h1
  have m2 := ml a0.Y3 (k2 7 _ rfl)
  have w1 := wr J
  simp [i1, ZD]
  refine rpS ?_
  refine cF e1 ?_ ?_ <;> intro k3 h2 e1
  ·have f := ms f e1
   exact rt [.tmp 2] f
  exact ny1 w1 e1
 have f := ms f e1
 refine lp1 (zx.eq_2 a0) (fun uI => Yn 51 [eX 1 (a0.row.map .d), eI 4 (uI : Int)]) (fun n2 uI => a0.QL.length < n2 + uI /\ uI <= a0.QL.length) (a0.QL.length + 1) 0 (fun p2 uI e2 j2 => ?_)
 refine cFf e2 ?_ ?_ <;> intro k5 h3 e2
 ·have i2 := ix h3
  have m4 := ml a0.QL (k5 21 _ rfl)
  have w2 := wr uI
  simp [i2, ZD]
  refine rpS ?_
  refine cRs (Yj (nth a0.QL uI) 1 1000000000000) ?_
  refine cFo e2 ?_ ?_ <;> intro k6 h4 e2
  ·have q4 := h4; try simp [YJ] at q4
   have f := ms f e2
   simp
   exact rt [.tmp 2] f
  have q4 := h4; try simp [YJ] at q4
  simp
  exact ny1 w2 e2
 have f := ms f e2
 refine cRs (Yj a0.jL 0 999) ?_
 refine cGs (fun gg => (Yj (a0.Y3.length : Int) 1 6)) ?_
 exact rt [.tmp 2] f
theorem Ov (a0 : Int) : Sa 299 [rI a0] [rB (V0 a0)] := by
 have f := me (V0.eq_1 a0)
 refine so func299 ntmps299 ?_
 refine cRs (Yj a0 1 2147483646) ?_
 exact rt [.tmp 2] f
theorem R8 (a0 : Int) (a1 : List ByteArray) (a2 : Int) (u0 : Sm 2326528 a1) : Sd 226 [rI a0, rL 1 sR a1, rI a2] [(Kr a0 a1 a2).1.row, rB (Kr a0 a1 a2).2] := by
 have f := me (Kr.eq_1 a0 a1 a2)
 have c1 := sl 2326528 a1 u0
 refine soD func226 ntmps226 ?_
 refine lp2 (Kp.eq_2 a0 a1 a2) (fun J U => Yn 42 [eI 0 a0, eL 1 1 a1 sR, eI 2 a2, (6, .one (.bptr 6 0), [.box [.d (.int .i64 0), .nil 1, .nil 1]]), (8, .one (.bptr 8 0), [.box [.d (.int .i64 a0), .sref 13 0 0 a1.length, .sref 8 3 0 U.length], .none, .none, .arr false 1 (U.map iR)]), eI 9 (J : Int), (13, .any, [.arr false 1 (a1.map sR)])]) (fun n1 J U => a1.length < n1 + J /\ J <= a1.length /\ U.length <= 0 + 1 * J) (a1.length + 1) 0 ([] : List Int) (fun p1 J U e1 j1 => ?_) (h0 := wkS [((8, 3), none)] [])
 refine cF e1 ?_ ?_ <;> intro k2 h1 e1
 ·have i1 := ix h1
  have m2 := ml a1 (k2 1 _ rfl)
  have w1 := wr J
  refine dIs mixed ?_
  refine cRs (U7 a2 ([a0, (J : Int)] : List Int) (by simp (maxDischargeDepth := 12) [Jl, Yx, ZN (m := 2330624) (by decide) u0]; try omega)) ?_
  refine cRs (Mg 1 (xS a2 ([a0, (J : Int)] : List Int))) ?_
  exact nx2 e1 (hw := XA [((8, 3), some (30, 0))] [] rfl (by simp [w1]))
 have f := ms f e1
 refine cRs (jZ (ZU.mk a0 a1 U)) ?_
 refine cGs (fun gg => (Ov a2)) ?_
 refine cF f ?_ ?_ <;> intro k4 h2 f
 ·exact rtD [.cell 6 43, .tmp 7] f
 exact rtD [.cell 6 43, .tmp 7] f
theorem WU (a0 : YC) : zc prog 154 true a0.row [] (XO a0).1.row [(XO a0).2.row] := by
 have f := me (XO.eq_1 a0)
 refine Kq func154 rfl (by kernel_rfl) (fun v => ?_)
 simp [ntmps154]
 refine cBs [] (Yc a0 3) ?_
 refine lp5 (qb.eq_2) (fun J U uF uR ud => Yn 28 [(0, .fix v (.one (.bptr 0 0)), [.box [.d (.sl 1 (uF.map bR)), .d (.int .i64 (uR : Int)), .d (.int .i64 ud)]]), (2, .one (.bptr 2 0), [.box [.d (.int .i64 0), .nil 1, .nil 1]]), (3, .one (.sref 3 0 0 J.length), [.arr false 1 (J.map sR)]), eI 4 U]) (fun n1 J U uF uR ud => U + 1 <= (n1 : Int) /\ 0 <= U /\ (J.length : Int) + U <= 3 /\ (∀ x ∈ J, x.size <= 11)) 5 ([] : List ByteArray) (W (1 + (ZH a0 3).2)) (ZH a0 3).1.b (ZH a0 3).1.i (ZH a0 3).1.h (fun p1 J U uF uR ud e1 j1 => ?_) (hI := by (have z := Xv a0 3; (try dsimp only); simp only [XL, List.length_nil]; refine ⟨by omega, by omega, by omega, by omega, fun x h => by cases h⟩)) (h0 := wkS [((3, 0), some (7, 0))] [])
 try dsimp only at j1
 refine cF e1 ?_ ?_ <;> intro k2 h1 e1
 ·refine cBs [] (G1 (YC.mk uF uR ud)) ?_
  exact nx5 e1 (hI := by (have hh := h1; simp at hh; (try dsimp only); simp only [XL, List.length_append, List.length_singleton]; refine ⟨by omega, by omega, by omega, by omega, fun x hx => ?_⟩; rcases List.mem_append.1 hx with hx | hx; exact j1.2.2.2.2 x hx; simp at hx; rw [hx]; exact SY _)) (hw := wkS [((3, 0), some (19, 0))] [])
 have f := ms f e1
 refine cBs [] (Yc (YC.mk uF uR ud) 5) ?_
 refine cDs [true, false, false] (R8 (ZH (YC.mk uF uR ud) 5).2 J 11 (by (exact ⟨by omega, fun x hx => Nat.le_trans (j1.2.2.2.2 x hx) (by decide)⟩))) ?_
 refine zp (rv := [.cell 2 43]) rfl ?_
 simp [f.h]
theorem VA (a0 : YC) (a1 : Int) : zc prog 216 true a0.row [rI a1] (Yv a0 a1).1.row [(Yv a0 a1).2.row] := by
 have f := me (Yv.eq_1 a0 a1)
 refine Kq func216 rfl (by kernel_rfl) (fun v => ?_)
 simp [ntmps216]
 refine jh [(7, 0)] rfl (by simp) ?_
 refine cBs [] (QO a0 ([0, (-10), 40] : List Int) (by first | omega | (simp; done) | (simp; omega))) ?_
 refine cF f ?_ ?_ <;> intro k1 h1 f
 ·refine cF f ?_ ?_ <;> intro k2 h2 f
  ·refine cF f ?_ ?_ <;> intro k3 h3 f
   ·refine zp (rv := [.cell 4 45]) rfl ?_
    simp [f.h]
   refine zp (rv := [.cell 4 45]) rfl ?_
   simp [f.h]
  refine cF f ?_ ?_ <;> intro k4 h4 f
  ·refine zp (rv := [.cell 4 45]) rfl ?_
   simp [f.h]
  refine zp (rv := [.cell 4 45]) rfl ?_
  simp [f.h]
 refine cF f ?_ ?_ <;> intro k5 h5 f
 ·refine cF f ?_ ?_ <;> intro k6 h6 f
  ·refine zp (rv := [.cell 4 45]) rfl ?_
   simp [f.h]
  refine zp (rv := [.cell 4 45]) rfl ?_
  simp [f.h]
 refine cF f ?_ ?_ <;> intro k7 h7 f
 ·refine zp (rv := [.cell 4 45]) rfl ?_
  simp [f.h]
 refine zp (rv := [.cell 4 45]) rfl ?_
 simp [f.h]
theorem Ni (a0 : YC) : zc prog 140 true a0.row [] (Zt a0).1.row [rL 9 Zg.row (Zt a0).2] := by
 have f := me (Zt.eq_1 a0)
 refine Kq func140 rfl (by kernel_rfl) (fun v => ?_)
 simp [ntmps140]
 refine jh [(6, 0)] rfl (by simp) ?_
 refine cBs [] (QO a0 ([11, 12] : List Int) (by first | omega | (simp; done) | (simp; omega))) ?_
 refine cBs [] (WU (Z2 a0 ([11, 12] : List Int)).1) ?_
 refine Cc (news := (([(Zg.mk 1 22 0 0 0 (ZU.mk 0 ([] : List ByteArray) ([] : List Int)) ([] : List Int)), (Zg.mk 2 0 (Z2 a0 ([11, 12] : List Int)).2 0 10000 (XO (Z2 a0 ([11, 12] : List Int)).1).2 ([] : List Int)), (Zg.mk 1 3 0 0 0 (ZU.mk 0 ([] : List ByteArray) ([] : List Int)) ([] : List Int)), (Zg.mk 3 1 0 0 0 (ZU.mk 0 ([] : List ByteArray) ([] : List Int)) ([] : List Int))] : List Zg).map Zg.row)) (L := [(9, 1), (9, 2)]) rfl rfl rfl rfl (by simp) (by simp) (by simp) (by simp) (by simp) (by simp) ?_
 simp
 refine cBs [] (VA (XO (Z2 a0 ([11, 12] : List Int)).1).1 25) ?_
 refine xt ?_
 simp
 refine ql (uG := (([(Zg.mk 1 22 0 0 0 (ZU.mk 0 ([] : List ByteArray) ([] : List Int)) ([] : List Int)), (Zg.mk 2 0 (Z2 a0 ([11, 12] : List Int)).2 0 10000 (XO (Z2 a0 ([11, 12] : List Int)).1).2 ([] : List Int)), (Zg.mk 1 3 0 0 0 (ZU.mk 0 ([] : List ByteArray) ([] : List Int)) ([] : List Int)), (Zg.mk 3 1 0 0 0 (ZU.mk 0 ([] : List ByteArray) ([] : List Int)) ([] : List Int))] : List Zg).map Zg.row)) (news := (([(Yv (XO (Z2 a0 ([11, 12] : List Int)).1).1 25).2, (Zg.mk 1 18 0 0 0 (ZU.mk 0 ([] : List ByteArray) ([] : List Int)) ([] : List Int))] : List Zg).map Zg.row)) (l1 := [(13, 0)]) (l2 := [(16, 6), (16, 7), (16, 8)]) (size := 9) ?_
 simp
 refine cBs [] (VA (Yv (XO (Z2 a0 ([11, 12] : List Int)).1).1 25).1 43) ?_
 refine xt ?_
 simp
 refine ql (uG := ((([(Zg.mk 1 22 0 0 0 (ZU.mk 0 ([] : List ByteArray) ([] : List Int)) ([] : List Int)), (Zg.mk 2 0 (Z2 a0 ([11, 12] : List Int)).2 0 10000 (XO (Z2 a0 ([11, 12] : List Int)).1).2 ([] : List Int)), (Zg.mk 1 3 0 0 0 (ZU.mk 0 ([] : List ByteArray) ([] : List Int)) ([] : List Int)), (Zg.mk 3 1 0 0 0 (ZU.mk 0 ([] : List ByteArray) ([] : List Int)) ([] : List Int))] : List Zg) ++ ([(Yv (XO (Z2 a0 ([11, 12] : List Int)).1).1 25).2, (Zg.mk 1 18 0 0 0 (ZU.mk 0 ([] : List ByteArray) ([] : List Int)) ([] : List Int))] : List Zg)).map Zg.row)) (news := (([(Yv (Yv (XO (Z2 a0 ([11, 12] : List Int)).1).1 25).1 43).2, (Zg.mk 1 22 0 0 0 (ZU.mk 0 ([] : List ByteArray) ([] : List Int)) ([] : List Int))] : List Zg).map Zg.row)) (l1 := [(19, 0)]) (l2 := [(22, 6), (22, 7), (22, 8)]) (size := 9) ?_
 simp
 refine cBs [] (VA (Yv (Yv (XO (Z2 a0 ([11, 12] : List Int)).1).1 25).1 43).1 65) ?_
 refine xt ?_
 simp
 refine ql (uG := (((([(Zg.mk 1 22 0 0 0 (ZU.mk 0 ([] : List ByteArray) ([] : List Int)) ([] : List Int)), (Zg.mk 2 0 (Z2 a0 ([11, 12] : List Int)).2 0 10000 (XO (Z2 a0 ([11, 12] : List Int)).1).2 ([] : List Int)), (Zg.mk 1 3 0 0 0 (ZU.mk 0 ([] : List ByteArray) ([] : List Int)) ([] : List Int)), (Zg.mk 3 1 0 0 0 (ZU.mk 0 ([] : List ByteArray) ([] : List Int)) ([] : List Int))] : List Zg) ++ ([(Yv (XO (Z2 a0 ([11, 12] : List Int)).1).1 25).2, (Zg.mk 1 18 0 0 0 (ZU.mk 0 ([] : List ByteArray) ([] : List Int)) ([] : List Int))] : List Zg)) ++ ([(Yv (Yv (XO (Z2 a0 ([11, 12] : List Int)).1).1 25).1 43).2, (Zg.mk 1 22 0 0 0 (ZU.mk 0 ([] : List ByteArray) ([] : List Int)) ([] : List Int))] : List Zg)).map Zg.row)) (news := (([(Yv (Yv (Yv (XO (Z2 a0 ([11, 12] : List Int)).1).1 25).1 43).1 65).2, (Zg.mk 1 20 0 0 0 (ZU.mk 0 ([] : List ByteArray) ([] : List Int)) ([] : List Int))] : List Zg).map Zg.row)) (l1 := [(25, 0)]) (l2 := [(28, 6), (28, 7), (28, 8)]) (size := 9) ?_
 simp
 refine zp (rv := [.tmp 2]) rfl ?_
 simp [f.h]
theorem IW {a b : Prop} (h : b) (k : a := by (intros; first | omega | with_unfolding_all (first | first | omega | (have z := Xv (Z2 (ZH (ZH a0 16).1 2).1 ([0, (-10), 40] : List Int)).1 3; omega)) | ((try simp only [XL, show ∀ x, IntKind.i64.wrap x = W x from fun _ => rfl] at *); omega))) : a /\ b := ⟨k, h⟩
theorem VG (a0 : YC) : zc prog 71 false a0.row [] (Z0 a0).1.row [(Z0 a0).2.row] := by
 have f := me (Z0.eq_1 a0)
 refine Kq func71 rfl (by kernel_rfl) (fun v => ?_)
 simp [ntmps71]
 refine cBs [] (Yc a0 16) ?_
 refine cF f ?_ ?_ <;> intro k1 h1 f
 ·refine cY h1 ?_
  refine jh [(10, 0)] rfl (by simp) ?_
  refine cBs [] (QO (ZH a0 16).1 ([1, 5, 10, 20, 30] : List Int) (by first | omega | (simp; done) | (simp; omega))) ?_
  refine zp (rv := [.cell 2 45]) rfl ?_
  simp [f.h]
 refine cF f ?_ ?_ <;> intro k2 h2 f
 ·refine cY h2 ?_
  refine jh [(10, 0)] rfl (by simp) ?_
  refine cBs [] (QO (ZH a0 16).1 ([1, 5, 10, 20, 30] : List Int) (by first | omega | (simp; done) | (simp; omega))) ?_
  refine zp (rv := [.cell 2 45]) rfl ?_
  simp [f.h]
 refine cF f ?_ ?_ <;> intro k3 h3 f
 ·refine jh [(10, 0)] rfl (by simp) ?_
  refine cBs [] (QO (ZH a0 16).1 ([1, 5, 10, 20, 30] : List Int) (by first | omega | (simp; done) | (simp; omega))) ?_
  refine zp (rv := [.cell 2 45]) rfl ?_
  simp [f.h]
 refine cF f ?_ ?_ <;> intro k4 h4 f
 ·refine cY h4 ?_
  refine cBs [] (Yc (ZH a0 16).1 2) ?_
  refine jh [(19, 0)] rfl (by simp) ?_
  refine cBs [] (QO (ZH (ZH a0 16).1 2).1 ([11, 12, 13] : List Int) (by first | omega | (simp; done) | (simp; omega))) ?_
  refine jh [(22, 0)] rfl (by simp) ?_
  refine cBs [] (QO (Z2 (ZH (ZH a0 16).1 2).1 ([11, 12, 13] : List Int)).1 ([30, 10000] : List Int) (by first | omega | (simp; done) | (simp; omega))) ?_
  refine cBs [] (WU (Z2 (Z2 (ZH (ZH a0 16).1 2).1 ([11, 12, 13] : List Int)).1 ([30, 10000] : List Int)).1) ?_
  refine zp (rv := [.cell 2 45]) rfl ?_
  simp [f.h]
 refine cF f ?_ ?_ <;> intro k5 h5 f
 ·refine cBs [] (Yc (ZH a0 16).1 2) ?_
  refine jh [(19, 0)] rfl (by simp) ?_
  refine cBs [] (QO (ZH (ZH a0 16).1 2).1 ([11, 12, 13] : List Int) (by first | omega | (simp; done) | (simp; omega))) ?_
  refine jh [(22, 0)] rfl (by simp) ?_
  refine cBs [] (QO (Z2 (ZH (ZH a0 16).1 2).1 ([11, 12, 13] : List Int)).1 ([30, 10000] : List Int) (by first | omega | (simp; done) | (simp; omega))) ?_
  refine cBs [] (WU (Z2 (Z2 (ZH (ZH a0 16).1 2).1 ([11, 12, 13] : List Int)).1 ([30, 10000] : List Int)).1) ?_
  refine zp (rv := [.cell 2 45]) rfl ?_
  simp [f.h]
 refine cF f ?_ ?_ <;> intro k6 h6 f
 ·refine cY h6 ?_
  refine cBs [] (Yc (ZH a0 16).1 3) ?_
  refine zp (rv := [.cell 2 45]) rfl ?_
  simp [f.h]
 refine cF f ?_ ?_ <;> intro k7 h7 f
 ·refine cBs [] (Yc (ZH a0 16).1 3) ?_
  refine zp (rv := [.cell 2 45]) rfl ?_
  simp [f.h]
 refine cF f ?_ ?_ <;> intro k8 h8 f
 ·refine cBs [] (Yc (ZH a0 16).1 3) ?_
  refine zp (rv := [.cell 2 45]) rfl ?_
  simp [f.h]
 refine cF f ?_ ?_ <;> intro k9 h9 f
 ·refine cBs [] (Yc (ZH a0 16).1 2) ?_
  refine cBs [] (Yc (ZH (ZH a0 16).1 2).1 2) ?_
  refine cBs [] (Yc (ZH (ZH (ZH a0 16).1 2).1 2).1 3) ?_
  refine zp (rv := [.cell 2 45]) rfl ?_
  simp [f.h]
 refine cF f ?_ ?_ <;> intro ox sH f
 ·refine cBs [] (Yc (ZH a0 16).1 2) ?_
  refine zp (rv := [.cell 2 45]) rfl ?_
  simp [f.h]
 refine cF f ?_ ?_ <;> intro iU nc f
 ·refine cBs [] (Yc (ZH a0 16).1 2) ?_
  refine jh [(59, 0)] rfl (by simp) ?_
  refine cBs [] (QO (ZH (ZH a0 16).1 2).1 ([11, 12] : List Int) (by first | omega | (simp; done) | (simp; omega))) ?_
  refine cBs [] (WU (Z2 (ZH (ZH a0 16).1 2).1 ([11, 12] : List Int)).1) ?_
  refine zp (rv := [.cell 2 45]) rfl ?_
  simp [f.h]
 refine cF f ?_ ?_ <;> intro eS mw f
 ·refine cBs [] (Yc (ZH a0 16).1 4) ?_
  refine jh [(70, 0)] rfl (by simp) ?_
  refine cBs [] (QO (ZH (ZH a0 16).1 4).1 ([5, 25, 60] : List Int) (by first | omega | (simp; done) | (simp; omega))) ?_
  refine zp (rv := [.cell 2 45]) rfl ?_
  simp [f.h]
 refine cF f ?_ ?_ <;> intro nf iV f
 ·refine cBs [] (Yc (ZH a0 16).1 3) ?_
  refine jh [(79, 0)] rfl (by simp) ?_
  refine cBs [] (QO (ZH (ZH a0 16).1 3).1 ([10, 40, 60] : List Int) (by first | omega | (simp; done) | (simp; omega))) ?_
  refine zp (rv := [.cell 2 45]) rfl ?_
  simp [f.h]
 refine cBs [] (Yc (ZH a0 16).1 2) ?_
 refine jh [(85, 0)] rfl (by simp) ?_
 refine cBs [] (QO (ZH (ZH a0 16).1 2).1 ([0, (-10), 40] : List Int) (by first | omega | (simp; done) | (simp; omega))) ?_
 refine cBo [] (Yc (Z2 (ZH (ZH a0 16).1 2).1 ([0, (-10), 40] : List Int)).1 3) ?_
 simp
 repeat with_reducible refine IW ?_
 refine zp (rv := [.cell 2 45]) rfl ?_
 simp [f.h]
theorem kU {a b : Prop} (h : b) (k : a := by (intros; first | omega | with_unfolding_all (first | first | omega | (have z := Xv (Zt (Z8 a0 2).1).1 (W (((Zt (Z8 a0 2).1).2.length : Int) + 1)); have z3 := Ji (Z8 a0 2).1; simp only [XL] at *; omega)) | ((try simp only [XL, show ∀ x, IntKind.i64.wrap x = W x from fun _ => rfl] at *); omega))) : a /\ b := ⟨k, h⟩
theorem TU (a0 : YC) (a1 : Int) : zc prog 58 false a0.row [rI a1] (Z7 a0 a1).1.row [rL 9 Zg.row (Z7 a0 a1).2] := by
 have f := me (Z7.eq_1 a0 a1)
 refine Kq func58 rfl (by kernel_rfl) (fun v => ?_)
 simp [ntmps58]
 refine eIs ?_
 refine cBs [] (GY a0 2) ?_
 refine cF f ?_ ?_ <;> intro k1 h1 f
 ·refine cBs [] (Ni (Z8 a0 2).1) ?_
  refine cBo [] (Yc (Zt (Z8 a0 2).1).1 (W (((Zt (Z8 a0 2).1).2.length : Int) + 1))) ?_
  simp
  repeat with_reducible refine kU ?_
  refine cBs [] (Yc (ZH (Zt (Z8 a0 2).1).1 (W (((Zt (Z8 a0 2).1).2.length : Int) + 1))).1 a1) ?_
  refine lp5 (Jd.eq_2) (fun J U uF uR ud => Yn 32 [(0, .fix v (.one (.bptr 0 0)), [.box [.d (.sl 1 (uF.map bR)), .d (.int .i64 (uR : Int)), .d (.int .i64 ud)]]), (5, .one (.sref 5 0 0 J.length), [.arr false 9 (J.map Zg.row)]), eI 6 U]) (fun n1 J U uF uR ud => U + 1 <= (n1 : Int) /\ 0 <= U /\ (J.length : Int) + U <= 16777300) ((ZH (ZH (Zt (Z8 a0 2).1).1 (W (((Zt (Z8 a0 2).1).2.length : Int) + 1))).1 a1).2.toNat + 2) ((Zt (Z8 a0 2).1).2.take (ZH (Zt (Z8 a0 2).1).1 (W (((Zt (Z8 a0 2).1).2.length : Int) + 1))).2.toNat) (ZH (ZH (Zt (Z8 a0 2).1).1 (W (((Zt (Z8 a0 2).1).2.length : Int) + 1))).1 a1).2 (ZH (ZH (Zt (Z8 a0 2).1).1 (W (((Zt (Z8 a0 2).1).2.length : Int) + 1))).1 a1).1.b (ZH (ZH (Zt (Z8 a0 2).1).1 (W (((Zt (Z8 a0 2).1).2.length : Int) + 1))).1 a1).1.i (ZH (ZH (Zt (Z8 a0 2).1).1 (W (((Zt (Z8 a0 2).1).2.length : Int) + 1))).1 a1).1.h (fun p1 J U uF uR ud e1 j1 => ?_) (hI := by (have z := Xv (ZH (Zt (Z8 a0 2).1).1 (W (((Zt (Z8 a0 2).1).2.length : Int) + 1))).1 a1; have z2 := Rb (ZH (Zt (Z8 a0 2).1).1 (W (((Zt (Z8 a0 2).1).2.length : Int) + 1))).1 a1; (try dsimp only); first | (simp only [List.length_nil]; omega) | (have z3 := Ji (Z8 a0 2).1; simp only [List.length_take]; omega))) (h0 := wJ (qq := true) prog false (d := 5) (u := 11) (j := 0) (n := (ZH (Zt (Z8 a0 2).1).1 (W (((Zt (Z8 a0 2).1).2.length : Int) + 1))).2.toNat) (size := 9) (rows := ((Zt (Z8 a0 2).1).2.map Zg.row)) (by simp) (by simp) (by simp; first | omega | (have z := Xv (Zt (Z8 a0 2).1).1 (W (((Zt (Z8 a0 2).1).2.length : Int) + 1)); have z3 := Ji (Z8 a0 2).1; simp only [XL] at *; omega)) (by simp) (by simp) (KB (by simp)))
  try dsimp only at j1
  refine cF e1 ?_ ?_ <;> intro k3 h2 e1
  ·refine cBs [] (VG (YC.mk uF uR ud)) ?_
   refine eIs ?_
   refine evI rfl rfl rfl ?_
   simp
   repeat with_reducible refine kU ?_
   exact nx5 e1 (hI := by (have hh := h2; simp at hh; simp only [XL]; (try dsimp only); simp only [List.length_append, List.length_cons, List.length_nil]; omega)) (hw := wkS [((5, 0), some (30, 0))] [])
  have f := ms f e1
  refine zp (rv := [.tmp 4]) rfl ?_
  simp [f.h]
 refine cBs [] (Yc (Z8 a0 2).1 a1) ?_
 refine lp5 (JZ.eq_2) (fun uI uS rh ri rj => Yn 32 [(0, .fix v (.one (.bptr 0 0)), [.box [.d (.sl 1 (rh.map bR)), .d (.int .i64 (ri : Int)), .d (.int .i64 rj)]]), (5, .one (.sref 5 0 0 uI.length), [.arr false 9 (uI.map Zg.row)]), eI 6 uS]) (fun n2 uI uS rh ri rj => uS + 1 <= (n2 : Int) /\ 0 <= uS /\ (uI.length : Int) + uS <= 16777300) ((ZH (Z8 a0 2).1 a1).2.toNat + 2) ([] : List Zg) (ZH (Z8 a0 2).1 a1).2 (ZH (Z8 a0 2).1 a1).1.b (ZH (Z8 a0 2).1 a1).1.i (ZH (Z8 a0 2).1 a1).1.h (fun p2 uI uS rh ri rj e2 j2 => ?_) (hI := by (have z := Xv (Z8 a0 2).1 a1; have z2 := Rb (Z8 a0 2).1 a1; (try dsimp only); first | (simp only [List.length_nil]; omega) | (have z3 := Ji (Z8 a0 2).1; simp only [List.length_take]; omega))) (h0 := wkS [((5, 0), some (7, 0))] [])
 try dsimp only at j2
 refine cF e2 ?_ ?_ <;> intro k5 h3 e2
 ·refine cBs [] (VG (YC.mk rh ri rj)) ?_
  refine eIs ?_
  refine evI rfl rfl rfl ?_
  simp
  repeat with_reducible refine kU ?_
  exact nx5 e2 (hI := by (have hh := h3; simp at hh; simp only [XL]; (try dsimp only); simp only [List.length_append, List.length_cons, List.length_nil]; omega)) (hw := wkS [((5, 0), some (30, 0))] [])
 have f := ms f e2
 refine zp (rv := [.tmp 4]) rfl ?_
 simp [f.h]
theorem Sw (a0 : List UInt8) : Sa 12 [rL 1 bR a0] [(ZS a0).1.row, rL 9 Zg.row (ZS a0).2] := by
 have f := me (ZS.eq_1 a0)
 refine so func12 ntmps12 ?_
 refine cNs (M9 a0) ?_
 refine cBs [] (Yc (YY a0) 2) ?_
 refine cDs [false, false, false, true, true, false, false, true, false, false, true, false] (SK (ZH (YY a0) 2).2) ?_
 refine El [(2, 2), (4, 7), (5, 5), (12, 7)] [] [13, 3000001] mixed (by kernel_rfl) (by kernel_rfl) (by kernel_rfl) (by kernel_rfl) (by kernel_rfl) (by kernel_rfl) (by kernel_rfl) ?_
 simp
 refine cBs [] (TU (ZH (YY a0) 2).1 12) ?_
 exact rt [.cell 2 33, .tmp 3] f
theorem IQ (a0 : Zu) (u0 : Sm 2342912 a0) : Sd 200 [a0.row] [(Sl a0).row] := by
 have f := me (Sl.eq_1 a0)
 have c1 := sl 2342912 a0.Zq u0
 have c2 := sl 2342912 a0.ZF u0
 have c3 := sl 2342912 a0.Methods u0
 refine soD func200 ntmps200 ?_
 exact rtD [.cell 2 28] f
theorem M7 (a0 : Zu) (u0 : Sm 2342912 a0) : Sd 200 [a0.row] [a0.row] := by
  have h := IQ a0 u0
  rwa [IC] at h
theorem Gh (a0 : ZU) (u0 : Sm 2342912 a0) : Sd 264 [a0.row] [(MR a0).row] := by
 have f := me (MR.eq_1 a0)
 refine soD func264 ntmps264 ?_
 refine MD [2, 3, 4, 5, 6, 7, 8, 9, 0, 1, 10, 11] mixed (by kernel_rfl) (by kernel_rfl) (by kernel_rfl) ?_
 have c1 := sl 2342912 a0.Y3 u0
 have c2 := sl 2342912 a0.QL u0
 simp
 refine rpS ?_
 exact rtD [.cell 2 43] f
theorem Rs (a0 : ZU) (u0 : Sm 2342912 a0) : Sd 264 [a0.row] [a0.row] := by
  have h := Gh a0 u0
  rwa [FF] at h
theorem H9 (a0 : Ze) (u0 : Sm 2342912 a0) : Sd 322 [a0.row] [(P9 a0).row] := by
 have f := me (P9.eq_1 a0)
 refine soD func322 ntmps322 ?_
 refine MD [2, 3, 4, 5, 0, 1, 6, 7, 8, 9] mixed (by kernel_rfl) (by kernel_rfl) (by kernel_rfl) ?_
 have c1 := sl 2342912 a0.XC u0
 simp
 refine rpS ?_
 exact rtD [.cell 2 177] f
theorem SW (a0 : Ze) (u0 : Sm 2342912 a0) : Sd 322 [a0.row] [a0.row] := by
  have h := H9 a0 u0
  rwa [Hg] at h
theorem Gn (a0 : List Ze) (u0 : Sm 2338816 a0) : Sd 283 [rL 3 Ze.row a0] [rL 3 Ze.row (RN a0)] := by
 have f := me (RN.eq_1 a0)
 refine soD func283 ntmps283 ?_
 refine Cc (news := (([] : List Ze).map Ze.row)) (L := []) rfl rfl rfl rfl (by simp) (by simp) (by simp) (by simp) (by simp) (by simp) ?_
 simp
 refine lp2 (Vt.eq_2 a0) (fun J U => Yn 21 [eL 0 3 a0 Ze.row, (3, .one (.sref 3 0 0 J.length), [.arr true 3 (J.map Ze.row)]), eI 4 (U : Int)]) (fun n1 J U => a0.length < n1 + U /\ U <= a0.length /\ J.length <= 0 + 1 * U) (a0.length + 1) ([] : List Ze) 0 (fun p1 J U e1 j1 => ?_) (h0 := wkS [((3, 0), some (5, 0))] [])
 refine cFf e1 ?_ ?_ <;> intro k2 h1 e1
 ·have i1 := ix h1
  have m2 := ml a0 (k2 0 _ rfl)
  have c1 := sl 2338816 a0 u0
  have w1 := wr U
  simp [i1, ZD]
  refine rpS ?_
  refine cDs [true, false] (SW (nth a0 U) (sg (Z3 u0))) ?_
  refine xt ?_
  simp
  refine ql (uG := (J.map Ze.row)) (news := (([(nth a0 U)] : List Ze).map Ze.row)) (l1 := [(3, 0)]) (l2 := [(17, 1)]) (size := 3) ?_
  simp
  exact nx2 e1 (hw := XA [((3, 0), some (19, 0))] [] rfl (by simp [w1]))
 have c2 := sl 2338816 a0 u0
 have f := ms f e1
 exact rtD [.tmp 2] f
theorem HQ (a0 : List Ze) (u0 : Sm 2338816 a0) : Sd 283 [rL 3 Ze.row a0] [rL 3 Ze.row a0] := by
  have h := Gn a0 u0
  rwa [Fh] at h
theorem GM (a0 : Zb) (u0 : Sm 2342912 a0) : Sd 213 [a0.row] [(PJ a0).row] := by
 have f := me (PJ.eq_1 a0)
 have c1 := sl 2342912 a0.Path u0
 have c2 := sl 2342912 a0.Xh u0
 refine soD func213 ntmps213 ?_
 exact rtD [.cell 2 140] f
theorem SR (a0 : Zb) (u0 : Sm 2342912 a0) : Sd 213 [a0.row] [a0.row] := by
  have h := GM a0 u0
  rwa [Ht] at h
theorem HY (a0 : Zi) (u0 : Sm 2334720 a0) : Sd 208 [a0.row] [(Tp a0).row] := by
 have f := me (Tp.eq_1 a0)
 refine soD func208 ntmps208 ?_
 refine cDs [] (HQ a0.ZL (sg (Zi.kG u0))) ?_
 refine lp2 (WJ.eq_2 a0) (fun J U => Yn 28 [eX 1 (a0.row.map .d), (2, .one (.bptr 2 0), [.box [.nil 3, .nil 5]]), (3, .one (.bptr 3 0), [.box [.sref 7 0 0 a0.ZL.length, .sref 3 2 0 U.length], .none, .arr true 5 (U.map Zb.row)]), eI 4 (J : Int), (7, .any, [.arr true 3 (a0.ZL.map Ze.row)])]) (fun n1 J U => a0.Zl.length < n1 + J /\ J <= a0.Zl.length /\ U.length <= 0 + 1 * J) (a0.Zl.length + 1) 0 ([] : List Zb) (fun p1 J U e1 j1 => ?_) (h0 := wkS [((3, 2), none)] [])
 refine cF e1 ?_ ?_ <;> intro k2 h1 e1
 ·have i1 := ix h1
  have m2 := ml a0.Zl (k2 11 _ rfl)
  have c1 := sl 2334720 a0.Zl u0
  have w1 := wr J
  refine drJ [25] mixed ?_
  simp [i1, ZD]
  refine rpS ?_
  refine cDs [true, true, true, false, false] (SR (nth a0.Zl J) (sg (Z3 (Zi.kP u0)))) ?_
  refine xt ?_
  simp
  refine ql (uG := (U.map Zb.row)) (news := (([(nth a0.Zl J)] : List Zb).map Zb.row)) (l1 := [(3, 2)]) (l2 := [(23, 3), (23, 4)]) (size := 5) ?_
  simp
  exact nx2 e1 (hw := XA [((3, 2), some (25, 0))] [] rfl (by simp [w1]))
 have c2 := sl 2334720 a0.Zl u0
 have f := ms f e1
 exact rtD [.cell 2 68] f
theorem zZ (a0 : Zi) (u0 : Sm 2334720 a0) : Sd 208 [a0.row] [a0.row] := by
  have h := HY a0 u0
  rwa [HR] at h
theorem GD (a0 : ZV) (u0 : Sm 2330624 a0) : Sd 207 [a0.row] [(Pl a0).row] := by
 have f := me (Pl.eq_1 a0)
 refine soD func207 ntmps207 ?_
 refine cDs [true, false, false] (Rs a0.Doc (sg (ZV.kl u0))) ?_
 refine cDs [] (zZ a0.ZJ (sg (ZV.JJ u0))) ?_
 exact rtD [.cell 2 70] f
theorem X8 (a0 : ZV) (u0 : Sm 2330624 a0) : Sd 207 [a0.row] [a0.row] := by
  have h := GD a0 u0
  rwa [GB] at h
theorem HM (a0 : ZE) (u0 : Sm 2326528 a0) : Sd 128 [a0.row] [(Tk a0).row] := by
 have f := me (Tk.eq_1 a0)
 refine soD func128 ntmps128 ?_
 refine lp2 (Wr.eq_2 a0) (fun J U => Yn 27 [eX 1 (a0.row.map .d), (2, .one (.bptr 2 0), [.box [.d (.int .i64 0), .nil 16]]), (3, .one (.bptr 3 0), [.box [.d (.int .i64 a0.Id), .sref 3 2 0 U.length], .none, .arr true 16 (U.map ZV.row)]), eI 4 (J : Int)]) (fun n1 J U => a0.ZC.length < n1 + J /\ J <= a0.ZC.length /\ U.length <= 0 + 1 * J) (a0.ZC.length + 1) 0 ([] : List ZV) (fun p1 J U e1 j1 => ?_) (h0 := wkS [((3, 2), none)] [])
 refine cF e1 ?_ ?_ <;> intro k2 h1 e1
 ·have i1 := ix h1
  have m2 := ml a0.ZC (k2 10 _ rfl)
  have c1 := sl 2326528 a0.ZC u0
  have w1 := wr J
  refine drJ [24] mixed ?_
  simp [i1, ZD]
  refine rpS ?_
  refine cDs [true, true, true, false, false] (X8 (nth a0.ZC J) (sg (Z3 (ZE.YM u0)))) ?_
  refine xt ?_
  simp
  refine ql (uG := (U.map ZV.row)) (news := (([(nth a0.ZC J)] : List ZV).map ZV.row)) (l1 := [(3, 2)]) (l2 := [(22, 3), (22, 4), (22, 14), (22, 15)]) (size := 16) ?_
  simp
  exact nx2 e1 (hw := XA [((3, 2), some (24, 0))] [] rfl (by simp [w1]))
 have c2 := sl 2326528 a0.ZC u0
 have f := ms f e1
 exact rtD [.cell 2 73] f
theorem Xi (a0 : ZE) (u0 : Sm 2326528 a0) : Sd 128 [a0.row] [a0.row] := by
  have h := HM a0 u0
  rwa [GK] at h
theorem H4 (a0 : ZG) (u0 : Sm 2322432 a0) : Sd 111 [a0.row] [(Tl a0).row] := by
 have f := me (Tl.eq_1 a0)
 refine soD func111 ntmps111 ?_
 refine MD [0, 1, 2, 3, 4, 5, 6, 7, 8, 9, 10, 11, 12, 13, 14, 15, 16, 17, 18, 21, 22, 23, 24, 19, 20, 25, 26, 27] mixed (by kernel_rfl) (by kernel_rfl) (by kernel_rfl) ?_
 simp
 have c1 := sl 2322432 a0.ZM u0
 have c2 := sl 2322432 a0.Zy u0
 have c3 := sl 2322432 a0.Yb u0
 have c4 := sl 2322432 a0.YO u0
 have c5 := sl 2322432 a0.YF u0
 refine cDs [false, false, false] (M7 a0.Frame (sg (ZG.Yp u0))) ?_
 refine lp2 (WY.eq_2 a0) (fun J U => Yn 50 [eX 1 (a0.row.map .d), (2, .one (.bptr 2 0), [.box [.nil 5, .nil 3, .nil 4, .d (.int .i64 0), .d (.int .i64 0), .nil 7, .nil 1, .nil 2, .nil 1, .nil 1, .d (.int .i64 0), .nil 1]]), (3, .one (.bptr 3 0), [.box [.sref 7 0 0 a0.Frame.Zq.length, .sref 7 1 0 a0.Frame.ZF.length, .sref 7 2 0 a0.Frame.Methods.length, .d (.int .i64 a0.Frame.KE), .d (.int .i64 a0.Frame.Now), .sref 11 0 0 a0.ZM.length, .sref 15 0 0 a0.Zy.length, .sref 3 8 0 U.length, .sref 19 0 0 a0.Yb.length, .sref 23 0 0 a0.YO.length, .d (.int .i64 a0.Next), .sref 29 0 0 a0.YF.length], .none, .none, .none, .none, .none, .none, .none, .arr true 2 (U.map ZE.row)]), eI 4 (J : Int), (7, .any, [.arr false 5 (a0.Frame.Zq.map XD.row), .arr false 3 (a0.Frame.ZF.map Zw.row), .arr false 4 (a0.Frame.Methods.map YE.row)]), (11, .any, [.arr false 7 (a0.ZM.map Yi.row)]), (15, .any, [.arr false 1 (a0.Zy.map iR)]), (19, .any, [.arr false 1 (a0.Yb.map iR)]), (23, .any, [.arr false 1 (a0.YO.map iR)]), (29, .any, [.arr false 1 (a0.YF.map iR)])]) (fun n1 J U => a0.ZA.length < n1 + J /\ J <= a0.ZA.length /\ U.length <= 0 + 1 * J) (a0.ZA.length + 1) 0 ([] : List ZE) (fun p1 J U e1 j1 => ?_) (h0 := wkS [((3, 8), none)] [])
 refine cF e1 ?_ ?_ <;> intro k3 h1 e1
 ·have i1 := ix h1
  have m2 := ml a0.ZA (k3 33 _ rfl)
  have c6 := sl 2322432 a0.ZA u0
  have w1 := wr J
  refine drJ [47] mixed ?_
  simp [i1, ZD]
  refine rpS ?_
  refine cDs [] (Xi (nth a0.ZA J) (sg (Z3 (ZG.YA u0)))) ?_
  refine xt ?_
  simp
  refine ql (uG := (U.map ZE.row)) (news := (([(nth a0.ZA J)] : List ZE).map ZE.row)) (l1 := [(3, 8)]) (l2 := [(45, 1)]) (size := 2) ?_
  simp
  exact nx2 e1 (hw := XA [((3, 8), some (47, 0))] [] rfl (by simp [w1]))
 have c7 := sl 2322432 a0.ZA u0
 have f := ms f e1
 exact rtD [.cell 2 33] f
theorem Xt (a0 : ZG) (u0 : Sm 2322432 a0) : Sd 111 [a0.row] [a0.row] := by
  have h := H4 a0 u0
  rwa [HO] at h
theorem IX (a0 : ZG) (a1 : Int) (u0 : Sm 2318336 a0) : Sd 101 [a0.row, rI a1] [(qn a0 a1).1.row, rB (qn a0 a1).2] := by
 have f := me (qn.eq_1 a0 a1)
 refine soD func101 ntmps101 ?_
 refine cDs [false, false, false, true, true, false, false, true, false, false, true, false] (Xt a0 (sg u0)) ?_
 refine cRs (Yj a1 0 100) ?_
 refine cFo f ?_ ?_ <;> intro k1 h1 f
 ·have q1 := h1; try simp [YJ] at q1
  simp
  exact rtD [.cell 4 33, .tmp 5] f
 have q1 := h1; try simp [YJ] at q1
 simp
 exact rtD [.cell 4 33, .tmp 5] f
theorem xW (a0 : ZG) (a1 : Int) : Sa 182 [a0.row, rI a1] [rB (X9 a0 a1)] := by
 have f := me (X9.eq_1 a0 a1)
 refine so func182 ntmps182 ?_
 refine cRs (Yj a1 0 (W ((a0.ZA.length : Int) - 1))) ?_
 exact rt [.tmp 4] f
theorem y7 (a0 : List YE) (a1 : Int) : Sa 191 [rL 4 YE.row a0, rI a1] [rI (Zf a0 a1)] := by
 have f := me (Zf.eq_1 a0 a1)
 refine so func191 ntmps191 ?_
 refine lp2 (qK.eq_2 a0 a1) (fun J U => Yn 54 [eL 0 4 a0 YE.row, eI 1 a1, eI 5 J, eI 6 (U : Int)]) (fun n1 J U => a0.length < n1 + U /\ U <= a0.length /\ -1 <= J /\ J < (a0.length : Int)) (a0.length + 1) (-1) 0 (fun p1 J U e1 j1 => ?_)
 try dsimp only at j1
 refine cF e1 ?_ ?_ <;> intro k2 h1 e1
 ·have i1 := ix h1
  have m2 := ml a0 (k2 0 _ rfl)
  have w1 := wr U
  refine dIo mixed ?_
  simp [i1, ZD]
  refine rpS ?_
  refine gIf ?_ ?_ <;> intro G
  ·simp [i1, ZD, G]
   refine rpG ?_
   refine gJf G ?_ ?_ <;> intro G
   ·try (simp at G; done)
    all_goals
     simp [i1, ZD, G]
     refine rpG ?_
     refine gK (fun _ => ?_)
     have i2 := ik J.toNat a0
     simp [i2, ZD, G]
     refine rpG ?_
     refine cK e1 ?_ ?_ <;> intro k4 h2 e1
     ·exact ny2 (an w1 G) e1 (hI := by first | omega | (simp at *; omega))
     ·exact ny2 (an w1 G) e1 (hI := by first | omega | (simp at *; omega))
   ·try (simp at G; done)
    all_goals
     refine sGg ?_
     refine cK e1 ?_ ?_ <;> intro k5 h3 e1
     ·exact ny2 (an w1 G) e1 (hI := by first | omega | (simp at *; omega))
     ·exact ny2 (an w1 G) e1 (hI := by first | omega | (simp at *; omega))
  ·refine gJf G ?_ ?_ <;> intro G
   ·try (simp at G; done)
    all_goals
     simp [i1, ZD, G]
     refine rpG ?_
     refine gK (fun _ => ?_)
     have i4 := ik J.toNat a0
     simp [i4, ZD, G]
     refine rpG ?_
     refine cK e1 ?_ ?_ <;> intro k6 h4 e1
     ·simp [G] at h4
     ·simp [G] at h4
   ·try (simp at G; done)
    all_goals
     refine sGg ?_
     refine cK e1 ?_ ?_ <;> intro k7 h5 e1
     ·simp [G] at h5
     ·exact ny2 (an w1 G) e1 (hI := by first | omega | (simp at *; omega))
 have f := ms f e1
 refine cFt f ?_ ?_ <;> intro k8 h6 f
 ·exact rt [.tmp 4] f
 have i6 := ik J.toNat a0
 simp [i6, ZD]
 refine rpS ?_
 exact rt [.tmp 4] f
theorem Mu (a0 : ZG) (a1 : Int) : Sa 261 [a0.row, rI a1] [rI (QV a0 a1)] := by
 have f := me (QV.eq_1 a0 a1)
 refine so func261 ntmps261 ?_
 refine lp1 (jC.eq_2 a0 a1) (fun J => Yn 22 [eI 1 a1, eX 2 (a0.row.map .d), eI 5 (J : Int)]) (fun n1 J => a0.ZM.length < n1 + J /\ J <= a0.ZM.length) (a0.ZM.length + 1) 0 (fun p1 J e1 j1 => ?_)
 refine cFf e1 ?_ ?_ <;> intro k2 h1 e1
 ·have i1 := ix h1
  have m2 := ml a0.ZM (k2 8 _ rfl)
  have w1 := wr J
  simp [i1, ZD]
  refine rpS ?_
  refine cF e1 ?_ ?_ <;> intro k3 h2 e1
  ·have f := ms f e1
   exact rt [.tmp 4] f
  exact ny1 w1 e1
 have f := ms f e1
 exact rt [.tmp 4] f
theorem Jf (a0 : Int) (a1 : List Int) (u0 : Sm 68719476736 a1) : Sa 321 [rI a0, rL 1 iR a1] [rI (KS a0 a1)] := by
 have f := me (KS.eq_1 a0 a1)
 have c1 := sl 68719476736 a1 u0
 refine so func321 ntmps321 ?_
 refine cRs (Ij (([7, a0] : List Int) ++ a1)) ?_
 exact rt [.tmp 4] f
theorem O5 (a0 : Int) (a1 : ByteArray) (a2 : Int) (u0 : Sm 2326528 a1) : Sa 320 [rI a0, rS a1, rI a2] [rI (UD a0 a1 a2)] := by
 have f := me (UD.eq_1 a0 a1 a2)
 refine so func320 ntmps320 ?_
 refine lp2 (kQ.eq_2 a1) (fun J U => Yn 27 [eI 0 a0, (1, .one (.d (.str a1)), []), (7, .one (.sref 7 0 0 J.length), [.arr false 1 (J.map iR)]), eI 8 (U : Int)]) (fun n1 J U => a1.size < n1 + U /\ U <= a1.size /\ J.length <= 1 + 1 * U) (a1.size + 1) ([a2] : List Int) 0 (fun p1 J U e1 j1 => ?_) (h0 := wkS [((7, 0), some (10, 0))] [])
 refine cFo e1 ?_ ?_ <;> intro k2 h1 e1
 ·have q1 := h1; try simp at q1
  have c1 : a1.size <= 2326528 := H7 (xs u0)
  have w1 := wr U
  simp
  refine rpS ?_
  exact nx2 e1 (hw := XA [((7, 0), some (23, 0))] [] rfl (by simp [w1]))
 have q1 := h1; try simp at q1
 have c2 : a1.size <= 2326528 := H7 (xs u0)
 have f := ms f e1
 simp
 refine cRs (Jf a0 J (by first | (simp (maxDischargeDepth := 12) [Yx]; omega) | (simp (maxDischargeDepth := 12) [ZN (m := 68719476736) (by decide) u0]; done))) ?_
 exact rt [.tmp 6] f
theorem ko (a0 : Int) (a1 : ZU) (u0 : Sm 2322432 a1) : Sa 263 [rI a0, a1.row] [rI (JY a0 a1)] := by
 have f := me (JY.eq_1 a0 a1)
 refine so func263 ntmps263 ?_
 refine cRs (jZ a1) ?_
 refine cF f ?_ ?_ <;> intro k1 h1 f
 ·exact rt [.tmp 4] f
 refine lp2 (W7.eq_2 a0 a1) (fun J U => Yn 38 [eI 0 a0, eX 3 (a1.row.map .d), (5, .one (.sref 5 0 0 J.length), [.arr false 1 (J.map iR)]), eI 6 (U : Int)]) (fun n1 J U => a1.Y3.length < n1 + U /\ U <= a1.Y3.length /\ J.length <= 1 + 1 * U) (a1.Y3.length + 1) ([a1.jL] : List Int) 0 (fun p1 J U e1 j1 => ?_) (h0 := wkS [((5, 0), some (12, 0))] [])
 try dsimp only at j1
 refine cF e1 ?_ ?_ <;> intro k3 h2 e1
 ·have i1 := ix h2
  have m2 := ml a1.Y3 (k3 15 _ rfl)
  have c1 := sl 2322432 a1.Y3 u0
  have w1 := wr U
  refine dIo mixed ?_
  have i2 : U < a1.QL.length := by (have := Pp (a := a1); first | (simp_all; done) | (simp_all; omega))
  simp [i1, ZD, i2]
  refine rpS ?_
  refine cRs (O5 a0 (nth a1.Y3 U) (nth a1.QL U) (sg (Z3 (ZU.Ld u0)))) ?_
  exact nx2 e1 (hw := XA [((5, 0), some (34, 0))] [] rfl (by simp [w1]))
 have c2 := sl 2322432 a1.Y3 u0
 have f := ms f e1
 refine cRs (Jf a0 J (by first | (simp (maxDischargeDepth := 12) [Yx]; omega) | (simp (maxDischargeDepth := 12) [ZN (m := 68719476736) (by decide) u0]; done))) ?_
 exact rt [.tmp 4] f
theorem Pq (a0 : Zv) : Sa 318 [a0.row] [rB (W2 a0)] := by
 have f := me (W2.eq_1 a0)
 refine so func318 ntmps318 ?_
 refine cRs (Yj a0.Key 1 99) ?_
 refine cGs (fun gg => (Yj a0.ZQ 1 999)) ?_
 refine cGs (fun gg => (Yj a0.Method 0 99)) ?_
 refine cGs (fun gg => (Yj a0.Org 0 99)) ?_
 refine cGs (fun gg => (Yj a0.xI 1 3)) ?_
 refine cGs (fun gg => (Yj a0.XJ 0 1000000000000)) ?_
 refine cGs (fun gg => (Yj a0.xL 0 1000000000000)) ?_
 refine cGs (fun gg => (Yj a0.km 0 1000000000000)) ?_
 exact rt [.tmp 2] f
theorem kO (a0 : Zv) : Sd 319 [a0.row] [rL 1 iR (Qn a0)] := by
 have f := me (Qn.eq_1 a0)
 refine soD func319 ntmps319 ?_
 exact rtD [.tmp 2] f
theorem Ot (a0 : List XD) (a1 : Zv) (u0 : Sm 2322432 a0) : Sa 262 [rL 5 XD.row a0, a1.row] [(zF a0 a1).1.row, rB (zF a0 a1).2] := by
 have f := me (zF.eq_1 a0 a1)
 refine so func262 ntmps262 ?_
 refine cRs (Qh a0 a1.Key) ?_
 refine cRs (Pq a1) ?_
 refine cF f ?_ ?_ <;> intro k1 h1 f
 ·exact rt [.cell 4 64, .tmp 5] f
 refine dIo mixed ?_
 have i1 : (YT a0 a1.Key).toNat < a0.length := by have := QI a0 a1.Key; exact il
 simp [i1, ZD]
 refine rpS ?_
 refine cRs (YR.rd (kO a1)) ?_
 refine cRs (jG (nth a0 (YT a0 a1.Key).toNat) (Qn a1) (by simp (maxDischargeDepth := 12) [WA, ZN (m := 2326528) (by decide) u0]; try omega)) ?_
 exact rt [.cell 4 64, .tmp 5] f
theorem TP (a0 : Zv) : Sd 265 [a0.row] [(xT a0).row] := by
 have f := me (xT.eq_1 a0)
 refine soD func265 ntmps265 ?_
 refine dIs mixed ?_
 refine cDs [false] (kO a0) ?_
 exact rtD [.cell 2 177] f
theorem N3 (a0 : Yi) : Sd 266 [a0.row] [(Wo a0).row] := by
 have f := me (Wo.eq_1 a0)
 refine soD func266 ntmps266 ?_
 refine dIs mixed ?_
 refine cDs [false] (SP a0) ?_
 exact rtD [.cell 2 177] f
theorem UI (a0 : ZG) (a1 : Int) (a2 : ZU) (a3 : Int) (a4 : Int) (u0 : Sm 2318336 a0) (u1 : Sm 2318336 a2) : So 183 [a0.row, rI a1, a2.row, rI a3, rI a4] [(Xa a0 a1 a2 a3 a4).1.row, rB (Xa a0 a1 a2 a3 a4).2] := by
 have f := me (Xa.eq_1 a0 a1 a2 a3 a4)
 refine so func183 ntmps183 ?_
 refine cRs (y7 a0.Frame.Methods a0.Frame.Now) ?_
 refine cRs (Mu a0 a1) ?_
 refine cF f ?_ ?_ <;> intro k1 h1 f
 ·exact rtO [.cell 10 70, .tmp 11] f
 refine dIo mixed ?_
 have i1 : (QV a0 a1).toNat < a0.ZM.length := by have := MS a0 a1; exact il
 simp [i1, ZD]
 refine rpS ?_
 refine cRs (ko (Zf a0.Frame.Methods a0.Frame.Now) a2 (sg u1)) ?_
 refine cRs (Ot a0.Frame.Zq (Zv.mk a1 (nth a0.ZM (QV a0 a1).toNat).ZQ (Zf a0.Frame.Methods a0.Frame.Now) (JY (Zf a0.Frame.Methods a0.Frame.Now) a2) 1 a3 0 0 0) (sg (Zu.JK (ZG.Yp u0)))) ?_
 refine dIs mixed ?_
 refine cDs [true, false, false] (Rs a2 (sg u1)) ?_
 refine cRf i1 (YR.rd (TP (zF a0.Frame.Zq (Zv.mk a1 (nth a0.ZM (QV a0 a1).toNat).ZQ (Zf a0.Frame.Methods a0.Frame.Now) (JY (Zf a0.Frame.Methods a0.Frame.Now) a2) 1 a3 0 0 0)).1)) ?_
 refine cRs (YR.rd (N3 (nth a0.ZM (QV a0 a1).toNat))) ?_
 refine eIs ?_
 exact rtO [.cell 10 70, .tmp 11] f
theorem Mk (a0 : List Int) (a1 : List Int) : Sa 330 [rL 1 iR a0, rL 1 iR a1] [rB (Uu a0 a1)] := by
 have f := me (Uu.eq_1 a0 a1)
 refine so func330 ntmps330 ?_
 refine cF f ?_ ?_ <;> intro k1 h1 f
 ·exact rt [.tmp 4] f
 refine lp1 (VH.eq_2 a0 a1) (fun J => Yn 26 [eL 0 1 a0 iR, eL 1 1 a1 iR, eI 5 (J : Int)]) (fun n1 J => a0.length < n1 + J /\ J <= a0.length) (a0.length + 1) 0 (fun p1 J e1 j1 => ?_)
 refine cF e1 ?_ ?_ <;> intro k3 h2 e1
 ·have i1 := ix h2
  have m2 := ml a0 (k3 0 _ rfl)
  have w1 := wr J
  refine dIo mixed ?_
  have i2 := ik J a1
  simp [i1, ZD, i2]
  refine rpS ?_
  refine cF e1 ?_ ?_ <;> intro k5 h3 e1
  ·have f := ms f e1
   exact rt [.tmp 4] f
  exact ny1 w1 e1
 have f := ms f e1
 exact rt [.tmp 4] f
theorem Vi (a0 : Ze) (a1 : Ze) : Sa 288 [a0.row, a1.row] [rB (qx a0 a1)] := by
 have f := me (qx.eq_1 a0 a1)
 refine so func288 ntmps288 ?_
 refine cGs (fun gg => (Mk a0.XC a1.XC)) ?_
 exact rt [.tmp 4] f
theorem Le (a0 : Zi) (a1 : Ze) : Sa 289 [a0.row, a1.row] [rI (WQ a0 a1)] := by
 have f := me (WQ.eq_1 a0 a1)
 refine so func289 ntmps289 ?_
 refine lp1 (W1.eq_2 a0 a1) (fun J => Yn 21 [eX 2 (a0.row.map .d), eX 3 (a1.row.map .d), eI 5 (J : Int)]) (fun n1 J => a0.ZL.length < n1 + J /\ J <= a0.ZL.length) (a0.ZL.length + 1) 0 (fun p1 J e1 j1 => ?_)
 refine cF e1 ?_ ?_ <;> intro k2 h1 e1
 ·have i1 := ix h1
  have m2 := ml a0.ZL (k2 8 _ rfl)
  have w1 := wr J
  refine dIo mixed ?_
  simp [i1, ZD]
  refine rpS ?_
  refine cRs (Vi (nth a0.ZL J) a1) ?_
  refine cF e1 ?_ ?_ <;> intro k4 h2 e1
  ·have f := ms f e1
   exact rt [.tmp 4] f
  exact ny1 w1 e1
 have f := ms f e1
 exact rt [.tmp 4] f
theorem VM (a0 : Zi) : Sa 214 [a0.row] [rB (xJ a0)] := by
 have f := me (xJ.eq_1 a0)
 refine so func214 ntmps214 ?_
 refine lp1 (qD.eq_2 a0) (fun J => Yn 69 [eX 1 (a0.row.map .d), eI 3 (J : Int)]) (fun n1 J => a0.ZL.length < n1 + J /\ J <= a0.ZL.length) (a0.ZL.length + 1) 0 (fun p1 J e1 j1 => ?_)
 refine cF e1 ?_ ?_ <;> intro k2 h1 e1
 ·have i1 := ix h1
  have m2 := ml a0.ZL (k2 7 _ rfl)
  have w1 := wr J
  refine dIo mixed ?_
  simp [i1, ZD]
  refine rpS ?_
  refine cRs (Le a0 (nth a0.ZL J)) ?_
  refine cF e1 ?_ ?_ <;> intro k4 h2 e1
  ·have f := ms f e1
   exact rt [.tmp 2] f
  exact ny1 w1 e1
 have f := ms f e1
 refine lp1 (xv.eq_2 a0) (fun uI => Yn 69 [eX 1 (a0.row.map .d), eI 4 (uI : Int)]) (fun n2 uI => a0.Zl.length < n2 + uI /\ uI <= a0.Zl.length) (a0.Zl.length + 1) 0 (fun p2 uI e2 j2 => ?_)
 refine cF e2 ?_ ?_ <;> intro k6 h3 e2
 ·have i2 := ix h3
  have m4 := ml a0.Zl (k6 23 _ rfl)
  have w2 := wr uI
  refine dIo mixed ?_
  simp [i2, ZD]
  refine rpS ?_
  refine cRs (Yj (nth a0.Zl uI).Count 1 (a0.ZL.length : Int)) ?_
  refine gIf ?_ ?_ <;> intro G
  ·have i3 := ik (uI - 1) a0.Zl
   have w3 : IntKind.i64.wrap ((uI : Int) - 1) = (uI : Int) - 1 := Yg (by omega) (by omega)
   simp [i3, ZD, w3, KY, G]
   refine rpG ?_
   refine gK (fun _ => ?_)
   simp [i2, ZD, G]
   refine rpG ?_
   refine cKo e2 ?_ ?_ <;> intro k8 h4 e2
   ·have q4 := h4; try simp [YJ] at q4
    have f := ms f e2
    simp [G]
    refine rpG ?_
    exact rtg [.tmp 2] f
   ·have q4 := h4; try simp [YJ] at q4
    simp [G]
    refine rpG ?_
    exact ny1 (an w2 (an w3 G)) e2
  ·refine sGg ?_
   refine cKo e2 ?_ ?_ <;> intro k9 h5 e2
   ·have q5 := h5; try simp [YJ] at q5
    have f := ms f e2
    simp [G]
    refine rpG ?_
    exact rtg [.tmp 2] f
   ·have q5 := h5; try simp [YJ] at q5
    simp [G]
    refine rpG ?_
    exact ny1 (an w2 G) e2
 have f := ms f e2
 refine cRs (Yj (a0.ZL.length : Int) 1 12) ?_
 exact rt [.tmp 2] f
theorem OG (a0 : ZV) : Sa 212 [a0.row] [rB (RQ a0)] := by
 have f := me (RQ.eq_1 a0)
 refine so func212 ntmps212 ?_
 refine dIs mixed ?_
 refine cRs (Yj a0.Id 1 999) ?_
 refine cGs (fun gg => (jP a0.Yr)) ?_
 refine cGs (fun gg => (jZ a0.Doc)) ?_
 refine cGs (fun gg => (VM a0.ZJ)) ?_
 refine gIf ?_ ?_ <;> intro G
 ·have sj := G
  have g1 := G; try simp [YJ] at g1
  have i1 : 0 < a0.ZJ.ZL.length := by have := Mj (a := a0.ZJ); simp_all
  simp [i1, ZD, G]
  refine rpG ?_
  refine cGg (fun gg => YR.rd (TP a0.Sig)) ?_
  refine cGg (fun gg => (Vi (nth a0.ZJ.ZL 0) (xT a0.Sig))) ?_
  exact rtg [.tmp 2] f
 ·have sj := G
  refine sGo ?_
  simp [G]
  refine rpG ?_
  refine sGo ?_
  simp [G]
  refine rpG ?_
  exact rtg [.tmp 2] f
theorem yH (a0 : ZE) : Sa 131 [a0.row] [rB (QT a0)] := by
 have f := me (QT.eq_1 a0)
 refine so func131 ntmps131 ?_
 refine lp1 (W6.eq_2 a0) (fun J => Yn 47 [eX 1 (a0.row.map .d), eI 3 (J : Int)]) (fun n1 J => a0.ZC.length < n1 + J /\ J <= a0.ZC.length) (a0.ZC.length + 1) 0 (fun p1 J e1 j1 => ?_)
 refine cF e1 ?_ ?_ <;> intro k2 h1 e1
 ·have i1 := ix h1
  have m2 := ml a0.ZC (k2 6 _ rfl)
  have w1 := wr J
  refine dIo mixed ?_
  simp [i1, ZD]
  refine rpS ?_
  refine cRs (OG (nth a0.ZC J)) ?_
  refine gIf ?_ ?_ <;> intro G
  ·have i2 := ik (J - 1) a0.ZC
   have w2 : IntKind.i64.wrap ((J : Int) - 1) = (J : Int) - 1 := Yg (by omega) (by omega)
   simp [i2, ZD, w2, KY, G]
   refine rpG ?_
   refine gK (fun _ => ?_)
   simp [i1, ZD, G]
   refine rpG ?_
   refine cK e1 ?_ ?_ <;> intro k4 h2 e1
   ·have f := ms f e1
    exact rtg [.tmp 2] f
   ·exact ny1 (an w1 (an w2 G)) e1
  ·refine sGg ?_
   refine cK e1 ?_ ?_ <;> intro k5 h3 e1
   ·have f := ms f e1
    exact rtg [.tmp 2] f
   ·exact ny1 (an w1 G) e1
 have f := ms f e1
 refine cRs (Yj a0.Id 0 99) ?_
 exact rt [.tmp 2] f
theorem yz (a0 : ZE) (a1 : Int) : Sa 267 [a0.row, rI a1] [rI (Yf a0 a1)] := by
 have f := me (Yf.eq_1 a0 a1)
 refine so func267 ntmps267 ?_
 refine lp1 (jx.eq_2 a0 a1) (fun J => Yn 22 [eI 1 a1, eX 2 (a0.row.map .d), eI 5 (J : Int)]) (fun n1 J => a0.ZC.length < n1 + J /\ J <= a0.ZC.length) (a0.ZC.length + 1) 0 (fun p1 J e1 j1 => ?_)
 refine cFf e1 ?_ ?_ <;> intro k2 h1 e1
 ·have i1 := ix h1
  have m2 := ml a0.ZC (k2 8 _ rfl)
  have w1 := wr J
  simp [i1, ZD]
  refine rpS ?_
  refine cF e1 ?_ ?_ <;> intro k3 h2 e1
  ·have f := ms f e1
   exact rt [.tmp 4] f
  exact ny1 w1 e1
 have f := ms f e1
 exact rt [.tmp 4] f
theorem jj (a0 : ZE) (a1 : ZV) (u0 : Sm 2318336 a0) (u1 : Sm 2318336 a1) : Sd 184 [a0.row, a1.row] [(Xo a0 a1).1.row, rB (Xo a0 a1).2] := by
 have f := me (Xo.eq_1 a0 a1)
 refine soD func184 ntmps184 ?_
 refine cRs (yH a0) ?_
 refine cGs (fun gg => (yz a0 a1.Id)) ?_
 refine cF f ?_ ?_ <;> intro k1 h1 f
 ·refine cDs [] (Xi a0 (sg u0)) ?_
  exact rtD [.cell 4 73, .tmp 5] f
 refine lp3 (J5.eq_2 a0 a1) (fun J U uF => Yn 77 [eX 2 (a0.row.map .d), eX 3 (a1.row.map .d), (4, .one (.bptr 4 0), [.box [.d (.int .i64 0), .nil 16]]), (6, .one (.bptr 6 0), [.box [.d (.int .i64 a0.Id), .sref 6 2 0 uF.length], .none, .arr true 16 (uF.map ZV.row)]), eB 7 J, eI 8 (U : Int)]) (fun n1 J U uF => a0.ZC.length < n1 + U /\ U <= a0.ZC.length /\ uF.length <= 0 + 2 * U) (a0.ZC.length + 1) false 0 ([] : List ZV) (fun p1 J U uF e1 j1 => ?_) (h0 := wkS [((6, 2), none)] [])
 refine cF e1 ?_ ?_ <;> intro k3 h2 e1
 ·have i1 := ix h2
  have m2 := ml a0.ZC (k3 26 _ rfl)
  have c1 := sl 2318336 a0.ZC (an u0 u1)
  have w1 := wr U
  refine dIs mixed ?_
  refine gIf ?_ ?_ <;> intro G
  ·simp [i1, ZD, G]
   refine rpG ?_
   refine cK e1 ?_ ?_ <;> intro k5 h3 e1
   ·try (simp [G] at h3; done)
    all_goals
     refine drJ [49] mixed ?_
     simp
     refine cDg [true, true, true, false, false] (X8 a1 (sg u1)) ?_
     refine xt ?_
     simp [G]
     refine rpG ?_
     refine ql (uG := (uF.map ZV.row)) (news := (([a1] : List ZV).map ZV.row)) (l1 := [(6, 2)]) (l2 := [(47, 3), (47, 4), (47, 14), (47, 15)]) (size := 16) ?_
     simp [G]
     refine rpG ?_
     refine drJ [60] mixed ?_
     simp [i1, ZD, G]
     refine rpG ?_
     refine cDg [true, true, true, false, false] (X8 (nth a0.ZC U) (sg (Z3 (ZE.YM u0)))) ?_
     refine xt ?_
     simp [G]
     refine rpG ?_
     refine ql (uG := ((uF ++ ([a1] : List ZV)).map ZV.row)) (news := (([(nth a0.ZC U)] : List ZV).map ZV.row)) (l1 := [(49, 0)]) (l2 := [(58, 3), (58, 4), (58, 14), (58, 15)]) (size := 16) ?_
     simp [G]
     refine rpG ?_
     exact nx3 e1 (hw := XA [((6, 2), some (60, 0))] [] rfl (by simp [w1, G]))
   ·try (simp [G] at h3; done)
    all_goals
     refine drJ [60] mixed ?_
     simp [i1, ZD, G]
     refine rpG ?_
     refine cDg [true, true, true, false, false] (X8 (nth a0.ZC U) (sg (Z3 (ZE.YM u0)))) ?_
     refine xt ?_
     simp [G]
     refine rpG ?_
     refine ql (uG := (uF.map ZV.row)) (news := (([(nth a0.ZC U)] : List ZV).map ZV.row)) (l1 := [(6, 2)]) (l2 := [(58, 3), (58, 4), (58, 14), (58, 15)]) (size := 16) ?_
     simp [G]
     refine rpG ?_
     exact nx3 e1 (hw := XA [((6, 2), some (60, 0))] [] rfl (by simp [w1, G]))
  ·refine cK e1 ?_ ?_ <;> intro k9 h4 e1
   ·try (simp [G] at h4; done)
    all_goals
     refine drJ [49] mixed ?_
     simp
     refine cDg [true, true, true, false, false] (X8 a1 (sg u1)) ?_
     refine xt ?_
     simp [G]
     refine rpG ?_
     refine ql (uG := (uF.map ZV.row)) (news := (([a1] : List ZV).map ZV.row)) (l1 := [(6, 2)]) (l2 := [(47, 3), (47, 4), (47, 14), (47, 15)]) (size := 16) ?_
     simp [G]
     refine rpG ?_
     refine drJ [60] mixed ?_
     simp [i1, ZD, G]
     refine rpG ?_
     refine cDg [true, true, true, false, false] (X8 (nth a0.ZC U) (sg (Z3 (ZE.YM u0)))) ?_
     refine xt ?_
     simp [G]
     refine rpG ?_
     refine ql (uG := ((uF ++ ([a1] : List ZV)).map ZV.row)) (news := (([(nth a0.ZC U)] : List ZV).map ZV.row)) (l1 := [(49, 0)]) (l2 := [(58, 3), (58, 4), (58, 14), (58, 15)]) (size := 16) ?_
     simp [G]
     refine rpG ?_
     exact nx3 e1 (hw := XA [((6, 2), some (60, 0))] [] rfl (by simp [w1, G]))
   ·try (simp [G] at h4; done)
    all_goals
     refine drJ [60] mixed ?_
     simp [i1, ZD, G]
     refine rpG ?_
     refine cDg [true, true, true, false, false] (X8 (nth a0.ZC U) (sg (Z3 (ZE.YM u0)))) ?_
     refine xt ?_
     simp [G]
     refine rpG ?_
     refine ql (uG := (uF.map ZV.row)) (news := (([(nth a0.ZC U)] : List ZV).map ZV.row)) (l1 := [(6, 2)]) (l2 := [(58, 3), (58, 4), (58, 14), (58, 15)]) (size := 16) ?_
     simp [G]
     refine rpG ?_
     exact nx3 e1 (hw := XA [((6, 2), some (60, 0))] [] rfl (by simp [w1, G]))
 have c2 := sl 2318336 a0.ZC (an u0 u1)
 have f := ms f e1
 refine cF f ?_ ?_ <;> intro nf h5 f
 ·refine okD fun fD => ?_
  refine drJ [69] mixed ?_
  simp
  refine cDs [true, true, true, false, false] (X8 a1 (sg u1)) ?_
  refine xt ?_
  simp
  refine ql (uG := (uF.map ZV.row)) (news := (([a1] : List ZV).map ZV.row)) (l1 := [(6, 2)]) (l2 := [(67, 3), (67, 4), (67, 14), (67, 15)]) (size := 16) ?_
  simp
  refine cRs (yH (ZE.mk a0.Id (uF ++ ([a1] : List ZV)))) ?_
  refine cF f ?_ ?_ <;> intro eT h6 f
  ·refine cDs [] (Xi a0 (sg u0)) ?_
   exact rtD [.cell 4 73, .tmp 5] f
  exact rtD [.cell 4 73, .tmp 5] f
 refine cRs (yH (ZE.mk a0.Id uF)) ?_
 refine cF f ?_ ?_ <;> intro fE h7 f
 ·refine cDs [] (Xi a0 (sg u0)) ?_
  exact rtD [.cell 4 73, .tmp 5] f
 exact rtD [.cell 4 73, .tmp 5] f
theorem IK (a0 : ZG) (a1 : Int) (a2 : Int) (a3 : ZU) (a4 : Int) (a5 : Int) (u0 : Sm 2314240 a0) (u1 : Sm 2314240 a3) : Sd 102 [a0.row, rI a1, rI a2, a3.row, rI a4, rI a5] [(qW a0 a1 a2 a3 a4 a5).1.row, rB (qW a0 a1 a2 a3 a4 a5).2] := by
 have f := me (qW.eq_1 a0 a1 a2 a3 a4 a5)
 refine soD func102 ntmps102 ?_
 refine cDs [false, false, false, true, true, false, false, true, false, false, true, false] (Xt a0 (sg u0)) ?_
 refine cRs (Qh a0.Frame.Zq a2) ?_
 refine dIs mixed ?_
 refine cRs (xW a0 a1) ?_
 refine gIf ?_ ?_ <;> intro G
 ·have c1 := sl 2314240 a0.ZA (an u0 u1)
  have w1 : IntKind.i64.wrap ((a0.ZA.length : Int) - 1) = (a0.ZA.length : Int) - 1 := Yg (by omega) (by omega)
  have g1 := G; try simp [w1, X9, YJ] at g1
  have i1 : (YT a0.Frame.Zq a2).toNat < a0.Frame.Zq.length := by have := QI a0.Frame.Zq a2; exact il
  simp [i1, ZD, G]
  refine rpG ?_
  refine cKo f ?_ ?_ <;> intro k2 h1 f
  ·try (simp [G] at h1; done)
   all_goals
    have q1 := h1; try simp [w1, X9, YJ] at q1
    simp [G]
    refine rpG ?_
    exact Xx [.cell 12 33, .tmp 13] f
  ·try (simp [G] at h1; done)
   all_goals
    have q1 := h1; try simp [w1, X9, YJ] at q1
    simp [G]
    refine rpG ?_
    refine cRg (UI a0 a2 a3 a4 a5 (sg u0) (sg u1)) ?_
    refine cK f ?_ ?_ <;> intro k3 h2 f
    ·try (simp [G] at h2; done)
     all_goals
      exact Xx [.cell 12 33, .tmp 13] f
    ·try (simp [G] at h2; done)
     all_goals
      refine dIo mixed ?_
      have i2 := ik a1.toNat a0.ZA
      simp [i2, ZD, G]
      refine rpG ?_
      refine cDg [] (jj (nth a0.ZA a1.toNat) (Xa a0 a2 a3 a4 a5).1 (by first | (exact ZN (n := 2314240) (by decide) (xs (an u0 u1))) | (exact ZN (n := 2314240) (by decide) (KP (xs (an u0 u1)) (by decide)))) (by first | (exact ZN (n := 2314240) (by decide) (xs (an u0 u1))) | (exact ZN (n := 2314240) (by decide) (KP (xs (an u0 u1)) (by decide))))) ?_
      refine cKt f ?_ ?_ <;> intro k5 h3 f
      ·try (simp [G] at h3; done)
       all_goals
        exact Xx [.cell 12 33, .tmp 13] f
      ·try (simp [G] at h3; done)
       all_goals
        simp [i2, ZD, G]
        refine rpG ?_
        refine jy (t := 21) (j := 7) (i := a1.toNat) (size := 2) (rows := (a0.ZA.map ZE.row)) (ds := (Xo (nth a0.ZA a1.toNat) (Xa a0 a2 a3 a4 a5).1).1.row) (L := [(68, 1)]) ?_
        simp [Y4 (x := (Xo (nth a0.ZA a1.toNat) (Xa a0 a2 a3 a4 a5).1).1) rfl, c1, i2, ZD, Z9, G]
        refine rpG ?_
        exact Xx [.cell 12 33, .tmp 13] f
 ·have c2 := sl 2314240 a0.ZA (an u0 u1)
  have w2 : IntKind.i64.wrap ((a0.ZA.length : Int) - 1) = (a0.ZA.length : Int) - 1 := Yg (by omega) (by omega)
  refine cKo f ?_ ?_ <;> intro k6 h4 f
  ·try (simp [G] at h4; done)
   all_goals
    have q4 := h4; try simp [w2, X9, YJ] at q4
    simp [G]
    refine rpG ?_
    exact Xx [.cell 12 33, .tmp 13] f
  ·try (simp [G] at h4; done)
   all_goals
    have q4 := h4; try simp [w2, X9, YJ] at q4
    simp [G]
    refine rpG ?_
    refine cRg (UI a0 a2 a3 a4 a5 (sg u0) (sg u1)) ?_
    refine cK f ?_ ?_ <;> intro k7 h5 f
    ·try (simp [G] at h5; done)
     all_goals
      exact Xx [.cell 12 33, .tmp 13] f
    ·try (simp [G] at h5; done)
     all_goals
      refine dIo mixed ?_
      have i4 := ik a1.toNat a0.ZA
      simp [i4, ZD, G]
      refine rpG ?_
      refine cDg [] (jj (nth a0.ZA a1.toNat) (Xa a0 a2 a3 a4 a5).1 (by first | (exact ZN (n := 2314240) (by decide) (xs (an u0 u1))) | (exact ZN (n := 2314240) (by decide) (KP (xs (an u0 u1)) (by decide)))) (by first | (exact ZN (n := 2314240) (by decide) (xs (an u0 u1))) | (exact ZN (n := 2314240) (by decide) (KP (xs (an u0 u1)) (by decide))))) ?_
      refine cKt f ?_ ?_ <;> intro k9 h6 f
      ·try (simp [G] at h6; done)
       all_goals
        exact Xx [.cell 12 33, .tmp 13] f
      ·try (simp [G] at h6; done)
       all_goals
        simp [i4, ZD, G]
        refine rpG ?_
        refine jy (t := 21) (j := 7) (i := a1.toNat) (size := 2) (rows := (a0.ZA.map ZE.row)) (ds := (Xo (nth a0.ZA a1.toNat) (Xa a0 a2 a3 a4 a5).1).1.row) (L := [(68, 1)]) ?_
        simp [Y4 (x := (Xo (nth a0.ZA a1.toNat) (Xa a0 a2 a3 a4 a5).1).1) rfl, c2, i4, ZD, Z9, G]
        refine rpG ?_
        exact Xx [.cell 12 33, .tmp 13] f
theorem Uy (a0 : ZG) (a1 : Int) : Sa 185 [a0.row, rI a1] [rI (ZB a0 a1).1, rI (ZB a0 a1).2] := by
 have f := me (ZB.eq_1 a0 a1)
 refine so func185 ntmps185 ?_
 refine lp1 (qX.eq_2 a0 a1) (fun J => Yn 26 [eI 1 a1, eX 2 (a0.row.map .d), eI 6 (J : Int)]) (fun n1 J => a0.ZA.length < n1 + J /\ J <= a0.ZA.length) (a0.ZA.length + 1) 0 (fun p1 J e1 j1 => ?_)
 refine cFf e1 ?_ ?_ <;> intro k2 h1 e1
 ·have i1 := ix h1
  have m2 := ml a0.ZA (k2 10 _ rfl)
  have w1 := wr J
  simp [i1, ZD]
  refine rpS ?_
  refine cRs (yz (nth a0.ZA J) a1) ?_
  refine cF e1 ?_ ?_ <;> intro k3 h2 e1
  ·have f := ms f e1
   exact rt [.tmp 4, .tmp 5] f
  exact ny1 w1 e1
 have f := ms f e1
 exact rt [.tmp 4, .tmp 5] f
theorem Pk (a0 : Ze) : Sa 268 [a0.row] [rI (QZ a0)] := by
 have f := me (QZ.eq_1 a0)
 refine so func268 ntmps268 ?_
 refine gIf ?_ ?_ <;> intro G
 ·have i1 := ik 0 a0.XC
  simp [i1, ZD, G]
  refine rpG ?_
  refine cGg (fun gg => (Yj (nth a0.XC 0) 101 105)) ?_
  refine cKo f ?_ ?_ <;> intro k1 h1 f
  ·have q1 := h1; try simp [YJ] at q1
   simp [G]
   refine rpG ?_
   exact rtg [.tmp 2] f
  ·have q1 := h1; try simp [YJ] at q1
   simp [G]
   refine rpG ?_
   refine dIo mixed ?_
   have i2 := ik (W ((nth a0.XC 0) - 101)).toNat ([7, 5, 5, 9, 6] : List Int)
   have r1 := ZD (f := iR) i2; try simp at r1
   simp [i1, ZD, i2, r1, G]
   refine rpG ?_
   refine cKt f ?_ ?_ <;> intro k3 h2 f
   ·exact rtg [.tmp 2] f
   ·simp [i1, ZD, G]
    refine rpG ?_
    exact rtg [.tmp 2] f
 ·refine sGo ?_
  simp [G]
  refine rpG ?_
  refine cKo f ?_ ?_ <;> intro k4 h3 f
  ·have q3 := h3; try simp [YJ] at q3
   simp [G]
   refine rpG ?_
   exact rtg [.tmp 2] f
  ·simp [G] at h3
theorem xm (a0 : Ze) : Sa 186 [a0.row] [(ZI a0).1.row, rB (ZI a0).2] := by
 have f := me (ZI.eq_1 a0)
 refine so func186 ntmps186 ?_
 refine dIs mixed ?_
 refine cRs (Pk a0) ?_
 refine gIf ?_ ?_ <;> intro G
 ·have sj := G
  have g1 := G; try simp at g1
  have i1 : 6 < a0.XC.length := by (have z := XF a0; simp_all; done)
  simp [i1, ZD, G]
  refine rpG ?_
  refine cK f ?_ ?_ <;> intro k2 h1 f
  ·try (simp [G] at h1; done)
   all_goals
    exact rtg [.cell 2 107, .tmp 3] f
  ·try (simp [G] at h1; done)
   all_goals
    refine dIo mixed ?_
    have i2 : 1 < a0.XC.length := by (have z := XF a0; simp_all; done)
    have i3 : 2 < a0.XC.length := by (have z := XF a0; simp_all; done)
    have i4 : 3 < a0.XC.length := by (have z := XF a0; simp_all; done)
    have i5 : 4 < a0.XC.length := by (have z := XF a0; simp_all; done)
    have i6 : 5 < a0.XC.length := by (have z := XF a0; simp_all; done)
    simp [i2, ZD, i3, i4, i5, i6, i1, G]
    refine rpG ?_
    exact rtg [.cell 2 107, .tmp 3] f
 ·have sj := G
  refine cK f ?_ ?_ <;> intro k4 h2 f
  ·try (simp [G] at h2; done)
   all_goals
    exact rtg [.cell 2 107, .tmp 3] f
  ·try (simp [G] at h2; done)
   all_goals
    refine dIo mixed ?_
    have i8 : 1 < a0.XC.length := by (have z := XF a0; simp_all; done)
    have i9 : 2 < a0.XC.length := by (have z := XF a0; simp_all; done)
    have i10 : 3 < a0.XC.length := by (have z := XF a0; simp_all; done)
    have i11 : 4 < a0.XC.length := by (have z := XF a0; simp_all; done)
    have i12 : 5 < a0.XC.length := by (have z := XF a0; simp_all; done)
    have i13 : 6 < a0.XC.length := by (have z := XF a0; simp_all; done)
    simp [i8, ZD, i9, i10, i11, i12, i13, G]
    refine rpG ?_
    exact rtg [.cell 2 107, .tmp 3] f
theorem jI (a0 : List Yi) (a1 : Int) : Sa 187 [rL 7 Yi.row a0, rI a1] [rI (ZX a0 a1)] := by
 have f := me (ZX.eq_1 a0 a1)
 refine so func187 ntmps187 ?_
 refine lp1 (jn.eq_2 a0 a1) (fun J => Yn 20 [eL 0 7 a0 Yi.row, eI 1 a1, eI 5 (J : Int)]) (fun n1 J => a0.length < n1 + J /\ J <= a0.length) (a0.length + 1) 0 (fun p1 J e1 j1 => ?_)
 refine cFf e1 ?_ ?_ <;> intro k2 h1 e1
 ·have i1 := ix h1
  have m2 := ml a0 (k2 0 _ rfl)
  have w1 := wr J
  simp [i1, ZD]
  refine rpS ?_
  refine cF e1 ?_ ?_ <;> intro k3 h2 e1
  ·have f := ms f e1
   exact rt [.tmp 4] f
  exact ny1 w1 e1
 have f := ms f e1
 exact rt [.tmp 4] f
theorem Lr (a0 : Zn) : Sa 269 [a0.row] [rB (V7 a0)] := by
 have f := me (V7.eq_1 a0)
 refine so func269 ntmps269 ?_
 refine cRs (Yj a0.ZQ 1 999) ?_
 refine cGs (fun gg => (jP a0.Rm)) ?_
 refine cGs (fun gg => (Yj a0.Zy (-1) (W (a0.Rm + 1)))) ?_
 refine cGs (fun gg => (Yj a0.Zm 1 99)) ?_
 exact rt [.tmp 2] f
theorem UT (a0 : Zn) : Sd 271 [a0.row] [rL 1 iR (KM a0)] := by
 have f := me (KM.eq_1 a0)
 refine soD func271 ntmps271 ?_
 exact rtD [.tmp 2] f
theorem Qp (a0 : List XD) (a1 : Zn) (u0 : Sm 2322432 a0) : Sa 188 [rL 5 XD.row a0, a1.row] [(Zj a0 a1).1.row, rB (Zj a0 a1).2] := by
 have f := me (Zj.eq_1 a0 a1)
 refine so func188 ntmps188 ?_
 refine cRs (Qh a0 a1.Zm) ?_
 refine cRs (Lr a1) ?_
 refine cF f ?_ ?_ <;> intro k1 h1 f
 ·exact rt [.cell 4 128, .tmp 5] f
 refine dIo mixed ?_
 have i1 : (YT a0 a1.Zm).toNat < a0.length := by have := QI a0 a1.Zm; exact il
 simp [i1, ZD]
 refine rpS ?_
 refine cRs (YR.rd (UT a1)) ?_
 refine cRs (jG (nth a0 (YT a0 a1.Zm).toNat) (KM a1) (by simp (maxDischargeDepth := 12) [UW, ZN (m := 2326528) (by decide) u0]; try omega)) ?_
 exact rt [.cell 4 128, .tmp 5] f
theorem XM (a0 : Zn) : Sd 190 [a0.row] [(Zr a0).row] := by
 have f := me (Zr.eq_1 a0)
 refine soD func190 ntmps190 ?_
 refine dIs mixed ?_
 refine cDs [false] (UT a0) ?_
 exact rtD [.cell 2 177] f
theorem IZ (a0 : Zi) (a1 : Ze) (u0 : Sm 2326528 a0) (u1 : Sm 2326528 a1) : Sd 272 [a0.row, a1.row] [(K8 a0 a1).1.row, rB (K8 a0 a1).2] := by
 have f := me (K8.eq_1 a0 a1)
 refine soD func272 ntmps272 ?_
 refine cDs [] (zZ a0 (sg u0)) ?_
 refine drJ [14] mixed ?_
 simp
 refine cDs [true, false] (SW a1 (sg u1)) ?_
 refine xt ?_
 have c1 := sl 2326528 a0.ZL (an u0 u1)
 simp
 refine ql (uG := (a0.ZL.map Ze.row)) (news := (([a1] : List Ze).map Ze.row)) (l1 := [(8, 0)]) (l2 := [(12, 1)]) (size := 3) ?_
 simp
 refine cRs (VM (Zi.mk (a0.ZL ++ ([a1] : List Ze)) a0.Zl)) ?_
 refine cF f ?_ ?_ <;> intro k2 h1 f
 ·refine cDs [] (zZ a0 (sg u0)) ?_
  exact rtD [.cell 4 68, .tmp 5] f
 exact rtD [.cell 4 68, .tmp 5] f
theorem Xf (a0 : ZE) (a1 : Int) (a2 : Ze) (u0 : Sm 2322432 a0) (u1 : Sm 2322432 a2) : Sd 189 [a0.row, rI a1, a2.row] [(YL a0 a1 a2).1.row, rB (YL a0 a1 a2).2] := by
 have f := me (YL.eq_1 a0 a1 a2)
 refine soD func189 ntmps189 ?_
 refine cDs [] (Xi a0 (sg u0)) ?_
 refine cRs (yz a0 a1) ?_
 refine cF f ?_ ?_ <;> intro k1 h1 f
 ·exact rtD [.cell 6 73, .tmp 7] f
 refine dIo mixed ?_
 have i1 : (Yf a0 a1).toNat < a0.ZC.length := by have := VJ a0 a1; exact il
 simp [i1, ZD]
 refine rpS ?_
 refine cDf i1 [] (IZ (nth a0.ZC (Yf a0 a1).toNat).ZJ a2 (sg (ZV.JJ (Z3 (ZE.YM u0)))) (sg u1)) ?_
 refine Bz (t := 13) (j := 1) (i := (Yf a0 a1).toNat) (c := 14) (size := 16) (rows := (a0.ZC.map ZV.row)) (ds := (K8 (nth a0.ZC (Yf a0 a1).toNat).ZJ a2).1.row) (L := [(28, 0), (28, 1)]) rfl rfl rfl rfl (by simp) (by simp) (by simp; try omega) (by simp) (by simp) (by simp) (by simp) (by simp) (by simp) ?_
 simp [Y4 (x := (ZV.mk (nth a0.ZC (Yf a0 a1).toNat).Id (nth a0.ZC (Yf a0 a1).toNat).Yr (nth a0.ZC (Yf a0 a1).toNat).Doc (nth a0.ZC (Yf a0 a1).toNat).Sig (K8 (nth a0.ZC (Yf a0 a1).toNat).ZJ a2).1)) rfl, i1, ZD, Z9]
 refine rpS ?_
 exact rtD [.cell 6 73, .tmp 7] f
theorem ZO {a b : Prop} (h : b) (k : a := by (intros; first | omega | with_unfolding_all (first | first | omega | (have fi := YG a0 a1 (by first | omega | (simp at *; omega)); omega) | (simp only [Bool.or_eq_false_iff, decide_eq_false_iff_not] at *; omega) | (have z := ZK G; (try simp only [] at z); omega) | (have z := ZK G.1; (try simp only [] at z); omega) | (have z := ZK G.2; (try simp only [] at z); omega) | (have z := ZK G.2.1; (try simp only [] at z); omega) | (have z := ZK G.2.2; (try simp only [] at z); omega) | (have z := ZK G.1.2; (try simp only [] at z); omega) | (have z := ZK G.2.2.2; (try simp only [] at z); omega) ) | (simp_all; done) | (simp_all; omega) | grind | ((try simp only [XL, show ∀ x, IntKind.i64.wrap x = W x from fun _ => rfl] at *); omega))) : a /\ b := ⟨k, h⟩
theorem NP (a0 : ZG) (a1 : Int) (u0 : Sm 2318336 a0) : Sd 103 [a0.row, rI a1] [(yU a0 a1).1.row, rB (yU a0 a1).2] := by
 have f := me (yU.eq_1 a0 a1)
 refine soD func103 ntmps103 ?_
 refine cDs [false, false, false, true, true, false, false, true, false, false, true, false] (Xt a0 (sg u0)) ?_
 refine cRs (Uy a0 a1) ?_
 refine gIo ?_ ?_ <;> intro G
 ·have sj := G
  have g1 := G; try simp at g1
  have i1 : (ZB a0 a1).1.toNat < a0.ZA.length := by first | omega | (have fi := YG a0 a1 (by first | omega | (simp at *; omega)); omega) | (simp only [Bool.or_eq_false_iff, decide_eq_false_iff_not] at *; omega) | (have z := ZK G; (try simp only [] at z); omega) | (have z := ZK G.1; (try simp only [] at z); omega) | (have z := ZK G.2; (try simp only [] at z); omega) | (have z := ZK G.2.1; (try simp only [] at z); omega) | (have z := ZK G.2.2; (try simp only [] at z); omega) | (have z := ZK G.1.2; (try simp only [] at z); omega) | (have z := ZK G.2.2.2; (try simp only [] at z); omega) 
  simp [i1, ZD, G]
  repeat with_reducible refine ZO ?_
  refine gK (fun _ => ?_)
  have i2 : (ZB a0 a1).2.toNat < (nth a0.ZA (ZB a0 a1).1.toNat).ZC.length := by first | omega | (have fi := YG a0 a1 (by first | omega | (simp at *; omega)); omega) | (simp only [Bool.or_eq_false_iff, decide_eq_false_iff_not] at *; omega) | (have z := ZK G; (try simp only [] at z); omega) | (have z := ZK G.1; (try simp only [] at z); omega) | (have z := ZK G.2; (try simp only [] at z); omega) | (have z := ZK G.2.1; (try simp only [] at z); omega) | (have z := ZK G.2.2; (try simp only [] at z); omega) | (have z := ZK G.1.2; (try simp only [] at z); omega) | (have z := ZK G.2.2.2; (try simp only [] at z); omega) 
  simp [i2, ZD, G]
  repeat with_reducible refine ZO ?_
  refine cKo f ?_ ?_ <;> intro k1 h1 f
  ·try (simp [G] at h1; done)
   all_goals
    simp [G]
    repeat with_reducible refine ZO ?_
    exact Xx [.cell 4 33, .tmp 5] f
  ·try (simp [G] at h1; done)
   all_goals
    have i3 : 1 < (nth (nth a0.ZA (ZB a0 a1).1.toNat).ZC (ZB a0 a1).2.toNat).ZJ.ZL.length := by first | omega | (have fi := YG a0 a1 (by first | omega | (simp at *; omega)); omega) | (simp only [Bool.or_eq_false_iff, decide_eq_false_iff_not] at *; omega) | (have z := ZK G; (try simp only [] at z); omega) | (have z := ZK G.1; (try simp only [] at z); omega) | (have z := ZK G.2; (try simp only [] at z); omega) | (have z := ZK G.2.1; (try simp only [] at z); omega) | (have z := ZK G.2.2; (try simp only [] at z); omega) | (have z := ZK G.1.2; (try simp only [] at z); omega) | (have z := ZK G.2.2.2; (try simp only [] at z); omega) 
    simp [i1, ZD, i2, i3, G]
    repeat with_reducible refine ZO ?_
    refine cR (xm (nth (nth (nth a0.ZA (ZB a0 a1).1.toNat).ZC (ZB a0 a1).2.toNat).ZJ.ZL 1)) ?_
    simp [G]
    repeat with_reducible refine ZO ?_
    refine cR (jI a0.ZM (ZI (nth (nth (nth a0.ZA (ZB a0 a1).1.toNat).ZC (ZB a0 a1).2.toNat).ZJ.ZL 1)).1.ZQ) ?_
    simp [G]
    repeat with_reducible refine ZO ?_
    refine cKo f ?_ ?_ <;> intro k2 h2 f
    ·try (simp [G] at h2; done)
     all_goals
      simp [G]
      repeat with_reducible refine ZO ?_
      exact Xx [.cell 4 33, .tmp 5] f
    ·try (simp [G] at h2; done)
     all_goals
      simp [G]
      repeat with_reducible refine ZO ?_
      refine dIo mixed ?_
      have i4 : (ZX a0.ZM (ZI (nth (nth (nth a0.ZA (ZB a0 a1).1.toNat).ZC (ZB a0 a1).2.toNat).ZJ.ZL 1)).1.ZQ).toNat < a0.ZM.length := by have := JX a0.ZM (ZI (nth (nth (nth a0.ZA (ZB a0 a1).1.toNat).ZC (ZB a0 a1).2.toNat).ZJ.ZL 1)).1.ZQ; first | omega | (have fi := YG a0 a1 (by first | omega | (simp at *; omega)); omega) | (simp only [Bool.or_eq_false_iff, decide_eq_false_iff_not] at *; omega) | (have z := ZK G; (try simp only [] at z); omega) | (have z := ZK G.1; (try simp only [] at z); omega) | (have z := ZK G.2; (try simp only [] at z); omega) | (have z := ZK G.2.1; (try simp only [] at z); omega) | (have z := ZK G.2.2; (try simp only [] at z); omega) | (have z := ZK G.1.2; (try simp only [] at z); omega) | (have z := ZK G.2.2.2; (try simp only [] at z); omega) 
      simp [i4, ZD, G]
      repeat with_reducible refine ZO ?_
      refine cR (Qh a0.Frame.Zq (nth a0.ZM (ZX a0.ZM (ZI (nth (nth (nth a0.ZA (ZB a0 a1).1.toNat).ZC (ZB a0 a1).2.toNat).ZJ.ZL 1)).1.ZQ).toNat).Zm) ?_
      simp [G]
      repeat with_reducible refine ZO ?_
      refine dIo mixed ?_
      simp [i4, ZD, G]
      repeat with_reducible refine ZO ?_
      refine dIo mixed ?_
      have i5 : (ZX a0.ZM (ZI (nth (nth (nth a0.ZA (ZB a0 a1).1.toNat).ZC (ZB a0 a1).2.toNat).ZJ.ZL 1)).1.ZQ).toNat < a0.Zy.length := by have := JX a0.ZM (ZI (nth (nth (nth a0.ZA (ZB a0 a1).1.toNat).ZC (ZB a0 a1).2.toNat).ZJ.ZL 1)).1.ZQ; first | omega | (have fi := YG a0 a1 (by first | omega | (simp at *; omega)); omega) | (simp only [Bool.or_eq_false_iff, decide_eq_false_iff_not] at *; omega) | (have z := ZK G; (try simp only [] at z); omega) | (have z := ZK G.1; (try simp only [] at z); omega) | (have z := ZK G.2; (try simp only [] at z); omega) | (have z := ZK G.2.1; (try simp only [] at z); omega) | (have z := ZK G.2.2; (try simp only [] at z); omega) | (have z := ZK G.1.2; (try simp only [] at z); omega) | (have z := ZK G.2.2.2; (try simp only [] at z); omega) 
      simp [i5, ZD, G]
      repeat with_reducible refine ZO ?_
      refine cKo f ?_ ?_ <;> intro k6 h3 f
      ·try (simp [G] at h3; done)
       all_goals
        simp [i5, ZD, G]
        repeat with_reducible refine ZO ?_
        refine cR (Qp a0.Frame.Zq (Zn.mk (ZI (nth (nth (nth a0.ZA (ZB a0 a1).1.toNat).ZC (ZB a0 a1).2.toNat).ZJ.ZL 1)).1.ZQ a0.Frame.Now (nth a0.Zy (ZX a0.ZM (ZI (nth (nth (nth a0.ZA (ZB a0 a1).1.toNat).ZC (ZB a0 a1).2.toNat).ZJ.ZL 1)).1.ZQ).toNat) (nth a0.ZM (ZX a0.ZM (ZI (nth (nth (nth a0.ZA (ZB a0 a1).1.toNat).ZC (ZB a0 a1).2.toNat).ZJ.ZL 1)).1.ZQ).toNat).Zm 0) (sg (Zu.JK (ZG.Yp u0)))) ?_
        simp [G]
        repeat with_reducible refine ZO ?_
        refine dIo mixed ?_
        simp [G]
        repeat with_reducible refine ZO ?_
        refine gJo G ?_ ?_ <;> intro G
        ·have iW := G.2
         try (simp at G; done)
         all_goals
          have g2 := G.2; try simp at g2
          all_goals
           have i6 : (YT a0.Frame.Zq (nth a0.ZM (ZX a0.ZM (ZI (nth (nth (nth a0.ZA (ZB a0 a1).1.toNat).ZC (ZB a0 a1).2.toNat).ZJ.ZL 1)).1.ZQ).toNat).Zm).toNat < a0.Frame.Zq.length := by have := QI a0.Frame.Zq (nth a0.ZM (ZX a0.ZM (ZI (nth (nth (nth a0.ZA (ZB a0 a1).1.toNat).ZC (ZB a0 a1).2.toNat).ZJ.ZL 1)).1.ZQ).toNat).Zm; first | omega | (have fi := YG a0 a1 (by first | omega | (simp at *; omega)); omega) | (simp only [Bool.or_eq_false_iff, decide_eq_false_iff_not] at *; omega) | (have z := ZK G; (try simp only [] at z); omega) | (have z := ZK G.1; (try simp only [] at z); omega) | (have z := ZK G.2; (try simp only [] at z); omega) | (have z := ZK G.2.1; (try simp only [] at z); omega) | (have z := ZK G.2.2; (try simp only [] at z); omega) | (have z := ZK G.1.2; (try simp only [] at z); omega) | (have z := ZK G.2.2.2; (try simp only [] at z); omega) 
           simp [i6, ZD, G]
           repeat with_reducible refine ZO ?_
           refine cKo f ?_ ?_ <;> intro k8 h4 f
           ·try (simp [G] at h4; done)
            all_goals
             simp [G]
             repeat with_reducible refine ZO ?_
             exact Xx [.cell 4 33, .tmp 5] f
           ·try (simp [G] at h4; done)
            all_goals
             simp [G]
             repeat with_reducible refine ZO ?_
             refine dIo mixed ?_
             simp [i1, ZD, G]
             repeat with_reducible refine ZO ?_
             refine cR (YR.rd (XM (Zj a0.Frame.Zq (Zn.mk (ZI (nth (nth (nth a0.ZA (ZB a0 a1).1.toNat).ZC (ZB a0 a1).2.toNat).ZJ.ZL 1)).1.ZQ a0.Frame.Now (nth a0.Zy (ZX a0.ZM (ZI (nth (nth (nth a0.ZA (ZB a0 a1).1.toNat).ZC (ZB a0 a1).2.toNat).ZJ.ZL 1)).1.ZQ).toNat) (nth a0.ZM (ZX a0.ZM (ZI (nth (nth (nth a0.ZA (ZB a0 a1).1.toNat).ZC (ZB a0 a1).2.toNat).ZJ.ZL 1)).1.ZQ).toNat).Zm 0)).1)) ?_
             simp [G]
             repeat with_reducible refine ZO ?_
             refine cD [] (Xf (nth a0.ZA (ZB a0 a1).1.toNat) a1 (Zr (Zj a0.Frame.Zq (Zn.mk (ZI (nth (nth (nth a0.ZA (ZB a0 a1).1.toNat).ZC (ZB a0 a1).2.toNat).ZJ.ZL 1)).1.ZQ a0.Frame.Now (nth a0.Zy (ZX a0.ZM (ZI (nth (nth (nth a0.ZA (ZB a0 a1).1.toNat).ZC (ZB a0 a1).2.toNat).ZJ.ZL 1)).1.ZQ).toNat) (nth a0.ZM (ZX a0.ZM (ZI (nth (nth (nth a0.ZA (ZB a0 a1).1.toNat).ZC (ZB a0 a1).2.toNat).ZJ.ZL 1)).1.ZQ).toNat).Zm 0)).1) (sg (Z3 (ZG.YA u0))) (by simp (maxDischargeDepth := 12) [Y1, ZN (m := 2322432) (by decide) u0]; try omega)) ?_
             simp [i1, ZD, G]
             repeat with_reducible refine ZO ?_
             refine jy (t := 18) (j := 7) (i := (ZB a0 a1).1.toNat) (size := 2) (rows := (a0.ZA.map ZE.row)) (ds := (YL (nth a0.ZA (ZB a0 a1).1.toNat) a1 (Zr (Zj a0.Frame.Zq (Zn.mk (ZI (nth (nth (nth a0.ZA (ZB a0 a1).1.toNat).ZC (ZB a0 a1).2.toNat).ZJ.ZL 1)).1.ZQ a0.Frame.Now (nth a0.Zy (ZX a0.ZM (ZI (nth (nth (nth a0.ZA (ZB a0 a1).1.toNat).ZC (ZB a0 a1).2.toNat).ZJ.ZL 1)).1.ZQ).toNat) (nth a0.ZM (ZX a0.ZM (ZI (nth (nth (nth a0.ZA (ZB a0 a1).1.toNat).ZC (ZB a0 a1).2.toNat).ZJ.ZL 1)).1.ZQ).toNat).Zm 0)).1)).1.row) (L := [(150, 1)]) ?_
             simp [Y4 (x := (YL (nth a0.ZA (ZB a0 a1).1.toNat) a1 (Zr (Zj a0.Frame.Zq (Zn.mk (ZI (nth (nth (nth a0.ZA (ZB a0 a1).1.toNat).ZC (ZB a0 a1).2.toNat).ZJ.ZL 1)).1.ZQ a0.Frame.Now (nth a0.Zy (ZX a0.ZM (ZI (nth (nth (nth a0.ZA (ZB a0 a1).1.toNat).ZC (ZB a0 a1).2.toNat).ZJ.ZL 1)).1.ZQ).toNat) (nth a0.ZM (ZX a0.ZM (ZI (nth (nth (nth a0.ZA (ZB a0 a1).1.toNat).ZC (ZB a0 a1).2.toNat).ZJ.ZL 1)).1.ZQ).toNat).Zm 0)).1)).1) rfl, i1, ZD, Z9, G]
             repeat with_reducible refine ZO ?_
             exact Xx [.cell 4 33, .tmp 5] f
        ·have iW := G.2
         try (simp at G; done)
         all_goals
          simp [G]
          repeat with_reducible refine ZO ?_
          refine cKo f ?_ ?_ <;> intro ox h5 f
          ·try (simp [G] at h5; done)
           all_goals
            simp [G]
            repeat with_reducible refine ZO ?_
            exact Xx [.cell 4 33, .tmp 5] f
          ·try (simp [G] at h5; done)
           all_goals
            simp [G]
            repeat with_reducible refine ZO ?_
            refine dIo mixed ?_
            simp [i1, ZD, G]
            repeat with_reducible refine ZO ?_
            refine cR (YR.rd (XM (Zj a0.Frame.Zq (Zn.mk (ZI (nth (nth (nth a0.ZA (ZB a0 a1).1.toNat).ZC (ZB a0 a1).2.toNat).ZJ.ZL 1)).1.ZQ a0.Frame.Now (nth a0.Zy (ZX a0.ZM (ZI (nth (nth (nth a0.ZA (ZB a0 a1).1.toNat).ZC (ZB a0 a1).2.toNat).ZJ.ZL 1)).1.ZQ).toNat) (nth a0.ZM (ZX a0.ZM (ZI (nth (nth (nth a0.ZA (ZB a0 a1).1.toNat).ZC (ZB a0 a1).2.toNat).ZJ.ZL 1)).1.ZQ).toNat).Zm 0)).1)) ?_
            simp [G]
            repeat with_reducible refine ZO ?_
            refine cD [] (Xf (nth a0.ZA (ZB a0 a1).1.toNat) a1 (Zr (Zj a0.Frame.Zq (Zn.mk (ZI (nth (nth (nth a0.ZA (ZB a0 a1).1.toNat).ZC (ZB a0 a1).2.toNat).ZJ.ZL 1)).1.ZQ a0.Frame.Now (nth a0.Zy (ZX a0.ZM (ZI (nth (nth (nth a0.ZA (ZB a0 a1).1.toNat).ZC (ZB a0 a1).2.toNat).ZJ.ZL 1)).1.ZQ).toNat) (nth a0.ZM (ZX a0.ZM (ZI (nth (nth (nth a0.ZA (ZB a0 a1).1.toNat).ZC (ZB a0 a1).2.toNat).ZJ.ZL 1)).1.ZQ).toNat).Zm 0)).1) (sg (Z3 (ZG.YA u0))) (by simp (maxDischargeDepth := 12) [Y1, ZN (m := 2322432) (by decide) u0]; try omega)) ?_
            simp [i1, ZD, G]
            repeat with_reducible refine ZO ?_
            refine jy (t := 18) (j := 7) (i := (ZB a0 a1).1.toNat) (size := 2) (rows := (a0.ZA.map ZE.row)) (ds := (YL (nth a0.ZA (ZB a0 a1).1.toNat) a1 (Zr (Zj a0.Frame.Zq (Zn.mk (ZI (nth (nth (nth a0.ZA (ZB a0 a1).1.toNat).ZC (ZB a0 a1).2.toNat).ZJ.ZL 1)).1.ZQ a0.Frame.Now (nth a0.Zy (ZX a0.ZM (ZI (nth (nth (nth a0.ZA (ZB a0 a1).1.toNat).ZC (ZB a0 a1).2.toNat).ZJ.ZL 1)).1.ZQ).toNat) (nth a0.ZM (ZX a0.ZM (ZI (nth (nth (nth a0.ZA (ZB a0 a1).1.toNat).ZC (ZB a0 a1).2.toNat).ZJ.ZL 1)).1.ZQ).toNat).Zm 0)).1)).1.row) (L := [(150, 1)]) ?_
            simp [Y4 (x := (YL (nth a0.ZA (ZB a0 a1).1.toNat) a1 (Zr (Zj a0.Frame.Zq (Zn.mk (ZI (nth (nth (nth a0.ZA (ZB a0 a1).1.toNat).ZC (ZB a0 a1).2.toNat).ZJ.ZL 1)).1.ZQ a0.Frame.Now (nth a0.Zy (ZX a0.ZM (ZI (nth (nth (nth a0.ZA (ZB a0 a1).1.toNat).ZC (ZB a0 a1).2.toNat).ZJ.ZL 1)).1.ZQ).toNat) (nth a0.ZM (ZX a0.ZM (ZI (nth (nth (nth a0.ZA (ZB a0 a1).1.toNat).ZC (ZB a0 a1).2.toNat).ZJ.ZL 1)).1.ZQ).toNat).Zm 0)).1)).1) rfl, i1, ZD, Z9, G]
            repeat with_reducible refine ZO ?_
            exact Xx [.cell 4 33, .tmp 5] f
      ·try (simp [G] at h3; done)
       all_goals
        simp [G]
        repeat with_reducible refine ZO ?_
        refine cR (Qp a0.Frame.Zq (Zn.mk (ZI (nth (nth (nth a0.ZA (ZB a0 a1).1.toNat).ZC (ZB a0 a1).2.toNat).ZJ.ZL 1)).1.ZQ a0.Frame.Now (-1) (nth a0.ZM (ZX a0.ZM (ZI (nth (nth (nth a0.ZA (ZB a0 a1).1.toNat).ZC (ZB a0 a1).2.toNat).ZJ.ZL 1)).1.ZQ).toNat).Zm 0) (sg (Zu.JK (ZG.Yp u0)))) ?_
        simp [G]
        repeat with_reducible refine ZO ?_
        refine dIo mixed ?_
        simp [G]
        repeat with_reducible refine ZO ?_
        refine gJo G ?_ ?_ <;> intro G
        ·have fF := G.2
         try (simp at G; done)
         all_goals
          have g3 := G.2; try simp at g3
          all_goals
           have i8 : (YT a0.Frame.Zq (nth a0.ZM (ZX a0.ZM (ZI (nth (nth (nth a0.ZA (ZB a0 a1).1.toNat).ZC (ZB a0 a1).2.toNat).ZJ.ZL 1)).1.ZQ).toNat).Zm).toNat < a0.Frame.Zq.length := by have := QI a0.Frame.Zq (nth a0.ZM (ZX a0.ZM (ZI (nth (nth (nth a0.ZA (ZB a0 a1).1.toNat).ZC (ZB a0 a1).2.toNat).ZJ.ZL 1)).1.ZQ).toNat).Zm; first | omega | (have fi := YG a0 a1 (by first | omega | (simp at *; omega)); omega) | (simp only [Bool.or_eq_false_iff, decide_eq_false_iff_not] at *; omega) | (have z := ZK G; (try simp only [] at z); omega) | (have z := ZK G.1; (try simp only [] at z); omega) | (have z := ZK G.2; (try simp only [] at z); omega) | (have z := ZK G.2.1; (try simp only [] at z); omega) | (have z := ZK G.2.2; (try simp only [] at z); omega) | (have z := ZK G.1.2; (try simp only [] at z); omega) | (have z := ZK G.2.2.2; (try simp only [] at z); omega) 
           simp [i8, ZD, G]
           repeat with_reducible refine ZO ?_
           refine cKo f ?_ ?_ <;> intro nf h6 f
           ·try (simp [G] at h6; done)
            all_goals
             simp [G]
             repeat with_reducible refine ZO ?_
             exact Xx [.cell 4 33, .tmp 5] f
           ·try (simp [G] at h6; done)
            all_goals
             simp [G]
             repeat with_reducible refine ZO ?_
             refine dIo mixed ?_
             simp [i1, ZD, G]
             repeat with_reducible refine ZO ?_
             refine cR (YR.rd (XM (Zj a0.Frame.Zq (Zn.mk (ZI (nth (nth (nth a0.ZA (ZB a0 a1).1.toNat).ZC (ZB a0 a1).2.toNat).ZJ.ZL 1)).1.ZQ a0.Frame.Now (-1) (nth a0.ZM (ZX a0.ZM (ZI (nth (nth (nth a0.ZA (ZB a0 a1).1.toNat).ZC (ZB a0 a1).2.toNat).ZJ.ZL 1)).1.ZQ).toNat).Zm 0)).1)) ?_
             simp [G]
             repeat with_reducible refine ZO ?_
             refine cD [] (Xf (nth a0.ZA (ZB a0 a1).1.toNat) a1 (Zr (Zj a0.Frame.Zq (Zn.mk (ZI (nth (nth (nth a0.ZA (ZB a0 a1).1.toNat).ZC (ZB a0 a1).2.toNat).ZJ.ZL 1)).1.ZQ a0.Frame.Now (-1) (nth a0.ZM (ZX a0.ZM (ZI (nth (nth (nth a0.ZA (ZB a0 a1).1.toNat).ZC (ZB a0 a1).2.toNat).ZJ.ZL 1)).1.ZQ).toNat).Zm 0)).1) (sg (Z3 (ZG.YA u0))) (by simp (maxDischargeDepth := 12) [Y1, ZN (m := 2322432) (by decide) u0]; try omega)) ?_
             simp [i1, ZD, G]
             repeat with_reducible refine ZO ?_
             refine jy (t := 18) (j := 7) (i := (ZB a0 a1).1.toNat) (size := 2) (rows := (a0.ZA.map ZE.row)) (ds := (YL (nth a0.ZA (ZB a0 a1).1.toNat) a1 (Zr (Zj a0.Frame.Zq (Zn.mk (ZI (nth (nth (nth a0.ZA (ZB a0 a1).1.toNat).ZC (ZB a0 a1).2.toNat).ZJ.ZL 1)).1.ZQ a0.Frame.Now (-1) (nth a0.ZM (ZX a0.ZM (ZI (nth (nth (nth a0.ZA (ZB a0 a1).1.toNat).ZC (ZB a0 a1).2.toNat).ZJ.ZL 1)).1.ZQ).toNat).Zm 0)).1)).1.row) (L := [(150, 1)]) ?_
             simp [Y4 (x := (YL (nth a0.ZA (ZB a0 a1).1.toNat) a1 (Zr (Zj a0.Frame.Zq (Zn.mk (ZI (nth (nth (nth a0.ZA (ZB a0 a1).1.toNat).ZC (ZB a0 a1).2.toNat).ZJ.ZL 1)).1.ZQ a0.Frame.Now (-1) (nth a0.ZM (ZX a0.ZM (ZI (nth (nth (nth a0.ZA (ZB a0 a1).1.toNat).ZC (ZB a0 a1).2.toNat).ZJ.ZL 1)).1.ZQ).toNat).Zm 0)).1)).1) rfl, i1, ZD, Z9, G]
             repeat with_reducible refine ZO ?_
             exact Xx [.cell 4 33, .tmp 5] f
        ·have fF := G.2
         try (simp at G; done)
         all_goals
          simp [G]
          repeat with_reducible refine ZO ?_
          refine cKo f ?_ ?_ <;> intro eT h7 f
          ·try (simp [G] at h7; done)
           all_goals
            simp [G]
            repeat with_reducible refine ZO ?_
            exact Xx [.cell 4 33, .tmp 5] f
          ·try (simp [G] at h7; done)
           all_goals
            simp [G]
            repeat with_reducible refine ZO ?_
            refine dIo mixed ?_
            simp [i1, ZD, G]
            repeat with_reducible refine ZO ?_
            refine cR (YR.rd (XM (Zj a0.Frame.Zq (Zn.mk (ZI (nth (nth (nth a0.ZA (ZB a0 a1).1.toNat).ZC (ZB a0 a1).2.toNat).ZJ.ZL 1)).1.ZQ a0.Frame.Now (-1) (nth a0.ZM (ZX a0.ZM (ZI (nth (nth (nth a0.ZA (ZB a0 a1).1.toNat).ZC (ZB a0 a1).2.toNat).ZJ.ZL 1)).1.ZQ).toNat).Zm 0)).1)) ?_
            simp [G]
            repeat with_reducible refine ZO ?_
            refine cD [] (Xf (nth a0.ZA (ZB a0 a1).1.toNat) a1 (Zr (Zj a0.Frame.Zq (Zn.mk (ZI (nth (nth (nth a0.ZA (ZB a0 a1).1.toNat).ZC (ZB a0 a1).2.toNat).ZJ.ZL 1)).1.ZQ a0.Frame.Now (-1) (nth a0.ZM (ZX a0.ZM (ZI (nth (nth (nth a0.ZA (ZB a0 a1).1.toNat).ZC (ZB a0 a1).2.toNat).ZJ.ZL 1)).1.ZQ).toNat).Zm 0)).1) (sg (Z3 (ZG.YA u0))) (by simp (maxDischargeDepth := 12) [Y1, ZN (m := 2322432) (by decide) u0]; try omega)) ?_
            simp [i1, ZD, G]
            repeat with_reducible refine ZO ?_
            refine jy (t := 18) (j := 7) (i := (ZB a0 a1).1.toNat) (size := 2) (rows := (a0.ZA.map ZE.row)) (ds := (YL (nth a0.ZA (ZB a0 a1).1.toNat) a1 (Zr (Zj a0.Frame.Zq (Zn.mk (ZI (nth (nth (nth a0.ZA (ZB a0 a1).1.toNat).ZC (ZB a0 a1).2.toNat).ZJ.ZL 1)).1.ZQ a0.Frame.Now (-1) (nth a0.ZM (ZX a0.ZM (ZI (nth (nth (nth a0.ZA (ZB a0 a1).1.toNat).ZC (ZB a0 a1).2.toNat).ZJ.ZL 1)).1.ZQ).toNat).Zm 0)).1)).1.row) (L := [(150, 1)]) ?_
            simp [Y4 (x := (YL (nth a0.ZA (ZB a0 a1).1.toNat) a1 (Zr (Zj a0.Frame.Zq (Zn.mk (ZI (nth (nth (nth a0.ZA (ZB a0 a1).1.toNat).ZC (ZB a0 a1).2.toNat).ZJ.ZL 1)).1.ZQ a0.Frame.Now (-1) (nth a0.ZM (ZX a0.ZM (ZI (nth (nth (nth a0.ZA (ZB a0 a1).1.toNat).ZC (ZB a0 a1).2.toNat).ZJ.ZL 1)).1.ZQ).toNat).Zm 0)).1)).1) rfl, i1, ZD, Z9, G]
            repeat with_reducible refine ZO ?_
            exact Xx [.cell 4 33, .tmp 5] f
 ·have sj := G
  simp [G]
  repeat with_reducible refine ZO ?_
  refine sGo ?_
  simp [G]
  repeat with_reducible refine ZO ?_
  refine cKo f ?_ ?_ <;> intro eU h8 f
  ·try (simp [G] at h8; done)
   all_goals
    simp [G]
    repeat with_reducible refine ZO ?_
    exact Xx [.cell 4 33, .tmp 5] f
  ·try (simp [G] at h8; done)
   all_goals
    have i12 : (ZB a0 a1).1.toNat < a0.ZA.length := by first | omega | (have fi := YG a0 a1 (by first | omega | (simp at *; omega)); omega) | (simp only [Bool.or_eq_false_iff, decide_eq_false_iff_not] at *; omega) | (have z := ZK G; (try simp only [] at z); omega) | (have z := ZK G.1; (try simp only [] at z); omega) | (have z := ZK G.2; (try simp only [] at z); omega) | (have z := ZK G.2.1; (try simp only [] at z); omega) | (have z := ZK G.2.2; (try simp only [] at z); omega) | (have z := ZK G.1.2; (try simp only [] at z); omega) | (have z := ZK G.2.2.2; (try simp only [] at z); omega) 
    have i13 : (ZB a0 a1).2.toNat < (nth a0.ZA (ZB a0 a1).1.toNat).ZC.length := by first | omega | (have fi := YG a0 a1 (by first | omega | (simp at *; omega)); omega) | (simp only [Bool.or_eq_false_iff, decide_eq_false_iff_not] at *; omega) | (have z := ZK G; (try simp only [] at z); omega) | (have z := ZK G.1; (try simp only [] at z); omega) | (have z := ZK G.2; (try simp only [] at z); omega) | (have z := ZK G.2.1; (try simp only [] at z); omega) | (have z := ZK G.2.2; (try simp only [] at z); omega) | (have z := ZK G.1.2; (try simp only [] at z); omega) | (have z := ZK G.2.2.2; (try simp only [] at z); omega) 
    have i14 : 1 < (nth (nth a0.ZA (ZB a0 a1).1.toNat).ZC (ZB a0 a1).2.toNat).ZJ.ZL.length := by first | omega | (have fi := YG a0 a1 (by first | omega | (simp at *; omega)); omega) | (simp only [Bool.or_eq_false_iff, decide_eq_false_iff_not] at *; omega) | (have z := ZK G; (try simp only [] at z); omega) | (have z := ZK G.1; (try simp only [] at z); omega) | (have z := ZK G.2; (try simp only [] at z); omega) | (have z := ZK G.2.1; (try simp only [] at z); omega) | (have z := ZK G.2.2; (try simp only [] at z); omega) | (have z := ZK G.1.2; (try simp only [] at z); omega) | (have z := ZK G.2.2.2; (try simp only [] at z); omega) 
    simp [i12, ZD, i13, i14, G]
    repeat with_reducible refine ZO ?_
    refine cR (xm (nth (nth (nth a0.ZA (ZB a0 a1).1.toNat).ZC (ZB a0 a1).2.toNat).ZJ.ZL 1)) ?_
    simp [G]
    repeat with_reducible refine ZO ?_
    refine cR (jI a0.ZM (ZI (nth (nth (nth a0.ZA (ZB a0 a1).1.toNat).ZC (ZB a0 a1).2.toNat).ZJ.ZL 1)).1.ZQ) ?_
    simp [G]
    repeat with_reducible refine ZO ?_
    refine cKo f ?_ ?_ <;> intro dU h9 f
    ·try (simp [G] at h9; done)
     all_goals
      simp [G]
      repeat with_reducible refine ZO ?_
      exact Xx [.cell 4 33, .tmp 5] f
    ·try (simp [G] at h9; done)
     all_goals
      simp [G]
      repeat with_reducible refine ZO ?_
      refine dIo mixed ?_
      have i15 : (ZX a0.ZM (ZI (nth (nth (nth a0.ZA (ZB a0 a1).1.toNat).ZC (ZB a0 a1).2.toNat).ZJ.ZL 1)).1.ZQ).toNat < a0.ZM.length := by have := JX a0.ZM (ZI (nth (nth (nth a0.ZA (ZB a0 a1).1.toNat).ZC (ZB a0 a1).2.toNat).ZJ.ZL 1)).1.ZQ; first | omega | (have fi := YG a0 a1 (by first | omega | (simp at *; omega)); omega) | (simp only [Bool.or_eq_false_iff, decide_eq_false_iff_not] at *; omega) | (have z := ZK G; (try simp only [] at z); omega) | (have z := ZK G.1; (try simp only [] at z); omega) | (have z := ZK G.2; (try simp only [] at z); omega) | (have z := ZK G.2.1; (try simp only [] at z); omega) | (have z := ZK G.2.2; (try simp only [] at z); omega) | (have z := ZK G.1.2; (try simp only [] at z); omega) | (have z := ZK G.2.2.2; (try simp only [] at z); omega) 
      simp [i15, ZD, G]
      repeat with_reducible refine ZO ?_
      refine cR (Qh a0.Frame.Zq (nth a0.ZM (ZX a0.ZM (ZI (nth (nth (nth a0.ZA (ZB a0 a1).1.toNat).ZC (ZB a0 a1).2.toNat).ZJ.ZL 1)).1.ZQ).toNat).Zm) ?_
      simp [G]
      repeat with_reducible refine ZO ?_
      refine dIo mixed ?_
      simp [i15, ZD, G]
      repeat with_reducible refine ZO ?_
      refine dIo mixed ?_
      have i16 : (ZX a0.ZM (ZI (nth (nth (nth a0.ZA (ZB a0 a1).1.toNat).ZC (ZB a0 a1).2.toNat).ZJ.ZL 1)).1.ZQ).toNat < a0.Zy.length := by have := JX a0.ZM (ZI (nth (nth (nth a0.ZA (ZB a0 a1).1.toNat).ZC (ZB a0 a1).2.toNat).ZJ.ZL 1)).1.ZQ; first | omega | (have fi := YG a0 a1 (by first | omega | (simp at *; omega)); omega) | (simp only [Bool.or_eq_false_iff, decide_eq_false_iff_not] at *; omega) | (have z := ZK G; (try simp only [] at z); omega) | (have z := ZK G.1; (try simp only [] at z); omega) | (have z := ZK G.2; (try simp only [] at z); omega) | (have z := ZK G.2.1; (try simp only [] at z); omega) | (have z := ZK G.2.2; (try simp only [] at z); omega) | (have z := ZK G.1.2; (try simp only [] at z); omega) | (have z := ZK G.2.2.2; (try simp only [] at z); omega) 
      simp [i16, ZD, G]
      repeat with_reducible refine ZO ?_
      refine cKo f ?_ ?_ <;> intro bK sH f
      ·try (simp [G] at sH; done)
       all_goals
        simp [i16, ZD, G]
        repeat with_reducible refine ZO ?_
        refine cR (Qp a0.Frame.Zq (Zn.mk (ZI (nth (nth (nth a0.ZA (ZB a0 a1).1.toNat).ZC (ZB a0 a1).2.toNat).ZJ.ZL 1)).1.ZQ a0.Frame.Now (nth a0.Zy (ZX a0.ZM (ZI (nth (nth (nth a0.ZA (ZB a0 a1).1.toNat).ZC (ZB a0 a1).2.toNat).ZJ.ZL 1)).1.ZQ).toNat) (nth a0.ZM (ZX a0.ZM (ZI (nth (nth (nth a0.ZA (ZB a0 a1).1.toNat).ZC (ZB a0 a1).2.toNat).ZJ.ZL 1)).1.ZQ).toNat).Zm 0) (sg (Zu.JK (ZG.Yp u0)))) ?_
        simp [G]
        repeat with_reducible refine ZO ?_
        refine dIo mixed ?_
        simp [G]
        repeat with_reducible refine ZO ?_
        refine gJo G ?_ ?_ <;> intro G
        ·have dV := G.2
         try (simp at G; done)
         all_goals
          have g4 := G.2; try simp at g4
          all_goals
           have i17 : (YT a0.Frame.Zq (nth a0.ZM (ZX a0.ZM (ZI (nth (nth (nth a0.ZA (ZB a0 a1).1.toNat).ZC (ZB a0 a1).2.toNat).ZJ.ZL 1)).1.ZQ).toNat).Zm).toNat < a0.Frame.Zq.length := by have := QI a0.Frame.Zq (nth a0.ZM (ZX a0.ZM (ZI (nth (nth (nth a0.ZA (ZB a0 a1).1.toNat).ZC (ZB a0 a1).2.toNat).ZJ.ZL 1)).1.ZQ).toNat).Zm; first | omega | (have fi := YG a0 a1 (by first | omega | (simp at *; omega)); omega) | (simp only [Bool.or_eq_false_iff, decide_eq_false_iff_not] at *; omega) | (have z := ZK G; (try simp only [] at z); omega) | (have z := ZK G.1; (try simp only [] at z); omega) | (have z := ZK G.2; (try simp only [] at z); omega) | (have z := ZK G.2.1; (try simp only [] at z); omega) | (have z := ZK G.2.2; (try simp only [] at z); omega) | (have z := ZK G.1.2; (try simp only [] at z); omega) | (have z := ZK G.2.2.2; (try simp only [] at z); omega) 
           simp [i17, ZD, G]
           repeat with_reducible refine ZO ?_
           refine cKo f ?_ ?_ <;> intro bL nc f
           ·try (simp [G] at nc; done)
            all_goals
             simp [G]
             repeat with_reducible refine ZO ?_
             exact Xx [.cell 4 33, .tmp 5] f
           ·try (simp [G] at nc; done)
            all_goals
             simp [G]
             repeat with_reducible refine ZO ?_
             refine dIo mixed ?_
             simp [i12, ZD, G]
             repeat with_reducible refine ZO ?_
             refine cR (YR.rd (XM (Zj a0.Frame.Zq (Zn.mk (ZI (nth (nth (nth a0.ZA (ZB a0 a1).1.toNat).ZC (ZB a0 a1).2.toNat).ZJ.ZL 1)).1.ZQ a0.Frame.Now (nth a0.Zy (ZX a0.ZM (ZI (nth (nth (nth a0.ZA (ZB a0 a1).1.toNat).ZC (ZB a0 a1).2.toNat).ZJ.ZL 1)).1.ZQ).toNat) (nth a0.ZM (ZX a0.ZM (ZI (nth (nth (nth a0.ZA (ZB a0 a1).1.toNat).ZC (ZB a0 a1).2.toNat).ZJ.ZL 1)).1.ZQ).toNat).Zm 0)).1)) ?_
             simp [G]
             repeat with_reducible refine ZO ?_
             refine cD [] (Xf (nth a0.ZA (ZB a0 a1).1.toNat) a1 (Zr (Zj a0.Frame.Zq (Zn.mk (ZI (nth (nth (nth a0.ZA (ZB a0 a1).1.toNat).ZC (ZB a0 a1).2.toNat).ZJ.ZL 1)).1.ZQ a0.Frame.Now (nth a0.Zy (ZX a0.ZM (ZI (nth (nth (nth a0.ZA (ZB a0 a1).1.toNat).ZC (ZB a0 a1).2.toNat).ZJ.ZL 1)).1.ZQ).toNat) (nth a0.ZM (ZX a0.ZM (ZI (nth (nth (nth a0.ZA (ZB a0 a1).1.toNat).ZC (ZB a0 a1).2.toNat).ZJ.ZL 1)).1.ZQ).toNat).Zm 0)).1) (sg (Z3 (ZG.YA u0))) (by simp (maxDischargeDepth := 12) [Y1, ZN (m := 2322432) (by decide) u0]; try omega)) ?_
             simp [i12, ZD, G]
             repeat with_reducible refine ZO ?_
             refine jy (t := 18) (j := 7) (i := (ZB a0 a1).1.toNat) (size := 2) (rows := (a0.ZA.map ZE.row)) (ds := (YL (nth a0.ZA (ZB a0 a1).1.toNat) a1 (Zr (Zj a0.Frame.Zq (Zn.mk (ZI (nth (nth (nth a0.ZA (ZB a0 a1).1.toNat).ZC (ZB a0 a1).2.toNat).ZJ.ZL 1)).1.ZQ a0.Frame.Now (nth a0.Zy (ZX a0.ZM (ZI (nth (nth (nth a0.ZA (ZB a0 a1).1.toNat).ZC (ZB a0 a1).2.toNat).ZJ.ZL 1)).1.ZQ).toNat) (nth a0.ZM (ZX a0.ZM (ZI (nth (nth (nth a0.ZA (ZB a0 a1).1.toNat).ZC (ZB a0 a1).2.toNat).ZJ.ZL 1)).1.ZQ).toNat).Zm 0)).1)).1.row) (L := [(150, 1)]) ?_
             simp [Y4 (x := (YL (nth a0.ZA (ZB a0 a1).1.toNat) a1 (Zr (Zj a0.Frame.Zq (Zn.mk (ZI (nth (nth (nth a0.ZA (ZB a0 a1).1.toNat).ZC (ZB a0 a1).2.toNat).ZJ.ZL 1)).1.ZQ a0.Frame.Now (nth a0.Zy (ZX a0.ZM (ZI (nth (nth (nth a0.ZA (ZB a0 a1).1.toNat).ZC (ZB a0 a1).2.toNat).ZJ.ZL 1)).1.ZQ).toNat) (nth a0.ZM (ZX a0.ZM (ZI (nth (nth (nth a0.ZA (ZB a0 a1).1.toNat).ZC (ZB a0 a1).2.toNat).ZJ.ZL 1)).1.ZQ).toNat).Zm 0)).1)).1) rfl, i12, ZD, Z9, G]
             repeat with_reducible refine ZO ?_
             exact Xx [.cell 4 33, .tmp 5] f
        ·have dV := G.2
         try (simp at G; done)
         all_goals
          simp [G]
          repeat with_reducible refine ZO ?_
          refine cKo f ?_ ?_ <;> intro bM mw f
          ·try (simp [G] at mw; done)
           all_goals
            simp [G]
            repeat with_reducible refine ZO ?_
            exact Xx [.cell 4 33, .tmp 5] f
          ·try (simp [G] at mw; done)
           all_goals
            simp [G]
            repeat with_reducible refine ZO ?_
            refine dIo mixed ?_
            simp [i12, ZD, G]
            repeat with_reducible refine ZO ?_
            refine cR (YR.rd (XM (Zj a0.Frame.Zq (Zn.mk (ZI (nth (nth (nth a0.ZA (ZB a0 a1).1.toNat).ZC (ZB a0 a1).2.toNat).ZJ.ZL 1)).1.ZQ a0.Frame.Now (nth a0.Zy (ZX a0.ZM (ZI (nth (nth (nth a0.ZA (ZB a0 a1).1.toNat).ZC (ZB a0 a1).2.toNat).ZJ.ZL 1)).1.ZQ).toNat) (nth a0.ZM (ZX a0.ZM (ZI (nth (nth (nth a0.ZA (ZB a0 a1).1.toNat).ZC (ZB a0 a1).2.toNat).ZJ.ZL 1)).1.ZQ).toNat).Zm 0)).1)) ?_
            simp [G]
            repeat with_reducible refine ZO ?_
            refine cD [] (Xf (nth a0.ZA (ZB a0 a1).1.toNat) a1 (Zr (Zj a0.Frame.Zq (Zn.mk (ZI (nth (nth (nth a0.ZA (ZB a0 a1).1.toNat).ZC (ZB a0 a1).2.toNat).ZJ.ZL 1)).1.ZQ a0.Frame.Now (nth a0.Zy (ZX a0.ZM (ZI (nth (nth (nth a0.ZA (ZB a0 a1).1.toNat).ZC (ZB a0 a1).2.toNat).ZJ.ZL 1)).1.ZQ).toNat) (nth a0.ZM (ZX a0.ZM (ZI (nth (nth (nth a0.ZA (ZB a0 a1).1.toNat).ZC (ZB a0 a1).2.toNat).ZJ.ZL 1)).1.ZQ).toNat).Zm 0)).1) (sg (Z3 (ZG.YA u0))) (by simp (maxDischargeDepth := 12) [Y1, ZN (m := 2322432) (by decide) u0]; try omega)) ?_
            simp [i12, ZD, G]
            repeat with_reducible refine ZO ?_
            refine jy (t := 18) (j := 7) (i := (ZB a0 a1).1.toNat) (size := 2) (rows := (a0.ZA.map ZE.row)) (ds := (YL (nth a0.ZA (ZB a0 a1).1.toNat) a1 (Zr (Zj a0.Frame.Zq (Zn.mk (ZI (nth (nth (nth a0.ZA (ZB a0 a1).1.toNat).ZC (ZB a0 a1).2.toNat).ZJ.ZL 1)).1.ZQ a0.Frame.Now (nth a0.Zy (ZX a0.ZM (ZI (nth (nth (nth a0.ZA (ZB a0 a1).1.toNat).ZC (ZB a0 a1).2.toNat).ZJ.ZL 1)).1.ZQ).toNat) (nth a0.ZM (ZX a0.ZM (ZI (nth (nth (nth a0.ZA (ZB a0 a1).1.toNat).ZC (ZB a0 a1).2.toNat).ZJ.ZL 1)).1.ZQ).toNat).Zm 0)).1)).1.row) (L := [(150, 1)]) ?_
            simp [Y4 (x := (YL (nth a0.ZA (ZB a0 a1).1.toNat) a1 (Zr (Zj a0.Frame.Zq (Zn.mk (ZI (nth (nth (nth a0.ZA (ZB a0 a1).1.toNat).ZC (ZB a0 a1).2.toNat).ZJ.ZL 1)).1.ZQ a0.Frame.Now (nth a0.Zy (ZX a0.ZM (ZI (nth (nth (nth a0.ZA (ZB a0 a1).1.toNat).ZC (ZB a0 a1).2.toNat).ZJ.ZL 1)).1.ZQ).toNat) (nth a0.ZM (ZX a0.ZM (ZI (nth (nth (nth a0.ZA (ZB a0 a1).1.toNat).ZC (ZB a0 a1).2.toNat).ZJ.ZL 1)).1.ZQ).toNat).Zm 0)).1)).1) rfl, i12, ZD, Z9, G]
            repeat with_reducible refine ZO ?_
            exact Xx [.cell 4 33, .tmp 5] f
      ·try (simp [G] at sH; done)
       all_goals
        simp [G]
        repeat with_reducible refine ZO ?_
        refine cR (Qp a0.Frame.Zq (Zn.mk (ZI (nth (nth (nth a0.ZA (ZB a0 a1).1.toNat).ZC (ZB a0 a1).2.toNat).ZJ.ZL 1)).1.ZQ a0.Frame.Now (-1) (nth a0.ZM (ZX a0.ZM (ZI (nth (nth (nth a0.ZA (ZB a0 a1).1.toNat).ZC (ZB a0 a1).2.toNat).ZJ.ZL 1)).1.ZQ).toNat).Zm 0) (sg (Zu.JK (ZG.Yp u0)))) ?_
        simp [G]
        repeat with_reducible refine ZO ?_
        refine dIo mixed ?_
        simp [G]
        repeat with_reducible refine ZO ?_
        refine gJo G ?_ ?_ <;> intro G
        ·have dW := G.2
         try (simp at G; done)
         all_goals
          have g5 := G.2; try simp at g5
          all_goals
           have i19 : (YT a0.Frame.Zq (nth a0.ZM (ZX a0.ZM (ZI (nth (nth (nth a0.ZA (ZB a0 a1).1.toNat).ZC (ZB a0 a1).2.toNat).ZJ.ZL 1)).1.ZQ).toNat).Zm).toNat < a0.Frame.Zq.length := by have := QI a0.Frame.Zq (nth a0.ZM (ZX a0.ZM (ZI (nth (nth (nth a0.ZA (ZB a0 a1).1.toNat).ZC (ZB a0 a1).2.toNat).ZJ.ZL 1)).1.ZQ).toNat).Zm; first | omega | (have fi := YG a0 a1 (by first | omega | (simp at *; omega)); omega) | (simp only [Bool.or_eq_false_iff, decide_eq_false_iff_not] at *; omega) | (have z := ZK G; (try simp only [] at z); omega) | (have z := ZK G.1; (try simp only [] at z); omega) | (have z := ZK G.2; (try simp only [] at z); omega) | (have z := ZK G.2.1; (try simp only [] at z); omega) | (have z := ZK G.2.2; (try simp only [] at z); omega) | (have z := ZK G.1.2; (try simp only [] at z); omega) | (have z := ZK G.2.2.2; (try simp only [] at z); omega) 
           simp [i19, ZD, G]
           repeat with_reducible refine ZO ?_
           refine cKo f ?_ ?_ <;> intro bN iV f
           ·try (simp [G] at iV; done)
            all_goals
             simp [G]
             repeat with_reducible refine ZO ?_
             exact Xx [.cell 4 33, .tmp 5] f
           ·try (simp [G] at iV; done)
            all_goals
             simp [G]
             repeat with_reducible refine ZO ?_
             refine dIo mixed ?_
             simp [i12, ZD, G]
             repeat with_reducible refine ZO ?_
             refine cR (YR.rd (XM (Zj a0.Frame.Zq (Zn.mk (ZI (nth (nth (nth a0.ZA (ZB a0 a1).1.toNat).ZC (ZB a0 a1).2.toNat).ZJ.ZL 1)).1.ZQ a0.Frame.Now (-1) (nth a0.ZM (ZX a0.ZM (ZI (nth (nth (nth a0.ZA (ZB a0 a1).1.toNat).ZC (ZB a0 a1).2.toNat).ZJ.ZL 1)).1.ZQ).toNat).Zm 0)).1)) ?_
             simp [G]
             repeat with_reducible refine ZO ?_
             refine cD [] (Xf (nth a0.ZA (ZB a0 a1).1.toNat) a1 (Zr (Zj a0.Frame.Zq (Zn.mk (ZI (nth (nth (nth a0.ZA (ZB a0 a1).1.toNat).ZC (ZB a0 a1).2.toNat).ZJ.ZL 1)).1.ZQ a0.Frame.Now (-1) (nth a0.ZM (ZX a0.ZM (ZI (nth (nth (nth a0.ZA (ZB a0 a1).1.toNat).ZC (ZB a0 a1).2.toNat).ZJ.ZL 1)).1.ZQ).toNat).Zm 0)).1) (sg (Z3 (ZG.YA u0))) (by simp (maxDischargeDepth := 12) [Y1, ZN (m := 2322432) (by decide) u0]; try omega)) ?_
             simp [i12, ZD, G]
             repeat with_reducible refine ZO ?_
             refine jy (t := 18) (j := 7) (i := (ZB a0 a1).1.toNat) (size := 2) (rows := (a0.ZA.map ZE.row)) (ds := (YL (nth a0.ZA (ZB a0 a1).1.toNat) a1 (Zr (Zj a0.Frame.Zq (Zn.mk (ZI (nth (nth (nth a0.ZA (ZB a0 a1).1.toNat).ZC (ZB a0 a1).2.toNat).ZJ.ZL 1)).1.ZQ a0.Frame.Now (-1) (nth a0.ZM (ZX a0.ZM (ZI (nth (nth (nth a0.ZA (ZB a0 a1).1.toNat).ZC (ZB a0 a1).2.toNat).ZJ.ZL 1)).1.ZQ).toNat).Zm 0)).1)).1.row) (L := [(150, 1)]) ?_
             simp [Y4 (x := (YL (nth a0.ZA (ZB a0 a1).1.toNat) a1 (Zr (Zj a0.Frame.Zq (Zn.mk (ZI (nth (nth (nth a0.ZA (ZB a0 a1).1.toNat).ZC (ZB a0 a1).2.toNat).ZJ.ZL 1)).1.ZQ a0.Frame.Now (-1) (nth a0.ZM (ZX a0.ZM (ZI (nth (nth (nth a0.ZA (ZB a0 a1).1.toNat).ZC (ZB a0 a1).2.toNat).ZJ.ZL 1)).1.ZQ).toNat).Zm 0)).1)).1) rfl, i12, ZD, Z9, G]
             repeat with_reducible refine ZO ?_
             exact Xx [.cell 4 33, .tmp 5] f
        ·have dW := G.2
         try (simp at G; done)
         all_goals
          simp [G]
          repeat with_reducible refine ZO ?_
          refine cKo f ?_ ?_ <;> intro bO gL f
          ·try (simp [G] at gL; done)
           all_goals
            simp [G]
            repeat with_reducible refine ZO ?_
            exact Xx [.cell 4 33, .tmp 5] f
          ·try (simp [G] at gL; done)
           all_goals
            simp [G]
            repeat with_reducible refine ZO ?_
            refine dIo mixed ?_
            simp [i12, ZD, G]
            repeat with_reducible refine ZO ?_
            refine cR (YR.rd (XM (Zj a0.Frame.Zq (Zn.mk (ZI (nth (nth (nth a0.ZA (ZB a0 a1).1.toNat).ZC (ZB a0 a1).2.toNat).ZJ.ZL 1)).1.ZQ a0.Frame.Now (-1) (nth a0.ZM (ZX a0.ZM (ZI (nth (nth (nth a0.ZA (ZB a0 a1).1.toNat).ZC (ZB a0 a1).2.toNat).ZJ.ZL 1)).1.ZQ).toNat).Zm 0)).1)) ?_
            simp [G]
            repeat with_reducible refine ZO ?_
            refine cD [] (Xf (nth a0.ZA (ZB a0 a1).1.toNat) a1 (Zr (Zj a0.Frame.Zq (Zn.mk (ZI (nth (nth (nth a0.ZA (ZB a0 a1).1.toNat).ZC (ZB a0 a1).2.toNat).ZJ.ZL 1)).1.ZQ a0.Frame.Now (-1) (nth a0.ZM (ZX a0.ZM (ZI (nth (nth (nth a0.ZA (ZB a0 a1).1.toNat).ZC (ZB a0 a1).2.toNat).ZJ.ZL 1)).1.ZQ).toNat).Zm 0)).1) (sg (Z3 (ZG.YA u0))) (by simp (maxDischargeDepth := 12) [Y1, ZN (m := 2322432) (by decide) u0]; try omega)) ?_
            simp [i12, ZD, G]
            repeat with_reducible refine ZO ?_
            refine jy (t := 18) (j := 7) (i := (ZB a0 a1).1.toNat) (size := 2) (rows := (a0.ZA.map ZE.row)) (ds := (YL (nth a0.ZA (ZB a0 a1).1.toNat) a1 (Zr (Zj a0.Frame.Zq (Zn.mk (ZI (nth (nth (nth a0.ZA (ZB a0 a1).1.toNat).ZC (ZB a0 a1).2.toNat).ZJ.ZL 1)).1.ZQ a0.Frame.Now (-1) (nth a0.ZM (ZX a0.ZM (ZI (nth (nth (nth a0.ZA (ZB a0 a1).1.toNat).ZC (ZB a0 a1).2.toNat).ZJ.ZL 1)).1.ZQ).toNat).Zm 0)).1)).1.row) (L := [(150, 1)]) ?_
            simp [Y4 (x := (YL (nth a0.ZA (ZB a0 a1).1.toNat) a1 (Zr (Zj a0.Frame.Zq (Zn.mk (ZI (nth (nth (nth a0.ZA (ZB a0 a1).1.toNat).ZC (ZB a0 a1).2.toNat).ZJ.ZL 1)).1.ZQ a0.Frame.Now (-1) (nth a0.ZM (ZX a0.ZM (ZI (nth (nth (nth a0.ZA (ZB a0 a1).1.toNat).ZC (ZB a0 a1).2.toNat).ZJ.ZL 1)).1.ZQ).toNat).Zm 0)).1)).1) rfl, i12, ZD, Z9, G]
            repeat with_reducible refine ZO ?_
            exact Xx [.cell 4 33, .tmp 5] f
theorem O9 (a0 : ZG) (a1 : Int) (u0 : Sm 2318336 a0) : Sd 104 [a0.row, rI a1] [(yl a0 a1).1.row, rB (yl a0 a1).2] := by
 have f := me (yl.eq_1 a0 a1)
 refine soD func104 ntmps104 ?_
 refine cDs [false, false, false, true, true, false, false, true, false, false, true, false] (Xt a0 (sg u0)) ?_
 refine cRs (Yj a1 0 (W ((a0.Zy.length : Int) - 1))) ?_
 refine gIf ?_ ?_ <;> intro G
 ·have c1 := sl 2318336 a0.Zy u0
  have w1 : IntKind.i64.wrap ((a0.Zy.length : Int) - 1) = (a0.Zy.length : Int) - 1 := Yg (by omega) (by omega)
  have g1 := G; try simp [YJ, w1] at g1
  have i1 := ik a1.toNat a0.Zy
  simp [i1, ZD, G]
  refine rpG ?_
  refine cKo f ?_ ?_ <;> intro k1 h1 f
  ·try (simp [G] at h1; done)
   all_goals
    have q1 := h1; try simp [YJ, w1] at q1
    simp [G]
    refine rpG ?_
    exact Xx [.cell 4 33, .tmp 5] f
  ·try (simp [G] at h1; done)
   all_goals
    have q1 := h1; try simp [YJ, w1] at q1
    simp [i1, ZD, Y4 (x := (W (a0.Frame.Now + 1))) rfl, G]
    refine rpG ?_
    refine Pn (rv := [.cell 4 33, .tmp 5]) rfl ?_
    simp [f.h, G]
    all_goals (repeat' (first | exact V3 (by simp) (by simp) | refine And.intro ?_ ?_))
 ·have c2 := sl 2318336 a0.Zy u0
  have w2 : IntKind.i64.wrap ((a0.Zy.length : Int) - 1) = (a0.Zy.length : Int) - 1 := Yg (by omega) (by omega)
  refine cKo f ?_ ?_ <;> intro k2 h2 f
  ·try (simp [G] at h2; done)
   all_goals
    have q2 := h2; try simp [YJ, w2] at q2
    simp [G]
    refine rpG ?_
    exact Xx [.cell 4 33, .tmp 5] f
  ·try (simp [G] at h2; done)
   all_goals
    have q2 := h2; try simp [YJ, w2] at q2
    have i3 := ik a1.toNat a0.Zy
    simp [i3, ZD, Y4 (x := (W (a0.Frame.Now + 1))) rfl, G]
    refine rpG ?_
    refine Pn (rv := [.cell 4 33, .tmp 5]) rfl ?_
    simp [f.h, G]
    all_goals (repeat' (first | exact V3 (by simp) (by simp) | refine And.intro ?_ ?_))
theorem K5 (a0 : List Zw) (a1 : Int) : Sa 193 [rL 3 Zw.row a0, rI a1] [rI (Zk a0 a1)] := by
 have f := me (Zk.eq_1 a0 a1)
 refine so func193 ntmps193 ?_
 refine lp1 (ze.eq_2 a0 a1) (fun J => Yn 20 [eL 0 3 a0 Zw.row, eI 1 a1, eI 5 (J : Int)]) (fun n1 J => a0.length < n1 + J /\ J <= a0.length) (a0.length + 1) 0 (fun p1 J e1 j1 => ?_)
 refine cFf e1 ?_ ?_ <;> intro k2 h1 e1
 ·have i1 := ix h1
  have m2 := ml a0 (k2 0 _ rfl)
  have w1 := wr J
  simp [i1, ZD]
  refine rpS ?_
  refine cF e1 ?_ ?_ <;> intro k3 h2 e1
  ·have f := ms f e1
   exact rt [.tmp 4] f
  exact ny1 w1 e1
 have f := ms f e1
 exact rt [.tmp 4] f
theorem FW (a0 : ZG) (a1 : List Int) : Sa 192 [a0.row, rL 1 iR a1] [rB (U4 a0 a1)] := by
 have f := me (U4.eq_1 a0 a1)
 refine so func192 ntmps192 ?_
 refine lp1 (qm.eq_2 a0 a1) (fun J => Yn 76 [eL 1 1 a1 iR, eX 2 (a0.row.map .d), eI 5 (J : Int)]) (fun n1 J => a1.length < n1 + J /\ J <= a1.length) (a1.length + 1) 0 (fun p1 J e1 j1 => ?_)
 refine cF e1 ?_ ?_ <;> intro k2 h1 e1
 ·have i1 := ix h1
  have m2 := ml a1 (k2 1 _ rfl)
  have w1 := wr J
  refine dIo mixed ?_
  simp [i1, ZD]
  refine rpS ?_
  refine cRs (K5 a0.Frame.ZF (nth a1 J)) ?_
  refine dIs mixed ?_
  refine gIf ?_ ?_ <;> intro G
  ·have i2 := ik (J - 1) a1
   have w2 : IntKind.i64.wrap ((J : Int) - 1) = (J : Int) - 1 := Yg (by omega) (by omega)
   simp [i2, ZD, w2, KY, G]
   refine rpG ?_
   refine gK (fun _ => ?_)
   simp [i1, ZD, G]
   refine rpG ?_
   refine cK e1 ?_ ?_ <;> intro k5 h2 e1
   ·have f := ms f e1
    exact rtg [.tmp 4] f
   ·refine dIo mixed ?_
    have i3 : (Zk a0.Frame.ZF (nth a1 J)).toNat < a0.Frame.ZF.length := by have := QQ a0.Frame.ZF (nth a1 J); exact il
    simp [i3, ZD, G]
    refine rpG ?_
    refine cRg (Qh a0.Frame.Zq (nth a0.Frame.ZF (Zk a0.Frame.ZF (nth a1 J)).toNat).Key) ?_
    refine dIg mixed ?_
    refine gJf G ?_ ?_ <;> intro G
    ·try (simp at G; done)
     all_goals
      have i4 : (YT a0.Frame.Zq (nth a0.Frame.ZF (Zk a0.Frame.ZF (nth a1 J)).toNat).Key).toNat < a0.Frame.Zq.length := by have := QI a0.Frame.Zq (nth a0.Frame.ZF (Zk a0.Frame.ZF (nth a1 J)).toNat).Key; exact il
      simp [i4, ZD, G]
      refine rpG ?_
      refine cK e1 ?_ ?_ <;> intro k8 h3 e1
      ·have f := ms f e1
       exact rtg [.tmp 4] f
      ·exact ny1 (an w1 (an w2 G)) e1
    ·try (simp at G; done)
     all_goals
      refine cK e1 ?_ ?_ <;> intro k9 h4 e1
      ·have f := ms f e1
       exact rtg [.tmp 4] f
      ·simp [G] at h4
  ·refine sGg ?_
   refine cK e1 ?_ ?_ <;> intro ox h5 e1
   ·have f := ms f e1
    exact rtg [.tmp 4] f
   ·refine dIo mixed ?_
    have i7 : (Zk a0.Frame.ZF (nth a1 J)).toNat < a0.Frame.ZF.length := by have := QQ a0.Frame.ZF (nth a1 J); exact il
    simp [i7, ZD, G]
    refine rpG ?_
    refine cRg (Qh a0.Frame.Zq (nth a0.Frame.ZF (Zk a0.Frame.ZF (nth a1 J)).toNat).Key) ?_
    refine dIg mixed ?_
    refine gJf G ?_ ?_ <;> intro G
    ·try (simp at G; done)
     all_goals
      have i8 : (YT a0.Frame.Zq (nth a0.Frame.ZF (Zk a0.Frame.ZF (nth a1 J)).toNat).Key).toNat < a0.Frame.Zq.length := by have := QI a0.Frame.Zq (nth a0.Frame.ZF (Zk a0.Frame.ZF (nth a1 J)).toNat).Key; exact il
      simp [i8, ZD, G]
      refine rpG ?_
      refine cK e1 ?_ ?_ <;> intro nf h6 e1
      ·have f := ms f e1
       exact rtg [.tmp 4] f
      ·exact ny1 (an w1 G) e1
    ·try (simp at G; done)
     all_goals
      refine cK e1 ?_ ?_ <;> intro fD h7 e1
      ·have f := ms f e1
       exact rtg [.tmp 4] f
      ·simp [G] at h7
 have f := ms f e1
 exact rt [.tmp 4] f
theorem O0 (a0 : Zi) (a1 : ZU) (u0 : Sm 2318336 a0) (u1 : Sm 2318336 a1) : Sd 210 [a0.row, a1.row] [rL 1 iR (ya a0 a1)] := by
 have f := me (ya.eq_1 a0 a1)
 refine soD func210 ntmps210 ?_
 refine lp2 (zw.eq_2 a0 a1) (fun J U => Yn 27 [eX 2 (a0.row.map .d), eX 3 (a1.row.map .d), (5, .one (.sref 5 0 0 J.length), [.arr false 1 (J.map iR)]), eI 6 (U : Int)]) (fun n1 J U => a0.Zl.length < n1 + U /\ U <= a0.Zl.length /\ J.length <= 0 + 1 * U) (a0.Zl.length + 1) ([] : List Int) 0 (fun p1 J U e1 j1 => ?_) (h0 := wkS [((5, 0), some (7, 0))] [])
 refine cF e1 ?_ ?_ <;> intro k2 h1 e1
 ·have i1 := ix h1
  have m2 := ml a0.Zl (k2 10 _ rfl)
  have c1 := sl 2318336 a0.Zl (an u0 u1)
  have w1 := wr U
  refine dIo mixed ?_
  simp [i1, ZD]
  refine rpS ?_
  refine cRs (ko (nth a0.Zl U).Method a1 (sg u1)) ?_
  exact nx2 e1 (hw := XA [((5, 0), some (25, 0))] [] rfl (by simp [w1]))
 have c2 := sl 2318336 a0.Zl (an u0 u1)
 have f := ms f e1
 exact rtD [.tmp 4] f
theorem U2 (a0 : Zp) : Sd 274 [a0.row] [rL 1 iR (Kv a0)] := by
 have f := me (Kv.eq_1 a0)
 refine soD func274 ntmps274 ?_
 exact rtD [.tmp 2] f
theorem kd (a0 : Int) (a1 : Zb) (u0 : Sm 2326528 a1) : Sa 284 [rI a0, a1.row] [rI (zJ a0 a1)] := by
 have f := me (zJ.eq_1 a0 a1)
 refine so func284 ntmps284 ?_
 refine lp2 (zi.eq_2 a1) (fun J U => Yn 75 [eI 0 a0, eX 3 (a1.row.map .d), (5, .one (.sref 5 0 0 J.length), [.arr false 1 (J.map iR)]), eI 6 (U : Int)]) (fun n1 J U => a1.Path.length < n1 + U /\ U <= a1.Path.length /\ J.length <= 4 + 2 * U) (a1.Path.length + 1) ([4, a1.Count, a1.Method, a1.FI] : List Int) 0 (fun p1 J U e1 j1 => ?_) (h0 := wkS [((5, 0), some (14, 0))] [])
 refine cFo e1 ?_ ?_ <;> intro k2 h1 e1
 ·have q1 := h1; try simp at q1
  have i1 := ix h1
  have m2 := ml a1.Path (k2 17 _ rfl)
  have c1 := sl 2326528 a1.Path u0
  have w1 := wr U
  simp [i1, ZD]
  refine rpS ?_
  refine cFo e1 ?_ ?_ <;> intro k3 h2 e1
  ·have q2 := h2; try simp at q2
   simp
   refine rpS ?_
   exact nx2 e1 (hw := XA [((5, 0), some (39, 0))] [] rfl (by simp [w1]))
  have q2 := h2; try simp at q2
  simp
  refine rpS ?_
  exact nx2 e1 (hw := XA [((5, 0), some (42, 0))] [] rfl (by simp [w1]))
 have q1 := h1; try simp at q1
 have c2 := sl 2326528 a1.Path u0
 have f := ms f e1
 simp
 refine rpS ?_
 refine lp2 (xo.eq_2 a1) (fun uI uS => Yn 75 [eI 0 a0, eX 3 (a1.row.map .d), (5, .one (.sref 5 0 0 uI.length), [.arr false 1 (uI.map iR)]), eI 7 (uS : Int)]) (fun n2 uI uS => a1.Xh.length < n2 + uS /\ uS <= a1.Xh.length /\ uI.length <= 5 + 2 * 2326528 + 6 * uS) (a1.Xh.length + 1) (J ++ ([(a1.Xh.length : Int)] : List Int)) 0 (fun p2 uI uS e2 j2 => ?_) (hI := by (have o : a1.Path.length <= 2326528 := Yk (xs u0); simp at *; omega)) (h0 := wkS [((5, 0), some (48, 0))] [])
 try dsimp only at j2
 refine cFo e2 ?_ ?_ <;> intro k5 h3 e2
 ·have q3 := h3; try simp at q3
  have i2 := ix h3
  have m4 := ml a1.Xh (k5 51 _ rfl)
  have c3 := sl 2326528 a1.Xh u0
  have w2 := wr uS
  simp
  refine dIo mixed ?_
  simp [i2, ZD]
  refine rpS ?_
  refine cRf i2 (YR.rd (U2 (nth a1.Xh uS))) ?_
  exact nx2 e2 (hI := by (simp; omega)) (hw := XA [((5, 0), some (71, 0))] [] rfl (by simp [w2]))
 have q3 := h3; try simp at q3
 have c4 := sl 2326528 a1.Xh u0
 have f := ms f e2
 simp
 refine cRs (Jf a0 uI (by first | (simp (maxDischargeDepth := 12) [Yx]; omega) | (simp (maxDischargeDepth := 12) [ZN (m := 68719476736) (by decide) u0]; done))) ?_
 exact rt [.tmp 4] f
theorem Wp (a0 : Int) (a1 : List Ze) (u0 : Sm 2326528 a1) : Sa 329 [rI a0, rL 3 Ze.row a1] [rI (Kl a0 a1)] := by
 have f := me (Kl.eq_1 a0 a1)
 refine so func329 ntmps329 ?_
 refine lp2 (qg.eq_2 a0 a1) (fun J U => Yn 39 [eI 0 a0, eL 1 3 a1 Ze.row, (5, .one (.sref 5 0 0 J.length), [.arr false 1 (J.map iR)]), eI 6 (U : Int)]) (fun n1 J U => a1.length < n1 + U /\ U <= a1.length /\ J.length <= 1 + 1 * U) (a1.length + 1) ([2] : List Int) 0 (fun p1 J U e1 j1 => ?_) (h0 := wkS [((5, 0), some (7, 0))] [])
 refine cF e1 ?_ ?_ <;> intro k2 h1 e1
 ·have i1 := ix h1
  have m2 := ml a1 (k2 1 _ rfl)
  have c1 := sl 2326528 a1 u0
  have w1 := wr U
  refine MD [2, 3, 4, 5, 6, 7, 8, 9, 10, 11, 12, 13, 14, 15, 16, 17, 18, 0, 1, 19, 20, 21, 22] mixed (by kernel_rfl) (by kernel_rfl) (by kernel_rfl) ?_
  have c2 := sl 2326528 (nth a1 U).XC u0
  simp [i1, ZD]
  refine rpS ?_
  refine cRs (Jf a0 (([(nth a1 U).Key, (nth a1 U).Mark] : List Int) ++ (nth a1 U).XC) (by simp (maxDischargeDepth := 12) [Jl, Yx, ZN (m := 68719476736) (by decide) u0]; try omega)) ?_
  exact nx2 e1 (hw := XA [((5, 0), some (35, 0))] [] rfl (by simp [w1]))
 have c3 := sl 2326528 a1 u0
 have f := ms f e1
 refine cRs (Jf a0 J (by first | (simp (maxDischargeDepth := 12) [Yx]; omega) | (simp (maxDischargeDepth := 12) [ZN (m := 68719476736) (by decide) u0]; done))) ?_
 exact rt [.tmp 4] f
theorem OY (a0 : Int) (a1 : Int) (a2 : List Ze) (a3 : Int) (u0 : Sm 2322432 a2) : Sa 285 [rI a0, rI a1, rL 3 Ze.row a2, rI a3] [rI (Ra a0 a1 a2 a3)] := by
 have f := me (Ra.eq_1 a0 a1 a2 a3)
 refine so func285 ntmps285 ?_
 refine cRs (Wp a0 a2 (sg u0)) ?_
 refine cRs (Jf a0 ([3, a1, (Kl a0 a2), a3] : List Int) (by simp (maxDischargeDepth := 12) [Jl, Yx, ZN (m := 68719476736) (by decide) u0]; try omega)) ?_
 exact rt [.tmp 8] f
theorem X5 {a b : Prop} (h : b) (k : a := by (intros; first | omega | with_unfolding_all (first | first | omega | (have cc : a0.Zl.length <= 2318336 := Yk (xs u0); have z0 := sj; simp at z0; have z := kK (by omega) z0.1; have z2 := z0.2; (try have w3 : IntKind.i64.wrap (a2 - 1) = a2 - 1 := Yg (by omega) (by omega)); (try have w4 : W (a2 - 1) = a2 - 1 := w3); first | omega | (refine ⟨⟨z0.1, by omega⟩, by omega, by omega⟩) | (simp_all; omega))) | (simp_all; done) | (simp_all; omega) | grind | ((try simp only [XL, show ∀ x, IntKind.i64.wrap x = W x from fun _ => rfl] at *); omega))) : a /\ b := ⟨k, h⟩
theorem FK (a0 : Zi) (a1 : List Int) (a2 : Int) (u0 : Sm 2318336 a0) (u1 : Sm 2318336 a1) : Sa 209 [a0.row, rL 1 iR a1, rI a2] [rI (LO a0 a1 a2)] := by
 have f := me (LO.eq_1 a0 a1 a2)
 refine so func209 ntmps209 ?_
 refine dIs mixed ?_
 refine cRs (Yj a2 0 (W ((a0.Zl.length : Int) - 1))) ?_
 refine gIo ?_ ?_ <;> intro G
 ·have sj := G
  have c1 := sl 2318336 a0.Zl (an u0 u1)
  have w1 : IntKind.i64.wrap ((a0.Zl.length : Int) - 1) = (a0.Zl.length : Int) - 1 := Yg (by omega) (by omega)
  have g1 := G; try simp [YJ, w1] at g1
  have i1 : a2.toNat < a0.Zl.length := by (have cc : a0.Zl.length <= 2318336 := Yk (xs u0); have z0 := sj; simp at z0; have z := kK (by omega) z0.1; have z2 := z0.2; (try have w3 : IntKind.i64.wrap (a2 - 1) = a2 - 1 := Yg (by omega) (by omega)); (try have w4 : W (a2 - 1) = a2 - 1 := w3); omega)
  simp [i1, ZD, G]
  repeat with_reducible refine X5 ?_
  refine cGo (fun gg => (Yj (nth a0.Zl a2.toNat).Count 0 (a0.ZL.length : Int))) ?_
  simp [G]
  repeat with_reducible refine X5 ?_
  refine cKo f ?_ ?_ <;> intro k2 h1 f
  ·have q1 := h1; try simp [YJ, w1] at q1
   simp [G]
   repeat with_reducible refine X5 ?_
   exact rtg [.tmp 6] f
  ·have q1 := h1; try simp [YJ, w1] at q1
   simp [i1, ZD, G]
   repeat with_reducible refine X5 ?_
   refine cKo f ?_ ?_ <;> intro k3 h2 f
   ·have q2 := h2; try simp at q2
    have i2 : (W (a2 - 1)).toNat < a0.Zl.length := by (have cc : a0.Zl.length <= 2318336 := Yk (xs u0); have z0 := sj; simp at z0; have z := kK (by omega) z0.1; have z2 := z0.2; (try have w3 : IntKind.i64.wrap (a2 - 1) = a2 - 1 := Yg (by omega) (by omega)); (try have w4 : W (a2 - 1) = a2 - 1 := w3); omega)
    simp [i2, ZD, G]
    repeat with_reducible refine X5 ?_
    refine cR (kd (nth a0.Zl a2.toNat).Method (nth a0.Zl (W (a2 - 1)).toNat) (sg (Z3 (Zi.kP u0)))) ?_ (uV := by first | (simp; done) | (simp [W, w1]; done))
    simp [G]
    repeat with_reducible refine X5 ?_
    refine dIo mixed ?_
    have i3 : a2.toNat < a1.length := by (have cc : a0.Zl.length <= 2318336 := Yk (xs u0); have z0 := sj; simp at z0; have z := kK (by omega) z0.1; have z2 := z0.2; (try have w3 : IntKind.i64.wrap (a2 - 1) = a2 - 1 := Yg (by omega) (by omega)); (try have w4 : W (a2 - 1) = a2 - 1 := w3); omega)
    simp [i3, ZD, i1, G]
    repeat with_reducible refine X5 ?_
    refine cR (OY (nth a0.Zl a2.toNat).Method (nth a1 a2.toNat) (a0.ZL.take (nth a0.Zl a2.toNat).Count.toNat) (zJ (nth a0.Zl a2.toNat).Method (nth a0.Zl (W (a2 - 1)).toNat)) (ZN (n := 2318336) (by decide) (xs (an u0 u1)))) ?_ (uV := by first | (simp; done) | (simp [W, w1]; done))
    simp [G]
    repeat with_reducible refine X5 ?_
    exact rtg [.tmp 6] f
   ·have q2 := h2; try simp at q2
    simp [G]
    repeat with_reducible refine X5 ?_
    refine dIo mixed ?_
    have i4 : a2.toNat < a1.length := by (have cc : a0.Zl.length <= 2318336 := Yk (xs u0); have z0 := sj; simp at z0; have z := kK (by omega) z0.1; have z2 := z0.2; (try have w3 : IntKind.i64.wrap (a2 - 1) = a2 - 1 := Yg (by omega) (by omega)); (try have w4 : W (a2 - 1) = a2 - 1 := w3); omega)
    simp [i4, ZD, i1, G]
    repeat with_reducible refine X5 ?_
    refine cR (OY (nth a0.Zl a2.toNat).Method (nth a1 a2.toNat) (a0.ZL.take (nth a0.Zl a2.toNat).Count.toNat) 0 (ZN (n := 2318336) (by decide) (xs (an u0 u1)))) ?_
    simp [G]
    repeat with_reducible refine X5 ?_
    exact rtg [.tmp 6] f
 ·have sj := G
  simp [G]
  repeat with_reducible refine X5 ?_
  refine sGo ?_
  simp [G]
  repeat with_reducible refine X5 ?_
  have c2 := sl 2318336 a0.Zl (an u0 u1)
  have w2 : IntKind.i64.wrap ((a0.Zl.length : Int) - 1) = (a0.Zl.length : Int) - 1 := Yg (by omega) (by omega)
  refine cKo f ?_ ?_ <;> intro k6 h3 f
  ·have q3 := h3; try simp [YJ, w2] at q3
   simp [G]
   repeat with_reducible refine X5 ?_
   exact rtg [.tmp 6] f
  ·simp [G] at h3
theorem kg (a0 : ZE) (a1 : Int) (u0 : Sm 2314240 a0) : Sd 129 [a0.row, rI a1] [rL 1 iR (YW a0 a1)] := by
 have f := me (YW.eq_1 a0 a1)
 refine soD func129 ntmps129 ?_
 refine lp2 (zW.eq_2 a0 a1) (fun J U => Yn 51 [eI 1 a1, eX 2 (a0.row.map .d), (5, .one (.sref 5 0 0 J.length), [.arr false 1 (J.map iR)]), eI 6 (U : Int)]) (fun n1 J U => a0.ZC.length < n1 + U /\ U <= a0.ZC.length /\ J.length <= 0 + 1 * U) (a0.ZC.length + 1) ([] : List Int) 0 (fun p1 J U e1 j1 => ?_) (h0 := wkS [((5, 0), some (8, 0))] [])
 refine cFf e1 ?_ ?_ <;> intro k2 h1 e1
 ·have i1 := ix h1
  have m2 := ml a0.ZC (k2 11 _ rfl)
  have c1 := sl 2314240 a0.ZC u0
  have w1 := wr U
  simp [i1, ZD]
  refine rpS ?_
  refine cOs (YR.own (zZ (nth a0.ZC U).ZJ (sg (ZV.JJ (Z3 (ZE.YM u0)))))) ?_
  refine eIs ?_
  have c2 := sl 2314240 (nth a0.ZC U).ZJ.Zl u0
  refine eIs ?_
  refine dIo mixed ?_
  simp [i1, ZD]
  refine rpS ?_
  refine cDs [false] (O0 (Zi.mk (nth a0.ZC U).ZJ.ZL ((nth a0.ZC U).ZJ.Zl ++ ([(Zb.mk ((nth a0.ZC U).ZJ.ZL.length : Int) a1 0 ([] : List XY) ([] : List Zp))] : List Zb))) (nth a0.ZC U).Doc (by (first | (exact Jc (s := (nth a0.ZC U).ZJ) (by decide) (show Sm 2314240 _ by simp (maxDischargeDepth := 12) [u0]) (by simp)) | (refine y9 ?_; exact Jc (s := (nth a0.ZC U).ZJ) (by decide) (show Sm 2314240 _ by simp (maxDischargeDepth := 12) [u0]) (by simp)) | (exact ZN (n := 2314240) (by decide) (xs u0)))) (by (first | (exact Jc (s := (nth a0.ZC U).ZJ) (by decide) (show Sm 2314240 _ by simp (maxDischargeDepth := 12) [u0]) (by simp)) | (refine y9 ?_; exact Jc (s := (nth a0.ZC U).ZJ) (by decide) (show Sm 2314240 _ by simp (maxDischargeDepth := 12) [u0]) (by simp)) | (exact ZN (n := 2314240) (by decide) (xs u0))))) ?_
  refine cRs (FK (Zi.mk (nth a0.ZC U).ZJ.ZL ((nth a0.ZC U).ZJ.Zl ++ ([(Zb.mk ((nth a0.ZC U).ZJ.ZL.length : Int) a1 0 ([] : List XY) ([] : List Zp))] : List Zb))) (ya (Zi.mk (nth a0.ZC U).ZJ.ZL ((nth a0.ZC U).ZJ.Zl ++ ([(Zb.mk ((nth a0.ZC U).ZJ.ZL.length : Int) a1 0 ([] : List XY) ([] : List Zp))] : List Zb))) (nth a0.ZC U).Doc) (W ((((nth a0.ZC U).ZJ.Zl ++ ([(Zb.mk ((nth a0.ZC U).ZJ.ZL.length : Int) a1 0 ([] : List XY) ([] : List Zp))] : List Zb)).length : Int) - 1)) (by (first | (exact Jc (s := (nth a0.ZC U).ZJ) (by decide) (show Sm 2314240 _ by simp (maxDischargeDepth := 12) [u0]) (by simp)) | (refine y9 ?_; exact Jc (s := (nth a0.ZC U).ZJ) (by decide) (show Sm 2314240 _ by simp (maxDischargeDepth := 12) [u0]) (by simp)) | (exact ZN (n := 2314240) (by decide) (xs u0)))) (by (first | (exact Jc (s := (nth a0.ZC U).ZJ) (by decide) (show Sm 2314240 _ by simp (maxDischargeDepth := 12) [u0]) (by simp)) | (refine y9 ?_; exact Jc (s := (nth a0.ZC U).ZJ) (by decide) (show Sm 2314240 _ by simp (maxDischargeDepth := 12) [u0]) (by simp)) | (exact ZN (n := 2314240) (by decide) (xs u0))))) ?_ (uV := by first | (simp; done) | (simp [W, w1]; done))
  exact nx2 e1 (hw := XA [((5, 0), some (49, 0))] [] rfl (by simp [w1]))
 have c3 := sl 2314240 a0.ZC u0
 have f := ms f e1
 exact rtD [.tmp 4] f
theorem O7 (a0 : Int) (a1 : Int) (a2 : Int) : Sa 286 [rI a0, rI a1, rI a2] [rI (UB a0 a1 a2)] := by
 have f := me (UB.eq_1 a0 a1 a2)
 refine so func286 ntmps286 ?_
 refine cRs (Jf a0 ([1, a1, a2] : List Int) (by simp (maxDischargeDepth := 12) [Jl, Yx]; try omega)) ?_
 exact rt [.tmp 6] f
theorem UP (a0 : Int) (a1 : List Int) (u0 : Sm 2322432 a1) : Sd 211 [rI a0, rL 1 iR a1] [rL 1 iR (Ws a0 a1)] := by
 have f := me (Ws.eq_1 a0 a1)
 refine soD func211 ntmps211 ?_
 refine lp2 (qV.eq_2 a0 a1) (fun J U => Yn 41 [eI 0 a0, eL 1 1 a1 iR, (5, .one (.sref 5 0 0 J.length), [.arr false 1 (J.map iR)]), eI 6 (U : Int)]) (fun n1 J U => a1.length < n1 + U /\ U <= a1.length + 1 /\ J.length <= U) (a1.length + 1) ([] : List Int) 0 (fun p1 J U e1 j1 => ?_) (h0 := wkS [((5, 0), some (7, 0))] [])
 try dsimp only at j1
 refine cF e1 ?_ ?_ <;> intro k2 h1 e1
 ·have i1 := ix h1
  have m2 := ml a1 (k2 1 _ rfl)
  have c1 := sl 2322432 a1 u0
  have w1 := wr U
  refine cFt e1 ?_ ?_ <;> intro k3 h2 e1
  ·refine okD fun k4 => ?_
   refine dIo mixed ?_
   have i2 := ik (W ((U : Int) + 1)).toNat a1
   simp [i1, ZD, i2]
   refine rpS ?_
   refine cRs (O7 a0 (nth a1 U) (nth a1 (W ((U : Int) + 1)).toNat)) ?_ (uV := by first | (simp; done) | (simp [W, w1]; done))
   have w2 : IntKind.i64.wrap ((U : Int) + 2) = (U : Int) + 2 := Yg (by omega) (by omega)
   exact nx2 e1 (hI := by first | omega | (simp at *; omega)) (hw := XA [((5, 0), some (32, 0))] [] rfl (by simp [w1, w2]))
  simp [i1, ZD]
  refine rpS ?_
  have w3 : IntKind.i64.wrap ((U : Int) + 2) = (U : Int) + 2 := Yg (by omega) (by omega)
  exact nx2 e1 (hI := by first | omega | (simp at *; omega)) (hw := XA [((5, 0), some (39, 0))] [] rfl (by simp [w1, w3]))
 have c2 := sl 2322432 a1 u0
 have f := ms f e1
 exact rtD [.tmp 4] f
theorem W9 (a0 : Int) (a1 : List Int) (u0 : Sm 2318336 a1) : Sa 130 [rI a0, rL 1 iR a1] [rI (Kb a0 a1)] := by
 have f := me (Kb.eq_1 a0 a1)
 refine so func130 ntmps130 ?_
 refine cRs (Yj (a1.length : Int) 1 16) ?_
 refine cFo f ?_ ?_ <;> intro k1 h1 f
 ·have q1 := h1; try simp [YJ] at q1
  simp
  exact rt [.tmp 4] f
 have q1 := h1; try simp [YJ] at q1
 have c1 := sl 2318336 a1 u0
 simp
 refine rpS ?_
 refine lp1 (V9.eq_2 a0) (fun J => Yn 22 [eI 0 a0, (5, .one (.sref 5 0 0 J.length), [.arr false 1 (J.map iR)])]) (fun n1 J => J.length < n1 /\ 1 <= J.length /\ J.length <= 16) (a1.length + 1) a1 (fun p1 J e1 j1 => ?_) (hI := by first | omega | (simp at *; omega)) (h0 := wkS [((5, 0), some (12, 0))] [])
 try dsimp only at j1
 refine cFt e1 ?_ ?_ <;> intro k3 h2 e1
 ·refine cDs [false] (UP a0 J (by first | (simp (maxDischargeDepth := 12) [Yx]; omega) | (simp (maxDischargeDepth := 12) [ZN (m := 2322432) (by decide) u0]; done))) ?_
  exact nx1 e1 (hI := by (have z := Wq a0 J (by omega); (try dsimp only); simp at *; omega)) (hw := wkS [((5, 0), some (18, 0))] [])
 have f := ms f e1
 have i1 := ik 0 J
 simp [i1, ZD]
 refine rpS ?_
 exact rt [.tmp 4] f
theorem GI (a0 : ZE) (a1 : Int) (u0 : Sm 2310144 a0) : Sa 123 [a0.row, rI a1] [rI (yh a0 a1)] := by
 have f := me (yh.eq_1 a0 a1)
 refine so func123 ntmps123 ?_
 refine cRs (YR.rd (kg a0 a1 (sg u0))) ?_
 refine cRs (W9 a1 (YW a0 a1) (by simp (maxDischargeDepth := 12) [qN, ZN (m := 2318336) (by decide) u0]; try omega)) ?_
 exact rt [.tmp 4] f
theorem Sp (a0 : List Int) (a1 : Int) : Sa 194 [rL 1 iR a0, rI a1] [rB (RX a0 a1)] := by
 have f := me (RX.eq_1 a0 a1)
 refine so func194 ntmps194 ?_
 refine lp1 (PY.eq_2 a0 a1) (fun J => Yn 18 [eL 0 1 a0 iR, eI 1 a1, eI 5 (J : Int)]) (fun n1 J => a0.length < n1 + J /\ J <= a0.length) (a0.length + 1) 0 (fun p1 J e1 j1 => ?_)
 refine cFf e1 ?_ ?_ <;> intro k2 h1 e1
 ·have i1 := ix h1
  have m2 := ml a0 (k2 0 _ rfl)
  have w1 := wr J
  simp [i1, ZD]
  refine rpS ?_
  refine cF e1 ?_ ?_ <;> intro k3 h2 e1
  ·have f := ms f e1
   exact rt [.tmp 4] f
  exact ny1 w1 e1
 have f := ms f e1
 exact rt [.tmp 4] f
theorem kr (a0 : List XD) (a1 : List Zw) (a2 : Zp) (u0 : Sm 2322432 a0) (u1 : Sm 2322432 a1) : Sa 195 [rL 5 XD.row a0, rL 3 Zw.row a1, a2.row] [(KK a0 a1 a2).1.row, rB (KK a0 a1 a2).2] := by
 have f := me (KK.eq_1 a0 a1 a2)
 refine so func195 ntmps195 ?_
 refine cRs (K5 a1 a2.Authority) ?_
 refine cGs (fun gg => (jP a2.Time)) ?_
 refine cFt f ?_ ?_ <;> intro k1 h1 f
 ·exact rt [.cell 6 142, .tmp 7] f
 have i1 : (Zk a1 a2.Authority).toNat < a1.length := by have := QQ a1 a2.Authority; exact il
 simp [i1, ZD]
 refine rpS ?_
 refine cRs (Qh a0 (nth a1 (Zk a1 a2.Authority).toNat).Key) ?_
 refine cF f ?_ ?_ <;> intro k2 h2 f
 ·exact rt [.cell 6 142, .tmp 7] f
 refine dIo mixed ?_
 have i2 : (YT a0 (nth a1 (Zk a1 a2.Authority).toNat).Key).toNat < a0.length := by have := QI a0 (nth a1 (Zk a1 a2.Authority).toNat).Key; exact il
 simp [i2, ZD]
 refine rpS ?_
 refine cRs (YR.rd (U2 a2)) ?_
 refine cRs (jG (nth a0 (YT a0 (nth a1 (Zk a1 a2.Authority).toNat).Key).toNat) (Kv a2) (by simp (maxDischargeDepth := 12) [LA, ZN (m := 2326528) (by decide) u0, ZN (m := 2326528) (by decide) u1]; try omega)) ?_
 exact rt [.cell 6 142, .tmp 7] f
theorem VC {a b : Prop} (h : b) (k : a := by (intros; first | omega | with_unfolding_all (first | first | omega | (have tm := Int.tmod_eq_emod_of_nonneg (b := 2) (show 0 <= J by omega); (try simp only [XL, show ∀ x, IntKind.i64.wrap x = W x from fun _ => rfl] at *); (try simp at *); omega)) | ((try simp only [XL, show ∀ x, IntKind.i64.wrap x = W x from fun _ => rfl] at *); omega))) : a /\ b := ⟨k, h⟩
theorem IH (a0 : Int) (a1 : List Int) (a2 : Int) (u0 : Sm 2318336 a1) : Sd 133 [rI a0, rL 1 iR a1, rI a2] [rL 2 XY.row (zA a0 a1 a2)] := by
 have f := me (zA.eq_1 a0 a1 a2)
 refine soD func133 ntmps133 ?_
 refine cGs (fun gg => (Yj a2 0 (W ((a1.length : Int) - 1)))) ?_
 have c1 := sl 2318336 a1 u0
 have w1 : IntKind.i64.wrap ((a1.length : Int) - 1) = (a1.length : Int) - 1 := Yg (by omega) (by omega)
 refine cFo f ?_ ?_ <;> intro k1 h1 f
 ·have q1 := h1; try simp [YJ, w1] at q1
  simp
  exact rtD [.tmp 6] f
 have q1 := h1; try simp [YJ, w1] at q1
 simp
 repeat with_reducible refine VC ?_
 refine lp3 (K2.eq_2 a0) (fun J U uF => Yn 60 [eI 0 a0, eI 2 J, (7, .one (.sref 7 0 0 U.length), [.arr false 2 (U.map XY.row)]), (8, .one (.sref 8 0 0 uF.length), [.arr false 1 (uF.map iR)])]) (fun n1 J U uF => uF.length < n1 /\ 0 <= J /\ J < (uF.length : Int) /\ uF.length <= 16 /\ U.length + n1 <= 17) (a1.length + 1) a2 ([] : List XY) a1 (fun p1 J U uF e1 j1 => ?_) (hI := by first | omega | (simp at *; omega)) (h0 := wkS [((7, 0), some (9, 0)), ((8, 0), some (24, 0))] [])
 try dsimp only at j1
 refine cF e1 ?_ ?_ <;> intro k3 h2 e1
 ·refine cFf e1 ?_ ?_ <;> intro k4 h3 e1
  ·have i1 : (W (J - 1)).toNat < uF.length := by first | omega | (have tm := Int.tmod_eq_emod_of_nonneg (b := 2) (show 0 <= J by omega); (try simp only [XL, show ∀ x, IntKind.i64.wrap x = W x from fun _ => rfl] at *); (try simp at *); omega)
   simp [i1, ZD]
   repeat with_reducible refine VC ?_
   refine cDs [false] (UP a0 uF (by first | (simp (maxDischargeDepth := 12) [Yx]; omega) | (simp (maxDischargeDepth := 12) [ZN (m := 2322432) (by decide) u0]; done))) ?_
   exact nx3 e1 (hI := by (have z := Wq a0 uF (by omega); have td := Int.tdiv_eq_ediv_of_nonneg (b := 2) (show 0 <= J by omega); have w2 : W (Int.tdiv J 2) = Int.tdiv J 2 := Yg (by omega) (by omega); (try dsimp only); rw [w2]; simp at *; omega)) (hw := XA [((7, 0), some (39, 0)), ((8, 0), some (56, 0))] [] rfl (by simp [w1]))
  refine cFo e1 ?_ ?_ <;> intro k5 h4 e1
  ·have q4 := h4; try simp [w1] at q4
   have i2 : (W (J + 1)).toNat < uF.length := by first | omega | (have tm := Int.tmod_eq_emod_of_nonneg (b := 2) (show 0 <= J by omega); (try simp only [XL, show ∀ x, IntKind.i64.wrap x = W x from fun _ => rfl] at *); (try simp at *); omega)
   simp [i2, ZD]
   repeat with_reducible refine VC ?_
   refine cDs [false] (UP a0 uF (by first | (simp (maxDischargeDepth := 12) [Yx]; omega) | (simp (maxDischargeDepth := 12) [ZN (m := 2322432) (by decide) u0]; done))) ?_
   exact nx3 e1 (hI := by (have z := Wq a0 uF (by omega); have td := Int.tdiv_eq_ediv_of_nonneg (b := 2) (show 0 <= J by omega); have w2 : W (Int.tdiv J 2) = Int.tdiv J 2 := Yg (by omega) (by omega); (try dsimp only); rw [w2]; simp at *; omega)) (hw := XA [((7, 0), some (53, 0)), ((8, 0), some (56, 0))] [] rfl (by simp [w1]))
  have q4 := h4; try simp [w1] at q4
  simp
  refine cDs [false] (UP a0 uF (by first | (simp (maxDischargeDepth := 12) [Yx]; omega) | (simp (maxDischargeDepth := 12) [ZN (m := 2322432) (by decide) u0]; done))) ?_
  exact nx3 e1 (hI := by (have z := Wq a0 uF (by omega); have td := Int.tdiv_eq_ediv_of_nonneg (b := 2) (show 0 <= J by omega); have w2 : W (Int.tdiv J 2) = Int.tdiv J 2 := Yg (by omega) (by omega); (try dsimp only); rw [w2]; simp at *; omega)) (hw := XA [((8, 0), some (56, 0))] [] rfl (by simp [w1]))
 have f := ms f e1
 exact rtD [.tmp 6] f
theorem Uc (a0 : Zi) (a1 : Zb) (u0 : Sm 2326528 a0) (u1 : Sm 2326528 a1) : Sd 132 [a0.row, a1.row] [(Xz a0 a1).1.row, rB (Xz a0 a1).2] := by
 have f := me (Xz.eq_1 a0 a1)
 refine soD func132 ntmps132 ?_
 refine cDs [] (zZ a0 (sg u0)) ?_
 refine drJ [14] mixed ?_
 simp
 refine cDs [true, true, true, false, false] (SR a1 (sg u1)) ?_
 refine xt ?_
 have c1 := sl 2326528 a0.Zl (an u0 u1)
 simp
 refine ql (uG := (a0.Zl.map Zb.row)) (news := (([a1] : List Zb).map Zb.row)) (l1 := [(8, 1)]) (l2 := [(12, 3), (12, 4)]) (size := 5) ?_
 simp
 refine cRs (VM (Zi.mk a0.ZL (a0.Zl ++ ([a1] : List Zb)))) ?_
 refine cF f ?_ ?_ <;> intro k2 h1 f
 ·refine cDs [] (zZ a0 (sg u0)) ?_
  exact rtD [.cell 4 68, .tmp 5] f
 exact rtD [.cell 4 68, .tmp 5] f
theorem Pc (a0 : ZE) (a1 : Int) (a2 : List Zp) (u0 : Sm 2310144 a0) (u1 : Sm 2310144 a2) : Sd 48 [a0.row, rI a1, rL 5 Zp.row a2] [(Xw a0 a1 a2).1.row, rB (Xw a0 a1 a2).2] := by
 have f := me (Xw.eq_1 a0 a1 a2)
 refine soD func48 ntmps48 ?_
 refine cDs [] (Xi a0 (sg u0)) ?_
 refine cRs (YR.rd (kg a0 a1 (sg u0))) ?_
 refine cRs (W9 a1 (YW a0 a1) (by simp (maxDischargeDepth := 12) [qN, ZN (m := 2318336) (by decide) u0, ZN (m := 2318336) (by decide) u1]; try omega)) ?_
 refine cRs (yH a0) ?_
 refine lp3 (JM.eq_2 a0 a1 a2) (fun J U uF => Yn 84 [eI 1 a1, eL 2 5 a2 Zp.row, eX 3 (a0.row.map .d), (6, .one (.bptr 6 0), [.box [.d (.int .i64 0), .nil 16]]), (8, .one (.bptr 8 0), [.box [.d (.int .i64 a0.Id), .sref 16 1 0 uF.length]]), eL 9 1 (YW a0 a1) iR, eI 10 (Kb a1 (YW a0 a1)), eB 11 J, eI 12 (U : Int), (16, .any, [.none, .arr true 16 (uF.map ZV.row)])]) (fun n1 J U uF => a0.ZC.length < n1 + U /\ U <= a0.ZC.length /\ uF.length = a0.ZC.length) (a0.ZC.length + 1) ((QT a0) && (decide ((a0.ZC.length : Int) > 0))) 0 a0.ZC (fun p1 J U uF e1 j1 => ?_)
 refine cF e1 ?_ ?_ <;> intro k2 h1 e1
 ·have i1 : U < a0.ZC.length := by (simp at h1; omega)
  have m2 := ml a0.ZC (k2 33 _ rfl)
  have c1 := sl 2310144 a0.ZC (an u0 u1)
  have w1 := wr U
  refine dIo mixed ?_
  simp [i1, ZD]
  refine rpS ?_
  refine cRs (YR.rd (IH a1 (YW a0 a1) (U : Int) (by simp (maxDischargeDepth := 12) [qN, ZN (m := 2318336) (by decide) u0, ZN (m := 2318336) (by decide) u1]; try omega))) ?_
  have i2 := ik U uF
  refine cDf i2 [] (Uc (nth a0.ZC U).ZJ (Zb.mk ((nth a0.ZC U).ZJ.ZL.length : Int) a1 (Kb a1 (YW a0 a1)) (zA a1 (YW a0 a1) (U : Int)) a2) (sg (ZV.JJ (Z3 (ZE.YM u0)))) (by simp (maxDischargeDepth := 12) [Sb, qN, ZN (m := 2326528) (by decide) u0, ZN (m := 2326528) (by decide) u1]; try omega)) ?_
  refine Bz (t := 16) (j := 1) (i := U) (c := 14) (size := 16) (rows := (uF.map ZV.row)) (ds := (Xz (nth a0.ZC U).ZJ (Zb.mk ((nth a0.ZC U).ZJ.ZL.length : Int) a1 (Kb a1 (YW a0 a1)) (zA a1 (YW a0 a1) (U : Int)) a2)).1.row) (L := [(64, 0), (64, 1)]) rfl rfl rfl rfl (by simp) (by simp) (by simp; try omega) (by simp) (by simp) (by simp) (by simp) (by simp) (by simp) ?_
  simp [Y4 (x := (ZV.mk (nth uF U).Id (nth uF U).Yr (nth uF U).Doc (nth uF U).Sig (Xz (nth a0.ZC U).ZJ (Zb.mk ((nth a0.ZC U).ZJ.ZL.length : Int) a1 (Kb a1 (YW a0 a1)) (zA a1 (YW a0 a1) (U : Int)) a2)).1)) rfl, i2, ZD, Z9]
  refine rpS ?_
  exact ny3 w1 e1
 have c2 := sl 2310144 a0.ZC (an u0 u1)
 have f := ms f e1
 refine cGs (fun gg => (yH (ZE.mk a0.Id uF))) ?_
 refine cF f ?_ ?_ <;> intro k4 h2 f
 ·refine cDs [] (Xi a0 (sg u0)) ?_
  exact rtD [.cell 6 73, .tmp 7] f
 exact rtD [.cell 6 73, .tmp 7] f
theorem Xe {a b : Prop} (h : b) (k : a := by (intros; first | omega | with_unfolding_all (first | first | omega | (have z := Qm (a0 := a0) (a1 := a2) (j := U) (by have z1 := h1; simp at z1; simp [z1]) (by omega); omega) | (have z := Qm (a0 := a0) (a1 := a2) (j := uI) (by have z1 := h1; simp at z1; simp [z1]) (by omega); omega)) | ((try simp only [XL, show ∀ x, IntKind.i64.wrap x = W x from fun _ => rfl] at *); omega))) : a /\ b := ⟨k, h⟩
theorem Nz (a0 : ZG) (a1 : Int) (a2 : List Int) (a3 : Int) (u0 : Sm 2306048 a0) (u1 : Sm 2306048 a2) : Sd 105 [a0.row, rI a1, rL 1 iR a2, rI a3] [(z4 a0 a1 a2 a3).1.row, rB (z4 a0 a1 a2 a3).2] := by
 have f := me (z4.eq_1 a0 a1 a2 a3)
 refine soD func105 ntmps105 ?_
 refine cDs [false, false, false, true, true, false, false, true, false, false, true, false] (Xt a0 (sg u0)) ?_
 refine cRs (y7 a0.Frame.Methods a0.Frame.Now) ?_
 refine cRs (xW a0 a1) ?_
 refine cGs (fun gg => (FW a0 a2)) ?_
 refine cGs (fun gg => (Yj a3 (-10000) 10000)) ?_
 have c1 := sl 2306048 a0.ZA (an u0 u1)
 have w1 : IntKind.i64.wrap ((a0.ZA.length : Int) - 1) = (a0.ZA.length : Int) - 1 := Yg (by omega) (by omega)
 refine cFo f ?_ ?_ <;> intro k1 h1 f
 ·have q1 := h1; try simp [YJ, w1, X9] at q1
  simp
  exact rtD [.cell 8 33, .tmp 9] f
 have q1 := h1; try simp [YJ, w1, X9] at q1
 have i1 : a1.toNat < a0.ZA.length := by first | omega | (have z := Qm (a0 := a0) (a1 := a2) (j := U) (by have z1 := h1; simp at z1; simp [z1]) (by omega); omega) | (have z := Qm (a0 := a0) (a1 := a2) (j := uI) (by have z1 := h1; simp at z1; simp [z1]) (by omega); omega)
 simp [i1, ZD]
 repeat with_reducible refine Xe ?_
 refine cRs (GI (nth a0.ZA a1.toNat) (Zf a0.Frame.Methods a0.Frame.Now) (sg (Z3 (ZG.YA u0)))) ?_
 refine lp2 (Qy.eq_2 a0 a1 a2 a3) (fun J U => Yn 162 [eI 1 a1, eL 2 1 a2 iR, eI 3 a3, eX 4 (a0.row.map .d), (8, .one (.bptr 8 0), [.box [.nil 5, .nil 3, .nil 4, .d (.int .i64 0), .d (.int .i64 0), .nil 7, .nil 1, .nil 2, .nil 1, .nil 1, .d (.int .i64 0), .nil 1]]), (10, .one (.bptr 10 0), [.box [.sref 24 0 0 a0.Frame.Zq.length, .sref 24 1 0 a0.Frame.ZF.length, .sref 24 2 0 a0.Frame.Methods.length, .d (.int .i64 a0.Frame.KE), .d (.int .i64 a0.Frame.Now), .sref 24 5 0 a0.ZM.length, .sref 24 6 0 a0.Zy.length, .sref 24 7 0 a0.ZA.length, .sref 24 8 0 a0.Yb.length, .sref 24 9 0 a0.YO.length, .d (.int .i64 a0.Next), .sref 24 11 0 a0.YF.length]]), eI 11 (Zf a0.Frame.Methods a0.Frame.Now), eI 12 (yh (nth a0.ZA a1.toNat) (Zf a0.Frame.Methods a0.Frame.Now)), (13, .one (.sref 13 0 0 J.length), [.arr false 5 (J.map Zp.row)]), eI 14 (U : Int), (24, .any, [.arr false 5 (a0.Frame.Zq.map XD.row), .arr false 3 (a0.Frame.ZF.map Zw.row), .arr false 4 (a0.Frame.Methods.map YE.row), .none, .none, .arr false 7 (a0.ZM.map Yi.row), .arr false 1 (a0.Zy.map iR), .arr true 2 (a0.ZA.map ZE.row), .arr false 1 (a0.Yb.map iR), .arr false 1 (a0.YO.map iR), .none, .arr false 1 (a0.YF.map iR)])]) (fun n1 J U => a2.length < n1 + U /\ U <= a2.length /\ J.length <= 0 + 1 * U) (a2.length + 1) ([] : List Zp) 0 (fun p1 J U e1 j1 => ?_) (h0 := wkS [((13, 0), some (59, 0))] [])
 try dsimp only at j1
 refine cFt e1 ?_ ?_ <;> intro k3 h2 e1
 ·have i2 := ix h2
  have m2 := ml a2 (k3 2 _ rfl)
  have c2 := sl 2306048 a2 (an u0 u1)
  have w2 := wr U
  refine dIo mixed ?_
  simp [i2, ZD]
  repeat with_reducible refine Xe ?_
  refine cRs (K5 a0.Frame.ZF (nth a2 U)) ?_
  refine dIo mixed ?_
  simp [i2, ZD]
  repeat with_reducible refine Xe ?_
  refine cRs (Sp a0.YO (nth a2 U)) ?_
  refine cF e1 ?_ ?_ <;> intro k6 h3 e1
  ·refine cRs (Mg 0 (W (a0.Frame.Now + a3))) ?_ (uV := by first | (simp; done) | (simp [W, w1, w2]; done))
   refine cRs (GX 10000 (xV 0 (W (a0.Frame.Now + a3)))) ?_ (uV := by first | (simp; done) | (simp [W, w1, w2]; done))
   refine dIo mixed ?_
   have i3 : (Zk a0.Frame.ZF (nth a2 U)).toNat < a0.Yb.length := by have := QQ a0.Frame.ZF (nth a2 U); first | omega | (have z := Qm (a0 := a0) (a1 := a2) (j := U) (by have z1 := h1; simp at z1; simp [z1]) (by omega); omega) | (have z := Qm (a0 := a0) (a1 := a2) (j := uI) (by have z1 := h1; simp at z1; simp [z1]) (by omega); omega)
   simp [i2, ZD, i3]
   repeat with_reducible refine Xe ?_
   refine cRs (kr a0.Frame.Zq a0.Frame.ZF (Zp.mk (nth a2 U) (nth a0.Yb (Zk a0.Frame.ZF (nth a2 U)).toNat) (Vl 10000 (xV 0 (W (a0.Frame.Now + a3)))) (yh (nth a0.ZA a1.toNat) (Zf a0.Frame.Methods a0.Frame.Now)) 0) (sg (Zu.JK (ZG.Yp u0))) (sg (Zu.Y5 (ZG.Yp u0)))) ?_ (uV := by first | (simp; done) | (simp [W, w1, w2]; done))
   refine cFo e1 ?_ ?_ <;> intro k8 h4 e1
   ·have q4 := h4; try simp [w1] at q4
    have f := ms f e1
    simp
    exact rtD [.cell 8 33, .tmp 9] f
   have q4 := h4; try simp [w1] at q4
   simp
   repeat with_reducible refine Xe ?_
   exact nx2 e1 (hw := XA [((13, 0), some (117, 0))] [] rfl (by simp [w1, w2]))
  refine dIo mixed ?_
  have i4 : (Zk a0.Frame.ZF (nth a2 U)).toNat < a0.Yb.length := by have := QQ a0.Frame.ZF (nth a2 U); first | omega | (have z := Qm (a0 := a0) (a1 := a2) (j := U) (by have z1 := h1; simp at z1; simp [z1]) (by omega); omega) | (have z := Qm (a0 := a0) (a1 := a2) (j := uI) (by have z1 := h1; simp at z1; simp [z1]) (by omega); omega)
  simp [i2, ZD, i4]
  repeat with_reducible refine Xe ?_
  refine cRs (kr a0.Frame.Zq a0.Frame.ZF (Zp.mk (nth a2 U) (nth a0.Yb (Zk a0.Frame.ZF (nth a2 U)).toNat) a0.Frame.Now (yh (nth a0.ZA a1.toNat) (Zf a0.Frame.Methods a0.Frame.Now)) 0) (sg (Zu.JK (ZG.Yp u0))) (sg (Zu.Y5 (ZG.Yp u0)))) ?_
  refine cFt e1 ?_ ?_ <;> intro ox h5 e1
  ·have f := ms f e1
   exact rtD [.cell 8 33, .tmp 9] f
  simp
  repeat with_reducible refine Xe ?_
  exact nx2 e1 (hw := XA [((13, 0), some (117, 0))] [] rfl (by simp [w1, w2]))
 have c3 := sl 2306048 a2 (an u0 u1)
 have f := ms f e1
 simp [i1, ZD]
 repeat with_reducible refine Xe ?_
 refine cDs [] (Pc (nth a0.ZA a1.toNat) (Zf a0.Frame.Methods a0.Frame.Now) J (sg (Z3 (ZG.YA u0))) (by first | (simp (maxDischargeDepth := 12) [Yx]; omega) | (simp (maxDischargeDepth := 12) [ZN (m := 2310144) (by decide) u0, ZN (m := 2310144) (by decide) u1]; done))) ?_
 refine cF f ?_ ?_ <;> intro iU h6 f
 ·exact rtD [.cell 8 33, .tmp 9] f
 refine lp2 (yq.eq_2 a0 a2) (fun uI uS => Yn 162 [eI 1 a1, eL 2 1 a2 iR, eX 4 (a0.row.map .d), (8, .one (.bptr 8 0), [.box [.nil 5, .nil 3, .nil 4, .d (.int .i64 0), .d (.int .i64 0), .nil 7, .nil 1, .nil 2, .nil 1, .nil 1, .d (.int .i64 0), .nil 1]]), (10, .one (.bptr 10 0), [.box [.sref 24 0 0 a0.Frame.Zq.length, .sref 24 1 0 a0.Frame.ZF.length, .sref 24 2 0 a0.Frame.Methods.length, .d (.int .i64 a0.Frame.KE), .d (.int .i64 a0.Frame.Now), .sref 24 5 0 a0.ZM.length, .sref 24 6 0 a0.Zy.length, .sref 24 7 0 a0.ZA.length, .sref 24 8 0 uS.length, .sref 24 9 0 a0.YO.length, .d (.int .i64 a0.Next), .sref 24 11 0 a0.YF.length]]), (19, .one (.bptr 19 0), [.box [.d (.int .i64 (Xw (nth a0.ZA a1.toNat) (Zf a0.Frame.Methods a0.Frame.Now) J).1.Id), .sref 126 1 0 (Xw (nth a0.ZA a1.toNat) (Zf a0.Frame.Methods a0.Frame.Now) J).1.ZC.length]]), eI 21 (uI : Int), (24, .any, [.arr false 5 (a0.Frame.Zq.map XD.row), .arr false 3 (a0.Frame.ZF.map Zw.row), .arr false 4 (a0.Frame.Methods.map YE.row), .none, .none, .arr false 7 (a0.ZM.map Yi.row), .arr false 1 (a0.Zy.map iR), .arr true 2 (a0.ZA.map ZE.row), .arr false 1 (uS.map iR), .arr false 1 (a0.YO.map iR), .none, .arr false 1 (a0.YF.map iR)]), (126, .any, [.none, .arr true 16 ((Xw (nth a0.ZA a1.toNat) (Zf a0.Frame.Methods a0.Frame.Now) J).1.ZC.map ZV.row)])]) (fun n2 uI uS => a2.length < n2 + uI /\ uI <= a2.length /\ uS.length = a0.Yb.length) (a2.length + 1) 0 a0.Yb (fun p2 uI uS e2 j2 => ?_)
 try dsimp only at j2
 refine cFt e2 ?_ ?_ <;> intro nf h7 e2
 ·have i5 := ix h7
  have m4 := ml a2 (nf 2 _ rfl)
  have w3 := wr uI
  refine dIo mixed ?_
  simp [i5, ZD]
  repeat with_reducible refine Xe ?_
  refine cRs (K5 a0.Frame.ZF (nth a2 uI)) ?_
  refine dIo mixed ?_
  have i6 : (Zk a0.Frame.ZF (nth a2 uI)).toNat < a0.Yb.length := by have := QQ a0.Frame.ZF (nth a2 uI); first | omega | (have z := Qm (a0 := a0) (a1 := a2) (j := U) (by have z1 := h1; simp at z1; simp [z1]) (by omega); omega) | (have z := Qm (a0 := a0) (a1 := a2) (j := uI) (by have z1 := h1; simp at z1; simp [z1]) (by omega); omega)
  have i7 : (Zk a0.Frame.ZF (nth a2 uI)).toNat < uS.length := by have := QQ a0.Frame.ZF (nth a2 uI); first | omega | (have z := Qm (a0 := a0) (a1 := a2) (j := U) (by have z1 := h1; simp at z1; simp [z1]) (by omega); omega) | (have z := Qm (a0 := a0) (a1 := a2) (j := uI) (by have z1 := h1; simp at z1; simp [z1]) (by omega); omega)
  simp [i6, ZD, i7, Y4 (x := (W ((nth a0.Yb (Zk a0.Frame.ZF (nth a2 uI)).toNat) + 1))) rfl]
  repeat with_reducible refine Xe ?_
  exact ny2 (an w1 w3) e2
 have f := ms f e2
 simp [i1, ZD]
 repeat with_reducible refine Xe ?_
 refine jy (t := 24) (j := 7) (i := a1.toNat) (size := 2) (rows := (a0.ZA.map ZE.row)) (ds := (Xw (nth a0.ZA a1.toNat) (Zf a0.Frame.Methods a0.Frame.Now) J).1.row) (L := [(126, 1)]) ?_
 simp [Y4 (x := (Xw (nth a0.ZA a1.toNat) (Zf a0.Frame.Methods a0.Frame.Now) J).1) rfl, c1, i1, ZD, Z9]
 repeat with_reducible refine Xe ?_
 exact rtD [.cell 8 33, .tmp 9] f
theorem Nb (a0 : Int) (a1 : ZV) (u0 : Sm 2318336 a1) : Sa 346 [rI a0, a1.row] [rI (Vy a0 a1)] := by
 have f := me (Vy.eq_1 a0 a1)
 refine so func346 ntmps346 ?_
 refine dIs mixed ?_
 refine cRs (ko a0 a1.Doc (sg (ZV.kl u0))) ?_
 refine cRs (Wp a0 a1.ZJ.ZL (sg (Zi.kG (ZV.JJ u0)))) ?_
 refine lp2 (kv.eq_2 a0 a1) (fun J U => Yn 43 [eI 0 a0, eX 3 (a1.row.map .d), (5, .one (.sref 5 0 0 J.length), [.arr false 1 (J.map iR)]), eI 6 (U : Int)]) (fun n1 J U => a1.ZJ.Zl.length < n1 + U /\ U <= a1.ZJ.Zl.length /\ J.length <= 5 + 1 * U) (a1.ZJ.Zl.length + 1) ([5, a1.Id, a1.Yr, (JY a0 a1.Doc), (Kl a0 a1.ZJ.ZL)] : List Int) 0 (fun p1 J U e1 j1 => ?_) (h0 := wkS [((5, 0), some (20, 0))] [])
 refine cFf e1 ?_ ?_ <;> intro k3 h1 e1
 ·have i1 := ix h1
  have m2 := ml a1.ZJ.Zl (k3 24 _ rfl)
  have c1 := sl 2318336 a1.ZJ.Zl u0
  have w1 := wr U
  simp [i1, ZD]
  refine rpS ?_
  refine cRs (kd a0 (nth a1.ZJ.Zl U) (sg (Z3 (Zi.kP (ZV.JJ u0))))) ?_
  exact nx2 e1 (hw := XA [((5, 0), some (39, 0))] [] rfl (by simp [w1]))
 have c2 := sl 2318336 a1.ZJ.Zl u0
 have f := ms f e1
 refine cRs (Jf a0 J (by first | (simp (maxDischargeDepth := 12) [Yx]; omega) | (simp (maxDischargeDepth := 12) [ZN (m := 68719476736) (by decide) u0]; done))) ?_
 exact rt [.tmp 4] f
theorem Ri (a0 : Int) (a1 : List ZV) (u0 : Sm 2314240 a1) : Sa 323 [rI a0, rL 16 ZV.row a1] [rI (Tq a0 a1)] := by
 have f := me (Tq.eq_1 a0 a1)
 refine so func323 ntmps323 ?_
 refine lp2 (Tb.eq_2 a0 a1) (fun J U => Yn 26 [eI 0 a0, eL 1 16 a1 ZV.row, (5, .one (.sref 5 0 0 J.length), [.arr false 1 (J.map iR)]), eI 6 (U : Int)]) (fun n1 J U => a1.length < n1 + U /\ U <= a1.length /\ J.length <= 0 + 1 * U) (a1.length + 1) ([] : List Int) 0 (fun p1 J U e1 j1 => ?_) (h0 := wkS [((5, 0), some (7, 0))] [])
 refine cFf e1 ?_ ?_ <;> intro k2 h1 e1
 ·have i1 := ix h1
  have m2 := ml a1 (k2 1 _ rfl)
  have c1 := sl 2314240 a1 u0
  have w1 := wr U
  simp [i1, ZD]
  refine rpS ?_
  refine cRs (Nb a0 (nth a1 U) (sg (Z3 u0))) ?_
  exact nx2 e1 (hw := XA [((5, 0), some (22, 0))] [] rfl (by simp [w1]))
 have c2 := sl 2314240 a1 u0
 have f := ms f e1
 refine cRs (W9 a0 J (by first | (simp (maxDischargeDepth := 12) [Yx]; omega) | (simp (maxDischargeDepth := 12) [ZN (m := 2318336) (by decide) u0]; done))) ?_
 exact rt [.tmp 4] f
theorem Oy (a0 : ZE) (a1 : Int) (a2 : List Int) (a3 : Int) (u0 : Sm 2310144 a0) (u1 : Sm 2310144 a2) : So 275 [a0.row, rI a1, rL 1 iR a2, rI a3] [(Yz a0 a1 a2 a3).1.row, rB (Yz a0 a1 a2 a3).2] := by
 have f := me (Yz.eq_1 a0 a1 a2 a3)
 refine so func275 ntmps275 ?_
 refine lp2 (JC.eq_2 a0 a2) (fun J U => Yn 53 [eL 2 1 a2 iR, eI 3 a3, eX 4 (a0.row.map .d), (8, .one (.bptr 8 0), [.box [.d (.int .i64 0), .d (.int .i64 0), .nil 16, .d (.int .i64 0)]]), (10, .one (.bptr 10 0), [.box [.d (.int .i64 a0.Id), .d (.int .i64 a1), .sref 10 3 0 U.length, .d (.int .i64 0)], .none, .none, .arr false 16 (U.map ZV.row)]), eI 11 (J : Int)]) (fun n1 J U => a2.length < n1 + J /\ J <= a2.length /\ U.length <= J /\ (∀ x ∈ U, Sm 2310144 x)) (a2.length + 1) 0 ([] : List ZV) (fun p1 J U e1 j1 => ?_) (hI := by exact ⟨by omega, by omega, Nat.zero_le _, Nat.zero_le _, fun x h => by cases h⟩) (h0 := wkS [((10, 3), none)] [])
 try dsimp only at j1
 refine cF e1 ?_ ?_ <;> intro k2 h1 e1
 ·have i1 := ix h1
  have m2 := ml a2 (k2 2 _ rfl)
  have c1 := sl 2310144 a2 (an u0 u1)
  have w1 := wr J
  refine dIo mixed ?_
  simp [i1, ZD]
  refine rpS ?_
  refine cRs (yz a0 (nth a2 J)) ?_
  refine cF e1 ?_ ?_ <;> intro k4 h2 e1
  ·have f := ms f e1
   exact rtO [.cell 8 253, .tmp 9] f
  refine dIo mixed ?_
  have i2 : (Yf a0 (nth a2 J)).toNat < a0.ZC.length := by have := VJ a0 (nth a2 J); exact il
  simp [i2, ZD]
  refine rpS ?_
  refine cRs (YR.rd (X8 (nth a0.ZC (Yf a0 (nth a2 J)).toNat) (sg (Z3 (ZE.YM u0))))) ?_
  refine eIs ?_
  refine eIs ?_
  exact nx2 e1 (hI := by ((try dsimp only); refine ⟨by omega, by omega, by omega, by simp; omega, fun x hx => ?_⟩; rcases List.mem_append.1 hx with hx | hx; exact j1.2.2.2.2 x hx; have e := List.mem_singleton.1 hx; subst e; exact Z3 (ZE.YM u0))) (hw := XA [((10, 3), some (41, 0))] [] rfl (by simp [w1]))
 have c2 := sl 2310144 a2 (an u0 u1)
 have f := ms f e1
 refine cF f ?_ ?_ <;> intro k6 h3 f
 ·exact rtO [.cell 8 253, .tmp 9] f
 refine cRs (Ri a3 U (by (have q := Yk (show Sm 2310144 a2 from u1); exact ZN (n := 2310144) (by decide) ⟨by omega, j1.2.2.2.2⟩))) ?_
 exact rtO [.cell 8 253, .tmp 9] f
theorem OA (a0 : YS) (a1 : Int) (u0 : Sm 2310144 a0) : Sa 324 [a0.row, rI a1] [rB (Jb a0 a1)] := by
 have f := me (Jb.eq_1 a0 a1)
 refine so func324 ntmps324 ?_
 refine lp1 (J4.eq_2 a0) (fun J => Yn 33 [eI 1 a1, eX 2 (a0.row.map .d), eI 5 (J : Int)]) (fun n1 J => a0.ZC.length < n1 + J /\ J <= a0.ZC.length) (a0.ZC.length + 1) 0 (fun p1 J e1 j1 => ?_)
 refine cFf e1 ?_ ?_ <;> intro k2 h1 e1
 ·have i1 := ix h1
  have m2 := ml a0.ZC (k2 8 _ rfl)
  have c1 := sl 2310144 a0.ZC u0
  have w1 := wr J
  simp [i1, ZD]
  refine rpS ?_
  refine cRs (OG (nth a0.ZC J)) ?_
  refine cF e1 ?_ ?_ <;> intro k3 h2 e1
  ·have f := ms f e1
   exact rt [.tmp 4] f
  exact ny1 w1 e1
 have c2 := sl 2310144 a0.ZC u0
 have f := ms f e1
 refine dIs mixed ?_
 refine cRs (Yj (a0.ZC.length : Int) 1 8) ?_
 refine cGs (fun gg => (Ri a1 a0.ZC (sg (YS.YM u0)))) ?_
 exact rt [.tmp 4] f
theorem RK (a0 : ZE) (a1 : YS) (a2 : Int) (u0 : Sm 2306048 a0) (u1 : Sm 2306048 a1) : Sd 276 [a0.row, a1.row, rI a2] [(XP a0 a1 a2).1.row, rB (XP a0 a1 a2).2] := by
 have f := me (XP.eq_1 a0 a1 a2)
 refine soD func276 ntmps276 ?_
 refine cDs [] (Xi a0 (sg u0)) ?_
 refine cRs (OA a1 a2 (sg u1)) ?_
 refine lp4 (Qv.eq_2 a1) (fun J U uF uR => Yn 52 [eX 3 (a0.row.map .d), eX 4 (a1.row.map .d), (6, .one (.bptr 6 0), [.box [.d (.int .i64 0), .nil 16]]), (8, .one (.bptr 8 0), [.box [.d (.int .i64 uF), .sref 8 2 0 uR.length], .none, .arr true 16 (uR.map ZV.row)]), eB 9 J, eI 10 (U : Int)]) (fun n1 J U uF uR => a1.ZC.length < n1 + U /\ U <= a1.ZC.length /\ (J = true -> a1.ZC.length <= 8) /\ Sm (2306048 + U) (ZE.mk uF uR)) (a1.ZC.length + 1) ((Jb a1 a2) && (a1.To == a0.Id)) 0 a0.Id a0.ZC (fun p1 J U uF uR e1 j1 => ?_) (hI := by exact ⟨by omega, by omega, Nat.zero_le _, fun h => R6 a1 a2 (by simp at h; exact h.1), u0⟩) (h0 := wkS [((8, 2), some (14, 1))] [])
 try dsimp only at j1
 refine cF e1 ?_ ?_ <;> intro k2 h1 e1
 ·have i1 : U < a1.ZC.length := by (simp at h1; omega)
  have m2 := ml a1.ZC (k2 27 _ rfl)
  have c1 := sl 2306048 a1.ZC (an u0 u1)
  have w1 := wr U
  refine dIo mixed ?_
  simp [i1, ZD]
  refine rpS ?_
  refine cDs [] (jj (ZE.mk uF uR) (nth a1.ZC U) (by first | (have hc := h1; simp at hc; have hl := j1.2.2.2.1 hc.2; exact ZN (n := 2306048 + U) (by omega) j1.2.2.2.2) | exact sg (Z3 (YS.YM u1))) (by first | (have hc := h1; simp at hc; have hl := j1.2.2.2.1 hc.2; exact ZN (n := 2306048 + U) (by omega) j1.2.2.2.2) | exact sg (Z3 (YS.YM u1)))) ?_
  exact nx4 e1 (hI := by (have hc := h1; simp at hc; (try dsimp only); refine ⟨by omega, by omega, by omega, fun _ => j1.2.2.2.1 hc.2, ?_⟩; exact jo (n := 2306048 + U) j1.2.2.2.2 (ZN (n := 2306048) (by omega) (Z3 (YS.YM u1))))) (hw := XA [((8, 2), some (42, 1))] [] rfl (by simp [w1]))
 have c2 := sl 2306048 a1.ZC (an u0 u1)
 have f := ms f e1
 refine cF f ?_ ?_ <;> intro k4 h2 f
 ·refine cDs [] (Xi a0 (sg u0)) ?_
  exact rtD [.cell 6 73, .tmp 7] f
 exact rtD [.cell 6 73, .tmp 7] f
theorem IB (a0 : ZE) (a1 : Int) (u0 : Sm 2322432 a0) : Sd 277 [a0.row, rI a1] [(yG a0 a1).1.row, rB (yG a0 a1).2] := by
 have f := me (yG.eq_1 a0 a1)
 refine soD func277 ntmps277 ?_
 refine cRs (yz a0 a1) ?_
 refine cF f ?_ ?_ <;> intro k1 h1 f
 ·refine cDs [] (Xi a0 (sg u0)) ?_
  exact rtD [.cell 4 73, .tmp 5] f
 refine lp2 (K3.eq_2 a0 a1) (fun J U => Yn 41 [eX 2 (a0.row.map .d), (4, .one (.bptr 4 0), [.box [.d (.int .i64 0), .nil 16]]), eI 6 (Yf a0 a1), (7, .one (.bptr 7 0), [.box [.d (.int .i64 a0.Id), .sref 7 2 0 U.length], .none, .arr true 16 (U.map ZV.row)]), eI 8 (J : Int)]) (fun n1 J U => a0.ZC.length < n1 + J /\ J <= a0.ZC.length /\ U.length <= 0 + 1 * J) (a0.ZC.length + 1) 0 ([] : List ZV) (fun p1 J U e1 j1 => ?_) (h0 := wkS [((7, 2), none)] [])
 refine cF e1 ?_ ?_ <;> intro k3 h2 e1
 ·have i1 := ix h2
  have m2 := ml a0.ZC (k3 21 _ rfl)
  have c1 := sl 2322432 a0.ZC u0
  have w1 := wr J
  refine cF e1 ?_ ?_ <;> intro k4 h3 e1
  ·refine okD fun k5 => ?_
   refine drJ [38] mixed ?_
   simp [i1, ZD]
   refine rpS ?_
   refine cDs [true, true, true, false, false] (X8 (nth a0.ZC J) (sg (Z3 (ZE.YM u0)))) ?_
   refine xt ?_
   simp
   refine ql (uG := (U.map ZV.row)) (news := (([(nth a0.ZC J)] : List ZV).map ZV.row)) (l1 := [(7, 2)]) (l2 := [(36, 3), (36, 4), (36, 14), (36, 15)]) (size := 16) ?_
   simp
   exact nx2 e1 (hw := XA [((7, 2), some (38, 0))] [] rfl (by simp [w1]))
  exact ny2 w1 e1
 have c2 := sl 2322432 a0.ZC u0
 have f := ms f e1
 exact rtD [.cell 4 73, .tmp 5] f
theorem Nw (a0 : ZE) (a1 : ZE) (a2 : List Int) (a3 : Int) (u0 : Sm 2301952 a0) (u1 : Sm 2301952 a1) (u2 : Sm 2301952 a2) : Sd 196 [a0.row, a1.row, rL 1 iR a2, rI a3] [(Xs a0 a1 a2 a3).1.row, (Xs a0 a1 a2 a3).2.1.row, rB (Xs a0 a1 a2 a3).2.2] := by
 have f := me (Xs.eq_1 a0 a1 a2 a3)
 refine soD func196 ntmps196 ?_
 refine cRs (Oy a0 a1.Id a2 a3 (by first | exact sg u0 | exact sg u2) (by first | exact sg u0 | exact sg u2)) ?_
 refine cDs [] (RK a1 (Yz a0 a1.Id a2 a3).1 a3 (by first | exact sg u1 | exact ZN (n := 2301952) (by decide) (jX u0 u2)) (by first | exact sg u1 | exact ZN (n := 2301952) (by decide) (jX u0 u2))) ?_
 refine cDs [] (Xi a0 (sg u0)) ?_
 refine lp4 (KT.eq_2 a0 a1 a2 a3) (fun J U uF uR => Yn 72 [eL 2 1 a2 iR, eX 4 (a0.row.map .d), eX 5 (a1.row.map .d), (8, .one (.bptr 8 0), [.box [.d (.int .i64 0), .nil 16]]), (9, .one (.bptr 9 0), [.box [.d (.int .i64 0), .nil 16]]), eB 12 (Yz a0 a1.Id a2 a3).2, (13, .one (.bptr 13 0), [.box [.d (.int .i64 (XP a1 (Yz a0 a1.Id a2 a3).1 a3).1.Id), .sref 32 1 0 (XP a1 (Yz a0 a1.Id a2 a3).1 a3).1.ZC.length]]), eB 14 J, (15, .one (.bptr 15 0), [.box [.d (.int .i64 uF), .sref 15 2 0 uR.length], .none, .arr true 16 (uR.map ZV.row)]), eI 16 (U : Int), (32, .any, [.none, .arr true 16 ((XP a1 (Yz a0 a1.Id a2 a3).1 a3).1.ZC.map ZV.row)])]) (fun n1 J U uF uR => a2.length < n1 + U /\ U <= a2.length /\ Sm 2301952 (ZE.mk uF uR)) (a2.length + 1) (XP a1 (Yz a0 a1.Id a2 a3).1 a3).2 0 a0.Id a0.ZC (fun p1 J U uF uR e1 j1 => ?_) (hI := by exact ⟨by omega, by omega, Nat.zero_le _, u0⟩) (h0 := wkS [((15, 2), some (36, 1))] [])
 try dsimp only at j1
 refine cF e1 ?_ ?_ <;> intro k2 h1 e1
 ·have i1 : U < a2.length := by (simp at h1; omega)
  have m2 := ml a2 (k2 2 _ rfl)
  have c1 := sl 2301952 a2 (an u0 (an u1 u2))
  have w1 := wr U
  refine dIo mixed ?_
  simp [i1, ZD]
  refine rpS ?_
  refine cDs [] (IB (ZE.mk uF uR) (nth a2 U) (by exact ZN (n := 2301952) (by decide) j1.2.2.2)) ?_
  exact nx4 e1 (hI := by ((try dsimp only); refine ⟨by omega, by omega, by omega, ?_⟩; exact SH j1.2.2.2)) (hw := XA [((15, 2), some (55, 1))] [] rfl (by simp [w1]))
 have c2 := sl 2301952 a2 (an u0 (an u1 u2))
 have f := ms f e1
 refine cF f ?_ ?_ <;> intro k4 h2 f
 ·refine okD fun k5 => ?_
  refine dIs mixed ?_
  refine cDs [] (Xi a0 (sg u0)) ?_
  refine cDs [] (Xi a1 (sg u1)) ?_
  exact rtD [.cell 8 73, .cell 9 73, .tmp 10] f
 refine LX [(8, 8), (9, 9), (13, 13), (15, 15)] mixed (by kernel_rfl) (by kernel_rfl) (by kernel_rfl) (by kernel_rfl) ?_
 simp
 exact rtD [.cell 8 73, .cell 9 73, .tmp 10] f
theorem Lx (a0 : ZG) (a1 : Int) (a2 : Int) (a3 : Int) (u0 : Sm 2297856 a0) : Sd 106 [a0.row, rI a1, rI a2, rI a3] [(qP a0 a1 a2 a3).1.row, rB (qP a0 a1 a2 a3).2] := by
 have f := me (qP.eq_1 a0 a1 a2 a3)
 refine soD func106 ntmps106 ?_
 refine cDs [false, false, false, true, true, false, false, true, false, false, true, false] (Xt a0 (sg u0)) ?_
 refine cRs (y7 a0.Frame.Methods a0.Frame.Now) ?_
 refine cRs (xW a0 a1) ?_
 refine cGs (fun gg => (xW a0 a2)) ?_
 have c1 := sl 2297856 a0.ZA u0
 have w1 : IntKind.i64.wrap ((a0.ZA.length : Int) - 1) = (a0.ZA.length : Int) - 1 := Yg (by omega) (by omega)
 refine cFo f ?_ ?_ <;> intro k1 h1 f
 ·have q1 := h1; try simp [w1, X9, YJ] at q1
  simp
  exact rtD [.cell 8 33, .tmp 9] f
 have q1 := h1; try simp [w1, X9, YJ] at q1
 simp
 refine dIo mixed ?_
 have i1 := ik a1.toNat a0.ZA
 have i2 := ik a2.toNat a0.ZA
 simp [i1, ZD, i2]
 refine rpS ?_
 refine cDf i1 [] (Nw (nth a0.ZA a1.toNat) (nth a0.ZA a2.toNat) ([a3] : List Int) (Zf a0.Frame.Methods a0.Frame.Now) (sg (Z3 (ZG.YA u0))) (sg (Z3 (ZG.YA u0))) (by simp (maxDischargeDepth := 12) [Jl, Yx, ZN (m := 2301952) (by decide) u0]; try omega)) ?_
 refine jy (t := 16) (j := 7) (i := a1.toNat) (size := 2) (rows := (a0.ZA.map ZE.row)) (ds := (Xs (nth a0.ZA a1.toNat) (nth a0.ZA a2.toNat) ([a3] : List Int) (Zf a0.Frame.Methods a0.Frame.Now)).1.row) (L := [(58, 1)]) ?_
 simp [Y4 (x := (Xs (nth a0.ZA a1.toNat) (nth a0.ZA a2.toNat) ([a3] : List Int) (Zf a0.Frame.Methods a0.Frame.Now)).1) rfl, c1, i1, i2, ZD, Z9]
 refine rpS ?_
 refine jy (t := 16) (j := 7) (i := a2.toNat) (size := 2) (rows := ((a0.ZA.set a1.toNat (Xs (nth a0.ZA a1.toNat) (nth a0.ZA a2.toNat) ([a3] : List Int) (Zf a0.Frame.Methods a0.Frame.Now)).1).map ZE.row)) (ds := (Xs (nth a0.ZA a1.toNat) (nth a0.ZA a2.toNat) ([a3] : List Int) (Zf a0.Frame.Methods a0.Frame.Now)).2.1.row) (L := [(58, 3)]) ?_
 simp [Y4 (x := (Xs (nth a0.ZA a1.toNat) (nth a0.ZA a2.toNat) ([a3] : List Int) (Zf a0.Frame.Methods a0.Frame.Now)).1) rfl, c1, i1, i2, ZD, Z9]
 refine rpS ?_
 exact rtD [.cell 8 33, .tmp 9] f
theorem O6 (a0 : ZE) (a1 : Int) (u0 : Sm 2326528 a0) : So 197 [a0.row, rI a1] [(zG a0 a1).1.row, rI (zG a0 a1).2] := by
 have f := me (zG.eq_1 a0 a1)
 refine so func197 ntmps197 ?_
 refine lp3 (JB.eq_2 a0 a1) (fun J U uF => Yn 42 [eI 1 a1, eX 2 (a0.row.map .d), (4, .one (.bptr 4 0), [.box [.d (.int .i64 0), .nil 16]]), (6, .one (.bptr 6 0), [.box [.d (.int .i64 a0.Id), .sref 6 2 0 uF.length], .none, .arr false 16 (uF.map ZV.row)]), eI 7 J, eI 8 (U : Int)]) (fun n1 J U uF => a0.ZC.length < n1 + U /\ U <= a0.ZC.length /\ uF.length <= 0 + 1 * U) (a0.ZC.length + 1) 0 0 ([] : List ZV) (fun p1 J U uF e1 j1 => ?_) (h0 := wkS [((6, 2), none)] [])
 refine cFf e1 ?_ ?_ <;> intro k2 h1 e1
 ·have i1 := ix h1
  have m2 := ml a0.ZC (k2 14 _ rfl)
  have c1 := sl 2326528 a0.ZC u0
  have w1 := wr U
  simp [i1, ZD]
  refine rpS ?_
  refine cF e1 ?_ ?_ <;> intro k3 h2 e1
  ·exact ny3 w1 e1
  refine dIo mixed ?_
  simp [i1, ZD]
  refine rpS ?_
  refine cRs (YR.rd (X8 (nth a0.ZC U) (sg (Z3 (ZE.YM u0))))) ?_
  refine eIs ?_
  refine eIs ?_
  exact nx3 e1 (hw := XA [((6, 2), some (38, 0))] [] rfl (by simp [w1]))
 have c2 := sl 2326528 a0.ZC u0
 have f := ms f e1
 exact rtO [.cell 4 73, .tmp 5] f
theorem Nk (a0 : ZG) (a1 : Int) (u0 : Sm 2318336 a0) : So 107 [a0.row, rI a1] [(yb a0 a1).1.row, rB (yb a0 a1).2] := by
 have f := me (yb.eq_1 a0 a1)
 refine so func107 ntmps107 ?_
 refine cOs (YR.own (Xt a0 (sg u0))) ?_
 refine cRs (xW a0 a1) ?_
 have c1 := sl 2318336 a0.ZA u0
 have w1 : IntKind.i64.wrap ((a0.ZA.length : Int) - 1) = (a0.ZA.length : Int) - 1 := Yg (by omega) (by omega)
 refine cFo f ?_ ?_ <;> intro k1 h1 f
 ·have q1 := h1; try simp [w1, X9, YJ] at q1
  simp
  exact rtO [.cell 4 33, .tmp 5] f
 have q1 := h1; try simp [w1, X9, YJ] at q1
 simp
 refine dIo mixed ?_
 have i1 := ik a1.toNat a0.ZA
 simp [i1, ZD]
 refine rpS ?_
 refine cR (O6 (nth a0.ZA a1.toNat) a0.Frame.Now (sg (Z3 (ZG.YA u0)))) ?_
 simp [i1, ZD, Y4 (x := (zG (nth a0.ZA a1.toNat) a0.Frame.Now).1) rfl]
 refine rpS ?_
 exact rtO [.cell 4 33, .tmp 5] f
theorem Nf (a0 : List YE) (a1 : Int) : Sa 325 [rL 4 YE.row a0, rI a1] [rI (ym a0 a1)] := by
 have f := me (ym.eq_1 a0 a1)
 refine so func325 ntmps325 ?_
 refine lp1 (qL.eq_2 a0 a1) (fun J => Yn 20 [eL 0 4 a0 YE.row, eI 1 a1, eI 5 (J : Int)]) (fun n1 J => a0.length < n1 + J /\ J <= a0.length) (a0.length + 1) 0 (fun p1 J e1 j1 => ?_)
 refine cFf e1 ?_ ?_ <;> intro k2 h1 e1
 ·have i1 := ix h1
  have m2 := ml a0 (k2 0 _ rfl)
  have w1 := wr J
  simp [i1, ZD]
  refine rpS ?_
  refine cF e1 ?_ ?_ <;> intro k3 h2 e1
  ·have f := ms f e1
   exact rt [.tmp 4] f
  exact ny1 w1 e1
 have f := ms f e1
 exact rt [.tmp 4] f
theorem Hj (a0 : List YE) (a1 : Int) : Sa 278 [rL 4 YE.row a0, rI a1] [rI (PF a0 a1)] := by
 have f := me (PF.eq_1 a0 a1)
 refine so func278 ntmps278 ?_
 refine cRs (Nf a0 a1) ?_
 refine cFt f ?_ ?_ <;> intro k1 h1 f
 ·exact rt [.tmp 4] f
 have i1 : (ym a0 a1).toNat < a0.length := by have := NA a0 a1; exact il
 simp [i1, ZD]
 refine rpS ?_
 exact rt [.tmp 4] f
theorem jB (a0 : Zu) (a1 : Int) : Sa 198 [a0.row, rI a1] [rB (ks a0 a1)] := by
 have f := me (ks.eq_1 a0 a1)
 refine so func198 ntmps198 ?_
 refine cRs (Qh a0.Zq a1) ?_
 refine dIs mixed ?_
 refine gIf ?_ ?_ <;> intro G
 ·have i1 : (YT a0.Zq a1).toNat < a0.Zq.length := by have := QI a0.Zq a1; exact il
  simp [i1, ZD, G]
  refine rpG ?_
  refine cGg (fun gg => (Hj a0.Methods (nth a0.Zq (YT a0.Zq a1).toNat).Method)) ?_
  exact rtg [.tmp 4] f
 ·refine sGo ?_
  simp [G]
  refine rpG ?_
  exact rtg [.tmp 4] f
theorem M6 (a0 : ZG) (a1 : Int) (a2 : Int) (a3 : ZU) (u0 : Sm 2314240 a0) (u1 : Sm 2314240 a3) : Sd 108 [a0.row, rI a1, rI a2, a3.row] [(xX a0 a1 a2 a3).1.row, rB (xX a0 a1 a2 a3).2] := by
 have f := me (xX.eq_1 a0 a1 a2 a3)
 refine soD func108 ntmps108 ?_
 refine cDs [false, false, false, true, true, false, false, true, false, false, true, false] (Xt a0 (sg u0)) ?_
 refine cRs (xW a0 a1) ?_
 refine cGs (fun gg => (jB a0.Frame a2)) ?_
 have c1 := sl 2314240 a0.ZA (an u0 u1)
 have w1 : IntKind.i64.wrap ((a0.ZA.length : Int) - 1) = (a0.ZA.length : Int) - 1 := Yg (by omega) (by omega)
 refine cFo f ?_ ?_ <;> intro k1 h1 f
 ·have q1 := h1; try simp [w1, X9, YJ] at q1
  simp
  refine Pn (rv := [.cell 8 33, .tmp 9]) rfl ?_
  simp [f.h]
  all_goals ((try simp only [q3, true_and]); (try (rintro r (⟨a, _, rfl⟩ | rfl) x hx <;> simp at hx <;> subst hx <;> rfl)))
 have q1 := h1; try simp [w1, X9, YJ] at q1
 simp
 refine cRs (UI a0 a2 a3 0 10000 (sg u0) (sg u1)) ?_
 refine cFo f ?_ ?_ <;> intro k2 h2 f
 ·have q2 := h2; try simp at q2
  simp
  refine Pn (rv := [.cell 8 33, .tmp 9]) rfl ?_
  simp [f.h]
  all_goals ((try simp only [q3, true_and]); (try (rintro r (⟨a, _, rfl⟩ | rfl) x hx <;> simp at hx <;> subst hx <;> rfl)))
 have q2 := h2; try simp at q2
 simp
 refine dIo mixed ?_
 have i1 := ik a1.toNat a0.ZA
 simp [i1, ZD]
 refine rpS ?_
 refine cDs [] (jj (nth a0.ZA a1.toNat) (Xa a0 a2 a3 0 10000).1 (by first | (exact ZN (n := 2314240) (by decide) (xs (an u0 u1))) | (exact ZN (n := 2314240) (by decide) (KP (xs (an u0 u1)) (by decide)))) (by first | (exact ZN (n := 2314240) (by decide) (xs (an u0 u1))) | (exact ZN (n := 2314240) (by decide) (KP (xs (an u0 u1)) (by decide))))) ?_
 refine cFo f ?_ ?_ <;> intro k4 h3 f
 ·have q3 := h3; try simp at q3
  simp
  refine Pn (rv := [.cell 8 33, .tmp 9]) rfl ?_
  simp [f.h]
  all_goals ((try simp only [q3, true_and]); (try (rintro r (⟨a, _, rfl⟩ | rfl) x hx <;> simp at hx <;> subst hx <;> rfl)))
 have q3 := h3; try simp at q3
 simp [i1, ZD]
 refine rpS ?_
 refine jy (t := 16) (j := 7) (i := a1.toNat) (size := 2) (rows := (a0.ZA.map ZE.row)) (ds := (Xo (nth a0.ZA a1.toNat) (Xa a0 a2 a3 0 10000).1).1.row) (L := [(46, 1)]) ?_
 have c2 := sl 2314240 a0.YF (an u0 u1)
 simp [Y4 (x := (Xo (nth a0.ZA a1.toNat) (Xa a0 a2 a3 0 10000).1).1) rfl, c1, i1, ZD, Z9]
 refine rpS ?_
 refine Pn (rv := [.cell 8 33, .tmp 9]) rfl ?_
 simp [f.h]
 all_goals ((try simp only [q3, true_and]); (try (rintro r (⟨a, _, rfl⟩ | rfl) x hx <;> simp at hx <;> subst hx <;> rfl)))
theorem Uk (a0 : ZG) (u0 : Sm 2330624 a0) : Sd 199 [a0.row] [rL 1 iR (YK a0)] := by
 have f := me (YK.eq_1 a0)
 refine soD func199 ntmps199 ?_
 refine lp2 (JE.eq_2 a0) (fun J U => Yn 39 [eX 1 (a0.row.map .d), (3, .one (.sref 3 0 0 J.length), [.arr false 1 (J.map iR)]), eI 4 (U : Int)]) (fun n1 J U => a0.Frame.ZF.length < n1 + U /\ U <= a0.Frame.ZF.length /\ J.length <= 0 + 1 * U) (a0.Frame.ZF.length + 1) ([] : List Int) 0 (fun p1 J U e1 j1 => ?_) (h0 := wkS [((3, 0), some (6, 0))] [])
 refine cFf e1 ?_ ?_ <;> intro k2 h1 e1
 ·have i1 := ix h1
  have m2 := ml a0.Frame.ZF (k2 10 _ rfl)
  have c1 := sl 2330624 a0.Frame.ZF u0
  have w1 := wr U
  simp [i1, ZD]
  refine rpS ?_
  refine cRs (Sp a0.YO (nth a0.Frame.ZF U).Id) ?_
  refine cGs (fun gg => (jB a0.Frame (nth a0.Frame.ZF U).Key)) ?_
  refine cF e1 ?_ ?_ <;> intro k3 h2 e1
  ·exact nx2 e1 (hw := XA [((3, 0), some (37, 0))] [] rfl (by simp [w1]))
  exact ny2 w1 e1
 have c2 := sl 2330624 a0.Frame.ZF u0
 have f := ms f e1
 exact rtD [.tmp 2] f
theorem Qi {a b : Prop} (h : b) (k : a := by (intros; first | omega | with_unfolding_all (first | first | omega | (have f0 : 0 <= (ZB a0 a1).1 := (by first | omega | (simp at *; omega)); have fi := YG a0 a1 f0; omega) | (have f0 : 0 <= (ZB a0 a1).1 := (by first | omega | (simp at *; omega)); have fi := YG a0 a1 f0; have ll := y0 (nth a0.ZA (ZB a0 a1).1.toNat) (Zf a0.Frame.Methods a0.Frame.Now); omega) | (have fl := JR a0; have fm := Yk (Zu.Y5 (ZG.Yp u0)); (try dsimp only at *); omega)) | ((try simp only [XL, show ∀ x, IntKind.i64.wrap x = W x from fun _ => rfl] at *); omega))) : a /\ b := ⟨k, h⟩
theorem R7 (a0 : ZG) (a1 : Int) (a2 : Int) (u0 : Sm 2310144 a0) : Sd 109 [a0.row, rI a1, rI a2] [(Jp a0 a1 a2).1.row, rB (Jp a0 a1 a2).2] := by
 have f := me (Jp.eq_1 a0 a1 a2)
 refine soD func109 ntmps109 ?_
 refine cDs [false, false, false, true, true, false, false, true, false, false, true, false] (Xt a0 (sg u0)) ?_
 refine cRs (Uy a0 a1) ?_
 refine cRs (y7 a0.Frame.Methods a0.Frame.Now) ?_
 refine cRs (YR.rd (Uk a0 (sg u0))) ?_
 refine cGs (fun gg => (Sp a0.YF a1)) ?_
 refine cFt f ?_ ?_ <;> intro k1 h1 f
 ·exact rtD [.cell 6 33, .tmp 7] f
 have i1 : (ZB a0 a1).1.toNat < a0.ZA.length := by first | omega | (have f0 : 0 <= (ZB a0 a1).1 := (by first | omega | (simp at *; omega)); have fi := YG a0 a1 f0; omega) | (have f0 : 0 <= (ZB a0 a1).1 := (by first | omega | (simp at *; omega)); have fi := YG a0 a1 f0; have ll := y0 (nth a0.ZA (ZB a0 a1).1.toNat) (Zf a0.Frame.Methods a0.Frame.Now); omega)
 simp [i1, ZD]
 repeat with_reducible refine Qi ?_
 refine cR (YR.rd (kg (nth a0.ZA (ZB a0 a1).1.toNat) (Zf a0.Frame.Methods a0.Frame.Now) (sg (Z3 (ZG.YA u0))))) ?_
 have i2 : (ZB a0 a1).2.toNat < (YW (nth a0.ZA (ZB a0 a1).1.toNat) (Zf a0.Frame.Methods a0.Frame.Now)).length := by first | omega | (have f0 : 0 <= (ZB a0 a1).1 := (by first | omega | (simp at *; omega)); have fi := YG a0 a1 f0; omega) | (have f0 : 0 <= (ZB a0 a1).1 := (by first | omega | (simp at *; omega)); have fi := YG a0 a1 f0; have ll := y0 (nth a0.ZA (ZB a0 a1).1.toNat) (Zf a0.Frame.Methods a0.Frame.Now); omega)
 have i3 : (ZB a0 a1).2.toNat < (nth a0.ZA (ZB a0 a1).1.toNat).ZC.length := by first | omega | (have f0 : 0 <= (ZB a0 a1).1 := (by first | omega | (simp at *; omega)); have fi := YG a0 a1 f0; omega) | (have f0 : 0 <= (ZB a0 a1).1 := (by first | omega | (simp at *; omega)); have fi := YG a0 a1 f0; have ll := y0 (nth a0.ZA (ZB a0 a1).1.toNat) (Zf a0.Frame.Methods a0.Frame.Now); omega)
 simp [i2, ZD, i1, i3]
 repeat with_reducible refine Qi ?_
 refine lp2 (QX.eq_2 a0 a1 a2) (fun J U => Yn 140 [eI 2 a2, eX 3 (a0.row.map .d), (6, .one (.bptr 6 0), [.box [.nil 5, .nil 3, .nil 4, .d (.int .i64 0), .d (.int .i64 0), .nil 7, .nil 1, .nil 2, .nil 1, .nil 1, .d (.int .i64 0), .nil 1]]), (8, .one (.bptr 8 0), [.box [.sref 21 0 0 a0.Frame.Zq.length, .sref 21 1 0 a0.Frame.ZF.length, .sref 21 2 0 a0.Frame.Methods.length, .d (.int .i64 a0.Frame.KE), .d (.int .i64 a0.Frame.Now), .sref 21 5 0 a0.ZM.length, .sref 21 6 0 a0.Zy.length, .sref 21 7 0 a0.ZA.length, .sref 21 8 0 a0.Yb.length, .sref 21 9 0 a0.YO.length, .d (.int .i64 a0.Next), .sref 21 11 0 a0.YF.length]]), eI 9 (ZB a0 a1).1, eI 10 (ZB a0 a1).2, eL 12 1 (YK a0) iR, eI 13 (nth (YW (nth a0.ZA (ZB a0 a1).1.toNat) (Zf a0.Frame.Methods a0.Frame.Now)) (ZB a0 a1).2.toNat), (14, .one (.bptr 14 0), [.box [.d (.int .i64 ((nth (nth a0.ZA (ZB a0 a1).1.toNat).ZC (ZB a0 a1).2.toNat).ZJ.ZL.length : Int)), .d (.int .i64 (Zf a0.Frame.Methods a0.Frame.Now)), .d (.int .i64 (nth (YW (nth a0.ZA (ZB a0 a1).1.toNat) (Zf a0.Frame.Methods a0.Frame.Now)) (ZB a0 a1).2.toNat)), .nil 2, .sref 14 5 0 U.length], .none, .none, .none, .none, .arr false 5 (U.map Zp.row)]), eI 15 (J : Int), (21, .any, [.arr false 5 (a0.Frame.Zq.map XD.row), .arr false 3 (a0.Frame.ZF.map Zw.row), .arr false 4 (a0.Frame.Methods.map YE.row), .none, .none, .arr false 7 (a0.ZM.map Yi.row), .arr false 1 (a0.Zy.map iR), .arr true 2 (a0.ZA.map ZE.row), .arr false 1 (a0.Yb.map iR), .arr false 1 (a0.YO.map iR), .none, .arr false 1 (a0.YF.map iR)])]) (fun n1 J U => (YK a0).length < n1 + J /\ J <= (YK a0).length /\ U.length <= 0 + 1 * J) ((YK a0).length + 1) 0 ([] : List Zp) (fun p1 J U e1 j1 => ?_) (h0 := wkS [((14, 5), none)] [])
 try dsimp only at j1
 refine cF e1 ?_ ?_ <;> intro k3 h2 e1
 ·have i4 := ix h2
  have m2 := ml (YK a0) (k3 12 _ rfl)
  have w1 := wr J
  refine dIo mixed ?_
  simp [i4, ZD]
  repeat with_reducible refine Qi ?_
  refine cRs (kr a0.Frame.Zq a0.Frame.ZF (Zp.mk (nth (YK a0) J) 0 a2 (nth (YW (nth a0.ZA (ZB a0 a1).1.toNat) (Zf a0.Frame.Methods a0.Frame.Now)) (ZB a0 a1).2.toNat) 0) (sg (Zu.JK (ZG.Yp u0))) (sg (Zu.Y5 (ZG.Yp u0)))) ?_
  refine cFt e1 ?_ ?_ <;> intro k5 h3 e1
  ·have f := ms f e1
   exact rtD [.cell 6 33, .tmp 7] f
  simp
  repeat with_reducible refine Qi ?_
  exact nx2 e1 (hw := XA [((14, 5), some (111, 0))] [] rfl (by simp [w1]))
 have f := ms f e1
 refine dIo mixed ?_
 simp [i1, ZD, i3]
 repeat with_reducible refine Qi ?_
 refine cDs [] (Uc (nth (nth a0.ZA (ZB a0 a1).1.toNat).ZC (ZB a0 a1).2.toNat).ZJ (Zb.mk ((nth (nth a0.ZA (ZB a0 a1).1.toNat).ZC (ZB a0 a1).2.toNat).ZJ.ZL.length : Int) (Zf a0.Frame.Methods a0.Frame.Now) (nth (YW (nth a0.ZA (ZB a0 a1).1.toNat) (Zf a0.Frame.Methods a0.Frame.Now)) (ZB a0 a1).2.toNat) ([] : List XY) U) (by first | (have fl := JR a0; have fm := Yk (Zu.Y5 (ZG.Yp u0)); simp [Yx]; omega) | (refine ZN (n := 2310144) (by decide) ?_; simp (maxDischargeDepth := 12) [u0]; done)) (by first | (have fl := JR a0; have fm := Yk (Zu.Y5 (ZG.Yp u0)); simp [Yx]; omega) | (refine ZN (n := 2310144) (by decide) ?_; simp (maxDischargeDepth := 12) [u0]; done))) ?_
 refine drJ [] mixed ?_
 simp [i1, ZD, i3]
 repeat with_reducible refine Qi ?_
 refine wR (t := 21) (j := 7) (i := (ZB a0 a1).1.toNat) (c := 1) (k' := (ZB a0 a1).2.toNat) (q := 14) (n := 16) (size := 2) (s := ((nth a0.ZA (ZB a0 a1).1.toNat).ZC.map ZV.row)) (rows := (a0.ZA.map ZE.row)) (ds := (Xz (nth (nth a0.ZA (ZB a0 a1).1.toNat).ZC (ZB a0 a1).2.toNat).ZJ (Zb.mk ((nth (nth a0.ZA (ZB a0 a1).1.toNat).ZC (ZB a0 a1).2.toNat).ZJ.ZL.length : Int) (Zf a0.Frame.Methods a0.Frame.Now) (nth (YW (nth a0.ZA (ZB a0 a1).1.toNat) (Zf a0.Frame.Methods a0.Frame.Now)) (ZB a0 a1).2.toNat) ([] : List XY) U)).1.row) (L := [(125, 0), (125, 1)]) rfl rfl rfl rfl (by simp; rfl) (by simp) (by simp) (by simp [i1, i3]) (by simp [ZD, Z9, i1, i3]) (by simp [i1, i3]) (by simp) (by simp) (by simp) (by simp) (by simp) (by simp) ?_
 simp [Y4 (x := (ZE.mk (nth a0.ZA (ZB a0 a1).1.toNat).Id ((nth a0.ZA (ZB a0 a1).1.toNat).ZC.set (ZB a0 a1).2.toNat (ZV.mk (nth (nth a0.ZA (ZB a0 a1).1.toNat).ZC (ZB a0 a1).2.toNat).Id (nth (nth a0.ZA (ZB a0 a1).1.toNat).ZC (ZB a0 a1).2.toNat).Yr (nth (nth a0.ZA (ZB a0 a1).1.toNat).ZC (ZB a0 a1).2.toNat).Doc (nth (nth a0.ZA (ZB a0 a1).1.toNat).ZC (ZB a0 a1).2.toNat).Sig (Xz (nth (nth a0.ZA (ZB a0 a1).1.toNat).ZC (ZB a0 a1).2.toNat).ZJ (Zb.mk ((nth (nth a0.ZA (ZB a0 a1).1.toNat).ZC (ZB a0 a1).2.toNat).ZJ.ZL.length : Int) (Zf a0.Frame.Methods a0.Frame.Now) (nth (YW (nth a0.ZA (ZB a0 a1).1.toNat) (Zf a0.Frame.Methods a0.Frame.Now)) (ZB a0 a1).2.toNat) ([] : List XY) U)).1)))) rfl, ZD, Z9, i1, i3]
 repeat with_reducible refine Qi ?_
 exact rtD [.cell 6 33, .tmp 7] f
end Go.Proofs.YthjkhlcbpfnobaaGreat
