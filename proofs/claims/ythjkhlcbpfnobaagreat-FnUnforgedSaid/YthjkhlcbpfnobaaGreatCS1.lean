/- Contracts of the functions Mj the abstract machine, part S1. No condition. -/
import Derived.Test.YthjkhlcbpfnobaaGreatL
import Derived.Test.YthjkhlcbpfnobaaGreatTy
namespace Go.Proofs.YthjkhlcbpfnobaaGreat
open Tryz
open Go.Vm Go.Mo
set_option maxHeartbeats 1000000
set_option maxRecDepth 100000
set_option linter.unusedSimpArgs false
set_option linter.unusedVariables false
variable {a b : Prop}
theorem Ae (a0 : List UInt8) : Mx prog 55 [rL 1 bR a0] (VE a0).row := by
 have f := me (VE.eq_1 a0)
 refine uE func55 rfl zAU ?_
 simp [ntmps55]
 refine lp2 (LN.eq_2 a0) (fun J U => Yq 32 [eL 0 1 a0 bR, eI 3 J, eI 4 (U : Int)]) (fun n1 J U => 4000 < n1 + U) 4001 (W (193017 + (a0.length : Int))) 0 (fun p1 J U e1 j1 => ?_)
 refine cFf e1 ?_ ?_ <;> intro k2 h1 e1
 ·have i1 : U < a0.length := zBq
  have m2 := ml a0 (k2 0 _ rfl)
  have w1 := wr U
  simp [i1, ZE]
  refine rpS ?_
  exact ny2 w1 e1
 have f := ms f e1
 refine nZ 31 (rv := [.tmp 2]) rfl ?_
 simp [f.h]
theorem Ul (a0 : YD) : xl prog 139 false a0.row [] (YY a0).1.row [rI (YY a0).2] := by
 have f := me (YY.eq_1 a0)
 refine yi func139 rfl zAU (fun v => ?_)
 simp [ntmps139]
 refine dIs mixed ?_
 refine dIs mixed ?_
 refine cF f ?_ ?_ <;> intro k3 h1 f
 ·refine okD fun k4 => ?_
  refine dIo mixed ?_
  have i1 := ik a0.i a0.b
  simp [i1, ZE]
  refine rpS ?_
  refine qF (rv := [.tmp 2]) rfl ?_
  first | (have w0 := wr a0.i (by have z := ml a0.b (k3 32 _ rfl); simp at h1; omega); simp [f.h, w0]; done) | simp [f.h]
 refine qF (rv := [.tmp 2]) rfl ?_
 first | (have w0 := wr a0.i (by have z := ml a0.b (k3 32 _ rfl); simp at h1; omega); simp [f.h, w0]; done) | simp [f.h]
theorem Y5 (a0 : YD) (a1 : Int) : xl prog 57 false a0.row [rI a1] (ZH a0 a1).1.row [rI (ZH a0 a1).2] := by
 have f := me (ZH.eq_1 a0 a1)
 refine yi func57 rfl zAU (fun v => ?_)
 simp [ntmps57]
 refine cF f ?_ ?_ <;> intro k1 h1 f
 ·refine qF (rv := [.tmp 4]) rfl ?_
  simp [f.h]
 refine cF f ?_ ?_ <;> intro k2 h2 f
 ·refine cBs [] (Ul a0) ?_
  refine qF (rv := [.tmp 4]) rfl ?_
  simp [f.h]
 refine cBs [] (Ul a0) ?_
 refine cBs [] (Ul (YY a0).1) ?_
 refine cBs [] (Ul (YY (YY a0).1).1) ?_
 refine qF (rv := [.tmp 4]) rfl ?_
 simp [f.h]
theorem Hm (a0 : Int) (a1 : Int) : Sa 136 [rI a0, rI a1] [rI (xn a0 a1)] := by
 have f := me (xn.eq_1 a0 a1)
 refine so func136 ntmps136 ?_
 refine cF f ?_ ?_ <;> intro k1 h1 f
 ·exact rt [.tmp 4] f
 exact rt [.tmp 4] f
theorem C6 (a0 : Int) (a1 : Int) : Sa 135 [rI a0, rI a1] [rI (Wn a0 a1)] := by
 have f := me (Wn.eq_1 a0 a1)
 refine so func135 ntmps135 ?_
 refine cF f ?_ ?_ <;> intro k1 h1 f
 ·exact rt [.tmp 4] f
 exact rt [.tmp 4] f
theorem U6 : Sd 121 [] [rL 5 Yw.row yL] := by
 have f := me (yL.eq_1)
 refine soD func121 ntmps121 ?_
 exact rtD [.tmp 0] f
theorem Pl : Sd 122 [] [rL 3 Zf.row YK] := by
 have f := me (YK.eq_1)
 refine soD func122 ntmps122 ?_
 exact rtD [.tmp 0] f
theorem Dn : Sd 137 [] [rL 4 Z8.row WC] := by
 have f := me (WC.eq_1)
 refine soD func137 ntmps137 ?_
 exact rtD [.tmp 0] f
theorem KK (a0 : List Yw) (a1 : Int) : Sa 181 [rL 5 Yw.row a0, rI a1] [rI (Yc a0 a1)] := by
 have f := me (Yc.eq_1 a0 a1)
 refine so func181 ntmps181 ?_
 refine lp1 (jm.eq_2 a0 a1) (fun J => Yq 20 [eL 0 5 a0 Yw.row, eI 1 a1, eI 5 (J : Int)]) (fun n1 J => a0.length < n1 + J /\ J <= a0.length) (a0.length + 1) 0 (fun p1 J e1 j1 => ?_)
 refine cFf e1 ?_ ?_ <;> intro k2 h1 e1
 ·have i1 := ix h1
  have m2 := ml a0 (k2 0 _ rfl)
  have w1 := wr J
  simp [i1, ZE]
  refine rpS ?_
  refine cF e1 ?_ ?_ <;> intro k3 h2 e1
  ·exact rt [.tmp 4] (ms f e1)
  exact ny1 w1 e1
 exact rt [.tmp 4] (ms f e1)
theorem Y4 (a0 : Int) (a1 : Int) (a2 : Int) : Sa 97 [rI a0, rI a1, rI a2] [rB (YU a0 a1 a2)] := by
 have f := me (YU.eq_1 a0 a1 a2)
 refine so func97 ntmps97 ?_
 exact rt [.tmp 6] f
theorem EH (a0 : YX) : Sa 332 [a0.row] [(kr a0).row] := by
 have f := me (kr.eq_1 a0)
 refine so func332 ntmps332 ?_
 exact rt [.cell 2 59] f
theorem Wr (a0 : Int) : Sa 273 [rI a0] [rB (Wg a0)] := by
 have f := me (Wg.eq_1 a0)
 refine so func273 ntmps273 ?_
 refine cRs (Y4 a0 0 10000) ?_
 exact rt [.tmp 2] f
theorem Bq (a0 : Zg) : Sa 331 [a0.row] [rB (PH a0)] := by
 have f := me (PH.eq_1 a0)
 refine so func331 ntmps331 ?_
 refine cRs (Wr a0.X5) ?_
 refine cGs (fun gg => (Wr a0.To)) ?_
 exact rt [.tmp 2] f
theorem Ch (a0 : YX) : Sa 290 [a0.row] [rB (Rk a0)] := by
 have f := me (Rk.eq_1 a0)
 refine so func290 ntmps290 ?_
 refine cRs (Y4 a0.Zd 1 999) ?_
 refine cGs (fun gg => (Y4 a0.Key 1 99)) ?_
 refine cGs (fun gg => (Y4 a0.Z1 1 99)) ?_
 refine cGs (fun gg => (Y4 a0.kW 0 99)) ?_
 refine cGs (fun gg => (EH a0)) ?_
 refine cGs (fun gg => (Bq (kr a0))) ?_
 exact rt [.tmp 2] f
theorem OO (a0 : YX) : Sd 291 [a0.row] [rL 1 iR (yH a0)] := by
 have f := me (yH.eq_1 a0)
 refine soD func291 ntmps291 ?_
 exact rtD [.tmp 2] f
theorem tP (a0 : Int) (a1 : Int) : Sa 350 [rI a0, rI a1] [rI (BG a0 a1)] := by
 have f := me (BG.eq_1 a0 a1)
 refine so func350 ntmps350 ?_
 refine cRs (Y4 a1 1 1000000000000) ?_
 refine cFo f ?_ ?_ <;> intro k1 h1 f
 ·have q1 := h1; try simp [YU] at q1
  simp
  exact rt [.tmp 4] f
 have q1 := h1; try simp [YU] at q1
 simp
 refine rpS ?_
 exact rt [.tmp 4] f
theorem Ew (a0 : List Int) : Sa 334 [rL 1 iR a0] [rI (Md a0)] := by
 have f := me (Md.eq_1 a0)
 refine so func334 ntmps334 ?_
 refine lp2 (Ry.eq_2 a0) (fun J U => Yq 22 [eL 0 1 a0 iR, eI 3 J, eI 4 (U : Int)]) (fun n1 J U => a0.length < n1 + U /\ U <= a0.length) (a0.length + 1) 11 0 (fun p1 J U e1 j1 => ?_)
 refine cFf e1 ?_ ?_ <;> intro k2 h1 e1
 ·have i1 := ix h1
  have m2 := ml a0 (k2 0 _ rfl)
  have w1 := wr U
  simp [i1, ZE]
  refine rpS ?_
  refine cRs (tP (nth a0 U) 2147483647) ?_
  exact ny2 w1 e1
 exact rt [.tmp 2] (ms f e1)
theorem RQ (a0 : Int) (a1 : List Int) (u0 : Sm 2330624 a1) : Sa 298 [rI a0, rL 1 iR a1] [rI (yy a0 a1)] := by
 have f := me (yy.eq_1 a0 a1)
 have c1 := sl 2330624 a1 u0
 refine so func298 ntmps298 ?_
 refine cRs (Ew ((([a0] : List Int) ++ a1) ++ ([a0] : List Int))) ?_
 exact rt [.tmp 4] f
theorem WR (a0 : Yw) (a1 : List Int) (u0 : Sm 2326528 a1) : Sa 270 [a0.row, rL 1 iR a1] [rI (xr a0 a1)] := by
 have f := me (xr.eq_1 a0 a1)
 refine so func270 ntmps270 ?_
 refine Hk [2, 3, 4, 5, 6, 0, 1, 7, 8] mixed zAU zAU zAU ?_
 have c1 := sl 2326528 a1 u0
 simp
 refine rpS ?_
 refine cRs (RQ a0.Rn (([a0.Method] : List Int) ++ a1) zAo) ?_
 exact rt [.tmp 4] f
theorem Vv (a0 : List Yw) (a1 : YX) (u0 : Sm 2322432 a0) : Sa 215 [rL 5 Yw.row a0, a1.row] [(jo a0 a1).1.row, rB (jo a0 a1).2] := by
 have f := me (jo.eq_1 a0 a1)
 refine so func215 ntmps215 ?_
 refine cRs (KK a0 a1.Z1) ?_
 refine cRs (Ch a1) ?_
 refine cGs (fun gg => (KK a0 a1.Key)) ?_
 refine cF f ?_ ?_ <;> intro k1 h1 f
 ·exact rt _ f
 refine dIo mixed ?_
 have i1 : (Yc a0 a1.Z1).toNat < a0.length := by have := KO a0 a1.Z1; exact il
 simp [i1, ZE]
 refine rpS ?_
 refine cRs (YV.rd (OO a1)) ?_
 refine cRs (WR (nth a0 (Yc a0 a1.Z1).toNat) (yH a1) (by simp (maxDischargeDepth := 12) [OQ]; try omega)) ?_
 exact rt _ f
theorem DN : Sd 138 [] [rL 7 YX.row ji] := by
 have f := me (ji.eq_1)
 refine soD func138 ntmps138 ?_
 refine cRs (YV.rd (U6)) ?_
 refine cRs (Vv yL (YX.mk 1 11 1 0 60 1 0) zBZ) ?_
 refine cRs (YV.rd (U6)) ?_
 refine cRs (Vv yL (YX.mk 2 12 1 20 100 1 0) zBZ) ?_
 refine cRs (YV.rd (U6)) ?_
 refine cRs (Vv yL (YX.mk 3 13 2 40 150 2 0) zBZ) ?_
 exact rtD [.tmp 0] f
theorem Fk (a0 : Int) : Sd 56 [rI a0] [(QD a0).row] := by
 have f := me (QD.eq_1 a0)
 refine soD func56 ntmps56 ?_
 refine cRs (Hm 0 a0) ?_
 refine cRs (C6 1 (xn 0 a0)) ?_
 refine cDs [false] (U6) ?_
 refine cDs [false] (Pl) ?_
 refine cDs [false] (Dn) ?_
 refine cDs [false] (DN) ?_
 refine vL (news := (([(ZD.mk 0 ([] : List ZQ)), (ZD.mk 1 ([] : List ZQ))] : List ZD).map ZD.row)) (L := []) rfl rfl rfl rfl zAF zAF zAF zAF zAF zAF ?_
 simp
 refine cF f ?_ ?_ <;> intro k1 h1 f
 ·exact rtD _ f
 exact rtD _ f
theorem BK (a0 : YD) (a1 : Int) : xl prog 124 false a0.row [rI a1] (YB a0 a1).1.row [rB (YB a0 a1).2] := by
 have f := me (YB.eq_1 a0 a1)
 refine yi func124 rfl zAU (fun v => ?_)
 simp [ntmps124]
 refine cBs [] (Y5 a0 a1) ?_
 refine qF (rv := [.tmp 4]) rfl ?_
 simp [f.h]
theorem Ai (h : b) (k : a := by (intros; first | omega | with_unfolding_all (first | first | omega | (have z := Qn a0 (a1.length : Int); omega)) | ((try simp only [Y9, show ∀ x, IntKind.i64.wrap x = W x from fun _ => rfl] at *); omega))) : a /\ b := ⟨k, h⟩
theorem J9 (a0 : YD) (a1 : List Int) (u0 : 0 < a1.length) : xl prog 72 false a0.row [rL 1 iR a1] (Z5 a0 a1).1.row [rI (Z5 a0 a1).2] := by
 have f := me (Z5.eq_1 a0 a1)
 refine yi func72 rfl zAU (fun v => ?_)
 simp [ntmps72]
 refine cBo [] (Y5 a0 (a1.length : Int)) ?_
 have i1 : (ZH a0 (a1.length : Int)).2.toNat < a1.length := by (have z := Qn a0 (a1.length : Int); omega)
 simp [i1, ZE]
 repeat with_reducible refine Ai ?_
 refine qF (rv := [.tmp 4]) rfl ?_
 simp [f.h]
theorem wC (h : b) (k : a := by (intros; first | omega | with_unfolding_all (first | first | omega | (have z := Qn a0 (a1.length : Int); omega)) | ((try simp only [Y9, show ∀ x, IntKind.i64.wrap x = W x from fun _ => rfl] at *); omega))) : a /\ b := ⟨k, h⟩
theorem wP (a0 : YD) (a1 : List ByteArray) (u0 : 0 < a1.length) : xl prog 297 false a0.row [rL 1 sR a1] (PY a0 a1).1.row [rS (PY a0 a1).2] := by
 have f := me (PY.eq_1 a0 a1)
 refine yi func297 rfl zAU (fun v => ?_)
 simp [ntmps297]
 refine cBo [] (Y5 a0 (a1.length : Int)) ?_
 have i1 : (ZH a0 (a1.length : Int)).2.toNat < a1.length := by (have z := Qn a0 (a1.length : Int); omega)
 simp [i1, ZE]
 repeat with_reducible refine wC ?_
 refine qF (rv := [.tmp 4]) rfl ?_
 simp [f.h]
theorem B7 (a0 : YD) : xl prog 225 false a0.row [] (yV a0).1.row [rS (yV a0).2] := by
 have f := me (yV.eq_1 a0)
 refine yi func225 rfl zAU (fun v => ?_)
 simp [ntmps225]
 refine TA [(4, 0)] rfl zAF ?_
 refine cBs [] (wP a0 ([(⟨#[]⟩ : ByteArray), (⟨#[97]⟩ : ByteArray), (⟨#[98]⟩ : ByteArray), (⟨#[97, 98]⟩ : ByteArray), (⟨#[121, 101, 115]⟩ : ByteArray), (⟨#[110, 111]⟩ : ByteArray), (⟨#[111, 110, 101, 32, 104, 117, 110, 100, 114, 101, 100]⟩ : ByteArray)] : List ByteArray) zAW) ?_
 refine qF (rv := [.tmp 2]) rfl ?_
 simp [f.h]
theorem W1 (a0 : ZN) : Sa 287 [a0.row] [rB (K2 a0)] := by
 have f := me (K2.eq_1 a0)
 refine so func287 ntmps287 ?_
 refine lp1 (yR.eq_2 a0) (fun J => Yq 51 [eX 1 (a0.row.map .d), eI 3 (J : Int)]) (fun n1 J => a0.Xn.length < n1 + J /\ J <= a0.Xn.length) (a0.Xn.length + 1) 0 (fun p1 J e1 j1 => ?_)
 refine cFf e1 ?_ ?_ <;> intro k2 h1 e1
 ·have i1 := ix h1
  have m2 := ml a0.Xn (k2 7 _ rfl)
  have w1 := wr J
  simp [i1, ZE]
  refine rpS ?_
  refine cF e1 ?_ ?_ <;> intro k3 h2 e1
  ·exact rt [.tmp 2] (ms f e1)
  exact ny1 w1 e1
 have f := ms f e1
 refine lp1 (yO.eq_2 a0) (fun m0 => Yq 51 [eX 1 (a0.row.map .d), eI 4 (m0 : Int)]) (fun n2 m0 => a0.KW.length < n2 + m0 /\ m0 <= a0.KW.length) (a0.KW.length + 1) 0 (fun p2 m0 e2 j2 => ?_)
 refine cFf e2 ?_ ?_ <;> intro k5 h3 e2
 ·have i2 := ix h3
  have m4 := ml a0.KW (k5 21 _ rfl)
  have w2 := wr m0
  simp [i2, ZE]
  refine rpS ?_
  refine cRs (Y4 (nth a0.KW m0) 1 1000000000000) ?_
  refine cFo e2 ?_ ?_ <;> intro k6 h4 e2
  ·have q4 := h4; try simp [YU] at q4
   have f := ms f e2
   simp
   exact rt [.tmp 2] f
  have q4 := h4; try simp [YU] at q4
  simp
  exact ny1 w2 e2
 have f := ms f e2
 refine cRs (Y4 a0.UG 0 999) ?_
 refine cGs (fun gg => (Y4 (a0.Xn.length : Int) 1 6)) ?_
 exact rt [.tmp 2] f
theorem IG (a0 : Int) : Sa 299 [rI a0] [rB (j0 a0)] := by
 have f := me (j0.eq_1 a0)
 refine so func299 ntmps299 ?_
 refine cRs (Y4 a0 1 2147483646) ?_
 exact rt [.tmp 2] f
theorem NJ (a0 : Int) (a1 : List ByteArray) (a2 : Int) (u0 : Sm 2326528 a1) : Sd 226 [rI a0, rL 1 sR a1, rI a2] [(yT a0 a1 a2).1.row, rB (yT a0 a1 a2).2] := by
 have f := me (yT.eq_1 a0 a1 a2)
 have c1 := sl 2326528 a1 u0
 refine soD func226 ntmps226 ?_
 refine lp2 (yo.eq_2 a0 a1 a2) (fun J U => Yq 42 [eI 0 a0, eL 1 1 a1 sR, eI 2 a2, (6, .one (.bptr 6 0), [.box [.d (.int .i64 0), .nil 1, .nil 1]]), (8, .one (.bptr 8 0), [.box [.d (.int .i64 a0), .sref 13 0 0 a1.length, .sref 8 3 0 U.length], .none, .none, .arr false 1 (U.map iR)]), eI 9 (J : Int), (13, .any, [.arr false 1 (a1.map sR)])]) (fun n1 J U => a1.length < n1 + J /\ J <= a1.length /\ U.length <= 0 + 1 * J) (a1.length + 1) 0 ([] : List Int) (fun p1 J U e1 j1 => ?_) (h0 := wkS [((8, 3), none)] [])
 refine cF e1 ?_ ?_ <;> intro k2 h1 e1
 ·have i1 := ix h1
  have m2 := ml a1 (k2 1 _ rfl)
  have w1 := wr J
  refine dIs mixed ?_
  refine cRs (RQ a2 ([a0, (J : Int)] : List Int) (by simp (maxDischargeDepth := 12) [kl, XD, ZM (m := 2330624) zAE u0]; try omega)) ?_
  refine cRs (Hm 1 (yy a2 ([a0, (J : Int)] : List Int))) ?_
  exact nx2 e1 (hw := XI [((8, 3), some (30, 0))] [] rfl zAb)
 have f := ms f e1
 refine cRs (W1 (ZN.mk a0 a1 U)) ?_
 refine cGs (fun gg => (IG a2)) ?_
 refine cF f ?_ ?_ <;> intro k4 h2 f
 ·exact rtD [.cell 6 43, .tmp 7] f
 exact rtD [.cell 6 43, .tmp 7] f
theorem Uw (a0 : YD) : xl prog 154 true a0.row [] (Xu a0).1.row [(Xu a0).2.row] := by
 have f := me (Xu.eq_1 a0)
 refine yi func154 rfl zAU (fun v => ?_)
 simp [ntmps154]
 refine cBs [] (Y5 a0 3) ?_
 refine lp5 (WE.eq_2) (fun J U mz lG lh => Yq 28 [(0, .fix v (.one (.bptr 0 0)), [.box [.d (.sl 1 (mz.map bR)), .d (.int .i64 (lG : Int)), .d (.int .i64 lh)]]), (2, .one (.bptr 2 0), [.box [.d (.int .i64 0), .nil 1, .nil 1]]), (3, .one (.sref 3 0 0 J.length), [.arr false 1 (J.map sR)]), eI 4 U]) (fun n1 J U mz lG lh => U + 1 <= (n1 : Int) /\ 0 <= U /\ (J.length : Int) + U <= 3 /\ (∀ x ∈ J, x.size <= 11)) 5 ([] : List ByteArray) (W (1 + (ZH a0 3).2)) (ZH a0 3).1.b (ZH a0 3).1.i (ZH a0 3).1.h (fun p1 J U mz lG lh e1 j1 => ?_) (hI := by (have z := Qn a0 3; (try dsimp only); simp only [Y9, List.length_nil]; refine ⟨zAA, zAA, zAA, zAA, fun x h => by cases h⟩)) (h0 := wkS [((3, 0), some (7, 0))] [])
 try dsimp only at j1
 refine cF e1 ?_ ?_ <;> intro k2 h1 e1
 ·refine cBs [] (B7 (YD.mk mz lG lh)) ?_
  exact nx5 e1 (hI := by (have hh := h1; simp at hh; (try dsimp only); simp only [Y9, List.length_append, List.length_singleton]; refine ⟨zAA, zAA, zAA, zAA, fun x hx => ?_⟩; rcases List.mem_append.1 hx with hx | hx; exact j1.2.2.2.2 x hx; simp at hx; rw [hx]; exact OP _)) (hw := wkS [((3, 0), some (19, 0))] [])
 have f := ms f e1
 refine cBs [] (Y5 (YD.mk mz lG lh) 5) ?_
 refine cDs [true, false, false] (NJ (ZH (YD.mk mz lG lh) 5).2 J 11 (by (exact ⟨zAA, fun x hx => Nat.le_trans (j1.2.2.2.2 x hx) zAE⟩))) ?_
 refine qF (rv := [.cell 2 43]) rfl ?_
 simp [f.h]
theorem TF (a0 : YD) (a1 : Int) : xl prog 216 true a0.row [rI a1] (XP a0 a1).1.row [(XP a0 a1).2.row] := by
 have f := me (XP.eq_1 a0 a1)
 refine yi func216 rfl zAU (fun v => ?_)
 simp [ntmps216]
 refine TA [(7, 0)] rfl zAF ?_
 refine cBs [] (J9 a0 ([0, (-10), 40] : List Int) zAW) ?_
 refine cF f ?_ ?_ <;> intro k1 h1 f
 ·refine cF f ?_ ?_ <;> intro k2 h2 f
  ·refine cF f ?_ ?_ <;> intro k3 h3 f
   ·refine qF (rv := [.cell 4 45]) rfl ?_
    simp [f.h]
   refine qF (rv := [.cell 4 45]) rfl ?_
   simp [f.h]
  refine cF f ?_ ?_ <;> intro k4 h4 f
  ·refine qF (rv := [.cell 4 45]) rfl ?_
   simp [f.h]
  refine qF (rv := [.cell 4 45]) rfl ?_
  simp [f.h]
 refine cF f ?_ ?_ <;> intro k5 h5 f
 ·refine cF f ?_ ?_ <;> intro k6 h6 f
  ·refine qF (rv := [.cell 4 45]) rfl ?_
   simp [f.h]
  refine qF (rv := [.cell 4 45]) rfl ?_
  simp [f.h]
 refine cF f ?_ ?_ <;> intro k7 h7 f
 ·refine qF (rv := [.cell 4 45]) rfl ?_
  simp [f.h]
 refine qF (rv := [.cell 4 45]) rfl ?_
 simp [f.h]
theorem Iy (a0 : YD) : xl prog 140 true a0.row [] (Zw a0).1.row [rL 9 Zs.row (Zw a0).2] := by
 have f := me (Zw.eq_1 a0)
 refine yi func140 rfl zAU (fun v => ?_)
 simp [ntmps140]
 refine TA [(6, 0)] rfl zAF ?_
 refine cBs [] (J9 a0 ([11, 12] : List Int) zAW) ?_
 refine cBs [] (Uw (Z5 a0 ([11, 12] : List Int)).1) ?_
 refine vL (news := (([(Zs.mk 1 22 0 0 0 (ZN.mk 0 ([] : List ByteArray) ([] : List Int)) ([] : List Int)), (Zs.mk 2 0 (Z5 a0 ([11, 12] : List Int)).2 0 10000 (Xu (Z5 a0 ([11, 12] : List Int)).1).2 ([] : List Int)), (Zs.mk 1 3 0 0 0 (ZN.mk 0 ([] : List ByteArray) ([] : List Int)) ([] : List Int)), (Zs.mk 3 1 0 0 0 (ZN.mk 0 ([] : List ByteArray) ([] : List Int)) ([] : List Int))] : List Zs).map Zs.row)) (L := [(9, 1), (9, 2)]) rfl rfl rfl rfl zAF zAF zAF zAF zAF zAF ?_
 simp
 refine cBs [] (TF (Xu (Z5 a0 ([11, 12] : List Int)).1).1 25) ?_
 refine kb ?_
 simp
 refine W5 (lB := (([(Zs.mk 1 22 0 0 0 (ZN.mk 0 ([] : List ByteArray) ([] : List Int)) ([] : List Int)), (Zs.mk 2 0 (Z5 a0 ([11, 12] : List Int)).2 0 10000 (Xu (Z5 a0 ([11, 12] : List Int)).1).2 ([] : List Int)), (Zs.mk 1 3 0 0 0 (ZN.mk 0 ([] : List ByteArray) ([] : List Int)) ([] : List Int)), (Zs.mk 3 1 0 0 0 (ZN.mk 0 ([] : List ByteArray) ([] : List Int)) ([] : List Int))] : List Zs).map Zs.row)) (news := (([(XP (Xu (Z5 a0 ([11, 12] : List Int)).1).1 25).2, (Zs.mk 1 18 0 0 0 (ZN.mk 0 ([] : List ByteArray) ([] : List Int)) ([] : List Int))] : List Zs).map Zs.row)) (l1 := [(13, 0)]) (l2 := [(16, 6), (16, 7), (16, 8)]) (size := 9) ?_
 simp
 refine cBs [] (TF (XP (Xu (Z5 a0 ([11, 12] : List Int)).1).1 25).1 43) ?_
 refine kb ?_
 simp
 refine W5 (lB := ((([(Zs.mk 1 22 0 0 0 (ZN.mk 0 ([] : List ByteArray) ([] : List Int)) ([] : List Int)), (Zs.mk 2 0 (Z5 a0 ([11, 12] : List Int)).2 0 10000 (Xu (Z5 a0 ([11, 12] : List Int)).1).2 ([] : List Int)), (Zs.mk 1 3 0 0 0 (ZN.mk 0 ([] : List ByteArray) ([] : List Int)) ([] : List Int)), (Zs.mk 3 1 0 0 0 (ZN.mk 0 ([] : List ByteArray) ([] : List Int)) ([] : List Int))] : List Zs) ++ ([(XP (Xu (Z5 a0 ([11, 12] : List Int)).1).1 25).2, (Zs.mk 1 18 0 0 0 (ZN.mk 0 ([] : List ByteArray) ([] : List Int)) ([] : List Int))] : List Zs)).map Zs.row)) (news := (([(XP (XP (Xu (Z5 a0 ([11, 12] : List Int)).1).1 25).1 43).2, (Zs.mk 1 22 0 0 0 (ZN.mk 0 ([] : List ByteArray) ([] : List Int)) ([] : List Int))] : List Zs).map Zs.row)) (l1 := [(19, 0)]) (l2 := [(22, 6), (22, 7), (22, 8)]) (size := 9) ?_
 simp
 refine cBs [] (TF (XP (XP (Xu (Z5 a0 ([11, 12] : List Int)).1).1 25).1 43).1 65) ?_
 refine kb ?_
 simp
 refine W5 (lB := (((([(Zs.mk 1 22 0 0 0 (ZN.mk 0 ([] : List ByteArray) ([] : List Int)) ([] : List Int)), (Zs.mk 2 0 (Z5 a0 ([11, 12] : List Int)).2 0 10000 (Xu (Z5 a0 ([11, 12] : List Int)).1).2 ([] : List Int)), (Zs.mk 1 3 0 0 0 (ZN.mk 0 ([] : List ByteArray) ([] : List Int)) ([] : List Int)), (Zs.mk 3 1 0 0 0 (ZN.mk 0 ([] : List ByteArray) ([] : List Int)) ([] : List Int))] : List Zs) ++ ([(XP (Xu (Z5 a0 ([11, 12] : List Int)).1).1 25).2, (Zs.mk 1 18 0 0 0 (ZN.mk 0 ([] : List ByteArray) ([] : List Int)) ([] : List Int))] : List Zs)) ++ ([(XP (XP (Xu (Z5 a0 ([11, 12] : List Int)).1).1 25).1 43).2, (Zs.mk 1 22 0 0 0 (ZN.mk 0 ([] : List ByteArray) ([] : List Int)) ([] : List Int))] : List Zs)).map Zs.row)) (news := (([(XP (XP (XP (Xu (Z5 a0 ([11, 12] : List Int)).1).1 25).1 43).1 65).2, (Zs.mk 1 20 0 0 0 (ZN.mk 0 ([] : List ByteArray) ([] : List Int)) ([] : List Int))] : List Zs).map Zs.row)) (l1 := [(25, 0)]) (l2 := [(28, 6), (28, 7), (28, 8)]) (size := 9) ?_
 simp
 refine qF (rv := [.tmp 2]) rfl ?_
 simp [f.h]
theorem Fz (h : b) (k : a := by (intros; first | omega | with_unfolding_all (first | first | omega | (have z := Qn (Z5 (ZH (ZH a0 16).1 2).1 ([0, (-10), 40] : List Int)).1 3; omega)) | ((try simp only [Y9, show ∀ x, IntKind.i64.wrap x = W x from fun _ => rfl] at *); omega))) : a /\ b := ⟨k, h⟩
theorem ON (a0 : YD) : xl prog 71 false a0.row [] (Xj a0).1.row [(Xj a0).2.row] := by
 have f := me (Xj.eq_1 a0)
 refine yi func71 rfl zAU (fun v => ?_)
 simp [ntmps71]
 refine cBs [] (Y5 a0 16) ?_
 refine cF f ?_ ?_ <;> intro k1 h1 f
 ·refine cY h1 ?_
  refine TA [(10, 0)] rfl zAF ?_
  refine cBs [] (J9 (ZH a0 16).1 ([1, 5, 10, 20, 30] : List Int) zAW) ?_
  refine qF (rv := [.cell 2 45]) rfl ?_
  simp [f.h]
 refine cF f ?_ ?_ <;> intro k2 h2 f
 ·refine cY h2 ?_
  refine TA [(10, 0)] rfl zAF ?_
  refine cBs [] (J9 (ZH a0 16).1 ([1, 5, 10, 20, 30] : List Int) zAW) ?_
  refine qF (rv := [.cell 2 45]) rfl ?_
  simp [f.h]
 refine cF f ?_ ?_ <;> intro k3 h3 f
 ·refine TA [(10, 0)] rfl zAF ?_
  refine cBs [] (J9 (ZH a0 16).1 ([1, 5, 10, 20, 30] : List Int) zAW) ?_
  refine qF (rv := [.cell 2 45]) rfl ?_
  simp [f.h]
 refine cF f ?_ ?_ <;> intro k4 h4 f
 ·refine cY h4 ?_
  refine cBs [] (Y5 (ZH a0 16).1 2) ?_
  refine TA [(19, 0)] rfl zAF ?_
  refine cBs [] (J9 (ZH (ZH a0 16).1 2).1 ([11, 12, 13] : List Int) zAW) ?_
  refine TA [(22, 0)] rfl zAF ?_
  refine cBs [] (J9 (Z5 (ZH (ZH a0 16).1 2).1 ([11, 12, 13] : List Int)).1 ([30, 10000] : List Int) zAW) ?_
  refine cBs [] (Uw (Z5 (Z5 (ZH (ZH a0 16).1 2).1 ([11, 12, 13] : List Int)).1 ([30, 10000] : List Int)).1) ?_
  refine qF (rv := [.cell 2 45]) rfl ?_
  simp [f.h]
 refine cF f ?_ ?_ <;> intro k5 h5 f
 ·refine cBs [] (Y5 (ZH a0 16).1 2) ?_
  refine TA [(19, 0)] rfl zAF ?_
  refine cBs [] (J9 (ZH (ZH a0 16).1 2).1 ([11, 12, 13] : List Int) zAW) ?_
  refine TA [(22, 0)] rfl zAF ?_
  refine cBs [] (J9 (Z5 (ZH (ZH a0 16).1 2).1 ([11, 12, 13] : List Int)).1 ([30, 10000] : List Int) zAW) ?_
  refine cBs [] (Uw (Z5 (Z5 (ZH (ZH a0 16).1 2).1 ([11, 12, 13] : List Int)).1 ([30, 10000] : List Int)).1) ?_
  refine qF (rv := [.cell 2 45]) rfl ?_
  simp [f.h]
 refine cF f ?_ ?_ <;> intro k6 h6 f
 ·refine cY h6 ?_
  refine cBs [] (Y5 (ZH a0 16).1 3) ?_
  refine qF (rv := [.cell 2 45]) rfl ?_
  simp [f.h]
 refine cF f ?_ ?_ <;> intro k7 h7 f
 ·refine cBs [] (Y5 (ZH a0 16).1 3) ?_
  refine qF (rv := [.cell 2 45]) rfl ?_
  simp [f.h]
 refine cF f ?_ ?_ <;> intro k8 h8 f
 ·refine cBs [] (Y5 (ZH a0 16).1 3) ?_
  refine qF (rv := [.cell 2 45]) rfl ?_
  simp [f.h]
 refine cF f ?_ ?_ <;> intro k9 h9 f
 ·refine cBs [] (Y5 (ZH a0 16).1 2) ?_
  refine cBs [] (Y5 (ZH (ZH a0 16).1 2).1 2) ?_
  refine cBs [] (Y5 (ZH (ZH (ZH a0 16).1 2).1 2).1 3) ?_
  refine qF (rv := [.cell 2 45]) rfl ?_
  simp [f.h]
 refine cF f ?_ ?_ <;> intro bP ev f
 ·refine cBs [] (Y5 (ZH a0 16).1 2) ?_
  refine qF (rv := [.cell 2 45]) rfl ?_
  simp [f.h]
 refine cF f ?_ ?_ <;> intro bg h11 f
 ·refine cBs [] (Y5 (ZH a0 16).1 2) ?_
  refine TA [(59, 0)] rfl zAF ?_
  refine cBs [] (J9 (ZH (ZH a0 16).1 2).1 ([11, 12] : List Int) zAW) ?_
  refine cBs [] (Uw (Z5 (ZH (ZH a0 16).1 2).1 ([11, 12] : List Int)).1) ?_
  refine qF (rv := [.cell 2 45]) rfl ?_
  simp [f.h]
 refine cF f ?_ ?_ <;> intro k12 h12 f
 ·refine cBs [] (Y5 (ZH a0 16).1 4) ?_
  refine TA [(70, 0)] rfl zAF ?_
  refine cBs [] (J9 (ZH (ZH a0 16).1 4).1 ([5, 25, 60] : List Int) zAW) ?_
  refine qF (rv := [.cell 2 45]) rfl ?_
  simp [f.h]
 refine cF f ?_ ?_ <;> intro bh h13 f
 ·refine cBs [] (Y5 (ZH a0 16).1 3) ?_
  refine TA [(79, 0)] rfl zAF ?_
  refine cBs [] (J9 (ZH (ZH a0 16).1 3).1 ([10, 40, 60] : List Int) zAW) ?_
  refine qF (rv := [.cell 2 45]) rfl ?_
  simp [f.h]
 refine cBs [] (Y5 (ZH a0 16).1 2) ?_
 refine TA [(85, 0)] rfl zAF ?_
 refine cBs [] (J9 (ZH (ZH a0 16).1 2).1 ([0, (-10), 40] : List Int) zAW) ?_
 refine cBo [] (Y5 (Z5 (ZH (ZH a0 16).1 2).1 ([0, (-10), 40] : List Int)).1 3) ?_
 simp
 repeat with_reducible refine Fz ?_
 refine qF (rv := [.cell 2 45]) rfl ?_
 simp [f.h]
theorem UU (h : b) (k : a := by (intros; first | omega | with_unfolding_all (first | first | omega | (have z := Qn (Zw (YB a0 2).1).1 (W (((Zw (YB a0 2).1).2.length : Int) + 1)); have z3 := zI (YB a0 2).1; simp only [Y9] at *; omega)) | ((try simp only [Y9, show ∀ x, IntKind.i64.wrap x = W x from fun _ => rfl] at *); omega))) : a /\ b := ⟨k, h⟩
theorem Gg (a0 : YD) (a1 : Int) : xl prog 58 false a0.row [rI a1] (je a0 a1).1.row [rL 9 Zs.row (je a0 a1).2] := by
 have f := me (je.eq_1 a0 a1)
 refine yi func58 rfl zAU (fun v => ?_)
 simp [ntmps58]
 refine eIs ?_
 refine cBs [] (BK a0 2) ?_
 refine cF f ?_ ?_ <;> intro k1 h1 f
 ·refine cBs [] (Iy (YB a0 2).1) ?_
  refine cBo [] (Y5 (Zw (YB a0 2).1).1 (W (((Zw (YB a0 2).1).2.length : Int) + 1))) ?_
  simp
  repeat with_reducible refine UU ?_
  refine cBs [] (Y5 (ZH (Zw (YB a0 2).1).1 (W (((Zw (YB a0 2).1).2.length : Int) + 1))).1 a1) ?_
  refine lp5 (K8.eq_2) (fun J U mz lG lh => Yq 32 [(0, .fix v (.one (.bptr 0 0)), [.box [.d (.sl 1 (mz.map bR)), .d (.int .i64 (lG : Int)), .d (.int .i64 lh)]]), (5, .one (.sref 5 0 0 J.length), [.arr false 9 (J.map Zs.row)]), eI 6 U]) (fun n1 J U mz lG lh => U + 1 <= (n1 : Int) /\ 0 <= U /\ (J.length : Int) + U <= 16777300) ((ZH (ZH (Zw (YB a0 2).1).1 (W (((Zw (YB a0 2).1).2.length : Int) + 1))).1 a1).2.toNat + 2) ((Zw (YB a0 2).1).2.take (ZH (Zw (YB a0 2).1).1 (W (((Zw (YB a0 2).1).2.length : Int) + 1))).2.toNat) (ZH (ZH (Zw (YB a0 2).1).1 (W (((Zw (YB a0 2).1).2.length : Int) + 1))).1 a1).2 (ZH (ZH (Zw (YB a0 2).1).1 (W (((Zw (YB a0 2).1).2.length : Int) + 1))).1 a1).1.b (ZH (ZH (Zw (YB a0 2).1).1 (W (((Zw (YB a0 2).1).2.length : Int) + 1))).1 a1).1.i (ZH (ZH (Zw (YB a0 2).1).1 (W (((Zw (YB a0 2).1).2.length : Int) + 1))).1 a1).1.h (fun p1 J U mz lG lh e1 j1 => ?_) (hI := by (have z := Qn (ZH (Zw (YB a0 2).1).1 (W (((Zw (YB a0 2).1).2.length : Int) + 1))).1 a1; have z2 := MK (ZH (Zw (YB a0 2).1).1 (W (((Zw (YB a0 2).1).2.length : Int) + 1))).1 a1; (try dsimp only); first | (simp only [List.length_nil]; omega) | (have z3 := zI (YB a0 2).1; simp only [List.length_take]; omega))) (h0 := o8 (qq := true) prog false (d := 5) (u := 11) (j := 0) (n := (ZH (Zw (YB a0 2).1).1 (W (((Zw (YB a0 2).1).2.length : Int) + 1))).2.toNat) (size := 9) (rows := ((Zw (YB a0 2).1).2.map Zs.row)) zAF zAF (by simp; first | omega | (have z := Qn (Zw (YB a0 2).1).1 (W (((Zw (YB a0 2).1).2.length : Int) + 1)); have z3 := zI (YB a0 2).1; simp only [Y9] at *; omega)) zAF zAF (Kz zAF))
  try dsimp only at j1
  refine cF e1 ?_ ?_ <;> intro k3 h2 e1
  ·refine cBs [] (ON (YD.mk mz lG lh)) ?_
   refine eIs ?_
   refine evI rfl rfl rfl ?_
   simp
   repeat with_reducible refine UU ?_
   exact nx5 e1 (hI := by (have hh := h2; simp at hh; simp only [Y9]; (try dsimp only); simp only [List.length_append, List.length_cons, List.length_nil]; omega)) (hw := wkS [((5, 0), some (30, 0))] [])
  have f := ms f e1
  refine qF (rv := [.tmp 4]) rfl ?_
  simp [f.h]
 refine cBs [] (Y5 (YB a0 2).1 a1) ?_
 refine lp5 (zF.eq_2) (fun m0 m9 lV lX lq => Yq 32 [(0, .fix v (.one (.bptr 0 0)), [.box [.d (.sl 1 (lV.map bR)), .d (.int .i64 (lX : Int)), .d (.int .i64 lq)]]), (5, .one (.sref 5 0 0 m0.length), [.arr false 9 (m0.map Zs.row)]), eI 6 m9]) (fun n2 m0 m9 lV lX lq => m9 + 1 <= (n2 : Int) /\ 0 <= m9 /\ (m0.length : Int) + m9 <= 16777300) ((ZH (YB a0 2).1 a1).2.toNat + 2) ([] : List Zs) (ZH (YB a0 2).1 a1).2 (ZH (YB a0 2).1 a1).1.b (ZH (YB a0 2).1 a1).1.i (ZH (YB a0 2).1 a1).1.h (fun p2 m0 m9 lV lX lq e2 j2 => ?_) (hI := by (have z := Qn (YB a0 2).1 a1; have z2 := MK (YB a0 2).1 a1; (try dsimp only); first | (simp only [List.length_nil]; omega) | (have z3 := zI (YB a0 2).1; simp only [List.length_take]; omega))) (h0 := wkS [((5, 0), some (7, 0))] [])
 try dsimp only at j2
 refine cF e2 ?_ ?_ <;> intro k5 h3 e2
 ·refine cBs [] (ON (YD.mk lV lX lq)) ?_
  refine eIs ?_
  refine evI rfl rfl rfl ?_
  simp
  repeat with_reducible refine UU ?_
  exact nx5 e2 (hI := by (have hh := h3; simp at hh; simp only [Y9]; (try dsimp only); simp only [List.length_append, List.length_cons, List.length_nil]; omega)) (hw := wkS [((5, 0), some (30, 0))] [])
 have f := ms f e2
 refine qF (rv := [.tmp 4]) rfl ?_
 simp [f.h]
theorem O3 (a0 : List UInt8) : Sa 12 [rL 1 bR a0] [(Zb a0).1.row, rL 9 Zs.row (Zb a0).2] := by
 have f := me (Zb.eq_1 a0)
 refine so func12 ntmps12 ?_
 refine cNs (Ae a0) ?_
 refine cBs [] (Y5 (VE a0) 2) ?_
 refine cDs [false, false, false, true, true, false, false, true, false, false, true, false] (Fk (ZH (VE a0) 2).2) ?_
 refine wW [(2, 2), (4, 7), (5, 5), (12, 7)] [] [13, 3000001] mixed zAU zAU zAU zAU zAU zAU zAU ?_
 simp
 refine cBs [] (Gg (ZH (VE a0) 2).1 12) ?_
 exact rt _ f
theorem FW (a0 : ZX) (u0 : Sm 2342912 a0) : Sd 200 [a0.row] [(Ou a0).row] := by
 have f := me (Ou.eq_1 a0)
 have c1 := sl 2342912 a0.Zo u0
 have c2 := sl 2342912 a0.ZB u0
 have c3 := sl 2342912 a0.Methods u0
 refine soD func200 ntmps200 ?_
 exact rtD _ f
theorem H5 (a0 : ZX) (u0 : Sm 2342912 a0) : Sd 200 [a0.row] [a0.row] := by
  have h := FW a0 u0
  rwa [Fg] at h
theorem Br (a0 : ZN) (u0 : Sm 2342912 a0) : Sd 264 [a0.row] [(Hb a0).row] := by
 have f := me (Hb.eq_1 a0)
 refine soD func264 ntmps264 ?_
 refine Hk [2, 3, 4, 5, 6, 7, 8, 9, 0, 1, 10, 11] mixed zAU zAU zAU ?_
 have c1 := sl 2342912 a0.Xn u0
 have c2 := sl 2342912 a0.KW u0
 simp
 refine rpS ?_
 exact rtD _ f
theorem Nj (a0 : ZN) (u0 : Sm 2342912 a0) : Sd 264 [a0.row] [a0.row] := by
  have h := Br a0 u0
  rwa [B0] at h
theorem CM (a0 : ZT) (u0 : Sm 2342912 a0) : Sd 322 [a0.row] [(LA a0).row] := by
 have f := me (LA.eq_1 a0)
 refine soD func322 ntmps322 ?_
 refine Hk [2, 3, 4, 5, 0, 1, 6, 7, 8, 9] mixed zAU zAU zAU ?_
 have c1 := sl 2342912 a0.Yf u0
 simp
 refine rpS ?_
 exact rtD _ f
theorem OM (a0 : ZT) (u0 : Sm 2342912 a0) : Sd 322 [a0.row] [a0.row] := by
  have h := CM a0 u0
  rwa [D0] at h
theorem Cg (a0 : List ZT) (u0 : Sm 2338816 a0) : Sd 283 [rL 3 ZT.row a0] [rL 3 ZT.row (O6 a0)] := by
 have f := me (O6.eq_1 a0)
 refine soD func283 ntmps283 ?_
 refine vL (news := (([] : List ZT).map ZT.row)) (L := []) rfl rfl rfl rfl zAF zAF zAF zAF zAF zAF ?_
 simp
 refine lp2 (SS.eq_2 a0) (fun J U => Yq 21 [eL 0 3 a0 ZT.row, (3, .one (.sref 3 0 0 J.length), [.arr true 3 (J.map ZT.row)]), eI 4 (U : Int)]) (fun n1 J U => a0.length < n1 + U /\ U <= a0.length /\ J.length <= 0 + 1 * U) (a0.length + 1) ([] : List ZT) 0 (fun p1 J U e1 j1 => ?_) (h0 := wkS [((3, 0), some (5, 0))] [])
 refine cFf e1 ?_ ?_ <;> intro k2 h1 e1
 ·have i1 := ix h1
  have m2 := ml a0 (k2 0 _ rfl)
  have c1 := sl 2338816 a0 u0
  have w1 := wr U
  simp [i1, ZE]
  refine rpS ?_
  refine cDs [true, false] (OM (nth a0 U) (sg (Zp u0))) ?_
  refine kb ?_
  simp
  refine W5 (lB := (J.map ZT.row)) (news := (([(nth a0 U)] : List ZT).map ZT.row)) (l1 := [(3, 0)]) (l2 := [(17, 1)]) (size := 3) ?_
  simp
  exact nx2 e1 (hw := XI [((3, 0), some (19, 0))] [] rfl zAb)
 exact rtD [.tmp 2] (ms f e1)
theorem CT (a0 : List ZT) (u0 : Sm 2338816 a0) : Sd 283 [rL 3 ZT.row a0] [rL 3 ZT.row a0] := by
  have h := Cg a0 u0
  rwa [C2] at h
theorem Dv (a0 : ZZ) (u0 : Sm 2342912 a0) : Sd 213 [a0.row] [(M0 a0).row] := by
 have f := me (M0.eq_1 a0)
 have c1 := sl 2342912 a0.Path u0
 have c2 := sl 2342912 a0.YH u0
 refine soD func213 ntmps213 ?_
 exact rtD _ f
theorem Py (a0 : ZZ) (u0 : Sm 2342912 a0) : Sd 213 [a0.row] [a0.row] := by
  have h := Dv a0 u0
  rwa [Di] at h
theorem CO (a0 : ZU) (u0 : Sm 2334720 a0) : Sd 208 [a0.row] [(Ph a0).row] := by
 have f := me (Ph.eq_1 a0)
 refine soD func208 ntmps208 ?_
 refine cDs [] (CT a0.ZJ (sg (ZU.QC u0))) ?_
 refine lp2 (Uz.eq_2 a0) (fun J U => Yq 28 [eX 1 (a0.row.map .d), (2, .one (.bptr 2 0), [.box [.nil 3, .nil 5]]), (3, .one (.bptr 3 0), [.box [.sref 7 0 0 a0.ZJ.length, .sref 3 2 0 U.length], .none, .arr true 5 (U.map ZZ.row)]), eI 4 (J : Int), (7, .any, [.arr true 3 (a0.ZJ.map ZT.row)])]) (fun n1 J U => a0.ZP.length < n1 + J /\ J <= a0.ZP.length /\ U.length <= 0 + 1 * J) (a0.ZP.length + 1) 0 ([] : List ZZ) (fun p1 J U e1 j1 => ?_) (h0 := wkS [((3, 2), none)] [])
 refine cF e1 ?_ ?_ <;> intro k2 h1 e1
 ·have i1 := ix h1
  have m2 := ml a0.ZP (k2 11 _ rfl)
  have c1 := sl 2334720 a0.ZP u0
  have w1 := wr J
  refine drJ [25] mixed ?_
  simp [i1, ZE]
  refine rpS ?_
  refine cDs [true, true, true, false, false] (Py (nth a0.ZP J) (sg (Zp (ZU.zo u0)))) ?_
  refine kb ?_
  simp
  refine W5 (lB := (U.map ZZ.row)) (news := (([(nth a0.ZP J)] : List ZZ).map ZZ.row)) (l1 := [(3, 2)]) (l2 := [(23, 3), (23, 4)]) (size := 5) ?_
  simp
  exact nx2 e1 (hw := XI [((3, 2), some (25, 0))] [] rfl zAb)
 have c2 := sl 2334720 a0.ZP u0
 exact rtD [.cell 2 68] (ms f e1)
theorem xf (a0 : ZU) (u0 : Sm 2334720 a0) : Sd 208 [a0.row] [a0.row] := by
  have h := CO a0 u0
  rwa [DV] at h
theorem Db (a0 : ZQ) (u0 : Sm 2330624 a0) : Sd 207 [a0.row] [(LM a0).row] := by
 have f := me (LM.eq_1 a0)
 refine soD func207 ntmps207 ?_
 refine cDs [true, false, false] (Nj a0.Doc (sg (ZQ.qp u0))) ?_
 refine cDs [] (xf a0.ZK (sg (ZQ.Xk u0))) ?_
 exact rtD _ f
theorem KF (a0 : ZQ) (u0 : Sm 2330624 a0) : Sd 207 [a0.row] [a0.row] := by
  have h := Db a0 u0
  rwa [DX] at h
theorem DW (a0 : ZD) (u0 : Sm 2326528 a0) : Sd 128 [a0.row] [(Pa a0).row] := by
 have f := me (Pa.eq_1 a0)
 refine soD func128 ntmps128 ?_
 refine lp2 (Uy.eq_2 a0) (fun J U => Yq 27 [eX 1 (a0.row.map .d), (2, .one (.bptr 2 0), [.box [.d (.int .i64 0), .nil 16]]), (3, .one (.bptr 3 0), [.box [.d (.int .i64 a0.Id), .sref 3 2 0 U.length], .none, .arr true 16 (U.map ZQ.row)]), eI 4 (J : Int)]) (fun n1 J U => a0.ZC.length < n1 + J /\ J <= a0.ZC.length /\ U.length <= 0 + 1 * J) (a0.ZC.length + 1) 0 ([] : List ZQ) (fun p1 J U e1 j1 => ?_) (h0 := wkS [((3, 2), none)] [])
 refine cF e1 ?_ ?_ <;> intro k2 h1 e1
 ·have i1 := ix h1
  have m2 := ml a0.ZC (k2 10 _ rfl)
  have c1 := sl 2326528 a0.ZC u0
  have w1 := wr J
  refine drJ [24] mixed ?_
  simp [i1, ZE]
  refine rpS ?_
  refine cDs [true, true, true, false, false] (KF (nth a0.ZC J) (sg (Zp (ZD.Ye u0)))) ?_
  refine kb ?_
  simp
  refine W5 (lB := (U.map ZQ.row)) (news := (([(nth a0.ZC J)] : List ZQ).map ZQ.row)) (l1 := [(3, 2)]) (l2 := [(22, 3), (22, 4), (22, 14), (22, 15)]) (size := 16) ?_
  simp
  exact nx2 e1 (hw := XI [((3, 2), some (24, 0))] [] rfl zAb)
 exact rtD [.cell 2 73] (ms f e1)
theorem QU (a0 : ZD) (u0 : Sm 2326528 a0) : Sd 128 [a0.row] [a0.row] := by
  have h := DW a0 u0
  rwa [Df] at h
theorem CC (a0 : ZF) (u0 : Sm 2322432 a0) : Sd 111 [a0.row] [(Pf a0).row] := by
 have f := me (Pf.eq_1 a0)
 refine soD func111 ntmps111 ?_
 refine Hk [0, 1, 2, 3, 4, 5, 6, 7, 8, 9, 10, 11, 12, 13, 14, 15, 16, 17, 18, 21, 22, 23, 24, 19, 20, 25, 26, 27] mixed zAU zAU zAU ?_
 simp
 have c1 := sl 2322432 a0.ZY u0
 have c2 := sl 2322432 a0.Zx u0
 have c3 := sl 2322432 a0.Yt u0
 have c4 := sl 2322432 a0.YO u0
 have c5 := sl 2322432 a0.YE u0
 refine cDs [false, false, false] (H5 a0.Frame (sg (ZF.Y7 u0))) ?_
 refine lp2 (UZ.eq_2 a0) (fun J U => Yq 50 [eX 1 (a0.row.map .d), (2, .one (.bptr 2 0), [.box [.nil 5, .nil 3, .nil 4, .d (.int .i64 0), .d (.int .i64 0), .nil 7, .nil 1, .nil 2, .nil 1, .nil 1, .d (.int .i64 0), .nil 1]]), (3, .one (.bptr 3 0), [.box [.sref 7 0 0 a0.Frame.Zo.length, .sref 7 1 0 a0.Frame.ZB.length, .sref 7 2 0 a0.Frame.Methods.length, .d (.int .i64 a0.Frame.XT), .d (.int .i64 a0.Frame.Now), .sref 11 0 0 a0.ZY.length, .sref 15 0 0 a0.Zx.length, .sref 3 8 0 U.length, .sref 19 0 0 a0.Yt.length, .sref 23 0 0 a0.YO.length, .d (.int .i64 a0.Next), .sref 29 0 0 a0.YE.length], .none, .none, .none, .none, .none, .none, .none, .arr true 2 (U.map ZD.row)]), eI 4 (J : Int), (7, .any, [.arr false 5 (a0.Frame.Zo.map Yw.row), .arr false 3 (a0.Frame.ZB.map Zf.row), .arr false 4 (a0.Frame.Methods.map Z8.row)]), (11, .any, [.arr false 7 (a0.ZY.map YX.row)]), (15, .any, [.arr false 1 (a0.Zx.map iR)]), (19, .any, [.arr false 1 (a0.Yt.map iR)]), (23, .any, [.arr false 1 (a0.YO.map iR)]), (29, .any, [.arr false 1 (a0.YE.map iR)])]) (fun n1 J U => a0.ZA.length < n1 + J /\ J <= a0.ZA.length /\ U.length <= 0 + 1 * J) (a0.ZA.length + 1) 0 ([] : List ZD) (fun p1 J U e1 j1 => ?_) (h0 := wkS [((3, 8), none)] [])
 refine cF e1 ?_ ?_ <;> intro k3 h1 e1
 ·have i1 := ix h1
  have m2 := ml a0.ZA (k3 33 _ rfl)
  have c6 := sl 2322432 a0.ZA u0
  have w1 := wr J
  refine drJ [47] mixed ?_
  simp [i1, ZE]
  refine rpS ?_
  refine cDs [] (QU (nth a0.ZA J) (sg (Zp (ZF.Yn u0)))) ?_
  refine kb ?_
  simp
  refine W5 (lB := (U.map ZD.row)) (news := (([(nth a0.ZA J)] : List ZD).map ZD.row)) (l1 := [(3, 8)]) (l2 := [(45, 1)]) (size := 2) ?_
  simp
  exact nx2 e1 (hw := XI [((3, 8), some (47, 0))] [] rfl zAb)
 have c7 := sl 2322432 a0.ZA u0
 exact rtD [.cell 2 33] (ms f e1)
theorem JM (a0 : ZF) (u0 : Sm 2322432 a0) : Sd 111 [a0.row] [a0.row] := by
  have h := CC a0 u0
  rwa [Dc] at h
theorem EM (a0 : ZF) (a1 : Int) (u0 : Sm 2318336 a0) : Sd 101 [a0.row, rI a1] [(jR a0 a1).1.row, rB (jR a0 a1).2] := by
 have f := me (jR.eq_1 a0 a1)
 refine soD func101 ntmps101 ?_
 refine cDs [false, false, false, true, true, false, false, true, false, false, true, false] (JM a0 (sg u0)) ?_
 refine cRs (Y4 a1 0 100) ?_
 refine cFo f ?_ ?_ <;> intro k1 h1 f
 ·have q1 := h1; try simp [YU] at q1
  simp
  exact rtD _ f
 have q1 := h1; try simp [YU] at q1
 simp
 exact rtD _ f
theorem jr (a0 : ZF) (a1 : Int) : Sa 182 [a0.row, rI a1] [rB (JB a0 a1)] := by
 have f := me (JB.eq_1 a0 a1)
 refine so func182 ntmps182 ?_
 refine cRs (Y4 a1 0 (W ((a0.ZA.length : Int) - 1))) ?_
 exact rt [.tmp 4] f
theorem jM (a0 : List Z8) (a1 : Int) : Sa 191 [rL 4 Z8.row a0, rI a1] [rI (Zk a0 a1)] := by
 have f := me (Zk.eq_1 a0 a1)
 refine so func191 ntmps191 ?_
 refine lp2 (yh.eq_2 a0 a1) (fun J U => Yq 54 [eL 0 4 a0 Z8.row, eI 1 a1, eI 5 J, eI 6 (U : Int)]) (fun n1 J U => a0.length < n1 + U /\ U <= a0.length /\ -1 <= J /\ J < (a0.length : Int)) (a0.length + 1) (-1) 0 (fun p1 J U e1 j1 => ?_)
 try dsimp only at j1
 refine cF e1 ?_ ?_ <;> intro k2 h1 e1
 ·have i1 := ix h1
  have m2 := ml a0 (k2 0 _ rfl)
  have w1 := wr U
  refine dIo mixed ?_
  simp [i1, ZE]
  refine rpS ?_
  refine gIf ?_ ?_ <;> intro G
  ·simp [i1, ZE, G]
   refine rpG ?_
   refine gJf G ?_ ?_ <;> intro G
   ·try (simp at G; done)
    all_goals
     simp [i1, ZE, G]
     refine rpG ?_
     refine gK (fun _ => ?_)
     have i2 := ik J.toNat a0
     simp [i2, ZE, G]
     refine rpG ?_
     refine cK e1 ?_ ?_ <;> intro k4 h2 e1
     ·exact ny2 (an w1 G) e1 (hI := by first | omega | (simp at *; omega))
     ·exact ny2 (an w1 G) e1 (hI := by first | omega | (simp at *; omega))
   ·try (simp at G; done)
    all_goals
     refine sGg ?_
     refine cK e1 ?_ ?_ <;> intro k5 h3 e1
     ·exact ny2 (an w1 G) e1 (hI := by first | omega | (simp at *; omega))
     ·exact ny2 (an w1 G) e1 (hI := by first | omega | (simp at *; omega))
  ·refine gJf G ?_ ?_ <;> intro G
   ·try (simp at G; done)
    all_goals
     simp [i1, ZE, G]
     refine rpG ?_
     refine gK (fun _ => ?_)
     have i4 := ik J.toNat a0
     simp [i4, ZE, G]
     refine rpG ?_
     refine cK e1 ?_ ?_ <;> intro k6 h4 e1
     ·simp [G] at h4
     ·simp [G] at h4
   ·try (simp at G; done)
    all_goals
     refine sGg ?_
     refine cK e1 ?_ ?_ <;> intro k7 h5 e1
     ·simp [G] at h5
     ·exact ny2 (an w1 G) e1 (hI := by first | omega | (simp at *; omega))
 have f := ms f e1
 refine cFt f ?_ ?_ <;> intro k8 h6 f
 ·exact rt [.tmp 4] f
 have i6 := ik J.toNat a0
 simp [i6, ZE]
 refine rpS ?_
 exact rt [.tmp 4] f
theorem GI (a0 : ZF) (a1 : Int) : Sa 261 [a0.row, rI a1] [rI (Xl a0 a1)] := by
 have f := me (Xl.eq_1 a0 a1)
 refine so func261 ntmps261 ?_
 refine lp1 (KN.eq_2 a0 a1) (fun J => Yq 22 [eI 1 a1, eX 2 (a0.row.map .d), eI 5 (J : Int)]) (fun n1 J => a0.ZY.length < n1 + J /\ J <= a0.ZY.length) (a0.ZY.length + 1) 0 (fun p1 J e1 j1 => ?_)
 refine cFf e1 ?_ ?_ <;> intro k2 h1 e1
 ·have i1 := ix h1
  have m2 := ml a0.ZY (k2 8 _ rfl)
  have w1 := wr J
  simp [i1, ZE]
  refine rpS ?_
  refine cF e1 ?_ ?_ <;> intro k3 h2 e1
  ·exact rt [.tmp 4] (ms f e1)
  exact ny1 w1 e1
 exact rt [.tmp 4] (ms f e1)
theorem zE (a0 : Int) (a1 : List Int) (u0 : Sm 68719476736 a1) : Sa 321 [rI a0, rL 1 iR a1] [rI (Kp a0 a1)] := by
 have f := me (Kp.eq_1 a0 a1)
 have c1 := sl 68719476736 a1 u0
 refine so func321 ntmps321 ?_
 refine cRs (Ew (([7, a0] : List Int) ++ a1)) ?_
 exact rt [.tmp 4] f
theorem IC (a0 : Int) (a1 : ByteArray) (a2 : Int) (u0 : Sm 2326528 a1) : Sa 320 [rI a0, rS a1, rI a2] [rI (j8 a0 a1 a2)] := by
 have f := me (j8.eq_1 a0 a1 a2)
 refine so func320 ntmps320 ?_
 refine lp2 (xu.eq_2 a1) (fun J U => Yq 27 [eI 0 a0, (1, .one (.d (.str a1)), []), (7, .one (.sref 7 0 0 J.length), [.arr false 1 (J.map iR)]), eI 8 (U : Int)]) (fun n1 J U => a1.size < n1 + U /\ U <= a1.size /\ J.length <= 1 + 1 * U) (a1.size + 1) ([a2] : List Int) 0 (fun p1 J U e1 j1 => ?_) (h0 := wkS [((7, 0), some (10, 0))] [])
 refine cFo e1 ?_ ?_ <;> intro k2 h1 e1
 ·have q1 := h1; try simp at q1
  have c1 : a1.size <= 2326528 := D2 (xs u0)
  have w1 := wr U
  simp
  refine rpS ?_
  exact nx2 e1 (hw := XI [((7, 0), some (23, 0))] [] rfl zAb)
 have q1 := h1; try simp at q1
 have c2 : a1.size <= 2326528 := D2 (xs u0)
 have f := ms f e1
 simp
 refine cRs (zE a0 J zAK) ?_
 exact rt [.tmp 6] f
theorem V4 (a0 : Int) (a1 : ZN) (u0 : Sm 2322432 a1) : Sa 263 [rI a0, a1.row] [rI (JG a0 a1)] := by
 have f := me (JG.eq_1 a0 a1)
 refine so func263 ntmps263 ?_
 refine cRs (W1 a1) ?_
 refine cF f ?_ ?_ <;> intro k1 h1 f
 ·exact rt [.tmp 4] f
 refine lp2 (q8.eq_2 a0 a1) (fun J U => Yq 38 [eI 0 a0, eX 3 (a1.row.map .d), (5, .one (.sref 5 0 0 J.length), [.arr false 1 (J.map iR)]), eI 6 (U : Int)]) (fun n1 J U => a1.Xn.length < n1 + U /\ U <= a1.Xn.length /\ J.length <= 1 + 1 * U) (a1.Xn.length + 1) ([a1.UG] : List Int) 0 (fun p1 J U e1 j1 => ?_) (h0 := wkS [((5, 0), some (12, 0))] [])
 try dsimp only at j1
 refine cF e1 ?_ ?_ <;> intro k3 h2 e1
 ·have i1 := ix h2
  have m2 := ml a1.Xn (k3 15 _ rfl)
  have c1 := sl 2322432 a1.Xn u0
  have w1 := wr U
  refine dIo mixed ?_
  have i2 : U < a1.KW.length := by (have := LG (a := a1); first | (simp_all; done) | (simp_all; omega))
  simp [i1, ZE, i2]
  refine rpS ?_
  refine cRs (IC a0 (nth a1.Xn U) (nth a1.KW U) (sg (Zp (ZN.GZ u0)))) ?_
  exact nx2 e1 (hw := XI [((5, 0), some (34, 0))] [] rfl zAb)
 have c2 := sl 2322432 a1.Xn u0
 have f := ms f e1
 refine cRs (zE a0 J zAK) ?_
 exact rt [.tmp 4] f
theorem Ma (a0 : Zl) : Sa 318 [a0.row] [rB (q7 a0)] := by
 have f := me (q7.eq_1 a0)
 refine so func318 ntmps318 ?_
 refine cRs (Y4 a0.Key 1 99) ?_
 refine cGs (fun gg => (Y4 a0.Zd 1 999)) ?_
 refine cGs (fun gg => (Y4 a0.Method 0 99)) ?_
 refine cGs (fun gg => (Y4 a0.Org 0 99)) ?_
 refine cGs (fun gg => (Y4 a0.Vk 1 3)) ?_
 refine cGs (fun gg => (Y4 a0.QK 0 1000000000000)) ?_
 refine cGs (fun gg => (Y4 a0.UR 0 1000000000000)) ?_
 refine cGs (fun gg => (Y4 a0.UT 0 1000000000000)) ?_
 exact rt [.tmp 2] f
theorem US (a0 : Zl) : Sd 319 [a0.row] [rL 1 iR (Qo a0)] := by
 have f := me (Qo.eq_1 a0)
 refine soD func319 ntmps319 ?_
 exact rtD [.tmp 2] f
theorem Ii (a0 : List Yw) (a1 : Zl) (u0 : Sm 2322432 a0) : Sa 262 [rL 5 Yw.row a0, a1.row] [(K0 a0 a1).1.row, rB (K0 a0 a1).2] := by
 have f := me (K0.eq_1 a0 a1)
 refine so func262 ntmps262 ?_
 refine cRs (KK a0 a1.Key) ?_
 refine cRs (Ma a1) ?_
 refine cF f ?_ ?_ <;> intro k1 h1 f
 ·exact rt _ f
 refine dIo mixed ?_
 have i1 : (Yc a0 a1.Key).toNat < a0.length := by have := KO a0 a1.Key; exact il
 simp [i1, ZE]
 refine rpS ?_
 refine cRs (YV.rd (US a1)) ?_
 refine cRs (WR (nth a0 (Yc a0 a1.Key).toNat) (Qo a1) (by simp (maxDischargeDepth := 12) [Vw]; try omega)) ?_
 exact rt _ f
theorem PK (a0 : Zl) : Sd 265 [a0.row] [(yv a0).row] := by
 have f := me (yv.eq_1 a0)
 refine soD func265 ntmps265 ?_
 refine dIs mixed ?_
 refine cDs [false] (US a0) ?_
 exact rtD _ f
theorem FH (a0 : YX) : Sd 266 [a0.row] [(jt a0).row] := by
 have f := me (jt.eq_1 a0)
 refine soD func266 ntmps266 ?_
 refine dIs mixed ?_
 refine cDs [false] (OO a0) ?_
 exact rtD _ f
theorem MJ (a0 : ZF) (a1 : Int) (a2 : ZN) (a3 : Int) (a4 : Int) (u0 : Sm 2318336 a0) (u1 : Sm 2318336 a2) : So 183 [a0.row, rI a1, a2.row, rI a3, rI a4] [(QA a0 a1 a2 a3 a4).1.row, rB (QA a0 a1 a2 a3 a4).2] := by
 have f := me (QA.eq_1 a0 a1 a2 a3 a4)
 refine so func183 ntmps183 ?_
 refine cRs (jM a0.Frame.Methods a0.Frame.Now) ?_
 refine cRs (GI a0 a1) ?_
 refine cF f ?_ ?_ <;> intro k1 h1 f
 ·exact rtO [.cell 10 70, .tmp 11] f
 refine dIo mixed ?_
 have i1 : (Xl a0 a1).toNat < a0.ZY.length := by have := GN a0 a1; exact il
 simp [i1, ZE]
 refine rpS ?_
 refine cRs (V4 (Zk a0.Frame.Methods a0.Frame.Now) a2 (sg u1)) ?_
 refine cRs (Ii a0.Frame.Zo (Zl.mk a1 (nth a0.ZY (Xl a0 a1).toNat).Zd (Zk a0.Frame.Methods a0.Frame.Now) (JG (Zk a0.Frame.Methods a0.Frame.Now) a2) 1 a3 0 0 0) (sg (ZX.XS (ZF.Y7 u0)))) ?_
 refine dIs mixed ?_
 refine cDs [true, false, false] (Nj a2 (sg u1)) ?_
 refine cRf i1 (YV.rd (PK (K0 a0.Frame.Zo (Zl.mk a1 (nth a0.ZY (Xl a0 a1).toNat).Zd (Zk a0.Frame.Methods a0.Frame.Now) (JG (Zk a0.Frame.Methods a0.Frame.Now) a2) 1 a3 0 0 0)).1)) ?_
 refine cRs (YV.rd (FH (nth a0.ZY (Xl a0 a1).toNat))) ?_
 refine eIs ?_
 exact rtO [.cell 10 70, .tmp 11] f
theorem Hl (a0 : List Int) (a1 : List Int) : Sa 330 [rL 1 iR a0, rL 1 iR a1] [rB (Uo a0 a1)] := by
 have f := me (Uo.eq_1 a0 a1)
 refine so func330 ntmps330 ?_
 refine cF f ?_ ?_ <;> intro k1 h1 f
 ·exact rt [.tmp 4] f
 refine lp1 (WT.eq_2 a0 a1) (fun J => Yq 26 [eL 0 1 a0 iR, eL 1 1 a1 iR, eI 5 (J : Int)]) (fun n1 J => a0.length < n1 + J /\ J <= a0.length) (a0.length + 1) 0 (fun p1 J e1 j1 => ?_)
 refine cF e1 ?_ ?_ <;> intro k3 h2 e1
 ·have i1 := ix h2
  have m2 := ml a0 (k3 0 _ rfl)
  have w1 := wr J
  refine dIo mixed ?_
  have i2 := ik J a1
  simp [i1, ZE, i2]
  refine rpS ?_
  refine cF e1 ?_ ?_ <;> intro k5 h3 e1
  ·exact rt [.tmp 4] (ms f e1)
  exact ny1 w1 e1
 exact rt [.tmp 4] (ms f e1)
theorem Tu (a0 : ZT) (a1 : ZT) : Sa 288 [a0.row, a1.row] [rB (xa a0 a1)] := by
 have f := me (xa.eq_1 a0 a1)
 refine so func288 ntmps288 ?_
 refine cGs (fun gg => (Hl a0.Yf a1.Yf)) ?_
 exact rt [.tmp 4] f
theorem GO (a0 : ZU) (a1 : ZT) : Sa 289 [a0.row, a1.row] [rI (qM a0 a1)] := by
 have f := me (qM.eq_1 a0 a1)
 refine so func289 ntmps289 ?_
 refine lp1 (xY.eq_2 a0 a1) (fun J => Yq 21 [eX 2 (a0.row.map .d), eX 3 (a1.row.map .d), eI 5 (J : Int)]) (fun n1 J => a0.ZJ.length < n1 + J /\ J <= a0.ZJ.length) (a0.ZJ.length + 1) 0 (fun p1 J e1 j1 => ?_)
 refine cF e1 ?_ ?_ <;> intro k2 h1 e1
 ·have i1 := ix h1
  have m2 := ml a0.ZJ (k2 8 _ rfl)
  have w1 := wr J
  refine dIo mixed ?_
  simp [i1, ZE]
  refine rpS ?_
  refine cRs (Tu (nth a0.ZJ J) a1) ?_
  refine cF e1 ?_ ?_ <;> intro k4 h2 e1
  ·exact rt [.tmp 4] (ms f e1)
  exact ny1 w1 e1
 exact rt [.tmp 4] (ms f e1)
theorem TT (a0 : ZU) : Sa 214 [a0.row] [rB (xK a0)] := by
 have f := me (xK.eq_1 a0)
 refine so func214 ntmps214 ?_
 refine lp1 (qi.eq_2 a0) (fun J => Yq 69 [eX 1 (a0.row.map .d), eI 3 (J : Int)]) (fun n1 J => a0.ZJ.length < n1 + J /\ J <= a0.ZJ.length) (a0.ZJ.length + 1) 0 (fun p1 J e1 j1 => ?_)
 refine cF e1 ?_ ?_ <;> intro k2 h1 e1
 ·have i1 := ix h1
  have m2 := ml a0.ZJ (k2 7 _ rfl)
  have w1 := wr J
  refine dIo mixed ?_
  simp [i1, ZE]
  refine rpS ?_
  refine cRs (GO a0 (nth a0.ZJ J)) ?_
  refine cF e1 ?_ ?_ <;> intro k4 h2 e1
  ·exact rt [.tmp 2] (ms f e1)
  exact ny1 w1 e1
 have f := ms f e1
 refine lp1 (ql.eq_2 a0) (fun m0 => Yq 69 [eX 1 (a0.row.map .d), eI 4 (m0 : Int)]) (fun n2 m0 => a0.ZP.length < n2 + m0 /\ m0 <= a0.ZP.length) (a0.ZP.length + 1) 0 (fun p2 m0 e2 j2 => ?_)
 refine cF e2 ?_ ?_ <;> intro k6 h3 e2
 ·have i2 := ix h3
  have m4 := ml a0.ZP (k6 23 _ rfl)
  have w2 := wr m0
  refine dIo mixed ?_
  simp [i2, ZE]
  refine rpS ?_
  refine cRs (Y4 (nth a0.ZP m0).Count 1 (a0.ZJ.length : Int)) ?_
  refine gIf ?_ ?_ <;> intro G
  ·have i3 := ik (m0 - 1) a0.ZP
   have w3 : IntKind.i64.wrap ((m0 : Int) - 1) = (m0 : Int) - 1 := YN zAA zAA
   simp [i3, ZE, w3, UB, G]
   refine rpG ?_
   refine gK (fun _ => ?_)
   simp [i2, ZE, G]
   refine rpG ?_
   refine cKo e2 ?_ ?_ <;> intro k8 h4 e2
   ·have q4 := h4; try simp [YU] at q4
    have f := ms f e2
    simp [G]
    refine rpG ?_
    exact rtg [.tmp 2] f
   ·have q4 := h4; try simp [YU] at q4
    simp [G]
    refine rpG ?_
    exact ny1 (an w2 (an w3 G)) e2
  ·refine sGg ?_
   refine cKo e2 ?_ ?_ <;> intro k9 h5 e2
   ·have q5 := h5; try simp [YU] at q5
    have f := ms f e2
    simp [G]
    refine rpG ?_
    exact rtg [.tmp 2] f
   ·have q5 := h5; try simp [YU] at q5
    simp [G]
    refine rpG ?_
    exact ny1 (an w2 G) e2
 have f := ms f e2
 refine cRs (Y4 (a0.ZJ.length : Int) 1 12) ?_
 exact rt [.tmp 2] f
theorem Lf (a0 : ZQ) : Sa 212 [a0.row] [rB (Tx a0)] := by
 have f := me (Tx.eq_1 a0)
 refine so func212 ntmps212 ?_
 refine dIs mixed ?_
 refine cRs (Y4 a0.Id 1 999) ?_
 refine cGs (fun gg => (Wr a0.Y8)) ?_
 refine cGs (fun gg => (W1 a0.Doc)) ?_
 refine cGs (fun gg => (TT a0.ZK)) ?_
 refine gIf ?_ ?_ <;> intro G
 ·have g1 := G; try simp [YU] at g1
  have i1 : 0 < a0.ZK.ZJ.length := by have := HP (a := a0.ZK); simp_all
  simp [i1, ZE, G]
  refine rpG ?_
  refine cGg (fun gg => YV.rd (PK a0.Sig)) ?_
  refine cGg (fun gg => (Tu (nth a0.ZK.ZJ 0) (yv a0.Sig))) ?_
  exact rtg [.tmp 2] f
 ·refine sGo ?_
  simp
  refine rpG ?_
  refine sGo ?_
  simp
  refine rpG ?_
  exact rtg [.tmp 2] f
theorem qJ (a0 : ZD) : Sa 131 [a0.row] [rB (Jb a0)] := by
 have f := me (Jb.eq_1 a0)
 refine so func131 ntmps131 ?_
 refine lp1 (q9.eq_2 a0) (fun J => Yq 47 [eX 1 (a0.row.map .d), eI 3 (J : Int)]) (fun n1 J => a0.ZC.length < n1 + J /\ J <= a0.ZC.length) (a0.ZC.length + 1) 0 (fun p1 J e1 j1 => ?_)
 refine cF e1 ?_ ?_ <;> intro k2 h1 e1
 ·have i1 := ix h1
  have m2 := ml a0.ZC (k2 6 _ rfl)
  have w1 := wr J
  refine dIo mixed ?_
  simp [i1, ZE]
  refine rpS ?_
  refine cRs (Lf (nth a0.ZC J)) ?_
  refine gIf ?_ ?_ <;> intro G
  ·have i2 := ik (J - 1) a0.ZC
   have w2 : IntKind.i64.wrap ((J : Int) - 1) = (J : Int) - 1 := YN zAA zAA
   simp [i2, ZE, w2, G]
   refine rpG ?_
   refine gK (fun _ => ?_)
   simp [i1, ZE, G]
   refine rpG ?_
   refine cK e1 ?_ ?_ <;> intro k4 h2 e1
   ·exact rtg [.tmp 2] (ms f e1)
   ·exact ny1 (an w1 (an w2 G)) e1
  ·refine sGg ?_
   refine cK e1 ?_ ?_ <;> intro k5 h3 e1
   ·exact rtg [.tmp 2] (ms f e1)
   ·exact ny1 (an w1 G) e1
 have f := ms f e1
 refine cRs (Y4 a0.Id 0 99) ?_
 exact rt [.tmp 2] f
theorem jE (a0 : ZD) (a1 : Int) : Sa 267 [a0.row, rI a1] [rI (Ys a0 a1)] := by
 have f := me (Ys.eq_1 a0 a1)
 refine so func267 ntmps267 ?_
 refine lp1 (qS.eq_2 a0 a1) (fun J => Yq 22 [eI 1 a1, eX 2 (a0.row.map .d), eI 5 (J : Int)]) (fun n1 J => a0.ZC.length < n1 + J /\ J <= a0.ZC.length) (a0.ZC.length + 1) 0 (fun p1 J e1 j1 => ?_)
 refine cFf e1 ?_ ?_ <;> intro k2 h1 e1
 ·have i1 := ix h1
  have m2 := ml a0.ZC (k2 8 _ rfl)
  have w1 := wr J
  simp [i1, ZE]
  refine rpS ?_
  refine cF e1 ?_ ?_ <;> intro k3 h2 e1
  ·exact rt [.tmp 4] (ms f e1)
  exact ny1 w1 e1
 exact rt [.tmp 4] (ms f e1)
theorem SH (a0 : ZD) (a1 : ZQ) (u0 : Sm 2318336 a0) (u1 : Sm 2318336 a1) : Sd 184 [a0.row, a1.row] [(JK a0 a1).1.row, rB (JK a0 a1).2] := by
 have f := me (JK.eq_1 a0 a1)
 refine soD func184 ntmps184 ?_
 refine cRs (qJ a0) ?_
 refine cGs (fun gg => (jE a0 a1.Id)) ?_
 refine cF f ?_ ?_ <;> intro k1 h1 f
 ·refine cDs [] (QU a0 (sg u0)) ?_
  exact rtD [.cell 4 73, .tmp 5] f
 refine lp3 (Qh.eq_2 a0 a1) (fun J U mz => Yq 77 [eX 2 (a0.row.map .d), eX 3 (a1.row.map .d), (4, .one (.bptr 4 0), [.box [.d (.int .i64 0), .nil 16]]), (6, .one (.bptr 6 0), [.box [.d (.int .i64 a0.Id), .sref 6 2 0 mz.length], .none, .arr true 16 (mz.map ZQ.row)]), eB 7 J, eI 8 (U : Int)]) (fun n1 J U mz => a0.ZC.length < n1 + U /\ U <= a0.ZC.length /\ mz.length <= 0 + 2 * U) (a0.ZC.length + 1) false 0 ([] : List ZQ) (fun p1 J U mz e1 j1 => ?_) (h0 := wkS [((6, 2), none)] [])
 refine cF e1 ?_ ?_ <;> intro k3 h2 e1
 ·have i1 := ix h2
  have m2 := ml a0.ZC (k3 26 _ rfl)
  have c1 := sl 2318336 a0.ZC (an u0 u1)
  have w1 := wr U
  refine dIs mixed ?_
  refine gIf ?_ ?_ <;> intro G
  ·simp [i1, ZE, G]
   refine rpG ?_
   refine cK e1 ?_ ?_ <;> intro k5 h3 e1
   ·refine drJ [49] mixed ?_
    simp
    refine cDg [true, true, true, false, false] (KF a1 (sg u1)) ?_
    refine kb ?_
    simp [G]
    refine rpG ?_
    refine W5 (lB := (mz.map ZQ.row)) (news := (([a1] : List ZQ).map ZQ.row)) (l1 := [(6, 2)]) (l2 := [(47, 3), (47, 4), (47, 14), (47, 15)]) (size := 16) ?_
    simp [G]
    refine rpG ?_
    refine drJ [60] mixed ?_
    simp [i1, ZE, G]
    refine rpG ?_
    refine cDg [true, true, true, false, false] (KF (nth a0.ZC U) (sg (Zp (ZD.Ye u0)))) ?_
    refine kb ?_
    simp [G]
    refine rpG ?_
    refine W5 (lB := ((mz ++ ([a1] : List ZQ)).map ZQ.row)) (news := (([(nth a0.ZC U)] : List ZQ).map ZQ.row)) (l1 := [(49, 0)]) (l2 := [(58, 3), (58, 4), (58, 14), (58, 15)]) (size := 16) ?_
    simp [G]
    refine rpG ?_
    exact nx3 e1 (hw := XI [((6, 2), some (60, 0))] [] rfl (by simp [w1, G]))
   ·refine drJ [60] mixed ?_
    simp [i1, ZE, G]
    refine rpG ?_
    refine cDg [true, true, true, false, false] (KF (nth a0.ZC U) (sg (Zp (ZD.Ye u0)))) ?_
    refine kb ?_
    simp [G]
    refine rpG ?_
    refine W5 (lB := (mz.map ZQ.row)) (news := (([(nth a0.ZC U)] : List ZQ).map ZQ.row)) (l1 := [(6, 2)]) (l2 := [(58, 3), (58, 4), (58, 14), (58, 15)]) (size := 16) ?_
    simp [G]
    refine rpG ?_
    exact nx3 e1 (hw := XI [((6, 2), some (60, 0))] [] rfl (by simp [w1, G]))
  ·refine cK e1 ?_ ?_ <;> intro k9 h4 e1
   ·simp [G] at h4
   ·refine drJ [60] mixed ?_
    simp [i1, ZE, G]
    refine rpG ?_
    refine cDg [true, true, true, false, false] (KF (nth a0.ZC U) (sg (Zp (ZD.Ye u0)))) ?_
    refine kb ?_
    simp [G]
    refine rpG ?_
    refine W5 (lB := (mz.map ZQ.row)) (news := (([(nth a0.ZC U)] : List ZQ).map ZQ.row)) (l1 := [(6, 2)]) (l2 := [(58, 3), (58, 4), (58, 14), (58, 15)]) (size := 16) ?_
    simp [G]
    refine rpG ?_
    exact nx3 e1 (hw := XI [((6, 2), some (60, 0))] [] rfl (by simp [w1, G]))
 have c2 := sl 2318336 a0.ZC (an u0 u1)
 have f := ms f e1
 refine cF f ?_ ?_ <;> intro bh h5 f
 ·refine okD fun k14 => ?_
  refine drJ [69] mixed ?_
  simp
  refine cDs [true, true, true, false, false] (KF a1 (sg u1)) ?_
  refine kb ?_
  simp
  refine W5 (lB := (mz.map ZQ.row)) (news := (([a1] : List ZQ).map ZQ.row)) (l1 := [(6, 2)]) (l2 := [(67, 3), (67, 4), (67, 14), (67, 15)]) (size := 16) ?_
  simp
  refine cRs (qJ (ZD.mk a0.Id (mz ++ ([a1] : List ZQ)))) ?_
  refine cF f ?_ ?_ <;> intro k15 h6 f
  ·refine cDs [] (QU a0 (sg u0)) ?_
   exact rtD [.cell 4 73, .tmp 5] f
  exact rtD [.cell 4 73, .tmp 5] f
 refine cRs (qJ (ZD.mk a0.Id mz)) ?_
 refine cF f ?_ ?_ <;> intro k16 h7 f
 ·refine cDs [] (QU a0 (sg u0)) ?_
  exact rtD [.cell 4 73, .tmp 5] f
 exact rtD [.cell 4 73, .tmp 5] f
theorem Fv (a0 : ZF) (a1 : Int) (a2 : Int) (a3 : ZN) (a4 : Int) (a5 : Int) (u0 : Sm 2314240 a0) (u1 : Sm 2314240 a3) : Sd 102 [a0.row, rI a1, rI a2, a3.row, rI a4, rI a5] [(ja a0 a1 a2 a3 a4 a5).1.row, rB (ja a0 a1 a2 a3 a4 a5).2] := by
 have f := me (ja.eq_1 a0 a1 a2 a3 a4 a5)
 refine soD func102 ntmps102 ?_
 refine cDs [false, false, false, true, true, false, false, true, false, false, true, false] (JM a0 (sg u0)) ?_
 refine cRs (KK a0.Frame.Zo a2) ?_
 refine dIs mixed ?_
 refine cRs (jr a0 a1) ?_
 refine gIf ?_ ?_ <;> intro G
 ·have c1 := sl 2314240 a0.ZA (an u0 u1)
  have w1 : IntKind.i64.wrap ((a0.ZA.length : Int) - 1) = (a0.ZA.length : Int) - 1 := YN zAA zAA
  have g1 := G; try simp [w1, JB, YU] at g1
  have i1 : (Yc a0.Frame.Zo a2).toNat < a0.Frame.Zo.length := by have := KO a0.Frame.Zo a2; exact il
  simp [i1, ZE, G]
  refine rpG ?_
  refine cKo f ?_ ?_ <;> intro k2 h1 f
  ·have q1 := h1; try simp [w1, JB, YU] at q1
   simp [G]
   refine rpG ?_
   exact yJ [.cell 12 33, .tmp 13] f
  ·have q1 := h1; try simp [w1, JB, YU] at q1
   simp [G]
   refine rpG ?_
   refine cRg (MJ a0 a2 a3 a4 a5 (sg u0) (sg u1)) ?_
   refine cK f ?_ ?_ <;> intro k3 h2 f
   ·exact yJ [.cell 12 33, .tmp 13] f
   ·refine dIo mixed ?_
    have i2 := ik a1.toNat a0.ZA
    simp [i2, ZE, G]
    refine rpG ?_
    refine cDg [] (SH (nth a0.ZA a1.toNat) (QA a0 a2 a3 a4 a5).1 zAd zAd) ?_
    refine cKt f ?_ ?_ <;> intro k5 h3 f
    ·exact yJ [.cell 12 33, .tmp 13] f
    ·simp [i2, ZE, G]
     refine rpG ?_
     refine ND (t := 21) (j := 7) (i := a1.toNat) (size := 2) (rows := (a0.ZA.map ZD.row)) (ds := (JK (nth a0.ZA a1.toNat) (QA a0 a2 a3 a4 a5).1).1.row) (L := [(68, 1)]) ?_
     simp [KM (x := (JK (nth a0.ZA a1.toNat) (QA a0 a2 a3 a4 a5).1).1) rfl, c1, i2, ZE, XF, G]
     refine rpG ?_
     exact yJ [.cell 12 33, .tmp 13] f
 ·have c2 := sl 2314240 a0.ZA (an u0 u1)
  have w2 : IntKind.i64.wrap ((a0.ZA.length : Int) - 1) = (a0.ZA.length : Int) - 1 := YN zAA zAA
  refine cKo f ?_ ?_ <;> intro k6 h4 f
  ·have q4 := h4; try simp [w2, JB, YU] at q4
   simp [G]
   refine rpG ?_
   exact yJ [.cell 12 33, .tmp 13] f
  ·simp [G] at h4
theorem R4 (a0 : ZF) (a1 : Int) : Sa 185 [a0.row, rI a1] [rI (ZG a0 a1).1, rI (ZG a0 a1).2] := by
 have f := me (ZG.eq_1 a0 a1)
 refine so func185 ntmps185 ?_
 refine lp1 (jc.eq_2 a0 a1) (fun J => Yq 26 [eI 1 a1, eX 2 (a0.row.map .d), eI 6 (J : Int)]) (fun n1 J => a0.ZA.length < n1 + J /\ J <= a0.ZA.length) (a0.ZA.length + 1) 0 (fun p1 J e1 j1 => ?_)
 refine cFf e1 ?_ ?_ <;> intro k2 h1 e1
 ·have i1 := ix h1
  have m2 := ml a0.ZA (k2 10 _ rfl)
  have w1 := wr J
  simp [i1, ZE]
  refine rpS ?_
  refine cRs (jE (nth a0.ZA J) a1) ?_
  refine cF e1 ?_ ?_ <;> intro k3 h2 e1
  ·exact rt _ (ms f e1)
  exact ny1 w1 e1
 exact rt _ (ms f e1)
theorem MS (a0 : ZT) : Sa 268 [a0.row] [rI (Qs a0)] := by
 have f := me (Qs.eq_1 a0)
 refine so func268 ntmps268 ?_
 refine gIf ?_ ?_ <;> intro G
 ·have i1 := ik 0 a0.Yf
  simp [i1, ZE, G]
  refine rpG ?_
  refine cGg (fun gg => (Y4 (nth a0.Yf 0) 101 105)) ?_
  refine cKo f ?_ ?_ <;> intro k1 h1 f
  ·have q1 := h1; try simp [YU] at q1
   simp
   refine rpG ?_
   exact rtg [.tmp 2] f
  ·have q1 := h1; try simp [YU] at q1
   simp
   refine rpG ?_
   refine dIo mixed ?_
   have i2 := ik (W ((nth a0.Yf 0) - 101)).toNat ([7, 5, 5, 9, 6] : List Int)
   have r1 := ZE (f := iR) i2; try simp at r1
   simp [i1, ZE, r1]
   refine rpG ?_
   refine cKt f ?_ ?_ <;> intro k3 h2 f
   ·exact rtg [.tmp 2] f
   ·simp [i1, ZE]
    refine rpG ?_
    exact rtg [.tmp 2] f
 ·refine sGo ?_
  simp
  refine rpG ?_
  refine cKo f ?_ ?_ <;> intro k4 h3 f
  ·have q3 := h3; try simp [YU] at q3
   simp
   refine rpG ?_
   exact rtg [.tmp 2] f
  ·simp [G] at h3
theorem Rw (a0 : ZT) : Sa 186 [a0.row] [(Ze a0).1.row, rB (Ze a0).2] := by
 have f := me (Ze.eq_1 a0)
 refine so func186 ntmps186 ?_
 refine dIs mixed ?_
 refine cRs (MS a0) ?_
 refine gIf ?_ ?_ <;> intro G
 ·have g1 := G; try simp at g1
  have i1 : 6 < a0.Yf.length := zBC
  simp [i1, ZE, G]
  refine rpG ?_
  refine cK f ?_ ?_ <;> intro k2 h1 f
  ·exact rtg _ f
  ·refine dIo mixed ?_
   have i2 : 1 < a0.Yf.length := zBC
   have i3 : 2 < a0.Yf.length := zBC
   have i4 : 3 < a0.Yf.length := zBC
   have i5 : 4 < a0.Yf.length := zBC
   have i6 : 5 < a0.Yf.length := zBC
   simp [i2, ZE, i3, i4, i5, i6, i1]
   refine rpG ?_
   exact rtg _ f
 ·refine cK f ?_ ?_ <;> intro k4 h2 f
  ·exact rtg _ f
  ·simp [G] at h2
theorem Pv (a0 : List YX) (a1 : Int) : Sa 187 [rL 7 YX.row a0, rI a1] [rI (Z3 a0 a1)] := by
 have f := me (Z3.eq_1 a0 a1)
 refine so func187 ntmps187 ?_
 refine lp1 (qf.eq_2 a0 a1) (fun J => Yq 20 [eL 0 7 a0 YX.row, eI 1 a1, eI 5 (J : Int)]) (fun n1 J => a0.length < n1 + J /\ J <= a0.length) (a0.length + 1) 0 (fun p1 J e1 j1 => ?_)
 refine cFf e1 ?_ ?_ <;> intro k2 h1 e1
 ·have i1 := ix h1
  have m2 := ml a0 (k2 0 _ rfl)
  have w1 := wr J
  simp [i1, ZE]
  refine rpS ?_
  refine cF e1 ?_ ?_ <;> intro k3 h2 e1
  ·exact rt [.tmp 4] (ms f e1)
  exact ny1 w1 e1
 exact rt [.tmp 4] (ms f e1)
theorem Fw (a0 : Zn) : Sa 269 [a0.row] [rB (Vn a0)] := by
 have f := me (Vn.eq_1 a0)
 refine so func269 ntmps269 ?_
 refine cRs (Y4 a0.Zd 1 999) ?_
 refine cGs (fun gg => (Wr a0.kU)) ?_
 refine cGs (fun gg => (Y4 a0.Zx (-1) (W (a0.kU + 1)))) ?_
 refine cGs (fun gg => (Y4 a0.Z1 1 99)) ?_
 exact rt [.tmp 2] f
theorem Sq (a0 : Zn) : Sd 271 [a0.row] [rL 1 iR (KJ a0)] := by
 have f := me (KJ.eq_1 a0)
 refine soD func271 ntmps271 ?_
 exact rtD [.tmp 2] f
theorem Wy (a0 : List Yw) (a1 : Zn) (u0 : Sm 2322432 a0) : Sa 188 [rL 5 Yw.row a0, a1.row] [(Yl a0 a1).1.row, rB (Yl a0 a1).2] := by
 have f := me (Yl.eq_1 a0 a1)
 refine so func188 ntmps188 ?_
 refine cRs (KK a0 a1.Z1) ?_
 refine cRs (Fw a1) ?_
 refine cF f ?_ ?_ <;> intro k1 h1 f
 ·exact rt _ f
 refine dIo mixed ?_
 have i1 : (Yc a0 a1.Z1).toNat < a0.length := by have := KO a0 a1.Z1; exact il
 simp [i1, ZE]
 refine rpS ?_
 refine cRs (YV.rd (Sq a1)) ?_
 refine cRs (WR (nth a0 (Yc a0 a1.Z1).toNat) (KJ a1) (by simp (maxDischargeDepth := 12) [Sw]; try omega)) ?_
 exact rt _ f
theorem kv (a0 : Zn) : Sd 190 [a0.row] [(XL a0).row] := by
 have f := me (XL.eq_1 a0)
 refine soD func190 ntmps190 ?_
 refine dIs mixed ?_
 refine cDs [false] (Sq a0) ?_
 exact rtD _ f
theorem Fx (a0 : ZU) (a1 : ZT) (u0 : Sm 2326528 a0) (u1 : Sm 2326528 a1) : Sd 272 [a0.row, a1.row] [(xD a0 a1).1.row, rB (xD a0 a1).2] := by
 have f := me (xD.eq_1 a0 a1)
 refine soD func272 ntmps272 ?_
 refine cDs [] (xf a0 (sg u0)) ?_
 refine drJ [14] mixed ?_
 simp
 refine cDs [true, false] (OM a1 (sg u1)) ?_
 refine kb ?_
 have c1 := sl 2326528 a0.ZJ (an u0 u1)
 simp
 refine W5 (lB := (a0.ZJ.map ZT.row)) (news := (([a1] : List ZT).map ZT.row)) (l1 := [(8, 0)]) (l2 := [(12, 1)]) (size := 3) ?_
 simp
 refine cRs (TT (ZU.mk (a0.ZJ ++ ([a1] : List ZT)) a0.ZP)) ?_
 refine cF f ?_ ?_ <;> intro k2 h1 f
 ·refine cDs [] (xf a0 (sg u0)) ?_
  exact rtD _ f
 exact rtD _ f
theorem UX (a0 : ZD) (a1 : Int) (a2 : ZT) (u0 : Sm 2322432 a0) (u1 : Sm 2322432 a2) : Sd 189 [a0.row, rI a1, a2.row] [(QE a0 a1 a2).1.row, rB (QE a0 a1 a2).2] := by
 have f := me (QE.eq_1 a0 a1 a2)
 refine soD func189 ntmps189 ?_
 refine cDs [] (QU a0 (sg u0)) ?_
 refine cRs (jE a0 a1) ?_
 refine cF f ?_ ?_ <;> intro k1 h1 f
 ·exact rtD [.cell 6 73, .tmp 7] f
 refine dIo mixed ?_
 have i1 : (Ys a0 a1).toNat < a0.ZC.length := by have := Tb a0 a1; exact il
 simp [i1, ZE]
 refine rpS ?_
 refine cDf i1 [] (Fx (nth a0.ZC (Ys a0 a1).toNat).ZK a2 (sg (ZQ.Xk (Zp (ZD.Ye u0)))) (sg u1)) ?_
 refine pA (t := 13) (j := 1) (i := (Ys a0 a1).toNat) (c := 14) (size := 16) (rows := (a0.ZC.map ZQ.row)) (ds := (xD (nth a0.ZC (Ys a0 a1).toNat).ZK a2).1.row) (L := [(28, 0), (28, 1)]) rfl rfl rfl rfl zAF zAF (by simp; try omega) zAF zAF zAF zAF zAF zAF ?_
 simp [KM (x := (ZQ.mk (nth a0.ZC (Ys a0 a1).toNat).Id (nth a0.ZC (Ys a0 a1).toNat).Y8 (nth a0.ZC (Ys a0 a1).toNat).Doc (nth a0.ZC (Ys a0 a1).toNat).Sig (xD (nth a0.ZC (Ys a0 a1).toNat).ZK a2).1)) rfl, i1, ZE, XF]
 refine rpS ?_
 exact rtD [.cell 6 73, .tmp 7] f
theorem Zv (h : b) (k : a := by (intros; first | omega | with_unfolding_all (first | first | omega | (have fi := XR a0 a1 zAX; omega) | (simp only [Bool.or_eq_false_iff, decide_eq_false_iff_not] at *; omega) | (have z := Zc G; (try simp only [] at z); omega) | (have z := Zc G.1; (try simp only [] at z); omega) | (have z := Zc G.2; (try simp only [] at z); omega) | (have z := Zc G.2.1; (try simp only [] at z); omega) | (have z := Zc G.2.2; (try simp only [] at z); omega) | (have z := Zc G.1.2; (try simp only [] at z); omega) | (have z := Zc G.2.2.2; (try simp only [] at z); omega) ) | (simp_all; done) | (simp_all; omega) | grind | ((try simp only [Y9, show ∀ x, IntKind.i64.wrap x = W x from fun _ => rfl] at *); omega))) : a /\ b := ⟨k, h⟩
theorem Ia (a0 : ZF) (a1 : Int) (u0 : Sm 2318336 a0) : Sd 103 [a0.row, rI a1] [(xC a0 a1).1.row, rB (xC a0 a1).2] := by
 have f := me (xC.eq_1 a0 a1)
 refine soD func103 ntmps103 ?_
 refine cDs [false, false, false, true, true, false, false, true, false, false, true, false] (JM a0 (sg u0)) ?_
 refine cRs (R4 a0 a1) ?_
 refine gIo ?_ ?_ <;> intro G
 ·have g5 := G
  have g1 := G; try simp at g1
  have i1 : (ZG a0 a1).1.toNat < a0.ZA.length := zAI
  simp [i1, ZE, G]
  refine zB6 ?_
  refine gK (fun _ => ?_)
  have i2 : (ZG a0 a1).2.toNat < (nth a0.ZA (ZG a0 a1).1.toNat).ZC.length := zAI
  simp [i2, ZE, G]
  refine zB6 ?_
  refine cKo f ?_ ?_ <;> intro k1 h1 f
  ·simp [G]
   refine zB6 ?_
   exact yJ [.cell 4 33, .tmp 5] f
  ·have i3 : 1 < (nth (nth a0.ZA (ZG a0 a1).1.toNat).ZC (ZG a0 a1).2.toNat).ZK.ZJ.length := zAI
   simp [i1, ZE, i2, i3, G]
   refine zB6 ?_
   refine cR (Rw (nth (nth (nth a0.ZA (ZG a0 a1).1.toNat).ZC (ZG a0 a1).2.toNat).ZK.ZJ 1)) ?_
   simp [G]
   refine zB6 ?_
   refine cR (Pv a0.ZY (Ze (nth (nth (nth a0.ZA (ZG a0 a1).1.toNat).ZC (ZG a0 a1).2.toNat).ZK.ZJ 1)).1.Zd) ?_
   simp [G]
   refine zB6 ?_
   refine cKo f ?_ ?_ <;> intro k2 h2 f
   ·simp [G]
    refine zB6 ?_
    exact yJ [.cell 4 33, .tmp 5] f
   ·simp [G]
    refine zB6 ?_
    refine dIo mixed ?_
    have i4 : (Z3 a0.ZY (Ze (nth (nth (nth a0.ZA (ZG a0 a1).1.toNat).ZC (ZG a0 a1).2.toNat).ZK.ZJ 1)).1.Zd).toNat < a0.ZY.length := zAN
    simp [i4, ZE, G]
    refine zB6 ?_
    refine cR (KK a0.Frame.Zo (nth a0.ZY (Z3 a0.ZY (Ze (nth (nth (nth a0.ZA (ZG a0 a1).1.toNat).ZC (ZG a0 a1).2.toNat).ZK.ZJ 1)).1.Zd).toNat).Z1) ?_
    simp [G]
    refine zB6 ?_
    refine dIo mixed ?_
    simp [i4, ZE, G]
    refine zB6 ?_
    refine dIo mixed ?_
    have i5 : (Z3 a0.ZY (Ze (nth (nth (nth a0.ZA (ZG a0 a1).1.toNat).ZC (ZG a0 a1).2.toNat).ZK.ZJ 1)).1.Zd).toNat < a0.Zx.length := zAN
    simp [i5, ZE, G]
    refine zB6 ?_
    refine cKo f ?_ ?_ <;> intro k6 h3 f
    ·simp [i5, ZE, G]
     refine zB6 ?_
     refine cR (Wy a0.Frame.Zo (Zn.mk (Ze (nth (nth (nth a0.ZA (ZG a0 a1).1.toNat).ZC (ZG a0 a1).2.toNat).ZK.ZJ 1)).1.Zd a0.Frame.Now (nth a0.Zx (Z3 a0.ZY (Ze (nth (nth (nth a0.ZA (ZG a0 a1).1.toNat).ZC (ZG a0 a1).2.toNat).ZK.ZJ 1)).1.Zd).toNat) (nth a0.ZY (Z3 a0.ZY (Ze (nth (nth (nth a0.ZA (ZG a0 a1).1.toNat).ZC (ZG a0 a1).2.toNat).ZK.ZJ 1)).1.Zd).toNat).Z1 0) (sg (ZX.XS (ZF.Y7 u0)))) ?_
     simp [G]
     refine zB6 ?_
     refine dIo mixed ?_
     simp [G]
     refine zB6 ?_
     refine gJo G ?_ ?_ <;> intro G
     ·have g2x := G.2
      try (simp at G; done)
      all_goals
       have g2 := G.2; try simp at g2
       all_goals
        have i6 : (Yc a0.Frame.Zo (nth a0.ZY (Z3 a0.ZY (Ze (nth (nth (nth a0.ZA (ZG a0 a1).1.toNat).ZC (ZG a0 a1).2.toNat).ZK.ZJ 1)).1.Zd).toNat).Z1).toNat < a0.Frame.Zo.length := zAJ
        simp [i6, ZE, G]
        refine zB6 ?_
        refine cKo f ?_ ?_ <;> intro k8 h4 f
        ·simp [G]
         refine zB6 ?_
         exact yJ [.cell 4 33, .tmp 5] f
        ·simp [G]
         refine zB6 ?_
         refine dIo mixed ?_
         simp [i1, ZE, G]
         refine zB6 ?_
         refine cR (YV.rd (kv (Yl a0.Frame.Zo (Zn.mk (Ze (nth (nth (nth a0.ZA (ZG a0 a1).1.toNat).ZC (ZG a0 a1).2.toNat).ZK.ZJ 1)).1.Zd a0.Frame.Now (nth a0.Zx (Z3 a0.ZY (Ze (nth (nth (nth a0.ZA (ZG a0 a1).1.toNat).ZC (ZG a0 a1).2.toNat).ZK.ZJ 1)).1.Zd).toNat) (nth a0.ZY (Z3 a0.ZY (Ze (nth (nth (nth a0.ZA (ZG a0 a1).1.toNat).ZC (ZG a0 a1).2.toNat).ZK.ZJ 1)).1.Zd).toNat).Z1 0)).1)) ?_
         simp [G]
         refine zB6 ?_
         refine cD [] (UX (nth a0.ZA (ZG a0 a1).1.toNat) a1 (XL (Yl a0.Frame.Zo (Zn.mk (Ze (nth (nth (nth a0.ZA (ZG a0 a1).1.toNat).ZC (ZG a0 a1).2.toNat).ZK.ZJ 1)).1.Zd a0.Frame.Now (nth a0.Zx (Z3 a0.ZY (Ze (nth (nth (nth a0.ZA (ZG a0 a1).1.toNat).ZC (ZG a0 a1).2.toNat).ZK.ZJ 1)).1.Zd).toNat) (nth a0.ZY (Z3 a0.ZY (Ze (nth (nth (nth a0.ZA (ZG a0 a1).1.toNat).ZC (ZG a0 a1).2.toNat).ZK.ZJ 1)).1.Zd).toNat).Z1 0)).1) (sg (Zp (ZF.Yn u0))) zA3) ?_
         simp [i1, ZE, G]
         refine zB6 ?_
         refine ND (t := 18) (j := 7) (i := (ZG a0 a1).1.toNat) (size := 2) (rows := (a0.ZA.map ZD.row)) (ds := (QE (nth a0.ZA (ZG a0 a1).1.toNat) a1 (XL (Yl a0.Frame.Zo (Zn.mk (Ze (nth (nth (nth a0.ZA (ZG a0 a1).1.toNat).ZC (ZG a0 a1).2.toNat).ZK.ZJ 1)).1.Zd a0.Frame.Now (nth a0.Zx (Z3 a0.ZY (Ze (nth (nth (nth a0.ZA (ZG a0 a1).1.toNat).ZC (ZG a0 a1).2.toNat).ZK.ZJ 1)).1.Zd).toNat) (nth a0.ZY (Z3 a0.ZY (Ze (nth (nth (nth a0.ZA (ZG a0 a1).1.toNat).ZC (ZG a0 a1).2.toNat).ZK.ZJ 1)).1.Zd).toNat).Z1 0)).1)).1.row) (L := [(150, 1)]) ?_
         simp [KM (x := (QE (nth a0.ZA (ZG a0 a1).1.toNat) a1 (XL (Yl a0.Frame.Zo (Zn.mk (Ze (nth (nth (nth a0.ZA (ZG a0 a1).1.toNat).ZC (ZG a0 a1).2.toNat).ZK.ZJ 1)).1.Zd a0.Frame.Now (nth a0.Zx (Z3 a0.ZY (Ze (nth (nth (nth a0.ZA (ZG a0 a1).1.toNat).ZC (ZG a0 a1).2.toNat).ZK.ZJ 1)).1.Zd).toNat) (nth a0.ZY (Z3 a0.ZY (Ze (nth (nth (nth a0.ZA (ZG a0 a1).1.toNat).ZC (ZG a0 a1).2.toNat).ZK.ZJ 1)).1.Zd).toNat).Z1 0)).1)).1) rfl, i1, ZE, XF, G]
         refine zB6 ?_
         exact yJ [.cell 4 33, .tmp 5] f
     ·have g2x := G.2
      try (simp at G; done)
      all_goals
       simp [G]
       refine zB6 ?_
       refine cKo f ?_ ?_ <;> intro bP h5 f
       ·simp [G]
        refine zB6 ?_
        exact yJ [.cell 4 33, .tmp 5] f
       ·simp [G] at h5
    ·simp [G]
     refine zB6 ?_
     refine cR (Wy a0.Frame.Zo (Zn.mk (Ze (nth (nth (nth a0.ZA (ZG a0 a1).1.toNat).ZC (ZG a0 a1).2.toNat).ZK.ZJ 1)).1.Zd a0.Frame.Now (-1) (nth a0.ZY (Z3 a0.ZY (Ze (nth (nth (nth a0.ZA (ZG a0 a1).1.toNat).ZC (ZG a0 a1).2.toNat).ZK.ZJ 1)).1.Zd).toNat).Z1 0) (sg (ZX.XS (ZF.Y7 u0)))) ?_
     simp [G]
     refine zB6 ?_
     refine dIo mixed ?_
     simp [G]
     refine zB6 ?_
     refine gJo G ?_ ?_ <;> intro G
     ·have g3x := G.2
      try (simp at G; done)
      all_goals
       have g3 := G.2; try simp at g3
       all_goals
        have i8 : (Yc a0.Frame.Zo (nth a0.ZY (Z3 a0.ZY (Ze (nth (nth (nth a0.ZA (ZG a0 a1).1.toNat).ZC (ZG a0 a1).2.toNat).ZK.ZJ 1)).1.Zd).toNat).Z1).toNat < a0.Frame.Zo.length := zAJ
        simp [i8, ZE, G]
        refine zB6 ?_
        refine cKo f ?_ ?_ <;> intro bh h6 f
        ·simp [G]
         refine zB6 ?_
         exact yJ [.cell 4 33, .tmp 5] f
        ·simp [G]
         refine zB6 ?_
         refine dIo mixed ?_
         simp [i1, ZE, G]
         refine zB6 ?_
         refine cR (YV.rd (kv (Yl a0.Frame.Zo (Zn.mk (Ze (nth (nth (nth a0.ZA (ZG a0 a1).1.toNat).ZC (ZG a0 a1).2.toNat).ZK.ZJ 1)).1.Zd a0.Frame.Now (-1) (nth a0.ZY (Z3 a0.ZY (Ze (nth (nth (nth a0.ZA (ZG a0 a1).1.toNat).ZC (ZG a0 a1).2.toNat).ZK.ZJ 1)).1.Zd).toNat).Z1 0)).1)) ?_
         simp [G]
         refine zB6 ?_
         refine cD [] (UX (nth a0.ZA (ZG a0 a1).1.toNat) a1 (XL (Yl a0.Frame.Zo (Zn.mk (Ze (nth (nth (nth a0.ZA (ZG a0 a1).1.toNat).ZC (ZG a0 a1).2.toNat).ZK.ZJ 1)).1.Zd a0.Frame.Now (-1) (nth a0.ZY (Z3 a0.ZY (Ze (nth (nth (nth a0.ZA (ZG a0 a1).1.toNat).ZC (ZG a0 a1).2.toNat).ZK.ZJ 1)).1.Zd).toNat).Z1 0)).1) (sg (Zp (ZF.Yn u0))) zA3) ?_
         simp [i1, ZE, G]
         refine zB6 ?_
         refine ND (t := 18) (j := 7) (i := (ZG a0 a1).1.toNat) (size := 2) (rows := (a0.ZA.map ZD.row)) (ds := (QE (nth a0.ZA (ZG a0 a1).1.toNat) a1 (XL (Yl a0.Frame.Zo (Zn.mk (Ze (nth (nth (nth a0.ZA (ZG a0 a1).1.toNat).ZC (ZG a0 a1).2.toNat).ZK.ZJ 1)).1.Zd a0.Frame.Now (-1) (nth a0.ZY (Z3 a0.ZY (Ze (nth (nth (nth a0.ZA (ZG a0 a1).1.toNat).ZC (ZG a0 a1).2.toNat).ZK.ZJ 1)).1.Zd).toNat).Z1 0)).1)).1.row) (L := [(150, 1)]) ?_
         simp [KM (x := (QE (nth a0.ZA (ZG a0 a1).1.toNat) a1 (XL (Yl a0.Frame.Zo (Zn.mk (Ze (nth (nth (nth a0.ZA (ZG a0 a1).1.toNat).ZC (ZG a0 a1).2.toNat).ZK.ZJ 1)).1.Zd a0.Frame.Now (-1) (nth a0.ZY (Z3 a0.ZY (Ze (nth (nth (nth a0.ZA (ZG a0 a1).1.toNat).ZC (ZG a0 a1).2.toNat).ZK.ZJ 1)).1.Zd).toNat).Z1 0)).1)).1) rfl, i1, ZE, XF, G]
         refine zB6 ?_
         exact yJ [.cell 4 33, .tmp 5] f
     ·have g3x := G.2
      try (simp at G; done)
      all_goals
       simp [G]
       refine zB6 ?_
       refine cKo f ?_ ?_ <;> intro k15 h7 f
       ·simp [G]
        refine zB6 ?_
        exact yJ [.cell 4 33, .tmp 5] f
       ·simp [G] at h7
 ·have g5 := G
  simp [G]
  refine zB6 ?_
  refine sGo ?_
  simp [G]
  refine zB6 ?_
  refine cKo f ?_ ?_ <;> intro k17 h8 f
  ·simp [G]
   refine zB6 ?_
   exact yJ [.cell 4 33, .tmp 5] f
  ·simp [G] at h8
theorem Iw (a0 : ZF) (a1 : Int) (u0 : Sm 2318336 a0) : Sd 104 [a0.row, rI a1] [(y5 a0 a1).1.row, rB (y5 a0 a1).2] := by
 have f := me (y5.eq_1 a0 a1)
 refine soD func104 ntmps104 ?_
 refine cDs [false, false, false, true, true, false, false, true, false, false, true, false] (JM a0 (sg u0)) ?_
 refine cRs (Y4 a1 0 (W ((a0.Zx.length : Int) - 1))) ?_
 refine gIf ?_ ?_ <;> intro G
 ·have c1 := sl 2318336 a0.Zx u0
  have w1 : IntKind.i64.wrap ((a0.Zx.length : Int) - 1) = (a0.Zx.length : Int) - 1 := YN zAA zAA
  have g1 := G; try simp [YU, w1] at g1
  have i1 := ik a1.toNat a0.Zx
  simp [i1, ZE, G]
  refine rpG ?_
  refine cKo f ?_ ?_ <;> intro k1 h1 f
  ·have q1 := h1; try simp [YU, w1] at q1
   simp [G]
   refine rpG ?_
   exact yJ [.cell 4 33, .tmp 5] f
  ·have q1 := h1; try simp [YU, w1] at q1
   simp [i1, ZE, KM (x := (W (a0.Frame.Now + 1))) rfl, G]
   refine rpG ?_
   refine ID (rv := [.cell 4 33, .tmp 5]) rfl ?_
   simp [f.h, G]
   all_goals (repeat' (first | exact Hu zAF zAF | refine And.intro ?_ ?_))
 ·have c2 := sl 2318336 a0.Zx u0
  have w2 : IntKind.i64.wrap ((a0.Zx.length : Int) - 1) = (a0.Zx.length : Int) - 1 := YN zAA zAA
  refine cKo f ?_ ?_ <;> intro k2 h2 f
  ·have q2 := h2; try simp [YU, w2] at q2
   simp [G]
   refine rpG ?_
   exact yJ [.cell 4 33, .tmp 5] f
  ·simp [G] at h2
theorem y0 (a0 : List Zf) (a1 : Int) : Sa 193 [rL 3 Zf.row a0, rI a1] [rI (Zh a0 a1)] := by
 have f := me (Zh.eq_1 a0 a1)
 refine so func193 ntmps193 ?_
 refine lp1 (Kc.eq_2 a0 a1) (fun J => Yq 20 [eL 0 3 a0 Zf.row, eI 1 a1, eI 5 (J : Int)]) (fun n1 J => a0.length < n1 + J /\ J <= a0.length) (a0.length + 1) 0 (fun p1 J e1 j1 => ?_)
 refine cFf e1 ?_ ?_ <;> intro k2 h1 e1
 ·have i1 := ix h1
  have m2 := ml a0 (k2 0 _ rfl)
  have w1 := wr J
  simp [i1, ZE]
  refine rpS ?_
  refine cF e1 ?_ ?_ <;> intro k3 h2 e1
  ·exact rt [.tmp 4] (ms f e1)
  exact ny1 w1 e1
 exact rt [.tmp 4] (ms f e1)
theorem Cj (a0 : ZF) (a1 : List Int) : Sa 192 [a0.row, rL 1 iR a1] [rB (zm a0 a1)] := by
 have f := me (zm.eq_1 a0 a1)
 refine so func192 ntmps192 ?_
 refine lp1 (jT.eq_2 a0 a1) (fun J => Yq 76 [eL 1 1 a1 iR, eX 2 (a0.row.map .d), eI 5 (J : Int)]) (fun n1 J => a1.length < n1 + J /\ J <= a1.length) (a1.length + 1) 0 (fun p1 J e1 j1 => ?_)
 refine cF e1 ?_ ?_ <;> intro k2 h1 e1
 ·have i1 := ix h1
  have m2 := ml a1 (k2 1 _ rfl)
  have w1 := wr J
  refine dIo mixed ?_
  simp [i1, ZE]
  refine rpS ?_
  refine cRs (y0 a0.Frame.ZB (nth a1 J)) ?_
  refine dIs mixed ?_
  refine gIf ?_ ?_ <;> intro G
  ·have i2 := ik (J - 1) a1
   have w2 : IntKind.i64.wrap ((J : Int) - 1) = (J : Int) - 1 := YN zAA zAA
   simp [i2, ZE, w2, UB, G]
   refine rpG ?_
   refine gK (fun _ => ?_)
   simp [i1, ZE, G]
   refine rpG ?_
   refine cK e1 ?_ ?_ <;> intro k5 h2 e1
   ·exact rtg [.tmp 4] (ms f e1)
   ·refine dIo mixed ?_
    have i3 : (Zh a0.Frame.ZB (nth a1 J)).toNat < a0.Frame.ZB.length := by have := JW a0.Frame.ZB (nth a1 J); exact il
    simp [i3, ZE, G]
    refine rpG ?_
    refine cRg (KK a0.Frame.Zo (nth a0.Frame.ZB (Zh a0.Frame.ZB (nth a1 J)).toNat).Key) ?_
    refine dIg mixed ?_
    refine gJf G ?_ ?_ <;> intro G
    ·try (simp at G; done)
     all_goals
      have i4 : (Yc a0.Frame.Zo (nth a0.Frame.ZB (Zh a0.Frame.ZB (nth a1 J)).toNat).Key).toNat < a0.Frame.Zo.length := zBK
      simp [i4, ZE, G]
      refine rpG ?_
      refine cK e1 ?_ ?_ <;> intro k8 h3 e1
      ·exact rtg [.tmp 4] (ms f e1)
      ·exact ny1 (an w1 (an w2 G)) e1
    ·try (simp at G; done)
     all_goals
      refine cK e1 ?_ ?_ <;> intro k9 h4 e1
      ·exact rtg [.tmp 4] (ms f e1)
      ·simp [G] at h4
  ·refine sGg ?_
   refine cK e1 ?_ ?_ <;> intro bP h5 e1
   ·exact rtg [.tmp 4] (ms f e1)
   ·refine dIo mixed ?_
    have i7 : (Zh a0.Frame.ZB (nth a1 J)).toNat < a0.Frame.ZB.length := by have := JW a0.Frame.ZB (nth a1 J); exact il
    simp [i7, ZE, G]
    refine rpG ?_
    refine cRg (KK a0.Frame.Zo (nth a0.Frame.ZB (Zh a0.Frame.ZB (nth a1 J)).toNat).Key) ?_
    refine dIg mixed ?_
    refine gJf G ?_ ?_ <;> intro G
    ·try (simp at G; done)
     all_goals
      have i8 : (Yc a0.Frame.Zo (nth a0.Frame.ZB (Zh a0.Frame.ZB (nth a1 J)).toNat).Key).toNat < a0.Frame.Zo.length := zBK
      simp [i8, ZE, G]
      refine rpG ?_
      refine cK e1 ?_ ?_ <;> intro bh h6 e1
      ·exact rtg [.tmp 4] (ms f e1)
      ·exact ny1 (an w1 G) e1
    ·try (simp at G; done)
     all_goals
      refine cK e1 ?_ ?_ <;> intro k14 h7 e1
      ·exact rtg [.tmp 4] (ms f e1)
      ·simp [G] at h7
 exact rt [.tmp 4] (ms f e1)
theorem Iu (a0 : ZU) (a1 : ZN) (u0 : Sm 2318336 a0) (u1 : Sm 2318336 a1) : Sd 210 [a0.row, a1.row] [rL 1 iR (JT a0 a1)] := by
 have f := me (JT.eq_1 a0 a1)
 refine soD func210 ntmps210 ?_
 refine lp2 (KP.eq_2 a0 a1) (fun J U => Yq 27 [eX 2 (a0.row.map .d), eX 3 (a1.row.map .d), (5, .one (.sref 5 0 0 J.length), [.arr false 1 (J.map iR)]), eI 6 (U : Int)]) (fun n1 J U => a0.ZP.length < n1 + U /\ U <= a0.ZP.length /\ J.length <= 0 + 1 * U) (a0.ZP.length + 1) ([] : List Int) 0 (fun p1 J U e1 j1 => ?_) (h0 := wkS [((5, 0), some (7, 0))] [])
 refine cF e1 ?_ ?_ <;> intro k2 h1 e1
 ·have i1 := ix h1
  have m2 := ml a0.ZP (k2 10 _ rfl)
  have c1 := sl 2318336 a0.ZP (an u0 u1)
  have w1 := wr U
  refine dIo mixed ?_
  simp [i1, ZE]
  refine rpS ?_
  refine cRs (V4 (nth a0.ZP U).Method a1 (sg u1)) ?_
  exact nx2 e1 (hw := XI [((5, 0), some (25, 0))] [] rfl zAb)
 exact rtD [.tmp 4] (ms f e1)
theorem S9 (a0 : Zj) : Sd 274 [a0.row] [rL 1 iR (zG a0)] := by
 have f := me (zG.eq_1 a0)
 refine soD func274 ntmps274 ?_
 exact rtD [.tmp 2] f
theorem UO (a0 : Int) (a1 : ZZ) (u0 : Sm 2326528 a1) : Sa 284 [rI a0, a1.row] [rI (Kl a0 a1)] := by
 have f := me (Kl.eq_1 a0 a1)
 refine so func284 ntmps284 ?_
 refine lp2 (Kd.eq_2 a1) (fun J U => Yq 75 [eI 0 a0, eX 3 (a1.row.map .d), (5, .one (.sref 5 0 0 J.length), [.arr false 1 (J.map iR)]), eI 6 (U : Int)]) (fun n1 J U => a1.Path.length < n1 + U /\ U <= a1.Path.length /\ J.length <= 4 + 2 * U) (a1.Path.length + 1) ([4, a1.Count, a1.Method, a1.BE] : List Int) 0 (fun p1 J U e1 j1 => ?_) (h0 := wkS [((5, 0), some (14, 0))] [])
 refine cFo e1 ?_ ?_ <;> intro k2 h1 e1
 ·have q1 := h1; try simp at q1
  have i1 := ix h1
  have m2 := ml a1.Path (k2 17 _ rfl)
  have c1 := sl 2326528 a1.Path u0
  have w1 := wr U
  simp [i1, ZE]
  refine rpS ?_
  refine cFo e1 ?_ ?_ <;> intro k3 h2 e1
  ·have q2 := h2; try simp at q2
   simp
   refine rpS ?_
   exact nx2 e1 (hw := XI [((5, 0), some (39, 0))] [] rfl zAb)
  have q2 := h2; try simp at q2
  simp
  refine rpS ?_
  exact nx2 e1 (hw := XI [((5, 0), some (42, 0))] [] rfl zAb)
 have q1 := h1; try simp at q1
 have c2 := sl 2326528 a1.Path u0
 have f := ms f e1
 simp
 refine rpS ?_
 refine lp2 (zi.eq_2 a1) (fun m0 m9 => Yq 75 [eI 0 a0, eX 3 (a1.row.map .d), (5, .one (.sref 5 0 0 m0.length), [.arr false 1 (m0.map iR)]), eI 7 (m9 : Int)]) (fun n2 m0 m9 => a1.YH.length < n2 + m9 /\ m9 <= a1.YH.length /\ m0.length <= 5 + 2 * 2326528 + 6 * m9) (a1.YH.length + 1) (J ++ ([(a1.YH.length : Int)] : List Int)) 0 (fun p2 m0 m9 e2 j2 => ?_) (hI := by (have o : a1.Path.length <= 2326528 := YS (xs u0); simp at *; omega)) (h0 := wkS [((5, 0), some (48, 0))] [])
 try dsimp only at j2
 refine cFo e2 ?_ ?_ <;> intro k5 h3 e2
 ·have q3 := h3; try simp at q3
  have i2 := ix h3
  have m4 := ml a1.YH (k5 51 _ rfl)
  have c3 := sl 2326528 a1.YH u0
  have w2 := wr m9
  simp
  refine dIo mixed ?_
  simp [i2, ZE]
  refine rpS ?_
  refine cRf i2 (YV.rd (S9 (nth a1.YH m9))) ?_
  exact nx2 e2 (hI := by (simp; omega)) (hw := XI [((5, 0), some (71, 0))] [] rfl (by simp [w2]))
 have q3 := h3; try simp at q3
 have c4 := sl 2326528 a1.YH u0
 have f := ms f e2
 simp
 refine cRs (zE a0 m0 zAK) ?_
 exact rt [.tmp 4] f
theorem Ue (a0 : Int) (a1 : List ZT) (u0 : Sm 2326528 a1) : Sa 329 [rI a0, rL 3 ZT.row a1] [rI (KZ a0 a1)] := by
 have f := me (KZ.eq_1 a0 a1)
 refine so func329 ntmps329 ?_
 refine lp2 (yY.eq_2 a0 a1) (fun J U => Yq 39 [eI 0 a0, eL 1 3 a1 ZT.row, (5, .one (.sref 5 0 0 J.length), [.arr false 1 (J.map iR)]), eI 6 (U : Int)]) (fun n1 J U => a1.length < n1 + U /\ U <= a1.length /\ J.length <= 1 + 1 * U) (a1.length + 1) ([2] : List Int) 0 (fun p1 J U e1 j1 => ?_) (h0 := wkS [((5, 0), some (7, 0))] [])
 refine cF e1 ?_ ?_ <;> intro k2 h1 e1
 ·have i1 := ix h1
  have m2 := ml a1 (k2 1 _ rfl)
  have c1 := sl 2326528 a1 u0
  have w1 := wr U
  refine Hk [2, 3, 4, 5, 6, 7, 8, 9, 10, 11, 12, 13, 14, 15, 16, 17, 18, 0, 1, 19, 20, 21, 22] mixed zAU zAU zAU ?_
  have c2 := sl 2326528 (nth a1 U).Yf u0
  simp [i1, ZE]
  refine rpS ?_
  refine cRs (zE a0 (([(nth a1 U).Key, (nth a1 U).Mark] : List Int) ++ (nth a1 U).Yf) (by simp (maxDischargeDepth := 12) [kl, XD, ZM (m := 68719476736) zAE u0]; try omega)) ?_
  exact nx2 e1 (hw := XI [((5, 0), some (35, 0))] [] rfl zAb)
 have c3 := sl 2326528 a1 u0
 have f := ms f e1
 refine cRs (zE a0 J zAK) ?_
 exact rt [.tmp 4] f
theorem Lu (a0 : Int) (a1 : Int) (a2 : List ZT) (a3 : Int) (u0 : Sm 2322432 a2) : Sa 285 [rI a0, rI a1, rL 3 ZT.row a2, rI a3] [rI (T2 a0 a1 a2 a3)] := by
 have f := me (T2.eq_1 a0 a1 a2 a3)
 refine so func285 ntmps285 ?_
 refine cRs (Ue a0 a2 (sg u0)) ?_
 refine cRs (zE a0 ([3, a1, (KZ a0 a2), a3] : List Int) zAo) ?_
 exact rt [.tmp 8] f
theorem JE (h : b) (k : a := by (intros; first | omega | with_unfolding_all (first | first | omega | (have cc : a0.ZP.length <= 2318336 := YS (xs u0); have z0 := g5; simp at z0; have z := UE zAA z0.1; have z2 := z0.2; (try have w3 : IntKind.i64.wrap (a2 - 1) = a2 - 1 := YN zAA zAA); (try have w4 : W (a2 - 1) = a2 - 1 := w3); first | omega | (refine ⟨⟨z0.1, zAA⟩, zAA, zAA⟩) | (simp_all; omega))) | (simp_all; done) | (simp_all; omega) | grind | ((try simp only [Y9, show ∀ x, IntKind.i64.wrap x = W x from fun _ => rfl] at *); omega))) : a /\ b := ⟨k, h⟩
theorem B2 (a0 : ZU) (a1 : List Int) (a2 : Int) (u0 : Sm 2318336 a0) (u1 : Sm 2318336 a1) : Sa 209 [a0.row, rL 1 iR a1, rI a2] [rI (Wb a0 a1 a2)] := by
 have f := me (Wb.eq_1 a0 a1 a2)
 refine so func209 ntmps209 ?_
 refine dIs mixed ?_
 refine cRs (Y4 a2 0 (W ((a0.ZP.length : Int) - 1))) ?_
 refine gIo ?_ ?_ <;> intro G
 ·have g5 := G
  have c1 := sl 2318336 a0.ZP (an u0 u1)
  have w1 : IntKind.i64.wrap ((a0.ZP.length : Int) - 1) = (a0.ZP.length : Int) - 1 := YN zAA zAA
  have g1 := G; try simp [YU, w1] at g1
  have i1 : a2.toNat < a0.ZP.length := zAR
  simp [i1, ZE, G]
  refine zCA ?_
  refine cGo (fun gg => (Y4 (nth a0.ZP a2.toNat).Count 0 (a0.ZJ.length : Int))) ?_
  simp [G]
  refine zCA ?_
  refine cKo f ?_ ?_ <;> intro k2 h1 f
  ·have q1 := h1; try simp [YU, w1] at q1
   simp [G]
   refine zCA ?_
   exact rtg [.tmp 6] f
  ·have q1 := h1; try simp [YU, w1] at q1
   simp [i1, ZE, G]
   refine zCA ?_
   refine cKo f ?_ ?_ <;> intro k3 h2 f
   ·have q2 := h2; try simp at q2
    have i2 : (W (a2 - 1)).toNat < a0.ZP.length := zAR
    simp [i2, ZE, G]
    refine zCA ?_
    refine cR (UO (nth a0.ZP a2.toNat).Method (nth a0.ZP (W (a2 - 1)).toNat) (sg (Zp (ZU.zo u0)))) ?_ (lN := by first | (simp; done) | (simp [W, w1]; done))
    simp [G]
    refine zCA ?_
    refine dIo mixed ?_
    have i3 : a2.toNat < a1.length := zAR
    simp [i3, ZE, i1, G]
    refine zCA ?_
    refine cR (Lu (nth a0.ZP a2.toNat).Method (nth a1 a2.toNat) (a0.ZJ.take (nth a0.ZP a2.toNat).Count.toNat) (Kl (nth a0.ZP a2.toNat).Method (nth a0.ZP (W (a2 - 1)).toNat)) (ZM (n := 2318336) zAE (xs (an u0 u1)))) ?_ (lN := by first | (simp; done) | (simp [W, w1]; done))
    simp [G]
    refine zCA ?_
    exact rtg [.tmp 6] f
   ·have q2 := h2; try simp at q2
    simp [G]
    refine zCA ?_
    refine dIo mixed ?_
    have i4 : a2.toNat < a1.length := zAR
    simp [i4, ZE, i1, G]
    refine zCA ?_
    refine cR (Lu (nth a0.ZP a2.toNat).Method (nth a1 a2.toNat) (a0.ZJ.take (nth a0.ZP a2.toNat).Count.toNat) 0 (ZM (n := 2318336) zAE (xs (an u0 u1)))) ?_
    simp [G]
    refine zCA ?_
    exact rtg [.tmp 6] f
 ·have g5 := G
  simp [G]
  refine zCA ?_
  refine sGo ?_
  simp [G]
  refine zCA ?_
  have c2 := sl 2318336 a0.ZP (an u0 u1)
  have w2 : IntKind.i64.wrap ((a0.ZP.length : Int) - 1) = (a0.ZP.length : Int) - 1 := YN zAA zAA
  refine cKo f ?_ ?_ <;> intro k6 h3 f
  ·have q3 := h3; try simp [YU, w2] at q3
   simp [G]
   refine zCA ?_
   exact rtg [.tmp 6] f
  ·simp [G] at h3
theorem V2 (a0 : ZD) (a1 : Int) (u0 : Sm 2314240 a0) : Sd 129 [a0.row, rI a1] [rL 1 iR (YJ a0 a1)] := by
 have f := me (YJ.eq_1 a0 a1)
 refine soD func129 ntmps129 ?_
 refine lp2 (KI.eq_2 a0 a1) (fun J U => Yq 51 [eI 1 a1, eX 2 (a0.row.map .d), (5, .one (.sref 5 0 0 J.length), [.arr false 1 (J.map iR)]), eI 6 (U : Int)]) (fun n1 J U => a0.ZC.length < n1 + U /\ U <= a0.ZC.length /\ J.length <= 0 + 1 * U) (a0.ZC.length + 1) ([] : List Int) 0 (fun p1 J U e1 j1 => ?_) (h0 := wkS [((5, 0), some (8, 0))] [])
 refine cFf e1 ?_ ?_ <;> intro k2 h1 e1
 ·have i1 := ix h1
  have m2 := ml a0.ZC (k2 11 _ rfl)
  have c1 := sl 2314240 a0.ZC u0
  have w1 := wr U
  simp [i1, ZE]
  refine rpS ?_
  refine cOs (YV.own (xf (nth a0.ZC U).ZK (sg (ZQ.Xk (Zp (ZD.Ye u0)))))) ?_
  refine eIs ?_
  have c2 := sl 2314240 (nth a0.ZC U).ZK.ZP u0
  refine eIs ?_
  refine dIo mixed ?_
  simp [i1, ZE]
  refine rpS ?_
  refine cDs [false] (Iu (ZU.mk (nth a0.ZC U).ZK.ZJ ((nth a0.ZC U).ZK.ZP ++ ([(ZZ.mk ((nth a0.ZC U).ZK.ZJ.length : Int) a1 0 ([] : List Xx) ([] : List Zj))] : List ZZ))) (nth a0.ZC U).Doc zAO zAO) ?_
  refine cRs (B2 (ZU.mk (nth a0.ZC U).ZK.ZJ ((nth a0.ZC U).ZK.ZP ++ ([(ZZ.mk ((nth a0.ZC U).ZK.ZJ.length : Int) a1 0 ([] : List Xx) ([] : List Zj))] : List ZZ))) (JT (ZU.mk (nth a0.ZC U).ZK.ZJ ((nth a0.ZC U).ZK.ZP ++ ([(ZZ.mk ((nth a0.ZC U).ZK.ZJ.length : Int) a1 0 ([] : List Xx) ([] : List Zj))] : List ZZ))) (nth a0.ZC U).Doc) (W ((((nth a0.ZC U).ZK.ZP ++ ([(ZZ.mk ((nth a0.ZC U).ZK.ZJ.length : Int) a1 0 ([] : List Xx) ([] : List Zj))] : List ZZ)).length : Int) - 1)) zAO zAO) ?_ (lN := by first | (simp; done) | (simp [W, w1]; done))
  exact nx2 e1 (hw := XI [((5, 0), some (49, 0))] [] rfl zAb)
 have c3 := sl 2314240 a0.ZC u0
 exact rtD [.tmp 4] (ms f e1)
theorem Ie (a0 : Int) (a1 : Int) (a2 : Int) : Sa 286 [rI a0, rI a1, rI a2] [rI (kM a0 a1 a2)] := by
 have f := me (kM.eq_1 a0 a1 a2)
 refine so func286 ntmps286 ?_
 refine cRs (zE a0 ([1, a1, a2] : List Int) (by simp (maxDischargeDepth := 12) [kl, XD]; try omega)) ?_
 exact rt [.tmp 6] f
theorem SO (a0 : Int) (a1 : List Int) (u0 : Sm 2322432 a1) : Sd 211 [rI a0, rL 1 iR a1] [rL 1 iR (WN a0 a1)] := by
 have f := me (WN.eq_1 a0 a1)
 refine soD func211 ntmps211 ?_
 refine lp2 (jq.eq_2 a0 a1) (fun J U => Yq 41 [eI 0 a0, eL 1 1 a1 iR, (5, .one (.sref 5 0 0 J.length), [.arr false 1 (J.map iR)]), eI 6 (U : Int)]) (fun n1 J U => a1.length < n1 + U /\ U <= a1.length + 1 /\ J.length <= U) (a1.length + 1) ([] : List Int) 0 (fun p1 J U e1 j1 => ?_) (h0 := wkS [((5, 0), some (7, 0))] [])
 try dsimp only at j1
 refine cF e1 ?_ ?_ <;> intro k2 h1 e1
 ·have i1 := ix h1
  have m2 := ml a1 (k2 1 _ rfl)
  have c1 := sl 2322432 a1 u0
  have w1 := wr U
  refine cFt e1 ?_ ?_ <;> intro k3 h2 e1
  ·refine okD fun k4 => ?_
   refine dIo mixed ?_
   have i2 := ik (W ((U : Int) + 1)).toNat a1
   simp [i1, ZE, i2]
   refine rpS ?_
   refine cRs (Ie a0 (nth a1 U) (nth a1 (W ((U : Int) + 1)).toNat)) ?_ (lN := by first | (simp; done) | (simp [W, w1]; done))
   have w2 : IntKind.i64.wrap ((U : Int) + 2) = (U : Int) + 2 := YN zAA zAA
   exact nx2 e1 (hI := by first | omega | (simp at *; omega)) (hw := XI [((5, 0), some (32, 0))] [] rfl zBv)
  simp [i1, ZE]
  refine rpS ?_
  have w3 : IntKind.i64.wrap ((U : Int) + 2) = (U : Int) + 2 := YN zAA zAA
  exact nx2 e1 (hI := by first | omega | (simp at *; omega)) (hw := XI [((5, 0), some (39, 0))] [] rfl (by simp [w1, w3]))
 have c2 := sl 2322432 a1 u0
 exact rtD [.tmp 4] (ms f e1)
theorem TH (a0 : Int) (a1 : List Int) (u0 : Sm 2318336 a1) : Sa 130 [rI a0, rL 1 iR a1] [rI (Kk a0 a1)] := by
 have f := me (Kk.eq_1 a0 a1)
 refine so func130 ntmps130 ?_
 refine cRs (Y4 (a1.length : Int) 1 16) ?_
 refine cFo f ?_ ?_ <;> intro k1 h1 f
 ·have q1 := h1; try simp [YU] at q1
  simp
  exact rt [.tmp 4] f
 have q1 := h1; try simp [YU] at q1
 simp
 refine rpS ?_
 refine lp1 (kC.eq_2 a0) (fun J => Yq 22 [eI 0 a0, (5, .one (.sref 5 0 0 J.length), [.arr false 1 (J.map iR)])]) (fun n1 J => J.length < n1 /\ 1 <= J.length /\ J.length <= 16) (a1.length + 1) a1 (fun p1 J e1 j1 => ?_) (hI := by first | omega | (simp at *; omega)) (h0 := wkS [((5, 0), some (12, 0))] [])
 refine cFt e1 ?_ ?_ <;> intro k3 h2 e1
 ·refine cDs [false] (SO a0 J zAP) ?_
  exact nx1 e1 (hI := by (have z := U2 a0 J zAA; (try dsimp only); simp at *; omega)) (hw := wkS [((5, 0), some (18, 0))] [])
 have f := ms f e1
 have i1 := ik 0 J
 simp [i1, ZE]
 refine rpS ?_
 exact rt [.tmp 4] f
theorem Dq (a0 : ZD) (a1 : Int) (u0 : Sm 2310144 a0) : Sa 123 [a0.row, rI a1] [rI (yM a0 a1)] := by
 have f := me (yM.eq_1 a0 a1)
 refine so func123 ntmps123 ?_
 refine cRs (YV.rd (V2 a0 a1 (sg u0))) ?_
 refine cRs (TH a1 (YJ a0 a1) (by simp (maxDischargeDepth := 12) [kT, ZM (m := 2318336) zAE u0]; try omega)) ?_
 exact rt [.tmp 4] f
theorem OT (a0 : List Int) (a1 : Int) : Sa 194 [rL 1 iR a0, rI a1] [rB (PM a0 a1)] := by
 have f := me (PM.eq_1 a0 a1)
 refine so func194 ntmps194 ?_
 refine lp1 (Pb.eq_2 a0 a1) (fun J => Yq 18 [eL 0 1 a0 iR, eI 1 a1, eI 5 (J : Int)]) (fun n1 J => a0.length < n1 + J /\ J <= a0.length) (a0.length + 1) 0 (fun p1 J e1 j1 => ?_)
 refine cFf e1 ?_ ?_ <;> intro k2 h1 e1
 ·have i1 := ix h1
  have m2 := ml a0 (k2 0 _ rfl)
  have w1 := wr J
  simp [i1, ZE]
  refine rpS ?_
  refine cF e1 ?_ ?_ <;> intro k3 h2 e1
  ·exact rt [.tmp 4] (ms f e1)
  exact ny1 w1 e1
 exact rt [.tmp 4] (ms f e1)
theorem Vx (a0 : List Yw) (a1 : List Zf) (a2 : Zj) (u0 : Sm 2322432 a0) (u1 : Sm 2322432 a1) : Sa 195 [rL 5 Yw.row a0, rL 3 Zf.row a1, a2.row] [(KR a0 a1 a2).1.row, rB (KR a0 a1 a2).2] := by
 have f := me (KR.eq_1 a0 a1 a2)
 refine so func195 ntmps195 ?_
 refine cRs (y0 a1 a2.Authority) ?_
 refine cGs (fun gg => (Wr a2.Time)) ?_
 refine cFt f ?_ ?_ <;> intro k1 h1 f
 ·exact rt _ f
 have i1 : (Zh a1 a2.Authority).toNat < a1.length := by have := JW a1 a2.Authority; exact il
 simp [i1, ZE]
 refine rpS ?_
 refine cRs (KK a0 (nth a1 (Zh a1 a2.Authority).toNat).Key) ?_
 refine cF f ?_ ?_ <;> intro k2 h2 f
 ·exact rt _ f
 refine dIo mixed ?_
 have i2 : (Yc a0 (nth a1 (Zh a1 a2.Authority).toNat).Key).toNat < a0.length := by have := KO a0 (nth a1 (Zh a1 a2.Authority).toNat).Key; exact il
 simp [i2, ZE]
 refine rpS ?_
 refine cRs (YV.rd (S9 a2)) ?_
 refine cRs (WR (nth a0 (Yc a0 (nth a1 (Zh a1 a2.Authority).toNat).Key).toNat) (zG a2) (by simp (maxDischargeDepth := 12) [Gj]; try omega)) ?_
 exact rt _ f
theorem Ta (h : b) (k : a := by (intros; first | omega | with_unfolding_all (first | first | omega | (have tm := Int.tmod_eq_emod_of_nonneg (b := 2) (show 0 <= J by omega); (try simp only [Y9, show ∀ x, IntKind.i64.wrap x = W x from fun _ => rfl] at *); (try simp at *); omega)) | ((try simp only [Y9, show ∀ x, IntKind.i64.wrap x = W x from fun _ => rfl] at *); omega))) : a /\ b := ⟨k, h⟩
theorem FY (a0 : Int) (a1 : List Int) (a2 : Int) (u0 : Sm 2318336 a1) : Sd 133 [rI a0, rL 1 iR a1, rI a2] [rL 2 Xx.row (zL a0 a1 a2)] := by
 have f := me (zL.eq_1 a0 a1 a2)
 refine soD func133 ntmps133 ?_
 refine cGs (fun gg => (Y4 a2 0 (W ((a1.length : Int) - 1)))) ?_
 have c1 := sl 2318336 a1 u0
 have w1 : IntKind.i64.wrap ((a1.length : Int) - 1) = (a1.length : Int) - 1 := YN zAA zAA
 refine cFo f ?_ ?_ <;> intro k1 h1 f
 ·have q1 := h1; try simp [YU, w1] at q1
  simp
  exact rtD [.tmp 6] f
 have q1 := h1; try simp [YU, w1] at q1
 simp
 repeat with_reducible refine Ta ?_
 refine lp3 (Kv.eq_2 a0) (fun J U mz => Yq 60 [eI 0 a0, eI 2 J, (7, .one (.sref 7 0 0 U.length), [.arr false 2 (U.map Xx.row)]), (8, .one (.sref 8 0 0 mz.length), [.arr false 1 (mz.map iR)])]) (fun n1 J U mz => mz.length < n1 /\ 0 <= J /\ J < (mz.length : Int) /\ mz.length <= 16 /\ U.length + n1 <= 17) (a1.length + 1) a2 ([] : List Xx) a1 (fun p1 J U mz e1 j1 => ?_) (hI := by first | omega | (simp at *; omega)) (h0 := wkS [((7, 0), some (9, 0)), ((8, 0), some (24, 0))] [])
 try dsimp only at j1
 refine cF e1 ?_ ?_ <;> intro k3 h2 e1
 ·refine cFf e1 ?_ ?_ <;> intro k4 h3 e1
  ·have i1 : (W (J - 1)).toNat < mz.length := zAn
   simp [i1, ZE]
   repeat with_reducible refine Ta ?_
   refine cDs [false] (SO a0 mz zAP) ?_
   exact nx3 e1 (hI := by (have z := U2 a0 mz zAA; have td := Int.tdiv_eq_ediv_of_nonneg (b := 2) (show 0 <= J by omega); have w2 : W (Int.tdiv J 2) = Int.tdiv J 2 := YN zAA zAA; (try dsimp only); rw [w2]; simp at *; omega)) (hw := XI [((7, 0), some (39, 0)), ((8, 0), some (56, 0))] [] rfl zAb)
  refine cFo e1 ?_ ?_ <;> intro k5 h4 e1
  ·have q4 := h4; try simp [w1] at q4
   have i2 : (W (J + 1)).toNat < mz.length := zAn
   simp [i2, ZE]
   repeat with_reducible refine Ta ?_
   refine cDs [false] (SO a0 mz zAP) ?_
   exact nx3 e1 (hI := by (have z := U2 a0 mz zAA; have td := Int.tdiv_eq_ediv_of_nonneg (b := 2) (show 0 <= J by omega); have w2 : W (Int.tdiv J 2) = Int.tdiv J 2 := YN zAA zAA; (try dsimp only); rw [w2]; simp at *; omega)) (hw := XI [((7, 0), some (53, 0)), ((8, 0), some (56, 0))] [] rfl zAb)
  have q4 := h4; try simp [w1] at q4
  simp
  refine cDs [false] (SO a0 mz zAP) ?_
  exact nx3 e1 (hI := by (have z := U2 a0 mz zAA; have td := Int.tdiv_eq_ediv_of_nonneg (b := 2) (show 0 <= J by omega); have w2 : W (Int.tdiv J 2) = Int.tdiv J 2 := YN zAA zAA; (try dsimp only); rw [w2]; simp at *; omega)) (hw := XI [((8, 0), some (56, 0))] [] rfl zAb)
 exact rtD [.tmp 6] (ms f e1)
theorem Sn (a0 : ZU) (a1 : ZZ) (u0 : Sm 2326528 a0) (u1 : Sm 2326528 a1) : Sd 132 [a0.row, a1.row] [(Q0 a0 a1).1.row, rB (Q0 a0 a1).2] := by
 have f := me (Q0.eq_1 a0 a1)
 refine soD func132 ntmps132 ?_
 refine cDs [] (xf a0 (sg u0)) ?_
 refine drJ [14] mixed ?_
 simp
 refine cDs [true, true, true, false, false] (Py a1 (sg u1)) ?_
 refine kb ?_
 have c1 := sl 2326528 a0.ZP (an u0 u1)
 simp
 refine W5 (lB := (a0.ZP.map ZZ.row)) (news := (([a1] : List ZZ).map ZZ.row)) (l1 := [(8, 1)]) (l2 := [(12, 3), (12, 4)]) (size := 5) ?_
 simp
 refine cRs (TT (ZU.mk a0.ZJ (a0.ZP ++ ([a1] : List ZZ)))) ?_
 refine cF f ?_ ?_ <;> intro k2 h1 f
 ·refine cDs [] (xf a0 (sg u0)) ?_
  exact rtD _ f
 exact rtD _ f
theorem MR (a0 : ZD) (a1 : Int) (a2 : List Zj) (u0 : Sm 2310144 a0) (u1 : Sm 2310144 a2) : Sd 48 [a0.row, rI a1, rL 5 Zj.row a2] [(Qu a0 a1 a2).1.row, rB (Qu a0 a1 a2).2] := by
 have f := me (Qu.eq_1 a0 a1 a2)
 refine soD func48 ntmps48 ?_
 refine cDs [] (QU a0 (sg u0)) ?_
 refine cRs (YV.rd (V2 a0 a1 (sg u0))) ?_
 refine cRs (TH a1 (YJ a0 a1) zA7) ?_
 refine cRs (qJ a0) ?_
 refine lp3 (J4.eq_2 a0 a1 a2) (fun J U mz => Yq 84 [eI 1 a1, eL 2 5 a2 Zj.row, eX 3 (a0.row.map .d), (6, .one (.bptr 6 0), [.box [.d (.int .i64 0), .nil 16]]), (8, .one (.bptr 8 0), [.box [.d (.int .i64 a0.Id), .sref 16 1 0 mz.length]]), eL 9 1 (YJ a0 a1) iR, eI 10 (Kk a1 (YJ a0 a1)), eB 11 J, eI 12 (U : Int), (16, .any, [.none, .arr true 16 (mz.map ZQ.row)])]) (fun n1 J U mz => a0.ZC.length < n1 + U /\ U <= a0.ZC.length /\ mz.length = a0.ZC.length) (a0.ZC.length + 1) ((Jb a0) && (decide ((a0.ZC.length : Int) > 0))) 0 a0.ZC (fun p1 J U mz e1 j1 => ?_)
 refine cF e1 ?_ ?_ <;> intro k2 h1 e1
 ·have i1 : U < a0.ZC.length := zBq
  have m2 := ml a0.ZC (k2 33 _ rfl)
  have c1 := sl 2310144 a0.ZC (an u0 u1)
  have w1 := wr U
  refine dIo mixed ?_
  simp [i1, ZE]
  refine rpS ?_
  refine cRs (YV.rd (FY a1 (YJ a0 a1) (U : Int) zA7)) ?_
  have i2 := ik U mz
  refine cDf i2 [] (Sn (nth a0.ZC U).ZK (ZZ.mk ((nth a0.ZC U).ZK.ZJ.length : Int) a1 (Kk a1 (YJ a0 a1)) (zL a1 (YJ a0 a1) (U : Int)) a2) (sg (ZQ.Xk (Zp (ZD.Ye u0)))) (by simp (maxDischargeDepth := 12) [FL, kT, ZM (m := 2326528) zAE u0, ZM (m := 2326528) zAE u1]; try omega)) ?_
  refine pA (t := 16) (j := 1) (i := U) (c := 14) (size := 16) (rows := (mz.map ZQ.row)) (ds := (Q0 (nth a0.ZC U).ZK (ZZ.mk ((nth a0.ZC U).ZK.ZJ.length : Int) a1 (Kk a1 (YJ a0 a1)) (zL a1 (YJ a0 a1) (U : Int)) a2)).1.row) (L := [(64, 0), (64, 1)]) rfl rfl rfl rfl zAF zAF (by simp; try omega) zAF zAF zAF zAF zAF zAF ?_
  simp [KM (x := (ZQ.mk (nth mz U).Id (nth mz U).Y8 (nth mz U).Doc (nth mz U).Sig (Q0 (nth a0.ZC U).ZK (ZZ.mk ((nth a0.ZC U).ZK.ZJ.length : Int) a1 (Kk a1 (YJ a0 a1)) (zL a1 (YJ a0 a1) (U : Int)) a2)).1)) rfl, i2, ZE, XF]
  refine rpS ?_
  exact ny3 w1 e1
 have c2 := sl 2310144 a0.ZC (an u0 u1)
 have f := ms f e1
 refine cGs (fun gg => (qJ (ZD.mk a0.Id mz))) ?_
 refine cF f ?_ ?_ <;> intro k4 h2 f
 ·refine cDs [] (QU a0 (sg u0)) ?_
  exact rtD [.cell 6 73, .tmp 7] f
 exact rtD [.cell 6 73, .tmp 7] f
theorem QR (h : b) (k : a := by (intros; first | omega | with_unfolding_all (first | first | omega | (have z := J1 (a0 := a0) (a1 := a2) (j := U) zAj zAA; omega) | (have z := J1 (a0 := a0) (a1 := a2) (j := m0) zAj zAA; omega)) | ((try simp only [Y9, show ∀ x, IntKind.i64.wrap x = W x from fun _ => rfl] at *); omega))) : a /\ b := ⟨k, h⟩
theorem HX (a0 : ZF) (a1 : Int) (a2 : List Int) (a3 : Int) (u0 : Sm 2306048 a0) (u1 : Sm 2306048 a2) : Sd 105 [a0.row, rI a1, rL 1 iR a2, rI a3] [(xv a0 a1 a2 a3).1.row, rB (xv a0 a1 a2 a3).2] := by
 have f := me (xv.eq_1 a0 a1 a2 a3)
 refine soD func105 ntmps105 ?_
 refine cDs [false, false, false, true, true, false, false, true, false, false, true, false] (JM a0 (sg u0)) ?_
 refine cRs (jM a0.Frame.Methods a0.Frame.Now) ?_
 refine cRs (jr a0 a1) ?_
 refine cGs (fun gg => (Cj a0 a2)) ?_
 refine cGs (fun gg => (Y4 a3 (-10000) 10000)) ?_
 have c1 := sl 2306048 a0.ZA (an u0 u1)
 have w1 : IntKind.i64.wrap ((a0.ZA.length : Int) - 1) = (a0.ZA.length : Int) - 1 := YN zAA zAA
 refine cFo f ?_ ?_ <;> intro k1 h1 f
 ·have q1 := h1; try simp [YU, w1, JB] at q1
  simp
  exact rtD [.cell 8 33, .tmp 9] f
 have q1 := h1; try simp [YU, w1, JB] at q1
 have i1 : a1.toNat < a0.ZA.length := by first | omega | (have z := J1 (a0 := a0) (a1 := a2) (j := U) zAj zAA; omega) | (have z := J1 (a0 := a0) (a1 := a2) (j := m0) zAj zAA; omega)
 simp [i1, ZE]
 refine zCB ?_
 refine cRs (Dq (nth a0.ZA a1.toNat) (Zk a0.Frame.Methods a0.Frame.Now) (sg (Zp (ZF.Yn u0)))) ?_
 refine lp2 (z9.eq_2 a0 a1 a2 a3) (fun J U => Yq 162 [eI 1 a1, eL 2 1 a2 iR, eI 3 a3, eX 4 (a0.row.map .d), (8, .one (.bptr 8 0), [.box [.nil 5, .nil 3, .nil 4, .d (.int .i64 0), .d (.int .i64 0), .nil 7, .nil 1, .nil 2, .nil 1, .nil 1, .d (.int .i64 0), .nil 1]]), (10, .one (.bptr 10 0), [.box [.sref 24 0 0 a0.Frame.Zo.length, .sref 24 1 0 a0.Frame.ZB.length, .sref 24 2 0 a0.Frame.Methods.length, .d (.int .i64 a0.Frame.XT), .d (.int .i64 a0.Frame.Now), .sref 24 5 0 a0.ZY.length, .sref 24 6 0 a0.Zx.length, .sref 24 7 0 a0.ZA.length, .sref 24 8 0 a0.Yt.length, .sref 24 9 0 a0.YO.length, .d (.int .i64 a0.Next), .sref 24 11 0 a0.YE.length]]), eI 11 (Zk a0.Frame.Methods a0.Frame.Now), eI 12 (yM (nth a0.ZA a1.toNat) (Zk a0.Frame.Methods a0.Frame.Now)), (13, .one (.sref 13 0 0 J.length), [.arr false 5 (J.map Zj.row)]), eI 14 (U : Int), (24, .any, [.arr false 5 (a0.Frame.Zo.map Yw.row), .arr false 3 (a0.Frame.ZB.map Zf.row), .arr false 4 (a0.Frame.Methods.map Z8.row), .none, .none, .arr false 7 (a0.ZY.map YX.row), .arr false 1 (a0.Zx.map iR), .arr true 2 (a0.ZA.map ZD.row), .arr false 1 (a0.Yt.map iR), .arr false 1 (a0.YO.map iR), .none, .arr false 1 (a0.YE.map iR)])]) (fun n1 J U => a2.length < n1 + U /\ U <= a2.length /\ J.length <= 0 + 1 * U) (a2.length + 1) ([] : List Zj) 0 (fun p1 J U e1 j1 => ?_) (h0 := wkS [((13, 0), some (59, 0))] [])
 try dsimp only at j1
 refine cFt e1 ?_ ?_ <;> intro k3 h2 e1
 ·have i2 := ix h2
  have m2 := ml a2 (k3 2 _ rfl)
  have c2 := sl 2306048 a2 (an u0 u1)
  have w2 := wr U
  refine dIo mixed ?_
  simp [i2, ZE]
  refine zCB ?_
  refine cRs (y0 a0.Frame.ZB (nth a2 U)) ?_
  refine dIo mixed ?_
  simp [i2, ZE]
  refine zCB ?_
  refine cRs (OT a0.YO (nth a2 U)) ?_
  refine cF e1 ?_ ?_ <;> intro k6 h3 e1
  ·refine cRs (Hm 0 (W (a0.Frame.Now + a3))) ?_ (lN := by first | (simp; done) | (simp [W, w1, w2]; done))
   refine cRs (C6 10000 (xn 0 (W (a0.Frame.Now + a3)))) ?_ (lN := by first | (simp; done) | (simp [W, w1, w2]; done))
   refine dIo mixed ?_
   have i3 : (Zh a0.Frame.ZB (nth a2 U)).toNat < a0.Yt.length := zAf
   simp [i2, ZE, i3]
   refine zCB ?_
   refine cRs (Vx a0.Frame.Zo a0.Frame.ZB (Zj.mk (nth a2 U) (nth a0.Yt (Zh a0.Frame.ZB (nth a2 U)).toNat) (Wn 10000 (xn 0 (W (a0.Frame.Now + a3)))) (yM (nth a0.ZA a1.toNat) (Zk a0.Frame.Methods a0.Frame.Now)) 0) (sg (ZX.XS (ZF.Y7 u0))) (sg (ZX.XN (ZF.Y7 u0)))) ?_ (lN := by first | (simp; done) | (simp [W, w1, w2]; done))
   refine cFo e1 ?_ ?_ <;> intro k8 h4 e1
   ·have q4 := h4; try simp [w1] at q4
    have f := ms f e1
    simp
    exact rtD [.cell 8 33, .tmp 9] f
   have q4 := h4; try simp [w1] at q4
   simp
   refine zCB ?_
   exact nx2 e1 (hw := XI [((13, 0), some (117, 0))] [] rfl zBv)
  refine dIo mixed ?_
  have i4 : (Zh a0.Frame.ZB (nth a2 U)).toNat < a0.Yt.length := zAf
  simp [i2, ZE, i4]
  refine zCB ?_
  refine cRs (Vx a0.Frame.Zo a0.Frame.ZB (Zj.mk (nth a2 U) (nth a0.Yt (Zh a0.Frame.ZB (nth a2 U)).toNat) a0.Frame.Now (yM (nth a0.ZA a1.toNat) (Zk a0.Frame.Methods a0.Frame.Now)) 0) (sg (ZX.XS (ZF.Y7 u0))) (sg (ZX.XN (ZF.Y7 u0)))) ?_
  refine cFt e1 ?_ ?_ <;> intro bP h5 e1
  ·exact rtD [.cell 8 33, .tmp 9] (ms f e1)
  simp
  refine zCB ?_
  exact nx2 e1 (hw := XI [((13, 0), some (117, 0))] [] rfl zBv)
 have c3 := sl 2306048 a2 (an u0 u1)
 have f := ms f e1
 simp [i1, ZE]
 refine zCB ?_
 refine cDs [] (MR (nth a0.ZA a1.toNat) (Zk a0.Frame.Methods a0.Frame.Now) J (sg (Zp (ZF.Yn u0))) (by first | (simp (maxDischargeDepth := 12) [XD]; omega) | (simp (maxDischargeDepth := 12) [ZM (m := 2310144) zAE u0, ZM (m := 2310144) zAE u1]; done))) ?_
 refine cF f ?_ ?_ <;> intro bg h6 f
 ·exact rtD [.cell 8 33, .tmp 9] f
 refine lp2 (qw.eq_2 a0 a2) (fun m0 m9 => Yq 162 [eI 1 a1, eL 2 1 a2 iR, eX 4 (a0.row.map .d), (8, .one (.bptr 8 0), [.box [.nil 5, .nil 3, .nil 4, .d (.int .i64 0), .d (.int .i64 0), .nil 7, .nil 1, .nil 2, .nil 1, .nil 1, .d (.int .i64 0), .nil 1]]), (10, .one (.bptr 10 0), [.box [.sref 24 0 0 a0.Frame.Zo.length, .sref 24 1 0 a0.Frame.ZB.length, .sref 24 2 0 a0.Frame.Methods.length, .d (.int .i64 a0.Frame.XT), .d (.int .i64 a0.Frame.Now), .sref 24 5 0 a0.ZY.length, .sref 24 6 0 a0.Zx.length, .sref 24 7 0 a0.ZA.length, .sref 24 8 0 m9.length, .sref 24 9 0 a0.YO.length, .d (.int .i64 a0.Next), .sref 24 11 0 a0.YE.length]]), (19, .one (.bptr 19 0), [.box [.d (.int .i64 (Qu (nth a0.ZA a1.toNat) (Zk a0.Frame.Methods a0.Frame.Now) J).1.Id), .sref 126 1 0 (Qu (nth a0.ZA a1.toNat) (Zk a0.Frame.Methods a0.Frame.Now) J).1.ZC.length]]), eI 21 (m0 : Int), (24, .any, [.arr false 5 (a0.Frame.Zo.map Yw.row), .arr false 3 (a0.Frame.ZB.map Zf.row), .arr false 4 (a0.Frame.Methods.map Z8.row), .none, .none, .arr false 7 (a0.ZY.map YX.row), .arr false 1 (a0.Zx.map iR), .arr true 2 (a0.ZA.map ZD.row), .arr false 1 (m9.map iR), .arr false 1 (a0.YO.map iR), .none, .arr false 1 (a0.YE.map iR)]), (126, .any, [.none, .arr true 16 ((Qu (nth a0.ZA a1.toNat) (Zk a0.Frame.Methods a0.Frame.Now) J).1.ZC.map ZQ.row)])]) (fun n2 m0 m9 => a2.length < n2 + m0 /\ m0 <= a2.length /\ m9.length = a0.Yt.length) (a2.length + 1) 0 a0.Yt (fun p2 m0 m9 e2 j2 => ?_)
 try dsimp only at j2
 refine cFt e2 ?_ ?_ <;> intro bh h7 e2
 ·have i5 := ix h7
  have m4 := ml a2 (bh 2 _ rfl)
  have w3 := wr m0
  refine dIo mixed ?_
  simp [i5, ZE]
  refine zCB ?_
  refine cRs (y0 a0.Frame.ZB (nth a2 m0)) ?_
  refine dIo mixed ?_
  have i6 : (Zh a0.Frame.ZB (nth a2 m0)).toNat < a0.Yt.length := zAe
  have i7 : (Zh a0.Frame.ZB (nth a2 m0)).toNat < m9.length := zAe
  simp [i6, ZE, i7, KM (x := (W ((nth a0.Yt (Zh a0.Frame.ZB (nth a2 m0)).toNat) + 1))) rfl]
  refine zCB ?_
  exact ny2 (an w1 w3) e2
 have f := ms f e2
 simp [i1, ZE]
 refine zCB ?_
 refine ND (t := 24) (j := 7) (i := a1.toNat) (size := 2) (rows := (a0.ZA.map ZD.row)) (ds := (Qu (nth a0.ZA a1.toNat) (Zk a0.Frame.Methods a0.Frame.Now) J).1.row) (L := [(126, 1)]) ?_
 simp [KM (x := (Qu (nth a0.ZA a1.toNat) (Zk a0.Frame.Methods a0.Frame.Now) J).1) rfl, c1, i1, ZE, XF]
 refine zCB ?_
 exact rtD [.cell 8 33, .tmp 9] f
theorem L8 (a0 : Int) (a1 : ZQ) (u0 : Sm 2318336 a1) : Sa 346 [rI a0, a1.row] [rI (kI a0 a1)] := by
 have f := me (kI.eq_1 a0 a1)
 refine so func346 ntmps346 ?_
 refine dIs mixed ?_
 refine cRs (V4 a0 a1.Doc (sg (ZQ.qp u0))) ?_
 refine cRs (Ue a0 a1.ZK.ZJ (sg (ZU.QC (ZQ.Xk u0)))) ?_
 refine lp2 (xp.eq_2 a0 a1) (fun J U => Yq 43 [eI 0 a0, eX 3 (a1.row.map .d), (5, .one (.sref 5 0 0 J.length), [.arr false 1 (J.map iR)]), eI 6 (U : Int)]) (fun n1 J U => a1.ZK.ZP.length < n1 + U /\ U <= a1.ZK.ZP.length /\ J.length <= 5 + 1 * U) (a1.ZK.ZP.length + 1) ([5, a1.Id, a1.Y8, (JG a0 a1.Doc), (KZ a0 a1.ZK.ZJ)] : List Int) 0 (fun p1 J U e1 j1 => ?_) (h0 := wkS [((5, 0), some (20, 0))] [])
 refine cFf e1 ?_ ?_ <;> intro k3 h1 e1
 ·have i1 := ix h1
  have m2 := ml a1.ZK.ZP (k3 24 _ rfl)
  have c1 := sl 2318336 a1.ZK.ZP u0
  have w1 := wr U
  simp [i1, ZE]
  refine rpS ?_
  refine cRs (UO a0 (nth a1.ZK.ZP U) (sg (Zp (ZU.zo (ZQ.Xk u0))))) ?_
  exact nx2 e1 (hw := XI [((5, 0), some (39, 0))] [] rfl zAb)
 have c2 := sl 2318336 a1.ZK.ZP u0
 have f := ms f e1
 refine cRs (zE a0 J zAK) ?_
 exact rt [.tmp 4] f
theorem N7 (a0 : Int) (a1 : List ZQ) (u0 : Sm 2314240 a1) : Sa 323 [rI a0, rL 16 ZQ.row a1] [rI (VV a0 a1)] := by
 have f := me (VV.eq_1 a0 a1)
 refine so func323 ntmps323 ?_
 refine lp2 (We.eq_2 a0 a1) (fun J U => Yq 26 [eI 0 a0, eL 1 16 a1 ZQ.row, (5, .one (.sref 5 0 0 J.length), [.arr false 1 (J.map iR)]), eI 6 (U : Int)]) (fun n1 J U => a1.length < n1 + U /\ U <= a1.length /\ J.length <= 0 + 1 * U) (a1.length + 1) ([] : List Int) 0 (fun p1 J U e1 j1 => ?_) (h0 := wkS [((5, 0), some (7, 0))] [])
 refine cFf e1 ?_ ?_ <;> intro k2 h1 e1
 ·have i1 := ix h1
  have m2 := ml a1 (k2 1 _ rfl)
  have c1 := sl 2314240 a1 u0
  have w1 := wr U
  simp [i1, ZE]
  refine rpS ?_
  refine cRs (L8 a0 (nth a1 U) (sg (Zp u0))) ?_
  exact nx2 e1 (hw := XI [((5, 0), some (22, 0))] [] rfl zAb)
 have c2 := sl 2314240 a1 u0
 have f := ms f e1
 refine cRs (TH a0 J zAz) ?_
 exact rt [.tmp 4] f
theorem IA (a0 : ZD) (a1 : Int) (a2 : List Int) (a3 : Int) (u0 : Sm 2310144 a0) (u1 : Sm 2310144 a2) : So 275 [a0.row, rI a1, rL 1 iR a2, rI a3] [(Xw a0 a1 a2 a3).1.row, rB (Xw a0 a1 a2 a3).2] := by
 have f := me (Xw.eq_1 a0 a1 a2 a3)
 refine so func275 ntmps275 ?_
 refine lp2 (Jj.eq_2 a0 a2) (fun J U => Yq 53 [eL 2 1 a2 iR, eI 3 a3, eX 4 (a0.row.map .d), (8, .one (.bptr 8 0), [.box [.d (.int .i64 0), .d (.int .i64 0), .nil 16, .d (.int .i64 0)]]), (10, .one (.bptr 10 0), [.box [.d (.int .i64 a0.Id), .d (.int .i64 a1), .sref 10 3 0 U.length, .d (.int .i64 0)], .none, .none, .arr false 16 (U.map ZQ.row)]), eI 11 (J : Int)]) (fun n1 J U => a2.length < n1 + J /\ J <= a2.length /\ U.length <= J /\ (∀ x ∈ U, Sm 2310144 x)) (a2.length + 1) 0 ([] : List ZQ) (fun p1 J U e1 j1 => ?_) (hI := by exact ⟨zAA, zAA, Nat.zero_le _, Nat.zero_le _, fun x h => by cases h⟩) (h0 := wkS [((10, 3), none)] [])
 try dsimp only at j1
 refine cF e1 ?_ ?_ <;> intro k2 h1 e1
 ·have i1 := ix h1
  have m2 := ml a2 (k2 2 _ rfl)
  have c1 := sl 2310144 a2 (an u0 u1)
  have w1 := wr J
  refine dIo mixed ?_
  simp [i1, ZE]
  refine rpS ?_
  refine cRs (jE a0 (nth a2 J)) ?_
  refine cF e1 ?_ ?_ <;> intro k4 h2 e1
  ·exact rtO [.cell 8 253, .tmp 9] (ms f e1)
  refine dIo mixed ?_
  have i2 : (Ys a0 (nth a2 J)).toNat < a0.ZC.length := by have := Tb a0 (nth a2 J); exact il
  simp [i2, ZE]
  refine rpS ?_
  refine cRs (YV.rd (KF (nth a0.ZC (Ys a0 (nth a2 J)).toNat) (sg (Zp (ZD.Ye u0))))) ?_
  refine eIs ?_
  refine eIs ?_
  exact nx2 e1 (hI := by ((try dsimp only); refine ⟨zAA, zAA, zAA, by simp; omega, fun x hx => ?_⟩; rcases List.mem_append.1 hx with hx | hx; exact j1.2.2.2.2 x hx; have e := List.mem_singleton.1 hx; subst e; exact Zp (ZD.Ye u0))) (hw := XI [((10, 3), some (41, 0))] [] rfl zAb)
 have c2 := sl 2310144 a2 (an u0 u1)
 have f := ms f e1
 refine cF f ?_ ?_ <;> intro k6 h3 f
 ·exact rtO [.cell 8 253, .tmp 9] f
 refine cRs (N7 a3 U zA9) ?_
 exact rtO [.cell 8 253, .tmp 9] f
theorem Mm (a0 : YZ) (a1 : Int) (u0 : Sm 2310144 a0) : Sa 324 [a0.row, rI a1] [rB (K9 a0 a1)] := by
 have f := me (K9.eq_1 a0 a1)
 refine so func324 ntmps324 ?_
 refine lp1 (J2.eq_2 a0) (fun J => Yq 33 [eI 1 a1, eX 2 (a0.row.map .d), eI 5 (J : Int)]) (fun n1 J => a0.ZC.length < n1 + J /\ J <= a0.ZC.length) (a0.ZC.length + 1) 0 (fun p1 J e1 j1 => ?_)
 refine cFf e1 ?_ ?_ <;> intro k2 h1 e1
 ·have i1 := ix h1
  have m2 := ml a0.ZC (k2 8 _ rfl)
  have c1 := sl 2310144 a0.ZC u0
  have w1 := wr J
  simp [i1, ZE]
  refine rpS ?_
  refine cRs (Lf (nth a0.ZC J)) ?_
  refine cF e1 ?_ ?_ <;> intro k3 h2 e1
  ·exact rt [.tmp 4] (ms f e1)
  exact ny1 w1 e1
 have f := ms f e1
 refine dIs mixed ?_
 refine cRs (Y4 (a0.ZC.length : Int) 1 8) ?_
 refine cGs (fun gg => (N7 a1 a0.ZC (sg (YZ.Ye u0)))) ?_
 exact rt [.tmp 4] f
theorem NI (a0 : ZD) (a1 : YZ) (a2 : Int) (u0 : Sm 2306048 a0) (u1 : Sm 2306048 a1) : Sd 276 [a0.row, a1.row, rI a2] [(Qg a0 a1 a2).1.row, rB (Qg a0 a1 a2).2] := by
 have f := me (Qg.eq_1 a0 a1 a2)
 refine soD func276 ntmps276 ?_
 refine cDs [] (QU a0 (sg u0)) ?_
 refine cRs (Mm a1 a2 (sg u1)) ?_
 refine lp4 (Je.eq_2 a1) (fun J U mz lG => Yq 52 [eX 3 (a0.row.map .d), eX 4 (a1.row.map .d), (6, .one (.bptr 6 0), [.box [.d (.int .i64 0), .nil 16]]), (8, .one (.bptr 8 0), [.box [.d (.int .i64 mz), .sref 8 2 0 lG.length], .none, .arr true 16 (lG.map ZQ.row)]), eB 9 J, eI 10 (U : Int)]) (fun n1 J U mz lG => a1.ZC.length < n1 + U /\ U <= a1.ZC.length /\ (J = true -> a1.ZC.length <= 8) /\ Sm (2306048 + U) (ZD.mk mz lG)) (a1.ZC.length + 1) ((K9 a1 a2) && (a1.To == a0.Id)) 0 a0.Id a0.ZC (fun p1 J U mz lG e1 j1 => ?_) (hI := by exact ⟨zAA, zAA, Nat.zero_le _, fun h => Nz a1 a2 (by simp at h; exact h.1), u0⟩) (h0 := wkS [((8, 2), some (14, 1))] [])
 try dsimp only at j1
 refine cF e1 ?_ ?_ <;> intro k2 h1 e1
 ·have i1 : U < a1.ZC.length := zBq
  have m2 := ml a1.ZC (k2 27 _ rfl)
  have c1 := sl 2306048 a1.ZC (an u0 u1)
  have w1 := wr U
  refine dIo mixed ?_
  simp [i1, ZE]
  refine rpS ?_
  refine cDs [] (SH (ZD.mk mz lG) (nth a1.ZC U) zAw zAw) ?_
  exact nx4 e1 (hI := by (have hc := h1; simp at hc; (try dsimp only); refine ⟨zAA, zAA, zAA, fun _ => j1.2.2.2.1 hc.2, ?_⟩; exact DY (n := 2306048 + U) j1.2.2.2.2 (ZM (n := 2306048) zAA (Zp (YZ.Ye u1))))) (hw := XI [((8, 2), some (42, 1))] [] rfl zAb)
 have c2 := sl 2306048 a1.ZC (an u0 u1)
 have f := ms f e1
 refine cF f ?_ ?_ <;> intro k4 h2 f
 ·refine cDs [] (QU a0 (sg u0)) ?_
  exact rtD [.cell 6 73, .tmp 7] f
 exact rtD [.cell 6 73, .tmp 7] f
theorem F9 (a0 : ZD) (a1 : Int) (u0 : Sm 2322432 a0) : Sd 277 [a0.row, rI a1] [(z6 a0 a1).1.row, rB (z6 a0 a1).2] := by
 have f := me (z6.eq_1 a0 a1)
 refine soD func277 ntmps277 ?_
 refine cRs (jE a0 a1) ?_
 refine cF f ?_ ?_ <;> intro k1 h1 f
 ·refine cDs [] (QU a0 (sg u0)) ?_
  exact rtD [.cell 4 73, .tmp 5] f
 refine lp2 (Kx.eq_2 a0 a1) (fun J U => Yq 41 [eX 2 (a0.row.map .d), (4, .one (.bptr 4 0), [.box [.d (.int .i64 0), .nil 16]]), eI 6 (Ys a0 a1), (7, .one (.bptr 7 0), [.box [.d (.int .i64 a0.Id), .sref 7 2 0 U.length], .none, .arr true 16 (U.map ZQ.row)]), eI 8 (J : Int)]) (fun n1 J U => a0.ZC.length < n1 + J /\ J <= a0.ZC.length /\ U.length <= 0 + 1 * J) (a0.ZC.length + 1) 0 ([] : List ZQ) (fun p1 J U e1 j1 => ?_) (h0 := wkS [((7, 2), none)] [])
 refine cF e1 ?_ ?_ <;> intro k3 h2 e1
 ·have i1 := ix h2
  have m2 := ml a0.ZC (k3 21 _ rfl)
  have c1 := sl 2322432 a0.ZC u0
  have w1 := wr J
  refine cF e1 ?_ ?_ <;> intro k4 h3 e1
  ·refine okD fun k5 => ?_
   refine drJ [38] mixed ?_
   simp [i1, ZE]
   refine rpS ?_
   refine cDs [true, true, true, false, false] (KF (nth a0.ZC J) (sg (Zp (ZD.Ye u0)))) ?_
   refine kb ?_
   simp
   refine W5 (lB := (U.map ZQ.row)) (news := (([(nth a0.ZC J)] : List ZQ).map ZQ.row)) (l1 := [(7, 2)]) (l2 := [(36, 3), (36, 4), (36, 14), (36, 15)]) (size := 16) ?_
   simp
   exact nx2 e1 (hw := XI [((7, 2), some (38, 0))] [] rfl zAb)
  exact ny2 w1 e1
 have c2 := sl 2322432 a0.ZC u0
 exact rtD [.cell 4 73, .tmp 5] (ms f e1)
theorem G1 (a0 : ZD) (a1 : ZD) (a2 : List Int) (a3 : Int) (u0 : Sm 2301952 a0) (u1 : Sm 2301952 a1) (u2 : Sm 2301952 a2) : Sd 196 [a0.row, a1.row, rL 1 iR a2, rI a3] [(JF a0 a1 a2 a3).1.row, (JF a0 a1 a2 a3).2.1.row, rB (JF a0 a1 a2 a3).2.2] := by
 have f := me (JF.eq_1 a0 a1 a2 a3)
 refine soD func196 ntmps196 ?_
 refine cRs (IA a0 a1.Id a2 a3 zBa zBa) ?_
 refine cDs [] (NI a1 (Xw a0 a1.Id a2 a3).1 a3 zBc zBc) ?_
 refine cDs [] (QU a0 (sg u0)) ?_
 refine lp4 (K3.eq_2 a0 a1 a2 a3) (fun J U mz lG => Yq 72 [eL 2 1 a2 iR, eX 4 (a0.row.map .d), eX 5 (a1.row.map .d), (8, .one (.bptr 8 0), [.box [.d (.int .i64 0), .nil 16]]), (9, .one (.bptr 9 0), [.box [.d (.int .i64 0), .nil 16]]), eB 12 (Xw a0 a1.Id a2 a3).2, (13, .one (.bptr 13 0), [.box [.d (.int .i64 (Qg a1 (Xw a0 a1.Id a2 a3).1 a3).1.Id), .sref 32 1 0 (Qg a1 (Xw a0 a1.Id a2 a3).1 a3).1.ZC.length]]), eB 14 J, (15, .one (.bptr 15 0), [.box [.d (.int .i64 mz), .sref 15 2 0 lG.length], .none, .arr true 16 (lG.map ZQ.row)]), eI 16 (U : Int), (32, .any, [.none, .arr true 16 ((Qg a1 (Xw a0 a1.Id a2 a3).1 a3).1.ZC.map ZQ.row)])]) (fun n1 J U mz lG => a2.length < n1 + U /\ U <= a2.length /\ Sm 2301952 (ZD.mk mz lG)) (a2.length + 1) (Qg a1 (Xw a0 a1.Id a2 a3).1 a3).2 0 a0.Id a0.ZC (fun p1 J U mz lG e1 j1 => ?_) (hI := by exact ⟨zAA, zAA, Nat.zero_le _, u0⟩) (h0 := wkS [((15, 2), some (36, 1))] [])
 try dsimp only at j1
 refine cF e1 ?_ ?_ <;> intro k2 h1 e1
 ·have i1 : U < a2.length := zBq
  have m2 := ml a2 (k2 2 _ rfl)
  have c1 := sl 2301952 a2 (an u0 (an u1 u2))
  have w1 := wr U
  refine dIo mixed ?_
  simp [i1, ZE]
  refine rpS ?_
  refine cDs [] (F9 (ZD.mk mz lG) (nth a2 U) (by exact ZM (n := 2301952) zAE j1.2.2.2)) ?_
  exact nx4 e1 (hI := by ((try dsimp only); refine ⟨zAA, zAA, zAA, ?_⟩; exact EJ j1.2.2.2)) (hw := XI [((15, 2), some (55, 1))] [] rfl zAb)
 have c2 := sl 2301952 a2 (an u0 (an u1 u2))
 have f := ms f e1
 refine cF f ?_ ?_ <;> intro k4 h2 f
 ·refine okD fun k5 => ?_
  refine dIs mixed ?_
  refine cDs [] (QU a0 (sg u0)) ?_
  refine cDs [] (QU a1 (sg u1)) ?_
  exact rtD [.cell 8 73, .cell 9 73, .tmp 10] f
 refine sN [(8, 8), (9, 9), (13, 13), (15, 15)] mixed zAU zAU zAU zAU ?_
 simp
 exact rtD [.cell 8 73, .cell 9 73, .tmp 10] f
theorem Fy (a0 : ZF) (a1 : Int) (a2 : Int) (a3 : Int) (u0 : Sm 2297856 a0) : Sd 106 [a0.row, rI a1, rI a2, rI a3] [(jU a0 a1 a2 a3).1.row, rB (jU a0 a1 a2 a3).2] := by
 have f := me (jU.eq_1 a0 a1 a2 a3)
 refine soD func106 ntmps106 ?_
 refine cDs [false, false, false, true, true, false, false, true, false, false, true, false] (JM a0 (sg u0)) ?_
 refine cRs (jM a0.Frame.Methods a0.Frame.Now) ?_
 refine cRs (jr a0 a1) ?_
 refine cGs (fun gg => (jr a0 a2)) ?_
 have c1 := sl 2297856 a0.ZA u0
 have w1 : IntKind.i64.wrap ((a0.ZA.length : Int) - 1) = (a0.ZA.length : Int) - 1 := YN zAA zAA
 refine cFo f ?_ ?_ <;> intro k1 h1 f
 ·have q1 := h1; try simp [w1, JB, YU] at q1
  simp
  exact rtD [.cell 8 33, .tmp 9] f
 have q1 := h1; try simp [w1, JB, YU] at q1
 simp
 refine dIo mixed ?_
 have i1 := ik a1.toNat a0.ZA
 have i2 := ik a2.toNat a0.ZA
 simp [i1, ZE, i2]
 refine rpS ?_
 refine cDf i1 [] (G1 (nth a0.ZA a1.toNat) (nth a0.ZA a2.toNat) ([a3] : List Int) (Zk a0.Frame.Methods a0.Frame.Now) (sg (Zp (ZF.Yn u0))) (sg (Zp (ZF.Yn u0))) zBM) ?_
 refine ND (t := 16) (j := 7) (i := a1.toNat) (size := 2) (rows := (a0.ZA.map ZD.row)) (ds := (JF (nth a0.ZA a1.toNat) (nth a0.ZA a2.toNat) ([a3] : List Int) (Zk a0.Frame.Methods a0.Frame.Now)).1.row) (L := [(58, 1)]) ?_
 simp [KM (x := (JF (nth a0.ZA a1.toNat) (nth a0.ZA a2.toNat) ([a3] : List Int) (Zk a0.Frame.Methods a0.Frame.Now)).1) rfl, c1, i1, i2, ZE, XF]
 refine rpS ?_
 refine ND (t := 16) (j := 7) (i := a2.toNat) (size := 2) (rows := ((a0.ZA.set a1.toNat (JF (nth a0.ZA a1.toNat) (nth a0.ZA a2.toNat) ([a3] : List Int) (Zk a0.Frame.Methods a0.Frame.Now)).1).map ZD.row)) (ds := (JF (nth a0.ZA a1.toNat) (nth a0.ZA a2.toNat) ([a3] : List Int) (Zk a0.Frame.Methods a0.Frame.Now)).2.1.row) (L := [(58, 3)]) ?_
 simp [KM (x := (JF (nth a0.ZA a1.toNat) (nth a0.ZA a2.toNat) ([a3] : List Int) (Zk a0.Frame.Methods a0.Frame.Now)).1) rfl, c1, i1, i2, ZE, XF]
 refine rpS ?_
 exact rtD [.cell 8 33, .tmp 9] f
theorem Im (a0 : ZD) (a1 : Int) (u0 : Sm 2326528 a0) : So 197 [a0.row, rI a1] [(qU a0 a1).1.row, rI (qU a0 a1).2] := by
 have f := me (qU.eq_1 a0 a1)
 refine so func197 ntmps197 ?_
 refine lp3 (yX.eq_2 a0 a1) (fun J U mz => Yq 42 [eI 1 a1, eX 2 (a0.row.map .d), (4, .one (.bptr 4 0), [.box [.d (.int .i64 0), .nil 16]]), (6, .one (.bptr 6 0), [.box [.d (.int .i64 a0.Id), .sref 6 2 0 mz.length], .none, .arr false 16 (mz.map ZQ.row)]), eI 7 J, eI 8 (U : Int)]) (fun n1 J U mz => a0.ZC.length < n1 + U /\ U <= a0.ZC.length /\ mz.length <= 0 + 1 * U) (a0.ZC.length + 1) 0 0 ([] : List ZQ) (fun p1 J U mz e1 j1 => ?_) (h0 := wkS [((6, 2), none)] [])
 refine cFf e1 ?_ ?_ <;> intro k2 h1 e1
 ·have i1 := ix h1
  have m2 := ml a0.ZC (k2 14 _ rfl)
  have c1 := sl 2326528 a0.ZC u0
  have w1 := wr U
  simp [i1, ZE]
  refine rpS ?_
  refine cF e1 ?_ ?_ <;> intro k3 h2 e1
  ·exact ny3 w1 e1
  refine dIo mixed ?_
  simp [i1, ZE]
  refine rpS ?_
  refine cRs (YV.rd (KF (nth a0.ZC U) (sg (Zp (ZD.Ye u0))))) ?_
  refine eIs ?_
  refine eIs ?_
  exact nx3 e1 (hw := XI [((6, 2), some (38, 0))] [] rfl zAb)
 exact rtO [.cell 4 73, .tmp 5] (ms f e1)
theorem HA (a0 : ZF) (a1 : Int) (u0 : Sm 2318336 a0) : So 107 [a0.row, rI a1] [(y8 a0 a1).1.row, rB (y8 a0 a1).2] := by
 have f := me (y8.eq_1 a0 a1)
 refine so func107 ntmps107 ?_
 refine cOs (YV.own (JM a0 (sg u0))) ?_
 refine cRs (jr a0 a1) ?_
 have c1 := sl 2318336 a0.ZA u0
 have w1 : IntKind.i64.wrap ((a0.ZA.length : Int) - 1) = (a0.ZA.length : Int) - 1 := YN zAA zAA
 refine cFo f ?_ ?_ <;> intro k1 h1 f
 ·have q1 := h1; try simp [w1, JB, YU] at q1
  simp
  exact rtO _ f
 have q1 := h1; try simp [w1, JB, YU] at q1
 simp
 refine dIo mixed ?_
 have i1 := ik a1.toNat a0.ZA
 simp [i1, ZE]
 refine rpS ?_
 refine cR (Im (nth a0.ZA a1.toNat) a0.Frame.Now (sg (Zp (ZF.Yn u0)))) ?_
 simp [i1, ZE]
 refine rpS ?_
 exact rtO _ f
theorem IS (a0 : List Z8) (a1 : Int) : Sa 325 [rL 4 Z8.row a0, rI a1] [rI (zj a0 a1)] := by
 have f := me (zj.eq_1 a0 a1)
 refine so func325 ntmps325 ?_
 refine lp1 (yp.eq_2 a0 a1) (fun J => Yq 20 [eL 0 4 a0 Z8.row, eI 1 a1, eI 5 (J : Int)]) (fun n1 J => a0.length < n1 + J /\ J <= a0.length) (a0.length + 1) 0 (fun p1 J e1 j1 => ?_)
 refine cFf e1 ?_ ?_ <;> intro k2 h1 e1
 ·have i1 := ix h1
  have m2 := ml a0 (k2 0 _ rfl)
  have w1 := wr J
  simp [i1, ZE]
  refine rpS ?_
  refine cF e1 ?_ ?_ <;> intro k3 h2 e1
  ·exact rt [.tmp 4] (ms f e1)
  exact ny1 w1 e1
 exact rt [.tmp 4] (ms f e1)
theorem D8 (a0 : List Z8) (a1 : Int) : Sa 278 [rL 4 Z8.row a0, rI a1] [rI (Tk a0 a1)] := by
 have f := me (Tk.eq_1 a0 a1)
 refine so func278 ntmps278 ?_
 refine cRs (IS a0 a1) ?_
 refine cFt f ?_ ?_ <;> intro k1 h1 f
 ·exact rt [.tmp 4] f
 have i1 : (zj a0 a1).toNat < a0.length := by have := II a0 a1; exact il
 simp [i1, ZE]
 refine rpS ?_
 exact rt [.tmp 4] f
theorem TY (a0 : ZX) (a1 : Int) : Sa 198 [a0.row, rI a1] [rB (jX a0 a1)] := by
 have f := me (jX.eq_1 a0 a1)
 refine so func198 ntmps198 ?_
 refine cRs (KK a0.Zo a1) ?_
 refine dIs mixed ?_
 refine gIf ?_ ?_ <;> intro G
 ·have i1 : (Yc a0.Zo a1).toNat < a0.Zo.length := by have := KO a0.Zo a1; exact il
  simp [i1, ZE, G]
  refine rpG ?_
  refine cGg (fun gg => (D8 a0.Methods (nth a0.Zo (Yc a0.Zo a1).toNat).Method)) ?_
  exact rtg [.tmp 4] f
 ·refine sGo ?_
  simp
  refine rpG ?_
  exact rtg [.tmp 4] f
theorem Gp (a0 : ZF) (a1 : Int) (a2 : Int) (a3 : ZN) (u0 : Sm 2314240 a0) (u1 : Sm 2314240 a3) : Sd 108 [a0.row, rI a1, rI a2, a3.row] [(qL a0 a1 a2 a3).1.row, rB (qL a0 a1 a2 a3).2] := by
 have f := me (qL.eq_1 a0 a1 a2 a3)
 refine soD func108 ntmps108 ?_
 refine cDs [false, false, false, true, true, false, false, true, false, false, true, false] (JM a0 (sg u0)) ?_
 refine cRs (jr a0 a1) ?_
 refine cGs (fun gg => (TY a0.Frame a2)) ?_
 have c1 := sl 2314240 a0.ZA (an u0 u1)
 have w1 : IntKind.i64.wrap ((a0.ZA.length : Int) - 1) = (a0.ZA.length : Int) - 1 := YN zAA zAA
 refine cFo f ?_ ?_ <;> intro k1 h1 f
 ·have q1 := h1; try simp [w1, JB, YU] at q1
  simp
  refine ID (rv := [.cell 8 33, .tmp 9]) rfl ?_
  simp [f.h]
  all_goals ((try simp only [q3, true_and]); (try (rintro r (⟨a, _, rfl⟩ | rfl) x hx <;> simp at hx <;> subst hx <;> rfl)))
 have q1 := h1; try simp [w1, JB, YU] at q1
 simp
 refine cRs (MJ a0 a2 a3 0 10000 (sg u0) (sg u1)) ?_
 refine cFo f ?_ ?_ <;> intro k2 h2 f
 ·have q2 := h2; try simp at q2
  simp
  refine ID (rv := [.cell 8 33, .tmp 9]) rfl ?_
  simp [f.h]
  all_goals ((try simp only [q3, true_and]); (try (rintro r (⟨a, _, rfl⟩ | rfl) x hx <;> simp at hx <;> subst hx <;> rfl)))
 have q2 := h2; try simp at q2
 simp
 refine dIo mixed ?_
 have i1 := ik a1.toNat a0.ZA
 simp [i1, ZE]
 refine rpS ?_
 refine cDs [] (SH (nth a0.ZA a1.toNat) (QA a0 a2 a3 0 10000).1 zAd zAd) ?_
 refine cFo f ?_ ?_ <;> intro k4 h3 f
 ·have q3 := h3; try simp at q3
  simp
  refine ID (rv := [.cell 8 33, .tmp 9]) rfl ?_
  simp [f.h]
  all_goals ((try simp only [q3, true_and]); (try (rintro r (⟨a, _, rfl⟩ | rfl) x hx <;> simp at hx <;> subst hx <;> rfl)))
 have q3 := h3; try simp at q3
 simp [i1, ZE]
 refine rpS ?_
 refine ND (t := 16) (j := 7) (i := a1.toNat) (size := 2) (rows := (a0.ZA.map ZD.row)) (ds := (JK (nth a0.ZA a1.toNat) (QA a0 a2 a3 0 10000).1).1.row) (L := [(46, 1)]) ?_
 have c2 := sl 2314240 a0.YE (an u0 u1)
 simp [KM (x := (JK (nth a0.ZA a1.toNat) (QA a0 a2 a3 0 10000).1).1) rfl, c1, i1, ZE, XF]
 refine rpS ?_
 refine ID (rv := [.cell 8 33, .tmp 9]) rfl ?_
 simp [f.h]
 all_goals ((try simp only [q3, true_and]); (try (rintro r (⟨a, _, rfl⟩ | rfl) x hx <;> simp at hx <;> subst hx <;> rfl)))
theorem S6 (a0 : ZF) (u0 : Sm 2330624 a0) : Sd 199 [a0.row] [rL 1 iR (Yo a0)] := by
 have f := me (Yo.eq_1 a0)
 refine soD func199 ntmps199 ?_
 refine lp2 (Qk.eq_2 a0) (fun J U => Yq 39 [eX 1 (a0.row.map .d), (3, .one (.sref 3 0 0 J.length), [.arr false 1 (J.map iR)]), eI 4 (U : Int)]) (fun n1 J U => a0.Frame.ZB.length < n1 + U /\ U <= a0.Frame.ZB.length /\ J.length <= 0 + 1 * U) (a0.Frame.ZB.length + 1) ([] : List Int) 0 (fun p1 J U e1 j1 => ?_) (h0 := wkS [((3, 0), some (6, 0))] [])
 refine cFf e1 ?_ ?_ <;> intro k2 h1 e1
 ·have i1 := ix h1
  have m2 := ml a0.Frame.ZB (k2 10 _ rfl)
  have c1 := sl 2330624 a0.Frame.ZB u0
  have w1 := wr U
  simp [i1, ZE]
  refine rpS ?_
  refine cRs (OT a0.YO (nth a0.Frame.ZB U).Id) ?_
  refine cGs (fun gg => (TY a0.Frame (nth a0.Frame.ZB U).Key)) ?_
  refine cF e1 ?_ ?_ <;> intro k3 h2 e1
  ·exact nx2 e1 (hw := XI [((3, 0), some (37, 0))] [] rfl zAb)
  exact ny2 w1 e1
 exact rtD [.tmp 2] (ms f e1)
theorem Jn (h : b) (k : a := by (intros; first | omega | with_unfolding_all (first | first | omega | (have f0 : 0 <= (ZG a0 a1).1 := (by first | omega | (simp at *; omega)); have fi := XR a0 a1 f0; omega) | (have f0 : 0 <= (ZG a0 a1).1 := (by first | omega | (simp at *; omega)); have fi := XR a0 a1 f0; have ll := jK (nth a0.ZA (ZG a0 a1).1.toNat) (Zk a0.Frame.Methods a0.Frame.Now); omega) | (have fl := xP a0; have fm := YS (ZX.XN (ZF.Y7 u0)); (try dsimp only at *); omega)) | ((try simp only [Y9, show ∀ x, IntKind.i64.wrap x = W x from fun _ => rfl] at *); omega))) : a /\ b := ⟨k, h⟩
theorem MG (a0 : ZF) (a1 : Int) (a2 : Int) (u0 : Sm 2310144 a0) : Sd 109 [a0.row, rI a1, rI a2] [(zS a0 a1 a2).1.row, rB (zS a0 a1 a2).2] := by
 have f := me (zS.eq_1 a0 a1 a2)
 refine soD func109 ntmps109 ?_
 refine cDs [false, false, false, true, true, false, false, true, false, false, true, false] (JM a0 (sg u0)) ?_
 refine cRs (R4 a0 a1) ?_
 refine cRs (jM a0.Frame.Methods a0.Frame.Now) ?_
 refine cRs (YV.rd (S6 a0 (sg u0))) ?_
 refine cGs (fun gg => (OT a0.YE a1)) ?_
 refine cFt f ?_ ?_ <;> intro k1 h1 f
 ·exact rtD [.cell 6 33, .tmp 7] f
 have i1 : (ZG a0 a1).1.toNat < a0.ZA.length := zAS
 simp [i1, ZE]
 repeat with_reducible refine Jn ?_
 refine cR (YV.rd (V2 (nth a0.ZA (ZG a0 a1).1.toNat) (Zk a0.Frame.Methods a0.Frame.Now) (sg (Zp (ZF.Yn u0))))) ?_
 have i2 : (ZG a0 a1).2.toNat < (YJ (nth a0.ZA (ZG a0 a1).1.toNat) (Zk a0.Frame.Methods a0.Frame.Now)).length := zAS
 have i3 : (ZG a0 a1).2.toNat < (nth a0.ZA (ZG a0 a1).1.toNat).ZC.length := zAS
 simp [i2, ZE, i1, i3]
 repeat with_reducible refine Jn ?_
 refine lp2 (yW.eq_2 a0 a1 a2) (fun J U => Yq 140 [eI 2 a2, eX 3 (a0.row.map .d), (6, .one (.bptr 6 0), [.box [.nil 5, .nil 3, .nil 4, .d (.int .i64 0), .d (.int .i64 0), .nil 7, .nil 1, .nil 2, .nil 1, .nil 1, .d (.int .i64 0), .nil 1]]), (8, .one (.bptr 8 0), [.box [.sref 21 0 0 a0.Frame.Zo.length, .sref 21 1 0 a0.Frame.ZB.length, .sref 21 2 0 a0.Frame.Methods.length, .d (.int .i64 a0.Frame.XT), .d (.int .i64 a0.Frame.Now), .sref 21 5 0 a0.ZY.length, .sref 21 6 0 a0.Zx.length, .sref 21 7 0 a0.ZA.length, .sref 21 8 0 a0.Yt.length, .sref 21 9 0 a0.YO.length, .d (.int .i64 a0.Next), .sref 21 11 0 a0.YE.length]]), eI 9 (ZG a0 a1).1, eI 10 (ZG a0 a1).2, eL 12 1 (Yo a0) iR, eI 13 (nth (YJ (nth a0.ZA (ZG a0 a1).1.toNat) (Zk a0.Frame.Methods a0.Frame.Now)) (ZG a0 a1).2.toNat), (14, .one (.bptr 14 0), [.box [.d (.int .i64 ((nth (nth a0.ZA (ZG a0 a1).1.toNat).ZC (ZG a0 a1).2.toNat).ZK.ZJ.length : Int)), .d (.int .i64 (Zk a0.Frame.Methods a0.Frame.Now)), .d (.int .i64 (nth (YJ (nth a0.ZA (ZG a0 a1).1.toNat) (Zk a0.Frame.Methods a0.Frame.Now)) (ZG a0 a1).2.toNat)), .nil 2, .sref 14 5 0 U.length], .none, .none, .none, .none, .arr false 5 (U.map Zj.row)]), eI 15 (J : Int), (21, .any, [.arr false 5 (a0.Frame.Zo.map Yw.row), .arr false 3 (a0.Frame.ZB.map Zf.row), .arr false 4 (a0.Frame.Methods.map Z8.row), .none, .none, .arr false 7 (a0.ZY.map YX.row), .arr false 1 (a0.Zx.map iR), .arr true 2 (a0.ZA.map ZD.row), .arr false 1 (a0.Yt.map iR), .arr false 1 (a0.YO.map iR), .none, .arr false 1 (a0.YE.map iR)])]) (fun n1 J U => (Yo a0).length < n1 + J /\ J <= (Yo a0).length /\ U.length <= 0 + 1 * J) ((Yo a0).length + 1) 0 ([] : List Zj) (fun p1 J U e1 j1 => ?_) (h0 := wkS [((14, 5), none)] [])
 try dsimp only at j1
 refine cF e1 ?_ ?_ <;> intro k3 h2 e1
 ·have i4 := ix h2
  have m2 := ml (Yo a0) (k3 12 _ rfl)
  have w1 := wr J
  refine dIo mixed ?_
  simp [i4, ZE]
  repeat with_reducible refine Jn ?_
  refine cRs (Vx a0.Frame.Zo a0.Frame.ZB (Zj.mk (nth (Yo a0) J) 0 a2 (nth (YJ (nth a0.ZA (ZG a0 a1).1.toNat) (Zk a0.Frame.Methods a0.Frame.Now)) (ZG a0 a1).2.toNat) 0) (sg (ZX.XS (ZF.Y7 u0))) (sg (ZX.XN (ZF.Y7 u0)))) ?_
  refine cFt e1 ?_ ?_ <;> intro k5 h3 e1
  ·exact rtD [.cell 6 33, .tmp 7] (ms f e1)
  simp
  repeat with_reducible refine Jn ?_
  exact nx2 e1 (hw := XI [((14, 5), some (111, 0))] [] rfl zAb)
 have f := ms f e1
 refine dIo mixed ?_
 simp [i1, ZE, i3]
 repeat with_reducible refine Jn ?_
 refine cDs [] (Sn (nth (nth a0.ZA (ZG a0 a1).1.toNat).ZC (ZG a0 a1).2.toNat).ZK (ZZ.mk ((nth (nth a0.ZA (ZG a0 a1).1.toNat).ZC (ZG a0 a1).2.toNat).ZK.ZJ.length : Int) (Zk a0.Frame.Methods a0.Frame.Now) (nth (YJ (nth a0.ZA (ZG a0 a1).1.toNat) (Zk a0.Frame.Methods a0.Frame.Now)) (ZG a0 a1).2.toNat) ([] : List Xx) U) zAv zAv) ?_
 refine drJ [] mixed ?_
 simp [i1, ZE, i3]
 repeat with_reducible refine Jn ?_
 refine og (t := 21) (j := 7) (i := (ZG a0 a1).1.toNat) (c := 1) (k' := (ZG a0 a1).2.toNat) (q := 14) (n := 16) (size := 2) (s := ((nth a0.ZA (ZG a0 a1).1.toNat).ZC.map ZQ.row)) (rows := (a0.ZA.map ZD.row)) (ds := (Q0 (nth (nth a0.ZA (ZG a0 a1).1.toNat).ZC (ZG a0 a1).2.toNat).ZK (ZZ.mk ((nth (nth a0.ZA (ZG a0 a1).1.toNat).ZC (ZG a0 a1).2.toNat).ZK.ZJ.length : Int) (Zk a0.Frame.Methods a0.Frame.Now) (nth (YJ (nth a0.ZA (ZG a0 a1).1.toNat) (Zk a0.Frame.Methods a0.Frame.Now)) (ZG a0 a1).2.toNat) ([] : List Xx) U)).1.row) (L := [(125, 0), (125, 1)]) rfl rfl rfl rfl (by simp; rfl) zAF zAF (by simp [i1, i3]) (by simp [ZE, XF, i1, i3]) (by simp [i1, i3]) zAF zAF zAF zAF zAF zAF ?_
 simp [KM (x := (ZD.mk (nth a0.ZA (ZG a0 a1).1.toNat).Id ((nth a0.ZA (ZG a0 a1).1.toNat).ZC.set (ZG a0 a1).2.toNat (ZQ.mk (nth (nth a0.ZA (ZG a0 a1).1.toNat).ZC (ZG a0 a1).2.toNat).Id (nth (nth a0.ZA (ZG a0 a1).1.toNat).ZC (ZG a0 a1).2.toNat).Y8 (nth (nth a0.ZA (ZG a0 a1).1.toNat).ZC (ZG a0 a1).2.toNat).Doc (nth (nth a0.ZA (ZG a0 a1).1.toNat).ZC (ZG a0 a1).2.toNat).Sig (Q0 (nth (nth a0.ZA (ZG a0 a1).1.toNat).ZC (ZG a0 a1).2.toNat).ZK (ZZ.mk ((nth (nth a0.ZA (ZG a0 a1).1.toNat).ZC (ZG a0 a1).2.toNat).ZK.ZJ.length : Int) (Zk a0.Frame.Methods a0.Frame.Now) (nth (YJ (nth a0.ZA (ZG a0 a1).1.toNat) (Zk a0.Frame.Methods a0.Frame.Now)) (ZG a0 a1).2.toNat) ([] : List Xx) U)).1)))) rfl, ZE, XF, i1, i3]
 repeat with_reducible refine Jn ?_
 exact rtD [.cell 6 33, .tmp 7] f
end Go.Proofs.YthjkhlcbpfnobaaGreat
