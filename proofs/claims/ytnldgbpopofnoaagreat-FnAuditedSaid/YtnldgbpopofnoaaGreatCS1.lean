/- Contracts of the functions OB the abstract machine, part S1. No condition. -/
import Derived.Test.YtnldgbpopofnoaaGreatL
import Derived.Test.YtnldgbpopofnoaaGreatTy
namespace Go.Proofs.YtnldgbpopofnoaaGreat
open Tryz
open Go.Vm Go.Mo
set_option maxHeartbeats 1000000
set_option maxRecDepth 100000
set_option linter.unusedSimpArgs false
set_option linter.unusedVariables false
theorem GZ (a0 : List UInt8) : Rp prog 22 [rL 1 bR a0] (QH a0).row := by
 have f := me (QH.eq_1 a0)
 refine Fb func22 rfl (by kernel_rfl) ?_
 simp [ntmps22]
 refine lp2 (PF.eq_2 a0) (fun J U => Yg 32 [eL 0 1 a0 bR, eI 3 J, eI 4 (U : Int)]) (fun n1 J U => 4000 < n1 + U) 4001 (W (193017 + (a0.length : Int))) 0 (fun p1 J U e1 j1 => ?_)
 refine cFf e1 ?_ ?_ <;> intro k2 h1 e1
 ·have i1 : U < a0.length := by (simp at h1; omega)
  have m2 := ml a0 (k2 0 _ rfl)
  have w1 := wr U
  simp [i1, ZC]
  refine rpS ?_
  exact ny2 w1 e1
 have f := ms f e1
 refine BM 31 (rv := [.tmp 2]) rfl ?_
 simp [f.h]
theorem kn (a0 : Z1) : Ka prog 40 false a0.row [] (YF a0).1.row [rI (YF a0).2] := by
 have f := me (YF.eq_1 a0)
 refine JY func40 rfl (by kernel_rfl) (fun v => ?_)
 simp [ntmps40]
 refine dIs mixed ?_
 refine dIs mixed ?_
 refine cF f ?_ ?_ <;> intro k3 h1 f
 ·refine okD fun k4 => ?_
  refine dIo mixed ?_
  have i1 := ik a0.i a0.b
  simp [i1, ZC]
  refine rpS ?_
  refine K4 (rv := [.tmp 2]) rfl ?_
  first | (have w0 := wr a0.i (by have z := ml a0.b (k3 32 _ rfl); simp at h1; omega); simp [f.h, w0]; done) | simp [f.h]
 refine K4 (rv := [.tmp 2]) rfl ?_
 first | (have w0 := wr a0.i (by have z := ml a0.b (k3 32 _ rfl); simp at h1; omega); simp [f.h, w0]; done) | simp [f.h]
theorem YZ (a0 : Z1) (a1 : Int) : Ka prog 24 false a0.row [rI a1] (ZF a0 a1).1.row [rI (ZF a0 a1).2] := by
 have f := me (ZF.eq_1 a0 a1)
 refine JY func24 rfl (by kernel_rfl) (fun v => ?_)
 simp [ntmps24]
 refine cF f ?_ ?_ <;> intro k1 h1 f
 ·refine K4 (rv := [.tmp 4]) rfl ?_
  simp [f.h]
 refine cF f ?_ ?_ <;> intro k2 h2 f
 ·refine cBs [] (kn a0) ?_
  refine K4 (rv := [.tmp 4]) rfl ?_
  simp [f.h]
 refine cBs [] (kn a0) ?_
 refine cBs [] (kn (YF a0).1) ?_
 refine cBs [] (kn (YF (YF a0).1).1) ?_
 refine K4 (rv := [.tmp 4]) rfl ?_
 simp [f.h]
theorem Ns (a0 : Int) (a1 : Int) : Sa 57 [rI a0, rI a1] [rI (Vz a0 a1)] := by
 have f := me (Vz.eq_1 a0 a1)
 refine so func57 ntmps57 ?_
 refine cF f ?_ ?_ <;> intro k1 h1 f
 ·exact rt [.tmp 4] f
 exact rt [.tmp 4] f
theorem Hf (a0 : Int) (a1 : Int) : Sa 56 [rI a0, rI a1] [rI (PM a0 a1)] := by
 have f := me (PM.eq_1 a0 a1)
 refine so func56 ntmps56 ?_
 refine cF f ?_ ?_ <;> intro k1 h1 f
 ·exact rt [.tmp 4] f
 exact rt [.tmp 4] f
theorem kd : Sd 58 [] [rL 5 Yj.row Kj] := by
 have f := me (Kj.eq_1)
 refine soD func58 ntmps58 ?_
 exact rtD [.tmp 0] f
theorem TI : Sd 59 [] [rL 3 Zg.row JH] := by
 have f := me (JH.eq_1)
 refine soD func59 ntmps59 ?_
 exact rtD [.tmp 0] f
theorem II : Sd 60 [] [rL 4 YJ.row jL] := by
 have f := me (jL.eq_1)
 refine soD func60 ntmps60 ?_
 exact rtD [.tmp 0] f
theorem QG (a0 : List Yj) (a1 : Int) : Sa 113 [rL 5 Yj.row a0, rI a1] [rI (YK a0 a1)] := by
 have f := me (YK.eq_1 a0 a1)
 refine so func113 ntmps113 ?_
 refine lp1 (kQ.eq_2 a0 a1) (fun J => Yg 20 [eL 0 5 a0 Yj.row, eI 1 a1, eI 5 (J : Int)]) (fun n1 J => a0.length < n1 + J /\ J <= a0.length) (a0.length + 1) 0 (fun p1 J e1 j1 => ?_)
 refine cFf e1 ?_ ?_ <;> intro k2 h1 e1
 ·have i1 := ix h1
  have m2 := ml a0 (k2 0 _ rfl)
  have w1 := wr J
  simp [i1, ZC]
  refine rpS ?_
  refine cF e1 ?_ ?_ <;> intro k3 h2 e1
  ·have f := ms f e1
   exact rt [.tmp 4] f
  exact ny1 w1 e1
 have f := ms f e1
 exact rt [.tmp 4] f
theorem Yc (a0 : Int) (a1 : Int) (a2 : Int) : Sa 112 [rI a0, rI a1, rI a2] [rB (YA a0 a1 a2)] := by
 have f := me (YA.eq_1 a0 a1 a2)
 refine so func112 ntmps112 ?_
 exact rt [.tmp 6] f
theorem Mh (a0 : YY) : Sa 187 [a0.row] [(W3 a0).row] := by
 have f := me (W3.eq_1 a0)
 refine so func187 ntmps187 ?_
 exact rt [.cell 2 65] f
theorem qK (a0 : Int) : Sa 175 [rI a0] [rB (jr a0)] := by
 have f := me (jr.eq_1 a0)
 refine so func175 ntmps175 ?_
 refine cRs (Yc a0 0 10000) ?_
 exact rt [.tmp 2] f
theorem HS (a0 : Za) : Sa 186 [a0.row] [rB (O1 a0)] := by
 have f := me (O1.eq_1 a0)
 refine so func186 ntmps186 ?_
 refine cRs (qK a0.XU) ?_
 refine cGs (fun gg => (qK a0.To)) ?_
 exact rt [.tmp 2] f
theorem HX (a0 : YY) : Sa 136 [a0.row] [rB (Od a0)] := by
 have f := me (Od.eq_1 a0)
 refine so func136 ntmps136 ?_
 refine cRs (Yc a0.ZO 1 999) ?_
 refine cGs (fun gg => (Yc a0.Key 1 99)) ?_
 refine cGs (fun gg => (Yc a0.Zq 1 99)) ?_
 refine cGs (fun gg => (Yc a0.yv 0 99)) ?_
 refine cGs (fun gg => (Mh a0)) ?_
 refine cGs (fun gg => (HS (W3 a0))) ?_
 exact rt [.tmp 2] f
theorem TX (a0 : YY) : Sd 138 [a0.row] [rL 1 iR (zE a0)] := by
 have f := me (zE.eq_1 a0)
 refine soD func138 ntmps138 ?_
 exact rtD [.tmp 2] f
theorem Ea (a0 : Int) (a1 : Int) : Sa 237 [rI a0, rI a1] [rI (ED a0 a1)] := by
 have f := me (ED.eq_1 a0 a1)
 refine so func237 ntmps237 ?_
 refine cRs (Yc a1 1 1000000000000) ?_
 refine cFo f ?_ ?_ <;> intro k1 h1 f
 ·have q1 := h1; try simp [YA] at q1
  simp
  exact rt [.tmp 4] f
 have q1 := h1; try simp [YA] at q1
 simp
 refine rpS ?_
 exact rt [.tmp 4] f
theorem Li (a0 : List Int) : Sa 225 [rL 1 iR a0] [rI (Ic a0)] := by
 have f := me (Ic.eq_1 a0)
 refine so func225 ntmps225 ?_
 refine lp2 (NX.eq_2 a0) (fun J U => Yg 22 [eL 0 1 a0 iR, eI 3 J, eI 4 (U : Int)]) (fun n1 J U => a0.length < n1 + U /\ U <= a0.length) (a0.length + 1) 11 0 (fun p1 J U e1 j1 => ?_)
 refine cFf e1 ?_ ?_ <;> intro k2 h1 e1
 ·have i1 := ix h1
  have m2 := ml a0 (k2 0 _ rfl)
  have w1 := wr U
  simp [i1, ZC]
  refine rpS ?_
  refine cRs (Ea (nth a0 U) 2147483647) ?_
  exact ny2 w1 e1
 have f := ms f e1
 exact rt [.tmp 2] f
theorem UF (a0 : Int) (a1 : List Int) (u0 : Sm 2330624 a1) : Sa 188 [rI a0, rL 1 iR a1] [rI (yU a0 a1)] := by
 have f := me (yU.eq_1 a0 a1)
 have c1 := sl 2330624 a1 u0
 refine so func188 ntmps188 ?_
 refine cRs (Li ((([a0] : List Int) ++ a1) ++ ([a0] : List Int))) ?_
 exact rt [.tmp 4] f
theorem xz (a0 : Yj) (a1 : List Int) (u0 : Sm 2326528 a1) : Sa 137 [a0.row, rL 1 iR a1] [rI (xU a0 a1)] := by
 have f := me (xU.eq_1 a0 a1)
 refine so func137 ntmps137 ?_
 refine LQ [2, 3, 4, 5, 6, 0, 1, 7, 8] mixed (by kernel_rfl) (by kernel_rfl) (by kernel_rfl) ?_
 have c1 := sl 2326528 a1 u0
 simp
 refine rpS ?_
 refine cRs (UF a0.UA (([a0.Method] : List Int) ++ a1) (by simp (maxDischargeDepth := 12) [JJ, XA, ZU (m := 2330624) (by decide) u0]; try omega)) ?_
 exact rt [.tmp 4] f
theorem jZ (a0 : List Yj) (a1 : YY) (u0 : Sm 2322432 a0) : Sa 86 [rL 5 Yj.row a0, a1.row] [(ya a0 a1).1.row, rB (ya a0 a1).2] := by
 have f := me (ya.eq_1 a0 a1)
 refine so func86 ntmps86 ?_
 refine cRs (QG a0 a1.Zq) ?_
 refine cRs (HX a1) ?_
 refine cGs (fun gg => (QG a0 a1.Key)) ?_
 refine cF f ?_ ?_ <;> intro k1 h1 f
 ·exact rt [.cell 4 46, .tmp 5] f
 refine dIo mixed ?_
 have i1 : (YK a0 a1.Zq).toNat < a0.length := by have := Xu a0 a1.Zq; exact il
 simp [i1, ZC]
 refine rpS ?_
 refine cRs (YN.rd (TX a1)) ?_
 refine cRs (xz (nth a0 (YK a0 a1.Zq).toNat) (zE a1) (by simp (maxDischargeDepth := 12) [Tc, ZU (m := 2326528) (by decide) u0]; try omega)) ?_
 exact rt [.cell 4 46, .tmp 5] f
theorem I0 : Sd 61 [] [rL 7 YY.row jM] := by
 have f := me (jM.eq_1)
 refine soD func61 ntmps61 ?_
 refine cRs (YN.rd (kd)) ?_
 refine cRs (jZ Kj (YY.mk 1 11 1 0 60 1 0) (by simp (maxDischargeDepth := 12) [kl]; try omega)) ?_
 refine cRs (YN.rd (kd)) ?_
 refine cRs (jZ Kj (YY.mk 2 12 1 20 100 1 0) (by simp (maxDischargeDepth := 12) [kl]; try omega)) ?_
 refine cRs (YN.rd (kd)) ?_
 refine cRs (jZ Kj (YY.mk 3 13 2 40 150 2 0) (by simp (maxDischargeDepth := 12) [kl]; try omega)) ?_
 exact rtD [.tmp 0] f
theorem Mf (a0 : Int) : Sd 38 [rI a0] [(yM a0).row] := by
 have f := me (yM.eq_1 a0)
 refine soD func38 ntmps38 ?_
 refine cRs (Ns 0 a0) ?_
 refine cRs (Hf 1 (Vz 0 a0)) ?_
 refine cDs [false] (kd) ?_
 refine cDs [false] (TI) ?_
 refine cDs [false] (II) ?_
 refine cDs [false] (I0) ?_
 refine FK (news := (([(ZJ.mk 0 ([] : List Zk)), (ZJ.mk 1 ([] : List Zk))] : List ZJ).map ZJ.row)) (L := []) rfl rfl rfl rfl (by simp) (by simp) (by simp) (by simp) (by simp) (by simp) ?_
 simp
 refine cF f ?_ ?_ <;> intro k1 h1 f
 ·exact rtD [.cell 2 33] f
 exact rtD [.cell 2 33] f
theorem HR (a0 : Z1) (a1 : Int) : Ka prog 62 false a0.row [rI a1] (Z3 a0 a1).1.row [rB (Z3 a0 a1).2] := by
 have f := me (Z3.eq_1 a0 a1)
 refine JY func62 rfl (by kernel_rfl) (fun v => ?_)
 simp [ntmps62]
 refine cBs [] (YZ a0 a1) ?_
 refine K4 (rv := [.tmp 4]) rfl ?_
 simp [f.h]
theorem Gl {a b : Prop} (h : b) (k : a := by (intros; first | omega | with_unfolding_all (first | first | omega | (have z := Xe a0 (a1.length : Int); omega)) | ((try simp only [XT, show ∀ x, IntKind.i64.wrap x = W x from fun _ => rfl] at *); omega))) : a /\ b := ⟨k, h⟩
theorem QY (a0 : Z1) (a1 : List Int) (u0 : 0 < a1.length) : Ka prog 87 false a0.row [rL 1 iR a1] (Zz a0 a1).1.row [rI (Zz a0 a1).2] := by
 have f := me (Zz.eq_1 a0 a1)
 refine JY func87 rfl (by kernel_rfl) (fun v => ?_)
 simp [ntmps87]
 refine cBo [] (YZ a0 (a1.length : Int)) ?_
 have i1 : (ZF a0 (a1.length : Int)).2.toNat < a1.length := by (have z := Xe a0 (a1.length : Int); omega)
 simp [i1, ZC]
 repeat with_reducible refine Gl ?_
 refine K4 (rv := [.tmp 4]) rfl ?_
 simp [f.h]
theorem G3 {a b : Prop} (h : b) (k : a := by (intros; first | omega | with_unfolding_all (first | first | omega | (have z := Xe a0 (a1.length : Int); omega)) | ((try simp only [XT, show ∀ x, IntKind.i64.wrap x = W x from fun _ => rfl] at *); omega))) : a /\ b := ⟨k, h⟩
theorem GL (a0 : Z1) (a1 : List ByteArray) (u0 : 0 < a1.length) : Ka prog 189 false a0.row [rL 1 sR a1] (TG a0 a1).1.row [rS (TG a0 a1).2] := by
 have f := me (TG.eq_1 a0 a1)
 refine JY func189 rfl (by kernel_rfl) (fun v => ?_)
 simp [ntmps189]
 refine cBo [] (YZ a0 (a1.length : Int)) ?_
 have i1 : (ZF a0 (a1.length : Int)).2.toNat < a1.length := by (have z := Xe a0 (a1.length : Int); omega)
 simp [i1, ZC]
 repeat with_reducible refine G3 ?_
 refine K4 (rv := [.tmp 4]) rfl ?_
 simp [f.h]
theorem HO (a0 : Z1) : Ka prog 139 false a0.row [] (KB a0).1.row [rS (KB a0).2] := by
 have f := me (KB.eq_1 a0)
 refine JY func139 rfl (by kernel_rfl) (fun v => ?_)
 simp [ntmps139]
 refine kW [(4, 0)] rfl (by simp) ?_
 refine cBs [] (GL a0 ([(⟨#[]⟩ : ByteArray), (⟨#[97]⟩ : ByteArray), (⟨#[98]⟩ : ByteArray), (⟨#[97, 98]⟩ : ByteArray), (⟨#[121, 101, 115]⟩ : ByteArray), (⟨#[110, 111]⟩ : ByteArray), (⟨#[111, 110, 101, 32, 104, 117, 110, 100, 114, 101, 100]⟩ : ByteArray)] : List ByteArray) (by first | omega | (simp; done) | (simp; omega))) ?_
 refine K4 (rv := [.tmp 2]) rfl ?_
 simp [f.h]
theorem qX (a0 : ZV) : Sa 190 [a0.row] [rB (KR a0)] := by
 have f := me (KR.eq_1 a0)
 refine so func190 ntmps190 ?_
 refine lp1 (zM.eq_2 a0) (fun J => Yg 51 [eX 1 (a0.row.map .d), eI 3 (J : Int)]) (fun n1 J => a0.Yz.length < n1 + J /\ J <= a0.Yz.length) (a0.Yz.length + 1) 0 (fun p1 J e1 j1 => ?_)
 refine cFf e1 ?_ ?_ <;> intro k2 h1 e1
 ·have i1 := ix h1
  have m2 := ml a0.Yz (k2 7 _ rfl)
  have w1 := wr J
  simp [i1, ZC]
  refine rpS ?_
  refine cF e1 ?_ ?_ <;> intro k3 h2 e1
  ·have f := ms f e1
   exact rt [.tmp 2] f
  exact ny1 w1 e1
 have f := ms f e1
 refine lp1 (zL.eq_2 a0) (fun wB => Yg 51 [eX 1 (a0.row.map .d), eI 4 (wB : Int)]) (fun n2 wB => a0.QQ.length < n2 + wB /\ wB <= a0.QQ.length) (a0.QQ.length + 1) 0 (fun p2 wB e2 j2 => ?_)
 refine cFf e2 ?_ ?_ <;> intro k5 h3 e2
 ·have i2 := ix h3
  have m4 := ml a0.QQ (k5 21 _ rfl)
  have w2 := wr wB
  simp [i2, ZC]
  refine rpS ?_
  refine cRs (Yc (nth a0.QQ wB) 1 1000000000000) ?_
  refine cFo e2 ?_ ?_ <;> intro k6 h4 e2
  ·have q4 := h4; try simp [YA] at q4
   have f := ms f e2
   simp
   exact rt [.tmp 2] f
  have q4 := h4; try simp [YA] at q4
  simp
  exact ny1 w2 e2
 have f := ms f e2
 refine cRs (Yc a0.jj 0 999) ?_
 refine cGs (fun gg => (Yc (a0.Yz.length : Int) 1 6)) ?_
 exact rt [.tmp 2] f
theorem OE (a0 : Int) : Sa 191 [rI a0] [rB (W2 a0)] := by
 have f := me (W2.eq_1 a0)
 refine so func191 ntmps191 ?_
 refine cRs (Yc a0 1 2147483646) ?_
 exact rt [.tmp 2] f
theorem Sw (a0 : Int) (a1 : List ByteArray) (a2 : Int) (u0 : Sm 2326528 a1) : Sd 140 [rI a0, rL 1 sR a1, rI a2] [(J4 a0 a1 a2).1.row, rB (J4 a0 a1 a2).2] := by
 have f := me (J4.eq_1 a0 a1 a2)
 have c1 := sl 2326528 a1 u0
 refine soD func140 ntmps140 ?_
 refine lp2 (J3.eq_2 a0 a1 a2) (fun J U => Yg 42 [eI 0 a0, eL 1 1 a1 sR, eI 2 a2, (6, .one (.bptr 6 0), [.box [.d (.int .i64 0), .nil 1, .nil 1]]), (8, .one (.bptr 8 0), [.box [.d (.int .i64 a0), .sref 13 0 0 a1.length, .sref 8 3 0 U.length], .none, .none, .arr false 1 (U.map iR)]), eI 9 (J : Int), (13, .any, [.arr false 1 (a1.map sR)])]) (fun n1 J U => a1.length < n1 + J /\ J <= a1.length /\ U.length <= 0 + 1 * J) (a1.length + 1) 0 ([] : List Int) (fun p1 J U e1 j1 => ?_) (h0 := wkS [((8, 3), none)] [])
 refine cF e1 ?_ ?_ <;> intro k2 h1 e1
 ·have i1 := ix h1
  have m2 := ml a1 (k2 1 _ rfl)
  have w1 := wr J
  refine dIs mixed ?_
  refine cRs (UF a2 ([a0, (J : Int)] : List Int) (by simp (maxDischargeDepth := 12) [JJ, XA, ZU (m := 2330624) (by decide) u0]; try omega)) ?_
  refine cRs (Ns 1 (yU a2 ([a0, (J : Int)] : List Int))) ?_
  exact nx2 e1 (hw := Y5 [((8, 3), some (30, 0))] [] rfl (by simp [w1]))
 have f := ms f e1
 refine cRs (qX (ZV.mk a0 a1 U)) ?_
 refine cGs (fun gg => (OE a2)) ?_
 refine cF f ?_ ?_ <;> intro k4 h2 f
 ·exact rtD [.cell 6 52, .tmp 7] f
 exact rtD [.cell 6 52, .tmp 7] f
theorem kL (a0 : Z1) : Ka prog 88 true a0.row [] (Y7 a0).1.row [(Y7 a0).2.row] := by
 have f := me (Y7.eq_1 a0)
 refine JY func88 rfl (by kernel_rfl) (fun v => ?_)
 simp [ntmps88]
 refine cBs [] (YZ a0 3) ?_
 refine lp5 (xY.eq_2) (fun J U wD wL wg => Yg 28 [(0, .fix v (.one (.bptr 0 0)), [.box [.d (.sl 1 (wD.map bR)), .d (.int .i64 (wL : Int)), .d (.int .i64 wg)]]), (2, .one (.bptr 2 0), [.box [.d (.int .i64 0), .nil 1, .nil 1]]), (3, .one (.sref 3 0 0 J.length), [.arr false 1 (J.map sR)]), eI 4 U]) (fun n1 J U wD wL wg => U + 1 <= (n1 : Int) /\ 0 <= U /\ (J.length : Int) + U <= 3 /\ (∀ x ∈ J, x.size <= 11)) 5 ([] : List ByteArray) (W (1 + (ZF a0 3).2)) (ZF a0 3).1.b (ZF a0 3).1.i (ZF a0 3).1.h (fun p1 J U wD wL wg e1 j1 => ?_) (hI := by (have z := Xe a0 3; (try dsimp only); simp only [XT, List.length_nil]; refine ⟨by omega, by omega, by omega, by omega, fun x h => by cases h⟩)) (h0 := wkS [((3, 0), some (7, 0))] [])
 try dsimp only at j1
 refine cF e1 ?_ ?_ <;> intro k2 h1 e1
 ·refine cBs [] (HO (Z1.mk wD wL wg)) ?_
  exact nx5 e1 (hI := by (have hh := h1; simp at hh; (try dsimp only); simp only [XT, List.length_append, List.length_singleton]; refine ⟨by omega, by omega, by omega, by omega, fun x hx => ?_⟩; rcases List.mem_append.1 hx with hx | hx; exact j1.2.2.2.2 x hx; simp at hx; rw [hx]; exact Tg _)) (hw := wkS [((3, 0), some (19, 0))] [])
 have f := ms f e1
 refine cBs [] (YZ (Z1.mk wD wL wg) 5) ?_
 refine cDs [true, false, false] (Sw (ZF (Z1.mk wD wL wg) 5).2 J 11 (by (exact ⟨by omega, fun x hx => Nat.le_trans (j1.2.2.2.2 x hx) (by decide)⟩))) ?_
 refine K4 (rv := [.cell 2 52]) rfl ?_
 simp [f.h]
theorem WY (a0 : Z1) (a1 : Int) : Ka prog 89 true a0.row [rI a1] (Yl a0 a1).1.row [(Yl a0 a1).2.row] := by
 have f := me (Yl.eq_1 a0 a1)
 refine JY func89 rfl (by kernel_rfl) (fun v => ?_)
 simp [ntmps89]
 refine kW [(7, 0)] rfl (by simp) ?_
 refine cBs [] (QY a0 ([0, (-10), 40] : List Int) (by first | omega | (simp; done) | (simp; omega))) ?_
 refine cF f ?_ ?_ <;> intro k1 h1 f
 ·refine cF f ?_ ?_ <;> intro k2 h2 f
  ·refine cF f ?_ ?_ <;> intro k3 h3 f
   ·refine K4 (rv := [.cell 4 122]) rfl ?_
    simp [f.h]
   refine K4 (rv := [.cell 4 122]) rfl ?_
   simp [f.h]
  refine cF f ?_ ?_ <;> intro k4 h4 f
  ·refine K4 (rv := [.cell 4 122]) rfl ?_
   simp [f.h]
  refine K4 (rv := [.cell 4 122]) rfl ?_
  simp [f.h]
 refine cF f ?_ ?_ <;> intro k5 h5 f
 ·refine cF f ?_ ?_ <;> intro k6 h6 f
  ·refine K4 (rv := [.cell 4 122]) rfl ?_
   simp [f.h]
  refine K4 (rv := [.cell 4 122]) rfl ?_
  simp [f.h]
 refine cF f ?_ ?_ <;> intro k7 h7 f
 ·refine K4 (rv := [.cell 4 122]) rfl ?_
  simp [f.h]
 refine K4 (rv := [.cell 4 122]) rfl ?_
 simp [f.h]
theorem Py (a0 : Z1) : Ka prog 63 true a0.row [] (Zo a0).1.row [rL 9 Zn.row (Zo a0).2] := by
 have f := me (Zo.eq_1 a0)
 refine JY func63 rfl (by kernel_rfl) (fun v => ?_)
 simp [ntmps63]
 refine kW [(6, 0)] rfl (by simp) ?_
 refine cBs [] (QY a0 ([11, 12] : List Int) (by first | omega | (simp; done) | (simp; omega))) ?_
 refine cBs [] (kL (Zz a0 ([11, 12] : List Int)).1) ?_
 refine FK (news := (([(Zn.mk 1 22 0 0 0 (ZV.mk 0 ([] : List ByteArray) ([] : List Int)) ([] : List Int)), (Zn.mk 2 0 (Zz a0 ([11, 12] : List Int)).2 0 10000 (Y7 (Zz a0 ([11, 12] : List Int)).1).2 ([] : List Int)), (Zn.mk 1 3 0 0 0 (ZV.mk 0 ([] : List ByteArray) ([] : List Int)) ([] : List Int)), (Zn.mk 3 1 0 0 0 (ZV.mk 0 ([] : List ByteArray) ([] : List Int)) ([] : List Int))] : List Zn).map Zn.row)) (L := [(9, 1), (9, 2)]) rfl rfl rfl rfl (by simp) (by simp) (by simp) (by simp) (by simp) (by simp) ?_
 simp
 refine cBs [] (WY (Y7 (Zz a0 ([11, 12] : List Int)).1).1 25) ?_
 refine Wc ?_
 simp
 refine VV (wH := (([(Zn.mk 1 22 0 0 0 (ZV.mk 0 ([] : List ByteArray) ([] : List Int)) ([] : List Int)), (Zn.mk 2 0 (Zz a0 ([11, 12] : List Int)).2 0 10000 (Y7 (Zz a0 ([11, 12] : List Int)).1).2 ([] : List Int)), (Zn.mk 1 3 0 0 0 (ZV.mk 0 ([] : List ByteArray) ([] : List Int)) ([] : List Int)), (Zn.mk 3 1 0 0 0 (ZV.mk 0 ([] : List ByteArray) ([] : List Int)) ([] : List Int))] : List Zn).map Zn.row)) (news := (([(Yl (Y7 (Zz a0 ([11, 12] : List Int)).1).1 25).2, (Zn.mk 1 18 0 0 0 (ZV.mk 0 ([] : List ByteArray) ([] : List Int)) ([] : List Int))] : List Zn).map Zn.row)) (l1 := [(13, 0)]) (l2 := [(16, 6), (16, 7), (16, 8)]) (size := 9) ?_
 simp
 refine cBs [] (WY (Yl (Y7 (Zz a0 ([11, 12] : List Int)).1).1 25).1 43) ?_
 refine Wc ?_
 simp
 refine VV (wH := ((([(Zn.mk 1 22 0 0 0 (ZV.mk 0 ([] : List ByteArray) ([] : List Int)) ([] : List Int)), (Zn.mk 2 0 (Zz a0 ([11, 12] : List Int)).2 0 10000 (Y7 (Zz a0 ([11, 12] : List Int)).1).2 ([] : List Int)), (Zn.mk 1 3 0 0 0 (ZV.mk 0 ([] : List ByteArray) ([] : List Int)) ([] : List Int)), (Zn.mk 3 1 0 0 0 (ZV.mk 0 ([] : List ByteArray) ([] : List Int)) ([] : List Int))] : List Zn) ++ ([(Yl (Y7 (Zz a0 ([11, 12] : List Int)).1).1 25).2, (Zn.mk 1 18 0 0 0 (ZV.mk 0 ([] : List ByteArray) ([] : List Int)) ([] : List Int))] : List Zn)).map Zn.row)) (news := (([(Yl (Yl (Y7 (Zz a0 ([11, 12] : List Int)).1).1 25).1 43).2, (Zn.mk 1 22 0 0 0 (ZV.mk 0 ([] : List ByteArray) ([] : List Int)) ([] : List Int))] : List Zn).map Zn.row)) (l1 := [(19, 0)]) (l2 := [(22, 6), (22, 7), (22, 8)]) (size := 9) ?_
 simp
 refine cBs [] (WY (Yl (Yl (Y7 (Zz a0 ([11, 12] : List Int)).1).1 25).1 43).1 65) ?_
 refine Wc ?_
 simp
 refine VV (wH := (((([(Zn.mk 1 22 0 0 0 (ZV.mk 0 ([] : List ByteArray) ([] : List Int)) ([] : List Int)), (Zn.mk 2 0 (Zz a0 ([11, 12] : List Int)).2 0 10000 (Y7 (Zz a0 ([11, 12] : List Int)).1).2 ([] : List Int)), (Zn.mk 1 3 0 0 0 (ZV.mk 0 ([] : List ByteArray) ([] : List Int)) ([] : List Int)), (Zn.mk 3 1 0 0 0 (ZV.mk 0 ([] : List ByteArray) ([] : List Int)) ([] : List Int))] : List Zn) ++ ([(Yl (Y7 (Zz a0 ([11, 12] : List Int)).1).1 25).2, (Zn.mk 1 18 0 0 0 (ZV.mk 0 ([] : List ByteArray) ([] : List Int)) ([] : List Int))] : List Zn)) ++ ([(Yl (Yl (Y7 (Zz a0 ([11, 12] : List Int)).1).1 25).1 43).2, (Zn.mk 1 22 0 0 0 (ZV.mk 0 ([] : List ByteArray) ([] : List Int)) ([] : List Int))] : List Zn)).map Zn.row)) (news := (([(Yl (Yl (Yl (Y7 (Zz a0 ([11, 12] : List Int)).1).1 25).1 43).1 65).2, (Zn.mk 1 20 0 0 0 (ZV.mk 0 ([] : List ByteArray) ([] : List Int)) ([] : List Int))] : List Zn).map Zn.row)) (l1 := [(25, 0)]) (l2 := [(28, 6), (28, 7), (28, 8)]) (size := 9) ?_
 simp
 refine K4 (rv := [.tmp 2]) rfl ?_
 simp [f.h]
theorem M1 {a b : Prop} (h : b) (k : a := by (intros; first | omega | with_unfolding_all (first | first | omega | (have z := Xe (Zz (ZF (ZF a0 16).1 2).1 ([0, (-10), 40] : List Int)).1 3; omega)) | ((try simp only [XT, show ∀ x, IntKind.i64.wrap x = W x from fun _ => rfl] at *); omega))) : a /\ b := ⟨k, h⟩
theorem Ta (a0 : Z1) : Ka prog 64 false a0.row [] (Yy a0).1.row [(Yy a0).2.row] := by
 have f := me (Yy.eq_1 a0)
 refine JY func64 rfl (by kernel_rfl) (fun v => ?_)
 simp [ntmps64]
 refine cBs [] (YZ a0 16) ?_
 refine cF f ?_ ?_ <;> intro k1 h1 f
 ·refine cY h1 ?_
  refine kW [(10, 0)] rfl (by simp) ?_
  refine cBs [] (QY (ZF a0 16).1 ([1, 5, 10, 20, 30] : List Int) (by first | omega | (simp; done) | (simp; omega))) ?_
  refine K4 (rv := [.cell 2 122]) rfl ?_
  simp [f.h]
 refine cF f ?_ ?_ <;> intro k2 h2 f
 ·refine cY h2 ?_
  refine kW [(10, 0)] rfl (by simp) ?_
  refine cBs [] (QY (ZF a0 16).1 ([1, 5, 10, 20, 30] : List Int) (by first | omega | (simp; done) | (simp; omega))) ?_
  refine K4 (rv := [.cell 2 122]) rfl ?_
  simp [f.h]
 refine cF f ?_ ?_ <;> intro k3 h3 f
 ·refine kW [(10, 0)] rfl (by simp) ?_
  refine cBs [] (QY (ZF a0 16).1 ([1, 5, 10, 20, 30] : List Int) (by first | omega | (simp; done) | (simp; omega))) ?_
  refine K4 (rv := [.cell 2 122]) rfl ?_
  simp [f.h]
 refine cF f ?_ ?_ <;> intro k4 h4 f
 ·refine cY h4 ?_
  refine cBs [] (YZ (ZF a0 16).1 2) ?_
  refine kW [(19, 0)] rfl (by simp) ?_
  refine cBs [] (QY (ZF (ZF a0 16).1 2).1 ([11, 12, 13] : List Int) (by first | omega | (simp; done) | (simp; omega))) ?_
  refine kW [(22, 0)] rfl (by simp) ?_
  refine cBs [] (QY (Zz (ZF (ZF a0 16).1 2).1 ([11, 12, 13] : List Int)).1 ([30, 10000] : List Int) (by first | omega | (simp; done) | (simp; omega))) ?_
  refine cBs [] (kL (Zz (Zz (ZF (ZF a0 16).1 2).1 ([11, 12, 13] : List Int)).1 ([30, 10000] : List Int)).1) ?_
  refine K4 (rv := [.cell 2 122]) rfl ?_
  simp [f.h]
 refine cF f ?_ ?_ <;> intro k5 h5 f
 ·refine cBs [] (YZ (ZF a0 16).1 2) ?_
  refine kW [(19, 0)] rfl (by simp) ?_
  refine cBs [] (QY (ZF (ZF a0 16).1 2).1 ([11, 12, 13] : List Int) (by first | omega | (simp; done) | (simp; omega))) ?_
  refine kW [(22, 0)] rfl (by simp) ?_
  refine cBs [] (QY (Zz (ZF (ZF a0 16).1 2).1 ([11, 12, 13] : List Int)).1 ([30, 10000] : List Int) (by first | omega | (simp; done) | (simp; omega))) ?_
  refine cBs [] (kL (Zz (Zz (ZF (ZF a0 16).1 2).1 ([11, 12, 13] : List Int)).1 ([30, 10000] : List Int)).1) ?_
  refine K4 (rv := [.cell 2 122]) rfl ?_
  simp [f.h]
 refine cF f ?_ ?_ <;> intro k6 h6 f
 ·refine cY h6 ?_
  refine cBs [] (YZ (ZF a0 16).1 3) ?_
  refine K4 (rv := [.cell 2 122]) rfl ?_
  simp [f.h]
 refine cF f ?_ ?_ <;> intro k7 h7 f
 ·refine cBs [] (YZ (ZF a0 16).1 3) ?_
  refine K4 (rv := [.cell 2 122]) rfl ?_
  simp [f.h]
 refine cF f ?_ ?_ <;> intro k8 h8 f
 ·refine cBs [] (YZ (ZF a0 16).1 3) ?_
  refine K4 (rv := [.cell 2 122]) rfl ?_
  simp [f.h]
 refine cF f ?_ ?_ <;> intro k9 h9 f
 ·refine cBs [] (YZ (ZF a0 16).1 2) ?_
  refine cBs [] (YZ (ZF (ZF a0 16).1 2).1 2) ?_
  refine cBs [] (YZ (ZF (ZF (ZF a0 16).1 2).1 2).1 3) ?_
  refine K4 (rv := [.cell 2 122]) rfl ?_
  simp [f.h]
 refine cF f ?_ ?_ <;> intro pr tc f
 ·refine cBs [] (YZ (ZF a0 16).1 2) ?_
  refine K4 (rv := [.cell 2 122]) rfl ?_
  simp [f.h]
 refine cF f ?_ ?_ <;> intro pK nA f
 ·refine cBs [] (YZ (ZF a0 16).1 2) ?_
  refine kW [(59, 0)] rfl (by simp) ?_
  refine cBs [] (QY (ZF (ZF a0 16).1 2).1 ([11, 12] : List Int) (by first | omega | (simp; done) | (simp; omega))) ?_
  refine cBs [] (kL (Zz (ZF (ZF a0 16).1 2).1 ([11, 12] : List Int)).1) ?_
  refine K4 (rv := [.cell 2 122]) rfl ?_
  simp [f.h]
 refine cF f ?_ ?_ <;> intro gY ni f
 ·refine cBs [] (YZ (ZF a0 16).1 4) ?_
  refine kW [(70, 0)] rfl (by simp) ?_
  refine cBs [] (QY (ZF (ZF a0 16).1 4).1 ([5, 25, 60] : List Int) (by first | omega | (simp; done) | (simp; omega))) ?_
  refine K4 (rv := [.cell 2 122]) rfl ?_
  simp [f.h]
 refine cF f ?_ ?_ <;> intro pS la f
 ·refine cBs [] (YZ (ZF a0 16).1 3) ?_
  refine kW [(79, 0)] rfl (by simp) ?_
  refine cBs [] (QY (ZF (ZF a0 16).1 3).1 ([10, 40, 60] : List Int) (by first | omega | (simp; done) | (simp; omega))) ?_
  refine K4 (rv := [.cell 2 122]) rfl ?_
  simp [f.h]
 refine cBs [] (YZ (ZF a0 16).1 2) ?_
 refine kW [(85, 0)] rfl (by simp) ?_
 refine cBs [] (QY (ZF (ZF a0 16).1 2).1 ([0, (-10), 40] : List Int) (by first | omega | (simp; done) | (simp; omega))) ?_
 refine cBo [] (YZ (Zz (ZF (ZF a0 16).1 2).1 ([0, (-10), 40] : List Int)).1 3) ?_
 simp
 repeat with_reducible refine M1 ?_
 refine K4 (rv := [.cell 2 122]) rfl ?_
 simp [f.h]
theorem jT {a b : Prop} (h : b) (k : a := by (intros; first | omega | with_unfolding_all (first | first | omega | (have z := Xe (Zo (Z3 a0 2).1).1 (W (((Zo (Z3 a0 2).1).2.length : Int) + 1)); have z3 := JK (Z3 a0 2).1; simp only [XT] at *; omega)) | ((try simp only [XT, show ∀ x, IntKind.i64.wrap x = W x from fun _ => rfl] at *); omega))) : a /\ b := ⟨k, h⟩
theorem N4 (a0 : Z1) (a1 : Int) : Ka prog 39 false a0.row [rI a1] (Jm a0 a1).1.row [rL 9 Zn.row (Jm a0 a1).2] := by
 have f := me (Jm.eq_1 a0 a1)
 refine JY func39 rfl (by kernel_rfl) (fun v => ?_)
 simp [ntmps39]
 refine eIs ?_
 refine cBs [] (HR a0 2) ?_
 refine cF f ?_ ?_ <;> intro k1 h1 f
 ·refine cBs [] (Py (Z3 a0 2).1) ?_
  refine cBo [] (YZ (Zo (Z3 a0 2).1).1 (W (((Zo (Z3 a0 2).1).2.length : Int) + 1))) ?_
  simp
  repeat with_reducible refine jT ?_
  refine cBs [] (YZ (ZF (Zo (Z3 a0 2).1).1 (W (((Zo (Z3 a0 2).1).2.length : Int) + 1))).1 a1) ?_
  refine lp5 (JA.eq_2) (fun J U wD wL wg => Yg 32 [(0, .fix v (.one (.bptr 0 0)), [.box [.d (.sl 1 (wD.map bR)), .d (.int .i64 (wL : Int)), .d (.int .i64 wg)]]), (5, .one (.sref 5 0 0 J.length), [.arr false 9 (J.map Zn.row)]), eI 6 U]) (fun n1 J U wD wL wg => U + 1 <= (n1 : Int) /\ 0 <= U /\ (J.length : Int) + U <= 16777300) ((ZF (ZF (Zo (Z3 a0 2).1).1 (W (((Zo (Z3 a0 2).1).2.length : Int) + 1))).1 a1).2.toNat + 2) ((Zo (Z3 a0 2).1).2.take (ZF (Zo (Z3 a0 2).1).1 (W (((Zo (Z3 a0 2).1).2.length : Int) + 1))).2.toNat) (ZF (ZF (Zo (Z3 a0 2).1).1 (W (((Zo (Z3 a0 2).1).2.length : Int) + 1))).1 a1).2 (ZF (ZF (Zo (Z3 a0 2).1).1 (W (((Zo (Z3 a0 2).1).2.length : Int) + 1))).1 a1).1.b (ZF (ZF (Zo (Z3 a0 2).1).1 (W (((Zo (Z3 a0 2).1).2.length : Int) + 1))).1 a1).1.i (ZF (ZF (Zo (Z3 a0 2).1).1 (W (((Zo (Z3 a0 2).1).2.length : Int) + 1))).1 a1).1.h (fun p1 J U wD wL wg e1 j1 => ?_) (hI := by (have z := Xe (ZF (Zo (Z3 a0 2).1).1 (W (((Zo (Z3 a0 2).1).2.length : Int) + 1))).1 a1; have z2 := RJ (ZF (Zo (Z3 a0 2).1).1 (W (((Zo (Z3 a0 2).1).2.length : Int) + 1))).1 a1; (try dsimp only); first | (simp only [List.length_nil]; omega) | (have z3 := JK (Z3 a0 2).1; simp only [List.length_take]; omega))) (h0 := Cv (qq := true) prog false (d := 5) (u := 11) (j := 0) (n := (ZF (Zo (Z3 a0 2).1).1 (W (((Zo (Z3 a0 2).1).2.length : Int) + 1))).2.toNat) (size := 9) (rows := ((Zo (Z3 a0 2).1).2.map Zn.row)) (by simp) (by simp) (by simp; first | omega | (have z := Xe (Zo (Z3 a0 2).1).1 (W (((Zo (Z3 a0 2).1).2.length : Int) + 1)); have z3 := JK (Z3 a0 2).1; simp only [XT] at *; omega)) (by simp) (by simp) (Qx (by simp)))
  try dsimp only at j1
  refine cF e1 ?_ ?_ <;> intro k3 h2 e1
  ·refine cBs [] (Ta (Z1.mk wD wL wg)) ?_
   refine eIs ?_
   refine evI rfl rfl rfl ?_
   simp
   repeat with_reducible refine jT ?_
   exact nx5 e1 (hI := by (have hh := h2; simp at hh; simp only [XT]; (try dsimp only); simp only [List.length_append, List.length_cons, List.length_nil]; omega)) (hw := wkS [((5, 0), some (30, 0))] [])
  have f := ms f e1
  refine K4 (rv := [.tmp 4]) rfl ?_
  simp [f.h]
 refine cBs [] (YZ (Z3 a0 2).1 a1) ?_
 refine lp5 (JF.eq_2) (fun wB wC vd vg tF => Yg 32 [(0, .fix v (.one (.bptr 0 0)), [.box [.d (.sl 1 (vd.map bR)), .d (.int .i64 (vg : Int)), .d (.int .i64 tF)]]), (5, .one (.sref 5 0 0 wB.length), [.arr false 9 (wB.map Zn.row)]), eI 6 wC]) (fun n2 wB wC vd vg tF => wC + 1 <= (n2 : Int) /\ 0 <= wC /\ (wB.length : Int) + wC <= 16777300) ((ZF (Z3 a0 2).1 a1).2.toNat + 2) ([] : List Zn) (ZF (Z3 a0 2).1 a1).2 (ZF (Z3 a0 2).1 a1).1.b (ZF (Z3 a0 2).1 a1).1.i (ZF (Z3 a0 2).1 a1).1.h (fun p2 wB wC vd vg tF e2 j2 => ?_) (hI := by (have z := Xe (Z3 a0 2).1 a1; have z2 := RJ (Z3 a0 2).1 a1; (try dsimp only); first | (simp only [List.length_nil]; omega) | (have z3 := JK (Z3 a0 2).1; simp only [List.length_take]; omega))) (h0 := wkS [((5, 0), some (7, 0))] [])
 try dsimp only at j2
 refine cF e2 ?_ ?_ <;> intro k5 h3 e2
 ·refine cBs [] (Ta (Z1.mk vd vg tF)) ?_
  refine eIs ?_
  refine evI rfl rfl rfl ?_
  simp
  repeat with_reducible refine jT ?_
  exact nx5 e2 (hI := by (have hh := h3; simp at hh; simp only [XT]; (try dsimp only); simp only [List.length_append, List.length_cons, List.length_nil]; omega)) (hw := wkS [((5, 0), some (30, 0))] [])
 have f := ms f e2
 refine K4 (rv := [.tmp 4]) rfl ?_
 simp [f.h]
theorem MR (a0 : Ze) (u0 : Sm 2342912 a0) : Sd 74 [a0.row] [(T8 a0).row] := by
 have f := me (T8.eq_1 a0)
 have c1 := sl 2342912 a0.Z6 u0
 have c2 := sl 2342912 a0.ZM u0
 have c3 := sl 2342912 a0.Methods u0
 refine soD func74 ntmps74 ?_
 exact rtD [.cell 2 28] f
theorem NJ (a0 : Ze) (u0 : Sm 2342912 a0) : Sd 74 [a0.row] [a0.row] := by
  have h := MR a0 u0
  rwa [MX] at h
theorem HL (a0 : ZV) (u0 : Sm 2342912 a0) : Sd 161 [a0.row] [(N5 a0).row] := by
 have f := me (N5.eq_1 a0)
 refine soD func161 ntmps161 ?_
 refine LQ [2, 3, 4, 5, 6, 7, 8, 9, 0, 1, 10, 11] mixed (by kernel_rfl) (by kernel_rfl) (by kernel_rfl) ?_
 have c1 := sl 2342912 a0.Yz u0
 have c2 := sl 2342912 a0.QQ u0
 simp
 refine rpS ?_
 exact rtD [.cell 2 52] f
theorem S0 (a0 : ZV) (u0 : Sm 2342912 a0) : Sd 161 [a0.row] [a0.row] := by
  have h := HL a0 u0
  rwa [Hq] at h
theorem L0 (a0 : ZS) (u0 : Sm 2342912 a0) : Sd 217 [a0.row] [(RP a0).row] := by
 have f := me (RP.eq_1 a0)
 refine soD func217 ntmps217 ?_
 refine LQ [2, 3, 4, 5, 0, 1, 6, 7, 8, 9] mixed (by kernel_rfl) (by kernel_rfl) (by kernel_rfl) ?_
 have c1 := sl 2342912 a0.Z4 u0
 simp
 refine rpS ?_
 exact rtD [.cell 2 109] f
theorem TQ (a0 : ZS) (u0 : Sm 2342912 a0) : Sd 217 [a0.row] [a0.row] := by
  have h := L0 a0 u0
  rwa [L3] at h
theorem Hs (a0 : List ZS) (u0 : Sm 2338816 a0) : Sd 211 [rL 3 ZS.row a0] [rL 3 ZS.row (SD a0)] := by
 have f := me (SD.eq_1 a0)
 refine soD func211 ntmps211 ?_
 refine FK (news := (([] : List ZS).map ZS.row)) (L := []) rfl rfl rfl rfl (by simp) (by simp) (by simp) (by simp) (by simp) (by simp) ?_
 simp
 refine lp2 (VE.eq_2 a0) (fun J U => Yg 21 [eL 0 3 a0 ZS.row, (3, .one (.sref 3 0 0 J.length), [.arr true 3 (J.map ZS.row)]), eI 4 (U : Int)]) (fun n1 J U => a0.length < n1 + U /\ U <= a0.length /\ J.length <= 0 + 1 * U) (a0.length + 1) ([] : List ZS) 0 (fun p1 J U e1 j1 => ?_) (h0 := wkS [((3, 0), some (5, 0))] [])
 refine cFf e1 ?_ ?_ <;> intro k2 h1 e1
 ·have i1 := ix h1
  have m2 := ml a0 (k2 0 _ rfl)
  have c1 := sl 2338816 a0 u0
  have w1 := wr U
  simp [i1, ZC]
  refine rpS ?_
  refine cDs [true, false] (TQ (nth a0 U) (sg (Zu u0))) ?_
  refine Wc ?_
  simp
  refine VV (wH := (J.map ZS.row)) (news := (([(nth a0 U)] : List ZS).map ZS.row)) (l1 := [(3, 0)]) (l2 := [(17, 1)]) (size := 3) ?_
  simp
  exact nx2 e1 (hw := Y5 [((3, 0), some (19, 0))] [] rfl (by simp [w1]))
 have c2 := sl 2338816 a0 u0
 have f := ms f e1
 exact rtD [.tmp 2] f
theorem Lw (a0 : List ZS) (u0 : Sm 2338816 a0) : Sd 211 [rL 3 ZS.row a0] [rL 3 ZS.row a0] := by
  have h := Hs a0 u0
  rwa [GD] at h
theorem Io (a0 : Zi) (u0 : Sm 2342912 a0) : Sd 184 [a0.row] [(PE a0).row] := by
 have f := me (PE.eq_1 a0)
 have c1 := sl 2342912 a0.Path u0
 have c2 := sl 2342912 a0.YR u0
 refine soD func184 ntmps184 ?_
 exact rtD [.cell 2 137] f
theorem TW (a0 : Zi) (u0 : Sm 2342912 a0) : Sd 184 [a0.row] [a0.row] := by
  have h := Io a0 u0
  rwa [IP] at h
theorem IV (a0 : ZZ) (u0 : Sm 2334720 a0) : Sd 162 [a0.row] [(TA a0).row] := by
 have f := me (TA.eq_1 a0)
 refine soD func162 ntmps162 ?_
 refine cDs [] (Lw a0.ZH (sg (ZZ.XZ u0))) ?_
 refine lp2 (kN.eq_2 a0) (fun J U => Yg 28 [eX 1 (a0.row.map .d), (2, .one (.bptr 2 0), [.box [.nil 3, .nil 5]]), (3, .one (.bptr 3 0), [.box [.sref 7 0 0 a0.ZH.length, .sref 3 2 0 U.length], .none, .arr true 5 (U.map Zi.row)]), eI 4 (J : Int), (7, .any, [.arr true 3 (a0.ZH.map ZS.row)])]) (fun n1 J U => a0.ZY.length < n1 + J /\ J <= a0.ZY.length /\ U.length <= 0 + 1 * J) (a0.ZY.length + 1) 0 ([] : List Zi) (fun p1 J U e1 j1 => ?_) (h0 := wkS [((3, 2), none)] [])
 refine cF e1 ?_ ?_ <;> intro k2 h1 e1
 ·have i1 := ix h1
  have m2 := ml a0.ZY (k2 11 _ rfl)
  have c1 := sl 2334720 a0.ZY u0
  have w1 := wr J
  refine drJ [25] mixed ?_
  simp [i1, ZC]
  refine rpS ?_
  refine cDs [true, true, true, false, false] (TW (nth a0.ZY J) (sg (Zu (ZZ.Kl u0)))) ?_
  refine Wc ?_
  simp
  refine VV (wH := (U.map Zi.row)) (news := (([(nth a0.ZY J)] : List Zi).map Zi.row)) (l1 := [(3, 2)]) (l2 := [(23, 3), (23, 4)]) (size := 5) ?_
  simp
  exact nx2 e1 (hw := Y5 [((3, 2), some (25, 0))] [] rfl (by simp [w1]))
 have c2 := sl 2334720 a0.ZY u0
 have f := ms f e1
 exact rtD [.cell 2 58] f
theorem Kn (a0 : ZZ) (u0 : Sm 2334720 a0) : Sd 162 [a0.row] [a0.row] := by
  have h := IV a0 u0
  rwa [Ia] at h
theorem I2 (a0 : Zk) (u0 : Sm 2330624 a0) : Sd 111 [a0.row] [(Ru a0).row] := by
 have f := me (Ru.eq_1 a0)
 refine soD func111 ntmps111 ?_
 refine cDs [true, false, false] (S0 a0.Doc (sg (Zk.kp u0))) ?_
 refine cDs [] (Kn a0.ZL (sg (Zk.X9 u0))) ?_
 exact rtD [.cell 2 60] f
theorem Xr (a0 : Zk) (u0 : Sm 2330624 a0) : Sd 111 [a0.row] [a0.row] := by
  have h := I2 a0 u0
  rwa [It] at h
theorem Iy (a0 : ZJ) (u0 : Sm 2326528 a0) : Sd 75 [a0.row] [(TB a0).row] := by
 have f := me (TB.eq_1 a0)
 refine soD func75 ntmps75 ?_
 refine lp2 (kV.eq_2 a0) (fun J U => Yg 27 [eX 1 (a0.row.map .d), (2, .one (.bptr 2 0), [.box [.d (.int .i64 0), .nil 16]]), (3, .one (.bptr 3 0), [.box [.d (.int .i64 a0.Id), .sref 3 2 0 U.length], .none, .arr true 16 (U.map Zk.row)]), eI 4 (J : Int)]) (fun n1 J U => a0.ZE.length < n1 + J /\ J <= a0.ZE.length /\ U.length <= 0 + 1 * J) (a0.ZE.length + 1) 0 ([] : List Zk) (fun p1 J U e1 j1 => ?_) (h0 := wkS [((3, 2), none)] [])
 refine cF e1 ?_ ?_ <;> intro k2 h1 e1
 ·have i1 := ix h1
  have m2 := ml a0.ZE (k2 10 _ rfl)
  have c1 := sl 2326528 a0.ZE u0
  have w1 := wr J
  refine drJ [24] mixed ?_
  simp [i1, ZC]
  refine rpS ?_
  refine cDs [true, true, true, false, false] (Xr (nth a0.ZE J) (sg (Zu (ZJ.Y4 u0)))) ?_
  refine Wc ?_
  simp
  refine VV (wH := (U.map Zk.row)) (news := (([(nth a0.ZE J)] : List Zk).map Zk.row)) (l1 := [(3, 2)]) (l2 := [(22, 3), (22, 4), (22, 14), (22, 15)]) (size := 16) ?_
  simp
  exact nx2 e1 (hw := Y5 [((3, 2), some (24, 0))] [] rfl (by simp [w1]))
 have c2 := sl 2326528 a0.ZE u0
 have f := ms f e1
 exact rtD [.cell 2 38] f
theorem XN (a0 : ZJ) (u0 : Sm 2326528 a0) : Sd 75 [a0.row] [a0.row] := by
  have h := Iy a0 u0
  rwa [Ip] at h
theorem L2 (a0 : ZN) (u0 : Sm 2322432 a0) : Sd 54 [a0.row] [(U7 a0).row] := by
 have f := me (U7.eq_1 a0)
 refine soD func54 ntmps54 ?_
 refine LQ [0, 1, 2, 3, 4, 5, 6, 7, 8, 9, 10, 11, 12, 13, 14, 15, 16, 17, 18, 21, 22, 23, 24, 19, 20, 25, 26, 27] mixed (by kernel_rfl) (by kernel_rfl) (by kernel_rfl) ?_
 simp
 have c1 := sl 2322432 a0.ZT u0
 have c2 := sl 2322432 a0.YX u0
 have c3 := sl 2322432 a0.QA u0
 have c4 := sl 2322432 a0.XK u0
 have c5 := sl 2322432 a0.XJ u0
 refine cDs [false, false, false] (NJ a0.Frame (sg (ZN.Xj u0))) ?_
 refine lp2 (ke.eq_2 a0) (fun J U => Yg 50 [eX 1 (a0.row.map .d), (2, .one (.bptr 2 0), [.box [.nil 5, .nil 3, .nil 4, .d (.int .i64 0), .d (.int .i64 0), .nil 7, .nil 1, .nil 2, .nil 1, .nil 1, .d (.int .i64 0), .nil 1]]), (3, .one (.bptr 3 0), [.box [.sref 7 0 0 a0.Frame.Z6.length, .sref 7 1 0 a0.Frame.ZM.length, .sref 7 2 0 a0.Frame.Methods.length, .d (.int .i64 a0.Frame.Kk), .d (.int .i64 a0.Frame.Now), .sref 11 0 0 a0.ZT.length, .sref 15 0 0 a0.YX.length, .sref 3 8 0 U.length, .sref 19 0 0 a0.QA.length, .sref 23 0 0 a0.XK.length, .d (.int .i64 a0.Next), .sref 29 0 0 a0.XJ.length], .none, .none, .none, .none, .none, .none, .none, .arr true 2 (U.map ZJ.row)]), eI 4 (J : Int), (7, .any, [.arr false 5 (a0.Frame.Z6.map Yj.row), .arr false 3 (a0.Frame.ZM.map Zg.row), .arr false 4 (a0.Frame.Methods.map YJ.row)]), (11, .any, [.arr false 7 (a0.ZT.map YY.row)]), (15, .any, [.arr false 1 (a0.YX.map iR)]), (19, .any, [.arr false 1 (a0.QA.map iR)]), (23, .any, [.arr false 1 (a0.XK.map iR)]), (29, .any, [.arr false 1 (a0.XJ.map iR)])]) (fun n1 J U => a0.ZB.length < n1 + J /\ J <= a0.ZB.length /\ U.length <= 0 + 1 * J) (a0.ZB.length + 1) 0 ([] : List ZJ) (fun p1 J U e1 j1 => ?_) (h0 := wkS [((3, 8), none)] [])
 refine cF e1 ?_ ?_ <;> intro k3 h1 e1
 ·have i1 := ix h1
  have m2 := ml a0.ZB (k3 33 _ rfl)
  have c6 := sl 2322432 a0.ZB u0
  have w1 := wr J
  refine drJ [47] mixed ?_
  simp [i1, ZC]
  refine rpS ?_
  refine cDs [] (XN (nth a0.ZB J) (sg (Zu (ZN.YQ u0)))) ?_
  refine Wc ?_
  simp
  refine VV (wH := (U.map ZJ.row)) (news := (([(nth a0.ZB J)] : List ZJ).map ZJ.row)) (l1 := [(3, 8)]) (l2 := [(45, 1)]) (size := 2) ?_
  simp
  exact nx2 e1 (hw := Y5 [((3, 8), some (47, 0))] [] rfl (by simp [w1]))
 have c7 := sl 2322432 a0.ZB u0
 have f := ms f e1
 exact rtD [.cell 2 33] f
theorem Xd (a0 : ZN) (u0 : Sm 2322432 a0) : Sd 54 [a0.row] [a0.row] := by
  have h := L2 a0 u0
  rwa [Ir] at h
theorem Mv (a0 : ZN) (a1 : Int) (u0 : Sm 2318336 a0) : Sd 76 [a0.row, rI a1] [(xW a0 a1).1.row, rB (xW a0 a1).2] := by
 have f := me (xW.eq_1 a0 a1)
 refine soD func76 ntmps76 ?_
 refine cDs [false, false, false, true, true, false, false, true, false, false, true, false] (Xd a0 (sg u0)) ?_
 refine cRs (Yc a1 0 100) ?_
 refine cFo f ?_ ?_ <;> intro k1 h1 f
 ·have q1 := h1; try simp [YA] at q1
  simp
  exact rtD [.cell 4 33, .tmp 5] f
 have q1 := h1; try simp [YA] at q1
 simp
 exact rtD [.cell 4 33, .tmp 5] f
theorem yb (a0 : ZN) (a1 : Int) : Sa 114 [a0.row, rI a1] [rB (Xt a0 a1)] := by
 have f := me (Xt.eq_1 a0 a1)
 refine so func114 ntmps114 ?_
 refine cRs (Yc a1 0 (W ((a0.ZB.length : Int) - 1))) ?_
 exact rt [.tmp 4] f
theorem yL (a0 : List YJ) (a1 : Int) : Sa 123 [rL 4 YJ.row a0, rI a1] [rI (Zc a0 a1)] := by
 have f := me (Zc.eq_1 a0 a1)
 refine so func123 ntmps123 ?_
 refine lp2 (yr.eq_2 a0 a1) (fun J U => Yg 54 [eL 0 4 a0 YJ.row, eI 1 a1, eI 5 J, eI 6 (U : Int)]) (fun n1 J U => a0.length < n1 + U /\ U <= a0.length /\ -1 <= J /\ J < (a0.length : Int)) (a0.length + 1) (-1) 0 (fun p1 J U e1 j1 => ?_)
 try dsimp only at j1
 refine cF e1 ?_ ?_ <;> intro k2 h1 e1
 ·have i1 := ix h1
  have m2 := ml a0 (k2 0 _ rfl)
  have w1 := wr U
  refine dIo mixed ?_
  simp [i1, ZC]
  refine rpS ?_
  refine gIf ?_ ?_ <;> intro G
  ·simp [i1, ZC, G]
   refine rpG ?_
   refine gJf G ?_ ?_ <;> intro G
   ·try (simp at G; done)
    all_goals
     simp [i1, ZC, G]
     refine rpG ?_
     refine gK (fun _ => ?_)
     have i2 := ik J.toNat a0
     simp [i2, ZC, G]
     refine rpG ?_
     refine cK e1 ?_ ?_ <;> intro k4 h2 e1
     ·exact ny2 (an w1 G) e1 (hI := by first | omega | (simp at *; omega))
     ·exact ny2 (an w1 G) e1 (hI := by first | omega | (simp at *; omega))
   ·try (simp at G; done)
    all_goals
     refine sGg ?_
     refine cK e1 ?_ ?_ <;> intro k5 h3 e1
     ·exact ny2 (an w1 G) e1 (hI := by first | omega | (simp at *; omega))
     ·exact ny2 (an w1 G) e1 (hI := by first | omega | (simp at *; omega))
  ·refine gJf G ?_ ?_ <;> intro G
   ·try (simp at G; done)
    all_goals
     simp [i1, ZC, G]
     refine rpG ?_
     refine gK (fun _ => ?_)
     have i4 := ik J.toNat a0
     simp [i4, ZC, G]
     refine rpG ?_
     refine cK e1 ?_ ?_ <;> intro k6 h4 e1
     ·simp [G] at h4
     ·simp [G] at h4
   ·try (simp at G; done)
    all_goals
     refine sGg ?_
     refine cK e1 ?_ ?_ <;> intro k7 h5 e1
     ·simp [G] at h5
     ·exact ny2 (an w1 G) e1 (hI := by first | omega | (simp at *; omega))
 have f := ms f e1
 refine cFt f ?_ ?_ <;> intro k8 h6 f
 ·exact rt [.tmp 4] f
 have i6 := ik J.toNat a0
 simp [i6, ZC]
 refine rpS ?_
 exact rt [.tmp 4] f
theorem N3 (a0 : ZN) (a1 : Int) : Sa 163 [a0.row, rI a1] [rI (X8 a0 a1)] := by
 have f := me (X8.eq_1 a0 a1)
 refine so func163 ntmps163 ?_
 refine lp1 (x1.eq_2 a0 a1) (fun J => Yg 22 [eI 1 a1, eX 2 (a0.row.map .d), eI 5 (J : Int)]) (fun n1 J => a0.ZT.length < n1 + J /\ J <= a0.ZT.length) (a0.ZT.length + 1) 0 (fun p1 J e1 j1 => ?_)
 refine cFf e1 ?_ ?_ <;> intro k2 h1 e1
 ·have i1 := ix h1
  have m2 := ml a0.ZT (k2 8 _ rfl)
  have w1 := wr J
  simp [i1, ZC]
  refine rpS ?_
  refine cF e1 ?_ ?_ <;> intro k3 h2 e1
  ·have f := ms f e1
   exact rt [.tmp 4] f
  exact ny1 w1 e1
 have f := ms f e1
 exact rt [.tmp 4] f
theorem JE (a0 : Int) (a1 : List Int) (u0 : Sm 68719476736 a1) : Sa 215 [rI a0, rL 1 iR a1] [rI (Ju a0 a1)] := by
 have f := me (Ju.eq_1 a0 a1)
 have c1 := sl 68719476736 a1 u0
 refine so func215 ntmps215 ?_
 refine cRs (Li (([7, a0] : List Int) ++ a1)) ?_
 exact rt [.tmp 4] f
theorem Pu (a0 : Int) (a1 : ByteArray) (a2 : Int) (u0 : Sm 2326528 a1) : Sa 214 [rI a0, rS a1, rI a2] [rI (W4 a0 a1 a2)] := by
 have f := me (W4.eq_1 a0 a1 a2)
 refine so func214 ntmps214 ?_
 refine lp2 (jO.eq_2 a1) (fun J U => Yg 27 [eI 0 a0, (1, .one (.d (.str a1)), []), (7, .one (.sref 7 0 0 J.length), [.arr false 1 (J.map iR)]), eI 8 (U : Int)]) (fun n1 J U => a1.size < n1 + U /\ U <= a1.size /\ J.length <= 1 + 1 * U) (a1.size + 1) ([a2] : List Int) 0 (fun p1 J U e1 j1 => ?_) (h0 := wkS [((7, 0), some (10, 0))] [])
 refine cFo e1 ?_ ?_ <;> intro k2 h1 e1
 ·have q1 := h1; try simp at q1
  have c1 : a1.size <= 2326528 := Ly (xs u0)
  have w1 := wr U
  simp
  refine rpS ?_
  exact nx2 e1 (hw := Y5 [((7, 0), some (23, 0))] [] rfl (by simp [w1]))
 have q1 := h1; try simp at q1
 have c2 : a1.size <= 2326528 := Ly (xs u0)
 have f := ms f e1
 simp
 refine cRs (JE a0 J (by first | (simp (maxDischargeDepth := 12) [XA]; omega) | (simp (maxDischargeDepth := 12) [ZU (m := 68719476736) (by decide) u0]; done))) ?_
 exact rt [.tmp 6] f
theorem j8 (a0 : Int) (a1 : ZV) (u0 : Sm 2322432 a1) : Sa 165 [rI a0, a1.row] [rI (JB a0 a1)] := by
 have f := me (JB.eq_1 a0 a1)
 refine so func165 ntmps165 ?_
 refine cRs (qX a1) ?_
 refine cF f ?_ ?_ <;> intro k1 h1 f
 ·exact rt [.tmp 4] f
 refine lp2 (WV.eq_2 a0 a1) (fun J U => Yg 38 [eI 0 a0, eX 3 (a1.row.map .d), (5, .one (.sref 5 0 0 J.length), [.arr false 1 (J.map iR)]), eI 6 (U : Int)]) (fun n1 J U => a1.Yz.length < n1 + U /\ U <= a1.Yz.length /\ J.length <= 1 + 1 * U) (a1.Yz.length + 1) ([a1.jj] : List Int) 0 (fun p1 J U e1 j1 => ?_) (h0 := wkS [((5, 0), some (12, 0))] [])
 try dsimp only at j1
 refine cF e1 ?_ ?_ <;> intro k3 h2 e1
 ·have i1 := ix h2
  have m2 := ml a1.Yz (k3 15 _ rfl)
  have c1 := sl 2322432 a1.Yz u0
  have w1 := wr U
  refine dIo mixed ?_
  have i2 : U < a1.QQ.length := by (have := Rc (a := a1); first | (simp_all; done) | (simp_all; omega))
  simp [i1, ZC, i2]
  refine rpS ?_
  refine cRs (Pu a0 (nth a1.Yz U) (nth a1.QQ U) (sg (Zu (ZV.NP u0)))) ?_
  exact nx2 e1 (hw := Y5 [((5, 0), some (34, 0))] [] rfl (by simp [w1]))
 have c2 := sl 2322432 a1.Yz u0
 have f := ms f e1
 refine cRs (JE a0 J (by first | (simp (maxDischargeDepth := 12) [XA]; omega) | (simp (maxDischargeDepth := 12) [ZU (m := 68719476736) (by decide) u0]; done))) ?_
 exact rt [.tmp 4] f
theorem PB (a0 : Zy) : Sa 212 [a0.row] [rB (WS a0)] := by
 have f := me (WS.eq_1 a0)
 refine so func212 ntmps212 ?_
 refine cRs (Yc a0.Key 1 99) ?_
 refine cGs (fun gg => (Yc a0.ZO 1 999)) ?_
 refine cGs (fun gg => (Yc a0.Method 0 99)) ?_
 refine cGs (fun gg => (Yc a0.Org 0 99)) ?_
 refine cGs (fun gg => (Yc a0.ky 1 3)) ?_
 refine cGs (fun gg => (Yc a0.XW 0 1000000000000)) ?_
 refine cGs (fun gg => (Yc a0.WD 0 1000000000000)) ?_
 refine cGs (fun gg => (Yc a0.kG 0 1000000000000)) ?_
 exact rt [.tmp 2] f
theorem jy (a0 : Zy) : Sd 213 [a0.row] [rL 1 iR (QN a0)] := by
 have f := me (QN.eq_1 a0)
 refine soD func213 ntmps213 ?_
 exact rtD [.tmp 2] f
theorem Pt (a0 : List Yj) (a1 : Zy) (u0 : Sm 2322432 a0) : Sa 164 [rL 5 Yj.row a0, a1.row] [(KK a0 a1).1.row, rB (KK a0 a1).2] := by
 have f := me (KK.eq_1 a0 a1)
 refine so func164 ntmps164 ?_
 refine cRs (QG a0 a1.Key) ?_
 refine cRs (PB a1) ?_
 refine cF f ?_ ?_ <;> intro k1 h1 f
 ·exact rt [.cell 4 54, .tmp 5] f
 refine dIo mixed ?_
 have i1 : (YK a0 a1.Key).toNat < a0.length := by have := Xu a0 a1.Key; exact il
 simp [i1, ZC]
 refine rpS ?_
 refine cRs (YN.rd (jy a1)) ?_
 refine cRs (xz (nth a0 (YK a0 a1.Key).toNat) (QN a1) (by simp (maxDischargeDepth := 12) [jR, ZU (m := 2326528) (by decide) u0]; try omega)) ?_
 exact rt [.cell 4 54, .tmp 5] f
theorem Ud (a0 : Zy) : Sd 166 [a0.row] [(yW a0).row] := by
 have f := me (yW.eq_1 a0)
 refine soD func166 ntmps166 ?_
 refine dIs mixed ?_
 refine cDs [false] (jy a0) ?_
 exact rtD [.cell 2 109] f
theorem Nh (a0 : YY) : Sd 167 [a0.row] [(kO a0).row] := by
 have f := me (kO.eq_1 a0)
 refine soD func167 ntmps167 ?_
 refine dIs mixed ?_
 refine cDs [false] (TX a0) ?_
 exact rtD [.cell 2 109] f
theorem VJ (a0 : ZN) (a1 : Int) (a2 : ZV) (a3 : Int) (a4 : Int) (u0 : Sm 2318336 a0) (u1 : Sm 2318336 a2) : So 115 [a0.row, rI a1, a2.row, rI a3, rI a4] [(XI a0 a1 a2 a3 a4).1.row, rB (XI a0 a1 a2 a3 a4).2] := by
 have f := me (XI.eq_1 a0 a1 a2 a3 a4)
 refine so func115 ntmps115 ?_
 refine cRs (yL a0.Frame.Methods a0.Frame.Now) ?_
 refine cRs (N3 a0 a1) ?_
 refine cF f ?_ ?_ <;> intro k1 h1 f
 ·exact rtO [.cell 10 60, .tmp 11] f
 refine dIo mixed ?_
 have i1 : (X8 a0 a1).toNat < a0.ZT.length := by have := O7 a0 a1; exact il
 simp [i1, ZC]
 refine rpS ?_
 refine cRs (j8 (Zc a0.Frame.Methods a0.Frame.Now) a2 (sg u1)) ?_
 refine cRs (Pt a0.Frame.Z6 (Zy.mk a1 (nth a0.ZT (X8 a0 a1).toNat).ZO (Zc a0.Frame.Methods a0.Frame.Now) (JB (Zc a0.Frame.Methods a0.Frame.Now) a2) 1 a3 0 0 0) (sg (Ze.Yo (ZN.Xj u0)))) ?_
 refine dIs mixed ?_
 refine cDs [true, false, false] (S0 a2 (sg u1)) ?_
 refine cRf i1 (YN.rd (Ud (KK a0.Frame.Z6 (Zy.mk a1 (nth a0.ZT (X8 a0 a1).toNat).ZO (Zc a0.Frame.Methods a0.Frame.Now) (JB (Zc a0.Frame.Methods a0.Frame.Now) a2) 1 a3 0 0 0)).1)) ?_
 refine cRs (YN.rd (Nh (nth a0.ZT (X8 a0 a1).toNat))) ?_
 refine eIs ?_
 exact rtO [.cell 10 60, .tmp 11] f
theorem Na (a0 : List Int) (a1 : List Int) : Sa 243 [rL 1 iR a0, rL 1 iR a1] [rB (UM a0 a1)] := by
 have f := me (UM.eq_1 a0 a1)
 refine so func243 ntmps243 ?_
 refine cF f ?_ ?_ <;> intro k1 h1 f
 ·exact rt [.tmp 4] f
 refine lp1 (kz.eq_2 a0 a1) (fun J => Yg 26 [eL 0 1 a0 iR, eL 1 1 a1 iR, eI 5 (J : Int)]) (fun n1 J => a0.length < n1 + J /\ J <= a0.length) (a0.length + 1) 0 (fun p1 J e1 j1 => ?_)
 refine cF e1 ?_ ?_ <;> intro k3 h2 e1
 ·have i1 := ix h2
  have m2 := ml a0 (k3 0 _ rfl)
  have w1 := wr J
  refine dIo mixed ?_
  have i2 := ik J a1
  simp [i1, ZC, i2]
  refine rpS ?_
  refine cF e1 ?_ ?_ <;> intro k5 h3 e1
  ·have f := ms f e1
   exact rt [.tmp 4] f
  exact ny1 w1 e1
 have f := ms f e1
 exact rt [.tmp 4] f
theorem We (a0 : ZS) (a1 : ZS) : Sa 233 [a0.row, a1.row] [rB (xw a0 a1)] := by
 have f := me (xw.eq_1 a0 a1)
 refine so func233 ntmps233 ?_
 refine cGs (fun gg => (Na a0.Z4 a1.Z4)) ?_
 exact rt [.tmp 4] f
theorem NA (a0 : ZZ) (a1 : ZS) : Sa 224 [a0.row, a1.row] [rI (kH a0 a1)] := by
 have f := me (kH.eq_1 a0 a1)
 refine so func224 ntmps224 ?_
 refine lp1 (kr.eq_2 a0 a1) (fun J => Yg 21 [eX 2 (a0.row.map .d), eX 3 (a1.row.map .d), eI 5 (J : Int)]) (fun n1 J => a0.ZH.length < n1 + J /\ J <= a0.ZH.length) (a0.ZH.length + 1) 0 (fun p1 J e1 j1 => ?_)
 refine cF e1 ?_ ?_ <;> intro k2 h1 e1
 ·have i1 := ix h1
  have m2 := ml a0.ZH (k2 8 _ rfl)
  have w1 := wr J
  refine dIo mixed ?_
  simp [i1, ZC]
  refine rpS ?_
  refine cRs (We (nth a0.ZH J) a1) ?_
  refine cF e1 ?_ ?_ <;> intro k4 h2 e1
  ·have f := ms f e1
   exact rt [.tmp 4] f
  exact ny1 w1 e1
 have f := ms f e1
 exact rt [.tmp 4] f
theorem WB (a0 : ZZ) : Sa 185 [a0.row] [rB (yO a0)] := by
 have f := me (yO.eq_1 a0)
 refine so func185 ntmps185 ?_
 refine lp1 (yj.eq_2 a0) (fun J => Yg 69 [eX 1 (a0.row.map .d), eI 3 (J : Int)]) (fun n1 J => a0.ZH.length < n1 + J /\ J <= a0.ZH.length) (a0.ZH.length + 1) 0 (fun p1 J e1 j1 => ?_)
 refine cF e1 ?_ ?_ <;> intro k2 h1 e1
 ·have i1 := ix h1
  have m2 := ml a0.ZH (k2 7 _ rfl)
  have w1 := wr J
  refine dIo mixed ?_
  simp [i1, ZC]
  refine rpS ?_
  refine cRs (NA a0 (nth a0.ZH J)) ?_
  refine cF e1 ?_ ?_ <;> intro k4 h2 e1
  ·have f := ms f e1
   exact rt [.tmp 2] f
  exact ny1 w1 e1
 have f := ms f e1
 refine lp1 (xB.eq_2 a0) (fun wB => Yg 69 [eX 1 (a0.row.map .d), eI 4 (wB : Int)]) (fun n2 wB => a0.ZY.length < n2 + wB /\ wB <= a0.ZY.length) (a0.ZY.length + 1) 0 (fun p2 wB e2 j2 => ?_)
 refine cF e2 ?_ ?_ <;> intro k6 h3 e2
 ·have i2 := ix h3
  have m4 := ml a0.ZY (k6 23 _ rfl)
  have w2 := wr wB
  refine dIo mixed ?_
  simp [i2, ZC]
  refine rpS ?_
  refine cRs (Yc (nth a0.ZY wB).Count 1 (a0.ZH.length : Int)) ?_
  refine gIf ?_ ?_ <;> intro G
  ·have i3 := ik (wB - 1) a0.ZY
   have w3 : IntKind.i64.wrap ((wB : Int) - 1) = (wB : Int) - 1 := YW (by omega) (by omega)
   simp [i3, ZC, w3, Qs, G]
   refine rpG ?_
   refine gK (fun _ => ?_)
   simp [i2, ZC, G]
   refine rpG ?_
   refine cKo e2 ?_ ?_ <;> intro k8 h4 e2
   ·have q4 := h4; try simp [YA] at q4
    have f := ms f e2
    simp [G]
    refine rpG ?_
    exact rtg [.tmp 2] f
   ·have q4 := h4; try simp [YA] at q4
    simp [G]
    refine rpG ?_
    exact ny1 (an w2 (an w3 G)) e2
  ·refine sGg ?_
   refine cKo e2 ?_ ?_ <;> intro k9 h5 e2
   ·have q5 := h5; try simp [YA] at q5
    have f := ms f e2
    simp [G]
    refine rpG ?_
    exact rtg [.tmp 2] f
   ·have q5 := h5; try simp [YA] at q5
    simp [G]
    refine rpG ?_
    exact ny1 (an w2 G) e2
 have f := ms f e2
 refine cRs (Yc (a0.ZH.length : Int) 1 12) ?_
 exact rt [.tmp 2] f
theorem Pd (a0 : Zk) : Sa 216 [a0.row] [rB (SN a0)] := by
 have f := me (SN.eq_1 a0)
 refine so func216 ntmps216 ?_
 refine dIs mixed ?_
 refine cRs (Yc a0.Id 1 999) ?_
 refine cGs (fun gg => (qK a0.Yw)) ?_
 refine cGs (fun gg => (qX a0.Doc)) ?_
 refine cGs (fun gg => (WB a0.ZL)) ?_
 refine gIf ?_ ?_ <;> intro G
 ·have vh := G
  have g1 := G; try simp [YA] at g1
  have i1 : 0 < a0.ZL.ZH.length := by have := O6 (a := a0.ZL); simp_all
  simp [i1, ZC, G]
  refine rpG ?_
  refine cGg (fun gg => YN.rd (Ud a0.Sig)) ?_
  refine cGg (fun gg => (We (nth a0.ZL.ZH 0) (yW a0.Sig))) ?_
  exact rtg [.tmp 2] f
 ·have vh := G
  refine sGo ?_
  simp [G]
  refine rpG ?_
  refine sGo ?_
  simp [G]
  refine rpG ?_
  exact rtg [.tmp 2] f
theorem zT (a0 : ZJ) : Sa 168 [a0.row] [rB (X6 a0)] := by
 have f := me (X6.eq_1 a0)
 refine so func168 ntmps168 ?_
 refine lp1 (WR.eq_2 a0) (fun J => Yg 47 [eX 1 (a0.row.map .d), eI 3 (J : Int)]) (fun n1 J => a0.ZE.length < n1 + J /\ J <= a0.ZE.length) (a0.ZE.length + 1) 0 (fun p1 J e1 j1 => ?_)
 refine cF e1 ?_ ?_ <;> intro k2 h1 e1
 ·have i1 := ix h1
  have m2 := ml a0.ZE (k2 6 _ rfl)
  have w1 := wr J
  refine dIo mixed ?_
  simp [i1, ZC]
  refine rpS ?_
  refine cRs (Pd (nth a0.ZE J)) ?_
  refine gIf ?_ ?_ <;> intro G
  ·have i2 := ik (J - 1) a0.ZE
   have w2 : IntKind.i64.wrap ((J : Int) - 1) = (J : Int) - 1 := YW (by omega) (by omega)
   simp [i2, ZC, w2, Qs, G]
   refine rpG ?_
   refine gK (fun _ => ?_)
   simp [i1, ZC, G]
   refine rpG ?_
   refine cK e1 ?_ ?_ <;> intro k4 h2 e1
   ·have f := ms f e1
    exact rtg [.tmp 2] f
   ·exact ny1 (an w1 (an w2 G)) e1
  ·refine sGg ?_
   refine cK e1 ?_ ?_ <;> intro k5 h3 e1
   ·have f := ms f e1
    exact rtg [.tmp 2] f
   ·exact ny1 (an w1 G) e1
 have f := ms f e1
 refine cRs (Yc a0.Id 0 99) ?_
 exact rt [.tmp 2] f
theorem yC (a0 : ZJ) (a1 : Int) : Sa 169 [a0.row, rI a1] [rI (YU a0 a1)] := by
 have f := me (YU.eq_1 a0 a1)
 refine so func169 ntmps169 ?_
 refine lp1 (qw.eq_2 a0 a1) (fun J => Yg 22 [eI 1 a1, eX 2 (a0.row.map .d), eI 5 (J : Int)]) (fun n1 J => a0.ZE.length < n1 + J /\ J <= a0.ZE.length) (a0.ZE.length + 1) 0 (fun p1 J e1 j1 => ?_)
 refine cFf e1 ?_ ?_ <;> intro k2 h1 e1
 ·have i1 := ix h1
  have m2 := ml a0.ZE (k2 8 _ rfl)
  have w1 := wr J
  simp [i1, ZC]
  refine rpS ?_
  refine cF e1 ?_ ?_ <;> intro k3 h2 e1
  ·have f := ms f e1
   exact rt [.tmp 4] f
  exact ny1 w1 e1
 have f := ms f e1
 exact rt [.tmp 4] f
theorem jC (a0 : ZJ) (a1 : Zk) (u0 : Sm 2318336 a0) (u1 : Sm 2318336 a1) : Sd 116 [a0.row, a1.row] [(XY a0 a1).1.row, rB (XY a0 a1).2] := by
 have f := me (XY.eq_1 a0 a1)
 refine soD func116 ntmps116 ?_
 refine cRs (zT a0) ?_
 refine cGs (fun gg => (yC a0 a1.Id)) ?_
 refine cF f ?_ ?_ <;> intro k1 h1 f
 ·refine cDs [] (XN a0 (sg u0)) ?_
  exact rtD [.cell 4 38, .tmp 5] f
 refine lp3 (Jk.eq_2 a0 a1) (fun J U wD => Yg 77 [eX 2 (a0.row.map .d), eX 3 (a1.row.map .d), (4, .one (.bptr 4 0), [.box [.d (.int .i64 0), .nil 16]]), (6, .one (.bptr 6 0), [.box [.d (.int .i64 a0.Id), .sref 6 2 0 wD.length], .none, .arr true 16 (wD.map Zk.row)]), eB 7 J, eI 8 (U : Int)]) (fun n1 J U wD => a0.ZE.length < n1 + U /\ U <= a0.ZE.length /\ wD.length <= 0 + 2 * U) (a0.ZE.length + 1) false 0 ([] : List Zk) (fun p1 J U wD e1 j1 => ?_) (h0 := wkS [((6, 2), none)] [])
 refine cF e1 ?_ ?_ <;> intro k3 h2 e1
 ·have i1 := ix h2
  have m2 := ml a0.ZE (k3 26 _ rfl)
  have c1 := sl 2318336 a0.ZE (an u0 u1)
  have w1 := wr U
  refine dIs mixed ?_
  refine gIf ?_ ?_ <;> intro G
  ·simp [i1, ZC, G]
   refine rpG ?_
   refine cK e1 ?_ ?_ <;> intro k5 h3 e1
   ·try (simp [G] at h3; done)
    all_goals
     refine drJ [49] mixed ?_
     simp
     refine cDg [true, true, true, false, false] (Xr a1 (sg u1)) ?_
     refine Wc ?_
     simp [G]
     refine rpG ?_
     refine VV (wH := (wD.map Zk.row)) (news := (([a1] : List Zk).map Zk.row)) (l1 := [(6, 2)]) (l2 := [(47, 3), (47, 4), (47, 14), (47, 15)]) (size := 16) ?_
     simp [G]
     refine rpG ?_
     refine drJ [60] mixed ?_
     simp [i1, ZC, G]
     refine rpG ?_
     refine cDg [true, true, true, false, false] (Xr (nth a0.ZE U) (sg (Zu (ZJ.Y4 u0)))) ?_
     refine Wc ?_
     simp [G]
     refine rpG ?_
     refine VV (wH := ((wD ++ ([a1] : List Zk)).map Zk.row)) (news := (([(nth a0.ZE U)] : List Zk).map Zk.row)) (l1 := [(49, 0)]) (l2 := [(58, 3), (58, 4), (58, 14), (58, 15)]) (size := 16) ?_
     simp [G]
     refine rpG ?_
     exact nx3 e1 (hw := Y5 [((6, 2), some (60, 0))] [] rfl (by simp [w1, G]))
   ·try (simp [G] at h3; done)
    all_goals
     refine drJ [60] mixed ?_
     simp [i1, ZC, G]
     refine rpG ?_
     refine cDg [true, true, true, false, false] (Xr (nth a0.ZE U) (sg (Zu (ZJ.Y4 u0)))) ?_
     refine Wc ?_
     simp [G]
     refine rpG ?_
     refine VV (wH := (wD.map Zk.row)) (news := (([(nth a0.ZE U)] : List Zk).map Zk.row)) (l1 := [(6, 2)]) (l2 := [(58, 3), (58, 4), (58, 14), (58, 15)]) (size := 16) ?_
     simp [G]
     refine rpG ?_
     exact nx3 e1 (hw := Y5 [((6, 2), some (60, 0))] [] rfl (by simp [w1, G]))
  ·refine cK e1 ?_ ?_ <;> intro k9 h4 e1
   ·try (simp [G] at h4; done)
    all_goals
     refine drJ [49] mixed ?_
     simp
     refine cDg [true, true, true, false, false] (Xr a1 (sg u1)) ?_
     refine Wc ?_
     simp [G]
     refine rpG ?_
     refine VV (wH := (wD.map Zk.row)) (news := (([a1] : List Zk).map Zk.row)) (l1 := [(6, 2)]) (l2 := [(47, 3), (47, 4), (47, 14), (47, 15)]) (size := 16) ?_
     simp [G]
     refine rpG ?_
     refine drJ [60] mixed ?_
     simp [i1, ZC, G]
     refine rpG ?_
     refine cDg [true, true, true, false, false] (Xr (nth a0.ZE U) (sg (Zu (ZJ.Y4 u0)))) ?_
     refine Wc ?_
     simp [G]
     refine rpG ?_
     refine VV (wH := ((wD ++ ([a1] : List Zk)).map Zk.row)) (news := (([(nth a0.ZE U)] : List Zk).map Zk.row)) (l1 := [(49, 0)]) (l2 := [(58, 3), (58, 4), (58, 14), (58, 15)]) (size := 16) ?_
     simp [G]
     refine rpG ?_
     exact nx3 e1 (hw := Y5 [((6, 2), some (60, 0))] [] rfl (by simp [w1, G]))
   ·try (simp [G] at h4; done)
    all_goals
     refine drJ [60] mixed ?_
     simp [i1, ZC, G]
     refine rpG ?_
     refine cDg [true, true, true, false, false] (Xr (nth a0.ZE U) (sg (Zu (ZJ.Y4 u0)))) ?_
     refine Wc ?_
     simp [G]
     refine rpG ?_
     refine VV (wH := (wD.map Zk.row)) (news := (([(nth a0.ZE U)] : List Zk).map Zk.row)) (l1 := [(6, 2)]) (l2 := [(58, 3), (58, 4), (58, 14), (58, 15)]) (size := 16) ?_
     simp [G]
     refine rpG ?_
     exact nx3 e1 (hw := Y5 [((6, 2), some (60, 0))] [] rfl (by simp [w1, G]))
 have c2 := sl 2318336 a0.ZE (an u0 u1)
 have f := ms f e1
 refine cF f ?_ ?_ <;> intro pS h5 f
 ·refine okD fun lZ => ?_
  refine drJ [69] mixed ?_
  simp
  refine cDs [true, true, true, false, false] (Xr a1 (sg u1)) ?_
  refine Wc ?_
  simp
  refine VV (wH := (wD.map Zk.row)) (news := (([a1] : List Zk).map Zk.row)) (l1 := [(6, 2)]) (l2 := [(67, 3), (67, 4), (67, 14), (67, 15)]) (size := 16) ?_
  simp
  refine cRs (zT (ZJ.mk a0.Id (wD ++ ([a1] : List Zk)))) ?_
  refine cF f ?_ ?_ <;> intro mr h6 f
  ·refine cDs [] (XN a0 (sg u0)) ?_
   exact rtD [.cell 4 38, .tmp 5] f
  exact rtD [.cell 4 38, .tmp 5] f
 refine cRs (zT (ZJ.mk a0.Id wD)) ?_
 refine cF f ?_ ?_ <;> intro im h7 f
 ·refine cDs [] (XN a0 (sg u0)) ?_
  exact rtD [.cell 4 38, .tmp 5] f
 exact rtD [.cell 4 38, .tmp 5] f
theorem Mk (a0 : ZN) (a1 : Int) (a2 : Int) (a3 : ZV) (a4 : Int) (a5 : Int) (u0 : Sm 2314240 a0) (u1 : Sm 2314240 a3) : Sd 77 [a0.row, rI a1, rI a2, a3.row, rI a4, rI a5] [(xS a0 a1 a2 a3 a4 a5).1.row, rB (xS a0 a1 a2 a3 a4 a5).2] := by
 have f := me (xS.eq_1 a0 a1 a2 a3 a4 a5)
 refine soD func77 ntmps77 ?_
 refine cDs [false, false, false, true, true, false, false, true, false, false, true, false] (Xd a0 (sg u0)) ?_
 refine cRs (QG a0.Frame.Z6 a2) ?_
 refine dIs mixed ?_
 refine cRs (yb a0 a1) ?_
 refine gIf ?_ ?_ <;> intro G
 ·have c1 := sl 2314240 a0.ZB (an u0 u1)
  have w1 : IntKind.i64.wrap ((a0.ZB.length : Int) - 1) = (a0.ZB.length : Int) - 1 := YW (by omega) (by omega)
  have g1 := G; try simp [w1, Xt, YA] at g1
  have i1 : (YK a0.Frame.Z6 a2).toNat < a0.Frame.Z6.length := by have := Xu a0.Frame.Z6 a2; exact il
  simp [i1, ZC, G]
  refine rpG ?_
  refine cKo f ?_ ?_ <;> intro k2 h1 f
  ·try (simp [G] at h1; done)
   all_goals
    have q1 := h1; try simp [w1, Xt, YA] at q1
    simp [G]
    refine rpG ?_
    exact Jf [.cell 12 33, .tmp 13] f
  ·try (simp [G] at h1; done)
   all_goals
    have q1 := h1; try simp [w1, Xt, YA] at q1
    simp [G]
    refine rpG ?_
    refine cRg (VJ a0 a2 a3 a4 a5 (sg u0) (sg u1)) ?_
    refine cK f ?_ ?_ <;> intro k3 h2 f
    ·try (simp [G] at h2; done)
     all_goals
      exact Jf [.cell 12 33, .tmp 13] f
    ·try (simp [G] at h2; done)
     all_goals
      refine dIo mixed ?_
      have i2 := ik a1.toNat a0.ZB
      simp [i2, ZC, G]
      refine rpG ?_
      refine cDg [] (jC (nth a0.ZB a1.toNat) (XI a0 a2 a3 a4 a5).1 (by first | (exact ZU (n := 2314240) (by decide) (xs (an u0 u1))) | (exact ZU (n := 2314240) (by decide) (Jh (xs (an u0 u1)) (by decide)))) (by first | (exact ZU (n := 2314240) (by decide) (xs (an u0 u1))) | (exact ZU (n := 2314240) (by decide) (Jh (xs (an u0 u1)) (by decide))))) ?_
      refine cKt f ?_ ?_ <;> intro k5 h3 f
      ·try (simp [G] at h3; done)
       all_goals
        exact Jf [.cell 12 33, .tmp 13] f
      ·try (simp [G] at h3; done)
       all_goals
        simp [i2, ZC, G]
        refine rpG ?_
        refine V3 (t := 21) (j := 7) (i := a1.toNat) (size := 2) (rows := (a0.ZB.map ZJ.row)) (ds := (XY (nth a0.ZB a1.toNat) (XI a0 a2 a3 a4 a5).1).1.row) (L := [(68, 1)]) ?_
        simp [Xv (x := (XY (nth a0.ZB a1.toNat) (XI a0 a2 a3 a4 a5).1).1) rfl, c1, i2, ZC, YS, G]
        refine rpG ?_
        exact Jf [.cell 12 33, .tmp 13] f
 ·have c2 := sl 2314240 a0.ZB (an u0 u1)
  have w2 : IntKind.i64.wrap ((a0.ZB.length : Int) - 1) = (a0.ZB.length : Int) - 1 := YW (by omega) (by omega)
  refine cKo f ?_ ?_ <;> intro k6 h4 f
  ·try (simp [G] at h4; done)
   all_goals
    have q4 := h4; try simp [w2, Xt, YA] at q4
    simp [G]
    refine rpG ?_
    exact Jf [.cell 12 33, .tmp 13] f
  ·try (simp [G] at h4; done)
   all_goals
    have q4 := h4; try simp [w2, Xt, YA] at q4
    simp [G]
    refine rpG ?_
    refine cRg (VJ a0 a2 a3 a4 a5 (sg u0) (sg u1)) ?_
    refine cK f ?_ ?_ <;> intro k7 h5 f
    ·try (simp [G] at h5; done)
     all_goals
      exact Jf [.cell 12 33, .tmp 13] f
    ·try (simp [G] at h5; done)
     all_goals
      refine dIo mixed ?_
      have i4 := ik a1.toNat a0.ZB
      simp [i4, ZC, G]
      refine rpG ?_
      refine cDg [] (jC (nth a0.ZB a1.toNat) (XI a0 a2 a3 a4 a5).1 (by first | (exact ZU (n := 2314240) (by decide) (xs (an u0 u1))) | (exact ZU (n := 2314240) (by decide) (Jh (xs (an u0 u1)) (by decide)))) (by first | (exact ZU (n := 2314240) (by decide) (xs (an u0 u1))) | (exact ZU (n := 2314240) (by decide) (Jh (xs (an u0 u1)) (by decide))))) ?_
      refine cKt f ?_ ?_ <;> intro k9 h6 f
      ·try (simp [G] at h6; done)
       all_goals
        exact Jf [.cell 12 33, .tmp 13] f
      ·try (simp [G] at h6; done)
       all_goals
        simp [i4, ZC, G]
        refine rpG ?_
        refine V3 (t := 21) (j := 7) (i := a1.toNat) (size := 2) (rows := (a0.ZB.map ZJ.row)) (ds := (XY (nth a0.ZB a1.toNat) (XI a0 a2 a3 a4 a5).1).1.row) (L := [(68, 1)]) ?_
        simp [Xv (x := (XY (nth a0.ZB a1.toNat) (XI a0 a2 a3 a4 a5).1).1) rfl, c2, i4, ZC, YS, G]
        refine rpG ?_
        exact Jf [.cell 12 33, .tmp 13] f
theorem UZ (a0 : ZN) (a1 : Int) : Sa 117 [a0.row, rI a1] [rI (ZA a0 a1).1, rI (ZA a0 a1).2] := by
 have f := me (ZA.eq_1 a0 a1)
 refine so func117 ntmps117 ?_
 refine lp1 (xV.eq_2 a0 a1) (fun J => Yg 26 [eI 1 a1, eX 2 (a0.row.map .d), eI 6 (J : Int)]) (fun n1 J => a0.ZB.length < n1 + J /\ J <= a0.ZB.length) (a0.ZB.length + 1) 0 (fun p1 J e1 j1 => ?_)
 refine cFf e1 ?_ ?_ <;> intro k2 h1 e1
 ·have i1 := ix h1
  have m2 := ml a0.ZB (k2 10 _ rfl)
  have w1 := wr J
  simp [i1, ZC]
  refine rpS ?_
  refine cRs (yC (nth a0.ZB J) a1) ?_
  refine cF e1 ?_ ?_ <;> intro k3 h2 e1
  ·have f := ms f e1
   exact rt [.tmp 4, .tmp 5] f
  exact ny1 w1 e1
 have f := ms f e1
 exact rt [.tmp 4, .tmp 5] f
theorem RZ (a0 : ZS) : Sa 170 [a0.row] [rI (QC a0)] := by
 have f := me (QC.eq_1 a0)
 refine so func170 ntmps170 ?_
 refine gIf ?_ ?_ <;> intro G
 ·have i1 := ik 0 a0.Z4
  simp [i1, ZC, G]
  refine rpG ?_
  refine cGg (fun gg => (Yc (nth a0.Z4 0) 101 105)) ?_
  refine cKo f ?_ ?_ <;> intro k1 h1 f
  ·have q1 := h1; try simp [YA] at q1
   simp [G]
   refine rpG ?_
   exact rtg [.tmp 2] f
  ·have q1 := h1; try simp [YA] at q1
   simp [G]
   refine rpG ?_
   refine dIo mixed ?_
   have i2 := ik (W ((nth a0.Z4 0) - 101)).toNat ([7, 5, 5, 9, 6] : List Int)
   have r1 := ZC (f := iR) i2; try simp at r1
   simp [i1, ZC, i2, r1, G]
   refine rpG ?_
   refine cKt f ?_ ?_ <;> intro k3 h2 f
   ·exact rtg [.tmp 2] f
   ·simp [i1, ZC, G]
    refine rpG ?_
    exact rtg [.tmp 2] f
 ·refine sGo ?_
  simp [G]
  refine rpG ?_
  refine cKo f ?_ ?_ <;> intro k4 h3 f
  ·have q3 := h3; try simp [YA] at q3
   simp [G]
   refine rpG ?_
   exact rtg [.tmp 2] f
  ·simp [G] at h3
theorem xH (a0 : ZS) : Sa 118 [a0.row] [(ZD a0).1.row, rB (ZD a0).2] := by
 have f := me (ZD.eq_1 a0)
 refine so func118 ntmps118 ?_
 refine dIs mixed ?_
 refine cRs (RZ a0) ?_
 refine gIf ?_ ?_ <;> intro G
 ·have vh := G
  have g1 := G; try simp at g1
  have i1 : 6 < a0.Z4.length := by (have z := Yv a0; simp_all; done)
  simp [i1, ZC, G]
  refine rpG ?_
  refine cK f ?_ ?_ <;> intro k2 h1 f
  ·try (simp [G] at h1; done)
   all_goals
    exact rtg [.cell 2 46, .tmp 3] f
  ·try (simp [G] at h1; done)
   all_goals
    refine dIo mixed ?_
    have i2 : 1 < a0.Z4.length := by (have z := Yv a0; simp_all; done)
    have i3 : 2 < a0.Z4.length := by (have z := Yv a0; simp_all; done)
    have i4 : 3 < a0.Z4.length := by (have z := Yv a0; simp_all; done)
    have i5 : 4 < a0.Z4.length := by (have z := Yv a0; simp_all; done)
    have i6 : 5 < a0.Z4.length := by (have z := Yv a0; simp_all; done)
    simp [i2, ZC, i3, i4, i5, i6, i1, G]
    refine rpG ?_
    exact rtg [.cell 2 46, .tmp 3] f
 ·have vh := G
  refine cK f ?_ ?_ <;> intro k4 h2 f
  ·try (simp [G] at h2; done)
   all_goals
    exact rtg [.cell 2 46, .tmp 3] f
  ·try (simp [G] at h2; done)
   all_goals
    refine dIo mixed ?_
    have i8 : 1 < a0.Z4.length := by (have z := Yv a0; simp_all; done)
    have i9 : 2 < a0.Z4.length := by (have z := Yv a0; simp_all; done)
    have i10 : 3 < a0.Z4.length := by (have z := Yv a0; simp_all; done)
    have i11 : 4 < a0.Z4.length := by (have z := Yv a0; simp_all; done)
    have i12 : 5 < a0.Z4.length := by (have z := Yv a0; simp_all; done)
    have i13 : 6 < a0.Z4.length := by (have z := Yv a0; simp_all; done)
    simp [i8, ZC, i9, i10, i11, i12, i13, G]
    refine rpG ?_
    exact rtg [.cell 2 46, .tmp 3] f
theorem xv (a0 : List YY) (a1 : Int) : Sa 119 [rL 7 YY.row a0, rI a1] [rI (ZQ a0 a1)] := by
 have f := me (ZQ.eq_1 a0 a1)
 refine so func119 ntmps119 ?_
 refine lp1 (qx.eq_2 a0 a1) (fun J => Yg 20 [eL 0 7 a0 YY.row, eI 1 a1, eI 5 (J : Int)]) (fun n1 J => a0.length < n1 + J /\ J <= a0.length) (a0.length + 1) 0 (fun p1 J e1 j1 => ?_)
 refine cFf e1 ?_ ?_ <;> intro k2 h1 e1
 ·have i1 := ix h1
  have m2 := ml a0 (k2 0 _ rfl)
  have w1 := wr J
  simp [i1, ZC]
  refine rpS ?_
  refine cF e1 ?_ ?_ <;> intro k3 h2 e1
  ·have f := ms f e1
   exact rt [.tmp 4] f
  exact ny1 w1 e1
 have f := ms f e1
 exact rt [.tmp 4] f
theorem MO (a0 : Zh) : Sa 171 [a0.row] [rB (VD a0)] := by
 have f := me (VD.eq_1 a0)
 refine so func171 ntmps171 ?_
 refine cRs (Yc a0.ZO 1 999) ?_
 refine cGs (fun gg => (qK a0.Mz)) ?_
 refine cGs (fun gg => (Yc a0.YX (-1) (W (a0.Mz + 1)))) ?_
 refine cGs (fun gg => (Yc a0.Zq 1 99)) ?_
 exact rt [.tmp 2] f
theorem Vr (a0 : Zh) : Sd 172 [a0.row] [rL 1 iR (Jg a0)] := by
 have f := me (Jg.eq_1 a0)
 refine soD func172 ntmps172 ?_
 exact rtD [.tmp 2] f
theorem QM (a0 : List Yj) (a1 : Zh) (u0 : Sm 2322432 a0) : Sa 120 [rL 5 Yj.row a0, a1.row] [(Zf a0 a1).1.row, rB (Zf a0 a1).2] := by
 have f := me (Zf.eq_1 a0 a1)
 refine so func120 ntmps120 ?_
 refine cRs (QG a0 a1.Zq) ?_
 refine cRs (MO a1) ?_
 refine cF f ?_ ?_ <;> intro k1 h1 f
 ·exact rt [.cell 4 186, .tmp 5] f
 refine dIo mixed ?_
 have i1 : (YK a0 a1.Zq).toNat < a0.length := by have := Xu a0 a1.Zq; exact il
 simp [i1, ZC]
 refine rpS ?_
 refine cRs (YN.rd (Vr a1)) ?_
 refine cRs (xz (nth a0 (YK a0 a1.Zq).toNat) (Jg a1) (by simp (maxDischargeDepth := 12) [Vp, ZU (m := 2326528) (by decide) u0]; try omega)) ?_
 exact rt [.cell 4 186, .tmp 5] f
theorem Y6 (a0 : Zh) : Sd 122 [a0.row] [(Zm a0).row] := by
 have f := me (Zm.eq_1 a0)
 refine soD func122 ntmps122 ?_
 refine dIs mixed ?_
 refine cDs [false] (Vr a0) ?_
 exact rtD [.cell 2 109] f
theorem M5 (a0 : ZZ) (a1 : ZS) (u0 : Sm 2326528 a0) (u1 : Sm 2326528 a1) : Sd 173 [a0.row, a1.row] [(KL a0 a1).1.row, rB (KL a0 a1).2] := by
 have f := me (KL.eq_1 a0 a1)
 refine soD func173 ntmps173 ?_
 refine cDs [] (Kn a0 (sg u0)) ?_
 refine drJ [14] mixed ?_
 simp
 refine cDs [true, false] (TQ a1 (sg u1)) ?_
 refine Wc ?_
 have c1 := sl 2326528 a0.ZH (an u0 u1)
 simp
 refine VV (wH := (a0.ZH.map ZS.row)) (news := (([a1] : List ZS).map ZS.row)) (l1 := [(8, 0)]) (l2 := [(12, 1)]) (size := 3) ?_
 simp
 refine cRs (WB (ZZ.mk (a0.ZH ++ ([a1] : List ZS)) a0.ZY)) ?_
 refine cF f ?_ ?_ <;> intro k2 h1 f
 ·refine cDs [] (Kn a0 (sg u0)) ?_
  exact rtD [.cell 4 58, .tmp 5] f
 exact rtD [.cell 4 58, .tmp 5] f
theorem XL (a0 : ZJ) (a1 : Int) (a2 : ZS) (u0 : Sm 2322432 a0) (u1 : Sm 2322432 a2) : Sd 121 [a0.row, rI a1, a2.row] [(YD a0 a1 a2).1.row, rB (YD a0 a1 a2).2] := by
 have f := me (YD.eq_1 a0 a1 a2)
 refine soD func121 ntmps121 ?_
 refine cDs [] (XN a0 (sg u0)) ?_
 refine cRs (yC a0 a1) ?_
 refine cF f ?_ ?_ <;> intro k1 h1 f
 ·exact rtD [.cell 6 38, .tmp 7] f
 refine dIo mixed ?_
 have i1 : (YU a0 a1).toNat < a0.ZE.length := by have := WU a0 a1; exact il
 simp [i1, ZC]
 refine rpS ?_
 refine cDf i1 [] (M5 (nth a0.ZE (YU a0 a1).toNat).ZL a2 (sg (Zk.X9 (Zu (ZJ.Y4 u0)))) (sg u1)) ?_
 refine Ck (t := 13) (j := 1) (i := (YU a0 a1).toNat) (c := 14) (size := 16) (rows := (a0.ZE.map Zk.row)) (ds := (KL (nth a0.ZE (YU a0 a1).toNat).ZL a2).1.row) (L := [(28, 0), (28, 1)]) rfl rfl rfl rfl (by simp) (by simp) (by simp; try omega) (by simp) (by simp) (by simp) (by simp) (by simp) (by simp) ?_
 simp [Xv (x := (Zk.mk (nth a0.ZE (YU a0 a1).toNat).Id (nth a0.ZE (YU a0 a1).toNat).Yw (nth a0.ZE (YU a0 a1).toNat).Doc (nth a0.ZE (YU a0 a1).toNat).Sig (KL (nth a0.ZE (YU a0 a1).toNat).ZL a2).1)) rfl, i1, ZC, YS]
 refine rpS ?_
 exact rtD [.cell 6 38, .tmp 7] f
theorem ZK {a b : Prop} (h : b) (k : a := by (intros; first | omega | with_unfolding_all (first | first | omega | (have fi := Z8 a0 a1 (by first | omega | (simp at *; omega)); omega) | (simp only [Bool.or_eq_false_iff, decide_eq_false_iff_not] at *; omega) | (have z := ZI G; (try simp only [] at z); omega) | (have z := ZI G.1; (try simp only [] at z); omega) | (have z := ZI G.2; (try simp only [] at z); omega) | (have z := ZI G.2.1; (try simp only [] at z); omega) | (have z := ZI G.2.2; (try simp only [] at z); omega) | (have z := ZI G.1.2; (try simp only [] at z); omega) | (have z := ZI G.2.2.2; (try simp only [] at z); omega) ) | (simp_all; done) | (simp_all; omega) | grind | ((try simp only [XT, show ∀ x, IntKind.i64.wrap x = W x from fun _ => rfl] at *); omega))) : a /\ b := ⟨k, h⟩
theorem Pq (a0 : ZN) (a1 : Int) (u0 : Sm 2318336 a0) : Sd 78 [a0.row, rI a1] [(zc a0 a1).1.row, rB (zc a0 a1).2] := by
 have f := me (zc.eq_1 a0 a1)
 refine soD func78 ntmps78 ?_
 refine cDs [false, false, false, true, true, false, false, true, false, false, true, false] (Xd a0 (sg u0)) ?_
 refine cRs (UZ a0 a1) ?_
 refine gIo ?_ ?_ <;> intro G
 ·have vh := G
  have g1 := G; try simp at g1
  have i1 : (ZA a0 a1).1.toNat < a0.ZB.length := by first | omega | (have fi := Z8 a0 a1 (by first | omega | (simp at *; omega)); omega) | (simp only [Bool.or_eq_false_iff, decide_eq_false_iff_not] at *; omega) | (have z := ZI G; (try simp only [] at z); omega) | (have z := ZI G.1; (try simp only [] at z); omega) | (have z := ZI G.2; (try simp only [] at z); omega) | (have z := ZI G.2.1; (try simp only [] at z); omega) | (have z := ZI G.2.2; (try simp only [] at z); omega) | (have z := ZI G.1.2; (try simp only [] at z); omega) | (have z := ZI G.2.2.2; (try simp only [] at z); omega) 
  simp [i1, ZC, G]
  repeat with_reducible refine ZK ?_
  refine gK (fun _ => ?_)
  have i2 : (ZA a0 a1).2.toNat < (nth a0.ZB (ZA a0 a1).1.toNat).ZE.length := by first | omega | (have fi := Z8 a0 a1 (by first | omega | (simp at *; omega)); omega) | (simp only [Bool.or_eq_false_iff, decide_eq_false_iff_not] at *; omega) | (have z := ZI G; (try simp only [] at z); omega) | (have z := ZI G.1; (try simp only [] at z); omega) | (have z := ZI G.2; (try simp only [] at z); omega) | (have z := ZI G.2.1; (try simp only [] at z); omega) | (have z := ZI G.2.2; (try simp only [] at z); omega) | (have z := ZI G.1.2; (try simp only [] at z); omega) | (have z := ZI G.2.2.2; (try simp only [] at z); omega) 
  simp [i2, ZC, G]
  repeat with_reducible refine ZK ?_
  refine cKo f ?_ ?_ <;> intro k1 h1 f
  ·try (simp [G] at h1; done)
   all_goals
    simp [G]
    repeat with_reducible refine ZK ?_
    exact Jf [.cell 4 33, .tmp 5] f
  ·try (simp [G] at h1; done)
   all_goals
    have i3 : 1 < (nth (nth a0.ZB (ZA a0 a1).1.toNat).ZE (ZA a0 a1).2.toNat).ZL.ZH.length := by first | omega | (have fi := Z8 a0 a1 (by first | omega | (simp at *; omega)); omega) | (simp only [Bool.or_eq_false_iff, decide_eq_false_iff_not] at *; omega) | (have z := ZI G; (try simp only [] at z); omega) | (have z := ZI G.1; (try simp only [] at z); omega) | (have z := ZI G.2; (try simp only [] at z); omega) | (have z := ZI G.2.1; (try simp only [] at z); omega) | (have z := ZI G.2.2; (try simp only [] at z); omega) | (have z := ZI G.1.2; (try simp only [] at z); omega) | (have z := ZI G.2.2.2; (try simp only [] at z); omega) 
    simp [i1, ZC, i2, i3, G]
    repeat with_reducible refine ZK ?_
    refine cR (xH (nth (nth (nth a0.ZB (ZA a0 a1).1.toNat).ZE (ZA a0 a1).2.toNat).ZL.ZH 1)) ?_
    simp [G]
    repeat with_reducible refine ZK ?_
    refine cR (xv a0.ZT (ZD (nth (nth (nth a0.ZB (ZA a0 a1).1.toNat).ZE (ZA a0 a1).2.toNat).ZL.ZH 1)).1.ZO) ?_
    simp [G]
    repeat with_reducible refine ZK ?_
    refine cKo f ?_ ?_ <;> intro k2 h2 f
    ·try (simp [G] at h2; done)
     all_goals
      simp [G]
      repeat with_reducible refine ZK ?_
      exact Jf [.cell 4 33, .tmp 5] f
    ·try (simp [G] at h2; done)
     all_goals
      simp [G]
      repeat with_reducible refine ZK ?_
      refine dIo mixed ?_
      have i4 : (ZQ a0.ZT (ZD (nth (nth (nth a0.ZB (ZA a0 a1).1.toNat).ZE (ZA a0 a1).2.toNat).ZL.ZH 1)).1.ZO).toNat < a0.ZT.length := by have := Q8 a0.ZT (ZD (nth (nth (nth a0.ZB (ZA a0 a1).1.toNat).ZE (ZA a0 a1).2.toNat).ZL.ZH 1)).1.ZO; first | omega | (have fi := Z8 a0 a1 (by first | omega | (simp at *; omega)); omega) | (simp only [Bool.or_eq_false_iff, decide_eq_false_iff_not] at *; omega) | (have z := ZI G; (try simp only [] at z); omega) | (have z := ZI G.1; (try simp only [] at z); omega) | (have z := ZI G.2; (try simp only [] at z); omega) | (have z := ZI G.2.1; (try simp only [] at z); omega) | (have z := ZI G.2.2; (try simp only [] at z); omega) | (have z := ZI G.1.2; (try simp only [] at z); omega) | (have z := ZI G.2.2.2; (try simp only [] at z); omega) 
      simp [i4, ZC, G]
      repeat with_reducible refine ZK ?_
      refine cR (QG a0.Frame.Z6 (nth a0.ZT (ZQ a0.ZT (ZD (nth (nth (nth a0.ZB (ZA a0 a1).1.toNat).ZE (ZA a0 a1).2.toNat).ZL.ZH 1)).1.ZO).toNat).Zq) ?_
      simp [G]
      repeat with_reducible refine ZK ?_
      refine dIo mixed ?_
      simp [i4, ZC, G]
      repeat with_reducible refine ZK ?_
      refine dIo mixed ?_
      have i5 : (ZQ a0.ZT (ZD (nth (nth (nth a0.ZB (ZA a0 a1).1.toNat).ZE (ZA a0 a1).2.toNat).ZL.ZH 1)).1.ZO).toNat < a0.YX.length := by have := Q8 a0.ZT (ZD (nth (nth (nth a0.ZB (ZA a0 a1).1.toNat).ZE (ZA a0 a1).2.toNat).ZL.ZH 1)).1.ZO; first | omega | (have fi := Z8 a0 a1 (by first | omega | (simp at *; omega)); omega) | (simp only [Bool.or_eq_false_iff, decide_eq_false_iff_not] at *; omega) | (have z := ZI G; (try simp only [] at z); omega) | (have z := ZI G.1; (try simp only [] at z); omega) | (have z := ZI G.2; (try simp only [] at z); omega) | (have z := ZI G.2.1; (try simp only [] at z); omega) | (have z := ZI G.2.2; (try simp only [] at z); omega) | (have z := ZI G.1.2; (try simp only [] at z); omega) | (have z := ZI G.2.2.2; (try simp only [] at z); omega) 
      simp [i5, ZC, G]
      repeat with_reducible refine ZK ?_
      refine cKo f ?_ ?_ <;> intro k6 h3 f
      ·try (simp [G] at h3; done)
       all_goals
        simp [i5, ZC, G]
        repeat with_reducible refine ZK ?_
        refine cR (QM a0.Frame.Z6 (Zh.mk (ZD (nth (nth (nth a0.ZB (ZA a0 a1).1.toNat).ZE (ZA a0 a1).2.toNat).ZL.ZH 1)).1.ZO a0.Frame.Now (nth a0.YX (ZQ a0.ZT (ZD (nth (nth (nth a0.ZB (ZA a0 a1).1.toNat).ZE (ZA a0 a1).2.toNat).ZL.ZH 1)).1.ZO).toNat) (nth a0.ZT (ZQ a0.ZT (ZD (nth (nth (nth a0.ZB (ZA a0 a1).1.toNat).ZE (ZA a0 a1).2.toNat).ZL.ZH 1)).1.ZO).toNat).Zq 0) (sg (Ze.Yo (ZN.Xj u0)))) ?_
        simp [G]
        repeat with_reducible refine ZK ?_
        refine dIo mixed ?_
        simp [G]
        repeat with_reducible refine ZK ?_
        refine gJo G ?_ ?_ <;> intro G
        ·have ld := G.2
         try (simp at G; done)
         all_goals
          have g2 := G.2; try simp at g2
          all_goals
           have i6 : (YK a0.Frame.Z6 (nth a0.ZT (ZQ a0.ZT (ZD (nth (nth (nth a0.ZB (ZA a0 a1).1.toNat).ZE (ZA a0 a1).2.toNat).ZL.ZH 1)).1.ZO).toNat).Zq).toNat < a0.Frame.Z6.length := by have := Xu a0.Frame.Z6 (nth a0.ZT (ZQ a0.ZT (ZD (nth (nth (nth a0.ZB (ZA a0 a1).1.toNat).ZE (ZA a0 a1).2.toNat).ZL.ZH 1)).1.ZO).toNat).Zq; first | omega | (have fi := Z8 a0 a1 (by first | omega | (simp at *; omega)); omega) | (simp only [Bool.or_eq_false_iff, decide_eq_false_iff_not] at *; omega) | (have z := ZI G; (try simp only [] at z); omega) | (have z := ZI G.1; (try simp only [] at z); omega) | (have z := ZI G.2; (try simp only [] at z); omega) | (have z := ZI G.2.1; (try simp only [] at z); omega) | (have z := ZI G.2.2; (try simp only [] at z); omega) | (have z := ZI G.1.2; (try simp only [] at z); omega) | (have z := ZI G.2.2.2; (try simp only [] at z); omega) 
           simp [i6, ZC, G]
           repeat with_reducible refine ZK ?_
           refine cKo f ?_ ?_ <;> intro k8 h4 f
           ·try (simp [G] at h4; done)
            all_goals
             simp [G]
             repeat with_reducible refine ZK ?_
             exact Jf [.cell 4 33, .tmp 5] f
           ·try (simp [G] at h4; done)
            all_goals
             simp [G]
             repeat with_reducible refine ZK ?_
             refine dIo mixed ?_
             simp [i1, ZC, G]
             repeat with_reducible refine ZK ?_
             refine cR (YN.rd (Y6 (Zf a0.Frame.Z6 (Zh.mk (ZD (nth (nth (nth a0.ZB (ZA a0 a1).1.toNat).ZE (ZA a0 a1).2.toNat).ZL.ZH 1)).1.ZO a0.Frame.Now (nth a0.YX (ZQ a0.ZT (ZD (nth (nth (nth a0.ZB (ZA a0 a1).1.toNat).ZE (ZA a0 a1).2.toNat).ZL.ZH 1)).1.ZO).toNat) (nth a0.ZT (ZQ a0.ZT (ZD (nth (nth (nth a0.ZB (ZA a0 a1).1.toNat).ZE (ZA a0 a1).2.toNat).ZL.ZH 1)).1.ZO).toNat).Zq 0)).1)) ?_
             simp [G]
             repeat with_reducible refine ZK ?_
             refine cD [] (XL (nth a0.ZB (ZA a0 a1).1.toNat) a1 (Zm (Zf a0.Frame.Z6 (Zh.mk (ZD (nth (nth (nth a0.ZB (ZA a0 a1).1.toNat).ZE (ZA a0 a1).2.toNat).ZL.ZH 1)).1.ZO a0.Frame.Now (nth a0.YX (ZQ a0.ZT (ZD (nth (nth (nth a0.ZB (ZA a0 a1).1.toNat).ZE (ZA a0 a1).2.toNat).ZL.ZH 1)).1.ZO).toNat) (nth a0.ZT (ZQ a0.ZT (ZD (nth (nth (nth a0.ZB (ZA a0 a1).1.toNat).ZE (ZA a0 a1).2.toNat).ZL.ZH 1)).1.ZO).toNat).Zq 0)).1) (sg (Zu (ZN.YQ u0))) (by simp (maxDischargeDepth := 12) [Yr, ZU (m := 2322432) (by decide) u0]; try omega)) ?_
             simp [i1, ZC, G]
             repeat with_reducible refine ZK ?_
             refine V3 (t := 18) (j := 7) (i := (ZA a0 a1).1.toNat) (size := 2) (rows := (a0.ZB.map ZJ.row)) (ds := (YD (nth a0.ZB (ZA a0 a1).1.toNat) a1 (Zm (Zf a0.Frame.Z6 (Zh.mk (ZD (nth (nth (nth a0.ZB (ZA a0 a1).1.toNat).ZE (ZA a0 a1).2.toNat).ZL.ZH 1)).1.ZO a0.Frame.Now (nth a0.YX (ZQ a0.ZT (ZD (nth (nth (nth a0.ZB (ZA a0 a1).1.toNat).ZE (ZA a0 a1).2.toNat).ZL.ZH 1)).1.ZO).toNat) (nth a0.ZT (ZQ a0.ZT (ZD (nth (nth (nth a0.ZB (ZA a0 a1).1.toNat).ZE (ZA a0 a1).2.toNat).ZL.ZH 1)).1.ZO).toNat).Zq 0)).1)).1.row) (L := [(150, 1)]) ?_
             simp [Xv (x := (YD (nth a0.ZB (ZA a0 a1).1.toNat) a1 (Zm (Zf a0.Frame.Z6 (Zh.mk (ZD (nth (nth (nth a0.ZB (ZA a0 a1).1.toNat).ZE (ZA a0 a1).2.toNat).ZL.ZH 1)).1.ZO a0.Frame.Now (nth a0.YX (ZQ a0.ZT (ZD (nth (nth (nth a0.ZB (ZA a0 a1).1.toNat).ZE (ZA a0 a1).2.toNat).ZL.ZH 1)).1.ZO).toNat) (nth a0.ZT (ZQ a0.ZT (ZD (nth (nth (nth a0.ZB (ZA a0 a1).1.toNat).ZE (ZA a0 a1).2.toNat).ZL.ZH 1)).1.ZO).toNat).Zq 0)).1)).1) rfl, i1, ZC, YS, G]
             repeat with_reducible refine ZK ?_
             exact Jf [.cell 4 33, .tmp 5] f
        ·have ld := G.2
         try (simp at G; done)
         all_goals
          simp [G]
          repeat with_reducible refine ZK ?_
          refine cKo f ?_ ?_ <;> intro pr h5 f
          ·try (simp [G] at h5; done)
           all_goals
            simp [G]
            repeat with_reducible refine ZK ?_
            exact Jf [.cell 4 33, .tmp 5] f
          ·try (simp [G] at h5; done)
           all_goals
            simp [G]
            repeat with_reducible refine ZK ?_
            refine dIo mixed ?_
            simp [i1, ZC, G]
            repeat with_reducible refine ZK ?_
            refine cR (YN.rd (Y6 (Zf a0.Frame.Z6 (Zh.mk (ZD (nth (nth (nth a0.ZB (ZA a0 a1).1.toNat).ZE (ZA a0 a1).2.toNat).ZL.ZH 1)).1.ZO a0.Frame.Now (nth a0.YX (ZQ a0.ZT (ZD (nth (nth (nth a0.ZB (ZA a0 a1).1.toNat).ZE (ZA a0 a1).2.toNat).ZL.ZH 1)).1.ZO).toNat) (nth a0.ZT (ZQ a0.ZT (ZD (nth (nth (nth a0.ZB (ZA a0 a1).1.toNat).ZE (ZA a0 a1).2.toNat).ZL.ZH 1)).1.ZO).toNat).Zq 0)).1)) ?_
            simp [G]
            repeat with_reducible refine ZK ?_
            refine cD [] (XL (nth a0.ZB (ZA a0 a1).1.toNat) a1 (Zm (Zf a0.Frame.Z6 (Zh.mk (ZD (nth (nth (nth a0.ZB (ZA a0 a1).1.toNat).ZE (ZA a0 a1).2.toNat).ZL.ZH 1)).1.ZO a0.Frame.Now (nth a0.YX (ZQ a0.ZT (ZD (nth (nth (nth a0.ZB (ZA a0 a1).1.toNat).ZE (ZA a0 a1).2.toNat).ZL.ZH 1)).1.ZO).toNat) (nth a0.ZT (ZQ a0.ZT (ZD (nth (nth (nth a0.ZB (ZA a0 a1).1.toNat).ZE (ZA a0 a1).2.toNat).ZL.ZH 1)).1.ZO).toNat).Zq 0)).1) (sg (Zu (ZN.YQ u0))) (by simp (maxDischargeDepth := 12) [Yr, ZU (m := 2322432) (by decide) u0]; try omega)) ?_
            simp [i1, ZC, G]
            repeat with_reducible refine ZK ?_
            refine V3 (t := 18) (j := 7) (i := (ZA a0 a1).1.toNat) (size := 2) (rows := (a0.ZB.map ZJ.row)) (ds := (YD (nth a0.ZB (ZA a0 a1).1.toNat) a1 (Zm (Zf a0.Frame.Z6 (Zh.mk (ZD (nth (nth (nth a0.ZB (ZA a0 a1).1.toNat).ZE (ZA a0 a1).2.toNat).ZL.ZH 1)).1.ZO a0.Frame.Now (nth a0.YX (ZQ a0.ZT (ZD (nth (nth (nth a0.ZB (ZA a0 a1).1.toNat).ZE (ZA a0 a1).2.toNat).ZL.ZH 1)).1.ZO).toNat) (nth a0.ZT (ZQ a0.ZT (ZD (nth (nth (nth a0.ZB (ZA a0 a1).1.toNat).ZE (ZA a0 a1).2.toNat).ZL.ZH 1)).1.ZO).toNat).Zq 0)).1)).1.row) (L := [(150, 1)]) ?_
            simp [Xv (x := (YD (nth a0.ZB (ZA a0 a1).1.toNat) a1 (Zm (Zf a0.Frame.Z6 (Zh.mk (ZD (nth (nth (nth a0.ZB (ZA a0 a1).1.toNat).ZE (ZA a0 a1).2.toNat).ZL.ZH 1)).1.ZO a0.Frame.Now (nth a0.YX (ZQ a0.ZT (ZD (nth (nth (nth a0.ZB (ZA a0 a1).1.toNat).ZE (ZA a0 a1).2.toNat).ZL.ZH 1)).1.ZO).toNat) (nth a0.ZT (ZQ a0.ZT (ZD (nth (nth (nth a0.ZB (ZA a0 a1).1.toNat).ZE (ZA a0 a1).2.toNat).ZL.ZH 1)).1.ZO).toNat).Zq 0)).1)).1) rfl, i1, ZC, YS, G]
            repeat with_reducible refine ZK ?_
            exact Jf [.cell 4 33, .tmp 5] f
      ·try (simp [G] at h3; done)
       all_goals
        simp [G]
        repeat with_reducible refine ZK ?_
        refine cR (QM a0.Frame.Z6 (Zh.mk (ZD (nth (nth (nth a0.ZB (ZA a0 a1).1.toNat).ZE (ZA a0 a1).2.toNat).ZL.ZH 1)).1.ZO a0.Frame.Now (-1) (nth a0.ZT (ZQ a0.ZT (ZD (nth (nth (nth a0.ZB (ZA a0 a1).1.toNat).ZE (ZA a0 a1).2.toNat).ZL.ZH 1)).1.ZO).toNat).Zq 0) (sg (Ze.Yo (ZN.Xj u0)))) ?_
        simp [G]
        repeat with_reducible refine ZK ?_
        refine dIo mixed ?_
        simp [G]
        repeat with_reducible refine ZK ?_
        refine gJo G ?_ ?_ <;> intro G
        ·have lf := G.2
         try (simp at G; done)
         all_goals
          have g3 := G.2; try simp at g3
          all_goals
           have i8 : (YK a0.Frame.Z6 (nth a0.ZT (ZQ a0.ZT (ZD (nth (nth (nth a0.ZB (ZA a0 a1).1.toNat).ZE (ZA a0 a1).2.toNat).ZL.ZH 1)).1.ZO).toNat).Zq).toNat < a0.Frame.Z6.length := by have := Xu a0.Frame.Z6 (nth a0.ZT (ZQ a0.ZT (ZD (nth (nth (nth a0.ZB (ZA a0 a1).1.toNat).ZE (ZA a0 a1).2.toNat).ZL.ZH 1)).1.ZO).toNat).Zq; first | omega | (have fi := Z8 a0 a1 (by first | omega | (simp at *; omega)); omega) | (simp only [Bool.or_eq_false_iff, decide_eq_false_iff_not] at *; omega) | (have z := ZI G; (try simp only [] at z); omega) | (have z := ZI G.1; (try simp only [] at z); omega) | (have z := ZI G.2; (try simp only [] at z); omega) | (have z := ZI G.2.1; (try simp only [] at z); omega) | (have z := ZI G.2.2; (try simp only [] at z); omega) | (have z := ZI G.1.2; (try simp only [] at z); omega) | (have z := ZI G.2.2.2; (try simp only [] at z); omega) 
           simp [i8, ZC, G]
           repeat with_reducible refine ZK ?_
           refine cKo f ?_ ?_ <;> intro pS h6 f
           ·try (simp [G] at h6; done)
            all_goals
             simp [G]
             repeat with_reducible refine ZK ?_
             exact Jf [.cell 4 33, .tmp 5] f
           ·try (simp [G] at h6; done)
            all_goals
             simp [G]
             repeat with_reducible refine ZK ?_
             refine dIo mixed ?_
             simp [i1, ZC, G]
             repeat with_reducible refine ZK ?_
             refine cR (YN.rd (Y6 (Zf a0.Frame.Z6 (Zh.mk (ZD (nth (nth (nth a0.ZB (ZA a0 a1).1.toNat).ZE (ZA a0 a1).2.toNat).ZL.ZH 1)).1.ZO a0.Frame.Now (-1) (nth a0.ZT (ZQ a0.ZT (ZD (nth (nth (nth a0.ZB (ZA a0 a1).1.toNat).ZE (ZA a0 a1).2.toNat).ZL.ZH 1)).1.ZO).toNat).Zq 0)).1)) ?_
             simp [G]
             repeat with_reducible refine ZK ?_
             refine cD [] (XL (nth a0.ZB (ZA a0 a1).1.toNat) a1 (Zm (Zf a0.Frame.Z6 (Zh.mk (ZD (nth (nth (nth a0.ZB (ZA a0 a1).1.toNat).ZE (ZA a0 a1).2.toNat).ZL.ZH 1)).1.ZO a0.Frame.Now (-1) (nth a0.ZT (ZQ a0.ZT (ZD (nth (nth (nth a0.ZB (ZA a0 a1).1.toNat).ZE (ZA a0 a1).2.toNat).ZL.ZH 1)).1.ZO).toNat).Zq 0)).1) (sg (Zu (ZN.YQ u0))) (by simp (maxDischargeDepth := 12) [Yr, ZU (m := 2322432) (by decide) u0]; try omega)) ?_
             simp [i1, ZC, G]
             repeat with_reducible refine ZK ?_
             refine V3 (t := 18) (j := 7) (i := (ZA a0 a1).1.toNat) (size := 2) (rows := (a0.ZB.map ZJ.row)) (ds := (YD (nth a0.ZB (ZA a0 a1).1.toNat) a1 (Zm (Zf a0.Frame.Z6 (Zh.mk (ZD (nth (nth (nth a0.ZB (ZA a0 a1).1.toNat).ZE (ZA a0 a1).2.toNat).ZL.ZH 1)).1.ZO a0.Frame.Now (-1) (nth a0.ZT (ZQ a0.ZT (ZD (nth (nth (nth a0.ZB (ZA a0 a1).1.toNat).ZE (ZA a0 a1).2.toNat).ZL.ZH 1)).1.ZO).toNat).Zq 0)).1)).1.row) (L := [(150, 1)]) ?_
             simp [Xv (x := (YD (nth a0.ZB (ZA a0 a1).1.toNat) a1 (Zm (Zf a0.Frame.Z6 (Zh.mk (ZD (nth (nth (nth a0.ZB (ZA a0 a1).1.toNat).ZE (ZA a0 a1).2.toNat).ZL.ZH 1)).1.ZO a0.Frame.Now (-1) (nth a0.ZT (ZQ a0.ZT (ZD (nth (nth (nth a0.ZB (ZA a0 a1).1.toNat).ZE (ZA a0 a1).2.toNat).ZL.ZH 1)).1.ZO).toNat).Zq 0)).1)).1) rfl, i1, ZC, YS, G]
             repeat with_reducible refine ZK ?_
             exact Jf [.cell 4 33, .tmp 5] f
        ·have lf := G.2
         try (simp at G; done)
         all_goals
          simp [G]
          repeat with_reducible refine ZK ?_
          refine cKo f ?_ ?_ <;> intro mr h7 f
          ·try (simp [G] at h7; done)
           all_goals
            simp [G]
            repeat with_reducible refine ZK ?_
            exact Jf [.cell 4 33, .tmp 5] f
          ·try (simp [G] at h7; done)
           all_goals
            simp [G]
            repeat with_reducible refine ZK ?_
            refine dIo mixed ?_
            simp [i1, ZC, G]
            repeat with_reducible refine ZK ?_
            refine cR (YN.rd (Y6 (Zf a0.Frame.Z6 (Zh.mk (ZD (nth (nth (nth a0.ZB (ZA a0 a1).1.toNat).ZE (ZA a0 a1).2.toNat).ZL.ZH 1)).1.ZO a0.Frame.Now (-1) (nth a0.ZT (ZQ a0.ZT (ZD (nth (nth (nth a0.ZB (ZA a0 a1).1.toNat).ZE (ZA a0 a1).2.toNat).ZL.ZH 1)).1.ZO).toNat).Zq 0)).1)) ?_
            simp [G]
            repeat with_reducible refine ZK ?_
            refine cD [] (XL (nth a0.ZB (ZA a0 a1).1.toNat) a1 (Zm (Zf a0.Frame.Z6 (Zh.mk (ZD (nth (nth (nth a0.ZB (ZA a0 a1).1.toNat).ZE (ZA a0 a1).2.toNat).ZL.ZH 1)).1.ZO a0.Frame.Now (-1) (nth a0.ZT (ZQ a0.ZT (ZD (nth (nth (nth a0.ZB (ZA a0 a1).1.toNat).ZE (ZA a0 a1).2.toNat).ZL.ZH 1)).1.ZO).toNat).Zq 0)).1) (sg (Zu (ZN.YQ u0))) (by simp (maxDischargeDepth := 12) [Yr, ZU (m := 2322432) (by decide) u0]; try omega)) ?_
            simp [i1, ZC, G]
            repeat with_reducible refine ZK ?_
            refine V3 (t := 18) (j := 7) (i := (ZA a0 a1).1.toNat) (size := 2) (rows := (a0.ZB.map ZJ.row)) (ds := (YD (nth a0.ZB (ZA a0 a1).1.toNat) a1 (Zm (Zf a0.Frame.Z6 (Zh.mk (ZD (nth (nth (nth a0.ZB (ZA a0 a1).1.toNat).ZE (ZA a0 a1).2.toNat).ZL.ZH 1)).1.ZO a0.Frame.Now (-1) (nth a0.ZT (ZQ a0.ZT (ZD (nth (nth (nth a0.ZB (ZA a0 a1).1.toNat).ZE (ZA a0 a1).2.toNat).ZL.ZH 1)).1.ZO).toNat).Zq 0)).1)).1.row) (L := [(150, 1)]) ?_
            simp [Xv (x := (YD (nth a0.ZB (ZA a0 a1).1.toNat) a1 (Zm (Zf a0.Frame.Z6 (Zh.mk (ZD (nth (nth (nth a0.ZB (ZA a0 a1).1.toNat).ZE (ZA a0 a1).2.toNat).ZL.ZH 1)).1.ZO a0.Frame.Now (-1) (nth a0.ZT (ZQ a0.ZT (ZD (nth (nth (nth a0.ZB (ZA a0 a1).1.toNat).ZE (ZA a0 a1).2.toNat).ZL.ZH 1)).1.ZO).toNat).Zq 0)).1)).1) rfl, i1, ZC, YS, G]
            repeat with_reducible refine ZK ?_
            exact Jf [.cell 4 33, .tmp 5] f
 ·have vh := G
  simp [G]
  repeat with_reducible refine ZK ?_
  refine sGo ?_
  simp [G]
  repeat with_reducible refine ZK ?_
  refine cKo f ?_ ?_ <;> intro lb h8 f
  ·try (simp [G] at h8; done)
   all_goals
    simp [G]
    repeat with_reducible refine ZK ?_
    exact Jf [.cell 4 33, .tmp 5] f
  ·try (simp [G] at h8; done)
   all_goals
    have i12 : (ZA a0 a1).1.toNat < a0.ZB.length := by first | omega | (have fi := Z8 a0 a1 (by first | omega | (simp at *; omega)); omega) | (simp only [Bool.or_eq_false_iff, decide_eq_false_iff_not] at *; omega) | (have z := ZI G; (try simp only [] at z); omega) | (have z := ZI G.1; (try simp only [] at z); omega) | (have z := ZI G.2; (try simp only [] at z); omega) | (have z := ZI G.2.1; (try simp only [] at z); omega) | (have z := ZI G.2.2; (try simp only [] at z); omega) | (have z := ZI G.1.2; (try simp only [] at z); omega) | (have z := ZI G.2.2.2; (try simp only [] at z); omega) 
    have i13 : (ZA a0 a1).2.toNat < (nth a0.ZB (ZA a0 a1).1.toNat).ZE.length := by first | omega | (have fi := Z8 a0 a1 (by first | omega | (simp at *; omega)); omega) | (simp only [Bool.or_eq_false_iff, decide_eq_false_iff_not] at *; omega) | (have z := ZI G; (try simp only [] at z); omega) | (have z := ZI G.1; (try simp only [] at z); omega) | (have z := ZI G.2; (try simp only [] at z); omega) | (have z := ZI G.2.1; (try simp only [] at z); omega) | (have z := ZI G.2.2; (try simp only [] at z); omega) | (have z := ZI G.1.2; (try simp only [] at z); omega) | (have z := ZI G.2.2.2; (try simp only [] at z); omega) 
    have i14 : 1 < (nth (nth a0.ZB (ZA a0 a1).1.toNat).ZE (ZA a0 a1).2.toNat).ZL.ZH.length := by first | omega | (have fi := Z8 a0 a1 (by first | omega | (simp at *; omega)); omega) | (simp only [Bool.or_eq_false_iff, decide_eq_false_iff_not] at *; omega) | (have z := ZI G; (try simp only [] at z); omega) | (have z := ZI G.1; (try simp only [] at z); omega) | (have z := ZI G.2; (try simp only [] at z); omega) | (have z := ZI G.2.1; (try simp only [] at z); omega) | (have z := ZI G.2.2; (try simp only [] at z); omega) | (have z := ZI G.1.2; (try simp only [] at z); omega) | (have z := ZI G.2.2.2; (try simp only [] at z); omega) 
    simp [i12, ZC, i13, i14, G]
    repeat with_reducible refine ZK ?_
    refine cR (xH (nth (nth (nth a0.ZB (ZA a0 a1).1.toNat).ZE (ZA a0 a1).2.toNat).ZL.ZH 1)) ?_
    simp [G]
    repeat with_reducible refine ZK ?_
    refine cR (xv a0.ZT (ZD (nth (nth (nth a0.ZB (ZA a0 a1).1.toNat).ZE (ZA a0 a1).2.toNat).ZL.ZH 1)).1.ZO) ?_
    simp [G]
    repeat with_reducible refine ZK ?_
    refine cKo f ?_ ?_ <;> intro eN h9 f
    ·try (simp [G] at h9; done)
     all_goals
      simp [G]
      repeat with_reducible refine ZK ?_
      exact Jf [.cell 4 33, .tmp 5] f
    ·try (simp [G] at h9; done)
     all_goals
      simp [G]
      repeat with_reducible refine ZK ?_
      refine dIo mixed ?_
      have i15 : (ZQ a0.ZT (ZD (nth (nth (nth a0.ZB (ZA a0 a1).1.toNat).ZE (ZA a0 a1).2.toNat).ZL.ZH 1)).1.ZO).toNat < a0.ZT.length := by have := Q8 a0.ZT (ZD (nth (nth (nth a0.ZB (ZA a0 a1).1.toNat).ZE (ZA a0 a1).2.toNat).ZL.ZH 1)).1.ZO; first | omega | (have fi := Z8 a0 a1 (by first | omega | (simp at *; omega)); omega) | (simp only [Bool.or_eq_false_iff, decide_eq_false_iff_not] at *; omega) | (have z := ZI G; (try simp only [] at z); omega) | (have z := ZI G.1; (try simp only [] at z); omega) | (have z := ZI G.2; (try simp only [] at z); omega) | (have z := ZI G.2.1; (try simp only [] at z); omega) | (have z := ZI G.2.2; (try simp only [] at z); omega) | (have z := ZI G.1.2; (try simp only [] at z); omega) | (have z := ZI G.2.2.2; (try simp only [] at z); omega) 
      simp [i15, ZC, G]
      repeat with_reducible refine ZK ?_
      refine cR (QG a0.Frame.Z6 (nth a0.ZT (ZQ a0.ZT (ZD (nth (nth (nth a0.ZB (ZA a0 a1).1.toNat).ZE (ZA a0 a1).2.toNat).ZL.ZH 1)).1.ZO).toNat).Zq) ?_
      simp [G]
      repeat with_reducible refine ZK ?_
      refine dIo mixed ?_
      simp [i15, ZC, G]
      repeat with_reducible refine ZK ?_
      refine dIo mixed ?_
      have i16 : (ZQ a0.ZT (ZD (nth (nth (nth a0.ZB (ZA a0 a1).1.toNat).ZE (ZA a0 a1).2.toNat).ZL.ZH 1)).1.ZO).toNat < a0.YX.length := by have := Q8 a0.ZT (ZD (nth (nth (nth a0.ZB (ZA a0 a1).1.toNat).ZE (ZA a0 a1).2.toNat).ZL.ZH 1)).1.ZO; first | omega | (have fi := Z8 a0 a1 (by first | omega | (simp at *; omega)); omega) | (simp only [Bool.or_eq_false_iff, decide_eq_false_iff_not] at *; omega) | (have z := ZI G; (try simp only [] at z); omega) | (have z := ZI G.1; (try simp only [] at z); omega) | (have z := ZI G.2; (try simp only [] at z); omega) | (have z := ZI G.2.1; (try simp only [] at z); omega) | (have z := ZI G.2.2; (try simp only [] at z); omega) | (have z := ZI G.1.2; (try simp only [] at z); omega) | (have z := ZI G.2.2.2; (try simp only [] at z); omega) 
      simp [i16, ZC, G]
      repeat with_reducible refine ZK ?_
      refine cKo f ?_ ?_ <;> intro eO tc f
      ·try (simp [G] at tc; done)
       all_goals
        simp [i16, ZC, G]
        repeat with_reducible refine ZK ?_
        refine cR (QM a0.Frame.Z6 (Zh.mk (ZD (nth (nth (nth a0.ZB (ZA a0 a1).1.toNat).ZE (ZA a0 a1).2.toNat).ZL.ZH 1)).1.ZO a0.Frame.Now (nth a0.YX (ZQ a0.ZT (ZD (nth (nth (nth a0.ZB (ZA a0 a1).1.toNat).ZE (ZA a0 a1).2.toNat).ZL.ZH 1)).1.ZO).toNat) (nth a0.ZT (ZQ a0.ZT (ZD (nth (nth (nth a0.ZB (ZA a0 a1).1.toNat).ZE (ZA a0 a1).2.toNat).ZL.ZH 1)).1.ZO).toNat).Zq 0) (sg (Ze.Yo (ZN.Xj u0)))) ?_
        simp [G]
        repeat with_reducible refine ZK ?_
        refine dIo mixed ?_
        simp [G]
        repeat with_reducible refine ZK ?_
        refine gJo G ?_ ?_ <;> intro G
        ·have gZ := G.2
         try (simp at G; done)
         all_goals
          have g4 := G.2; try simp at g4
          all_goals
           have i17 : (YK a0.Frame.Z6 (nth a0.ZT (ZQ a0.ZT (ZD (nth (nth (nth a0.ZB (ZA a0 a1).1.toNat).ZE (ZA a0 a1).2.toNat).ZL.ZH 1)).1.ZO).toNat).Zq).toNat < a0.Frame.Z6.length := by have := Xu a0.Frame.Z6 (nth a0.ZT (ZQ a0.ZT (ZD (nth (nth (nth a0.ZB (ZA a0 a1).1.toNat).ZE (ZA a0 a1).2.toNat).ZL.ZH 1)).1.ZO).toNat).Zq; first | omega | (have fi := Z8 a0 a1 (by first | omega | (simp at *; omega)); omega) | (simp only [Bool.or_eq_false_iff, decide_eq_false_iff_not] at *; omega) | (have z := ZI G; (try simp only [] at z); omega) | (have z := ZI G.1; (try simp only [] at z); omega) | (have z := ZI G.2; (try simp only [] at z); omega) | (have z := ZI G.2.1; (try simp only [] at z); omega) | (have z := ZI G.2.2; (try simp only [] at z); omega) | (have z := ZI G.1.2; (try simp only [] at z); omega) | (have z := ZI G.2.2.2; (try simp only [] at z); omega) 
           simp [i17, ZC, G]
           repeat with_reducible refine ZK ?_
           refine cKo f ?_ ?_ <;> intro eQ nA f
           ·try (simp [G] at nA; done)
            all_goals
             simp [G]
             repeat with_reducible refine ZK ?_
             exact Jf [.cell 4 33, .tmp 5] f
           ·try (simp [G] at nA; done)
            all_goals
             simp [G]
             repeat with_reducible refine ZK ?_
             refine dIo mixed ?_
             simp [i12, ZC, G]
             repeat with_reducible refine ZK ?_
             refine cR (YN.rd (Y6 (Zf a0.Frame.Z6 (Zh.mk (ZD (nth (nth (nth a0.ZB (ZA a0 a1).1.toNat).ZE (ZA a0 a1).2.toNat).ZL.ZH 1)).1.ZO a0.Frame.Now (nth a0.YX (ZQ a0.ZT (ZD (nth (nth (nth a0.ZB (ZA a0 a1).1.toNat).ZE (ZA a0 a1).2.toNat).ZL.ZH 1)).1.ZO).toNat) (nth a0.ZT (ZQ a0.ZT (ZD (nth (nth (nth a0.ZB (ZA a0 a1).1.toNat).ZE (ZA a0 a1).2.toNat).ZL.ZH 1)).1.ZO).toNat).Zq 0)).1)) ?_
             simp [G]
             repeat with_reducible refine ZK ?_
             refine cD [] (XL (nth a0.ZB (ZA a0 a1).1.toNat) a1 (Zm (Zf a0.Frame.Z6 (Zh.mk (ZD (nth (nth (nth a0.ZB (ZA a0 a1).1.toNat).ZE (ZA a0 a1).2.toNat).ZL.ZH 1)).1.ZO a0.Frame.Now (nth a0.YX (ZQ a0.ZT (ZD (nth (nth (nth a0.ZB (ZA a0 a1).1.toNat).ZE (ZA a0 a1).2.toNat).ZL.ZH 1)).1.ZO).toNat) (nth a0.ZT (ZQ a0.ZT (ZD (nth (nth (nth a0.ZB (ZA a0 a1).1.toNat).ZE (ZA a0 a1).2.toNat).ZL.ZH 1)).1.ZO).toNat).Zq 0)).1) (sg (Zu (ZN.YQ u0))) (by simp (maxDischargeDepth := 12) [Yr, ZU (m := 2322432) (by decide) u0]; try omega)) ?_
             simp [i12, ZC, G]
             repeat with_reducible refine ZK ?_
             refine V3 (t := 18) (j := 7) (i := (ZA a0 a1).1.toNat) (size := 2) (rows := (a0.ZB.map ZJ.row)) (ds := (YD (nth a0.ZB (ZA a0 a1).1.toNat) a1 (Zm (Zf a0.Frame.Z6 (Zh.mk (ZD (nth (nth (nth a0.ZB (ZA a0 a1).1.toNat).ZE (ZA a0 a1).2.toNat).ZL.ZH 1)).1.ZO a0.Frame.Now (nth a0.YX (ZQ a0.ZT (ZD (nth (nth (nth a0.ZB (ZA a0 a1).1.toNat).ZE (ZA a0 a1).2.toNat).ZL.ZH 1)).1.ZO).toNat) (nth a0.ZT (ZQ a0.ZT (ZD (nth (nth (nth a0.ZB (ZA a0 a1).1.toNat).ZE (ZA a0 a1).2.toNat).ZL.ZH 1)).1.ZO).toNat).Zq 0)).1)).1.row) (L := [(150, 1)]) ?_
             simp [Xv (x := (YD (nth a0.ZB (ZA a0 a1).1.toNat) a1 (Zm (Zf a0.Frame.Z6 (Zh.mk (ZD (nth (nth (nth a0.ZB (ZA a0 a1).1.toNat).ZE (ZA a0 a1).2.toNat).ZL.ZH 1)).1.ZO a0.Frame.Now (nth a0.YX (ZQ a0.ZT (ZD (nth (nth (nth a0.ZB (ZA a0 a1).1.toNat).ZE (ZA a0 a1).2.toNat).ZL.ZH 1)).1.ZO).toNat) (nth a0.ZT (ZQ a0.ZT (ZD (nth (nth (nth a0.ZB (ZA a0 a1).1.toNat).ZE (ZA a0 a1).2.toNat).ZL.ZH 1)).1.ZO).toNat).Zq 0)).1)).1) rfl, i12, ZC, YS, G]
             repeat with_reducible refine ZK ?_
             exact Jf [.cell 4 33, .tmp 5] f
        ·have gZ := G.2
         try (simp at G; done)
         all_goals
          simp [G]
          repeat with_reducible refine ZK ?_
          refine cKo f ?_ ?_ <;> intro eR ni f
          ·try (simp [G] at ni; done)
           all_goals
            simp [G]
            repeat with_reducible refine ZK ?_
            exact Jf [.cell 4 33, .tmp 5] f
          ·try (simp [G] at ni; done)
           all_goals
            simp [G]
            repeat with_reducible refine ZK ?_
            refine dIo mixed ?_
            simp [i12, ZC, G]
            repeat with_reducible refine ZK ?_
            refine cR (YN.rd (Y6 (Zf a0.Frame.Z6 (Zh.mk (ZD (nth (nth (nth a0.ZB (ZA a0 a1).1.toNat).ZE (ZA a0 a1).2.toNat).ZL.ZH 1)).1.ZO a0.Frame.Now (nth a0.YX (ZQ a0.ZT (ZD (nth (nth (nth a0.ZB (ZA a0 a1).1.toNat).ZE (ZA a0 a1).2.toNat).ZL.ZH 1)).1.ZO).toNat) (nth a0.ZT (ZQ a0.ZT (ZD (nth (nth (nth a0.ZB (ZA a0 a1).1.toNat).ZE (ZA a0 a1).2.toNat).ZL.ZH 1)).1.ZO).toNat).Zq 0)).1)) ?_
            simp [G]
            repeat with_reducible refine ZK ?_
            refine cD [] (XL (nth a0.ZB (ZA a0 a1).1.toNat) a1 (Zm (Zf a0.Frame.Z6 (Zh.mk (ZD (nth (nth (nth a0.ZB (ZA a0 a1).1.toNat).ZE (ZA a0 a1).2.toNat).ZL.ZH 1)).1.ZO a0.Frame.Now (nth a0.YX (ZQ a0.ZT (ZD (nth (nth (nth a0.ZB (ZA a0 a1).1.toNat).ZE (ZA a0 a1).2.toNat).ZL.ZH 1)).1.ZO).toNat) (nth a0.ZT (ZQ a0.ZT (ZD (nth (nth (nth a0.ZB (ZA a0 a1).1.toNat).ZE (ZA a0 a1).2.toNat).ZL.ZH 1)).1.ZO).toNat).Zq 0)).1) (sg (Zu (ZN.YQ u0))) (by simp (maxDischargeDepth := 12) [Yr, ZU (m := 2322432) (by decide) u0]; try omega)) ?_
            simp [i12, ZC, G]
            repeat with_reducible refine ZK ?_
            refine V3 (t := 18) (j := 7) (i := (ZA a0 a1).1.toNat) (size := 2) (rows := (a0.ZB.map ZJ.row)) (ds := (YD (nth a0.ZB (ZA a0 a1).1.toNat) a1 (Zm (Zf a0.Frame.Z6 (Zh.mk (ZD (nth (nth (nth a0.ZB (ZA a0 a1).1.toNat).ZE (ZA a0 a1).2.toNat).ZL.ZH 1)).1.ZO a0.Frame.Now (nth a0.YX (ZQ a0.ZT (ZD (nth (nth (nth a0.ZB (ZA a0 a1).1.toNat).ZE (ZA a0 a1).2.toNat).ZL.ZH 1)).1.ZO).toNat) (nth a0.ZT (ZQ a0.ZT (ZD (nth (nth (nth a0.ZB (ZA a0 a1).1.toNat).ZE (ZA a0 a1).2.toNat).ZL.ZH 1)).1.ZO).toNat).Zq 0)).1)).1.row) (L := [(150, 1)]) ?_
            simp [Xv (x := (YD (nth a0.ZB (ZA a0 a1).1.toNat) a1 (Zm (Zf a0.Frame.Z6 (Zh.mk (ZD (nth (nth (nth a0.ZB (ZA a0 a1).1.toNat).ZE (ZA a0 a1).2.toNat).ZL.ZH 1)).1.ZO a0.Frame.Now (nth a0.YX (ZQ a0.ZT (ZD (nth (nth (nth a0.ZB (ZA a0 a1).1.toNat).ZE (ZA a0 a1).2.toNat).ZL.ZH 1)).1.ZO).toNat) (nth a0.ZT (ZQ a0.ZT (ZD (nth (nth (nth a0.ZB (ZA a0 a1).1.toNat).ZE (ZA a0 a1).2.toNat).ZL.ZH 1)).1.ZO).toNat).Zq 0)).1)).1) rfl, i12, ZC, YS, G]
            repeat with_reducible refine ZK ?_
            exact Jf [.cell 4 33, .tmp 5] f
      ·try (simp [G] at tc; done)
       all_goals
        simp [G]
        repeat with_reducible refine ZK ?_
        refine cR (QM a0.Frame.Z6 (Zh.mk (ZD (nth (nth (nth a0.ZB (ZA a0 a1).1.toNat).ZE (ZA a0 a1).2.toNat).ZL.ZH 1)).1.ZO a0.Frame.Now (-1) (nth a0.ZT (ZQ a0.ZT (ZD (nth (nth (nth a0.ZB (ZA a0 a1).1.toNat).ZE (ZA a0 a1).2.toNat).ZL.ZH 1)).1.ZO).toNat).Zq 0) (sg (Ze.Yo (ZN.Xj u0)))) ?_
        simp [G]
        repeat with_reducible refine ZK ?_
        refine dIo mixed ?_
        simp [G]
        repeat with_reducible refine ZK ?_
        refine gJo G ?_ ?_ <;> intro G
        ·have ga := G.2
         try (simp at G; done)
         all_goals
          have g5 := G.2; try simp at g5
          all_goals
           have i19 : (YK a0.Frame.Z6 (nth a0.ZT (ZQ a0.ZT (ZD (nth (nth (nth a0.ZB (ZA a0 a1).1.toNat).ZE (ZA a0 a1).2.toNat).ZL.ZH 1)).1.ZO).toNat).Zq).toNat < a0.Frame.Z6.length := by have := Xu a0.Frame.Z6 (nth a0.ZT (ZQ a0.ZT (ZD (nth (nth (nth a0.ZB (ZA a0 a1).1.toNat).ZE (ZA a0 a1).2.toNat).ZL.ZH 1)).1.ZO).toNat).Zq; first | omega | (have fi := Z8 a0 a1 (by first | omega | (simp at *; omega)); omega) | (simp only [Bool.or_eq_false_iff, decide_eq_false_iff_not] at *; omega) | (have z := ZI G; (try simp only [] at z); omega) | (have z := ZI G.1; (try simp only [] at z); omega) | (have z := ZI G.2; (try simp only [] at z); omega) | (have z := ZI G.2.1; (try simp only [] at z); omega) | (have z := ZI G.2.2; (try simp only [] at z); omega) | (have z := ZI G.1.2; (try simp only [] at z); omega) | (have z := ZI G.2.2.2; (try simp only [] at z); omega) 
           simp [i19, ZC, G]
           repeat with_reducible refine ZK ?_
           refine cKo f ?_ ?_ <;> intro eS la f
           ·try (simp [G] at la; done)
            all_goals
             simp [G]
             repeat with_reducible refine ZK ?_
             exact Jf [.cell 4 33, .tmp 5] f
           ·try (simp [G] at la; done)
            all_goals
             simp [G]
             repeat with_reducible refine ZK ?_
             refine dIo mixed ?_
             simp [i12, ZC, G]
             repeat with_reducible refine ZK ?_
             refine cR (YN.rd (Y6 (Zf a0.Frame.Z6 (Zh.mk (ZD (nth (nth (nth a0.ZB (ZA a0 a1).1.toNat).ZE (ZA a0 a1).2.toNat).ZL.ZH 1)).1.ZO a0.Frame.Now (-1) (nth a0.ZT (ZQ a0.ZT (ZD (nth (nth (nth a0.ZB (ZA a0 a1).1.toNat).ZE (ZA a0 a1).2.toNat).ZL.ZH 1)).1.ZO).toNat).Zq 0)).1)) ?_
             simp [G]
             repeat with_reducible refine ZK ?_
             refine cD [] (XL (nth a0.ZB (ZA a0 a1).1.toNat) a1 (Zm (Zf a0.Frame.Z6 (Zh.mk (ZD (nth (nth (nth a0.ZB (ZA a0 a1).1.toNat).ZE (ZA a0 a1).2.toNat).ZL.ZH 1)).1.ZO a0.Frame.Now (-1) (nth a0.ZT (ZQ a0.ZT (ZD (nth (nth (nth a0.ZB (ZA a0 a1).1.toNat).ZE (ZA a0 a1).2.toNat).ZL.ZH 1)).1.ZO).toNat).Zq 0)).1) (sg (Zu (ZN.YQ u0))) (by simp (maxDischargeDepth := 12) [Yr, ZU (m := 2322432) (by decide) u0]; try omega)) ?_
             simp [i12, ZC, G]
             repeat with_reducible refine ZK ?_
             refine V3 (t := 18) (j := 7) (i := (ZA a0 a1).1.toNat) (size := 2) (rows := (a0.ZB.map ZJ.row)) (ds := (YD (nth a0.ZB (ZA a0 a1).1.toNat) a1 (Zm (Zf a0.Frame.Z6 (Zh.mk (ZD (nth (nth (nth a0.ZB (ZA a0 a1).1.toNat).ZE (ZA a0 a1).2.toNat).ZL.ZH 1)).1.ZO a0.Frame.Now (-1) (nth a0.ZT (ZQ a0.ZT (ZD (nth (nth (nth a0.ZB (ZA a0 a1).1.toNat).ZE (ZA a0 a1).2.toNat).ZL.ZH 1)).1.ZO).toNat).Zq 0)).1)).1.row) (L := [(150, 1)]) ?_
             simp [Xv (x := (YD (nth a0.ZB (ZA a0 a1).1.toNat) a1 (Zm (Zf a0.Frame.Z6 (Zh.mk (ZD (nth (nth (nth a0.ZB (ZA a0 a1).1.toNat).ZE (ZA a0 a1).2.toNat).ZL.ZH 1)).1.ZO a0.Frame.Now (-1) (nth a0.ZT (ZQ a0.ZT (ZD (nth (nth (nth a0.ZB (ZA a0 a1).1.toNat).ZE (ZA a0 a1).2.toNat).ZL.ZH 1)).1.ZO).toNat).Zq 0)).1)).1) rfl, i12, ZC, YS, G]
             repeat with_reducible refine ZK ?_
             exact Jf [.cell 4 33, .tmp 5] f
        ·have ga := G.2
         try (simp at G; done)
         all_goals
          simp [G]
          repeat with_reducible refine ZK ?_
          refine cKo f ?_ ?_ <;> intro eT iq f
          ·try (simp [G] at iq; done)
           all_goals
            simp [G]
            repeat with_reducible refine ZK ?_
            exact Jf [.cell 4 33, .tmp 5] f
          ·try (simp [G] at iq; done)
           all_goals
            simp [G]
            repeat with_reducible refine ZK ?_
            refine dIo mixed ?_
            simp [i12, ZC, G]
            repeat with_reducible refine ZK ?_
            refine cR (YN.rd (Y6 (Zf a0.Frame.Z6 (Zh.mk (ZD (nth (nth (nth a0.ZB (ZA a0 a1).1.toNat).ZE (ZA a0 a1).2.toNat).ZL.ZH 1)).1.ZO a0.Frame.Now (-1) (nth a0.ZT (ZQ a0.ZT (ZD (nth (nth (nth a0.ZB (ZA a0 a1).1.toNat).ZE (ZA a0 a1).2.toNat).ZL.ZH 1)).1.ZO).toNat).Zq 0)).1)) ?_
            simp [G]
            repeat with_reducible refine ZK ?_
            refine cD [] (XL (nth a0.ZB (ZA a0 a1).1.toNat) a1 (Zm (Zf a0.Frame.Z6 (Zh.mk (ZD (nth (nth (nth a0.ZB (ZA a0 a1).1.toNat).ZE (ZA a0 a1).2.toNat).ZL.ZH 1)).1.ZO a0.Frame.Now (-1) (nth a0.ZT (ZQ a0.ZT (ZD (nth (nth (nth a0.ZB (ZA a0 a1).1.toNat).ZE (ZA a0 a1).2.toNat).ZL.ZH 1)).1.ZO).toNat).Zq 0)).1) (sg (Zu (ZN.YQ u0))) (by simp (maxDischargeDepth := 12) [Yr, ZU (m := 2322432) (by decide) u0]; try omega)) ?_
            simp [i12, ZC, G]
            repeat with_reducible refine ZK ?_
            refine V3 (t := 18) (j := 7) (i := (ZA a0 a1).1.toNat) (size := 2) (rows := (a0.ZB.map ZJ.row)) (ds := (YD (nth a0.ZB (ZA a0 a1).1.toNat) a1 (Zm (Zf a0.Frame.Z6 (Zh.mk (ZD (nth (nth (nth a0.ZB (ZA a0 a1).1.toNat).ZE (ZA a0 a1).2.toNat).ZL.ZH 1)).1.ZO a0.Frame.Now (-1) (nth a0.ZT (ZQ a0.ZT (ZD (nth (nth (nth a0.ZB (ZA a0 a1).1.toNat).ZE (ZA a0 a1).2.toNat).ZL.ZH 1)).1.ZO).toNat).Zq 0)).1)).1.row) (L := [(150, 1)]) ?_
            simp [Xv (x := (YD (nth a0.ZB (ZA a0 a1).1.toNat) a1 (Zm (Zf a0.Frame.Z6 (Zh.mk (ZD (nth (nth (nth a0.ZB (ZA a0 a1).1.toNat).ZE (ZA a0 a1).2.toNat).ZL.ZH 1)).1.ZO a0.Frame.Now (-1) (nth a0.ZT (ZQ a0.ZT (ZD (nth (nth (nth a0.ZB (ZA a0 a1).1.toNat).ZE (ZA a0 a1).2.toNat).ZL.ZH 1)).1.ZO).toNat).Zq 0)).1)).1) rfl, i12, ZC, YS, G]
            repeat with_reducible refine ZK ?_
            exact Jf [.cell 4 33, .tmp 5] f
theorem P4 (a0 : ZN) (a1 : Int) (u0 : Sm 2318336 a0) : Sd 79 [a0.row, rI a1] [(zm a0 a1).1.row, rB (zm a0 a1).2] := by
 have f := me (zm.eq_1 a0 a1)
 refine soD func79 ntmps79 ?_
 refine cDs [false, false, false, true, true, false, false, true, false, false, true, false] (Xd a0 (sg u0)) ?_
 refine cRs (Yc a1 0 (W ((a0.YX.length : Int) - 1))) ?_
 refine gIf ?_ ?_ <;> intro G
 ·have c1 := sl 2318336 a0.YX u0
  have w1 : IntKind.i64.wrap ((a0.YX.length : Int) - 1) = (a0.YX.length : Int) - 1 := YW (by omega) (by omega)
  have g1 := G; try simp [YA, w1] at g1
  have i1 := ik a1.toNat a0.YX
  simp [i1, ZC, G]
  refine rpG ?_
  refine cKo f ?_ ?_ <;> intro k1 h1 f
  ·try (simp [G] at h1; done)
   all_goals
    have q1 := h1; try simp [YA, w1] at q1
    simp [G]
    refine rpG ?_
    exact Jf [.cell 4 33, .tmp 5] f
  ·try (simp [G] at h1; done)
   all_goals
    have q1 := h1; try simp [YA, w1] at q1
    simp [i1, ZC, Xv (x := (W (a0.Frame.Now + 1))) rfl, G]
    refine rpG ?_
    refine IF (rv := [.cell 4 33, .tmp 5]) rfl ?_
    simp [f.h, G]
    all_goals (repeat' (first | exact Ot (by simp) (by simp) | refine And.intro ?_ ?_))
 ·have c2 := sl 2318336 a0.YX u0
  have w2 : IntKind.i64.wrap ((a0.YX.length : Int) - 1) = (a0.YX.length : Int) - 1 := YW (by omega) (by omega)
  refine cKo f ?_ ?_ <;> intro k2 h2 f
  ·try (simp [G] at h2; done)
   all_goals
    have q2 := h2; try simp [YA, w2] at q2
    simp [G]
    refine rpG ?_
    exact Jf [.cell 4 33, .tmp 5] f
  ·try (simp [G] at h2; done)
   all_goals
    have q2 := h2; try simp [YA, w2] at q2
    have i3 := ik a1.toNat a0.YX
    simp [i3, ZC, Xv (x := (W (a0.Frame.Now + 1))) rfl, G]
    refine rpG ?_
    refine IF (rv := [.cell 4 33, .tmp 5]) rfl ?_
    simp [f.h, G]
    all_goals (repeat' (first | exact Ot (by simp) (by simp) | refine And.intro ?_ ?_))
theorem KT (a0 : List Zg) (a1 : Int) : Sa 126 [rL 3 Zg.row a0, rI a1] [rI (Zj a0 a1)] := by
 have f := me (Zj.eq_1 a0 a1)
 refine so func126 ntmps126 ?_
 refine lp1 (K1.eq_2 a0 a1) (fun J => Yg 20 [eL 0 3 a0 Zg.row, eI 1 a1, eI 5 (J : Int)]) (fun n1 J => a0.length < n1 + J /\ J <= a0.length) (a0.length + 1) 0 (fun p1 J e1 j1 => ?_)
 refine cFf e1 ?_ ?_ <;> intro k2 h1 e1
 ·have i1 := ix h1
  have m2 := ml a0 (k2 0 _ rfl)
  have w1 := wr J
  simp [i1, ZC]
  refine rpS ?_
  refine cF e1 ?_ ?_ <;> intro k3 h2 e1
  ·have f := ms f e1
   exact rt [.tmp 4] f
  exact ny1 w1 e1
 have f := ms f e1
 exact rt [.tmp 4] f
theorem Hc (a0 : ZN) (a1 : List Int) : Sa 124 [a0.row, rL 1 iR a1] [rB (UP a0 a1)] := by
 have f := me (UP.eq_1 a0 a1)
 refine so func124 ntmps124 ?_
 refine lp1 (xb.eq_2 a0 a1) (fun J => Yg 76 [eL 1 1 a1 iR, eX 2 (a0.row.map .d), eI 5 (J : Int)]) (fun n1 J => a1.length < n1 + J /\ J <= a1.length) (a1.length + 1) 0 (fun p1 J e1 j1 => ?_)
 refine cF e1 ?_ ?_ <;> intro k2 h1 e1
 ·have i1 := ix h1
  have m2 := ml a1 (k2 1 _ rfl)
  have w1 := wr J
  refine dIo mixed ?_
  simp [i1, ZC]
  refine rpS ?_
  refine cRs (KT a0.Frame.ZM (nth a1 J)) ?_
  refine dIs mixed ?_
  refine gIf ?_ ?_ <;> intro G
  ·have i2 := ik (J - 1) a1
   have w2 : IntKind.i64.wrap ((J : Int) - 1) = (J : Int) - 1 := YW (by omega) (by omega)
   simp [i2, ZC, w2, Qs, G]
   refine rpG ?_
   refine gK (fun _ => ?_)
   simp [i1, ZC, G]
   refine rpG ?_
   refine cK e1 ?_ ?_ <;> intro k5 h2 e1
   ·have f := ms f e1
    exact rtg [.tmp 4] f
   ·refine dIo mixed ?_
    have i3 : (Zj a0.Frame.ZM (nth a1 J)).toNat < a0.Frame.ZM.length := by have := Xz a0.Frame.ZM (nth a1 J); exact il
    simp [i3, ZC, G]
    refine rpG ?_
    refine cRg (QG a0.Frame.Z6 (nth a0.Frame.ZM (Zj a0.Frame.ZM (nth a1 J)).toNat).Key) ?_
    refine dIg mixed ?_
    refine gJf G ?_ ?_ <;> intro G
    ·try (simp at G; done)
     all_goals
      have i4 : (YK a0.Frame.Z6 (nth a0.Frame.ZM (Zj a0.Frame.ZM (nth a1 J)).toNat).Key).toNat < a0.Frame.Z6.length := by have := Xu a0.Frame.Z6 (nth a0.Frame.ZM (Zj a0.Frame.ZM (nth a1 J)).toNat).Key; exact il
      simp [i4, ZC, G]
      refine rpG ?_
      refine cK e1 ?_ ?_ <;> intro k8 h3 e1
      ·have f := ms f e1
       exact rtg [.tmp 4] f
      ·exact ny1 (an w1 (an w2 G)) e1
    ·try (simp at G; done)
     all_goals
      refine cK e1 ?_ ?_ <;> intro k9 h4 e1
      ·have f := ms f e1
       exact rtg [.tmp 4] f
      ·simp [G] at h4
  ·refine sGg ?_
   refine cK e1 ?_ ?_ <;> intro pr h5 e1
   ·have f := ms f e1
    exact rtg [.tmp 4] f
   ·refine dIo mixed ?_
    have i7 : (Zj a0.Frame.ZM (nth a1 J)).toNat < a0.Frame.ZM.length := by have := Xz a0.Frame.ZM (nth a1 J); exact il
    simp [i7, ZC, G]
    refine rpG ?_
    refine cRg (QG a0.Frame.Z6 (nth a0.Frame.ZM (Zj a0.Frame.ZM (nth a1 J)).toNat).Key) ?_
    refine dIg mixed ?_
    refine gJf G ?_ ?_ <;> intro G
    ·try (simp at G; done)
     all_goals
      have i8 : (YK a0.Frame.Z6 (nth a0.Frame.ZM (Zj a0.Frame.ZM (nth a1 J)).toNat).Key).toNat < a0.Frame.Z6.length := by have := Xu a0.Frame.Z6 (nth a0.Frame.ZM (Zj a0.Frame.ZM (nth a1 J)).toNat).Key; exact il
      simp [i8, ZC, G]
      refine rpG ?_
      refine cK e1 ?_ ?_ <;> intro pS h6 e1
      ·have f := ms f e1
       exact rtg [.tmp 4] f
      ·exact ny1 (an w1 G) e1
    ·try (simp at G; done)
     all_goals
      refine cK e1 ?_ ?_ <;> intro lZ h7 e1
      ·have f := ms f e1
       exact rtg [.tmp 4] f
      ·simp [G] at h7
 have f := ms f e1
 exact rt [.tmp 4] f
theorem Pj (a0 : ZZ) (a1 : ZV) (u0 : Sm 2318336 a0) (u1 : Sm 2318336 a1) : Sd 183 [a0.row, a1.row] [rL 1 iR (zY a0 a1)] := by
 have f := me (zY.eq_1 a0 a1)
 refine soD func183 ntmps183 ?_
 refine lp2 (K6.eq_2 a0 a1) (fun J U => Yg 27 [eX 2 (a0.row.map .d), eX 3 (a1.row.map .d), (5, .one (.sref 5 0 0 J.length), [.arr false 1 (J.map iR)]), eI 6 (U : Int)]) (fun n1 J U => a0.ZY.length < n1 + U /\ U <= a0.ZY.length /\ J.length <= 0 + 1 * U) (a0.ZY.length + 1) ([] : List Int) 0 (fun p1 J U e1 j1 => ?_) (h0 := wkS [((5, 0), some (7, 0))] [])
 refine cF e1 ?_ ?_ <;> intro k2 h1 e1
 ·have i1 := ix h1
  have m2 := ml a0.ZY (k2 10 _ rfl)
  have c1 := sl 2318336 a0.ZY (an u0 u1)
  have w1 := wr U
  refine dIo mixed ?_
  simp [i1, ZC]
  refine rpS ?_
  refine cRs (j8 (nth a0.ZY U).Method a1 (sg u1)) ?_
  exact nx2 e1 (hw := Y5 [((5, 0), some (25, 0))] [] rfl (by simp [w1]))
 have c2 := sl 2318336 a0.ZY (an u0 u1)
 have f := ms f e1
 exact rtD [.tmp 4] f
theorem UR (a0 : Zr) : Sd 176 [a0.row] [rL 1 iR (KI a0)] := by
 have f := me (KI.eq_1 a0)
 refine soD func176 ntmps176 ?_
 exact rtD [.tmp 2] f
theorem jP (a0 : Int) (a1 : Zi) (u0 : Sm 2326528 a1) : Sa 222 [rI a0, a1.row] [rI (Kg a0 a1)] := by
 have f := me (Kg.eq_1 a0 a1)
 refine so func222 ntmps222 ?_
 refine lp2 (K3.eq_2 a1) (fun J U => Yg 75 [eI 0 a0, eX 3 (a1.row.map .d), (5, .one (.sref 5 0 0 J.length), [.arr false 1 (J.map iR)]), eI 6 (U : Int)]) (fun n1 J U => a1.Path.length < n1 + U /\ U <= a1.Path.length /\ J.length <= 4 + 2 * U) (a1.Path.length + 1) ([4, a1.Count, a1.Method, a1.Hp] : List Int) 0 (fun p1 J U e1 j1 => ?_) (h0 := wkS [((5, 0), some (14, 0))] [])
 refine cFo e1 ?_ ?_ <;> intro k2 h1 e1
 ·have q1 := h1; try simp at q1
  have i1 := ix h1
  have m2 := ml a1.Path (k2 17 _ rfl)
  have c1 := sl 2326528 a1.Path u0
  have w1 := wr U
  simp [i1, ZC]
  refine rpS ?_
  refine cFo e1 ?_ ?_ <;> intro k3 h2 e1
  ·have q2 := h2; try simp at q2
   simp
   refine rpS ?_
   exact nx2 e1 (hw := Y5 [((5, 0), some (39, 0))] [] rfl (by simp [w1]))
  have q2 := h2; try simp at q2
  simp
  refine rpS ?_
  exact nx2 e1 (hw := Y5 [((5, 0), some (42, 0))] [] rfl (by simp [w1]))
 have q1 := h1; try simp at q1
 have c2 := sl 2326528 a1.Path u0
 have f := ms f e1
 simp
 refine rpS ?_
 refine lp2 (xD.eq_2 a1) (fun wB wC => Yg 75 [eI 0 a0, eX 3 (a1.row.map .d), (5, .one (.sref 5 0 0 wB.length), [.arr false 1 (wB.map iR)]), eI 7 (wC : Int)]) (fun n2 wB wC => a1.YR.length < n2 + wC /\ wC <= a1.YR.length /\ wB.length <= 5 + 2 * 2326528 + 6 * wC) (a1.YR.length + 1) (J ++ ([(a1.YR.length : Int)] : List Int)) 0 (fun p2 wB wC e2 j2 => ?_) (hI := by (have o : a1.Path.length <= 2326528 := Yb (xs u0); simp at *; omega)) (h0 := wkS [((5, 0), some (48, 0))] [])
 try dsimp only at j2
 refine cFo e2 ?_ ?_ <;> intro k5 h3 e2
 ·have q3 := h3; try simp at q3
  have i2 := ix h3
  have m4 := ml a1.YR (k5 51 _ rfl)
  have c3 := sl 2326528 a1.YR u0
  have w2 := wr wC
  simp
  refine dIo mixed ?_
  simp [i2, ZC]
  refine rpS ?_
  refine cRf i2 (YN.rd (UR (nth a1.YR wC))) ?_
  exact nx2 e2 (hI := by (simp; omega)) (hw := Y5 [((5, 0), some (71, 0))] [] rfl (by simp [w2]))
 have q3 := h3; try simp at q3
 have c4 := sl 2326528 a1.YR u0
 have f := ms f e2
 simp
 refine cRs (JE a0 wB (by first | (simp (maxDischargeDepth := 12) [XA]; omega) | (simp (maxDischargeDepth := 12) [ZU (m := 68719476736) (by decide) u0]; done))) ?_
 exact rt [.tmp 4] f
theorem kj (a0 : Int) (a1 : List ZS) (u0 : Sm 2326528 a1) : Sa 236 [rI a0, rL 3 ZS.row a1] [rI (KD a0 a1)] := by
 have f := me (KD.eq_1 a0 a1)
 refine so func236 ntmps236 ?_
 refine lp2 (xZ.eq_2 a0 a1) (fun J U => Yg 39 [eI 0 a0, eL 1 3 a1 ZS.row, (5, .one (.sref 5 0 0 J.length), [.arr false 1 (J.map iR)]), eI 6 (U : Int)]) (fun n1 J U => a1.length < n1 + U /\ U <= a1.length /\ J.length <= 1 + 1 * U) (a1.length + 1) ([2] : List Int) 0 (fun p1 J U e1 j1 => ?_) (h0 := wkS [((5, 0), some (7, 0))] [])
 refine cF e1 ?_ ?_ <;> intro k2 h1 e1
 ·have i1 := ix h1
  have m2 := ml a1 (k2 1 _ rfl)
  have c1 := sl 2326528 a1 u0
  have w1 := wr U
  refine LQ [2, 3, 4, 5, 6, 7, 8, 9, 10, 11, 12, 13, 14, 15, 16, 17, 18, 0, 1, 19, 20, 21, 22] mixed (by kernel_rfl) (by kernel_rfl) (by kernel_rfl) ?_
  have c2 := sl 2326528 (nth a1 U).Z4 u0
  simp [i1, ZC]
  refine rpS ?_
  refine cRs (JE a0 (([(nth a1 U).Key, (nth a1 U).Mark] : List Int) ++ (nth a1 U).Z4) (by simp (maxDischargeDepth := 12) [JJ, XA, ZU (m := 68719476736) (by decide) u0]; try omega)) ?_
  exact nx2 e1 (hw := Y5 [((5, 0), some (35, 0))] [] rfl (by simp [w1]))
 have c3 := sl 2326528 a1 u0
 have f := ms f e1
 refine cRs (JE a0 J (by first | (simp (maxDischargeDepth := 12) [XA]; omega) | (simp (maxDischargeDepth := 12) [ZU (m := 68719476736) (by decide) u0]; done))) ?_
 exact rt [.tmp 4] f
theorem PI (a0 : Int) (a1 : Int) (a2 : List ZS) (a3 : Int) (u0 : Sm 2322432 a2) : Sa 223 [rI a0, rI a1, rL 3 ZS.row a2, rI a3] [rI (Sg a0 a1 a2 a3)] := by
 have f := me (Sg.eq_1 a0 a1 a2 a3)
 refine so func223 ntmps223 ?_
 refine cRs (kj a0 a2 (sg u0)) ?_
 refine cRs (JE a0 ([3, a1, (KD a0 a2), a3] : List Int) (by simp (maxDischargeDepth := 12) [JJ, XA, ZU (m := 68719476736) (by decide) u0]; try omega)) ?_
 exact rt [.tmp 8] f
theorem Xn {a b : Prop} (h : b) (k : a := by (intros; first | omega | with_unfolding_all (first | first | omega | (have cc : a0.ZY.length <= 2318336 := Yb (xs u0); have z0 := vh; simp at z0; have z := jx (by omega) z0.1; have z2 := z0.2; (try have w3 : IntKind.i64.wrap (a2 - 1) = a2 - 1 := YW (by omega) (by omega)); (try have w4 : W (a2 - 1) = a2 - 1 := w3); first | omega | (refine ⟨⟨z0.1, by omega⟩, by omega, by omega⟩) | (simp_all; omega))) | (simp_all; done) | (simp_all; omega) | grind | ((try simp only [XT, show ∀ x, IntKind.i64.wrap x = W x from fun _ => rfl] at *); omega))) : a /\ b := ⟨k, h⟩
theorem HY (a0 : ZZ) (a1 : List Int) (a2 : Int) (u0 : Sm 2318336 a0) (u1 : Sm 2318336 a1) : Sa 182 [a0.row, rL 1 iR a1, rI a2] [rI (NI a0 a1 a2)] := by
 have f := me (NI.eq_1 a0 a1 a2)
 refine so func182 ntmps182 ?_
 refine dIs mixed ?_
 refine cRs (Yc a2 0 (W ((a0.ZY.length : Int) - 1))) ?_
 refine gIo ?_ ?_ <;> intro G
 ·have vh := G
  have c1 := sl 2318336 a0.ZY (an u0 u1)
  have w1 : IntKind.i64.wrap ((a0.ZY.length : Int) - 1) = (a0.ZY.length : Int) - 1 := YW (by omega) (by omega)
  have g1 := G; try simp [YA, w1] at g1
  have i1 : a2.toNat < a0.ZY.length := by (have cc : a0.ZY.length <= 2318336 := Yb (xs u0); have z0 := vh; simp at z0; have z := jx (by omega) z0.1; have z2 := z0.2; (try have w3 : IntKind.i64.wrap (a2 - 1) = a2 - 1 := YW (by omega) (by omega)); (try have w4 : W (a2 - 1) = a2 - 1 := w3); omega)
  simp [i1, ZC, G]
  repeat with_reducible refine Xn ?_
  refine cGo (fun gg => (Yc (nth a0.ZY a2.toNat).Count 0 (a0.ZH.length : Int))) ?_
  simp [G]
  repeat with_reducible refine Xn ?_
  refine cKo f ?_ ?_ <;> intro k2 h1 f
  ·have q1 := h1; try simp [YA, w1] at q1
   simp [G]
   repeat with_reducible refine Xn ?_
   exact rtg [.tmp 6] f
  ·have q1 := h1; try simp [YA, w1] at q1
   simp [i1, ZC, G]
   repeat with_reducible refine Xn ?_
   refine cKo f ?_ ?_ <;> intro k3 h2 f
   ·have q2 := h2; try simp at q2
    have i2 : (W (a2 - 1)).toNat < a0.ZY.length := by (have cc : a0.ZY.length <= 2318336 := Yb (xs u0); have z0 := vh; simp at z0; have z := jx (by omega) z0.1; have z2 := z0.2; (try have w3 : IntKind.i64.wrap (a2 - 1) = a2 - 1 := YW (by omega) (by omega)); (try have w4 : W (a2 - 1) = a2 - 1 := w3); omega)
    simp [i2, ZC, G]
    repeat with_reducible refine Xn ?_
    refine cR (jP (nth a0.ZY a2.toNat).Method (nth a0.ZY (W (a2 - 1)).toNat) (sg (Zu (ZZ.Kl u0)))) ?_ (wP := by first | (simp; done) | (simp [W, w1]; done))
    simp [G]
    repeat with_reducible refine Xn ?_
    refine dIo mixed ?_
    have i3 : a2.toNat < a1.length := by (have cc : a0.ZY.length <= 2318336 := Yb (xs u0); have z0 := vh; simp at z0; have z := jx (by omega) z0.1; have z2 := z0.2; (try have w3 : IntKind.i64.wrap (a2 - 1) = a2 - 1 := YW (by omega) (by omega)); (try have w4 : W (a2 - 1) = a2 - 1 := w3); omega)
    simp [i3, ZC, i1, G]
    repeat with_reducible refine Xn ?_
    refine cR (PI (nth a0.ZY a2.toNat).Method (nth a1 a2.toNat) (a0.ZH.take (nth a0.ZY a2.toNat).Count.toNat) (Kg (nth a0.ZY a2.toNat).Method (nth a0.ZY (W (a2 - 1)).toNat)) (ZU (n := 2318336) (by decide) (xs (an u0 u1)))) ?_ (wP := by first | (simp; done) | (simp [W, w1]; done))
    simp [G]
    repeat with_reducible refine Xn ?_
    exact rtg [.tmp 6] f
   ·have q2 := h2; try simp at q2
    simp [G]
    repeat with_reducible refine Xn ?_
    refine dIo mixed ?_
    have i4 : a2.toNat < a1.length := by (have cc : a0.ZY.length <= 2318336 := Yb (xs u0); have z0 := vh; simp at z0; have z := jx (by omega) z0.1; have z2 := z0.2; (try have w3 : IntKind.i64.wrap (a2 - 1) = a2 - 1 := YW (by omega) (by omega)); (try have w4 : W (a2 - 1) = a2 - 1 := w3); omega)
    simp [i4, ZC, i1, G]
    repeat with_reducible refine Xn ?_
    refine cR (PI (nth a0.ZY a2.toNat).Method (nth a1 a2.toNat) (a0.ZH.take (nth a0.ZY a2.toNat).Count.toNat) 0 (ZU (n := 2318336) (by decide) (xs (an u0 u1)))) ?_
    simp [G]
    repeat with_reducible refine Xn ?_
    exact rtg [.tmp 6] f
 ·have vh := G
  simp [G]
  repeat with_reducible refine Xn ?_
  refine sGo ?_
  simp [G]
  repeat with_reducible refine Xn ?_
  have c2 := sl 2318336 a0.ZY (an u0 u1)
  have w2 : IntKind.i64.wrap ((a0.ZY.length : Int) - 1) = (a0.ZY.length : Int) - 1 := YW (by omega) (by omega)
  refine cKo f ?_ ?_ <;> intro k6 h3 f
  ·have q3 := h3; try simp [YA, w2] at q3
   simp [G]
   repeat with_reducible refine Xn ?_
   exact rtg [.tmp 6] f
  ·simp [G] at h3
theorem jc (a0 : ZJ) (a1 : Int) (u0 : Sm 2314240 a0) : Sd 134 [a0.row, rI a1] [rL 1 iR (YM a0 a1)] := by
 have f := me (YM.eq_1 a0 a1)
 refine soD func134 ntmps134 ?_
 refine lp2 (Kq.eq_2 a0 a1) (fun J U => Yg 51 [eI 1 a1, eX 2 (a0.row.map .d), (5, .one (.sref 5 0 0 J.length), [.arr false 1 (J.map iR)]), eI 6 (U : Int)]) (fun n1 J U => a0.ZE.length < n1 + U /\ U <= a0.ZE.length /\ J.length <= 0 + 1 * U) (a0.ZE.length + 1) ([] : List Int) 0 (fun p1 J U e1 j1 => ?_) (h0 := wkS [((5, 0), some (8, 0))] [])
 refine cFf e1 ?_ ?_ <;> intro k2 h1 e1
 ·have i1 := ix h1
  have m2 := ml a0.ZE (k2 11 _ rfl)
  have c1 := sl 2314240 a0.ZE u0
  have w1 := wr U
  simp [i1, ZC]
  refine rpS ?_
  refine cOs (YN.own (Kn (nth a0.ZE U).ZL (sg (Zk.X9 (Zu (ZJ.Y4 u0)))))) ?_
  refine eIs ?_
  have c2 := sl 2314240 (nth a0.ZE U).ZL.ZY u0
  refine eIs ?_
  refine dIo mixed ?_
  simp [i1, ZC]
  refine rpS ?_
  refine cDs [false] (Pj (ZZ.mk (nth a0.ZE U).ZL.ZH ((nth a0.ZE U).ZL.ZY ++ ([(Zi.mk ((nth a0.ZE U).ZL.ZH.length : Int) a1 0 ([] : List QB) ([] : List Zr))] : List Zi))) (nth a0.ZE U).Doc (by (first | (exact JD (s := (nth a0.ZE U).ZL) (by decide) (show Sm 2314240 _ by simp (maxDischargeDepth := 12) [u0]) (by simp)) | (refine yI ?_; exact JD (s := (nth a0.ZE U).ZL) (by decide) (show Sm 2314240 _ by simp (maxDischargeDepth := 12) [u0]) (by simp)) | (exact ZU (n := 2314240) (by decide) (xs u0)))) (by (first | (exact JD (s := (nth a0.ZE U).ZL) (by decide) (show Sm 2314240 _ by simp (maxDischargeDepth := 12) [u0]) (by simp)) | (refine yI ?_; exact JD (s := (nth a0.ZE U).ZL) (by decide) (show Sm 2314240 _ by simp (maxDischargeDepth := 12) [u0]) (by simp)) | (exact ZU (n := 2314240) (by decide) (xs u0))))) ?_
  refine cRs (HY (ZZ.mk (nth a0.ZE U).ZL.ZH ((nth a0.ZE U).ZL.ZY ++ ([(Zi.mk ((nth a0.ZE U).ZL.ZH.length : Int) a1 0 ([] : List QB) ([] : List Zr))] : List Zi))) (zY (ZZ.mk (nth a0.ZE U).ZL.ZH ((nth a0.ZE U).ZL.ZY ++ ([(Zi.mk ((nth a0.ZE U).ZL.ZH.length : Int) a1 0 ([] : List QB) ([] : List Zr))] : List Zi))) (nth a0.ZE U).Doc) (W ((((nth a0.ZE U).ZL.ZY ++ ([(Zi.mk ((nth a0.ZE U).ZL.ZH.length : Int) a1 0 ([] : List QB) ([] : List Zr))] : List Zi)).length : Int) - 1)) (by (first | (exact JD (s := (nth a0.ZE U).ZL) (by decide) (show Sm 2314240 _ by simp (maxDischargeDepth := 12) [u0]) (by simp)) | (refine yI ?_; exact JD (s := (nth a0.ZE U).ZL) (by decide) (show Sm 2314240 _ by simp (maxDischargeDepth := 12) [u0]) (by simp)) | (exact ZU (n := 2314240) (by decide) (xs u0)))) (by (first | (exact JD (s := (nth a0.ZE U).ZL) (by decide) (show Sm 2314240 _ by simp (maxDischargeDepth := 12) [u0]) (by simp)) | (refine yI ?_; exact JD (s := (nth a0.ZE U).ZL) (by decide) (show Sm 2314240 _ by simp (maxDischargeDepth := 12) [u0]) (by simp)) | (exact ZU (n := 2314240) (by decide) (xs u0))))) ?_ (wP := by first | (simp; done) | (simp [W, w1]; done))
  exact nx2 e1 (hw := Y5 [((5, 0), some (49, 0))] [] rfl (by simp [w1]))
 have c3 := sl 2314240 a0.ZE u0
 have f := ms f e1
 exact rtD [.tmp 4] f
theorem OD (a0 : Int) (a1 : Int) (a2 : Int) : Sa 234 [rI a0, rI a1, rI a2] [rI (W0 a0 a1 a2)] := by
 have f := me (W0.eq_1 a0 a1 a2)
 refine so func234 ntmps234 ?_
 refine cRs (JE a0 ([1, a1, a2] : List Int) (by simp (maxDischargeDepth := 12) [JJ, XA]; try omega)) ?_
 exact rt [.tmp 6] f
theorem VR (a0 : Int) (a1 : List Int) (u0 : Sm 2322432 a1) : Sd 218 [rI a0, rL 1 iR a1] [rL 1 iR (kZ a0 a1)] := by
 have f := me (kZ.eq_1 a0 a1)
 refine soD func218 ntmps218 ?_
 refine lp2 (xn.eq_2 a0 a1) (fun J U => Yg 41 [eI 0 a0, eL 1 1 a1 iR, (5, .one (.sref 5 0 0 J.length), [.arr false 1 (J.map iR)]), eI 6 (U : Int)]) (fun n1 J U => a1.length < n1 + U /\ U <= a1.length + 1 /\ J.length <= U) (a1.length + 1) ([] : List Int) 0 (fun p1 J U e1 j1 => ?_) (h0 := wkS [((5, 0), some (7, 0))] [])
 try dsimp only at j1
 refine cF e1 ?_ ?_ <;> intro k2 h1 e1
 ·have i1 := ix h1
  have m2 := ml a1 (k2 1 _ rfl)
  have c1 := sl 2322432 a1 u0
  have w1 := wr U
  refine cFt e1 ?_ ?_ <;> intro k3 h2 e1
  ·refine okD fun k4 => ?_
   refine dIo mixed ?_
   have i2 := ik (W ((U : Int) + 1)).toNat a1
   simp [i1, ZC, i2]
   refine rpS ?_
   refine cRs (OD a0 (nth a1 U) (nth a1 (W ((U : Int) + 1)).toNat)) ?_ (wP := by first | (simp; done) | (simp [W, w1]; done))
   have w2 : IntKind.i64.wrap ((U : Int) + 2) = (U : Int) + 2 := YW (by omega) (by omega)
   exact nx2 e1 (hI := by first | omega | (simp at *; omega)) (hw := Y5 [((5, 0), some (32, 0))] [] rfl (by simp [w1, w2]))
  simp [i1, ZC]
  refine rpS ?_
  have w3 : IntKind.i64.wrap ((U : Int) + 2) = (U : Int) + 2 := YW (by omega) (by omega)
  exact nx2 e1 (hI := by first | omega | (simp at *; omega)) (hw := Y5 [((5, 0), some (39, 0))] [] rfl (by simp [w1, w3]))
 have c2 := sl 2322432 a1 u0
 have f := ms f e1
 exact rtD [.tmp 4] f
theorem WH (a0 : Int) (a1 : List Int) (u0 : Sm 2318336 a1) : Sa 174 [rI a0, rL 1 iR a1] [rI (Jp a0 a1)] := by
 have f := me (Jp.eq_1 a0 a1)
 refine so func174 ntmps174 ?_
 refine cRs (Yc (a1.length : Int) 1 16) ?_
 refine cFo f ?_ ?_ <;> intro k1 h1 f
 ·have q1 := h1; try simp [YA] at q1
  simp
  exact rt [.tmp 4] f
 have q1 := h1; try simp [YA] at q1
 have c1 := sl 2318336 a1 u0
 simp
 refine rpS ?_
 refine lp1 (VQ.eq_2 a0) (fun J => Yg 22 [eI 0 a0, (5, .one (.sref 5 0 0 J.length), [.arr false 1 (J.map iR)])]) (fun n1 J => J.length < n1 /\ 1 <= J.length /\ J.length <= 16) (a1.length + 1) a1 (fun p1 J e1 j1 => ?_) (hI := by first | omega | (simp at *; omega)) (h0 := wkS [((5, 0), some (12, 0))] [])
 try dsimp only at j1
 refine cFt e1 ?_ ?_ <;> intro k3 h2 e1
 ·refine cDs [false] (VR a0 J (by first | (simp (maxDischargeDepth := 12) [XA]; omega) | (simp (maxDischargeDepth := 12) [ZU (m := 2322432) (by decide) u0]; done))) ?_
  exact nx1 e1 (hI := by (have z := kX a0 J (by omega); (try dsimp only); simp at *; omega)) (hw := wkS [((5, 0), some (18, 0))] [])
 have f := ms f e1
 have i1 := ik 0 J
 simp [i1, ZC]
 refine rpS ?_
 exact rt [.tmp 4] f
theorem IZ (a0 : ZJ) (a1 : Int) (u0 : Sm 2310144 a0) : Sa 125 [a0.row, rI a1] [rI (zn a0 a1)] := by
 have f := me (zn.eq_1 a0 a1)
 refine so func125 ntmps125 ?_
 refine cRs (YN.rd (jc a0 a1 (sg u0))) ?_
 refine cRs (WH a1 (YM a0 a1) (by simp (maxDischargeDepth := 12) [y6, ZU (m := 2318336) (by decide) u0]; try omega)) ?_
 exact rt [.tmp 4] f
theorem T4 (a0 : List Int) (a1 : Int) : Sa 127 [rL 1 iR a0, rI a1] [rB (SC a0 a1)] := by
 have f := me (SC.eq_1 a0 a1)
 refine so func127 ntmps127 ?_
 refine lp1 (RQ.eq_2 a0 a1) (fun J => Yg 18 [eL 0 1 a0 iR, eI 1 a1, eI 5 (J : Int)]) (fun n1 J => a0.length < n1 + J /\ J <= a0.length) (a0.length + 1) 0 (fun p1 J e1 j1 => ?_)
 refine cFf e1 ?_ ?_ <;> intro k2 h1 e1
 ·have i1 := ix h1
  have m2 := ml a0 (k2 0 _ rfl)
  have w1 := wr J
  simp [i1, ZC]
  refine rpS ?_
  refine cF e1 ?_ ?_ <;> intro k3 h2 e1
  ·have f := ms f e1
   exact rt [.tmp 4] f
  exact ny1 w1 e1
 have f := ms f e1
 exact rt [.tmp 4] f
theorem jw (a0 : List Yj) (a1 : List Zg) (a2 : Zr) (u0 : Sm 2322432 a0) (u1 : Sm 2322432 a1) : Sa 128 [rL 5 Yj.row a0, rL 3 Zg.row a1, a2.row] [(Jl a0 a1 a2).1.row, rB (Jl a0 a1 a2).2] := by
 have f := me (Jl.eq_1 a0 a1 a2)
 refine so func128 ntmps128 ?_
 refine cRs (KT a1 a2.Authority) ?_
 refine cGs (fun gg => (qK a2.Time)) ?_
 refine cFt f ?_ ?_ <;> intro k1 h1 f
 ·exact rt [.cell 6 193, .tmp 7] f
 have i1 : (Zj a1 a2.Authority).toNat < a1.length := by have := Xz a1 a2.Authority; exact il
 simp [i1, ZC]
 refine rpS ?_
 refine cRs (QG a0 (nth a1 (Zj a1 a2.Authority).toNat).Key) ?_
 refine cF f ?_ ?_ <;> intro k2 h2 f
 ·exact rt [.cell 6 193, .tmp 7] f
 refine dIo mixed ?_
 have i2 : (YK a0 (nth a1 (Zj a1 a2.Authority).toNat).Key).toNat < a0.length := by have := Xu a0 (nth a1 (Zj a1 a2.Authority).toNat).Key; exact il
 simp [i2, ZC]
 refine rpS ?_
 refine cRs (YN.rd (UR a2)) ?_
 refine cRs (xz (nth a0 (YK a0 (nth a1 (Zj a1 a2.Authority).toNat).Key).toNat) (KI a2) (by simp (maxDischargeDepth := 12) [Nm, ZU (m := 2326528) (by decide) u0, ZU (m := 2326528) (by decide) u1]; try omega)) ?_
 exact rt [.cell 6 193, .tmp 7] f
theorem WE {a b : Prop} (h : b) (k : a := by (intros; first | omega | with_unfolding_all (first | first | omega | (have tm := Int.tmod_eq_emod_of_nonneg (b := 2) (show 0 <= J by omega); (try simp only [XT, show ∀ x, IntKind.i64.wrap x = W x from fun _ => rfl] at *); (try simp at *); omega)) | ((try simp only [XT, show ∀ x, IntKind.i64.wrap x = W x from fun _ => rfl] at *); omega))) : a /\ b := ⟨k, h⟩
theorem M4 (a0 : Int) (a1 : List Int) (a2 : Int) (u0 : Sm 2318336 a1) : Sd 177 [rI a0, rL 1 iR a1, rI a2] [rL 2 QB.row (KP a0 a1 a2)] := by
 have f := me (KP.eq_1 a0 a1 a2)
 refine soD func177 ntmps177 ?_
 refine cGs (fun gg => (Yc a2 0 (W ((a1.length : Int) - 1)))) ?_
 have c1 := sl 2318336 a1 u0
 have w1 : IntKind.i64.wrap ((a1.length : Int) - 1) = (a1.length : Int) - 1 := YW (by omega) (by omega)
 refine cFo f ?_ ?_ <;> intro k1 h1 f
 ·have q1 := h1; try simp [YA, w1] at q1
  simp
  exact rtD [.tmp 6] f
 have q1 := h1; try simp [YA, w1] at q1
 simp
 repeat with_reducible refine WE ?_
 refine lp3 (KU.eq_2 a0) (fun J U wD => Yg 60 [eI 0 a0, eI 2 J, (7, .one (.sref 7 0 0 U.length), [.arr false 2 (U.map QB.row)]), (8, .one (.sref 8 0 0 wD.length), [.arr false 1 (wD.map iR)])]) (fun n1 J U wD => wD.length < n1 /\ 0 <= J /\ J < (wD.length : Int) /\ wD.length <= 16 /\ U.length + n1 <= 17) (a1.length + 1) a2 ([] : List QB) a1 (fun p1 J U wD e1 j1 => ?_) (hI := by first | omega | (simp at *; omega)) (h0 := wkS [((7, 0), some (9, 0)), ((8, 0), some (24, 0))] [])
 try dsimp only at j1
 refine cF e1 ?_ ?_ <;> intro k3 h2 e1
 ·refine cFf e1 ?_ ?_ <;> intro k4 h3 e1
  ·have i1 : (W (J - 1)).toNat < wD.length := by first | omega | (have tm := Int.tmod_eq_emod_of_nonneg (b := 2) (show 0 <= J by omega); (try simp only [XT, show ∀ x, IntKind.i64.wrap x = W x from fun _ => rfl] at *); (try simp at *); omega)
   simp [i1, ZC]
   repeat with_reducible refine WE ?_
   refine cDs [false] (VR a0 wD (by first | (simp (maxDischargeDepth := 12) [XA]; omega) | (simp (maxDischargeDepth := 12) [ZU (m := 2322432) (by decide) u0]; done))) ?_
   exact nx3 e1 (hI := by (have z := kX a0 wD (by omega); have td := Int.tdiv_eq_ediv_of_nonneg (b := 2) (show 0 <= J by omega); have w2 : W (Int.tdiv J 2) = Int.tdiv J 2 := YW (by omega) (by omega); (try dsimp only); rw [w2]; simp at *; omega)) (hw := Y5 [((7, 0), some (39, 0)), ((8, 0), some (56, 0))] [] rfl (by simp [w1]))
  refine cFo e1 ?_ ?_ <;> intro k5 h4 e1
  ·have q4 := h4; try simp [w1] at q4
   have i2 : (W (J + 1)).toNat < wD.length := by first | omega | (have tm := Int.tmod_eq_emod_of_nonneg (b := 2) (show 0 <= J by omega); (try simp only [XT, show ∀ x, IntKind.i64.wrap x = W x from fun _ => rfl] at *); (try simp at *); omega)
   simp [i2, ZC]
   repeat with_reducible refine WE ?_
   refine cDs [false] (VR a0 wD (by first | (simp (maxDischargeDepth := 12) [XA]; omega) | (simp (maxDischargeDepth := 12) [ZU (m := 2322432) (by decide) u0]; done))) ?_
   exact nx3 e1 (hI := by (have z := kX a0 wD (by omega); have td := Int.tdiv_eq_ediv_of_nonneg (b := 2) (show 0 <= J by omega); have w2 : W (Int.tdiv J 2) = Int.tdiv J 2 := YW (by omega) (by omega); (try dsimp only); rw [w2]; simp at *; omega)) (hw := Y5 [((7, 0), some (53, 0)), ((8, 0), some (56, 0))] [] rfl (by simp [w1]))
  have q4 := h4; try simp [w1] at q4
  simp
  refine cDs [false] (VR a0 wD (by first | (simp (maxDischargeDepth := 12) [XA]; omega) | (simp (maxDischargeDepth := 12) [ZU (m := 2322432) (by decide) u0]; done))) ?_
  exact nx3 e1 (hI := by (have z := kX a0 wD (by omega); have td := Int.tdiv_eq_ediv_of_nonneg (b := 2) (show 0 <= J by omega); have w2 : W (Int.tdiv J 2) = Int.tdiv J 2 := YW (by omega) (by omega); (try dsimp only); rw [w2]; simp at *; omega)) (hw := Y5 [((8, 0), some (56, 0))] [] rfl (by simp [w1]))
 have f := ms f e1
 exact rtD [.tmp 6] f
theorem Vt (a0 : ZZ) (a1 : Zi) (u0 : Sm 2326528 a0) (u1 : Sm 2326528 a1) : Sd 135 [a0.row, a1.row] [(Xi a0 a1).1.row, rB (Xi a0 a1).2] := by
 have f := me (Xi.eq_1 a0 a1)
 refine soD func135 ntmps135 ?_
 refine cDs [] (Kn a0 (sg u0)) ?_
 refine drJ [14] mixed ?_
 simp
 refine cDs [true, true, true, false, false] (TW a1 (sg u1)) ?_
 refine Wc ?_
 have c1 := sl 2326528 a0.ZY (an u0 u1)
 simp
 refine VV (wH := (a0.ZY.map Zi.row)) (news := (([a1] : List Zi).map Zi.row)) (l1 := [(8, 1)]) (l2 := [(12, 3), (12, 4)]) (size := 5) ?_
 simp
 refine cRs (WB (ZZ.mk a0.ZH (a0.ZY ++ ([a1] : List Zi)))) ?_
 refine cF f ?_ ?_ <;> intro k2 h1 f
 ·refine cDs [] (Kn a0 (sg u0)) ?_
  exact rtD [.cell 4 58, .tmp 5] f
 exact rtD [.cell 4 58, .tmp 5] f
theorem Ro (a0 : ZJ) (a1 : Int) (a2 : List Zr) (u0 : Sm 2310144 a0) (u1 : Sm 2310144 a2) : Sd 129 [a0.row, rI a1, rL 5 Zr.row a2] [(Xf a0 a1 a2).1.row, rB (Xf a0 a1 a2).2] := by
 have f := me (Xf.eq_1 a0 a1 a2)
 refine soD func129 ntmps129 ?_
 refine cDs [] (XN a0 (sg u0)) ?_
 refine cRs (YN.rd (jc a0 a1 (sg u0))) ?_
 refine cRs (WH a1 (YM a0 a1) (by simp (maxDischargeDepth := 12) [y6, ZU (m := 2318336) (by decide) u0, ZU (m := 2318336) (by decide) u1]; try omega)) ?_
 refine cRs (zT a0) ?_
 refine lp3 (Qp.eq_2 a0 a1 a2) (fun J U wD => Yg 84 [eI 1 a1, eL 2 5 a2 Zr.row, eX 3 (a0.row.map .d), (6, .one (.bptr 6 0), [.box [.d (.int .i64 0), .nil 16]]), (8, .one (.bptr 8 0), [.box [.d (.int .i64 a0.Id), .sref 16 1 0 wD.length]]), eL 9 1 (YM a0 a1) iR, eI 10 (Jp a1 (YM a0 a1)), eB 11 J, eI 12 (U : Int), (16, .any, [.none, .arr true 16 (wD.map Zk.row)])]) (fun n1 J U wD => a0.ZE.length < n1 + U /\ U <= a0.ZE.length /\ wD.length = a0.ZE.length) (a0.ZE.length + 1) ((X6 a0) && (decide ((a0.ZE.length : Int) > 0))) 0 a0.ZE (fun p1 J U wD e1 j1 => ?_)
 refine cF e1 ?_ ?_ <;> intro k2 h1 e1
 ·have i1 : U < a0.ZE.length := by (simp at h1; omega)
  have m2 := ml a0.ZE (k2 33 _ rfl)
  have c1 := sl 2310144 a0.ZE (an u0 u1)
  have w1 := wr U
  refine dIo mixed ?_
  simp [i1, ZC]
  refine rpS ?_
  refine cRs (YN.rd (M4 a1 (YM a0 a1) (U : Int) (by simp (maxDischargeDepth := 12) [y6, ZU (m := 2318336) (by decide) u0, ZU (m := 2318336) (by decide) u1]; try omega))) ?_
  have i2 := ik U wD
  refine cDf i2 [] (Vt (nth a0.ZE U).ZL (Zi.mk ((nth a0.ZE U).ZL.ZH.length : Int) a1 (Jp a1 (YM a0 a1)) (KP a1 (YM a0 a1) (U : Int)) a2) (sg (Zk.X9 (Zu (ZJ.Y4 u0)))) (by simp (maxDischargeDepth := 12) [TP, y6, ZU (m := 2326528) (by decide) u0, ZU (m := 2326528) (by decide) u1]; try omega)) ?_
  refine Ck (t := 16) (j := 1) (i := U) (c := 14) (size := 16) (rows := (wD.map Zk.row)) (ds := (Xi (nth a0.ZE U).ZL (Zi.mk ((nth a0.ZE U).ZL.ZH.length : Int) a1 (Jp a1 (YM a0 a1)) (KP a1 (YM a0 a1) (U : Int)) a2)).1.row) (L := [(64, 0), (64, 1)]) rfl rfl rfl rfl (by simp) (by simp) (by simp; try omega) (by simp) (by simp) (by simp) (by simp) (by simp) (by simp) ?_
  simp [Xv (x := (Zk.mk (nth wD U).Id (nth wD U).Yw (nth wD U).Doc (nth wD U).Sig (Xi (nth a0.ZE U).ZL (Zi.mk ((nth a0.ZE U).ZL.ZH.length : Int) a1 (Jp a1 (YM a0 a1)) (KP a1 (YM a0 a1) (U : Int)) a2)).1)) rfl, i2, ZC, YS]
  refine rpS ?_
  exact ny3 w1 e1
 have c2 := sl 2310144 a0.ZE (an u0 u1)
 have f := ms f e1
 refine cGs (fun gg => (zT (ZJ.mk a0.Id wD))) ?_
 refine cF f ?_ ?_ <;> intro k4 h2 f
 ·refine cDs [] (XN a0 (sg u0)) ?_
  exact rtD [.cell 6 38, .tmp 7] f
 exact rtD [.cell 6 38, .tmp 7] f
theorem XM {a b : Prop} (h : b) (k : a := by (intros; first | omega | with_unfolding_all (first | first | omega | (have z := QL (a0 := a0) (a1 := a2) (j := U) (by have z1 := h1; simp at z1; simp [z1]) (by omega); omega) | (have z := QL (a0 := a0) (a1 := a2) (j := wB) (by have z1 := h1; simp at z1; simp [z1]) (by omega); omega)) | ((try simp only [XT, show ∀ x, IntKind.i64.wrap x = W x from fun _ => rfl] at *); omega))) : a /\ b := ⟨k, h⟩
theorem Nl (a0 : ZN) (a1 : Int) (a2 : List Int) (a3 : Int) (u0 : Sm 2306048 a0) (u1 : Sm 2306048 a2) : Sd 80 [a0.row, rI a1, rL 1 iR a2, rI a3] [(zN a0 a1 a2 a3).1.row, rB (zN a0 a1 a2 a3).2] := by
 have f := me (zN.eq_1 a0 a1 a2 a3)
 refine soD func80 ntmps80 ?_
 refine cDs [false, false, false, true, true, false, false, true, false, false, true, false] (Xd a0 (sg u0)) ?_
 refine cRs (yL a0.Frame.Methods a0.Frame.Now) ?_
 refine cRs (yb a0 a1) ?_
 refine cGs (fun gg => (Hc a0 a2)) ?_
 refine cGs (fun gg => (Yc a3 (-10000) 10000)) ?_
 have c1 := sl 2306048 a0.ZB (an u0 u1)
 have w1 : IntKind.i64.wrap ((a0.ZB.length : Int) - 1) = (a0.ZB.length : Int) - 1 := YW (by omega) (by omega)
 refine cFo f ?_ ?_ <;> intro k1 h1 f
 ·have q1 := h1; try simp [YA, w1, Xt] at q1
  simp
  exact rtD [.cell 8 33, .tmp 9] f
 have q1 := h1; try simp [YA, w1, Xt] at q1
 have i1 : a1.toNat < a0.ZB.length := by first | omega | (have z := QL (a0 := a0) (a1 := a2) (j := U) (by have z1 := h1; simp at z1; simp [z1]) (by omega); omega) | (have z := QL (a0 := a0) (a1 := a2) (j := wB) (by have z1 := h1; simp at z1; simp [z1]) (by omega); omega)
 simp [i1, ZC]
 repeat with_reducible refine XM ?_
 refine cRs (IZ (nth a0.ZB a1.toNat) (Zc a0.Frame.Methods a0.Frame.Now) (sg (Zu (ZN.YQ u0)))) ?_
 refine lp2 (Qd.eq_2 a0 a1 a2 a3) (fun J U => Yg 162 [eI 1 a1, eL 2 1 a2 iR, eI 3 a3, eX 4 (a0.row.map .d), (8, .one (.bptr 8 0), [.box [.nil 5, .nil 3, .nil 4, .d (.int .i64 0), .d (.int .i64 0), .nil 7, .nil 1, .nil 2, .nil 1, .nil 1, .d (.int .i64 0), .nil 1]]), (10, .one (.bptr 10 0), [.box [.sref 24 0 0 a0.Frame.Z6.length, .sref 24 1 0 a0.Frame.ZM.length, .sref 24 2 0 a0.Frame.Methods.length, .d (.int .i64 a0.Frame.Kk), .d (.int .i64 a0.Frame.Now), .sref 24 5 0 a0.ZT.length, .sref 24 6 0 a0.YX.length, .sref 24 7 0 a0.ZB.length, .sref 24 8 0 a0.QA.length, .sref 24 9 0 a0.XK.length, .d (.int .i64 a0.Next), .sref 24 11 0 a0.XJ.length]]), eI 11 (Zc a0.Frame.Methods a0.Frame.Now), eI 12 (zn (nth a0.ZB a1.toNat) (Zc a0.Frame.Methods a0.Frame.Now)), (13, .one (.sref 13 0 0 J.length), [.arr false 5 (J.map Zr.row)]), eI 14 (U : Int), (24, .any, [.arr false 5 (a0.Frame.Z6.map Yj.row), .arr false 3 (a0.Frame.ZM.map Zg.row), .arr false 4 (a0.Frame.Methods.map YJ.row), .none, .none, .arr false 7 (a0.ZT.map YY.row), .arr false 1 (a0.YX.map iR), .arr true 2 (a0.ZB.map ZJ.row), .arr false 1 (a0.QA.map iR), .arr false 1 (a0.XK.map iR), .none, .arr false 1 (a0.XJ.map iR)])]) (fun n1 J U => a2.length < n1 + U /\ U <= a2.length /\ J.length <= 0 + 1 * U) (a2.length + 1) ([] : List Zr) 0 (fun p1 J U e1 j1 => ?_) (h0 := wkS [((13, 0), some (59, 0))] [])
 try dsimp only at j1
 refine cFt e1 ?_ ?_ <;> intro k3 h2 e1
 ·have i2 := ix h2
  have m2 := ml a2 (k3 2 _ rfl)
  have c2 := sl 2306048 a2 (an u0 u1)
  have w2 := wr U
  refine dIo mixed ?_
  simp [i2, ZC]
  repeat with_reducible refine XM ?_
  refine cRs (KT a0.Frame.ZM (nth a2 U)) ?_
  refine dIo mixed ?_
  simp [i2, ZC]
  repeat with_reducible refine XM ?_
  refine cRs (T4 a0.XK (nth a2 U)) ?_
  refine cF e1 ?_ ?_ <;> intro k6 h3 e1
  ·refine cRs (Ns 0 (W (a0.Frame.Now + a3))) ?_ (wP := by first | (simp; done) | (simp [W, w1, w2]; done))
   refine cRs (Hf 10000 (Vz 0 (W (a0.Frame.Now + a3)))) ?_ (wP := by first | (simp; done) | (simp [W, w1, w2]; done))
   refine dIo mixed ?_
   have i3 : (Zj a0.Frame.ZM (nth a2 U)).toNat < a0.QA.length := by have := Xz a0.Frame.ZM (nth a2 U); first | omega | (have z := QL (a0 := a0) (a1 := a2) (j := U) (by have z1 := h1; simp at z1; simp [z1]) (by omega); omega) | (have z := QL (a0 := a0) (a1 := a2) (j := wB) (by have z1 := h1; simp at z1; simp [z1]) (by omega); omega)
   simp [i2, ZC, i3]
   repeat with_reducible refine XM ?_
   refine cRs (jw a0.Frame.Z6 a0.Frame.ZM (Zr.mk (nth a2 U) (nth a0.QA (Zj a0.Frame.ZM (nth a2 U)).toNat) (PM 10000 (Vz 0 (W (a0.Frame.Now + a3)))) (zn (nth a0.ZB a1.toNat) (Zc a0.Frame.Methods a0.Frame.Now)) 0) (sg (Ze.Yo (ZN.Xj u0))) (sg (Ze.Xc (ZN.Xj u0)))) ?_ (wP := by first | (simp; done) | (simp [W, w1, w2]; done))
   refine cFo e1 ?_ ?_ <;> intro k8 h4 e1
   ·have q4 := h4; try simp [w1] at q4
    have f := ms f e1
    simp
    exact rtD [.cell 8 33, .tmp 9] f
   have q4 := h4; try simp [w1] at q4
   simp
   repeat with_reducible refine XM ?_
   exact nx2 e1 (hw := Y5 [((13, 0), some (117, 0))] [] rfl (by simp [w1, w2]))
  refine dIo mixed ?_
  have i4 : (Zj a0.Frame.ZM (nth a2 U)).toNat < a0.QA.length := by have := Xz a0.Frame.ZM (nth a2 U); first | omega | (have z := QL (a0 := a0) (a1 := a2) (j := U) (by have z1 := h1; simp at z1; simp [z1]) (by omega); omega) | (have z := QL (a0 := a0) (a1 := a2) (j := wB) (by have z1 := h1; simp at z1; simp [z1]) (by omega); omega)
  simp [i2, ZC, i4]
  repeat with_reducible refine XM ?_
  refine cRs (jw a0.Frame.Z6 a0.Frame.ZM (Zr.mk (nth a2 U) (nth a0.QA (Zj a0.Frame.ZM (nth a2 U)).toNat) a0.Frame.Now (zn (nth a0.ZB a1.toNat) (Zc a0.Frame.Methods a0.Frame.Now)) 0) (sg (Ze.Yo (ZN.Xj u0))) (sg (Ze.Xc (ZN.Xj u0)))) ?_
  refine cFt e1 ?_ ?_ <;> intro pr h5 e1
  ·have f := ms f e1
   exact rtD [.cell 8 33, .tmp 9] f
  simp
  repeat with_reducible refine XM ?_
  exact nx2 e1 (hw := Y5 [((13, 0), some (117, 0))] [] rfl (by simp [w1, w2]))
 have c3 := sl 2306048 a2 (an u0 u1)
 have f := ms f e1
 simp [i1, ZC]
 repeat with_reducible refine XM ?_
 refine cDs [] (Ro (nth a0.ZB a1.toNat) (Zc a0.Frame.Methods a0.Frame.Now) J (sg (Zu (ZN.YQ u0))) (by first | (simp (maxDischargeDepth := 12) [XA]; omega) | (simp (maxDischargeDepth := 12) [ZU (m := 2310144) (by decide) u0, ZU (m := 2310144) (by decide) u1]; done))) ?_
 refine cF f ?_ ?_ <;> intro pK h6 f
 ·exact rtD [.cell 8 33, .tmp 9] f
 refine lp2 (z8.eq_2 a0 a2) (fun wB wC => Yg 162 [eI 1 a1, eL 2 1 a2 iR, eX 4 (a0.row.map .d), (8, .one (.bptr 8 0), [.box [.nil 5, .nil 3, .nil 4, .d (.int .i64 0), .d (.int .i64 0), .nil 7, .nil 1, .nil 2, .nil 1, .nil 1, .d (.int .i64 0), .nil 1]]), (10, .one (.bptr 10 0), [.box [.sref 24 0 0 a0.Frame.Z6.length, .sref 24 1 0 a0.Frame.ZM.length, .sref 24 2 0 a0.Frame.Methods.length, .d (.int .i64 a0.Frame.Kk), .d (.int .i64 a0.Frame.Now), .sref 24 5 0 a0.ZT.length, .sref 24 6 0 a0.YX.length, .sref 24 7 0 a0.ZB.length, .sref 24 8 0 wC.length, .sref 24 9 0 a0.XK.length, .d (.int .i64 a0.Next), .sref 24 11 0 a0.XJ.length]]), (19, .one (.bptr 19 0), [.box [.d (.int .i64 (Xf (nth a0.ZB a1.toNat) (Zc a0.Frame.Methods a0.Frame.Now) J).1.Id), .sref 126 1 0 (Xf (nth a0.ZB a1.toNat) (Zc a0.Frame.Methods a0.Frame.Now) J).1.ZE.length]]), eI 21 (wB : Int), (24, .any, [.arr false 5 (a0.Frame.Z6.map Yj.row), .arr false 3 (a0.Frame.ZM.map Zg.row), .arr false 4 (a0.Frame.Methods.map YJ.row), .none, .none, .arr false 7 (a0.ZT.map YY.row), .arr false 1 (a0.YX.map iR), .arr true 2 (a0.ZB.map ZJ.row), .arr false 1 (wC.map iR), .arr false 1 (a0.XK.map iR), .none, .arr false 1 (a0.XJ.map iR)]), (126, .any, [.none, .arr true 16 ((Xf (nth a0.ZB a1.toNat) (Zc a0.Frame.Methods a0.Frame.Now) J).1.ZE.map Zk.row)])]) (fun n2 wB wC => a2.length < n2 + wB /\ wB <= a2.length /\ wC.length = a0.QA.length) (a2.length + 1) 0 a0.QA (fun p2 wB wC e2 j2 => ?_)
 try dsimp only at j2
 refine cFt e2 ?_ ?_ <;> intro pS h7 e2
 ·have i5 := ix h7
  have m4 := ml a2 (pS 2 _ rfl)
  have w3 := wr wB
  refine dIo mixed ?_
  simp [i5, ZC]
  repeat with_reducible refine XM ?_
  refine cRs (KT a0.Frame.ZM (nth a2 wB)) ?_
  refine dIo mixed ?_
  have i6 : (Zj a0.Frame.ZM (nth a2 wB)).toNat < a0.QA.length := by have := Xz a0.Frame.ZM (nth a2 wB); first | omega | (have z := QL (a0 := a0) (a1 := a2) (j := U) (by have z1 := h1; simp at z1; simp [z1]) (by omega); omega) | (have z := QL (a0 := a0) (a1 := a2) (j := wB) (by have z1 := h1; simp at z1; simp [z1]) (by omega); omega)
  have i7 : (Zj a0.Frame.ZM (nth a2 wB)).toNat < wC.length := by have := Xz a0.Frame.ZM (nth a2 wB); first | omega | (have z := QL (a0 := a0) (a1 := a2) (j := U) (by have z1 := h1; simp at z1; simp [z1]) (by omega); omega) | (have z := QL (a0 := a0) (a1 := a2) (j := wB) (by have z1 := h1; simp at z1; simp [z1]) (by omega); omega)
  simp [i6, ZC, i7, Xv (x := (W ((nth a0.QA (Zj a0.Frame.ZM (nth a2 wB)).toNat) + 1))) rfl]
  repeat with_reducible refine XM ?_
  exact ny2 (an w1 w3) e2
 have f := ms f e2
 simp [i1, ZC]
 repeat with_reducible refine XM ?_
 refine V3 (t := 24) (j := 7) (i := a1.toNat) (size := 2) (rows := (a0.ZB.map ZJ.row)) (ds := (Xf (nth a0.ZB a1.toNat) (Zc a0.Frame.Methods a0.Frame.Now) J).1.row) (L := [(126, 1)]) ?_
 simp [Xv (x := (Xf (nth a0.ZB a1.toNat) (Zc a0.Frame.Methods a0.Frame.Now) J).1) rfl, c1, i1, ZC, YS]
 repeat with_reducible refine XM ?_
 exact rtD [.cell 8 33, .tmp 9] f
theorem Pz (a0 : Int) (a1 : Zk) (u0 : Sm 2318336 a1) : Sa 235 [rI a0, a1.row] [rI (VL a0 a1)] := by
 have f := me (VL.eq_1 a0 a1)
 refine so func235 ntmps235 ?_
 refine dIs mixed ?_
 refine cRs (j8 a0 a1.Doc (sg (Zk.kp u0))) ?_
 refine cRs (kj a0 a1.ZL.ZH (sg (ZZ.XZ (Zk.X9 u0)))) ?_
 refine lp2 (j6.eq_2 a0 a1) (fun J U => Yg 43 [eI 0 a0, eX 3 (a1.row.map .d), (5, .one (.sref 5 0 0 J.length), [.arr false 1 (J.map iR)]), eI 6 (U : Int)]) (fun n1 J U => a1.ZL.ZY.length < n1 + U /\ U <= a1.ZL.ZY.length /\ J.length <= 5 + 1 * U) (a1.ZL.ZY.length + 1) ([5, a1.Id, a1.Yw, (JB a0 a1.Doc), (KD a0 a1.ZL.ZH)] : List Int) 0 (fun p1 J U e1 j1 => ?_) (h0 := wkS [((5, 0), some (20, 0))] [])
 refine cFf e1 ?_ ?_ <;> intro k3 h1 e1
 ·have i1 := ix h1
  have m2 := ml a1.ZL.ZY (k3 24 _ rfl)
  have c1 := sl 2318336 a1.ZL.ZY u0
  have w1 := wr U
  simp [i1, ZC]
  refine rpS ?_
  refine cRs (jP a0 (nth a1.ZL.ZY U) (sg (Zu (ZZ.Kl (Zk.X9 u0))))) ?_
  exact nx2 e1 (hw := Y5 [((5, 0), some (39, 0))] [] rfl (by simp [w1]))
 have c2 := sl 2318336 a1.ZL.ZY u0
 have f := ms f e1
 refine cRs (JE a0 J (by first | (simp (maxDischargeDepth := 12) [XA]; omega) | (simp (maxDischargeDepth := 12) [ZU (m := 68719476736) (by decide) u0]; done))) ?_
 exact rt [.tmp 4] f
theorem Sj (a0 : Int) (a1 : List Zk) (u0 : Sm 2314240 a1) : Sa 219 [rI a0, rL 16 Zk.row a1] [rI (U4 a0 a1)] := by
 have f := me (U4.eq_1 a0 a1)
 refine so func219 ntmps219 ?_
 refine lp2 (Ur.eq_2 a0 a1) (fun J U => Yg 26 [eI 0 a0, eL 1 16 a1 Zk.row, (5, .one (.sref 5 0 0 J.length), [.arr false 1 (J.map iR)]), eI 6 (U : Int)]) (fun n1 J U => a1.length < n1 + U /\ U <= a1.length /\ J.length <= 0 + 1 * U) (a1.length + 1) ([] : List Int) 0 (fun p1 J U e1 j1 => ?_) (h0 := wkS [((5, 0), some (7, 0))] [])
 refine cFf e1 ?_ ?_ <;> intro k2 h1 e1
 ·have i1 := ix h1
  have m2 := ml a1 (k2 1 _ rfl)
  have c1 := sl 2314240 a1 u0
  have w1 := wr U
  simp [i1, ZC]
  refine rpS ?_
  refine cRs (Pz a0 (nth a1 U) (sg (Zu u0))) ?_
  exact nx2 e1 (hw := Y5 [((5, 0), some (22, 0))] [] rfl (by simp [w1]))
 have c2 := sl 2314240 a1 u0
 have f := ms f e1
 refine cRs (WH a0 J (by first | (simp (maxDischargeDepth := 12) [XA]; omega) | (simp (maxDischargeDepth := 12) [ZU (m := 2318336) (by decide) u0]; done))) ?_
 exact rt [.tmp 4] f
theorem OQ (a0 : ZJ) (a1 : Int) (a2 : List Int) (a3 : Int) (u0 : Sm 2310144 a0) (u1 : Sm 2310144 a2) : So 178 [a0.row, rI a1, rL 1 iR a2, rI a3] [(Yq a0 a1 a2 a3).1.row, rB (Yq a0 a1 a2 a3).2] := by
 have f := me (Yq.eq_1 a0 a1 a2 a3)
 refine so func178 ntmps178 ?_
 refine lp2 (Qj.eq_2 a0 a2) (fun J U => Yg 53 [eL 2 1 a2 iR, eI 3 a3, eX 4 (a0.row.map .d), (8, .one (.bptr 8 0), [.box [.d (.int .i64 0), .d (.int .i64 0), .nil 16, .d (.int .i64 0)]]), (10, .one (.bptr 10 0), [.box [.d (.int .i64 a0.Id), .d (.int .i64 a1), .sref 10 3 0 U.length, .d (.int .i64 0)], .none, .none, .arr false 16 (U.map Zk.row)]), eI 11 (J : Int)]) (fun n1 J U => a2.length < n1 + J /\ J <= a2.length /\ U.length <= J /\ (∀ x ∈ U, Sm 2310144 x)) (a2.length + 1) 0 ([] : List Zk) (fun p1 J U e1 j1 => ?_) (hI := by exact ⟨by omega, by omega, Nat.zero_le _, Nat.zero_le _, fun x h => by cases h⟩) (h0 := wkS [((10, 3), none)] [])
 try dsimp only at j1
 refine cF e1 ?_ ?_ <;> intro k2 h1 e1
 ·have i1 := ix h1
  have m2 := ml a2 (k2 2 _ rfl)
  have c1 := sl 2310144 a2 (an u0 u1)
  have w1 := wr J
  refine dIo mixed ?_
  simp [i1, ZC]
  refine rpS ?_
  refine cRs (yC a0 (nth a2 J)) ?_
  refine cF e1 ?_ ?_ <;> intro k4 h2 e1
  ·have f := ms f e1
   exact rtO [.cell 8 240, .tmp 9] f
  refine dIo mixed ?_
  have i2 : (YU a0 (nth a2 J)).toNat < a0.ZE.length := by have := WU a0 (nth a2 J); exact il
  simp [i2, ZC]
  refine rpS ?_
  refine cRs (YN.rd (Xr (nth a0.ZE (YU a0 (nth a2 J)).toNat) (sg (Zu (ZJ.Y4 u0))))) ?_
  refine eIs ?_
  refine eIs ?_
  exact nx2 e1 (hI := by ((try dsimp only); refine ⟨by omega, by omega, by omega, by simp; omega, fun x hx => ?_⟩; rcases List.mem_append.1 hx with hx | hx; exact j1.2.2.2.2 x hx; have e := List.mem_singleton.1 hx; subst e; exact Zu (ZJ.Y4 u0))) (hw := Y5 [((10, 3), some (41, 0))] [] rfl (by simp [w1]))
 have c2 := sl 2310144 a2 (an u0 u1)
 have f := ms f e1
 refine cF f ?_ ?_ <;> intro k6 h3 f
 ·exact rtO [.cell 8 240, .tmp 9] f
 refine cRs (Sj a3 U (by (have q := Yb (show Sm 2310144 a2 from u1); exact ZU (n := 2310144) (by decide) ⟨by omega, j1.2.2.2.2⟩))) ?_
 exact rtO [.cell 8 240, .tmp 9] f
theorem RU (a0 : XG) (a1 : Int) (u0 : Sm 2310144 a0) : Sa 220 [a0.row, rI a1] [rB (JG a0 a1)] := by
 have f := me (JG.eq_1 a0 a1)
 refine so func220 ntmps220 ?_
 refine lp1 (Jb.eq_2 a0) (fun J => Yg 33 [eI 1 a1, eX 2 (a0.row.map .d), eI 5 (J : Int)]) (fun n1 J => a0.ZE.length < n1 + J /\ J <= a0.ZE.length) (a0.ZE.length + 1) 0 (fun p1 J e1 j1 => ?_)
 refine cFf e1 ?_ ?_ <;> intro k2 h1 e1
 ·have i1 := ix h1
  have m2 := ml a0.ZE (k2 8 _ rfl)
  have c1 := sl 2310144 a0.ZE u0
  have w1 := wr J
  simp [i1, ZC]
  refine rpS ?_
  refine cRs (Pd (nth a0.ZE J)) ?_
  refine cF e1 ?_ ?_ <;> intro k3 h2 e1
  ·have f := ms f e1
   exact rt [.tmp 4] f
  exact ny1 w1 e1
 have c2 := sl 2310144 a0.ZE u0
 have f := ms f e1
 refine dIs mixed ?_
 refine cRs (Yc (a0.ZE.length : Int) 1 8) ?_
 refine cGs (fun gg => (Sj a1 a0.ZE (sg (XG.Y4 u0)))) ?_
 exact rt [.tmp 4] f
theorem RI (a0 : ZJ) (a1 : XG) (a2 : Int) (u0 : Sm 2306048 a0) (u1 : Sm 2306048 a1) : Sd 179 [a0.row, a1.row, rI a2] [(Y9 a0 a1 a2).1.row, rB (Y9 a0 a1 a2).2] := by
 have f := me (Y9.eq_1 a0 a1 a2)
 refine soD func179 ntmps179 ?_
 refine cDs [] (XN a0 (sg u0)) ?_
 refine cRs (RU a1 a2 (sg u1)) ?_
 refine lp4 (QV.eq_2 a1) (fun J U wD wL => Yg 52 [eX 3 (a0.row.map .d), eX 4 (a1.row.map .d), (6, .one (.bptr 6 0), [.box [.d (.int .i64 0), .nil 16]]), (8, .one (.bptr 8 0), [.box [.d (.int .i64 wD), .sref 8 2 0 wL.length], .none, .arr true 16 (wL.map Zk.row)]), eB 9 J, eI 10 (U : Int)]) (fun n1 J U wD wL => a1.ZE.length < n1 + U /\ U <= a1.ZE.length /\ (J = true -> a1.ZE.length <= 8) /\ Sm (2306048 + U) (ZJ.mk wD wL)) (a1.ZE.length + 1) ((JG a1 a2) && (a1.To == a0.Id)) 0 a0.Id a0.ZE (fun p1 J U wD wL e1 j1 => ?_) (hI := by exact ⟨by omega, by omega, Nat.zero_le _, fun h => SY a1 a2 (by simp at h; exact h.1), u0⟩) (h0 := wkS [((8, 2), some (14, 1))] [])
 try dsimp only at j1
 refine cF e1 ?_ ?_ <;> intro k2 h1 e1
 ·have i1 : U < a1.ZE.length := by (simp at h1; omega)
  have m2 := ml a1.ZE (k2 27 _ rfl)
  have c1 := sl 2306048 a1.ZE (an u0 u1)
  have w1 := wr U
  refine dIo mixed ?_
  simp [i1, ZC]
  refine rpS ?_
  refine cDs [] (jC (ZJ.mk wD wL) (nth a1.ZE U) (by first | (have hc := h1; simp at hc; have hl := j1.2.2.2.1 hc.2; exact ZU (n := 2306048 + U) (by omega) j1.2.2.2.2) | exact sg (Zu (XG.Y4 u1))) (by first | (have hc := h1; simp at hc; have hl := j1.2.2.2.1 hc.2; exact ZU (n := 2306048 + U) (by omega) j1.2.2.2.2) | exact sg (Zu (XG.Y4 u1)))) ?_
  exact nx4 e1 (hI := by (have hc := h1; simp at hc; (try dsimp only); refine ⟨by omega, by omega, by omega, fun _ => j1.2.2.2.1 hc.2, ?_⟩; exact qj (n := 2306048 + U) j1.2.2.2.2 (ZU (n := 2306048) (by omega) (Zu (XG.Y4 u1))))) (hw := Y5 [((8, 2), some (42, 1))] [] rfl (by simp [w1]))
 have c2 := sl 2306048 a1.ZE (an u0 u1)
 have f := ms f e1
 refine cF f ?_ ?_ <;> intro k4 h2 f
 ·refine cDs [] (XN a0 (sg u0)) ?_
  exact rtD [.cell 6 38, .tmp 7] f
 exact rtD [.cell 6 38, .tmp 7] f
theorem Mq (a0 : ZJ) (a1 : Int) (u0 : Sm 2322432 a0) : Sd 180 [a0.row, rI a1] [(zC a0 a1).1.row, rB (zC a0 a1).2] := by
 have f := me (zC.eq_1 a0 a1)
 refine soD func180 ntmps180 ?_
 refine cRs (yC a0 a1) ?_
 refine cF f ?_ ?_ <;> intro k1 h1 f
 ·refine cDs [] (XN a0 (sg u0)) ?_
  exact rtD [.cell 4 38, .tmp 5] f
 refine lp2 (KN.eq_2 a0 a1) (fun J U => Yg 41 [eX 2 (a0.row.map .d), (4, .one (.bptr 4 0), [.box [.d (.int .i64 0), .nil 16]]), eI 6 (YU a0 a1), (7, .one (.bptr 7 0), [.box [.d (.int .i64 a0.Id), .sref 7 2 0 U.length], .none, .arr true 16 (U.map Zk.row)]), eI 8 (J : Int)]) (fun n1 J U => a0.ZE.length < n1 + J /\ J <= a0.ZE.length /\ U.length <= 0 + 1 * J) (a0.ZE.length + 1) 0 ([] : List Zk) (fun p1 J U e1 j1 => ?_) (h0 := wkS [((7, 2), none)] [])
 refine cF e1 ?_ ?_ <;> intro k3 h2 e1
 ·have i1 := ix h2
  have m2 := ml a0.ZE (k3 21 _ rfl)
  have c1 := sl 2322432 a0.ZE u0
  have w1 := wr J
  refine cF e1 ?_ ?_ <;> intro k4 h3 e1
  ·refine okD fun k5 => ?_
   refine drJ [38] mixed ?_
   simp [i1, ZC]
   refine rpS ?_
   refine cDs [true, true, true, false, false] (Xr (nth a0.ZE J) (sg (Zu (ZJ.Y4 u0)))) ?_
   refine Wc ?_
   simp
   refine VV (wH := (U.map Zk.row)) (news := (([(nth a0.ZE J)] : List Zk).map Zk.row)) (l1 := [(7, 2)]) (l2 := [(36, 3), (36, 4), (36, 14), (36, 15)]) (size := 16) ?_
   simp
   exact nx2 e1 (hw := Y5 [((7, 2), some (38, 0))] [] rfl (by simp [w1]))
  exact ny2 w1 e1
 have c2 := sl 2322432 a0.ZE u0
 have f := ms f e1
 exact rtD [.cell 4 38, .tmp 5] f
theorem Nd (a0 : ZJ) (a1 : ZJ) (a2 : List Int) (a3 : Int) (u0 : Sm 2301952 a0) (u1 : Sm 2301952 a1) (u2 : Sm 2301952 a2) : Sd 130 [a0.row, a1.row, rL 1 iR a2, rI a3] [(Xb a0 a1 a2 a3).1.row, (Xb a0 a1 a2 a3).2.1.row, rB (Xb a0 a1 a2 a3).2.2] := by
 have f := me (Xb.eq_1 a0 a1 a2 a3)
 refine soD func130 ntmps130 ?_
 refine cRs (OQ a0 a1.Id a2 a3 (by first | exact sg u0 | exact sg u2) (by first | exact sg u0 | exact sg u2)) ?_
 refine cDs [] (RI a1 (Yq a0 a1.Id a2 a3).1 a3 (by first | exact sg u1 | exact ZU (n := 2301952) (by decide) (qZ u0 u2)) (by first | exact sg u1 | exact ZU (n := 2301952) (by decide) (qZ u0 u2))) ?_
 refine cDs [] (XN a0 (sg u0)) ?_
 refine lp4 (Jw.eq_2 a0 a1 a2 a3) (fun J U wD wL => Yg 72 [eL 2 1 a2 iR, eX 4 (a0.row.map .d), eX 5 (a1.row.map .d), (8, .one (.bptr 8 0), [.box [.d (.int .i64 0), .nil 16]]), (9, .one (.bptr 9 0), [.box [.d (.int .i64 0), .nil 16]]), eB 12 (Yq a0 a1.Id a2 a3).2, (13, .one (.bptr 13 0), [.box [.d (.int .i64 (Y9 a1 (Yq a0 a1.Id a2 a3).1 a3).1.Id), .sref 32 1 0 (Y9 a1 (Yq a0 a1.Id a2 a3).1 a3).1.ZE.length]]), eB 14 J, (15, .one (.bptr 15 0), [.box [.d (.int .i64 wD), .sref 15 2 0 wL.length], .none, .arr true 16 (wL.map Zk.row)]), eI 16 (U : Int), (32, .any, [.none, .arr true 16 ((Y9 a1 (Yq a0 a1.Id a2 a3).1 a3).1.ZE.map Zk.row)])]) (fun n1 J U wD wL => a2.length < n1 + U /\ U <= a2.length /\ Sm 2301952 (ZJ.mk wD wL)) (a2.length + 1) (Y9 a1 (Yq a0 a1.Id a2 a3).1 a3).2 0 a0.Id a0.ZE (fun p1 J U wD wL e1 j1 => ?_) (hI := by exact ⟨by omega, by omega, Nat.zero_le _, u0⟩) (h0 := wkS [((15, 2), some (36, 1))] [])
 try dsimp only at j1
 refine cF e1 ?_ ?_ <;> intro k2 h1 e1
 ·have i1 : U < a2.length := by (simp at h1; omega)
  have m2 := ml a2 (k2 2 _ rfl)
  have c1 := sl 2301952 a2 (an u0 (an u1 u2))
  have w1 := wr U
  refine dIo mixed ?_
  simp [i1, ZC]
  refine rpS ?_
  refine cDs [] (Mq (ZJ.mk wD wL) (nth a2 U) (by exact ZU (n := 2301952) (by decide) j1.2.2.2)) ?_
  exact nx4 e1 (hI := by ((try dsimp only); refine ⟨by omega, by omega, by omega, ?_⟩; exact TZ j1.2.2.2)) (hw := Y5 [((15, 2), some (55, 1))] [] rfl (by simp [w1]))
 have c2 := sl 2301952 a2 (an u0 (an u1 u2))
 have f := ms f e1
 refine cF f ?_ ?_ <;> intro k4 h2 f
 ·refine okD fun k5 => ?_
  refine dIs mixed ?_
  refine cDs [] (XN a0 (sg u0)) ?_
  refine cDs [] (XN a1 (sg u1)) ?_
  exact rtD [.cell 8 38, .cell 9 38, .tmp 10] f
 refine Ch [(8, 8), (9, 9), (13, 13), (15, 15)] mixed (by kernel_rfl) (by kernel_rfl) (by kernel_rfl) (by kernel_rfl) ?_
 simp
 exact rtD [.cell 8 38, .cell 9 38, .tmp 10] f
theorem My (a0 : ZN) (a1 : Int) (a2 : Int) (a3 : Int) (u0 : Sm 2297856 a0) : Sd 81 [a0.row, rI a1, rI a2, rI a3] [(xe a0 a1 a2 a3).1.row, rB (xe a0 a1 a2 a3).2] := by
 have f := me (xe.eq_1 a0 a1 a2 a3)
 refine soD func81 ntmps81 ?_
 refine cDs [false, false, false, true, true, false, false, true, false, false, true, false] (Xd a0 (sg u0)) ?_
 refine cRs (yL a0.Frame.Methods a0.Frame.Now) ?_
 refine cRs (yb a0 a1) ?_
 refine cGs (fun gg => (yb a0 a2)) ?_
 have c1 := sl 2297856 a0.ZB u0
 have w1 : IntKind.i64.wrap ((a0.ZB.length : Int) - 1) = (a0.ZB.length : Int) - 1 := YW (by omega) (by omega)
 refine cFo f ?_ ?_ <;> intro k1 h1 f
 ·have q1 := h1; try simp [w1, Xt, YA] at q1
  simp
  exact rtD [.cell 8 33, .tmp 9] f
 have q1 := h1; try simp [w1, Xt, YA] at q1
 simp
 refine dIo mixed ?_
 have i1 := ik a1.toNat a0.ZB
 have i2 := ik a2.toNat a0.ZB
 simp [i1, ZC, i2]
 refine rpS ?_
 refine cDf i1 [] (Nd (nth a0.ZB a1.toNat) (nth a0.ZB a2.toNat) ([a3] : List Int) (Zc a0.Frame.Methods a0.Frame.Now) (sg (Zu (ZN.YQ u0))) (sg (Zu (ZN.YQ u0))) (by simp (maxDischargeDepth := 12) [JJ, XA, ZU (m := 2301952) (by decide) u0]; try omega)) ?_
 refine V3 (t := 16) (j := 7) (i := a1.toNat) (size := 2) (rows := (a0.ZB.map ZJ.row)) (ds := (Xb (nth a0.ZB a1.toNat) (nth a0.ZB a2.toNat) ([a3] : List Int) (Zc a0.Frame.Methods a0.Frame.Now)).1.row) (L := [(58, 1)]) ?_
 simp [Xv (x := (Xb (nth a0.ZB a1.toNat) (nth a0.ZB a2.toNat) ([a3] : List Int) (Zc a0.Frame.Methods a0.Frame.Now)).1) rfl, c1, i1, i2, ZC, YS]
 refine rpS ?_
 refine V3 (t := 16) (j := 7) (i := a2.toNat) (size := 2) (rows := ((a0.ZB.set a1.toNat (Xb (nth a0.ZB a1.toNat) (nth a0.ZB a2.toNat) ([a3] : List Int) (Zc a0.Frame.Methods a0.Frame.Now)).1).map ZJ.row)) (ds := (Xb (nth a0.ZB a1.toNat) (nth a0.ZB a2.toNat) ([a3] : List Int) (Zc a0.Frame.Methods a0.Frame.Now)).2.1.row) (L := [(58, 3)]) ?_
 simp [Xv (x := (Xb (nth a0.ZB a1.toNat) (nth a0.ZB a2.toNat) ([a3] : List Int) (Zc a0.Frame.Methods a0.Frame.Now)).1) rfl, c1, i1, i2, ZC, YS]
 refine rpS ?_
 exact rtD [.cell 8 33, .tmp 9] f
theorem Pw (a0 : ZJ) (a1 : Int) (u0 : Sm 2326528 a0) : So 131 [a0.row, rI a1] [(KV a0 a1).1.row, rI (KV a0 a1).2] := by
 have f := me (KV.eq_1 a0 a1)
 refine so func131 ntmps131 ?_
 refine lp3 (Qg.eq_2 a0 a1) (fun J U wD => Yg 42 [eI 1 a1, eX 2 (a0.row.map .d), (4, .one (.bptr 4 0), [.box [.d (.int .i64 0), .nil 16]]), (6, .one (.bptr 6 0), [.box [.d (.int .i64 a0.Id), .sref 6 2 0 wD.length], .none, .arr false 16 (wD.map Zk.row)]), eI 7 J, eI 8 (U : Int)]) (fun n1 J U wD => a0.ZE.length < n1 + U /\ U <= a0.ZE.length /\ wD.length <= 0 + 1 * U) (a0.ZE.length + 1) 0 0 ([] : List Zk) (fun p1 J U wD e1 j1 => ?_) (h0 := wkS [((6, 2), none)] [])
 refine cFf e1 ?_ ?_ <;> intro k2 h1 e1
 ·have i1 := ix h1
  have m2 := ml a0.ZE (k2 14 _ rfl)
  have c1 := sl 2326528 a0.ZE u0
  have w1 := wr U
  simp [i1, ZC]
  refine rpS ?_
  refine cF e1 ?_ ?_ <;> intro k3 h2 e1
  ·exact ny3 w1 e1
  refine dIo mixed ?_
  simp [i1, ZC]
  refine rpS ?_
  refine cRs (YN.rd (Xr (nth a0.ZE U) (sg (Zu (ZJ.Y4 u0))))) ?_
  refine eIs ?_
  refine eIs ?_
  exact nx3 e1 (hw := Y5 [((6, 2), some (38, 0))] [] rfl (by simp [w1]))
 have c2 := sl 2326528 a0.ZE u0
 have f := ms f e1
 exact rtO [.cell 4 38, .tmp 5] f
theorem OO (a0 : ZN) (a1 : Int) (u0 : Sm 2318336 a0) : So 82 [a0.row, rI a1] [(zu a0 a1).1.row, rB (zu a0 a1).2] := by
 have f := me (zu.eq_1 a0 a1)
 refine so func82 ntmps82 ?_
 refine cOs (YN.own (Xd a0 (sg u0))) ?_
 refine cRs (yb a0 a1) ?_
 have c1 := sl 2318336 a0.ZB u0
 have w1 : IntKind.i64.wrap ((a0.ZB.length : Int) - 1) = (a0.ZB.length : Int) - 1 := YW (by omega) (by omega)
 refine cFo f ?_ ?_ <;> intro k1 h1 f
 ·have q1 := h1; try simp [w1, Xt, YA] at q1
  simp
  exact rtO [.cell 4 33, .tmp 5] f
 have q1 := h1; try simp [w1, Xt, YA] at q1
 simp
 refine dIo mixed ?_
 have i1 := ik a1.toNat a0.ZB
 simp [i1, ZC]
 refine rpS ?_
 refine cR (Pw (nth a0.ZB a1.toNat) a0.Frame.Now (sg (Zu (ZN.YQ u0)))) ?_
 simp [i1, ZC, Xv (x := (KV (nth a0.ZB a1.toNat) a0.Frame.Now).1) rfl]
 refine rpS ?_
 exact rtO [.cell 4 33, .tmp 5] f
theorem Pr (a0 : List YJ) (a1 : Int) : Sa 221 [rL 4 YJ.row a0, rI a1] [rI (zd a0 a1)] := by
 have f := me (zd.eq_1 a0 a1)
 refine so func221 ntmps221 ?_
 refine lp1 (xG.eq_2 a0 a1) (fun J => Yg 20 [eL 0 4 a0 YJ.row, eI 1 a1, eI 5 (J : Int)]) (fun n1 J => a0.length < n1 + J /\ J <= a0.length) (a0.length + 1) 0 (fun p1 J e1 j1 => ?_)
 refine cFf e1 ?_ ?_ <;> intro k2 h1 e1
 ·have i1 := ix h1
  have m2 := ml a0 (k2 0 _ rfl)
  have w1 := wr J
  simp [i1, ZC]
  refine rpS ?_
  refine cF e1 ?_ ?_ <;> intro k3 h2 e1
  ·have f := ms f e1
   exact rt [.tmp 4] f
  exact ny1 w1 e1
 have f := ms f e1
 exact rt [.tmp 4] f
theorem Is (a0 : List YJ) (a1 : Int) : Sa 181 [rL 4 YJ.row a0, rI a1] [rI (R7 a0 a1)] := by
 have f := me (R7.eq_1 a0 a1)
 refine so func181 ntmps181 ?_
 refine cRs (Pr a0 a1) ?_
 refine cFt f ?_ ?_ <;> intro k1 h1 f
 ·exact rt [.tmp 4] f
 have i1 : (zd a0 a1).toNat < a0.length := by have := OA a0 a1; exact il
 simp [i1, ZC]
 refine rpS ?_
 exact rt [.tmp 4] f
theorem qB (a0 : Ze) (a1 : Int) : Sa 132 [a0.row, rI a1] [rB (jv a0 a1)] := by
 have f := me (jv.eq_1 a0 a1)
 refine so func132 ntmps132 ?_
 refine cRs (QG a0.Z6 a1) ?_
 refine dIs mixed ?_
 refine gIf ?_ ?_ <;> intro G
 ·have i1 : (YK a0.Z6 a1).toNat < a0.Z6.length := by have := Xu a0.Z6 a1; exact il
  simp [i1, ZC, G]
  refine rpG ?_
  refine cGg (fun gg => (Is a0.Methods (nth a0.Z6 (YK a0.Z6 a1).toNat).Method)) ?_
  exact rtg [.tmp 4] f
 ·refine sGo ?_
  simp [G]
  refine rpG ?_
  exact rtg [.tmp 4] f
theorem Og (a0 : ZN) (a1 : Int) (a2 : Int) (a3 : ZV) (u0 : Sm 2314240 a0) (u1 : Sm 2314240 a3) : Sd 83 [a0.row, rI a1, rI a2, a3.row] [(yX a0 a1 a2 a3).1.row, rB (yX a0 a1 a2 a3).2] := by
 have f := me (yX.eq_1 a0 a1 a2 a3)
 refine soD func83 ntmps83 ?_
 refine cDs [false, false, false, true, true, false, false, true, false, false, true, false] (Xd a0 (sg u0)) ?_
 refine cRs (yb a0 a1) ?_
 refine cGs (fun gg => (qB a0.Frame a2)) ?_
 have c1 := sl 2314240 a0.ZB (an u0 u1)
 have w1 : IntKind.i64.wrap ((a0.ZB.length : Int) - 1) = (a0.ZB.length : Int) - 1 := YW (by omega) (by omega)
 refine cFo f ?_ ?_ <;> intro k1 h1 f
 ·have q1 := h1; try simp [w1, Xt, YA] at q1
  simp
  refine IF (rv := [.cell 8 33, .tmp 9]) rfl ?_
  simp [f.h]
  all_goals ((try simp only [q3, true_and]); (try (rintro r (⟨a, _, rfl⟩ | rfl) x hx <;> simp at hx <;> subst hx <;> rfl)))
 have q1 := h1; try simp [w1, Xt, YA] at q1
 simp
 refine cRs (VJ a0 a2 a3 0 10000 (sg u0) (sg u1)) ?_
 refine cFo f ?_ ?_ <;> intro k2 h2 f
 ·have q2 := h2; try simp at q2
  simp
  refine IF (rv := [.cell 8 33, .tmp 9]) rfl ?_
  simp [f.h]
  all_goals ((try simp only [q3, true_and]); (try (rintro r (⟨a, _, rfl⟩ | rfl) x hx <;> simp at hx <;> subst hx <;> rfl)))
 have q2 := h2; try simp at q2
 simp
 refine dIo mixed ?_
 have i1 := ik a1.toNat a0.ZB
 simp [i1, ZC]
 refine rpS ?_
 refine cDs [] (jC (nth a0.ZB a1.toNat) (XI a0 a2 a3 0 10000).1 (by first | (exact ZU (n := 2314240) (by decide) (xs (an u0 u1))) | (exact ZU (n := 2314240) (by decide) (Jh (xs (an u0 u1)) (by decide)))) (by first | (exact ZU (n := 2314240) (by decide) (xs (an u0 u1))) | (exact ZU (n := 2314240) (by decide) (Jh (xs (an u0 u1)) (by decide))))) ?_
 refine cFo f ?_ ?_ <;> intro k4 h3 f
 ·have q3 := h3; try simp at q3
  simp
  refine IF (rv := [.cell 8 33, .tmp 9]) rfl ?_
  simp [f.h]
  all_goals ((try simp only [q3, true_and]); (try (rintro r (⟨a, _, rfl⟩ | rfl) x hx <;> simp at hx <;> subst hx <;> rfl)))
 have q3 := h3; try simp at q3
 simp [i1, ZC]
 refine rpS ?_
 refine V3 (t := 16) (j := 7) (i := a1.toNat) (size := 2) (rows := (a0.ZB.map ZJ.row)) (ds := (XY (nth a0.ZB a1.toNat) (XI a0 a2 a3 0 10000).1).1.row) (L := [(46, 1)]) ?_
 have c2 := sl 2314240 a0.XJ (an u0 u1)
 simp [Xv (x := (XY (nth a0.ZB a1.toNat) (XI a0 a2 a3 0 10000).1).1) rfl, c1, i1, ZC, YS]
 refine rpS ?_
 refine IF (rv := [.cell 8 33, .tmp 9]) rfl ?_
 simp [f.h]
 all_goals ((try simp only [q3, true_and]); (try (rintro r (⟨a, _, rfl⟩ | rfl) x hx <;> simp at hx <;> subst hx <;> rfl)))
theorem V2 (a0 : ZN) (u0 : Sm 2330624 a0) : Sd 133 [a0.row] [rL 1 iR (YB a0)] := by
 have f := me (YB.eq_1 a0)
 refine soD func133 ntmps133 ?_
 refine lp2 (Qf.eq_2 a0) (fun J U => Yg 39 [eX 1 (a0.row.map .d), (3, .one (.sref 3 0 0 J.length), [.arr false 1 (J.map iR)]), eI 4 (U : Int)]) (fun n1 J U => a0.Frame.ZM.length < n1 + U /\ U <= a0.Frame.ZM.length /\ J.length <= 0 + 1 * U) (a0.Frame.ZM.length + 1) ([] : List Int) 0 (fun p1 J U e1 j1 => ?_) (h0 := wkS [((3, 0), some (6, 0))] [])
 refine cFf e1 ?_ ?_ <;> intro k2 h1 e1
 ·have i1 := ix h1
  have m2 := ml a0.Frame.ZM (k2 10 _ rfl)
  have c1 := sl 2330624 a0.Frame.ZM u0
  have w1 := wr U
  simp [i1, ZC]
  refine rpS ?_
  refine cRs (T4 a0.XK (nth a0.Frame.ZM U).Id) ?_
  refine cGs (fun gg => (qB a0.Frame (nth a0.Frame.ZM U).Key)) ?_
  refine cF e1 ?_ ?_ <;> intro k3 h2 e1
  ·exact nx2 e1 (hw := Y5 [((3, 0), some (37, 0))] [] rfl (by simp [w1]))
  exact ny2 w1 e1
 have c2 := sl 2330624 a0.Frame.ZM u0
 have f := ms f e1
 exact rtD [.tmp 2] f
theorem QF {a b : Prop} (h : b) (k : a := by (intros; first | omega | with_unfolding_all (first | first | omega | (have f0 : 0 <= (ZA a0 a1).1 := (by first | omega | (simp at *; omega)); have fi := Z8 a0 a1 f0; omega) | (have f0 : 0 <= (ZA a0 a1).1 := (by first | omega | (simp at *; omega)); have fi := Z8 a0 a1 f0; have ll := yK (nth a0.ZB (ZA a0 a1).1.toNat) (Zc a0.Frame.Methods a0.Frame.Now); omega) | (have fl := Q0 a0; have fm := Yb (Ze.Xc (ZN.Xj u0)); (try dsimp only at *); omega)) | ((try simp only [XT, show ∀ x, IntKind.i64.wrap x = W x from fun _ => rfl] at *); omega))) : a /\ b := ⟨k, h⟩
theorem SQ (a0 : ZN) (a1 : Int) (a2 : Int) (u0 : Sm 2310144 a0) : Sd 84 [a0.row, rI a1, rI a2] [(JO a0 a1 a2).1.row, rB (JO a0 a1 a2).2] := by
 have f := me (JO.eq_1 a0 a1 a2)
 refine soD func84 ntmps84 ?_
 refine cDs [false, false, false, true, true, false, false, true, false, false, true, false] (Xd a0 (sg u0)) ?_
 refine cRs (UZ a0 a1) ?_
 refine cRs (yL a0.Frame.Methods a0.Frame.Now) ?_
 refine cRs (YN.rd (V2 a0 (sg u0))) ?_
 refine cGs (fun gg => (T4 a0.XJ a1)) ?_
 refine cFt f ?_ ?_ <;> intro k1 h1 f
 ·exact rtD [.cell 6 33, .tmp 7] f
 have i1 : (ZA a0 a1).1.toNat < a0.ZB.length := by first | omega | (have f0 : 0 <= (ZA a0 a1).1 := (by first | omega | (simp at *; omega)); have fi := Z8 a0 a1 f0; omega) | (have f0 : 0 <= (ZA a0 a1).1 := (by first | omega | (simp at *; omega)); have fi := Z8 a0 a1 f0; have ll := yK (nth a0.ZB (ZA a0 a1).1.toNat) (Zc a0.Frame.Methods a0.Frame.Now); omega)
 simp [i1, ZC]
 repeat with_reducible refine QF ?_
 refine cR (YN.rd (jc (nth a0.ZB (ZA a0 a1).1.toNat) (Zc a0.Frame.Methods a0.Frame.Now) (sg (Zu (ZN.YQ u0))))) ?_
 have i2 : (ZA a0 a1).2.toNat < (YM (nth a0.ZB (ZA a0 a1).1.toNat) (Zc a0.Frame.Methods a0.Frame.Now)).length := by first | omega | (have f0 : 0 <= (ZA a0 a1).1 := (by first | omega | (simp at *; omega)); have fi := Z8 a0 a1 f0; omega) | (have f0 : 0 <= (ZA a0 a1).1 := (by first | omega | (simp at *; omega)); have fi := Z8 a0 a1 f0; have ll := yK (nth a0.ZB (ZA a0 a1).1.toNat) (Zc a0.Frame.Methods a0.Frame.Now); omega)
 have i3 : (ZA a0 a1).2.toNat < (nth a0.ZB (ZA a0 a1).1.toNat).ZE.length := by first | omega | (have f0 : 0 <= (ZA a0 a1).1 := (by first | omega | (simp at *; omega)); have fi := Z8 a0 a1 f0; omega) | (have f0 : 0 <= (ZA a0 a1).1 := (by first | omega | (simp at *; omega)); have fi := Z8 a0 a1 f0; have ll := yK (nth a0.ZB (ZA a0 a1).1.toNat) (Zc a0.Frame.Methods a0.Frame.Now); omega)
 simp [i2, ZC, i1, i3]
 repeat with_reducible refine QF ?_
 refine lp2 (X4.eq_2 a0 a1 a2) (fun J U => Yg 140 [eI 2 a2, eX 3 (a0.row.map .d), (6, .one (.bptr 6 0), [.box [.nil 5, .nil 3, .nil 4, .d (.int .i64 0), .d (.int .i64 0), .nil 7, .nil 1, .nil 2, .nil 1, .nil 1, .d (.int .i64 0), .nil 1]]), (8, .one (.bptr 8 0), [.box [.sref 21 0 0 a0.Frame.Z6.length, .sref 21 1 0 a0.Frame.ZM.length, .sref 21 2 0 a0.Frame.Methods.length, .d (.int .i64 a0.Frame.Kk), .d (.int .i64 a0.Frame.Now), .sref 21 5 0 a0.ZT.length, .sref 21 6 0 a0.YX.length, .sref 21 7 0 a0.ZB.length, .sref 21 8 0 a0.QA.length, .sref 21 9 0 a0.XK.length, .d (.int .i64 a0.Next), .sref 21 11 0 a0.XJ.length]]), eI 9 (ZA a0 a1).1, eI 10 (ZA a0 a1).2, eL 12 1 (YB a0) iR, eI 13 (nth (YM (nth a0.ZB (ZA a0 a1).1.toNat) (Zc a0.Frame.Methods a0.Frame.Now)) (ZA a0 a1).2.toNat), (14, .one (.bptr 14 0), [.box [.d (.int .i64 ((nth (nth a0.ZB (ZA a0 a1).1.toNat).ZE (ZA a0 a1).2.toNat).ZL.ZH.length : Int)), .d (.int .i64 (Zc a0.Frame.Methods a0.Frame.Now)), .d (.int .i64 (nth (YM (nth a0.ZB (ZA a0 a1).1.toNat) (Zc a0.Frame.Methods a0.Frame.Now)) (ZA a0 a1).2.toNat)), .nil 2, .sref 14 5 0 U.length], .none, .none, .none, .none, .arr false 5 (U.map Zr.row)]), eI 15 (J : Int), (21, .any, [.arr false 5 (a0.Frame.Z6.map Yj.row), .arr false 3 (a0.Frame.ZM.map Zg.row), .arr false 4 (a0.Frame.Methods.map YJ.row), .none, .none, .arr false 7 (a0.ZT.map YY.row), .arr false 1 (a0.YX.map iR), .arr true 2 (a0.ZB.map ZJ.row), .arr false 1 (a0.QA.map iR), .arr false 1 (a0.XK.map iR), .none, .arr false 1 (a0.XJ.map iR)])]) (fun n1 J U => (YB a0).length < n1 + J /\ J <= (YB a0).length /\ U.length <= 0 + 1 * J) ((YB a0).length + 1) 0 ([] : List Zr) (fun p1 J U e1 j1 => ?_) (h0 := wkS [((14, 5), none)] [])
 try dsimp only at j1
 refine cF e1 ?_ ?_ <;> intro k3 h2 e1
 ·have i4 := ix h2
  have m2 := ml (YB a0) (k3 12 _ rfl)
  have w1 := wr J
  refine dIo mixed ?_
  simp [i4, ZC]
  repeat with_reducible refine QF ?_
  refine cRs (jw a0.Frame.Z6 a0.Frame.ZM (Zr.mk (nth (YB a0) J) 0 a2 (nth (YM (nth a0.ZB (ZA a0 a1).1.toNat) (Zc a0.Frame.Methods a0.Frame.Now)) (ZA a0 a1).2.toNat) 0) (sg (Ze.Yo (ZN.Xj u0))) (sg (Ze.Xc (ZN.Xj u0)))) ?_
  refine cFt e1 ?_ ?_ <;> intro k5 h3 e1
  ·have f := ms f e1
   exact rtD [.cell 6 33, .tmp 7] f
  simp
  repeat with_reducible refine QF ?_
  exact nx2 e1 (hw := Y5 [((14, 5), some (111, 0))] [] rfl (by simp [w1]))
 have f := ms f e1
 refine dIo mixed ?_
 simp [i1, ZC, i3]
 repeat with_reducible refine QF ?_
 refine cDs [] (Vt (nth (nth a0.ZB (ZA a0 a1).1.toNat).ZE (ZA a0 a1).2.toNat).ZL (Zi.mk ((nth (nth a0.ZB (ZA a0 a1).1.toNat).ZE (ZA a0 a1).2.toNat).ZL.ZH.length : Int) (Zc a0.Frame.Methods a0.Frame.Now) (nth (YM (nth a0.ZB (ZA a0 a1).1.toNat) (Zc a0.Frame.Methods a0.Frame.Now)) (ZA a0 a1).2.toNat) ([] : List QB) U) (by first | (have fl := Q0 a0; have fm := Yb (Ze.Xc (ZN.Xj u0)); simp [XA]; omega) | (refine ZU (n := 2310144) (by decide) ?_; simp (maxDischargeDepth := 12) [u0]; done)) (by first | (have fl := Q0 a0; have fm := Yb (Ze.Xc (ZN.Xj u0)); simp [XA]; omega) | (refine ZU (n := 2310144) (by decide) ?_; simp (maxDischargeDepth := 12) [u0]; done))) ?_
 refine drJ [] mixed ?_
 simp [i1, ZC, i3]
 repeat with_reducible refine QF ?_
 refine BQ (t := 21) (j := 7) (i := (ZA a0 a1).1.toNat) (c := 1) (k' := (ZA a0 a1).2.toNat) (q := 14) (n := 16) (size := 2) (s := ((nth a0.ZB (ZA a0 a1).1.toNat).ZE.map Zk.row)) (rows := (a0.ZB.map ZJ.row)) (ds := (Xi (nth (nth a0.ZB (ZA a0 a1).1.toNat).ZE (ZA a0 a1).2.toNat).ZL (Zi.mk ((nth (nth a0.ZB (ZA a0 a1).1.toNat).ZE (ZA a0 a1).2.toNat).ZL.ZH.length : Int) (Zc a0.Frame.Methods a0.Frame.Now) (nth (YM (nth a0.ZB (ZA a0 a1).1.toNat) (Zc a0.Frame.Methods a0.Frame.Now)) (ZA a0 a1).2.toNat) ([] : List QB) U)).1.row) (L := [(125, 0), (125, 1)]) rfl rfl rfl rfl (by simp; rfl) (by simp) (by simp) (by simp [i1, i3]) (by simp [ZC, YS, i1, i3]) (by simp [i1, i3]) (by simp) (by simp) (by simp) (by simp) (by simp) (by simp) ?_
 simp [Xv (x := (ZJ.mk (nth a0.ZB (ZA a0 a1).1.toNat).Id ((nth a0.ZB (ZA a0 a1).1.toNat).ZE.set (ZA a0 a1).2.toNat (Zk.mk (nth (nth a0.ZB (ZA a0 a1).1.toNat).ZE (ZA a0 a1).2.toNat).Id (nth (nth a0.ZB (ZA a0 a1).1.toNat).ZE (ZA a0 a1).2.toNat).Yw (nth (nth a0.ZB (ZA a0 a1).1.toNat).ZE (ZA a0 a1).2.toNat).Doc (nth (nth a0.ZB (ZA a0 a1).1.toNat).ZE (ZA a0 a1).2.toNat).Sig (Xi (nth (nth a0.ZB (ZA a0 a1).1.toNat).ZE (ZA a0 a1).2.toNat).ZL (Zi.mk ((nth (nth a0.ZB (ZA a0 a1).1.toNat).ZE (ZA a0 a1).2.toNat).ZL.ZH.length : Int) (Zc a0.Frame.Methods a0.Frame.Now) (nth (YM (nth a0.ZB (ZA a0 a1).1.toNat) (Zc a0.Frame.Methods a0.Frame.Now)) (ZA a0 a1).2.toNat) ([] : List QB) U)).1)))) rfl, ZC, YS, i1, i3]
 repeat with_reducible refine QF ?_
 exact rtD [.cell 6 33, .tmp 7] f
end Go.Proofs.YtnldgbpopofnoaaGreat
