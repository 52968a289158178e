/- Contracts of the functions LG the abstract machine, part S1. No condition. -/
import Derived.Test.YtfhmpplolpejnaaGreatL
import Derived.Test.YtfhmpplolpejnaaGreatTy
namespace Go.Proofs.YtfhmpplolpejnaaGreat
open Go.Vm Go.Mo
set_option maxHeartbeats 1000000
set_option maxRecDepth 100000
set_option linter.unusedSimpArgs false
set_option linter.unusedVariables false
theorem EB (a0 : Zf) (a1 : Int) : Sa 115 [a0.row, rI a1] [rI (xd a0 a1)] := by
 have f := me (xd.eq_1 a0 a1)
 refine so Tryz.func115 Tryz.ntmps115 ?_
 refine lp1 (xw.eq_2 a0 a1) (fun v1_0 => YP 22 [eI 1 a1, eX 2 (a0.row.map .d), eI 5 (↑v1_0 : Int)]) (fun n1 v1_0 => a0.YM.length < n1 + v1_0 ∧ v1_0 ≤ a0.YM.length) (a0.YM.length + 1) 0 (fun p1 v1_0 e1 j1 => ?_)
 refine cFf e1 ?_ ?_ <;> intro k2 h1 e1
 ·have i1 := ix h1
  have m2 := ml a0.YM (k2 8 _ rfl)
  have w1 := wr v1_0
  simp [i1, ZA]
  repeat with_reducible refine sd ?_
  refine cF e1 ?_ ?_ <;> intro k3 h2 e1
  ·have f := ms f e1
   exact rt [.tmp 4] f
  exact ny1 w1 e1
 have f := ms f e1
 exact rt [.tmp 4] f
theorem AB (a0 : Zo) (a1 : Int) : Sa 74 [a0.row, rI a1] [rI (Q5 a0 a1).1, rI (Q5 a0 a1).2] := by
 have f := me (Q5.eq_1 a0 a1)
 refine so Tryz.func74 Tryz.ntmps74 ?_
 refine lp1 (xK.eq_2 a0 a1) (fun v1_0 => YP 26 [eI 1 a1, eX 2 (a0.row.map .d), eI 6 (↑v1_0 : Int)]) (fun n1 v1_0 => a0.ZJ.length < n1 + v1_0 ∧ v1_0 ≤ a0.ZJ.length) (a0.ZJ.length + 1) 0 (fun p1 v1_0 e1 j1 => ?_)
 refine cFf e1 ?_ ?_ <;> intro k2 h1 e1
 ·have i1 := ix h1
  have m2 := ml a0.ZJ (k2 10 _ rfl)
  have w1 := wr v1_0
  simp [i1, ZA]
  repeat with_reducible refine sd ?_
  refine cRs (EB (nth a0.ZJ v1_0) a1) ?_
  refine cF e1 ?_ ?_ <;> intro k3 h2 e1
  ·have f := ms f e1
   exact rt [.tmp 4, .tmp 5] f
  exact ny1 w1 e1
 have f := ms f e1
 exact rt [.tmp 4, .tmp 5] f
theorem C3 (a0 : ZD) (u0 : Sm 2342912 a0) : Sd 256 [a0.row] [(ML a0).row] := by
 have f := me (ML.eq_1 a0)
 refine soD Tryz.func256 Tryz.ntmps256 ?_
 refine vP [2, 3, 4, 5, 0, 1, 6, 7, 8, 9] mixed (by kernel_rfl) (by kernel_rfl) (by kernel_rfl) ?_
 have c1 := sl 2342912 a0.Zg u0
 simp
 repeat with_reducible refine sd ?_
 exact rtD [.cell 2 194] f
theorem qm (a0 : ZD) (u0 : Sm 2342912 a0) : Sd 256 [a0.row] [a0.row] := by
  have h := C3 a0 u0
  rwa [D7] at h
theorem Bi (a0 : List ZD) (u0 : Sm 2338816 a0) : So 189 [rL 3 ZD.row a0] [rL 3 ZD.row (O7 a0)] := by
 have f := me (O7.eq_1 a0)
 refine so Tryz.func189 Tryz.ntmps189 ?_
 refine eIs ?_
 refine lp2 (S4.eq_2 a0) (fun v1_0 v1_1 => YP 21 [eL 0 3 a0 ZD.row, (3, .one (.sref 3 0 0 v1_0.length), [.arr false 3 (v1_0.map ZD.row)]), eI 4 (↑v1_1 : Int)]) (fun n1 v1_0 v1_1 => a0.length < n1 + v1_1 ∧ v1_1 ≤ a0.length ∧ v1_0.length ≤ 0 + 1 * v1_1) (a0.length + 1) ([] : List ZD) 0 (fun p1 v1_0 v1_1 e1 j1 => ?_) (h0 := Yc [((3, 0), some (5, 0))] [] rfl (by simp))
 refine cFf e1 ?_ ?_ <;> intro k2 h1 e1
 ·have i1 := ix h1
  have m2 := ml a0 (k2 0 _ rfl)
  have c1 := sl 2338816 a0 u0
  have w1 := wr v1_1
  simp [i1, ZA]
  repeat with_reducible refine sd ?_
  refine cRs (Ym.rd (qm (nth a0 v1_1) (sg (Z3 u0)))) ?_
  refine eIs ?_
  refine eIs ?_
  exact nx2 e1 (hw := Yc [((3, 0), some (19, 0))] [] rfl (by simp [w1]))
 have c2 := sl 2338816 a0 u0
 have f := ms f e1
 exact rtO [.tmp 2] f
theorem Dz (a0 : List ZD) (u0 : Sm 2338816 a0) : So 189 [rL 3 ZD.row a0] [rL 3 ZD.row a0] := by
  have h := Bi a0 u0
  rwa [Bo] at h
theorem CF (a0 : ZK) (u0 : Sm 2342912 a0) : Sd 190 [a0.row] [(MX a0).row] := by
 have f := me (MX.eq_1 a0)
 have c1 := sl 2342912 a0.Path u0
 have c2 := sl 2342912 a0.Zj u0
 refine soD Tryz.func190 Tryz.ntmps190 ?_
 exact rtD [.cell 2 199] f
theorem ER (a0 : ZK) (u0 : Sm 2342912 a0) : Sd 190 [a0.row] [a0.row] := by
  have h := CF a0 u0
  rwa [Dt] at h
theorem D5 (a0 : ZP) (u0 : Sm 2334720 a0) : So 141 [a0.row] [(Pk a0).row] := by
 have f := me (Pk.eq_1 a0)
 refine so Tryz.func141 Tryz.ntmps141 ?_
 refine cOs (Dz a0.Zd (sg (ZP.Yy u0))) ?_
 refine lp2 (UX.eq_2 a0) (fun v1_0 v1_1 => YP 28 [eX 1 (a0.row.map .d), (2, .one (.bptr 2 0), [.box [.nil 3, .nil 5]]), (3, .one (.bptr 3 0), [.box [.sref 7 0 0 a0.Zd.length, .sref 3 2 0 v1_1.length], .none, .arr false 5 (v1_1.map ZK.row)]), eI 4 (↑v1_0 : Int), (7, .any, [.arr false 3 (a0.Zd.map ZD.row)])]) (fun n1 v1_0 v1_1 => a0.ZX.length < n1 + v1_0 ∧ v1_0 ≤ a0.ZX.length ∧ v1_1.length ≤ 0 + 1 * v1_0) (a0.ZX.length + 1) 0 ([] : List ZK) (fun p1 v1_0 v1_1 e1 j1 => ?_) (h0 := Yc [((3, 2), none)] [] rfl (by simp))
 refine cF e1 ?_ ?_ <;> intro k2 h1 e1
 ·have i1 := ix h1
  have m2 := ml a0.ZX (k2 11 _ rfl)
  have c1 := sl 2334720 a0.ZX u0
  have w1 := wr v1_0
  refine dIo mixed ?_
  simp [i1, ZA]
  repeat with_reducible refine sd ?_
  refine cRs (Ym.rd (ER (nth a0.ZX v1_0) (sg (Z3 (ZP.Qc u0))))) ?_
  refine eIs ?_
  refine eIs ?_
  exact nx2 e1 (hw := Yc [((3, 2), some (25, 0))] [] rfl (by simp [w1]))
 have c2 := sl 2334720 a0.ZX u0
 have f := ms f e1
 exact rtO [.cell 2 53] f
theorem EJ (a0 : ZP) (u0 : Sm 2334720 a0) : So 141 [a0.row] [a0.row] := by
  have h := D5 a0 u0
  rwa [Dy] at h
theorem Ot (a0 : Zm) (u0 : Sm 2330624 a0) : So 98 [a0.row] [(zy a0).row] := by
 have f := me (zy.eq_1 a0)
 refine so Tryz.func98 Tryz.ntmps98 ?_
 refine cRs (EJ a0.Z0 (sg (Zm.Xd u0))) ?_
 refine eIs ?_
 exact rtO [.cell 2 143] f
theorem Yf (a0 : Int) (a1 : Int) (a2 : Int) : Sa 137 [rI a0, rI a1, rI a2] [rB (YG a0 a1 a2)] := by
 have f := me (YG.eq_1 a0 a1 a2)
 refine so Tryz.func137 Tryz.ntmps137 ?_
 exact rt [.tmp 6] f
theorem L8 (a0 : Zc) : Sa 186 [a0.row] [rB (yZ a0)] := by
 have f := me (yZ.eq_1 a0)
 refine so Tryz.func186 Tryz.ntmps186 ?_
 refine lp1 (z5.eq_2 a0) (fun v1_0 => YP 51 [eX 1 (a0.row.map .d), eI 3 (↑v1_0 : Int)]) (fun n1 v1_0 => a0.ZQ.length < n1 + v1_0 ∧ v1_0 ≤ a0.ZQ.length) (a0.ZQ.length + 1) 0 (fun p1 v1_0 e1 j1 => ?_)
 refine cFf e1 ?_ ?_ <;> intro k2 h1 e1
 ·have i1 := ix h1
  have m2 := ml a0.ZQ (k2 7 _ rfl)
  have w1 := wr v1_0
  simp [i1, ZA]
  repeat with_reducible refine sd ?_
  refine cF e1 ?_ ?_ <;> intro k3 h2 e1
  ·have f := ms f e1
   exact rt [.tmp 2] f
  exact ny1 w1 e1
 have f := ms f e1
 refine lp1 (zk.eq_2 a0) (fun v2_0 => YP 51 [eX 1 (a0.row.map .d), eI 4 (↑v2_0 : Int)]) (fun n2 v2_0 => a0.Zb.length < n2 + v2_0 ∧ v2_0 ≤ a0.Zb.length) (a0.Zb.length + 1) 0 (fun p2 v2_0 e2 j2 => ?_)
 refine cFf e2 ?_ ?_ <;> intro k5 h3 e2
 ·have i2 := ix h3
  have m4 := ml a0.Zb (k5 21 _ rfl)
  have w2 := wr v2_0
  simp [i2, ZA]
  repeat with_reducible refine sd ?_
  refine cRs (Yf (nth a0.Zb v2_0) 1 1000000000000) ?_
  refine cFo e2 ?_ ?_ <;> intro k6 h4 e2
  ·have q4 := h4; try simp [YG] at q4
   have f := ms f e2
   simp
   exact rt [.tmp 2] f
  have q4 := h4; try simp [YG] at q4
  simp
  exact ny1 w2 e2
 have f := ms f e2
 refine cRs (Yf a0.ji 0 999) ?_
 refine cGs (fun gg => (Yf (↑a0.ZQ.length : Int) 1 6)) ?_
 exact rt [.tmp 2] f
theorem sN (a0 : Int) (a1 : Int) : Sa 309 [rI a0, rI a1] [rI (Bl a0 a1)] := by
 have f := me (Bl.eq_1 a0 a1)
 refine so Tryz.func309 Tryz.ntmps309 ?_
 refine cRs (Yf a1 1 1000000000000) ?_
 refine cFo f ?_ ?_ <;> intro k1 h1 f
 ·have q1 := h1; try simp [YG] at q1
  simp
  exact rt [.tmp 4] f
 have q1 := h1; try simp [YG] at q1
 simp
 repeat with_reducible refine sd ?_
 exact rt [.tmp 4] f
theorem Eu (a0 : List Int) : Sa 255 [rL 1 iR a0] [rI (M8 a0)] := by
 have f := me (M8.eq_1 a0)
 refine so Tryz.func255 Tryz.ntmps255 ?_
 refine lp2 (PD.eq_2 a0) (fun v1_0 v1_1 => YP 22 [eL 0 1 a0 iR, eI 3 v1_0, eI 4 (↑v1_1 : Int)]) (fun n1 v1_0 v1_1 => a0.length < n1 + v1_1 ∧ v1_1 ≤ a0.length) (a0.length + 1) 11 0 (fun p1 v1_0 v1_1 e1 j1 => ?_)
 refine cFf e1 ?_ ?_ <;> intro k2 h1 e1
 ·have i1 := ix h1
  have m2 := ml a0 (k2 0 _ rfl)
  have w1 := wr v1_1
  simp [i1, ZA]
  repeat with_reducible refine sd ?_
  refine cRs (sN (nth a0 v1_1) 2147483647) ?_
  exact ny2 w1 e1
 have f := ms f e1
 exact rt [.tmp 2] f
theorem KQ (a0 : Int) (a1 : List Int) (u0 : Sm 68719476736 a1) : Sa 188 [rI a0, rL 1 iR a1] [rI (JS a0 a1)] := by
 have f := me (JS.eq_1 a0 a1)
 have c1 := sl 68719476736 a1 u0
 refine so Tryz.func188 Tryz.ntmps188 ?_
 refine cRs (Eu (([7, a0] : List Int) ++ a1)) ?_
 exact rt [.tmp 4] f
theorem Lq (a0 : Int) (a1 : ByteArray) (a2 : Int) (u0 : Sm 2326528 a1) : Sa 187 [rI a0, rS a1, rI a2] [rI (kE a0 a1 a2)] := by
 have f := me (kE.eq_1 a0 a1 a2)
 refine so Tryz.func187 Tryz.ntmps187 ?_
 refine lp2 (xP.eq_2 a1) (fun v1_0 v1_1 => YP 27 [eI 0 a0, (1, .one (.d (.str a1)), []), (7, .one (.sref 7 0 0 v1_0.length), [.arr false 1 (v1_0.map iR)]), eI 8 (↑v1_1 : Int)]) (fun n1 v1_0 v1_1 => a1.size < n1 + v1_1 ∧ v1_1 ≤ a1.size ∧ v1_0.length ≤ 1 + 1 * v1_1) (a1.size + 1) ([a2] : List Int) 0 (fun p1 v1_0 v1_1 e1 j1 => ?_) (h0 := Yc [((7, 0), some (10, 0))] [] rfl (by simp))
 refine cFo e1 ?_ ?_ <;> intro k2 h1 e1
 ·have q1 := h1; try simp at q1
  have c1 : a1.size ≤ 2326528 := Cc (by simp (maxDischargeDepth := 12) [u0])
  have w1 := wr v1_1
  simp
  repeat with_reducible refine sd ?_
  exact nx2 e1 (hw := Yc [((7, 0), some (23, 0))] [] rfl (by simp [w1]))
 have q1 := h1; try simp at q1
 have c2 : a1.size ≤ 2326528 := Cc (by simp (maxDischargeDepth := 12) [u0])
 have f := ms f e1
 simp
 refine cRs (KQ a0 v1_0 (by first | (simp (maxDischargeDepth := 12) [X6]; omega) | (simp (maxDischargeDepth := 12) [Zi (m := 68719476736) (by decide) u0]; done))) ?_
 exact rt [.tmp 6] f
theorem Rj (a0 : Int) (a1 : Zc) (u0 : Sm 2322432 a1) : Sa 140 [rI a0, a1.row] [rI (xA a0 a1)] := by
 have f := me (xA.eq_1 a0 a1)
 refine so Tryz.func140 Tryz.ntmps140 ?_
 refine cRs (L8 a1) ?_
 refine cF f ?_ ?_ <;> intro k1 h1 f
 ·exact rt [.tmp 4] f
 refine lp2 (qZ.eq_2 a0 a1) (fun v1_0 v1_1 => YP 38 [eI 0 a0, eX 3 (a1.row.map .d), (5, .one (.sref 5 0 0 v1_0.length), [.arr false 1 (v1_0.map iR)]), eI 6 (↑v1_1 : Int)]) (fun n1 v1_0 v1_1 => a1.ZQ.length < n1 + v1_1 ∧ v1_1 ≤ a1.ZQ.length ∧ v1_0.length ≤ 1 + 1 * v1_1) (a1.ZQ.length + 1) ([a1.ji] : List Int) 0 (fun p1 v1_0 v1_1 e1 j1 => ?_) (h0 := Yc [((5, 0), some (12, 0))] [] rfl (by simp))
 try dsimp only at j1
 refine cF e1 ?_ ?_ <;> intro k3 h2 e1
 ·have i1 := ix h2
  have m2 := ml a1.ZQ (k3 15 _ rfl)
  have c1 := sl 2322432 a1.ZQ u0
  have w1 := wr v1_1
  refine dIo mixed ?_
  have i2 : v1_1 < a1.Zb.length := by (have := Mk (a := a1); first | (simp_all; done) | (simp_all; omega))
  simp [i1, ZA, i2]
  repeat with_reducible refine sd ?_
  refine cRs (Lq a0 (nth a1.ZQ v1_1) (nth a1.Zb v1_1) (sg (Z3 (Zc.NA u0)))) ?_
  exact nx2 e1 (hw := Yc [((5, 0), some (34, 0))] [] rfl (by simp [w1]))
 have c2 := sl 2322432 a1.ZQ u0
 have f := ms f e1
 refine cRs (KQ a0 v1_0 (by first | (simp (maxDischargeDepth := 12) [X6]; omega) | (simp (maxDischargeDepth := 12) [Zi (m := 68719476736) (by decide) u0]; done))) ?_
 exact rt [.tmp 4] f
theorem Ia (a0 : ZP) (a1 : Zc) (u0 : Sm 2318336 a0) (u1 : Sm 2318336 a1) : Sd 185 [a0.row, a1.row] [rL 1 iR (yh a0 a1)] := by
 have f := me (yh.eq_1 a0 a1)
 refine soD Tryz.func185 Tryz.ntmps185 ?_
 refine lp2 (Km.eq_2 a0 a1) (fun v1_0 v1_1 => YP 27 [eX 2 (a0.row.map .d), eX 3 (a1.row.map .d), (5, .one (.sref 5 0 0 v1_0.length), [.arr false 1 (v1_0.map iR)]), eI 6 (↑v1_1 : Int)]) (fun n1 v1_0 v1_1 => a0.ZX.length < n1 + v1_1 ∧ v1_1 ≤ a0.ZX.length ∧ v1_0.length ≤ 0 + 1 * v1_1) (a0.ZX.length + 1) ([] : List Int) 0 (fun p1 v1_0 v1_1 e1 j1 => ?_) (h0 := Yc [((5, 0), some (7, 0))] [] rfl (by simp))
 refine cF e1 ?_ ?_ <;> intro k2 h1 e1
 ·have i1 := ix h1
  have m2 := ml a0.ZX (k2 10 _ rfl)
  have c1 := sl 2318336 a0.ZX (an u0 u1)
  have w1 := wr v1_1
  refine dIo mixed ?_
  simp [i1, ZA]
  repeat with_reducible refine sd ?_
  refine cRs (Rj (nth a0.ZX v1_1).Method a1 (sg u1)) ?_
  exact nx2 e1 (hw := Yc [((5, 0), some (25, 0))] [] rfl (by simp [w1]))
 have c2 := sl 2318336 a0.ZX (an u0 u1)
 have f := ms f e1
 exact rtD [.tmp 4] f
theorem Vu {a b : Prop} (h : b) (k : a := by (intros; first | omega | with_unfolding_all (first | (first | omega | (have z := Yv (ZL.Yl u0); omega))) | ((try simp only [Kb, show ∀ x, IntKind.i64.wrap x = W x from fun _ => rfl] at *); omega))) : a ∧ b := ⟨k, h⟩
theorem Oe (a0 : ZL) (a1 : Zc) (u0 : Sm 2314240 a0) (u1 : Sm 2314240 a1) : So 139 [a0.row, a1.row] [rL 1 (slR 1 iR) (J7 a0 a1)] := by
 have f := me (J7.eq_1 a0 a1)
 refine so Tryz.func139 Tryz.ntmps139 ?_
 refine eIs ?_
 refine lp2 (JC.eq_2 a0 a1) (fun v1_0 v1_1 => YP 26 [eX 2 (a0.row.map .d), eX 3 (a1.row.map .d), (5, .one (.sref 5 0 0 v1_0.length), [.arr false 1 (v1_0.map (slR 1 iR))]), eI 6 (↑v1_1 : Int)]) (fun n1 v1_0 v1_1 => a0.ZO.length < n1 + v1_1 ∧ v1_1 ≤ a0.ZO.length ∧ v1_0.length ≤ v1_1) (a0.ZO.length + 1) ([] : List (List Int)) 0 (fun p1 v1_0 v1_1 e1 j1 => ?_) (h0 := Yc [((5, 0), some (7, 0))] [] rfl (by simp))
 try dsimp only at j1
 refine cF e1 ?_ ?_ <;> intro k2 h1 e1
 ·have i1 := ix h1
  have m2 := ml a0.ZO (k2 10 _ rfl)
  have c1 := sl 2314240 a0.ZO (an u0 u1)
  have w1 := wr v1_1
  refine dIo mixed ?_
  simp [i1, ZA]
  repeat with_reducible refine Vu ?_
  refine cRs (Ym.rd (Ia (nth a0.ZO v1_1) a1 (sg (Z3 (ZL.Yl u0))) (sg u1))) ?_
  refine eIs ?_
  refine evI rfl rfl rfl ?_
  simp
  repeat with_reducible refine Vu ?_
  exact nx2 e1 (hw := Yc [((5, 0), some (24, 0))] [] rfl (by simp [w1]))
 have c2 := sl 2314240 a0.ZO (an u0 u1)
 have f := ms f e1
 exact rtO [.tmp 4] f
theorem yY (a0 : Int) : Sa 156 [rI a0] [rB (qX a0)] := by
 have f := me (qX.eq_1 a0)
 refine so Tryz.func156 Tryz.ntmps156 ?_
 refine cRs (Yf a0 0 10000) ?_
 exact rt [.tmp 2] f
theorem Ik (a0 : Int) : Sa 283 [rI a0] [rB (jy a0)] := by
 have f := me (jy.eq_1 a0)
 refine so Tryz.func283 Tryz.ntmps283 ?_
 refine cRs (Yf a0 1 2147483646) ?_
 exact rt [.tmp 2] f
theorem wU (a0 : Zs) : Sa 221 [a0.row] [rB (N4 a0)] := by
 have f := me (N4.eq_1 a0)
 refine so Tryz.func221 Tryz.ntmps221 ?_
 refine cRs (Yf a0.Number 1 99) ?_
 refine cGs (fun gg => (Yf a0.Js 0 99)) ?_
 refine cGs (fun gg => (Yf a0.Method 0 99)) ?_
 refine cGs (fun gg => (yY a0.OC)) ?_
 refine cGs (fun gg => (Ik a0.xg)) ?_
 exact rt [.tmp 2] f
theorem C4 (a0 : List Zs) : Sa 153 [rL 5 Zs.row a0] [rB (Td a0)] := by
 have f := me (Td.eq_1 a0)
 refine so Tryz.func153 Tryz.ntmps153 ?_
 refine lp1 (WM.eq_2 a0) (fun v1_0 => YP 37 [eL 0 5 a0 Zs.row, eI 3 (↑v1_0 : Int)]) (fun n1 v1_0 => a0.length < n1 + v1_0 ∧ v1_0 ≤ a0.length) (a0.length + 1) 0 (fun p1 v1_0 e1 j1 => ?_)
 refine cF e1 ?_ ?_ <;> intro k2 h1 e1
 ·have i1 := ix h1
  have m2 := ml a0 (k2 0 _ rfl)
  have w1 := wr v1_0
  refine dIo mixed ?_
  simp [i1, ZA]
  repeat with_reducible refine sd ?_
  refine cRs (wU (nth a0 v1_0)) ?_
  refine gIf ?_ ?_ <;> intro G
  ·have i2 := ik (v1_0 - 1) a0
   have w2 : IntKind.i64.wrap ((v1_0 : Int) - 1) = (v1_0 : Int) - 1 := Zk (by omega) (by omega)
   simp [i2, ZA, w2, Qz, G]
   repeat with_reducible refine sdg ?_
   refine gK (fun _ => ?_)
   simp [i1, ZA, G]
   repeat with_reducible refine sdg ?_
   refine cK e1 ?_ ?_ <;> intro k4 h2 e1
   ·try (simp [G] at h2; done)
    all_goals
     have f := ms f e1
     exact rtg [.tmp 2] f
   ·try (simp [G] at h2; done)
    all_goals
     exact ny1 (an w1 (an w2 G)) e1
  ·refine sGg ?_
   refine cK e1 ?_ ?_ <;> intro k5 h3 e1
   ·try (simp [G] at h3; done)
    all_goals
     have f := ms f e1
     exact rtg [.tmp 2] f
   ·try (simp [G] at h3; done)
    all_goals
     exact ny1 (an w1 G) e1
 have f := ms f e1
 exact rt [.tmp 2] f
theorem P5 (a0 : List ZG) : Sa 154 [rL 3 ZG.row a0] [rB (z9 a0)] := by
 have f := me (z9.eq_1 a0)
 refine so Tryz.func154 Tryz.ntmps154 ?_
 refine lp1 (Kn.eq_2 a0) (fun v1_0 => YP 56 [eL 0 3 a0 ZG.row, eI 3 (↑v1_0 : Int)]) (fun n1 v1_0 => a0.length < n1 + v1_0 ∧ v1_0 ≤ a0.length) (a0.length + 1) 0 (fun p1 v1_0 e1 j1 => ?_)
 refine cF e1 ?_ ?_ <;> intro k2 h1 e1
 ·have i1 := ix h1
  have m2 := ml a0 (k2 0 _ rfl)
  have w1 := wr v1_0
  refine dIo mixed ?_
  simp [i1, ZA]
  repeat with_reducible refine sd ?_
  refine cRs (Yf (nth a0 v1_0).Id 0 99) ?_
  refine gIf ?_ ?_ <;> intro G
  ·have g1 := G; try simp [YG] at g1
   simp [i1, ZA, G]
   repeat with_reducible refine sdg ?_
   refine cGg (fun gg => (Yf (nth a0 v1_0).Key 1 99)) ?_
   refine gJf G ?_ ?_ <;> intro G
   ·try (simp at G; done)
    all_goals
     have g2 := G.2; try simp [YG] at g2
     all_goals
      simp [i1, ZA, G]
      repeat with_reducible refine sdg ?_
      refine cGg (fun gg => (Yf (nth a0 v1_0).Error 0 100)) ?_
      refine gJf G ?_ ?_ <;> intro G
      ·try (simp at G; done)
       all_goals
        have i2 := ik (v1_0 - 1) a0
        have w2 : IntKind.i64.wrap ((v1_0 : Int) - 1) = (v1_0 : Int) - 1 := Zk (by omega) (by omega)
        simp [i2, ZA, w2, Qz, G]
        repeat with_reducible refine sdg ?_
        refine gK (fun _ => ?_)
        simp [i1, ZA, G]
        repeat with_reducible refine sdg ?_
        refine cKo e1 ?_ ?_ <;> intro k4 h2 e1
        ·try (simp [G] at h2; done)
         all_goals
          have q2 := h2; try simp [YG] at q2
          have f := ms f e1
          simp [G]
          repeat with_reducible refine sdg ?_
          exact rtg [.tmp 2] f
        ·try (simp [G] at h2; done)
         all_goals
          have q2 := h2; try simp [YG] at q2
          simp [G]
          repeat with_reducible refine sdg ?_
          exact ny1 (an w1 (an w2 G)) e1
      ·try (simp at G; done)
       all_goals
        refine sGg ?_
        refine cKo e1 ?_ ?_ <;> intro k5 h3 e1
        ·try (simp [G] at h3; done)
         all_goals
          have q3 := h3; try simp [YG] at q3
          have f := ms f e1
          simp [G]
          repeat with_reducible refine sdg ?_
          exact rtg [.tmp 2] f
        ·try (simp [G] at h3; done)
         all_goals
          have q3 := h3; try simp [YG] at q3
          simp [G]
          repeat with_reducible refine sdg ?_
          exact ny1 (an w1 G) e1
   ·try (simp at G; done)
    all_goals
     refine sGo ?_
     simp [G]
     repeat with_reducible refine sdg ?_
     refine gJf G ?_ ?_ <;> intro G
     ·try (simp at G; done)
      all_goals
       have i4 := ik (v1_0 - 1) a0
       have w4 : IntKind.i64.wrap ((v1_0 : Int) - 1) = (v1_0 : Int) - 1 := Zk (by omega) (by omega)
       simp [i4, ZA, w4, Qz, G]
       repeat with_reducible refine sdg ?_
       refine gK (fun _ => ?_)
       simp [i1, ZA, G]
       repeat with_reducible refine sdg ?_
       refine cKo e1 ?_ ?_ <;> intro k6 h4 e1
       ·try (simp [G] at h4; done)
        all_goals
         have q4 := h4; try simp [YG] at q4
         have f := ms f e1
         simp [G]
         repeat with_reducible refine sdg ?_
         exact rtg [.tmp 2] f
       ·try (simp [G] at h4; done)
        all_goals
         have q4 := h4; try simp [YG] at q4
         simp [G]
         repeat with_reducible refine sdg ?_
         exact ny1 (an w1 (an w4 G)) e1
     ·try (simp at G; done)
      all_goals
       refine sGg ?_
       refine cKo e1 ?_ ?_ <;> intro k7 h5 e1
       ·try (simp [G] at h5; done)
        all_goals
         have q5 := h5; try simp [YG] at q5
         have f := ms f e1
         simp [G]
         repeat with_reducible refine sdg ?_
         exact rtg [.tmp 2] f
       ·try (simp [G] at h5; done)
        all_goals
         have q5 := h5; try simp [YG] at q5
         simp [G]
         repeat with_reducible refine sdg ?_
         exact ny1 (an w1 G) e1
  ·refine sGo ?_
   simp [G]
   repeat with_reducible refine sdg ?_
   refine gJf G ?_ ?_ <;> intro G
   ·try (simp at G; done)
    all_goals
     have g5 := G.2; try simp [YG] at g5
     all_goals
      simp [i1, ZA, G]
      repeat with_reducible refine sdg ?_
      refine cGg (fun gg => (Yf (nth a0 v1_0).Error 0 100)) ?_
      refine gJf G ?_ ?_ <;> intro G
      ·try (simp at G; done)
       all_goals
        have i6 := ik (v1_0 - 1) a0
        have w6 : IntKind.i64.wrap ((v1_0 : Int) - 1) = (v1_0 : Int) - 1 := Zk (by omega) (by omega)
        simp [i6, ZA, w6, Qz, G]
        repeat with_reducible refine sdg ?_
        refine gK (fun _ => ?_)
        simp [i1, ZA, G]
        repeat with_reducible refine sdg ?_
        refine cKo e1 ?_ ?_ <;> intro k8 h6 e1
        ·try (simp [G] at h6; done)
         all_goals
          have q6 := h6; try simp [YG] at q6
          have f := ms f e1
          simp [G]
          repeat with_reducible refine sdg ?_
          exact rtg [.tmp 2] f
        ·try (simp [G] at h6; done)
         all_goals
          have q6 := h6; try simp [YG] at q6
          simp [G]
          repeat with_reducible refine sdg ?_
          exact ny1 (an w1 (an w6 G)) e1
      ·try (simp at G; done)
       all_goals
        refine sGg ?_
        refine cKo e1 ?_ ?_ <;> intro k9 h7 e1
        ·try (simp [G] at h7; done)
         all_goals
          have q7 := h7; try simp [YG] at q7
          have f := ms f e1
          simp [G]
          repeat with_reducible refine sdg ?_
          exact rtg [.tmp 2] f
        ·try (simp [G] at h7; done)
         all_goals
          have q7 := h7; try simp [YG] at q7
          simp [G]
          repeat with_reducible refine sdg ?_
          exact ny1 (an w1 G) e1
   ·try (simp at G; done)
    all_goals
     refine sGo ?_
     simp [G]
     repeat with_reducible refine sdg ?_
     refine gJf G ?_ ?_ <;> intro G
     ·try (simp at G; done)
      all_goals
       have i8 := ik (v1_0 - 1) a0
       have w8 : IntKind.i64.wrap ((v1_0 : Int) - 1) = (v1_0 : Int) - 1 := Zk (by omega) (by omega)
       simp [i8, ZA, w8, Qz, G]
       repeat with_reducible refine sdg ?_
       refine gK (fun _ => ?_)
       simp [i1, ZA, G]
       repeat with_reducible refine sdg ?_
       refine cKo e1 ?_ ?_ <;> intro k10 h8 e1
       ·try (simp [G] at h8; done)
        all_goals
         have q8 := h8; try simp [YG] at q8
         have f := ms f e1
         simp [G]
         repeat with_reducible refine sdg ?_
         exact rtg [.tmp 2] f
       ·try (simp [G] at h8; done)
        all_goals
         have q8 := h8; try simp [YG] at q8
         simp [G]
         repeat with_reducible refine sdg ?_
         exact ny1 (an w1 (an w8 G)) e1
     ·try (simp at G; done)
      all_goals
       refine sGg ?_
       refine cKo e1 ?_ ?_ <;> intro k11 h9 e1
       ·try (simp [G] at h9; done)
        all_goals
         have q9 := h9; try simp [YG] at q9
         have f := ms f e1
         simp [G]
         repeat with_reducible refine sdg ?_
         exact rtg [.tmp 2] f
       ·try (simp [G] at h9; done)
        all_goals
         have q9 := h9; try simp [YG] at q9
         simp [G]
         repeat with_reducible refine sdg ?_
         exact ny1 (an w1 G) e1
 have f := ms f e1
 exact rt [.tmp 2] f
theorem Fz (a0 : Zh) : Sa 222 [a0.row] [rB (UP a0)] := by
 have f := me (UP.eq_1 a0)
 refine so Tryz.func222 Tryz.ntmps222 ?_
 refine cRs (Yf a0.Id 0 99) ?_
 refine cGs (fun gg => (yY a0.Ui)) ?_
 refine cGs (fun gg => (Yf a0.Ends 1 10001)) ?_
 refine cGs (fun gg => (Yf a0.qO 1 10001)) ?_
 exact rt [.tmp 2] f
theorem I7 (a0 : List Zh) : Sa 155 [rL 4 Zh.row a0] [rB (jw a0)] := by
 have f := me (jw.eq_1 a0)
 refine so Tryz.func155 Tryz.ntmps155 ?_
 refine lp1 (xN.eq_2 a0) (fun v1_0 => YP 37 [eL 0 4 a0 Zh.row, eI 3 (↑v1_0 : Int)]) (fun n1 v1_0 => a0.length < n1 + v1_0 ∧ v1_0 ≤ a0.length) (a0.length + 1) 0 (fun p1 v1_0 e1 j1 => ?_)
 refine cF e1 ?_ ?_ <;> intro k2 h1 e1
 ·have i1 := ix h1
  have m2 := ml a0 (k2 0 _ rfl)
  have w1 := wr v1_0
  refine dIo mixed ?_
  simp [i1, ZA]
  repeat with_reducible refine sd ?_
  refine cRs (Fz (nth a0 v1_0)) ?_
  refine gIf ?_ ?_ <;> intro G
  ·have i2 := ik (v1_0 - 1) a0
   have w2 : IntKind.i64.wrap ((v1_0 : Int) - 1) = (v1_0 : Int) - 1 := Zk (by omega) (by omega)
   simp [i2, ZA, w2, Qz, G]
   repeat with_reducible refine sdg ?_
   refine gK (fun _ => ?_)
   simp [i1, ZA, G]
   repeat with_reducible refine sdg ?_
   refine cK e1 ?_ ?_ <;> intro k4 h2 e1
   ·try (simp [G] at h2; done)
    all_goals
     have f := ms f e1
     exact rtg [.tmp 2] f
   ·try (simp [G] at h2; done)
    all_goals
     exact ny1 (an w1 (an w2 G)) e1
  ·refine sGg ?_
   refine cK e1 ?_ ?_ <;> intro k5 h3 e1
   ·try (simp [G] at h3; done)
    all_goals
     have f := ms f e1
     exact rtg [.tmp 2] f
   ·try (simp [G] at h3; done)
    all_goals
     exact ny1 (an w1 G) e1
 have f := ms f e1
 exact rt [.tmp 2] f
theorem Cp (a0 : ZI) : Sa 124 [a0.row] [rB (VX a0)] := by
 have f := me (VX.eq_1 a0)
 refine so Tryz.func124 Tryz.ntmps124 ?_
 refine cRs (C4 a0.YY) ?_
 refine cGs (fun gg => (P5 a0.ZN)) ?_
 refine cGs (fun gg => (I7 a0.Methods)) ?_
 refine cGs (fun gg => (Yf a0.QR 0 6)) ?_
 refine cGs (fun gg => (yY a0.Now)) ?_
 exact rt [.tmp 2] f
theorem qL (a0 : Int) : Sa 176 [rI a0] [(jK a0).row] := by
 have f := me (jK.eq_1 a0)
 refine so Tryz.func176 Tryz.ntmps176 ?_
 exact rt [.cell 2 79] f
theorem Ty (a0 : ZV) : Sa 235 [a0.row] [rB (zV a0)] := by
 have f := me (zV.eq_1 a0)
 refine so Tryz.func235 Tryz.ntmps235 ?_
 refine cRs (Yf a0.Key 1 99) ?_
 refine cGs (fun gg => (Yf a0.YA 1 999)) ?_
 refine cGs (fun gg => (Yf a0.Method 0 99)) ?_
 refine cGs (fun gg => (Yf a0.Org 0 99)) ?_
 refine cGs (fun gg => (Yf a0.qS 1 3)) ?_
 refine cGs (fun gg => (Yf a0.Yz 0 1000000000000)) ?_
 refine cGs (fun gg => (Yf a0.y3 0 1000000000000)) ?_
 refine cGs (fun gg => (Yf a0.Kd 0 1000000000000)) ?_
 exact rt [.tmp 2] f
theorem Ro (a0 : Int) : Sa 236 [rI a0] [(Rl a0).row] := by
 have f := me (Rl.eq_1 a0)
 refine so Tryz.func236 Tryz.ntmps236 ?_
 exact rt [.cell 2 79] f
theorem Kz (a0 : List Zs) (a1 : Int) : Sa 174 [rL 5 Zs.row a0, rI a1] [rI (Ys a0 a1)] := by
 have f := me (Ys.eq_1 a0 a1)
 refine so Tryz.func174 Tryz.ntmps174 ?_
 refine lp1 (jT.eq_2 a0 a1) (fun v1_0 => YP 20 [eL 0 5 a0 Zs.row, eI 1 a1, eI 5 (↑v1_0 : Int)]) (fun n1 v1_0 => a0.length < n1 + v1_0 ∧ v1_0 ≤ a0.length) (a0.length + 1) 0 (fun p1 v1_0 e1 j1 => ?_)
 refine cFf e1 ?_ ?_ <;> intro k2 h1 e1
 ·have i1 := ix h1
  have m2 := ml a0 (k2 0 _ rfl)
  have w1 := wr v1_0
  simp [i1, ZA]
  repeat with_reducible refine sd ?_
  refine cF e1 ?_ ?_ <;> intro k3 h2 e1
  ·have f := ms f e1
   exact rt [.tmp 4] f
  exact ny1 w1 e1
 have f := ms f e1
 exact rt [.tmp 4] f
theorem UD (a0 : ZV) : Sd 240 [a0.row] [rL 1 iR (QH a0)] := by
 have f := me (QH.eq_1 a0)
 refine soD Tryz.func240 Tryz.ntmps240 ?_
 exact rtD [.tmp 2] f
theorem H0 (a0 : Int) (a1 : List Int) (u0 : Sm 2330624 a1) : Sa 329 [rI a0, rL 1 iR a1] [rI (We a0 a1)] := by
 have f := me (We.eq_1 a0 a1)
 have c1 := sl 2330624 a1 u0
 refine so Tryz.func329 Tryz.ntmps329 ?_
 refine cRs (Eu ((([a0] : List Int) ++ a1) ++ ([a0] : List Int))) ?_
 exact rt [.tmp 4] f
theorem OL (a0 : Zs) (a1 : List Int) (u0 : Sm 2326528 a1) : Sa 285 [a0.row, rL 1 iR a1] [rI (ke a0 a1)] := by
 have f := me (ke.eq_1 a0 a1)
 refine so Tryz.func285 Tryz.ntmps285 ?_
 refine vP [2, 3, 4, 5, 6, 0, 1, 7, 8] mixed (by kernel_rfl) (by kernel_rfl) (by kernel_rfl) ?_
 have c1 := sl 2326528 a1 u0
 simp
 repeat with_reducible refine sd ?_
 refine cRs (H0 a0.xg (([a0.Method] : List Int) ++ a1) (by simp (maxDischargeDepth := 12) [KY, X6, Zi (m := 2330624) (by decide) u0]; try omega)) ?_
 exact rt [.tmp 4] f
theorem jf (a0 : List Zs) (a1 : Int) (a2 : List Int) (a3 : Int) (u0 : Sm 2322432 a0) (u1 : Sm 2322432 a2) : Sa 224 [rL 5 Zs.row a0, rI a1, rL 1 iR a2, rI a3] [rB (yP a0 a1 a2 a3)] := by
 have f := me (yP.eq_1 a0 a1 a2 a3)
 refine so Tryz.func224 Tryz.ntmps224 ?_
 refine cRs (Kz a0 a1) ?_
 refine gIf ?_ ?_ <;> intro G
 ·have i1 : (Ys a0 a1).toNat < a0.length := by have := KF a0 a1; exact il
  simp [i1, ZA, G]
  repeat with_reducible refine sdg ?_
  refine cGg (fun gg => (OL (nth a0 (Ys a0 a1).toNat) a2 (sg u1))) ?_
  exact rtg [.tmp 8] f
 ·refine sGo ?_
  simp [G]
  repeat with_reducible refine sdg ?_
  exact rtg [.tmp 8] f
theorem P4 (a0 : List Zs) (a1 : ZV) (u0 : Sm 2318336 a0) : Sa 237 [rL 5 Zs.row a0, a1.row] [rB (zl a0 a1)] := by
 have f := me (zl.eq_1 a0 a1)
 refine so Tryz.func237 Tryz.ntmps237 ?_
 refine dIs mixed ?_
 refine cRs (Ty a1) ?_
 refine cGs (fun gg => Ym.rd (UD a1)) ?_
 refine cGs (fun gg => (jf a0 a1.Key (QH a1) a1.Mark (sg u0) (by simp (maxDischargeDepth := 12) [Vz, Zi (m := 2322432) (by decide) u0]; try omega))) ?_
 exact rt [.tmp 4] f
theorem CP (a0 : ZI) (a1 : Int) (a2 : ZV) (u0 : Sm 2314240 a0) : Sa 171 [a0.row, rI a1, a2.row] [(ka a0 a1 a2).row] := by
 have f := me (ka.eq_1 a0 a1 a2)
 refine so Tryz.func171 Tryz.ntmps171 ?_
 refine cRs (Cp a0) ?_
 refine cF f ?_ ?_ <;> intro k1 h1 f
 ·refine cRs (qL 1) ?_
  exact rt [.cell 6 79] f
 refine cRs (Ty a2) ?_
 refine cF f ?_ ?_ <;> intro k2 h2 f
 ·refine cRs (Ro 1) ?_
  exact rt [.cell 6 79] f
 refine cF f ?_ ?_ <;> intro k3 h3 f
 ·refine cRs (qL 2) ?_
  exact rt [.cell 6 79] f
 refine cF f ?_ ?_ <;> intro k4 h4 f
 ·refine cRs (Ro 2) ?_
  exact rt [.cell 6 79] f
 refine cRs (Kz a0.YY a2.Key) ?_
 refine cF f ?_ ?_ <;> intro k5 h5 f
 ·refine cRs (qL 3) ?_
  exact rt [.cell 6 79] f
 refine cRs (P4 a0.YY a2 (sg (ZI.Ye u0))) ?_
 refine cF f ?_ ?_ <;> intro k6 h6 f
 ·refine cRs (Ro 4) ?_
  exact rt [.cell 6 79] f
 exact rt [.cell 6 79] f
theorem Gw (a0 : ZV) : Sd 173 [a0.row] [(XX a0).row] := by
 have f := me (XX.eq_1 a0)
 refine soD Tryz.func173 Tryz.ntmps173 ?_
 refine dIs mixed ?_
 refine cDs [false] (UD a0) ?_
 exact rtD [.cell 2 194] f
theorem GA (a0 : List Int) (a1 : List Int) : Sa 330 [rL 1 iR a0, rL 1 iR a1] [rB (Uv a0 a1)] := by
 have f := me (Uv.eq_1 a0 a1)
 refine so Tryz.func330 Tryz.ntmps330 ?_
 refine cF f ?_ ?_ <;> intro k1 h1 f
 ·exact rt [.tmp 4] f
 refine lp1 (kx.eq_2 a0 a1) (fun v1_0 => YP 26 [eL 0 1 a0 iR, eL 1 1 a1 iR, eI 5 (↑v1_0 : Int)]) (fun n1 v1_0 => a0.length < n1 + v1_0 ∧ v1_0 ≤ a0.length) (a0.length + 1) 0 (fun p1 v1_0 e1 j1 => ?_)
 refine cF e1 ?_ ?_ <;> intro k3 h2 e1
 ·have i1 := ix h2
  have m2 := ml a0 (k3 0 _ rfl)
  have w1 := wr v1_0
  refine dIo mixed ?_
  have i2 := ik v1_0 a1
  simp [i1, ZA, i2]
  repeat with_reducible refine sd ?_
  refine cF e1 ?_ ?_ <;> intro k5 h3 e1
  ·have f := ms f e1
   exact rt [.tmp 4] f
  exact ny1 w1 e1
 have f := ms f e1
 exact rt [.tmp 4] f
theorem xt (a0 : ZD) (a1 : ZD) : Sa 287 [a0.row, a1.row] [rB (zQ a0 a1)] := by
 have f := me (zQ.eq_1 a0 a1)
 refine so Tryz.func287 Tryz.ntmps287 ?_
 refine cGs (fun gg => (GA a0.Zg a1.Zg)) ?_
 exact rt [.tmp 4] f
theorem FC (a0 : ZP) (a1 : ZD) : Sa 291 [a0.row, a1.row] [rI (xG a0 a1)] := by
 have f := me (xG.eq_1 a0 a1)
 refine so Tryz.func291 Tryz.ntmps291 ?_
 refine lp1 (qj.eq_2 a0 a1) (fun v1_0 => YP 21 [eX 2 (a0.row.map .d), eX 3 (a1.row.map .d), eI 5 (↑v1_0 : Int)]) (fun n1 v1_0 => a0.Zd.length < n1 + v1_0 ∧ v1_0 ≤ a0.Zd.length) (a0.Zd.length + 1) 0 (fun p1 v1_0 e1 j1 => ?_)
 refine cF e1 ?_ ?_ <;> intro k2 h1 e1
 ·have i1 := ix h1
  have m2 := ml a0.Zd (k2 8 _ rfl)
  have w1 := wr v1_0
  refine dIo mixed ?_
  simp [i1, ZA]
  repeat with_reducible refine sd ?_
  refine cRs (xt (nth a0.Zd v1_0) a1) ?_
  refine cF e1 ?_ ?_ <;> intro k4 h2 e1
  ·have f := ms f e1
   exact rt [.tmp 4] f
  exact ny1 w1 e1
 have f := ms f e1
 exact rt [.tmp 4] f
theorem qv (a0 : List ZG) (a1 : Int) : Sa 123 [rL 3 ZG.row a0, rI a1] [rI (Z9 a0 a1)] := by
 have f := me (Z9.eq_1 a0 a1)
 refine so Tryz.func123 Tryz.ntmps123 ?_
 refine lp1 (Jw.eq_2 a0 a1) (fun v1_0 => YP 20 [eL 0 3 a0 ZG.row, eI 1 a1, eI 5 (↑v1_0 : Int)]) (fun n1 v1_0 => a0.length < n1 + v1_0 ∧ v1_0 ≤ a0.length) (a0.length + 1) 0 (fun p1 v1_0 e1 j1 => ?_)
 refine cFf e1 ?_ ?_ <;> intro k2 h1 e1
 ·have i1 := ix h1
  have m2 := ml a0 (k2 0 _ rfl)
  have w1 := wr v1_0
  simp [i1, ZA]
  repeat with_reducible refine sd ?_
  refine cF e1 ?_ ?_ <;> intro k3 h2 e1
  ·have f := ms f e1
   exact rt [.tmp 4] f
  exact ny1 w1 e1
 have f := ms f e1
 exact rt [.tmp 4] f
theorem Xl (a0 : Int) (a1 : Int) : Sa 247 [rI a0, rI a1] [rI (y5 a0 a1)] := by
 have f := me (y5.eq_1 a0 a1)
 refine so Tryz.func247 Tryz.ntmps247 ?_
 refine cF f ?_ ?_ <;> intro k1 h1 f
 ·exact rt [.tmp 4] f
 exact rt [.tmp 4] f
theorem SK (a0 : Int) (a1 : Int) : Sa 238 [rI a0, rI a1] [rI (Vq a0 a1)] := by
 have f := me (Vq.eq_1 a0 a1)
 refine so Tryz.func238 Tryz.ntmps238 ?_
 refine cF f ?_ ?_ <;> intro k1 h1 f
 ·exact rt [.tmp 4] f
 exact rt [.tmp 4] f
theorem qY (a0 : Int) (a1 : Int) : Sa 306 [rI a0, rI a1] [(Xz a0 a1).1.row, rB (Xz a0 a1).2] := by
 have f := me (Xz.eq_1 a0 a1)
 refine so Tryz.func306 Tryz.ntmps306 ?_
 refine cRs (Xl 0 a0) ?_
 refine cRs (SK 10000 a1) ?_
 refine cF f ?_ ?_ <;> intro k1 h1 f
 ·exact rt [.cell 4 77, .tmp 5] f
 exact rt [.cell 4 77, .tmp 5] f
theorem Pf (a0 : List ZG) (a1 : ZY) : Sa 296 [rL 3 ZG.row a0, a1.row] [(K2 a0 a1).1.row, rB (K2 a0 a1).2] := by
 have f := me (K2.eq_1 a0 a1)
 refine so Tryz.func296 Tryz.ntmps296 ?_
 refine cRs (qv a0 a1.Authority) ?_
 refine gIf ?_ ?_ <;> intro G
 ·have i1 : (Z9 a0 a1.Authority).toNat < a0.length := by have := yn a0 a1.Authority; exact il
  simp [i1, ZA, G]
  repeat with_reducible refine sdg ?_
  refine cGg (fun gg => (yY a1.Time)) ?_
  refine cK f ?_ ?_ <;> intro k1 h1 f
  ·try (simp [G] at h1; done)
   all_goals
    exact rtg [.cell 4 77, .tmp 5] f
  ·try (simp [G] at h1; done)
   all_goals
    refine dIo mixed ?_
    simp [i1, ZA, G]
    repeat with_reducible refine sdg ?_
    refine cRg (qY (W (a1.Time - (nth a0 (Z9 a0 a1.Authority).toNat).Error)) (W (a1.Time + (nth a0 (Z9 a0 a1.Authority).toNat).Error))) ?_
    exact rtg [.cell 4 77, .tmp 5] f
 ·refine cGg (fun gg => (yY a1.Time)) ?_
  refine cK f ?_ ?_ <;> intro k3 h2 f
  ·try (simp [G] at h2; done)
   all_goals
    exact rtg [.cell 4 77, .tmp 5] f
  ·try (simp [G] at h2; done)
   all_goals
    refine dIo mixed ?_
    have i3 : (Z9 a0 a1.Authority).toNat < a0.length := by have := yn a0 a1.Authority; exact il
    simp [i3, ZA, G]
    repeat with_reducible refine sdg ?_
    refine cRg (qY (W (a1.Time - (nth a0 (Z9 a0 a1.Authority).toNat).Error)) (W (a1.Time + (nth a0 (Z9 a0 a1.Authority).toNat).Error))) ?_
    exact rtg [.cell 4 77, .tmp 5] f
theorem Xh (a0 : ZF) : Sa 252 [a0.row] [rB (KB a0)] := by
 have f := me (KB.eq_1 a0)
 refine so Tryz.func252 Tryz.ntmps252 ?_
 refine cRs (yY a0.YN) ?_
 refine cGs (fun gg => (yY a0.To)) ?_
 exact rt [.tmp 2] f
theorem CD (a0 : List ZF) (a1 : Int) : Sa 351 [rL 2 ZF.row a0, rI a1] [rI (SL a0 a1)] := by
 have f := me (SL.eq_1 a0 a1)
 refine so Tryz.func351 Tryz.ntmps351 ?_
 refine lp2 (jH.eq_2 a0 a1) (fun v1_0 v1_1 => YP 39 [eL 0 2 a0 ZF.row, eI 1 a1, eI 5 v1_0, eI 6 (↑v1_1 : Int)]) (fun n1 v1_0 v1_1 => a0.length < n1 + v1_1 ∧ v1_1 ≤ a0.length) (a0.length + 1) 0 0 (fun p1 v1_0 v1_1 e1 j1 => ?_)
 refine cFf e1 ?_ ?_ <;> intro k2 h1 e1
 ·have i1 := ix h1
  have m2 := ml a0 (k2 0 _ rfl)
  have w1 := wr v1_1
  simp [i1, ZA]
  repeat with_reducible refine sd ?_
  refine cRs (Xh (nth a0 v1_1)) ?_
  refine gIf ?_ ?_ <;> intro G
  ·simp [i1, ZA, G]
   repeat with_reducible refine sdg ?_
   refine gJf G ?_ ?_ <;> intro G
   ·try (simp at G; done)
    all_goals
     simp [i1, ZA, G]
     repeat with_reducible refine sdg ?_
     refine cK e1 ?_ ?_ <;> intro k3 h2 e1
     ·try (simp [G] at h2; done)
      all_goals
       exact ny2 (an w1 G) e1
     ·try (simp [G] at h2; done)
      all_goals
       exact ny2 (an w1 G) e1
   ·try (simp at G; done)
    all_goals
     refine cK e1 ?_ ?_ <;> intro k4 h3 e1
     ·try (simp [G] at h3; done)
      all_goals
       exact ny2 (an w1 G) e1
     ·try (simp [G] at h3; done)
      all_goals
       exact ny2 (an w1 G) e1
  ·refine gJf G ?_ ?_ <;> intro G
   ·try (simp at G; done)
    all_goals
     simp [i1, ZA, G]
     repeat with_reducible refine sdg ?_
     refine cK e1 ?_ ?_ <;> intro k5 h4 e1
     ·try (simp [G] at h4; done)
      all_goals
       exact ny2 (an w1 G) e1
     ·try (simp [G] at h4; done)
      all_goals
       exact ny2 (an w1 G) e1
   ·try (simp at G; done)
    all_goals
     refine cK e1 ?_ ?_ <;> intro k6 h5 e1
     ·try (simp [G] at h5; done)
      all_goals
       exact ny2 (an w1 G) e1
     ·try (simp [G] at h5; done)
      all_goals
       exact ny2 (an w1 G) e1
 have f := ms f e1
 exact rt [.tmp 4] f
theorem QL (a0 : List ZF) (a1 : Int) (a2 : Int) : Sa 336 [rL 2 ZF.row a0, rI a1, rI a2] [rB (zX a0 a1 a2)] := by
 have f := me (zX.eq_1 a0 a1 a2)
 refine so Tryz.func336 Tryz.ntmps336 ?_
 refine cRs (Yf a2 0 (W ((↑a0.length : Int) - 1))) ?_
 refine cGs (fun gg => (CD a0 a1)) ?_
 exact rt [.tmp 6] f
theorem Rf (a0 : List ZF) (a1 : Int) (u0 : Sm 2322432 a0) : Sa 300 [rL 2 ZF.row a0, rI a1] [(KL a0 a1).1.row, rB (KL a0 a1).2] := by
 have f := me (KL.eq_1 a0 a1)
 refine so Tryz.func300 Tryz.ntmps300 ?_
 refine cRs (Yf a1 0 (W ((↑a0.length : Int) - 1))) ?_
 have c1 := sl 2322432 a0 u0
 have w1 : IntKind.i64.wrap ((a0.length : Int) - 1) = (a0.length : Int) - 1 := Zk (by omega) (by omega)
 refine cFo f ?_ ?_ <;> intro k1 h1 f
 ·have q1 := h1; try simp [YG, w1] at q1
  simp
  exact rt [.cell 4 77, .tmp 5] f
 have q1 := h1; try simp [YG, w1] at q1
 simp
 refine lp3 (Xv.eq_2 a0 a1) (fun v1_0 v1_1 v1_2 => YP 83 [eL 0 2 a0 ZF.row, eI 1 a1, (4, .one (.bptr 4 0), [.box [.d (.int .i64 0), .d (.int .i64 0)]]), eI 6 v1_0, eI 7 v1_1, eI 8 (↑v1_2 : Int)]) (fun n1 v1_0 v1_1 v1_2 => a0.length < n1 + v1_2 ∧ v1_2 ≤ a0.length) (a0.length + 1) (-1) (-1) 0 (fun p1 v1_0 v1_1 v1_2 e1 j1 => ?_)
 refine cFf e1 ?_ ?_ <;> intro k3 h2 e1
 ·have i1 := ix h2
  have m2 := ml a0 (k3 0 _ rfl)
  have w2 := wr v1_2
  simp [i1, ZA]
  repeat with_reducible refine sd ?_
  refine cRs (Xh (nth a0 v1_2)) ?_
  refine gIf ?_ ?_ <;> intro G
  ·simp [i1, ZA, G]
   repeat with_reducible refine sdg ?_
   refine cGg (fun gg => (QL a0 (nth a0 v1_2).YN a1)) ?_
   refine gJf G ?_ ?_ <;> intro G
   ·try (simp at G; done)
    all_goals
     simp [i1, ZA, G]
     repeat with_reducible refine sdg ?_
     refine cKo e1 ?_ ?_ <;> intro k4 h3 e1
     ·try (simp [G] at h3; done)
      all_goals
       simp [i1, ZA, G]
       repeat with_reducible refine sdg ?_
       refine cRg (Xh (nth a0 v1_2)) ?_
       refine gJf G ?_ ?_ <;> intro G
       ·try (simp at G; done)
        all_goals
         simp [i1, ZA, G]
         repeat with_reducible refine sdg ?_
         refine cGg (fun gg => (QL a0 (nth a0 v1_2).To a1)) ?_
         refine cKf e1 ?_ ?_ <;> intro k5 h4 e1
         ·try (simp [G] at h4; done)
          all_goals
           simp [i1, ZA, G]
           repeat with_reducible refine sdg ?_
           refine cRg (Xl v1_1 (nth a0 v1_2).To) ?_
           exact ny3 (an w1 (an w2 G)) e1
         ·try (simp [G] at h4; done)
          all_goals
           exact ny3 (an w1 (an w2 G)) e1
       ·try (simp at G; done)
        all_goals
         refine sGo ?_
         simp [G]
         repeat with_reducible refine sdg ?_
         refine cKf e1 ?_ ?_ <;> intro k6 h5 e1
         ·try (simp [G] at h5; done)
          all_goals
           simp [i1, ZA, G]
           repeat with_reducible refine sdg ?_
           refine cRg (Xl v1_1 (nth a0 v1_2).To) ?_
           exact ny3 (an w1 (an w2 G)) e1
         ·try (simp [G] at h5; done)
          all_goals
           exact ny3 (an w1 (an w2 G)) e1
     ·try (simp [G] at h3; done)
      all_goals
       simp [i1, ZA, G]
       repeat with_reducible refine sdg ?_
       refine cRg (Xh (nth a0 v1_2)) ?_
       refine gJf G ?_ ?_ <;> intro G
       ·try (simp at G; done)
        all_goals
         simp [i1, ZA, G]
         repeat with_reducible refine sdg ?_
         refine cGg (fun gg => (QL a0 (nth a0 v1_2).To a1)) ?_
         refine cKf e1 ?_ ?_ <;> intro k7 h6 e1
         ·try (simp [G] at h6; done)
          all_goals
           simp [i1, ZA, G]
           repeat with_reducible refine sdg ?_
           refine cRg (Xl v1_1 (nth a0 v1_2).To) ?_
           exact ny3 (an w1 (an w2 G)) e1
         ·try (simp [G] at h6; done)
          all_goals
           exact ny3 (an w1 (an w2 G)) e1
       ·try (simp at G; done)
        all_goals
         refine sGo ?_
         simp [G]
         repeat with_reducible refine sdg ?_
         refine cKf e1 ?_ ?_ <;> intro k8 h7 e1
         ·try (simp [G] at h7; done)
          all_goals
           simp [i1, ZA, G]
           repeat with_reducible refine sdg ?_
           refine cRg (Xl v1_1 (nth a0 v1_2).To) ?_
           exact ny3 (an w1 (an w2 G)) e1
         ·try (simp [G] at h7; done)
          all_goals
           exact ny3 (an w1 (an w2 G)) e1
   ·try (simp at G; done)
    all_goals
     refine cKo e1 ?_ ?_ <;> intro k9 h8 e1
     ·try (simp [G] at h8; done)
      all_goals
       simp [i1, ZA, G]
       repeat with_reducible refine sdg ?_
       refine cRg (Xh (nth a0 v1_2)) ?_
       refine gJf G ?_ ?_ <;> intro G
       ·try (simp at G; done)
        all_goals
         simp [i1, ZA, G]
         repeat with_reducible refine sdg ?_
         refine cGg (fun gg => (QL a0 (nth a0 v1_2).To a1)) ?_
         refine cKf e1 ?_ ?_ <;> intro k10 h9 e1
         ·try (simp [G] at h9; done)
          all_goals
           simp [i1, ZA, G]
           repeat with_reducible refine sdg ?_
           refine cRg (Xl v1_1 (nth a0 v1_2).To) ?_
           exact ny3 (an w1 (an w2 G)) e1
         ·try (simp [G] at h9; done)
          all_goals
           exact ny3 (an w1 (an w2 G)) e1
       ·try (simp at G; done)
        all_goals
         refine sGo ?_
         simp [G]
         repeat with_reducible refine sdg ?_
         refine cKf e1 ?_ ?_ <;> intro k11 h10 e1
         ·try (simp [G] at h10; done)
          all_goals
           simp [i1, ZA, G]
           repeat with_reducible refine sdg ?_
           refine cRg (Xl v1_1 (nth a0 v1_2).To) ?_
           exact ny3 (an w1 (an w2 G)) e1
         ·try (simp [G] at h10; done)
          all_goals
           exact ny3 (an w1 (an w2 G)) e1
     ·try (simp [G] at h8; done)
      all_goals
       simp [i1, ZA, G]
       repeat with_reducible refine sdg ?_
       refine cRg (Xh (nth a0 v1_2)) ?_
       refine gJf G ?_ ?_ <;> intro G
       ·try (simp at G; done)
        all_goals
         simp [i1, ZA, G]
         repeat with_reducible refine sdg ?_
         refine cGg (fun gg => (QL a0 (nth a0 v1_2).To a1)) ?_
         refine cKf e1 ?_ ?_ <;> intro k12 h11 e1
         ·try (simp [G] at h11; done)
          all_goals
           simp [i1, ZA, G]
           repeat with_reducible refine sdg ?_
           refine cRg (Xl v1_1 (nth a0 v1_2).To) ?_
           exact ny3 (an w1 (an w2 G)) e1
         ·try (simp [G] at h11; done)
          all_goals
           exact ny3 (an w1 (an w2 G)) e1
       ·try (simp at G; done)
        all_goals
         refine sGo ?_
         simp [G]
         repeat with_reducible refine sdg ?_
         refine cKf e1 ?_ ?_ <;> intro k13 h12 e1
         ·try (simp [G] at h12; done)
          all_goals
           simp [i1, ZA, G]
           repeat with_reducible refine sdg ?_
           refine cRg (Xl v1_1 (nth a0 v1_2).To) ?_
           exact ny3 (an w1 (an w2 G)) e1
         ·try (simp [G] at h12; done)
          all_goals
           exact ny3 (an w1 (an w2 G)) e1
  ·refine sGo ?_
   simp [G]
   repeat with_reducible refine sdg ?_
   refine gJf G ?_ ?_ <;> intro G
   ·try (simp at G; done)
    all_goals
     simp [i1, ZA, G]
     repeat with_reducible refine sdg ?_
     refine cKo e1 ?_ ?_ <;> intro k14 h13 e1
     ·try (simp [G] at h13; done)
      all_goals
       simp [i1, ZA, G]
       repeat with_reducible refine sdg ?_
       refine cRg (Xh (nth a0 v1_2)) ?_
       refine gJf G ?_ ?_ <;> intro G
       ·try (simp at G; done)
        all_goals
         simp [i1, ZA, G]
         repeat with_reducible refine sdg ?_
         refine cGg (fun gg => (QL a0 (nth a0 v1_2).To a1)) ?_
         refine cKf e1 ?_ ?_ <;> intro k15 h14 e1
         ·try (simp [G] at h14; done)
          all_goals
           simp [i1, ZA, G]
           repeat with_reducible refine sdg ?_
           refine cRg (Xl v1_1 (nth a0 v1_2).To) ?_
           exact ny3 (an w1 (an w2 G)) e1
         ·try (simp [G] at h14; done)
          all_goals
           exact ny3 (an w1 (an w2 G)) e1
       ·try (simp at G; done)
        all_goals
         refine sGo ?_
         simp [G]
         repeat with_reducible refine sdg ?_
         refine cKf e1 ?_ ?_ <;> intro k16 h15 e1
         ·try (simp [G] at h15; done)
          all_goals
           simp [i1, ZA, G]
           repeat with_reducible refine sdg ?_
           refine cRg (Xl v1_1 (nth a0 v1_2).To) ?_
           exact ny3 (an w1 (an w2 G)) e1
         ·try (simp [G] at h15; done)
          all_goals
           exact ny3 (an w1 (an w2 G)) e1
     ·try (simp [G] at h13; done)
      all_goals
       simp [i1, ZA, G]
       repeat with_reducible refine sdg ?_
       refine cRg (Xh (nth a0 v1_2)) ?_
       refine gJf G ?_ ?_ <;> intro G
       ·try (simp at G; done)
        all_goals
         simp [i1, ZA, G]
         repeat with_reducible refine sdg ?_
         refine cGg (fun gg => (QL a0 (nth a0 v1_2).To a1)) ?_
         refine cKf e1 ?_ ?_ <;> intro k17 h16 e1
         ·try (simp [G] at h16; done)
          all_goals
           simp [i1, ZA, G]
           repeat with_reducible refine sdg ?_
           refine cRg (Xl v1_1 (nth a0 v1_2).To) ?_
           exact ny3 (an w1 (an w2 G)) e1
         ·try (simp [G] at h16; done)
          all_goals
           exact ny3 (an w1 (an w2 G)) e1
       ·try (simp at G; done)
        all_goals
         refine sGo ?_
         simp [G]
         repeat with_reducible refine sdg ?_
         refine cKf e1 ?_ ?_ <;> intro k18 h17 e1
         ·try (simp [G] at h17; done)
          all_goals
           simp [i1, ZA, G]
           repeat with_reducible refine sdg ?_
           refine cRg (Xl v1_1 (nth a0 v1_2).To) ?_
           exact ny3 (an w1 (an w2 G)) e1
         ·try (simp [G] at h17; done)
          all_goals
           exact ny3 (an w1 (an w2 G)) e1
   ·try (simp at G; done)
    all_goals
     refine cKo e1 ?_ ?_ <;> intro k19 h18 e1
     ·try (simp [G] at h18; done)
      all_goals
       simp [i1, ZA, G]
       repeat with_reducible refine sdg ?_
       refine cRg (Xh (nth a0 v1_2)) ?_
       refine gJf G ?_ ?_ <;> intro G
       ·try (simp at G; done)
        all_goals
         simp [i1, ZA, G]
         repeat with_reducible refine sdg ?_
         refine cGg (fun gg => (QL a0 (nth a0 v1_2).To a1)) ?_
         refine cKf e1 ?_ ?_ <;> intro k20 h19 e1
         ·try (simp [G] at h19; done)
          all_goals
           simp [i1, ZA, G]
           repeat with_reducible refine sdg ?_
           refine cRg (Xl v1_1 (nth a0 v1_2).To) ?_
           exact ny3 (an w1 (an w2 G)) e1
         ·try (simp [G] at h19; done)
          all_goals
           exact ny3 (an w1 (an w2 G)) e1
       ·try (simp at G; done)
        all_goals
         refine sGo ?_
         simp [G]
         repeat with_reducible refine sdg ?_
         refine cKf e1 ?_ ?_ <;> intro k21 h20 e1
         ·try (simp [G] at h20; done)
          all_goals
           simp [i1, ZA, G]
           repeat with_reducible refine sdg ?_
           refine cRg (Xl v1_1 (nth a0 v1_2).To) ?_
           exact ny3 (an w1 (an w2 G)) e1
         ·try (simp [G] at h20; done)
          all_goals
           exact ny3 (an w1 (an w2 G)) e1
     ·try (simp [G] at h18; done)
      all_goals
       simp [i1, ZA, G]
       repeat with_reducible refine sdg ?_
       refine cRg (Xh (nth a0 v1_2)) ?_
       refine gJf G ?_ ?_ <;> intro G
       ·try (simp at G; done)
        all_goals
         simp [i1, ZA, G]
         repeat with_reducible refine sdg ?_
         refine cGg (fun gg => (QL a0 (nth a0 v1_2).To a1)) ?_
         refine cKf e1 ?_ ?_ <;> intro k22 h21 e1
         ·try (simp [G] at h21; done)
          all_goals
           simp [i1, ZA, G]
           repeat with_reducible refine sdg ?_
           refine cRg (Xl v1_1 (nth a0 v1_2).To) ?_
           exact ny3 (an w1 (an w2 G)) e1
         ·try (simp [G] at h21; done)
          all_goals
           exact ny3 (an w1 (an w2 G)) e1
       ·try (simp at G; done)
        all_goals
         refine sGo ?_
         simp [G]
         repeat with_reducible refine sdg ?_
         refine cKf e1 ?_ ?_ <;> intro k23 h22 e1
         ·try (simp [G] at h22; done)
          all_goals
           simp [i1, ZA, G]
           repeat with_reducible refine sdg ?_
           refine cRg (Xl v1_1 (nth a0 v1_2).To) ?_
           exact ny3 (an w1 (an w2 G)) e1
         ·try (simp [G] at h22; done)
          all_goals
           exact ny3 (an w1 (an w2 G)) e1
 have f := ms f e1
 refine cF f ?_ ?_ <;> intro k24 h23 f
 ·exact rt [.cell 4 77, .tmp 5] f
 exact rt [.cell 4 77, .tmp 5] f
theorem kn (a0 : List ZG) (a1 : ZK) (a2 : Int) (u0 : Sm 2318336 a0) (u1 : Sm 2318336 a1) : Sa 333 [rL 3 ZG.row a0, a1.row, rI a2] [(Qe a0 a1 a2).1.row, rB (Qe a0 a1 a2).2] := by
 have f := me (Qe.eq_1 a0 a1 a2)
 refine so Tryz.func333 Tryz.ntmps333 ?_
 refine lp2 (yr.eq_2 a0 a1) (fun v1_0 v1_1 => YP 42 [eL 0 3 a0 ZG.row, eI 2 a2, eX 4 (a1.row.map .d), (6, .one (.bptr 6 0), [.box [.d (.int .i64 0), .d (.int .i64 0)]]), (8, .one (.sref 8 0 0 v1_0.length), [.arr false 2 (v1_0.map ZF.row)]), eI 9 (↑v1_1 : Int)]) (fun n1 v1_0 v1_1 => a1.Zj.length < n1 + v1_1 ∧ v1_1 ≤ a1.Zj.length ∧ v1_0.length ≤ 0 + 1 * v1_1) (a1.Zj.length + 1) ([] : List ZF) 0 (fun p1 v1_0 v1_1 e1 j1 => ?_) (h0 := Yc [((8, 0), some (12, 0))] [] rfl (by simp))
 refine cFf e1 ?_ ?_ <;> intro k2 h1 e1
 ·have i1 := ix h1
  have m2 := ml a1.Zj (k2 15 _ rfl)
  have c1 := sl 2318336 a1.Zj (an u0 u1)
  have w1 := wr v1_1
  simp [i1, ZA]
  repeat with_reducible refine sd ?_
  refine cRs (Pf a0 (nth a1.Zj v1_1)) ?_
  refine cF e1 ?_ ?_ <;> intro k3 h2 e1
  ·have f := ms f e1
   exact rt [.cell 6 77, .tmp 7] f
  exact nx2 e1 (hw := Yc [((8, 0), some (36, 0))] [] rfl (by simp [w1]))
 have c2 := sl 2318336 a1.Zj (an u0 u1)
 have f := ms f e1
 refine cRs (Rf v1_0 a2 (by first | (simp (maxDischargeDepth := 12) [X6]; omega) | (simp (maxDischargeDepth := 12) [Zi (m := 2322432) (by decide) u0, Zi (m := 2322432) (by decide) u1]; done))) ?_
 exact rt [.cell 6 77, .tmp 7] f
theorem ID (a0 : List Zh) (a1 : Int) : Sa 241 [rL 4 Zh.row a0, rI a1] [rI (zI a0 a1)] := by
 have f := me (zI.eq_1 a0 a1)
 refine so Tryz.func241 Tryz.ntmps241 ?_
 refine lp1 (zs.eq_2 a0 a1) (fun v1_0 => YP 20 [eL 0 4 a0 Zh.row, eI 1 a1, eI 5 (↑v1_0 : Int)]) (fun n1 v1_0 => a0.length < n1 + v1_0 ∧ v1_0 ≤ a0.length) (a0.length + 1) 0 (fun p1 v1_0 e1 j1 => ?_)
 refine cFf e1 ?_ ?_ <;> intro k2 h1 e1
 ·have i1 := ix h1
  have m2 := ml a0 (k2 0 _ rfl)
  have w1 := wr v1_0
  simp [i1, ZA]
  repeat with_reducible refine sd ?_
  refine cF e1 ?_ ?_ <;> intro k3 h2 e1
  ·have f := ms f e1
   exact rt [.tmp 4] f
  exact ny1 w1 e1
 have f := ms f e1
 exact rt [.tmp 4] f
theorem j6 (a0 : List Zh) (a1 : Int) : Sa 175 [rL 4 Zh.row a0, rI a1] [rI (zj a0 a1)] := by
 have f := me (zj.eq_1 a0 a1)
 refine so Tryz.func175 Tryz.ntmps175 ?_
 refine cRs (ID a0 a1) ?_
 refine cFt f ?_ ?_ <;> intro k1 h1 f
 ·exact rt [.tmp 4] f
 have i1 : (zI a0 a1).toNat < a0.length := by have := L4 a0 a1; exact il
 simp [i1, ZA]
 repeat with_reducible refine sd ?_
 exact rt [.tmp 4] f
theorem TL (a0 : List ZG) (a1 : ZY) : Sa 299 [rL 3 ZG.row a0, a1.row] [rI (QQ a0 a1)] := by
 have f := me (QQ.eq_1 a0 a1)
 refine so Tryz.func299 Tryz.ntmps299 ?_
 refine cRs (qv a0 a1.Authority) ?_
 refine cFt f ?_ ?_ <;> intro k1 h1 f
 ·exact rt [.tmp 4] f
 have i1 : (Z9 a0 a1.Authority).toNat < a0.length := by have := yn a0 a1.Authority; exact il
 simp [i1, ZA]
 repeat with_reducible refine sd ?_
 exact rt [.tmp 4] f
theorem NP (a0 : List Zs) (a1 : List ZG) (a2 : List Zh) (a3 : ZK) : Sa 365 [rL 5 Zs.row a0, rL 3 ZG.row a1, rL 4 Zh.row a2, a3.row] [rI (zw a0 a1 a2 a3)] := by
 have f := me (zw.eq_1 a0 a1 a2 a3)
 refine so Tryz.func365 Tryz.ntmps365 ?_
 refine cRs (j6 a2 a3.Method) ?_
 refine lp2 (zt.eq_2 a0 a1 a2 a3) (fun v1_0 v1_1 => YP 44 [eL 0 5 a0 Zs.row, eL 1 3 a1 ZG.row, eL 2 4 a2 Zh.row, eX 7 (a3.row.map .d), eI 9 v1_0, eI 10 (↑v1_1 : Int)]) (fun n1 v1_0 v1_1 => a3.Zj.length < n1 + v1_1 ∧ v1_1 ≤ a3.Zj.length) (a3.Zj.length + 1) (zj a2 a3.Method) 0 (fun p1 v1_0 v1_1 e1 j1 => ?_)
 refine cFf e1 ?_ ?_ <;> intro k2 h1 e1
 ·have i1 := ix h1
  have m2 := ml a3.Zj (k2 18 _ rfl)
  have w1 := wr v1_1
  simp [i1, ZA]
  repeat with_reducible refine sd ?_
  refine cRs (TL a1 (nth a3.Zj v1_1)) ?_
  refine cRs (Kz a0 (QQ a1 (nth a3.Zj v1_1))) ?_
  refine cFt e1 ?_ ?_ <;> intro k3 h2 e1
  ·have f := ms f e1
   exact rt [.tmp 8] f
  have i2 : (Ys a0 (QQ a1 (nth a3.Zj v1_1))).toNat < a0.length := by have := KF a0 (QQ a1 (nth a3.Zj v1_1)); exact il
  simp [i2, ZA]
  repeat with_reducible refine sd ?_
  refine cRs (j6 a2 (nth a0 (Ys a0 (QQ a1 (nth a3.Zj v1_1))).toNat).Method) ?_
  refine cRs (SK v1_0 (zj a2 (nth a0 (Ys a0 (QQ a1 (nth a3.Zj v1_1))).toNat).Method)) ?_
  exact ny2 w1 e1
 have f := ms f e1
 exact rt [.tmp 8] f
theorem PO {a b : Prop} (h : b) (k : a := by (intros; first | omega | with_unfolding_all (first | (first | omega | (have mm : a1.ZX.length ≤ 2314240 := Yv (by simp (maxDischargeDepth := 12) [u1]); have ww := Rz a1.ZX.length (by omega); (try rw [ww] at q1); (try rw [ww] at q2); have w3 : W (a2 + 1) = a2 + 1 := Zk (by omega) (by omega); have w4 : IntKind.i64.wrap (a2 + 1) = a2 + 1 := w3; omega))) | ((try simp only [Kb, show ∀ x, IntKind.i64.wrap x = W x from fun _ => rfl] at *); omega))) : a ∧ b := ⟨k, h⟩
theorem Gt (a0 : ZI) (a1 : ZP) (a2 : Int) (u0 : Sm 2314240 a0) (u1 : Sm 2314240 a1) : Sa 357 [a0.row, a1.row, rI a2] [rB (WK a0 a1 a2)] := by
 have f := me (WK.eq_1 a0 a1 a2)
 refine so Tryz.func357 Tryz.ntmps357 ?_
 refine cRs (Yf a2 0 (W ((↑a1.ZX.length : Int) - 1))) ?_
 have c1 := sl 2314240 a1.ZX (an u0 u1)
 have w1 : IntKind.i64.wrap ((a1.ZX.length : Int) - 1) = (a1.ZX.length : Int) - 1 := Zk (by omega) (by omega)
 refine cFo f ?_ ?_ <;> intro k1 h1 f
 ·have q1 := h1; try simp [YG, w1] at q1
  simp
  exact rt [.tmp 6] f
 have q1 := h1; try simp [YG, w1] at q1
 simp
 refine dIo mixed ?_
 have i1 : a2.toNat < a1.ZX.length := by (have mm : a1.ZX.length ≤ 2314240 := Yv (by simp (maxDischargeDepth := 12) [u1]); (try simp [YG] at q1); have ww := Rz a1.ZX.length (by omega); first | omega | ((try rw [ww] at q1); (try rw [ww] at q2); have w3 : W (a2 + 1) = a2 + 1 := Zk (by omega) (by omega); omega))
 simp [i1, ZA]
 repeat with_reducible refine PO ?_
 refine cRs (NP a0.YY a0.ZN a0.Methods (nth a1.ZX a2.toNat)) ?_
 refine cFo f ?_ ?_ <;> intro k3 h2 f
 ·have q2 := h2; try simp [w1] at q2
  simp
  exact rt [.tmp 6] f
 have q2 := h2; try simp [w1] at q2
 simp
 refine dIo mixed ?_
 have i2 : (W (a2 + 1)).toNat < a1.ZX.length := by (have mm : a1.ZX.length ≤ 2314240 := Yv (by simp (maxDischargeDepth := 12) [u1]); (try simp [YG] at q1); have ww := Rz a1.ZX.length (by omega); first | omega | ((try rw [ww] at q1); (try rw [ww] at q2); have w3 : W (a2 + 1) = a2 + 1 := Zk (by omega) (by omega); omega))
 simp [i2, ZA]
 repeat with_reducible refine PO ?_
 refine cRs (kn a0.ZN (nth a1.ZX (W (a2 + 1)).toNat) a0.QR (sg (ZI.Q7 u0)) (sg (Z3 (ZP.Qc u1)))) ?_ (hrows := by first | (simp; done) | (simp [W, w1]; done))
 exact rt [.tmp 6] f
theorem Vy (a0 : ZY) : Sd 335 [a0.row] [rL 1 iR (Jo a0)] := by
 have f := me (Jo.eq_1 a0)
 refine soD Tryz.func335 Tryz.ntmps335 ?_
 exact rtD [.tmp 2] f
theorem UF (a0 : Int) (a1 : ZK) (u0 : Sm 2326528 a1) : Sa 368 [rI a0, a1.row] [rI (J6 a0 a1)] := by
 have f := me (J6.eq_1 a0 a1)
 refine so Tryz.func368 Tryz.ntmps368 ?_
 refine lp2 (Jv.eq_2 a1) (fun v1_0 v1_1 => YP 75 [eI 0 a0, eX 3 (a1.row.map .d), (5, .one (.sref 5 0 0 v1_0.length), [.arr false 1 (v1_0.map iR)]), eI 6 (↑v1_1 : Int)]) (fun n1 v1_0 v1_1 => a1.Path.length < n1 + v1_1 ∧ v1_1 ≤ a1.Path.length ∧ v1_0.length ≤ 4 + 2 * v1_1) (a1.Path.length + 1) ([4, a1.Count, a1.Method, a1.OY] : List Int) 0 (fun p1 v1_0 v1_1 e1 j1 => ?_) (h0 := Yc [((5, 0), some (14, 0))] [] rfl (by simp))
 refine cFo e1 ?_ ?_ <;> intro k2 h1 e1
 ·have q1 := h1; try simp at q1
  have i1 := ix h1
  have m2 := ml a1.Path (k2 17 _ rfl)
  have c1 := sl 2326528 a1.Path u0
  have w1 := wr v1_1
  simp [i1, ZA]
  repeat with_reducible refine sd ?_
  refine cFo e1 ?_ ?_ <;> intro k3 h2 e1
  ·have q2 := h2; try simp at q2
   simp
   repeat with_reducible refine sd ?_
   exact nx2 e1 (hw := Yc [((5, 0), some (39, 0))] [] rfl (by simp [w1]))
  have q2 := h2; try simp at q2
  simp
  repeat with_reducible refine sd ?_
  exact nx2 e1 (hw := Yc [((5, 0), some (42, 0))] [] rfl (by simp [w1]))
 have q1 := h1; try simp at q1
 have c2 := sl 2326528 a1.Path u0
 have f := ms f e1
 simp
 repeat with_reducible refine sd ?_
 refine lp2 (zE.eq_2 a1) (fun v2_0 v2_1 => YP 75 [eI 0 a0, eX 3 (a1.row.map .d), (5, .one (.sref 5 0 0 v2_0.length), [.arr false 1 (v2_0.map iR)]), eI 7 (↑v2_1 : Int)]) (fun n2 v2_0 v2_1 => a1.Zj.length < n2 + v2_1 ∧ v2_1 ≤ a1.Zj.length ∧ v2_0.length ≤ 5 + 2 * 2326528 + 6 * v2_1) (a1.Zj.length + 1) (v1_0 ++ ([(↑a1.Zj.length : Int)] : List Int)) 0 (fun p2 v2_0 v2_1 e2 j2 => ?_) (hI := by (have o : a1.Path.length ≤ 2326528 := Yv (by simp (maxDischargeDepth := 12) [u0]); simp at *; omega)) (h0 := Yc [((5, 0), some (48, 0))] [] rfl (by simp))
 try dsimp only at j2
 refine cFo e2 ?_ ?_ <;> intro k5 h3 e2
 ·have q3 := h3; try simp at q3
  have i2 := ix h3
  have m4 := ml a1.Zj (k5 51 _ rfl)
  have c3 := sl 2326528 a1.Zj u0
  have w2 := wr v2_1
  simp
  refine dIo mixed ?_
  simp [i2, ZA]
  repeat with_reducible refine sd ?_
  refine cRf i2 (Ym.rd (Vy (nth a1.Zj v2_1))) ?_
  exact nx2 e2 (hI := by (simp; omega)) (hw := Yc [((5, 0), some (71, 0))] [] rfl (by simp [w2]))
 have q3 := h3; try simp at q3
 have c4 := sl 2326528 a1.Zj u0
 have f := ms f e2
 simp
 refine cRs (KQ a0 v2_0 (by first | (simp (maxDischargeDepth := 12) [X6]; omega) | (simp (maxDischargeDepth := 12) [Zi (m := 68719476736) (by decide) u0]; done))) ?_
 exact rt [.tmp 4] f
theorem NL (a0 : Int) (a1 : List ZD) (u0 : Sm 2326528 a1) : Sa 375 [rI a0, rL 3 ZD.row a1] [rI (yA a0 a1)] := by
 have f := me (yA.eq_1 a0 a1)
 refine so Tryz.func375 Tryz.ntmps375 ?_
 refine lp2 (yI.eq_2 a0 a1) (fun v1_0 v1_1 => YP 39 [eI 0 a0, eL 1 3 a1 ZD.row, (5, .one (.sref 5 0 0 v1_0.length), [.arr false 1 (v1_0.map iR)]), eI 6 (↑v1_1 : Int)]) (fun n1 v1_0 v1_1 => a1.length < n1 + v1_1 ∧ v1_1 ≤ a1.length ∧ v1_0.length ≤ 1 + 1 * v1_1) (a1.length + 1) ([2] : List Int) 0 (fun p1 v1_0 v1_1 e1 j1 => ?_) (h0 := Yc [((5, 0), some (7, 0))] [] rfl (by simp))
 refine cF e1 ?_ ?_ <;> intro k2 h1 e1
 ·have i1 := ix h1
  have m2 := ml a1 (k2 1 _ rfl)
  have c1 := sl 2326528 a1 u0
  have w1 := wr v1_1
  refine vP [2, 3, 4, 5, 6, 7, 8, 9, 10, 11, 12, 13, 14, 15, 16, 17, 18, 0, 1, 19, 20, 21, 22] mixed (by kernel_rfl) (by kernel_rfl) (by kernel_rfl) ?_
  have c2 := sl 2326528 (nth a1 v1_1).Zg u0
  simp [i1, ZA]
  repeat with_reducible refine sd ?_
  refine cRs (KQ a0 (([(nth a1 v1_1).Key, (nth a1 v1_1).Mark] : List Int) ++ (nth a1 v1_1).Zg) (by simp (maxDischargeDepth := 12) [KY, X6, Zi (m := 68719476736) (by decide) u0]; try omega)) ?_
  exact nx2 e1 (hw := Yc [((5, 0), some (35, 0))] [] rfl (by simp [w1]))
 have c3 := sl 2326528 a1 u0
 have f := ms f e1
 refine cRs (KQ a0 v1_0 (by first | (simp (maxDischargeDepth := 12) [X6]; omega) | (simp (maxDischargeDepth := 12) [Zi (m := 68719476736) (by decide) u0]; done))) ?_
 exact rt [.tmp 4] f
theorem Ur (a0 : Int) (a1 : Int) (a2 : List ZD) (a3 : Int) (u0 : Sm 2322432 a2) : Sa 369 [rI a0, rI a1, rL 3 ZD.row a2, rI a3] [rI (Tg a0 a1 a2 a3)] := by
 have f := me (Tg.eq_1 a0 a1 a2 a3)
 refine so Tryz.func369 Tryz.ntmps369 ?_
 refine cRs (NL a0 a2 (sg u0)) ?_
 refine cRs (KQ a0 ([3, a1, (yA a0 a2), a3] : List Int) (by simp (maxDischargeDepth := 12) [KY, X6, Zi (m := 68719476736) (by decide) u0]; try omega)) ?_
 exact rt [.tmp 8] f
theorem XF {a b : Prop} (h : b) (k : a := by (intros; first | omega | with_unfolding_all (first | first | omega | (have cc : a0.ZX.length ≤ 2318336 := Yv (by simp (maxDischargeDepth := 12) [u0]); have z0 := g1x; simp at z0; have z := yi (by omega) z0.1; have z2 := z0.2; (try have w3 : IntKind.i64.wrap (a2 - 1) = a2 - 1 := Zk (by omega) (by omega)); (try have w4 : W (a2 - 1) = a2 - 1 := w3); first | omega | (refine ⟨⟨z0.1, by omega⟩, by omega, by omega⟩) | (simp_all; omega))) | (simp_all; done) | (simp_all; omega) | grind | ((try simp only [Kb, show ∀ x, IntKind.i64.wrap x = W x from fun _ => rfl] at *); omega))) : a ∧ b := ⟨k, h⟩
theorem Ae (a0 : ZP) (a1 : List Int) (a2 : Int) (u0 : Sm 2318336 a0) (u1 : Sm 2318336 a1) : Sa 359 [a0.row, rL 1 iR a1, rI a2] [rI (SM a0 a1 a2)] := by
 have f := me (SM.eq_1 a0 a1 a2)
 refine so Tryz.func359 Tryz.ntmps359 ?_
 refine dIs mixed ?_
 refine cRs (Yf a2 0 (W ((↑a0.ZX.length : Int) - 1))) ?_
 refine gIo ?_ ?_ <;> intro G
 ·have g1x := G
  have c1 := sl 2318336 a0.ZX (an u0 u1)
  have w1 : IntKind.i64.wrap ((a0.ZX.length : Int) - 1) = (a0.ZX.length : Int) - 1 := Zk (by omega) (by omega)
  have g1 := G; try simp [YG, w1] at g1
  have i1 : a2.toNat < a0.ZX.length := by (have cc : a0.ZX.length ≤ 2318336 := Yv (by simp (maxDischargeDepth := 12) [u0]); have z0 := g1x; simp at z0; have z := yi (by omega) z0.1; have z2 := z0.2; (try have w3 : IntKind.i64.wrap (a2 - 1) = a2 - 1 := Zk (by omega) (by omega)); (try have w4 : W (a2 - 1) = a2 - 1 := w3); omega)
  simp [i1, ZA, G]
  repeat with_reducible refine XF ?_
  refine cGo (fun gg => (Yf (nth a0.ZX a2.toNat).Count 0 (↑a0.Zd.length : Int))) ?_
  simp [G]
  repeat with_reducible refine XF ?_
  refine cKo f ?_ ?_ <;> intro k2 h1 f
  ·try (simp [G] at h1; done)
   all_goals
    have q1 := h1; try simp [YG, w1] at q1
    simp [G]
    repeat with_reducible refine XF ?_
    exact rtg [.tmp 6] f
  ·try (simp [G] at h1; done)
   all_goals
    have q1 := h1; try simp [YG, w1] at q1
    simp [i1, ZA, G]
    repeat with_reducible refine XF ?_
    refine cKo f ?_ ?_ <;> intro k3 h2 f
    ·try (simp [G] at h2; done)
     all_goals
      have q2 := h2; try simp at q2
      have i2 : (W (a2 - 1)).toNat < a0.ZX.length := by (have cc : a0.ZX.length ≤ 2318336 := Yv (by simp (maxDischargeDepth := 12) [u0]); have z0 := g1x; simp at z0; have z := yi (by omega) z0.1; have z2 := z0.2; (try have w3 : IntKind.i64.wrap (a2 - 1) = a2 - 1 := Zk (by omega) (by omega)); (try have w4 : W (a2 - 1) = a2 - 1 := w3); omega)
      simp [i2, ZA, G]
      repeat with_reducible refine XF ?_
      refine cR (UF (nth a0.ZX a2.toNat).Method (nth a0.ZX (W (a2 - 1)).toNat) (sg (Z3 (ZP.Qc u0)))) ?_ (hrows := by first | (simp; done) | (simp [W, w1]; done))
      simp [G]
      repeat with_reducible refine XF ?_
      refine dIo mixed ?_
      have i3 : a2.toNat < a1.length := by (have cc : a0.ZX.length ≤ 2318336 := Yv (by simp (maxDischargeDepth := 12) [u0]); have z0 := g1x; simp at z0; have z := yi (by omega) z0.1; have z2 := z0.2; (try have w3 : IntKind.i64.wrap (a2 - 1) = a2 - 1 := Zk (by omega) (by omega)); (try have w4 : W (a2 - 1) = a2 - 1 := w3); omega)
      simp [i3, ZA, i1, G]
      repeat with_reducible refine XF ?_
      refine cR (Ur (nth a0.ZX a2.toNat).Method (nth a1 a2.toNat) (a0.Zd.take (nth a0.ZX a2.toNat).Count.toNat) (J6 (nth a0.ZX a2.toNat).Method (nth a0.ZX (W (a2 - 1)).toNat)) (Zi (n := 2318336) (by decide) (by simp (maxDischargeDepth := 12) [u0, u1]))) ?_ (hrows := by first | (simp; done) | (simp [W, w1]; done))
      simp [G]
      repeat with_reducible refine XF ?_
      exact rtg [.tmp 6] f
    ·try (simp [G] at h2; done)
     all_goals
      have q2 := h2; try simp at q2
      simp [G]
      repeat with_reducible refine XF ?_
      refine dIo mixed ?_
      have i4 : a2.toNat < a1.length := by (have cc : a0.ZX.length ≤ 2318336 := Yv (by simp (maxDischargeDepth := 12) [u0]); have z0 := g1x; simp at z0; have z := yi (by omega) z0.1; have z2 := z0.2; (try have w3 : IntKind.i64.wrap (a2 - 1) = a2 - 1 := Zk (by omega) (by omega)); (try have w4 : W (a2 - 1) = a2 - 1 := w3); omega)
      simp [i4, ZA, i1, G]
      repeat with_reducible refine XF ?_
      refine cR (Ur (nth a0.ZX a2.toNat).Method (nth a1 a2.toNat) (a0.Zd.take (nth a0.ZX a2.toNat).Count.toNat) 0 (Zi (n := 2318336) (by decide) (by simp (maxDischargeDepth := 12) [u0, u1]))) ?_
      simp [G]
      repeat with_reducible refine XF ?_
      exact rtg [.tmp 6] f
 ·have g1x := G
  simp [G]
  repeat with_reducible refine XF ?_
  refine sGo ?_
  simp [G]
  repeat with_reducible refine XF ?_
  have c2 := sl 2318336 a0.ZX (an u0 u1)
  have w2 : IntKind.i64.wrap ((a0.ZX.length : Int) - 1) = (a0.ZX.length : Int) - 1 := Zk (by omega) (by omega)
  refine cKo f ?_ ?_ <;> intro k6 h3 f
  ·try (simp [G] at h3; done)
   all_goals
    have q3 := h3; try simp [YG, w2] at q3
    simp [G]
    repeat with_reducible refine XF ?_
    exact rtg [.tmp 6] f
  ·try (simp [G] at h3; done)
   all_goals
    have q3 := h3; try simp [YG, w2] at q3
    have i6 : a2.toNat < a0.ZX.length := by (have cc : a0.ZX.length ≤ 2318336 := Yv (by simp (maxDischargeDepth := 12) [u0]); have z0 := g1x; simp at z0; have z := yi (by omega) z0.1; have z2 := z0.2; (try have w3 : IntKind.i64.wrap (a2 - 1) = a2 - 1 := Zk (by omega) (by omega)); (try have w4 : W (a2 - 1) = a2 - 1 := w3); omega)
    simp [i6, ZA, G]
    repeat with_reducible refine XF ?_
    refine cKo f ?_ ?_ <;> intro k7 h4 f
    ·try (simp [G] at h4; done)
     all_goals
      have q4 := h4; try simp at q4
      have i7 : (W (a2 - 1)).toNat < a0.ZX.length := by (have cc : a0.ZX.length ≤ 2318336 := Yv (by simp (maxDischargeDepth := 12) [u0]); have z0 := g1x; simp at z0; have z := yi (by omega) z0.1; have z2 := z0.2; (try have w3 : IntKind.i64.wrap (a2 - 1) = a2 - 1 := Zk (by omega) (by omega)); (try have w4 : W (a2 - 1) = a2 - 1 := w3); omega)
      simp [i7, ZA, G]
      repeat with_reducible refine XF ?_
      refine cR (UF (nth a0.ZX a2.toNat).Method (nth a0.ZX (W (a2 - 1)).toNat) (sg (Z3 (ZP.Qc u0)))) ?_ (hrows := by first | (simp; done) | (simp [W, w2]; done))
      simp [G]
      repeat with_reducible refine XF ?_
      refine dIo mixed ?_
      have i8 : a2.toNat < a1.length := by (have cc : a0.ZX.length ≤ 2318336 := Yv (by simp (maxDischargeDepth := 12) [u0]); have z0 := g1x; simp at z0; have z := yi (by omega) z0.1; have z2 := z0.2; (try have w3 : IntKind.i64.wrap (a2 - 1) = a2 - 1 := Zk (by omega) (by omega)); (try have w4 : W (a2 - 1) = a2 - 1 := w3); omega)
      simp [i8, ZA, i6, G]
      repeat with_reducible refine XF ?_
      refine cR (Ur (nth a0.ZX a2.toNat).Method (nth a1 a2.toNat) (a0.Zd.take (nth a0.ZX a2.toNat).Count.toNat) (J6 (nth a0.ZX a2.toNat).Method (nth a0.ZX (W (a2 - 1)).toNat)) (Zi (n := 2318336) (by decide) (by simp (maxDischargeDepth := 12) [u0, u1]))) ?_ (hrows := by first | (simp; done) | (simp [W, w2]; done))
      simp [G]
      repeat with_reducible refine XF ?_
      exact rtg [.tmp 6] f
    ·try (simp [G] at h4; done)
     all_goals
      have q4 := h4; try simp at q4
      simp [G]
      repeat with_reducible refine XF ?_
      refine dIo mixed ?_
      have i9 : a2.toNat < a1.length := by (have cc : a0.ZX.length ≤ 2318336 := Yv (by simp (maxDischargeDepth := 12) [u0]); have z0 := g1x; simp at z0; have z := yi (by omega) z0.1; have z2 := z0.2; (try have w3 : IntKind.i64.wrap (a2 - 1) = a2 - 1 := Zk (by omega) (by omega)); (try have w4 : W (a2 - 1) = a2 - 1 := w3); omega)
      simp [i9, ZA, i6, G]
      repeat with_reducible refine XF ?_
      refine cR (Ur (nth a0.ZX a2.toNat).Method (nth a1 a2.toNat) (a0.Zd.take (nth a0.ZX a2.toNat).Count.toNat) 0 (Zi (n := 2318336) (by decide) (by simp (maxDischargeDepth := 12) [u0, u1]))) ?_
      simp [G]
      repeat with_reducible refine XF ?_
      exact rtg [.tmp 6] f
theorem RM (a0 : Int) (a1 : Int) (a2 : Int) : Sa 373 [rI a0, rI a1, rI a2] [rI (xr a0 a1 a2)] := by
 have f := me (xr.eq_1 a0 a1 a2)
 refine so Tryz.func373 Tryz.ntmps373 ?_
 refine cRs (KQ a0 ([1, a1, a2] : List Int) (by simp (maxDischargeDepth := 12) [KY, X6]; try omega)) ?_
 exact rt [.tmp 6] f
theorem Ix (a0 : Int) (a1 : Int) (a2 : List Ya) : Sa 366 [rI a0, rI a1, rL 2 Ya.row a2] [rI (kM a0 a1 a2)] := by
 have f := me (kM.eq_1 a0 a1 a2)
 refine so Tryz.func366 Tryz.ntmps366 ?_
 refine lp2 (zz.eq_2 a0 a2) (fun v1_0 v1_1 => YP 38 [eI 0 a0, eL 2 2 a2 Ya.row, eI 7 v1_0, eI 8 (↑v1_1 : Int)]) (fun n1 v1_0 v1_1 => a2.length < n1 + v1_1 ∧ v1_1 ≤ a2.length) (a2.length + 1) a1 0 (fun p1 v1_0 v1_1 e1 j1 => ?_)
 refine cFf e1 ?_ ?_ <;> intro k2 h1 e1
 ·have i1 := ix h1
  have m2 := ml a2 (k2 2 _ rfl)
  have w1 := wr v1_1
  simp [i1, ZA]
  repeat with_reducible refine sd ?_
  refine cFo e1 ?_ ?_ <;> intro k3 h2 e1
  ·simp [i1, ZA]
   repeat with_reducible refine sd ?_
   refine cRs (RM a0 (nth a2 v1_1).Yz v1_0) ?_
   exact ny2 w1 e1
  simp [i1, ZA]
  repeat with_reducible refine sd ?_
  refine cRs (RM a0 v1_0 (nth a2 v1_1).Yz) ?_
  exact ny2 w1 e1
 have f := ms f e1
 exact rt [.tmp 6] f
theorem Gp (a0 : List Zs) (a1 : List ZG) (a2 : ZY) (u0 : Sm 2322432 a0) (u1 : Sm 2322432 a1) : Sa 374 [rL 5 Zs.row a0, rL 3 ZG.row a1, a2.row] [(Jn a0 a1 a2).1.row, rB (Jn a0 a1 a2).2] := by
 have f := me (Jn.eq_1 a0 a1 a2)
 refine so Tryz.func374 Tryz.ntmps374 ?_
 refine cRs (qv a1 a2.Authority) ?_
 refine cGs (fun gg => (yY a2.Time)) ?_
 refine cFt f ?_ ?_ <;> intro k1 h1 f
 ·exact rt [.cell 6 279, .tmp 7] f
 have i1 : (Z9 a1 a2.Authority).toNat < a1.length := by have := yn a1 a2.Authority; exact il
 simp [i1, ZA]
 repeat with_reducible refine sd ?_
 refine cRs (Kz a0 (nth a1 (Z9 a1 a2.Authority).toNat).Key) ?_
 refine cF f ?_ ?_ <;> intro k2 h2 f
 ·exact rt [.cell 6 279, .tmp 7] f
 refine dIo mixed ?_
 have i2 : (Ys a0 (nth a1 (Z9 a1 a2.Authority).toNat).Key).toNat < a0.length := by have := KF a0 (nth a1 (Z9 a1 a2.Authority).toNat).Key; exact il
 simp [i2, ZA]
 repeat with_reducible refine sd ?_
 refine cRs (Ym.rd (Vy a2)) ?_
 refine cRs (OL (nth a0 (Ys a0 (nth a1 (Z9 a1 a2.Authority).toNat).Key).toNat) (Jo a2) (by simp (maxDischargeDepth := 12) [Ho, Zi (m := 2326528) (by decide) u0, Zi (m := 2326528) (by decide) u1]; try omega)) ?_
 exact rt [.cell 6 279, .tmp 7] f
theorem RZ (a0 : List Zs) (a1 : List ZG) (a2 : ZY) (u0 : Sm 2318336 a0) (u1 : Sm 2318336 a1) : Sa 367 [rL 5 Zs.row a0, rL 3 ZG.row a1, a2.row] [rB (kC a0 a1 a2)] := by
 have f := me (kC.eq_1 a0 a1 a2)
 refine so Tryz.func367 Tryz.ntmps367 ?_
 refine cRs (Gp a0 a1 a2 (sg u0) (sg u1)) ?_
 exact rt [.tmp 6] f
theorem N9 (a0 : List Zs) (a1 : List ZG) (a2 : ZK) (a3 : Int) (u0 : Sm 2314240 a0) (u1 : Sm 2314240 a1) (u2 : Sm 2314240 a2) : Sa 358 [rL 5 Zs.row a0, rL 3 ZG.row a1, a2.row, rI a3] [rB (xM a0 a1 a2 a3)] := by
 have f := me (xM.eq_1 a0 a1 a2 a3)
 refine so Tryz.func358 Tryz.ntmps358 ?_
 refine dIs mixed ?_
 refine cGs (fun gg => (Ix a2.Method a3 a2.Path)) ?_
 refine cGs (fun gg => (Yf (↑a2.Zj.length : Int) 1 6)) ?_
 refine cFo f ?_ ?_ <;> intro k2 h1 f
 ·have q1 := h1; try simp [YG] at q1
  simp
  exact rt [.tmp 8] f
 have q1 := h1; try simp [YG] at q1
 simp
 refine lp1 (zq.eq_2 a0 a1 a2) (fun v1_0 => YP 73 [eL 0 5 a0 Zs.row, eL 1 3 a1 ZG.row, eX 6 (a2.row.map .d), eI 9 (↑v1_0 : Int)]) (fun n1 v1_0 => a2.Zj.length < n1 + v1_0 ∧ v1_0 ≤ a2.Zj.length) (a2.Zj.length + 1) 0 (fun p1 v1_0 e1 j1 => ?_)
 refine cFf e1 ?_ ?_ <;> intro k4 h2 e1
 ·have i1 := ix h2
  have m2 := ml a2.Zj (k4 35 _ rfl)
  have c1 := sl 2314240 a2.Zj (an u0 (an u1 u2))
  have w1 := wr v1_0
  simp [i1, ZA]
  repeat with_reducible refine sd ?_
  refine dIs mixed ?_
  refine gIf ?_ ?_ <;> intro G
  ·have i2 := ik (v1_0 - 1) a2.Zj
   have w2 : IntKind.i64.wrap ((v1_0 : Int) - 1) = (v1_0 : Int) - 1 := Zk (by omega) (by omega)
   simp [i2, ZA, w2, Qz, G]
   repeat with_reducible refine sdg ?_
   refine cGg (fun gg => (RZ a0 a1 (nth a2.Zj v1_0) (sg u0) (sg u1))) ?_
   refine cK e1 ?_ ?_ <;> intro k6 h3 e1
   ·try (simp [G] at h3; done)
    all_goals
     have f := ms f e1
     exact rtg [.tmp 8] f
   ·try (simp [G] at h3; done)
    all_goals
     exact ny1 (an w1 (an w2 G)) e1
  ·refine cGg (fun gg => (RZ a0 a1 (nth a2.Zj v1_0) (sg u0) (sg u1))) ?_
   refine cK e1 ?_ ?_ <;> intro k7 h4 e1
   ·try (simp [G] at h4; done)
    all_goals
     have f := ms f e1
     exact rtg [.tmp 8] f
   ·try (simp [G] at h4; done)
    all_goals
     exact ny1 (an w1 G) e1
 have c2 := sl 2314240 a2.Zj (an u0 (an u1 u2))
 have f := ms f e1
 exact rt [.tmp 8] f
theorem C2 (a0 : ZI) (a1 : ZP) (a2 : List Int) (a3 : Int) (u0 : Sm 2310144 a0) (u1 : Sm 2310144 a1) (u2 : Sm 2310144 a2) (u3 : 0 ≤ a3 ∧ a3 < (a1.ZX.length : Int)) : Sa 348 [a0.row, a1.row, rL 1 iR a2, rI a3] [rB (Pz a0 a1 a2 a3)] := by
 have f := me (Pz.eq_1 a0 a1 a2 a3)
 refine so Tryz.func348 Tryz.ntmps348 ?_
 refine dIo mixed ?_
 have i1 := ik a3.toNat a1.ZX
 simp [i1, ZA]
 repeat with_reducible refine sd ?_
 refine cRs (kn a0.ZN (nth a1.ZX a3.toNat) a0.QR (sg (ZI.Q7 u0)) (sg (Z3 (ZP.Qc u1)))) ?_
 refine dIs mixed ?_
 refine cGs (fun gg => (Gt a0 a1 a3 (sg u0) (sg u1))) ?_
 refine gIf ?_ ?_ <;> intro G
 ·simp [i1, ZA, G]
  repeat with_reducible refine sdg ?_
  refine cGg (fun gg => (Ae a1 a2 a3 (sg u1) (sg u2))) ?_
  refine cGg (fun gg => (N9 a0.YY a0.ZN (nth a1.ZX a3.toNat) (SM a1 a2 a3) (sg (ZI.Ye u0)) (sg (ZI.Q7 u0)) (sg (Z3 (ZP.Qc u1))))) ?_
  exact rtg [.tmp 8] f
 ·refine sGo ?_
  simp [G]
  repeat with_reducible refine sdg ?_
  refine sGo ?_
  simp [G]
  repeat with_reducible refine sdg ?_
  exact rtg [.tmp 8] f
theorem Gy (a0 : ZI) (a1 : ZP) (a2 : List Int) (u0 : Sm 2306048 a0) (u1 : Sm 2306048 a1) (u2 : Sm 2306048 a2) : Sa 332 [a0.row, a1.row, rL 1 iR a2] [rI (zG a0 a1 a2)] := by
 have f := me (zG.eq_1 a0 a1 a2)
 refine so Tryz.func332 Tryz.ntmps332 ?_
 refine okL fun k1 => ?_
 refine lp1 (za.eq_2 a0 a1 a2) (fun v1_0 => YP 24 [eL 2 1 a2 iR, eX 3 (a0.row.map .d), eX 4 (a1.row.map .d), eI 7 (↑v1_0 : Int)]) (fun n1 v1_0 => v1_0 < n1 ∧ v1_0 ≤ a1.ZX.length) (a1.ZX.length + 1) a1.ZX.length (fun p1 v1_0 e1 j1 => ?_)
 refine cGs (fun gg => (C2 a0 a1 a2 (W ((↑v1_0 : Int) - 1)) (sg u0) (sg u1) (sg u2) (by (have g2 : ((decide (0 < v1_0)) == true) = true := gg; simp at g2; have cc : a1.ZX.length ≤ 2306048 := Yv (by simp (maxDischargeDepth := 12) [u1]); have ww : W ((v1_0 : Int) - 1) = (v1_0 : Int) - 1 := Zk (by omega) (by omega); rw [ww]; omega)))) ?_
 refine cFo e1 ?_ ?_ <;> intro k2 h1 e1
 ·have q1 := h1; try simp at q1
  have m1 := ml a1.ZX (k1 9 _ rfl)
  have w1 : IntKind.i64.wrap ((v1_0 : Int) - 1) = (v1_0 : Int) - 1 := Zk (by omega) (by omega)
  have w2 : ((v1_0 - 1 : Nat) : Int) = (v1_0 : Int) - 1 := by omega
  simp
  exact ny1 (an w1 w2) e1
 have q1 := h1; try simp at q1
 have f := ms f e1
 simp
 exact rt [.tmp 6] f
theorem CO (a0 : ZI) (a1 : ZP) (a2 : List Int) (a3 : Int) (u0 : Sm 2301952 a0) (u1 : Sm 2301952 a1) (u2 : Sm 2301952 a2) : Sa 292 [a0.row, a1.row, rL 1 iR a2, rI a3] [rI (SR a0 a1 a2 a3)] := by
 have f := me (SR.eq_1 a0 a1 a2 a3)
 refine so Tryz.func292 Tryz.ntmps292 ?_
 refine cRs (Gy a0 a1 a2 (sg u0) (sg u1) (sg u2)) ?_
 refine lp2 (jP.eq_2 a0 a1 a3) (fun v1_0 v1_1 => YP 52 [eI 3 a3, eX 4 (a0.row.map .d), eX 5 (a1.row.map .d), eI 9 v1_0, eI 10 v1_1]) (fun n1 v1_0 v1_1 => (a1.ZX.length : Int) + 1 < n1 + v1_1 ∧ 0 ≤ v1_1 ∧ v1_1 ≤ a1.ZX.length) (a1.ZX.length + 2) a0.Now (zG a0 a1 a2) (fun p1 v1_0 v1_1 e1 j1 => ?_) (hI := by (have z := Lx a0 a1 a2; (try dsimp only); omega))
 try dsimp only at j1
 refine cFf e1 ?_ ?_ <;> intro k2 h1 e1
 ·have i1 := ik v1_1.toNat a1.ZX
  simp [i1, ZA]
  repeat with_reducible refine sd ?_
  refine cF e1 ?_ ?_ <;> intro k3 h2 e1
  ·refine okD fun k4 => ?_
   refine dIo mixed ?_
   simp [i1, ZA]
   repeat with_reducible refine sd ?_
   refine cRs (kn a0.ZN (nth a1.ZX v1_1.toNat) a0.QR (sg (ZI.Q7 u0)) (sg (Z3 (ZP.Qc u1)))) ?_
   refine cRs (SK v1_0 (Qe a0.ZN (nth a1.ZX v1_1.toNat) a0.QR).1.To) ?_
   exact nx2 e1 (hI := by (have cc : a1.ZX.length ≤ 2301952 := Yv (by simp (maxDischargeDepth := 12) [u1]); have w2 : W (v1_1 + 1) = v1_1 + 1 := Zk (by simp at *; omega) (by simp at *; omega); (try dsimp only); rw [w2]; simp at *; omega))
  exact nx2 e1 (hI := by (have cc : a1.ZX.length ≤ 2301952 := Yv (by simp (maxDischargeDepth := 12) [u1]); have w2 : W (v1_1 + 1) = v1_1 + 1 := Zk (by simp at *; omega) (by simp at *; omega); (try dsimp only); rw [w2]; simp at *; omega))
 have f := ms f e1
 exact rt [.tmp 8] f
theorem Lr (a0 : ZI) (a1 : ZP) (a2 : List Int) (a3 : ZD) (u0 : Sm 2297856 a0) (u1 : Sm 2297856 a1) (u2 : Sm 2297856 a2) (u3 : Sm 2297856 a3) : Sa 239 [a0.row, a1.row, rL 1 iR a2, a3.row] [rI (xu a0 a1 a2 a3)] := by
 have f := me (xu.eq_1 a0 a1 a2 a3)
 refine so Tryz.func239 Tryz.ntmps239 ?_
 refine cRs (FC a1 a3) ?_
 refine cF f ?_ ?_ <;> intro k1 h1 f
 ·exact rt [.tmp 8] f
 refine cRs (CO a0 a1 a2 (xG a1 a3) (sg u0) (sg u1) (sg u2)) ?_
 exact rt [.tmp 8] f
theorem V5 (a0 : ZI) (a1 : ZL) (a2 : List (List Int)) (a3 : ZD) (u0 : Sm 2293760 a0) (u1 : Sm 2293760 a1) (u2 : Sm 2293760 a2) (u3 : Sm 2293760 a3) : Sa 172 [a0.row, a1.row, rL 1 (slR 1 iR) a2, a3.row] [rI (Yw a0 a1 a2 a3)] := by
 have f := me (Yw.eq_1 a0 a1 a2 a3)
 refine so Tryz.func172 Tryz.ntmps172 ?_
 refine lp2 (zN.eq_2 a0 a1 a2 a3) (fun v1_0 v1_1 => YP 41 [eL 2 1 a2 (slR 1 iR), eX 4 (a0.row.map .d), eX 5 (a1.row.map .d), eX 7 (a3.row.map .d), eI 9 v1_0, eI 10 (↑v1_1 : Int)]) (fun n1 v1_0 v1_1 => a1.ZO.length < n1 + v1_1 ∧ v1_1 ≤ a1.ZO.length) (a1.ZO.length + 1) a0.Now 0 (fun p1 v1_0 v1_1 e1 j1 => ?_)
 refine cF e1 ?_ ?_ <;> intro k2 h1 e1
 ·have i1 : v1_1 < a1.ZO.length := by (simp at h1; omega)
  have m2 := ml a1.ZO (k2 15 _ rfl)
  have c1 := sl 2293760 a1.ZO (an u0 (an u1 (an u2 u3)))
  have w1 := wr v1_1
  refine dIo mixed ?_
  have i2 := ik v1_1 a2
  simp [i1, ZA, i2]
  repeat with_reducible refine sd ?_
  refine cRs (Lr a0 (nth a1.ZO v1_1) (nth a2 v1_1) a3 (sg u0) (sg (Z3 (ZL.Yl u1))) (sg (Z3 u2)) (sg u3)) ?_
  refine cRs (SK v1_0 (xu a0 (nth a1.ZO v1_1) (nth a2 v1_1) a3)) ?_
  exact ny2 w1 e1
 have c2 := sl 2293760 a1.ZO (an u0 (an u1 (an u2 u3)))
 have f := ms f e1
 exact rt [.tmp 8] f
theorem yC (a0 : ZD) : Sa 295 [a0.row] [rI (XS a0)] := by
 have f := me (XS.eq_1 a0)
 refine so Tryz.func295 Tryz.ntmps295 ?_
 refine gIf ?_ ?_ <;> intro G
 ·have i1 := ik 0 a0.Zg
  simp [i1, ZA, G]
  repeat with_reducible refine sdg ?_
  refine cGg (fun gg => (Yf (nth a0.Zg 0) 101 105)) ?_
  refine cKo f ?_ ?_ <;> intro k1 h1 f
  ·try (simp [G] at h1; done)
   all_goals
    have q1 := h1; try simp [YG] at q1
    simp [G]
    repeat with_reducible refine sdg ?_
    exact rtg [.tmp 2] f
  ·try (simp [G] at h1; done)
   all_goals
    have q1 := h1; try simp [YG] at q1
    simp [G]
    repeat with_reducible refine sdg ?_
    refine dIo mixed ?_
    have i2 := ik (W ((nth a0.Zg 0) - 101)).toNat ([7, 5, 5, 9, 6] : List Int)
    have r1 := ZA (f := iR) i2; try simp at r1
    simp [i1, ZA, i2, r1, G]
    repeat with_reducible refine sdg ?_
    refine cKt f ?_ ?_ <;> intro k3 h2 f
    ·try (simp [G] at h2; done)
     all_goals
      exact rtg [.tmp 2] f
    ·try (simp [G] at h2; done)
     all_goals
      simp [i1, ZA, G]
      repeat with_reducible refine sdg ?_
      exact rtg [.tmp 2] f
 ·refine sGo ?_
  simp [G]
  repeat with_reducible refine sdg ?_
  refine cKo f ?_ ?_ <;> intro k4 h3 f
  ·try (simp [G] at h3; done)
   all_goals
    have q3 := h3; try simp [YG] at q3
    simp [G]
    repeat with_reducible refine sdg ?_
    exact rtg [.tmp 2] f
  ·try (simp [G] at h3; done)
   all_goals
    have q3 := h3; try simp [YG] at q3
    simp [G]
    repeat with_reducible refine sdg ?_
    refine dIo mixed ?_
    have i4 := ik 0 a0.Zg
    have i5 := ik (W ((nth a0.Zg 0) - 101)).toNat ([7, 5, 5, 9, 6] : List Int)
    have r2 := ZA (f := iR) i5; try simp at r2
    simp [i4, ZA, i5, r2, G]
    repeat with_reducible refine sdg ?_
    refine cKt f ?_ ?_ <;> intro k6 h4 f
    ·try (simp [G] at h4; done)
     all_goals
      exact rtg [.tmp 2] f
    ·try (simp [G] at h4; done)
     all_goals
      simp [i4, ZA, G]
      repeat with_reducible refine sdg ?_
      exact rtg [.tmp 2] f
theorem R5 (a0 : ZD) : Sa 244 [a0.row] [(Xi a0).1.row, rB (Xi a0).2] := by
 have f := me (Xi.eq_1 a0)
 refine so Tryz.func244 Tryz.ntmps244 ?_
 refine dIs mixed ?_
 refine cRs (yC a0) ?_
 refine gIf ?_ ?_ <;> intro G
 ·have g1x := G
  have g1 := G; try simp at g1
  have i1 : 6 < a0.Zg.length := by (have z := ZZ a0; simp_all; done)
  simp [i1, ZA, G]
  repeat with_reducible refine sdg ?_
  refine cK f ?_ ?_ <;> intro k2 h1 f
  ·try (simp [G] at h1; done)
   all_goals
    exact rtg [.cell 2 168, .tmp 3] f
  ·try (simp [G] at h1; done)
   all_goals
    refine dIo mixed ?_
    have i2 : 1 < a0.Zg.length := by (have z := ZZ a0; simp_all; done)
    have i3 : 2 < a0.Zg.length := by (have z := ZZ a0; simp_all; done)
    have i4 : 3 < a0.Zg.length := by (have z := ZZ a0; simp_all; done)
    have i5 : 4 < a0.Zg.length := by (have z := ZZ a0; simp_all; done)
    have i6 : 5 < a0.Zg.length := by (have z := ZZ a0; simp_all; done)
    simp [i2, ZA, i3, i4, i5, i6, i1, G]
    repeat with_reducible refine sdg ?_
    exact rtg [.cell 2 168, .tmp 3] f
 ·have g1x := G
  refine cK f ?_ ?_ <;> intro k4 h2 f
  ·try (simp [G] at h2; done)
   all_goals
    exact rtg [.cell 2 168, .tmp 3] f
  ·try (simp [G] at h2; done)
   all_goals
    refine dIo mixed ?_
    have i8 : 1 < a0.Zg.length := by (have z := ZZ a0; simp_all; done)
    have i9 : 2 < a0.Zg.length := by (have z := ZZ a0; simp_all; done)
    have i10 : 3 < a0.Zg.length := by (have z := ZZ a0; simp_all; done)
    have i11 : 4 < a0.Zg.length := by (have z := ZZ a0; simp_all; done)
    have i12 : 5 < a0.Zg.length := by (have z := ZZ a0; simp_all; done)
    have i13 : 6 < a0.Zg.length := by (have z := ZZ a0; simp_all; done)
    simp [i8, ZA, i9, i10, i11, i12, i13, G]
    repeat with_reducible refine sdg ?_
    exact rtg [.cell 2 168, .tmp 3] f
theorem Tc (a0 : ZD) : Sa 248 [a0.row] [(Qu a0).1.row, rB (Qu a0).2] := by
 have f := me (Qu.eq_1 a0)
 refine so Tryz.func248 Tryz.ntmps248 ?_
 refine dIs mixed ?_
 refine cRs (yC a0) ?_
 refine gIf ?_ ?_ <;> intro G
 ·have g1x := G
  have g1 := G; try simp at g1
  have i1 : 4 < a0.Zg.length := by (have z := ZZ a0; simp_all; done)
  simp [i1, ZA, G]
  repeat with_reducible refine sdg ?_
  refine cK f ?_ ?_ <;> intro k2 h1 f
  ·try (simp [G] at h1; done)
   all_goals
    exact rtg [.cell 2 261, .tmp 3] f
  ·try (simp [G] at h1; done)
   all_goals
    refine dIo mixed ?_
    have i2 : 1 < a0.Zg.length := by (have z := ZZ a0; simp_all; done)
    have i3 : 2 < a0.Zg.length := by (have z := ZZ a0; simp_all; done)
    have i4 : 3 < a0.Zg.length := by (have z := ZZ a0; simp_all; done)
    simp [i2, ZA, i3, i4, i1, G]
    repeat with_reducible refine sdg ?_
    exact rtg [.cell 2 261, .tmp 3] f
 ·have g1x := G
  refine cK f ?_ ?_ <;> intro k4 h2 f
  ·try (simp [G] at h2; done)
   all_goals
    exact rtg [.cell 2 261, .tmp 3] f
  ·try (simp [G] at h2; done)
   all_goals
    refine dIo mixed ?_
    have i6 : 1 < a0.Zg.length := by (have z := ZZ a0; simp_all; done)
    have i7 : 2 < a0.Zg.length := by (have z := ZZ a0; simp_all; done)
    have i8 : 3 < a0.Zg.length := by (have z := ZZ a0; simp_all; done)
    have i9 : 4 < a0.Zg.length := by (have z := ZZ a0; simp_all; done)
    simp [i6, ZA, i7, i8, i9, G]
    repeat with_reducible refine sdg ?_
    exact rtg [.cell 2 261, .tmp 3] f
theorem IP (a0 : ZD) : Sa 349 [a0.row] [(xy a0).1.row, rB (xy a0).2] := by
 have f := me (xy.eq_1 a0)
 refine so Tryz.func349 Tryz.ntmps349 ?_
 refine cRs (yC a0) ?_
 refine cF f ?_ ?_ <;> intro k1 h1 f
 ·exact rt [.cell 2 279, .tmp 3] f
 refine dIo mixed ?_
 have i1 : 1 < a0.Zg.length := by (have z := ZZ a0; simp_all; done)
 have i2 : 2 < a0.Zg.length := by (have z := ZZ a0; simp_all; done)
 have i3 : 3 < a0.Zg.length := by (have z := ZZ a0; simp_all; done)
 have i4 : 4 < a0.Zg.length := by (have z := ZZ a0; simp_all; done)
 simp [i1, ZA, i2, i3, i4]
 repeat with_reducible refine sd ?_
 exact rt [.cell 2 279, .tmp 3] f
theorem FI (a0 : ZD) : Sa 350 [a0.row] [(jV a0).1.row, rB (jV a0).2] := by
 have f := me (jV.eq_1 a0)
 refine so Tryz.func350 Tryz.ntmps350 ?_
 refine dIs mixed ?_
 refine cRs (yC a0) ?_
 refine gIf ?_ ?_ <;> intro G
 ·have g1x := G
  have g1 := G; try simp at g1
  have i1 : 1 < a0.Zg.length := by (have z := ZZ a0; simp_all; done)
  simp [i1, ZA, G]
  repeat with_reducible refine sdg ?_
  refine cK f ?_ ?_ <;> intro k2 h1 f
  ·try (simp [G] at h1; done)
   all_goals
    exact rtg [.cell 2 49, .tmp 3] f
  ·try (simp [G] at h1; done)
   all_goals
    refine dIo mixed ?_
    have i2 : 2 < a0.Zg.length := by (have z := ZZ a0; simp_all; done)
    have i3 : 3 < a0.Zg.length := by (have z := ZZ a0; simp_all; done)
    have i4 : 4 < a0.Zg.length := by (have z := ZZ a0; simp_all; done)
    have i5 : 5 < a0.Zg.length := by (have z := ZZ a0; simp_all; done)
    have i6 : 6 < a0.Zg.length := by (have z := ZZ a0; simp_all; done)
    have i7 : 7 < a0.Zg.length := by (have z := ZZ a0; simp_all; done)
    have i8 : 8 < a0.Zg.length := by (have z := ZZ a0; simp_all; done)
    simp [i1, ZA, i2, i3, i4, i5, i6, i7, i8, G]
    repeat with_reducible refine sdg ?_
    exact rtg [.cell 2 49, .tmp 3] f
 ·have g1x := G
  refine cK f ?_ ?_ <;> intro k4 h2 f
  ·try (simp [G] at h2; done)
   all_goals
    exact rtg [.cell 2 49, .tmp 3] f
  ·try (simp [G] at h2; done)
   all_goals
    refine dIo mixed ?_
    have i10 : 1 < a0.Zg.length := by (have z := ZZ a0; simp_all; done)
    have i11 : 2 < a0.Zg.length := by (have z := ZZ a0; simp_all; done)
    have i12 : 3 < a0.Zg.length := by (have z := ZZ a0; simp_all; done)
    have i13 : 4 < a0.Zg.length := by (have z := ZZ a0; simp_all; done)
    have i14 : 5 < a0.Zg.length := by (have z := ZZ a0; simp_all; done)
    have i15 : 6 < a0.Zg.length := by (have z := ZZ a0; simp_all; done)
    have i16 : 7 < a0.Zg.length := by (have z := ZZ a0; simp_all; done)
    have i17 : 8 < a0.Zg.length := by (have z := ZZ a0; simp_all; done)
    simp [i10, ZA, i11, i12, i13, i14, i15, i16, i17, G]
    repeat with_reducible refine sdg ?_
    exact rtg [.cell 2 49, .tmp 3] f
theorem Uq (a0 : ZD) : Sa 254 [a0.row] [(Jk a0).1.row, rB (Jk a0).2] := by
 have f := me (Jk.eq_1 a0)
 refine so Tryz.func254 Tryz.ntmps254 ?_
 refine dIs mixed ?_
 refine cRs (yC a0) ?_
 refine gIf ?_ ?_ <;> intro G
 ·have g1x := G
  have g1 := G; try simp at g1
  have i1 : 5 < a0.Zg.length := by (have z := ZZ a0; simp_all; done)
  simp [i1, ZA, G]
  repeat with_reducible refine sdg ?_
  refine cK f ?_ ?_ <;> intro k2 h1 f
  ·try (simp [G] at h1; done)
   all_goals
    exact rtg [.cell 2 269, .tmp 3] f
  ·try (simp [G] at h1; done)
   all_goals
    refine dIo mixed ?_
    have i2 : 1 < a0.Zg.length := by (have z := ZZ a0; simp_all; done)
    have i3 : 2 < a0.Zg.length := by (have z := ZZ a0; simp_all; done)
    have i4 : 3 < a0.Zg.length := by (have z := ZZ a0; simp_all; done)
    have i5 : 4 < a0.Zg.length := by (have z := ZZ a0; simp_all; done)
    simp [i2, ZA, i3, i4, i5, i1, G]
    repeat with_reducible refine sdg ?_
    exact rtg [.cell 2 269, .tmp 3] f
 ·have g1x := G
  refine cK f ?_ ?_ <;> intro k4 h2 f
  ·try (simp [G] at h2; done)
   all_goals
    exact rtg [.cell 2 269, .tmp 3] f
  ·try (simp [G] at h2; done)
   all_goals
    refine dIo mixed ?_
    have i7 : 1 < a0.Zg.length := by (have z := ZZ a0; simp_all; done)
    have i8 : 2 < a0.Zg.length := by (have z := ZZ a0; simp_all; done)
    have i9 : 3 < a0.Zg.length := by (have z := ZZ a0; simp_all; done)
    have i10 : 4 < a0.Zg.length := by (have z := ZZ a0; simp_all; done)
    have i11 : 5 < a0.Zg.length := by (have z := ZZ a0; simp_all; done)
    simp [i7, ZA, i8, i9, i10, i11, G]
    repeat with_reducible refine sdg ?_
    exact rtg [.cell 2 269, .tmp 3] f
theorem F2 (a0 : ZD) : Sa 334 [a0.row] [rB (Sf a0)] := by
 have f := me (Sf.eq_1 a0)
 refine so Tryz.func334 Tryz.ntmps334 ?_
 refine cRs (R5 a0) ?_
 refine cRs (Tc a0) ?_
 refine cRs (IP a0) ?_
 refine cRs (FI a0) ?_
 refine cRs (Uq a0) ?_
 exact rt [.tmp 2] f
theorem IB (a0 : List Zs) (a1 : ZD) (u0 : Sm 2318336 a0) (u1 : Sm 2318336 a1) : Sa 293 [rL 5 Zs.row a0, a1.row] [rB (qJ a0 a1)] := by
 have f := me (qJ.eq_1 a0 a1)
 refine so Tryz.func293 Tryz.ntmps293 ?_
 refine cRs (F2 a1) ?_
 refine cGs (fun gg => (jf a0 a1.Key a1.Zg a1.Mark (sg u0) (sg (ZD.VP u1)))) ?_
 exact rt [.tmp 4] f
theorem FN (a0 : ZI) (a1 : ZL) (a2 : List (List Int)) (a3 : ZD) (u0 : Sm 2289664 a0) (u1 : Sm 2289664 a1) (u2 : Sm 2289664 a2) (u3 : Sm 2289664 a3) : Sa 242 [a0.row, a1.row, rL 1 (slR 1 iR) a2, a3.row] [rB (WW a0 a1 a2 a3)] := by
 have f := me (WW.eq_1 a0 a1 a2 a3)
 refine so Tryz.func242 Tryz.ntmps242 ?_
 refine cRs (Kz a0.YY a3.Key) ?_
 refine dIs mixed ?_
 refine cGs (fun gg => (IB a0.YY a3 (sg (ZI.Ye u0)) (sg u3))) ?_
 refine cGs (fun gg => (V5 a0 a1 a2 a3 (sg u0) (sg u1) (sg u2) (sg u3))) ?_
 refine gIf ?_ ?_ <;> intro G
 ·have i1 : (Ys a0.YY a3.Key).toNat < a0.YY.length := by have := KF a0.YY a3.Key; exact il
  simp [i1, ZA, G]
  repeat with_reducible refine sdg ?_
  refine cGg (fun gg => (j6 a0.Methods (nth a0.YY (Ys a0.YY a3.Key).toNat).Method)) ?_
  exact rtg [.tmp 8] f
 ·refine sGo ?_
  simp [G]
  repeat with_reducible refine sdg ?_
  exact rtg [.tmp 8] f
theorem ME (a0 : ZD) (a1 : ZD) : Sa 294 [a0.row, a1.row] [rB (qk a0 a1)] := by
 have f := me (qk.eq_1 a0 a1)
 refine so Tryz.func294 Tryz.ntmps294 ?_
 refine lp1 (yq.eq_2 a0 a1) (fun v1_0 => YP 71 [eX 2 (a0.row.map .d), eX 3 (a1.row.map .d), eI 5 (↑v1_0 : Int)]) (fun n1 v1_0 => a0.Zg.length < n1 + v1_0 ∧ v1_0 ≤ a0.Zg.length) (a0.Zg.length + 1) 0 (fun p1 v1_0 e1 j1 => ?_)
 refine cF e1 ?_ ?_ <;> intro k2 h1 e1
 ·have i1 : v1_0 < a0.Zg.length := by (simp at h1; omega)
  have m2 := ml a0.Zg (k2 8 _ rfl)
  have w1 := wr v1_0
  refine dIo mixed ?_
  have i2 := ik v1_0 a1.Zg
  simp [i1, ZA, i2]
  repeat with_reducible refine sd ?_
  refine cF e1 ?_ ?_ <;> intro k4 h2 e1
  ·refine okD fun k5 => ?_
   refine dIo mixed ?_
   have f := ms f e1
   simp [i1, ZA, i2]
   repeat with_reducible refine sd ?_
   exact rt [.tmp 4] f
  exact ny1 w1 e1
 have f := ms f e1
 refine cF f ?_ ?_ <;> intro k6 h3 f
 ·exact rt [.tmp 4] f
 refine cF f ?_ ?_ <;> intro k7 h4 f
 ·exact rt [.tmp 4] f
 exact rt [.tmp 4] f
theorem AQ (a0 : List ZD) (a1 : ZD) (u0 : Sm 2334720 a0) (u1 : Sm 2334720 a1) : Sa 243 [rL 3 ZD.row a0, a1.row] [rL 3 ZD.row (yv a0 a1)] := by
 have f := me (yv.eq_1 a0 a1)
 refine so Tryz.func243 Tryz.ntmps243 ?_
 refine lp1 (Qw.eq_2 a0 a1) (fun v1_0 => YP 46 [eL 0 3 a0 ZD.row, eX 3 (a1.row.map .d), eI 5 (↑v1_0 : Int)]) (fun n1 v1_0 => a0.length < n1 + v1_0 ∧ v1_0 ≤ a0.length) (a0.length + 1) 0 (fun p1 v1_0 e1 j1 => ?_)
 refine dIs mixed ?_
 refine gIf ?_ ?_ <;> intro G
 ·have i1 := ik v1_0 a0
  simp [i1, ZA, G]
  repeat with_reducible refine sdg ?_
  refine cGg (fun gg => (ME (nth a0 v1_0) a1)) ?_
  refine cK e1 ?_ ?_ <;> intro k3 h1 e1
  ·try (simp [G] at h1; done)
   all_goals
    have i2 : v1_0 < a0.length := by (simp at h1; omega)
    have m2 := ml a0 (k3 0 _ rfl)
    have c1 := sl 2334720 a0 (an u0 u1)
    have w1 := wr v1_0
    exact ny1 (an w1 G) e1
  ·try (simp [G] at h1; done)
   all_goals
    have c2 := sl 2334720 a0 (an u0 u1)
    have f := ms f e1
    refine dIg mixed ?_
    refine gJf G ?_ ?_ <;> intro G
    ·try (simp at G; done)
     all_goals
      simp [i1, ZA, G]
      repeat with_reducible refine sdg ?_
      refine cGg (fun gg => (xt (nth a0 v1_0) a1)) ?_
      refine cK f ?_ ?_ <;> intro k5 h2 f
      ·try (simp [G] at h2; done)
       all_goals
        exact rtg [.tmp 4] f
      ·try (simp [G] at h2; done)
       all_goals
        refine dIg mixed ?_
        refine eIg ?_
        have c3 := sl 2334720 (a0.take v1_0) (an u0 u1)
        refine eIg ?_
        refine cRg (Ym.rd (qm a1 (sg u1))) ?_
        refine eIg ?_
        refine eIg ?_
        have c4 := sl 2334720 (a0.drop v1_0) (an u0 u1)
        refine eIg ?_
        exact rtg [.tmp 4] f
    ·try (simp at G; done)
     all_goals
      refine sGo ?_
      simp [G]
      repeat with_reducible refine sdg ?_
      refine cK f ?_ ?_ <;> intro k7 h3 f
      ·try (simp [G] at h3; done)
       all_goals
        exact rtg [.tmp 4] f
      ·try (simp [G] at h3; done)
       all_goals
        refine dIg mixed ?_
        refine eIg ?_
        have c5 := sl 2334720 (a0.take v1_0) (an u0 u1)
        refine eIg ?_
        refine cRg (Ym.rd (qm a1 (sg u1))) ?_
        refine eIg ?_
        refine eIg ?_
        have c6 := sl 2334720 (a0.drop v1_0) (an u0 u1)
        refine eIg ?_
        exact rtg [.tmp 4] f
 ·refine sGo ?_
  simp [G]
  repeat with_reducible refine sdg ?_
  refine cK e1 ?_ ?_ <;> intro k9 h4 e1
  ·try (simp [G] at h4; done)
   all_goals
    have i4 : v1_0 < a0.length := by (simp at h4; omega)
    have m4 := ml a0 (k9 0 _ rfl)
    have c7 := sl 2334720 a0 (an u0 u1)
    have w2 := wr v1_0
    exact ny1 (an w2 G) e1
  ·try (simp [G] at h4; done)
   all_goals
    have c8 := sl 2334720 a0 (an u0 u1)
    have f := ms f e1
    refine dIg mixed ?_
    refine gJf G ?_ ?_ <;> intro G
    ·try (simp at G; done)
     all_goals
      have i5 := ik v1_0 a0
      simp [i5, ZA, G]
      repeat with_reducible refine sdg ?_
      refine cGg (fun gg => (xt (nth a0 v1_0) a1)) ?_
      refine cK f ?_ ?_ <;> intro k11 h5 f
      ·try (simp [G] at h5; done)
       all_goals
        exact rtg [.tmp 4] f
      ·try (simp [G] at h5; done)
       all_goals
        refine dIg mixed ?_
        refine eIg ?_
        have c9 := sl 2334720 (a0.take v1_0) (an u0 u1)
        refine eIg ?_
        refine cRg (Ym.rd (qm a1 (sg u1))) ?_
        refine eIg ?_
        refine eIg ?_
        have c10 := sl 2334720 (a0.drop v1_0) (an u0 u1)
        refine eIg ?_
        exact rtg [.tmp 4] f
    ·try (simp at G; done)
     all_goals
      refine sGo ?_
      simp [G]
      repeat with_reducible refine sdg ?_
      refine cK f ?_ ?_ <;> intro k13 h6 f
      ·try (simp [G] at h6; done)
       all_goals
        exact rtg [.tmp 4] f
      ·try (simp [G] at h6; done)
       all_goals
        refine dIg mixed ?_
        refine eIg ?_
        have c11 := sl 2334720 (a0.take v1_0) (an u0 u1)
        refine eIg ?_
        refine cRg (Ym.rd (qm a1 (sg u1))) ?_
        refine eIg ?_
        refine eIg ?_
        have c12 := sl 2334720 (a0.drop v1_0) (an u0 u1)
        refine eIg ?_
        exact rtg [.tmp 4] f
theorem N7 (a0 : ZI) (a1 : ZL) (a2 : List (List Int)) (u0 : Sm 2285568 a0) (u1 : Sm 2285568 a1) (u2 : Sm 2285568 a2) (u3 : BL a1 ≤ 2097152) : Sa 177 [a0.row, a1.row, rL 1 (slR 1 iR) a2] [rL 3 ZD.row (Zq a0 a1 a2)] := by
 have f := me (Zq.eq_1 a0 a1 a2)
 refine so Tryz.func177 Tryz.ntmps177 ?_
 refine eIs ?_
 refine lp2 (JU.eq_2 a0 a1 a2) (fun v1_0 v1_1 => YP 48 [eL 2 1 a2 (slR 1 iR), eX 3 (a0.row.map .d), eX 4 (a1.row.map .d), eL 7 3 v1_0 ZD.row, eI 8 (↑v1_1 : Int)]) (fun n1 v1_0 v1_1 => a1.ZO.length < n1 + v1_1 ∧ v1_1 ≤ a1.ZO.length ∧ v1_0.length + cnL (fun s : ZP => s.Zd.length) (a1.ZO.drop v1_1) ≤ 2097152 ∧ Sm 2285568 v1_0) (a1.ZO.length + 1) ([] : List ZD) 0 (fun p1 v1_0 v1_1 e1 j1 => ?_) (hI := by (have u : cnL (fun s : ZP => s.Zd.length) a1.ZO ≤ 2097152 := u3; (try dsimp only); refine ⟨by omega, by omega, by omega, ?_, ⟨Nat.zero_le _, fun x hx => by cases hx⟩⟩; rw [List.drop_zero]; simp only [List.length_nil]; omega)) (h0 := Yc [] [(11, 0)] rfl (by simp))
 try dsimp only at j1
 refine cF e1 ?_ ?_ <;> intro k2 h1 e1
 ·have i1 := ix h1
  have m2 := ml a1.ZO (k2 14 _ rfl)
  have c1 := sl 2285568 a1.ZO (an u0 (an u1 (an u2 u3)))
  have w1 := wr v1_1
  refine nL (Xy.eq_2 a0 a1 a2 v1_1) (fun v2_0 v2_1 => YP 48 [eL 2 1 a2 (slR 1 iR), eX 3 (a0.row.map .d), eX 4 (a1.row.map .d), eL 7 3 v2_0 ZD.row, eI 8 (↑v1_1 : Int), eI 9 (↑v2_1 : Int)]) (fun n2 v2_0 v2_1 => (nth a1.ZO v1_1).Zd.length < n2 + v2_1 ∧ v2_1 ≤ (nth a1.ZO v1_1).Zd.length ∧ v2_0.length + ((nth a1.ZO v1_1).Zd.length - v2_1) + cnL (fun s : ZP => s.Zd.length) (a1.ZO.drop (v1_1 + 1)) ≤ 2097152 ∧ Sm 2285568 v2_0) ((nth a1.ZO v1_1).Zd.length + 1) v1_0 0 (fun p2 v2_0 v2_1 e2 j2 => ?_) (hI := by (have d := I8 (l := a1.ZO) (i := v1_1) (by first | omega | (simp at *; omega)); refine ⟨?_, ?_, ?_, ?_, j1.2.2.2.2⟩ <;> ((try dsimp only); omega)))
  try dsimp only at j2
  simp [i1, ZA]
  repeat with_reducible refine sd ?_
  refine cFf e2 ?_ ?_ <;> intro k4 h2 e2
  ·have i2 := ix h2
   have m4 := ml (nth a1.ZO v1_1).Zd (k4 25 _ rfl)
   have c2 := sl 2285568 (nth a1.ZO v1_1).Zd (an u0 (an u1 (an u2 u3)))
   have w2 := wr v2_1
   simp [i1, ZA, i2]
   repeat with_reducible refine sd ?_
   refine cRs (FN a0 a1 a2 (nth (nth a1.ZO v1_1).Zd v2_1) (by first | exact sg u0 | exact sg u1 | exact sg u2 | exact sg (Z3 (ZP.Yy (Z3 (ZL.Yl u1))))) (by first | exact sg u0 | exact sg u1 | exact sg u2 | exact sg (Z3 (ZP.Yy (Z3 (ZL.Yl u1))))) (by first | exact sg u0 | exact sg u1 | exact sg u2 | exact sg (Z3 (ZP.Yy (Z3 (ZL.Yl u1))))) (by first | exact sg u0 | exact sg u1 | exact sg u2 | exact sg (Z3 (ZP.Yy (Z3 (ZL.Yl u1)))))) ?_
   refine cF e2 ?_ ?_ <;> intro k5 h3 e2
   ·refine cRs (AQ v2_0 (nth (nth a1.ZO v1_1).Zd v2_1) (by first | exact sg j2.2.2.2.2 | exact sg (Z3 (ZP.Yy (Z3 (ZL.Yl u1))))) (by first | exact sg j2.2.2.2.2 | exact sg (Z3 (ZP.Yy (Z3 (ZL.Yl u1)))))) ?_
    exact ny2 (an w1 w2) e2 (hI := by first | (refine ⟨?_, ?_, ?_, ?_, j2.2.2.2.2⟩ <;> ((try dsimp only); omega)) | (have pk : Sm 2285568 (nth (nth a1.ZO v1_1).Zd v2_1) := Z3 (ZP.Yy (Z3 (ZL.Yl u1))); have z := VS v2_0 (nth (nth a1.ZO v1_1).Zd v2_1); refine ⟨?_, ?_, ?_, ?_, Pc j2.2.2.2.2 pk (by omega)⟩ <;> ((try dsimp only); omega)))
   exact ny2 (an w1 w2) e2 (hI := by first | (refine ⟨?_, ?_, ?_, ?_, j2.2.2.2.2⟩ <;> ((try dsimp only); omega)) | (have pk : Sm 2285568 (nth (nth a1.ZO v1_1).Zd v2_1) := Z3 (ZP.Yy (Z3 (ZL.Yl u1))); have z := VS v2_0 (nth (nth a1.ZO v1_1).Zd v2_1); refine ⟨?_, ?_, ?_, ?_, Pc j2.2.2.2.2 pk (by omega)⟩ <;> ((try dsimp only); omega)))
  have c3 := sl 2285568 (nth a1.ZO v1_1).Zd (an u0 (an u1 (an u2 u3)))
  have e1 := ms e1 e2
  exact ny2 w1 e1 (hI := by (refine ⟨?_, ?_, ?_, ?_, j2.2.2.2.2⟩ <;> ((try dsimp only); omega)))
 have c4 := sl 2285568 a1.ZO (an u0 (an u1 (an u2 u3)))
 have f := ms f e1
 exact rt [.tmp 6] f
theorem OH (a0 : Zn) : Sa 284 [a0.row] [(xZ a0).row] := by
 have f := me (xZ.eq_1 a0)
 refine so Tryz.func284 Tryz.ntmps284 ?_
 exact rt [.cell 2 77] f
theorem B8 (a0 : Zn) : Sa 223 [a0.row] [rB (Ri a0)] := by
 have f := me (Ri.eq_1 a0)
 refine so Tryz.func223 Tryz.ntmps223 ?_
 refine cRs (Yf a0.YA 1 999) ?_
 refine cGs (fun gg => (Yf a0.Key 1 99)) ?_
 refine cGs (fun gg => (Yf a0.Qd 1 99)) ?_
 refine cGs (fun gg => (Yf a0.Js 0 99)) ?_
 refine cGs (fun gg => (OH a0)) ?_
 refine cGs (fun gg => (Xh (xZ a0))) ?_
 exact rt [.tmp 2] f
theorem Ei (a0 : Zn) : Sd 225 [a0.row] [rL 1 iR (yo a0)] := by
 have f := me (yo.eq_1 a0)
 refine soD Tryz.func225 Tryz.ntmps225 ?_
 exact rtD [.tmp 2] f
theorem N6 (a0 : List Zs) (a1 : Int) : Sa 226 [rL 5 Zs.row a0, rI a1] [rI (VU a0 a1)] := by
 have f := me (VU.eq_1 a0 a1)
 refine so Tryz.func226 Tryz.ntmps226 ?_
 refine cRs (Kz a0 a1) ?_
 refine cFt f ?_ ?_ <;> intro k1 h1 f
 ·exact rt [.tmp 4] f
 have i1 : (Ys a0 a1).toNat < a0.length := by have := KF a0 a1; exact il
 simp [i1, ZA]
 repeat with_reducible refine sd ?_
 exact rt [.tmp 4] f
theorem Gm (a0 : List Zs) (a1 : Zn) (u0 : Sm 2318336 a0) : Sa 157 [rL 5 Zs.row a0, a1.row] [rB (WS a0 a1)] := by
 have f := me (WS.eq_1 a0 a1)
 refine so Tryz.func157 Tryz.ntmps157 ?_
 refine dIs mixed ?_
 refine cRs (B8 a1) ?_
 refine cGs (fun gg => Ym.rd (Ei a1)) ?_
 refine cGs (fun gg => (jf a0 a1.Qd (yo a1) a1.Mark (sg u0) (by simp (maxDischargeDepth := 12) [EK, Zi (m := 2322432) (by decide) u0]; try omega))) ?_
 refine cGs (fun gg => (N6 a0 a1.Key)) ?_
 exact rt [.tmp 4] f
theorem CG (a0 : ZI) (a1 : List ZD) (a2 : ZV) (u0 : Sm 2314240 a0) (u1 : Sm 2314240 a1) : Sa 178 [a0.row, rL 3 ZD.row a1, a2.row] [(Qp a0 a1 a2).1.row, rB (Qp a0 a1 a2).2] := by
 have f := me (Qp.eq_1 a0 a1 a2)
 refine so Tryz.func178 Tryz.ntmps178 ?_
 refine lp9 (jJ.eq_2 a0 a1 a2) (fun v1_0 v1_1 v1_2 v1_3 v1_4 v1_5 v1_6 v1_7 v1_8 => YP 56 [eL 1 3 a1 ZD.row, eX 3 (a0.row.map .d), eX 5 (a2.row.map .d), (6, .one (.bptr 6 0), [.box [.d (.int .i64 0), .d (.int .i64 0), .d (.int .i64 0), .d (.int .i64 0), .d (.int .i64 0), .d (.int .i64 0), .d (.int .i64 0)]]), (8, .one (.bptr 8 0), [.box [.d (.int .i64 v1_2), .d (.int .i64 v1_3), .d (.int .i64 v1_4), .d (.int .i64 v1_5), .d (.int .i64 v1_6), .d (.int .i64 v1_7), .d (.int .i64 v1_8)]]), eI 9 v1_0, eI 10 (↑v1_1 : Int)]) (fun n1 v1_0 v1_1 v1_2 v1_3 v1_4 v1_5 v1_6 v1_7 v1_8 => a1.length < n1 + v1_1 ∧ v1_1 ≤ a1.length) (a1.length + 1) 0 0 0 0 0 0 0 0 0 (fun p1 v1_0 v1_1 v1_2 v1_3 v1_4 v1_5 v1_6 v1_7 v1_8 e1 j1 => ?_)
 refine cFf e1 ?_ ?_ <;> intro k2 h1 e1
 ·have i1 := ix h1
  have m2 := ml a1 (k2 1 _ rfl)
  have c1 := sl 2314240 a1 (an u0 u1)
  have w1 := wr v1_1
  simp [i1, ZA]
  repeat with_reducible refine sd ?_
  refine cRs (R5 (nth a1 v1_1)) ?_
  refine cGs (fun gg => (Gm a0.YY (Xi (nth a1 v1_1)).1 (sg (ZI.Ye u0)))) ?_
  refine cF e1 ?_ ?_ <;> intro k3 h2 e1
  ·exact ny9 w1 e1
  exact ny9 w1 e1
 have c2 := sl 2314240 a1 (an u0 u1)
 have f := ms f e1
 refine cF f ?_ ?_ <;> intro k4 h3 f
 ·exact rt [.cell 6 168, .tmp 7] f
 exact rt [.cell 6 168, .tmp 7] f
theorem Uw (a0 : Int) (a1 : List ZY) (u0 : Sm 2326528 a1) : Sa 245 [rI a0, rL 5 ZY.row a1] [rI (yG a0 a1)] := by
 have f := me (yG.eq_1 a0 a1)
 refine so Tryz.func245 Tryz.ntmps245 ?_
 refine cF f ?_ ?_ <;> intro k1 h1 f
 ·exact rt [.tmp 4] f
 refine lp2 (zo.eq_2 a1) (fun v1_0 v1_1 => YP 29 [eI 0 a0, eL 1 5 a1 ZY.row, (5, .one (.sref 5 0 0 v1_0.length), [.arr false 1 (v1_0.map iR)]), eI 6 (↑v1_1 : Int)]) (fun n1 v1_0 v1_1 => a1.length < n1 + v1_1 ∧ v1_1 ≤ a1.length ∧ v1_0.length ≤ 0 + 1 * v1_1) (a1.length + 1) ([] : List Int) 0 (fun p1 v1_0 v1_1 e1 j1 => ?_) (h0 := Yc [((5, 0), some (10, 0))] [] rfl (by simp))
 refine cFf e1 ?_ ?_ <;> intro k3 h2 e1
 ·have i1 := ix h2
  have m2 := ml a1 (k3 1 _ rfl)
  have c1 := sl 2326528 a1 u0
  have w1 := wr v1_1
  simp [i1, ZA]
  repeat with_reducible refine sd ?_
  exact nx2 e1 (hw := Yc [((5, 0), some (24, 0))] [] rfl (by simp [w1]))
 have c2 := sl 2326528 a1 u0
 have f := ms f e1
 refine cRs (KQ a0 v1_0 (by first | (simp (maxDischargeDepth := 12) [X6]; omega) | (simp (maxDischargeDepth := 12) [Zi (m := 68719476736) (by decide) u0]; done))) ?_
 refine cRs (Xl 1 (JS a0 v1_0)) ?_
 exact rt [.tmp 4] f
theorem Rb (a0 : Int) (a1 : ZY) : Sd 298 [rI a0, a1.row] [(yj a0 a1).row] := by
 have f := me (yj.eq_1 a0 a1)
 refine soD Tryz.func298 Tryz.ntmps298 ?_
 refine dIs mixed ?_
 refine cDs [false] (Vy a1) ?_
 exact rtD [.cell 4 194] f
theorem LY (a0 : List ZD) (a1 : ZD) : Sa 297 [rL 3 ZD.row a0, a1.row] [rB (Rt a0 a1)] := by
 have f := me (Rt.eq_1 a0 a1)
 refine so Tryz.func297 Tryz.ntmps297 ?_
 refine lp1 (V2.eq_2 a0 a1) (fun v1_0 => YP 18 [eL 0 3 a0 ZD.row, eX 3 (a1.row.map .d), eI 5 (↑v1_0 : Int)]) (fun n1 v1_0 => a0.length < n1 + v1_0 ∧ v1_0 ≤ a0.length) (a0.length + 1) 0 (fun p1 v1_0 e1 j1 => ?_)
 refine cF e1 ?_ ?_ <;> intro k2 h1 e1
 ·have i1 := ix h1
  have m2 := ml a0 (k2 0 _ rfl)
  have w1 := wr v1_0
  refine dIo mixed ?_
  simp [i1, ZA]
  repeat with_reducible refine sd ?_
  refine cRs (xt (nth a0 v1_0) a1) ?_
  refine cF e1 ?_ ?_ <;> intro k4 h2 e1
  ·have f := ms f e1
   exact rt [.tmp 4] f
  exact ny1 w1 e1
 have f := ms f e1
 exact rt [.tmp 4] f
theorem ON (a0 : ZI) (a1 : List ZD) (a2 : List ZY) (u0 : Sm 2318336 a0) (u1 : Sm 2318336 a1) (u2 : Sm 2318336 a2) : Sa 246 [a0.row, rL 3 ZD.row a1, rL 5 ZY.row a2] [rI (Ki a0 a1 a2).1, rB (Ki a0 a1 a2).2] := by
 have f := me (Ki.eq_1 a0 a1 a2)
 refine so Tryz.func246 Tryz.ntmps246 ?_
 refine lp2 (j8.eq_2 a0 a1 a2) (fun v1_0 v1_1 => YP 82 [eL 1 3 a1 ZD.row, eL 2 5 a2 ZY.row, eX 3 (a0.row.map .d), (8, .one (.sref 8 0 0 v1_0.length), [.arr false 2 (v1_0.map ZF.row)]), eI 9 (↑v1_1 : Int)]) (fun n1 v1_0 v1_1 => a2.length < n1 + v1_1 ∧ v1_1 ≤ a2.length ∧ v1_0.length ≤ 0 + 1 * v1_1) (a2.length + 1) ([] : List ZF) 0 (fun p1 v1_0 v1_1 e1 j1 => ?_) (h0 := Yc [((8, 0), some (14, 0))] [] rfl (by simp))
 refine cF e1 ?_ ?_ <;> intro k2 h1 e1
 ·have i1 := ix h1
  have m2 := ml a2 (k2 2 _ rfl)
  have c1 := sl 2318336 a2 (an u0 (an u1 u2))
  have w1 := wr v1_1
  refine dIo mixed ?_
  simp [i1, ZA]
  repeat with_reducible refine sd ?_
  refine cRs (Pf a0.ZN (nth a2 v1_1)) ?_
  refine dIs mixed ?_
  refine gIf ?_ ?_ <;> intro G
  ·have i2 := ik (v1_1 - 1) a2
   have w2 : IntKind.i64.wrap ((v1_1 : Int) - 1) = (v1_1 : Int) - 1 := Zk (by omega) (by omega)
   simp [i2, ZA, w2, Qz, G]
   repeat with_reducible refine sdg ?_
   refine gK (fun _ => ?_)
   simp [i1, ZA, G]
   repeat with_reducible refine sdg ?_
   refine gJf G ?_ ?_ <;> intro G
   ·try (simp at G; done)
    all_goals
     simp [i1, ZA, G]
     repeat with_reducible refine sdg ?_
     refine cGg (fun gg => (TL a0.ZN (nth a2 v1_1))) ?_
     refine gK (fun _ => ?_)
     simp [i1, ZA, G]
     repeat with_reducible refine sdg ?_
     refine cGg (fun gg => Ym.rd (Rb (QQ a0.ZN (nth a2 v1_1)) (nth a2 v1_1))) ?_
     refine cGg (fun gg => (LY a1 (yj (QQ a0.ZN (nth a2 v1_1)) (nth a2 v1_1)))) ?_
     refine cK e1 ?_ ?_ <;> intro k5 h2 e1
     ·try (simp [G] at h2; done)
      all_goals
       have f := ms f e1
       exact rtg [.tmp 6, .tmp 7] f
     ·try (simp [G] at h2; done)
      all_goals
       exact nx2 e1 (hw := Yc [((8, 0), some (71, 0))] [] rfl (by simp [w1, w2, G]))
   ·try (simp at G; done)
    all_goals
     refine sGo ?_
     simp [G]
     repeat with_reducible refine sdg ?_
     refine sGg ?_
     refine sGo ?_
     simp [G]
     repeat with_reducible refine sdg ?_
     refine sGo ?_
     simp [G]
     repeat with_reducible refine sdg ?_
     refine cK e1 ?_ ?_ <;> intro k6 h3 e1
     ·try (simp [G] at h3; done)
      all_goals
       have f := ms f e1
       exact rtg [.tmp 6, .tmp 7] f
     ·try (simp [G] at h3; done)
      all_goals
       exact nx2 e1 (hw := Yc [((8, 0), some (71, 0))] [] rfl (by simp [w1, w2, G]))
  ·refine sGg ?_
   refine gJf G ?_ ?_ <;> intro G
   ·try (simp at G; done)
    all_goals
     simp [i1, ZA, G]
     repeat with_reducible refine sdg ?_
     refine cGg (fun gg => (TL a0.ZN (nth a2 v1_1))) ?_
     refine gK (fun _ => ?_)
     simp [i1, ZA, G]
     repeat with_reducible refine sdg ?_
     refine cGg (fun gg => Ym.rd (Rb (QQ a0.ZN (nth a2 v1_1)) (nth a2 v1_1))) ?_
     refine cGg (fun gg => (LY a1 (yj (QQ a0.ZN (nth a2 v1_1)) (nth a2 v1_1)))) ?_
     refine cK e1 ?_ ?_ <;> intro k7 h4 e1
     ·try (simp [G] at h4; done)
      all_goals
       have f := ms f e1
       exact rtg [.tmp 6, .tmp 7] f
     ·try (simp [G] at h4; done)
      all_goals
       exact nx2 e1 (hw := Yc [((8, 0), some (71, 0))] [] rfl (by simp [w1, G]))
   ·try (simp at G; done)
    all_goals
     refine sGo ?_
     simp [G]
     repeat with_reducible refine sdg ?_
     refine sGg ?_
     refine sGo ?_
     simp [G]
     repeat with_reducible refine sdg ?_
     refine sGo ?_
     simp [G]
     repeat with_reducible refine sdg ?_
     refine cK e1 ?_ ?_ <;> intro k8 h5 e1
     ·try (simp [G] at h5; done)
      all_goals
       have f := ms f e1
       exact rtg [.tmp 6, .tmp 7] f
     ·try (simp [G] at h5; done)
      all_goals
       exact nx2 e1 (hw := Yc [((8, 0), some (71, 0))] [] rfl (by simp [w1, G]))
 have c2 := sl 2318336 a2 (an u0 (an u1 u2))
 have f := ms f e1
 refine cRs (Rf v1_0 a0.QR (by first | (simp (maxDischargeDepth := 12) [X6]; omega) | (simp (maxDischargeDepth := 12) [Zi (m := 2322432) (by decide) u0, Zi (m := 2322432) (by decide) u1, Zi (m := 2322432) (by decide) u2]; done))) ?_
 exact rt [.tmp 6, .tmp 7] f
theorem Hx (a0 : ZI) (a1 : ZL) (a2 : List ZD) (a3 : ZV) (u0 : Sm 2314240 a0) (u1 : Sm 2314240 a1) (u2 : Sm 2314240 a2) : Sa 179 [a0.row, a1.row, rL 3 ZD.row a2, a3.row] [rI (QF a0 a1 a2 a3)] := by
 have f := me (QF.eq_1 a0 a1 a2 a3)
 refine so Tryz.func179 Tryz.ntmps179 ?_
 refine cRs (Kz a0.YY a3.Key) ?_
 refine cFf f ?_ ?_ <;> intro k1 h1 f
 ·have i1 : (Ys a0.YY a3.Key).toNat < a0.YY.length := by have := KF a0.YY a3.Key; exact il
  simp [i1, ZA]
  repeat with_reducible refine sd ?_
  refine lp2 (Qv.eq_2 a0 a1 a2 a3) (fun v1_0 v1_1 => YP 66 [eL 2 3 a2 ZD.row, eX 4 (a0.row.map .d), eX 5 (a1.row.map .d), eX 7 (a3.row.map .d), eI 9 v1_0, eI 11 (↑v1_1 : Int)]) (fun n1 v1_0 v1_1 => a1.Zv.length < n1 + v1_1 ∧ v1_1 ≤ a1.Zv.length) (a1.Zv.length + 1) (nth a0.YY (Ys a0.YY a3.Key).toNat).OC 0 (fun p1 v1_0 v1_1 e1 j1 => ?_)
  refine cF e1 ?_ ?_ <;> intro k3 h2 e1
  ·have i2 : v1_1 < a1.Zv.length := by (simp at h2; omega)
   have m2 := ml a1.Zv (k3 29 _ rfl)
   have c1 := sl 2314240 a1.Zv (an u0 (an u1 u2))
   have w1 := wr v1_1
   refine dIo mixed ?_
   simp [i2, ZA]
   repeat with_reducible refine sd ?_
   refine cRs (Uw a3.Method (nth a1.Zv v1_1) (sg (Z3 (ZL.jx u1)))) ?_
   refine cF e1 ?_ ?_ <;> intro k5 h3 e1
   ·exact ny2 w1 e1
   refine dIo mixed ?_
   simp [i2, ZA]
   repeat with_reducible refine sd ?_
   refine cRs (ON a0 a2 (nth a1.Zv v1_1) (sg u0) (sg u2) (sg (Z3 (ZL.jx u1)))) ?_
   refine cF e1 ?_ ?_ <;> intro k7 h4 e1
   ·refine cRs (Xl v1_0 (Ki a0 a2 (nth a1.Zv v1_1)).1) ?_
    exact ny2 w1 e1
   exact ny2 w1 e1
  have c2 := sl 2314240 a1.Zv (an u0 (an u1 u2))
  have f := ms f e1
  exact rt [.tmp 8] f
 refine lp2 (zb.eq_2 a0 a1 a2 a3) (fun v2_0 v2_1 => YP 66 [eL 2 3 a2 ZD.row, eX 4 (a0.row.map .d), eX 5 (a1.row.map .d), eX 7 (a3.row.map .d), eI 9 v2_0, eI 11 (↑v2_1 : Int)]) (fun n2 v2_0 v2_1 => a1.Zv.length < n2 + v2_1 ∧ v2_1 ≤ a1.Zv.length) (a1.Zv.length + 1) 0 0 (fun p2 v2_0 v2_1 e2 j2 => ?_)
 refine cF e2 ?_ ?_ <;> intro k9 h5 e2
 ·have i3 : v2_1 < a1.Zv.length := by (simp at h5; omega)
  have m4 := ml a1.Zv (k9 29 _ rfl)
  have c3 := sl 2314240 a1.Zv (an u0 (an u1 u2))
  have w2 := wr v2_1
  refine dIo mixed ?_
  simp [i3, ZA]
  repeat with_reducible refine sd ?_
  refine cRs (Uw a3.Method (nth a1.Zv v2_1) (sg (Z3 (ZL.jx u1)))) ?_
  refine cF e2 ?_ ?_ <;> intro k11 h6 e2
  ·exact ny2 w2 e2
  refine dIo mixed ?_
  simp [i3, ZA]
  repeat with_reducible refine sd ?_
  refine cRs (ON a0 a2 (nth a1.Zv v2_1) (sg u0) (sg u2) (sg (Z3 (ZL.jx u1)))) ?_
  refine cF e2 ?_ ?_ <;> intro k13 h7 e2
  ·refine cRs (Xl v2_0 (Ki a0 a2 (nth a1.Zv v2_1)).1) ?_
   exact ny2 w2 e2
  exact ny2 w2 e2
 have c4 := sl 2314240 a1.Zv (an u0 (an u1 u2))
 have f := ms f e2
 exact rt [.tmp 8] f
theorem LL (a0 : List ZD) (a1 : Zn) (u0 : Sm 2330624 a0) : Sd 180 [rL 3 ZD.row a0, a1.row] [rL 5 Zu.row (JZ a0 a1)] := by
 have f := me (JZ.eq_1 a0 a1)
 refine soD Tryz.func180 Tryz.ntmps180 ?_
 refine lp2 (Jx.eq_2 a0 a1) (fun v1_0 v1_1 => YP 44 [eL 0 3 a0 ZD.row, eX 3 (a1.row.map .d), (5, .one (.sref 5 0 0 v1_0.length), [.arr false 5 (v1_0.map Zu.row)]), eI 6 (↑v1_1 : Int)]) (fun n1 v1_0 v1_1 => a0.length < n1 + v1_1 ∧ v1_1 ≤ a0.length ∧ v1_0.length ≤ 0 + 1 * v1_1) (a0.length + 1) ([] : List Zu) 0 (fun p1 v1_0 v1_1 e1 j1 => ?_) (h0 := Yc [((5, 0), some (9, 0))] [] rfl (by simp))
 refine cFf e1 ?_ ?_ <;> intro k2 h1 e1
 ·have i1 := ix h1
  have m2 := ml a0 (k2 0 _ rfl)
  have c1 := sl 2330624 a0 u0
  have w1 := wr v1_1
  simp [i1, ZA]
  repeat with_reducible refine sd ?_
  refine cRs (Tc (nth a0 v1_1)) ?_
  refine cF e1 ?_ ?_ <;> intro k3 h2 e1
  ·exact nx2 e1 (hw := Yc [((5, 0), some (42, 0))] [] rfl (by simp [w1]))
  exact ny2 w1 e1
 have c2 := sl 2330624 a0 u0
 have f := ms f e1
 exact rtD [.tmp 4] f
theorem xY (a0 : List ZF) (a1 : Int) (a2 : Int) (u0 : Sm 2334720 a0) : Gr Tryz.prog 303 2 (a0.map ZF.row) [rI a1, rI a2] ((XG a0 a1 a2).map ZF.row) := by
 refine uP Tryz.func303 rfl (by kernel_rfl) (by simp [z3]) ?_
 simp [Tryz.ntmps303]
 refine cR (qY a1 a2) ?_
 simp
 refine cC (!(Xz a1 a2).2) (fun k1 h1 => ?_) (fun k1 h1 => ?_)
 ·have q1 := h1; try simp at q1
  simp
  refine nS (rv := [.tmp 6]) ((.sref 0 0 0 a0.length)) rfl ?_
  have f1 := XG.eq_1 a0 a1 a2; simp only [h1, Xf, Xg] at f1; simp [f1]
  all_goals ((rintro r (⟨a, _, rfl⟩ | rfl) x hx <;> simp at hx <;> rcases hx with rfl | rfl <;> rfl))
 ·have q1 := h1; try simp at q1
  have c1 : a0.length ≤ 2334720 := Yv (by simp (maxDischargeDepth := 12) [u0])
  simp
  repeat with_reducible refine sd ?_
  refine nS (rv := [.tmp 6]) ((.sref 21 0 0 (a0 ++ ([(Xz a1 a2).1] : List ZF)).length)) rfl ?_
  have f2 := XG.eq_1 a0 a1 a2; simp only [h1, Xf, Xg] at f2; simp [f2]
  all_goals ((rintro r (⟨a, _, rfl⟩ | rfl) x hx <;> simp at hx <;> rcases hx with rfl | rfl <;> rfl))
theorem VJ (a0 : List Zu) (a1 : Int) : Sa 304 [rL 5 Zu.row a0, rI a1] [rI (JE a0 a1)] := by
 have f := me (JE.eq_1 a0 a1)
 refine so Tryz.func304 Tryz.ntmps304 ?_
 refine lp3 (xj.eq_2 a0 a1) (fun v1_0 v1_1 v1_2 => YP 47 [eL 0 5 a0 Zu.row, eI 1 a1, eI 5 v1_0, eI 6 v1_1, eI 7 (↑v1_2 : Int)]) (fun n1 v1_0 v1_1 v1_2 => a0.length < n1 + v1_2 ∧ v1_2 ≤ a0.length) (a0.length + 1) (-1) (-1) 0 (fun p1 v1_0 v1_1 v1_2 e1 j1 => ?_)
 refine cFf e1 ?_ ?_ <;> intro k2 h1 e1
 ·have i1 := ix h1
  have m2 := ml a0 (k2 0 _ rfl)
  have w1 := wr v1_2
  simp [i1, ZA]
  repeat with_reducible refine sd ?_
  refine cFt e1 ?_ ?_ <;> intro k3 h2 e1
  ·exact ny3 w1 e1
  simp [i1, ZA]
  repeat with_reducible refine sd ?_
  refine cFo e1 ?_ ?_ <;> intro k4 h3 e1
  ·simp [i1, ZA]
   repeat with_reducible refine sd ?_
   refine cRs (Xl v1_0 (nth a0 v1_2).YW) ?_
   exact ny3 w1 e1
  simp [i1, ZA]
  repeat with_reducible refine sd ?_
  refine cRs (Xl v1_1 (nth a0 v1_2).Cg) ?_
  exact ny3 w1 e1
 have f := ms f e1
 refine cF f ?_ ?_ <;> intro k5 h4 f
 ·exact rt [.tmp 4] f
 refine cRs (Xl v1_0 (W (v1_1 + 1))) ?_
 exact rt [.tmp 4] f
theorem wz (a0 : List ZF) (a1 : ZF) (u0 : Sm 2338816 a0) : Sd 337 [rL 2 ZF.row a0, a1.row] [rL 2 ZF.row (SY a0 a1)] := by
 have f := me (SY.eq_1 a0 a1)
 refine soD Tryz.func337 Tryz.ntmps337 ?_
 refine lp4 (jG.eq_2 a0) (fun v1_0 v1_1 v1_2 v1_3 => YP 78 [eL 0 2 a0 ZF.row, (3, .one (.bptr 3 0), [.box [.d (.int .i64 v1_2), .d (.int .i64 v1_3)]]), (5, .one (.sref 5 0 0 v1_0.length), [.arr false 2 (v1_0.map ZF.row)]), eI 6 (↑v1_1 : Int)]) (fun n1 v1_0 v1_1 v1_2 v1_3 => a0.length < n1 + v1_1 ∧ v1_1 ≤ a0.length ∧ v1_0.length ≤ 0 + 1 * v1_1) (a0.length + 1) ([] : List ZF) 0 a1.YN a1.To (fun p1 v1_0 v1_1 v1_2 v1_3 e1 j1 => ?_) (h0 := Yc [((5, 0), some (9, 0))] [] rfl (by simp))
 refine cFf e1 ?_ ?_ <;> intro k2 h1 e1
 ·have i1 := ix h1
  have m2 := ml a0 (k2 0 _ rfl)
  have c1 := sl 2338816 a0 u0
  have w1 := wr v1_1
  simp [i1, ZA]
  repeat with_reducible refine sd ?_
  refine cF e1 ?_ ?_ <;> intro k3 h2 e1
  ·exact nx4 e1 (hw := Yc [((5, 0), some (37, 0))] [] rfl (by simp [w1]))
  refine cRs (SK v1_2 (nth a0 v1_1).YN) ?_
  refine cRs (Xl v1_3 (nth a0 v1_1).To) ?_
  exact ny4 w1 e1
 have c2 := sl 2338816 a0 u0
 have f := ms f e1
 refine lp1 (SH.eq_2 v1_0 v1_2) (fun v2_0 => YP 78 [(3, .one (.bptr 3 0), [.box [.d (.int .i64 v1_2), .d (.int .i64 v1_3)]]), (5, .one (.sref 5 0 0 v1_0.length), [.arr false 2 (v1_0.map ZF.row)]), eI 8 (↑v2_0 : Int)]) (fun n2 v2_0 => v1_0.length < n2 + v2_0 ∧ v2_0 ≤ v1_0.length) (v1_0.length + 1) 0 (fun p2 v2_0 e2 j2 => ?_)
 refine dIs mixed ?_
 refine gIf ?_ ?_ <;> intro G
 ·have i2 := ik v2_0 v1_0
  simp [i2, ZA, G]
  repeat with_reducible refine sdg ?_
  refine cK e2 ?_ ?_ <;> intro k6 h3 e2
  ·try (simp [G] at h3; done)
   all_goals
    have i3 : v2_0 < v1_0.length := by (simp at h3; omega)
    have m4 := ml v1_0 (k6 5 _ rfl)
    have w2 := wr v2_0
    exact ny1 (an w2 G) e2
  ·try (simp [G] at h3; done)
   all_goals
    have f := ms f e2
    refine dIg mixed ?_
    refine rb (rv := [.tmp 4]) rfl ?_
    simp [f.h, G]
    all_goals ((rintro r (hr | rfl | hr) x hx <;> (first | (simp at hx; rcases hx with rfl | rfl <;> rfl) | ((first | (replace hr := List.mem_of_mem_take hr) | (replace hr := List.mem_of_mem_drop hr)); simp at hr; obtain ⟨a, _, rfl⟩ := hr; simp at hx; rcases hx with rfl | rfl <;> rfl))))
 ·refine cK e2 ?_ ?_ <;> intro k8 h4 e2
  ·try (simp [G] at h4; done)
   all_goals
    have i5 : v2_0 < v1_0.length := by (simp at h4; omega)
    have m6 := ml v1_0 (k8 5 _ rfl)
    have w3 := wr v2_0
    exact ny1 (an w3 G) e2
  ·try (simp [G] at h4; done)
   all_goals
    have f := ms f e2
    refine dIg mixed ?_
    refine rb (rv := [.tmp 4]) rfl ?_
    simp [f.h, G]
    all_goals ((rintro r (hr | rfl | hr) x hx <;> (first | (simp at hx; rcases hx with rfl | rfl <;> rfl) | ((first | (replace hr := List.mem_of_mem_take hr) | (replace hr := List.mem_of_mem_drop hr)); simp at hr; obtain ⟨a, _, rfl⟩ := hr; simp at hx; rcases hx with rfl | rfl <;> rfl))))
theorem yb (a0 : List ZF) (u0 : Sm 2330624 a0) : Sd 301 [rL 2 ZF.row a0] [rL 2 ZF.row (Xx a0)] := by
 have f := me (Xx.eq_1 a0)
 refine soD Tryz.func301 Tryz.ntmps301 ?_
 refine lp2 (yV.eq_2 a0) (fun v1_0 v1_1 => YP 24 [eL 0 2 a0 ZF.row, (3, .one (.sref 3 0 0 v1_0.length), [.arr false 2 (v1_0.map ZF.row)]), eI 4 (↑v1_1 : Int)]) (fun n1 v1_0 v1_1 => a0.length < n1 + v1_1 ∧ v1_1 ≤ a0.length ∧ v1_0.length ≤ v1_1) (a0.length + 1) ([] : List ZF) 0 (fun p1 v1_0 v1_1 e1 j1 => ?_) (h0 := Yc [((3, 0), some (5, 0))] [] rfl (by simp))
 try dsimp only at j1
 refine cFf e1 ?_ ?_ <;> intro k2 h1 e1
 ·have i1 := ix h1
  have m2 := ml a0 (k2 0 _ rfl)
  have c1 := sl 2330624 a0 u0
  have w1 := wr v1_1
  simp [i1, ZA]
  repeat with_reducible refine sd ?_
  refine cRs (Xh (nth a0 v1_1)) ?_
  refine cFf e1 ?_ ?_ <;> intro k3 h2 e1
  ·simp [i1, ZA]
   repeat with_reducible refine sd ?_
   refine cDs [false] (wz v1_0 (nth a0 v1_1) (by exact ⟨by have z := Yv u0; omega, fun _ _ => trivial⟩)) ?_
   exact nx2 e1 (hI := by first | omega | (have z := Pb v1_0 (nth a0 v1_1); (try dsimp only); omega)) (hw := Yc [((3, 0), some (22, 0))] [] rfl (by simp [w1]))
  exact ny2 w1 e1 (hI := by first | omega | (have z := Pb v1_0 (nth a0 v1_1); (try dsimp only); omega))
 have c2 := sl 2330624 a0 u0
 have f := ms f e1
 exact rtD [.tmp 2] f
theorem EH (a0 : Zn) (a1 : List Zu) (u0 : Sm 2326528 a1) : Sd 250 [a0.row, rL 5 Zu.row a1] [rL 2 ZF.row (xF a0 a1)] := by
 have f := me (xF.eq_1 a0 a1)
 refine soD Tryz.func250 Tryz.ntmps250 ?_
 refine cF f ?_ ?_ <;> intro k1 h1 f
 ·refine FA (c := (.sref 6 0 0 0)) (L := [(6, 0)]) rfl rfl rfl rfl rfl rfl rfl (xY ([] : List ZF) 0 (W (a0.YN - 1)) (by (first | (exact ⟨Nat.zero_le _, fun _ _ => trivial⟩) | (refine ZM (n := 2326528) ?_; exact ⟨Nat.zero_le _, fun _ _ => trivial⟩) | (refine ZM (n := 2326528) (ZM (n := 2326528 - 1) ?_); exact ⟨Nat.zero_le _, fun _ _ => trivial⟩) | (refine Zi (n := 3) (by decide) (ZM (ZM (ZM (n := 0) ?_))); exact ⟨Nat.zero_le _, fun _ _ => trivial⟩) | (refine Zi (n := 2) (by decide) (ZM (ZM (n := 0) ?_)); exact ⟨Nat.zero_le _, fun _ _ => trivial⟩) | (refine Zi (n := 1) (by decide) (ZM (n := 0) ?_); exact ⟨Nat.zero_le _, fun _ _ => trivial⟩)))) (by simp) (by simp) (by simp) (by simp) (by simp) (by simp) (by simp) (by simp [z3]) (by simp) ?_
  simp
  refine cF f ?_ ?_ <;> intro k2 h2 f
  ·refine FA (c := (.sref 14 0 0 (XG ([] : List ZF) 0 (W (a0.YN - 1))).length)) (L := [(14, 0)]) rfl rfl rfl rfl rfl rfl rfl (xY (XG ([] : List ZF) 0 (W (a0.YN - 1))) (W (a0.To + 1)) 10000 (by (first | (exact ⟨Nat.zero_le _, fun _ _ => trivial⟩) | (refine ZM (n := 2326528) ?_; exact ⟨Nat.zero_le _, fun _ _ => trivial⟩) | (refine ZM (n := 2326528) (ZM (n := 2326528 - 1) ?_); exact ⟨Nat.zero_le _, fun _ _ => trivial⟩) | (refine Zi (n := 3) (by decide) (ZM (ZM (ZM (n := 0) ?_))); exact ⟨Nat.zero_le _, fun _ _ => trivial⟩) | (refine Zi (n := 2) (by decide) (ZM (ZM (n := 0) ?_)); exact ⟨Nat.zero_le _, fun _ _ => trivial⟩) | (refine Zi (n := 1) (by decide) (ZM (n := 0) ?_); exact ⟨Nat.zero_le _, fun _ _ => trivial⟩)))) (by simp) (by simp) (by simp) (by simp) (by simp) (by simp) (by simp) (by simp [z3]) (by simp) ?_
   simp
   refine cRs (VJ a1 a0.YA) ?_
   refine FA (c := (.sref 22 0 0 (XG (XG ([] : List ZF) 0 (W (a0.YN - 1))) (W (a0.To + 1)) 10000).length)) (L := [(22, 0)]) rfl rfl rfl rfl rfl rfl rfl (xY (XG (XG ([] : List ZF) 0 (W (a0.YN - 1))) (W (a0.To + 1)) 10000) (JE a1 a0.YA) 10000 (by (first | (exact ⟨Nat.zero_le _, fun _ _ => trivial⟩) | (refine ZM (n := 2326528) ?_; exact ⟨Nat.zero_le _, fun _ _ => trivial⟩) | (refine ZM (n := 2326528) (ZM (n := 2326528 - 1) ?_); exact ⟨Nat.zero_le _, fun _ _ => trivial⟩) | (refine Zi (n := 3) (by decide) (ZM (ZM (ZM (n := 0) ?_))); exact ⟨Nat.zero_le _, fun _ _ => trivial⟩) | (refine Zi (n := 2) (by decide) (ZM (ZM (n := 0) ?_)); exact ⟨Nat.zero_le _, fun _ _ => trivial⟩) | (refine Zi (n := 1) (by decide) (ZM (n := 0) ?_); exact ⟨Nat.zero_le _, fun _ _ => trivial⟩)))) (by simp) (by simp) (by simp) (by simp) (by simp) (by simp) (by simp) (by simp [z3]) (by simp) ?_
   simp
   refine cDs [false] (yb (XG (XG (XG ([] : List ZF) 0 (W (a0.YN - 1))) (W (a0.To + 1)) 10000) (JE a1 a0.YA) 10000) (by (first | (exact ⟨Nat.zero_le _, fun _ _ => trivial⟩) | (refine ZM (n := 2326528) ?_; exact ⟨Nat.zero_le _, fun _ _ => trivial⟩) | (refine ZM (n := 2326528) (ZM (n := 2326528 - 1) ?_); exact ⟨Nat.zero_le _, fun _ _ => trivial⟩) | (refine Zi (n := 3) (by decide) (ZM (ZM (ZM (n := 0) ?_))); exact ⟨Nat.zero_le _, fun _ _ => trivial⟩) | (refine Zi (n := 2) (by decide) (ZM (ZM (n := 0) ?_)); exact ⟨Nat.zero_le _, fun _ _ => trivial⟩) | (refine Zi (n := 1) (by decide) (ZM (n := 0) ?_); exact ⟨Nat.zero_le _, fun _ _ => trivial⟩)))) ?_
   exact rtD [.tmp 4] f
  refine cRs (VJ a1 a0.YA) ?_
  refine FA (c := (.sref 14 0 0 (XG ([] : List ZF) 0 (W (a0.YN - 1))).length)) (L := [(14, 0)]) rfl rfl rfl rfl rfl rfl rfl (xY (XG ([] : List ZF) 0 (W (a0.YN - 1))) (JE a1 a0.YA) 10000 (by (first | (exact ⟨Nat.zero_le _, fun _ _ => trivial⟩) | (refine ZM (n := 2326528) ?_; exact ⟨Nat.zero_le _, fun _ _ => trivial⟩) | (refine ZM (n := 2326528) (ZM (n := 2326528 - 1) ?_); exact ⟨Nat.zero_le _, fun _ _ => trivial⟩) | (refine Zi (n := 3) (by decide) (ZM (ZM (ZM (n := 0) ?_))); exact ⟨Nat.zero_le _, fun _ _ => trivial⟩) | (refine Zi (n := 2) (by decide) (ZM (ZM (n := 0) ?_)); exact ⟨Nat.zero_le _, fun _ _ => trivial⟩) | (refine Zi (n := 1) (by decide) (ZM (n := 0) ?_); exact ⟨Nat.zero_le _, fun _ _ => trivial⟩)))) (by simp) (by simp) (by simp) (by simp) (by simp) (by simp) (by simp) (by simp [z3]) (by simp) ?_
  simp
  refine cDs [false] (yb (XG (XG ([] : List ZF) 0 (W (a0.YN - 1))) (JE a1 a0.YA) 10000) (by (first | (exact ⟨Nat.zero_le _, fun _ _ => trivial⟩) | (refine ZM (n := 2326528) ?_; exact ⟨Nat.zero_le _, fun _ _ => trivial⟩) | (refine ZM (n := 2326528) (ZM (n := 2326528 - 1) ?_); exact ⟨Nat.zero_le _, fun _ _ => trivial⟩) | (refine Zi (n := 3) (by decide) (ZM (ZM (ZM (n := 0) ?_))); exact ⟨Nat.zero_le _, fun _ _ => trivial⟩) | (refine Zi (n := 2) (by decide) (ZM (ZM (n := 0) ?_)); exact ⟨Nat.zero_le _, fun _ _ => trivial⟩) | (refine Zi (n := 1) (by decide) (ZM (n := 0) ?_); exact ⟨Nat.zero_le _, fun _ _ => trivial⟩)))) ?_
  exact rtD [.tmp 4] f
 refine cF f ?_ ?_ <;> intro k3 h3 f
 ·refine FA (c := (.sref 6 0 0 0)) (L := [(6, 0)]) rfl rfl rfl rfl rfl rfl rfl (xY ([] : List ZF) (W (a0.To + 1)) 10000 (by (first | (exact ⟨Nat.zero_le _, fun _ _ => trivial⟩) | (refine ZM (n := 2326528) ?_; exact ⟨Nat.zero_le _, fun _ _ => trivial⟩) | (refine ZM (n := 2326528) (ZM (n := 2326528 - 1) ?_); exact ⟨Nat.zero_le _, fun _ _ => trivial⟩) | (refine Zi (n := 3) (by decide) (ZM (ZM (ZM (n := 0) ?_))); exact ⟨Nat.zero_le _, fun _ _ => trivial⟩) | (refine Zi (n := 2) (by decide) (ZM (ZM (n := 0) ?_)); exact ⟨Nat.zero_le _, fun _ _ => trivial⟩) | (refine Zi (n := 1) (by decide) (ZM (n := 0) ?_); exact ⟨Nat.zero_le _, fun _ _ => trivial⟩)))) (by simp) (by simp) (by simp) (by simp) (by simp) (by simp) (by simp) (by simp [z3]) (by simp) ?_
  simp
  refine cRs (VJ a1 a0.YA) ?_
  refine FA (c := (.sref 22 0 0 (XG ([] : List ZF) (W (a0.To + 1)) 10000).length)) (L := [(22, 0)]) rfl rfl rfl rfl rfl rfl rfl (xY (XG ([] : List ZF) (W (a0.To + 1)) 10000) (JE a1 a0.YA) 10000 (by (first | (exact ⟨Nat.zero_le _, fun _ _ => trivial⟩) | (refine ZM (n := 2326528) ?_; exact ⟨Nat.zero_le _, fun _ _ => trivial⟩) | (refine ZM (n := 2326528) (ZM (n := 2326528 - 1) ?_); exact ⟨Nat.zero_le _, fun _ _ => trivial⟩) | (refine Zi (n := 3) (by decide) (ZM (ZM (ZM (n := 0) ?_))); exact ⟨Nat.zero_le _, fun _ _ => trivial⟩) | (refine Zi (n := 2) (by decide) (ZM (ZM (n := 0) ?_)); exact ⟨Nat.zero_le _, fun _ _ => trivial⟩) | (refine Zi (n := 1) (by decide) (ZM (n := 0) ?_); exact ⟨Nat.zero_le _, fun _ _ => trivial⟩)))) (by simp) (by simp) (by simp) (by simp) (by simp) (by simp) (by simp) (by simp [z3]) (by simp) ?_
  simp
  refine cDs [false] (yb (XG (XG ([] : List ZF) (W (a0.To + 1)) 10000) (JE a1 a0.YA) 10000) (by (first | (exact ⟨Nat.zero_le _, fun _ _ => trivial⟩) | (refine ZM (n := 2326528) ?_; exact ⟨Nat.zero_le _, fun _ _ => trivial⟩) | (refine ZM (n := 2326528) (ZM (n := 2326528 - 1) ?_); exact ⟨Nat.zero_le _, fun _ _ => trivial⟩) | (refine Zi (n := 3) (by decide) (ZM (ZM (ZM (n := 0) ?_))); exact ⟨Nat.zero_le _, fun _ _ => trivial⟩) | (refine Zi (n := 2) (by decide) (ZM (ZM (n := 0) ?_)); exact ⟨Nat.zero_le _, fun _ _ => trivial⟩) | (refine Zi (n := 1) (by decide) (ZM (n := 0) ?_); exact ⟨Nat.zero_le _, fun _ _ => trivial⟩)))) ?_
  exact rtD [.tmp 4] f
 refine cRs (VJ a1 a0.YA) ?_
 refine FA (c := (.sref 6 0 0 0)) (L := [(6, 0)]) rfl rfl rfl rfl rfl rfl rfl (xY ([] : List ZF) (JE a1 a0.YA) 10000 (by (first | (exact ⟨Nat.zero_le _, fun _ _ => trivial⟩) | (refine ZM (n := 2326528) ?_; exact ⟨Nat.zero_le _, fun _ _ => trivial⟩) | (refine ZM (n := 2326528) (ZM (n := 2326528 - 1) ?_); exact ⟨Nat.zero_le _, fun _ _ => trivial⟩) | (refine Zi (n := 3) (by decide) (ZM (ZM (ZM (n := 0) ?_))); exact ⟨Nat.zero_le _, fun _ _ => trivial⟩) | (refine Zi (n := 2) (by decide) (ZM (ZM (n := 0) ?_)); exact ⟨Nat.zero_le _, fun _ _ => trivial⟩) | (refine Zi (n := 1) (by decide) (ZM (n := 0) ?_); exact ⟨Nat.zero_le _, fun _ _ => trivial⟩)))) (by simp) (by simp) (by simp) (by simp) (by simp) (by simp) (by simp) (by simp [z3]) (by simp) ?_
 simp
 refine cDs [false] (yb (XG ([] : List ZF) (JE a1 a0.YA) 10000) (by (first | (exact ⟨Nat.zero_le _, fun _ _ => trivial⟩) | (refine ZM (n := 2326528) ?_; exact ⟨Nat.zero_le _, fun _ _ => trivial⟩) | (refine ZM (n := 2326528) (ZM (n := 2326528 - 1) ?_); exact ⟨Nat.zero_le _, fun _ _ => trivial⟩) | (refine Zi (n := 3) (by decide) (ZM (ZM (ZM (n := 0) ?_))); exact ⟨Nat.zero_le _, fun _ _ => trivial⟩) | (refine Zi (n := 2) (by decide) (ZM (ZM (n := 0) ?_)); exact ⟨Nat.zero_le _, fun _ _ => trivial⟩) | (refine Zi (n := 1) (by decide) (ZM (n := 0) ?_); exact ⟨Nat.zero_le _, fun _ _ => trivial⟩)))) ?_
 exact rtD [.tmp 4] f
theorem Fb (a0 : ZF) (a1 : ZF) : Sa 302 [a0.row, a1.row] [rB (V3 a0 a1)] := by
 have f := me (V3.eq_1 a0 a1)
 refine so Tryz.func302 Tryz.ntmps302 ?_
 refine cRs (Xh a0) ?_
 refine cGs (fun gg => (Xh a1)) ?_
 exact rt [.tmp 4] f
theorem Wv (a0 : List ZF) (a1 : ZF) (u0 : Sm 2326528 a0) : Sa 249 [rL 2 ZF.row a0, a1.row] [rB (ya a0 a1)] := by
 have f := me (ya.eq_1 a0 a1)
 refine so Tryz.func249 Tryz.ntmps249 ?_
 refine cRs (Ym.rd (yb a0 (sg u0))) ?_
 refine lp1 (xO.eq_2 a0 a1) (fun v1_0 => YP 21 [eX 3 (a1.row.map .d), eL 5 2 (Xx a0) ZF.row, eI 6 (↑v1_0 : Int)]) (fun n1 v1_0 => (Xx a0).length < n1 + v1_0 ∧ v1_0 ≤ (Xx a0).length) ((Xx a0).length + 1) 0 (fun p1 v1_0 e1 j1 => ?_)
 refine cF e1 ?_ ?_ <;> intro k2 h1 e1
 ·have i1 := ix h1
  have m2 := ml (Xx a0) (k2 5 _ rfl)
  have w1 := wr v1_0
  refine dIo mixed ?_
  simp [i1, ZA]
  repeat with_reducible refine sd ?_
  refine cRs (Fb a1 (nth (Xx a0) v1_0)) ?_
  refine cF e1 ?_ ?_ <;> intro k4 h2 e1
  ·have f := ms f e1
   exact rt [.tmp 4] f
  exact ny1 w1 e1
 have f := ms f e1
 exact rt [.tmp 4] f
theorem EL (a0 : Zn) (a1 : List Zu) (a2 : ZF) (u0 : Sm 2322432 a1) : Sa 181 [a0.row, rL 5 Zu.row a1, a2.row] [rB (V7 a0 a1 a2)] := by
 have f := me (V7.eq_1 a0 a1 a2)
 refine so Tryz.func181 Tryz.ntmps181 ?_
 refine dIs mixed ?_
 refine cRs (Ym.rd (EH a0 a1 (sg u0))) ?_
 refine cRs (Wv (xF a0 a1) a2 (by exact El (by decide))) ?_
 exact rt [.tmp 6] f
theorem Hj (a0 : List Zu) (a1 : Int) : Sa 305 [rL 5 Zu.row a0, rI a1] [rI (zK a0 a1)] := by
 have f := me (zK.eq_1 a0 a1)
 refine so Tryz.func305 Tryz.ntmps305 ?_
 refine lp3 (KU.eq_2 a0 a1) (fun v1_0 v1_1 v1_2 => YP 55 [eL 0 5 a0 Zu.row, eI 1 a1, eI 5 v1_0, eI 6 v1_1, eI 7 (↑v1_2 : Int)]) (fun n1 v1_0 v1_1 v1_2 => a0.length < n1 + v1_2 ∧ v1_2 ≤ a0.length) (a0.length + 1) (-1) (-1) 0 (fun p1 v1_0 v1_1 v1_2 e1 j1 => ?_)
 refine cFf e1 ?_ ?_ <;> intro k2 h1 e1
 ·have i1 := ix h1
  have m2 := ml a0 (k2 0 _ rfl)
  have w1 := wr v1_2
  simp [i1, ZA]
  repeat with_reducible refine sd ?_
  refine cFt e1 ?_ ?_ <;> intro k3 h2 e1
  ·exact ny3 w1 e1
  simp [i1, ZA]
  repeat with_reducible refine sd ?_
  refine cFf e1 ?_ ?_ <;> intro k4 h3 e1
  ·simp [i1, ZA]
   repeat with_reducible refine sd ?_
   refine cRs (Xl v1_1 (nth a0 v1_2).Cg) ?_
   exact ny3 w1 e1
  refine gIf ?_ ?_ <;> intro G
  ·simp [i1, ZA, G]
   repeat with_reducible refine sdg ?_
   refine cKf e1 ?_ ?_ <;> intro k5 h4 e1
   ·try (simp [G] at h4; done)
    all_goals
     simp [i1, ZA, G]
     repeat with_reducible refine sdg ?_
     exact ny3 (an w1 G) e1
   ·try (simp [G] at h4; done)
    all_goals
     exact ny3 (an w1 G) e1
  ·refine cKf e1 ?_ ?_ <;> intro k6 h5 e1
   ·try (simp [G] at h5; done)
    all_goals
     simp [i1, ZA, G]
     repeat with_reducible refine sdg ?_
     exact ny3 (an w1 G) e1
   ·try (simp [G] at h5; done)
    all_goals
     exact ny3 (an w1 G) e1
 have f := ms f e1
 refine cF f ?_ ?_ <;> intro k7 h6 f
 ·exact rt [.tmp 4] f
 exact rt [.tmp 4] f
theorem FW (a0 : ZF) (a1 : ZF) : Sa 338 [a0.row, a1.row] [(zB a0 a1).1.row, rB (zB a0 a1).2] := by
 have f := me (zB.eq_1 a0 a1)
 refine so Tryz.func338 Tryz.ntmps338 ?_
 refine cRs (Xh a0) ?_
 refine cGs (fun gg => (Xh a1)) ?_
 refine cF f ?_ ?_ <;> intro k1 h1 f
 ·exact rt [.cell 4 77, .tmp 5] f
 refine dIs mixed ?_
 refine cRs (Xl a0.YN a1.YN) ?_
 refine cRs (SK a0.To a1.To) ?_
 refine cRs (qY (y5 a0.YN a1.YN) (Vq a0.To a1.To)) ?_
 exact rt [.cell 4 77, .tmp 5] f
theorem N1 {a b : Prop} (h : b) (k : a := by (intros; first | omega | with_unfolding_all (first | (first | omega | (simp at *; omega))) | ((try simp only [Kb, show ∀ x, IntKind.i64.wrap x = W x from fun _ => rfl] at *); omega))) : a ∧ b := ⟨k, h⟩
theorem Du (a0 : List ZF) (a1 : List ZF) (u0 : Sm 2326528 a0) (u1 : Sm 2326528 a1) (u2 : a0.length ≤ 1 ∧ a1.length ≤ 1) : Sd 307 [rL 2 ZF.row a0, rL 2 ZF.row a1] [rL 2 ZF.row (VY a0 a1)] := by
 have f := me (VY.eq_1 a0 a1)
 refine soD Tryz.func307 Tryz.ntmps307 ?_
 refine lp2 (Wj.eq_2 a0 a1) (fun v1_0 v1_1 => YP 42 [eL 0 2 a0 ZF.row, eL 1 2 a1 ZF.row, (5, .one (.sref 5 0 0 v1_0.length), [.arr false 2 (v1_0.map ZF.row)]), eI 6 (↑v1_1 : Int)]) (fun n1 v1_0 v1_1 => a0.length < n1 + v1_1 ∧ v1_1 ≤ a0.length ∧ v1_0.length ≤ v1_1) (a0.length + 1) ([] : List ZF) 0 (fun p1 v1_0 v1_1 e1 j1 => ?_) (h0 := Yc [((5, 0), some (10, 0))] [] rfl (by simp))
 try dsimp only at j1
 refine cF e1 ?_ ?_ <;> intro k2 h1 e1
 ·have i1 := ix h1
  have m2 := ml a0 (k2 0 _ rfl)
  have c1 := sl 2326528 a0 (an u0 (an u1 u2))
  have w1 := wr v1_1
  refine lp2 (jX.eq_2 a0 a1 v1_1) (fun v2_0 v2_1 => YP 42 [eL 0 2 a0 ZF.row, eL 1 2 a1 ZF.row, (5, .one (.sref 5 0 0 v2_0.length), [.arr false 2 (v2_0.map ZF.row)]), eI 6 (↑v1_1 : Int), eI 7 (↑v2_1 : Int)]) (fun n2 v2_0 v2_1 => a1.length < n2 + v2_1 ∧ v2_1 ≤ a1.length ∧ v2_0.length ≤ v1_1 + v2_1) (a1.length + 1) v1_0 0 (fun p2 v2_0 v2_1 e2 j2 => ?_)
  try dsimp only at j2
  refine cF e2 ?_ ?_ <;> intro k4 h2 e2
  ·have i2 := ix h2
   have m4 := ml a1 (k4 1 _ rfl)
   have c2 := sl 2326528 a1 (an u0 (an u1 u2))
   have w2 := wr v2_1
   refine dIo mixed ?_
   simp [i1, ZA, i2]
   repeat with_reducible refine N1 ?_
   refine cRs (FW (nth a0 v1_1) (nth a1 v2_1)) ?_
   refine cFf e2 ?_ ?_ <;> intro k6 h3 e2
   ·simp
    repeat with_reducible refine N1 ?_
    exact nx2 e2 (hI := by first | omega | (simp at *; omega)) (hw := Yc [((5, 0), some (39, 0))] [] rfl (by simp [w1, w2]))
   exact ny2 (an w1 w2) e2 (hI := by first | omega | (simp at *; omega))
  have c3 := sl 2326528 a1 (an u0 (an u1 u2))
  have e1 := ms e1 e2
  exact ny2 w1 e1
 have c4 := sl 2326528 a0 (an u0 (an u1 u2))
 have f := ms f e1
 refine cDs [false] (yb v1_0 (by exact ⟨by omega, fun _ _ => trivial⟩)) ?_
 exact rtD [.tmp 4] f
theorem G9 (a0 : Zn) (a1 : List Zu) (u0 : Sm 2322432 a1) : Sd 251 [a0.row, rL 5 Zu.row a1] [rL 2 ZF.row (yO a0 a1)] := by
 have f := me (yO.eq_1 a0 a1)
 refine soD Tryz.func251 Tryz.ntmps251 ?_
 refine cRs (Hj a1 a0.YA) ?_
 refine cRs (qY 0 (zK a1 a0.YA)) ?_
 refine cF f ?_ ?_ <;> intro k1 h1 f
 ·exact rtD [.tmp 4] f
 refine dIs mixed ?_
 refine cRs (OH a0) ?_
 refine cDs [false] (Du ([(xZ a0)] : List ZF) ([(Xz 0 (zK a1 a0.YA)).1] : List ZF) (by simp (maxDischargeDepth := 12) [KY, X6, Zi (m := 2326528) (by decide) u0]; try omega) (by simp (maxDischargeDepth := 12) [KY, X6, Zi (m := 2326528) (by decide) u0]; try omega) (by exact ⟨Nat.le_refl _, Nat.le_refl _⟩)) ?_
 exact rtD [.tmp 4] f
theorem L0 (a0 : Zn) (a1 : List Zu) (a2 : ZF) (u0 : Sm 2318336 a1) : Sa 182 [a0.row, rL 5 Zu.row a1, a2.row] [rB (kI a0 a1 a2)] := by
 have f := me (kI.eq_1 a0 a1 a2)
 refine so Tryz.func182 Tryz.ntmps182 ?_
 refine dIs mixed ?_
 refine cRs (Ym.rd (G9 a0 a1 (sg u0))) ?_
 refine cRs (Wv (yO a0 a1) a2 (by exact GF (by decide))) ?_
 exact rt [.tmp 6] f
theorem Ly (a0 : List ZD) (u0 : Sm 2330624 a0) : Sd 184 [rL 3 ZD.row a0] [rL 6 Zy.row (yp a0)] := by
 have f := me (yp.eq_1 a0)
 refine soD Tryz.func184 Tryz.ntmps184 ?_
 refine lp2 (Kk.eq_2 a0) (fun v1_0 v1_1 => YP 28 [eL 0 3 a0 ZD.row, (3, .one (.sref 3 0 0 v1_0.length), [.arr false 6 (v1_0.map Zy.row)]), eI 4 (↑v1_1 : Int)]) (fun n1 v1_0 v1_1 => a0.length < n1 + v1_1 ∧ v1_1 ≤ a0.length ∧ v1_0.length ≤ 0 + 1 * v1_1) (a0.length + 1) ([] : List Zy) 0 (fun p1 v1_0 v1_1 e1 j1 => ?_) (h0 := Yc [((3, 0), some (7, 0))] [] rfl (by simp))
 refine cFf e1 ?_ ?_ <;> intro k2 h1 e1
 ·have i1 := ix h1
  have m2 := ml a0 (k2 0 _ rfl)
  have c1 := sl 2330624 a0 u0
  have w1 := wr v1_1
  simp [i1, ZA]
  repeat with_reducible refine sd ?_
  refine cRs (Uq (nth a0 v1_1)) ?_
  refine cF e1 ?_ ?_ <;> intro k3 h2 e1
  ·exact nx2 e1 (hw := Yc [((3, 0), some (26, 0))] [] rfl (by simp [w1]))
  exact ny2 w1 e1
 have c2 := sl 2330624 a0 u0
 have f := ms f e1
 exact rtD [.tmp 2] f
theorem Ge (a0 : Zy) : Sa 339 [a0.row] [rB (WV a0)] := by
 have f := me (WV.eq_1 a0)
 refine so Tryz.func339 Tryz.ntmps339 ?_
 refine cRs (Yf a0.Org 1 99) ?_
 refine cGs (fun gg => (Yf a0.V4 0 99)) ?_
 refine cGs (fun gg => (Yf a0.Key 1 99)) ?_
 refine cGs (fun gg => (Xh (ZF.mk a0.YN a0.To))) ?_
 exact rt [.tmp 2] f
theorem M9 (a0 : Zy) : Sd 340 [a0.row] [rL 1 iR (JV a0)] := by
 have f := me (JV.eq_1 a0)
 refine soD Tryz.func340 Tryz.ntmps340 ?_
 exact rtD [.tmp 2] f
theorem Up (a0 : List Zs) (a1 : Zy) (u0 : Sm 2318336 a0) : Sa 308 [rL 5 Zs.row a0, a1.row] [rB (xJ a0 a1)] := by
 have f := me (xJ.eq_1 a0 a1)
 refine so Tryz.func308 Tryz.ntmps308 ?_
 refine dIs mixed ?_
 refine cRs (Ge a1) ?_
 refine cGs (fun gg => (N6 a0 a1.Key)) ?_
 refine cGs (fun gg => Ym.rd (M9 a1)) ?_
 refine cGs (fun gg => (jf a0 a1.Key (JV a1) a1.Mark (sg u0) (by simp (maxDischargeDepth := 12) [LD, Zi (m := 2322432) (by decide) u0]; try omega))) ?_
 exact rt [.tmp 4] f
theorem Ng (a0 : List Zs) (a1 : List Zy) (a2 : Int) (a3 : Int) (u0 : Sm 2314240 a0) (u1 : Sm 2314240 a1) : Sd 253 [rL 5 Zs.row a0, rL 6 Zy.row a1, rI a2, rI a3] [rL 2 ZF.row (Kf a0 a1 a2 a3)] := by
 have f := me (Kf.eq_1 a0 a1 a2 a3)
 refine soD Tryz.func253 Tryz.ntmps253 ?_
 refine lp2 (JP.eq_2 a0 a1 a2 a3) (fun v1_0 v1_1 => YP 58 [eL 0 5 a0 Zs.row, eL 1 6 a1 Zy.row, eI 2 a2, eI 3 a3, (9, .one (.sref 9 0 0 v1_0.length), [.arr false 2 (v1_0.map ZF.row)]), eI 10 (↑v1_1 : Int)]) (fun n1 v1_0 v1_1 => a1.length < n1 + v1_1 ∧ v1_1 ≤ a1.length ∧ v1_0.length ≤ 0 + 1 * v1_1) (a1.length + 1) ([] : List ZF) 0 (fun p1 v1_0 v1_1 e1 j1 => ?_) (h0 := Yc [((9, 0), some (11, 0))] [] rfl (by simp))
 refine cFf e1 ?_ ?_ <;> intro k2 h1 e1
 ·have i1 := ix h1
  have m2 := ml a1 (k2 1 _ rfl)
  have c1 := sl 2314240 a1 (an u0 u1)
  have w1 := wr v1_1
  simp [i1, ZA]
  repeat with_reducible refine sd ?_
  refine gIf ?_ ?_ <;> intro G
  ·simp [i1, ZA, G]
   repeat with_reducible refine sdg ?_
   refine gJf G ?_ ?_ <;> intro G
   ·try (simp at G; done)
    all_goals
     simp [i1, ZA, G]
     repeat with_reducible refine sdg ?_
     refine cGg (fun gg => (Up a0 (nth a1 v1_1) (sg u0))) ?_
     refine cK e1 ?_ ?_ <;> intro k3 h2 e1
     ·try (simp [G] at h2; done)
      all_goals
       refine dIo mixed ?_
       simp [i1, ZA, G]
       repeat with_reducible refine sdg ?_
       exact nx2 e1 (hw := Yc [((9, 0), some (55, 0))] [] rfl (by simp [w1, G]))
     ·try (simp [G] at h2; done)
      all_goals
       exact ny2 (an w1 G) e1
   ·try (simp at G; done)
    all_goals
     refine sGo ?_
     simp [G]
     repeat with_reducible refine sdg ?_
     refine cK e1 ?_ ?_ <;> intro k5 h3 e1
     ·try (simp [G] at h3; done)
      all_goals
       refine dIo mixed ?_
       simp [i1, ZA, G]
       repeat with_reducible refine sdg ?_
       exact nx2 e1 (hw := Yc [((9, 0), some (55, 0))] [] rfl (by simp [w1, G]))
     ·try (simp [G] at h3; done)
      all_goals
       exact ny2 (an w1 G) e1
  ·refine gJf G ?_ ?_ <;> intro G
   ·try (simp at G; done)
    all_goals
     simp [i1, ZA, G]
     repeat with_reducible refine sdg ?_
     refine cGg (fun gg => (Up a0 (nth a1 v1_1) (sg u0))) ?_
     refine cK e1 ?_ ?_ <;> intro k7 h4 e1
     ·try (simp [G] at h4; done)
      all_goals
       refine dIo mixed ?_
       simp [i1, ZA, G]
       repeat with_reducible refine sdg ?_
       exact nx2 e1 (hw := Yc [((9, 0), some (55, 0))] [] rfl (by simp [w1, G]))
     ·try (simp [G] at h4; done)
      all_goals
       exact ny2 (an w1 G) e1
   ·try (simp at G; done)
    all_goals
     refine sGo ?_
     simp [G]
     repeat with_reducible refine sdg ?_
     refine cK e1 ?_ ?_ <;> intro k9 h5 e1
     ·try (simp [G] at h5; done)
      all_goals
       refine dIo mixed ?_
       simp [i1, ZA, G]
       repeat with_reducible refine sdg ?_
       exact nx2 e1 (hw := Yc [((9, 0), some (55, 0))] [] rfl (by simp [w1, G]))
     ·try (simp [G] at h5; done)
      all_goals
       exact ny2 (an w1 G) e1
 have c2 := sl 2314240 a1 (an u0 u1)
 have f := ms f e1
 refine cDs [false] (yb v1_0 (by first | (simp (maxDischargeDepth := 12) [X6]; omega) | (simp (maxDischargeDepth := 12) [Zi (m := 2330624) (by decide) u0, Zi (m := 2330624) (by decide) u1]; done))) ?_
 exact rtD [.tmp 8] f
theorem IM (a0 : List Zs) (a1 : List Zy) (a2 : Int) (a3 : Int) (a4 : ZF) (u0 : Sm 2310144 a0) (u1 : Sm 2310144 a1) : Sa 183 [rL 5 Zs.row a0, rL 6 Zy.row a1, rI a2, rI a3, a4.row] [rB (jm a0 a1 a2 a3 a4)] := by
 have f := me (jm.eq_1 a0 a1 a2 a3 a4)
 refine so Tryz.func183 Tryz.ntmps183 ?_
 refine cF f ?_ ?_ <;> intro k1 h1 f
 ·refine cRs (Xh a4) ?_
  exact rt [.tmp 10] f
 refine dIs mixed ?_
 refine cRs (Ym.rd (Ng a0 a1 a2 a3 (by first | exact sg u0 | exact sg u1) (by first | exact sg u0 | exact sg u1))) ?_
 refine cRs (Wv (Kf a0 a1 a2 a3) a4 (by exact NF (by have z := Yv u1; omega))) ?_
 exact rt [.tmp 10] f
theorem NQ {a b : Prop} (h : b) (k : a := by (intros; first | omega | with_unfolding_all (first | (first | omega | (have z := OD h1; have y := KF a0.YY a4.Key; omega))) | ((try simp only [Kb, show ∀ x, IntKind.i64.wrap x = W x from fun _ => rfl] at *); omega))) : a ∧ b := ⟨k, h⟩
theorem NJ (a0 : ZI) (a1 : ZL) (a2 : List (List Int)) (a3 : Int) (a4 : ZV) (u0 : Sm 2281472 a0) (u1 : Sm 2281472 a1) (u2 : Sm 2281472 a2) (u3 : BL a1 ≤ 2097152) : Sa 138 [a0.row, a1.row, rL 1 (slR 1 iR) a2, rI a3, a4.row] [(xC a0 a1 a2 a3 a4).row] := by
 have f := me (xC.eq_1 a0 a1 a2 a3 a4)
 refine so Tryz.func138 Tryz.ntmps138 ?_
 refine cRs (CP a0 a3 a4 (by (first | exact sg (Yu (n := 2281472) (by decide)) | exact sg u0 | exact sg u1 | exact sg u2 | exact u3 | exact sg (ZI.Ye u0) | exact sg (ZI.YH u0) | exact sg (ZS (K := 2281472) u1 u3 (by decide)) | exact sg (YZ (ZS (K := 2281472) u1 u3 (by decide))) | exact sg (Yj (ZS (K := 2281472) u1 u3 (by decide)))))) ?_
 refine cFo f ?_ ?_ <;> intro k1 h1 f
 ·have q1 := h1; try simp at q1
  simp
  exact rt [.cell 10 79] f
 have q1 := h1; try simp at q1
 simp
 refine dIs mixed ?_
 refine cRs (Ym.rd (Gw a4)) ?_
 refine cRs (V5 a0 a1 a2 (XX a4) (by (first | exact sg (Yu (n := 2281472) (by decide)) | exact sg u0 | exact sg u1 | exact sg u2 | exact u3 | exact sg (ZI.Ye u0) | exact sg (ZI.YH u0) | exact sg (ZS (K := 2281472) u1 u3 (by decide)) | exact sg (YZ (ZS (K := 2281472) u1 u3 (by decide))) | exact sg (Yj (ZS (K := 2281472) u1 u3 (by decide))))) (by (first | exact sg (Yu (n := 2281472) (by decide)) | exact sg u0 | exact sg u1 | exact sg u2 | exact u3 | exact sg (ZI.Ye u0) | exact sg (ZI.YH u0) | exact sg (ZS (K := 2281472) u1 u3 (by decide)) | exact sg (YZ (ZS (K := 2281472) u1 u3 (by decide))) | exact sg (Yj (ZS (K := 2281472) u1 u3 (by decide))))) (by (first | exact sg (Yu (n := 2281472) (by decide)) | exact sg u0 | exact sg u1 | exact sg u2 | exact u3 | exact sg (ZI.Ye u0) | exact sg (ZI.YH u0) | exact sg (ZS (K := 2281472) u1 u3 (by decide)) | exact sg (YZ (ZS (K := 2281472) u1 u3 (by decide))) | exact sg (Yj (ZS (K := 2281472) u1 u3 (by decide))))) (by (first | exact sg (Yu (n := 2281472) (by decide)) | exact sg u0 | exact sg u1 | exact sg u2 | exact u3 | exact sg (ZI.Ye u0) | exact sg (ZI.YH u0) | exact sg (ZS (K := 2281472) u1 u3 (by decide)) | exact sg (YZ (ZS (K := 2281472) u1 u3 (by decide))) | exact sg (Yj (ZS (K := 2281472) u1 u3 (by decide)))))) ?_
 refine dIs mixed ?_
 refine cR (Kz a0.YY a4.Key) ?_
 have i1 : (Ys a0.YY a4.Key).toNat < a0.YY.length := by have := KF a0.YY a4.Key; (have z := OD h1; have y := KF a0.YY a4.Key; omega)
 simp [i1, ZA]
 repeat with_reducible refine NQ ?_
 refine cRs (j6 a0.Methods (nth a0.YY (Ys a0.YY a4.Key).toNat).Method) ?_
 refine cGs (fun gg => (j6 a0.Methods a4.Method)) ?_
 refine cFo f ?_ ?_ <;> intro k4 h2 f
 ·have q2 := h2; try simp at q2
  simp
  refine cRs (qL 5) ?_
  exact rt [.cell 10 79] f
 have q2 := h2; try simp at q2
 simp
 refine cRs (N7 a0 a1 a2 (by (first | exact sg (Yu (n := 2281472) (by decide)) | exact sg u0 | exact sg u1 | exact sg u2 | exact u3 | exact sg (ZI.Ye u0) | exact sg (ZI.YH u0) | exact sg (ZS (K := 2281472) u1 u3 (by decide)) | exact sg (YZ (ZS (K := 2281472) u1 u3 (by decide))) | exact sg (Yj (ZS (K := 2281472) u1 u3 (by decide))))) (by (first | exact sg (Yu (n := 2281472) (by decide)) | exact sg u0 | exact sg u1 | exact sg u2 | exact u3 | exact sg (ZI.Ye u0) | exact sg (ZI.YH u0) | exact sg (ZS (K := 2281472) u1 u3 (by decide)) | exact sg (YZ (ZS (K := 2281472) u1 u3 (by decide))) | exact sg (Yj (ZS (K := 2281472) u1 u3 (by decide))))) (by (first | exact sg (Yu (n := 2281472) (by decide)) | exact sg u0 | exact sg u1 | exact sg u2 | exact u3 | exact sg (ZI.Ye u0) | exact sg (ZI.YH u0) | exact sg (ZS (K := 2281472) u1 u3 (by decide)) | exact sg (YZ (ZS (K := 2281472) u1 u3 (by decide))) | exact sg (Yj (ZS (K := 2281472) u1 u3 (by decide))))) (by (first | exact sg (Yu (n := 2281472) (by decide)) | exact sg u0 | exact sg u1 | exact sg u2 | exact u3 | exact sg (ZI.Ye u0) | exact sg (ZI.YH u0) | exact sg (ZS (K := 2281472) u1 u3 (by decide)) | exact sg (YZ (ZS (K := 2281472) u1 u3 (by decide))) | exact sg (Yj (ZS (K := 2281472) u1 u3 (by decide)))))) ?_
 refine cRs (CG a0 (Zq a0 a1 a2) a4 (by (first | exact sg (Yu (n := 2281472) (by decide)) | exact sg u0 | exact sg u1 | exact sg u2 | exact u3 | exact sg (ZI.Ye u0) | exact sg (ZI.YH u0) | exact sg (ZS (K := 2281472) u1 u3 (by decide)) | exact sg (YZ (ZS (K := 2281472) u1 u3 (by decide))) | exact sg (Yj (ZS (K := 2281472) u1 u3 (by decide))))) (by (first | exact sg (Yu (n := 2281472) (by decide)) | exact sg u0 | exact sg u1 | exact sg u2 | exact u3 | exact sg (ZI.Ye u0) | exact sg (ZI.YH u0) | exact sg (ZS (K := 2281472) u1 u3 (by decide)) | exact sg (YZ (ZS (K := 2281472) u1 u3 (by decide))) | exact sg (Yj (ZS (K := 2281472) u1 u3 (by decide)))))) ?_
 refine cFo f ?_ ?_ <;> intro k5 h3 f
 ·have q3 := h3; try simp at q3
  simp
  refine cRs (qL 6) ?_
  exact rt [.cell 10 79] f
 have q3 := h3; try simp at q3
 simp
 refine cRs (Hx a0 a1 (Zq a0 a1 a2) a4 (by (first | exact sg (Yu (n := 2281472) (by decide)) | exact sg u0 | exact sg u1 | exact sg u2 | exact u3 | exact sg (ZI.Ye u0) | exact sg (ZI.YH u0) | exact sg (ZS (K := 2281472) u1 u3 (by decide)) | exact sg (YZ (ZS (K := 2281472) u1 u3 (by decide))) | exact sg (Yj (ZS (K := 2281472) u1 u3 (by decide))))) (by (first | exact sg (Yu (n := 2281472) (by decide)) | exact sg u0 | exact sg u1 | exact sg u2 | exact u3 | exact sg (ZI.Ye u0) | exact sg (ZI.YH u0) | exact sg (ZS (K := 2281472) u1 u3 (by decide)) | exact sg (YZ (ZS (K := 2281472) u1 u3 (by decide))) | exact sg (Yj (ZS (K := 2281472) u1 u3 (by decide))))) (by (first | exact sg (Yu (n := 2281472) (by decide)) | exact sg u0 | exact sg u1 | exact sg u2 | exact u3 | exact sg (ZI.Ye u0) | exact sg (ZI.YH u0) | exact sg (ZS (K := 2281472) u1 u3 (by decide)) | exact sg (YZ (ZS (K := 2281472) u1 u3 (by decide))) | exact sg (Yj (ZS (K := 2281472) u1 u3 (by decide)))))) ?_
 refine cFo f ?_ ?_ <;> intro k6 h4 f
 ·have q4 := h4; try simp at q4
  simp
  refine cRs (qL 7) ?_
  exact rt [.cell 10 79] f
 have q4 := h4; try simp at q4
 simp
 refine cRs (Ym.rd (LL (Zq a0 a1 a2) (Qp a0 (Zq a0 a1 a2) a4).1 (by (first | exact sg (Yu (n := 2281472) (by decide)) | exact sg u0 | exact sg u1 | exact sg u2 | exact u3 | exact sg (ZI.Ye u0) | exact sg (ZI.YH u0) | exact sg (ZS (K := 2281472) u1 u3 (by decide)) | exact sg (YZ (ZS (K := 2281472) u1 u3 (by decide))) | exact sg (Yj (ZS (K := 2281472) u1 u3 (by decide))))))) ?_
 refine cRs (EL (Qp a0 (Zq a0 a1 a2) a4).1 (JZ (Zq a0 a1 a2) (Qp a0 (Zq a0 a1 a2) a4).1) (ZF.mk (QF a0 a1 (Zq a0 a1 a2) a4) (Yw a0 a1 a2 (XX a4))) (by (first | exact sg (Yu (n := 2281472) (by decide)) | exact sg u0 | exact sg u1 | exact sg u2 | exact u3 | exact sg (ZI.Ye u0) | exact sg (ZI.YH u0) | exact sg (ZS (K := 2281472) u1 u3 (by decide)) | exact sg (YZ (ZS (K := 2281472) u1 u3 (by decide))) | exact sg (Yj (ZS (K := 2281472) u1 u3 (by decide)))))) ?_
 refine cFo f ?_ ?_ <;> intro k7 h5 f
 ·have q5 := h5; try simp at q5
  simp
  exact rt [.cell 10 79] f
 have q5 := h5; try simp at q5
 simp
 refine cRs (L0 (Qp a0 (Zq a0 a1 a2) a4).1 (JZ (Zq a0 a1 a2) (Qp a0 (Zq a0 a1 a2) a4).1) (ZF.mk (QF a0 a1 (Zq a0 a1 a2) a4) (Yw a0 a1 a2 (XX a4))) (by (first | exact sg (Yu (n := 2281472) (by decide)) | exact sg u0 | exact sg u1 | exact sg u2 | exact u3 | exact sg (ZI.Ye u0) | exact sg (ZI.YH u0) | exact sg (ZS (K := 2281472) u1 u3 (by decide)) | exact sg (YZ (ZS (K := 2281472) u1 u3 (by decide))) | exact sg (Yj (ZS (K := 2281472) u1 u3 (by decide)))))) ?_
 refine cFo f ?_ ?_ <;> intro k8 h6 f
 ·have q6 := h6; try simp at q6
  simp
  exact rt [.cell 10 79] f
 have q6 := h6; try simp at q6
 simp
 refine dIs mixed ?_
 refine cRs (Ym.rd (Ly (Zq a0 a1 a2) (by (first | exact sg (Yu (n := 2281472) (by decide)) | exact sg u0 | exact sg u1 | exact sg u2 | exact u3 | exact sg (ZI.Ye u0) | exact sg (ZI.YH u0) | exact sg (ZS (K := 2281472) u1 u3 (by decide)) | exact sg (YZ (ZS (K := 2281472) u1 u3 (by decide))) | exact sg (Yj (ZS (K := 2281472) u1 u3 (by decide))))))) ?_
 refine cRs (IM a0.YY (yp (Zq a0 a1 a2)) a4.Org (Qp a0 (Zq a0 a1 a2) a4).1.Js (ZF.mk (QF a0 a1 (Zq a0 a1 a2) a4) (Yw a0 a1 a2 (XX a4))) (by (first | exact sg (Yu (n := 2281472) (by decide)) | exact sg u0 | exact sg u1 | exact sg u2 | exact u3 | exact sg (ZI.Ye u0) | exact sg (ZI.YH u0) | exact sg (ZS (K := 2281472) u1 u3 (by decide)) | exact sg (YZ (ZS (K := 2281472) u1 u3 (by decide))) | exact sg (Yj (ZS (K := 2281472) u1 u3 (by decide))))) (by (first | exact sg (Yu (n := 2281472) (by decide)) | exact sg u0 | exact sg u1 | exact sg u2 | exact u3 | exact sg (ZI.Ye u0) | exact sg (ZI.YH u0) | exact sg (ZS (K := 2281472) u1 u3 (by decide)) | exact sg (YZ (ZS (K := 2281472) u1 u3 (by decide))) | exact sg (Yj (ZS (K := 2281472) u1 u3 (by decide)))))) ?_
 refine cFo f ?_ ?_ <;> intro k10 h7 f
 ·have q7 := h7; try simp at q7
  simp
  exact rt [.cell 10 79] f
 have q7 := h7; try simp at q7
 simp
 exact rt [.cell 10 79] f
theorem wS (a0 : ZI) (a1 : ZL) (a2 : Zc) (a3 : ZV) (u0 : Sm 2277376 a0) (u1 : Sm 2277376 a1) (u2 : Sm 2277376 a2) (u3 : BL a1 ≤ 2097152) : Sa 97 [a0.row, a1.row, a2.row, a3.row] [(NI a0 a1 a2 a3).row] := by
 have f := me (NI.eq_1 a0 a1 a2 a3)
 refine so Tryz.func97 Tryz.ntmps97 ?_
 refine dIs mixed ?_
 refine cRs (Oe a1 a2 (by (first | exact sg u0 | exact sg u1 | exact sg u2 | exact u3 | exact sg (Qk (n := 2277376) u1))) (by (first | exact sg u0 | exact sg u1 | exact sg u2 | exact u3 | exact sg (Qk (n := 2277376) u1)))) ?_
 refine cRs (Rj a3.Method a2 (by (first | exact sg u0 | exact sg u1 | exact sg u2 | exact u3 | exact sg (Qk (n := 2277376) u1)))) ?_
 refine cRs (NJ a0 a1 (J7 a1 a2) (xA a3.Method a2) a3 (by (first | exact sg u0 | exact sg u1 | exact sg u2 | exact u3 | exact sg (Qk (n := 2277376) u1))) (by (first | exact sg u0 | exact sg u1 | exact sg u2 | exact u3 | exact sg (Qk (n := 2277376) u1))) (by (first | exact sg u0 | exact sg u1 | exact sg u2 | exact u3 | exact sg (Qk (n := 2277376) u1))) (by (first | exact sg u0 | exact sg u1 | exact sg u2 | exact u3 | exact sg (Qk (n := 2277376) u1)))) ?_
 exact rt [.cell 8 79] f
theorem Hw (a0 : ZI) (a1 : Zm) (u0 : Sm 2273280 a0) (u1 : Sm 2097152 a1) : Sa 51 [a0.row, a1.row] [(WQ a0 a1).row] := by
 have f := me (WQ.eq_1 a0 a1)
 refine so Tryz.func51 Tryz.ntmps51 ?_
 refine dIs mixed ?_
 refine cRs (Ot a1 (by (first | exact sg u0 | exact sg (Zm.Wt u1) | exact sg (n := 2097152) (show Sm 2097152 (ZL.mk [a1.Z0] []) from ⟨⟨Nat.le_of_ble_eq_true rfl, fun x hx => by rcases List.mem_cons.1 hx with rfl | hx; exact Zm.Xd u1; cases hx⟩, ⟨Nat.zero_le _, fun x hx => by cases hx⟩⟩) | exact (show a1.Z0.Zd.length + 0 ≤ 2097152 from Yv (ZP.Yy (Zm.Xd u1))) | exact sg u1))) ?_
 refine cRs (wS a0 (zy a1) a1.Doc a1.Sig (by (first | exact sg u0 | exact sg (Zm.Wt u1) | exact sg (n := 2097152) (show Sm 2097152 (ZL.mk [a1.Z0] []) from ⟨⟨Nat.le_of_ble_eq_true rfl, fun x hx => by rcases List.mem_cons.1 hx with rfl | hx; exact Zm.Xd u1; cases hx⟩, ⟨Nat.zero_le _, fun x hx => by cases hx⟩⟩) | exact (show a1.Z0.Zd.length + 0 ≤ 2097152 from Yv (ZP.Yy (Zm.Xd u1))) | exact sg u1)) (by (first | exact sg u0 | exact sg (Zm.Wt u1) | exact sg (n := 2097152) (show Sm 2097152 (ZL.mk [a1.Z0] []) from ⟨⟨Nat.le_of_ble_eq_true rfl, fun x hx => by rcases List.mem_cons.1 hx with rfl | hx; exact Zm.Xd u1; cases hx⟩, ⟨Nat.zero_le _, fun x hx => by cases hx⟩⟩) | exact (show a1.Z0.Zd.length + 0 ≤ 2097152 from Yv (ZP.Yy (Zm.Xd u1))) | exact sg u1)) (by (first | exact sg u0 | exact sg (Zm.Wt u1) | exact sg (n := 2097152) (show Sm 2097152 (ZL.mk [a1.Z0] []) from ⟨⟨Nat.le_of_ble_eq_true rfl, fun x hx => by rcases List.mem_cons.1 hx with rfl | hx; exact Zm.Xd u1; cases hx⟩, ⟨Nat.zero_le _, fun x hx => by cases hx⟩⟩) | exact (show a1.Z0.Zd.length + 0 ≤ 2097152 from Yv (ZP.Yy (Zm.Xd u1))) | exact sg u1)) (by (first | exact sg u0 | exact sg (Zm.Wt u1) | exact sg (n := 2097152) (show Sm 2097152 (ZL.mk [a1.Z0] []) from ⟨⟨Nat.le_of_ble_eq_true rfl, fun x hx => by rcases List.mem_cons.1 hx with rfl | hx; exact Zm.Xd u1; cases hx⟩, ⟨Nat.zero_le _, fun x hx => by cases hx⟩⟩) | exact (show a1.Z0.Zd.length + 0 ≤ 2097152 from Yv (ZP.Yy (Zm.Xd u1))) | exact sg u1))) ?_
 exact rt [.cell 4 79] f
theorem MF {a b : Prop} (h : b) (k : a := by (intros; first | omega | with_unfolding_all (first | first | omega | (have fi := RB a0 a1 (by first | omega | (simp at q1; omega)); omega)) | ((try simp only [Kb, show ∀ x, IntKind.i64.wrap x = W x from fun _ => rfl] at *); omega))) : a ∧ b := ⟨k, h⟩
theorem MM (a0 : Zo) (a1 : Int) (u0 : Sm 1048576 a0) : Sa 25 [a0.row, rI a1] [(JY a0 a1).row] := by
 have f := me (JY.eq_1 a0 a1)
 refine so Tryz.func25 Tryz.ntmps25 ?_
 refine cRs (AB a0 a1) ?_
 refine cFo f ?_ ?_ <;> intro k1 h1 f
 ·have q1 := h1; try simp at q1
  simp
  exact rt [.cell 4 79] f
 have q1 := h1; try simp at q1
 simp
 refine dIo mixed ?_
 have i1 : (Q5 a0 a1).1.toNat < a0.ZJ.length := by first | omega | (have fi := RB a0 a1 (by first | omega | (simp at q1; omega)); omega)
 have i2 : (Q5 a0 a1).2.toNat < (nth a0.ZJ (Q5 a0 a1).1.toNat).YM.length := by first | omega | (have fi := RB a0 a1 (by first | omega | (simp at q1; omega)); omega)
 simp [i1, ZA, i2]
 repeat with_reducible refine MF ?_
 refine cRs (Hw a0.Frame (nth (nth a0.ZJ (Q5 a0 a1).1.toNat).YM (Q5 a0 a1).2.toNat) (sg (Zo.GC u0)) (sg (Z3 (Zf.Rs (Z3 (Zo.Uh u0)))))) ?_
 exact rt [.cell 4 79] f
theorem W5 {a b : Prop} (h : b) (k : a := by (intros; first | omega | with_unfolding_all (first | (first | omega | (have d := Nr (l := a0.ZJ) (i := v1_1) (by first | omega | (simp at *; omega)); omega))) | ((try simp only [Kb, show ∀ x, IntKind.i64.wrap x = W x from fun _ => rfl] at *); omega))) : a ∧ b := ⟨k, h⟩
theorem RO (a0 : Zo) (u0 : Sm 1048576 a0) (u1 : itn a0.ZJ ≤ 1048576) : Sd 34 [a0.row] [rL 1 iR (Y2 a0)] := by
 have f := me (Y2.eq_1 a0)
 refine soD Tryz.func34 Tryz.ntmps34 ?_
 refine lp2 (xh.eq_2 a0) (fun v1_0 v1_1 => YP 46 [eX 1 (a0.row.map .d), (3, .one (.sref 3 0 0 v1_0.length), [.arr false 1 (v1_0.map iR)]), eI 4 (↑v1_1 : Int)]) (fun n1 v1_0 v1_1 => a0.ZJ.length < n1 + v1_1 ∧ v1_1 ≤ a0.ZJ.length ∧ v1_0.length + itn (a0.ZJ.drop v1_1) ≤ 1048576) (a0.ZJ.length + 1) ([] : List Int) 0 (fun p1 v1_0 v1_1 e1 j1 => ?_) (hI := by ((try dsimp only); simp only [List.length_nil, List.drop_zero]; omega)) (h0 := Yc [((3, 0), some (7, 0))] [] rfl (by simp))
 try dsimp only at j1
 refine cF e1 ?_ ?_ <;> intro k2 h1 e1
 ·have i1 := ix h1
  have m2 := ml a0.ZJ (k2 10 _ rfl)
  have c1 := sl 1048576 a0.ZJ (an u0 u1)
  have w1 := wr v1_1
  refine nL (yH.eq_2 a0 v1_1) (fun v2_0 v2_1 => YP 46 [eX 1 (a0.row.map .d), (3, .one (.sref 3 0 0 v2_0.length), [.arr false 1 (v2_0.map iR)]), eI 4 (↑v1_1 : Int), eI 5 (↑v2_1 : Int)]) (fun n2 v2_0 v2_1 => (nth a0.ZJ v1_1).YM.length < n2 + v2_1 ∧ v2_1 ≤ (nth a0.ZJ v1_1).YM.length ∧ v2_0.length + ((nth a0.ZJ v1_1).YM.length - v2_1) + itn (a0.ZJ.drop (v1_1 + 1)) ≤ 1048576) ((nth a0.ZJ v1_1).YM.length + 1) v1_0 0 (fun p2 v2_0 v2_1 e2 j2 => ?_) (hI := by (have d := Nr (l := a0.ZJ) (i := v1_1) (by first | omega | (simp at *; omega)); (try dsimp only); omega))
  try dsimp only at j2
  simp [i1, ZA]
  repeat with_reducible refine W5 ?_
  refine cFf e2 ?_ ?_ <;> intro k4 h2 e2
  ·have i2 := ix h2
   have m4 := ml (nth a0.ZJ v1_1).YM (k4 21 _ rfl)
   have c2 := sl 1048576 (nth a0.ZJ v1_1).YM (an u0 u1)
   have w2 := wr v2_1
   simp [i1, ZA, i2]
   repeat with_reducible refine W5 ?_
   refine cRs (MM a0 (nth (nth a0.ZJ v1_1).YM v2_1).Id u0) ?_
   refine cFf e2 ?_ ?_ <;> intro k5 h3 e2
   ·simp
    repeat with_reducible refine W5 ?_
    exact nx2 e2 (hI := by ((try dsimp only); (try simp only [List.length_append, List.length_singleton]); omega)) (hw := Yc [((3, 0), some (44, 0))] [] rfl (by simp [w1, w2]))
   exact ny2 (an w1 w2) e2 (hI := by ((try dsimp only); (try simp only [List.length_append, List.length_singleton]); omega))
  have c3 := sl 1048576 (nth a0.ZJ v1_1).YM (an u0 u1)
  have e1 := ms e1 e2
  exact ny2 w1 e1 (hI := by (first | omega | ((try dsimp only); omega) | (simp at *; omega)))
 have c4 := sl 1048576 a0.ZJ (an u0 u1)
 have f := ms f e1
 exact rtD [.tmp 2] f
theorem wV (a0 : List Int) (a1 : Int) : Sa 90 [rL 1 iR a0, rI a1] [rB (HE a0 a1)] := by
 have f := me (HE.eq_1 a0 a1)
 refine so Tryz.func90 Tryz.ntmps90 ?_
 refine lp1 (Px.eq_2 a0 a1) (fun v1_0 => YP 18 [eL 0 1 a0 iR, eI 1 a1, eI 5 (↑v1_0 : Int)]) (fun n1 v1_0 => a0.length < n1 + v1_0 ∧ v1_0 ≤ a0.length) (a0.length + 1) 0 (fun p1 v1_0 e1 j1 => ?_)
 refine cFf e1 ?_ ?_ <;> intro k2 h1 e1
 ·have i1 := ix h1
  have m2 := ml a0 (k2 0 _ rfl)
  have w1 := wr v1_0
  simp [i1, ZA]
  repeat with_reducible refine sd ?_
  refine cF e1 ?_ ?_ <;> intro k3 h2 e1
  ·have f := ms f e1
   exact rt [.tmp 4] f
  exact ny1 w1 e1
 have f := ms f e1
 exact rt [.tmp 4] f
theorem SB {a b : Prop} (h : b) (k : a := by (intros; first | omega | with_unfolding_all (first | (first | omega | (have z := LJ a0; omega))) | ((try simp only [Kb, show ∀ x, IntKind.i64.wrap x = W x from fun _ => rfl] at *); omega))) : a ∧ b := ⟨k, h⟩
theorem M1 (a0 : Zo) (u0 : Sm 1048576 a0) (u1 : itn a0.ZJ ≤ 1048576) : Sd 42 [a0.row] [rL 1 iR (Qt a0)] := by
 have f := me (Qt.eq_1 a0)
 refine soD Tryz.func42 Tryz.ntmps42 ?_
 refine cRs (Ym.rd (RO a0 u0 (by omega))) ?_
 refine lp2 (Kw.eq_2 a0) (fun v1_0 v1_1 => YP 30 [eX 1 (a0.row.map .d), (3, .one (.sref 3 0 0 v1_0.length), [.arr false 1 (v1_0.map iR)]), eL 4 1 (Y2 a0) iR, eI 5 (↑v1_1 : Int)]) (fun n1 v1_0 v1_1 => (Y2 a0).length < n1 + v1_1 ∧ v1_1 ≤ (Y2 a0).length ∧ v1_0.length ≤ 0 + 1 * v1_1) ((Y2 a0).length + 1) ([] : List Int) 0 (fun p1 v1_0 v1_1 e1 j1 => ?_) (h0 := Yc [((3, 0), some (6, 0))] [] rfl (by simp))
 try dsimp only at j1
 refine cF e1 ?_ ?_ <;> intro k2 h1 e1
 ·have i1 := ix h1
  have m2 := ml (Y2 a0) (k2 4 _ rfl)
  have w1 := wr v1_1
  refine dIo mixed ?_
  simp [i1, ZA]
  repeat with_reducible refine SB ?_
  refine cRs (wV a0.QP (nth (Y2 a0) v1_1)) ?_
  refine cFf e1 ?_ ?_ <;> intro k4 h2 e1
  ·simp [i1, ZA]
   repeat with_reducible refine SB ?_
   exact nx2 e1 (hw := Yc [((3, 0), some (28, 0))] [] rfl (by simp [w1]))
  exact ny2 w1 e1
 have f := ms f e1
 exact rtD [.tmp 2] f
end Go.Proofs.YtfhmpplolpejnaaGreat
