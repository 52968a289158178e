/- Contracts of the functions LG the abstract machine, part I1. No condition. -/
import Derived.Test.YtfhmpplolpejnaaGreatL
import Derived.Test.YtfhmpplolpejnaaGreatTy
namespace Go.Proofs.YtfhmpplolpejnaaGreat
open Go.Vm Go.Mo
set_option maxHeartbeats 1000000
set_option maxRecDepth 100000
set_option linter.unusedSimpArgs false
set_option linter.unusedVariables false
theorem Nz {a b : Prop} (h : b) (k : a := by (intros; first | omega | with_unfolding_all (first | (have d := Nr (l := a0.ZJ) (i := v1_1) (by first | omega | (simp at *; omega)); omega)) | ((try simp only [Kb, show ∀ x, IntKind.i64.wrap x = W x from fun _ => rfl] at *); omega))) : a ∧ b := ⟨k, h⟩
theorem CJ (a0 : Zo) (u0 : Sm 2342912 a0) (u1 : itn a0.ZJ ≤ 1048576) : So 83 [a0.row] [rL 16 Zm.row (QN a0)] := by
 have f := me (QN.eq_1 a0)
 refine so Tryz.func83 Tryz.ntmps83 ?_
 refine lp2 (U3.eq_2 a0) (fun v1_0 v1_1 => YP 19 [(3, .one (.sref 3 0 0 v1_0.length), [.arr false 16 (v1_0.map Zm.row)]), eL 7 2 a0.ZJ Zf.row, eI 8 (↑a0.ZJ.length : Int), eI 9 (↑v1_1 : Int)]) (fun n1 v1_0 v1_1 => a0.ZJ.length < n1 + v1_1 ∧ v1_1 ≤ a0.ZJ.length ∧ v1_0.length + itn (a0.ZJ.drop v1_1) ≤ 1048576) (a0.ZJ.length + 1) ([] : List Zm) 0 (fun p1 v1_0 v1_1 e1 j1 => ?_) (hI := by ((try dsimp only); simp only [List.length_nil, List.drop_zero]; omega)) (h0 := Yc [((3, 0), none)] [] rfl (by simp))
 try dsimp only at j1
 refine cFf e1 ?_ ?_ <;> intro k2 h1 e1
 ·have i1 := ix h1
  have m2 := ml a0.ZJ (k2 7 _ rfl)
  have c1 := sl 2342912 a0.ZJ (an u0 u1)
  have w1 := wr v1_1
  simp [i1, ZA]
  repeat with_reducible refine Nz ?_
  refine evI rfl rfl rfl ?_
  have c2 := sl 2342912 (nth a0.ZJ v1_1).YM (an u0 u1)
  simp
  repeat with_reducible refine Nz ?_
  exact nx2 e1 (hI := by (have d := Nr (l := a0.ZJ) (i := v1_1) (by first | omega | (simp at *; omega)); (try dsimp only); simp only [List.length_append]; omega)) (hw := Yc [((3, 0), some (16, 0))] [] rfl (by simp [w1]))
 have c3 := sl 2342912 a0.ZJ (an u0 u1)
 have f := ms f e1
 exact rtO [.tmp 2] f
theorem En (a0 : Zf) (a1 : Int) : Sa 117 [a0.row, rI a1] [rI (xR a0 a1)] := by
 have f := me (xR.eq_1 a0 a1)
 refine so Tryz.func117 Tryz.ntmps117 ?_
 refine lp1 (qG.eq_2 a0 a1) (fun v1_0 => YP 21 [eI 1 a1, eL 8 16 a0.YM Zm.row, eI 9 (↑a0.YM.length : Int), eI 10 (↑v1_0 : Int)]) (fun n1 v1_0 => a0.YM.length < n1 + v1_0 ∧ v1_0 ≤ a0.YM.length) (a0.YM.length + 1) 0 (fun p1 v1_0 e1 j1 => ?_)
 refine cFf e1 ?_ ?_ <;> intro k2 h1 e1
 ·have i1 := ix h1
  have m2 := ml a0.YM (k2 8 _ rfl)
  have w1 := wr v1_0
  simp [i1, ZA]
  repeat with_reducible refine sd ?_
  refine cF e1 ?_ ?_ <;> intro k3 h2 e1
  ·have f := ms f e1
   exact rt [.tmp 4] f
  exact ny1 w1 e1
 have f := ms f e1
 exact rt [.tmp 4] f
theorem AI (a0 : Zo) (a1 : Int) : Sa 78 [a0.row, rI a1] [rI (Q0 a0 a1).1, rI (Q0 a0 a1).2] := by
 have f := me (Q0.eq_1 a0 a1)
 refine so Tryz.func78 Tryz.ntmps78 ?_
 refine lp1 (xV.eq_2 a0 a1) (fun v1_0 => YP 25 [eI 1 a1, eL 10 2 a0.ZJ Zf.row, eI 11 (↑a0.ZJ.length : Int), eI 12 (↑v1_0 : Int)]) (fun n1 v1_0 => a0.ZJ.length < n1 + v1_0 ∧ v1_0 ≤ a0.ZJ.length) (a0.ZJ.length + 1) 0 (fun p1 v1_0 e1 j1 => ?_)
 refine cFf e1 ?_ ?_ <;> intro k2 h1 e1
 ·have i1 := ix h1
  have m2 := ml a0.ZJ (k2 10 _ rfl)
  have w1 := wr v1_0
  simp [i1, ZA]
  repeat with_reducible refine sd ?_
  refine cRs (En (nth a0.ZJ v1_0) a1) ?_
  refine cF e1 ?_ ?_ <;> intro k3 h2 e1
  ·have f := ms f e1
   exact rt [.tmp 4, .tmp 5] f
  exact ny1 w1 e1
 have f := ms f e1
 exact rt [.tmp 4, .tmp 5] f
theorem EP (a0 : List Int) (u0 : Sm 2342912 a0) : Sd 315 [rL 1 iR a0] [rL 1 iR (Oi a0)] := by
 have f := me (Oi.eq_1 a0)
 have c1 := sl 2342912 a0 u0
 refine soD Tryz.func315 Tryz.ntmps315 ?_
 exact rtD [.tmp 2] f
theorem FH (a0 : List Int) (u0 : Sm 2342912 a0) : Sd 315 [rL 1 iR a0] [rL 1 iR a0] := by
  have h := EP a0 u0
  rwa [EE] at h
theorem GR (a0 : ZD) (u0 : Sm 2338816 a0) : Sd 265 [a0.row] [(PW a0).row] := by
 have f := me (PW.eq_1 a0)
 refine soD Tryz.func265 Tryz.ntmps265 ?_
 refine cDs [false] (FH a0.Zg (sg (ZD.VP u0))) ?_
 exact rtD [.cell 2 194] f
theorem W0 (a0 : ZD) (u0 : Sm 2338816 a0) : Sd 265 [a0.row] [a0.row] := by
  have h := GR a0 u0
  rwa [G3] at h
theorem L9 (a0 : List ZD) (u0 : Sm 2334720 a0) : Sd 214 [rL 3 ZD.row a0] [rL 3 ZD.row (VG a0)] := by
 have f := me (VG.eq_1 a0)
 refine soD Tryz.func214 Tryz.ntmps214 ?_
 refine lp2 (kK.eq_2 a0) (fun v1_0 v1_1 => YP 19 [(3, .one (.sref 3 0 0 v1_0.length), [.arr true 3 (v1_0.map ZD.row)]), eL 6 3 a0 ZD.row, eI 7 (↑a0.length : Int), eI 8 (↑v1_1 : Int)]) (fun n1 v1_0 v1_1 => a0.length < n1 + v1_1 ∧ v1_1 ≤ a0.length ∧ v1_0.length ≤ 0 + 1 * v1_1) (a0.length + 1) ([] : List ZD) 0 (fun p1 v1_0 v1_1 e1 j1 => ?_) (h0 := Yc [((3, 0), none)] [] rfl (by simp))
 refine cFf e1 ?_ ?_ <;> intro k2 h1 e1
 ·have i1 := ix h1
  have m2 := ml a0 (k2 6 _ rfl)
  have c1 := sl 2334720 a0 u0
  have w1 := wr v1_1
  simp [i1, ZA]
  repeat with_reducible refine sd ?_
  refine cDs [true, false] (W0 (nth a0 v1_1) (sg (Z3 u0))) ?_
  refine oM rfl rfl rfl (by simp) (by simp) (by simp) ?_
  simp
  refine pa (olds := (v1_0.map ZD.row)) (news := (([(nth a0 v1_1)] : List ZD).map ZD.row)) (l1 := [(3, 0)]) (l2 := [(14, 1)]) (size := 3) rfl rfl rfl rfl (by simp) (by simp) (by simp) (by simp) (by simp) (by simp; omega) ?_
  simp
  exact nx2 e1 (hw := Yc [((3, 0), some (16, 0))] [] rfl (by simp [w1]))
 have c2 := sl 2334720 a0 u0
 have f := ms f e1
 exact rtD [.tmp 2] f
theorem Mt (a0 : List ZD) (u0 : Sm 2334720 a0) : Sd 214 [rL 3 ZD.row a0] [rL 3 ZD.row a0] := by
  have h := L9 a0 u0
  rwa [IF] at h
theorem L5 (a0 : List ZY) (u0 : Sm 2342912 a0) : Sd 280 [rL 5 ZY.row a0] [rL 5 ZY.row (S0 a0)] := by
 have f := me (S0.eq_1 a0)
 have c1 := sl 2342912 a0 u0
 refine soD Tryz.func280 Tryz.ntmps280 ?_
 exact rtD [.tmp 2] f
theorem Mu (a0 : List ZY) (u0 : Sm 2342912 a0) : Sd 280 [rL 5 ZY.row a0] [rL 5 ZY.row a0] := by
  have h := L5 a0 u0
  rwa [Lu] at h
theorem Mq (a0 : ZK) (u0 : Sm 2338816 a0) : Sd 215 [a0.row] [(TU a0).row] := by
 have f := me (TU.eq_1 a0)
 have c1 := sl 2338816 a0.Path u0
 refine soD Tryz.func215 Tryz.ntmps215 ?_
 refine cDs [false] (Mu a0.Zj (sg (ZK.P1 u0))) ?_
 exact rtD [.cell 2 199] f
theorem NK (a0 : ZK) (u0 : Sm 2338816 a0) : Sd 215 [a0.row] [a0.row] := by
  have h := Mq a0 u0
  rwa [Mi] at h
theorem Ls (a0 : ZP) (u0 : Sm 2330624 a0) : Sd 147 [a0.row] [(VH a0).row] := by
 have f := me (VH.eq_1 a0)
 refine soD Tryz.func147 Tryz.ntmps147 ?_
 refine cDs [] (Mt a0.Zd (sg (ZP.Yy u0))) ?_
 refine lp2 (jt.eq_2 a0) (fun v1_0 v1_1 => YP 26 [(2, .one (.bptr 2 0), [.box [.nil 3, .nil 5]]), (3, .one (.bptr 3 0), [.box [.sref 8 0 0 a0.Zd.length, .sref 3 2 0 v1_1.length], .none, .arr true 5 (v1_1.map ZK.row)]), (8, .any, [.arr true 3 (a0.Zd.map ZD.row)]), eL 11 5 a0.ZX ZK.row, eI 12 (↑a0.ZX.length : Int), eI 13 (↑v1_0 : Int)]) (fun n1 v1_0 v1_1 => a0.ZX.length < n1 + v1_0 ∧ v1_0 ≤ a0.ZX.length ∧ v1_1.length ≤ 0 + 1 * v1_0) (a0.ZX.length + 1) 0 ([] : List ZK) (fun p1 v1_0 v1_1 e1 j1 => ?_) (h0 := Yc [((3, 2), none)] [] rfl (by simp))
 refine cFf e1 ?_ ?_ <;> intro k2 h1 e1
 ·have i1 := ix h1
  have m2 := ml a0.ZX (k2 11 _ rfl)
  have c1 := sl 2330624 a0.ZX u0
  have w1 := wr v1_0
  simp [i1, ZA]
  repeat with_reducible refine sd ?_
  refine nU [22] mixed (by kernel_rfl) (by kernel_rfl) ?_
  simp
  refine cDs [true, true, true, false, false] (NK (nth a0.ZX v1_0) (sg (Z3 (ZP.Qc u0)))) ?_
  refine oM rfl rfl rfl (by simp) (by simp) (by simp) ?_
  simp
  refine pa (olds := (v1_1.map ZK.row)) (news := (([(nth a0.ZX v1_0)] : List ZK).map ZK.row)) (l1 := [(3, 2)]) (l2 := [(20, 3), (20, 4)]) (size := 5) rfl rfl rfl rfl (by simp) (by simp) (by simp) (by simp) (by simp) (by simp; omega) ?_
  simp
  exact nx2 e1 (hw := Yc [((3, 2), some (22, 0))] [] rfl (by simp [w1]))
 have c2 := sl 2330624 a0.ZX u0
 have f := ms f e1
 exact rtD [.cell 2 53] f
theorem MU (a0 : ZP) (u0 : Sm 2330624 a0) : Sd 147 [a0.row] [a0.row] := by
  have h := Ls a0 u0
  rwa [II] at h
theorem O1 (a0 : Zm) (u0 : Sm 2326528 a0) : Sd 108 [a0.row] [(zp a0).row] := by
 have f := me (zp.eq_1 a0)
 refine soD Tryz.func108 Tryz.ntmps108 ?_
 refine cDs [] (MU a0.Z0 (sg (Zm.Xd u0))) ?_
 refine nR (news := (([a0.Z0] : List ZP).map ZP.row)) (L := [(5, 0), (5, 1)]) rfl rfl rfl rfl (by simp) (by simp) (by simp) (by simp) (by simp) (by simp) ?_
 simp
 exact rtD [.cell 2 143] f
theorem Z7 (a0 : Int) (a1 : Int) (a2 : Int) : Sa 128 [rI a0, rI a1, rI a2] [rB (Ze a0 a1 a2)] := by
 have f := me (Ze.eq_1 a0 a1 a2)
 refine so Tryz.func128 Tryz.ntmps128 ?_
 exact rt [.tmp 6] f
theorem IU (a0 : Zc) : Sa 211 [a0.row] [rB (yg a0)] := by
 have f := me (yg.eq_1 a0)
 refine so Tryz.func211 Tryz.ntmps211 ?_
 refine cRs (Z7 a0.ji 0 999) ?_
 refine cGs (fun gg => (Z7 (↑a0.ZQ.length : Int) 1 6)) ?_
 refine cFo f ?_ ?_ <;> intro k1 h1 f
 ·have q1 := h1; try simp [Ze] at q1
  simp
  exact rt [.tmp 2] f
 have q1 := h1; try simp [Ze] at q1
 simp
 refine lp1 (z4.eq_2 a0) (fun v1_0 => YP 46 [eX 1 (a0.row.map .d), eL 26 1 a0.ZQ sR, eI 27 (↑a0.ZQ.length : Int), eI 28 (↑v1_0 : Int)]) (fun n1 v1_0 => a0.ZQ.length < n1 + v1_0 ∧ v1_0 ≤ a0.ZQ.length) (a0.ZQ.length + 1) 0 (fun p1 v1_0 e1 j1 => ?_)
 refine cFf e1 ?_ ?_ <;> intro k3 h2 e1
 ·have i1 := ix h2
  have m2 := ml a0.ZQ (k3 26 _ rfl)
  have w1 := wr v1_0
  simp [i1, ZA]
  repeat with_reducible refine sd ?_
  refine gIf ?_ ?_ <;> intro G
  ·have i2 := ik v1_0 a0.Zb
   simp [i2, ZA, G]
   repeat with_reducible refine sdg ?_
   refine cGg (fun gg => (Z7 (nth a0.Zb v1_0) 1 1000000000000)) ?_
   refine cKo e1 ?_ ?_ <;> intro k4 h3 e1
   ·try (simp [G] at h3; done)
    all_goals
     have q3 := h3; try simp [Ze] at q3
     have f := ms f e1
     simp [G]
     repeat with_reducible refine sdg ?_
     exact rtg [.tmp 2] f
   ·try (simp [G] at h3; done)
    all_goals
     have q3 := h3; try simp [Ze] at q3
     simp [G]
     repeat with_reducible refine sdg ?_
     exact ny1 (an w1 G) e1
  ·refine sGo ?_
   simp [G]
   repeat with_reducible refine sdg ?_
   refine cKo e1 ?_ ?_ <;> intro k5 h4 e1
   ·try (simp [G] at h4; done)
    all_goals
     have q4 := h4; try simp [Ze] at q4
     have f := ms f e1
     simp [G]
     repeat with_reducible refine sdg ?_
     exact rtg [.tmp 2] f
   ·try (simp [G] at h4; done)
    all_goals
     have q4 := h4; try simp [Ze] at q4
     simp [G]
     repeat with_reducible refine sdg ?_
     exact ny1 (an w1 G) e1
 have f := ms f e1
 exact rt [.tmp 2] f
theorem Cd (a0 : List UInt8) (u0 : Sm 2342912 a0) : Sd 278 [rL 1 bR a0] [rL 1 iR (km a0)] := by
 have f := me (km.eq_1 a0)
 refine soD Tryz.func278 Tryz.ntmps278 ?_
 refine lp2 (xX.eq_2 a0) (fun v1_0 v1_1 => YP 19 [(3, .one (.sref 3 0 0 v1_0.length), [.arr false 1 (v1_0.map iR)]), eL 6 1 a0 bR, eI 7 (↑a0.length : Int), eI 8 (↑v1_1 : Int)]) (fun n1 v1_0 v1_1 => a0.length < n1 + v1_1 ∧ v1_1 ≤ a0.length ∧ v1_0.length ≤ 0 + 1 * v1_1) (a0.length + 1) ([] : List Int) 0 (fun p1 v1_0 v1_1 e1 j1 => ?_) (h0 := Yc [((3, 0), none)] [] rfl (by simp))
 refine cFf e1 ?_ ?_ <;> intro k2 h1 e1
 ·have i1 := ix h1
  have m2 := ml a0 (k2 6 _ rfl)
  have c1 := sl 2342912 a0 u0
  have w1 := wr v1_1
  simp [i1, ZA]
  repeat with_reducible refine sd ?_
  exact nx2 e1 (hw := Yc [((3, 0), some (16, 0))] [] rfl (by simp [w1]))
 have c2 := sl 2342912 a0 u0
 have f := ms f e1
 exact rtD [.tmp 2] f
theorem sk (a0 : Int) (a1 : Int) : Sa 328 [rI a0, rI a1] [rI (Bk a0 a1)] := by
 have f := me (Bk.eq_1 a0 a1)
 refine so Tryz.func328 Tryz.ntmps328 ?_
 refine cRs (Z7 a1 1 1000000000000) ?_
 refine cFo f ?_ ?_ <;> intro k1 h1 f
 ·have q1 := h1; try simp [Ze] at q1
  simp
  exact rt [.tmp 4] f
 have q1 := h1; try simp [Ze] at q1
 simp
 repeat with_reducible refine sd ?_
 exact rt [.tmp 4] f
theorem Ey (a0 : List Int) : Sa 279 [rL 1 iR a0] [rI (MV a0)] := by
 have f := me (MV.eq_1 a0)
 refine so Tryz.func279 Tryz.ntmps279 ?_
 refine lp2 (Pg.eq_2 a0) (fun v1_0 v1_1 => YP 21 [eI 3 v1_0, eL 6 1 a0 iR, eI 7 (↑a0.length : Int), eI 8 (↑v1_1 : Int)]) (fun n1 v1_0 v1_1 => a0.length < n1 + v1_1 ∧ v1_1 ≤ a0.length) (a0.length + 1) 11 0 (fun p1 v1_0 v1_1 e1 j1 => ?_)
 refine cFf e1 ?_ ?_ <;> intro k2 h1 e1
 ·have i1 := ix h1
  have m2 := ml a0 (k2 6 _ rfl)
  have w1 := wr v1_1
  simp [i1, ZA]
  repeat with_reducible refine sd ?_
  refine cRs (sk (nth a0 v1_1) 2147483647) ?_
  exact ny2 w1 e1
 have f := ms f e1
 exact rt [.tmp 2] f
theorem KS (a0 : Int) (a1 : List Int) (u0 : Sm 68719476736 a1) : Sa 213 [rI a0, rL 1 iR a1] [rI (JO a0 a1)] := by
 have f := me (JO.eq_1 a0 a1)
 have c1 := sl 68719476736 a1 u0
 refine so Tryz.func213 Tryz.ntmps213 ?_
 refine cRs (Ey (([7, a0] : List Int) ++ a1)) ?_
 exact rt [.tmp 4] f
theorem Ij (a0 : Int) (a1 : ByteArray) (a2 : Int) (u0 : Sm 2326528 a1) : Sa 212 [rI a0, rS a1, rI a2] [rI (ja a0 a1 a2)] := by
 have f := me (ja.eq_1 a0 a1 a2)
 refine so Tryz.func212 Tryz.ntmps212 ?_
 have c1 : a1.size ≤ 2326528 := Cc (by simp (maxDischargeDepth := 12) [u0])
 refine rq (s := a1) rfl rfl rfl (by simp) (by simp) (by simp) (by simp) (by omega) ?_
 simp
 refine cRs (Ym.rd (Cd a1.data.toList (by simp [X6]; first | omega | (simp [ByteArray.size] at *; omega)))) ?_
 refine cRs (KS a0 (([a2] : List Int) ++ (km a1.data.toList)) (by simp (maxDischargeDepth := 12) [KY, X6, Zi (m := 68719476736) (by decide) u0]; try omega)) ?_
 exact rt [.tmp 6] f
theorem Ru (a0 : Int) (a1 : Zc) (u0 : Sm 2322432 a1) : Sa 146 [rI a0, a1.row] [rI (xl a0 a1)] := by
 have f := me (xl.eq_1 a0 a1)
 refine so Tryz.func146 Tryz.ntmps146 ?_
 refine cRs (IU a1) ?_
 refine cF f ?_ ?_ <;> intro k1 h1 f
 ·exact rt [.tmp 4] f
 refine lp2 (qU.eq_2 a0 a1) (fun v1_0 v1_1 => YP 37 [eI 0 a0, eX 3 (a1.row.map .d), (5, .one (.sref 5 0 0 v1_0.length), [.arr false 1 (v1_0.map iR)]), eL 15 1 a1.ZQ sR, eI 16 (↑a1.ZQ.length : Int), eI 17 (↑v1_1 : Int)]) (fun n1 v1_0 v1_1 => a1.ZQ.length < n1 + v1_1 ∧ v1_1 ≤ a1.ZQ.length ∧ v1_0.length ≤ 1 + 1 * v1_1) (a1.ZQ.length + 1) ([a1.ji] : List Int) 0 (fun p1 v1_0 v1_1 e1 j1 => ?_) (h0 := Yc [((5, 0), some (13, 0))] [] rfl (by simp))
 try dsimp only at j1
 refine cFf e1 ?_ ?_ <;> intro k3 h2 e1
 ·have i1 := ix h2
  have m2 := ml a1.ZQ (k3 15 _ rfl)
  have c1 := sl 2322432 a1.ZQ u0
  have w1 := wr v1_1
  have i2 : v1_1 < a1.Zb.length := by (have := Mf (a := a1); first | (simp_all; done) | (simp_all; omega))
  simp [i1, ZA, i2]
  repeat with_reducible refine sd ?_
  refine cRs (Ij a0 (nth a1.ZQ v1_1) (nth a1.Zb v1_1) (sg (Z3 (Zc.NA u0)))) ?_
  exact nx2 e1 (hw := Yc [((5, 0), some (32, 0))] [] rfl (by simp [w1]))
 have c2 := sl 2322432 a1.ZQ u0
 have f := ms f e1
 refine cRs (KS a0 v1_0 (by first | (simp (maxDischargeDepth := 12) [X6]; omega) | (simp (maxDischargeDepth := 12) [Zi (m := 68719476736) (by decide) u0]; done))) ?_
 exact rt [.tmp 4] f
theorem I6 (a0 : ZP) (a1 : Zc) (u0 : Sm 2318336 a0) (u1 : Sm 2318336 a1) : Sd 210 [a0.row, a1.row] [rL 1 iR (K8 a0 a1)] := by
 have f := me (K8.eq_1 a0 a1)
 refine soD Tryz.func210 Tryz.ntmps210 ?_
 refine lp2 (Kg.eq_2 a0 a1) (fun v1_0 v1_1 => YP 24 [eX 3 (a1.row.map .d), (5, .one (.sref 5 0 0 v1_0.length), [.arr false 1 (v1_0.map iR)]), eL 9 5 a0.ZX ZK.row, eI 10 (↑a0.ZX.length : Int), eI 11 (↑v1_1 : Int)]) (fun n1 v1_0 v1_1 => a0.ZX.length < n1 + v1_1 ∧ v1_1 ≤ a0.ZX.length ∧ v1_0.length ≤ 0 + 1 * v1_1) (a0.ZX.length + 1) ([] : List Int) 0 (fun p1 v1_0 v1_1 e1 j1 => ?_) (h0 := Yc [((5, 0), none)] [] rfl (by simp))
 refine cFf e1 ?_ ?_ <;> intro k2 h1 e1
 ·have i1 := ix h1
  have m2 := ml a0.ZX (k2 9 _ rfl)
  have c1 := sl 2318336 a0.ZX (an u0 u1)
  have w1 := wr v1_1
  simp [i1, ZA]
  repeat with_reducible refine sd ?_
  refine cRs (Ru (nth a0.ZX v1_1).Method a1 (sg u1)) ?_
  exact nx2 e1 (hw := Yc [((5, 0), some (21, 0))] [] rfl (by simp [w1]))
 have c2 := sl 2318336 a0.ZX (an u0 u1)
 have f := ms f e1
 exact rtD [.tmp 4] f
theorem Of {a b : Prop} (h : b) (k : a := by (intros; first | omega | with_unfolding_all (first | (first | omega | (have z := Yv (ZL.Yl u0); omega))) | ((try simp only [Kb, show ∀ x, IntKind.i64.wrap x = W x from fun _ => rfl] at *); omega))) : a ∧ b := ⟨k, h⟩
theorem Oj (a0 : ZL) (a1 : Zc) (u0 : Sm 2314240 a0) (u1 : Sm 2314240 a1) : Sd 145 [a0.row, a1.row] [rL 1 (slR 1 iR) (J2 a0 a1)] := by
 have f := me (J2.eq_1 a0 a1)
 refine soD Tryz.func145 Tryz.ntmps145 ?_
 refine lp2 (Q8.eq_2 a0 a1) (fun v1_0 v1_1 => YP 23 [eX 3 (a1.row.map .d), (5, .one (.sref 5 0 0 v1_0.length), [.arr true 1 (v1_0.map (slR 1 iR))]), eL 9 2 a0.ZO ZP.row, eI 10 (↑a0.ZO.length : Int), eI 11 (↑v1_1 : Int)]) (fun n1 v1_0 v1_1 => a0.ZO.length < n1 + v1_1 ∧ v1_1 ≤ a0.ZO.length ∧ v1_0.length ≤ v1_1) (a0.ZO.length + 1) ([] : List (List Int)) 0 (fun p1 v1_0 v1_1 e1 j1 => ?_) (h0 := Yc [((5, 0), none)] [] rfl (by simp))
 try dsimp only at j1
 refine cFf e1 ?_ ?_ <;> intro k2 h1 e1
 ·have i1 := ix h1
  have m2 := ml a0.ZO (k2 9 _ rfl)
  have c1 := sl 2314240 a0.ZO (an u0 u1)
  have w1 := wr v1_1
  simp [i1, ZA]
  repeat with_reducible refine Of ?_
  refine cDs [false] (I6 (nth a0.ZO v1_1) a1 (sg (Z3 (ZL.Yl u0))) (sg u1)) ?_
  refine oM rfl rfl rfl (by simp) (by simp) (by simp) ?_
  simp
  refine pa (olds := (v1_0.map (slR 1 iR))) (news := (([(K8 (nth a0.ZO v1_1) a1)] : List (List Int)).map (slR 1 iR))) (l1 := [(5, 0)]) (l2 := [(18, 0)]) (size := 1) rfl rfl rfl rfl (by simp) (by simp) (by simp) (by simp) (by simp) (by simp; (first | omega | (have z := Yv (ZL.Yl u0); omega))) ?_
  simp
  exact nx2 e1 (hw := Yc [((5, 0), some (20, 0))] [] rfl (by simp [w1]))
 have c2 := sl 2314240 a0.ZO (an u0 u1)
 have f := ms f e1
 exact rtD [.tmp 4] f
theorem yW (a0 : Int) : Sa 163 [rI a0] [rB (yF a0)] := by
 have f := me (yF.eq_1 a0)
 refine so Tryz.func163 Tryz.ntmps163 ?_
 refine cRs (Z7 a0 0 10000) ?_
 exact rt [.tmp 2] f
theorem Lp (a0 : Int) : Sa 288 [rI a0] [rB (j9 a0)] := by
 have f := me (j9.eq_1 a0)
 refine so Tryz.func288 Tryz.ntmps288 ?_
 refine cRs (Z7 a0 1 2147483646) ?_
 exact rt [.tmp 2] f
theorem wc (a0 : Zs) : Sa 228 [a0.row] [rB (NO a0)] := by
 have f := me (NO.eq_1 a0)
 refine so Tryz.func228 Tryz.ntmps228 ?_
 refine cRs (Z7 a0.Number 1 99) ?_
 refine cGs (fun gg => (Z7 a0.Js 0 99)) ?_
 refine cGs (fun gg => (Z7 a0.Method 0 99)) ?_
 refine cGs (fun gg => (yW a0.OC)) ?_
 refine cGs (fun gg => (Lp a0.xg)) ?_
 exact rt [.tmp 2] f
theorem C8 (a0 : List Zs) : Sa 160 [rL 5 Zs.row a0] [rB (Tt a0)] := by
 have f := me (Tt.eq_1 a0)
 refine so Tryz.func160 Tryz.ntmps160 ?_
 refine lp1 (Wb.eq_2 a0) (fun v1_0 => YP 34 [eL 0 5 a0 Zs.row, eL 5 5 a0 Zs.row, eI 6 (↑a0.length : Int), eI 7 (↑v1_0 : Int)]) (fun n1 v1_0 => a0.length < n1 + v1_0 ∧ v1_0 ≤ a0.length) (a0.length + 1) 0 (fun p1 v1_0 e1 j1 => ?_)
 refine cFf e1 ?_ ?_ <;> intro k2 h1 e1
 ·have i1 := ix h1
  have m2 := ml a0 (k2 0 _ rfl)
  have w1 := wr v1_0
  simp [i1, ZA]
  repeat with_reducible refine sd ?_
  refine dIs mixed ?_
  refine cRs (wc (nth a0 v1_0)) ?_
  refine gIf ?_ ?_ <;> intro G
  ·have i2 := ik (v1_0 - 1) a0
   have w2 : IntKind.i64.wrap ((v1_0 : Int) - 1) = (v1_0 : Int) - 1 := Zk (by omega) (by omega)
   simp [i2, ZA, w2, Qz, G]
   repeat with_reducible refine sdg ?_
   refine cK e1 ?_ ?_ <;> intro k4 h2 e1
   ·try (simp [G] at h2; done)
    all_goals
     have f := ms f e1
     exact rtg [.tmp 2] f
   ·try (simp [G] at h2; done)
    all_goals
     exact ny1 (an w1 (an w2 G)) e1
  ·refine cK e1 ?_ ?_ <;> intro k5 h3 e1
   ·try (simp [G] at h3; done)
    all_goals
     have f := ms f e1
     exact rtg [.tmp 2] f
   ·try (simp [G] at h3; done)
    all_goals
     exact ny1 (an w1 G) e1
 have f := ms f e1
 exact rt [.tmp 2] f
theorem OB (a0 : List ZG) : Sa 161 [rL 3 ZG.row a0] [rB (zu a0)] := by
 have f := me (zu.eq_1 a0)
 refine so Tryz.func161 Tryz.ntmps161 ?_
 refine lp1 (Ka.eq_2 a0) (fun v1_0 => YP 47 [eL 0 3 a0 ZG.row, eL 5 3 a0 ZG.row, eI 6 (↑a0.length : Int), eI 7 (↑v1_0 : Int)]) (fun n1 v1_0 => a0.length < n1 + v1_0 ∧ v1_0 ≤ a0.length) (a0.length + 1) 0 (fun p1 v1_0 e1 j1 => ?_)
 refine cFf e1 ?_ ?_ <;> intro k2 h1 e1
 ·have i1 := ix h1
  have m2 := ml a0 (k2 0 _ rfl)
  have w1 := wr v1_0
  simp [i1, ZA]
  repeat with_reducible refine sd ?_
  refine dIs mixed ?_
  refine cRs (Z7 (nth a0 v1_0).Id 0 99) ?_
  refine cGs (fun gg => (Z7 (nth a0 v1_0).Key 1 99)) ?_
  refine cGs (fun gg => (Z7 (nth a0 v1_0).Error 0 100)) ?_
  refine gIf ?_ ?_ <;> intro G
  ·have i2 := ik (v1_0 - 1) a0
   have w2 : IntKind.i64.wrap ((v1_0 : Int) - 1) = (v1_0 : Int) - 1 := Zk (by omega) (by omega)
   simp [i2, ZA, w2, Qz, G]
   repeat with_reducible refine sdg ?_
   refine cKo e1 ?_ ?_ <;> intro k4 h2 e1
   ·try (simp [G] at h2; done)
    all_goals
     have q2 := h2; try simp [Ze] at q2
     have f := ms f e1
     simp [G]
     repeat with_reducible refine sdg ?_
     exact rtg [.tmp 2] f
   ·try (simp [G] at h2; done)
    all_goals
     have q2 := h2; try simp [Ze] at q2
     simp [G]
     repeat with_reducible refine sdg ?_
     exact ny1 (an w1 (an w2 G)) e1
  ·refine cKo e1 ?_ ?_ <;> intro k5 h3 e1
   ·try (simp [G] at h3; done)
    all_goals
     have q3 := h3; try simp [Ze] at q3
     have f := ms f e1
     simp [G]
     repeat with_reducible refine sdg ?_
     exact rtg [.tmp 2] f
   ·try (simp [G] at h3; done)
    all_goals
     have q3 := h3; try simp [Ze] at q3
     simp [G]
     repeat with_reducible refine sdg ?_
     exact ny1 (an w1 G) e1
 have f := ms f e1
 exact rt [.tmp 2] f
theorem EO (a0 : Zh) : Sa 229 [a0.row] [rB (Vx a0)] := by
 have f := me (Vx.eq_1 a0)
 refine so Tryz.func229 Tryz.ntmps229 ?_
 refine cRs (Z7 a0.Id 0 99) ?_
 refine cGs (fun gg => (yW a0.Ui)) ?_
 refine cGs (fun gg => (Z7 a0.Ends 1 10001)) ?_
 refine cGs (fun gg => (Z7 a0.qO 1 10001)) ?_
 exact rt [.tmp 2] f
theorem Ln (a0 : List Zh) : Sa 162 [rL 4 Zh.row a0] [rB (jZ a0)] := by
 have f := me (jZ.eq_1 a0)
 refine so Tryz.func162 Tryz.ntmps162 ?_
 refine lp1 (xD.eq_2 a0) (fun v1_0 => YP 34 [eL 0 4 a0 Zh.row, eL 5 4 a0 Zh.row, eI 6 (↑a0.length : Int), eI 7 (↑v1_0 : Int)]) (fun n1 v1_0 => a0.length < n1 + v1_0 ∧ v1_0 ≤ a0.length) (a0.length + 1) 0 (fun p1 v1_0 e1 j1 => ?_)
 refine cFf e1 ?_ ?_ <;> intro k2 h1 e1
 ·have i1 := ix h1
  have m2 := ml a0 (k2 0 _ rfl)
  have w1 := wr v1_0
  simp [i1, ZA]
  repeat with_reducible refine sd ?_
  refine dIs mixed ?_
  refine cRs (EO (nth a0 v1_0)) ?_
  refine gIf ?_ ?_ <;> intro G
  ·have i2 := ik (v1_0 - 1) a0
   have w2 : IntKind.i64.wrap ((v1_0 : Int) - 1) = (v1_0 : Int) - 1 := Zk (by omega) (by omega)
   simp [i2, ZA, w2, Qz, G]
   repeat with_reducible refine sdg ?_
   refine cK e1 ?_ ?_ <;> intro k4 h2 e1
   ·try (simp [G] at h2; done)
    all_goals
     have f := ms f e1
     exact rtg [.tmp 2] f
   ·try (simp [G] at h2; done)
    all_goals
     exact ny1 (an w1 (an w2 G)) e1
  ·refine cK e1 ?_ ?_ <;> intro k5 h3 e1
   ·try (simp [G] at h3; done)
    all_goals
     have f := ms f e1
     exact rtg [.tmp 2] f
   ·try (simp [G] at h3; done)
    all_goals
     exact ny1 (an w1 G) e1
 have f := ms f e1
 exact rt [.tmp 2] f
theorem Dn (a0 : ZI) : Sa 127 [a0.row] [rB (Vj a0)] := by
 have f := me (Vj.eq_1 a0)
 refine so Tryz.func127 Tryz.ntmps127 ?_
 refine cRs (C8 a0.YY) ?_
 refine cGs (fun gg => (OB a0.ZN)) ?_
 refine cGs (fun gg => (Ln a0.Methods)) ?_
 refine cGs (fun gg => (Z7 a0.QR 0 6)) ?_
 refine cGs (fun gg => (yW a0.Now)) ?_
 exact rt [.tmp 2] f
theorem VW (a0 : Int) : Sa 193 [rI a0] [(Rv a0).row] := by
 have f := me (Rv.eq_1 a0)
 refine so Tryz.func193 Tryz.ntmps193 ?_
 exact rt [.cell 2 79] f
theorem SN (a0 : ZV) : Sa 194 [a0.row] [rB (zZ a0)] := by
 have f := me (zZ.eq_1 a0)
 refine so Tryz.func194 Tryz.ntmps194 ?_
 refine cRs (Z7 a0.Key 1 99) ?_
 refine cGs (fun gg => (Z7 a0.YA 1 999)) ?_
 refine cGs (fun gg => (Z7 a0.Method 0 99)) ?_
 refine cGs (fun gg => (Z7 a0.Org 0 99)) ?_
 refine cGs (fun gg => (Z7 a0.qS 1 3)) ?_
 refine cGs (fun gg => (Z7 a0.Yz 0 1000000000000)) ?_
 refine cGs (fun gg => (Z7 a0.y3 0 1000000000000)) ?_
 refine cGs (fun gg => (Z7 a0.Kd 0 1000000000000)) ?_
 exact rt [.tmp 2] f
theorem SZ (a0 : Int) : Sa 195 [rI a0] [(Tf a0).row] := by
 have f := me (Tf.eq_1 a0)
 refine so Tryz.func195 Tryz.ntmps195 ?_
 exact rt [.cell 2 79] f
theorem qA (a0 : List Zs) (a1 : Int) : Sa 196 [rL 5 Zs.row a0, rI a1] [rI (Yx a0 a1)] := by
 have f := me (Yx.eq_1 a0 a1)
 refine so Tryz.func196 Tryz.ntmps196 ?_
 refine lp1 (jF.eq_2 a0 a1) (fun v1_0 => YP 20 [eI 1 a1, eL 7 5 a0 Zs.row, eI 8 (↑a0.length : Int), eI 9 (↑v1_0 : Int)]) (fun n1 v1_0 => a0.length < n1 + v1_0 ∧ v1_0 ≤ a0.length) (a0.length + 1) 0 (fun p1 v1_0 e1 j1 => ?_)
 refine cFf e1 ?_ ?_ <;> intro k2 h1 e1
 ·have i1 := ix h1
  have m2 := ml a0 (k2 7 _ rfl)
  have w1 := wr v1_0
  simp [i1, ZA]
  repeat with_reducible refine sd ?_
  refine cF e1 ?_ ?_ <;> intro k3 h2 e1
  ·have f := ms f e1
   exact rt [.tmp 4] f
  exact ny1 w1 e1
 have f := ms f e1
 exact rt [.tmp 4] f
theorem UO (a0 : ZV) : Sd 259 [a0.row] [rL 1 iR (QJ a0)] := by
 have f := me (QJ.eq_1 a0)
 refine soD Tryz.func259 Tryz.ntmps259 ?_
 exact rtD [.tmp 2] f
theorem Hi (a0 : Int) (a1 : List Int) (u0 : Sm 2330624 a1) : Sa 331 [rI a0, rL 1 iR a1] [rI (WY a0 a1)] := by
 have f := me (WY.eq_1 a0 a1)
 have c1 := sl 2330624 a1 u0
 refine so Tryz.func331 Tryz.ntmps331 ?_
 refine cRs (Ey ((([a0] : List Int) ++ a1) ++ ([a0] : List Int))) ?_
 exact rt [.tmp 4] f
theorem ES (a0 : Zs) (a1 : List Int) (u0 : Sm 2326528 a1) : Sa 289 [a0.row, rL 1 iR a1] [rI (V8 a0 a1)] := by
 have f := me (V8.eq_1 a0 a1)
 refine so Tryz.func289 Tryz.ntmps289 ?_
 refine vP [2, 3, 4, 5, 6, 0, 1, 7, 8] mixed (by kernel_rfl) (by kernel_rfl) (by kernel_rfl) ?_
 have c1 := sl 2326528 a1 u0
 simp
 repeat with_reducible refine sd ?_
 refine cRs (Hi a0.xg (([a0.Method] : List Int) ++ a1) (by simp (maxDischargeDepth := 12) [KY, X6, Zi (m := 2330624) (by decide) u0]; try omega)) ?_
 exact rt [.tmp 4] f
theorem LN (a0 : List Zs) (a1 : Int) (a2 : List Int) (u0 : Sm 2322432 a0) (u1 : Sm 2322432 a2) : Sa 232 [rL 5 Zs.row a0, rI a1, rL 1 iR a2] [rI (qf a0 a1 a2).1, rB (qf a0 a1 a2).2] := by
 have f := me (qf.eq_1 a0 a1 a2)
 refine so Tryz.func232 Tryz.ntmps232 ?_
 refine cRs (qA a0 a1) ?_
 refine cFt f ?_ ?_ <;> intro k1 h1 f
 ·exact rt [.tmp 6, .tmp 7] f
 have i1 : (Yx a0 a1).toNat < a0.length := by have := kD a0 a1; exact il
 simp [i1, ZA]
 repeat with_reducible refine sd ?_
 refine cRs (ES (nth a0 (Yx a0 a1).toNat) a2 (sg u1)) ?_
 exact rt [.tmp 6, .tmp 7] f
theorem Qy (a0 : List Zs) (a1 : Int) (a2 : List Int) (a3 : Int) (u0 : Sm 2318336 a0) (u1 : Sm 2318336 a2) : Sa 165 [rL 5 Zs.row a0, rI a1, rL 1 iR a2, rI a3] [rB (QS a0 a1 a2 a3)] := by
 have f := me (QS.eq_1 a0 a1 a2 a3)
 refine so Tryz.func165 Tryz.ntmps165 ?_
 refine cRs (LN a0 a1 a2 (sg u0) (sg u1)) ?_
 exact rt [.tmp 8] f
theorem P6 (a0 : List Zs) (a1 : ZV) (u0 : Sm 2314240 a0) : Sa 197 [rL 5 Zs.row a0, a1.row] [rB (KX a0 a1)] := by
 have f := me (KX.eq_1 a0 a1)
 refine so Tryz.func197 Tryz.ntmps197 ?_
 refine dIs mixed ?_
 refine cRs (SN a1) ?_
 refine cGs (fun gg => Ym.rd (UO a1)) ?_
 refine cGs (fun gg => (Qy a0 a1.Key (QJ a1) a1.Mark (sg u0) (by simp (maxDischargeDepth := 12) [V0, Zi (m := 2318336) (by decide) u0]; try omega))) ?_
 exact rt [.tmp 4] f
theorem G4 (a0 : ZV) : Sd 199 [a0.row] [(XY a0).row] := by
 have f := me (XY.eq_1 a0)
 refine soD Tryz.func199 Tryz.ntmps199 ?_
 refine dIs mixed ?_
 refine cDs [false] (UO a0) ?_
 exact rtD [.cell 2 194] f
theorem G7 (a0 : List Int) (a1 : List Int) : Sa 290 [rL 1 iR a0, rL 1 iR a1] [rB (Uz a0 a1)] := by
 have f := me (Uz.eq_1 a0 a1)
 refine so Tryz.func290 Tryz.ntmps290 ?_
 refine cF f ?_ ?_ <;> intro k1 h1 f
 ·exact rt [.tmp 4] f
 refine lp1 (kz.eq_2 a0 a1) (fun v1_0 => YP 26 [eL 0 1 a0 iR, eL 1 1 a1 iR, eI 12 (↑a0.length : Int), eI 13 (↑v1_0 : Int)]) (fun n1 v1_0 => a0.length < n1 + v1_0 ∧ v1_0 ≤ a0.length) (a0.length + 1) 0 (fun p1 v1_0 e1 j1 => ?_)
 refine cF e1 ?_ ?_ <;> intro k3 h2 e1
 ·have i1 := ix h2
  have m2 := ml a0 (k3 0 _ rfl)
  have w1 := wr v1_0
  refine dIo mixed ?_
  have i2 := ik v1_0 a1
  simp [i1, ZA, i2]
  repeat with_reducible refine sd ?_
  refine cF e1 ?_ ?_ <;> intro k5 h3 e1
  ·have f := ms f e1
   exact rt [.tmp 4] f
  exact ny1 w1 e1
 have f := ms f e1
 exact rt [.tmp 4] f
theorem Tq (a0 : ZD) (a1 : ZD) : Sa 234 [a0.row, a1.row] [rB (zW a0 a1)] := by
 have f := me (zW.eq_1 a0 a1)
 refine so Tryz.func234 Tryz.ntmps234 ?_
 refine cGs (fun gg => (G7 a0.Zg a1.Zg)) ?_
 exact rt [.tmp 4] f
theorem H5 (a0 : ZP) (a1 : ZD) : Sa 310 [a0.row, a1.row] [rI (y9 a0 a1)] := by
 have f := me (y9.eq_1 a0 a1)
 refine so Tryz.func310 Tryz.ntmps310 ?_
 refine lp1 (qV.eq_2 a0 a1) (fun v1_0 => YP 20 [eX 3 (a1.row.map .d), eL 8 3 a0.Zd ZD.row, eI 9 (↑a0.Zd.length : Int), eI 10 (↑v1_0 : Int)]) (fun n1 v1_0 => a0.Zd.length < n1 + v1_0 ∧ v1_0 ≤ a0.Zd.length) (a0.Zd.length + 1) 0 (fun p1 v1_0 e1 j1 => ?_)
 refine cFf e1 ?_ ?_ <;> intro k2 h1 e1
 ·have i1 := ix h1
  have m2 := ml a0.Zd (k2 8 _ rfl)
  have w1 := wr v1_0
  simp [i1, ZA]
  repeat with_reducible refine sd ?_
  refine cRs (Tq (nth a0.Zd v1_0) a1) ?_
  refine cF e1 ?_ ?_ <;> intro k3 h2 e1
  ·have f := ms f e1
   exact rt [.tmp 4] f
  exact ny1 w1 e1
 have f := ms f e1
 exact rt [.tmp 4] f
theorem qu (a0 : List ZG) (a1 : Int) : Sa 133 [rL 3 ZG.row a0, rI a1] [rI (YC a0 a1)] := by
 have f := me (YC.eq_1 a0 a1)
 refine so Tryz.func133 Tryz.ntmps133 ?_
 refine lp1 (Jt.eq_2 a0 a1) (fun v1_0 => YP 20 [eI 1 a1, eL 7 3 a0 ZG.row, eI 8 (↑a0.length : Int), eI 9 (↑v1_0 : Int)]) (fun n1 v1_0 => a0.length < n1 + v1_0 ∧ v1_0 ≤ a0.length) (a0.length + 1) 0 (fun p1 v1_0 e1 j1 => ?_)
 refine cFf e1 ?_ ?_ <;> intro k2 h1 e1
 ·have i1 := ix h1
  have m2 := ml a0 (k2 7 _ rfl)
  have w1 := wr v1_0
  simp [i1, ZA]
  repeat with_reducible refine sd ?_
  refine cF e1 ?_ ?_ <;> intro k3 h2 e1
  ·have f := ms f e1
   exact rt [.tmp 4] f
  exact ny1 w1 e1
 have f := ms f e1
 exact rt [.tmp 4] f
theorem Ji (a0 : ZF) : Sa 230 [a0.row] [rB (YR a0)] := by
 have f := me (YR.eq_1 a0)
 refine so Tryz.func230 Tryz.ntmps230 ?_
 refine cRs (yW a0.YN) ?_
 refine cGs (fun gg => (yW a0.To)) ?_
 exact rt [.tmp 2] f
theorem TI (a0 : Int) (a1 : Int) : Sa 323 [rI a0, rI a1] [(J1 a0 a1).1.row, rB (J1 a0 a1).2] := by
 have f := me (J1.eq_1 a0 a1)
 refine so Tryz.func323 Tryz.ntmps323 ?_
 refine cGs (fun gg => (Ji (ZF.mk (if 0 > a0 then 0 else a0) (if 10000 < a1 then 10000 else a1)))) ?_
 refine cF f ?_ ?_ <;> intro k1 h1 f
 ·exact rt [.cell 4 77, .tmp 5] f
 exact rt [.cell 4 77, .tmp 5] f
theorem FT (a0 : List ZG) (a1 : ZY) : Sa 318 [rL 3 ZG.row a0, a1.row] [(KR a0 a1).1.row, rB (KR a0 a1).2] := by
 have f := me (KR.eq_1 a0 a1)
 refine so Tryz.func318 Tryz.ntmps318 ?_
 refine cRs (qu a0 a1.Authority) ?_
 refine gIf ?_ ?_ <;> intro G
 ·have i1 : (YC a0 a1.Authority).toNat < a0.length := by have := ye a0 a1.Authority; exact il
  simp [i1, ZA, G]
  repeat with_reducible refine sdg ?_
  refine cGg (fun gg => (yW a1.Time)) ?_
  refine cK f ?_ ?_ <;> intro k1 h1 f
  ·try (simp [G] at h1; done)
   all_goals
    exact rtg [.cell 4 77, .tmp 5] f
  ·try (simp [G] at h1; done)
   all_goals
    refine dIo mixed ?_
    simp [i1, ZA, G]
    repeat with_reducible refine sdg ?_
    refine cRg (TI (W (a1.Time - (nth a0 (YC a0 a1.Authority).toNat).Error)) (W (a1.Time + (nth a0 (YC a0 a1.Authority).toNat).Error))) ?_
    exact rtg [.cell 4 77, .tmp 5] f
 ·refine cGg (fun gg => (yW a1.Time)) ?_
  refine cK f ?_ ?_ <;> intro k3 h2 f
  ·try (simp [G] at h2; done)
   all_goals
    exact rtg [.cell 4 77, .tmp 5] f
  ·try (simp [G] at h2; done)
   all_goals
    refine dIo mixed ?_
    have i3 : (YC a0 a1.Authority).toNat < a0.length := by have := ye a0 a1.Authority; exact il
    simp [i3, ZA, G]
    repeat with_reducible refine sdg ?_
    refine cRg (TI (W (a1.Time - (nth a0 (YC a0 a1.Authority).toNat).Error)) (W (a1.Time + (nth a0 (YC a0 a1.Authority).toNat).Error))) ?_
    exact rtg [.cell 4 77, .tmp 5] f
theorem D3 (a0 : List ZF) (a1 : Int) : Sa 356 [rL 2 ZF.row a0, rI a1] [rI (kZ a0 a1)] := by
 have f := me (kZ.eq_1 a0 a1)
 refine so Tryz.func356 Tryz.ntmps356 ?_
 refine lp2 (yQ.eq_2 a0 a1) (fun v1_0 v1_1 => YP 28 [eI 1 a1, eI 5 v1_0, eL 8 2 a0 ZF.row, eI 9 (↑a0.length : Int), eI 10 (↑v1_1 : Int)]) (fun n1 v1_0 v1_1 => a0.length < n1 + v1_1 ∧ v1_1 ≤ a0.length) (a0.length + 1) 0 0 (fun p1 v1_0 v1_1 e1 j1 => ?_)
 refine cFf e1 ?_ ?_ <;> intro k2 h1 e1
 ·have i1 := ix h1
  have m2 := ml a0 (k2 8 _ rfl)
  have w1 := wr v1_1
  simp [i1, ZA]
  repeat with_reducible refine sd ?_
  refine cRs (Ji (nth a0 v1_1)) ?_
  refine cGs (fun gg => (Z7 a1 (nth a0 v1_1).YN (nth a0 v1_1).To)) ?_
  refine cFo e1 ?_ ?_ <;> intro k3 h2 e1
  ·have q2 := h2; try simp [Ze] at q2
   simp
   exact ny2 w1 e1
  have q2 := h2; try simp [Ze] at q2
  simp
  exact ny2 w1 e1
 have f := ms f e1
 exact rt [.tmp 4] f
theorem Mx (a0 : List ZF) (a1 : Int) (a2 : Int) : Sa 343 [rL 2 ZF.row a0, rI a1, rI a2] [rB (Zt a0 a1 a2)] := by
 have f := me (Zt.eq_1 a0 a1 a2)
 refine so Tryz.func343 Tryz.ntmps343 ?_
 refine cRs (Z7 a2 0 (W ((↑a0.length : Int) - 1))) ?_
 refine cGs (fun gg => (D3 a0 a1)) ?_
 exact rt [.tmp 6] f
theorem IL (a0 : List ZF) (a1 : Int) : Sa 319 [rL 2 ZF.row a0, rI a1] [(yl a0 a1).1.row, rB (yl a0 a1).2] := by
 have f := me (yl.eq_1 a0 a1)
 refine so Tryz.func319 Tryz.ntmps319 ?_
 refine lp4 (JA.eq_2 a0 a1) (fun v1_0 v1_1 v1_2 v1_3 => YP 25 [eL 0 2 a0 ZF.row, eI 1 a1, (4, .one (.bptr 4 0), [.box [.d (.int .i64 0), .d (.int .i64 0)]]), (6, .one (.bptr 6 0), [.box [.d (.int .i64 v1_2), .d (.int .i64 v1_3)]]), eB 7 v1_0, eI 8 (↑v1_1 : Int)]) (fun n1 v1_0 v1_1 v1_2 v1_3 => 10001 < n1 + v1_1) 10002 false 0 0 0 (fun p1 v1_0 v1_1 v1_2 v1_3 e1 j1 => ?_)
 refine cF e1 ?_ ?_ <;> intro k2 h1 e1
 ·have w1 := wr v1_1
  refine cRs (Mx a0 (↑v1_1 : Int) a1) ?_
  refine cF e1 ?_ ?_ <;> intro k3 h2 e1
  ·refine cF e1 ?_ ?_ <;> intro k4 h3 e1
   ·exact ny4 w1 e1
   exact ny4 w1 e1
  exact ny4 w1 e1
 have f := ms f e1
 exact rt [.cell 4 77, .tmp 5] f
theorem TK (a0 : List ZG) (a1 : List ZY) (a2 : Int) (u0 : Sm 2318336 a0) (u1 : Sm 2318336 a1) : Sa 271 [rL 3 ZG.row a0, rL 5 ZY.row a1, rI a2] [(Qm a0 a1 a2).1.row, rB (Qm a0 a1 a2).2] := by
 have f := me (Qm.eq_1 a0 a1 a2)
 refine so Tryz.func271 Tryz.ntmps271 ?_
 refine lp2 (QO.eq_2 a0 a1) (fun v1_0 v1_1 => YP 38 [eL 0 3 a0 ZG.row, eI 2 a2, (6, .one (.bptr 6 0), [.box [.d (.int .i64 0), .d (.int .i64 0)]]), (8, .one (.sref 8 0 0 v1_0.length), [.arr false 2 (v1_0.map ZF.row)]), eL 13 5 a1 ZY.row, eI 14 (↑a1.length : Int), eI 15 (↑v1_1 : Int)]) (fun n1 v1_0 v1_1 => a1.length < n1 + v1_1 ∧ v1_1 ≤ a1.length ∧ v1_0.length ≤ 0 + 1 * v1_1) (a1.length + 1) ([] : List ZF) 0 (fun p1 v1_0 v1_1 e1 j1 => ?_) (h0 := Yc [((8, 0), none)] [] rfl (by simp))
 refine cFf e1 ?_ ?_ <;> intro k2 h1 e1
 ·have i1 := ix h1
  have m2 := ml a1 (k2 13 _ rfl)
  have c1 := sl 2318336 a1 (an u0 u1)
  have w1 := wr v1_1
  simp [i1, ZA]
  repeat with_reducible refine sd ?_
  refine cRs (FT a0 (nth a1 v1_1)) ?_
  refine cF e1 ?_ ?_ <;> intro k3 h2 e1
  ·have f := ms f e1
   exact rt [.cell 6 77, .tmp 7] f
  exact nx2 e1 (hw := Yc [((8, 0), some (31, 0))] [] rfl (by simp [w1]))
 have c2 := sl 2318336 a1 (an u0 u1)
 have f := ms f e1
 refine cRs (IL v1_0 a2) ?_
 exact rt [.cell 6 77, .tmp 7] f
theorem Ma (a0 : List ZG) (a1 : ZK) (a2 : Int) (u0 : Sm 2314240 a0) (u1 : Sm 2314240 a1) : Sa 355 [rL 3 ZG.row a0, a1.row, rI a2] [(KV a0 a1 a2).1.row, rB (KV a0 a1 a2).2] := by
 have f := me (KV.eq_1 a0 a1 a2)
 refine so Tryz.func355 Tryz.ntmps355 ?_
 refine cRs (TK a0 a1.Zj a2 (sg u0) (sg (ZK.P1 u1))) ?_
 exact rt [.cell 6 77, .tmp 7] f
theorem je (a0 : ZI) (a1 : ZK) (u0 : Sm 2310144 a0) (u1 : Sm 2310144 a1) : Sa 342 [a0.row, a1.row] [(X9 a0 a1).1.row, rB (X9 a0 a1).2] := by
 have f := me (X9.eq_1 a0 a1)
 refine so Tryz.func342 Tryz.ntmps342 ?_
 refine cRs (Ma a0.ZN a1 a0.QR (sg (ZI.Q7 u0)) (sg u1)) ?_
 exact rt [.cell 4 77, .tmp 5] f
theorem UQ (a0 : ZY) : Sd 317 [a0.row] [rL 1 iR (JI a0)] := by
 have f := me (JI.eq_1 a0)
 refine soD Tryz.func317 Tryz.ntmps317 ?_
 exact rtD [.tmp 2] f
theorem UI (a0 : Int) (a1 : ZK) (u0 : Sm 2326528 a1) : Sa 362 [rI a0, a1.row] [rI (J4 a0 a1)] := by
 have f := me (J4.eq_1 a0 a1)
 refine so Tryz.func362 Tryz.ntmps362 ?_
 refine lp2 (Ju.eq_2 a1) (fun v1_0 v1_1 => YP 59 [eI 0 a0, eX 3 (a1.row.map .d), (5, .one (.sref 5 0 0 v1_0.length), [.arr false 1 (v1_0.map iR)]), eL 19 2 a1.Path Ya.row, eI 20 (↑a1.Path.length : Int), eI 21 (↑v1_1 : Int)]) (fun n1 v1_0 v1_1 => a1.Path.length < n1 + v1_1 ∧ v1_1 ≤ a1.Path.length ∧ v1_0.length ≤ 4 + 2 * v1_1) (a1.Path.length + 1) ([4, a1.Count, a1.Method, a1.OY] : List Int) 0 (fun p1 v1_0 v1_1 e1 j1 => ?_) (h0 := Yc [((5, 0), some (17, 0))] [] rfl (by simp))
 refine cFo e1 ?_ ?_ <;> intro k2 h1 e1
 ·have q1 := h1; try simp at q1
  have i1 := ix h1
  have m2 := ml a1.Path (k2 19 _ rfl)
  have c1 := sl 2326528 a1.Path u0
  have w1 := wr v1_1
  simp [i1, ZA]
  repeat with_reducible refine sd ?_
  refine cFo e1 ?_ ?_ <;> intro k3 h2 e1
  ·have q2 := h2; try simp at q2
   simp
   repeat with_reducible refine sd ?_
   exact nx2 e1 (hw := Yc [((5, 0), some (32, 0))] [] rfl (by simp [w1]))
  have q2 := h2; try simp at q2
  simp
  repeat with_reducible refine sd ?_
  exact nx2 e1 (hw := Yc [((5, 0), some (32, 0))] [] rfl (by simp [w1]))
 have q1 := h1; try simp at q1
 have c2 := sl 2326528 a1.Path u0
 have f := ms f e1
 simp
 repeat with_reducible refine sd ?_
 refine lp2 (K4.eq_2 a1) (fun v2_0 v2_1 => YP 59 [eI 0 a0, (5, .one (.sref 5 0 0 v2_0.length), [.arr false 1 (v2_0.map iR)]), eL 41 5 a1.Zj ZY.row, eI 42 (↑a1.Zj.length : Int), eI 43 (↑v2_1 : Int)]) (fun n2 v2_0 v2_1 => a1.Zj.length < n2 + v2_1 ∧ v2_1 ≤ a1.Zj.length ∧ v2_0.length ≤ 5 + 2 * 2326528 + 6 * v2_1) (a1.Zj.length + 1) (v1_0 ++ ([(↑a1.Zj.length : Int)] : List Int)) 0 (fun p2 v2_0 v2_1 e2 j2 => ?_) (hI := by (have o : a1.Path.length ≤ 2326528 := Yv (by simp (maxDischargeDepth := 12) [u0]); simp at *; omega)) (h0 := Yc [((5, 0), some (39, 0))] [] rfl (by simp))
 try dsimp only at j2
 refine cFo e2 ?_ ?_ <;> intro k5 h3 e2
 ·have q3 := h3; try simp at q3
  have i2 := ix h3
  have m4 := ml a1.Zj (k5 41 _ rfl)
  have c3 := sl 2326528 a1.Zj u0
  have w2 := wr v2_1
  simp [i2, ZA]
  repeat with_reducible refine sd ?_
  refine dIs mixed ?_
  refine cRs (Ym.rd (UQ (nth a1.Zj v2_1))) ?_
  exact nx2 e2 (hI := by (simp; omega)) (hw := Yc [((5, 0), some (54, 0))] [] rfl (by simp [w2]))
 have q3 := h3; try simp at q3
 have c4 := sl 2326528 a1.Zj u0
 have f := ms f e2
 simp
 refine cRs (KS a0 v2_0 (by first | (simp (maxDischargeDepth := 12) [X6]; omega) | (simp (maxDischargeDepth := 12) [Zi (m := 68719476736) (by decide) u0]; done))) ?_
 exact rt [.tmp 4] f
theorem Nf (a0 : Int) (a1 : List ZD) (u0 : Sm 2326528 a1) : Sa 372 [rI a0, rL 3 ZD.row a1] [rI (z1 a0 a1)] := by
 have f := me (z1.eq_1 a0 a1)
 refine so Tryz.func372 Tryz.ntmps372 ?_
 refine lp2 (yE.eq_2 a0 a1) (fun v1_0 v1_1 => YP 32 [eI 0 a0, (5, .one (.sref 5 0 0 v1_0.length), [.arr false 1 (v1_0.map iR)]), eL 9 3 a1 ZD.row, eI 10 (↑a1.length : Int), eI 11 (↑v1_1 : Int)]) (fun n1 v1_0 v1_1 => a1.length < n1 + v1_1 ∧ v1_1 ≤ a1.length ∧ v1_0.length ≤ 1 + 1 * v1_1) (a1.length + 1) ([2] : List Int) 0 (fun p1 v1_0 v1_1 e1 j1 => ?_) (h0 := Yc [((5, 0), some (8, 0))] [] rfl (by simp))
 refine cFf e1 ?_ ?_ <;> intro k2 h1 e1
 ·have i1 := ix h1
  have m2 := ml a1 (k2 9 _ rfl)
  have c1 := sl 2326528 a1 u0
  have w1 := wr v1_1
  have c2 := sl 2326528 (nth a1 v1_1).Zg u0
  simp [i1, ZA]
  repeat with_reducible refine sd ?_
  refine cRs (KS a0 (([(nth a1 v1_1).Key, (nth a1 v1_1).Mark] : List Int) ++ (nth a1 v1_1).Zg) (by simp (maxDischargeDepth := 12) [KY, X6, Zi (m := 68719476736) (by decide) u0]; try omega)) ?_
  exact nx2 e1 (hw := Yc [((5, 0), some (27, 0))] [] rfl (by simp [w1]))
 have c3 := sl 2326528 a1 u0
 have f := ms f e1
 refine cRs (KS a0 v1_0 (by first | (simp (maxDischargeDepth := 12) [X6]; omega) | (simp (maxDischargeDepth := 12) [Zi (m := 68719476736) (by decide) u0]; done))) ?_
 exact rt [.tmp 4] f
theorem Ua (a0 : Int) (a1 : Int) (a2 : List ZD) (a3 : Int) (u0 : Sm 2322432 a2) : Sa 363 [rI a0, rI a1, rL 3 ZD.row a2, rI a3] [rI (Ti a0 a1 a2 a3)] := by
 have f := me (Ti.eq_1 a0 a1 a2 a3)
 refine so Tryz.func363 Tryz.ntmps363 ?_
 refine cRs (Nf a0 a2 (sg u0)) ?_
 refine cRs (KS a0 ([3, a1, (z1 a0 a2), a3] : List Int) (by simp (maxDischargeDepth := 12) [KY, X6, Zi (m := 68719476736) (by decide) u0]; try omega)) ?_
 exact rt [.tmp 8] f
theorem Y4 {a b : Prop} (h : b) (k : a := by (intros; first | omega | with_unfolding_all (first | first | omega | (have cc : a0.ZX.length ≤ 2318336 := Yv (by simp (maxDischargeDepth := 12) [u0]); have z0 := g1x; simp at z0; have z := Ja (by omega) z0.1; have z2 := z0.2; (try have w3 : IntKind.i64.wrap (a2 - 1) = a2 - 1 := Zk (by omega) (by omega)); (try have w4 : W (a2 - 1) = a2 - 1 := w3); first | omega | (refine ⟨⟨z0.1, by omega⟩, by omega, by omega⟩) | (simp_all; omega))) | (simp_all; done) | (simp_all; omega) | grind | ((try simp only [Kb, show ∀ x, IntKind.i64.wrap x = W x from fun _ => rfl] at *); omega))) : a ∧ b := ⟨k, h⟩
theorem Br (a0 : ZP) (a1 : List Int) (a2 : Int) (u0 : Sm 2318336 a0) (u1 : Sm 2318336 a1) : Sa 353 [a0.row, rL 1 iR a1, rI a2] [rI (UJ a0 a1 a2)] := by
 have f := me (UJ.eq_1 a0 a1 a2)
 refine so Tryz.func353 Tryz.ntmps353 ?_
 refine dIs mixed ?_
 refine cRs (Z7 a2 0 (W ((↑a0.ZX.length : Int) - 1))) ?_
 refine gIo ?_ ?_ <;> intro G
 ·have g1x := G
  have c1 := sl 2318336 a0.ZX (an u0 u1)
  have w1 : IntKind.i64.wrap ((a0.ZX.length : Int) - 1) = (a0.ZX.length : Int) - 1 := Zk (by omega) (by omega)
  have g1 := G; try simp [Ze, w1] at g1
  have i1 : a2.toNat < a0.ZX.length := by (have cc : a0.ZX.length ≤ 2318336 := Yv (by simp (maxDischargeDepth := 12) [u0]); have z0 := g1x; simp at z0; have z := Ja (by omega) z0.1; have z2 := z0.2; (try have w3 : IntKind.i64.wrap (a2 - 1) = a2 - 1 := Zk (by omega) (by omega)); (try have w4 : W (a2 - 1) = a2 - 1 := w3); omega)
  simp [i1, ZA, G]
  repeat with_reducible refine Y4 ?_
  refine cGo (fun gg => (Z7 (nth a0.ZX a2.toNat).Count 0 (↑a0.Zd.length : Int))) ?_
  simp [G]
  repeat with_reducible refine Y4 ?_
  refine cKo f ?_ ?_ <;> intro k2 h1 f
  ·try (simp [G] at h1; done)
   all_goals
    have q1 := h1; try simp [Ze, w1] at q1
    simp [G]
    repeat with_reducible refine Y4 ?_
    exact rtg [.tmp 6] f
  ·try (simp [G] at h1; done)
   all_goals
    have q1 := h1; try simp [Ze, w1] at q1
    simp [i1, ZA, G]
    repeat with_reducible refine Y4 ?_
    refine cKo f ?_ ?_ <;> intro k3 h2 f
    ·try (simp [G] at h2; done)
     all_goals
      simp [G]
      repeat with_reducible refine Y4 ?_
      refine dIo mixed ?_
      have i2 : (W (a2 - 1)).toNat < a0.ZX.length := by (have cc : a0.ZX.length ≤ 2318336 := Yv (by simp (maxDischargeDepth := 12) [u0]); have z0 := g1x; simp at z0; have z := Ja (by omega) z0.1; have z2 := z0.2; (try have w3 : IntKind.i64.wrap (a2 - 1) = a2 - 1 := Zk (by omega) (by omega)); (try have w4 : W (a2 - 1) = a2 - 1 := w3); omega)
      simp [i2, ZA, G]
      repeat with_reducible refine Y4 ?_
      refine cR (UI (nth a0.ZX a2.toNat).Method (nth a0.ZX (W (a2 - 1)).toNat) (sg (Z3 (ZP.Qc u0)))) ?_ (hrows := by first | (simp; done) | (simp [W, w1]; done))
      simp [G]
      repeat with_reducible refine Y4 ?_
      refine dIo mixed ?_
      have i3 : a2.toNat < a1.length := by (have cc : a0.ZX.length ≤ 2318336 := Yv (by simp (maxDischargeDepth := 12) [u0]); have z0 := g1x; simp at z0; have z := Ja (by omega) z0.1; have z2 := z0.2; (try have w3 : IntKind.i64.wrap (a2 - 1) = a2 - 1 := Zk (by omega) (by omega)); (try have w4 : W (a2 - 1) = a2 - 1 := w3); omega)
      simp [i3, ZA, G]
      repeat with_reducible refine Y4 ?_
      refine cR (Ua (nth a0.ZX a2.toNat).Method (nth a1 a2.toNat) (a0.Zd.take (nth a0.ZX a2.toNat).Count.toNat) (J4 (nth a0.ZX a2.toNat).Method (nth a0.ZX (W (a2 - 1)).toNat)) (Zi (n := 2318336) (by decide) (by simp (maxDischargeDepth := 12) [u0, u1]))) ?_ (hrows := by first | (simp; done) | (simp [W, w1]; done))
      simp [G]
      repeat with_reducible refine Y4 ?_
      exact rtg [.tmp 6] f
    ·try (simp [G] at h2; done)
     all_goals
      simp [G]
      repeat with_reducible refine Y4 ?_
      refine dIo mixed ?_
      have i4 : a2.toNat < a1.length := by (have cc : a0.ZX.length ≤ 2318336 := Yv (by simp (maxDischargeDepth := 12) [u0]); have z0 := g1x; simp at z0; have z := Ja (by omega) z0.1; have z2 := z0.2; (try have w3 : IntKind.i64.wrap (a2 - 1) = a2 - 1 := Zk (by omega) (by omega)); (try have w4 : W (a2 - 1) = a2 - 1 := w3); omega)
      simp [i4, ZA, G]
      repeat with_reducible refine Y4 ?_
      refine cR (Ua (nth a0.ZX a2.toNat).Method (nth a1 a2.toNat) (a0.Zd.take (nth a0.ZX a2.toNat).Count.toNat) 0 (Zi (n := 2318336) (by decide) (by simp (maxDischargeDepth := 12) [u0, u1]))) ?_
      simp [G]
      repeat with_reducible refine Y4 ?_
      exact rtg [.tmp 6] f
 ·have g1x := G
  simp [G]
  repeat with_reducible refine Y4 ?_
  refine sGo ?_
  simp [G]
  repeat with_reducible refine Y4 ?_
  have c2 := sl 2318336 a0.ZX (an u0 u1)
  have w2 : IntKind.i64.wrap ((a0.ZX.length : Int) - 1) = (a0.ZX.length : Int) - 1 := Zk (by omega) (by omega)
  refine cKo f ?_ ?_ <;> intro k7 h3 f
  ·try (simp [G] at h3; done)
   all_goals
    have q3 := h3; try simp [Ze, w2] at q3
    simp [G]
    repeat with_reducible refine Y4 ?_
    exact rtg [.tmp 6] f
  ·try (simp [G] at h3; done)
   all_goals
    have q3 := h3; try simp [Ze, w2] at q3
    have i6 : a2.toNat < a0.ZX.length := by (have cc : a0.ZX.length ≤ 2318336 := Yv (by simp (maxDischargeDepth := 12) [u0]); have z0 := g1x; simp at z0; have z := Ja (by omega) z0.1; have z2 := z0.2; (try have w3 : IntKind.i64.wrap (a2 - 1) = a2 - 1 := Zk (by omega) (by omega)); (try have w4 : W (a2 - 1) = a2 - 1 := w3); omega)
    simp [i6, ZA, G]
    repeat with_reducible refine Y4 ?_
    refine cKo f ?_ ?_ <;> intro k8 h4 f
    ·try (simp [G] at h4; done)
     all_goals
      simp [G]
      repeat with_reducible refine Y4 ?_
      refine dIo mixed ?_
      have i7 : (W (a2 - 1)).toNat < a0.ZX.length := by (have cc : a0.ZX.length ≤ 2318336 := Yv (by simp (maxDischargeDepth := 12) [u0]); have z0 := g1x; simp at z0; have z := Ja (by omega) z0.1; have z2 := z0.2; (try have w3 : IntKind.i64.wrap (a2 - 1) = a2 - 1 := Zk (by omega) (by omega)); (try have w4 : W (a2 - 1) = a2 - 1 := w3); omega)
      simp [i7, ZA, G]
      repeat with_reducible refine Y4 ?_
      refine cR (UI (nth a0.ZX a2.toNat).Method (nth a0.ZX (W (a2 - 1)).toNat) (sg (Z3 (ZP.Qc u0)))) ?_ (hrows := by first | (simp; done) | (simp [W, w2]; done))
      simp [G]
      repeat with_reducible refine Y4 ?_
      refine dIo mixed ?_
      have i8 : a2.toNat < a1.length := by (have cc : a0.ZX.length ≤ 2318336 := Yv (by simp (maxDischargeDepth := 12) [u0]); have z0 := g1x; simp at z0; have z := Ja (by omega) z0.1; have z2 := z0.2; (try have w3 : IntKind.i64.wrap (a2 - 1) = a2 - 1 := Zk (by omega) (by omega)); (try have w4 : W (a2 - 1) = a2 - 1 := w3); omega)
      simp [i8, ZA, G]
      repeat with_reducible refine Y4 ?_
      refine cR (Ua (nth a0.ZX a2.toNat).Method (nth a1 a2.toNat) (a0.Zd.take (nth a0.ZX a2.toNat).Count.toNat) (J4 (nth a0.ZX a2.toNat).Method (nth a0.ZX (W (a2 - 1)).toNat)) (Zi (n := 2318336) (by decide) (by simp (maxDischargeDepth := 12) [u0, u1]))) ?_ (hrows := by first | (simp; done) | (simp [W, w2]; done))
      simp [G]
      repeat with_reducible refine Y4 ?_
      exact rtg [.tmp 6] f
    ·try (simp [G] at h4; done)
     all_goals
      simp [G]
      repeat with_reducible refine Y4 ?_
      refine dIo mixed ?_
      have i9 : a2.toNat < a1.length := by (have cc : a0.ZX.length ≤ 2318336 := Yv (by simp (maxDischargeDepth := 12) [u0]); have z0 := g1x; simp at z0; have z := Ja (by omega) z0.1; have z2 := z0.2; (try have w3 : IntKind.i64.wrap (a2 - 1) = a2 - 1 := Zk (by omega) (by omega)); (try have w4 : W (a2 - 1) = a2 - 1 := w3); omega)
      simp [i9, ZA, G]
      repeat with_reducible refine Y4 ?_
      refine cR (Ua (nth a0.ZX a2.toNat).Method (nth a1 a2.toNat) (a0.Zd.take (nth a0.ZX a2.toNat).Count.toNat) 0 (Zi (n := 2318336) (by decide) (by simp (maxDischargeDepth := 12) [u0, u1]))) ?_
      simp [G]
      repeat with_reducible refine Y4 ?_
      exact rtg [.tmp 6] f
theorem RR (a0 : Int) (a1 : Int) (a2 : Int) : Sa 370 [rI a0, rI a1, rI a2] [rI (qE a0 a1 a2)] := by
 have f := me (qE.eq_1 a0 a1 a2)
 refine so Tryz.func370 Tryz.ntmps370 ?_
 refine cRs (KS a0 ([1, a1, a2] : List Int) (by simp (maxDischargeDepth := 12) [KY, X6]; try omega)) ?_
 exact rt [.tmp 6] f
theorem IG (a0 : Int) (a1 : Int) (a2 : List Ya) : Sa 360 [rI a0, rI a1, rL 2 Ya.row a2] [rI (jY a0 a1 a2)] := by
 have f := me (jY.eq_1 a0 a1 a2)
 refine so Tryz.func360 Tryz.ntmps360 ?_
 refine lp2 (zg.eq_2 a0 a2) (fun v1_0 v1_1 => YP 29 [eI 0 a0, eI 1 v1_0, eL 9 2 a2 Ya.row, eI 10 (↑a2.length : Int), eI 11 (↑v1_1 : Int)]) (fun n1 v1_0 v1_1 => a2.length < n1 + v1_1 ∧ v1_1 ≤ a2.length) (a2.length + 1) a1 0 (fun p1 v1_0 v1_1 e1 j1 => ?_)
 refine cFf e1 ?_ ?_ <;> intro k2 h1 e1
 ·have i1 := ix h1
  have m2 := ml a2 (k2 9 _ rfl)
  have w1 := wr v1_1
  simp [i1, ZA]
  repeat with_reducible refine sd ?_
  refine cF e1 ?_ ?_ <;> intro k3 h2 e1
  ·refine cRs (RR a0 (nth a2 v1_1).Yz v1_0) ?_
   exact ny2 w1 e1
  refine cRs (RR a0 v1_0 (nth a2 v1_1).Yz) ?_
  exact ny2 w1 e1
 have f := ms f e1
 exact rt [.tmp 6] f
theorem ym (a0 : List ZY) : Sa 267 [rL 5 ZY.row a0] [rB (Y8 a0)] := by
 have f := me (Y8.eq_1 a0)
 refine so Tryz.func267 Tryz.ntmps267 ?_
 refine lp1 (JL.eq_2 a0) (fun v1_0 => YP 22 [eL 0 5 a0 ZY.row, eI 3 (↑v1_0 : Int)]) (fun n1 v1_0 => a0.length < n1 + v1_0 ∧ 1 ≤ v1_0) (a0.length + 1) 1 (fun p1 v1_0 e1 j1 => ?_)
 refine cF e1 ?_ ?_ <;> intro k2 h1 e1
 ·have i1 := ix h1
  have m2 := ml a0 (k2 0 _ rfl)
  have w1 := wr v1_0
  refine dIo mixed ?_
  have i2 := ik (v1_0 - 1) a0
  have w2 : IntKind.i64.wrap ((v1_0 : Int) - 1) = (v1_0 : Int) - 1 := Zk (by omega) (by omega)
  simp [i2, ZA, w2, Qz, i1]
  repeat with_reducible refine sd ?_
  refine cF e1 ?_ ?_ <;> intro k4 h2 e1
  ·have f := ms f e1
   exact rt [.tmp 2] f
  exact ny1 (an w1 w2) e1
 have f := ms f e1
 exact rt [.tmp 2] f
theorem HM (a0 : List Zs) (a1 : List ZG) (a2 : ZY) (u0 : Sm 2318336 a0) (u1 : Sm 2318336 a1) : Sa 371 [rL 5 Zs.row a0, rL 3 ZG.row a1, a2.row] [(Jg a0 a1 a2).1.row, rB (Jg a0 a1 a2).2] := by
 have f := me (Jg.eq_1 a0 a1 a2)
 refine so Tryz.func371 Tryz.ntmps371 ?_
 refine cRs (qu a1 a2.Authority) ?_
 refine cGs (fun gg => (yW a2.Time)) ?_
 refine cF f ?_ ?_ <;> intro k1 h1 f
 ·exact rt [.cell 6 279, .tmp 7] f
 refine dIo mixed ?_
 have i1 : (YC a1 a2.Authority).toNat < a1.length := by have := ye a1 a2.Authority; exact il
 simp [i1, ZA]
 repeat with_reducible refine sd ?_
 refine cRs (Ym.rd (UQ a2)) ?_
 refine cRs (LN a0 (nth a1 (YC a1 a2.Authority).toNat).Key (JI a2) (sg u0) (by simp (maxDischargeDepth := 12) [H9, Zi (m := 2322432) (by decide) u0, Zi (m := 2322432) (by decide) u1]; try omega)) ?_
 refine cF f ?_ ?_ <;> intro k3 h2 f
 ·exact rt [.cell 6 279, .tmp 7] f
 exact rt [.cell 6 279, .tmp 7] f
theorem Ie (a0 : List Zs) (a1 : List ZG) (a2 : ZY) (u0 : Sm 2314240 a0) (u1 : Sm 2314240 a1) : Sa 361 [rL 5 Zs.row a0, rL 3 ZG.row a1, a2.row] [rB (jb a0 a1 a2)] := by
 have f := me (jb.eq_1 a0 a1 a2)
 refine so Tryz.func361 Tryz.ntmps361 ?_
 refine cRs (HM a0 a1 a2 (sg u0) (sg u1)) ?_
 exact rt [.tmp 6] f
theorem Oo (a0 : List Zs) (a1 : List ZG) (a2 : ZK) (a3 : Int) (u0 : Sm 2310144 a0) (u1 : Sm 2310144 a1) (u2 : Sm 2310144 a2) : Sa 352 [rL 5 Zs.row a0, rL 3 ZG.row a1, a2.row, rI a3] [rB (zi a0 a1 a2 a3)] := by
 have f := me (zi.eq_1 a0 a1 a2 a3)
 refine so Tryz.func352 Tryz.ntmps352 ?_
 refine dIs mixed ?_
 refine cGs (fun gg => (IG a2.Method a3 a2.Path)) ?_
 refine cGs (fun gg => (Z7 (↑a2.Zj.length : Int) 1 6)) ?_
 refine cGs (fun gg => (ym a2.Zj)) ?_
 refine cFo f ?_ ?_ <;> intro k2 h1 f
 ·have q1 := h1; try simp [Ze] at q1
  simp
  exact rt [.tmp 8] f
 have q1 := h1; try simp [Ze] at q1
 simp
 refine lp1 (zm.eq_2 a0 a1 a2) (fun v1_0 => YP 59 [eL 0 5 a0 Zs.row, eL 1 3 a1 ZG.row, eX 6 (a2.row.map .d), eL 40 5 a2.Zj ZY.row, eI 41 (↑a2.Zj.length : Int), eI 42 (↑v1_0 : Int)]) (fun n1 v1_0 => a2.Zj.length < n1 + v1_0 ∧ v1_0 ≤ a2.Zj.length) (a2.Zj.length + 1) 0 (fun p1 v1_0 e1 j1 => ?_)
 refine cFf e1 ?_ ?_ <;> intro k4 h2 e1
 ·have i1 := ix h2
  have m2 := ml a2.Zj (k4 40 _ rfl)
  have c1 := sl 2310144 a2.Zj (an u0 (an u1 u2))
  have w1 := wr v1_0
  simp [i1, ZA]
  repeat with_reducible refine sd ?_
  refine cGs (fun gg => (Ie a0 a1 (nth a2.Zj v1_0) (sg u0) (sg u1))) ?_
  refine cF e1 ?_ ?_ <;> intro k5 h3 e1
  ·have f := ms f e1
   exact rt [.tmp 8] f
  exact ny1 w1 e1
 have c2 := sl 2310144 a2.Zj (an u0 (an u1 u2))
 have f := ms f e1
 exact rt [.tmp 8] f
theorem Ig (a0 : List Zh) (a1 : Int) : Sa 261 [rL 4 Zh.row a0, rI a1] [rI (K6 a0 a1)] := by
 have f := me (K6.eq_1 a0 a1)
 refine so Tryz.func261 Tryz.ntmps261 ?_
 refine lp1 (yD.eq_2 a0 a1) (fun v1_0 => YP 20 [eI 1 a1, eL 7 4 a0 Zh.row, eI 8 (↑a0.length : Int), eI 9 (↑v1_0 : Int)]) (fun n1 v1_0 => a0.length < n1 + v1_0 ∧ v1_0 ≤ a0.length) (a0.length + 1) 0 (fun p1 v1_0 e1 j1 => ?_)
 refine cFf e1 ?_ ?_ <;> intro k2 h1 e1
 ·have i1 := ix h1
  have m2 := ml a0 (k2 7 _ rfl)
  have w1 := wr v1_0
  simp [i1, ZA]
  repeat with_reducible refine sd ?_
  refine cF e1 ?_ ?_ <;> intro k3 h2 e1
  ·have f := ms f e1
   exact rt [.tmp 4] f
  exact ny1 w1 e1
 have f := ms f e1
 exact rt [.tmp 4] f
theorem VF (a0 : List Zh) (a1 : Int) : Sa 201 [rL 4 Zh.row a0, rI a1] [rI (zx a0 a1)] := by
 have f := me (zx.eq_1 a0 a1)
 refine so Tryz.func201 Tryz.ntmps201 ?_
 refine cRs (Ig a0 a1) ?_
 refine cFf f ?_ ?_ <;> intro k1 h1 f
 ·have i1 : (K6 a0 a1).toNat < a0.length := by have := IQ a0 a1; exact il
  simp [i1, ZA]
  repeat with_reducible refine sd ?_
  exact rt [.tmp 4] f
 exact rt [.tmp 4] f
theorem TG (a0 : List ZG) (a1 : ZY) : Sa 270 [rL 3 ZG.row a0, a1.row] [rI (Xs a0 a1)] := by
 have f := me (Xs.eq_1 a0 a1)
 refine so Tryz.func270 Tryz.ntmps270 ?_
 refine cRs (qu a0 a1.Authority) ?_
 refine cFf f ?_ ?_ <;> intro k1 h1 f
 ·have i1 : (YC a0 a1.Authority).toNat < a0.length := by have := ye a0 a1.Authority; exact il
  simp [i1, ZA]
  repeat with_reducible refine sd ?_
  exact rt [.tmp 4] f
 exact rt [.tmp 4] f
theorem Nd (a0 : List Zs) (a1 : List ZG) (a2 : List Zh) (a3 : ZK) : Sa 364 [rL 5 Zs.row a0, rL 3 ZG.row a1, rL 4 Zh.row a2, a3.row] [rI (z6 a0 a1 a2 a3)] := by
 have f := me (z6.eq_1 a0 a1 a2 a3)
 refine so Tryz.func364 Tryz.ntmps364 ?_
 refine cRs (VF a2 a3.Method) ?_
 refine lp2 (yB.eq_2 a0 a1 a2 a3) (fun v1_0 v1_1 => YP 42 [eL 0 5 a0 Zs.row, eL 1 3 a1 ZG.row, eL 2 4 a2 Zh.row, eI 9 v1_0, eL 18 5 a3.Zj ZY.row, eI 19 (↑a3.Zj.length : Int), eI 20 (↑v1_1 : Int)]) (fun n1 v1_0 v1_1 => a3.Zj.length < n1 + v1_1 ∧ v1_1 ≤ a3.Zj.length) (a3.Zj.length + 1) (zx a2 a3.Method) 0 (fun p1 v1_0 v1_1 e1 j1 => ?_)
 refine cFf e1 ?_ ?_ <;> intro k2 h1 e1
 ·have i1 := ix h1
  have m2 := ml a3.Zj (k2 18 _ rfl)
  have w1 := wr v1_1
  simp [i1, ZA]
  repeat with_reducible refine sd ?_
  refine cRs (TG a1 (nth a3.Zj v1_1)) ?_
  refine cRs (qA a0 (Xs a1 (nth a3.Zj v1_1))) ?_
  refine cFt e1 ?_ ?_ <;> intro k3 h2 e1
  ·have f := ms f e1
   exact rt [.tmp 8] f
  have i2 : (Yx a0 (Xs a1 (nth a3.Zj v1_1))).toNat < a0.length := by have := kD a0 (Xs a1 (nth a3.Zj v1_1)); exact il
  simp [i2, ZA]
  repeat with_reducible refine sd ?_
  refine cRs (VF a2 (nth a0 (Yx a0 (Xs a1 (nth a3.Zj v1_1))).toNat).Method) ?_
  exact ny2 w1 e1
 have f := ms f e1
 exact rt [.tmp 8] f
theorem PG {a b : Prop} (h : b) (k : a := by (intros; first | omega | with_unfolding_all (first | (first | omega | (have mm : a1.ZX.length ≤ 2306048 := Yv (by simp (maxDischargeDepth := 12) [u1]); have ww := Rz a1.ZX.length (by omega); (try rw [ww] at q1); (try rw [ww] at q2); have w3 : W (a2 + 1) = a2 + 1 := Zk (by omega) (by omega); have w4 : IntKind.i64.wrap (a2 + 1) = a2 + 1 := w3; omega))) | ((try simp only [Kb, show ∀ x, IntKind.i64.wrap x = W x from fun _ => rfl] at *); omega))) : a ∧ b := ⟨k, h⟩
theorem R0 (a0 : ZI) (a1 : ZP) (a2 : Int) (u0 : Sm 2306048 a0) (u1 : Sm 2306048 a1) : Sa 354 [a0.row, a1.row, rI a2] [rB (jE a0 a1 a2)] := by
 have f := me (jE.eq_1 a0 a1 a2)
 refine so Tryz.func354 Tryz.ntmps354 ?_
 refine cRs (Z7 a2 0 (W ((↑a1.ZX.length : Int) - 1))) ?_
 have c1 := sl 2306048 a1.ZX (an u0 u1)
 have w1 : IntKind.i64.wrap ((a1.ZX.length : Int) - 1) = (a1.ZX.length : Int) - 1 := Zk (by omega) (by omega)
 refine cFo f ?_ ?_ <;> intro k1 h1 f
 ·have q1 := h1; try simp [Ze, w1] at q1
  simp
  exact rt [.tmp 6] f
 have q1 := h1; try simp [Ze, w1] at q1
 simp
 refine dIo mixed ?_
 have i1 : a2.toNat < a1.ZX.length := by (have mm : a1.ZX.length ≤ 2306048 := Yv (by simp (maxDischargeDepth := 12) [u1]); (try simp [Ze] at q1); have ww := Rz a1.ZX.length (by omega); first | omega | ((try rw [ww] at q1); (try rw [ww] at q2); have w3 : W (a2 + 1) = a2 + 1 := Zk (by omega) (by omega); omega))
 simp [i1, ZA]
 repeat with_reducible refine PG ?_
 refine cRs (Nd a0.YY a0.ZN a0.Methods (nth a1.ZX a2.toNat)) ?_
 refine cFo f ?_ ?_ <;> intro k3 h2 f
 ·have q2 := h2; try simp [w1] at q2
  simp
  exact rt [.tmp 6] f
 have q2 := h2; try simp [w1] at q2
 simp
 refine dIo mixed ?_
 have i2 : (W (a2 + 1)).toNat < a1.ZX.length := by (have mm : a1.ZX.length ≤ 2306048 := Yv (by simp (maxDischargeDepth := 12) [u1]); (try simp [Ze] at q1); have ww := Rz a1.ZX.length (by omega); first | omega | ((try rw [ww] at q1); (try rw [ww] at q2); have w3 : W (a2 + 1) = a2 + 1 := Zk (by omega) (by omega); omega))
 simp [i2, ZA]
 repeat with_reducible refine PG ?_
 refine cRs (je a0 (nth a1.ZX (W (a2 + 1)).toNat) (sg u0) (sg (Z3 (ZP.Qc u1)))) ?_ (hrows := by first | (simp; done) | (simp [W, w1]; done))
 exact rt [.tmp 6] f
theorem Gh (a0 : ZI) (a1 : ZP) (a2 : List Int) (u0 : Sm 2301952 a0) (u1 : Sm 2301952 a1) (u2 : Sm 2301952 a2) : Sa 341 [a0.row, a1.row, rL 1 iR a2] [rI (K9 a0 a1 a2)] := by
 have f := me (K9.eq_1 a0 a1 a2)
 refine so Tryz.func341 Tryz.ntmps341 ?_
 refine okL fun k1 => ?_
 refine lp1 (zT.eq_2 a0 a1 a2) (fun v1_0 => YP 58 [eL 2 1 a2 iR, eX 3 (a0.row.map .d), eX 4 (a1.row.map .d), eI 7 (↑v1_0 : Int)]) (fun n1 v1_0 => v1_0 < n1 ∧ v1_0 ≤ a1.ZX.length) (a1.ZX.length + 1) a1.ZX.length (fun p1 v1_0 e1 j1 => ?_)
 refine cFo e1 ?_ ?_ <;> intro k2 h1 e1
 ·have q1 := h1; try simp at q1
  have m1 := ml a1.ZX (k1 11 _ rfl)
  have w1 : IntKind.i64.wrap ((v1_0 : Int) - 1) = (v1_0 : Int) - 1 := Zk (by omega) (by omega)
  have w2 : ((v1_0 - 1 : Nat) : Int) = (v1_0 : Int) - 1 := by omega
  simp
  refine dIo mixed ?_
  have i2 := ik (v1_0 - 1) a1.ZX
  simp [i2, ZA, w1, Qz]
  repeat with_reducible refine sd ?_
  refine cRs (je a0 (nth a1.ZX (v1_0 - 1)) (sg u0) (sg (Z3 (ZP.Qc u1)))) ?_
  refine dIs mixed ?_
  refine gIf ?_ ?_ <;> intro G
  ·have g1x := G
   have g1 := G; try simp at g1
   simp [i2, ZA, w1, Qz, G]
   repeat with_reducible refine sdg ?_
   refine vZ rfl rfl rfl rfl rfl rfl (fun gg => (Br a1 a2 (W ((↑v1_0 : Int) - 1)) (sg u1) (sg u2))) (by first | (simp; done) | (simp [G]; done) | (simp [G]; omega) | (simp_all; done)) (by first | (simp; done) | (simp [G]; done) | (simp [G]; omega) | (simp_all; done)) (by first | (simp; done) | (simp [G]; done) | (simp [G]; omega) | (simp_all; done)) (by first | (simp; done) | (simp [G]; done) | (simp [G]; omega) | (simp_all; done)) ?_
   simp [G]
   repeat with_reducible refine sdg ?_
   refine vZ rfl rfl rfl rfl rfl rfl (fun gg => (Oo a0.YY a0.ZN (nth a1.ZX (v1_0 - 1)) (UJ a1 a2 (W ((↑v1_0 : Int) - 1))) (sg (ZI.Ye u0)) (sg (ZI.Q7 u0)) (sg (Z3 (ZP.Qc u1))))) (by first | (simp; done) | (simp [G]; done) | (simp [G]; omega) | (simp_all; done)) (by first | (simp; done) | (simp [G]; done) | (simp [G]; omega) | (simp_all; done)) (by first | (simp; done) | (simp [G]; done) | (simp [G]; omega) | (simp_all; done)) (by first | (simp; done) | (simp [G]; done) | (simp [G]; omega) | (simp_all; done)) ?_
   simp [G]
   repeat with_reducible refine sdg ?_
   refine vZ rfl rfl rfl rfl rfl rfl (fun gg => (R0 a0 a1 (W ((↑v1_0 : Int) - 1)) (sg u0) (sg u1))) (by first | (simp; done) | (simp [G]; done) | (simp [G]; omega) | (simp_all; done)) (by first | (simp; done) | (simp [G]; done) | (simp [G]; omega) | (simp_all; done)) (by first | (simp; done) | (simp [G]; done) | (simp [G]; omega) | (simp_all; done)) (by first | (simp; done) | (simp [G]; done) | (simp [G]; omega) | (simp_all; done)) ?_
   simp [G]
   repeat with_reducible refine sdg ?_
   refine cKo e1 ?_ ?_ <;> intro k5 h2 e1
   ·try (simp [G] at h2; done)
    all_goals
     have q2 := h2; try simp [w1, w2] at q2
     have f := ms f e1
     simp [G]
     repeat with_reducible refine sdg ?_
     exact rtg [.tmp 6] f
   ·try (simp [G] at h2; done)
    all_goals
     have q2 := h2; try simp [w1, w2] at q2
     simp [G]
     repeat with_reducible refine sdg ?_
     exact ny1 (an w1 (an w2 G)) e1
  ·have g1x := G
   refine sGo ?_
   simp [G]
   repeat with_reducible refine sdg ?_
   refine sGo ?_
   simp [G]
   repeat with_reducible refine sdg ?_
   refine vZ rfl rfl rfl rfl rfl rfl (fun gg => (R0 a0 a1 (W ((↑v1_0 : Int) - 1)) (sg u0) (sg u1))) (by first | (simp; done) | (simp [G]; done) | (simp [G]; omega) | (simp_all; done)) (by first | (simp; done) | (simp [G]; done) | (simp [G]; omega) | (simp_all; done)) (by first | (simp; done) | (simp [G]; done) | (simp [G]; omega) | (simp_all; done)) (by first | (simp; done) | (simp [G]; done) | (simp [G]; omega) | (simp_all; done)) ?_
   simp [G]
   repeat with_reducible refine sdg ?_
   refine cKo e1 ?_ ?_ <;> intro k6 h3 e1
   ·try (simp [G] at h3; done)
    all_goals
     have q3 := h3; try simp [w1, w2] at q3
     have f := ms f e1
     simp [G]
     repeat with_reducible refine sdg ?_
     exact rtg [.tmp 6] f
   ·try (simp [G] at h3; done)
    all_goals
     have q3 := h3; try simp [w1, w2] at q3
     simp [G]
     repeat with_reducible refine sdg ?_
     exact ny1 (an w1 (an w2 G)) e1
 have q1 := h1; try simp at q1
 have f := ms f e1
 simp
 exact rt [.tmp 6] f
theorem Dq (a0 : ZI) (a1 : ZP) (a2 : List Int) (a3 : Int) (u0 : Sm 2297856 a0) (u1 : Sm 2297856 a1) (u2 : Sm 2297856 a2) : Sa 311 [a0.row, a1.row, rL 1 iR a2, rI a3] [rI (SA a0 a1 a2 a3)] := by
 have f := me (SA.eq_1 a0 a1 a2 a3)
 refine so Tryz.func311 Tryz.ntmps311 ?_
 refine cRs (Gh a0 a1 a2 (sg u0) (sg u1) (sg u2)) ?_
 refine lp2 (jA.eq_2 a0 a1 a3) (fun v1_0 v1_1 => YP 49 [eI 3 a3, eX 4 (a0.row.map .d), eX 5 (a1.row.map .d), eI 9 v1_0, eI 10 v1_1]) (fun n1 v1_0 v1_1 => (a1.ZX.length : Int) + 1 < n1 + v1_1 ∧ 0 ≤ v1_1 ∧ v1_1 ≤ a1.ZX.length) (a1.ZX.length + 2) a0.Now (K9 a0 a1 a2) (fun p1 v1_0 v1_1 e1 j1 => ?_) (hI := by (have z := Io a0 a1 a2; (try dsimp only); omega))
 try dsimp only at j1
 refine cF e1 ?_ ?_ <;> intro k2 h1 e1
 ·refine okD fun k3 => ?_
  refine dIo mixed ?_
  have i1 := ik v1_1.toNat a1.ZX
  simp [i1, ZA]
  repeat with_reducible refine sd ?_
  refine cRf i1 (je a0 (nth a1.ZX v1_1.toNat) (sg u0) (sg (Z3 (ZP.Qc u1)))) ?_
  refine cF e1 ?_ ?_ <;> intro k4 h2 e1
  ·exact nx2 e1 (hI := by (have cc : a1.ZX.length ≤ 2297856 := Yv (by simp (maxDischargeDepth := 12) [u1]); have w2 : W (v1_1 + 1) = v1_1 + 1 := Zk (by simp at *; omega) (by simp at *; omega); (try dsimp only); rw [w2]; simp at *; omega))
  exact nx2 e1 (hI := by (have cc : a1.ZX.length ≤ 2297856 := Yv (by simp (maxDischargeDepth := 12) [u1]); have w2 : W (v1_1 + 1) = v1_1 + 1 := Zk (by simp at *; omega) (by simp at *; omega); (try dsimp only); rw [w2]; simp at *; omega))
 have f := ms f e1
 exact rt [.tmp 8] f
theorem Lz (a0 : ZI) (a1 : ZP) (a2 : List Int) (a3 : ZD) (u0 : Sm 2293760 a0) (u1 : Sm 2293760 a1) (u2 : Sm 2293760 a2) (u3 : Sm 2293760 a3) : Sa 260 [a0.row, a1.row, rL 1 iR a2, a3.row] [rI (xz a0 a1 a2 a3)] := by
 have f := me (xz.eq_1 a0 a1 a2 a3)
 refine so Tryz.func260 Tryz.ntmps260 ?_
 refine cRs (H5 a1 a3) ?_
 refine cF f ?_ ?_ <;> intro k1 h1 f
 ·exact rt [.tmp 8] f
 refine cRs (Dq a0 a1 a2 (y9 a1 a3) (sg u0) (sg u1) (sg u2)) ?_
 exact rt [.tmp 8] f
theorem Vn (a0 : ZI) (a1 : ZL) (a2 : List (List Int)) (a3 : ZD) (u0 : Sm 2289664 a0) (u1 : Sm 2289664 a1) (u2 : Sm 2289664 a2) (u3 : Sm 2289664 a3) : Sa 198 [a0.row, a1.row, rL 1 (slR 1 iR) a2, a3.row] [rI (Yk a0 a1 a2 a3)] := by
 have f := me (Yk.eq_1 a0 a1 a2 a3)
 refine so Tryz.func198 Tryz.ntmps198 ?_
 refine lp2 (QT.eq_2 a0 a1 a2 a3) (fun v1_0 v1_1 => YP 38 [eL 2 1 a2 (slR 1 iR), eX 4 (a0.row.map .d), eX 7 (a3.row.map .d), eI 9 v1_0, eL 15 2 a1.ZO ZP.row, eI 16 (↑a1.ZO.length : Int), eI 17 (↑v1_1 : Int)]) (fun n1 v1_0 v1_1 => a1.ZO.length < n1 + v1_1 ∧ v1_1 ≤ a1.ZO.length) (a1.ZO.length + 1) a0.Now 0 (fun p1 v1_0 v1_1 e1 j1 => ?_)
 refine cFf e1 ?_ ?_ <;> intro k2 h1 e1
 ·have i1 := ix h1
  have m2 := ml a1.ZO (k2 15 _ rfl)
  have c1 := sl 2289664 a1.ZO (an u0 (an u1 (an u2 u3)))
  have w1 := wr v1_1
  simp [i1, ZA]
  repeat with_reducible refine sd ?_
  refine cF e1 ?_ ?_ <;> intro k3 h2 e1
  ·have i2 := ix h2
   have m4 := ml a2 (k3 2 _ rfl)
   have c2 := sl 2289664 a2 (an u0 (an u1 (an u2 u3)))
   have w2 := wr v1_1
   refine dIo mixed ?_
   simp [i2, ZA]
   repeat with_reducible refine sd ?_
   refine cRs (Lz a0 (nth a1.ZO v1_1) (nth a2 v1_1) a3 (sg u0) (sg (Z3 (ZL.Yl u1))) (sg (Z3 u2)) (sg u3)) ?_
   exact ny2 w2 e1
  have c3 := sl 2289664 a2 (an u0 (an u1 (an u2 u3)))
  exact ny2 w1 e1
 have c4 := sl 2289664 a1.ZO (an u0 (an u1 (an u2 u3)))
 have f := ms f e1
 exact rt [.tmp 8] f
theorem RP (a0 : ZI) (a1 : Int) : Sa 200 [a0.row, rI a1] [rI (KJ a0 a1)] := by
 have f := me (KJ.eq_1 a0 a1)
 refine so Tryz.func200 Tryz.ntmps200 ?_
 refine cRs (qA a0.YY a1) ?_
 refine cF f ?_ ?_ <;> intro k1 h1 f
 ·exact rt [.tmp 4] f
 refine dIo mixed ?_
 have i1 : (Yx a0.YY a1).toNat < a0.YY.length := by have := kD a0.YY a1; exact il
 simp [i1, ZA]
 repeat with_reducible refine sd ?_
 refine cRs (VF a0.Methods (nth a0.YY (Yx a0.YY a1).toNat).Method) ?_
 exact rt [.tmp 4] f
theorem TF (a0 : List ZD) (a1 : ZD) : Sa 262 [rL 3 ZD.row a0, a1.row] [rB (Ql a0 a1)] := by
 have f := me (Ql.eq_1 a0 a1)
 refine so Tryz.func262 Tryz.ntmps262 ?_
 refine lp1 (qI.eq_2 a0 a1) (fun v1_0 => YP 17 [eX 3 (a1.row.map .d), eL 7 3 a0 ZD.row, eI 8 (↑a0.length : Int), eI 9 (↑v1_0 : Int)]) (fun n1 v1_0 => a0.length < n1 + v1_0 ∧ v1_0 ≤ a0.length) (a0.length + 1) 0 (fun p1 v1_0 e1 j1 => ?_)
 refine cFf e1 ?_ ?_ <;> intro k2 h1 e1
 ·have i1 := ix h1
  have m2 := ml a0 (k2 7 _ rfl)
  have w1 := wr v1_0
  simp [i1, ZA]
  repeat with_reducible refine sd ?_
  refine cRs (Tq (nth a0 v1_0) a1) ?_
  refine cF e1 ?_ ?_ <;> intro k3 h2 e1
  ·have f := ms f e1
   exact rt [.tmp 4] f
  exact ny1 w1 e1
 have f := ms f e1
 exact rt [.tmp 4] f
theorem KW (a0 : ZD) : Sa 312 [a0.row] [rI (Z2 a0)] := by
 have f := me (Z2.eq_1 a0)
 refine so Tryz.func312 Tryz.ntmps312 ?_
 refine dIs mixed ?_
 refine gIf ?_ ?_ <;> intro G
 ·have i1 := ik 0 a0.Zg
  simp [i1, ZA, G]
  repeat with_reducible refine sdg ?_
  refine cGg (fun gg => (Z7 (nth a0.Zg 0) 101 105)) ?_
  refine gJf G ?_ ?_ <;> intro G
  ·try (simp at G; done)
   all_goals
    have g2 := G.2; try simp [Ze] at g2
    all_goals
     simp [i1, ZA, G]
     repeat with_reducible refine sdg ?_
     refine gK (fun _ => ?_)
     have r1 : ∀ i : Nat, i < 5 → cut [At.d (.int .i64 7), At.d (.int .i64 5), At.d (.int .i64 5), At.d (.int .i64 9), At.d (.int .i64 6)] i 1 = [At.d (.int .i64 (nth ([7, 5, 5, 9, 6] : List Int) i))] := by intro i h; (have z : i = 0 ∨ i = 1 ∨ i = 2 ∨ i = 3 ∨ i = 4 := by omega); rcases z with rfl | rfl | rfl | rfl | rfl <;> rfl
     have i2 : (W ((nth a0.Zg 0) - 101)).toNat < 5 := by first | omega | ((try simp only [Kb, show ∀ x, IntKind.i64.wrap x = W x from fun _ => rfl] at *); omega)
     have r1b := r1 _ i2; simp only [cut] at r1b
     simp [r1 _ i2, r1b, G]
     repeat with_reducible refine sdg ?_
     refine cKo f ?_ ?_ <;> intro k2 h1 f
     ·try (simp [G] at h1; done)
      all_goals
       have q1 := h1; try simp [Ze] at q1
       simp [G]
       repeat with_reducible refine sdg ?_
       exact rtg [.tmp 2] f
     ·try (simp [G] at h1; done)
      all_goals
       have q1 := h1; try simp [Ze] at q1
       simp [i1, ZA, G]
       repeat with_reducible refine sdg ?_
       exact rtg [.tmp 2] f
  ·try (simp at G; done)
   all_goals
    refine sGg ?_
    refine cKo f ?_ ?_ <;> intro k3 h2 f
    ·try (simp [G] at h2; done)
     all_goals
      have q2 := h2; try simp [Ze] at q2
      simp [G]
      repeat with_reducible refine sdg ?_
      exact rtg [.tmp 2] f
    ·try (simp [G] at h2; done)
     all_goals
      have q2 := h2; try simp [Ze] at q2
      simp [i1, ZA, G]
      repeat with_reducible refine sdg ?_
      exact rtg [.tmp 2] f
 ·refine sGo ?_
  simp [G]
  repeat with_reducible refine sdg ?_
  refine gJf G ?_ ?_ <;> intro G
  ·try (simp at G; done)
   all_goals
    have g3 := G.2; try simp [Ze] at g3
    all_goals
     have i5 := ik 0 a0.Zg
     simp [i5, ZA, G]
     repeat with_reducible refine sdg ?_
     refine gK (fun _ => ?_)
     have r3 : ∀ i : Nat, i < 5 → cut [At.d (.int .i64 7), At.d (.int .i64 5), At.d (.int .i64 5), At.d (.int .i64 9), At.d (.int .i64 6)] i 1 = [At.d (.int .i64 (nth ([7, 5, 5, 9, 6] : List Int) i))] := by intro i h; (have z : i = 0 ∨ i = 1 ∨ i = 2 ∨ i = 3 ∨ i = 4 := by omega); rcases z with rfl | rfl | rfl | rfl | rfl <;> rfl
     have i6 : (W ((nth a0.Zg 0) - 101)).toNat < 5 := by first | omega | ((try simp only [Kb, show ∀ x, IntKind.i64.wrap x = W x from fun _ => rfl] at *); omega)
     have r3b := r3 _ i6; simp only [cut] at r3b
     simp [r3 _ i6, r3b, G]
     repeat with_reducible refine sdg ?_
     refine cKo f ?_ ?_ <;> intro k4 h3 f
     ·try (simp [G] at h3; done)
      all_goals
       have q3 := h3; try simp [Ze] at q3
       simp [G]
       repeat with_reducible refine sdg ?_
       exact rtg [.tmp 2] f
     ·try (simp [G] at h3; done)
      all_goals
       have q3 := h3; try simp [Ze] at q3
       simp [i5, ZA, G]
       repeat with_reducible refine sdg ?_
       exact rtg [.tmp 2] f
  ·try (simp at G; done)
   all_goals
    refine sGg ?_
    refine cKo f ?_ ?_ <;> intro k5 h4 f
    ·try (simp [G] at h4; done)
     all_goals
      have q4 := h4; try simp [Ze] at q4
      simp [G]
      repeat with_reducible refine sdg ?_
      exact rtg [.tmp 2] f
    ·try (simp [G] at h4; done)
     all_goals
      have q4 := h4; try simp [Ze] at q4
      have i9 := ik 0 a0.Zg
      simp [i9, ZA, G]
      repeat with_reducible refine sdg ?_
      exact rtg [.tmp 2] f
theorem PC (a0 : ZD) : Sa 266 [a0.row] [(XR a0).1.row, rB (XR a0).2] := by
 have f := me (XR.eq_1 a0)
 refine so Tryz.func266 Tryz.ntmps266 ?_
 refine dIs mixed ?_
 refine cRs (KW a0) ?_
 refine gIf ?_ ?_ <;> intro G
 ·have g1x := G
  have g1 := G; try simp at g1
  have i1 : 6 < a0.Zg.length := by (have z := Za a0; simp_all; done)
  simp [i1, ZA, G]
  repeat with_reducible refine sdg ?_
  refine cK f ?_ ?_ <;> intro k2 h1 f
  ·try (simp [G] at h1; done)
   all_goals
    exact rtg [.cell 2 168, .tmp 3] f
  ·try (simp [G] at h1; done)
   all_goals
    refine dIo mixed ?_
    have i2 : 1 < a0.Zg.length := by (have z := Za a0; simp_all; done)
    have i3 : 2 < a0.Zg.length := by (have z := Za a0; simp_all; done)
    have i4 : 3 < a0.Zg.length := by (have z := Za a0; simp_all; done)
    have i5 : 4 < a0.Zg.length := by (have z := Za a0; simp_all; done)
    have i6 : 5 < a0.Zg.length := by (have z := Za a0; simp_all; done)
    simp [i2, ZA, i3, i4, i5, i6, i1, G]
    repeat with_reducible refine sdg ?_
    exact rtg [.cell 2 168, .tmp 3] f
 ·have g1x := G
  refine cK f ?_ ?_ <;> intro k4 h2 f
  ·try (simp [G] at h2; done)
   all_goals
    exact rtg [.cell 2 168, .tmp 3] f
  ·try (simp [G] at h2; done)
   all_goals
    refine dIo mixed ?_
    have i8 : 1 < a0.Zg.length := by (have z := Za a0; simp_all; done)
    have i9 : 2 < a0.Zg.length := by (have z := Za a0; simp_all; done)
    have i10 : 3 < a0.Zg.length := by (have z := Za a0; simp_all; done)
    have i11 : 4 < a0.Zg.length := by (have z := Za a0; simp_all; done)
    have i12 : 5 < a0.Zg.length := by (have z := Za a0; simp_all; done)
    have i13 : 6 < a0.Zg.length := by (have z := Za a0; simp_all; done)
    simp [i8, ZA, i9, i10, i11, i12, i13, G]
    repeat with_reducible refine sdg ?_
    exact rtg [.cell 2 168, .tmp 3] f
theorem SC (a0 : ZD) : Sa 272 [a0.row] [(QG a0).1.row, rB (QG a0).2] := by
 have f := me (QG.eq_1 a0)
 refine so Tryz.func272 Tryz.ntmps272 ?_
 refine dIs mixed ?_
 refine cRs (KW a0) ?_
 refine gIf ?_ ?_ <;> intro G
 ·have g1x := G
  have g1 := G; try simp at g1
  have i1 : 4 < a0.Zg.length := by (have z := Za a0; simp_all; done)
  simp [i1, ZA, G]
  repeat with_reducible refine sdg ?_
  refine cK f ?_ ?_ <;> intro k2 h1 f
  ·try (simp [G] at h1; done)
   all_goals
    exact rtg [.cell 2 261, .tmp 3] f
  ·try (simp [G] at h1; done)
   all_goals
    refine dIo mixed ?_
    have i2 : 1 < a0.Zg.length := by (have z := Za a0; simp_all; done)
    have i3 : 2 < a0.Zg.length := by (have z := Za a0; simp_all; done)
    have i4 : 3 < a0.Zg.length := by (have z := Za a0; simp_all; done)
    simp [i2, ZA, i3, i4, i1, G]
    repeat with_reducible refine sdg ?_
    exact rtg [.cell 2 261, .tmp 3] f
 ·have g1x := G
  refine cK f ?_ ?_ <;> intro k4 h2 f
  ·try (simp [G] at h2; done)
   all_goals
    exact rtg [.cell 2 261, .tmp 3] f
  ·try (simp [G] at h2; done)
   all_goals
    refine dIo mixed ?_
    have i6 : 1 < a0.Zg.length := by (have z := Za a0; simp_all; done)
    have i7 : 2 < a0.Zg.length := by (have z := Za a0; simp_all; done)
    have i8 : 3 < a0.Zg.length := by (have z := Za a0; simp_all; done)
    have i9 : 4 < a0.Zg.length := by (have z := Za a0; simp_all; done)
    simp [i6, ZA, i7, i8, i9, G]
    repeat with_reducible refine sdg ?_
    exact rtg [.cell 2 261, .tmp 3] f
theorem L3 (a0 : ZD) : Sa 313 [a0.row] [(K3 a0).1.row, rB (K3 a0).2] := by
 have f := me (K3.eq_1 a0)
 refine so Tryz.func313 Tryz.ntmps313 ?_
 refine cRs (KW a0) ?_
 refine cF f ?_ ?_ <;> intro k1 h1 f
 ·exact rt [.cell 2 279, .tmp 3] f
 refine dIo mixed ?_
 have i1 : 1 < a0.Zg.length := by (have z := Za a0; simp_all; done)
 have i2 : 2 < a0.Zg.length := by (have z := Za a0; simp_all; done)
 have i3 : 3 < a0.Zg.length := by (have z := Za a0; simp_all; done)
 have i4 : 4 < a0.Zg.length := by (have z := Za a0; simp_all; done)
 simp [i1, ZA, i2, i3, i4]
 repeat with_reducible refine sd ?_
 exact rt [.cell 2 279, .tmp 3] f
theorem GM (a0 : ZD) : Sa 314 [a0.row] [(yM a0).1.row, rB (yM a0).2] := by
 have f := me (yM.eq_1 a0)
 refine so Tryz.func314 Tryz.ntmps314 ?_
 refine dIs mixed ?_
 refine cRs (KW a0) ?_
 refine gIf ?_ ?_ <;> intro G
 ·have g1x := G
  have g1 := G; try simp at g1
  have i1 : 1 < a0.Zg.length := by (have z := Za a0; simp_all; done)
  simp [i1, ZA, G]
  repeat with_reducible refine sdg ?_
  refine cK f ?_ ?_ <;> intro k2 h1 f
  ·try (simp [G] at h1; done)
   all_goals
    exact rtg [.cell 2 49, .tmp 3] f
  ·try (simp [G] at h1; done)
   all_goals
    refine dIo mixed ?_
    have i2 : 2 < a0.Zg.length := by (have z := Za a0; simp_all; done)
    have i3 : 3 < a0.Zg.length := by (have z := Za a0; simp_all; done)
    have i4 : 4 < a0.Zg.length := by (have z := Za a0; simp_all; done)
    have i5 : 5 < a0.Zg.length := by (have z := Za a0; simp_all; done)
    have i6 : 6 < a0.Zg.length := by (have z := Za a0; simp_all; done)
    have i7 : 7 < a0.Zg.length := by (have z := Za a0; simp_all; done)
    have i8 : 8 < a0.Zg.length := by (have z := Za a0; simp_all; done)
    simp [i1, ZA, i2, i3, i4, i5, i6, i7, i8, G]
    repeat with_reducible refine sdg ?_
    exact rtg [.cell 2 49, .tmp 3] f
 ·have g1x := G
  refine cK f ?_ ?_ <;> intro k4 h2 f
  ·try (simp [G] at h2; done)
   all_goals
    exact rtg [.cell 2 49, .tmp 3] f
  ·try (simp [G] at h2; done)
   all_goals
    refine dIo mixed ?_
    have i10 : 1 < a0.Zg.length := by (have z := Za a0; simp_all; done)
    have i11 : 2 < a0.Zg.length := by (have z := Za a0; simp_all; done)
    have i12 : 3 < a0.Zg.length := by (have z := Za a0; simp_all; done)
    have i13 : 4 < a0.Zg.length := by (have z := Za a0; simp_all; done)
    have i14 : 5 < a0.Zg.length := by (have z := Za a0; simp_all; done)
    have i15 : 6 < a0.Zg.length := by (have z := Za a0; simp_all; done)
    have i16 : 7 < a0.Zg.length := by (have z := Za a0; simp_all; done)
    have i17 : 8 < a0.Zg.length := by (have z := Za a0; simp_all; done)
    simp [i10, ZA, i11, i12, i13, i14, i15, i16, i17, G]
    repeat with_reducible refine sdg ?_
    exact rtg [.cell 2 49, .tmp 3] f
theorem UY (a0 : ZD) : Sa 277 [a0.row] [(Qb a0).1.row, rB (Qb a0).2] := by
 have f := me (Qb.eq_1 a0)
 refine so Tryz.func277 Tryz.ntmps277 ?_
 refine dIs mixed ?_
 refine cRs (KW a0) ?_
 refine gIf ?_ ?_ <;> intro G
 ·have g1x := G
  have g1 := G; try simp at g1
  have i1 : 5 < a0.Zg.length := by (have z := Za a0; simp_all; done)
  simp [i1, ZA, G]
  repeat with_reducible refine sdg ?_
  refine cK f ?_ ?_ <;> intro k2 h1 f
  ·try (simp [G] at h1; done)
   all_goals
    exact rtg [.cell 2 269, .tmp 3] f
  ·try (simp [G] at h1; done)
   all_goals
    refine dIo mixed ?_
    have i2 : 1 < a0.Zg.length := by (have z := Za a0; simp_all; done)
    have i3 : 2 < a0.Zg.length := by (have z := Za a0; simp_all; done)
    have i4 : 3 < a0.Zg.length := by (have z := Za a0; simp_all; done)
    have i5 : 4 < a0.Zg.length := by (have z := Za a0; simp_all; done)
    simp [i2, ZA, i3, i4, i5, i1, G]
    repeat with_reducible refine sdg ?_
    exact rtg [.cell 2 269, .tmp 3] f
 ·have g1x := G
  refine cK f ?_ ?_ <;> intro k4 h2 f
  ·try (simp [G] at h2; done)
   all_goals
    exact rtg [.cell 2 269, .tmp 3] f
  ·try (simp [G] at h2; done)
   all_goals
    refine dIo mixed ?_
    have i7 : 1 < a0.Zg.length := by (have z := Za a0; simp_all; done)
    have i8 : 2 < a0.Zg.length := by (have z := Za a0; simp_all; done)
    have i9 : 3 < a0.Zg.length := by (have z := Za a0; simp_all; done)
    have i10 : 4 < a0.Zg.length := by (have z := Za a0; simp_all; done)
    have i11 : 5 < a0.Zg.length := by (have z := Za a0; simp_all; done)
    simp [i7, ZA, i8, i9, i10, i11, G]
    repeat with_reducible refine sdg ?_
    exact rtg [.cell 2 269, .tmp 3] f
theorem IN (a0 : List Zs) (a1 : ZD) (u0 : Sm 2314240 a0) (u1 : Sm 2314240 a1) : Sa 263 [rL 5 Zs.row a0, a1.row] [rB (KD a0 a1)] := by
 have f := me (KD.eq_1 a0 a1)
 refine so Tryz.func263 Tryz.ntmps263 ?_
 refine cRs (KW a1) ?_
 refine cF f ?_ ?_ <;> intro k1 h1 f
 ·refine cRs (PC a1) ?_
  refine cGs (fun gg => (Qy a0 a1.Key a1.Zg a1.Mark (sg u0) (sg (ZD.VP u1)))) ?_
  exact rt [.tmp 4] f
 refine cF f ?_ ?_ <;> intro k2 h2 f
 ·refine cRs (SC a1) ?_
  refine cGs (fun gg => (Qy a0 a1.Key a1.Zg a1.Mark (sg u0) (sg (ZD.VP u1)))) ?_
  exact rt [.tmp 4] f
 refine cF f ?_ ?_ <;> intro k3 h3 f
 ·refine cRs (L3 a1) ?_
  refine cGs (fun gg => (Qy a0 a1.Key a1.Zg a1.Mark (sg u0) (sg (ZD.VP u1)))) ?_
  exact rt [.tmp 4] f
 refine cF f ?_ ?_ <;> intro k4 h4 f
 ·refine cRs (GM a1) ?_
  refine cGs (fun gg => (Qy a0 a1.Key a1.Zg a1.Mark (sg u0) (sg (ZD.VP u1)))) ?_
  exact rt [.tmp 4] f
 refine cF f ?_ ?_ <;> intro k5 h5 f
 ·refine cRs (UY a1) ?_
  refine cGs (fun gg => (Qy a0 a1.Key a1.Zg a1.Mark (sg u0) (sg (ZD.VP u1)))) ?_
  exact rt [.tmp 4] f
 refine cGs (fun gg => (Qy a0 a1.Key a1.Zg a1.Mark (sg u0) (sg (ZD.VP u1)))) ?_
 exact rt [.tmp 4] f
theorem LC (a0 : ZD) (a1 : ZD) : Sa 264 [a0.row, a1.row] [rB (Y0 a0 a1)] := by
 have f := me (Y0.eq_1 a0 a1)
 refine so Tryz.func264 Tryz.ntmps264 ?_
 refine lp1 (J3.eq_2 a0 a1) (fun v1_0 => YP 73 [eX 2 (a0.row.map .d), eX 3 (a1.row.map .d), eI 5 (↑v1_0 : Int)]) (fun n1 v1_0 => a0.Zg.length < n1 + v1_0 ∧ v1_0 ≤ a0.Zg.length) (a0.Zg.length + 1) 0 (fun p1 v1_0 e1 j1 => ?_)
 refine cF e1 ?_ ?_ <;> intro k2 h1 e1
 ·have i1 : v1_0 < a0.Zg.length := by (simp at h1; omega)
  have m2 := ml a0.Zg (k2 8 _ rfl)
  have w1 := wr v1_0
  refine dIo mixed ?_
  have i2 := ik v1_0 a1.Zg
  simp [i1, ZA, i2]
  repeat with_reducible refine sd ?_
  refine cF e1 ?_ ?_ <;> intro k4 h2 e1
  ·refine okD fun k5 => ?_
   refine dIo mixed ?_
   have f := ms f e1
   simp [i1, ZA, i2]
   repeat with_reducible refine sd ?_
   exact rt [.tmp 4] f
  exact ny1 w1 e1
 have f := ms f e1
 refine cF f ?_ ?_ <;> intro k6 h3 f
 ·exact rt [.tmp 4] f
 refine cF f ?_ ?_ <;> intro k7 h4 f
 ·exact rt [.tmp 4] f
 exact rt [.tmp 4] f
theorem Uk {a b : Prop} (h : b) (k : a := by (intros; first | omega | with_unfolding_all (first | (first | omega | (simp_all; done) | (simp_all; omega))) | ((try simp only [Kb, show ∀ x, IntKind.i64.wrap x = W x from fun _ => rfl] at *); omega))) : a ∧ b := ⟨k, h⟩
theorem YF {a b : Prop} (h : b) (k : a := by (intros; first | omega | with_unfolding_all (first | (first | omega | (simp_all; done) | (simp_all; omega))) | (simp_all; done) | (simp_all; omega) | grind | ((try simp only [Kb, show ∀ x, IntKind.i64.wrap x = W x from fun _ => rfl] at *); omega))) : a ∧ b := ⟨k, h⟩
theorem O6 (a0 : ZI) (a1 : ZL) (a2 : List (List Int)) (u0 : Sm 2285568 a0) (u1 : Sm 2285568 a1) (u2 : Sm 2285568 a2) (u3 : BL a1 ≤ 2097152) : So 202 [a0.row, a1.row, rL 1 (slR 1 iR) a2] [rL 3 ZD.row (Zr a0 a1 a2)] := by
 have f := me (Zr.eq_1 a0 a1 a2)
 refine so Tryz.func202 Tryz.ntmps202 ?_
 refine lp2 (JQ.eq_2 a0 a1 a2) (fun v1_0 v1_1 => YP 79 [eL 2 1 a2 (slR 1 iR), eX 3 (a0.row.map .d), eX 4 (a1.row.map .d), (7, .one (.sref 7 0 0 v1_0.length), [.arr false 3 (v1_0.map ZD.row)]), eL 14 2 a1.ZO ZP.row, eI 15 (↑a1.ZO.length : Int), eI 16 (↑v1_1 : Int)]) (fun n1 v1_0 v1_1 => a1.ZO.length < n1 + v1_1 ∧ v1_1 ≤ a1.ZO.length ∧ v1_0.length + cnL (fun s : ZP => s.Zd.length) (a1.ZO.drop v1_1) ≤ 2097152 ∧ Sm 2285568 v1_0) (a1.ZO.length + 1) ([] : List ZD) 0 (fun p1 v1_0 v1_1 e1 j1 => ?_) (hI := by (have u : cnL (fun s : ZP => s.Zd.length) a1.ZO ≤ 2097152 := u3; (try dsimp only); refine ⟨by omega, by omega, by omega, ?_, ⟨Nat.zero_le _, fun x hx => by cases hx⟩⟩; rw [List.drop_zero]; simp only [List.length_nil]; omega)) (h0 := Yc [((7, 0), none)] [] rfl (by simp))
 try dsimp only at j1
 refine cFo e1 ?_ ?_ <;> intro k2 h1 e1
 ·have q1 := h1; try simp at q1
  have i1 := ix h1
  have m2 := ml a1.ZO (k2 14 _ rfl)
  have c1 := sl 2285568 a1.ZO (an u0 (an u1 (an u2 u3)))
  have w1 := wr v1_1
  simp [i1, ZA]
  repeat with_reducible refine Uk ?_
  refine lp2 (QM.eq_2 a0 a1 a2 v1_1) (fun v2_0 v2_1 => YP 79 [eL 2 1 a2 (slR 1 iR), eX 3 (a0.row.map .d), eX 4 (a1.row.map .d), (7, .one (.sref 7 0 0 v2_0.length), [.arr false 3 (v2_0.map ZD.row)]), eL 14 2 a1.ZO ZP.row, eI 15 (↑a1.ZO.length : Int), eI 16 (↑v1_1 : Int), eL 21 3 (nth a1.ZO v1_1).Zd ZD.row, eI 22 (↑(nth a1.ZO v1_1).Zd.length : Int), eI 23 (↑v2_1 : Int)]) (fun n2 v2_0 v2_1 => (nth a1.ZO v1_1).Zd.length < n2 + v2_1 ∧ v2_1 ≤ (nth a1.ZO v1_1).Zd.length ∧ v2_0.length + ((nth a1.ZO v1_1).Zd.length - v2_1) + cnL (fun s : ZP => s.Zd.length) (a1.ZO.drop (v1_1 + 1)) ≤ 2097152 ∧ Sm 2285568 v2_0) ((nth a1.ZO v1_1).Zd.length + 1) v1_0 0 (fun p2 v2_0 v2_1 e2 j2 => ?_) (hI := by (have d := I8 (l := a1.ZO) (i := v1_1) (by first | omega | (simp at *; omega)); refine ⟨?_, ?_, ?_, ?_, j1.2.2.2.2⟩ <;> ((try dsimp only); omega)))
  try dsimp only at j2
  refine cFo e2 ?_ ?_ <;> intro k4 h2 e2
  ·have q2 := h2; try simp at q2
   have i2 := ix h2
   have m4 := ml (nth a1.ZO v1_1).Zd (k4 21 _ rfl)
   have c2 := sl 2285568 (nth a1.ZO v1_1).Zd (an u0 (an u1 (an u2 u3)))
   have w2 := wr v2_1
   simp [i2, ZA]
   repeat with_reducible refine Uk ?_
   refine dIs mixed ?_
   refine cRs (TF v2_0 (nth (nth a1.ZO v1_1).Zd v2_1)) ?_
   refine cGs (fun gg => (IN a0.YY (nth (nth a1.ZO v1_1).Zd v2_1) (by (first | exact sg u0 | exact sg u1 | exact sg u2 | exact sg (ZI.Ye u0) | exact sg j2.2.2.2.2 | exact sg (Z3 j2.2.2.2.2) | exact sg (Z3 (ZP.Yy (Z3 (ZL.Yl u1)))))) (by (first | exact sg u0 | exact sg u1 | exact sg u2 | exact sg (ZI.Ye u0) | exact sg j2.2.2.2.2 | exact sg (Z3 j2.2.2.2.2) | exact sg (Z3 (ZP.Yy (Z3 (ZL.Yl u1)))))))) ?_
   refine cGs (fun gg => (Vn a0 a1 a2 (nth (nth a1.ZO v1_1).Zd v2_1) (by (first | exact sg u0 | exact sg u1 | exact sg u2 | exact sg (ZI.Ye u0) | exact sg j2.2.2.2.2 | exact sg (Z3 j2.2.2.2.2) | exact sg (Z3 (ZP.Yy (Z3 (ZL.Yl u1)))))) (by (first | exact sg u0 | exact sg u1 | exact sg u2 | exact sg (ZI.Ye u0) | exact sg j2.2.2.2.2 | exact sg (Z3 j2.2.2.2.2) | exact sg (Z3 (ZP.Yy (Z3 (ZL.Yl u1)))))) (by (first | exact sg u0 | exact sg u1 | exact sg u2 | exact sg (ZI.Ye u0) | exact sg j2.2.2.2.2 | exact sg (Z3 j2.2.2.2.2) | exact sg (Z3 (ZP.Yy (Z3 (ZL.Yl u1)))))) (by (first | exact sg u0 | exact sg u1 | exact sg u2 | exact sg (ZI.Ye u0) | exact sg j2.2.2.2.2 | exact sg (Z3 j2.2.2.2.2) | exact sg (Z3 (ZP.Yy (Z3 (ZL.Yl u1)))))))) ?_
   refine cGs (fun gg => (RP a0 (nth (nth a1.ZO v1_1).Zd v2_1).Key)) ?_
   refine cFo e2 ?_ ?_ <;> intro k6 h3 e2
   ·have q3 := h3; try simp at q3
    simp
    exact ny2 (an w1 w2) e2 (hI := by first | (refine ⟨?_, ?_, ?_, ?_, j2.2.2.2.2⟩ <;> ((try dsimp only); omega)) | (have pk : Sm 2285568 (nth (nth a1.ZO v1_1).Zd v2_1) := Z3 (ZP.Yy (Z3 (ZL.Yl u1))); obtain ⟨q1, q2⟩ := C7 (z := v3_0) j2.2.2.2.2 pk (by omega); refine ⟨?_, ?_, ?_, ?_, q1⟩ <;> ((try dsimp only); omega)))
   have q3 := h3; try simp at q3
   simp
   refine lp1 (KZ.eq_2 a1 v1_1 v2_0 v2_1) (fun v3_0 => YP 79 [eL 2 1 a2 (slR 1 iR), eX 3 (a0.row.map .d), eX 4 (a1.row.map .d), (7, .one (.sref 7 0 0 v2_0.length), [.arr false 3 (v2_0.map ZD.row)]), eX 11 ((nth (nth a1.ZO v1_1).Zd v2_1).row.map .d), eI 12 (↑v3_0 : Int), eL 14 2 a1.ZO ZP.row, eI 15 (↑a1.ZO.length : Int), eI 16 (↑v1_1 : Int), eL 21 3 (nth a1.ZO v1_1).Zd ZD.row, eI 22 (↑(nth a1.ZO v1_1).Zd.length : Int), eI 23 (↑v2_1 : Int)]) (fun n3 v3_0 => v2_0.length < n3 + v3_0 ∧ v3_0 ≤ v2_0.length) (v2_0.length + 1) 0 (fun p3 v3_0 e3 j3 => ?_)
   try dsimp only at j3
   refine dIs mixed ?_
   refine gIo ?_ ?_ <;> intro G
   ·have g1x := G
    have g1 := G; try simp at g1
    have i3 := ik v3_0 v2_0
    simp [i3, ZA, G]
    repeat with_reducible refine YF ?_
    refine cGo (fun gg => (LC (nth v2_0 v3_0) (nth (nth a1.ZO v1_1).Zd v2_1))) ?_
    simp [G]
    repeat with_reducible refine YF ?_
    refine cKo e3 ?_ ?_ <;> intro k9 h4 e3
    ·try (simp [G] at h4; done)
     all_goals
      have q4 := h4; try simp at q4
      have i4 : v3_0 < v2_0.length := by (simp at h4; omega)
      have m6 := ml v2_0 (k9 7 _ rfl)
      have w3 := wr v3_0
      simp [G]
      repeat with_reducible refine YF ?_
      exact ny1 (an w1 (an w2 (an w3 G))) e3
    ·try (simp [G] at h4; done)
     all_goals
      have q4 := h4; try simp at q4
      have e2 := ms e2 e3
      simp [G]
      repeat with_reducible refine YF ?_
      refine dIo mixed ?_
      simp [G]
      repeat with_reducible refine YF ?_
      refine evI rfl rfl rfl ?_
      simp [G]
      repeat with_reducible refine YF ?_
      refine evI rfl rfl rfl ?_
      simp [G]
      repeat with_reducible refine YF ?_
      refine cR (Ym.rd (W0 (nth (nth a1.ZO v1_1).Zd v2_1) (by (first | exact sg u0 | exact sg u1 | exact sg u2 | exact sg (ZI.Ye u0) | exact sg j2.2.2.2.2 | exact sg (Z3 j2.2.2.2.2) | exact sg (Z3 (ZP.Yy (Z3 (ZL.Yl u1)))))))) ?_
      simp [G]
      repeat with_reducible refine YF ?_
      refine evI rfl rfl rfl ?_
      simp [G]
      repeat with_reducible refine YF ?_
      refine evI rfl rfl rfl ?_
      simp [G]
      repeat with_reducible refine YF ?_
      refine evI rfl rfl rfl ?_
      simp [G]
      repeat with_reducible refine YF ?_
      exact nx2 e2 (hI := by first | (refine ⟨?_, ?_, ?_, ?_, j2.2.2.2.2⟩ <;> ((try dsimp only); omega)) | (have pk : Sm 2285568 (nth (nth a1.ZO v1_1).Zd v2_1) := Z3 (ZP.Yy (Z3 (ZL.Yl u1))); obtain ⟨q1, q2⟩ := C7 (z := v3_0) j2.2.2.2.2 pk (by omega); refine ⟨?_, ?_, ?_, ?_, q1⟩ <;> ((try dsimp only); omega))) (hw := Yc [((7, 0), some (75, 0))] [] rfl (by simp [w1, w2, G]))
   ·have g1x := G
    simp [G]
    repeat with_reducible refine YF ?_
    refine sGo ?_
    simp [G]
    repeat with_reducible refine YF ?_
    refine cKo e3 ?_ ?_ <;> intro k11 h5 e3
    ·try (simp [G] at h5; done)
     all_goals
      have q5 := h5; try simp at q5
      have i6 : v3_0 < v2_0.length := by (simp at h5; omega)
      have m8 := ml v2_0 (k11 7 _ rfl)
      have w4 := wr v3_0
      simp [G]
      repeat with_reducible refine YF ?_
      exact ny1 (an w1 (an w2 (an w4 G))) e3
    ·try (simp [G] at h5; done)
     all_goals
      have q5 := h5; try simp at q5
      have e2 := ms e2 e3
      simp [G]
      repeat with_reducible refine YF ?_
      refine dIo mixed ?_
      simp [G]
      repeat with_reducible refine YF ?_
      refine evI rfl rfl rfl ?_
      simp [G]
      repeat with_reducible refine YF ?_
      refine evI rfl rfl rfl ?_
      simp [G]
      repeat with_reducible refine YF ?_
      refine cR (Ym.rd (W0 (nth (nth a1.ZO v1_1).Zd v2_1) (by (first | exact sg u0 | exact sg u1 | exact sg u2 | exact sg (ZI.Ye u0) | exact sg j2.2.2.2.2 | exact sg (Z3 j2.2.2.2.2) | exact sg (Z3 (ZP.Yy (Z3 (ZL.Yl u1)))))))) ?_
      simp [G]
      repeat with_reducible refine YF ?_
      refine evI rfl rfl rfl ?_
      simp [G]
      repeat with_reducible refine YF ?_
      refine evI rfl rfl rfl ?_
      simp [G]
      repeat with_reducible refine YF ?_
      refine evI rfl rfl rfl ?_
      simp [G]
      repeat with_reducible refine YF ?_
      exact nx2 e2 (hI := by first | (refine ⟨?_, ?_, ?_, ?_, j2.2.2.2.2⟩ <;> ((try dsimp only); omega)) | (have pk : Sm 2285568 (nth (nth a1.ZO v1_1).Zd v2_1) := Z3 (ZP.Yy (Z3 (ZL.Yl u1))); obtain ⟨q1, q2⟩ := C7 (z := v3_0) j2.2.2.2.2 pk (by omega); refine ⟨?_, ?_, ?_, ?_, q1⟩ <;> ((try dsimp only); omega))) (hw := Yc [((7, 0), some (75, 0))] [] rfl (by simp [w1, w2, G]))
  have q2 := h2; try simp at q2
  have c3 := sl 2285568 (nth a1.ZO v1_1).Zd (an u0 (an u1 (an u2 u3)))
  have e1 := ms e1 e2
  simp
  exact ny2 w1 e1 (hI := by (refine ⟨?_, ?_, ?_, ?_, j2.2.2.2.2⟩ <;> ((try dsimp only); omega)))
 have q1 := h1; try simp at q1
 have c4 := sl 2285568 a1.ZO (an u0 (an u1 (an u2 u3)))
 have f := ms f e1
 simp
 exact rtO [.tmp 6] f
theorem OM (a0 : Zn) : Sa 231 [a0.row] [(xE a0).row] := by
 have f := me (xE.eq_1 a0)
 refine so Tryz.func231 Tryz.ntmps231 ?_
 exact rt [.cell 2 77] f
theorem Bb (a0 : Zn) : Sa 164 [a0.row] [rB (Rp a0)] := by
 have f := me (Rp.eq_1 a0)
 refine so Tryz.func164 Tryz.ntmps164 ?_
 refine cRs (Z7 a0.YA 1 999) ?_
 refine cGs (fun gg => (Z7 a0.Key 1 99)) ?_
 refine cGs (fun gg => (Z7 a0.Qd 1 99)) ?_
 refine cGs (fun gg => (Z7 a0.Js 0 99)) ?_
 refine cGs (fun gg => (OM a0)) ?_
 refine cGs (fun gg => (Ji (xE a0))) ?_
 exact rt [.tmp 2] f
theorem Fk (a0 : Zn) : Sd 166 [a0.row] [rL 1 iR (yd a0)] := by
 have f := me (yd.eq_1 a0)
 refine soD Tryz.func166 Tryz.ntmps166 ?_
 exact rtD [.tmp 2] f
theorem NT (a0 : List Zs) (a1 : Int) : Sa 167 [rL 5 Zs.row a0, rI a1] [rI (Vi a0 a1)] := by
 have f := me (Vi.eq_1 a0 a1)
 refine so Tryz.func167 Tryz.ntmps167 ?_
 refine cRs (qA a0 a1) ?_
 refine cFf f ?_ ?_ <;> intro k1 h1 f
 ·have i1 : (Yx a0 a1).toNat < a0.length := by have := kD a0 a1; exact il
  simp [i1, ZA]
  repeat with_reducible refine sd ?_
  exact rt [.tmp 4] f
 exact rt [.tmp 4] f
theorem Hq (a0 : List Zs) (a1 : Zn) (u0 : Sm 2314240 a0) : Sa 130 [rL 5 Zs.row a0, a1.row] [rB (WO a0 a1)] := by
 have f := me (WO.eq_1 a0 a1)
 refine so Tryz.func130 Tryz.ntmps130 ?_
 refine dIs mixed ?_
 refine cRs (Bb a1) ?_
 refine cGs (fun gg => Ym.rd (Fk a1)) ?_
 refine cGs (fun gg => (Qy a0 a1.Qd (yd a1) a1.Mark (sg u0) (by simp (maxDischargeDepth := 12) [Ft, Zi (m := 2318336) (by decide) u0]; try omega))) ?_
 refine cGs (fun gg => (NT a0 a1.Key)) ?_
 exact rt [.tmp 4] f
theorem Ds (a0 : ZI) (a1 : List ZD) (a2 : ZV) (u0 : Sm 2310144 a0) (u1 : Sm 2310144 a1) : Sa 203 [a0.row, rL 3 ZD.row a1, a2.row] [(Qq a0 a1 a2).1.row, rB (Qq a0 a1 a2).2] := by
 have f := me (Qq.eq_1 a0 a1 a2)
 refine so Tryz.func203 Tryz.ntmps203 ?_
 refine lp9 (jM.eq_2 a0 a1 a2) (fun v1_0 v1_1 v1_2 v1_3 v1_4 v1_5 v1_6 v1_7 v1_8 => YP 54 [eX 3 (a0.row.map .d), eX 5 (a2.row.map .d), (6, .one (.bptr 6 0), [.box [.d (.int .i64 0), .d (.int .i64 0), .d (.int .i64 0), .d (.int .i64 0), .d (.int .i64 0), .d (.int .i64 0), .d (.int .i64 0)]]), (8, .one (.bptr 8 0), [.box [.d (.int .i64 v1_2), .d (.int .i64 v1_3), .d (.int .i64 v1_4), .d (.int .i64 v1_5), .d (.int .i64 v1_6), .d (.int .i64 v1_7), .d (.int .i64 v1_8)]]), eI 9 v1_0, eL 14 3 a1 ZD.row, eI 15 (↑a1.length : Int), eI 16 (↑v1_1 : Int)]) (fun n1 v1_0 v1_1 v1_2 v1_3 v1_4 v1_5 v1_6 v1_7 v1_8 => a1.length < n1 + v1_1 ∧ v1_1 ≤ a1.length) (a1.length + 1) 0 0 0 0 0 0 0 0 0 (fun p1 v1_0 v1_1 v1_2 v1_3 v1_4 v1_5 v1_6 v1_7 v1_8 e1 j1 => ?_)
 refine cFf e1 ?_ ?_ <;> intro k2 h1 e1
 ·have i1 := ix h1
  have m2 := ml a1 (k2 14 _ rfl)
  have c1 := sl 2310144 a1 (an u0 u1)
  have w1 := wr v1_1
  simp [i1, ZA]
  repeat with_reducible refine sd ?_
  refine cRs (PC (nth a1 v1_1)) ?_
  refine cGs (fun gg => (Hq a0.YY (XR (nth a1 v1_1)).1 (sg (ZI.Ye u0)))) ?_
  refine cF e1 ?_ ?_ <;> intro k3 h2 e1
  ·exact ny9 w1 e1
  exact ny9 w1 e1
 have c2 := sl 2310144 a1 (an u0 u1)
 have f := ms f e1
 refine cF f ?_ ?_ <;> intro k4 h3 f
 ·exact rt [.cell 6 168, .tmp 7] f
 exact rt [.cell 6 168, .tmp 7] f
theorem sh (a0 : Int) (a1 : Int) : Sa 316 [rI a0, rI a1] [rI (ve a0 a1)] := by
 have f := me (ve.eq_1 a0 a1)
 refine so Tryz.func316 Tryz.ntmps316 ?_
 exact rt [.tmp 4] f
theorem Uf (a0 : Int) (a1 : List ZY) (u0 : Sm 2326528 a1) : Sa 268 [rI a0, rL 5 ZY.row a1] [rI (Kj a0 a1)] := by
 have f := me (Kj.eq_1 a0 a1)
 refine so Tryz.func268 Tryz.ntmps268 ?_
 refine cF f ?_ ?_ <;> intro k1 h1 f
 ·exact rt [.tmp 4] f
 refine lp2 (z7.eq_2 a1) (fun v1_0 v1_1 => YP 27 [eI 0 a0, (5, .one (.sref 5 0 0 v1_0.length), [.arr false 1 (v1_0.map iR)]), eL 11 5 a1 ZY.row, eI 12 (↑a1.length : Int), eI 13 (↑v1_1 : Int)]) (fun n1 v1_0 v1_1 => a1.length < n1 + v1_1 ∧ v1_1 ≤ a1.length ∧ v1_0.length ≤ 0 + 1 * v1_1) (a1.length + 1) ([] : List Int) 0 (fun p1 v1_0 v1_1 e1 j1 => ?_) (h0 := Yc [((5, 0), none)] [] rfl (by simp))
 refine cFf e1 ?_ ?_ <;> intro k3 h2 e1
 ·have i1 := ix h2
  have m2 := ml a1 (k3 11 _ rfl)
  have c1 := sl 2326528 a1 u0
  have w1 := wr v1_1
  simp [i1, ZA]
  repeat with_reducible refine sd ?_
  exact nx2 e1 (hw := Yc [((5, 0), some (21, 0))] [] rfl (by simp [w1]))
 have c2 := sl 2326528 a1 u0
 have f := ms f e1
 refine cRs (KS a0 v1_0 (by first | (simp (maxDischargeDepth := 12) [X6]; omega) | (simp (maxDischargeDepth := 12) [Zi (m := 68719476736) (by decide) u0]; done))) ?_
 refine cRs (sh 1 (JO a0 v1_0)) ?_
 exact rt [.tmp 4] f
theorem RN (a0 : Int) (a1 : ZY) : Sd 269 [rI a0, a1.row] [(Jd a0 a1).row] := by
 have f := me (Jd.eq_1 a0 a1)
 refine soD Tryz.func269 Tryz.ntmps269 ?_
 refine dIs mixed ?_
 refine cDs [false] (UQ a1) ?_
 exact rtD [.cell 4 194] f
theorem Hy (a0 : ZI) (a1 : ZL) (a2 : List ZD) (a3 : ZV) (u0 : Sm 2314240 a0) (u1 : Sm 2314240 a1) (u2 : Sm 2314240 a2) : Sa 204 [a0.row, a1.row, rL 3 ZD.row a2, a3.row] [rI (QD a0 a1 a2 a3)] := by
 have f := me (QD.eq_1 a0 a1 a2 a3)
 refine so Tryz.func204 Tryz.ntmps204 ?_
 refine cRs (qA a0.YY a3.Key) ?_
 refine cFf f ?_ ?_ <;> intro k1 h1 f
 ·have i1 : (Yx a0.YY a3.Key).toNat < a0.YY.length := by have := kD a0.YY a3.Key; exact il
  simp [i1, ZA]
  repeat with_reducible refine sd ?_
  refine lp2 (QZ.eq_2 a0 a1 a2 a3) (fun v1_0 v1_1 => YP 92 [eL 2 3 a2 ZD.row, eX 4 (a0.row.map .d), eX 7 (a3.row.map .d), eI 9 v1_0, eL 32 1 a1.Zv (slR 5 ZY.row), eI 33 (↑a1.Zv.length : Int), eI 34 (↑v1_1 : Int)]) (fun n1 v1_0 v1_1 => a1.Zv.length < n1 + v1_1 ∧ v1_1 ≤ a1.Zv.length) (a1.Zv.length + 1) (nth a0.YY (Yx a0.YY a3.Key).toNat).OC 0 (fun p1 v1_0 v1_1 e1 j1 => ?_)
  refine cFf e1 ?_ ?_ <;> intro k3 h2 e1
  ·have i2 := ix h2
   have m2 := ml a1.Zv (k3 32 _ rfl)
   have c1 := sl 2314240 a1.Zv (an u0 (an u1 u2))
   have w1 := wr v1_1
   simp [i2, ZA]
   repeat with_reducible refine sd ?_
   refine dIs mixed ?_
   refine cGs (fun gg => (ym (nth a1.Zv v1_1))) ?_
   refine cGs (fun gg => (Uf a3.Method (nth a1.Zv v1_1) (sg (Z3 (ZL.jx u1))))) ?_
   refine cF e1 ?_ ?_ <;> intro k5 h3 e1
   ·exact ny2 w1 e1
   refine lp2 (Qf.eq_2 a0 a1 a2 v1_1) (fun v2_0 v2_1 => YP 92 [eL 2 3 a2 ZD.row, eX 4 (a0.row.map .d), eX 7 (a3.row.map .d), eI 9 v1_0, eL 12 5 (nth a1.Zv v1_1) ZY.row, eB 13 v2_0, eL 32 1 a1.Zv (slR 5 ZY.row), eI 33 (↑a1.Zv.length : Int), eI 34 (↑v1_1 : Int), eL 55 5 (nth a1.Zv v1_1) ZY.row, eI 56 (↑(nth a1.Zv v1_1).length : Int), eI 57 (↑v2_1 : Int)]) (fun n2 v2_0 v2_1 => (nth a1.Zv v1_1).length < n2 + v2_1 ∧ v2_1 ≤ (nth a1.Zv v1_1).length) ((nth a1.Zv v1_1).length + 1) true 0 (fun p2 v2_0 v2_1 e2 j2 => ?_)
   refine cFf e2 ?_ ?_ <;> intro k7 h4 e2
   ·have i3 := ix h4
    have m4 := ml (nth a1.Zv v1_1) (k7 12 _ rfl)
    have c2 := sl 2314240 (nth a1.Zv v1_1) (an u0 (an u1 u2))
    have w2 := wr v2_1
    simp [i3, ZA]
    repeat with_reducible refine sd ?_
    refine dIs mixed ?_
    refine cGs (fun gg => (TG a0.ZN (nth (nth a1.Zv v1_1) v2_1))) ?_
    refine cGs (fun gg => Ym.rd (RN (Xs a0.ZN (nth (nth a1.Zv v1_1) v2_1)) (nth (nth a1.Zv v1_1) v2_1))) ?_
    refine cGs (fun gg => (TF a2 (Jd (Xs a0.ZN (nth (nth a1.Zv v1_1) v2_1)) (nth (nth a1.Zv v1_1) v2_1)))) ?_
    exact ny2 (an w1 w2) e2
   have c3 := sl 2314240 (nth a1.Zv v1_1) (an u0 (an u1 u2))
   have e1 := ms e1 e2
   refine cRs (TK a0.ZN (nth a1.Zv v1_1) a0.QR (sg (ZI.Q7 u0)) (sg (Z3 (ZL.jx u1)))) ?_
   refine cF e1 ?_ ?_ <;> intro k9 h5 e1
   ·exact ny2 w1 e1
   exact ny2 w1 e1
  have c4 := sl 2314240 a1.Zv (an u0 (an u1 u2))
  have f := ms f e1
  exact rt [.tmp 8] f
 refine lp2 (zS.eq_2 a0 a1 a2 a3) (fun v3_0 v3_1 => YP 92 [eL 2 3 a2 ZD.row, eX 4 (a0.row.map .d), eX 7 (a3.row.map .d), eI 9 v3_0, eL 32 1 a1.Zv (slR 5 ZY.row), eI 33 (↑a1.Zv.length : Int), eI 34 (↑v3_1 : Int)]) (fun n3 v3_0 v3_1 => a1.Zv.length < n3 + v3_1 ∧ v3_1 ≤ a1.Zv.length) (a1.Zv.length + 1) 0 0 (fun p3 v3_0 v3_1 e3 j3 => ?_)
 refine cFf e3 ?_ ?_ <;> intro k11 h6 e3
 ·have i4 := ix h6
  have m6 := ml a1.Zv (k11 32 _ rfl)
  have c5 := sl 2314240 a1.Zv (an u0 (an u1 u2))
  have w3 := wr v3_1
  simp [i4, ZA]
  repeat with_reducible refine sd ?_
  refine dIs mixed ?_
  refine cGs (fun gg => (ym (nth a1.Zv v3_1))) ?_
  refine cGs (fun gg => (Uf a3.Method (nth a1.Zv v3_1) (sg (Z3 (ZL.jx u1))))) ?_
  refine cF e3 ?_ ?_ <;> intro k13 h7 e3
  ·exact ny2 w3 e3
  refine lp2 (qb.eq_2 a0 a1 a2 v3_1) (fun v4_0 v4_1 => YP 92 [eL 2 3 a2 ZD.row, eX 4 (a0.row.map .d), eX 7 (a3.row.map .d), eI 9 v3_0, eL 12 5 (nth a1.Zv v3_1) ZY.row, eB 13 v4_0, eL 32 1 a1.Zv (slR 5 ZY.row), eI 33 (↑a1.Zv.length : Int), eI 34 (↑v3_1 : Int), eL 55 5 (nth a1.Zv v3_1) ZY.row, eI 56 (↑(nth a1.Zv v3_1).length : Int), eI 57 (↑v4_1 : Int)]) (fun n4 v4_0 v4_1 => (nth a1.Zv v3_1).length < n4 + v4_1 ∧ v4_1 ≤ (nth a1.Zv v3_1).length) ((nth a1.Zv v3_1).length + 1) true 0 (fun p4 v4_0 v4_1 e4 j4 => ?_)
  refine cFf e4 ?_ ?_ <;> intro k15 h8 e4
  ·have i5 := ix h8
   have m8 := ml (nth a1.Zv v3_1) (k15 12 _ rfl)
   have c6 := sl 2314240 (nth a1.Zv v3_1) (an u0 (an u1 u2))
   have w4 := wr v4_1
   simp [i5, ZA]
   repeat with_reducible refine sd ?_
   refine dIs mixed ?_
   refine cGs (fun gg => (TG a0.ZN (nth (nth a1.Zv v3_1) v4_1))) ?_
   refine cGs (fun gg => Ym.rd (RN (Xs a0.ZN (nth (nth a1.Zv v3_1) v4_1)) (nth (nth a1.Zv v3_1) v4_1))) ?_
   refine cGs (fun gg => (TF a2 (Jd (Xs a0.ZN (nth (nth a1.Zv v3_1) v4_1)) (nth (nth a1.Zv v3_1) v4_1)))) ?_
   exact ny2 (an w3 w4) e4
  have c7 := sl 2314240 (nth a1.Zv v3_1) (an u0 (an u1 u2))
  have e3 := ms e3 e4
  refine cRs (TK a0.ZN (nth a1.Zv v3_1) a0.QR (sg (ZI.Q7 u0)) (sg (Z3 (ZL.jx u1)))) ?_
  refine cF e3 ?_ ?_ <;> intro k17 h9 e3
  ·exact ny2 w3 e3
  exact ny2 w3 e3
 have c8 := sl 2314240 a1.Zv (an u0 (an u1 u2))
 have f := ms f e3
 exact rt [.tmp 8] f
theorem LB (a0 : List ZD) (a1 : Zn) (u0 : Sm 2330624 a0) : Sd 205 [rL 3 ZD.row a0, a1.row] [rL 5 Zu.row (Jc a0 a1)] := by
 have f := me (Jc.eq_1 a0 a1)
 refine soD Tryz.func205 Tryz.ntmps205 ?_
 refine lp2 (J5.eq_2 a0 a1) (fun v1_0 v1_1 => YP 42 [eX 3 (a1.row.map .d), (5, .one (.sref 5 0 0 v1_0.length), [.arr false 5 (v1_0.map Zu.row)]), eL 10 3 a0 ZD.row, eI 11 (↑a0.length : Int), eI 12 (↑v1_1 : Int)]) (fun n1 v1_0 v1_1 => a0.length < n1 + v1_1 ∧ v1_1 ≤ a0.length ∧ v1_0.length ≤ 0 + 1 * v1_1) (a0.length + 1) ([] : List Zu) 0 (fun p1 v1_0 v1_1 e1 j1 => ?_) (h0 := Yc [((5, 0), none)] [] rfl (by simp))
 refine cFf e1 ?_ ?_ <;> intro k2 h1 e1
 ·have i1 := ix h1
  have m2 := ml a0 (k2 10 _ rfl)
  have c1 := sl 2330624 a0 u0
  have w1 := wr v1_1
  simp [i1, ZA]
  repeat with_reducible refine sd ?_
  refine cRs (SC (nth a0 v1_1)) ?_
  refine cF e1 ?_ ?_ <;> intro k3 h2 e1
  ·exact nx2 e1 (hw := Yc [((5, 0), some (39, 0))] [] rfl (by simp [w1]))
  exact ny2 w1 e1
 have c2 := sl 2330624 a0 u0
 have f := ms f e1
 exact rtD [.tmp 4] f
theorem JN (a0 : Int) (a1 : Int) (a2 : List ZF) (u0 : Sm 2326528 a2) : Hl Tryz.prog 322 [rI a0, rI a1] [.sl 2 (a2.map ZF.row)] [.sl 2 ((Zl a0 a1 a2).map ZF.row)] := by
 refine uh Tryz.func322 rfl (by kernel_rfl) [false] (by simp) (fun v => ?_)
 simp [Tryz.ntmps322]
 refine cR (TI a0 a1) ?_
 simp
 refine cC (J1 a0 a1).2 (fun k1 h1 => ?_) (fun k1 h1 => ?_)
 ·have q1 := h1; try simp at q1
  have c1 : a2.length ≤ 2326528 := Yv (by simp (maxDischargeDepth := 12) [u0])
  simp
  repeat with_reducible refine sd ?_
  refine oh (ats := [(.sref 17 0 0 (a2 ++ ([(J1 a0 a1).1] : List ZF)).length)]) rfl ?_ (.inr rfl)
  have f1 := Zl.eq_1 a0 a1 a2
  simp only [h1, Xf, Xg] at f1
  simp [f1]
  all_goals ((rintro r (⟨a, _, rfl⟩ | rfl) x hx <;> simp at hx <;> rcases hx with rfl | rfl <;> rfl))
 ·have q1 := h1; try simp at q1
  simp
  refine oh (ats := [(.sref 2 1 0 a2.length)]) rfl ?_ (.inr rfl)
  have f2 := Zl.eq_1 a0 a1 a2
  simp only [h1, Xf, Xg] at f2
  simp [f2]
  all_goals ((rintro r (⟨a, _, rfl⟩ | rfl) x hx <;> simp at hx <;> rcases hx with rfl | rfl <;> rfl))
theorem DH (a0 : List Zu) (a1 : Int) : Sa 344 [rL 5 Zu.row a0, rI a1] [rI (kL a0 a1).1, rI (kL a0 a1).2.1, rI (kL a0 a1).2.2] := by
 have f := me (kL.eq_1 a0 a1)
 refine so Tryz.func344 Tryz.ntmps344 ?_
 refine lp4 (xf.eq_2 a0 a1) (fun v1_0 v1_1 v1_2 v1_3 => YP 49 [eI 1 a1, eI 7 v1_0, eI 8 v1_1, eI 9 v1_2, eL 12 5 a0 Zu.row, eI 13 (↑a0.length : Int), eI 14 (↑v1_3 : Int)]) (fun n1 v1_0 v1_1 v1_2 v1_3 => a0.length < n1 + v1_3 ∧ v1_3 ≤ a0.length) (a0.length + 1) (-1) (-1) (-1) 0 (fun p1 v1_0 v1_1 v1_2 v1_3 e1 j1 => ?_)
 refine cFf e1 ?_ ?_ <;> intro k2 h1 e1
 ·have i1 := ix h1
  have m2 := ml a0 (k2 12 _ rfl)
  have w1 := wr v1_3
  simp [i1, ZA]
  repeat with_reducible refine sd ?_
  refine cF e1 ?_ ?_ <;> intro k3 h2 e1
  ·exact ny4 w1 e1
  refine cF e1 ?_ ?_ <;> intro k4 h3 e1
  ·exact ny4 w1 e1
  refine cF e1 ?_ ?_ <;> intro k5 h4 e1
  ·exact ny4 w1 e1
  exact ny4 w1 e1
 have f := ms f e1
 exact rt [.tmp 4, .tmp 5, .tmp 6] f
theorem VR (a0 : List Zu) (a1 : Int) : Sa 324 [rL 5 Zu.row a0, rI a1] [rI (X5 a0 a1)] := by
 have f := me (X5.eq_1 a0 a1)
 refine so Tryz.func324 Tryz.ntmps324 ?_
 refine cRs (DH a0 a1) ?_
 refine cF f ?_ ?_ <;> intro k1 h1 f
 ·exact rt [.tmp 4] f
 exact rt [.tmp 4] f
theorem Sq {a b : Prop} (h : b) (k : a := by (intros; first | omega | with_unfolding_all (first | (first | omega | (have z := Yv u0; omega) | (have z := Yv u0; simp at *; omega))) | ((try simp only [Kb, show ∀ x, IntKind.i64.wrap x = W x from fun _ => rfl] at *); omega))) : a ∧ b := ⟨k, h⟩
theorem zJ {a b : Prop} (h : b) (k : a := by (intros; first | omega | with_unfolding_all (first | (first | omega | (have z := Yv u0; omega) | (have z := Yv u0; simp at *; omega))) | (simp_all; done) | (simp_all; omega) | grind | ((try simp only [Kb, show ∀ x, IntKind.i64.wrap x = W x from fun _ => rfl] at *); omega))) : a ∧ b := ⟨k, h⟩
theorem yk (a0 : List ZF) (u0 : Sm 2330624 a0) : Sd 320 [rL 2 ZF.row a0] [rL 2 ZF.row (XQ a0)] := by
 have f := me (XQ.eq_1 a0)
 refine soD Tryz.func320 Tryz.ntmps320 ?_
 refine lp2 (yU.eq_2 a0) (fun v1_0 v1_1 => YP 85 [(3, .one (.sref 3 0 0 v1_0.length), [.arr false 2 (v1_0.map ZF.row)]), eL 10 2 a0 ZF.row, eI 11 (↑a0.length : Int), eI 12 (↑v1_1 : Int)]) (fun n1 v1_0 v1_1 => a0.length < n1 + v1_1 ∧ v1_1 ≤ a0.length ∧ v1_0.length ≤ v1_1) (a0.length + 1) ([] : List ZF) 0 (fun p1 v1_0 v1_1 e1 j1 => ?_) (h0 := Yc [((3, 0), none)] [] rfl (by simp))
 try dsimp only at j1
 refine cFf e1 ?_ ?_ <;> intro k2 h1 e1
 ·have i1 := ix h1
  have m2 := ml a0 (k2 10 _ rfl)
  have c1 := sl 2330624 a0 u0
  have w1 := wr v1_1
  simp [i1, ZA]
  repeat with_reducible refine Sq ?_
  refine cRs (Ji (nth a0 v1_1)) ?_
  refine cF e1 ?_ ?_ <;> intro k3 h2 e1
  ·exact ny2 w1 e1 (hI := by first | omega | (simp at *; omega))
  refine lp4 (yR.eq_2 v1_0) (fun v2_0 v2_1 v2_2 v2_3 => YP 85 [(3, .any, [.arr false 2 (v1_0.map ZF.row)]), (5, .one (.bptr 5 0), [.box [.d (.int .i64 v2_2), .d (.int .i64 v2_3)]]), (6, .one (.sref 6 0 0 v2_0.length), [.arr false 2 (v2_0.map ZF.row)]), eL 10 2 a0 ZF.row, eI 11 (↑a0.length : Int), eI 12 (↑v1_1 : Int), (19, .one (.sref 3 0 0 v1_0.length), []), eI 20 (↑v1_0.length : Int), eI 21 (↑v2_1 : Int)]) (fun n2 v2_0 v2_1 v2_2 v2_3 => v1_0.length < n2 + v2_1 ∧ v2_1 ≤ v1_0.length ∧ v2_0.length ≤ v2_1) (v1_0.length + 1) ([] : List ZF) 0 (nth a0 v1_1).YN (nth a0 v1_1).To (fun p2 v2_0 v2_1 v2_2 v2_3 e2 j2 => ?_) (h0 := Yc [((6, 0), none)] [] rfl (by simp))
  try dsimp only at j2
  refine cFf e2 ?_ ?_ <;> intro k5 h3 e2
  ·have i2 := ix h3
   have m4 := ml v1_0 (k5 19 _ rfl)
   have w2 := wr v2_1
   simp [i2, ZA]
   repeat with_reducible refine Sq ?_
   refine cFf e2 ?_ ?_ <;> intro k6 h4 e2
   ·simp
    repeat with_reducible refine Sq ?_
    exact nx4 e2 (hI := by first | omega | (simp at *; omega)) (hw := Yc [((6, 0), some (42, 0))] [] rfl (by simp [w1, w2]))
   exact ny4 (an w1 w2) e2 (hI := by first | omega | (simp at *; omega))
  have e1 := ms e1 e2
  refine lp1 (WZ.eq_2 v2_0 v2_2) (fun v3_0 => YP 85 [(5, .one (.bptr 5 0), [.box [.d (.int .i64 v2_2), .d (.int .i64 v2_3)]]), (6, .one (.sref 6 0 0 v2_0.length), [.arr false 2 (v2_0.map ZF.row)]), eI 9 (↑v3_0 : Int), eL 10 2 a0 ZF.row, eI 11 (↑a0.length : Int), eI 12 (↑v1_1 : Int)]) (fun n3 v3_0 => v2_0.length < n3 + v3_0 ∧ v3_0 ≤ v2_0.length) (v2_0.length + 1) 0 (fun p3 v3_0 e3 j3 => ?_)
  try dsimp only at j3
  refine dIs mixed ?_
  refine gIo ?_ ?_ <;> intro G
  ·have g1x := G
   have g1 := G; try simp at g1
   have i3 := ik v3_0 v2_0
   simp [i3, ZA, G]
   repeat with_reducible refine zJ ?_
   refine cKo e3 ?_ ?_ <;> intro k9 h5 e3
   ·try (simp [G] at h5; done)
    all_goals
     have i4 : v3_0 < v2_0.length := by (simp at h5; omega)
     have m6 := ml v2_0 (k9 6 _ rfl)
     have w3 := wr v3_0
     simp [G]
     repeat with_reducible refine zJ ?_
     exact ny1 (an w1 (an w3 G)) e3
   ·try (simp [G] at h5; done)
    all_goals
     have e1 := ms e1 e3
     simp [G]
     repeat with_reducible refine zJ ?_
     refine dIo mixed ?_
     simp [G]
     repeat with_reducible refine zJ ?_
     exact nx2 e1 (hI := by first | omega | (simp at *; omega)) (hw := Yc [((3, 0), some (82, 0))] [] rfl (by simp [w1, G]))
  ·have g1x := G
   simp [G]
   repeat with_reducible refine zJ ?_
   refine cKo e3 ?_ ?_ <;> intro k11 h6 e3
   ·try (simp [G] at h6; done)
    all_goals
     have i6 : v3_0 < v2_0.length := by (simp at h6; omega)
     have m8 := ml v2_0 (k11 6 _ rfl)
     have w4 := wr v3_0
     simp [G]
     repeat with_reducible refine zJ ?_
     exact ny1 (an w1 (an w4 G)) e3
   ·try (simp [G] at h6; done)
    all_goals
     have e1 := ms e1 e3
     simp [G]
     repeat with_reducible refine zJ ?_
     refine dIo mixed ?_
     simp [G]
     repeat with_reducible refine zJ ?_
     exact nx2 e1 (hI := by first | omega | (simp at *; omega)) (hw := Yc [((3, 0), some (82, 0))] [] rfl (by simp [w1, G]))
 have c2 := sl 2330624 a0 u0
 have f := ms f e1
 refine rb (rv := [.tmp 2]) rfl ?_
 simp [f.h]
 all_goals ((rintro r (hr | rfl | hr) x hx <;> (first | (simp at hx; rcases hx with rfl | rfl <;> rfl) | ((first | (replace hr := List.mem_of_mem_take hr) | (replace hr := List.mem_of_mem_drop hr)); simp at hr; obtain ⟨a, _, rfl⟩ := hr; simp at hx; rcases hx with rfl | rfl <;> rfl))))
theorem Fs (a0 : Zn) (a1 : List Zu) (u0 : Sm 2322432 a1) : Sd 274 [a0.row, rL 5 Zu.row a1] [rL 2 ZF.row (xU a0 a1)] := by
 have f := me (xU.eq_1 a0 a1)
 refine soD Tryz.func274 Tryz.ntmps274 ?_
 refine nY (t := 5) (cells := [.nil 2]) rfl rfl rfl rfl (by simp) (by simp) ?_
 simp
 refine cF f ?_ ?_ <;> intro k1 h1 f
 ·refine HR (tf := 11) (u := 5) (row := [.sl 2 (([] : List ZF).map ZF.row)]) (row' := [.sl 2 ((Zl 0 (W (a0.YN - 1)) ([] : List ZF)).map ZF.row)]) (cells := [.nil 2]) [false] rfl rfl rfl rfl (JN 0 (W (a0.YN - 1)) ([] : List ZF) (by (first | (exact ⟨Nat.zero_le _, fun _ _ => trivial⟩) | (refine ZE (n := 2322432) ?_; exact ⟨Nat.zero_le _, fun _ _ => trivial⟩) | (refine ZE (n := 2322432) (ZE (n := 2322432 - 1) ?_); exact ⟨Nat.zero_le _, fun _ _ => trivial⟩) | (refine Zi (n := 3) (by decide) (ZE (ZE (ZE (n := 0) ?_))); exact ⟨Nat.zero_le _, fun _ _ => trivial⟩) | (refine Zi (n := 2) (by decide) (ZE (ZE (n := 0) ?_)); exact ⟨Nat.zero_le _, fun _ _ => trivial⟩) | (refine Zi (n := 1) (by decide) (ZE (n := 0) ?_); exact ⟨Nat.zero_le _, fun _ _ => trivial⟩)))) (by simp) (by simp) (by simp) (by simp) (by simp) (by simp) (by simp) (by simp) (by simp) (by simp) (by simp [X4]) (by simp) (by simp) ?_
  simp
  refine cF f ?_ ?_ <;> intro k2 h2 f
  ·refine HR (tf := 19) (u := 5) (row := [.sl 2 ((Zl 0 (W (a0.YN - 1)) ([] : List ZF)).map ZF.row)]) (row' := [.sl 2 ((Zl (W (a0.To + 1)) 10000 (Zl 0 (W (a0.YN - 1)) ([] : List ZF))).map ZF.row)]) (cells := [.sref 5 1 0 (Zl 0 (W (a0.YN - 1)) ([] : List ZF)).length]) [false] rfl rfl rfl rfl (JN (W (a0.To + 1)) 10000 (Zl 0 (W (a0.YN - 1)) ([] : List ZF)) (by (first | (exact ⟨Nat.zero_le _, fun _ _ => trivial⟩) | (refine ZE (n := 2322432) ?_; exact ⟨Nat.zero_le _, fun _ _ => trivial⟩) | (refine ZE (n := 2322432) (ZE (n := 2322432 - 1) ?_); exact ⟨Nat.zero_le _, fun _ _ => trivial⟩) | (refine Zi (n := 3) (by decide) (ZE (ZE (ZE (n := 0) ?_))); exact ⟨Nat.zero_le _, fun _ _ => trivial⟩) | (refine Zi (n := 2) (by decide) (ZE (ZE (n := 0) ?_)); exact ⟨Nat.zero_le _, fun _ _ => trivial⟩) | (refine Zi (n := 1) (by decide) (ZE (n := 0) ?_); exact ⟨Nat.zero_le _, fun _ _ => trivial⟩)))) (by simp) (by simp) (by simp) (by simp) (by simp) (by simp) (by simp) (by simp) (by simp) (by simp) (by simp [X4]) (by simp) (by simp) ?_
   simp
   refine cRs (VR a1 a0.YA) ?_
   refine HR (tf := 24) (u := 5) (row := [.sl 2 ((Zl (W (a0.To + 1)) 10000 (Zl 0 (W (a0.YN - 1)) ([] : List ZF))).map ZF.row)]) (row' := [.sl 2 ((Zl (X5 a1 a0.YA) 10000 (Zl (W (a0.To + 1)) 10000 (Zl 0 (W (a0.YN - 1)) ([] : List ZF)))).map ZF.row)]) (cells := [.sref 5 1 0 (Zl (W (a0.To + 1)) 10000 (Zl 0 (W (a0.YN - 1)) ([] : List ZF))).length]) [false] rfl rfl rfl rfl (JN (X5 a1 a0.YA) 10000 (Zl (W (a0.To + 1)) 10000 (Zl 0 (W (a0.YN - 1)) ([] : List ZF))) (by (first | (exact ⟨Nat.zero_le _, fun _ _ => trivial⟩) | (refine ZE (n := 2322432) ?_; exact ⟨Nat.zero_le _, fun _ _ => trivial⟩) | (refine ZE (n := 2322432) (ZE (n := 2322432 - 1) ?_); exact ⟨Nat.zero_le _, fun _ _ => trivial⟩) | (refine Zi (n := 3) (by decide) (ZE (ZE (ZE (n := 0) ?_))); exact ⟨Nat.zero_le _, fun _ _ => trivial⟩) | (refine Zi (n := 2) (by decide) (ZE (ZE (n := 0) ?_)); exact ⟨Nat.zero_le _, fun _ _ => trivial⟩) | (refine Zi (n := 1) (by decide) (ZE (n := 0) ?_); exact ⟨Nat.zero_le _, fun _ _ => trivial⟩)))) (by simp) (by simp) (by simp) (by simp) (by simp) (by simp) (by simp) (by simp) (by simp) (by simp) (by simp [X4]) (by simp) (by simp) ?_
   simp
   refine cDs [false] (yk (Zl (X5 a1 a0.YA) 10000 (Zl (W (a0.To + 1)) 10000 (Zl 0 (W (a0.YN - 1)) ([] : List ZF)))) (by (first | (exact ⟨Nat.zero_le _, fun _ _ => trivial⟩) | (refine ZE (n := 2322432) ?_; exact ⟨Nat.zero_le _, fun _ _ => trivial⟩) | (refine ZE (n := 2322432) (ZE (n := 2322432 - 1) ?_); exact ⟨Nat.zero_le _, fun _ _ => trivial⟩) | (refine Zi (n := 3) (by decide) (ZE (ZE (ZE (n := 0) ?_))); exact ⟨Nat.zero_le _, fun _ _ => trivial⟩) | (refine Zi (n := 2) (by decide) (ZE (ZE (n := 0) ?_)); exact ⟨Nat.zero_le _, fun _ _ => trivial⟩) | (refine Zi (n := 1) (by decide) (ZE (n := 0) ?_); exact ⟨Nat.zero_le _, fun _ _ => trivial⟩)))) ?_
   exact rtD [.tmp 4] f
  refine cRs (VR a1 a0.YA) ?_
  refine HR (tf := 24) (u := 5) (row := [.sl 2 ((Zl 0 (W (a0.YN - 1)) ([] : List ZF)).map ZF.row)]) (row' := [.sl 2 ((Zl (X5 a1 a0.YA) 10000 (Zl 0 (W (a0.YN - 1)) ([] : List ZF))).map ZF.row)]) (cells := [.sref 5 1 0 (Zl 0 (W (a0.YN - 1)) ([] : List ZF)).length]) [false] rfl rfl rfl rfl (JN (X5 a1 a0.YA) 10000 (Zl 0 (W (a0.YN - 1)) ([] : List ZF)) (by (first | (exact ⟨Nat.zero_le _, fun _ _ => trivial⟩) | (refine ZE (n := 2322432) ?_; exact ⟨Nat.zero_le _, fun _ _ => trivial⟩) | (refine ZE (n := 2322432) (ZE (n := 2322432 - 1) ?_); exact ⟨Nat.zero_le _, fun _ _ => trivial⟩) | (refine Zi (n := 3) (by decide) (ZE (ZE (ZE (n := 0) ?_))); exact ⟨Nat.zero_le _, fun _ _ => trivial⟩) | (refine Zi (n := 2) (by decide) (ZE (ZE (n := 0) ?_)); exact ⟨Nat.zero_le _, fun _ _ => trivial⟩) | (refine Zi (n := 1) (by decide) (ZE (n := 0) ?_); exact ⟨Nat.zero_le _, fun _ _ => trivial⟩)))) (by simp) (by simp) (by simp) (by simp) (by simp) (by simp) (by simp) (by simp) (by simp) (by simp) (by simp [X4]) (by simp) (by simp) ?_
  simp
  refine cDs [false] (yk (Zl (X5 a1 a0.YA) 10000 (Zl 0 (W (a0.YN - 1)) ([] : List ZF))) (by (first | (exact ⟨Nat.zero_le _, fun _ _ => trivial⟩) | (refine ZE (n := 2322432) ?_; exact ⟨Nat.zero_le _, fun _ _ => trivial⟩) | (refine ZE (n := 2322432) (ZE (n := 2322432 - 1) ?_); exact ⟨Nat.zero_le _, fun _ _ => trivial⟩) | (refine Zi (n := 3) (by decide) (ZE (ZE (ZE (n := 0) ?_))); exact ⟨Nat.zero_le _, fun _ _ => trivial⟩) | (refine Zi (n := 2) (by decide) (ZE (ZE (n := 0) ?_)); exact ⟨Nat.zero_le _, fun _ _ => trivial⟩) | (refine Zi (n := 1) (by decide) (ZE (n := 0) ?_); exact ⟨Nat.zero_le _, fun _ _ => trivial⟩)))) ?_
  exact rtD [.tmp 4] f
 refine cF f ?_ ?_ <;> intro k3 h3 f
 ·refine HR (tf := 19) (u := 5) (row := [.sl 2 (([] : List ZF).map ZF.row)]) (row' := [.sl 2 ((Zl (W (a0.To + 1)) 10000 ([] : List ZF)).map ZF.row)]) (cells := [.nil 2]) [false] rfl rfl rfl rfl (JN (W (a0.To + 1)) 10000 ([] : List ZF) (by (first | (exact ⟨Nat.zero_le _, fun _ _ => trivial⟩) | (refine ZE (n := 2322432) ?_; exact ⟨Nat.zero_le _, fun _ _ => trivial⟩) | (refine ZE (n := 2322432) (ZE (n := 2322432 - 1) ?_); exact ⟨Nat.zero_le _, fun _ _ => trivial⟩) | (refine Zi (n := 3) (by decide) (ZE (ZE (ZE (n := 0) ?_))); exact ⟨Nat.zero_le _, fun _ _ => trivial⟩) | (refine Zi (n := 2) (by decide) (ZE (ZE (n := 0) ?_)); exact ⟨Nat.zero_le _, fun _ _ => trivial⟩) | (refine Zi (n := 1) (by decide) (ZE (n := 0) ?_); exact ⟨Nat.zero_le _, fun _ _ => trivial⟩)))) (by simp) (by simp) (by simp) (by simp) (by simp) (by simp) (by simp) (by simp) (by simp) (by simp) (by simp [X4]) (by simp) (by simp) ?_
  simp
  refine cRs (VR a1 a0.YA) ?_
  refine HR (tf := 24) (u := 5) (row := [.sl 2 ((Zl (W (a0.To + 1)) 10000 ([] : List ZF)).map ZF.row)]) (row' := [.sl 2 ((Zl (X5 a1 a0.YA) 10000 (Zl (W (a0.To + 1)) 10000 ([] : List ZF))).map ZF.row)]) (cells := [.sref 5 1 0 (Zl (W (a0.To + 1)) 10000 ([] : List ZF)).length]) [false] rfl rfl rfl rfl (JN (X5 a1 a0.YA) 10000 (Zl (W (a0.To + 1)) 10000 ([] : List ZF)) (by (first | (exact ⟨Nat.zero_le _, fun _ _ => trivial⟩) | (refine ZE (n := 2322432) ?_; exact ⟨Nat.zero_le _, fun _ _ => trivial⟩) | (refine ZE (n := 2322432) (ZE (n := 2322432 - 1) ?_); exact ⟨Nat.zero_le _, fun _ _ => trivial⟩) | (refine Zi (n := 3) (by decide) (ZE (ZE (ZE (n := 0) ?_))); exact ⟨Nat.zero_le _, fun _ _ => trivial⟩) | (refine Zi (n := 2) (by decide) (ZE (ZE (n := 0) ?_)); exact ⟨Nat.zero_le _, fun _ _ => trivial⟩) | (refine Zi (n := 1) (by decide) (ZE (n := 0) ?_); exact ⟨Nat.zero_le _, fun _ _ => trivial⟩)))) (by simp) (by simp) (by simp) (by simp) (by simp) (by simp) (by simp) (by simp) (by simp) (by simp) (by simp [X4]) (by simp) (by simp) ?_
  simp
  refine cDs [false] (yk (Zl (X5 a1 a0.YA) 10000 (Zl (W (a0.To + 1)) 10000 ([] : List ZF))) (by (first | (exact ⟨Nat.zero_le _, fun _ _ => trivial⟩) | (refine ZE (n := 2322432) ?_; exact ⟨Nat.zero_le _, fun _ _ => trivial⟩) | (refine ZE (n := 2322432) (ZE (n := 2322432 - 1) ?_); exact ⟨Nat.zero_le _, fun _ _ => trivial⟩) | (refine Zi (n := 3) (by decide) (ZE (ZE (ZE (n := 0) ?_))); exact ⟨Nat.zero_le _, fun _ _ => trivial⟩) | (refine Zi (n := 2) (by decide) (ZE (ZE (n := 0) ?_)); exact ⟨Nat.zero_le _, fun _ _ => trivial⟩) | (refine Zi (n := 1) (by decide) (ZE (n := 0) ?_); exact ⟨Nat.zero_le _, fun _ _ => trivial⟩)))) ?_
  exact rtD [.tmp 4] f
 refine cRs (VR a1 a0.YA) ?_
 refine HR (tf := 24) (u := 5) (row := [.sl 2 (([] : List ZF).map ZF.row)]) (row' := [.sl 2 ((Zl (X5 a1 a0.YA) 10000 ([] : List ZF)).map ZF.row)]) (cells := [.nil 2]) [false] rfl rfl rfl rfl (JN (X5 a1 a0.YA) 10000 ([] : List ZF) (by (first | (exact ⟨Nat.zero_le _, fun _ _ => trivial⟩) | (refine ZE (n := 2322432) ?_; exact ⟨Nat.zero_le _, fun _ _ => trivial⟩) | (refine ZE (n := 2322432) (ZE (n := 2322432 - 1) ?_); exact ⟨Nat.zero_le _, fun _ _ => trivial⟩) | (refine Zi (n := 3) (by decide) (ZE (ZE (ZE (n := 0) ?_))); exact ⟨Nat.zero_le _, fun _ _ => trivial⟩) | (refine Zi (n := 2) (by decide) (ZE (ZE (n := 0) ?_)); exact ⟨Nat.zero_le _, fun _ _ => trivial⟩) | (refine Zi (n := 1) (by decide) (ZE (n := 0) ?_); exact ⟨Nat.zero_le _, fun _ _ => trivial⟩)))) (by simp) (by simp) (by simp) (by simp) (by simp) (by simp) (by simp) (by simp) (by simp) (by simp) (by simp [X4]) (by simp) (by simp) ?_
 simp
 refine cDs [false] (yk (Zl (X5 a1 a0.YA) 10000 ([] : List ZF)) (by (first | (exact ⟨Nat.zero_le _, fun _ _ => trivial⟩) | (refine ZE (n := 2322432) ?_; exact ⟨Nat.zero_le _, fun _ _ => trivial⟩) | (refine ZE (n := 2322432) (ZE (n := 2322432 - 1) ?_); exact ⟨Nat.zero_le _, fun _ _ => trivial⟩) | (refine Zi (n := 3) (by decide) (ZE (ZE (ZE (n := 0) ?_))); exact ⟨Nat.zero_le _, fun _ _ => trivial⟩) | (refine Zi (n := 2) (by decide) (ZE (ZE (n := 0) ?_)); exact ⟨Nat.zero_le _, fun _ _ => trivial⟩) | (refine Zi (n := 1) (by decide) (ZE (n := 0) ?_); exact ⟨Nat.zero_le _, fun _ _ => trivial⟩)))) ?_
 exact rtD [.tmp 4] f
theorem Fo (a0 : ZF) (a1 : ZF) : Sa 321 [a0.row, a1.row] [rB (qx a0 a1)] := by
 have f := me (qx.eq_1 a0 a1)
 refine so Tryz.func321 Tryz.ntmps321 ?_
 refine cRs (Ji a0) ?_
 refine cGs (fun gg => (Ji a1)) ?_
 exact rt [.tmp 4] f
theorem Wy (a0 : List ZF) (a1 : ZF) (u0 : Sm 2326528 a0) : Sa 273 [rL 2 ZF.row a0, a1.row] [rB (Je a0 a1)] := by
 have f := me (Je.eq_1 a0 a1)
 refine so Tryz.func273 Tryz.ntmps273 ?_
 refine cRs (Ym.rd (yk a0 (sg u0))) ?_
 refine lp1 (z8.eq_2 a0 a1) (fun v1_0 => YP 18 [eX 3 (a1.row.map .d), eL 8 2 (XQ a0) ZF.row, eI 9 (↑(XQ a0).length : Int), eI 10 (↑v1_0 : Int)]) (fun n1 v1_0 => (XQ a0).length < n1 + v1_0 ∧ v1_0 ≤ (XQ a0).length) ((XQ a0).length + 1) 0 (fun p1 v1_0 e1 j1 => ?_)
 refine cFf e1 ?_ ?_ <;> intro k2 h1 e1
 ·have i1 := ix h1
  have m2 := ml (XQ a0) (k2 8 _ rfl)
  have w1 := wr v1_0
  simp [i1, ZA]
  repeat with_reducible refine sd ?_
  refine cRs (Fo a1 (nth (XQ a0) v1_0)) ?_
  refine cF e1 ?_ ?_ <;> intro k3 h2 e1
  ·have f := ms f e1
   exact rt [.tmp 4] f
  exact ny1 w1 e1
 have f := ms f e1
 exact rt [.tmp 4] f
theorem Fy (a0 : Zn) (a1 : List Zu) (a2 : ZF) (u0 : Sm 2318336 a1) : Sa 206 [a0.row, rL 5 Zu.row a1, a2.row] [rB (UK a0 a1 a2)] := by
 have f := me (UK.eq_1 a0 a1 a2)
 refine so Tryz.func206 Tryz.ntmps206 ?_
 refine dIs mixed ?_
 refine cRs (Ym.rd (Fs a0 a1 (sg u0))) ?_
 refine cRs (Wy (xU a0 a1) a2 (by exact ED (by decide))) ?_
 exact rt [.tmp 6] f
theorem HS (a0 : List Zu) (a1 : Int) : Sa 326 [rL 5 Zu.row a0, rI a1] [rI (xI a0 a1)] := by
 have f := me (xI.eq_1 a0 a1)
 refine so Tryz.func326 Tryz.ntmps326 ?_
 refine cRs (DH a0 a1) ?_
 refine cF f ?_ ?_ <;> intro k1 h1 f
 ·exact rt [.tmp 4] f
 exact rt [.tmp 4] f
theorem GJ (a0 : ZF) (a1 : ZF) : Sa 345 [a0.row, a1.row] [(JG a0 a1).1.row, rB (JG a0 a1).2] := by
 have f := me (JG.eq_1 a0 a1)
 refine so Tryz.func345 Tryz.ntmps345 ?_
 refine cRs (Ji a0) ?_
 refine cGs (fun gg => (Ji a1)) ?_
 refine cGs (fun gg => (Ji (ZF.mk (if a1.YN > a0.YN then a1.YN else a0.YN) (if a1.To < a0.To then a1.To else a0.To)))) ?_
 refine cF f ?_ ?_ <;> intro k1 h1 f
 ·exact rt [.cell 4 77, .tmp 5] f
 exact rt [.cell 4 77, .tmp 5] f
theorem Su {a b : Prop} (h : b) (k : a := by (intros; first | omega | with_unfolding_all (first | (first | omega | (simp at *; omega))) | ((try simp only [Kb, show ∀ x, IntKind.i64.wrap x = W x from fun _ => rfl] at *); omega))) : a ∧ b := ⟨k, h⟩
theorem Dx (a0 : List ZF) (a1 : List ZF) (u0 : Sm 2326528 a0) (u1 : Sm 2326528 a1) (u2 : a0.length ≤ 1 ∧ a1.length ≤ 1) : Sd 325 [rL 2 ZF.row a0, rL 2 ZF.row a1] [rL 2 ZF.row (kc a0 a1)] := by
 have f := me (kc.eq_1 a0 a1)
 refine soD Tryz.func325 Tryz.ntmps325 ?_
 refine lp2 (jC.eq_2 a0 a1) (fun v1_0 v1_1 => YP 39 [eL 1 2 a1 ZF.row, (5, .one (.sref 5 0 0 v1_0.length), [.arr false 2 (v1_0.map ZF.row)]), eL 12 2 a0 ZF.row, eI 13 (↑a0.length : Int), eI 14 (↑v1_1 : Int)]) (fun n1 v1_0 v1_1 => a0.length < n1 + v1_1 ∧ v1_1 ≤ a0.length ∧ v1_0.length ≤ v1_1) (a0.length + 1) ([] : List ZF) 0 (fun p1 v1_0 v1_1 e1 j1 => ?_) (h0 := Yc [((5, 0), none)] [] rfl (by simp))
 try dsimp only at j1
 refine cFf e1 ?_ ?_ <;> intro k2 h1 e1
 ·have i1 := ix h1
  have m2 := ml a0 (k2 12 _ rfl)
  have c1 := sl 2326528 a0 (an u0 (an u1 u2))
  have w1 := wr v1_1
  simp [i1, ZA]
  repeat with_reducible refine Su ?_
  refine lp2 (K1.eq_2 a0 a1 v1_1) (fun v2_0 v2_1 => YP 39 [eL 1 2 a1 ZF.row, (5, .one (.sref 5 0 0 v2_0.length), [.arr false 2 (v2_0.map ZF.row)]), eX 7 ((nth a0 v1_1).row.map .d), eL 12 2 a0 ZF.row, eI 13 (↑a0.length : Int), eI 14 (↑v1_1 : Int), eL 18 2 a1 ZF.row, eI 19 (↑a1.length : Int), eI 20 (↑v2_1 : Int)]) (fun n2 v2_0 v2_1 => a1.length < n2 + v2_1 ∧ v2_1 ≤ a1.length ∧ v2_0.length ≤ v1_1 + v2_1) (a1.length + 1) v1_0 0 (fun p2 v2_0 v2_1 e2 j2 => ?_)
  try dsimp only at j2
  refine cFf e2 ?_ ?_ <;> intro k4 h2 e2
  ·have i2 := ix h2
   have m4 := ml a1 (k4 1 _ rfl)
   have c2 := sl 2326528 a1 (an u0 (an u1 u2))
   have w2 := wr v2_1
   simp [i2, ZA]
   repeat with_reducible refine Su ?_
   refine cRs (GJ (nth a0 v1_1) (nth a1 v2_1)) ?_
   refine cFf e2 ?_ ?_ <;> intro k5 h3 e2
   ·simp
    repeat with_reducible refine Su ?_
    exact nx2 e2 (hI := by first | omega | (simp at *; omega)) (hw := Yc [((5, 0), some (34, 0))] [] rfl (by simp [w1, w2]))
   exact ny2 (an w1 w2) e2 (hI := by first | omega | (simp at *; omega))
  have c3 := sl 2326528 a1 (an u0 (an u1 u2))
  have e1 := ms e1 e2
  exact ny2 w1 e1
 have c4 := sl 2326528 a0 (an u0 (an u1 u2))
 have f := ms f e1
 refine cDs [false] (yk v1_0 (by exact ⟨by omega, fun _ _ => trivial⟩)) ?_
 exact rtD [.tmp 4] f
theorem Hk (a0 : Zn) (a1 : List Zu) (u0 : Sm 2322432 a1) : Sd 275 [a0.row, rL 5 Zu.row a1] [rL 2 ZF.row (yT a0 a1)] := by
 have f := me (yT.eq_1 a0 a1)
 refine soD Tryz.func275 Tryz.ntmps275 ?_
 refine dIs mixed ?_
 refine cRs (OM a0) ?_
 refine cRs (HS a1 a0.YA) ?_
 refine cDs [false] (Dx ([(xE a0)] : List ZF) ([(ZF.mk 0 (xI a1 a0.YA))] : List ZF) (by simp (maxDischargeDepth := 12) [KY, X6, Zi (m := 2326528) (by decide) u0]; try omega) (by simp (maxDischargeDepth := 12) [KY, X6, Zi (m := 2326528) (by decide) u0]; try omega) (by exact ⟨Nat.le_refl _, Nat.le_refl _⟩)) ?_
 exact rtD [.tmp 4] f
theorem Ir (a0 : Zn) (a1 : List Zu) (a2 : ZF) (u0 : Sm 2318336 a1) : Sa 207 [a0.row, rL 5 Zu.row a1, a2.row] [rB (ju a0 a1 a2)] := by
 have f := me (ju.eq_1 a0 a1 a2)
 refine so Tryz.func207 Tryz.ntmps207 ?_
 refine dIs mixed ?_
 refine cRs (Ym.rd (Hk a0 a1 (sg u0))) ?_
 refine cRs (Wy (yT a0 a1) a2 (by exact HP (by decide))) ?_
 exact rt [.tmp 6] f
theorem L6 (a0 : List ZD) (u0 : Sm 2330624 a0) : Sd 209 [rL 3 ZD.row a0] [rL 6 Zy.row (yf a0)] := by
 have f := me (yf.eq_1 a0)
 refine soD Tryz.func209 Tryz.ntmps209 ?_
 refine lp2 (Kc.eq_2 a0) (fun v1_0 v1_1 => YP 26 [(3, .one (.sref 3 0 0 v1_0.length), [.arr false 6 (v1_0.map Zy.row)]), eL 8 3 a0 ZD.row, eI 9 (↑a0.length : Int), eI 10 (↑v1_1 : Int)]) (fun n1 v1_0 v1_1 => a0.length < n1 + v1_1 ∧ v1_1 ≤ a0.length ∧ v1_0.length ≤ 0 + 1 * v1_1) (a0.length + 1) ([] : List Zy) 0 (fun p1 v1_0 v1_1 e1 j1 => ?_) (h0 := Yc [((3, 0), none)] [] rfl (by simp))
 refine cFf e1 ?_ ?_ <;> intro k2 h1 e1
 ·have i1 := ix h1
  have m2 := ml a0 (k2 8 _ rfl)
  have c1 := sl 2330624 a0 u0
  have w1 := wr v1_1
  simp [i1, ZA]
  repeat with_reducible refine sd ?_
  refine cRs (UY (nth a0 v1_1)) ?_
  refine cF e1 ?_ ?_ <;> intro k3 h2 e1
  ·exact nx2 e1 (hw := Yc [((3, 0), some (23, 0))] [] rfl (by simp [w1]))
  exact ny2 w1 e1
 have c2 := sl 2330624 a0 u0
 have f := ms f e1
 exact rtD [.tmp 2] f
theorem GD (a0 : Zy) : Sa 346 [a0.row] [rB (WG a0)] := by
 have f := me (WG.eq_1 a0)
 refine so Tryz.func346 Tryz.ntmps346 ?_
 refine cRs (Z7 a0.Org 1 99) ?_
 refine cGs (fun gg => (Z7 a0.V4 0 99)) ?_
 refine cGs (fun gg => (Z7 a0.Key 1 99)) ?_
 refine cGs (fun gg => (Ji (ZF.mk a0.YN a0.To))) ?_
 exact rt [.tmp 2] f
theorem Mv (a0 : Zy) : Sd 347 [a0.row] [rL 1 iR (JX a0)] := by
 have f := me (JX.eq_1 a0)
 refine soD Tryz.func347 Tryz.ntmps347 ?_
 exact rtD [.tmp 2] f
theorem Ov (a0 : List Zs) (a1 : Zy) (u0 : Sm 2314240 a0) : Sa 327 [rL 5 Zs.row a0, a1.row] [rB (xn a0 a1)] := by
 have f := me (xn.eq_1 a0 a1)
 refine so Tryz.func327 Tryz.ntmps327 ?_
 refine dIs mixed ?_
 refine cRs (GD a1) ?_
 refine cGs (fun gg => (NT a0 a1.Key)) ?_
 refine cGs (fun gg => Ym.rd (Mv a1)) ?_
 refine cGs (fun gg => (Qy a0 a1.Key (JX a1) a1.Mark (sg u0) (by simp (maxDischargeDepth := 12) [MY, Zi (m := 2318336) (by decide) u0]; try omega))) ?_
 exact rt [.tmp 4] f
theorem N2 (a0 : List Zs) (a1 : List Zy) (a2 : Int) (a3 : Int) (u0 : Sm 2310144 a0) (u1 : Sm 2310144 a1) : Sd 276 [rL 5 Zs.row a0, rL 6 Zy.row a1, rI a2, rI a3] [rL 2 ZF.row (Jm a0 a1 a2 a3)] := by
 have f := me (Jm.eq_1 a0 a1 a2 a3)
 refine soD Tryz.func276 Tryz.ntmps276 ?_
 refine lp2 (JR.eq_2 a0 a1 a2 a3) (fun v1_0 v1_1 => YP 44 [eL 0 5 a0 Zs.row, eI 2 a2, eI 3 a3, (9, .one (.sref 9 0 0 v1_0.length), [.arr false 2 (v1_0.map ZF.row)]), eL 12 6 a1 Zy.row, eI 13 (↑a1.length : Int), eI 14 (↑v1_1 : Int)]) (fun n1 v1_0 v1_1 => a1.length < n1 + v1_1 ∧ v1_1 ≤ a1.length ∧ v1_0.length ≤ 0 + 1 * v1_1) (a1.length + 1) ([] : List ZF) 0 (fun p1 v1_0 v1_1 e1 j1 => ?_) (h0 := Yc [((9, 0), none)] [] rfl (by simp))
 refine cFf e1 ?_ ?_ <;> intro k2 h1 e1
 ·have i1 := ix h1
  have m2 := ml a1 (k2 12 _ rfl)
  have c1 := sl 2310144 a1 (an u0 u1)
  have w1 := wr v1_1
  simp [i1, ZA]
  repeat with_reducible refine sd ?_
  refine cGs (fun gg => (Ov a0 (nth a1 v1_1) (sg u0))) ?_
  refine cF e1 ?_ ?_ <;> intro k3 h2 e1
  ·exact nx2 e1 (hw := Yc [((9, 0), some (40, 0))] [] rfl (by simp [w1]))
  exact ny2 w1 e1
 have c2 := sl 2310144 a1 (an u0 u1)
 have f := ms f e1
 refine cDs [false] (yk v1_0 (by first | (simp (maxDischargeDepth := 12) [X6]; omega) | (simp (maxDischargeDepth := 12) [Zi (m := 2330624) (by decide) u0, Zi (m := 2330624) (by decide) u1]; done))) ?_
 exact rtD [.tmp 8] f
theorem Ip (a0 : List Zs) (a1 : List Zy) (a2 : Int) (a3 : Int) (a4 : ZF) (u0 : Sm 2306048 a0) (u1 : Sm 2306048 a1) : Sa 208 [rL 5 Zs.row a0, rL 6 Zy.row a1, rI a2, rI a3, a4.row] [rB (jg a0 a1 a2 a3 a4)] := by
 have f := me (jg.eq_1 a0 a1 a2 a3 a4)
 refine so Tryz.func208 Tryz.ntmps208 ?_
 refine dIs mixed ?_
 refine cGs (fun gg => (Ji a4)) ?_
 refine cGs (fun gg => Ym.rd (N2 a0 a1 a2 a3 (by first | exact sg u0 | exact sg u1) (by first | exact sg u0 | exact sg u1))) ?_
 refine cGs (fun gg => (Wy (Jm a0 a1 a2 a3) a4 (by exact Nt (by have z := Yv u1; omega)))) ?_
 refine ⟨by by_cases h : a2 = 0 <;> simp [h], ?_⟩
 exact rt [.tmp 10] f
theorem NW (a0 : ZI) (a1 : ZL) (a2 : List (List Int)) (a3 : Int) (a4 : ZV) (u0 : Sm 2281472 a0) (u1 : Sm 2281472 a1) (u2 : Sm 2281472 a2) (u3 : BL a1 ≤ 2097152) : Sa 144 [a0.row, a1.row, rL 1 (slR 1 iR) a2, rI a3, a4.row] [(xi a0 a1 a2 a3 a4).row] := by
 have f := me (xi.eq_1 a0 a1 a2 a3 a4)
 refine so Tryz.func144 Tryz.ntmps144 ?_
 refine cRs (Dn a0) ?_
 refine cF f ?_ ?_ <;> intro k1 h1 f
 ·refine cRs (VW 1) ?_
  exact rt [.cell 10 79] f
 refine cRs (SN a4) ?_
 refine cF f ?_ ?_ <;> intro k2 h2 f
 ·refine cRs (SZ 1) ?_
  exact rt [.cell 10 79] f
 refine cF f ?_ ?_ <;> intro k3 h3 f
 ·refine cRs (VW 2) ?_
  exact rt [.cell 10 79] f
 refine cF f ?_ ?_ <;> intro k4 h4 f
 ·refine cRs (SZ 2) ?_
  exact rt [.cell 10 79] f
 refine cRs (qA a0.YY a4.Key) ?_
 refine cF f ?_ ?_ <;> intro k5 h5 f
 ·refine cRs (VW 3) ?_
  exact rt [.cell 10 79] f
 refine cRs (P6 a0.YY a4 (by (first | exact sg (Yr (n := 2281472) (by decide)) | exact sg u0 | exact sg u1 | exact sg u2 | exact u3 | exact sg (ZI.Ye u0) | exact sg (ZI.YH u0) | exact sg (ZR (K := 2281472) u1 u3 (by decide)) | exact sg (YX (ZR (K := 2281472) u1 u3 (by decide))) | exact sg (Yi (ZR (K := 2281472) u1 u3 (by decide)))))) ?_
 refine cF f ?_ ?_ <;> intro k6 h6 f
 ·refine cRs (SZ 4) ?_
  exact rt [.cell 10 79] f
 refine dIs mixed ?_
 refine cRs (Ym.rd (G4 a4)) ?_
 refine cRs (Vn a0 a1 a2 (XY a4) (by (first | exact sg (Yr (n := 2281472) (by decide)) | exact sg u0 | exact sg u1 | exact sg u2 | exact u3 | exact sg (ZI.Ye u0) | exact sg (ZI.YH u0) | exact sg (ZR (K := 2281472) u1 u3 (by decide)) | exact sg (YX (ZR (K := 2281472) u1 u3 (by decide))) | exact sg (Yi (ZR (K := 2281472) u1 u3 (by decide))))) (by (first | exact sg (Yr (n := 2281472) (by decide)) | exact sg u0 | exact sg u1 | exact sg u2 | exact u3 | exact sg (ZI.Ye u0) | exact sg (ZI.YH u0) | exact sg (ZR (K := 2281472) u1 u3 (by decide)) | exact sg (YX (ZR (K := 2281472) u1 u3 (by decide))) | exact sg (Yi (ZR (K := 2281472) u1 u3 (by decide))))) (by (first | exact sg (Yr (n := 2281472) (by decide)) | exact sg u0 | exact sg u1 | exact sg u2 | exact u3 | exact sg (ZI.Ye u0) | exact sg (ZI.YH u0) | exact sg (ZR (K := 2281472) u1 u3 (by decide)) | exact sg (YX (ZR (K := 2281472) u1 u3 (by decide))) | exact sg (Yi (ZR (K := 2281472) u1 u3 (by decide))))) (by (first | exact sg (Yr (n := 2281472) (by decide)) | exact sg u0 | exact sg u1 | exact sg u2 | exact u3 | exact sg (ZI.Ye u0) | exact sg (ZI.YH u0) | exact sg (ZR (K := 2281472) u1 u3 (by decide)) | exact sg (YX (ZR (K := 2281472) u1 u3 (by decide))) | exact sg (Yi (ZR (K := 2281472) u1 u3 (by decide)))))) ?_
 refine cRs (RP a0 a4.Key) ?_
 refine cGs (fun gg => (VF a0.Methods a4.Method)) ?_
 refine cF f ?_ ?_ <;> intro k8 h7 f
 ·refine cRs (VW 5) ?_
  exact rt [.cell 10 79] f
 refine cRs (O6 a0 a1 a2 (by (first | exact sg (Yr (n := 2281472) (by decide)) | exact sg u0 | exact sg u1 | exact sg u2 | exact u3 | exact sg (ZI.Ye u0) | exact sg (ZI.YH u0) | exact sg (ZR (K := 2281472) u1 u3 (by decide)) | exact sg (YX (ZR (K := 2281472) u1 u3 (by decide))) | exact sg (Yi (ZR (K := 2281472) u1 u3 (by decide))))) (by (first | exact sg (Yr (n := 2281472) (by decide)) | exact sg u0 | exact sg u1 | exact sg u2 | exact u3 | exact sg (ZI.Ye u0) | exact sg (ZI.YH u0) | exact sg (ZR (K := 2281472) u1 u3 (by decide)) | exact sg (YX (ZR (K := 2281472) u1 u3 (by decide))) | exact sg (Yi (ZR (K := 2281472) u1 u3 (by decide))))) (by (first | exact sg (Yr (n := 2281472) (by decide)) | exact sg u0 | exact sg u1 | exact sg u2 | exact u3 | exact sg (ZI.Ye u0) | exact sg (ZI.YH u0) | exact sg (ZR (K := 2281472) u1 u3 (by decide)) | exact sg (YX (ZR (K := 2281472) u1 u3 (by decide))) | exact sg (Yi (ZR (K := 2281472) u1 u3 (by decide))))) (by (first | exact sg (Yr (n := 2281472) (by decide)) | exact sg u0 | exact sg u1 | exact sg u2 | exact u3 | exact sg (ZI.Ye u0) | exact sg (ZI.YH u0) | exact sg (ZR (K := 2281472) u1 u3 (by decide)) | exact sg (YX (ZR (K := 2281472) u1 u3 (by decide))) | exact sg (Yi (ZR (K := 2281472) u1 u3 (by decide)))))) ?_
 refine cRs (Ds a0 (Zr a0 a1 a2) a4 (by (first | exact sg (Yr (n := 2281472) (by decide)) | exact sg u0 | exact sg u1 | exact sg u2 | exact u3 | exact sg (ZI.Ye u0) | exact sg (ZI.YH u0) | exact sg (ZR (K := 2281472) u1 u3 (by decide)) | exact sg (YX (ZR (K := 2281472) u1 u3 (by decide))) | exact sg (Yi (ZR (K := 2281472) u1 u3 (by decide))))) (by (first | exact sg (Yr (n := 2281472) (by decide)) | exact sg u0 | exact sg u1 | exact sg u2 | exact u3 | exact sg (ZI.Ye u0) | exact sg (ZI.YH u0) | exact sg (ZR (K := 2281472) u1 u3 (by decide)) | exact sg (YX (ZR (K := 2281472) u1 u3 (by decide))) | exact sg (Yi (ZR (K := 2281472) u1 u3 (by decide)))))) ?_
 refine cF f ?_ ?_ <;> intro k9 h8 f
 ·refine cRs (VW 6) ?_
  exact rt [.cell 10 79] f
 refine cRs (Hy a0 a1 (Zr a0 a1 a2) a4 (by (first | exact sg (Yr (n := 2281472) (by decide)) | exact sg u0 | exact sg u1 | exact sg u2 | exact u3 | exact sg (ZI.Ye u0) | exact sg (ZI.YH u0) | exact sg (ZR (K := 2281472) u1 u3 (by decide)) | exact sg (YX (ZR (K := 2281472) u1 u3 (by decide))) | exact sg (Yi (ZR (K := 2281472) u1 u3 (by decide))))) (by (first | exact sg (Yr (n := 2281472) (by decide)) | exact sg u0 | exact sg u1 | exact sg u2 | exact u3 | exact sg (ZI.Ye u0) | exact sg (ZI.YH u0) | exact sg (ZR (K := 2281472) u1 u3 (by decide)) | exact sg (YX (ZR (K := 2281472) u1 u3 (by decide))) | exact sg (Yi (ZR (K := 2281472) u1 u3 (by decide))))) (by (first | exact sg (Yr (n := 2281472) (by decide)) | exact sg u0 | exact sg u1 | exact sg u2 | exact u3 | exact sg (ZI.Ye u0) | exact sg (ZI.YH u0) | exact sg (ZR (K := 2281472) u1 u3 (by decide)) | exact sg (YX (ZR (K := 2281472) u1 u3 (by decide))) | exact sg (Yi (ZR (K := 2281472) u1 u3 (by decide)))))) ?_
 refine cF f ?_ ?_ <;> intro k10 h9 f
 ·refine cRs (VW 7) ?_
  exact rt [.cell 10 79] f
 refine cRs (Ym.rd (LB (Zr a0 a1 a2) (Qq a0 (Zr a0 a1 a2) a4).1 (by (first | exact sg (Yr (n := 2281472) (by decide)) | exact sg u0 | exact sg u1 | exact sg u2 | exact u3 | exact sg (ZI.Ye u0) | exact sg (ZI.YH u0) | exact sg (ZR (K := 2281472) u1 u3 (by decide)) | exact sg (YX (ZR (K := 2281472) u1 u3 (by decide))) | exact sg (Yi (ZR (K := 2281472) u1 u3 (by decide))))))) ?_
 refine cRs (Fy (Qq a0 (Zr a0 a1 a2) a4).1 (Jc (Zr a0 a1 a2) (Qq a0 (Zr a0 a1 a2) a4).1) (ZF.mk (QD a0 a1 (Zr a0 a1 a2) a4) (Yk a0 a1 a2 (XY a4))) (by (first | exact sg (Yr (n := 2281472) (by decide)) | exact sg u0 | exact sg u1 | exact sg u2 | exact u3 | exact sg (ZI.Ye u0) | exact sg (ZI.YH u0) | exact sg (ZR (K := 2281472) u1 u3 (by decide)) | exact sg (YX (ZR (K := 2281472) u1 u3 (by decide))) | exact sg (Yi (ZR (K := 2281472) u1 u3 (by decide)))))) ?_
 refine cF f ?_ ?_ <;> intro k11 h10 f
 ·exact rt [.cell 10 79] f
 refine cRs (Ir (Qq a0 (Zr a0 a1 a2) a4).1 (Jc (Zr a0 a1 a2) (Qq a0 (Zr a0 a1 a2) a4).1) (ZF.mk (QD a0 a1 (Zr a0 a1 a2) a4) (Yk a0 a1 a2 (XY a4))) (by (first | exact sg (Yr (n := 2281472) (by decide)) | exact sg u0 | exact sg u1 | exact sg u2 | exact u3 | exact sg (ZI.Ye u0) | exact sg (ZI.YH u0) | exact sg (ZR (K := 2281472) u1 u3 (by decide)) | exact sg (YX (ZR (K := 2281472) u1 u3 (by decide))) | exact sg (Yi (ZR (K := 2281472) u1 u3 (by decide)))))) ?_
 refine cF f ?_ ?_ <;> intro k12 h11 f
 ·exact rt [.cell 10 79] f
 refine dIs mixed ?_
 refine cRs (Ym.rd (L6 (Zr a0 a1 a2) (by (first | exact sg (Yr (n := 2281472) (by decide)) | exact sg u0 | exact sg u1 | exact sg u2 | exact u3 | exact sg (ZI.Ye u0) | exact sg (ZI.YH u0) | exact sg (ZR (K := 2281472) u1 u3 (by decide)) | exact sg (YX (ZR (K := 2281472) u1 u3 (by decide))) | exact sg (Yi (ZR (K := 2281472) u1 u3 (by decide))))))) ?_
 refine cRs (Ip a0.YY (yf (Zr a0 a1 a2)) a4.Org (Qq a0 (Zr a0 a1 a2) a4).1.Js (ZF.mk (QD a0 a1 (Zr a0 a1 a2) a4) (Yk a0 a1 a2 (XY a4))) (by (first | exact sg (Yr (n := 2281472) (by decide)) | exact sg u0 | exact sg u1 | exact sg u2 | exact u3 | exact sg (ZI.Ye u0) | exact sg (ZI.YH u0) | exact sg (ZR (K := 2281472) u1 u3 (by decide)) | exact sg (YX (ZR (K := 2281472) u1 u3 (by decide))) | exact sg (Yi (ZR (K := 2281472) u1 u3 (by decide))))) (by (first | exact sg (Yr (n := 2281472) (by decide)) | exact sg u0 | exact sg u1 | exact sg u2 | exact u3 | exact sg (ZI.Ye u0) | exact sg (ZI.YH u0) | exact sg (ZR (K := 2281472) u1 u3 (by decide)) | exact sg (YX (ZR (K := 2281472) u1 u3 (by decide))) | exact sg (Yi (ZR (K := 2281472) u1 u3 (by decide)))))) ?_
 refine cF f ?_ ?_ <;> intro k14 h12 f
 ·exact rt [.cell 10 79] f
 exact rt [.cell 10 79] f
theorem wL (a0 : ZI) (a1 : ZL) (a2 : Zc) (a3 : ZV) (u0 : Sm 2277376 a0) (u1 : Sm 2277376 a1) (u2 : Sm 2277376 a2) (u3 : BL a1 ≤ 2097152) : Sa 107 [a0.row, a1.row, a2.row, a3.row] [(Nk a0 a1 a2 a3).row] := by
 have f := me (Nk.eq_1 a0 a1 a2 a3)
 refine so Tryz.func107 Tryz.ntmps107 ?_
 refine dIs mixed ?_
 refine cRs (Ym.rd (Oj a1 a2 (by (first | exact sg u0 | exact sg u1 | exact sg u2 | exact u3 | exact sg (Qi (n := 2277376) u1))) (by (first | exact sg u0 | exact sg u1 | exact sg u2 | exact u3 | exact sg (Qi (n := 2277376) u1))))) ?_
 refine cRs (Ru a3.Method a2 (by (first | exact sg u0 | exact sg u1 | exact sg u2 | exact u3 | exact sg (Qi (n := 2277376) u1)))) ?_
 refine cRs (NW a0 a1 (J2 a1 a2) (xl a3.Method a2) a3 (by (first | exact sg u0 | exact sg u1 | exact sg u2 | exact u3 | exact sg (Qi (n := 2277376) u1))) (by (first | exact sg u0 | exact sg u1 | exact sg u2 | exact u3 | exact sg (Qi (n := 2277376) u1))) (by (first | exact sg u0 | exact sg u1 | exact sg u2 | exact u3 | exact sg (Qi (n := 2277376) u1))) (by (first | exact sg u0 | exact sg u1 | exact sg u2 | exact u3 | exact sg (Qi (n := 2277376) u1)))) ?_
 exact rt [.cell 8 79] f
theorem Gf (a0 : ZI) (a1 : Zm) (u0 : Sm 2273280 a0) (u1 : Sm 2097152 a1) : Sa 60 [a0.row, a1.row] [(Wg a0 a1).row] := by
 have f := me (Wg.eq_1 a0 a1)
 refine so Tryz.func60 Tryz.ntmps60 ?_
 refine dIs mixed ?_
 refine cRs (Ym.rd (O1 a1 (by (first | exact sg u0 | exact sg (Zm.Wt u1) | exact sg (n := 2097152) (show Sm 2097152 (ZL.mk [a1.Z0] []) from ⟨⟨Nat.le_of_ble_eq_true rfl, fun x hx => by rcases List.mem_cons.1 hx with rfl | hx; exact Zm.Xd u1; cases hx⟩, ⟨Nat.zero_le _, fun x hx => by cases hx⟩⟩) | exact (show a1.Z0.Zd.length + 0 ≤ 2097152 from Yv (ZP.Yy (Zm.Xd u1))) | exact sg u1)))) ?_
 refine cRs (wL a0 (zp a1) a1.Doc a1.Sig (by (first | exact sg u0 | exact sg (Zm.Wt u1) | exact sg (n := 2097152) (show Sm 2097152 (ZL.mk [a1.Z0] []) from ⟨⟨Nat.le_of_ble_eq_true rfl, fun x hx => by rcases List.mem_cons.1 hx with rfl | hx; exact Zm.Xd u1; cases hx⟩, ⟨Nat.zero_le _, fun x hx => by cases hx⟩⟩) | exact (show a1.Z0.Zd.length + 0 ≤ 2097152 from Yv (ZP.Yy (Zm.Xd u1))) | exact sg u1)) (by (first | exact sg u0 | exact sg (Zm.Wt u1) | exact sg (n := 2097152) (show Sm 2097152 (ZL.mk [a1.Z0] []) from ⟨⟨Nat.le_of_ble_eq_true rfl, fun x hx => by rcases List.mem_cons.1 hx with rfl | hx; exact Zm.Xd u1; cases hx⟩, ⟨Nat.zero_le _, fun x hx => by cases hx⟩⟩) | exact (show a1.Z0.Zd.length + 0 ≤ 2097152 from Yv (ZP.Yy (Zm.Xd u1))) | exact sg u1)) (by (first | exact sg u0 | exact sg (Zm.Wt u1) | exact sg (n := 2097152) (show Sm 2097152 (ZL.mk [a1.Z0] []) from ⟨⟨Nat.le_of_ble_eq_true rfl, fun x hx => by rcases List.mem_cons.1 hx with rfl | hx; exact Zm.Xd u1; cases hx⟩, ⟨Nat.zero_le _, fun x hx => by cases hx⟩⟩) | exact (show a1.Z0.Zd.length + 0 ≤ 2097152 from Yv (ZP.Yy (Zm.Xd u1))) | exact sg u1)) (by (first | exact sg u0 | exact sg (Zm.Wt u1) | exact sg (n := 2097152) (show Sm 2097152 (ZL.mk [a1.Z0] []) from ⟨⟨Nat.le_of_ble_eq_true rfl, fun x hx => by rcases List.mem_cons.1 hx with rfl | hx; exact Zm.Xd u1; cases hx⟩, ⟨Nat.zero_le _, fun x hx => by cases hx⟩⟩) | exact (show a1.Z0.Zd.length + 0 ≤ 2097152 from Yv (ZP.Yy (Zm.Xd u1))) | exact sg u1))) ?_
 exact rt [.cell 4 79] f
theorem Mw {a b : Prop} (h : b) (k : a := by (intros; first | omega | with_unfolding_all (first | first | omega | (have fi := Se a0 a1 (by first | omega | (simp at q1; omega)); omega)) | ((try simp only [Kb, show ∀ x, IntKind.i64.wrap x = W x from fun _ => rfl] at *); omega))) : a ∧ b := ⟨k, h⟩
theorem M7 (a0 : Zo) (a1 : Int) (u0 : Sm 1048576 a0) : Sa 27 [a0.row, rI a1] [(zO a0 a1).row] := by
 have f := me (zO.eq_1 a0 a1)
 refine so Tryz.func27 Tryz.ntmps27 ?_
 refine cRs (AI a0 a1) ?_
 refine cFo f ?_ ?_ <;> intro k1 h1 f
 ·have q1 := h1; try simp at q1
  simp
  exact rt [.cell 4 79] f
 have q1 := h1; try simp at q1
 simp
 refine dIo mixed ?_
 have i1 : (Q0 a0 a1).1.toNat < a0.ZJ.length := by first | omega | (have fi := Se a0 a1 (by first | omega | (simp at q1; omega)); omega)
 have i2 : (Q0 a0 a1).2.toNat < (nth a0.ZJ (Q0 a0 a1).1.toNat).YM.length := by first | omega | (have fi := Se a0 a1 (by first | omega | (simp at q1; omega)); omega)
 simp [i1, ZA, i2]
 repeat with_reducible refine Mw ?_
 refine cRs (Gf a0.Frame (nth (nth a0.ZJ (Q0 a0 a1).1.toNat).YM (Q0 a0 a1).2.toNat) (sg (Zo.GC u0)) (sg (Z3 (Zf.Rs (Z3 (Zo.Uh u0)))))) ?_
 exact rt [.cell 4 79] f
theorem RU {a b : Prop} (h : b) (k : a := by (intros; first | omega | with_unfolding_all (first | (first | omega | (have z := TM a0; omega))) | ((try simp only [Kb, show ∀ x, IntKind.i64.wrap x = W x from fun _ => rfl] at *); omega))) : a ∧ b := ⟨k, h⟩
theorem W6 (a0 : Zo) (u0 : Sm 1048576 a0) (u1 : itn a0.ZJ ≤ 1048576) : Sd 35 [a0.row] [rL 1 iR (Zz a0)] := by
 have f := me (Zz.eq_1 a0)
 refine soD Tryz.func35 Tryz.ntmps35 ?_
 refine cRs (CJ a0 (sg u0) (by omega)) ?_
 refine lp2 (xT.eq_2 a0) (fun v1_0 v1_1 => YP 26 [eX 1 (a0.row.map .d), (3, .one (.sref 3 0 0 v1_0.length), [.arr false 1 (v1_0.map iR)]), eL 7 16 (QN a0) Zm.row, eI 8 (↑(QN a0).length : Int), eI 9 (↑v1_1 : Int)]) (fun n1 v1_0 v1_1 => (QN a0).length < n1 + v1_1 ∧ v1_1 ≤ (QN a0).length ∧ v1_0.length ≤ v1_1) ((QN a0).length + 1) ([] : List Int) 0 (fun p1 v1_0 v1_1 e1 j1 => ?_) (h0 := Yc [((3, 0), none)] [] rfl (by simp))
 try dsimp only at j1
 refine cFf e1 ?_ ?_ <;> intro k2 h1 e1
 ·have i1 := ix h1
  have m2 := ml (QN a0) (k2 7 _ rfl)
  have w1 := wr v1_1
  simp [i1, ZA]
  repeat with_reducible refine RU ?_
  refine cRs (M7 a0 (nth (QN a0) v1_1).Id u0) ?_
  refine cFf e1 ?_ ?_ <;> intro k3 h2 e1
  ·simp
   repeat with_reducible refine RU ?_
   exact nx2 e1 (hw := Yc [((3, 0), some (23, 0))] [] rfl (by simp [w1]))
  exact ny2 w1 e1
 have f := ms f e1
 exact rtD [.tmp 2] f
theorem D9 (a0 : List Int) (a1 : Int) : Sa 134 [rL 1 iR a0, rI a1] [rI (Pt a0 a1)] := by
 have f := me (Pt.eq_1 a0 a1)
 refine so Tryz.func134 Tryz.ntmps134 ?_
 refine lp1 (U1.eq_2 a0 a1) (fun v1_0 => YP 19 [eI 1 a1, eL 7 1 a0 iR, eI 8 (↑a0.length : Int), eI 9 (↑v1_0 : Int)]) (fun n1 v1_0 => a0.length < n1 + v1_0 ∧ v1_0 ≤ a0.length) (a0.length + 1) 0 (fun p1 v1_0 e1 j1 => ?_)
 refine cFf e1 ?_ ?_ <;> intro k2 h1 e1
 ·have i1 := ix h1
  have m2 := ml a0 (k2 7 _ rfl)
  have w1 := wr v1_0
  simp [i1, ZA]
  repeat with_reducible refine sd ?_
  refine cF e1 ?_ ?_ <;> intro k3 h2 e1
  ·have f := ms f e1
   exact rt [.tmp 4] f
  exact ny1 w1 e1
 have f := ms f e1
 exact rt [.tmp 4] f
theorem Ah (a0 : List Int) (a1 : Int) : Sa 91 [rL 1 iR a0, rI a1] [rB (WX a0 a1)] := by
 have f := me (WX.eq_1 a0 a1)
 refine so Tryz.func91 Tryz.ntmps91 ?_
 refine cRs (D9 a0 a1) ?_
 exact rt [.tmp 4] f
theorem Tz {a b : Prop} (h : b) (k : a := by (intros; first | omega | with_unfolding_all (first | (first | omega | (have z := kT a0; omega))) | ((try simp only [Kb, show ∀ x, IntKind.i64.wrap x = W x from fun _ => rfl] at *); omega))) : a ∧ b := ⟨k, h⟩
theorem T1 (a0 : Zo) (u0 : Sm 1048576 a0) (u1 : itn a0.ZJ ≤ 1048576) : Sd 43 [a0.row] [rL 1 iR (YU a0)] := by
 have f := me (YU.eq_1 a0)
 refine soD Tryz.func43 Tryz.ntmps43 ?_
 refine cRs (Ym.rd (W6 a0 u0 (by omega))) ?_
 refine lp2 (J0.eq_2 a0) (fun v1_0 v1_1 => YP 23 [eX 1 (a0.row.map .d), (3, .one (.sref 3 0 0 v1_0.length), [.arr false 1 (v1_0.map iR)]), eL 7 1 (Zz a0) iR, eI 8 (↑(Zz a0).length : Int), eI 9 (↑v1_1 : Int)]) (fun n1 v1_0 v1_1 => (Zz a0).length < n1 + v1_1 ∧ v1_1 ≤ (Zz a0).length ∧ v1_0.length ≤ 0 + 1 * v1_1) ((Zz a0).length + 1) ([] : List Int) 0 (fun p1 v1_0 v1_1 e1 j1 => ?_) (h0 := Yc [((3, 0), none)] [] rfl (by simp))
 try dsimp only at j1
 refine cFf e1 ?_ ?_ <;> intro k2 h1 e1
 ·have i1 := ix h1
  have m2 := ml (Zz a0) (k2 7 _ rfl)
  have w1 := wr v1_1
  simp [i1, ZA]
  repeat with_reducible refine Tz ?_
  refine cRs (Ah a0.QP (nth (Zz a0) v1_1)) ?_
  refine cFf e1 ?_ ?_ <;> intro k3 h2 e1
  ·simp
   repeat with_reducible refine Tz ?_
   exact nx2 e1 (hw := Yc [((3, 0), some (20, 0))] [] rfl (by simp [w1]))
  exact ny2 w1 e1
 have f := ms f e1
 exact rtD [.tmp 2] f
end Go.Proofs.YtfhmpplolpejnaaGreat
