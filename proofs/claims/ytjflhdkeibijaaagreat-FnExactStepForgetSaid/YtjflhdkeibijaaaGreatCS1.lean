/- Contracts of the functions SD the abstract machine, part S1. No condition. -/
import Derived.Test.YtjflhdkeibijaaaGreatL
import Derived.Test.YtjflhdkeibijaaaGreatTy
namespace Go.Proofs.YtjflhdkeibijaaaGreat
open Go.Vm Go.Mo
set_option maxHeartbeats 1000000
set_option maxRecDepth 100000
set_option linter.unusedSimpArgs false
set_option linter.unusedVariables false
theorem MX (a0 : YF) (u0 : Sm 2342912 a0) : Sd 79 [a0.row] [(Uq a0).row] := by
 have f := me (Uq.eq_1 a0)
 have c1 := sl 2342912 a0.YV u0
 have c2 := sl 2342912 a0.ZC u0
 have c3 := sl 2342912 a0.Methods u0
 refine soD Tryz.func79 Tryz.ntmps79 ?_
 exact rtD [.cell 2 37] f
theorem Nb (a0 : YF) (u0 : Sm 2342912 a0) : Sd 79 [a0.row] [a0.row] := by
  have h := MX a0 u0
  rwa [Ng] at h
theorem I4 (a0 : ZV) (u0 : Sm 2342912 a0) : Sd 141 [a0.row] [(Pf a0).row] := by
 have f := me (Pf.eq_1 a0)
 refine soD Tryz.func141 Tryz.ntmps141 ?_
 refine NL [2, 3, 4, 5, 6, 7, 8, 9, 0, 1, 10, 11] mixed (by kernel_rfl) (by kernel_rfl) (by kernel_rfl) ?_
 have c1 := sl 2342912 a0.ZE u0
 have c2 := sl 2342912 a0.ZH u0
 simp
 repeat with_reducible refine sd ?_
 exact rtD [.cell 2 88] f
theorem Iy (a0 : ZV) (u0 : Sm 2342912 a0) : Sd 141 [a0.row] [a0.row] := by
  have h := I4 a0 u0
  rwa [Hf] at h
theorem Ll (a0 : ZN) (u0 : Sm 2342912 a0) : Sd 192 [a0.row] [(SZ a0).row] := by
 have f := me (SZ.eq_1 a0)
 refine soD Tryz.func192 Tryz.ntmps192 ?_
 refine NL [2, 3, 4, 5, 0, 1, 6, 7, 8, 9] mixed (by kernel_rfl) (by kernel_rfl) (by kernel_rfl) ?_
 have c1 := sl 2342912 a0.Y7 u0
 simp
 repeat with_reducible refine sd ?_
 exact rtD [.cell 2 187] f
theorem N3 (a0 : ZN) (u0 : Sm 2342912 a0) : Sd 192 [a0.row] [a0.row] := by
  have h := Ll a0 u0
  rwa [IN] at h
theorem HM (a0 : List ZN) (u0 : Sm 2338816 a0) : So 158 [rL 3 ZN.row a0] [rL 3 ZN.row (TD a0)] := by
 have f := me (TD.eq_1 a0)
 refine so Tryz.func158 Tryz.ntmps158 ?_
 refine eIs ?_
 refine lp2 (WX.eq_2 a0) (fun v1_0 v1_1 => Ya 21 [eL 0 3 a0 ZN.row, (3, .one (.sref 3 0 0 v1_0.length), [.arr false 3 (v1_0.map ZN.row)]), eI 4 (↑v1_1 : Int)]) (fun n1 v1_0 v1_1 => a0.length < n1 + v1_1 ∧ v1_1 ≤ a0.length ∧ v1_0.length ≤ 0 + 1 * v1_1) (a0.length + 1) ([] : List ZN) 0 (fun p1 v1_0 v1_1 e1 j1 => ?_) (h0 := Yj [((3, 0), some (5, 0))] [] rfl (by simp))
 refine cFf e1 ?_ ?_ <;> intro k2 h1 e1
 ·have i1 := ix h1
  have m2 := ml a0 (k2 0 _ rfl)
  have c1 := sl 2338816 a0 u0
  have w1 := wr v1_1
  simp [i1, ZD]
  repeat with_reducible refine sd ?_
  refine cRs (Y4.rd (N3 (nth a0 v1_1) (sg (Xm u0)))) ?_
  refine eIs ?_
  refine eIs ?_
  exact nx2 e1 (hw := Yj [((3, 0), some (19, 0))] [] rfl (by simp [w1]))
 have c2 := sl 2338816 a0 u0
 have f := ms f e1
 exact rtO [.tmp 2] f
theorem Lp (a0 : List ZN) (u0 : Sm 2338816 a0) : So 158 [rL 3 ZN.row a0] [rL 3 ZN.row a0] := by
  have h := HM a0 u0
  rwa [GU] at h
theorem IL (a0 : ZG) (u0 : Sm 2342912 a0) : Sd 113 [a0.row] [(Sh a0).row] := by
 have f := me (Sh.eq_1 a0)
 have c1 := sl 2342912 a0.Path u0
 have c2 := sl 2342912 a0.Zx u0
 refine soD Tryz.func113 Tryz.ntmps113 ?_
 exact rtD [.cell 2 96] f
theorem UC (a0 : ZG) (u0 : Sm 2342912 a0) : Sd 113 [a0.row] [a0.row] := by
  have h := IL a0 u0
  rwa [LY] at h
theorem Ih (a0 : Za) (u0 : Sm 2334720 a0) : So 106 [a0.row] [(Vw a0).row] := by
 have f := me (Vw.eq_1 a0)
 refine so Tryz.func106 Tryz.ntmps106 ?_
 refine cOs (Lp a0.ZO (sg (Za.kI u0))) ?_
 refine lp2 (ji.eq_2 a0) (fun v1_0 v1_1 => Ya 28 [eX 1 (a0.row.map .d), (2, .one (.bptr 2 0), [.box [.nil 3, .nil 5]]), (3, .one (.bptr 3 0), [.box [.sref 7 0 0 a0.ZO.length, .sref 3 2 0 v1_1.length], .none, .arr false 5 (v1_1.map ZG.row)]), eI 4 (↑v1_0 : Int), (7, .any, [.arr false 3 (a0.ZO.map ZN.row)])]) (fun n1 v1_0 v1_1 => a0.ZX.length < n1 + v1_0 ∧ v1_0 ≤ a0.ZX.length ∧ v1_1.length ≤ 0 + 1 * v1_0) (a0.ZX.length + 1) 0 ([] : List ZG) (fun p1 v1_0 v1_1 e1 j1 => ?_) (h0 := Yj [((3, 2), none)] [] rfl (by simp))
 refine cF e1 ?_ ?_ <;> intro k2 h1 e1
 ·have i1 := ix h1
  have m2 := ml a0.ZX (k2 11 _ rfl)
  have c1 := sl 2334720 a0.ZX u0
  have w1 := wr v1_0
  refine dIo mixed ?_
  simp [i1, ZD]
  repeat with_reducible refine sd ?_
  refine cRs (Y4.rd (UC (nth a0.ZX v1_0) (sg (Xm (Za.xp u0))))) ?_
  refine eIs ?_
  refine eIs ?_
  exact nx2 e1 (hw := Yj [((3, 2), some (25, 0))] [] rfl (by simp [w1]))
 have c2 := sl 2334720 a0.ZX u0
 have f := ms f e1
 exact rtO [.cell 2 85] f
theorem xd (a0 : Za) (u0 : Sm 2334720 a0) : So 106 [a0.row] [a0.row] := by
  have h := Ih a0 u0
  rwa [LU] at h
theorem LX (a0 : ZY) (u0 : Sm 2330624 a0) : So 81 [a0.row] [(Se a0).row] := by
 have f := me (Se.eq_1 a0)
 refine so Tryz.func81 Tryz.ntmps81 ?_
 refine cDs [true, false, false] (Iy a0.Doc (sg (ZY.SF u0))) ?_
 refine cOs (xd a0.ZL (sg (ZY.KF u0))) ?_
 exact rtO [.cell 2 92] f
theorem UK (a0 : ZY) (u0 : Sm 2330624 a0) : So 81 [a0.row] [a0.row] := by
  have h := LX a0 u0
  rwa [LV] at h
theorem Ld (a0 : ZF) (u0 : Sm 2326528 a0) : So 80 [a0.row] [(V2 a0).row] := by
 have f := me (V2.eq_1 a0)
 refine so Tryz.func80 Tryz.ntmps80 ?_
 refine lp2 (jm.eq_2 a0) (fun v1_0 v1_1 => Ya 27 [eX 1 (a0.row.map .d), (2, .one (.bptr 2 0), [.box [.d (.int .i64 0), .nil 16]]), (3, .one (.bptr 3 0), [.box [.d (.int .i64 a0.Id), .sref 3 2 0 v1_1.length], .none, .arr false 16 (v1_1.map ZY.row)]), eI 4 (↑v1_0 : Int)]) (fun n1 v1_0 v1_1 => a0.ZM.length < n1 + v1_0 ∧ v1_0 ≤ a0.ZM.length ∧ v1_1.length ≤ 0 + 1 * v1_0) (a0.ZM.length + 1) 0 ([] : List ZY) (fun p1 v1_0 v1_1 e1 j1 => ?_) (h0 := Yj [((3, 2), none)] [] rfl (by simp))
 refine cF e1 ?_ ?_ <;> intro k2 h1 e1
 ·have i1 := ix h1
  have m2 := ml a0.ZM (k2 10 _ rfl)
  have c1 := sl 2326528 a0.ZM u0
  have w1 := wr v1_0
  refine dIo mixed ?_
  simp [i1, ZD]
  repeat with_reducible refine sd ?_
  refine cRs (UK (nth a0.ZM v1_0) (sg (Xm (ZF.Kk u0)))) ?_
  refine eIs ?_
  refine eIs ?_
  exact nx2 e1 (hw := Yj [((3, 2), some (24, 0))] [] rfl (by simp [w1]))
 have c2 := sl 2326528 a0.ZM u0
 have f := ms f e1
 exact rtO [.cell 2 64] f
theorem kE (a0 : ZF) (u0 : Sm 2326528 a0) : So 80 [a0.row] [a0.row] := by
  have h := Ld a0 u0
  rwa [LQ] at h
theorem Ik (a0 : ZZ) (u0 : Sm 2322432 a0) : So 27 [a0.row] [(Vz a0).row] := by
 have f := me (Vz.eq_1 a0)
 refine so Tryz.func27 Tryz.ntmps27 ?_
 refine NL [0, 1, 2, 3, 4, 5, 6, 7, 8, 9, 10, 11, 12, 13, 14, 15, 16, 17, 18, 21, 22, 23, 24, 19, 20, 25, 26, 27] mixed (by kernel_rfl) (by kernel_rfl) (by kernel_rfl) ?_
 simp
 have c1 := sl 2322432 a0.Zy u0
 have c2 := sl 2322432 a0.Z3 u0
 have c3 := sl 2322432 a0.YZ u0
 have c4 := sl 2322432 a0.Yl u0
 have c5 := sl 2322432 a0.Ym u0
 refine cDs [false, false, false] (Nb a0.Frame (sg (ZZ.Qx u0))) ?_
 refine lp2 (jj.eq_2 a0) (fun v1_0 v1_1 => Ya 50 [eX 1 (a0.row.map .d), (2, .one (.bptr 2 0), [.box [.nil 5, .nil 3, .nil 4, .d (.int .i64 0), .d (.int .i64 0), .nil 7, .nil 1, .nil 2, .nil 1, .nil 1, .d (.int .i64 0), .nil 1]]), (3, .one (.bptr 3 0), [.box [.sref 7 0 0 a0.Frame.YV.length, .sref 7 1 0 a0.Frame.ZC.length, .sref 7 2 0 a0.Frame.Methods.length, .d (.int .i64 a0.Frame.zN), .d (.int .i64 a0.Frame.Now), .sref 11 0 0 a0.Zy.length, .sref 15 0 0 a0.Z3.length, .sref 3 8 0 v1_1.length, .sref 19 0 0 a0.YZ.length, .sref 23 0 0 a0.Yl.length, .d (.int .i64 a0.Next), .sref 29 0 0 a0.Ym.length], .none, .none, .none, .none, .none, .none, .none, .arr false 2 (v1_1.map ZF.row)]), eI 4 (↑v1_0 : Int), (7, .any, [.arr false 5 (a0.Frame.YV.map YG.row), .arr false 3 (a0.Frame.ZC.map ZJ.row), .arr false 4 (a0.Frame.Methods.map Zc.row)]), (11, .any, [.arr false 7 (a0.Zy.map Z0.row)]), (15, .any, [.arr false 1 (a0.Z3.map iR)]), (19, .any, [.arr false 1 (a0.YZ.map iR)]), (23, .any, [.arr false 1 (a0.Yl.map iR)]), (29, .any, [.arr false 1 (a0.Ym.map iR)])]) (fun n1 v1_0 v1_1 => a0.ZI.length < n1 + v1_0 ∧ v1_0 ≤ a0.ZI.length ∧ v1_1.length ≤ 0 + 1 * v1_0) (a0.ZI.length + 1) 0 ([] : List ZF) (fun p1 v1_0 v1_1 e1 j1 => ?_) (h0 := Yj [((3, 8), none)] [] rfl (by simp))
 refine cF e1 ?_ ?_ <;> intro k3 h1 e1
 ·have i1 := ix h1
  have m2 := ml a0.ZI (k3 33 _ rfl)
  have c6 := sl 2322432 a0.ZI u0
  have w1 := wr v1_0
  refine dIo mixed ?_
  simp [i1, ZD]
  repeat with_reducible refine sd ?_
  refine cRs (kE (nth a0.ZI v1_0) (sg (Xm (ZZ.QO u0)))) ?_
  refine eIs ?_
  refine eIs ?_
  exact nx2 e1 (hw := Yj [((3, 8), some (47, 0))] [] rfl (by simp [w1]))
 have c7 := sl 2322432 a0.ZI u0
 have f := ms f e1
 exact rtO [.cell 2 41] f
theorem UI (a0 : ZZ) (u0 : Sm 2322432 a0) : So 27 [a0.row] [a0.row] := by
  have h := Ik a0 u0
  rwa [Lg] at h
theorem QF (a0 : Int) (a1 : Int) (a2 : Int) : Sa 63 [rI a0, rI a1, rI a2] [rB (Y3 a0 a1 a2)] := by
 have f := me (Y3.eq_1 a0 a1 a2)
 refine so Tryz.func63 Tryz.ntmps63 ?_
 exact rt [.tmp 6] f
theorem RN (a0 : ZZ) (a1 : Int) : Sa 28 [a0.row, rI a1] [rB (zR a0 a1)] := by
 have f := me (zR.eq_1 a0 a1)
 refine so Tryz.func28 Tryz.ntmps28 ?_
 refine cRs (QF a1 0 (W ((↑a0.ZI.length : Int) - 1))) ?_
 exact rt [.tmp 4] f
theorem PK (a0 : ZF) (a1 : Int) (u0 : Sm 2326528 a0) : So 29 [a0.row, rI a1] [(KB a0 a1).1.row, rI (KB a0 a1).2] := by
 have f := me (KB.eq_1 a0 a1)
 refine so Tryz.func29 Tryz.ntmps29 ?_
 refine lp3 (Qw.eq_2 a0 a1) (fun v1_0 v1_1 v1_2 => Ya 42 [eI 1 a1, eX 2 (a0.row.map .d), (4, .one (.bptr 4 0), [.box [.d (.int .i64 0), .nil 16]]), (6, .one (.bptr 6 0), [.box [.d (.int .i64 a0.Id), .sref 6 2 0 v1_2.length], .none, .arr false 16 (v1_2.map ZY.row)]), eI 7 v1_0, eI 8 (↑v1_1 : Int)]) (fun n1 v1_0 v1_1 v1_2 => a0.ZM.length < n1 + v1_1 ∧ v1_1 ≤ a0.ZM.length ∧ v1_2.length ≤ 0 + 1 * v1_1) (a0.ZM.length + 1) 0 0 ([] : List ZY) (fun p1 v1_0 v1_1 v1_2 e1 j1 => ?_) (h0 := Yj [((6, 2), none)] [] rfl (by simp))
 refine cFf e1 ?_ ?_ <;> intro k2 h1 e1
 ·have i1 := ix h1
  have m2 := ml a0.ZM (k2 14 _ rfl)
  have c1 := sl 2326528 a0.ZM u0
  have w1 := wr v1_1
  simp [i1, ZD]
  repeat with_reducible refine sd ?_
  refine cF e1 ?_ ?_ <;> intro k3 h2 e1
  ·exact ny3 w1 e1
  refine dIo mixed ?_
  simp [i1, ZD]
  repeat with_reducible refine sd ?_
  refine cRs (UK (nth a0.ZM v1_1) (sg (Xm (ZF.Kk u0)))) ?_
  refine eIs ?_
  refine eIs ?_
  exact nx3 e1 (hw := Yj [((6, 2), some (38, 0))] [] rfl (by simp [w1]))
 have c2 := sl 2326528 a0.ZM u0
 have f := ms f e1
 exact rtO [.cell 4 64, .tmp 5] f
theorem Rg (a0 : ZZ) (a1 : Int) (u0 : Sm 2318336 a0) : So 8 [a0.row, rI a1] [(XR a0 a1).1.row, rB (XR a0 a1).2] := by
 have f := me (XR.eq_1 a0 a1)
 refine so Tryz.func8 Tryz.ntmps8 ?_
 refine cOs (UI a0 (sg u0)) ?_
 refine cRs (RN a0 a1) ?_
 have c1 := sl 2318336 a0.ZI u0
 have w1 : IntKind.i64.wrap ((a0.ZI.length : Int) - 1) = (a0.ZI.length : Int) - 1 := ZW (by omega) (by omega)
 refine cFo f ?_ ?_ <;> intro k1 h1 f
 ·have q1 := h1; try simp [w1, zR, Y3] at q1
  simp
  exact rtO [.cell 4 41, .tmp 5] f
 have q1 := h1; try simp [w1, zR, Y3] at q1
 simp
 refine dIo mixed ?_
 have i1 := ik a1.toNat a0.ZI
 simp [i1, ZD]
 repeat with_reducible refine sd ?_
 refine cR (PK (nth a0.ZI a1.toNat) a0.Frame.Now (sg (Xm (ZZ.QO u0)))) ?_
 simp [i1, ZD, Zp (x := (KB (nth a0.ZI a1.toNat) a0.Frame.Now).1) rfl]
 repeat with_reducible refine sd ?_
 exact rtO [.cell 4 41, .tmp 5] f
theorem R8 (a0 : List Zc) (a1 : Int) : Sa 47 [rL 4 Zc.row a0, rI a1] [rI (Yw a0 a1)] := by
 have f := me (Yw.eq_1 a0 a1)
 refine so Tryz.func47 Tryz.ntmps47 ?_
 refine lp2 (Jp.eq_2 a0 a1) (fun v1_0 v1_1 => Ya 54 [eL 0 4 a0 Zc.row, eI 1 a1, eI 5 v1_0, eI 6 (↑v1_1 : Int)]) (fun n1 v1_0 v1_1 => a0.length < n1 + v1_1 ∧ v1_1 ≤ a0.length ∧ -1 ≤ v1_0 ∧ v1_0 < (a0.length : Int)) (a0.length + 1) (-1) 0 (fun p1 v1_0 v1_1 e1 j1 => ?_)
 try dsimp only at j1
 refine cF e1 ?_ ?_ <;> intro k2 h1 e1
 ·have i1 := ix h1
  have m2 := ml a0 (k2 0 _ rfl)
  have w1 := wr v1_1
  refine dIo mixed ?_
  simp [i1, ZD]
  repeat with_reducible refine sd ?_
  refine gIf ?_ ?_ <;> intro G
  ·simp [i1, ZD, G]
   repeat with_reducible refine sdg ?_
   refine gJf G ?_ ?_ <;> intro G
   ·try (simp at G; done)
    all_goals
     simp [i1, ZD, G]
     repeat with_reducible refine sdg ?_
     refine gK (fun _ => ?_)
     have i2 := ik v1_0.toNat a0
     simp [i2, ZD, G]
     repeat with_reducible refine sdg ?_
     refine cK e1 ?_ ?_ <;> intro k4 h2 e1
     ·try (simp [G] at h2; done)
      all_goals
       exact ny2 (an w1 G) e1 (hI := by first | omega | (simp at *; omega))
     ·try (simp [G] at h2; done)
      all_goals
       exact ny2 (an w1 G) e1 (hI := by first | omega | (simp at *; omega))
   ·try (simp at G; done)
    all_goals
     refine sGg ?_
     refine cK e1 ?_ ?_ <;> intro k5 h3 e1
     ·try (simp [G] at h3; done)
      all_goals
       exact ny2 (an w1 G) e1 (hI := by first | omega | (simp at *; omega))
     ·try (simp [G] at h3; done)
      all_goals
       exact ny2 (an w1 G) e1 (hI := by first | omega | (simp at *; omega))
  ·refine gJf G ?_ ?_ <;> intro G
   ·try (simp at G; done)
    all_goals
     simp [i1, ZD, G]
     repeat with_reducible refine sdg ?_
     refine gK (fun _ => ?_)
     have i4 := ik v1_0.toNat a0
     simp [i4, ZD, G]
     repeat with_reducible refine sdg ?_
     refine cK e1 ?_ ?_ <;> intro k6 h4 e1
     ·try (simp [G] at h4; done)
      all_goals
       exact ny2 (an w1 G) e1 (hI := by first | omega | (simp at *; omega))
     ·try (simp [G] at h4; done)
      all_goals
       exact ny2 (an w1 G) e1 (hI := by first | omega | (simp at *; omega))
   ·try (simp at G; done)
    all_goals
     refine sGg ?_
     refine cK e1 ?_ ?_ <;> intro k7 h5 e1
     ·try (simp [G] at h5; done)
      all_goals
       exact ny2 (an w1 G) e1 (hI := by first | omega | (simp at *; omega))
     ·try (simp [G] at h5; done)
      all_goals
       exact ny2 (an w1 G) e1 (hI := by first | omega | (simp at *; omega))
 have f := ms f e1
 refine cFt f ?_ ?_ <;> intro k8 h6 f
 ·exact rt [.tmp 4] f
 have i6 := ik v1_0.toNat a0
 simp [i6, ZD]
 repeat with_reducible refine sd ?_
 exact rt [.tmp 4] f
theorem J4 (a0 : List ZJ) (a1 : Int) : Sa 65 [rL 3 ZJ.row a0, rI a1] [rI (ZU a0 a1)] := by
 have f := me (ZU.eq_1 a0 a1)
 refine so Tryz.func65 Tryz.ntmps65 ?_
 refine lp1 (QU.eq_2 a0 a1) (fun v1_0 => Ya 20 [eL 0 3 a0 ZJ.row, eI 1 a1, eI 5 (↑v1_0 : Int)]) (fun n1 v1_0 => a0.length < n1 + v1_0 ∧ v1_0 ≤ a0.length) (a0.length + 1) 0 (fun p1 v1_0 e1 j1 => ?_)
 refine cFf e1 ?_ ?_ <;> intro k2 h1 e1
 ·have i1 := ix h1
  have m2 := ml a0 (k2 0 _ rfl)
  have w1 := wr v1_0
  simp [i1, ZD]
  repeat with_reducible refine sd ?_
  refine cF e1 ?_ ?_ <;> intro k3 h2 e1
  ·have f := ms f e1
   exact rt [.tmp 4] f
  exact ny1 w1 e1
 have f := ms f e1
 exact rt [.tmp 4] f
theorem WN (a0 : List YG) (a1 : Int) : Sa 110 [rL 5 YG.row a0, rI a1] [rI (Xb a0 a1)] := by
 have f := me (Xb.eq_1 a0 a1)
 refine so Tryz.func110 Tryz.ntmps110 ?_
 refine lp1 (yB.eq_2 a0 a1) (fun v1_0 => Ya 20 [eL 0 5 a0 YG.row, eI 1 a1, eI 5 (↑v1_0 : Int)]) (fun n1 v1_0 => a0.length < n1 + v1_0 ∧ v1_0 ≤ a0.length) (a0.length + 1) 0 (fun p1 v1_0 e1 j1 => ?_)
 refine cFf e1 ?_ ?_ <;> intro k2 h1 e1
 ·have i1 := ix h1
  have m2 := ml a0 (k2 0 _ rfl)
  have w1 := wr v1_0
  simp [i1, ZD]
  repeat with_reducible refine sd ?_
  refine cF e1 ?_ ?_ <;> intro k3 h2 e1
  ·have f := ms f e1
   exact rt [.tmp 4] f
  exact ny1 w1 e1
 have f := ms f e1
 exact rt [.tmp 4] f
theorem HY (a0 : ZZ) (a1 : List Int) : Sa 62 [a0.row, rL 1 iR a1] [rB (JL a0 a1)] := by
 have f := me (JL.eq_1 a0 a1)
 refine so Tryz.func62 Tryz.ntmps62 ?_
 refine lp1 (Ko.eq_2 a0 a1) (fun v1_0 => Ya 76 [eL 1 1 a1 iR, eX 2 (a0.row.map .d), eI 5 (↑v1_0 : Int)]) (fun n1 v1_0 => a1.length < n1 + v1_0 ∧ v1_0 ≤ a1.length) (a1.length + 1) 0 (fun p1 v1_0 e1 j1 => ?_)
 refine cF e1 ?_ ?_ <;> intro k2 h1 e1
 ·have i1 := ix h1
  have m2 := ml a1 (k2 1 _ rfl)
  have w1 := wr v1_0
  refine dIo mixed ?_
  simp [i1, ZD]
  repeat with_reducible refine sd ?_
  refine cRs (J4 a0.Frame.ZC (nth a1 v1_0)) ?_
  refine dIs mixed ?_
  refine gIf ?_ ?_ <;> intro G
  ·have i2 := ik (v1_0 - 1) a1
   have w2 : IntKind.i64.wrap ((v1_0 : Int) - 1) = (v1_0 : Int) - 1 := ZW (by omega) (by omega)
   simp [i2, ZD, w2, zn, G]
   repeat with_reducible refine sdg ?_
   refine gK (fun _ => ?_)
   simp [i1, ZD, G]
   repeat with_reducible refine sdg ?_
   refine cK e1 ?_ ?_ <;> intro k5 h2 e1
   ·try (simp [G] at h2; done)
    all_goals
     have f := ms f e1
     exact rtg [.tmp 4] f
   ·try (simp [G] at h2; done)
    all_goals
     refine dIo mixed ?_
     have i3 : (ZU a0.Frame.ZC (nth a1 v1_0)).toNat < a0.Frame.ZC.length := by have := Xu a0.Frame.ZC (nth a1 v1_0); exact il
     simp [i3, ZD, G]
     repeat with_reducible refine sdg ?_
     refine cRg (WN a0.Frame.YV (nth a0.Frame.ZC (ZU a0.Frame.ZC (nth a1 v1_0)).toNat).Key) ?_
     refine dIg mixed ?_
     refine gJf G ?_ ?_ <;> intro G
     ·try (simp at G; done)
      all_goals
       have i4 : (Xb a0.Frame.YV (nth a0.Frame.ZC (ZU a0.Frame.ZC (nth a1 v1_0)).toNat).Key).toNat < a0.Frame.YV.length := by have := ko a0.Frame.YV (nth a0.Frame.ZC (ZU a0.Frame.ZC (nth a1 v1_0)).toNat).Key; exact il
       simp [i4, ZD, G]
       repeat with_reducible refine sdg ?_
       refine cK e1 ?_ ?_ <;> intro k8 h3 e1
       ·try (simp [G] at h3; done)
        all_goals
         have f := ms f e1
         exact rtg [.tmp 4] f
       ·try (simp [G] at h3; done)
        all_goals
         exact ny1 (an w1 (an w2 G)) e1
     ·try (simp at G; done)
      all_goals
       refine cK e1 ?_ ?_ <;> intro k9 h4 e1
       ·try (simp [G] at h4; done)
        all_goals
         have f := ms f e1
         exact rtg [.tmp 4] f
       ·try (simp [G] at h4; done)
        all_goals
         exact ny1 (an w1 (an w2 G)) e1
  ·refine sGg ?_
   refine cK e1 ?_ ?_ <;> intro k10 h5 e1
   ·try (simp [G] at h5; done)
    all_goals
     have f := ms f e1
     exact rtg [.tmp 4] f
   ·try (simp [G] at h5; done)
    all_goals
     refine dIo mixed ?_
     have i7 : (ZU a0.Frame.ZC (nth a1 v1_0)).toNat < a0.Frame.ZC.length := by have := Xu a0.Frame.ZC (nth a1 v1_0); exact il
     simp [i7, ZD, G]
     repeat with_reducible refine sdg ?_
     refine cRg (WN a0.Frame.YV (nth a0.Frame.ZC (ZU a0.Frame.ZC (nth a1 v1_0)).toNat).Key) ?_
     refine dIg mixed ?_
     refine gJf G ?_ ?_ <;> intro G
     ·try (simp at G; done)
      all_goals
       have i8 : (Xb a0.Frame.YV (nth a0.Frame.ZC (ZU a0.Frame.ZC (nth a1 v1_0)).toNat).Key).toNat < a0.Frame.YV.length := by have := ko a0.Frame.YV (nth a0.Frame.ZC (ZU a0.Frame.ZC (nth a1 v1_0)).toNat).Key; exact il
       simp [i8, ZD, G]
       repeat with_reducible refine sdg ?_
       refine cK e1 ?_ ?_ <;> intro k13 h6 e1
       ·try (simp [G] at h6; done)
        all_goals
         have f := ms f e1
         exact rtg [.tmp 4] f
       ·try (simp [G] at h6; done)
        all_goals
         exact ny1 (an w1 G) e1
     ·try (simp at G; done)
      all_goals
       refine cK e1 ?_ ?_ <;> intro k14 h7 e1
       ·try (simp [G] at h7; done)
        all_goals
         have f := ms f e1
         exact rtg [.tmp 4] f
       ·try (simp [G] at h7; done)
        all_goals
         exact ny1 (an w1 G) e1
 have f := ms f e1
 exact rt [.tmp 4] f
theorem Wm (a0 : ZV) : Sa 195 [a0.row] [rB (JJ a0)] := by
 have f := me (JJ.eq_1 a0)
 refine so Tryz.func195 Tryz.ntmps195 ?_
 refine lp1 (Jm.eq_2 a0) (fun v1_0 => Ya 51 [eX 1 (a0.row.map .d), eI 3 (↑v1_0 : Int)]) (fun n1 v1_0 => a0.ZE.length < n1 + v1_0 ∧ v1_0 ≤ a0.ZE.length) (a0.ZE.length + 1) 0 (fun p1 v1_0 e1 j1 => ?_)
 refine cFf e1 ?_ ?_ <;> intro k2 h1 e1
 ·have i1 := ix h1
  have m2 := ml a0.ZE (k2 7 _ rfl)
  have w1 := wr v1_0
  simp [i1, ZD]
  repeat with_reducible refine sd ?_
  refine cF e1 ?_ ?_ <;> intro k3 h2 e1
  ·have f := ms f e1
   exact rt [.tmp 2] f
  exact ny1 w1 e1
 have f := ms f e1
 refine lp1 (Jt.eq_2 a0) (fun v2_0 => Ya 51 [eX 1 (a0.row.map .d), eI 4 (↑v2_0 : Int)]) (fun n2 v2_0 => a0.ZH.length < n2 + v2_0 ∧ v2_0 ≤ a0.ZH.length) (a0.ZH.length + 1) 0 (fun p2 v2_0 e2 j2 => ?_)
 refine cFf e2 ?_ ?_ <;> intro k5 h3 e2
 ·have i2 := ix h3
  have m4 := ml a0.ZH (k5 21 _ rfl)
  have w2 := wr v2_0
  simp [i2, ZD]
  repeat with_reducible refine sd ?_
  refine cRs (QF (nth a0.ZH v2_0) 1 1000000000000) ?_
  refine cFo e2 ?_ ?_ <;> intro k6 h4 e2
  ·have q4 := h4; try simp [Y3] at q4
   have f := ms f e2
   simp
   exact rt [.tmp 2] f
  have q4 := h4; try simp [Y3] at q4
  simp
  exact ny1 w2 e2
 have f := ms f e2
 refine cRs (QF a0.K9 0 999) ?_
 refine cGs (fun gg => (QF (↑a0.ZE.length : Int) 1 6)) ?_
 exact rt [.tmp 2] f
theorem Dh (a0 : Int) (a1 : Int) : Sa 219 [rI a0, rI a1] [rI (Hx a0 a1)] := by
 have f := me (Hx.eq_1 a0 a1)
 refine so Tryz.func219 Tryz.ntmps219 ?_
 refine cRs (QF a1 1 1000000000000) ?_
 refine cFo f ?_ ?_ <;> intro k1 h1 f
 ·have q1 := h1; try simp [Y3] at q1
  simp
  exact rt [.tmp 4] f
 have q1 := h1; try simp [Y3] at q1
 simp
 repeat with_reducible refine sd ?_
 exact rt [.tmp 4] f
theorem M9 (a0 : List Int) : Sa 197 [rL 1 iR a0] [rI (Sc a0)] := by
 have f := me (Sc.eq_1 a0)
 refine so Tryz.func197 Tryz.ntmps197 ?_
 refine lp2 (Vo.eq_2 a0) (fun v1_0 v1_1 => Ya 22 [eL 0 1 a0 iR, eI 3 v1_0, eI 4 (↑v1_1 : Int)]) (fun n1 v1_0 v1_1 => a0.length < n1 + v1_1 ∧ v1_1 ≤ a0.length) (a0.length + 1) 11 0 (fun p1 v1_0 v1_1 e1 j1 => ?_)
 refine cFf e1 ?_ ?_ <;> intro k2 h1 e1
 ·have i1 := ix h1
  have m2 := ml a0 (k2 0 _ rfl)
  have w1 := wr v1_1
  simp [i1, ZD]
  repeat with_reducible refine sd ?_
  refine cRs (Dh (nth a0 v1_1) 2147483647) ?_
  exact ny2 w1 e1
 have f := ms f e1
 exact rt [.tmp 2] f
theorem Jb (a0 : Int) (a1 : List Int) (u0 : Sm 68719476736 a1) : Sa 193 [rI a0, rL 1 iR a1] [rI (Qy a0 a1)] := by
 have f := me (Qy.eq_1 a0 a1)
 have c1 := sl 68719476736 a1 u0
 refine so Tryz.func193 Tryz.ntmps193 ?_
 refine cRs (M9 (([7, a0] : List Int) ++ a1)) ?_
 exact rt [.tmp 4] f
theorem R4 (a0 : Int) (a1 : ByteArray) (a2 : Int) (u0 : Sm 2326528 a1) : Sa 196 [rI a0, rS a1, rI a2] [rI (yC a0 a1 a2)] := by
 have f := me (yC.eq_1 a0 a1 a2)
 refine so Tryz.func196 Tryz.ntmps196 ?_
 refine lp2 (KW.eq_2 a1) (fun v1_0 v1_1 => Ya 27 [eI 0 a0, (1, .one (.d (.str a1)), []), (7, .one (.sref 7 0 0 v1_0.length), [.arr false 1 (v1_0.map iR)]), eI 8 (↑v1_1 : Int)]) (fun n1 v1_0 v1_1 => a1.size < n1 + v1_1 ∧ v1_1 ≤ a1.size ∧ v1_0.length ≤ 1 + 1 * v1_1) (a1.size + 1) ([a2] : List Int) 0 (fun p1 v1_0 v1_1 e1 j1 => ?_) (h0 := Yj [((7, 0), some (10, 0))] [] rfl (by simp))
 refine cFo e1 ?_ ?_ <;> intro k2 h1 e1
 ·have q1 := h1; try simp at q1
  have c1 : a1.size ≤ 2326528 := Lm (by simp (maxDischargeDepth := 12) [u0])
  have w1 := wr v1_1
  simp
  repeat with_reducible refine sd ?_
  exact nx2 e1 (hw := Yj [((7, 0), some (23, 0))] [] rfl (by simp [w1]))
 have q1 := h1; try simp at q1
 have c2 : a1.size ≤ 2326528 := Lm (by simp (maxDischargeDepth := 12) [u0])
 have f := ms f e1
 simp
 refine cRs (Jb a0 v1_0 (by first | (simp (maxDischargeDepth := 12) [XS]; omega) | (simp (maxDischargeDepth := 12) [Zr (m := 68719476736) (by decide) u0]; done))) ?_
 exact rt [.tmp 6] f
theorem NJ (a0 : Int) (a1 : ZV) (u0 : Sm 2322432 a1) : Sa 161 [rI a0, a1.row] [rI (Ki a0 a1)] := by
 have f := me (Ki.eq_1 a0 a1)
 refine so Tryz.func161 Tryz.ntmps161 ?_
 refine cRs (Wm a1) ?_
 refine cF f ?_ ?_ <;> intro k1 h1 f
 ·exact rt [.tmp 4] f
 refine lp2 (zL.eq_2 a0 a1) (fun v1_0 v1_1 => Ya 38 [eI 0 a0, eX 3 (a1.row.map .d), (5, .one (.sref 5 0 0 v1_0.length), [.arr false 1 (v1_0.map iR)]), eI 6 (↑v1_1 : Int)]) (fun n1 v1_0 v1_1 => a1.ZE.length < n1 + v1_1 ∧ v1_1 ≤ a1.ZE.length ∧ v1_0.length ≤ 1 + 1 * v1_1) (a1.ZE.length + 1) ([a1.K9] : List Int) 0 (fun p1 v1_0 v1_1 e1 j1 => ?_) (h0 := Yj [((5, 0), some (12, 0))] [] rfl (by simp))
 try dsimp only at j1
 refine cF e1 ?_ ?_ <;> intro k3 h2 e1
 ·have i1 := ix h2
  have m2 := ml a1.ZE (k3 15 _ rfl)
  have c1 := sl 2322432 a1.ZE u0
  have w1 := wr v1_1
  refine dIo mixed ?_
  have i2 : v1_1 < a1.ZH.length := by (have := Si (a := a1); first | (simp_all; done) | (simp_all; omega))
  simp [i1, ZD, i2]
  repeat with_reducible refine sd ?_
  refine cRs (R4 a0 (nth a1.ZE v1_1) (nth a1.ZH v1_1) (sg (Xm (ZV.Tq u0)))) ?_
  exact nx2 e1 (hw := Yj [((5, 0), some (34, 0))] [] rfl (by simp [w1]))
 have c2 := sl 2322432 a1.ZE u0
 have f := ms f e1
 refine cRs (Jb a0 v1_0 (by first | (simp (maxDischargeDepth := 12) [XS]; omega) | (simp (maxDischargeDepth := 12) [Zr (m := 68719476736) (by decide) u0]; done))) ?_
 exact rt [.tmp 4] f
theorem Ro (a0 : Za) (a1 : ZV) (u0 : Sm 2318336 a0) (u1 : Sm 2318336 a1) : Sd 108 [a0.row, a1.row] [rL 1 iR (Qg a0 a1)] := by
 have f := me (Qg.eq_1 a0 a1)
 refine soD Tryz.func108 Tryz.ntmps108 ?_
 refine lp2 (Js.eq_2 a0 a1) (fun v1_0 v1_1 => Ya 27 [eX 2 (a0.row.map .d), eX 3 (a1.row.map .d), (5, .one (.sref 5 0 0 v1_0.length), [.arr false 1 (v1_0.map iR)]), eI 6 (↑v1_1 : Int)]) (fun n1 v1_0 v1_1 => a0.ZX.length < n1 + v1_1 ∧ v1_1 ≤ a0.ZX.length ∧ v1_0.length ≤ 0 + 1 * v1_1) (a0.ZX.length + 1) ([] : List Int) 0 (fun p1 v1_0 v1_1 e1 j1 => ?_) (h0 := Yj [((5, 0), some (7, 0))] [] rfl (by simp))
 refine cF e1 ?_ ?_ <;> intro k2 h1 e1
 ·have i1 := ix h1
  have m2 := ml a0.ZX (k2 10 _ rfl)
  have c1 := sl 2318336 a0.ZX (an u0 u1)
  have w1 := wr v1_1
  refine dIo mixed ?_
  simp [i1, ZD]
  repeat with_reducible refine sd ?_
  refine cRs (NJ (nth a0.ZX v1_1).Method a1 (sg u1)) ?_
  exact nx2 e1 (hw := Yj [((5, 0), some (25, 0))] [] rfl (by simp [w1]))
 have c2 := sl 2318336 a0.ZX (an u0 u1)
 have f := ms f e1
 exact rtD [.tmp 4] f
theorem VN (a0 : ZQ) : Sd 112 [a0.row] [rL 1 iR (Qi a0)] := by
 have f := me (Qi.eq_1 a0)
 refine soD Tryz.func112 Tryz.ntmps112 ?_
 exact rtD [.tmp 2] f
theorem jR (a0 : Int) (a1 : ZG) (u0 : Sm 2326528 a1) : Sa 159 [rI a0, a1.row] [rI (QW a0 a1)] := by
 have f := me (QW.eq_1 a0 a1)
 refine so Tryz.func159 Tryz.ntmps159 ?_
 refine lp2 (QV.eq_2 a1) (fun v1_0 v1_1 => Ya 75 [eI 0 a0, eX 3 (a1.row.map .d), (5, .one (.sref 5 0 0 v1_0.length), [.arr false 1 (v1_0.map iR)]), eI 6 (↑v1_1 : Int)]) (fun n1 v1_0 v1_1 => a1.Path.length < n1 + v1_1 ∧ v1_1 ≤ a1.Path.length ∧ v1_0.length ≤ 4 + 2 * v1_1) (a1.Path.length + 1) ([4, a1.Count, a1.Method, a1.TA] : List Int) 0 (fun p1 v1_0 v1_1 e1 j1 => ?_) (h0 := Yj [((5, 0), some (14, 0))] [] rfl (by simp))
 refine cFo e1 ?_ ?_ <;> intro k2 h1 e1
 ·have q1 := h1; try simp at q1
  have i1 := ix h1
  have m2 := ml a1.Path (k2 17 _ rfl)
  have c1 := sl 2326528 a1.Path u0
  have w1 := wr v1_1
  simp [i1, ZD]
  repeat with_reducible refine sd ?_
  refine cFo e1 ?_ ?_ <;> intro k3 h2 e1
  ·have q2 := h2; try simp at q2
   simp
   repeat with_reducible refine sd ?_
   exact nx2 e1 (hw := Yj [((5, 0), some (39, 0))] [] rfl (by simp [w1]))
  have q2 := h2; try simp at q2
  simp
  repeat with_reducible refine sd ?_
  exact nx2 e1 (hw := Yj [((5, 0), some (42, 0))] [] rfl (by simp [w1]))
 have q1 := h1; try simp at q1
 have c2 := sl 2326528 a1.Path u0
 have f := ms f e1
 simp
 repeat with_reducible refine sd ?_
 refine lp2 (JR.eq_2 a1) (fun v2_0 v2_1 => Ya 75 [eI 0 a0, eX 3 (a1.row.map .d), (5, .one (.sref 5 0 0 v2_0.length), [.arr false 1 (v2_0.map iR)]), eI 7 (↑v2_1 : Int)]) (fun n2 v2_0 v2_1 => a1.Zx.length < n2 + v2_1 ∧ v2_1 ≤ a1.Zx.length ∧ v2_0.length ≤ 5 + 2 * 2326528 + 6 * v2_1) (a1.Zx.length + 1) (v1_0 ++ ([(↑a1.Zx.length : Int)] : List Int)) 0 (fun p2 v2_0 v2_1 e2 j2 => ?_) (hI := by (have o : a1.Path.length ≤ 2326528 := zF (by simp (maxDischargeDepth := 12) [u0]); simp at *; omega)) (h0 := Yj [((5, 0), some (48, 0))] [] rfl (by simp))
 try dsimp only at j2
 refine cFo e2 ?_ ?_ <;> intro k5 h3 e2
 ·have q3 := h3; try simp at q3
  have i2 := ix h3
  have m4 := ml a1.Zx (k5 51 _ rfl)
  have c3 := sl 2326528 a1.Zx u0
  have w2 := wr v2_1
  simp
  refine dIo mixed ?_
  simp [i2, ZD]
  repeat with_reducible refine sd ?_
  refine cRf i2 (Y4.rd (VN (nth a1.Zx v2_1))) ?_
  exact nx2 e2 (hI := by (simp; omega)) (hw := Yj [((5, 0), some (71, 0))] [] rfl (by simp [w2]))
 have q3 := h3; try simp at q3
 have c4 := sl 2326528 a1.Zx u0
 have f := ms f e2
 simp
 refine cRs (Jb a0 v2_0 (by first | (simp (maxDischargeDepth := 12) [XS]; omega) | (simp (maxDischargeDepth := 12) [Zr (m := 68719476736) (by decide) u0]; done))) ?_
 exact rt [.tmp 4] f
theorem Tr (a0 : Int) (a1 : List ZN) (u0 : Sm 2326528 a1) : Sa 194 [rI a0, rL 3 ZN.row a1] [rI (Jw a0 a1)] := by
 have f := me (Jw.eq_1 a0 a1)
 refine so Tryz.func194 Tryz.ntmps194 ?_
 refine lp2 (Jn.eq_2 a0 a1) (fun v1_0 v1_1 => Ya 39 [eI 0 a0, eL 1 3 a1 ZN.row, (5, .one (.sref 5 0 0 v1_0.length), [.arr false 1 (v1_0.map iR)]), eI 6 (↑v1_1 : Int)]) (fun n1 v1_0 v1_1 => a1.length < n1 + v1_1 ∧ v1_1 ≤ a1.length ∧ v1_0.length ≤ 1 + 1 * v1_1) (a1.length + 1) ([2] : List Int) 0 (fun p1 v1_0 v1_1 e1 j1 => ?_) (h0 := Yj [((5, 0), some (7, 0))] [] rfl (by simp))
 refine cF e1 ?_ ?_ <;> intro k2 h1 e1
 ·have i1 := ix h1
  have m2 := ml a1 (k2 1 _ rfl)
  have c1 := sl 2326528 a1 u0
  have w1 := wr v1_1
  refine NL [2, 3, 4, 5, 6, 7, 8, 9, 10, 11, 12, 13, 14, 15, 16, 17, 18, 0, 1, 19, 20, 21, 22] mixed (by kernel_rfl) (by kernel_rfl) (by kernel_rfl) ?_
  have c2 := sl 2326528 (nth a1 v1_1).Y7 u0
  simp [i1, ZD]
  repeat with_reducible refine sd ?_
  refine cRs (Jb a0 (([(nth a1 v1_1).Key, (nth a1 v1_1).Mark] : List Int) ++ (nth a1 v1_1).Y7) (by simp (maxDischargeDepth := 12) [Kx, XS, Zr (m := 68719476736) (by decide) u0]; try omega)) ?_
  exact nx2 e1 (hw := Yj [((5, 0), some (35, 0))] [] rfl (by simp [w1]))
 have c3 := sl 2326528 a1 u0
 have f := ms f e1
 refine cRs (Jb a0 v1_0 (by first | (simp (maxDischargeDepth := 12) [XS]; omega) | (simp (maxDischargeDepth := 12) [Zr (m := 68719476736) (by decide) u0]; done))) ?_
 exact rt [.tmp 4] f
theorem jc (a0 : Int) (a1 : Int) (a2 : List ZN) (a3 : Int) (u0 : Sm 2322432 a2) : Sa 160 [rI a0, rI a1, rL 3 ZN.row a2, rI a3] [rI (kL a0 a1 a2 a3)] := by
 have f := me (kL.eq_1 a0 a1 a2 a3)
 refine so Tryz.func160 Tryz.ntmps160 ?_
 refine cRs (Tr a0 a2 (sg u0)) ?_
 refine cRs (Jb a0 ([3, a1, (Jw a0 a2), a3] : List Int) (by simp (maxDischargeDepth := 12) [Kx, XS, Zr (m := 68719476736) (by decide) u0]; try omega)) ?_
 exact rt [.tmp 8] f
theorem Ys {a b : Prop} (h : b) (k : a := by (intros; first | omega | with_unfolding_all (first | first | omega | (have cc : a0.ZX.length ≤ 2318336 := zF (by simp (maxDischargeDepth := 12) [u0]); have z0 := g1x; simp at z0; have z := J5 (by omega) z0.1; have z2 := z0.2; (try have w3 : IntKind.i64.wrap (a2 - 1) = a2 - 1 := ZW (by omega) (by omega)); (try have w4 : W (a2 - 1) = a2 - 1 := w3); first | omega | (refine ⟨⟨z0.1, by omega⟩, by omega, by omega⟩) | (simp_all; omega))) | (simp_all; done) | (simp_all; omega) | grind | ((try simp only [yv, show ∀ x, IntKind.i64.wrap x = W x from fun _ => rfl] at *); omega))) : a ∧ b := ⟨k, h⟩
theorem Hm (a0 : Za) (a1 : List Int) (a2 : Int) (u0 : Sm 2318336 a0) (u1 : Sm 2318336 a1) : Sa 107 [a0.row, rL 1 iR a1, rI a2] [rI (Vk a0 a1 a2)] := by
 have f := me (Vk.eq_1 a0 a1 a2)
 refine so Tryz.func107 Tryz.ntmps107 ?_
 refine dIs mixed ?_
 refine cRs (QF a2 0 (W ((↑a0.ZX.length : Int) - 1))) ?_
 refine gIo ?_ ?_ <;> intro G
 ·have g1x := G
  have c1 := sl 2318336 a0.ZX (an u0 u1)
  have w1 : IntKind.i64.wrap ((a0.ZX.length : Int) - 1) = (a0.ZX.length : Int) - 1 := ZW (by omega) (by omega)
  have g1 := G; try simp [Y3, w1] at g1
  have i1 : a2.toNat < a0.ZX.length := by (have cc : a0.ZX.length ≤ 2318336 := zF (by simp (maxDischargeDepth := 12) [u0]); have z0 := g1x; simp at z0; have z := J5 (by omega) z0.1; have z2 := z0.2; (try have w3 : IntKind.i64.wrap (a2 - 1) = a2 - 1 := ZW (by omega) (by omega)); (try have w4 : W (a2 - 1) = a2 - 1 := w3); omega)
  simp [i1, ZD, G]
  repeat with_reducible refine Ys ?_
  refine cGo (fun gg => (QF (nth a0.ZX a2.toNat).Count 0 (↑a0.ZO.length : Int))) ?_
  simp [G]
  repeat with_reducible refine Ys ?_
  refine cKo f ?_ ?_ <;> intro k2 h1 f
  ·try (simp [G] at h1; done)
   all_goals
    have q1 := h1; try simp [Y3, w1] at q1
    simp [G]
    repeat with_reducible refine Ys ?_
    exact rtg [.tmp 6] f
  ·try (simp [G] at h1; done)
   all_goals
    have q1 := h1; try simp [Y3, w1] at q1
    simp [i1, ZD, G]
    repeat with_reducible refine Ys ?_
    refine cKo f ?_ ?_ <;> intro k3 h2 f
    ·try (simp [G] at h2; done)
     all_goals
      have q2 := h2; try simp at q2
      have i2 : (W (a2 - 1)).toNat < a0.ZX.length := by (have cc : a0.ZX.length ≤ 2318336 := zF (by simp (maxDischargeDepth := 12) [u0]); have z0 := g1x; simp at z0; have z := J5 (by omega) z0.1; have z2 := z0.2; (try have w3 : IntKind.i64.wrap (a2 - 1) = a2 - 1 := ZW (by omega) (by omega)); (try have w4 : W (a2 - 1) = a2 - 1 := w3); omega)
      simp [i2, ZD, G]
      repeat with_reducible refine Ys ?_
      refine cR (jR (nth a0.ZX a2.toNat).Method (nth a0.ZX (W (a2 - 1)).toNat) (sg (Xm (Za.xp u0)))) ?_ (hrows := by first | (simp; done) | (simp [W, w1]; done))
      simp [G]
      repeat with_reducible refine Ys ?_
      refine dIo mixed ?_
      have i3 : a2.toNat < a1.length := by (have cc : a0.ZX.length ≤ 2318336 := zF (by simp (maxDischargeDepth := 12) [u0]); have z0 := g1x; simp at z0; have z := J5 (by omega) z0.1; have z2 := z0.2; (try have w3 : IntKind.i64.wrap (a2 - 1) = a2 - 1 := ZW (by omega) (by omega)); (try have w4 : W (a2 - 1) = a2 - 1 := w3); omega)
      simp [i3, ZD, i1, G]
      repeat with_reducible refine Ys ?_
      refine cR (jc (nth a0.ZX a2.toNat).Method (nth a1 a2.toNat) (a0.ZO.take (nth a0.ZX a2.toNat).Count.toNat) (QW (nth a0.ZX a2.toNat).Method (nth a0.ZX (W (a2 - 1)).toNat)) (Zr (n := 2318336) (by decide) (by simp (maxDischargeDepth := 12) [u0, u1]))) ?_ (hrows := by first | (simp; done) | (simp [W, w1]; done))
      simp [G]
      repeat with_reducible refine Ys ?_
      exact rtg [.tmp 6] f
    ·try (simp [G] at h2; done)
     all_goals
      have q2 := h2; try simp at q2
      simp [G]
      repeat with_reducible refine Ys ?_
      refine dIo mixed ?_
      have i4 : a2.toNat < a1.length := by (have cc : a0.ZX.length ≤ 2318336 := zF (by simp (maxDischargeDepth := 12) [u0]); have z0 := g1x; simp at z0; have z := J5 (by omega) z0.1; have z2 := z0.2; (try have w3 : IntKind.i64.wrap (a2 - 1) = a2 - 1 := ZW (by omega) (by omega)); (try have w4 : W (a2 - 1) = a2 - 1 := w3); omega)
      simp [i4, ZD, i1, G]
      repeat with_reducible refine Ys ?_
      refine cR (jc (nth a0.ZX a2.toNat).Method (nth a1 a2.toNat) (a0.ZO.take (nth a0.ZX a2.toNat).Count.toNat) 0 (Zr (n := 2318336) (by decide) (by simp (maxDischargeDepth := 12) [u0, u1]))) ?_
      simp [G]
      repeat with_reducible refine Ys ?_
      exact rtg [.tmp 6] f
 ·have g1x := G
  simp [G]
  repeat with_reducible refine Ys ?_
  refine sGo ?_
  simp [G]
  repeat with_reducible refine Ys ?_
  have c2 := sl 2318336 a0.ZX (an u0 u1)
  have w2 : IntKind.i64.wrap ((a0.ZX.length : Int) - 1) = (a0.ZX.length : Int) - 1 := ZW (by omega) (by omega)
  refine cKo f ?_ ?_ <;> intro k6 h3 f
  ·try (simp [G] at h3; done)
   all_goals
    have q3 := h3; try simp [Y3, w2] at q3
    simp [G]
    repeat with_reducible refine Ys ?_
    exact rtg [.tmp 6] f
  ·try (simp [G] at h3; done)
   all_goals
    have q3 := h3; try simp [Y3, w2] at q3
    have i6 : a2.toNat < a0.ZX.length := by (have cc : a0.ZX.length ≤ 2318336 := zF (by simp (maxDischargeDepth := 12) [u0]); have z0 := g1x; simp at z0; have z := J5 (by omega) z0.1; have z2 := z0.2; (try have w3 : IntKind.i64.wrap (a2 - 1) = a2 - 1 := ZW (by omega) (by omega)); (try have w4 : W (a2 - 1) = a2 - 1 := w3); omega)
    simp [i6, ZD, G]
    repeat with_reducible refine Ys ?_
    refine cKo f ?_ ?_ <;> intro k7 h4 f
    ·try (simp [G] at h4; done)
     all_goals
      have q4 := h4; try simp at q4
      have i7 : (W (a2 - 1)).toNat < a0.ZX.length := by (have cc : a0.ZX.length ≤ 2318336 := zF (by simp (maxDischargeDepth := 12) [u0]); have z0 := g1x; simp at z0; have z := J5 (by omega) z0.1; have z2 := z0.2; (try have w3 : IntKind.i64.wrap (a2 - 1) = a2 - 1 := ZW (by omega) (by omega)); (try have w4 : W (a2 - 1) = a2 - 1 := w3); omega)
      simp [i7, ZD, G]
      repeat with_reducible refine Ys ?_
      refine cR (jR (nth a0.ZX a2.toNat).Method (nth a0.ZX (W (a2 - 1)).toNat) (sg (Xm (Za.xp u0)))) ?_ (hrows := by first | (simp; done) | (simp [W, w2]; done))
      simp [G]
      repeat with_reducible refine Ys ?_
      refine dIo mixed ?_
      have i8 : a2.toNat < a1.length := by (have cc : a0.ZX.length ≤ 2318336 := zF (by simp (maxDischargeDepth := 12) [u0]); have z0 := g1x; simp at z0; have z := J5 (by omega) z0.1; have z2 := z0.2; (try have w3 : IntKind.i64.wrap (a2 - 1) = a2 - 1 := ZW (by omega) (by omega)); (try have w4 : W (a2 - 1) = a2 - 1 := w3); omega)
      simp [i8, ZD, i6, G]
      repeat with_reducible refine Ys ?_
      refine cR (jc (nth a0.ZX a2.toNat).Method (nth a1 a2.toNat) (a0.ZO.take (nth a0.ZX a2.toNat).Count.toNat) (QW (nth a0.ZX a2.toNat).Method (nth a0.ZX (W (a2 - 1)).toNat)) (Zr (n := 2318336) (by decide) (by simp (maxDischargeDepth := 12) [u0, u1]))) ?_ (hrows := by first | (simp; done) | (simp [W, w2]; done))
      simp [G]
      repeat with_reducible refine Ys ?_
      exact rtg [.tmp 6] f
    ·try (simp [G] at h4; done)
     all_goals
      have q4 := h4; try simp at q4
      simp [G]
      repeat with_reducible refine Ys ?_
      refine dIo mixed ?_
      have i9 : a2.toNat < a1.length := by (have cc : a0.ZX.length ≤ 2318336 := zF (by simp (maxDischargeDepth := 12) [u0]); have z0 := g1x; simp at z0; have z := J5 (by omega) z0.1; have z2 := z0.2; (try have w3 : IntKind.i64.wrap (a2 - 1) = a2 - 1 := ZW (by omega) (by omega)); (try have w4 : W (a2 - 1) = a2 - 1 := w3); omega)
      simp [i9, ZD, i6, G]
      repeat with_reducible refine Ys ?_
      refine cR (jc (nth a0.ZX a2.toNat).Method (nth a1 a2.toNat) (a0.ZO.take (nth a0.ZX a2.toNat).Count.toNat) 0 (Zr (n := 2318336) (by decide) (by simp (maxDischargeDepth := 12) [u0, u1]))) ?_
      simp [G]
      repeat with_reducible refine Ys ?_
      exact rtg [.tmp 6] f
theorem Vq (a0 : ZF) (a1 : Int) (u0 : Sm 2314240 a0) : Sd 50 [a0.row, rI a1] [rL 1 iR (Y2 a0 a1)] := by
 have f := me (Y2.eq_1 a0 a1)
 refine soD Tryz.func50 Tryz.ntmps50 ?_
 refine lp2 (KI.eq_2 a0 a1) (fun v1_0 v1_1 => Ya 51 [eI 1 a1, eX 2 (a0.row.map .d), (5, .one (.sref 5 0 0 v1_0.length), [.arr false 1 (v1_0.map iR)]), eI 6 (↑v1_1 : Int)]) (fun n1 v1_0 v1_1 => a0.ZM.length < n1 + v1_1 ∧ v1_1 ≤ a0.ZM.length ∧ v1_0.length ≤ 0 + 1 * v1_1) (a0.ZM.length + 1) ([] : List Int) 0 (fun p1 v1_0 v1_1 e1 j1 => ?_) (h0 := Yj [((5, 0), some (8, 0))] [] rfl (by simp))
 refine cFf e1 ?_ ?_ <;> intro k2 h1 e1
 ·have i1 := ix h1
  have m2 := ml a0.ZM (k2 11 _ rfl)
  have c1 := sl 2314240 a0.ZM u0
  have w1 := wr v1_1
  simp [i1, ZD]
  repeat with_reducible refine sd ?_
  refine cOs (xd (nth a0.ZM v1_1).ZL (sg (ZY.KF (Xm (ZF.Kk u0))))) ?_
  refine eIs ?_
  have c2 := sl 2314240 (nth a0.ZM v1_1).ZL.ZX u0
  refine eIs ?_
  refine dIo mixed ?_
  simp [i1, ZD]
  repeat with_reducible refine sd ?_
  refine cDs [false] (Ro (Za.mk (nth a0.ZM v1_1).ZL.ZO ((nth a0.ZM v1_1).ZL.ZX ++ ([(ZG.mk (↑(nth a0.ZM v1_1).ZL.ZO.length : Int) a1 0 ([] : List Zk) ([] : List ZQ))] : List ZG))) (nth a0.ZM v1_1).Doc (by (first | (exact Qn (s := (nth a0.ZM v1_1).ZL) (by decide) (show Sm 2314240 _ by simp (maxDischargeDepth := 12) [u0]) (by simp)) | (refine za ?_; exact Qn (s := (nth a0.ZM v1_1).ZL) (by decide) (show Sm 2314240 _ by simp (maxDischargeDepth := 12) [u0]) (by simp)) | (exact Zr (n := 2314240) (by decide) (by simp (maxDischargeDepth := 12) [u0])))) (by (first | (exact Qn (s := (nth a0.ZM v1_1).ZL) (by decide) (show Sm 2314240 _ by simp (maxDischargeDepth := 12) [u0]) (by simp)) | (refine za ?_; exact Qn (s := (nth a0.ZM v1_1).ZL) (by decide) (show Sm 2314240 _ by simp (maxDischargeDepth := 12) [u0]) (by simp)) | (exact Zr (n := 2314240) (by decide) (by simp (maxDischargeDepth := 12) [u0]))))) ?_
  refine cRs (Hm (Za.mk (nth a0.ZM v1_1).ZL.ZO ((nth a0.ZM v1_1).ZL.ZX ++ ([(ZG.mk (↑(nth a0.ZM v1_1).ZL.ZO.length : Int) a1 0 ([] : List Zk) ([] : List ZQ))] : List ZG))) (Qg (Za.mk (nth a0.ZM v1_1).ZL.ZO ((nth a0.ZM v1_1).ZL.ZX ++ ([(ZG.mk (↑(nth a0.ZM v1_1).ZL.ZO.length : Int) a1 0 ([] : List Zk) ([] : List ZQ))] : List ZG))) (nth a0.ZM v1_1).Doc) (W ((↑((nth a0.ZM v1_1).ZL.ZX ++ ([(ZG.mk (↑(nth a0.ZM v1_1).ZL.ZO.length : Int) a1 0 ([] : List Zk) ([] : List ZQ))] : List ZG)).length : Int) - 1)) (by (first | (exact Qn (s := (nth a0.ZM v1_1).ZL) (by decide) (show Sm 2314240 _ by simp (maxDischargeDepth := 12) [u0]) (by simp)) | (refine za ?_; exact Qn (s := (nth a0.ZM v1_1).ZL) (by decide) (show Sm 2314240 _ by simp (maxDischargeDepth := 12) [u0]) (by simp)) | (exact Zr (n := 2314240) (by decide) (by simp (maxDischargeDepth := 12) [u0])))) (by (first | (exact Qn (s := (nth a0.ZM v1_1).ZL) (by decide) (show Sm 2314240 _ by simp (maxDischargeDepth := 12) [u0]) (by simp)) | (refine za ?_; exact Qn (s := (nth a0.ZM v1_1).ZL) (by decide) (show Sm 2314240 _ by simp (maxDischargeDepth := 12) [u0]) (by simp)) | (exact Zr (n := 2314240) (by decide) (by simp (maxDischargeDepth := 12) [u0]))))) ?_ (hrows := by first | (simp; done) | (simp [W, w1]; done))
  exact nx2 e1 (hw := Yj [((5, 0), some (49, 0))] [] rfl (by simp [w1]))
 have c3 := sl 2314240 a0.ZM u0
 have f := ms f e1
 exact rtD [.tmp 4] f
theorem Ry (a0 : Int) (a1 : Int) (a2 : Int) : Sa 207 [rI a0, rI a1, rI a2] [rI (yn a0 a1 a2)] := by
 have f := me (yn.eq_1 a0 a1 a2)
 refine so Tryz.func207 Tryz.ntmps207 ?_
 refine cRs (Jb a0 ([1, a1, a2] : List Int) (by simp (maxDischargeDepth := 12) [Kx, XS]; try omega)) ?_
 exact rt [.tmp 6] f
theorem ku (a0 : Int) (a1 : List Int) (u0 : Sm 2322432 a1) : Sd 179 [rI a0, rL 1 iR a1] [rL 1 iR (xQ a0 a1)] := by
 have f := me (xQ.eq_1 a0 a1)
 refine soD Tryz.func179 Tryz.ntmps179 ?_
 refine lp2 (K1.eq_2 a0 a1) (fun v1_0 v1_1 => Ya 41 [eI 0 a0, eL 1 1 a1 iR, (5, .one (.sref 5 0 0 v1_0.length), [.arr false 1 (v1_0.map iR)]), eI 6 (↑v1_1 : Int)]) (fun n1 v1_0 v1_1 => a1.length < n1 + v1_1 ∧ v1_1 ≤ a1.length + 1 ∧ v1_0.length ≤ v1_1) (a1.length + 1) ([] : List Int) 0 (fun p1 v1_0 v1_1 e1 j1 => ?_) (h0 := Yj [((5, 0), some (7, 0))] [] rfl (by simp))
 try dsimp only at j1
 refine cF e1 ?_ ?_ <;> intro k2 h1 e1
 ·have i1 := ix h1
  have m2 := ml a1 (k2 1 _ rfl)
  have c1 := sl 2322432 a1 u0
  have w1 := wr v1_1
  refine cFt e1 ?_ ?_ <;> intro k3 h2 e1
  ·refine okD fun k4 => ?_
   refine dIo mixed ?_
   have i2 := ik (W ((↑v1_1 : Int) + 1)).toNat a1
   simp [i1, ZD, i2]
   repeat with_reducible refine sd ?_
   refine cRs (Ry a0 (nth a1 v1_1) (nth a1 (W ((↑v1_1 : Int) + 1)).toNat)) ?_ (hrows := by first | (simp; done) | (simp [W, w1]; done))
   have w2 : IntKind.i64.wrap ((v1_1 : Int) + 2) = (v1_1 : Int) + 2 := ZW (by omega) (by omega)
   exact nx2 e1 (hI := by first | omega | (simp at *; omega)) (hw := Yj [((5, 0), some (32, 0))] [] rfl (by simp [w1, w2]))
  simp [i1, ZD]
  repeat with_reducible refine sd ?_
  have w3 : IntKind.i64.wrap ((v1_1 : Int) + 2) = (v1_1 : Int) + 2 := ZW (by omega) (by omega)
  exact nx2 e1 (hI := by first | omega | (simp at *; omega)) (hw := Yj [((5, 0), some (39, 0))] [] rfl (by simp [w1, w3]))
 have c2 := sl 2322432 a1 u0
 have f := ms f e1
 exact rtD [.tmp 4] f
theorem UR (a0 : Int) (a1 : List Int) (u0 : Sm 2318336 a1) : Sa 133 [rI a0, rL 1 iR a1] [rI (JZ a0 a1)] := by
 have f := me (JZ.eq_1 a0 a1)
 refine so Tryz.func133 Tryz.ntmps133 ?_
 refine cRs (QF (↑a1.length : Int) 1 16) ?_
 refine cFo f ?_ ?_ <;> intro k1 h1 f
 ·have q1 := h1; try simp [Y3] at q1
  simp
  exact rt [.tmp 4] f
 have q1 := h1; try simp [Y3] at q1
 have c1 := sl 2318336 a1 u0
 simp
 repeat with_reducible refine sd ?_
 refine lp1 (yM.eq_2 a0) (fun v1_0 => Ya 22 [eI 0 a0, (5, .one (.sref 5 0 0 v1_0.length), [.arr false 1 (v1_0.map iR)])]) (fun n1 v1_0 => v1_0.length < n1 ∧ 1 ≤ v1_0.length ∧ v1_0.length ≤ 16) (a1.length + 1) a1 (fun p1 v1_0 e1 j1 => ?_) (hI := by first | omega | (simp at *; omega)) (h0 := Yj [((5, 0), some (12, 0))] [] rfl (by simp))
 try dsimp only at j1
 refine cFt e1 ?_ ?_ <;> intro k3 h2 e1
 ·refine cDs [false] (ku a0 v1_0 (by first | (simp (maxDischargeDepth := 12) [XS]; omega) | (simp (maxDischargeDepth := 12) [Zr (m := 2322432) (by decide) u0]; done))) ?_
  exact nx1 e1 (hI := by (have z := jq a0 v1_0 (by omega); (try dsimp only); simp at *; omega)) (hw := Yj [((5, 0), some (18, 0))] [] rfl (by simp))
 have f := ms f e1
 have i1 := ik 0 v1_0
 simp [i1, ZD]
 repeat with_reducible refine sd ?_
 exact rt [.tmp 4] f
theorem Ia (a0 : ZF) (a1 : Int) (u0 : Sm 2310144 a0) : Sa 64 [a0.row, rI a1] [rI (Jv a0 a1)] := by
 have f := me (Jv.eq_1 a0 a1)
 refine so Tryz.func64 Tryz.ntmps64 ?_
 refine cRs (Y4.rd (Vq a0 a1 (sg u0))) ?_
 refine cRs (UR a1 (Y2 a0 a1) (by simp (maxDischargeDepth := 12) [yF, Zr (m := 2318336) (by decide) u0]; try omega)) ?_
 exact rt [.tmp 4] f
theorem FK (a0 : List Int) (a1 : Int) : Sa 49 [rL 1 iR a0, rI a1] [rB (Pb a0 a1)] := by
 have f := me (Pb.eq_1 a0 a1)
 refine so Tryz.func49 Tryz.ntmps49 ?_
 refine lp1 (Vx.eq_2 a0 a1) (fun v1_0 => Ya 18 [eL 0 1 a0 iR, eI 1 a1, eI 5 (↑v1_0 : Int)]) (fun n1 v1_0 => a0.length < n1 + v1_0 ∧ v1_0 ≤ a0.length) (a0.length + 1) 0 (fun p1 v1_0 e1 j1 => ?_)
 refine cFf e1 ?_ ?_ <;> intro k2 h1 e1
 ·have i1 := ix h1
  have m2 := ml a0 (k2 0 _ rfl)
  have w1 := wr v1_0
  simp [i1, ZD]
  repeat with_reducible refine sd ?_
  refine cF e1 ?_ ?_ <;> intro k3 h2 e1
  ·have f := ms f e1
   exact rt [.tmp 4] f
  exact ny1 w1 e1
 have f := ms f e1
 exact rt [.tmp 4] f
theorem DQ (a0 : Int) (a1 : Int) : Sa 67 [rI a0, rI a1] [rI (UF a0 a1)] := by
 have f := me (UF.eq_1 a0 a1)
 refine so Tryz.func67 Tryz.ntmps67 ?_
 refine cF f ?_ ?_ <;> intro k1 h1 f
 ·exact rt [.tmp 4] f
 exact rt [.tmp 4] f
theorem Df (a0 : Int) (a1 : Int) : Sa 66 [rI a0, rI a1] [rI (U1 a0 a1)] := by
 have f := me (U1.eq_1 a0 a1)
 refine so Tryz.func66 Tryz.ntmps66 ?_
 refine cF f ?_ ?_ <;> intro k1 h1 f
 ·exact rt [.tmp 4] f
 exact rt [.tmp 4] f
theorem RL (a0 : Int) : Sa 109 [rI a0] [rB (W0 a0)] := by
 have f := me (W0.eq_1 a0)
 refine so Tryz.func109 Tryz.ntmps109 ?_
 refine cRs (QF a0 0 10000) ?_
 exact rt [.tmp 2] f
theorem Po (a0 : Int) (a1 : List Int) (u0 : Sm 2330624 a1) : Sa 162 [rI a0, rL 1 iR a1] [rI (xn a0 a1)] := by
 have f := me (xn.eq_1 a0 a1)
 have c1 := sl 2330624 a1 u0
 refine so Tryz.func162 Tryz.ntmps162 ?_
 refine cRs (M9 ((([a0] : List Int) ++ a1) ++ ([a0] : List Int))) ?_
 exact rt [.tmp 4] f
theorem N9 (a0 : YG) (a1 : List Int) (u0 : Sm 2326528 a1) : Sa 111 [a0.row, rL 1 iR a1] [rI (qm a0 a1)] := by
 have f := me (qm.eq_1 a0 a1)
 refine so Tryz.func111 Tryz.ntmps111 ?_
 refine NL [2, 3, 4, 5, 6, 0, 1, 7, 8] mixed (by kernel_rfl) (by kernel_rfl) (by kernel_rfl) ?_
 have c1 := sl 2326528 a1 u0
 simp
 repeat with_reducible refine sd ?_
 refine cRs (Po a0.zE (([a0.Method] : List Int) ++ a1) (by simp (maxDischargeDepth := 12) [Kx, XS, Zr (m := 2330624) (by decide) u0]; try omega)) ?_
 exact rt [.tmp 4] f
theorem W3 (a0 : List YG) (a1 : List ZJ) (a2 : ZQ) (u0 : Sm 2322432 a0) (u1 : Sm 2322432 a1) : Sa 51 [rL 5 YG.row a0, rL 3 ZJ.row a1, a2.row] [(JI a0 a1 a2).1.row, rB (JI a0 a1 a2).2] := by
 have f := me (JI.eq_1 a0 a1 a2)
 refine so Tryz.func51 Tryz.ntmps51 ?_
 refine cRs (J4 a1 a2.Authority) ?_
 refine cGs (fun gg => (RL a2.Time)) ?_
 refine cFt f ?_ ?_ <;> intro k1 h1 f
 ·exact rt [.cell 6 98, .tmp 7] f
 have i1 : (ZU a1 a2.Authority).toNat < a1.length := by have := Xu a1 a2.Authority; exact il
 simp [i1, ZD]
 repeat with_reducible refine sd ?_
 refine cRs (WN a0 (nth a1 (ZU a1 a2.Authority).toNat).Key) ?_
 refine cF f ?_ ?_ <;> intro k2 h2 f
 ·exact rt [.cell 6 98, .tmp 7] f
 refine dIo mixed ?_
 have i2 : (Xb a0 (nth a1 (ZU a1 a2.Authority).toNat).Key).toNat < a0.length := by have := ko a0 (nth a1 (ZU a1 a2.Authority).toNat).Key; exact il
 simp [i2, ZD]
 repeat with_reducible refine sd ?_
 refine cRs (Y4.rd (VN a2)) ?_
 refine cRs (N9 (nth a0 (Xb a0 (nth a1 (ZU a1 a2.Authority).toNat).Key).toNat) (Qi a2) (by simp (maxDischargeDepth := 12) [NK, Zr (m := 2326528) (by decide) u0, Zr (m := 2326528) (by decide) u1]; try omega)) ?_
 exact rt [.cell 6 98, .tmp 7] f
theorem O4 (a0 : List Int) (a1 : List Int) : Sa 220 [rL 1 iR a0, rL 1 iR a1] [rB (jU a0 a1)] := by
 have f := me (jU.eq_1 a0 a1)
 refine so Tryz.func220 Tryz.ntmps220 ?_
 refine cF f ?_ ?_ <;> intro k1 h1 f
 ·exact rt [.tmp 4] f
 refine lp1 (xW.eq_2 a0 a1) (fun v1_0 => Ya 26 [eL 0 1 a0 iR, eL 1 1 a1 iR, eI 5 (↑v1_0 : Int)]) (fun n1 v1_0 => a0.length < n1 + v1_0 ∧ v1_0 ≤ a0.length) (a0.length + 1) 0 (fun p1 v1_0 e1 j1 => ?_)
 refine cF e1 ?_ ?_ <;> intro k3 h2 e1
 ·have i1 := ix h2
  have m2 := ml a0 (k3 0 _ rfl)
  have w1 := wr v1_0
  refine dIo mixed ?_
  have i2 := ik v1_0 a1
  simp [i1, ZD, i2]
  repeat with_reducible refine sd ?_
  refine cF e1 ?_ ?_ <;> intro k5 h3 e1
  ·have f := ms f e1
   exact rt [.tmp 4] f
  exact ny1 w1 e1
 have f := ms f e1
 exact rt [.tmp 4] f
theorem kS (a0 : ZN) (a1 : ZN) : Sa 198 [a0.row, a1.row] [rB (KL a0 a1)] := by
 have f := me (KL.eq_1 a0 a1)
 refine so Tryz.func198 Tryz.ntmps198 ?_
 refine cGs (fun gg => (O4 a0.Y7 a1.Y7)) ?_
 exact rt [.tmp 4] f
theorem OU (a0 : Za) (a1 : ZN) : Sa 163 [a0.row, a1.row] [rI (zs a0 a1)] := by
 have f := me (zs.eq_1 a0 a1)
 refine so Tryz.func163 Tryz.ntmps163 ?_
 refine lp1 (xR.eq_2 a0 a1) (fun v1_0 => Ya 21 [eX 2 (a0.row.map .d), eX 3 (a1.row.map .d), eI 5 (↑v1_0 : Int)]) (fun n1 v1_0 => a0.ZO.length < n1 + v1_0 ∧ v1_0 ≤ a0.ZO.length) (a0.ZO.length + 1) 0 (fun p1 v1_0 e1 j1 => ?_)
 refine cF e1 ?_ ?_ <;> intro k2 h1 e1
 ·have i1 := ix h1
  have m2 := ml a0.ZO (k2 8 _ rfl)
  have w1 := wr v1_0
  refine dIo mixed ?_
  simp [i1, ZD]
  repeat with_reducible refine sd ?_
  refine cRs (kS (nth a0.ZO v1_0) a1) ?_
  refine cF e1 ?_ ?_ <;> intro k4 h2 e1
  ·have f := ms f e1
   exact rt [.tmp 4] f
  exact ny1 w1 e1
 have f := ms f e1
 exact rt [.tmp 4] f
theorem UP (a0 : Za) : Sa 114 [a0.row] [rB (Kp a0)] := by
 have f := me (Kp.eq_1 a0)
 refine so Tryz.func114 Tryz.ntmps114 ?_
 refine lp1 (Ku.eq_2 a0) (fun v1_0 => Ya 69 [eX 1 (a0.row.map .d), eI 3 (↑v1_0 : Int)]) (fun n1 v1_0 => a0.ZO.length < n1 + v1_0 ∧ v1_0 ≤ a0.ZO.length) (a0.ZO.length + 1) 0 (fun p1 v1_0 e1 j1 => ?_)
 refine cF e1 ?_ ?_ <;> intro k2 h1 e1
 ·have i1 := ix h1
  have m2 := ml a0.ZO (k2 7 _ rfl)
  have w1 := wr v1_0
  refine dIo mixed ?_
  simp [i1, ZD]
  repeat with_reducible refine sd ?_
  refine cRs (OU a0 (nth a0.ZO v1_0)) ?_
  refine cF e1 ?_ ?_ <;> intro k4 h2 e1
  ·have f := ms f e1
   exact rt [.tmp 2] f
  exact ny1 w1 e1
 have f := ms f e1
 refine lp1 (Ky.eq_2 a0) (fun v2_0 => Ya 69 [eX 1 (a0.row.map .d), eI 4 (↑v2_0 : Int)]) (fun n2 v2_0 => a0.ZX.length < n2 + v2_0 ∧ v2_0 ≤ a0.ZX.length) (a0.ZX.length + 1) 0 (fun p2 v2_0 e2 j2 => ?_)
 refine cF e2 ?_ ?_ <;> intro k6 h3 e2
 ·have i2 := ix h3
  have m4 := ml a0.ZX (k6 23 _ rfl)
  have w2 := wr v2_0
  refine dIo mixed ?_
  simp [i2, ZD]
  repeat with_reducible refine sd ?_
  refine cRs (QF (nth a0.ZX v2_0).Count 1 (↑a0.ZO.length : Int)) ?_
  refine gIf ?_ ?_ <;> intro G
  ·have i3 := ik (v2_0 - 1) a0.ZX
   have w3 : IntKind.i64.wrap ((v2_0 : Int) - 1) = (v2_0 : Int) - 1 := ZW (by omega) (by omega)
   simp [i3, ZD, w3, zn, G]
   repeat with_reducible refine sdg ?_
   refine gK (fun _ => ?_)
   simp [i2, ZD, G]
   repeat with_reducible refine sdg ?_
   refine cKo e2 ?_ ?_ <;> intro k8 h4 e2
   ·try (simp [G] at h4; done)
    all_goals
     have q4 := h4; try simp [Y3] at q4
     have f := ms f e2
     simp [G]
     repeat with_reducible refine sdg ?_
     exact rtg [.tmp 2] f
   ·try (simp [G] at h4; done)
    all_goals
     have q4 := h4; try simp [Y3] at q4
     simp [G]
     repeat with_reducible refine sdg ?_
     exact ny1 (an w2 (an w3 G)) e2
  ·refine sGg ?_
   refine cKo e2 ?_ ?_ <;> intro k9 h5 e2
   ·try (simp [G] at h5; done)
    all_goals
     have q5 := h5; try simp [Y3] at q5
     have f := ms f e2
     simp [G]
     repeat with_reducible refine sdg ?_
     exact rtg [.tmp 2] f
   ·try (simp [G] at h5; done)
    all_goals
     have q5 := h5; try simp [Y3] at q5
     simp [G]
     repeat with_reducible refine sdg ?_
     exact ny1 (an w2 G) e2
 have f := ms f e2
 refine cRs (QF (↑a0.ZO.length : Int) 1 12) ?_
 exact rt [.tmp 2] f
theorem Uw (a0 : Zh) : Sd 224 [a0.row] [rL 1 iR (JA a0)] := by
 have f := me (JA.eq_1 a0)
 refine soD Tryz.func224 Tryz.ntmps224 ?_
 exact rtD [.tmp 2] f
theorem OB (a0 : Zh) : Sd 208 [a0.row] [(zy a0).row] := by
 have f := me (zy.eq_1 a0)
 refine soD Tryz.func208 Tryz.ntmps208 ?_
 refine dIs mixed ?_
 refine cDs [false] (Uw a0) ?_
 exact rtD [.cell 2 187] f
theorem Hc (a0 : ZY) : Sa 180 [a0.row] [rB (Ww a0)] := by
 have f := me (Ww.eq_1 a0)
 refine so Tryz.func180 Tryz.ntmps180 ?_
 refine dIs mixed ?_
 refine cRs (QF a0.Id 1 999) ?_
 refine cGs (fun gg => (RL a0.Y8)) ?_
 refine cGs (fun gg => (Wm a0.Doc)) ?_
 refine cGs (fun gg => (UP a0.ZL)) ?_
 refine gIf ?_ ?_ <;> intro G
 ·have g1x := G
  have g1 := G; try simp [Y3] at g1
  have i1 : 0 < a0.ZL.ZO.length := by have := P9 (a := a0.ZL); simp_all
  simp [i1, ZD, G]
  repeat with_reducible refine sdg ?_
  refine cGg (fun gg => Y4.rd (OB a0.Sig)) ?_
  refine cGg (fun gg => (kS (nth a0.ZL.ZO 0) (zy a0.Sig))) ?_
  exact rtg [.tmp 2] f
 ·have g1x := G
  refine sGo ?_
  simp [G]
  repeat with_reducible refine sdg ?_
  refine sGo ?_
  simp [G]
  repeat with_reducible refine sdg ?_
  exact rtg [.tmp 2] f
theorem VL (a0 : ZF) : Sa 134 [a0.row] [rB (Km a0)] := by
 have f := me (Km.eq_1 a0)
 refine so Tryz.func134 Tryz.ntmps134 ?_
 refine lp1 (zO.eq_2 a0) (fun v1_0 => Ya 47 [eX 1 (a0.row.map .d), eI 3 (↑v1_0 : Int)]) (fun n1 v1_0 => a0.ZM.length < n1 + v1_0 ∧ v1_0 ≤ a0.ZM.length) (a0.ZM.length + 1) 0 (fun p1 v1_0 e1 j1 => ?_)
 refine cF e1 ?_ ?_ <;> intro k2 h1 e1
 ·have i1 := ix h1
  have m2 := ml a0.ZM (k2 6 _ rfl)
  have w1 := wr v1_0
  refine dIo mixed ?_
  simp [i1, ZD]
  repeat with_reducible refine sd ?_
  refine cRs (Hc (nth a0.ZM v1_0)) ?_
  refine gIf ?_ ?_ <;> intro G
  ·have i2 := ik (v1_0 - 1) a0.ZM
   have w2 : IntKind.i64.wrap ((v1_0 : Int) - 1) = (v1_0 : Int) - 1 := ZW (by omega) (by omega)
   simp [i2, ZD, w2, zn, G]
   repeat with_reducible refine sdg ?_
   refine gK (fun _ => ?_)
   simp [i1, ZD, G]
   repeat with_reducible refine sdg ?_
   refine cK e1 ?_ ?_ <;> intro k4 h2 e1
   ·try (simp [G] at h2; done)
    all_goals
     have f := ms f e1
     exact rtg [.tmp 2] f
   ·try (simp [G] at h2; done)
    all_goals
     exact ny1 (an w1 (an w2 G)) e1
  ·refine sGg ?_
   refine cK e1 ?_ ?_ <;> intro k5 h3 e1
   ·try (simp [G] at h3; done)
    all_goals
     have f := ms f e1
     exact rtg [.tmp 2] f
   ·try (simp [G] at h3; done)
    all_goals
     exact ny1 (an w1 G) e1
 have f := ms f e1
 refine cRs (QF a0.Id 0 99) ?_
 exact rt [.tmp 2] f
theorem kF {a b : Prop} (h : b) (k : a := by (intros; first | omega | with_unfolding_all (first | first | omega | (have tm := Int.tmod_eq_emod_of_nonneg (b := 2) (show 0 ≤ v1_0 by omega); (try simp only [yv, show ∀ x, IntKind.i64.wrap x = W x from fun _ => rfl] at *); (try simp at *); omega)) | ((try simp only [yv, show ∀ x, IntKind.i64.wrap x = W x from fun _ => rfl] at *); omega))) : a ∧ b := ⟨k, h⟩
theorem MI (a0 : Int) (a1 : List Int) (a2 : Int) (u0 : Sm 2318336 a1) : Sd 135 [rI a0, rL 1 iR a1, rI a2] [rL 2 Zk.row (JU a0 a1 a2)] := by
 have f := me (JU.eq_1 a0 a1 a2)
 refine soD Tryz.func135 Tryz.ntmps135 ?_
 refine cGs (fun gg => (QF a2 0 (W ((↑a1.length : Int) - 1)))) ?_
 have c1 := sl 2318336 a1 u0
 have w1 : IntKind.i64.wrap ((a1.length : Int) - 1) = (a1.length : Int) - 1 := ZW (by omega) (by omega)
 refine cFo f ?_ ?_ <;> intro k1 h1 f
 ·have q1 := h1; try simp [Y3, w1] at q1
  simp
  exact rtD [.tmp 6] f
 have q1 := h1; try simp [Y3, w1] at q1
 simp
 repeat with_reducible refine kF ?_
 refine lp3 (Qd.eq_2 a0) (fun v1_0 v1_1 v1_2 => Ya 60 [eI 0 a0, eI 2 v1_0, (7, .one (.sref 7 0 0 v1_1.length), [.arr false 2 (v1_1.map Zk.row)]), (8, .one (.sref 8 0 0 v1_2.length), [.arr false 1 (v1_2.map iR)])]) (fun n1 v1_0 v1_1 v1_2 => v1_2.length < n1 ∧ 0 ≤ v1_0 ∧ v1_0 < (v1_2.length : Int) ∧ v1_2.length ≤ 16 ∧ v1_1.length + n1 ≤ 17) (a1.length + 1) a2 ([] : List Zk) a1 (fun p1 v1_0 v1_1 v1_2 e1 j1 => ?_) (hI := by first | omega | (simp at *; omega)) (h0 := Yj [((7, 0), some (9, 0)), ((8, 0), some (24, 0))] [] rfl (by simp))
 try dsimp only at j1
 refine cF e1 ?_ ?_ <;> intro k3 h2 e1
 ·refine cFf e1 ?_ ?_ <;> intro k4 h3 e1
  ·have i1 : (W (v1_0 - 1)).toNat < v1_2.length := by first | omega | (have tm := Int.tmod_eq_emod_of_nonneg (b := 2) (show 0 ≤ v1_0 by omega); (try simp only [yv, show ∀ x, IntKind.i64.wrap x = W x from fun _ => rfl] at *); (try simp at *); omega)
   simp [i1, ZD]
   repeat with_reducible refine kF ?_
   refine cDs [false] (ku a0 v1_2 (by first | (simp (maxDischargeDepth := 12) [XS]; omega) | (simp (maxDischargeDepth := 12) [Zr (m := 2322432) (by decide) u0]; done))) ?_
   exact nx3 e1 (hI := by (have z := jq a0 v1_2 (by omega); have td := Int.tdiv_eq_ediv_of_nonneg (b := 2) (show 0 ≤ v1_0 by omega); have w2 : W (Int.tdiv v1_0 2) = Int.tdiv v1_0 2 := ZW (by omega) (by omega); (try dsimp only); rw [w2]; simp at *; omega)) (hw := Yj [((7, 0), some (39, 0)), ((8, 0), some (56, 0))] [] rfl (by simp [w1]))
  refine cFo e1 ?_ ?_ <;> intro k5 h4 e1
  ·have q4 := h4; try simp [w1] at q4
   have i2 : (W (v1_0 + 1)).toNat < v1_2.length := by first | omega | (have tm := Int.tmod_eq_emod_of_nonneg (b := 2) (show 0 ≤ v1_0 by omega); (try simp only [yv, show ∀ x, IntKind.i64.wrap x = W x from fun _ => rfl] at *); (try simp at *); omega)
   simp [i2, ZD]
   repeat with_reducible refine kF ?_
   refine cDs [false] (ku a0 v1_2 (by first | (simp (maxDischargeDepth := 12) [XS]; omega) | (simp (maxDischargeDepth := 12) [Zr (m := 2322432) (by decide) u0]; done))) ?_
   exact nx3 e1 (hI := by (have z := jq a0 v1_2 (by omega); have td := Int.tdiv_eq_ediv_of_nonneg (b := 2) (show 0 ≤ v1_0 by omega); have w2 : W (Int.tdiv v1_0 2) = Int.tdiv v1_0 2 := ZW (by omega) (by omega); (try dsimp only); rw [w2]; simp at *; omega)) (hw := Yj [((7, 0), some (53, 0)), ((8, 0), some (56, 0))] [] rfl (by simp [w1]))
  have q4 := h4; try simp [w1] at q4
  simp
  refine cDs [false] (ku a0 v1_2 (by first | (simp (maxDischargeDepth := 12) [XS]; omega) | (simp (maxDischargeDepth := 12) [Zr (m := 2322432) (by decide) u0]; done))) ?_
  exact nx3 e1 (hI := by (have z := jq a0 v1_2 (by omega); have td := Int.tdiv_eq_ediv_of_nonneg (b := 2) (show 0 ≤ v1_0 by omega); have w2 : W (Int.tdiv v1_0 2) = Int.tdiv v1_0 2 := ZW (by omega) (by omega); (try dsimp only); rw [w2]; simp at *; omega)) (hw := Yj [((8, 0), some (56, 0))] [] rfl (by simp [w1]))
 have f := ms f e1
 exact rtD [.tmp 6] f
theorem Rt (a0 : Za) (a1 : ZG) (u0 : Sm 2326528 a0) (u1 : Sm 2326528 a1) : So 52 [a0.row, a1.row] [(JM a0 a1).1.row, rB (JM a0 a1).2] := by
 have f := me (JM.eq_1 a0 a1)
 refine so Tryz.func52 Tryz.ntmps52 ?_
 refine cOs (xd a0 (sg u0)) ?_
 refine dIs mixed ?_
 refine cRs (Y4.rd (UC a1 (sg u1))) ?_
 refine eIs ?_
 have c1 := sl 2326528 a0.ZX (an u0 u1)
 refine eIs ?_
 refine cRs (UP (Za.mk a0.ZO (a0.ZX ++ ([a1] : List ZG)))) ?_
 refine cF f ?_ ?_ <;> intro k2 h1 f
 ·refine cOs (xd a0 (sg u0)) ?_
  exact rtO [.cell 4 85, .tmp 5] f
 exact rtO [.cell 4 85, .tmp 5] f
theorem Su (a0 : ZF) (a1 : Int) (a2 : List ZQ) (u0 : Sm 2310144 a0) (u1 : Sm 2310144 a2) : So 68 [a0.row, rI a1, rL 5 ZQ.row a2] [(QM a0 a1 a2).1.row, rB (QM a0 a1 a2).2] := by
 have f := me (QM.eq_1 a0 a1 a2)
 refine so Tryz.func68 Tryz.ntmps68 ?_
 refine cOs (kE a0 (sg u0)) ?_
 refine cRs (Y4.rd (Vq a0 a1 (sg u0))) ?_
 refine cRs (UR a1 (Y2 a0 a1) (by simp (maxDischargeDepth := 12) [yF, Zr (m := 2318336) (by decide) u0, Zr (m := 2318336) (by decide) u1]; try omega)) ?_
 refine cRs (VL a0) ?_
 refine lp3 (Xp.eq_2 a0 a1 a2) (fun v1_0 v1_1 v1_2 => Ya 84 [eI 1 a1, eL 2 5 a2 ZQ.row, eX 3 (a0.row.map .d), (6, .one (.bptr 6 0), [.box [.d (.int .i64 0), .nil 16]]), (8, .one (.bptr 8 0), [.box [.d (.int .i64 a0.Id), .sref 16 1 0 v1_2.length]]), eL 9 1 (Y2 a0 a1) iR, eI 10 (JZ a1 (Y2 a0 a1)), eB 11 v1_0, eI 12 (↑v1_1 : Int), (16, .any, [.none, .arr false 16 (v1_2.map ZY.row)])]) (fun n1 v1_0 v1_1 v1_2 => a0.ZM.length < n1 + v1_1 ∧ v1_1 ≤ a0.ZM.length ∧ v1_2.length = a0.ZM.length) (a0.ZM.length + 1) ((Km a0) && (decide ((↑a0.ZM.length : Int) > 0))) 0 a0.ZM (fun p1 v1_0 v1_1 v1_2 e1 j1 => ?_)
 refine cF e1 ?_ ?_ <;> intro k2 h1 e1
 ·have i1 : v1_1 < a0.ZM.length := by (simp at h1; omega)
  have m2 := ml a0.ZM (k2 33 _ rfl)
  have c1 := sl 2310144 a0.ZM (an u0 u1)
  have w1 := wr v1_1
  refine dIo mixed ?_
  simp [i1, ZD]
  repeat with_reducible refine sd ?_
  refine cRs (Y4.rd (MI a1 (Y2 a0 a1) (↑v1_1 : Int) (by simp (maxDischargeDepth := 12) [yF, Zr (m := 2318336) (by decide) u0, Zr (m := 2318336) (by decide) u1]; try omega))) ?_
  refine cR (Rt (nth a0.ZM v1_1).ZL (ZG.mk (↑(nth a0.ZM v1_1).ZL.ZO.length : Int) a1 (JZ a1 (Y2 a0 a1)) (JU a1 (Y2 a0 a1) (↑v1_1 : Int)) a2) (sg (ZY.KF (Xm (ZF.Kk u0)))) (by simp (maxDischargeDepth := 12) [N8, yF, Zr (m := 2326528) (by decide) u0, Zr (m := 2326528) (by decide) u1]; try omega)) ?_
  have i2 := ik v1_1 v1_2
  simp [i2, ZD, Zp (x := (ZY.mk (nth v1_2 v1_1).Id (nth v1_2 v1_1).Y8 (nth v1_2 v1_1).Doc (nth v1_2 v1_1).Sig (JM (nth a0.ZM v1_1).ZL (ZG.mk (↑(nth a0.ZM v1_1).ZL.ZO.length : Int) a1 (JZ a1 (Y2 a0 a1)) (JU a1 (Y2 a0 a1) (↑v1_1 : Int)) a2)).1)) rfl]
  repeat with_reducible refine sd ?_
  exact ny3 w1 e1
 have c2 := sl 2310144 a0.ZM (an u0 u1)
 have f := ms f e1
 refine cGs (fun gg => (VL (ZF.mk a0.Id v1_2))) ?_
 refine cF f ?_ ?_ <;> intro k4 h2 f
 ·refine cOs (kE a0 (sg u0)) ?_
  exact rtO [.cell 6 64, .tmp 7] f
 exact rtO [.cell 6 64, .tmp 7] f
theorem XU {a b : Prop} (h : b) (k : a := by (intros; first | omega | with_unfolding_all (first | first | omega | (have z := X9 (a0 := a0) (a1 := a2) (j := v1_1) (by have z1 := h1; simp at z1; simp [z1]) (by omega); omega) | (have z := X9 (a0 := a0) (a1 := a2) (j := v2_0) (by have z1 := h1; simp at z1; simp [z1]) (by omega); omega)) | ((try simp only [yv, show ∀ x, IntKind.i64.wrap x = W x from fun _ => rfl] at *); omega))) : a ∧ b := ⟨k, h⟩
theorem NY (a0 : ZZ) (a1 : Int) (a2 : List Int) (a3 : Int) (u0 : Sm 2306048 a0) (u1 : Sm 2306048 a2) : So 18 [a0.row, rI a1, rL 1 iR a2, rI a3] [(Xj a0 a1 a2 a3).1.row, rB (Xj a0 a1 a2 a3).2] := by
 have f := me (Xj.eq_1 a0 a1 a2 a3)
 refine so Tryz.func18 Tryz.ntmps18 ?_
 refine cOs (UI a0 (sg u0)) ?_
 refine cRs (R8 a0.Frame.Methods a0.Frame.Now) ?_
 refine cRs (RN a0 a1) ?_
 refine cGs (fun gg => (HY a0 a2)) ?_
 refine cGs (fun gg => (QF a3 (-10000) 10000)) ?_
 have c1 := sl 2306048 a0.ZI (an u0 u1)
 have w1 : IntKind.i64.wrap ((a0.ZI.length : Int) - 1) = (a0.ZI.length : Int) - 1 := ZW (by omega) (by omega)
 refine cFo f ?_ ?_ <;> intro k1 h1 f
 ·have q1 := h1; try simp [Y3, w1, zR] at q1
  simp
  exact rtO [.cell 8 41, .tmp 9] f
 have q1 := h1; try simp [Y3, w1, zR] at q1
 have i1 : a1.toNat < a0.ZI.length := by first | omega | (have z := X9 (a0 := a0) (a1 := a2) (j := v1_1) (by have z1 := h1; simp at z1; simp [z1]) (by omega); omega) | (have z := X9 (a0 := a0) (a1 := a2) (j := v2_0) (by have z1 := h1; simp at z1; simp [z1]) (by omega); omega)
 simp [i1, ZD]
 repeat with_reducible refine XU ?_
 refine cRs (Ia (nth a0.ZI a1.toNat) (Yw a0.Frame.Methods a0.Frame.Now) (sg (Xm (ZZ.QO u0)))) ?_
 refine lp2 (Ja.eq_2 a0 a1 a2 a3) (fun v1_0 v1_1 => Ya 162 [eI 1 a1, eL 2 1 a2 iR, eI 3 a3, eX 4 (a0.row.map .d), (8, .one (.bptr 8 0), [.box [.nil 5, .nil 3, .nil 4, .d (.int .i64 0), .d (.int .i64 0), .nil 7, .nil 1, .nil 2, .nil 1, .nil 1, .d (.int .i64 0), .nil 1]]), (10, .one (.bptr 10 0), [.box [.sref 24 0 0 a0.Frame.YV.length, .sref 24 1 0 a0.Frame.ZC.length, .sref 24 2 0 a0.Frame.Methods.length, .d (.int .i64 a0.Frame.zN), .d (.int .i64 a0.Frame.Now), .sref 24 5 0 a0.Zy.length, .sref 24 6 0 a0.Z3.length, .sref 24 7 0 a0.ZI.length, .sref 24 8 0 a0.YZ.length, .sref 24 9 0 a0.Yl.length, .d (.int .i64 a0.Next), .sref 24 11 0 a0.Ym.length]]), eI 11 (Yw a0.Frame.Methods a0.Frame.Now), eI 12 (Jv (nth a0.ZI a1.toNat) (Yw a0.Frame.Methods a0.Frame.Now)), (13, .one (.sref 13 0 0 v1_0.length), [.arr false 5 (v1_0.map ZQ.row)]), eI 14 (↑v1_1 : Int), (24, .any, [.arr false 5 (a0.Frame.YV.map YG.row), .arr false 3 (a0.Frame.ZC.map ZJ.row), .arr false 4 (a0.Frame.Methods.map Zc.row), .none, .none, .arr false 7 (a0.Zy.map Z0.row), .arr false 1 (a0.Z3.map iR), .arr false 2 (a0.ZI.map ZF.row), .arr false 1 (a0.YZ.map iR), .arr false 1 (a0.Yl.map iR), .none, .arr false 1 (a0.Ym.map iR)])]) (fun n1 v1_0 v1_1 => a2.length < n1 + v1_1 ∧ v1_1 ≤ a2.length ∧ v1_0.length ≤ 0 + 1 * v1_1) (a2.length + 1) ([] : List ZQ) 0 (fun p1 v1_0 v1_1 e1 j1 => ?_) (h0 := Yj [((13, 0), some (59, 0))] [] rfl (by simp))
 try dsimp only at j1
 refine cFt e1 ?_ ?_ <;> intro k3 h2 e1
 ·have i2 := ix h2
  have m2 := ml a2 (k3 2 _ rfl)
  have c2 := sl 2306048 a2 (an u0 u1)
  have w2 := wr v1_1
  refine dIo mixed ?_
  simp [i2, ZD]
  repeat with_reducible refine XU ?_
  refine cRs (J4 a0.Frame.ZC (nth a2 v1_1)) ?_
  refine dIo mixed ?_
  simp [i2, ZD]
  repeat with_reducible refine XU ?_
  refine cRs (FK a0.Yl (nth a2 v1_1)) ?_
  refine cF e1 ?_ ?_ <;> intro k6 h3 e1
  ·refine cRs (DQ 0 (W (a0.Frame.Now + a3))) ?_ (hrows := by first | (simp; done) | (simp [W, w1, w2]; done))
   refine cRs (Df 10000 (UF 0 (W (a0.Frame.Now + a3)))) ?_ (hrows := by first | (simp; done) | (simp [W, w1, w2]; done))
   refine dIo mixed ?_
   have i3 : (ZU a0.Frame.ZC (nth a2 v1_1)).toNat < a0.YZ.length := by have := Xu a0.Frame.ZC (nth a2 v1_1); first | omega | (have z := X9 (a0 := a0) (a1 := a2) (j := v1_1) (by have z1 := h1; simp at z1; simp [z1]) (by omega); omega) | (have z := X9 (a0 := a0) (a1 := a2) (j := v2_0) (by have z1 := h1; simp at z1; simp [z1]) (by omega); omega)
   simp [i2, ZD, i3]
   repeat with_reducible refine XU ?_
   refine cRs (W3 a0.Frame.YV a0.Frame.ZC (ZQ.mk (nth a2 v1_1) (nth a0.YZ (ZU a0.Frame.ZC (nth a2 v1_1)).toNat) (U1 10000 (UF 0 (W (a0.Frame.Now + a3)))) (Jv (nth a0.ZI a1.toNat) (Yw a0.Frame.Methods a0.Frame.Now)) 0) (sg (YF.WV (ZZ.Qx u0))) (sg (YF.Qq (ZZ.Qx u0)))) ?_ (hrows := by first | (simp; done) | (simp [W, w1, w2]; done))
   refine cFo e1 ?_ ?_ <;> intro k8 h4 e1
   ·have q4 := h4; try simp [w1] at q4
    have f := ms f e1
    simp
    exact rtO [.cell 8 41, .tmp 9] f
   have q4 := h4; try simp [w1] at q4
   simp
   repeat with_reducible refine XU ?_
   exact nx2 e1 (hw := Yj [((13, 0), some (117, 0))] [] rfl (by simp [w1, w2]))
  refine dIo mixed ?_
  have i4 : (ZU a0.Frame.ZC (nth a2 v1_1)).toNat < a0.YZ.length := by have := Xu a0.Frame.ZC (nth a2 v1_1); first | omega | (have z := X9 (a0 := a0) (a1 := a2) (j := v1_1) (by have z1 := h1; simp at z1; simp [z1]) (by omega); omega) | (have z := X9 (a0 := a0) (a1 := a2) (j := v2_0) (by have z1 := h1; simp at z1; simp [z1]) (by omega); omega)
  simp [i2, ZD, i4]
  repeat with_reducible refine XU ?_
  refine cRs (W3 a0.Frame.YV a0.Frame.ZC (ZQ.mk (nth a2 v1_1) (nth a0.YZ (ZU a0.Frame.ZC (nth a2 v1_1)).toNat) a0.Frame.Now (Jv (nth a0.ZI a1.toNat) (Yw a0.Frame.Methods a0.Frame.Now)) 0) (sg (YF.WV (ZZ.Qx u0))) (sg (YF.Qq (ZZ.Qx u0)))) ?_
  refine cFt e1 ?_ ?_ <;> intro k10 h5 e1
  ·have f := ms f e1
   exact rtO [.cell 8 41, .tmp 9] f
  simp
  repeat with_reducible refine XU ?_
  exact nx2 e1 (hw := Yj [((13, 0), some (117, 0))] [] rfl (by simp [w1, w2]))
 have c3 := sl 2306048 a2 (an u0 u1)
 have f := ms f e1
 simp [i1, ZD]
 repeat with_reducible refine XU ?_
 refine BX [(13, 0)] rfl (by simp) ?_
 refine cRs (Su (nth a0.ZI a1.toNat) (Yw a0.Frame.Methods a0.Frame.Now) v1_0 (sg (Xm (ZZ.QO u0))) (by first | (simp (maxDischargeDepth := 12) [XS]; omega) | (simp (maxDischargeDepth := 12) [Zr (m := 2310144) (by decide) u0, Zr (m := 2310144) (by decide) u1]; done))) ?_
 refine cF f ?_ ?_ <;> intro k11 h6 f
 ·exact rtO [.cell 8 41, .tmp 9] f
 refine lp2 (zM.eq_2 a0 a2) (fun v2_0 v2_1 => Ya 162 [eI 1 a1, eL 2 1 a2 iR, eX 4 (a0.row.map .d), (8, .one (.bptr 8 0), [.box [.nil 5, .nil 3, .nil 4, .d (.int .i64 0), .d (.int .i64 0), .nil 7, .nil 1, .nil 2, .nil 1, .nil 1, .d (.int .i64 0), .nil 1]]), (10, .one (.bptr 10 0), [.box [.sref 24 0 0 a0.Frame.YV.length, .sref 24 1 0 a0.Frame.ZC.length, .sref 24 2 0 a0.Frame.Methods.length, .d (.int .i64 a0.Frame.zN), .d (.int .i64 a0.Frame.Now), .sref 24 5 0 a0.Zy.length, .sref 24 6 0 a0.Z3.length, .sref 24 7 0 a0.ZI.length, .sref 24 8 0 v2_1.length, .sref 24 9 0 a0.Yl.length, .d (.int .i64 a0.Next), .sref 24 11 0 a0.Ym.length]]), eX 19 ((QM (nth a0.ZI a1.toNat) (Yw a0.Frame.Methods a0.Frame.Now) v1_0).1.row.map .d), eI 21 (↑v2_0 : Int), (24, .any, [.arr false 5 (a0.Frame.YV.map YG.row), .arr false 3 (a0.Frame.ZC.map ZJ.row), .arr false 4 (a0.Frame.Methods.map Zc.row), .none, .none, .arr false 7 (a0.Zy.map Z0.row), .arr false 1 (a0.Z3.map iR), .arr false 2 (a0.ZI.map ZF.row), .arr false 1 (v2_1.map iR), .arr false 1 (a0.Yl.map iR), .none, .arr false 1 (a0.Ym.map iR)])]) (fun n2 v2_0 v2_1 => a2.length < n2 + v2_0 ∧ v2_0 ≤ a2.length ∧ v2_1.length = a0.YZ.length) (a2.length + 1) 0 a0.YZ (fun p2 v2_0 v2_1 e2 j2 => ?_)
 try dsimp only at j2
 refine cFt e2 ?_ ?_ <;> intro k13 h7 e2
 ·have i5 := ix h7
  have m4 := ml a2 (k13 2 _ rfl)
  have w3 := wr v2_0
  refine dIo mixed ?_
  simp [i5, ZD]
  repeat with_reducible refine XU ?_
  refine cRs (J4 a0.Frame.ZC (nth a2 v2_0)) ?_
  refine dIo mixed ?_
  have i6 : (ZU a0.Frame.ZC (nth a2 v2_0)).toNat < a0.YZ.length := by have := Xu a0.Frame.ZC (nth a2 v2_0); first | omega | (have z := X9 (a0 := a0) (a1 := a2) (j := v1_1) (by have z1 := h1; simp at z1; simp [z1]) (by omega); omega) | (have z := X9 (a0 := a0) (a1 := a2) (j := v2_0) (by have z1 := h1; simp at z1; simp [z1]) (by omega); omega)
  have i7 : (ZU a0.Frame.ZC (nth a2 v2_0)).toNat < v2_1.length := by have := Xu a0.Frame.ZC (nth a2 v2_0); first | omega | (have z := X9 (a0 := a0) (a1 := a2) (j := v1_1) (by have z1 := h1; simp at z1; simp [z1]) (by omega); omega) | (have z := X9 (a0 := a0) (a1 := a2) (j := v2_0) (by have z1 := h1; simp at z1; simp [z1]) (by omega); omega)
  simp [i6, ZD, i7, Zp (x := (W ((nth a0.YZ (ZU a0.Frame.ZC (nth a2 v2_0)).toNat) + 1))) rfl]
  repeat with_reducible refine XU ?_
  exact ny2 (an w1 w3) e2
 have f := ms f e2
 simp [i1, ZD, Zp (x := (QM (nth a0.ZI a1.toNat) (Yw a0.Frame.Methods a0.Frame.Now) v1_0).1) rfl]
 repeat with_reducible refine XU ?_
 exact rtO [.cell 8 41, .tmp 9] f
end Go.Proofs.YtjflhdkeibijaaaGreat
