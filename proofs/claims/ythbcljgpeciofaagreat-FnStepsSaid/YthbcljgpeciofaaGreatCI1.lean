/- Contracts of the functions NW the abstract machine, part I1. No condition. -/
import Derived.Test.YthbcljgpeciofaaGreatL
import Derived.Test.YthbcljgpeciofaaGreatTy
namespace Go.Proofs.YthbcljgpeciofaaGreat
open Tryz
open Go.Vm Go.Mo
set_option maxHeartbeats 1000000
set_option maxRecDepth 100000
set_option linter.unusedSimpArgs false
set_option linter.unusedVariables false
theorem yF (a0 : List Y4) (a1 : Int) : Sa 60 [rL 5 Y4.row a0, rI a1] [rI (YB a0 a1)] := by
 have f := me (YB.eq_1 a0 a1)
 refine so func60 ntmps60 ?_
 refine lp1 (xD.eq_2 a0 a1) (fun J => Yy 20 [eI 1 a1, eL 7 5 a0 Y4.row, eI 8 (a0.length : Int), eI 9 (J : Int)]) (fun n1 J => a0.length < n1 + J /\ J <= a0.length) (a0.length + 1) 0 (fun p1 J e1 j1 => ?_)
 refine cFf e1 ?_ ?_ <;> intro k2 h1 e1
 ·have i1 := ix h1
  have m2 := ml a0 (k2 7 _ rfl)
  have w1 := wr J
  simp [i1, ZE]
  refine rpS ?_
  refine cF e1 ?_ ?_ <;> intro k3 h2 e1
  ·have f := ms f e1
   exact rt [.tmp 4] f
  exact ny1 w1 e1
 have f := ms f e1
 exact rt [.tmp 4] f
theorem MJ (a0 : Zv) (u0 : Sm 2342912 a0) : Sd 120 [a0.row] [(Uk a0).row] := by
 have f := me (Uk.eq_1 a0)
 have c1 := sl 2342912 a0.Zk u0
 have c2 := sl 2342912 a0.ZD u0
 have c3 := sl 2342912 a0.Methods u0
 refine soD func120 ntmps120 ?_
 exact rtD [.cell 2 28] f
theorem P6 (a0 : Zv) (u0 : Sm 2342912 a0) : Sd 120 [a0.row] [a0.row] := by
  have h := MJ a0 u0
  rwa [NY] at h
theorem MY (a0 : List Int) (u0 : Sm 2342912 a0) : Sd 121 [rL 1 iR a0] [rL 1 iR (Tu a0)] := by
 have f := me (Tu.eq_1 a0)
 have c1 := sl 2342912 a0 u0
 refine soD func121 ntmps121 ?_
 exact rtD [.tmp 2] f
theorem Kh (a0 : List Int) (u0 : Sm 2342912 a0) : Sd 121 [rL 1 iR a0] [rL 1 iR a0] := by
  have h := MY a0 u0
  rwa [LD] at h
theorem RJ (a0 : Zd) (u0 : Sm 2338816 a0) : Sd 223 [a0.row] [(kF a0).row] := by
 have f := me (kF.eq_1 a0)
 refine soD func223 ntmps223 ?_
 refine MP [2, 3, 4, 5, 0, 1, 6, 7, 8, 9, 10] mixed (by kernel_rfl) (by kernel_rfl) (by kernel_rfl) ?_
 have c1 := sl 2338816 a0.YR u0
 simp
 refine rpS ?_
 refine cDs [false] (Kh a0.XP (sg (Zd.GM u0))) ?_
 exact rtD [.cell 2 36] f
theorem Ty (a0 : Zd) (u0 : Sm 2338816 a0) : Sd 223 [a0.row] [a0.row] := by
  have h := RJ a0 u0
  rwa [RH] at h
theorem Ng (a0 : Zf) (u0 : Sm 2338816 a0) : Sd 285 [a0.row] [(Uj a0).row] := by
 have f := me (Uj.eq_1 a0)
 refine soD func285 ntmps285 ?_
 refine cDs [false] (Kh a0.Y0 (sg (Zf.BA u0))) ?_
 exact rtD [.cell 2 176] f
theorem VT (a0 : Zf) (u0 : Sm 2338816 a0) : Sd 285 [a0.row] [a0.row] := by
  have h := Ng a0 u0
  rwa [NJ] at h
theorem OO (a0 : List Zf) (u0 : Sm 2334720 a0) : Sd 239 [rL 3 Zf.row a0] [rL 3 Zf.row (jS a0)] := by
 have f := me (jS.eq_1 a0)
 refine soD func239 ntmps239 ?_
 refine lp2 (xp.eq_2 a0) (fun J U => Yy 19 [(3, .one (.sref 3 0 0 J.length), [.arr true 3 (J.map Zf.row)]), eL 6 3 a0 Zf.row, eI 7 (a0.length : Int), eI 8 (U : Int)]) (fun n1 J U => a0.length < n1 + U /\ U <= a0.length /\ J.length <= 0 + 1 * U) (a0.length + 1) ([] : List Zf) 0 (fun p1 J U e1 j1 => ?_) (h0 := wkS [((3, 0), none)] [])
 refine cFf e1 ?_ ?_ <;> intro k2 h1 e1
 ·have i1 := ix h1
  have m2 := ml a0 (k2 6 _ rfl)
  have c1 := sl 2334720 a0 u0
  have w1 := wr U
  simp [i1, ZE]
  refine rpS ?_
  refine cDs [true, false] (VT (nth a0 U) (sg (YU u0))) ?_
  refine jG ?_
  simp
  refine kC (uC := (J.map Zf.row)) (news := (([(nth a0 U)] : List Zf).map Zf.row)) (l1 := [(3, 0)]) (l2 := [(14, 1)]) (size := 3) ?_
  simp
  exact nx2 e1 (hw := XI [((3, 0), some (16, 0))] [] rfl (by simp [w1]))
 have c2 := sl 2334720 a0 u0
 have f := ms f e1
 exact rtD [.tmp 2] f
theorem PH (a0 : List Zf) (u0 : Sm 2334720 a0) : Sd 239 [rL 3 Zf.row a0] [rL 3 Zf.row a0] := by
  have h := OO a0 u0
  rwa [Py] at h
theorem OL (a0 : List Zo) (u0 : Sm 2342912 a0) : Sd 241 [rL 5 Zo.row a0] [rL 5 Zo.row (VE a0)] := by
 have f := me (VE.eq_1 a0)
 have c1 := sl 2342912 a0 u0
 refine soD func241 ntmps241 ?_
 exact rtD [.tmp 2] f
theorem Ro (a0 : List Zo) (u0 : Sm 2342912 a0) : Sd 241 [rL 5 Zo.row a0] [rL 5 Zo.row a0] := by
  have h := OL a0 u0
  rwa [Px] at h
theorem PF (a0 : Zc) (u0 : Sm 2338816 a0) : Sd 168 [a0.row] [(WN a0).row] := by
 have f := me (WN.eq_1 a0)
 have c1 := sl 2338816 a0.Path u0
 refine soD func168 ntmps168 ?_
 refine cDs [false] (Ro a0.Xe (sg (Zc.Ex u0))) ?_
 exact rtD [.cell 2 155] f
theorem kh (a0 : Zc) (u0 : Sm 2338816 a0) : Sd 168 [a0.row] [a0.row] := by
  have h := PF a0 u0
  rwa [Ru] at h
theorem P4 (a0 : Zi) (u0 : Sm 2330624 a0) : Sd 165 [a0.row] [(jU a0).row] := by
 have f := me (jU.eq_1 a0)
 refine soD func165 ntmps165 ?_
 refine cDs [] (PH a0.ZO (sg (Zi.WX u0))) ?_
 refine lp2 (xO.eq_2 a0) (fun J U => Yy 26 [(2, .one (.bptr 2 0), [.box [.nil 3, .nil 5]]), (3, .one (.bptr 3 0), [.box [.sref 8 0 0 a0.ZO.length, .sref 3 2 0 U.length], .none, .arr true 5 (U.map Zc.row)]), (8, .any, [.arr true 3 (a0.ZO.map Zf.row)]), eL 11 5 a0.Zj Zc.row, eI 12 (a0.Zj.length : Int), eI 13 (J : Int)]) (fun n1 J U => a0.Zj.length < n1 + J /\ J <= a0.Zj.length /\ U.length <= 0 + 1 * J) (a0.Zj.length + 1) 0 ([] : List Zc) (fun p1 J U e1 j1 => ?_) (h0 := wkS [((3, 2), none)] [])
 refine cFf e1 ?_ ?_ <;> intro k2 h1 e1
 ·have i1 := ix h1
  have m2 := ml a0.Zj (k2 11 _ rfl)
  have c1 := sl 2330624 a0.Zj u0
  have w1 := wr J
  simp [i1, ZE]
  refine rpS ?_
  refine drJ [22] mixed ?_
  simp
  refine cDs [true, true, true, false, false] (kh (nth a0.Zj J) (sg (YU (Zi.j0 u0)))) ?_
  refine jG ?_
  simp
  refine kC (uC := (U.map Zc.row)) (news := (([(nth a0.Zj J)] : List Zc).map Zc.row)) (l1 := [(3, 2)]) (l2 := [(20, 3), (20, 4)]) (size := 5) ?_
  simp
  exact nx2 e1 (hw := XI [((3, 2), some (22, 0))] [] rfl (by simp [w1]))
 have c2 := sl 2330624 a0.Zj u0
 have f := ms f e1
 exact rtD [.cell 2 80] f
theorem Kl (a0 : Zi) (u0 : Sm 2330624 a0) : Sd 165 [a0.row] [a0.row] := by
  have h := P4 a0 u0
  rwa [P1] at h
theorem Mw (a0 : ZZ) (u0 : Sm 2326528 a0) : Sd 154 [a0.row] [(SA a0).row] := by
 have f := me (SA.eq_1 a0)
 refine soD func154 ntmps154 ?_
 refine cDs [true, false, false] (Ty a0.Doc (sg (ZZ.PG u0))) ?_
 refine cDs [] (Kl a0.ZM (sg (ZZ.JY u0))) ?_
 exact rtD [.cell 2 82] f
theorem zn (a0 : ZZ) (u0 : Sm 2326528 a0) : Sd 154 [a0.row] [a0.row] := by
  have h := Mw a0 u0
  rwa [Ml] at h
theorem PA (a0 : ZF) (u0 : Sm 2322432 a0) : Sd 122 [a0.row] [(qe a0).row] := by
 have f := me (qe.eq_1 a0)
 refine soD func122 ntmps122 ?_
 refine lp2 (yq.eq_2 a0) (fun J U => Yy 25 [(2, .one (.bptr 2 0), [.box [.d (.int .i64 0), .nil 16]]), (3, .one (.bptr 3 0), [.box [.d (.int .i64 a0.Id), .sref 3 2 0 U.length], .none, .arr true 16 (U.map ZZ.row)]), eL 10 16 a0.ZC ZZ.row, eI 11 (a0.ZC.length : Int), eI 12 (J : Int)]) (fun n1 J U => a0.ZC.length < n1 + J /\ J <= a0.ZC.length /\ U.length <= 0 + 1 * J) (a0.ZC.length + 1) 0 ([] : List ZZ) (fun p1 J U e1 j1 => ?_) (h0 := wkS [((3, 2), none)] [])
 refine cFf e1 ?_ ?_ <;> intro k2 h1 e1
 ·have i1 := ix h1
  have m2 := ml a0.ZC (k2 10 _ rfl)
  have c1 := sl 2322432 a0.ZC u0
  have w1 := wr J
  simp [i1, ZE]
  refine rpS ?_
  refine drJ [21] mixed ?_
  simp
  refine cDs [true, true, true, false, false] (zn (nth a0.ZC J) (sg (YU (ZF.Yn u0)))) ?_
  refine jG ?_
  simp
  refine kC (uC := (U.map ZZ.row)) (news := (([(nth a0.ZC J)] : List ZZ).map ZZ.row)) (l1 := [(3, 2)]) (l2 := [(19, 3), (19, 4), (19, 14), (19, 15)]) (size := 16) ?_
  simp
  exact nx2 e1 (hw := XI [((3, 2), some (21, 0))] [] rfl (by simp [w1]))
 have c2 := sl 2322432 a0.ZC u0
 have f := ms f e1
 exact rtD [.cell 2 85] f
theorem YL (a0 : ZF) (u0 : Sm 2322432 a0) : Sd 122 [a0.row] [a0.row] := by
  have h := PA a0 u0
  rwa [RO] at h
theorem NX (a0 : ZH) (u0 : Sm 2318336 a0) : Sd 61 [a0.row] [(kj a0).row] := by
 have f := me (kj.eq_1 a0)
 refine soD func61 ntmps61 ?_
 refine dIs mixed ?_
 have c1 := sl 2318336 a0.ZR u0
 refine cDs [false, false, false] (P6 a0.Frame (sg (ZH.XY u0))) ?_
 refine cDs [false] (Kh a0.Zu (sg (ZH.Gi u0))) ?_
 refine cDs [false] (Kh a0.YG (sg (ZH.Iu u0))) ?_
 refine cDs [false] (Kh a0.YW (sg (ZH.CV u0))) ?_
 refine cDs [false] (Kh a0.Yk (sg (ZH.Eg u0))) ?_
 refine lp2 (qX.eq_2 a0) (fun J U => Yy 44 [(2, .one (.bptr 2 0), [.box [.nil 5, .nil 3, .nil 4, .d (.int .i64 0), .d (.int .i64 0), .nil 7, .nil 1, .nil 2, .nil 1, .nil 1, .d (.int .i64 0), .nil 1]]), (3, .one (.bptr 3 0), [.box [.sref 8 0 0 a0.Frame.Zk.length, .sref 8 1 0 a0.Frame.ZD.length, .sref 8 2 0 a0.Frame.Methods.length, .d (.int .i64 a0.Frame.Ky), .d (.int .i64 a0.Frame.Now), .sref 12 0 0 a0.ZR.length, .sref 15 0 0 a0.Zu.length, .sref 3 8 0 U.length, .sref 18 0 0 a0.YG.length, .sref 21 0 0 a0.YW.length, .d (.int .i64 a0.Next), .sref 26 0 0 a0.Yk.length], .none, .none, .none, .none, .none, .none, .none, .arr true 2 (U.map ZF.row)]), (8, .any, [.arr false 5 (a0.Frame.Zk.map Y4.row), .arr false 3 (a0.Frame.ZD.map Zr.row), .arr false 4 (a0.Frame.Methods.map YH.row)]), (12, .any, [.arr false 7 (a0.ZR.map Ye.row)]), (15, .any, [.arr false 1 (a0.Zu.map iR)]), (18, .any, [.arr false 1 (a0.YG.map iR)]), (21, .any, [.arr false 1 (a0.YW.map iR)]), (26, .any, [.arr false 1 (a0.Yk.map iR)]), eL 29 2 a0.ZA ZF.row, eI 30 (a0.ZA.length : Int), eI 31 (J : Int)]) (fun n1 J U => a0.ZA.length < n1 + J /\ J <= a0.ZA.length /\ U.length <= 0 + 1 * J) (a0.ZA.length + 1) 0 ([] : List ZF) (fun p1 J U e1 j1 => ?_) (h0 := wkS [((3, 8), none)] [])
 refine cFf e1 ?_ ?_ <;> intro k3 h1 e1
 ·have i1 := ix h1
  have m2 := ml a0.ZA (k3 29 _ rfl)
  have c2 := sl 2318336 a0.ZA u0
  have w1 := wr J
  simp [i1, ZE]
  refine rpS ?_
  refine drJ [40] mixed ?_
  simp
  refine cDs [] (YL (nth a0.ZA J) (sg (YU (ZH.YX u0)))) ?_
  refine jG ?_
  simp
  refine kC (uC := (U.map ZF.row)) (news := (([(nth a0.ZA J)] : List ZF).map ZF.row)) (l1 := [(3, 8)]) (l2 := [(38, 1)]) (size := 2) ?_
  simp
  exact nx2 e1 (hw := XI [((3, 8), some (40, 0))] [] rfl (by simp [w1]))
 have c3 := sl 2318336 a0.ZA u0
 have f := ms f e1
 exact rtD [.cell 2 33] f
theorem YO (a0 : ZH) (u0 : Sm 2318336 a0) : Sd 61 [a0.row] [a0.row] := by
  have h := NX a0 u0
  rwa [O0] at h
theorem jD (a0 : List YH) (a1 : Int) : Sa 75 [rL 4 YH.row a0, rI a1] [rI (ZX a0 a1)] := by
 have f := me (ZX.eq_1 a0 a1)
 refine so func75 ntmps75 ?_
 refine lp2 (Kr.eq_2 a0 a1) (fun J U => Yy 48 [eL 0 4 a0 YH.row, eI 1 a1, eI 5 J, eL 8 4 a0 YH.row, eI 9 (a0.length : Int), eI 10 (U : Int)]) (fun n1 J U => a0.length < n1 + U /\ U <= a0.length /\ -1 <= J /\ J < (a0.length : Int)) (a0.length + 1) (-1) 0 (fun p1 J U e1 j1 => ?_)
 try dsimp only at j1
 refine cFf e1 ?_ ?_ <;> intro k2 h1 e1
 ·have i1 := ix h1
  have m2 := ml a0 (k2 0 _ rfl)
  have w1 := wr U
  simp [i1, ZE]
  refine rpS ?_
  refine dIs mixed ?_
  refine gIf ?_ ?_ <;> intro G
  ·have i2 := ik J.toNat a0
   simp [i2, ZE, G]
   refine rpG ?_
   refine cK e1 ?_ ?_ <;> intro k4 h2 e1
   ·exact ny2 (an w1 G) e1 (hI := by first | omega | (simp at *; omega))
   ·exact ny2 (an w1 G) e1 (hI := by first | omega | (simp at *; omega))
  ·refine cK e1 ?_ ?_ <;> intro k5 h3 e1
   ·exact ny2 (an w1 G) e1 (hI := by first | omega | (simp at *; omega))
   ·exact ny2 (an w1 G) e1 (hI := by first | omega | (simp at *; omega))
 have f := ms f e1
 refine cFt f ?_ ?_ <;> intro k6 h4 f
 ·exact rt [.tmp 4] f
 have i4 := ik J.toNat a0
 simp [i4, ZE]
 refine rpS ?_
 exact rt [.tmp 4] f
theorem Zt (a0 : Int) (a1 : Int) (a2 : Int) : Sa 64 [rI a0, rI a1, rI a2] [rB (Za a0 a1 a2)] := by
 have f := me (Za.eq_1 a0 a1 a2)
 refine so func64 ntmps64 ?_
 exact rt [.tmp 6] f
theorem Kn (a0 : ZH) (a1 : Int) : Sa 76 [a0.row, rI a1] [rB (Z6 a0 a1)] := by
 have f := me (Z6.eq_1 a0 a1)
 refine so func76 ntmps76 ?_
 refine cRs (Zt a1 0 (W ((a0.ZA.length : Int) - 1))) ?_
 exact rt [.tmp 4] f
theorem VV (a0 : Zd) : Sa 170 [a0.row] [rB (KI a0)] := by
 have f := me (KI.eq_1 a0)
 refine so func170 ntmps170 ?_
 refine cRs (Zt a0.yS 0 999) ?_
 refine cGs (fun gg => (Zt (a0.YR.length : Int) 1 6)) ?_
 refine cFo f ?_ ?_ <;> intro k1 h1 f
 ·have q1 := h1; try simp [Za] at q1
  simp
  exact rt [.tmp 2] f
 have q1 := h1; try simp [Za] at q1
 simp
 refine lp1 (Ks.eq_2 a0) (fun J => Yy 46 [eX 1 (a0.row.map .d), eL 26 1 a0.YR sR, eI 27 (a0.YR.length : Int), eI 28 (J : Int)]) (fun n1 J => a0.YR.length < n1 + J /\ J <= a0.YR.length) (a0.YR.length + 1) 0 (fun p1 J e1 j1 => ?_)
 refine cFf e1 ?_ ?_ <;> intro k3 h2 e1
 ·have i1 := ix h2
  have m2 := ml a0.YR (k3 26 _ rfl)
  have w1 := wr J
  simp [i1, ZE]
  refine rpS ?_
  refine gIf ?_ ?_ <;> intro G
  ·have i2 := ik J a0.XP
   simp [i2, ZE, G]
   refine rpG ?_
   refine cGg (fun gg => (Zt (nth a0.XP J) 1 1000000000000)) ?_
   refine cKo e1 ?_ ?_ <;> intro k4 h3 e1
   ·have q3 := h3; try simp [Za] at q3
    have f := ms f e1
    simp [G]
    refine rpG ?_
    exact rtg [.tmp 2] f
   ·have q3 := h3; try simp [Za] at q3
    simp [G]
    refine rpG ?_
    exact ny1 (an w1 G) e1
  ·refine sGo ?_
   simp [G]
   refine rpG ?_
   refine cKo e1 ?_ ?_ <;> intro k5 h4 e1
   ·have q4 := h4; try simp [Za] at q4
    have f := ms f e1
    simp [G]
    refine rpG ?_
    exact rtg [.tmp 2] f
   ·simp [G] at h4
 have f := ms f e1
 exact rt [.tmp 2] f
theorem Ip (a0 : List UInt8) (u0 : Sm 2342912 a0) : Sd 243 [rL 1 bR a0] [rL 1 iR (qH a0)] := by
 have f := me (qH.eq_1 a0)
 refine soD func243 ntmps243 ?_
 refine lp2 (zy.eq_2 a0) (fun J U => Yy 19 [(3, .one (.sref 3 0 0 J.length), [.arr false 1 (J.map iR)]), eL 6 1 a0 bR, eI 7 (a0.length : Int), eI 8 (U : Int)]) (fun n1 J U => a0.length < n1 + U /\ U <= a0.length /\ J.length <= 0 + 1 * U) (a0.length + 1) ([] : List Int) 0 (fun p1 J U e1 j1 => ?_) (h0 := wkS [((3, 0), none)] [])
 refine cFf e1 ?_ ?_ <;> intro k2 h1 e1
 ·have i1 := ix h1
  have m2 := ml a0 (k2 6 _ rfl)
  have c1 := sl 2342912 a0 u0
  have w1 := wr U
  simp [i1, ZE]
  refine rpS ?_
  exact nx2 e1 (hw := XI [((3, 0), some (16, 0))] [] rfl (by simp [w1]))
 have c2 := sl 2342912 a0 u0
 have f := ms f e1
 exact rtD [.tmp 2] f
theorem Dv (a0 : Int) (a1 : Int) : Sa 300 [rI a0, rI a1] [rI (GH a0 a1)] := by
 have f := me (GH.eq_1 a0 a1)
 refine so func300 ntmps300 ?_
 refine cRs (Zt a1 1 1000000000000) ?_
 refine cFo f ?_ ?_ <;> intro k1 h1 f
 ·have q1 := h1; try simp [Za] at q1
  simp
  exact rt [.tmp 4] f
 have q1 := h1; try simp [Za] at q1
 simp
 refine rpS ?_
 exact rt [.tmp 4] f
theorem Lr (a0 : List Int) : Sa 244 [rL 1 iR a0] [rI (PC a0)] := by
 have f := me (PC.eq_1 a0)
 refine so func244 ntmps244 ?_
 refine lp2 (Ul.eq_2 a0) (fun J U => Yy 21 [eI 3 J, eL 6 1 a0 iR, eI 7 (a0.length : Int), eI 8 (U : Int)]) (fun n1 J U => a0.length < n1 + U /\ U <= a0.length) (a0.length + 1) 11 0 (fun p1 J U e1 j1 => ?_)
 refine cFf e1 ?_ ?_ <;> intro k2 h1 e1
 ·have i1 := ix h1
  have m2 := ml a0 (k2 6 _ rfl)
  have w1 := wr U
  simp [i1, ZE]
  refine rpS ?_
  refine cRs (Dv (nth a0 U) 2147483647) ?_
  exact ny2 w1 e1
 have f := ms f e1
 exact rt [.tmp 2] f
theorem JR (a0 : Int) (a1 : List Int) (u0 : Sm 68719476736 a1) : Sa 172 [rI a0, rL 1 iR a1] [rI (JE a0 a1)] := by
 have f := me (JE.eq_1 a0 a1)
 have c1 := sl 68719476736 a1 u0
 refine so func172 ntmps172 ?_
 refine cRs (Lr (([7, a0] : List Int) ++ a1)) ?_
 exact rt [.tmp 4] f
theorem ON (a0 : Int) (a1 : ByteArray) (a2 : Int) (u0 : Sm 2326528 a1) : Sa 171 [rI a0, rS a1, rI a2] [rI (xX a0 a1 a2)] := by
 have f := me (xX.eq_1 a0 a1 a2)
 refine so func171 ntmps171 ?_
 have c1 : a1.size <= 2326528 := Ia (xs u0)
 refine BG (s := a1) rfl rfl rfl (by simp) (by simp) (by simp) (by simp) (by omega) ?_
 simp
 refine cRs (YP.rd (Ip a1.data.toList (by simp [XO]; first | omega | (simp [ByteArray.size] at *; omega)))) ?_
 refine cRs (JR a0 (([a2] : List Int) ++ (qH a1.data.toList)) (by simp (maxDischargeDepth := 12) [Jz, XO, Zb (m := 68719476736) (by decide) u0]; try omega)) ?_
 exact rt [.tmp 6] f
theorem xf (a0 : Int) (a1 : Zd) (u0 : Sm 2322432 a1) : Sa 98 [rI a0, a1.row] [rI (YN a0 a1)] := by
 have f := me (YN.eq_1 a0 a1)
 refine so func98 ntmps98 ?_
 refine cRs (VV a1) ?_
 refine cF f ?_ ?_ <;> intro k1 h1 f
 ·exact rt [.tmp 4] f
 refine lp2 (ya.eq_2 a0 a1) (fun J U => Yy 37 [eI 0 a0, eX 3 (a1.row.map .d), (5, .one (.sref 5 0 0 J.length), [.arr false 1 (J.map iR)]), eL 15 1 a1.YR sR, eI 16 (a1.YR.length : Int), eI 17 (U : Int)]) (fun n1 J U => a1.YR.length < n1 + U /\ U <= a1.YR.length /\ J.length <= 1 + 1 * U) (a1.YR.length + 1) ([a1.yS] : List Int) 0 (fun p1 J U e1 j1 => ?_) (h0 := wkS [((5, 0), some (13, 0))] [])
 try dsimp only at j1
 refine cFf e1 ?_ ?_ <;> intro k3 h2 e1
 ·have i1 := ix h2
  have m2 := ml a1.YR (k3 15 _ rfl)
  have c1 := sl 2322432 a1.YR u0
  have w1 := wr U
  have i2 : U < a1.XP.length := by (have := Rc (a := a1); first | (simp_all; done) | (simp_all; omega))
  simp [i1, ZE, i2]
  refine rpS ?_
  refine cRs (ON a0 (nth a1.YR U) (nth a1.XP U) (sg (YU (Zd.Um u0)))) ?_
  exact nx2 e1 (hw := XI [((5, 0), some (32, 0))] [] rfl (by simp [w1]))
 have c2 := sl 2322432 a1.YR u0
 have f := ms f e1
 refine cRs (JR a0 J (by first | (simp (maxDischargeDepth := 12) [XO]; omega) | (simp (maxDischargeDepth := 12) [Zb (m := 68719476736) (by decide) u0]; done))) ?_
 exact rt [.tmp 4] f
theorem jv (a0 : Zm) : Sd 205 [a0.row] [rL 1 iR (Xf a0)] := by
 have f := me (Xf.eq_1 a0)
 refine soD func205 ntmps205 ?_
 exact rtD [.tmp 2] f
theorem NU (a0 : Int) (a1 : List Int) (u0 : Sm 2330624 a1) : Sa 284 [rI a0, rL 1 iR a1] [rI (qm a0 a1)] := by
 have f := me (qm.eq_1 a0 a1)
 have c1 := sl 2330624 a1 u0
 refine so func284 ntmps284 ?_
 refine cRs (Lr ((([a0] : List Int) ++ a1) ++ ([a0] : List Int))) ?_
 exact rt [.tmp 4] f
theorem LV (a0 : Y4) (a1 : List Int) (u0 : Sm 2326528 a1) : Sa 216 [a0.row, rL 1 iR a1] [rI (kE a0 a1)] := by
 have f := me (kE.eq_1 a0 a1)
 refine so func216 ntmps216 ?_
 refine MP [2, 3, 4, 5, 6, 0, 1, 7, 8] mixed (by kernel_rfl) (by kernel_rfl) (by kernel_rfl) ?_
 have c1 := sl 2326528 a1 u0
 simp
 refine rpS ?_
 refine cRs (NU a0.jC (([a0.Method] : List Int) ++ a1) (by simp (maxDischargeDepth := 12) [Jz, XO, Zb (m := 2330624) (by decide) u0]; try omega)) ?_
 exact rt [.tmp 4] f
theorem kl (a0 : List Y4) (a1 : Int) (a2 : List Int) (u0 : Sm 2322432 a0) (u1 : Sm 2322432 a2) : Sa 143 [rL 5 Y4.row a0, rI a1, rL 1 iR a2] [rI (KD a0 a1 a2).1, rB (KD a0 a1 a2).2] := by
 have f := me (KD.eq_1 a0 a1 a2)
 refine so func143 ntmps143 ?_
 refine cRs (yF a0 a1) ?_
 refine cFt f ?_ ?_ <;> intro k1 h1 f
 ·exact rt [.tmp 6, .tmp 7] f
 have i1 : (YB a0 a1).toNat < a0.length := by have := xl a0 a1; exact il
 simp [i1, ZE]
 refine rpS ?_
 refine cRs (LV (nth a0 (YB a0 a1).toNat) a2 (sg u1)) ?_
 exact rt [.tmp 6, .tmp 7] f
theorem RM (a0 : Zm) : Sa 206 [a0.row] [rB (yX a0)] := by
 have f := me (yX.eq_1 a0)
 refine so func206 ntmps206 ?_
 refine cRs (Zt a0.Key 1 99) ?_
 refine cGs (fun gg => (Zt a0.ZV 1 999)) ?_
 refine cGs (fun gg => (Zt a0.Method 0 99)) ?_
 refine cGs (fun gg => (Zt a0.Org 0 99)) ?_
 refine cGs (fun gg => (Zt a0.y6 1 3)) ?_
 refine cGs (fun gg => (Zt a0.XJ 0 1000000000000)) ?_
 refine cGs (fun gg => (Zt a0.y1 0 1000000000000)) ?_
 refine cGs (fun gg => (Zt a0.j6 0 1000000000000)) ?_
 exact rt [.tmp 2] f
theorem OY (a0 : List Y4) (a1 : Zm) (u0 : Sm 2318336 a0) : Sa 123 [rL 5 Y4.row a0, a1.row] [(Ys a0 a1).1.row, rB (Ys a0 a1).2] := by
 have f := me (Ys.eq_1 a0 a1)
 refine so func123 ntmps123 ?_
 refine dIs mixed ?_
 refine cRs (YP.rd (jv a1)) ?_
 refine cRs (kl a0 a1.Key (Xf a1) (sg u0) (by simp (maxDischargeDepth := 12) [kA, Zb (m := 2322432) (by decide) u0]; try omega)) ?_
 refine cRs (RM a1) ?_
 refine cF f ?_ ?_ <;> intro k2 h1 f
 ·exact rt [.cell 4 76, .tmp 5] f
 exact rt [.cell 4 76, .tmp 5] f
theorem Uf (a0 : Zm) : Sd 124 [a0.row] [(X5 a0).row] := by
 have f := me (X5.eq_1 a0)
 refine soD func124 ntmps124 ?_
 refine dIs mixed ?_
 refine cDs [false] (jv a0) ?_
 exact rtD [.cell 2 176] f
theorem TM (a0 : Ye) : Sd 133 [a0.row] [rL 1 iR (KY a0)] := by
 have f := me (KY.eq_1 a0)
 refine soD func133 ntmps133 ?_
 exact rtD [.tmp 2] f
theorem O4 (a0 : Ye) : Sd 125 [a0.row] [(Qh a0).row] := by
 have f := me (Qh.eq_1 a0)
 refine soD func125 ntmps125 ?_
 refine dIs mixed ?_
 refine cDs [false] (TM a0) ?_
 exact rtD [.cell 2 176] f
theorem yh (a0 : ZF) (a1 : Int) : Sa 92 [a0.row, rI a1] [rI (ZU a0 a1)] := by
 have f := me (ZU.eq_1 a0 a1)
 refine so func92 ntmps92 ?_
 refine lp1 (KG.eq_2 a0 a1) (fun J => Yy 21 [eI 1 a1, eL 8 16 a0.ZC ZZ.row, eI 9 (a0.ZC.length : Int), eI 10 (J : Int)]) (fun n1 J => a0.ZC.length < n1 + J /\ J <= a0.ZC.length) (a0.ZC.length + 1) 0 (fun p1 J e1 j1 => ?_)
 refine cFf e1 ?_ ?_ <;> intro k2 h1 e1
 ·have i1 := ix h1
  have m2 := ml a0.ZC (k2 8 _ rfl)
  have w1 := wr J
  simp [i1, ZE]
  refine rpS ?_
  refine cF e1 ?_ ?_ <;> intro k3 h2 e1
  ·have f := ms f e1
   exact rt [.tmp 4] f
  exact ny1 w1 e1
 have f := ms f e1
 exact rt [.tmp 4] f
theorem K0 (a0 : Int) : Sa 130 [rI a0] [rB (Kd a0)] := by
 have f := me (Kd.eq_1 a0)
 refine so func130 ntmps130 ?_
 refine cRs (Zt a0 0 10000) ?_
 exact rt [.tmp 2] f
theorem Ko (a0 : List Int) (a1 : List Int) : Sa 72 [rL 1 iR a0, rL 1 iR a1] [rB (J8 a0 a1)] := by
 have f := me (J8.eq_1 a0 a1)
 refine so func72 ntmps72 ?_
 refine cF f ?_ ?_ <;> intro k1 h1 f
 ·exact rt [.tmp 4] f
 refine lp1 (qb.eq_2 a0 a1) (fun J => Yy 26 [eL 0 1 a0 iR, eL 1 1 a1 iR, eI 12 (a0.length : Int), eI 13 (J : Int)]) (fun n1 J => a0.length < n1 + J /\ J <= a0.length) (a0.length + 1) 0 (fun p1 J e1 j1 => ?_)
 refine cF e1 ?_ ?_ <;> intro k3 h2 e1
 ·have i1 := ix h2
  have m2 := ml a0 (k3 0 _ rfl)
  have w1 := wr J
  refine dIo mixed ?_
  have i2 := ik J a1
  simp [i1, ZE, i2]
  refine rpS ?_
  refine cF e1 ?_ ?_ <;> intro k5 h3 e1
  ·have f := ms f e1
   exact rt [.tmp 4] f
  exact ny1 w1 e1
 have f := ms f e1
 exact rt [.tmp 4] f
theorem qC (a0 : Zf) (a1 : Zf) : Sa 211 [a0.row, a1.row] [rB (JQ a0 a1)] := by
 have f := me (JQ.eq_1 a0 a1)
 refine so func211 ntmps211 ?_
 refine cGs (fun gg => (Ko a0.Y0 a1.Y0)) ?_
 exact rt [.tmp 4] f
theorem LF (a0 : List Zf) (a1 : Zf) : Sa 242 [rL 3 Zf.row a0, a1.row] [rB (jq a0 a1)] := by
 have f := me (jq.eq_1 a0 a1)
 refine so func242 ntmps242 ?_
 refine lp1 (jK.eq_2 a0 a1) (fun J => Yy 17 [eX 3 (a1.row.map .d), eL 7 3 a0 Zf.row, eI 8 (a0.length : Int), eI 9 (J : Int)]) (fun n1 J => a0.length < n1 + J /\ J <= a0.length) (a0.length + 1) 0 (fun p1 J e1 j1 => ?_)
 refine cFf e1 ?_ ?_ <;> intro k2 h1 e1
 ·have i1 := ix h1
  have m2 := ml a0 (k2 7 _ rfl)
  have w1 := wr J
  simp [i1, ZE]
  refine rpS ?_
  refine cRs (qC (nth a0 J) a1) ?_
  refine cF e1 ?_ ?_ <;> intro k3 h2 e1
  ·have f := ms f e1
   exact rt [.tmp 4] f
  exact ny1 w1 e1
 have f := ms f e1
 exact rt [.tmp 4] f
theorem ku (a0 : Zi) : Sa 169 [a0.row] [rB (Xp a0)] := by
 have f := me (Xp.eq_1 a0)
 refine so func169 ntmps169 ?_
 refine cRs (Zt (a0.ZO.length : Int) 1 12) ?_
 refine cFo f ?_ ?_ <;> intro k1 h1 f
 ·have q1 := h1; try simp [Za] at q1
  simp
  exact rt [.tmp 2] f
 have q1 := h1; try simp [Za] at q1
 simp
 refine lp1 (z7.eq_2 a0) (fun J => Yy 65 [eX 1 (a0.row.map .d), eL 19 3 a0.ZO Zf.row, eI 20 (a0.ZO.length : Int), eI 21 (J : Int)]) (fun n1 J => a0.ZO.length < n1 + J /\ J <= a0.ZO.length) (a0.ZO.length + 1) 0 (fun p1 J e1 j1 => ?_)
 refine cFf e1 ?_ ?_ <;> intro k3 h2 e1
 ·have i1 := ix h2
  have m2 := ml a0.ZO (k3 19 _ rfl)
  have w1 := wr J
  simp [i1, ZE]
  refine rpS ?_
  refine dIs mixed ?_
  refine cRs (LF (a0.ZO.take J) (nth a0.ZO J)) ?_
  refine cF e1 ?_ ?_ <;> intro k5 h3 e1
  ·have f := ms f e1
   exact rt [.tmp 2] f
  exact ny1 w1 e1
 have f := ms f e1
 refine lp1 (yK.eq_2 a0) (fun uE => Yy 65 [eX 1 (a0.row.map .d), eL 34 5 a0.Zj Zc.row, eI 35 (a0.Zj.length : Int), eI 36 (uE : Int)]) (fun n2 uE => a0.Zj.length < n2 + uE /\ uE <= a0.Zj.length) (a0.Zj.length + 1) 0 (fun p2 uE e2 j2 => ?_)
 refine cFf e2 ?_ ?_ <;> intro k7 h4 e2
 ·have i2 := ix h4
  have m4 := ml a0.Zj (k7 34 _ rfl)
  have w2 := wr uE
  simp [i2, ZE]
  refine rpS ?_
  refine dIs mixed ?_
  refine cRs (Zt (nth a0.Zj uE).Count 1 (a0.ZO.length : Int)) ?_
  refine gIf ?_ ?_ <;> intro G
  ·have i3 := ik (uE - 1) a0.Zj
   have w3 : IntKind.i64.wrap ((uE : Int) - 1) = (uE : Int) - 1 := Yg (by omega) (by omega)
   simp [i3, ZE, w3, KM, G]
   refine rpG ?_
   refine cKo e2 ?_ ?_ <;> intro k9 h5 e2
   ·have q5 := h5; try simp [Za] at q5
    have f := ms f e2
    simp [G]
    refine rpG ?_
    exact rtg [.tmp 2] f
   ·have q5 := h5; try simp [Za] at q5
    simp [G]
    refine rpG ?_
    exact ny1 (an w2 (an w3 G)) e2
  ·refine cKo e2 ?_ ?_ <;> intro np h6 e2
   ·have q6 := h6; try simp [Za] at q6
    have f := ms f e2
    simp [G]
    refine rpG ?_
    exact rtg [.tmp 2] f
   ·have q6 := h6; try simp [Za] at q6
    simp [G]
    refine rpG ?_
    exact ny1 (an w2 G) e2
 have f := ms f e2
 exact rt [.tmp 2] f
theorem PU (a0 : ZZ) : Sa 135 [a0.row] [rB (JF a0)] := by
 have f := me (JF.eq_1 a0)
 refine so func135 ntmps135 ?_
 refine dIs mixed ?_
 refine cRs (Zt a0.Id 1 999) ?_
 refine cGs (fun gg => (K0 a0.Y9)) ?_
 refine cGs (fun gg => (VV a0.Doc)) ?_
 refine cGs (fun gg => (ku a0.ZM)) ?_
 refine gIf ?_ ?_ <;> intro G
 ·have sv := G
  have g1 := G; try simp [Za] at g1
  have i1 : 0 < a0.ZM.ZO.length := by have := Nc (a := a0.ZM); simp_all
  simp [i1, ZE, G]
  refine rpG ?_
  refine cGg (fun gg => YP.rd (Uf a0.Sig)) ?_
  refine cGg (fun gg => (qC (nth a0.ZM.ZO 0) (X5 a0.Sig))) ?_
  exact rtg [.tmp 2] f
 ·have sv := G
  refine sGo ?_
  simp [G]
  refine rpG ?_
  refine sGo ?_
  simp [G]
  refine rpG ?_
  exact rtg [.tmp 2] f
theorem Kw (a0 : ZF) : Sa 68 [a0.row] [rB (YC a0)] := by
 have f := me (YC.eq_1 a0)
 refine so func68 ntmps68 ?_
 refine lp1 (zR.eq_2 a0) (fun J => Yy 42 [eX 1 (a0.row.map .d), eL 6 16 a0.ZC ZZ.row, eI 7 (a0.ZC.length : Int), eI 8 (J : Int)]) (fun n1 J => a0.ZC.length < n1 + J /\ J <= a0.ZC.length) (a0.ZC.length + 1) 0 (fun p1 J e1 j1 => ?_)
 refine cFf e1 ?_ ?_ <;> intro k2 h1 e1
 ·have i1 := ix h1
  have m2 := ml a0.ZC (k2 6 _ rfl)
  have w1 := wr J
  simp [i1, ZE]
  refine rpS ?_
  refine dIs mixed ?_
  refine cRs (PU (nth a0.ZC J)) ?_
  refine gIf ?_ ?_ <;> intro G
  ·have i2 := ik (J - 1) a0.ZC
   have w2 : IntKind.i64.wrap ((J : Int) - 1) = (J : Int) - 1 := Yg (by omega) (by omega)
   simp [i2, ZE, w2, KM, G]
   refine rpG ?_
   refine cK e1 ?_ ?_ <;> intro k4 h2 e1
   ·have f := ms f e1
    exact rtg [.tmp 2] f
   ·exact ny1 (an w1 (an w2 G)) e1
  ·refine cK e1 ?_ ?_ <;> intro k5 h3 e1
   ·have f := ms f e1
    exact rtg [.tmp 2] f
   ·exact ny1 (an w1 G) e1
 have f := ms f e1
 refine cRs (Zt a0.Id 0 99) ?_
 exact rt [.tmp 2] f
theorem Sn (a0 : ZF) (a1 : ZZ) (u0 : Sm 2318336 a0) (u1 : Sm 2318336 a1) : Sd 126 [a0.row, a1.row] [(YI a0 a1).1.row, rB (YI a0 a1).2] := by
 have f := me (YI.eq_1 a0 a1)
 refine soD func126 ntmps126 ?_
 refine cRs (yh a0 a1.Id) ?_
 refine cGs (fun gg => (Kw a0)) ?_
 refine cF f ?_ ?_ <;> intro k1 h1 f
 ·refine cDs [] (YL a0 (sg u0)) ?_
  exact rtD [.cell 4 85, .tmp 5] f
 refine cDs [] (YL a0 (sg u0)) ?_
 refine lp1 (Yx.eq_2 a0 a1) (fun J => Yy 62 [eX 2 (a0.row.map .d), eX 3 (a1.row.map .d), (4, .one (.bptr 4 0), [.box [.d (.int .i64 0), .nil 16]]), (6, .one (.bptr 6 0), [.box [.d (.int .i64 a0.Id), .sref 21 1 0 a0.ZC.length]]), eI 7 (J : Int), (21, .any, [.none, .arr true 16 (a0.ZC.map ZZ.row)])]) (fun n1 J => a0.ZC.length < n1 + J /\ J <= a0.ZC.length) (a0.ZC.length + 1) 0 (fun p1 J e1 j1 => ?_)
 refine dIs mixed ?_
 refine gIf ?_ ?_ <;> intro G
 ·have i1 := ik J a0.ZC
  simp [i1, ZE, G]
  refine rpG ?_
  refine cK e1 ?_ ?_ <;> intro k4 h2 e1
  ·try (simp [G] at h2; done)
   all_goals
    have i2 : J < a0.ZC.length := by (simp at h2; omega)
    have m2 := ml a0.ZC (k4 24 _ rfl)
    have c1 := sl 2318336 a0.ZC (an u0 u1)
    have w1 := wr J
    exact ny1 (an w1 G) e1
  ·try (simp [G] at h2; done)
   all_goals
    have c2 := sl 2318336 a0.ZC (an u0 u1)
    have f := ms f e1
    refine xv [(3, 3), (6, 6), (41, 6), (50, 6), (55, 6)] [] [45, 49, 54] mixed (by kernel_rfl) (by kernel_rfl) (by kernel_rfl) (by kernel_rfl) (by kernel_rfl) (by kernel_rfl) (by kernel_rfl) ?_
    simp [G]
    refine rpG ?_
    refine jG ?_
    simp [G]
    refine rpG ?_
    refine C4 (uC := (([] : List ZZ).map ZZ.row)) (rows := (a0.ZC.map ZZ.row)) (news := ((a0.ZC.take J).map ZZ.row)) (l1 := [(40, 0)]) (size := 16) (u := 21) (j := 1) (lo := 0) (n := J) rfl rfl rfl rfl (by simp) (by simp) (by simp) (by simp) (by simp) (by simp) (by first | omega | (simp; omega)) (by simp [cut]) (by simp) (by first | omega | (simp; omega)) ?_
    simp [G]
    refine rpG ?_
    refine cDg [true, true, true, false, false] (zn a1 (sg u1)) ?_
    refine jG ?_
    have c3 := sl 2318336 (a0.ZC.take J) (an u0 u1)
    simp [G]
    refine rpG ?_
    refine kC (uC := ((a0.ZC.take J).map ZZ.row)) (news := (([a1] : List ZZ).map ZZ.row)) (l1 := [(45, 0)]) (l2 := [(47, 3), (47, 4), (47, 14), (47, 15)]) (size := 16) ?_
    simp [G]
    refine rpG ?_
    refine C4 (uC := (((a0.ZC.take J) ++ ([a1] : List ZZ)).map ZZ.row)) (rows := (QS (a0.ZC.map ZZ.row) 0 J)) (news := ((a0.ZC.drop J).map ZZ.row)) (l1 := [(49, 0)]) (size := 16) (u := 21) (j := 1) (lo := J) (n := (a0.ZC.length - J)) rfl rfl rfl rfl (by simp) (by simp) (by simp) (by simp) (by simp) (by simp) (by rw [zq (by first | omega | (simp; omega))]; first | omega | (simp; omega)) ((Po (by first | omega | (simp; omega)) (by first | omega | (simp; omega))).trans (Uc _ _ _)) (by simp) (by first | omega | (simp; omega)) ?_
    simp [G]
    refine rpG ?_
    refine cRg (Kw (ZF.mk a0.Id (((a0.ZC.take J) ++ ([a1] : List ZZ)) ++ (a0.ZC.drop J)))) ?_
    refine cK f ?_ ?_ <;> intro k6 h3 f
    ·try (simp [G] at h3; done)
     all_goals
      refine cDg [] (YL a0 (sg u0)) ?_
      exact Q6 [.cell 4 85, .tmp 5] f
    ·try (simp [G] at h3; done)
     all_goals
      exact Q6 [.cell 4 85, .tmp 5] f
 ·refine cK e1 ?_ ?_ <;> intro k7 h4 e1
  ·try (simp [G] at h4; done)
   all_goals
    have i4 : J < a0.ZC.length := by (simp at h4; omega)
    have m4 := ml a0.ZC (k7 24 _ rfl)
    have c4 := sl 2318336 a0.ZC (an u0 u1)
    have w2 := wr J
    exact ny1 (an w2 G) e1
  ·try (simp [G] at h4; done)
   all_goals
    have c5 := sl 2318336 a0.ZC (an u0 u1)
    have f := ms f e1
    refine xv [(3, 3), (6, 6), (41, 6), (50, 6), (55, 6)] [] [45, 49, 54] mixed (by kernel_rfl) (by kernel_rfl) (by kernel_rfl) (by kernel_rfl) (by kernel_rfl) (by kernel_rfl) (by kernel_rfl) ?_
    simp [G]
    refine rpG ?_
    refine jG ?_
    simp [G]
    refine rpG ?_
    refine C4 (uC := (([] : List ZZ).map ZZ.row)) (rows := (a0.ZC.map ZZ.row)) (news := ((a0.ZC.take J).map ZZ.row)) (l1 := [(40, 0)]) (size := 16) (u := 21) (j := 1) (lo := 0) (n := J) rfl rfl rfl rfl (by simp) (by simp) (by simp) (by simp) (by simp) (by simp) (by first | omega | (simp; omega)) (by simp [cut]) (by simp) (by first | omega | (simp; omega)) ?_
    simp [G]
    refine rpG ?_
    refine cDg [true, true, true, false, false] (zn a1 (sg u1)) ?_
    refine jG ?_
    have c6 := sl 2318336 (a0.ZC.take J) (an u0 u1)
    simp [G]
    refine rpG ?_
    refine kC (uC := ((a0.ZC.take J).map ZZ.row)) (news := (([a1] : List ZZ).map ZZ.row)) (l1 := [(45, 0)]) (l2 := [(47, 3), (47, 4), (47, 14), (47, 15)]) (size := 16) ?_
    simp [G]
    refine rpG ?_
    refine C4 (uC := (((a0.ZC.take J) ++ ([a1] : List ZZ)).map ZZ.row)) (rows := (QS (a0.ZC.map ZZ.row) 0 J)) (news := ((a0.ZC.drop J).map ZZ.row)) (l1 := [(49, 0)]) (size := 16) (u := 21) (j := 1) (lo := J) (n := (a0.ZC.length - J)) rfl rfl rfl rfl (by simp) (by simp) (by simp) (by simp) (by simp) (by simp) (by rw [zq (by first | omega | (simp; omega))]; first | omega | (simp; omega)) ((Po (by first | omega | (simp; omega)) (by first | omega | (simp; omega))).trans (Uc _ _ _)) (by simp) (by first | omega | (simp; omega)) ?_
    simp [G]
    refine rpG ?_
    refine cRg (Kw (ZF.mk a0.Id (((a0.ZC.take J) ++ ([a1] : List ZZ)) ++ (a0.ZC.drop J)))) ?_
    refine cK f ?_ ?_ <;> intro k9 h5 f
    ·try (simp [G] at h5; done)
     all_goals
      refine cDg [] (YL a0 (sg u0)) ?_
      exact Q6 [.cell 4 85, .tmp 5] f
    ·try (simp [G] at h5; done)
     all_goals
      exact Q6 [.cell 4 85, .tmp 5] f
theorem TO (a0 : ZH) (a1 : Int) (a2 : Int) (a3 : Zd) (a4 : Int) (a5 : Int) (u0 : Sm 2314240 a0) (u1 : Sm 2314240 a3) : Sa 62 [a0.row, rI a1, rI a2, a3.row, rI a4, rI a5] [(Qk a0 a1 a2 a3 a4 a5).1.row, rB (Qk a0 a1 a2 a3 a4 a5).2] := by
 have f := me (Qk.eq_1 a0 a1 a2 a3 a4 a5)
 refine so func62 ntmps62 ?_
 refine cRs (jD a0.Frame.Methods a0.Frame.Now) ?_
 refine cRs (Kn a0 a1) ?_
 refine cGs (fun gg => (yF a0.Frame.Zk a2)) ?_
 have c1 := sl 2314240 a0.ZA (an u0 u1)
 have w1 : IntKind.i64.wrap ((a0.ZA.length : Int) - 1) = (a0.ZA.length : Int) - 1 := Yg (by omega) (by omega)
 refine cFo f ?_ ?_ <;> intro k1 h1 f
 ·have q1 := h1; try simp [w1, Z6, Za] at q1
  simp
  exact rt [.cell 12 33, .tmp 13] f
 have q1 := h1; try simp [w1, Z6, Za] at q1
 simp
 refine lp1 (QP.eq_2 a0 a1 a2 a3 a4 a5) (fun J => Yy 116 [eI 1 a1, eI 2 a2, eI 4 a4, eI 5 a5, eX 6 (a0.row.map .d), eX 9 (a3.row.map .d), (12, .one (.bptr 12 0), [.box [.nil 5, .nil 3, .nil 4, .d (.int .i64 0), .d (.int .i64 0), .nil 7, .nil 1, .nil 2, .nil 1, .nil 1, .d (.int .i64 0), .nil 1]]), eX 14 (a0.Frame.row.map .d), eI 15 (ZX a0.Frame.Methods a0.Frame.Now), eL 48 7 a0.ZR Ye.row, eI 49 (a0.ZR.length : Int), eI 50 (J : Int)]) (fun n1 J => a0.ZR.length < n1 + J /\ J <= a0.ZR.length) (a0.ZR.length + 1) 0 (fun p1 J e1 j1 => ?_)
 refine cFf e1 ?_ ?_ <;> intro k3 h2 e1
 ·have i1 := ix h2
  have m2 := ml a0.ZR (k3 48 _ rfl)
  have c2 := sl 2314240 a0.ZR (an u0 u1)
  have w2 := wr J
  simp [i1, ZE]
  refine rpS ?_
  refine cF e1 ?_ ?_ <;> intro k4 h3 e1
  ·exact ny1 (an w1 w2) e1
  refine dIs mixed ?_
  refine cRs (xf (ZX a0.Frame.Methods a0.Frame.Now) a3 (sg u1)) ?_
  refine cRs (OY a0.Frame.Zk (Zm.mk a2 (nth a0.ZR J).ZV (ZX a0.Frame.Methods a0.Frame.Now) (YN (ZX a0.Frame.Methods a0.Frame.Now) a3) 1 a4 0 0 0) (sg (Zv.zc (ZH.XY u0)))) ?_
  refine dIs mixed ?_
  refine cRs (YP.rd (Uf (Ys a0.Frame.Zk (Zm.mk a2 (nth a0.ZR J).ZV (ZX a0.Frame.Methods a0.Frame.Now) (YN (ZX a0.Frame.Methods a0.Frame.Now) a3) 1 a4 0 0 0)).1)) ?_
  refine cRs (YP.rd (O4 (nth a0.ZR J))) ?_
  refine eIs ?_
  refine dIo mixed ?_
  have i2 := ik a1.toNat a0.ZA
  simp [i2, ZE]
  refine rpS ?_
  refine cDs [] (Sn (nth a0.ZA a1.toNat) (ZZ.mk a0.Next a5 a3 (Ys a0.Frame.Zk (Zm.mk a2 (nth a0.ZR J).ZV (ZX a0.Frame.Methods a0.Frame.Now) (YN (ZX a0.Frame.Methods a0.Frame.Now) a3) 1 a4 0 0 0)).1 (Zi.mk ([(X5 (Ys a0.Frame.Zk (Zm.mk a2 (nth a0.ZR J).ZV (ZX a0.Frame.Methods a0.Frame.Now) (YN (ZX a0.Frame.Methods a0.Frame.Now) a3) 1 a4 0 0 0)).1), (Qh (nth a0.ZR J))] : List Zf) ([] : List Zc))) (sg (YU (ZH.YX u0))) (by simp (maxDischargeDepth := 12) [Jz, XO, Vn, V8, Zb (m := 2318336) (by decide) u0, Zb (m := 2318336) (by decide) u1]; try omega)) ?_
  refine cF e1 ?_ ?_ <;> intro k8 h4 e1
  ·have f := ms f e1
   exact rt [.cell 12 33, .tmp 13] f
  refine cDf i2 [false, false, false, true, true, false, false, true, false, false, true, false] (YO a0 (sg u0)) ?_
  refine Vk (t := 103) (j := 7) (i := a1.toNat) (size := 2) (rows := (a0.ZA.map ZF.row)) (ds := (YI (nth a0.ZA a1.toNat) (ZZ.mk a0.Next a5 a3 (Ys a0.Frame.Zk (Zm.mk a2 (nth a0.ZR J).ZV (ZX a0.Frame.Methods a0.Frame.Now) (YN (ZX a0.Frame.Methods a0.Frame.Now) a3) 1 a4 0 0 0)).1 (Zi.mk ([(X5 (Ys a0.Frame.Zk (Zm.mk a2 (nth a0.ZR J).ZV (ZX a0.Frame.Methods a0.Frame.Now) (YN (ZX a0.Frame.Methods a0.Frame.Now) a3) 1 a4 0 0 0)).1), (Qh (nth a0.ZR J))] : List Zf) ([] : List Zc)))).1.row) (L := [(92, 1)]) ?_
  have f := ms f e1
  simp [XW (x := (YI (nth a0.ZA a1.toNat) (ZZ.mk a0.Next a5 a3 (Ys a0.Frame.Zk (Zm.mk a2 (nth a0.ZR J).ZV (ZX a0.Frame.Methods a0.Frame.Now) (YN (ZX a0.Frame.Methods a0.Frame.Now) a3) 1 a4 0 0 0)).1 (Zi.mk ([(X5 (Ys a0.Frame.Zk (Zm.mk a2 (nth a0.ZR J).ZV (ZX a0.Frame.Methods a0.Frame.Now) (YN (ZX a0.Frame.Methods a0.Frame.Now) a3) 1 a4 0 0 0)).1), (Qh (nth a0.ZR J))] : List Zf) ([] : List Zc)))).1) rfl, c1, i2, ZE, YZ]
  refine rpS ?_
  exact rt [.cell 12 33, .tmp 13] f
 have c3 := sl 2314240 a0.ZR (an u0 u1)
 have f := ms f e1
 exact rt [.cell 12 33, .tmp 13] f
theorem Mq (a0 : ZH) (a1 : Int) (a2 : Int) (a3 : Zd) (a4 : Int) (a5 : Int) (u0 : Sm 2310144 a0) (u1 : Sm 2310144 a3) : Sd 12 [a0.row, rI a1, rI a2, a3.row, rI a4, rI a5] [(XK a0 a1 a2 a3 a4 a5).1.row, rB (XK a0 a1 a2 a3 a4 a5).2] := by
 have f := me (XK.eq_1 a0 a1 a2 a3 a4 a5)
 refine soD func12 ntmps12 ?_
 refine cRs (yF a0.Frame.Zk a2) ?_
 refine dIs mixed ?_
 refine gIf ?_ ?_ <;> intro G
 ·have i1 : (YB a0.Frame.Zk a2).toNat < a0.Frame.Zk.length := by have := xl a0.Frame.Zk a2; exact il
  simp [i1, ZE, G]
  refine rpG ?_
  refine cK f ?_ ?_ <;> intro k2 h1 f
  ·try (simp [G] at h1; done)
   all_goals
    refine cDg [false, false, false, true, true, false, false, true, false, false, true, false] (YO a0 (by first | (exact Zb (n := 2310144) (by decide) (xs (an u0 u1))) | (exact Zb (n := 2310144 + 1) (by decide) (yd (n := 2310144) (xs (an u0 u1)) (xs (an u0 u1)) (by decide))))) ?_
    exact Q6 [.cell 12 33, .tmp 13] f
  ·try (simp [G] at h1; done)
   all_goals
    refine cRg (TO a0 a1 a2 a3 a4 a5 (sg u0) (sg u1)) ?_
    refine cDg [false, false, false, true, true, false, false, true, false, false, true, false] (YO (Qk a0 a1 a2 a3 a4 a5).1 (by first | (exact Zb (n := 2310144) (by decide) (xs (an u0 u1))) | (exact Zb (n := 2310144 + 1) (by decide) (yd (n := 2310144) (xs (an u0 u1)) (xs (an u0 u1)) (by decide))))) ?_
    exact Q6 [.cell 12 33, .tmp 13] f
 ·refine cK f ?_ ?_ <;> intro k3 h2 f
  ·try (simp [G] at h2; done)
   all_goals
    refine cDg [false, false, false, true, true, false, false, true, false, false, true, false] (YO a0 (by first | (exact Zb (n := 2310144) (by decide) (xs (an u0 u1))) | (exact Zb (n := 2310144 + 1) (by decide) (yd (n := 2310144) (xs (an u0 u1)) (xs (an u0 u1)) (by decide))))) ?_
    exact Q6 [.cell 12 33, .tmp 13] f
  ·try (simp [G] at h2; done)
   all_goals
    refine cRg (TO a0 a1 a2 a3 a4 a5 (sg u0) (sg u1)) ?_
    refine cDg [false, false, false, true, true, false, false, true, false, false, true, false] (YO (Qk a0 a1 a2 a3 a4 a5).1 (by first | (exact Zb (n := 2310144) (by decide) (xs (an u0 u1))) | (exact Zb (n := 2310144 + 1) (by decide) (yd (n := 2310144) (xs (an u0 u1)) (xs (an u0 u1)) (by decide))))) ?_
    exact Q6 [.cell 12 33, .tmp 13] f
theorem Pu (a0 : Int) : Sa 280 [rI a0] [rB (xu a0)] := by
 have f := me (xu.eq_1 a0)
 refine so func280 ntmps280 ?_
 refine cRs (Zt a0 1 2147483646) ?_
 exact rt [.tmp 2] f
theorem Fc (a0 : Y4) : Sa 207 [a0.row] [rB (I0 a0)] := by
 have f := me (I0.eq_1 a0)
 refine so func207 ntmps207 ?_
 refine cRs (Zt a0.Number 1 99) ?_
 refine cGs (fun gg => (Zt a0.zY 0 99)) ?_
 refine cGs (fun gg => (Zt a0.Method 0 99)) ?_
 refine cGs (fun gg => (K0 a0.qN)) ?_
 refine cGs (fun gg => (Pu a0.jC)) ?_
 exact rt [.tmp 2] f
theorem IK (a0 : List Y4) : Sa 127 [rL 5 Y4.row a0] [rB (RW a0)] := by
 have f := me (RW.eq_1 a0)
 refine so func127 ntmps127 ?_
 refine lp1 (UW.eq_2 a0) (fun J => Yy 34 [eL 0 5 a0 Y4.row, eL 5 5 a0 Y4.row, eI 6 (a0.length : Int), eI 7 (J : Int)]) (fun n1 J => a0.length < n1 + J /\ J <= a0.length) (a0.length + 1) 0 (fun p1 J e1 j1 => ?_)
 refine cFf e1 ?_ ?_ <;> intro k2 h1 e1
 ·have i1 := ix h1
  have m2 := ml a0 (k2 0 _ rfl)
  have w1 := wr J
  simp [i1, ZE]
  refine rpS ?_
  refine dIs mixed ?_
  refine cRs (Fc (nth a0 J)) ?_
  refine gIf ?_ ?_ <;> intro G
  ·have i2 := ik (J - 1) a0
   have w2 : IntKind.i64.wrap ((J : Int) - 1) = (J : Int) - 1 := Yg (by omega) (by omega)
   simp [i2, ZE, w2, KM, G]
   refine rpG ?_
   refine cK e1 ?_ ?_ <;> intro k4 h2 e1
   ·try (simp [G] at h2; done)
    all_goals
     have f := ms f e1
     exact rtg [.tmp 2] f
   ·try (simp [G] at h2; done)
    all_goals
     exact ny1 (an w1 (an w2 G)) e1
  ·refine cK e1 ?_ ?_ <;> intro k5 h3 e1
   ·try (simp [G] at h3; done)
    all_goals
     have f := ms f e1
     exact rtg [.tmp 2] f
   ·try (simp [G] at h3; done)
    all_goals
     exact ny1 (an w1 G) e1
 have f := ms f e1
 exact rt [.tmp 2] f
theorem TC (a0 : List Zr) : Sa 128 [rL 3 Zr.row a0] [rB (qO a0)] := by
 have f := me (qO.eq_1 a0)
 refine so func128 ntmps128 ?_
 refine lp1 (yy.eq_2 a0) (fun J => Yy 47 [eL 0 3 a0 Zr.row, eL 5 3 a0 Zr.row, eI 6 (a0.length : Int), eI 7 (J : Int)]) (fun n1 J => a0.length < n1 + J /\ J <= a0.length) (a0.length + 1) 0 (fun p1 J e1 j1 => ?_)
 refine cFf e1 ?_ ?_ <;> intro k2 h1 e1
 ·have i1 := ix h1
  have m2 := ml a0 (k2 0 _ rfl)
  have w1 := wr J
  simp [i1, ZE]
  refine rpS ?_
  refine dIs mixed ?_
  refine cRs (Zt (nth a0 J).Id 0 99) ?_
  refine cGs (fun gg => (Zt (nth a0 J).Key 1 99)) ?_
  refine cGs (fun gg => (Zt (nth a0 J).Error 0 100)) ?_
  refine gIf ?_ ?_ <;> intro G
  ·have i2 := ik (J - 1) a0
   have w2 : IntKind.i64.wrap ((J : Int) - 1) = (J : Int) - 1 := Yg (by omega) (by omega)
   simp [i2, ZE, w2, KM, G]
   refine rpG ?_
   refine cKo e1 ?_ ?_ <;> intro k4 h2 e1
   ·try (simp [G] at h2; done)
    all_goals
     have q2 := h2; try simp [Za] at q2
     have f := ms f e1
     simp [G]
     refine rpG ?_
     exact rtg [.tmp 2] f
   ·try (simp [G] at h2; done)
    all_goals
     have q2 := h2; try simp [Za] at q2
     simp [G]
     refine rpG ?_
     exact ny1 (an w1 (an w2 G)) e1
  ·refine cKo e1 ?_ ?_ <;> intro k5 h3 e1
   ·try (simp [G] at h3; done)
    all_goals
     have q3 := h3; try simp [Za] at q3
     have f := ms f e1
     simp [G]
     refine rpG ?_
     exact rtg [.tmp 2] f
   ·try (simp [G] at h3; done)
    all_goals
     have q3 := h3; try simp [Za] at q3
     simp [G]
     refine rpG ?_
     exact ny1 (an w1 G) e1
 have f := ms f e1
 exact rt [.tmp 2] f
theorem LG (a0 : YH) : Sa 208 [a0.row] [rB (SE a0)] := by
 have f := me (SE.eq_1 a0)
 refine so func208 ntmps208 ?_
 refine cRs (Zt a0.Id 0 99) ?_
 refine cGs (fun gg => (K0 a0.Wn)) ?_
 refine cGs (fun gg => (Zt a0.Ends 1 10001)) ?_
 refine cGs (fun gg => (Zt a0.WJ 1 10001)) ?_
 exact rt [.tmp 2] f
theorem P3 (a0 : List YH) : Sa 129 [rL 4 YH.row a0] [rB (Wz a0)] := by
 have f := me (Wz.eq_1 a0)
 refine so func129 ntmps129 ?_
 refine lp1 (jj.eq_2 a0) (fun J => Yy 34 [eL 0 4 a0 YH.row, eL 5 4 a0 YH.row, eI 6 (a0.length : Int), eI 7 (J : Int)]) (fun n1 J => a0.length < n1 + J /\ J <= a0.length) (a0.length + 1) 0 (fun p1 J e1 j1 => ?_)
 refine cFf e1 ?_ ?_ <;> intro k2 h1 e1
 ·have i1 := ix h1
  have m2 := ml a0 (k2 0 _ rfl)
  have w1 := wr J
  simp [i1, ZE]
  refine rpS ?_
  refine dIs mixed ?_
  refine cRs (LG (nth a0 J)) ?_
  refine gIf ?_ ?_ <;> intro G
  ·have i2 := ik (J - 1) a0
   have w2 : IntKind.i64.wrap ((J : Int) - 1) = (J : Int) - 1 := Yg (by omega) (by omega)
   simp [i2, ZE, w2, KM, G]
   refine rpG ?_
   refine cK e1 ?_ ?_ <;> intro k4 h2 e1
   ·try (simp [G] at h2; done)
    all_goals
     have f := ms f e1
     exact rtg [.tmp 2] f
   ·try (simp [G] at h2; done)
    all_goals
     exact ny1 (an w1 (an w2 G)) e1
  ·refine cK e1 ?_ ?_ <;> intro k5 h3 e1
   ·try (simp [G] at h3; done)
    all_goals
     have f := ms f e1
     exact rtg [.tmp 2] f
   ·try (simp [G] at h3; done)
    all_goals
     exact ny1 (an w1 G) e1
 have f := ms f e1
 exact rt [.tmp 2] f
theorem HJ (a0 : Zv) : Sa 63 [a0.row] [rB (yR a0)] := by
 have f := me (yR.eq_1 a0)
 refine so func63 ntmps63 ?_
 refine cRs (IK a0.Zk) ?_
 refine cGs (fun gg => (TC a0.ZD)) ?_
 refine cGs (fun gg => (P3 a0.Methods)) ?_
 refine cGs (fun gg => (Zt a0.Ky 0 6)) ?_
 refine cGs (fun gg => (K0 a0.Now)) ?_
 exact rt [.tmp 2] f
theorem jf (a0 : List Int) : Sa 65 [rL 1 iR a0] [rB (Qg a0)] := by
 have f := me (Qg.eq_1 a0)
 refine so func65 ntmps65 ?_
 refine lp1 (qQ.eq_2 a0) (fun J => Yy 20 [eL 0 1 a0 iR, eI 3 (J : Int)]) (fun n1 J => a0.length < n1 + J /\ 1 <= J) (a0.length + 1) 1 (fun p1 J e1 j1 => ?_)
 refine cF e1 ?_ ?_ <;> intro k2 h1 e1
 ·have i1 := ix h1
  have m2 := ml a0 (k2 0 _ rfl)
  have w1 := wr J
  refine dIo mixed ?_
  have i2 := ik (J - 1) a0
  have w2 : IntKind.i64.wrap ((J : Int) - 1) = (J : Int) - 1 := Yg (by omega) (by omega)
  simp [i2, ZE, w2, KM, i1]
  refine rpS ?_
  refine cF e1 ?_ ?_ <;> intro k4 h2 e1
  ·have f := ms f e1
   exact rt [.tmp 2] f
  exact ny1 (an w1 w2) e1
 have f := ms f e1
 exact rt [.tmp 2] f
theorem LB (a0 : Ye) : Sa 210 [a0.row] [(qL a0).row] := by
 have f := me (qL.eq_1 a0)
 refine so func210 ntmps210 ?_
 exact rt [.cell 2 71] f
theorem Hb (a0 : jI) : Sa 209 [a0.row] [rB (Un a0)] := by
 have f := me (Un.eq_1 a0)
 refine so func209 ntmps209 ?_
 refine cRs (K0 a0.qA) ?_
 refine cGs (fun gg => (K0 a0.To)) ?_
 exact rt [.tmp 2] f
theorem GG (a0 : Ye) : Sa 131 [a0.row] [rB (V5 a0)] := by
 have f := me (V5.eq_1 a0)
 refine so func131 ntmps131 ?_
 refine cRs (Zt a0.ZV 1 999) ?_
 refine cGs (fun gg => (Zt a0.Key 1 99)) ?_
 refine cGs (fun gg => (Zt a0.Zn 1 99)) ?_
 refine cGs (fun gg => (Zt a0.zY 0 99)) ?_
 refine cGs (fun gg => (LB a0)) ?_
 refine cGs (fun gg => (Hb (qL a0))) ?_
 exact rt [.tmp 2] f
theorem O8 (a0 : List Y4) (a1 : Int) (a2 : List Int) (a3 : Int) (u0 : Sm 2318336 a0) (u1 : Sm 2318336 a2) : Sa 132 [rL 5 Y4.row a0, rI a1, rL 1 iR a2, rI a3] [rB (UB a0 a1 a2 a3)] := by
 have f := me (UB.eq_1 a0 a1 a2 a3)
 refine so func132 ntmps132 ?_
 refine cRs (kl a0 a1 a2 (sg u0) (sg u1)) ?_
 exact rt [.tmp 8] f
theorem HB (a0 : List Y4) (a1 : Int) : Sa 134 [rL 5 Y4.row a0, rI a1] [rI (RN a0 a1)] := by
 have f := me (RN.eq_1 a0 a1)
 refine so func134 ntmps134 ?_
 refine cRs (yF a0 a1) ?_
 refine cFf f ?_ ?_ <;> intro k1 h1 f
 ·have i1 : (YB a0 a1).toNat < a0.length := by have := xl a0 a1; exact il
  simp [i1, ZE]
  refine rpS ?_
  exact rt [.tmp 4] f
 exact rt [.tmp 4] f
theorem ND (a0 : List Y4) (a1 : Ye) (u0 : Sm 2314240 a0) : Sa 66 [rL 5 Y4.row a0, a1.row] [rB (kW a0 a1)] := by
 have f := me (kW.eq_1 a0 a1)
 refine so func66 ntmps66 ?_
 refine dIs mixed ?_
 refine cRs (GG a1) ?_
 refine cGs (fun gg => YP.rd (TM a1)) ?_
 refine cGs (fun gg => (O8 a0 a1.Zn (KY a1) a1.Mark (sg u0) (by simp (maxDischargeDepth := 12) [TJ, Zb (m := 2318336) (by decide) u0]; try omega))) ?_
 refine cGs (fun gg => (HB a0 a1.Key)) ?_
 exact rt [.tmp 4] f
theorem Te (a0 : List Ye) (a1 : Int) : Sa 67 [rL 7 Ye.row a0, rI a1] [rI (XU a0 a1)] := by
 have f := me (XU.eq_1 a0 a1)
 refine so func67 ntmps67 ?_
 refine lp1 (zB.eq_2 a0 a1) (fun J => Yy 20 [eI 1 a1, eL 7 7 a0 Ye.row, eI 8 (a0.length : Int), eI 9 (J : Int)]) (fun n1 J => a0.length < n1 + J /\ J <= a0.length) (a0.length + 1) 0 (fun p1 J e1 j1 => ?_)
 refine cFf e1 ?_ ?_ <;> intro k2 h1 e1
 ·have i1 := ix h1
  have m2 := ml a0 (k2 7 _ rfl)
  have w1 := wr J
  simp [i1, ZE]
  refine rpS ?_
  refine cF e1 ?_ ?_ <;> intro k3 h2 e1
  ·have f := ms f e1
   exact rt [.tmp 4] f
  exact ny1 w1 e1
 have f := ms f e1
 exact rt [.tmp 4] f
theorem IC (a0 : List Int) (a1 : Int) : Sa 136 [rL 1 iR a0, rI a1] [rI (Uy a0 a1)] := by
 have f := me (Uy.eq_1 a0 a1)
 refine so func136 ntmps136 ?_
 refine lp1 (kq.eq_2 a0 a1) (fun J => Yy 19 [eI 1 a1, eL 7 1 a0 iR, eI 8 (a0.length : Int), eI 9 (J : Int)]) (fun n1 J => a0.length < n1 + J /\ J <= a0.length) (a0.length + 1) 0 (fun p1 J e1 j1 => ?_)
 refine cFf e1 ?_ ?_ <;> intro k2 h1 e1
 ·have i1 := ix h1
  have m2 := ml a0 (k2 7 _ rfl)
  have w1 := wr J
  simp [i1, ZE]
  refine rpS ?_
  refine cF e1 ?_ ?_ <;> intro k3 h2 e1
  ·have f := ms f e1
   exact rt [.tmp 4] f
  exact ny1 w1 e1
 have f := ms f e1
 exact rt [.tmp 4] f
theorem UT (a0 : List Int) (a1 : Int) : Sa 69 [rL 1 iR a0, rI a1] [rB (Jd a0 a1)] := by
 have f := me (Jd.eq_1 a0 a1)
 refine so func69 ntmps69 ?_
 refine cRs (IC a0 a1) ?_
 exact rt [.tmp 4] f
theorem y5 (a0 : List Zr) (a1 : Int) : Sa 70 [rL 3 Zr.row a0, rI a1] [rI (ZW a0 a1)] := by
 have f := me (ZW.eq_1 a0 a1)
 refine so func70 ntmps70 ?_
 refine lp1 (QT.eq_2 a0 a1) (fun J => Yy 20 [eI 1 a1, eL 7 3 a0 Zr.row, eI 8 (a0.length : Int), eI 9 (J : Int)]) (fun n1 J => a0.length < n1 + J /\ J <= a0.length) (a0.length + 1) 0 (fun p1 J e1 j1 => ?_)
 refine cFf e1 ?_ ?_ <;> intro k2 h1 e1
 ·have i1 := ix h1
  have m2 := ml a0 (k2 7 _ rfl)
  have w1 := wr J
  simp [i1, ZE]
  refine rpS ?_
  refine cF e1 ?_ ?_ <;> intro k3 h2 e1
  ·have f := ms f e1
   exact rt [.tmp 4] f
  exact ny1 w1 e1
 have f := ms f e1
 exact rt [.tmp 4] f
theorem z6 {a b : Prop} (h : b) (k : a := by (intros; first | omega | with_unfolding_all (first | first | omega | (have o : (nth a0.ZA uR).ZC.length <= 2310144 := XZ (xs u0); have o2 : a0.ZA.length <= 2310144 := XZ (xs u0); omega)) | ((try simp only [Xc, show ∀ x, IntKind.i64.wrap x = W x from fun _ => rfl] at *); omega))) : a /\ b := ⟨k, h⟩
theorem KC {a b : Prop} (h : b) (k : a := by (intros; first | omega | with_unfolding_all (first | first | omega | (have o : (nth a0.ZA uR).ZC.length <= 2310144 := XZ (xs u0); have o2 : a0.ZA.length <= 2310144 := XZ (xs u0); omega)) | (simp_all; done) | (simp_all; omega) | grind | ((try simp only [Xc, show ∀ x, IntKind.i64.wrap x = W x from fun _ => rfl] at *); omega))) : a /\ b := ⟨k, h⟩
theorem J6 (a0 : ZH) (u0 : Sm 2310144 a0) : Sa 13 [a0.row] [rB (QM a0)] := by
 have f := me (QM.eq_1 a0)
 refine so func13 ntmps13 ?_
 refine cRs (HJ a0.Frame) ?_
 refine cGs (fun gg => (Zt (a0.ZA.length : Int) 1 4)) ?_
 refine cGs (fun gg => (jf a0.YW)) ?_
 refine cGs (fun gg => (jf a0.Yk)) ?_
 refine cFo f ?_ ?_ <;> intro k1 h1 f
 ·have q1 := h1; try simp [Za] at q1
  simp
  exact rt [.tmp 2] f
 have q1 := h1; try simp [Za] at q1
 simp
 refine lp1 (qk.eq_2 a0) (fun J => Yy 167 [eX 1 (a0.row.map .d), eX 3 (a0.Frame.row.map .d), eL 71 7 a0.ZR Ye.row, eI 72 (a0.ZR.length : Int), eI 73 (J : Int)]) (fun n1 J => a0.ZR.length < n1 + J /\ J <= a0.ZR.length) (a0.ZR.length + 1) 0 (fun p1 J e1 j1 => ?_)
 try dsimp only at j1
 refine cFf e1 ?_ ?_ <;> intro k3 h2 e1
 ·have i1 := ix h2
  have m2 := ml a0.ZR (k3 71 _ rfl)
  have c1 := sl 2310144 a0.ZR u0
  have w1 := wr J
  simp [i1, ZE]
  repeat with_reducible refine z6 ?_
  refine cRs (ND a0.Frame.Zk (nth a0.ZR J) (sg (Zv.zc (ZH.XY u0)))) ?_
  refine cGs (fun gg => (Te a0.ZR (nth a0.ZR J).ZV)) ?_
  refine gIo ?_ ?_ <;> intro G
  ·have sv := G
   have g1 := G; try simp at g1
   have i2 := ik J a0.Zu
   simp [i2, ZE, G]
   repeat with_reducible refine KC ?_
   refine cGo (fun gg => (Zt (nth a0.Zu J) (-1) 10001)) ?_
   simp [G]
   repeat with_reducible refine KC ?_
   refine cKo e1 ?_ ?_ <;> intro k4 h3 e1
   ·try (simp [G] at h3; done)
    all_goals
     have q3 := h3; try simp [Za] at q3
     have f := ms f e1
     simp [G]
     repeat with_reducible refine KC ?_
     exact rtg [.tmp 2] f
   ·try (simp [G] at h3; done)
    all_goals
     have q3 := h3; try simp [Za] at q3
     simp [G]
     repeat with_reducible refine KC ?_
     exact ny1 (an w1 G) e1
  ·have sv := G
   simp [G]
   repeat with_reducible refine KC ?_
   refine sGo ?_
   simp [G]
   repeat with_reducible refine KC ?_
   refine cKo e1 ?_ ?_ <;> intro k5 h4 e1
   ·try (simp [G] at h4; done)
    all_goals
     have q4 := h4; try simp [Za] at q4
     have f := ms f e1
     simp [G]
     repeat with_reducible refine KC ?_
     exact rtg [.tmp 2] f
   ·try (simp [G] at h4; done)
    all_goals
     have q4 := h4; try simp [Za] at q4
     simp [G]
     repeat with_reducible refine KC ?_
     exact ny1 (an w1 G) e1
 have c2 := sl 2310144 a0.ZR u0
 have f := ms f e1
 refine lp2 (Kz.eq_2 a0) (fun uE uR => Yy 167 [eX 1 (a0.row.map .d), eX 3 (a0.Frame.row.map .d), (6, .one (.sref 6 0 0 uE.length), [.arr false 1 (uE.map iR)]), eL 103 2 a0.ZA ZF.row, eI 104 (a0.ZA.length : Int), eI 105 (uR : Int)]) (fun n2 uE uR => a0.ZA.length < n2 + uR /\ uE.length <= 2310144 * uR) (a0.ZA.length + 1) ([] : List Int) 0 (fun p2 uE uR e2 j2 => ?_) (h0 := wkS [((6, 0), none)] [])
 try dsimp only at j2
 refine cFf e2 ?_ ?_ <;> intro k7 h5 e2
 ·have i4 := ix h5
  have m4 := ml a0.ZA (k7 103 _ rfl)
  have c3 := sl 2310144 a0.ZA u0
  have w2 := wr uR
  simp [i4, ZE]
  repeat with_reducible refine z6 ?_
  refine cRs (Kw (nth a0.ZA uR)) ?_
  refine cF e2 ?_ ?_ <;> intro k8 h6 e2
  ·have f := ms f e2
   exact rt [.tmp 2] f
  refine lp2 (J7.eq_2 a0 uR) (fun tD sQ => Yy 167 [eX 1 (a0.row.map .d), eX 3 (a0.Frame.row.map .d), (6, .one (.sref 6 0 0 tD.length), [.arr false 1 (tD.map iR)]), eL 103 2 a0.ZA ZF.row, eI 104 (a0.ZA.length : Int), eI 105 (uR : Int), eL 120 16 (nth a0.ZA uR).ZC ZZ.row, eI 121 ((nth a0.ZA uR).ZC.length : Int), eI 122 (sQ : Int)]) (fun n3 tD sQ => (nth a0.ZA uR).ZC.length < n3 + sQ /\ sQ <= (nth a0.ZA uR).ZC.length /\ tD.length <= 2310144 * uR + sQ) ((nth a0.ZA uR).ZC.length + 1) uE 0 (fun p3 tD sQ e3 j3 => ?_)
  try dsimp only at j3
  refine cFf e3 ?_ ?_ <;> intro np h7 e3
  ·have i5 := ix h7
   have m6 := ml (nth a0.ZA uR).ZC (np 120 _ rfl)
   have c4 := sl 2310144 (nth a0.ZA uR).ZC u0
   have w3 := wr sQ
   simp [i5, ZE]
   repeat with_reducible refine z6 ?_
   refine cRs (UT tD (nth (nth a0.ZA uR).ZC sQ).Id) ?_
   refine cFt e3 ?_ ?_ <;> intro fV h8 e3
   ·have e2 := ms e2 e3
    have f := ms f e2
    exact rt [.tmp 2] f
   simp
   repeat with_reducible refine z6 ?_
   exact nx2 e3 (hI := by (have o : (nth a0.ZA uR).ZC.length <= 2310144 := XZ (xs u0); first | omega | (simp at *; omega))) (hw := XI [((6, 0), some (141, 0))] [] rfl (by simp [w2, w3]))
  have c5 := sl 2310144 (nth a0.ZA uR).ZC u0
  have e2 := ms e2 e3
  exact ny2 w2 e2 (hI := by (have o : (nth a0.ZA uR).ZC.length <= 2310144 := XZ (xs u0); first | omega | (simp at *; omega)))
 have c6 := sl 2310144 a0.ZA u0
 have f := ms f e2
 refine lp1 (qi.eq_2 a0) (fun rb => Yy 167 [eX 1 (a0.row.map .d), eX 3 (a0.Frame.row.map .d), eL 145 1 a0.YG iR, eI 146 (a0.YG.length : Int), eI 147 (rb : Int)]) (fun n4 rb => a0.YG.length < n4 + rb /\ rb <= a0.YG.length) (a0.YG.length + 1) 0 (fun p4 rb e4 j4 => ?_)
 try dsimp only at j4
 refine cFf e4 ?_ ?_ <;> intro mG h9 e4
 ·have i6 := ix h9
  have m8 := ml a0.YG (mG 145 _ rfl)
  have c7 := sl 2310144 a0.YG u0
  have w4 := wr rb
  simp [i6, ZE]
  repeat with_reducible refine z6 ?_
  refine cF e4 ?_ ?_ <;> intro fW ru e4
  ·have f := ms f e4
   exact rt [.tmp 2] f
  exact ny1 w4 e4
 have c8 := sl 2310144 a0.YG u0
 have f := ms f e4
 refine lp1 (qv.eq_2 a0) (fun rA => Yy 167 [eX 3 (a0.Frame.row.map .d), eL 155 1 a0.YW iR, eI 156 (a0.YW.length : Int), eI 157 (rA : Int)]) (fun n5 rA => a0.YW.length < n5 + rA /\ rA <= a0.YW.length) (a0.YW.length + 1) 0 (fun p5 rA e5 j5 => ?_)
 try dsimp only at j5
 refine cFf e5 ?_ ?_ <;> intro fX nq e5
 ·have i7 := ix nq
  have bS := ml a0.YW (fX 155 _ rfl)
  have c9 := sl 2310144 a0.YW u0
  have w5 := wr rA
  simp [i7, ZE]
  repeat with_reducible refine z6 ?_
  refine cRs (y5 a0.Frame.ZD (nth a0.YW rA)) ?_
  refine cF e5 ?_ ?_ <;> intro cJ lN e5
  ·have f := ms f e5
   exact rt [.tmp 2] f
  exact ny1 w5 e5
 have eE := sl 2310144 a0.YW u0
 have f := ms f e5
 exact rt [.tmp 2] f
theorem RU (a0 : Zv) (a1 : Zv) : Sa 71 [a0.row, a1.row] [rB (yi a0 a1)] := by
 have f := me (yi.eq_1 a0 a1)
 refine so func71 ntmps71 ?_
 refine cF f ?_ ?_ <;> intro k1 h1 f
 ·exact rt [.tmp 4] f
 refine okL fun k2 => ?_
 refine lp1 (yv.eq_2 a0 a1) (fun J => Yy 101 [eX 2 (a0.row.map .d), eX 3 (a1.row.map .d), eI 49 (a0.Zk.length : Int), eI 50 (J : Int)]) (fun n1 J => a0.Zk.length < n1 + J /\ J <= a0.Zk.length) (a0.Zk.length + 1) 0 (fun p1 J e1 j1 => ?_)
 refine cF e1 ?_ ?_ <;> intro k3 h2 e1
 ·have i1 := ix h2
  have m2 := ml a0.Zk (k2 9 _ rfl)
  have w1 := wr J
  refine dIo mixed ?_
  have i2 := ik J a1.Zk
  simp [i1, ZE, i2]
  refine rpS ?_
  refine cF e1 ?_ ?_ <;> intro k5 h3 e1
  ·have f := ms f e1
   exact rt [.tmp 4] f
  exact ny1 w1 e1
 have f := ms f e1
 refine okL fun k6 => ?_
 refine lp1 (yl.eq_2 a0 a1) (fun uE => Yy 101 [eX 2 (a0.row.map .d), eX 3 (a1.row.map .d), eI 67 (a0.ZD.length : Int), eI 68 (uE : Int)]) (fun n2 uE => a0.ZD.length < n2 + uE /\ uE <= a0.ZD.length) (a0.ZD.length + 1) 0 (fun p2 uE e2 j2 => ?_)
 refine cF e2 ?_ ?_ <;> intro k7 h4 e2
 ·have i3 := ix h4
  have m4 := ml a0.ZD (k6 66 _ rfl)
  have w2 := wr uE
  refine dIo mixed ?_
  have i4 := ik uE a1.ZD
  simp [i3, ZE, i4]
  refine rpS ?_
  refine cF e2 ?_ ?_ <;> intro k9 h5 e2
  ·have f := ms f e2
   exact rt [.tmp 4] f
  exact ny1 w2 e2
 have f := ms f e2
 refine okL fun np => ?_
 refine lp1 (yu.eq_2 a0 a1) (fun tD => Yy 101 [eX 2 (a0.row.map .d), eX 3 (a1.row.map .d), eI 85 (a0.Methods.length : Int), eI 86 (tD : Int)]) (fun n3 tD => a0.Methods.length < n3 + tD /\ tD <= a0.Methods.length) (a0.Methods.length + 1) 0 (fun p3 tD e3 j3 => ?_)
 refine cF e3 ?_ ?_ <;> intro fV h6 e3
 ·have i5 := ix h6
  have m6 := ml a0.Methods (np 84 _ rfl)
  have w3 := wr tD
  refine dIo mixed ?_
  have i6 := ik tD a1.Methods
  simp [i5, ZE, i6]
  refine rpS ?_
  refine cF e3 ?_ ?_ <;> intro mG h7 e3
  ·have f := ms f e3
   exact rt [.tmp 4] f
  exact ny1 w3 e3
 have f := ms f e3
 exact rt [.tmp 4] f
theorem Su (a0 : List ByteArray) (a1 : List ByteArray) : Sa 281 [rL 1 sR a0, rL 1 sR a1] [rB (xi a0 a1)] := by
 have f := me (xi.eq_1 a0 a1)
 refine so func281 ntmps281 ?_
 refine cF f ?_ ?_ <;> intro k1 h1 f
 ·exact rt [.tmp 4] f
 refine lp1 (yH.eq_2 a0 a1) (fun J => Yy 26 [eL 0 1 a0 sR, eL 1 1 a1 sR, eI 12 (a0.length : Int), eI 13 (J : Int)]) (fun n1 J => a0.length < n1 + J /\ J <= a0.length) (a0.length + 1) 0 (fun p1 J e1 j1 => ?_)
 refine cF e1 ?_ ?_ <;> intro k3 h2 e1
 ·have i1 := ix h2
  have m2 := ml a0 (k3 0 _ rfl)
  have w1 := wr J
  refine dIo mixed ?_
  have i2 := ik J a1
  simp [i1, ZE, i2]
  refine rpS ?_
  refine cF e1 ?_ ?_ <;> intro k5 h3 e1
  ·have f := ms f e1
   exact rt [.tmp 4] f
  exact ny1 w1 e1
 have f := ms f e1
 exact rt [.tmp 4] f
theorem TE (a0 : Zd) (a1 : Zd) : Sa 212 [a0.row, a1.row] [rB (Ki a0 a1)] := by
 have f := me (Ki.eq_1 a0 a1)
 refine so func212 ntmps212 ?_
 refine cGs (fun gg => (Su a0.YR a1.YR)) ?_
 refine cGs (fun gg => (Ko a0.XP a1.XP)) ?_
 exact rt [.tmp 4] f
theorem UL (a0 : List Zf) (a1 : List Zf) : Sa 282 [rL 3 Zf.row a0, rL 3 Zf.row a1] [rB (zb a0 a1)] := by
 have f := me (zb.eq_1 a0 a1)
 refine so func282 ntmps282 ?_
 refine cF f ?_ ?_ <;> intro k1 h1 f
 ·exact rt [.tmp 4] f
 refine lp1 (KZ.eq_2 a0 a1) (fun J => Yy 27 [eL 0 3 a0 Zf.row, eL 1 3 a1 Zf.row, eI 12 (a0.length : Int), eI 13 (J : Int)]) (fun n1 J => a0.length < n1 + J /\ J <= a0.length) (a0.length + 1) 0 (fun p1 J e1 j1 => ?_)
 refine cF e1 ?_ ?_ <;> intro k3 h2 e1
 ·have i1 := ix h2
  have m2 := ml a0 (k3 0 _ rfl)
  have w1 := wr J
  refine dIo mixed ?_
  have i2 := ik J a1
  simp [i1, ZE, i2]
  refine rpS ?_
  refine cRs (qC (nth a0 J) (nth a1 J)) ?_
  refine cF e1 ?_ ?_ <;> intro k5 h3 e1
  ·have f := ms f e1
   exact rt [.tmp 4] f
  exact ny1 w1 e1
 have f := ms f e1
 exact rt [.tmp 4] f
theorem RY (a0 : List Zo) (a1 : List Zo) : Sa 317 [rL 5 Zo.row a0, rL 5 Zo.row a1] [rB (qU a0 a1)] := by
 have f := me (qU.eq_1 a0 a1)
 refine so func317 ntmps317 ?_
 refine cF f ?_ ?_ <;> intro k1 h1 f
 ·exact rt [.tmp 4] f
 refine lp1 (yk.eq_2 a0 a1) (fun J => Yy 26 [eL 0 5 a0 Zo.row, eL 1 5 a1 Zo.row, eI 12 (a0.length : Int), eI 13 (J : Int)]) (fun n1 J => a0.length < n1 + J /\ J <= a0.length) (a0.length + 1) 0 (fun p1 J e1 j1 => ?_)
 refine cF e1 ?_ ?_ <;> intro k3 h2 e1
 ·have i1 := ix h2
  have m2 := ml a0 (k3 0 _ rfl)
  have w1 := wr J
  refine dIo mixed ?_
  have i2 := ik J a1
  simp [i1, ZE, i2]
  refine rpS ?_
  refine cF e1 ?_ ?_ <;> intro k5 h3 e1
  ·have f := ms f e1
   exact rt [.tmp 4] f
  exact ny1 w1 e1
 have f := ms f e1
 exact rt [.tmp 4] f
theorem Tt (a0 : Zc) (a1 : Zc) : Sa 283 [a0.row, a1.row] [rB (Jv a0 a1)] := by
 have f := me (Jv.eq_1 a0 a1)
 refine so func283 ntmps283 ?_
 refine cF f ?_ ?_ <;> intro k1 h1 f
 ·exact rt [.tmp 4] f
 refine okL fun k2 => ?_
 refine lp1 (zX.eq_2 a0 a1) (fun J => Yy 57 [eX 2 (a0.row.map .d), eX 3 (a1.row.map .d), eI 36 (a0.Path.length : Int), eI 37 (J : Int)]) (fun n1 J => a0.Path.length < n1 + J /\ J <= a0.Path.length) (a0.Path.length + 1) 0 (fun p1 J e1 j1 => ?_)
 refine cF e1 ?_ ?_ <;> intro k3 h2 e1
 ·have i1 := ix h2
  have m2 := ml a0.Path (k2 35 _ rfl)
  have w1 := wr J
  refine dIo mixed ?_
  have i2 := ik J a1.Path
  simp [i1, ZE, i2]
  refine rpS ?_
  refine cF e1 ?_ ?_ <;> intro k5 h3 e1
  ·have f := ms f e1
   exact rt [.tmp 4] f
  exact ny1 w1 e1
 have f := ms f e1
 refine cRs (RY a0.Xe a1.Xe) ?_
 exact rt [.tmp 4] f
theorem Sj (a0 : Zi) (a1 : Zi) : Sa 213 [a0.row, a1.row] [rB (zl a0 a1)] := by
 have f := me (zl.eq_1 a0 a1)
 refine so func213 ntmps213 ?_
 refine cRs (UL a0.ZO a1.ZO) ?_
 refine cF f ?_ ?_ <;> intro k1 h1 f
 ·exact rt [.tmp 4] f
 refine okL fun k2 => ?_
 refine lp1 (yA.eq_2 a0 a1) (fun J => Yy 40 [eX 2 (a0.row.map .d), eX 3 (a1.row.map .d), eI 23 (a0.Zj.length : Int), eI 24 (J : Int)]) (fun n1 J => a0.Zj.length < n1 + J /\ J <= a0.Zj.length) (a0.Zj.length + 1) 0 (fun p1 J e1 j1 => ?_)
 refine cF e1 ?_ ?_ <;> intro k3 h2 e1
 ·have i1 := ix h2
  have m2 := ml a0.Zj (k2 22 _ rfl)
  have w1 := wr J
  refine dIo mixed ?_
  have i2 := ik J a1.Zj
  simp [i1, ZE, i2]
  refine rpS ?_
  refine cRs (Tt (nth a0.Zj J) (nth a1.Zj J)) ?_
  refine cF e1 ?_ ?_ <;> intro k5 h3 e1
  ·have f := ms f e1
   exact rt [.tmp 4] f
  exact ny1 w1 e1
 have f := ms f e1
 exact rt [.tmp 4] f
theorem OF (a0 : ZZ) (a1 : ZZ) : Sa 137 [a0.row, a1.row] [rB (yE a0 a1)] := by
 have f := me (yE.eq_1 a0 a1)
 refine so func137 ntmps137 ?_
 refine cGs (fun gg => (TE a0.Doc a1.Doc)) ?_
 refine cGs (fun gg => (Sj a0.ZM a1.ZM)) ?_
 exact rt [.tmp 4] f
theorem Tz (a0 : ZF) (a1 : ZF) : Sa 73 [a0.row, a1.row] [rB (Jy a0 a1)] := by
 have f := me (Jy.eq_1 a0 a1)
 refine so func73 ntmps73 ?_
 refine cF f ?_ ?_ <;> intro k1 h1 f
 ·exact rt [.tmp 4] f
 refine okL fun k2 => ?_
 refine lp1 (zZ.eq_2 a0 a1) (fun J => Yy 39 [eX 2 (a0.row.map .d), eX 3 (a1.row.map .d), eI 22 (a0.ZC.length : Int), eI 23 (J : Int)]) (fun n1 J => a0.ZC.length < n1 + J /\ J <= a0.ZC.length) (a0.ZC.length + 1) 0 (fun p1 J e1 j1 => ?_)
 refine cF e1 ?_ ?_ <;> intro k3 h2 e1
 ·have i1 := ix h2
  have m2 := ml a0.ZC (k2 21 _ rfl)
  have w1 := wr J
  refine dIo mixed ?_
  have i2 := ik J a1.ZC
  simp [i1, ZE, i2]
  refine rpS ?_
  refine cRs (OF (nth a0.ZC J) (nth a1.ZC J)) ?_
  refine cF e1 ?_ ?_ <;> intro k5 h3 e1
  ·have f := ms f e1
   exact rt [.tmp 4] f
  exact ny1 w1 e1
 have f := ms f e1
 exact rt [.tmp 4] f
theorem Wg (a0 : ZH) (a1 : ZH) : Sa 14 [a0.row, a1.row] [rB (KT a0 a1)] := by
 have f := me (KT.eq_1 a0 a1)
 refine so func14 ntmps14 ?_
 refine cRs (RU a0.Frame a1.Frame) ?_
 refine cGs (fun gg => (Ko a0.Zu a1.Zu)) ?_
 refine cGs (fun gg => (Ko a0.YG a1.YG)) ?_
 refine cGs (fun gg => (Ko a0.YW a1.YW)) ?_
 refine cGs (fun gg => (Ko a0.Yk a1.Yk)) ?_
 refine cF f ?_ ?_ <;> intro k1 h1 f
 ·exact rt [.tmp 4] f
 refine okL fun k2 => ?_
 refine lp1 (ym.eq_2 a0 a1) (fun J => Yy 107 [eX 2 (a0.row.map .d), eX 3 (a1.row.map .d), eI 72 (a0.ZR.length : Int), eI 73 (J : Int)]) (fun n1 J => a0.ZR.length < n1 + J /\ J <= a0.ZR.length) (a0.ZR.length + 1) 0 (fun p1 J e1 j1 => ?_)
 refine cF e1 ?_ ?_ <;> intro k3 h2 e1
 ·have i1 := ix h2
  have m2 := ml a0.ZR (k2 71 _ rfl)
  have w1 := wr J
  refine dIo mixed ?_
  have i2 := ik J a1.ZR
  simp [i1, ZE, i2]
  refine rpS ?_
  refine cF e1 ?_ ?_ <;> intro k5 h3 e1
  ·have f := ms f e1
   exact rt [.tmp 4] f
  exact ny1 w1 e1
 have f := ms f e1
 refine okL fun k6 => ?_
 refine lp1 (yo.eq_2 a0 a1) (fun uE => Yy 107 [eX 2 (a0.row.map .d), eX 3 (a1.row.map .d), eI 90 (a0.ZA.length : Int), eI 91 (uE : Int)]) (fun n2 uE => a0.ZA.length < n2 + uE /\ uE <= a0.ZA.length) (a0.ZA.length + 1) 0 (fun p2 uE e2 j2 => ?_)
 refine cF e2 ?_ ?_ <;> intro k7 h4 e2
 ·have i3 := ix h4
  have m4 := ml a0.ZA (k6 89 _ rfl)
  have w2 := wr uE
  refine dIo mixed ?_
  have i4 := ik uE a1.ZA
  simp [i3, ZE, i4]
  refine rpS ?_
  refine cRs (Tz (nth a0.ZA uE) (nth a1.ZA uE)) ?_
  refine cF e2 ?_ ?_ <;> intro k9 h5 e2
  ·have f := ms f e2
   exact rt [.tmp 4] f
  exact ny1 w2 e2
 have f := ms f e2
 exact rt [.tmp 4] f
theorem UX (a0 : Zo) : Sd 144 [a0.row] [rL 1 iR (Q4 a0)] := by
 have f := me (Q4.eq_1 a0)
 refine soD func144 ntmps144 ?_
 exact rtD [.tmp 2] f
theorem jw (a0 : Int) (a1 : Zc) (u0 : Sm 2326528 a1) : Sa 166 [rI a0, a1.row] [rI (JD a0 a1)] := by
 have f := me (JD.eq_1 a0 a1)
 refine so func166 ntmps166 ?_
 refine lp2 (JB.eq_2 a1) (fun J U => Yy 59 [eI 0 a0, eX 3 (a1.row.map .d), (5, .one (.sref 5 0 0 J.length), [.arr false 1 (J.map iR)]), eL 19 2 a1.Path X4.row, eI 20 (a1.Path.length : Int), eI 21 (U : Int)]) (fun n1 J U => a1.Path.length < n1 + U /\ U <= a1.Path.length /\ J.length <= 4 + 2 * U) (a1.Path.length + 1) ([4, a1.Count, a1.Method, a1.GB] : List Int) 0 (fun p1 J U e1 j1 => ?_) (h0 := wkS [((5, 0), some (17, 0))] [])
 refine cFo e1 ?_ ?_ <;> intro k2 h1 e1
 ·have q1 := h1; try simp at q1
  have i1 := ix h1
  have m2 := ml a1.Path (k2 19 _ rfl)
  have c1 := sl 2326528 a1.Path u0
  have w1 := wr U
  simp [i1, ZE]
  refine rpS ?_
  refine cFo e1 ?_ ?_ <;> intro k3 h2 e1
  ·have q2 := h2; try simp at q2
   simp
   refine rpS ?_
   exact nx2 e1 (hw := XI [((5, 0), some (32, 0))] [] rfl (by simp [w1]))
  have q2 := h2; try simp at q2
  simp
  refine rpS ?_
  exact nx2 e1 (hw := XI [((5, 0), some (32, 0))] [] rfl (by simp [w1]))
 have q1 := h1; try simp at q1
 have c2 := sl 2326528 a1.Path u0
 have f := ms f e1
 simp
 refine rpS ?_
 refine lp2 (KK.eq_2 a1) (fun uE uR => Yy 59 [eI 0 a0, (5, .one (.sref 5 0 0 uE.length), [.arr false 1 (uE.map iR)]), eL 41 5 a1.Xe Zo.row, eI 42 (a1.Xe.length : Int), eI 43 (uR : Int)]) (fun n2 uE uR => a1.Xe.length < n2 + uR /\ uR <= a1.Xe.length /\ uE.length <= 5 + 2 * 2326528 + 6 * uR) (a1.Xe.length + 1) (J ++ ([(a1.Xe.length : Int)] : List Int)) 0 (fun p2 uE uR e2 j2 => ?_) (hI := by (have o : a1.Path.length <= 2326528 := XZ (xs u0); simp at *; omega)) (h0 := wkS [((5, 0), some (39, 0))] [])
 try dsimp only at j2
 refine cFo e2 ?_ ?_ <;> intro k5 h3 e2
 ·have q3 := h3; try simp at q3
  have i2 := ix h3
  have m4 := ml a1.Xe (k5 41 _ rfl)
  have c3 := sl 2326528 a1.Xe u0
  have w2 := wr uR
  simp [i2, ZE]
  refine rpS ?_
  refine dIs mixed ?_
  refine cRs (YP.rd (UX (nth a1.Xe uR))) ?_
  exact nx2 e2 (hI := by (simp; omega)) (hw := XI [((5, 0), some (54, 0))] [] rfl (by simp [w2]))
 have q3 := h3; try simp at q3
 have c4 := sl 2326528 a1.Xe u0
 have f := ms f e2
 simp
 refine cRs (JR a0 uE (by first | (simp (maxDischargeDepth := 12) [XO]; omega) | (simp (maxDischargeDepth := 12) [Zb (m := 68719476736) (by decide) u0]; done))) ?_
 exact rt [.tmp 4] f
theorem kp (a0 : Int) (a1 : List Zf) (u0 : Sm 2326528 a1) : Sa 240 [rI a0, rL 3 Zf.row a1] [rI (Qt a0 a1)] := by
 have f := me (Qt.eq_1 a0 a1)
 refine so func240 ntmps240 ?_
 refine lp2 (Kj.eq_2 a0 a1) (fun J U => Yy 32 [eI 0 a0, (5, .one (.sref 5 0 0 J.length), [.arr false 1 (J.map iR)]), eL 9 3 a1 Zf.row, eI 10 (a1.length : Int), eI 11 (U : Int)]) (fun n1 J U => a1.length < n1 + U /\ U <= a1.length /\ J.length <= 1 + 1 * U) (a1.length + 1) ([2] : List Int) 0 (fun p1 J U e1 j1 => ?_) (h0 := wkS [((5, 0), some (8, 0))] [])
 refine cFf e1 ?_ ?_ <;> intro k2 h1 e1
 ·have i1 := ix h1
  have m2 := ml a1 (k2 9 _ rfl)
  have c1 := sl 2326528 a1 u0
  have w1 := wr U
  have c2 := sl 2326528 (nth a1 U).Y0 u0
  simp [i1, ZE]
  refine rpS ?_
  refine cRs (JR a0 (([(nth a1 U).Key, (nth a1 U).Mark] : List Int) ++ (nth a1 U).Y0) (by simp (maxDischargeDepth := 12) [Jz, XO, Zb (m := 68719476736) (by decide) u0]; try omega)) ?_
  exact nx2 e1 (hw := XI [((5, 0), some (27, 0))] [] rfl (by simp [w1]))
 have c3 := sl 2326528 a1 u0
 have f := ms f e1
 refine cRs (JR a0 J (by first | (simp (maxDischargeDepth := 12) [XO]; omega) | (simp (maxDischargeDepth := 12) [Zb (m := 68719476736) (by decide) u0]; done))) ?_
 exact rt [.tmp 4] f
theorem PY (a0 : Int) (a1 : Int) (a2 : List Zf) (a3 : Int) (u0 : Sm 2322432 a2) : Sa 167 [rI a0, rI a1, rL 3 Zf.row a2, rI a3] [rI (WU a0 a1 a2 a3)] := by
 have f := me (WU.eq_1 a0 a1 a2 a3)
 refine so func167 ntmps167 ?_
 refine cRs (kp a0 a2 (sg u0)) ?_
 refine cRs (JR a0 ([3, a1, (Qt a0 a2), a3] : List Int) (by simp (maxDischargeDepth := 12) [Jz, XO, Zb (m := 68719476736) (by decide) u0]; try omega)) ?_
 exact rt [.tmp 8] f
theorem Iz (a0 : ZZ) (a1 : Int) (u0 : Sm 2318336 a0) : Sa 96 [a0.row, rI a1] [rI (Wq a0 a1)] := by
 have f := me (Wq.eq_1 a0 a1)
 refine so func96 ntmps96 ?_
 refine cFf f ?_ ?_ <;> intro k1 h1 f
 ·have i1 := ik (a0.ZM.Zj.length - 1) a0.ZM.Zj
  have m1 := ml a0.ZM.Zj (k1 9 _ rfl)
  have w1 : IntKind.i64.wrap ((a0.ZM.Zj.length : Int) - 1) = (a0.ZM.Zj.length : Int) - 1 := Yg (by omega) (by omega)
  simp [i1, ZE, w1, KM]
  refine rpS ?_
  refine cRs (jw a1 (nth a0.ZM.Zj (a0.ZM.Zj.length - 1)) (sg (YU (Zi.j0 (ZZ.JY u0))))) ?_
  refine dIs mixed ?_
  refine cRs (xf a1 a0.Doc (sg (ZZ.PG u0))) ?_
  refine cRs (PY a1 (YN a1 a0.Doc) a0.ZM.ZO (JD a1 (nth a0.ZM.Zj (a0.ZM.Zj.length - 1))) (sg (Zi.WX (ZZ.JY u0)))) ?_
  exact rt [.tmp 4] f
 refine dIs mixed ?_
 refine cRs (xf a1 a0.Doc (sg (ZZ.PG u0))) ?_
 refine cRs (PY a1 (YN a1 a0.Doc) a0.ZM.ZO 0 (sg (Zi.WX (ZZ.JY u0)))) ?_
 exact rt [.tmp 4] f
theorem Vx (a0 : ZF) (a1 : Int) (u0 : Sm 2314240 a0) : Sd 142 [a0.row, rI a1] [rL 1 iR (Y6 a0 a1)] := by
 have f := me (Y6.eq_1 a0 a1)
 refine soD func142 ntmps142 ?_
 refine lp2 (zJ.eq_2 a0 a1) (fun J U => Yy 23 [eI 1 a1, (5, .one (.sref 5 0 0 J.length), [.arr false 1 (J.map iR)]), eL 9 16 a0.ZC ZZ.row, eI 10 (a0.ZC.length : Int), eI 11 (U : Int)]) (fun n1 J U => a0.ZC.length < n1 + U /\ U <= a0.ZC.length /\ J.length <= 0 + 1 * U) (a0.ZC.length + 1) ([] : List Int) 0 (fun p1 J U e1 j1 => ?_) (h0 := wkS [((5, 0), none)] [])
 refine cFf e1 ?_ ?_ <;> intro k2 h1 e1
 ·have i1 := ix h1
  have m2 := ml a0.ZC (k2 9 _ rfl)
  have c1 := sl 2314240 a0.ZC u0
  have w1 := wr U
  simp [i1, ZE]
  refine rpS ?_
  refine cRs (Iz (nth a0.ZC U) a1 (sg (YU (ZF.Yn u0)))) ?_
  exact nx2 e1 (hw := XI [((5, 0), some (20, 0))] [] rfl (by simp [w1]))
 have c2 := sl 2314240 a0.ZC u0
 have f := ms f e1
 exact rtD [.tmp 4] f
theorem OD (a0 : Int) (a1 : Int) (a2 : Int) : Sa 245 [rI a0, rI a1, rI a2] [rI (xY a0 a1 a2)] := by
 have f := me (xY.eq_1 a0 a1 a2)
 refine so func245 ntmps245 ?_
 refine cRs (JR a0 ([1, a1, a2] : List Int) (by simp (maxDischargeDepth := 12) [Jz, XO]; try omega)) ?_
 exact rt [.tmp 6] f
theorem yr (a0 : Int) (a1 : List Int) (u0 : Sm 2322432 a1) : Sd 215 [rI a0, rL 1 iR a1] [rL 1 iR (Qs a0 a1)] := by
 have f := me (Qs.eq_1 a0 a1)
 refine soD func215 ntmps215 ?_
 refine lp2 (QZ.eq_2 a0 a1) (fun J U => Yy 40 [eI 0 a0, eL 1 1 a1 iR, (5, .one (.sref 5 0 0 J.length), [.arr false 1 (J.map iR)]), eI 6 (U : Int)]) (fun n1 J U => a1.length < n1 + U /\ U <= a1.length + 1 /\ J.length <= U) (a1.length + 1) ([] : List Int) 0 (fun p1 J U e1 j1 => ?_) (h0 := wkS [((5, 0), none)] [])
 try dsimp only at j1
 refine cF e1 ?_ ?_ <;> intro k2 h1 e1
 ·have i1 := ix h1
  have m2 := ml a1 (k2 1 _ rfl)
  have c1 := sl 2322432 a1 u0
  have w1 := wr U
  refine cFt e1 ?_ ?_ <;> intro k3 h2 e1
  ·refine okD fun k4 => ?_
   refine dIo mixed ?_
   have i2 := ik (W ((U : Int) + 1)).toNat a1
   simp [i1, ZE, i2]
   refine rpS ?_
   refine cRs (OD a0 (nth a1 U) (nth a1 (W ((U : Int) + 1)).toNat)) ?_ (uN := by first | (simp; done) | (simp [W, w1]; done))
   have w2 : IntKind.i64.wrap ((U : Int) + 2) = (U : Int) + 2 := Yg (by omega) (by omega)
   exact nx2 e1 (hI := by first | omega | (simp at *; omega)) (hw := XI [((5, 0), some (31, 0))] [] rfl (by simp [w1, w2]))
  simp [i1, ZE]
  refine rpS ?_
  have w3 : IntKind.i64.wrap ((U : Int) + 2) = (U : Int) + 2 := Yg (by omega) (by omega)
  exact nx2 e1 (hI := by first | omega | (simp at *; omega)) (hw := XI [((5, 0), some (38, 0))] [] rfl (by simp [w1, w3]))
 have c2 := sl 2322432 a1 u0
 have f := ms f e1
 exact rtD [.tmp 4] f
theorem TG (a0 : Int) (a1 : List Int) (u0 : Sm 2318336 a1) : Sa 141 [rI a0, rL 1 iR a1] [rI (y0 a0 a1)] := by
 have f := me (y0.eq_1 a0 a1)
 refine so func141 ntmps141 ?_
 refine cRs (Zt (a1.length : Int) 1 16) ?_
 refine cFo f ?_ ?_ <;> intro k1 h1 f
 ·have q1 := h1; try simp [Za] at q1
  simp
  exact rt [.tmp 4] f
 have q1 := h1; try simp [Za] at q1
 simp
 refine lp1 (xW.eq_2 a0) (fun J => Yy 18 [eI 0 a0, eL 1 1 J iR]) (fun n1 J => J.length < n1 /\ 1 <= J.length /\ J.length <= 16) (a1.length + 1) a1 (fun p1 J e1 j1 => ?_) (hI := by first | omega | (simp at *; omega))
 try dsimp only at j1
 refine cFt e1 ?_ ?_ <;> intro k3 h2 e1
 ·refine cRs (YP.rd (yr a0 J (by first | (simp (maxDischargeDepth := 12) [XO]; omega) | (simp (maxDischargeDepth := 12) [Zb (m := 2322432) (by decide) u0]; done)))) ?_
  exact nx1 e1 (hI := by (have z := yP a0 J (by omega); (try dsimp only); simp at *; omega))
 have f := ms f e1
 have i1 := ik 0 J
 simp [i1, ZE]
 refine rpS ?_
 exact rt [.tmp 4] f
theorem RC (a0 : ZF) (a1 : Int) (u0 : Sm 2310144 a0) : Sa 77 [a0.row, rI a1] [rI (XR a0 a1)] := by
 have f := me (XR.eq_1 a0 a1)
 refine so func77 ntmps77 ?_
 refine cRs (YP.rd (Vx a0 a1 (sg u0))) ?_
 refine cRs (TG a1 (Y6 a0 a1) (by simp (maxDischargeDepth := 12) [jx, Zb (m := 2318336) (by decide) u0]; try omega)) ?_
 exact rt [.tmp 4] f
theorem xo (a0 : List Y4) (a1 : List Zr) (a2 : Zo) (u0 : Sm 2318336 a0) (u1 : Sm 2318336 a1) : Sa 78 [rL 5 Y4.row a0, rL 3 Zr.row a1, a2.row] [(JV a0 a1 a2).1.row, rB (JV a0 a1 a2).2] := by
 have f := me (JV.eq_1 a0 a1 a2)
 refine so func78 ntmps78 ?_
 refine cRs (y5 a1 a2.Authority) ?_
 refine cGs (fun gg => (K0 a2.Time)) ?_
 refine cF f ?_ ?_ <;> intro k1 h1 f
 ·exact rt [.cell 6 125, .tmp 7] f
 refine dIo mixed ?_
 have i1 : (ZW a1 a2.Authority).toNat < a1.length := by have := XQ a1 a2.Authority; exact il
 simp [i1, ZE]
 refine rpS ?_
 refine cRs (YP.rd (UX a2)) ?_
 refine cRs (kl a0 (nth a1 (ZW a1 a2.Authority).toNat).Key (Q4 a2) (sg u0) (by simp (maxDischargeDepth := 12) [NA, Zb (m := 2322432) (by decide) u0, Zb (m := 2322432) (by decide) u1]; try omega)) ?_
 refine cF f ?_ ?_ <;> intro k3 h2 f
 ·exact rt [.cell 6 125, .tmp 7] f
 exact rt [.cell 6 125, .tmp 7] f
theorem TZ {a b : Prop} (h : b) (k : a := by (intros; first | omega | with_unfolding_all (first | first | omega | (have tm := Int.tmod_eq_emod_of_nonneg (b := 2) (show 0 <= U by omega); (try simp only [Xc, show ∀ x, IntKind.i64.wrap x = W x from fun _ => rfl] at *); (try simp at *); omega)) | ((try simp only [Xc, show ∀ x, IntKind.i64.wrap x = W x from fun _ => rfl] at *); omega))) : a /\ b := ⟨k, h⟩
theorem M9 (a0 : Int) (a1 : List Int) (a2 : Int) (u0 : Sm 2318336 a1) : Sd 145 [rI a0, rL 1 iR a1, rI a2] [rL 2 X4.row (X3 a0 a1 a2)] := by
 have f := me (X3.eq_1 a0 a1 a2)
 refine soD func145 ntmps145 ?_
 refine cRs (Zt a2 0 (W ((a1.length : Int) - 1))) ?_
 have c1 := sl 2318336 a1 u0
 have w1 : IntKind.i64.wrap ((a1.length : Int) - 1) = (a1.length : Int) - 1 := Yg (by omega) (by omega)
 refine cFo f ?_ ?_ <;> intro k1 h1 f
 ·have q1 := h1; try simp [Za, w1] at q1
  simp
  exact rtD [.tmp 6] f
 have q1 := h1; try simp [Za, w1] at q1
 simp
 refine lp3 (JN.eq_2 a0) (fun J U v9 => Yy 54 [eI 0 a0, eL 1 1 J iR, eI 2 U, (7, .one (.sref 7 0 0 v9.length), [.arr false 2 (v9.map X4.row)])]) (fun n1 J U v9 => J.length < n1 /\ 0 <= U /\ U < (J.length : Int) /\ J.length <= 16 /\ v9.length + n1 <= 17) (a1.length + 1) a1 a2 ([] : List X4) (fun p1 J U v9 e1 j1 => ?_) (hI := by first | omega | (simp at *; omega)) (h0 := wkS [((7, 0), none)] [])
 try dsimp only at j1
 refine cF e1 ?_ ?_ <;> intro k3 h2 e1
 ·refine cFf e1 ?_ ?_ <;> intro k4 h3 e1
  ·have i1 : (W (U - 1)).toNat < J.length := by first | omega | (have tm := Int.tmod_eq_emod_of_nonneg (b := 2) (show 0 <= U by omega); (try simp only [Xc, show ∀ x, IntKind.i64.wrap x = W x from fun _ => rfl] at *); (try simp at *); omega)
   simp [i1, ZE]
   repeat with_reducible refine TZ ?_
   refine cRs (YP.rd (yr a0 J (by first | (simp (maxDischargeDepth := 12) [XO]; omega) | (simp (maxDischargeDepth := 12) [Zb (m := 2322432) (by decide) u0]; done)))) ?_
   exact nx3 e1 (hI := by (have z := yP a0 J (by omega); have td := Int.tdiv_eq_ediv_of_nonneg (b := 2) (show 0 <= U by omega); have w2 : W (Int.tdiv U 2) = Int.tdiv U 2 := Yg (by omega) (by omega); (try dsimp only); rw [w2]; simp at *; omega)) (hw := XI [((7, 0), some (33, 0))] [] rfl (by simp [w1]))
  refine cFo e1 ?_ ?_ <;> intro k5 h4 e1
  ·have q4 := h4; try simp [w1] at q4
   have i2 : (W (U + 1)).toNat < J.length := by first | omega | (have tm := Int.tmod_eq_emod_of_nonneg (b := 2) (show 0 <= U by omega); (try simp only [Xc, show ∀ x, IntKind.i64.wrap x = W x from fun _ => rfl] at *); (try simp at *); omega)
   simp [i2, ZE]
   repeat with_reducible refine TZ ?_
   refine cRs (YP.rd (yr a0 J (by first | (simp (maxDischargeDepth := 12) [XO]; omega) | (simp (maxDischargeDepth := 12) [Zb (m := 2322432) (by decide) u0]; done)))) ?_
   exact nx3 e1 (hI := by (have z := yP a0 J (by omega); have td := Int.tdiv_eq_ediv_of_nonneg (b := 2) (show 0 <= U by omega); have w2 : W (Int.tdiv U 2) = Int.tdiv U 2 := Yg (by omega) (by omega); (try dsimp only); rw [w2]; simp at *; omega)) (hw := XI [((7, 0), some (47, 0))] [] rfl (by simp [w1]))
  have q4 := h4; try simp [w1] at q4
  simp
  refine cRs (YP.rd (yr a0 J (by first | (simp (maxDischargeDepth := 12) [XO]; omega) | (simp (maxDischargeDepth := 12) [Zb (m := 2322432) (by decide) u0]; done)))) ?_
  exact ny3 w1 e1 (hI := by (have z := yP a0 J (by omega); have td := Int.tdiv_eq_ediv_of_nonneg (b := 2) (show 0 <= U by omega); have w2 : W (Int.tdiv U 2) = Int.tdiv U 2 := Yg (by omega) (by omega); (try dsimp only); rw [w2]; simp at *; omega))
 have f := ms f e1
 exact rtD [.tmp 6] f
theorem Pw (a0 : Zi) (a1 : Zc) (u0 : Sm 2326528 a0) (u1 : Sm 2326528 a1) : Sd 97 [a0.row, a1.row] [(XF a0 a1).1.row, rB (XF a0 a1).2] := by
 have f := me (XF.eq_1 a0 a1)
 refine soD func97 ntmps97 ?_
 refine cDs [] (Kl a0 (sg u0)) ?_
 refine drJ [14] mixed ?_
 simp
 refine cDs [true, true, true, false, false] (kh a1 (sg u1)) ?_
 refine jG ?_
 have c1 := sl 2326528 a0.Zj (an u0 u1)
 simp
 refine kC (uC := (a0.Zj.map Zc.row)) (news := (([a1] : List Zc).map Zc.row)) (l1 := [(8, 1)]) (l2 := [(12, 3), (12, 4)]) (size := 5) ?_
 simp
 refine cRs (ku (Zi.mk a0.ZO (a0.Zj ++ ([a1] : List Zc)))) ?_
 refine cF f ?_ ?_ <;> intro k2 h1 f
 ·refine cDs [] (Kl a0 (sg u0)) ?_
  exact rtD [.cell 4 80, .tmp 5] f
 exact rtD [.cell 4 80, .tmp 5] f
theorem Rt (a0 : ZF) (a1 : Int) (a2 : List Zo) (u0 : Sm 2306048 a0) (u1 : Sm 2306048 a2) : Sd 79 [a0.row, rI a1, rL 5 Zo.row a2] [(Yl a0 a1 a2).1.row, rB (Yl a0 a1 a2).2] := by
 have f := me (Yl.eq_1 a0 a1 a2)
 refine soD func79 ntmps79 ?_
 refine cGs (fun gg => (Kw a0)) ?_
 refine cF f ?_ ?_ <;> intro k1 h1 f
 ·refine cDs [] (YL a0 (sg u0)) ?_
  exact rtD [.cell 6 85, .tmp 7] f
 refine cDs [] (YL a0 (sg u0)) ?_
 refine cRs (YP.rd (Vx a0 a1 (sg u0))) ?_
 refine lp2 (XA.eq_2 a0 a1 a2) (fun J U => Yy 75 [eI 1 a1, eL 2 5 a2 Zo.row, eX 3 (a0.row.map .d), (6, .one (.bptr 6 0), [.box [.d (.int .i64 0), .nil 16]]), (8, .one (.bptr 8 0), [.box [.d (.int .i64 a0.Id), .sref 26 1 0 U.length]]), eL 9 1 (Y6 a0 a1) iR, (26, .any, [.none, .arr true 16 (U.map ZZ.row)]), eL 31 16 a0.ZC ZZ.row, eI 32 (a0.ZC.length : Int), eI 33 (J : Int)]) (fun n1 J U => a0.ZC.length < n1 + J /\ J <= a0.ZC.length /\ U.length = a0.ZC.length) (a0.ZC.length + 1) 0 a0.ZC (fun p1 J U e1 j1 => ?_)
 refine cFf e1 ?_ ?_ <;> intro k3 h2 e1
 ·have i1 := ix h2
  have m2 := ml a0.ZC (k3 31 _ rfl)
  have c1 := sl 2306048 a0.ZC (an u0 u1)
  have w1 := wr J
  simp [i1, ZE]
  refine rpS ?_
  refine dIs mixed ?_
  refine cRs (RC a0 a1 (sg u0)) ?_
  refine cRs (YP.rd (M9 a1 (Y6 a0 a1) (J : Int) (by simp (maxDischargeDepth := 12) [jx, Zb (m := 2318336) (by decide) u0, Zb (m := 2318336) (by decide) u1]; try omega))) ?_
  refine cDs [] (Pw (nth a0.ZC J).ZM (Zc.mk ((nth a0.ZC J).ZM.ZO.length : Int) a1 (XR a0 a1) (X3 a1 (Y6 a0 a1) (J : Int)) a2) (sg (ZZ.JY (YU (ZF.Yn u0)))) (by simp (maxDischargeDepth := 12) [TI, jx, Zb (m := 2326528) (by decide) u0, Zb (m := 2326528) (by decide) u1]; try omega)) ?_
  refine cFt e1 ?_ ?_ <;> intro k5 h3 e1
  ·refine cDs [] (YL a0 (sg u0)) ?_
   have f := ms f e1
   exact rtD [.cell 6 85, .tmp 7] f
  have i2 := ik J U
  simp [i2, ZE]
  refine rpS ?_
  refine C5 (t := 26) (j := 1) (i := J) (c := 14) (size := 16) (rows := (U.map ZZ.row)) (ds := (XF (nth a0.ZC J).ZM (Zc.mk ((nth a0.ZC J).ZM.ZO.length : Int) a1 (XR a0 a1) (X3 a1 (Y6 a0 a1) (J : Int)) a2)).1.row) (L := [(55, 0), (55, 1)]) rfl rfl rfl rfl (by simp) (by simp) (by simp; try omega) (by simp) (by simp) (by simp) (by simp) (by simp) (by simp) ?_
  simp [XW (x := (ZZ.mk (nth U J).Id (nth U J).Y9 (nth U J).Doc (nth U J).Sig (XF (nth a0.ZC J).ZM (Zc.mk ((nth a0.ZC J).ZM.ZO.length : Int) a1 (XR a0 a1) (X3 a1 (Y6 a0 a1) (J : Int)) a2)).1)) rfl, i2, ZE, YZ]
  refine rpS ?_
  exact ny2 w1 e1
 have c2 := sl 2306048 a0.ZC (an u0 u1)
 have f := ms f e1
 refine cRs (Kw (ZF.mk a0.Id U)) ?_
 refine cF f ?_ ?_ <;> intro k6 h4 f
 ·refine cDs [] (YL a0 (sg u0)) ?_
  exact rtD [.cell 6 85, .tmp 7] f
 exact rtD [.cell 6 85, .tmp 7] f
theorem MG (a0 : ZH) (a1 : Int) (a2 : List Int) (a3 : Int) (u0 : Sm 2301952 a0) (u1 : Sm 2301952 a2) : Sd 16 [a0.row, rI a1, rL 1 iR a2, rI a3] [(YV a0 a1 a2 a3).1.row, rB (YV a0 a1 a2 a3).2] := by
 have f := me (YV.eq_1 a0 a1 a2 a3)
 refine soD func16 ntmps16 ?_
 refine cDs [false, false, false, true, true, false, false, true, false, false, true, false] (YO a0 (sg u0)) ?_
 refine cRs (jD a0.Frame.Methods a0.Frame.Now) ?_
 refine cRs (Kn a0 a1) ?_
 refine cGs (fun gg => (jf a2)) ?_
 refine cGs (fun gg => (Zt a3 (-10000) 10000)) ?_
 have c1 := sl 2301952 a0.ZA (an u0 u1)
 have w1 : IntKind.i64.wrap ((a0.ZA.length : Int) - 1) = (a0.ZA.length : Int) - 1 := Yg (by omega) (by omega)
 refine cFo f ?_ ?_ <;> intro k1 h1 f
 ·have q1 := h1; try simp [Za, w1, Z6] at q1
  simp
  exact rtD [.cell 8 33, .tmp 9] f
 have q1 := h1; try simp [Za, w1, Z6] at q1
 have i1 := ik a1.toNat a0.ZA
 simp [i1, ZE]
 refine rpS ?_
 refine cRs (RC (nth a0.ZA a1.toNat) (ZX a0.Frame.Methods a0.Frame.Now) (sg (YU (ZH.YX u0)))) ?_
 refine lp3 (Ya.eq_2 a0 a1 a2 a3) (fun J U v9 => Yy 175 [eI 1 a1, eI 3 a3, eX 4 (a0.row.map .d), (8, .one (.bptr 8 0), [.box [.nil 5, .nil 3, .nil 4, .d (.int .i64 0), .d (.int .i64 0), .nil 7, .nil 1, .nil 2, .nil 1, .nil 1, .d (.int .i64 0), .nil 1]]), eX 10 (a0.Frame.row.map .d), (11, .one (.bptr 11 0), [.box [.sref 27 0 0 a0.Frame.Zk.length, .sref 27 1 0 a0.Frame.ZD.length, .sref 27 2 0 a0.Frame.Methods.length, .d (.int .i64 a0.Frame.Ky), .d (.int .i64 a0.Frame.Now), .sref 27 5 0 a0.ZR.length, .sref 27 6 0 a0.Zu.length, .sref 27 7 0 a0.ZA.length, .sref 27 8 0 v9.length, .sref 27 9 0 a0.YW.length, .d (.int .i64 a0.Next), .sref 27 11 0 a0.Yk.length]]), eI 12 (ZX a0.Frame.Methods a0.Frame.Now), eI 13 (XR (nth a0.ZA a1.toNat) (ZX a0.Frame.Methods a0.Frame.Now)), (14, .one (.sref 14 0 0 J.length), [.arr false 5 (J.map Zo.row)]), (27, .any, [.arr false 5 (a0.Frame.Zk.map Y4.row), .arr false 3 (a0.Frame.ZD.map Zr.row), .arr false 4 (a0.Frame.Methods.map YH.row), .none, .none, .arr false 7 (a0.ZR.map Ye.row), .arr false 1 (a0.Zu.map iR), .arr true 2 (a0.ZA.map ZF.row), .arr false 1 (v9.map iR), .arr false 1 (a0.YW.map iR), .none, .arr false 1 (a0.Yk.map iR)]), eL 64 1 a2 iR, eI 65 (a2.length : Int), eI 66 (U : Int)]) (fun n1 J U v9 => a2.length < n1 + U /\ U <= a2.length /\ J.length <= 0 + 1 * U /\ v9.length = a0.YG.length) (a2.length + 1) ([] : List Zo) 0 a0.YG (fun p1 J U v9 e1 j1 => ?_) (h0 := wkS [((14, 0), none)] [])
 refine cFo e1 ?_ ?_ <;> intro k3 h2 e1
 ·have i2 := ix h2
  have m2 := ml a2 (k3 64 _ rfl)
  have c2 := sl 2301952 a2 (an u0 u1)
  have w2 := wr U
  simp [i2, ZE]
  refine rpS ?_
  refine cRs (y5 a0.Frame.ZD (nth a2 U)) ?_
  refine cF e1 ?_ ?_ <;> intro k4 h3 e1
  ·refine cDs [false, false, false, true, true, false, false, true, false, false, true, false] (YO a0 (sg u0)) ?_
   have f := ms f e1
   exact rtD [.cell 8 33, .tmp 9] f
  refine dIo mixed ?_
  have i3 : (ZW a0.Frame.ZD (nth a2 U)).toNat < a0.Frame.ZD.length := by have := XQ a0.Frame.ZD (nth a2 U); exact il
  simp [i3, ZE]
  refine rpS ?_
  refine cRs (yF a0.Frame.Zk (nth a0.Frame.ZD (ZW a0.Frame.ZD (nth a2 U)).toNat).Key) ?_
  refine dIs mixed ?_
  refine gIf ?_ ?_ <;> intro G
  ·have i4 : (YB a0.Frame.Zk (nth a0.Frame.ZD (ZW a0.Frame.ZD (nth a2 U)).toNat).Key).toNat < a0.Frame.Zk.length := by have := xl a0.Frame.Zk (nth a0.Frame.ZD (ZW a0.Frame.ZD (nth a2 U)).toNat).Key; exact il
   simp [i4, ZE, G]
   refine rpG ?_
   refine cK e1 ?_ ?_ <;> intro k7 h4 e1
   ·try (simp [G] at h4; done)
    all_goals
     refine cDg [false, false, false, true, true, false, false, true, false, false, true, false] (YO a0 (sg u0)) ?_
     have f := ms f e1
     exact Q6 [.cell 8 33, .tmp 9] f
   ·try (simp [G] at h4; done)
    all_goals
     refine cRg (UT a0.YW (nth a2 U)) ?_
     refine cK e1 ?_ ?_ <;> intro k8 h5 e1
     ·try (simp [G] at h5; done)
      all_goals
       refine dIo mixed ?_
       have i5 : (ZW a0.Frame.ZD (nth a2 U)).toNat < a0.YG.length := by have := XQ a0.Frame.ZD (nth a2 U); exact il
       simp [i5, ZE, G]
       refine rpG ?_
       refine cRg (xo a0.Frame.Zk a0.Frame.ZD (Zo.mk (nth a2 U) (nth a0.YG (ZW a0.Frame.ZD (nth a2 U)).toNat) (if (if (W (a0.Frame.Now + a3)) < 10000 then (W (a0.Frame.Now + a3)) else 10000) > 0 then (if (W (a0.Frame.Now + a3)) < 10000 then (W (a0.Frame.Now + a3)) else 10000) else 0) (XR (nth a0.ZA a1.toNat) (ZX a0.Frame.Methods a0.Frame.Now)) 0) (sg (Zv.zc (ZH.XY u0))) (sg (Zv.Jf (ZH.XY u0)))) ?_ (uN := by first | (simp; done) | (simp [W, w1, w2]; done))
       refine cKo e1 ?_ ?_ <;> intro np h6 e1
       ·try (simp [G] at h6; done)
        all_goals
         have q6 := h6; try simp [w1] at q6
         simp [G]
         refine rpG ?_
         refine cDg [false, false, false, true, true, false, false, true, false, false, true, false] (YO a0 (sg u0)) ?_
         have f := ms f e1
         exact Q6 [.cell 8 33, .tmp 9] f
       ·try (simp [G] at h6; done)
        all_goals
         have q6 := h6; try simp [w1] at q6
         have i6 : (ZW a0.Frame.ZD (nth a2 U)).toNat < v9.length := by have := XQ a0.Frame.ZD (nth a2 U); exact il
         simp [i6, ZE, XW (x := (W ((nth v9 (ZW a0.Frame.ZD (nth a2 U)).toNat) + 1))) rfl, G]
         refine rpG ?_
         exact nx3 e1 (hw := XI [((14, 0), some (145, 0))] [] rfl (by simp [w1, w2, G]))
     ·try (simp [G] at h5; done)
      all_goals
       refine dIo mixed ?_
       have i7 : (ZW a0.Frame.ZD (nth a2 U)).toNat < a0.YG.length := by have := XQ a0.Frame.ZD (nth a2 U); exact il
       simp [i7, ZE, G]
       refine rpG ?_
       refine cRg (xo a0.Frame.Zk a0.Frame.ZD (Zo.mk (nth a2 U) (nth a0.YG (ZW a0.Frame.ZD (nth a2 U)).toNat) a0.Frame.Now (XR (nth a0.ZA a1.toNat) (ZX a0.Frame.Methods a0.Frame.Now)) 0) (sg (Zv.zc (ZH.XY u0))) (sg (Zv.Jf (ZH.XY u0)))) ?_
       refine cKt e1 ?_ ?_ <;> intro cL h7 e1
       ·try (simp [G] at h7; done)
        all_goals
         refine cDg [false, false, false, true, true, false, false, true, false, false, true, false] (YO a0 (sg u0)) ?_
         have f := ms f e1
         exact Q6 [.cell 8 33, .tmp 9] f
       ·try (simp [G] at h7; done)
        all_goals
         have i8 : (ZW a0.Frame.ZD (nth a2 U)).toNat < v9.length := by have := XQ a0.Frame.ZD (nth a2 U); exact il
         simp [i8, ZE, XW (x := (W ((nth v9 (ZW a0.Frame.ZD (nth a2 U)).toNat) + 1))) rfl, G]
         refine rpG ?_
         exact nx3 e1 (hw := XI [((14, 0), some (145, 0))] [] rfl (by simp [w1, w2, G]))
  ·refine cK e1 ?_ ?_ <;> intro mG h8 e1
   ·try (simp [G] at h8; done)
    all_goals
     refine cDg [false, false, false, true, true, false, false, true, false, false, true, false] (YO a0 (sg u0)) ?_
     have f := ms f e1
     exact Q6 [.cell 8 33, .tmp 9] f
   ·try (simp [G] at h8; done)
    all_goals
     refine cRg (UT a0.YW (nth a2 U)) ?_
     refine cK e1 ?_ ?_ <;> intro fW h9 e1
     ·try (simp [G] at h9; done)
      all_goals
       refine dIo mixed ?_
       have i10 : (ZW a0.Frame.ZD (nth a2 U)).toNat < a0.YG.length := by have := XQ a0.Frame.ZD (nth a2 U); exact il
       simp [i10, ZE, G]
       refine rpG ?_
       refine cRg (xo a0.Frame.Zk a0.Frame.ZD (Zo.mk (nth a2 U) (nth a0.YG (ZW a0.Frame.ZD (nth a2 U)).toNat) (if (if (W (a0.Frame.Now + a3)) < 10000 then (W (a0.Frame.Now + a3)) else 10000) > 0 then (if (W (a0.Frame.Now + a3)) < 10000 then (W (a0.Frame.Now + a3)) else 10000) else 0) (XR (nth a0.ZA a1.toNat) (ZX a0.Frame.Methods a0.Frame.Now)) 0) (sg (Zv.zc (ZH.XY u0))) (sg (Zv.Jf (ZH.XY u0)))) ?_ (uN := by first | (simp; done) | (simp [W, w1, w2]; done))
       refine cKo e1 ?_ ?_ <;> intro fX ru e1
       ·try (simp [G] at ru; done)
        all_goals
         have fY := ru; try simp [w1] at fY
         simp [G]
         refine rpG ?_
         refine cDg [false, false, false, true, true, false, false, true, false, false, true, false] (YO a0 (sg u0)) ?_
         have f := ms f e1
         exact Q6 [.cell 8 33, .tmp 9] f
       ·try (simp [G] at ru; done)
        all_goals
         have fY := ru; try simp [w1] at fY
         have i11 : (ZW a0.Frame.ZD (nth a2 U)).toNat < v9.length := by have := XQ a0.Frame.ZD (nth a2 U); exact il
         simp [i11, ZE, XW (x := (W ((nth v9 (ZW a0.Frame.ZD (nth a2 U)).toNat) + 1))) rfl, G]
         refine rpG ?_
         exact nx3 e1 (hw := XI [((14, 0), some (145, 0))] [] rfl (by simp [w1, w2, G]))
     ·try (simp [G] at h9; done)
      all_goals
       refine dIo mixed ?_
       have i12 : (ZW a0.Frame.ZD (nth a2 U)).toNat < a0.YG.length := by have := XQ a0.Frame.ZD (nth a2 U); exact il
       simp [i12, ZE, G]
       refine rpG ?_
       refine cRg (xo a0.Frame.Zk a0.Frame.ZD (Zo.mk (nth a2 U) (nth a0.YG (ZW a0.Frame.ZD (nth a2 U)).toNat) a0.Frame.Now (XR (nth a0.ZA a1.toNat) (ZX a0.Frame.Methods a0.Frame.Now)) 0) (sg (Zv.zc (ZH.XY u0))) (sg (Zv.Jf (ZH.XY u0)))) ?_
       refine cKt e1 ?_ ?_ <;> intro cM nq e1
       ·try (simp [G] at nq; done)
        all_goals
         refine cDg [false, false, false, true, true, false, false, true, false, false, true, false] (YO a0 (sg u0)) ?_
         have f := ms f e1
         exact Q6 [.cell 8 33, .tmp 9] f
       ·try (simp [G] at nq; done)
        all_goals
         have i13 : (ZW a0.Frame.ZD (nth a2 U)).toNat < v9.length := by have := XQ a0.Frame.ZD (nth a2 U); exact il
         simp [i13, ZE, XW (x := (W ((nth v9 (ZW a0.Frame.ZD (nth a2 U)).toNat) + 1))) rfl, G]
         refine rpG ?_
         exact nx3 e1 (hw := XI [((14, 0), some (145, 0))] [] rfl (by simp [w1, w2, G]))
 have c3 := sl 2301952 a2 (an u0 u1)
 have f := ms f e1
 simp [i1, ZE]
 refine rpS ?_
 refine cDs [] (Rt (nth a0.ZA a1.toNat) (ZX a0.Frame.Methods a0.Frame.Now) J (sg (YU (ZH.YX u0))) (by first | (simp (maxDischargeDepth := 12) [XO]; omega) | (simp (maxDischargeDepth := 12) [Zb (m := 2306048) (by decide) u0, Zb (m := 2306048) (by decide) u1]; done))) ?_
 refine cFt f ?_ ?_ <;> intro bQ lN f
 ·refine cDs [false, false, false, true, true, false, false, true, false, false, true, false] (YO a0 (sg u0)) ?_
  exact rtD [.cell 8 33, .tmp 9] f
 simp [i1, ZE]
 refine rpS ?_
 refine Vk (t := 27) (j := 7) (i := a1.toNat) (size := 2) (rows := (a0.ZA.map ZF.row)) (ds := (Yl (nth a0.ZA a1.toNat) (ZX a0.Frame.Methods a0.Frame.Now) J).1.row) (L := [(162, 1)]) ?_
 simp [XW (x := (Yl (nth a0.ZA a1.toNat) (ZX a0.Frame.Methods a0.Frame.Now) J).1) rfl, c1, i1, ZE, YZ]
 refine rpS ?_
 exact rtD [.cell 8 33, .tmp 9] f
theorem Hn (a0 : ZH) (a1 : Int) : Sa 35 [a0.row, rI a1] [rI (Yi a0 a1).1, rI (Yi a0 a1).2] := by
 have f := me (Yi.eq_1 a0 a1)
 refine so func35 ntmps35 ?_
 refine lp1 (zj.eq_2 a0 a1) (fun J => Yy 25 [eI 1 a1, eL 10 2 a0.ZA ZF.row, eI 11 (a0.ZA.length : Int), eI 12 (J : Int)]) (fun n1 J => a0.ZA.length < n1 + J /\ J <= a0.ZA.length) (a0.ZA.length + 1) 0 (fun p1 J e1 j1 => ?_)
 refine cFf e1 ?_ ?_ <;> intro k2 h1 e1
 ·have i1 := ix h1
  have m2 := ml a0.ZA (k2 10 _ rfl)
  have w1 := wr J
  simp [i1, ZE]
  refine rpS ?_
  refine cRs (yh (nth a0.ZA J) a1) ?_
  refine cF e1 ?_ ?_ <;> intro k3 h2 e1
  ·have f := ms f e1
   exact rt [.tmp 4, .tmp 5] f
  exact ny1 w1 e1
 have f := ms f e1
 exact rt [.tmp 4, .tmp 5] f
theorem RS (a0 : Zf) : Sa 217 [a0.row] [rI (Xt a0)] := by
 have f := me (Xt.eq_1 a0)
 refine so func217 ntmps217 ?_
 refine dIs mixed ?_
 refine gIf ?_ ?_ <;> intro G
 ·have i1 := ik 0 a0.Y0
  simp [i1, ZE, G]
  refine rpG ?_
  refine cGg (fun gg => (Zt (nth a0.Y0 0) 101 105)) ?_
  refine gJf G ?_ ?_ <;> intro G
  ·try (simp at G; done)
   all_goals
    have g2 := G.2; try simp [Za] at g2
    all_goals
     simp [i1, ZE, G]
     refine rpG ?_
     refine gK (fun _ => ?_)
     have r1 : ∀ i : Nat, i < 5 -> cut [At.d (.int .i64 7), At.d (.int .i64 5), At.d (.int .i64 5), At.d (.int .i64 9), At.d (.int .i64 6)] i 1 = [At.d (.int .i64 (nth ([7, 5, 5, 9, 6] : List Int) i))] := by intro i h; (have z : i = 0 \/ i = 1 \/ i = 2 \/ i = 3 \/ i = 4 := by omega); rcases z with rfl | rfl | rfl | rfl | rfl <;> rfl
     have i2 : (W ((nth a0.Y0 0) - 101)).toNat < 5 := by first | omega | ((try simp only [Xc, show ∀ x, IntKind.i64.wrap x = W x from fun _ => rfl] at *); omega)
     have eW := r1 _ i2; simp only [cut] at eW
     simp [r1 _ i2, eW, G]
     refine rpG ?_
     refine cKo f ?_ ?_ <;> intro k2 h1 f
     ·have q1 := h1; try simp [Za] at q1
      simp [G]
      refine rpG ?_
      exact rtg [.tmp 2] f
     ·have q1 := h1; try simp [Za] at q1
      simp [i1, ZE, G]
      refine rpG ?_
      exact rtg [.tmp 2] f
  ·try (simp at G; done)
   all_goals
    refine sGg ?_
    refine cKo f ?_ ?_ <;> intro k3 h2 f
    ·have q2 := h2; try simp [Za] at q2
     simp [G]
     refine rpG ?_
     exact rtg [.tmp 2] f
    ·simp [G] at h2
 ·refine sGo ?_
  simp [G]
  refine rpG ?_
  refine gJf G ?_ ?_ <;> intro G
  ·try (simp at G; done)
   all_goals
    have g3 := G.2; try simp [Za] at g3
    all_goals
     have i5 := ik 0 a0.Y0
     simp [i5, ZE, G]
     refine rpG ?_
     refine gK (fun _ => ?_)
     have r3 : ∀ i : Nat, i < 5 -> cut [At.d (.int .i64 7), At.d (.int .i64 5), At.d (.int .i64 5), At.d (.int .i64 9), At.d (.int .i64 6)] i 1 = [At.d (.int .i64 (nth ([7, 5, 5, 9, 6] : List Int) i))] := by intro i h; (have z : i = 0 \/ i = 1 \/ i = 2 \/ i = 3 \/ i = 4 := by omega); rcases z with rfl | rfl | rfl | rfl | rfl <;> rfl
     have i6 : (W ((nth a0.Y0 0) - 101)).toNat < 5 := by first | omega | ((try simp only [Xc, show ∀ x, IntKind.i64.wrap x = W x from fun _ => rfl] at *); omega)
     have eY := r3 _ i6; simp only [cut] at eY
     simp [r3 _ i6, eY, G]
     refine rpG ?_
     refine cKo f ?_ ?_ <;> intro k4 h3 f
     ·simp [G] at h3
     ·simp [G] at h3
  ·try (simp at G; done)
   all_goals
    refine sGg ?_
    refine cKo f ?_ ?_ <;> intro k5 h4 f
    ·have q4 := h4; try simp [Za] at q4
     simp [G]
     refine rpG ?_
     exact rtg [.tmp 2] f
    ·simp [G] at h4
theorem ME (a0 : Zf) : Sa 147 [a0.row] [(JT a0).1.row, rB (JT a0).2] := by
 have f := me (JT.eq_1 a0)
 refine so func147 ntmps147 ?_
 refine dIs mixed ?_
 refine cRs (RS a0) ?_
 refine gIf ?_ ?_ <;> intro G
 ·have sv := G
  have g1 := G; try simp at g1
  have i1 : 6 < a0.Y0.length := by (have z := XB a0; simp_all; done)
  simp [i1, ZE, G]
  refine rpG ?_
  refine cK f ?_ ?_ <;> intro k2 h1 f
  ·try (simp [G] at h1; done)
   all_goals
    exact rtg [.cell 2 111, .tmp 3] f
  ·try (simp [G] at h1; done)
   all_goals
    refine dIo mixed ?_
    have i2 : 1 < a0.Y0.length := by (have z := XB a0; simp_all; done)
    have i3 : 2 < a0.Y0.length := by (have z := XB a0; simp_all; done)
    have i4 : 3 < a0.Y0.length := by (have z := XB a0; simp_all; done)
    have i5 : 4 < a0.Y0.length := by (have z := XB a0; simp_all; done)
    have i6 : 5 < a0.Y0.length := by (have z := XB a0; simp_all; done)
    simp [i2, ZE, i3, i4, i5, i6, i1, G]
    refine rpG ?_
    exact rtg [.cell 2 111, .tmp 3] f
 ·have sv := G
  refine cK f ?_ ?_ <;> intro k4 h2 f
  ·try (simp [G] at h2; done)
   all_goals
    exact rtg [.cell 2 111, .tmp 3] f
  ·try (simp [G] at h2; done)
   all_goals
    refine dIo mixed ?_
    have i8 : 1 < a0.Y0.length := by (have z := XB a0; simp_all; done)
    have i9 : 2 < a0.Y0.length := by (have z := XB a0; simp_all; done)
    have i10 : 3 < a0.Y0.length := by (have z := XB a0; simp_all; done)
    have i11 : 4 < a0.Y0.length := by (have z := XB a0; simp_all; done)
    have i12 : 5 < a0.Y0.length := by (have z := XB a0; simp_all; done)
    have i13 : 6 < a0.Y0.length := by (have z := XB a0; simp_all; done)
    simp [i8, ZE, i9, i10, i11, i12, i13, G]
    refine rpG ?_
    exact rtg [.cell 2 111, .tmp 3] f
theorem KF {a b : Prop} (h : b) (k : a := by (intros; first | omega | with_unfolding_all (first | first | omega | (have fi := xb a0 a1 (by first | omega | (simp at *; omega)); omega) | (simp only [Bool.or_eq_false_iff, decide_eq_false_iff_not] at *; omega)) | (simp_all; done) | (simp_all; omega) | grind | ((try simp only [Xc, show ∀ x, IntKind.i64.wrap x = W x from fun _ => rfl] at *); omega))) : a /\ b := ⟨k, h⟩
theorem HR (a0 : ZH) (a1 : Int) : Sa 82 [a0.row, rI a1] [rI (YK a0 a1).1, rI (YK a0 a1).2.1, rB (YK a0 a1).2.2] := by
 have f := me (YK.eq_1 a0 a1)
 refine so func82 ntmps82 ?_
 refine cRs (Hn a0 a1) ?_
 refine gIo ?_ ?_ <;> intro G
 ·have sv := G
  have g1 := G; try simp at g1
  have i1 : (Yi a0 a1).1.toNat < a0.ZA.length := by first | omega | (have fi := xb a0 a1 (by first | omega | (simp at *; omega)); omega) | (simp only [Bool.or_eq_false_iff, decide_eq_false_iff_not] at *; omega)
  simp [i1, ZE, G]
  repeat with_reducible refine KF ?_
  refine gK (fun _ => ?_)
  have i2 : (Yi a0 a1).2.toNat < (nth a0.ZA (Yi a0 a1).1.toNat).ZC.length := by first | omega | (have fi := xb a0 a1 (by first | omega | (simp at *; omega)); omega) | (simp only [Bool.or_eq_false_iff, decide_eq_false_iff_not] at *; omega)
  simp [i2, ZE, G]
  repeat with_reducible refine KF ?_
  refine cKo f ?_ ?_ <;> intro k1 h1 f
  ·simp [G]
   repeat with_reducible refine KF ?_
   exact rtg [.tmp 4, .tmp 5, .tmp 6] f
  ·have i3 : 1 < (nth (nth a0.ZA (Yi a0 a1).1.toNat).ZC (Yi a0 a1).2.toNat).ZM.ZO.length := by first | omega | (have fi := xb a0 a1 (by first | omega | (simp at *; omega)); omega) | (simp only [Bool.or_eq_false_iff, decide_eq_false_iff_not] at *; omega)
   simp [i1, ZE, i2, i3, G]
   repeat with_reducible refine KF ?_
   refine cR (ME (nth (nth (nth a0.ZA (Yi a0 a1).1.toNat).ZC (Yi a0 a1).2.toNat).ZM.ZO 1)) ?_
   simp [G]
   repeat with_reducible refine KF ?_
   refine cR (Te a0.ZR (JT (nth (nth (nth a0.ZA (Yi a0 a1).1.toNat).ZC (Yi a0 a1).2.toNat).ZM.ZO 1)).1.ZV) ?_
   simp [G]
   repeat with_reducible refine KF ?_
   exact rtg [.tmp 4, .tmp 5, .tmp 6] f
 ·have sv := G
  simp [G]
  repeat with_reducible refine KF ?_
  refine sGo ?_
  simp [G]
  repeat with_reducible refine KF ?_
  refine cKo f ?_ ?_ <;> intro k2 h2 f
  ·simp [G]
   repeat with_reducible refine KF ?_
   exact rtg [.tmp 4, .tmp 5, .tmp 6] f
  ·simp [G] at h2
theorem VQ (a0 : Zp) : Sd 218 [a0.row] [rL 1 iR (QQ a0)] := by
 have f := me (QQ.eq_1 a0)
 refine soD func218 ntmps218 ?_
 exact rtD [.tmp 2] f
theorem LU (a0 : Zp) : Sa 219 [a0.row] [rB (ji a0)] := by
 have f := me (ji.eq_1 a0)
 refine so func219 ntmps219 ?_
 refine cRs (Zt a0.ZV 1 999) ?_
 refine cGs (fun gg => (K0 a0.Sr)) ?_
 refine cGs (fun gg => (Zt a0.Zu (-1) (W (a0.Sr + 1)))) ?_
 refine cGs (fun gg => (Zt a0.Zn 1 99)) ?_
 exact rt [.tmp 2] f
theorem OS (a0 : List Y4) (a1 : Zp) (u0 : Sm 2318336 a0) : Sa 148 [rL 5 Y4.row a0, a1.row] [(YQ a0 a1).1.row, rB (YQ a0 a1).2] := by
 have f := me (YQ.eq_1 a0 a1)
 refine so func148 ntmps148 ?_
 refine dIs mixed ?_
 refine cRs (YP.rd (VQ a1)) ?_
 refine cRs (kl a0 a1.Zn (QQ a1) (sg u0) (by simp (maxDischargeDepth := 12) [VG, Zb (m := 2322432) (by decide) u0]; try omega)) ?_
 refine cRs (LU a1) ?_
 refine cF f ?_ ?_ <;> intro k2 h1 f
 ·exact rt [.cell 4 135, .tmp 5] f
 exact rt [.cell 4 135, .tmp 5] f
theorem Rq (a0 : Zp) : Sd 150 [a0.row] [(Yr a0).row] := by
 have f := me (Yr.eq_1 a0)
 refine soD func150 ntmps150 ?_
 refine dIs mixed ?_
 refine cDs [false] (VQ a0) ?_
 exact rtD [.cell 2 176] f
theorem Md (a0 : Zi) (a1 : Zf) (u0 : Sm 2326528 a0) (u1 : Sm 2326528 a1) : Sd 220 [a0.row, a1.row] [(Xo a0 a1).1.row, rB (Xo a0 a1).2] := by
 have f := me (Xo.eq_1 a0 a1)
 refine soD func220 ntmps220 ?_
 refine cDs [] (Kl a0 (sg u0)) ?_
 refine drJ [14] mixed ?_
 simp
 refine cDs [true, false] (VT a1 (sg u1)) ?_
 refine jG ?_
 have c1 := sl 2326528 a0.ZO (an u0 u1)
 simp
 refine kC (uC := (a0.ZO.map Zf.row)) (news := (([a1] : List Zf).map Zf.row)) (l1 := [(8, 0)]) (l2 := [(12, 1)]) (size := 3) ?_
 simp
 refine cRs (ku (Zi.mk (a0.ZO ++ ([a1] : List Zf)) a0.Zj)) ?_
 refine cF f ?_ ?_ <;> intro k2 h1 f
 ·refine cDs [] (Kl a0 (sg u0)) ?_
  exact rtD [.cell 4 80, .tmp 5] f
 exact rtD [.cell 4 80, .tmp 5] f
theorem ML (a0 : ZF) (a1 : Int) (a2 : Zf) (u0 : Sm 2318336 a0) (u1 : Sm 2318336 a2) : Sd 149 [a0.row, rI a1, a2.row] [(Yv a0 a1 a2).1.row, rB (Yv a0 a1 a2).2] := by
 have f := me (Yv.eq_1 a0 a1 a2)
 refine soD func149 ntmps149 ?_
 refine cDs [] (YL a0 (sg u0)) ?_
 refine cRs (yh a0 a1) ?_
 refine cF f ?_ ?_ <;> intro k1 h1 f
 ·exact rtD [.cell 6 85, .tmp 7] f
 refine dIo mixed ?_
 have i1 : (ZU a0 a1).toNat < a0.ZC.length := by have := Qm a0 a1; exact il
 simp [i1, ZE]
 refine rpS ?_
 refine cDf i1 [] (Md (nth a0.ZC (ZU a0 a1).toNat).ZM a2 (sg (ZZ.JY (YU (ZF.Yn u0)))) (sg u1)) ?_
 refine C5 (t := 13) (j := 1) (i := (ZU a0 a1).toNat) (c := 14) (size := 16) (rows := (a0.ZC.map ZZ.row)) (ds := (Xo (nth a0.ZC (ZU a0 a1).toNat).ZM a2).1.row) (L := [(28, 0), (28, 1)]) rfl rfl rfl rfl (by simp) (by simp) (by simp; try omega) (by simp) (by simp) (by simp) (by simp) (by simp) (by simp) ?_
 simp [XW (x := (ZZ.mk (nth a0.ZC (ZU a0 a1).toNat).Id (nth a0.ZC (ZU a0 a1).toNat).Y9 (nth a0.ZC (ZU a0 a1).toNat).Doc (nth a0.ZC (ZU a0 a1).toNat).Sig (Xo (nth a0.ZC (ZU a0 a1).toNat).ZM a2).1)) rfl, i1, ZE, YZ]
 refine rpS ?_
 exact rtD [.cell 6 85, .tmp 7] f
theorem qZ (a0 : ZH) (a1 : Int) (a2 : Int) (a3 : Zp) (u0 : Sm 2314240 a0) (u1 : 0 <= a1 /\ a1 < (a0.ZA.length : Int)) : Sd 83 [a0.row, rI a1, rI a2, a3.row] [(QG a0 a1 a2 a3).1.row, rB (QG a0 a1 a2 a3).2] := by
 have f := me (QG.eq_1 a0 a1 a2 a3)
 refine soD func83 ntmps83 ?_
 refine cRs (OS a0.Frame.Zk a3 (sg (Zv.zc (ZH.XY u0)))) ?_
 refine dIo mixed ?_
 have i1 := ik a1.toNat a0.ZA
 simp [i1, ZE]
 refine rpS ?_
 refine cRs (YP.rd (Rq (YQ a0.Frame.Zk a3).1)) ?_
 refine cDs [] (ML (nth a0.ZA a1.toNat) a2 (Yr (YQ a0.Frame.Zk a3).1) (sg (YU (ZH.YX u0))) (by simp (maxDischargeDepth := 12) [Wd, Zb (m := 2318336) (by decide) u0, Zb (m := 2318336) (by decide) u1]; try omega)) ?_
 refine cDs [false, false, false, true, true, false, false, true, false, false, true, false] (YO a0 (sg u0)) ?_
 refine cFt f ?_ ?_ <;> intro k2 h1 f
 ·exact rtD [.cell 8 33, .tmp 9] f
 simp [i1, ZE]
 refine rpS ?_
 refine Vk (t := 36) (j := 7) (i := a1.toNat) (size := 2) (rows := (a0.ZA.map ZF.row)) (ds := (Yv (nth a0.ZA a1.toNat) a2 (Yr (YQ a0.Frame.Zk a3).1)).1.row) (L := [(32, 1)]) ?_
 simp [XW (x := (Yv (nth a0.ZA a1.toNat) a2 (Yr (YQ a0.Frame.Zk a3).1)).1) rfl, i1, ZE, YZ]
 refine rpS ?_
 exact rtD [.cell 8 33, .tmp 9] f
theorem Oa {a b : Prop} (h : b) (k : a := by (intros; first | omega | with_unfolding_all (first | first | omega | (have z := QX a0 a1 (by simp_all); (try simp at *); omega)) | ((try simp only [Xc, show ∀ x, IntKind.i64.wrap x = W x from fun _ => rfl] at *); omega))) : a /\ b := ⟨k, h⟩
theorem YT {a b : Prop} (h : b) (k : a := by (intros; first | omega | with_unfolding_all (first | first | omega | (have z := QX a0 a1 (by simp_all); (try simp at *); omega)) | (simp_all; done) | (simp_all; omega) | grind | ((try simp only [Xc, show ∀ x, IntKind.i64.wrap x = W x from fun _ => rfl] at *); omega))) : a /\ b := ⟨k, h⟩
theorem Oe (a0 : ZH) (a1 : Int) (u0 : Sm 2310144 a0) : Sd 18 [a0.row, rI a1] [(Qb a0 a1).1.row, rB (Qb a0 a1).2] := by
 have f := me (Qb.eq_1 a0 a1)
 refine soD func18 ntmps18 ?_
 refine cRs (HR a0 a1) ?_
 refine cF f ?_ ?_ <;> intro k1 h1 f
 ·refine cDs [false, false, false, true, true, false, false, true, false, false, true, false] (YO a0 (sg u0)) ?_
  exact rtD [.cell 4 33, .tmp 5] f
 refine dIo mixed ?_
 have i1 : (YK a0 a1).2.1.toNat < a0.ZR.length := by first | omega | (have z := QX a0 a1 (by simp_all); (try simp at *); omega)
 simp [i1, ZE]
 repeat with_reducible refine Oa ?_
 refine cRs (yF a0.Frame.Zk (nth a0.ZR (YK a0 a1).2.1.toNat).Zn) ?_
 refine dIs mixed ?_
 refine gIo ?_ ?_ <;> intro G
 ·have sv := G
  have g1 := G; try simp at g1
  have i2 : (YB a0.Frame.Zk (nth a0.ZR (YK a0 a1).2.1.toNat).Zn).toNat < a0.Frame.Zk.length := by have := xl a0.Frame.Zk (nth a0.ZR (YK a0 a1).2.1.toNat).Zn; first | omega | (have z := QX a0 a1 (by simp_all); (try simp at *); omega)
  simp [i2, ZE, G]
  repeat with_reducible refine YT ?_
  refine cKo f ?_ ?_ <;> intro k4 h2 f
  ·try (simp [G] at h2; done)
   all_goals
    simp [G]
    repeat with_reducible refine YT ?_
    refine cD [false, false, false, true, true, false, false, true, false, false, true, false] (YO a0 (sg u0)) ?_
    simp [G]
    repeat with_reducible refine YT ?_
    exact Q6 [.cell 4 33, .tmp 5] f
  ·try (simp [G] at h2; done)
   all_goals
    have i3 : (YK a0 a1).2.1.toNat < a0.Zu.length := by first | omega | (have z := QX a0 a1 (by simp_all); (try simp at *); omega)
    simp [i3, ZE, G]
    repeat with_reducible refine YT ?_
    refine cKo f ?_ ?_ <;> intro k5 h3 f
    ·try (simp [G] at h3; done)
     all_goals
      simp [G]
      repeat with_reducible refine YT ?_
      refine dIo mixed ?_
      simp [i1, ZE, G]
      repeat with_reducible refine YT ?_
      refine cD [false, false, false, true, true, false, false, true, false, false, true, false] (qZ a0 (YK a0 a1).1 a1 (Zp.mk (nth a0.ZR (YK a0 a1).2.1.toNat).ZV a0.Frame.Now (-1) (nth a0.ZR (YK a0 a1).2.1.toNat).Zn 0) (sg u0) (by (have z := QX a0 a1 (by simp_all); (try simp at *); omega))) ?_
      simp [G]
      repeat with_reducible refine YT ?_
      exact Q6 [.cell 4 33, .tmp 5] f
    ·try (simp [G] at h3; done)
     all_goals
      simp [G]
      repeat with_reducible refine YT ?_
      refine dIo mixed ?_
      simp [i1, ZE, G]
      repeat with_reducible refine YT ?_
      refine cD [false, false, false, true, true, false, false, true, false, false, true, false] (qZ a0 (YK a0 a1).1 a1 (Zp.mk (nth a0.ZR (YK a0 a1).2.1.toNat).ZV a0.Frame.Now (nth a0.Zu (YK a0 a1).2.1.toNat) (nth a0.ZR (YK a0 a1).2.1.toNat).Zn 0) (sg u0) (by (have z := QX a0 a1 (by simp_all); (try simp at *); omega))) ?_
      simp [G]
      repeat with_reducible refine YT ?_
      exact Q6 [.cell 4 33, .tmp 5] f
 ·have sv := G
  simp [G]
  repeat with_reducible refine YT ?_
  refine cKo f ?_ ?_ <;> intro k8 h4 f
  ·try (simp [G] at h4; done)
   all_goals
    simp [G]
    repeat with_reducible refine YT ?_
    refine cD [false, false, false, true, true, false, false, true, false, false, true, false] (YO a0 (sg u0)) ?_
    simp [G]
    repeat with_reducible refine YT ?_
    exact Q6 [.cell 4 33, .tmp 5] f
  ·try (simp [G] at h4; done)
   all_goals
    have i5 : (YK a0 a1).2.1.toNat < a0.Zu.length := by first | omega | (have z := QX a0 a1 (by simp_all); (try simp at *); omega)
    simp [i5, ZE, G]
    repeat with_reducible refine YT ?_
    refine cKo f ?_ ?_ <;> intro k9 h5 f
    ·try (simp [G] at h5; done)
     all_goals
      simp [G]
      repeat with_reducible refine YT ?_
      refine dIo mixed ?_
      simp [i1, ZE, G]
      repeat with_reducible refine YT ?_
      refine cD [false, false, false, true, true, false, false, true, false, false, true, false] (qZ a0 (YK a0 a1).1 a1 (Zp.mk (nth a0.ZR (YK a0 a1).2.1.toNat).ZV a0.Frame.Now (-1) (nth a0.ZR (YK a0 a1).2.1.toNat).Zn 0) (sg u0) (by (have z := QX a0 a1 (by simp_all); (try simp at *); omega))) ?_
      simp [G]
      repeat with_reducible refine YT ?_
      exact Q6 [.cell 4 33, .tmp 5] f
    ·try (simp [G] at h5; done)
     all_goals
      simp [G]
      repeat with_reducible refine YT ?_
      refine dIo mixed ?_
      simp [i1, ZE, G]
      repeat with_reducible refine YT ?_
      refine cD [false, false, false, true, true, false, false, true, false, false, true, false] (qZ a0 (YK a0 a1).1 a1 (Zp.mk (nth a0.ZR (YK a0 a1).2.1.toNat).ZV a0.Frame.Now (nth a0.Zu (YK a0 a1).2.1.toNat) (nth a0.ZR (YK a0 a1).2.1.toNat).Zn 0) (sg u0) (by (have z := QX a0 a1 (by simp_all); (try simp at *); omega))) ?_
      simp [G]
      repeat with_reducible refine YT ?_
      exact Q6 [.cell 4 33, .tmp 5] f
theorem OT (a0 : ZH) (a1 : Int) (u0 : Sm 2314240 a0) : Sd 20 [a0.row, rI a1] [(Z7 a0 a1).1.row, rB (Z7 a0 a1).2] := by
 have f := me (Z7.eq_1 a0 a1)
 refine soD func20 ntmps20 ?_
 refine cDs [false, false, false, true, true, false, false, true, false, false, true, false] (YO a0 (sg u0)) ?_
 refine cRs (Zt a1 0 (W ((a0.Zu.length : Int) - 1))) ?_
 refine gIf ?_ ?_ <;> intro G
 ·have c1 := sl 2314240 a0.Zu u0
  have w1 : IntKind.i64.wrap ((a0.Zu.length : Int) - 1) = (a0.Zu.length : Int) - 1 := Yg (by omega) (by omega)
  have g1 := G; try simp [Za, w1] at g1
  have i1 := ik a1.toNat a0.Zu
  simp [i1, ZE, G]
  refine rpG ?_
  refine cKo f ?_ ?_ <;> intro k1 h1 f
  ·try (simp [G] at h1; done)
   all_goals
    have q1 := h1; try simp [Za, w1] at q1
    simp [G]
    refine rpG ?_
    exact Q6 [.cell 4 33, .tmp 5] f
  ·try (simp [G] at h1; done)
   all_goals
    have q1 := h1; try simp [Za, w1] at q1
    simp [i1, ZE, XW (x := (W (a0.Frame.Now + 1))) rfl, G]
    refine rpG ?_
    refine Er (rv := [.cell 4 33, .tmp 5]) rfl ?_
    simp [f.h, G]
    all_goals (repeat' (first | exact qE (by simp) (by simp) | refine And.intro ?_ ?_))
 ·have c2 := sl 2314240 a0.Zu u0
  have w2 : IntKind.i64.wrap ((a0.Zu.length : Int) - 1) = (a0.Zu.length : Int) - 1 := Yg (by omega) (by omega)
  refine cKo f ?_ ?_ <;> intro k2 h2 f
  ·try (simp [G] at h2; done)
   all_goals
    have q2 := h2; try simp [Za, w2] at q2
    simp [G]
    refine rpG ?_
    exact Q6 [.cell 4 33, .tmp 5] f
  ·try (simp [G] at h2; done)
   all_goals
    have q2 := h2; try simp [Za, w2] at q2
    have i3 := ik a1.toNat a0.Zu
    simp [i3, ZE, XW (x := (W (a0.Frame.Now + 1))) rfl, G]
    refine rpG ?_
    refine Er (rv := [.cell 4 33, .tmp 5]) rfl ?_
    simp [f.h, G]
    all_goals (repeat' (first | exact qE (by simp) (by simp) | refine And.intro ?_ ?_))
theorem P9 (a0 : Int) (a1 : ZZ) (u0 : Sm 2318336 a1) : Sa 286 [rI a0, a1.row] [rI (VB a0 a1)] := by
 have f := me (VB.eq_1 a0 a1)
 refine so func286 ntmps286 ?_
 refine dIs mixed ?_
 refine cRs (xf a0 a1.Doc (sg (ZZ.PG u0))) ?_
 refine cRs (kp a0 a1.ZM.ZO (sg (Zi.WX (ZZ.JY u0)))) ?_
 refine lp2 (kI.eq_2 a0 a1) (fun J U => Yy 40 [eI 0 a0, (5, .one (.sref 5 0 0 J.length), [.arr false 1 (J.map iR)]), eL 24 5 a1.ZM.Zj Zc.row, eI 25 (a1.ZM.Zj.length : Int), eI 26 (U : Int)]) (fun n1 J U => a1.ZM.Zj.length < n1 + U /\ U <= a1.ZM.Zj.length /\ J.length <= 5 + 1 * U) (a1.ZM.Zj.length + 1) ([5, a1.Id, a1.Y9, (YN a0 a1.Doc), (Qt a0 a1.ZM.ZO)] : List Int) 0 (fun p1 J U e1 j1 => ?_) (h0 := wkS [((5, 0), some (21, 0))] [])
 refine cFf e1 ?_ ?_ <;> intro k3 h1 e1
 ·have i1 := ix h1
  have m2 := ml a1.ZM.Zj (k3 24 _ rfl)
  have c1 := sl 2318336 a1.ZM.Zj u0
  have w1 := wr U
  simp [i1, ZE]
  refine rpS ?_
  refine cRs (jw a0 (nth a1.ZM.Zj U) (sg (YU (Zi.j0 (ZZ.JY u0))))) ?_
  exact nx2 e1 (hw := XI [((5, 0), some (35, 0))] [] rfl (by simp [w1]))
 have c2 := sl 2318336 a1.ZM.Zj u0
 have f := ms f e1
 refine cRs (JR a0 J (by first | (simp (maxDischargeDepth := 12) [XO]; omega) | (simp (maxDischargeDepth := 12) [Zb (m := 68719476736) (by decide) u0]; done))) ?_
 exact rt [.tmp 4] f
theorem jh (a0 : Int) (a1 : List ZZ) (u0 : Sm 2314240 a1) : Sa 221 [rI a0, rL 16 ZZ.row a1] [rI (QD a0 a1)] := by
 have f := me (QD.eq_1 a0 a1)
 refine so func221 ntmps221 ?_
 refine lp2 (xj.eq_2 a0 a1) (fun J U => Yy 24 [eI 0 a0, (5, .one (.sref 5 0 0 J.length), [.arr false 1 (J.map iR)]), eL 8 16 a1 ZZ.row, eI 9 (a1.length : Int), eI 10 (U : Int)]) (fun n1 J U => a1.length < n1 + U /\ U <= a1.length /\ J.length <= 0 + 1 * U) (a1.length + 1) ([] : List Int) 0 (fun p1 J U e1 j1 => ?_) (h0 := wkS [((5, 0), none)] [])
 refine cFf e1 ?_ ?_ <;> intro k2 h1 e1
 ·have i1 := ix h1
  have m2 := ml a1 (k2 8 _ rfl)
  have c1 := sl 2314240 a1 u0
  have w1 := wr U
  simp [i1, ZE]
  refine rpS ?_
  refine cRs (P9 a0 (nth a1 U) (sg (YU u0))) ?_
  exact nx2 e1 (hw := XI [((5, 0), some (19, 0))] [] rfl (by simp [w1]))
 have c2 := sl 2314240 a1 u0
 have f := ms f e1
 refine cRs (TG a0 J (by first | (simp (maxDischargeDepth := 12) [XO]; omega) | (simp (maxDischargeDepth := 12) [Zb (m := 2318336) (by decide) u0]; done))) ?_
 exact rt [.tmp 4] f
theorem P2 (a0 : ZF) (a1 : Int) (a2 : List Int) (a3 : Int) (u0 : Sm 2310144 a0) (u1 : Sm 2310144 a2) : Sd 151 [a0.row, rI a1, rL 1 iR a2, rI a3] [(Y2 a0 a1 a2 a3).1.row, rB (Y2 a0 a1 a2 a3).2] := by
 have f := me (Y2.eq_1 a0 a1 a2 a3)
 refine soD func151 ntmps151 ?_
 refine lp2 (X9.eq_2 a0 a2) (fun J U => Yy 52 [eL 2 1 a2 iR, eI 3 a3, eX 4 (a0.row.map .d), (8, .one (.bptr 8 0), [.box [.d (.int .i64 0), .d (.int .i64 0), .nil 16, .d (.int .i64 0)]]), (10, .one (.bptr 10 0), [.box [.d (.int .i64 a0.Id), .d (.int .i64 a1), .sref 10 3 0 U.length, .d (.int .i64 0)], .none, .none, .arr true 16 (U.map ZZ.row)]), eL 18 1 a2 iR, eI 19 (a2.length : Int), eI 20 (J : Int)]) (fun n1 J U => a2.length < n1 + J /\ J <= a2.length /\ U.length <= J /\ (∀ x ∈ U, Sm 2310144 x)) (a2.length + 1) 0 ([] : List ZZ) (fun p1 J U e1 j1 => ?_) (hI := by exact ⟨by omega, by omega, Nat.zero_le _, Nat.zero_le _, fun x h => by cases h⟩) (h0 := wkS [((10, 3), none)] [])
 try dsimp only at j1
 refine cFf e1 ?_ ?_ <;> intro k2 h1 e1
 ·have i1 := ix h1
  have m2 := ml a2 (k2 2 _ rfl)
  have c1 := sl 2310144 a2 (an u0 u1)
  have w1 := wr J
  simp [i1, ZE]
  refine rpS ?_
  refine cRs (yh a0 (nth a2 J)) ?_
  refine cF e1 ?_ ?_ <;> intro k3 h2 e1
  ·have f := ms f e1
   exact rtD [.cell 8 205, .tmp 9] f
  refine drJ [39] mixed ?_
  have i2 : (ZU a0 (nth a2 J)).toNat < a0.ZC.length := by have := Qm a0 (nth a2 J); exact il
  simp [i2, ZE]
  refine rpS ?_
  refine cDs [true, true, true, false, false] (zn (nth a0.ZC (ZU a0 (nth a2 J)).toNat) (sg (YU (ZF.Yn u0)))) ?_
  refine jG ?_
  simp
  refine kC (uC := (U.map ZZ.row)) (news := (([(nth a0.ZC (ZU a0 (nth a2 J)).toNat)] : List ZZ).map ZZ.row)) (l1 := [(10, 3)]) (l2 := [(37, 3), (37, 4), (37, 14), (37, 15)]) (size := 16) ?_
  simp
  exact nx2 e1 (hI := by ((try dsimp only); refine ⟨by omega, by omega, by omega, by simp; omega, fun x hx => ?_⟩; rcases List.mem_append.1 hx with hx | hx; exact j1.2.2.2.2 x hx; have e := List.mem_singleton.1 hx; subst e; exact YU (ZF.Yn u0))) (hw := XI [((10, 3), some (39, 0))] [] rfl (by simp [w1]))
 have c2 := sl 2310144 a2 (an u0 u1)
 have f := ms f e1
 refine cF f ?_ ?_ <;> intro k5 h3 f
 ·exact rtD [.cell 8 205, .tmp 9] f
 refine cRs (jh a3 U (by (have q := XZ (show Sm 2310144 a2 from u1); exact Zb (n := 2310144) (by decide) ⟨by omega, j1.2.2.2.2⟩))) ?_
 exact rtD [.cell 8 205, .tmp 9] f
theorem Rw (a0 : XE) (a1 : Int) (u0 : Sm 2310144 a0) : Sa 222 [a0.row, rI a1] [rB (zI a0 a1)] := by
 have f := me (zI.eq_1 a0 a1)
 refine so func222 ntmps222 ?_
 refine lp1 (Jx.eq_2 a0) (fun J => Yy 31 [eI 1 a1, eX 2 (a0.row.map .d), eL 8 16 a0.ZC ZZ.row, eI 9 (a0.ZC.length : Int), eI 10 (J : Int)]) (fun n1 J => a0.ZC.length < n1 + J /\ J <= a0.ZC.length) (a0.ZC.length + 1) 0 (fun p1 J e1 j1 => ?_)
 refine cFf e1 ?_ ?_ <;> intro k2 h1 e1
 ·have i1 := ix h1
  have m2 := ml a0.ZC (k2 8 _ rfl)
  have c1 := sl 2310144 a0.ZC u0
  have w1 := wr J
  simp [i1, ZE]
  refine rpS ?_
  refine cRs (PU (nth a0.ZC J)) ?_
  refine cF e1 ?_ ?_ <;> intro k3 h2 e1
  ·have f := ms f e1
   exact rt [.tmp 4] f
  exact ny1 w1 e1
 have c2 := sl 2310144 a0.ZC u0
 have f := ms f e1
 refine dIs mixed ?_
 refine cRs (Zt (a0.ZC.length : Int) 1 8) ?_
 refine cGs (fun gg => (jh a1 a0.ZC (sg (XE.Yn u0)))) ?_
 exact rt [.tmp 4] f
theorem RI (a0 : ZF) (a1 : XE) (a2 : Int) (u0 : Sm 2306048 a0) (u1 : Sm 2306048 a1) : Sd 152 [a0.row, a1.row, rI a2] [(XD a0 a1 a2).1.row, rB (XD a0 a1 a2).2] := by
 have f := me (XD.eq_1 a0 a1 a2)
 refine soD func152 ntmps152 ?_
 refine cRs (Rw a1 a2 (sg u1)) ?_
 refine cF f ?_ ?_ <;> intro k1 h1 f
 ·refine cDs [] (YL a0 (sg u0)) ?_
  exact rtD [.cell 6 85, .tmp 7] f
 refine cDs [] (YL a0 (sg u0)) ?_
 refine lp3 (Xz.eq_2 a0 a1) (fun J U v9 => Yy 48 [eX 3 (a0.row.map .d), (6, .one (.bptr 6 0), [.box [.d (.int .i64 0), .nil 16]]), (8, .one (.bptr 8 0), [.box [.d (.int .i64 U), .sref 8 2 0 v9.length], .none, .arr true 16 (v9.map ZZ.row)]), eL 29 16 a1.ZC ZZ.row, eI 30 (a1.ZC.length : Int), eI 31 (J : Int)]) (fun n1 J U v9 => a1.ZC.length < n1 + J /\ J <= a1.ZC.length /\ Sm (2306048 + J) (ZF.mk U v9)) (a1.ZC.length + 1) 0 a0.Id a0.ZC (fun p1 J U v9 e1 j1 => ?_) (hI := by exact ⟨by omega, by omega, Nat.zero_le _, u0⟩) (h0 := wkS [((8, 2), some (27, 1))] [])
 try dsimp only at j1
 refine cFf e1 ?_ ?_ <;> intro k3 h2 e1
 ·have i1 := ix h2
  have m2 := ml a1.ZC (k3 29 _ rfl)
  have c1 := sl 2306048 a1.ZC (an u0 u1)
  have w1 := wr J
  simp [i1, ZE]
  refine rpS ?_
  refine cDs [] (Sn (ZF.mk U v9) (nth a1.ZC J) (by first | (have hl := kg a1 a2 (by simp at h1; exact h1.1); exact Zb (n := 2306048 + J) (by omega) j1.2.2.2) | exact sg (YU (XE.Yn u1))) (by first | (have hl := kg a1 a2 (by simp at h1; exact h1.1); exact Zb (n := 2306048 + J) (by omega) j1.2.2.2) | exact sg (YU (XE.Yn u1)))) ?_
  refine cF e1 ?_ ?_ <;> intro k4 h3 e1
  ·refine cDs [] (YL a0 (sg u0)) ?_
   have f := ms f e1
   exact rtD [.cell 6 85, .tmp 7] f
  exact nx3 e1 (hI := by ((try dsimp only); refine ⟨by omega, by omega, by omega, ?_⟩; exact W4 (n := 2306048 + J) j1.2.2.2 (Zb (n := 2306048) (by omega) (YU (XE.Yn u1))))) (hw := XI [((8, 2), some (38, 1))] [] rfl (by simp [w1]))
 have c2 := sl 2306048 a1.ZC (an u0 u1)
 have f := ms f e1
 exact rtD [.cell 6 85, .tmp 7] f
theorem Ma {a b : Prop} (h : b) (k : a := by (intros; first | omega | with_unfolding_all (first | first | omega | (have h0 := h1; simp only [decide_eq_false_iff_not] at h0; have z := Qm a0 a1; have hc := XZ (ZF.Yn u0); have w2 : IntKind.i64.wrap ((ZU a0 a1) + 1) = (ZU a0 a1) + 1 := (Yg (by omega) (by omega)); have w : W ((ZU a0 a1) + 1) = (ZU a0 a1) + 1 := w2; omega)) | ((try simp only [Xc, show ∀ x, IntKind.i64.wrap x = W x from fun _ => rfl] at *); omega))) : a /\ b := ⟨k, h⟩
theorem Mj (a0 : ZF) (a1 : Int) (u0 : Sm 2318336 a0) : Sd 153 [a0.row, rI a1] [(X2 a0 a1).1.row, rB (X2 a0 a1).2] := by
 have f := me (X2.eq_1 a0 a1)
 refine soD func153 ntmps153 ?_
 refine cDs [] (YL a0 (sg u0)) ?_
 refine cRs (yh a0 a1) ?_
 refine cF f ?_ ?_ <;> intro k1 h1 f
 ·exact rtD [.cell 4 85, .tmp 5] f
 refine drJ [25] mixed ?_
 have c1 := sl 2318336 a0.ZC u0
 simp
 repeat with_reducible refine Ma ?_
 refine wc (rows := (a0.ZC.map ZZ.row)) (news := ((a0.ZC.drop (W ((ZU a0 a1) + 1)).toNat).map ZZ.row)) (size := 16) (u := 9) (j := 1) (len := (ZU a0 a1).toNat) (lo := (W ((ZU a0 a1) + 1)).toNat) (n := (a0.ZC.length - (W ((ZU a0 a1) + 1)).toNat)) rfl rfl rfl rfl (by simp) (by simp) (by simp) (by simp) (by simp) (by first | omega | (first | omega | (have h0 := h1; simp only [decide_eq_false_iff_not] at h0; have z := Qm a0 a1; have hc := XZ (ZF.Yn u0); have w2 : IntKind.i64.wrap ((ZU a0 a1) + 1) = (ZU a0 a1) + 1 := (Yg (by omega) (by omega)); have w : W ((ZU a0 a1) + 1) = (ZU a0 a1) + 1 := w2; omega)) | (simp; first | omega | (have h0 := h1; simp only [decide_eq_false_iff_not] at h0; have z := Qm a0 a1; have hc := XZ (ZF.Yn u0); have w2 : IntKind.i64.wrap ((ZU a0 a1) + 1) = (ZU a0 a1) + 1 := (Yg (by omega) (by omega)); have w : W ((ZU a0 a1) + 1) = (ZU a0 a1) + 1 := w2; omega))) (by first | omega | (simp; done) | (simp; first | omega | (have h0 := h1; simp only [decide_eq_false_iff_not] at h0; have z := Qm a0 a1; have hc := XZ (ZF.Yn u0); have w2 : IntKind.i64.wrap ((ZU a0 a1) + 1) = (ZU a0 a1) + 1 := (Yg (by omega) (by omega)); have w : W ((ZU a0 a1) + 1) = (ZU a0 a1) + 1 := w2; omega))) (Uc _ _ _) (by simp) (by first | omega | (simp; first | omega | (have h0 := h1; simp only [decide_eq_false_iff_not] at h0; have z := Qm a0 a1; have hc := XZ (ZF.Yn u0); have w2 : IntKind.i64.wrap ((ZU a0 a1) + 1) = (ZU a0 a1) + 1 := (Yg (by omega) (by omega)); have w : W ((ZU a0 a1) + 1) = (ZU a0 a1) + 1 := w2; omega))) ?_
 simp
 exact rtD [.cell 4 85, .tmp 5] f
theorem MI (a0 : ZF) (a1 : ZF) (a2 : List Int) (a3 : Int) (u0 : Sm 2301952 a0) (u1 : Sm 2301952 a1) (u2 : Sm 2301952 a2) : Sd 84 [a0.row, a1.row, rL 1 iR a2, rI a3] [(Yt a0 a1 a2 a3).1.row, (Yt a0 a1 a2 a3).2.1.row, rB (Yt a0 a1 a2 a3).2.2] := by
 have f := me (Yt.eq_1 a0 a1 a2 a3)
 refine soD func84 ntmps84 ?_
 refine cRs (YP.rd (P2 a0 a1.Id a2 a3 (by first | exact sg u0 | exact sg u2) (by first | exact sg u0 | exact sg u2))) ?_
 refine cDs [] (RI a1 (Y2 a0 a1.Id a2 a3).1 a3 (by first | exact sg u1 | exact Zb (n := 2301952) (by decide) (jE u0 u2)) (by first | exact sg u1 | exact Zb (n := 2301952) (by decide) (jE u0 u2))) ?_
 refine cF f ?_ ?_ <;> intro k1 h1 f
 ·refine okD fun k2 => ?_
  refine dIs mixed ?_
  refine cDs [] (YL a0 (sg u0)) ?_
  refine cDs [] (YL a1 (sg u1)) ?_
  exact rtD [.cell 8 85, .cell 9 85, .tmp 10] f
 refine cDs [] (YL a0 (sg u0)) ?_
 refine lp3 (Qo.eq_2 a0 a1 a2) (fun J U v9 => Yy 70 [eX 4 (a0.row.map .d), eX 5 (a1.row.map .d), (8, .one (.bptr 8 0), [.box [.d (.int .i64 0), .nil 16]]), (9, .one (.bptr 9 0), [.box [.d (.int .i64 0), .nil 16]]), (13, .one (.bptr 13 0), [.box [.d (.int .i64 (XD a1 (Y2 a0 a1.Id a2 a3).1 a3).1.Id), .sref 33 1 0 (XD a1 (Y2 a0 a1.Id a2 a3).1 a3).1.ZC.length]]), (15, .one (.bptr 15 0), [.box [.d (.int .i64 U), .sref 15 2 0 v9.length], .none, .arr true 16 (v9.map ZZ.row)]), (33, .any, [.none, .arr true 16 ((XD a1 (Y2 a0 a1.Id a2 a3).1 a3).1.ZC.map ZZ.row)]), eL 48 1 a2 iR, eI 49 (a2.length : Int), eI 50 (J : Int)]) (fun n1 J U v9 => a2.length < n1 + J /\ J <= a2.length /\ Sm 2301952 (ZF.mk U v9)) (a2.length + 1) 0 a0.Id a0.ZC (fun p1 J U v9 e1 j1 => ?_) (hI := by exact ⟨by omega, by omega, Nat.zero_le _, u0⟩) (h0 := wkS [((15, 2), some (47, 1))] [])
 try dsimp only at j1
 refine cFf e1 ?_ ?_ <;> intro k4 h2 e1
 ·have i1 := ix h2
  have m2 := ml a2 (k4 48 _ rfl)
  have c1 := sl 2301952 a2 (an u0 (an u1 u2))
  have w1 := wr J
  simp [i1, ZE]
  refine rpS ?_
  refine cDs [] (Mj (ZF.mk U v9) (nth a2 J) (by exact Zb (n := 2301952) (by decide) j1.2.2.2)) ?_
  refine cF e1 ?_ ?_ <;> intro k5 h3 e1
  ·refine okD fun k6 => ?_
   refine dIs mixed ?_
   refine cDs [] (YL a0 (sg u0)) ?_
   refine cDs [] (YL a1 (sg u1)) ?_
   have f := ms f e1
   exact rtD [.cell 8 85, .cell 9 85, .tmp 10] f
  exact nx3 e1 (hI := by ((try dsimp only); refine ⟨by omega, by omega, by omega, ?_⟩; exact TU (by decide) j1.2.2.2)) (hw := XI [((15, 2), some (57, 1))] [] rfl (by simp [w1]))
 have c2 := sl 2301952 a2 (an u0 (an u1 u2))
 have f := ms f e1
 refine Bm [(8, 8), (9, 9), (13, 13), (15, 15)] mixed (by kernel_rfl) (by kernel_rfl) (by kernel_rfl) (by kernel_rfl) ?_
 simp
 exact rtD [.cell 8 85, .cell 9 85, .tmp 10] f
theorem M1 (a0 : ZH) (a1 : Int) (a2 : Int) (a3 : Int) (u0 : Sm 2297856 a0) : Sd 22 [a0.row, rI a1, rI a2, rI a3] [(Je a0 a1 a2 a3).1.row, rB (Je a0 a1 a2 a3).2] := by
 have f := me (Je.eq_1 a0 a1 a2 a3)
 refine soD func22 ntmps22 ?_
 refine cDs [false, false, false, true, true, false, false, true, false, false, true, false] (YO a0 (sg u0)) ?_
 refine cRs (jD a0.Frame.Methods a0.Frame.Now) ?_
 refine cRs (Kn a0 a1) ?_
 refine cGs (fun gg => (Kn a0 a2)) ?_
 have c1 := sl 2297856 a0.ZA u0
 have w1 : IntKind.i64.wrap ((a0.ZA.length : Int) - 1) = (a0.ZA.length : Int) - 1 := Yg (by omega) (by omega)
 refine cFo f ?_ ?_ <;> intro k1 h1 f
 ·have q1 := h1; try simp [w1, Z6, Za] at q1
  simp
  exact rtD [.cell 8 33, .tmp 9] f
 have q1 := h1; try simp [w1, Z6, Za] at q1
 simp
 refine dIo mixed ?_
 have i1 := ik a1.toNat a0.ZA
 have i2 := ik a2.toNat a0.ZA
 simp [i1, ZE, i2]
 refine rpS ?_
 refine cDs [] (MI (nth a0.ZA a1.toNat) (nth a0.ZA a2.toNat) ([a3] : List Int) (ZX a0.Frame.Methods a0.Frame.Now) (sg (YU (ZH.YX u0))) (sg (YU (ZH.YX u0))) (by simp (maxDischargeDepth := 12) [Jz, XO, Zb (m := 2301952) (by decide) u0]; try omega)) ?_
 refine cF f ?_ ?_ <;> intro k3 h2 f
 ·refine okD fun k4 => ?_
  refine xv [(10, 10), (12, 12), (13, 13), (63, 10), (66, 10)] [71, 72] [] mixed (by kernel_rfl) (by kernel_rfl) (by kernel_rfl) (by kernel_rfl) (by kernel_rfl) (by kernel_rfl) (by kernel_rfl) ?_
  simp [i1, ZE]
  refine rpS ?_
  refine Vk (t := 16) (j := 7) (i := a1.toNat) (size := 2) (rows := (a0.ZA.map ZF.row)) (ds := (Yt (nth a0.ZA a1.toNat) (nth a0.ZA a2.toNat) ([a3] : List Int) (ZX a0.Frame.Methods a0.Frame.Now)).1.row) (L := [(58, 1)]) ?_
  simp [XW (x := (Yt (nth a0.ZA a1.toNat) (nth a0.ZA a2.toNat) ([a3] : List Int) (ZX a0.Frame.Methods a0.Frame.Now)).1) rfl, c1, i1, i2, ZE, YZ]
  refine rpS ?_
  refine Vk (t := 16) (j := 7) (i := a2.toNat) (size := 2) (rows := ((a0.ZA.set a1.toNat (Yt (nth a0.ZA a1.toNat) (nth a0.ZA a2.toNat) ([a3] : List Int) (ZX a0.Frame.Methods a0.Frame.Now)).1).map ZF.row)) (ds := (Yt (nth a0.ZA a1.toNat) (nth a0.ZA a2.toNat) ([a3] : List Int) (ZX a0.Frame.Methods a0.Frame.Now)).2.1.row) (L := [(58, 3)]) ?_
  simp [XW (x := (Yt (nth a0.ZA a1.toNat) (nth a0.ZA a2.toNat) ([a3] : List Int) (ZX a0.Frame.Methods a0.Frame.Now)).1) rfl, c1, i1, i2, ZE, YZ]
  refine rpS ?_
  exact rtD [.cell 8 33, .tmp 9] f
 exact rtD [.cell 8 33, .tmp 9] f
theorem Od (a0 : ZF) (a1 : Int) (u0 : Sm 2322432 a0) : Sd 85 [a0.row, rI a1] [(KE a0 a1).1.row, rI (KE a0 a1).2] := by
 have f := me (KE.eq_1 a0 a1)
 refine soD func85 ntmps85 ?_
 refine lp2 (X7.eq_2 a0 a1) (fun J U => Yy 39 [eI 1 a1, eX 2 (a0.row.map .d), (4, .one (.bptr 4 0), [.box [.d (.int .i64 0), .nil 16]]), (6, .one (.bptr 6 0), [.box [.d (.int .i64 a0.Id), .sref 6 2 0 U.length], .none, .arr true 16 (U.map ZZ.row)]), eL 13 16 a0.ZC ZZ.row, eI 14 (a0.ZC.length : Int), eI 15 (J : Int)]) (fun n1 J U => a0.ZC.length < n1 + J /\ J <= a0.ZC.length /\ U.length <= 0 + 1 * J) (a0.ZC.length + 1) 0 ([] : List ZZ) (fun p1 J U e1 j1 => ?_) (h0 := wkS [((6, 2), none)] [])
 refine cFf e1 ?_ ?_ <;> intro k2 h1 e1
 ·have i1 := ix h1
  have m2 := ml a0.ZC (k2 13 _ rfl)
  have c1 := sl 2322432 a0.ZC u0
  have w1 := wr J
  simp [i1, ZE]
  refine rpS ?_
  refine cF e1 ?_ ?_ <;> intro k3 h2 e1
  ·refine okD fun k4 => ?_
   refine drJ [28] mixed ?_
   simp
   refine cDs [true, true, true, false, false] (zn (nth a0.ZC J) (sg (YU (ZF.Yn u0)))) ?_
   refine jG ?_
   simp
   refine kC (uC := (U.map ZZ.row)) (news := (([(nth a0.ZC J)] : List ZZ).map ZZ.row)) (l1 := [(6, 2)]) (l2 := [(26, 3), (26, 4), (26, 14), (26, 15)]) (size := 16) ?_
   simp
   exact nx2 e1 (hw := XI [((6, 2), some (28, 0))] [] rfl (by simp [w1]))
  exact ny2 w1 e1
 have c2 := sl 2322432 a0.ZC u0
 have f := ms f e1
 refine Bm [(2, 2), (4, 4), (6, 6), (32, 2), (35, 6)] mixed (by kernel_rfl) (by kernel_rfl) (by kernel_rfl) (by kernel_rfl) ?_
 simp
 exact rtD [.cell 4 85, .tmp 5] f
theorem OQ (a0 : ZH) (a1 : Int) (u0 : Sm 2314240 a0) : Sd 24 [a0.row, rI a1] [(QU a0 a1).1.row, rB (QU a0 a1).2] := by
 have f := me (QU.eq_1 a0 a1)
 refine soD func24 ntmps24 ?_
 refine cDs [false, false, false, true, true, false, false, true, false, false, true, false] (YO a0 (sg u0)) ?_
 refine cRs (Kn a0 a1) ?_
 have c1 := sl 2314240 a0.ZA u0
 have w1 : IntKind.i64.wrap ((a0.ZA.length : Int) - 1) = (a0.ZA.length : Int) - 1 := Yg (by omega) (by omega)
 refine cFo f ?_ ?_ <;> intro k1 h1 f
 ·have q1 := h1; try simp [w1, Z6, Za] at q1
  simp
  exact rtD [.cell 4 33, .tmp 5] f
 have q1 := h1; try simp [w1, Z6, Za] at q1
 simp
 refine drJ [] mixed ?_
 have i1 := ik a1.toNat a0.ZA
 simp [i1, ZE]
 refine rpS ?_
 refine cDf i1 [] (Od (nth a0.ZA a1.toNat) a0.Frame.Now (sg (YU (ZH.YX u0)))) ?_
 refine Vk (t := 8) (j := 7) (i := a1.toNat) (size := 2) (rows := (a0.ZA.map ZF.row)) (ds := (KE (nth a0.ZA a1.toNat) a0.Frame.Now).1.row) (L := [(26, 1)]) ?_
 simp [XW (x := (KE (nth a0.ZA a1.toNat) a0.Frame.Now).1) rfl, c1, i1, ZE, YZ]
 refine rpS ?_
 exact rtD [.cell 4 33, .tmp 5] f
end Go.Proofs.YthbcljgpeciofaaGreat
