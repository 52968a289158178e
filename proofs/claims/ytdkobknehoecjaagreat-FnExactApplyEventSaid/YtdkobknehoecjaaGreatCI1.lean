/- Contracts of the functions GQ the abstract machine, part I1. No condition. -/
import Derived.Test.YtdkobknehoecjaaGreatL
import Derived.Test.YtdkobknehoecjaaGreatTy
namespace Go.Proofs.YtdkobknehoecjaaGreat
open Tryz
open Go.Vm Go.Mo
set_option maxHeartbeats 1000000
set_option maxRecDepth 100000
set_option linter.unusedSimpArgs false
set_option linter.unusedVariables false
theorem Hu (a0 : Z8) (u0 : Sm 2342912 a0) : Sd 128 [a0.row] [(RL a0).row] := by
 have f := me (RL.eq_1 a0)
 have c1 := sl 2342912 a0.Zq u0
 have c2 := sl 2342912 a0.ZG u0
 have c3 := sl 2342912 a0.Methods u0
 refine soD func128 ntmps128 ?_
 exact rtD [.cell 2 43] f
theorem Ia (a0 : Z8) (u0 : Sm 2342912 a0) : Sd 128 [a0.row] [a0.row] := by
  have h := Hu a0 u0
  rwa [G9] at h
theorem EP (a0 : List Int) (u0 : Sm 2342912 a0) : Sd 129 [rL 1 iR a0] [rL 1 iR (OL a0)] := by
 have f := me (OL.eq_1 a0)
 have c1 := sl 2342912 a0 u0
 refine soD func129 ntmps129 ?_
 exact rtD [.tmp 2] f
theorem zo (a0 : List Int) (u0 : Sm 2342912 a0) : Sd 129 [rL 1 iR a0] [rL 1 iR a0] := by
  have h := EP a0 u0
  rwa [Eh] at h
theorem OW (a0 : ZV) (u0 : Sm 2338816 a0) : Sd 250 [a0.row] [(VB a0).row] := by
 have f := me (VB.eq_1 a0)
 refine soD func250 ntmps250 ?_
 refine H4 [2, 3, 4, 5, 0, 1, 6, 7, 8, 9, 10] mixed (by kernel_rfl) (by kernel_rfl) (by kernel_rfl) ?_
 have c1 := sl 2338816 a0.ZN u0
 simp
 refine rpS ?_
 refine cDs [false] (zo a0.ZR (sg (ZV.Hg u0))) ?_
 exact rtD [.cell 2 51] f
theorem Pz (a0 : ZV) (u0 : Sm 2338816 a0) : Sd 250 [a0.row] [a0.row] := by
  have h := OW a0 u0
  rwa [O3] at h
theorem Iy (a0 : ZO) (u0 : Sm 2338816 a0) : Sd 271 [a0.row] [(Rh a0).row] := by
 have f := me (Rh.eq_1 a0)
 refine soD func271 ntmps271 ?_
 refine cDs [false] (zo a0.YP (sg (ZO.vK u0))) ?_
 exact rtD [.cell 2 129] f
theorem Sb (a0 : ZO) (u0 : Sm 2338816 a0) : Sd 271 [a0.row] [a0.row] := by
  have h := Iy a0 u0
  rwa [Hx] at h
theorem Ib (a0 : List ZO) (u0 : Sm 2334720 a0) : Sd 253 [rL 3 ZO.row a0] [rL 3 ZO.row (WX a0)] := by
 have f := me (WX.eq_1 a0)
 refine soD func253 ntmps253 ?_
 refine lp2 (j3.eq_2 a0) (fun J U => YX 19 [(3, .one (.sref 3 0 0 J.length), [.arr true 3 (J.map ZO.row)]), eL 6 3 a0 ZO.row, eI 7 (a0.length : Int), eI 8 (U : Int)]) (fun n1 J U => a0.length < n1 + U /\ U <= a0.length /\ J.length <= 0 + 1 * U) (a0.length + 1) ([] : List ZO) 0 (fun p1 J U e1 j1 => ?_) (h0 := wkS [((3, 0), none)] [])
 refine cFf e1 ?_ ?_ <;> intro k2 h1 e1
 ·have i1 := ix h1
  have m2 := ml a0 (k2 6 _ rfl)
  have c1 := sl 2334720 a0 u0
  have w1 := wr U
  simp [i1, ZE]
  refine rpS ?_
  refine cDs [true, false] (Sb (nth a0 U) (sg (Yf u0))) ?_
  refine Wd ?_
  simp
  refine Vl (lC := (J.map ZO.row)) (news := (([(nth a0 U)] : List ZO).map ZO.row)) (l1 := [(3, 0)]) (l2 := [(14, 1)]) (size := 3) ?_
  simp
  exact nx2 e1 (hw := Xh [((3, 0), some (16, 0))] [] rfl (by simp [w1]))
 have c2 := sl 2334720 a0 u0
 have f := ms f e1
 exact rtD [.tmp 2] f
theorem Md (a0 : List ZO) (u0 : Sm 2334720 a0) : Sd 253 [rL 3 ZO.row a0] [rL 3 ZO.row a0] := by
  have h := Ib a0 u0
  rwa [Lb] at h
theorem Ij (a0 : List ZX) (u0 : Sm 2342912 a0) : Sd 254 [rL 5 ZX.row a0] [rL 5 ZX.row (TS a0)] := by
 have f := me (TS.eq_1 a0)
 have c1 := sl 2342912 a0 u0
 refine soD func254 ntmps254 ?_
 exact rtD [.tmp 2] f
theorem Nv (a0 : List ZX) (u0 : Sm 2342912 a0) : Sd 254 [rL 5 ZX.row a0] [rL 5 ZX.row a0] := by
  have h := Ij a0 u0
  rwa [Io] at h
theorem Mj (a0 : ZK) (u0 : Sm 2338816 a0) : Sd 205 [a0.row] [(Uh a0).row] := by
 have f := me (Uh.eq_1 a0)
 have c1 := sl 2338816 a0.Path u0
 refine soD func205 ntmps205 ?_
 refine cDs [false] (Nv a0.YE (sg (ZK.Dg u0))) ?_
 exact rtD [.cell 2 157] f
theorem Vt (a0 : ZK) (u0 : Sm 2338816 a0) : Sd 205 [a0.row] [a0.row] := by
  have h := Mj a0 u0
  rwa [Nz] at h
theorem IN (a0 : Za) (u0 : Sm 2330624 a0) : Sd 204 [a0.row] [(Wa a0).row] := by
 have f := me (Wa.eq_1 a0)
 refine soD func204 ntmps204 ?_
 refine cDs [] (Md a0.ZL (sg (Za.kB u0))) ?_
 refine lp2 (jk.eq_2 a0) (fun J U => YX 26 [(2, .one (.bptr 2 0), [.box [.nil 3, .nil 5]]), (3, .one (.bptr 3 0), [.box [.sref 8 0 0 a0.ZL.length, .sref 3 2 0 U.length], .none, .arr true 5 (U.map ZK.row)]), (8, .any, [.arr true 3 (a0.ZL.map ZO.row)]), eL 11 5 a0.Zd ZK.row, eI 12 (a0.Zd.length : Int), eI 13 (J : Int)]) (fun n1 J U => a0.Zd.length < n1 + J /\ J <= a0.Zd.length /\ U.length <= 0 + 1 * J) (a0.Zd.length + 1) 0 ([] : List ZK) (fun p1 J U e1 j1 => ?_) (h0 := wkS [((3, 2), none)] [])
 refine cFf e1 ?_ ?_ <;> intro k2 h1 e1
 ·have i1 := ix h1
  have m2 := ml a0.Zd (k2 11 _ rfl)
  have c1 := sl 2330624 a0.Zd u0
  have w1 := wr J
  simp [i1, ZE]
  refine rpS ?_
  refine drJ [22] mixed ?_
  simp
  refine cDs [true, true, true, false, false] (Vt (nth a0.Zd J) (sg (Yf (Za.jO u0)))) ?_
  refine Wd ?_
  simp
  refine Vl (lC := (U.map ZK.row)) (news := (([(nth a0.Zd J)] : List ZK).map ZK.row)) (l1 := [(3, 2)]) (l2 := [(20, 3), (20, 4)]) (size := 5) ?_
  simp
  exact nx2 e1 (hw := Xh [((3, 2), some (22, 0))] [] rfl (by simp [w1]))
 have c2 := sl 2330624 a0.Zd u0
 have f := ms f e1
 exact rtD [.cell 2 112] f
theorem ze (a0 : Za) (u0 : Sm 2330624 a0) : Sd 204 [a0.row] [a0.row] := by
  have h := IN a0 u0
  rwa [L9] at h
theorem EV (a0 : ZM) (u0 : Sm 2326528 a0) : Sd 199 [a0.row] [(OK a0).row] := by
 have f := me (OK.eq_1 a0)
 refine soD func199 ntmps199 ?_
 refine cDs [true, false, false] (Pz a0.Doc (sg (ZM.kH u0))) ?_
 refine cDs [] (ze a0.ZI (sg (ZM.Jf u0))) ?_
 exact rtD [.cell 2 114] f
theorem xT (a0 : ZM) (u0 : Sm 2326528 a0) : Sd 199 [a0.row] [a0.row] := by
  have h := EV a0 u0
  rwa [F2] at h
theorem MH (a0 : ZD) (u0 : Sm 2322432 a0) : Sd 130 [a0.row] [(kT a0).row] := by
 have f := me (kT.eq_1 a0)
 refine soD func130 ntmps130 ?_
 refine lp2 (qb.eq_2 a0) (fun J U => YX 25 [(2, .one (.bptr 2 0), [.box [.d (.int .i64 0), .nil 16]]), (3, .one (.bptr 3 0), [.box [.d (.int .i64 a0.Id), .sref 3 2 0 U.length], .none, .arr true 16 (U.map ZM.row)]), eL 10 16 a0.ZF ZM.row, eI 11 (a0.ZF.length : Int), eI 12 (J : Int)]) (fun n1 J U => a0.ZF.length < n1 + J /\ J <= a0.ZF.length /\ U.length <= 0 + 1 * J) (a0.ZF.length + 1) 0 ([] : List ZM) (fun p1 J U e1 j1 => ?_) (h0 := wkS [((3, 2), none)] [])
 refine cFf e1 ?_ ?_ <;> intro k2 h1 e1
 ·have i1 := ix h1
  have m2 := ml a0.ZF (k2 10 _ rfl)
  have c1 := sl 2322432 a0.ZF u0
  have w1 := wr J
  simp [i1, ZE]
  refine rpS ?_
  refine drJ [21] mixed ?_
  simp
  refine cDs [true, true, true, false, false] (xT (nth a0.ZF J) (sg (Yf (ZD.Ys u0)))) ?_
  refine Wd ?_
  simp
  refine Vl (lC := (U.map ZM.row)) (news := (([(nth a0.ZF J)] : List ZM).map ZM.row)) (l1 := [(3, 2)]) (l2 := [(19, 3), (19, 4), (19, 14), (19, 15)]) (size := 16) ?_
  simp
  exact nx2 e1 (hw := Xh [((3, 2), some (21, 0))] [] rfl (by simp [w1]))
 have c2 := sl 2322432 a0.ZF u0
 have f := ms f e1
 exact rtD [.cell 2 119] f
theorem YT (a0 : ZD) (u0 : Sm 2322432 a0) : Sd 130 [a0.row] [a0.row] := by
  have h := MH a0 u0
  rwa [Mn] at h
theorem FF (a0 : ZJ) (u0 : Sm 2318336 a0) : Sd 53 [a0.row] [(V0 a0).row] := by
 have f := me (V0.eq_1 a0)
 refine soD func53 ntmps53 ?_
 refine dIs mixed ?_
 have c1 := sl 2318336 a0.ZS u0
 refine cDs [false, false, false] (Ia a0.Frame (sg (ZJ.Xq u0))) ?_
 refine cDs [false] (zo a0.Zr (sg (ZJ.Bu u0))) ?_
 refine cDs [false] (zo a0.Ym (sg (ZJ.vi u0))) ?_
 refine cDs [false] (zo a0.YW (sg (ZJ.Af u0))) ?_
 refine cDs [false] (zo a0.YN (sg (ZJ.MN u0))) ?_
 refine lp2 (kR.eq_2 a0) (fun J U => YX 44 [(2, .one (.bptr 2 0), [.box [.nil 5, .nil 3, .nil 4, .d (.int .i64 0), .d (.int .i64 0), .nil 7, .nil 1, .nil 2, .nil 1, .nil 1, .d (.int .i64 0), .nil 1]]), (3, .one (.bptr 3 0), [.box [.sref 8 0 0 a0.Frame.Zq.length, .sref 8 1 0 a0.Frame.ZG.length, .sref 8 2 0 a0.Frame.Methods.length, .d (.int .i64 a0.Frame.y9), .d (.int .i64 a0.Frame.Now), .sref 12 0 0 a0.ZS.length, .sref 15 0 0 a0.Zr.length, .sref 3 8 0 U.length, .sref 18 0 0 a0.Ym.length, .sref 21 0 0 a0.YW.length, .d (.int .i64 a0.Next), .sref 26 0 0 a0.YN.length], .none, .none, .none, .none, .none, .none, .none, .arr true 2 (U.map ZD.row)]), (8, .any, [.arr false 5 (a0.Frame.Zq.map YR.row), .arr false 3 (a0.Frame.ZG.map ZQ.row), .arr false 4 (a0.Frame.Methods.map Zf.row)]), (12, .any, [.arr false 7 (a0.ZS.map Z1.row)]), (15, .any, [.arr false 1 (a0.Zr.map iR)]), (18, .any, [.arr false 1 (a0.Ym.map iR)]), (21, .any, [.arr false 1 (a0.YW.map iR)]), (26, .any, [.arr false 1 (a0.YN.map iR)]), eL 29 2 a0.ZA ZD.row, eI 30 (a0.ZA.length : Int), eI 31 (J : Int)]) (fun n1 J U => a0.ZA.length < n1 + J /\ J <= a0.ZA.length /\ U.length <= 0 + 1 * J) (a0.ZA.length + 1) 0 ([] : List ZD) (fun p1 J U e1 j1 => ?_) (h0 := wkS [((3, 8), none)] [])
 refine cFf e1 ?_ ?_ <;> intro k3 h1 e1
 ·have i1 := ix h1
  have m2 := ml a0.ZA (k3 29 _ rfl)
  have c2 := sl 2318336 a0.ZA u0
  have w1 := wr J
  simp [i1, ZE]
  refine rpS ?_
  refine drJ [40] mixed ?_
  simp
  refine cDs [] (YT (nth a0.ZA J) (sg (Yf (ZJ.Y1 u0)))) ?_
  refine Wd ?_
  simp
  refine Vl (lC := (U.map ZD.row)) (news := (([(nth a0.ZA J)] : List ZD).map ZD.row)) (l1 := [(3, 8)]) (l2 := [(38, 1)]) (size := 2) ?_
  simp
  exact nx2 e1 (hw := Xh [((3, 8), some (40, 0))] [] rfl (by simp [w1]))
 have c3 := sl 2318336 a0.ZA u0
 have f := ms f e1
 exact rtD [.cell 2 47] f
theorem YF (a0 : ZJ) (u0 : Sm 2318336 a0) : Sd 53 [a0.row] [a0.row] := by
  have h := FF a0 u0
  rwa [GN] at h
theorem YY (a0 : Int) (a1 : Int) (a2 : Int) : Sa 108 [rI a0, rI a1, rI a2] [rB (Zp a0 a1 a2)] := by
 have f := me (Zp.eq_1 a0 a1 a2)
 refine so func108 ntmps108 ?_
 exact rt [.tmp 6] f
theorem Ej (a0 : ZJ) (a1 : Int) (u0 : Sm 2314240 a0) : Sd 43 [a0.row, rI a1] [(yQ a0 a1).1.row, rB (yQ a0 a1).2] := by
 have f := me (yQ.eq_1 a0 a1)
 refine soD func43 ntmps43 ?_
 refine cDs [false, false, false, true, true, false, false, true, false, false, true, false] (YF a0 (sg u0)) ?_
 refine cRs (YY a1 0 100) ?_
 refine cFo f ?_ ?_ <;> intro k1 h1 f
 ·have q1 := h1; try simp [Zp] at q1
  simp
  exact rtD [.cell 4 47, .tmp 5] f
 have q1 := h1; try simp [Zp] at q1
 simp
 exact rtD [.cell 4 47, .tmp 5] f
theorem yR (a0 : List YR) (a1 : Int) : Sa 109 [rL 5 YR.row a0, rI a1] [rI (YH a0 a1)] := by
 have f := me (YH.eq_1 a0 a1)
 refine so func109 ntmps109 ?_
 refine lp1 (jG.eq_2 a0 a1) (fun J => YX 20 [eI 1 a1, eL 7 5 a0 YR.row, eI 8 (a0.length : Int), eI 9 (J : Int)]) (fun n1 J => a0.length < n1 + J /\ J <= a0.length) (a0.length + 1) 0 (fun p1 J e1 j1 => ?_)
 refine cFf e1 ?_ ?_ <;> intro k2 h1 e1
 ·have i1 := ix h1
  have m2 := ml a0 (k2 7 _ rfl)
  have w1 := wr J
  simp [i1, ZE]
  refine rpS ?_
  refine cF e1 ?_ ?_ <;> intro k3 h2 e1
  ·have f := ms f e1
   exact rt [.tmp 4] f
  exact ny1 w1 e1
 have f := ms f e1
 exact rt [.tmp 4] f
theorem qe (a0 : List Zf) (a1 : Int) : Sa 113 [rL 4 Zf.row a0, rI a1] [rI (ZP a0 a1)] := by
 have f := me (ZP.eq_1 a0 a1)
 refine so func113 ntmps113 ?_
 refine lp2 (zw.eq_2 a0 a1) (fun J U => YX 48 [eL 0 4 a0 Zf.row, eI 1 a1, eI 5 J, eL 8 4 a0 Zf.row, eI 9 (a0.length : Int), eI 10 (U : Int)]) (fun n1 J U => a0.length < n1 + U /\ U <= a0.length /\ -1 <= J /\ J < (a0.length : Int)) (a0.length + 1) (-1) 0 (fun p1 J U e1 j1 => ?_)
 try dsimp only at j1
 refine cFf e1 ?_ ?_ <;> intro k2 h1 e1
 ·have i1 := ix h1
  have m2 := ml a0 (k2 0 _ rfl)
  have w1 := wr U
  simp [i1, ZE]
  refine rpS ?_
  refine dIs mixed ?_
  refine gIf ?_ ?_ <;> intro G
  ·have i2 := ik J.toNat a0
   simp [i2, ZE, G]
   refine rpG ?_
   refine cK e1 ?_ ?_ <;> intro k4 h2 e1
   ·exact ny2 (an w1 G) e1 (hI := by first | omega | (simp at *; omega))
   ·exact ny2 (an w1 G) e1 (hI := by first | omega | (simp at *; omega))
  ·refine cK e1 ?_ ?_ <;> intro k5 h3 e1
   ·exact ny2 (an w1 G) e1 (hI := by first | omega | (simp at *; omega))
   ·exact ny2 (an w1 G) e1 (hI := by first | omega | (simp at *; omega))
 have f := ms f e1
 refine cFt f ?_ ?_ <;> intro k6 h4 f
 ·exact rt [.tmp 4] f
 have i4 := ik J.toNat a0
 simp [i4, ZE]
 refine rpS ?_
 exact rt [.tmp 4] f
theorem zq (a0 : ZJ) (a1 : Int) : Sa 114 [a0.row, rI a1] [rB (YU a0 a1)] := by
 have f := me (YU.eq_1 a0 a1)
 refine so func114 ntmps114 ?_
 refine cRs (YY a1 0 (W ((a0.ZA.length : Int) - 1))) ?_
 exact rt [.tmp 4] f
theorem SW (a0 : ZV) : Sa 237 [a0.row] [rB (zE a0)] := by
 have f := me (zE.eq_1 a0)
 refine so func237 ntmps237 ?_
 refine cRs (YY a0.zA 0 999) ?_
 refine cGs (fun gg => (YY (a0.ZN.length : Int) 1 6)) ?_
 refine cFo f ?_ ?_ <;> intro k1 h1 f
 ·have q1 := h1; try simp [Zp] at q1
  simp
  exact rt [.tmp 2] f
 have q1 := h1; try simp [Zp] at q1
 simp
 refine lp1 (zm.eq_2 a0) (fun J => YX 46 [eX 1 (a0.row.map .d), eL 26 1 a0.ZN sR, eI 27 (a0.ZN.length : Int), eI 28 (J : Int)]) (fun n1 J => a0.ZN.length < n1 + J /\ J <= a0.ZN.length) (a0.ZN.length + 1) 0 (fun p1 J e1 j1 => ?_)
 refine cFf e1 ?_ ?_ <;> intro k3 h2 e1
 ·have i1 := ix h2
  have m2 := ml a0.ZN (k3 26 _ rfl)
  have w1 := wr J
  simp [i1, ZE]
  refine rpS ?_
  refine gIf ?_ ?_ <;> intro G
  ·have i2 := ik J a0.ZR
   simp [i2, ZE, G]
   refine rpG ?_
   refine cGg (fun gg => (YY (nth a0.ZR J) 1 1000000000000)) ?_
   refine cKo e1 ?_ ?_ <;> intro k4 h3 e1
   ·have q3 := h3; try simp [Zp] at q3
    have f := ms f e1
    simp [G]
    refine rpG ?_
    exact rtg [.tmp 2] f
   ·have q3 := h3; try simp [Zp] at q3
    simp [G]
    refine rpG ?_
    exact ny1 (an w1 G) e1
  ·refine sGo ?_
   simp [G]
   refine rpG ?_
   refine cKo e1 ?_ ?_ <;> intro k5 h4 e1
   ·have q4 := h4; try simp [Zp] at q4
    have f := ms f e1
    simp [G]
    refine rpG ?_
    exact rtg [.tmp 2] f
   ·simp [G] at h4
 have f := ms f e1
 exact rt [.tmp 2] f
theorem Cb (a0 : List UInt8) (u0 : Sm 2342912 a0) : Sd 269 [rL 1 bR a0] [rL 1 iR (kA a0)] := by
 have f := me (kA.eq_1 a0)
 refine soD func269 ntmps269 ?_
 refine lp2 (xQ.eq_2 a0) (fun J U => YX 19 [(3, .one (.sref 3 0 0 J.length), [.arr false 1 (J.map iR)]), eL 6 1 a0 bR, eI 7 (a0.length : Int), eI 8 (U : Int)]) (fun n1 J U => a0.length < n1 + U /\ U <= a0.length /\ J.length <= 0 + 1 * U) (a0.length + 1) ([] : List Int) 0 (fun p1 J U e1 j1 => ?_) (h0 := wkS [((3, 0), none)] [])
 refine cFf e1 ?_ ?_ <;> intro k2 h1 e1
 ·have i1 := ix h1
  have m2 := ml a0 (k2 6 _ rfl)
  have c1 := sl 2342912 a0 u0
  have w1 := wr U
  simp [i1, ZE]
  refine rpS ?_
  exact nx2 e1 (hw := Xh [((3, 0), some (16, 0))] [] rfl (by simp [w1]))
 have c2 := sl 2342912 a0 u0
 have f := ms f e1
 exact rtD [.tmp 2] f
theorem sP (a0 : Int) (a1 : Int) : Sa 285 [rI a0, rI a1] [rI (Al a0 a1)] := by
 have f := me (Al.eq_1 a0 a1)
 refine so func285 ntmps285 ?_
 refine cRs (YY a1 1 1000000000000) ?_
 refine cFo f ?_ ?_ <;> intro k1 h1 f
 ·have q1 := h1; try simp [Zp] at q1
  simp
  exact rt [.tmp 4] f
 have q1 := h1; try simp [Zp] at q1
 simp
 refine rpS ?_
 exact rt [.tmp 4] f
theorem DB (a0 : List Int) : Sa 270 [rL 1 iR a0] [rI (Mq a0)] := by
 have f := me (Mq.eq_1 a0)
 refine so func270 ntmps270 ?_
 refine lp2 (RC.eq_2 a0) (fun J U => YX 21 [eI 3 J, eL 6 1 a0 iR, eI 7 (a0.length : Int), eI 8 (U : Int)]) (fun n1 J U => a0.length < n1 + U /\ U <= a0.length) (a0.length + 1) 11 0 (fun p1 J U e1 j1 => ?_)
 refine cFf e1 ?_ ?_ <;> intro k2 h1 e1
 ·have i1 := ix h1
  have m2 := ml a0 (k2 6 _ rfl)
  have w1 := wr U
  simp [i1, ZE]
  refine rpS ?_
  refine cRs (sP (nth a0 U) 2147483647) ?_
  exact ny2 w1 e1
 have f := ms f e1
 exact rt [.tmp 2] f
theorem KZ (a0 : Int) (a1 : List Int) (u0 : Sm 68719476736 a1) : Sa 239 [rI a0, rL 1 iR a1] [rI (KK a0 a1)] := by
 have f := me (KK.eq_1 a0 a1)
 have c1 := sl 68719476736 a1 u0
 refine so func239 ntmps239 ?_
 refine cRs (DB (([7, a0] : List Int) ++ a1)) ?_
 exact rt [.tmp 4] f
theorem Lx (a0 : Int) (a1 : ByteArray) (a2 : Int) (u0 : Sm 2326528 a1) : Sa 238 [rI a0, rS a1, rI a2] [rI (jU a0 a1 a2)] := by
 have f := me (jU.eq_1 a0 a1 a2)
 refine so func238 ntmps238 ?_
 have c1 : a1.size <= 2326528 := Ca (xs u0)
 refine rA (s := a1) rfl rfl rfl (by simp) (by simp) (by simp) (by simp) (by omega) ?_
 simp
 refine cRs (Yv.rd (Cb a1.data.toList (by simp [XC]; first | omega | (simp [ByteArray.size] at *; omega)))) ?_
 refine cRs (KZ a0 (([a2] : List Int) ++ (kA a1.data.toList)) (by simp (maxDischargeDepth := 12) [K0, XC, Zk (m := 68719476736) (by decide) u0]; try omega)) ?_
 exact rt [.tmp 6] f
theorem jM (a0 : Int) (a1 : ZV) (u0 : Sm 2322432 a1) : Sa 179 [rI a0, a1.row] [rI (Ya a0 a1)] := by
 have f := me (Ya.eq_1 a0 a1)
 refine so func179 ntmps179 ?_
 refine cRs (SW a1) ?_
 refine cF f ?_ ?_ <;> intro k1 h1 f
 ·exact rt [.tmp 4] f
 refine lp2 (qI.eq_2 a0 a1) (fun J U => YX 37 [eI 0 a0, eX 3 (a1.row.map .d), (5, .one (.sref 5 0 0 J.length), [.arr false 1 (J.map iR)]), eL 15 1 a1.ZN sR, eI 16 (a1.ZN.length : Int), eI 17 (U : Int)]) (fun n1 J U => a1.ZN.length < n1 + U /\ U <= a1.ZN.length /\ J.length <= 1 + 1 * U) (a1.ZN.length + 1) ([a1.zA] : List Int) 0 (fun p1 J U e1 j1 => ?_) (h0 := wkS [((5, 0), some (13, 0))] [])
 try dsimp only at j1
 refine cFf e1 ?_ ?_ <;> intro k3 h2 e1
 ·have i1 := ix h2
  have m2 := ml a1.ZN (k3 15 _ rfl)
  have c1 := sl 2322432 a1.ZN u0
  have w1 := wr U
  have i2 : U < a1.ZR.length := by (have := N8 (a := a1); first | (simp_all; done) | (simp_all; omega))
  simp [i1, ZE, i2]
  refine rpS ?_
  refine cRs (Lx a0 (nth a1.ZN U) (nth a1.ZR U) (sg (Yf (ZV.NC u0)))) ?_
  exact nx2 e1 (hw := Xh [((5, 0), some (32, 0))] [] rfl (by simp [w1]))
 have c2 := sl 2322432 a1.ZN u0
 have f := ms f e1
 refine cRs (KZ a0 J (by first | (simp (maxDischargeDepth := 12) [XC]; omega) | (simp (maxDischargeDepth := 12) [Zk (m := 68719476736) (by decide) u0]; done))) ?_
 exact rt [.tmp 4] f
theorem VZ (a0 : ZY) : Sd 235 [a0.row] [rL 1 iR (X8 a0)] := by
 have f := me (X8.eq_1 a0)
 refine soD func235 ntmps235 ?_
 exact rtD [.tmp 2] f
theorem HD (a0 : Int) (a1 : List Int) (u0 : Sm 2330624 a1) : Sa 273 [rI a0, rL 1 iR a1] [rI (ko a0 a1)] := by
 have f := me (ko.eq_1 a0 a1)
 have c1 := sl 2330624 a1 u0
 refine so func273 ntmps273 ?_
 refine cRs (DB ((([a0] : List Int) ++ a1) ++ ([a0] : List Int))) ?_
 exact rt [.tmp 4] f
theorem EU (a0 : YR) (a1 : List Int) (u0 : Sm 2326528 a1) : Sa 246 [a0.row, rL 1 iR a1] [rI (W4 a0 a1)] := by
 have f := me (W4.eq_1 a0 a1)
 refine so func246 ntmps246 ?_
 refine H4 [2, 3, 4, 5, 6, 0, 1, 7, 8] mixed (by kernel_rfl) (by kernel_rfl) (by kernel_rfl) ?_
 have c1 := sl 2326528 a1 u0
 simp
 refine rpS ?_
 refine cRs (HD a0.WN (([a0.Method] : List Int) ++ a1) (by simp (maxDischargeDepth := 12) [K0, XC, Zk (m := 2330624) (by decide) u0]; try omega)) ?_
 exact rt [.tmp 4] f
theorem S5 (a0 : List YR) (a1 : Int) (a2 : List Int) (u0 : Sm 2322432 a0) (u1 : Sm 2322432 a2) : Sa 192 [rL 5 YR.row a0, rI a1, rL 1 iR a2] [rI (ya a0 a1 a2).1, rB (ya a0 a1 a2).2] := by
 have f := me (ya.eq_1 a0 a1 a2)
 refine so func192 ntmps192 ?_
 refine cRs (yR a0 a1) ?_
 refine cFt f ?_ ?_ <;> intro k1 h1 f
 ·exact rt [.tmp 6, .tmp 7] f
 have i1 : (YH a0 a1).toNat < a0.length := by have := jX a0 a1; exact il
 simp [i1, ZE]
 refine rpS ?_
 refine cRs (EU (nth a0 (YH a0 a1).toNat) a2 (sg u1)) ?_
 exact rt [.tmp 6, .tmp 7] f
theorem MO (a0 : ZY) : Sa 236 [a0.row] [rB (qT a0)] := by
 have f := me (qT.eq_1 a0)
 refine so func236 ntmps236 ?_
 refine cRs (YY a0.Key 1 99) ?_
 refine cGs (fun gg => (YY a0.Zg 1 999)) ?_
 refine cGs (fun gg => (YY a0.Method 0 99)) ?_
 refine cGs (fun gg => (YY a0.Org 0 99)) ?_
 refine cGs (fun gg => (YY a0.xH 1 3)) ?_
 refine cGs (fun gg => (YY a0.XN 0 1000000000000)) ?_
 refine cGs (fun gg => (YY a0.xL 0 1000000000000)) ?_
 refine cGs (fun gg => (YY a0.kx 0 1000000000000)) ?_
 exact rt [.tmp 2] f
theorem LV (a0 : List YR) (a1 : ZY) (u0 : Sm 2318336 a0) : Sa 178 [rL 5 YR.row a0, a1.row] [(Y6 a0 a1).1.row, rB (Y6 a0 a1).2] := by
 have f := me (Y6.eq_1 a0 a1)
 refine so func178 ntmps178 ?_
 refine dIs mixed ?_
 refine cRs (Yv.rd (VZ a1)) ?_
 refine cRs (S5 a0 a1.Key (X8 a1) (sg u0) (by simp (maxDischargeDepth := 12) [VI, Zk (m := 2322432) (by decide) u0]; try omega)) ?_
 refine cRs (MO a1) ?_
 refine cF f ?_ ?_ <;> intro k2 h1 f
 ·exact rt [.cell 4 108, .tmp 5] f
 exact rt [.cell 4 108, .tmp 5] f
theorem S7 (a0 : ZY) : Sd 180 [a0.row] [(QP a0).row] := by
 have f := me (QP.eq_1 a0)
 refine soD func180 ntmps180 ?_
 refine dIs mixed ?_
 refine cDs [false] (VZ a0) ?_
 exact rtD [.cell 2 129] f
theorem Eb (a0 : Z1) : Sd 240 [a0.row] [rL 1 iR (xd a0)] := by
 have f := me (xd.eq_1 a0)
 refine soD func240 ntmps240 ?_
 exact rtD [.tmp 2] f
theorem FH (a0 : Z1) : Sd 181 [a0.row] [(JK a0).row] := by
 have f := me (JK.eq_1 a0)
 refine soD func181 ntmps181 ?_
 refine dIs mixed ?_
 refine cDs [false] (Eb a0) ?_
 exact rtD [.cell 2 129] f
theorem qQ (a0 : ZD) (a1 : Int) : Sa 201 [a0.row, rI a1] [rI (ZW a0 a1)] := by
 have f := me (ZW.eq_1 a0 a1)
 refine so func201 ntmps201 ?_
 refine lp1 (yO.eq_2 a0 a1) (fun J => YX 21 [eI 1 a1, eL 8 16 a0.ZF ZM.row, eI 9 (a0.ZF.length : Int), eI 10 (J : Int)]) (fun n1 J => a0.ZF.length < n1 + J /\ J <= a0.ZF.length) (a0.ZF.length + 1) 0 (fun p1 J e1 j1 => ?_)
 refine cFf e1 ?_ ?_ <;> intro k2 h1 e1
 ·have i1 := ix h1
  have m2 := ml a0.ZF (k2 8 _ rfl)
  have w1 := wr J
  simp [i1, ZE]
  refine rpS ?_
  refine cF e1 ?_ ?_ <;> intro k3 h2 e1
  ·have f := ms f e1
   exact rt [.tmp 4] f
  exact ny1 w1 e1
 have f := ms f e1
 exact rt [.tmp 4] f
theorem S0 (a0 : Int) : Sa 191 [rI a0] [rB (TP a0)] := by
 have f := me (TP.eq_1 a0)
 refine so func191 ntmps191 ?_
 refine cRs (YY a0 0 10000) ?_
 exact rt [.tmp 2] f
theorem HE (a0 : List Int) (a1 : List Int) : Sa 286 [rL 1 iR a0, rL 1 iR a1] [rB (UC a0 a1)] := by
 have f := me (UC.eq_1 a0 a1)
 refine so func286 ntmps286 ?_
 refine cF f ?_ ?_ <;> intro k1 h1 f
 ·exact rt [.tmp 4] f
 refine lp1 (kX.eq_2 a0 a1) (fun J => YX 26 [eL 0 1 a0 iR, eL 1 1 a1 iR, eI 12 (a0.length : Int), eI 13 (J : Int)]) (fun n1 J => a0.length < n1 + J /\ J <= a0.length) (a0.length + 1) 0 (fun p1 J e1 j1 => ?_)
 refine cF e1 ?_ ?_ <;> intro k3 h2 e1
 ·have i1 := ix h2
  have m2 := ml a0 (k3 0 _ rfl)
  have w1 := wr J
  refine dIo mixed ?_
  have i2 := ik J a1
  simp [i1, ZE, i2]
  refine rpS ?_
  refine cF e1 ?_ ?_ <;> intro k5 h3 e1
  ·have f := ms f e1
   exact rt [.tmp 4] f
  exact ny1 w1 e1
 have f := ms f e1
 exact rt [.tmp 4] f
theorem U3 (a0 : ZO) (a1 : ZO) : Sa 274 [a0.row, a1.row] [rB (yf a0 a1)] := by
 have f := me (yf.eq_1 a0 a1)
 refine so func274 ntmps274 ?_
 refine cGs (fun gg => (HE a0.YP a1.YP)) ?_
 exact rt [.tmp 4] f
theorem Ex (a0 : List ZO) (a1 : ZO) : Sa 255 [rL 3 ZO.row a0, a1.row] [rB (VL a0 a1)] := by
 have f := me (VL.eq_1 a0 a1)
 refine so func255 ntmps255 ?_
 refine lp1 (WZ.eq_2 a0 a1) (fun J => YX 17 [eX 3 (a1.row.map .d), eL 7 3 a0 ZO.row, eI 8 (a0.length : Int), eI 9 (J : Int)]) (fun n1 J => a0.length < n1 + J /\ J <= a0.length) (a0.length + 1) 0 (fun p1 J e1 j1 => ?_)
 refine cFf e1 ?_ ?_ <;> intro k2 h1 e1
 ·have i1 := ix h1
  have m2 := ml a0 (k2 7 _ rfl)
  have w1 := wr J
  simp [i1, ZE]
  refine rpS ?_
  refine cRs (U3 (nth a0 J) a1) ?_
  refine cF e1 ?_ ?_ <;> intro k3 h2 e1
  ·have f := ms f e1
   exact rt [.tmp 4] f
  exact ny1 w1 e1
 have f := ms f e1
 exact rt [.tmp 4] f
theorem Ud (a0 : Za) : Sa 206 [a0.row] [rB (zX a0)] := by
 have f := me (zX.eq_1 a0)
 refine so func206 ntmps206 ?_
 refine cRs (YY (a0.ZL.length : Int) 1 12) ?_
 refine cFo f ?_ ?_ <;> intro k1 h1 f
 ·have q1 := h1; try simp [Zp] at q1
  simp
  exact rt [.tmp 2] f
 have q1 := h1; try simp [Zp] at q1
 simp
 refine lp1 (xz.eq_2 a0) (fun J => YX 65 [eX 1 (a0.row.map .d), eL 19 3 a0.ZL ZO.row, eI 20 (a0.ZL.length : Int), eI 21 (J : Int)]) (fun n1 J => a0.ZL.length < n1 + J /\ J <= a0.ZL.length) (a0.ZL.length + 1) 0 (fun p1 J e1 j1 => ?_)
 refine cFf e1 ?_ ?_ <;> intro k3 h2 e1
 ·have i1 := ix h2
  have m2 := ml a0.ZL (k3 19 _ rfl)
  have w1 := wr J
  simp [i1, ZE]
  refine rpS ?_
  refine dIs mixed ?_
  refine cRs (Ex (a0.ZL.take J) (nth a0.ZL J)) ?_
  refine cF e1 ?_ ?_ <;> intro k5 h3 e1
  ·have f := ms f e1
   exact rt [.tmp 2] f
  exact ny1 w1 e1
 have f := ms f e1
 refine lp1 (qC.eq_2 a0) (fun lI => YX 65 [eX 1 (a0.row.map .d), eL 34 5 a0.Zd ZK.row, eI 35 (a0.Zd.length : Int), eI 36 (lI : Int)]) (fun n2 lI => a0.Zd.length < n2 + lI /\ lI <= a0.Zd.length) (a0.Zd.length + 1) 0 (fun p2 lI e2 j2 => ?_)
 refine cFf e2 ?_ ?_ <;> intro k7 h4 e2
 ·have i2 := ix h4
  have m4 := ml a0.Zd (k7 34 _ rfl)
  have w2 := wr lI
  simp [i2, ZE]
  refine rpS ?_
  refine dIs mixed ?_
  refine cRs (YY (nth a0.Zd lI).Count 1 (a0.ZL.length : Int)) ?_
  refine gIf ?_ ?_ <;> intro G
  ·have i3 := ik (lI - 1) a0.Zd
   have w3 : IntKind.i64.wrap ((lI : Int) - 1) = (lI : Int) - 1 := Zb (by omega) (by omega)
   simp [i3, ZE, w3, qp, G]
   refine rpG ?_
   refine cKo e2 ?_ ?_ <;> intro k9 h5 e2
   ·have q5 := h5; try simp [Zp] at q5
    have f := ms f e2
    simp [G]
    refine rpG ?_
    exact rtg [.tmp 2] f
   ·have q5 := h5; try simp [Zp] at q5
    simp [G]
    refine rpG ?_
    exact ny1 (an w2 (an w3 G)) e2
  ·refine cKo e2 ?_ ?_ <;> intro cO h6 e2
   ·have q6 := h6; try simp [Zp] at q6
    have f := ms f e2
    simp [G]
    refine rpG ?_
    exact rtg [.tmp 2] f
   ·have q6 := h6; try simp [Zp] at q6
    simp [G]
    refine rpG ?_
    exact ny1 (an w2 G) e2
 have f := ms f e2
 exact rt [.tmp 2] f
theorem LN (a0 : ZM) : Sa 247 [a0.row] [rB (Ur a0)] := by
 have f := me (Ur.eq_1 a0)
 refine so func247 ntmps247 ?_
 refine dIs mixed ?_
 refine cRs (YY a0.Id 1 999) ?_
 refine cGs (fun gg => (S0 a0.Y7)) ?_
 refine cGs (fun gg => (SW a0.Doc)) ?_
 refine cGs (fun gg => (Ud a0.ZI)) ?_
 refine gIf ?_ ?_ <;> intro G
 ·have gP := G
  have g1 := G; try simp [Zp] at g1
  have i1 : 0 < a0.ZI.ZL.length := by have := Gm (a := a0.ZI); simp_all
  simp [i1, ZE, G]
  refine rpG ?_
  refine cGg (fun gg => Yv.rd (S7 a0.Sig)) ?_
  refine cGg (fun gg => (U3 (nth a0.ZI.ZL 0) (QP a0.Sig))) ?_
  exact rtg [.tmp 2] f
 ·have gP := G
  refine sGo ?_
  simp [G]
  refine rpG ?_
  refine sGo ?_
  simp [G]
  refine rpG ?_
  exact rtg [.tmp 2] f
theorem y3 (a0 : ZD) : Sa 194 [a0.row] [rB (Ji a0)] := by
 have f := me (Ji.eq_1 a0)
 refine so func194 ntmps194 ?_
 refine lp1 (qO.eq_2 a0) (fun J => YX 42 [eX 1 (a0.row.map .d), eL 6 16 a0.ZF ZM.row, eI 7 (a0.ZF.length : Int), eI 8 (J : Int)]) (fun n1 J => a0.ZF.length < n1 + J /\ J <= a0.ZF.length) (a0.ZF.length + 1) 0 (fun p1 J e1 j1 => ?_)
 refine cFf e1 ?_ ?_ <;> intro k2 h1 e1
 ·have i1 := ix h1
  have m2 := ml a0.ZF (k2 6 _ rfl)
  have w1 := wr J
  simp [i1, ZE]
  refine rpS ?_
  refine dIs mixed ?_
  refine cRs (LN (nth a0.ZF J)) ?_
  refine gIf ?_ ?_ <;> intro G
  ·have i2 := ik (J - 1) a0.ZF
   have w2 : IntKind.i64.wrap ((J : Int) - 1) = (J : Int) - 1 := Zb (by omega) (by omega)
   simp [i2, ZE, w2, qp, G]
   refine rpG ?_
   refine cK e1 ?_ ?_ <;> intro k4 h2 e1
   ·have f := ms f e1
    exact rtg [.tmp 2] f
   ·exact ny1 (an w1 (an w2 G)) e1
  ·refine cK e1 ?_ ?_ <;> intro k5 h3 e1
   ·have f := ms f e1
    exact rtg [.tmp 2] f
   ·exact ny1 (an w1 G) e1
 have f := ms f e1
 refine cRs (YY a0.Id 0 99) ?_
 exact rt [.tmp 2] f
theorem Ok (a0 : ZD) (a1 : ZM) (u0 : Sm 2318336 a0) (u1 : Sm 2318336 a1) : Sd 182 [a0.row, a1.row] [(XB a0 a1).1.row, rB (XB a0 a1).2] := by
 have f := me (XB.eq_1 a0 a1)
 refine soD func182 ntmps182 ?_
 refine cRs (qQ a0 a1.Id) ?_
 refine cGs (fun gg => (y3 a0)) ?_
 refine cF f ?_ ?_ <;> intro k1 h1 f
 ·refine cDs [] (YT a0 (sg u0)) ?_
  exact rtD [.cell 4 119, .tmp 5] f
 refine cDs [] (YT a0 (sg u0)) ?_
 refine lp1 (Y9.eq_2 a0 a1) (fun J => YX 62 [eX 2 (a0.row.map .d), eX 3 (a1.row.map .d), (4, .one (.bptr 4 0), [.box [.d (.int .i64 0), .nil 16]]), (6, .one (.bptr 6 0), [.box [.d (.int .i64 a0.Id), .sref 21 1 0 a0.ZF.length]]), eI 7 (J : Int), (21, .any, [.none, .arr true 16 (a0.ZF.map ZM.row)])]) (fun n1 J => a0.ZF.length < n1 + J /\ J <= a0.ZF.length) (a0.ZF.length + 1) 0 (fun p1 J e1 j1 => ?_)
 refine dIs mixed ?_
 refine gIf ?_ ?_ <;> intro G
 ·have i1 := ik J a0.ZF
  simp [i1, ZE, G]
  refine rpG ?_
  refine cK e1 ?_ ?_ <;> intro k4 h2 e1
  ·have i2 : J < a0.ZF.length := by (simp at h2; omega)
   have m2 := ml a0.ZF (k4 24 _ rfl)
   have c1 := sl 2318336 a0.ZF (an u0 u1)
   have w1 := wr J
   exact ny1 (an w1 G) e1
  ·have c2 := sl 2318336 a0.ZF (an u0 u1)
   have f := ms f e1
   refine tX [(3, 3), (6, 6), (41, 6), (50, 6), (55, 6)] [] [45, 49, 54] mixed (by kernel_rfl) (by kernel_rfl) (by kernel_rfl) (by kernel_rfl) (by kernel_rfl) (by kernel_rfl) (by kernel_rfl) ?_
   simp [G]
   refine rpG ?_
   refine Wd ?_
   simp [G]
   refine rpG ?_
   refine rH (lC := (([] : List ZM).map ZM.row)) (rows := (a0.ZF.map ZM.row)) (news := ((a0.ZF.take J).map ZM.row)) (l1 := [(40, 0)]) (size := 16) (u := 21) (j := 1) (lo := 0) (n := J) rfl rfl rfl rfl (by simp) (by simp) (by simp) (by simp) (by simp) (by simp) (by first | omega | (simp; omega)) (by simp [cut]) (by simp) (by first | omega | (simp; omega)) ?_
   simp [G]
   refine rpG ?_
   refine cDg [true, true, true, false, false] (xT a1 (sg u1)) ?_
   refine Wd ?_
   have c3 := sl 2318336 (a0.ZF.take J) (an u0 u1)
   simp [G]
   refine rpG ?_
   refine Vl (lC := ((a0.ZF.take J).map ZM.row)) (news := (([a1] : List ZM).map ZM.row)) (l1 := [(45, 0)]) (l2 := [(47, 3), (47, 4), (47, 14), (47, 15)]) (size := 16) ?_
   simp [G]
   refine rpG ?_
   refine rH (lC := (((a0.ZF.take J) ++ ([a1] : List ZM)).map ZM.row)) (rows := (JY (a0.ZF.map ZM.row) 0 J)) (news := ((a0.ZF.drop J).map ZM.row)) (l1 := [(49, 0)]) (size := 16) (u := 21) (j := 1) (lo := J) (n := (a0.ZF.length - J)) rfl rfl rfl rfl (by simp) (by simp) (by simp) (by simp) (by simp) (by simp) (by rw [xB (by first | omega | (simp; omega))]; first | omega | (simp; omega)) ((LK (by first | omega | (simp; omega)) (by first | omega | (simp; omega))).trans (Rb _ _ _)) (by simp) (by first | omega | (simp; omega)) ?_
   simp [G]
   refine rpG ?_
   refine cRg (y3 (ZD.mk a0.Id (((a0.ZF.take J) ++ ([a1] : List ZM)) ++ (a0.ZF.drop J)))) ?_
   refine cK f ?_ ?_ <;> intro k6 h3 f
   ·refine cDg [] (YT a0 (sg u0)) ?_
    exact zb [.cell 4 119, .tmp 5] f
   ·exact zb [.cell 4 119, .tmp 5] f
 ·refine cK e1 ?_ ?_ <;> intro k7 h4 e1
  ·simp [G] at h4
  ·have c5 := sl 2318336 a0.ZF (an u0 u1)
   have f := ms f e1
   refine tX [(3, 3), (6, 6), (41, 6), (50, 6), (55, 6)] [] [45, 49, 54] mixed (by kernel_rfl) (by kernel_rfl) (by kernel_rfl) (by kernel_rfl) (by kernel_rfl) (by kernel_rfl) (by kernel_rfl) ?_
   simp [G]
   refine rpG ?_
   refine Wd ?_
   simp [G]
   refine rpG ?_
   refine rH (lC := (([] : List ZM).map ZM.row)) (rows := (a0.ZF.map ZM.row)) (news := ((a0.ZF.take J).map ZM.row)) (l1 := [(40, 0)]) (size := 16) (u := 21) (j := 1) (lo := 0) (n := J) rfl rfl rfl rfl (by simp) (by simp) (by simp) (by simp) (by simp) (by simp) (by first | omega | (simp; omega)) (by simp [cut]) (by simp) (by first | omega | (simp; omega)) ?_
   simp [G]
   refine rpG ?_
   refine cDg [true, true, true, false, false] (xT a1 (sg u1)) ?_
   refine Wd ?_
   have c6 := sl 2318336 (a0.ZF.take J) (an u0 u1)
   simp [G]
   refine rpG ?_
   refine Vl (lC := ((a0.ZF.take J).map ZM.row)) (news := (([a1] : List ZM).map ZM.row)) (l1 := [(45, 0)]) (l2 := [(47, 3), (47, 4), (47, 14), (47, 15)]) (size := 16) ?_
   simp [G]
   refine rpG ?_
   refine rH (lC := (((a0.ZF.take J) ++ ([a1] : List ZM)).map ZM.row)) (rows := (JY (a0.ZF.map ZM.row) 0 J)) (news := ((a0.ZF.drop J).map ZM.row)) (l1 := [(49, 0)]) (size := 16) (u := 21) (j := 1) (lo := J) (n := (a0.ZF.length - J)) rfl rfl rfl rfl (by simp) (by simp) (by simp) (by simp) (by simp) (by simp) (by rw [xB (by first | omega | (simp; omega))]; first | omega | (simp; omega)) ((LK (by first | omega | (simp; omega)) (by first | omega | (simp; omega))).trans (Rb _ _ _)) (by simp) (by first | omega | (simp; omega)) ?_
   simp [G]
   refine rpG ?_
   refine cRg (y3 (ZD.mk a0.Id (((a0.ZF.take J) ++ ([a1] : List ZM)) ++ (a0.ZF.drop J)))) ?_
   refine cK f ?_ ?_ <;> intro k9 h5 f
   ·refine cDg [] (YT a0 (sg u0)) ?_
    exact zb [.cell 4 119, .tmp 5] f
   ·exact zb [.cell 4 119, .tmp 5] f
theorem PU (a0 : ZJ) (a1 : Int) (a2 : Int) (a3 : ZV) (a4 : Int) (a5 : Int) (u0 : Sm 2314240 a0) (u1 : Sm 2314240 a3) : Sa 110 [a0.row, rI a1, rI a2, a3.row, rI a4, rI a5] [(XP a0 a1 a2 a3 a4 a5).1.row, rB (XP a0 a1 a2 a3 a4 a5).2] := by
 have f := me (XP.eq_1 a0 a1 a2 a3 a4 a5)
 refine so func110 ntmps110 ?_
 refine cRs (qe a0.Frame.Methods a0.Frame.Now) ?_
 refine cRs (zq a0 a1) ?_
 refine cGs (fun gg => (yR a0.Frame.Zq a2)) ?_
 have c1 := sl 2314240 a0.ZA (an u0 u1)
 have w1 : IntKind.i64.wrap ((a0.ZA.length : Int) - 1) = (a0.ZA.length : Int) - 1 := Zb (by omega) (by omega)
 refine cFo f ?_ ?_ <;> intro k1 h1 f
 ·have q1 := h1; try simp [w1, YU, Zp] at q1
  simp
  exact rt [.cell 12 47, .tmp 13] f
 have q1 := h1; try simp [w1, YU, Zp] at q1
 simp
 refine lp1 (K6.eq_2 a0 a1 a2 a3 a4 a5) (fun J => YX 116 [eI 1 a1, eI 2 a2, eI 4 a4, eI 5 a5, eX 6 (a0.row.map .d), eX 9 (a3.row.map .d), (12, .one (.bptr 12 0), [.box [.nil 5, .nil 3, .nil 4, .d (.int .i64 0), .d (.int .i64 0), .nil 7, .nil 1, .nil 2, .nil 1, .nil 1, .d (.int .i64 0), .nil 1]]), eX 14 (a0.Frame.row.map .d), eI 15 (ZP a0.Frame.Methods a0.Frame.Now), eL 48 7 a0.ZS Z1.row, eI 49 (a0.ZS.length : Int), eI 50 (J : Int)]) (fun n1 J => a0.ZS.length < n1 + J /\ J <= a0.ZS.length) (a0.ZS.length + 1) 0 (fun p1 J e1 j1 => ?_)
 refine cFf e1 ?_ ?_ <;> intro k3 h2 e1
 ·have i1 := ix h2
  have m2 := ml a0.ZS (k3 48 _ rfl)
  have c2 := sl 2314240 a0.ZS (an u0 u1)
  have w2 := wr J
  simp [i1, ZE]
  refine rpS ?_
  refine cF e1 ?_ ?_ <;> intro k4 h3 e1
  ·exact ny1 (an w1 w2) e1
  refine dIs mixed ?_
  refine cRs (jM (ZP a0.Frame.Methods a0.Frame.Now) a3 (sg u1)) ?_
  refine cRs (LV a0.Frame.Zq (ZY.mk a2 (nth a0.ZS J).Zg (ZP a0.Frame.Methods a0.Frame.Now) (Ya (ZP a0.Frame.Methods a0.Frame.Now) a3) 1 a4 0 0 0) (sg (Z8.xw (ZJ.Xq u0)))) ?_
  refine dIs mixed ?_
  refine cRs (Yv.rd (S7 (Y6 a0.Frame.Zq (ZY.mk a2 (nth a0.ZS J).Zg (ZP a0.Frame.Methods a0.Frame.Now) (Ya (ZP a0.Frame.Methods a0.Frame.Now) a3) 1 a4 0 0 0)).1)) ?_
  refine cRs (Yv.rd (FH (nth a0.ZS J))) ?_
  refine eIs ?_
  refine dIo mixed ?_
  have i2 := ik a1.toNat a0.ZA
  simp [i2, ZE]
  refine rpS ?_
  refine cDs [] (Ok (nth a0.ZA a1.toNat) (ZM.mk a0.Next a5 a3 (Y6 a0.Frame.Zq (ZY.mk a2 (nth a0.ZS J).Zg (ZP a0.Frame.Methods a0.Frame.Now) (Ya (ZP a0.Frame.Methods a0.Frame.Now) a3) 1 a4 0 0 0)).1 (Za.mk ([(QP (Y6 a0.Frame.Zq (ZY.mk a2 (nth a0.ZS J).Zg (ZP a0.Frame.Methods a0.Frame.Now) (Ya (ZP a0.Frame.Methods a0.Frame.Now) a3) 1 a4 0 0 0)).1), (JK (nth a0.ZS J))] : List ZO) ([] : List ZK))) (sg (Yf (ZJ.Y1 u0))) (by simp (maxDischargeDepth := 12) [K0, XC, Rs, RU, Zk (m := 2318336) (by decide) u0, Zk (m := 2318336) (by decide) u1]; try omega)) ?_
  refine cF e1 ?_ ?_ <;> intro k8 h4 e1
  ·have f := ms f e1
   exact rt [.cell 12 47, .tmp 13] f
  refine cDf i2 [false, false, false, true, true, false, false, true, false, false, true, false] (YF a0 (sg u0)) ?_
  refine Si (t := 103) (j := 7) (i := a1.toNat) (size := 2) (rows := (a0.ZA.map ZD.row)) (ds := (XB (nth a0.ZA a1.toNat) (ZM.mk a0.Next a5 a3 (Y6 a0.Frame.Zq (ZY.mk a2 (nth a0.ZS J).Zg (ZP a0.Frame.Methods a0.Frame.Now) (Ya (ZP a0.Frame.Methods a0.Frame.Now) a3) 1 a4 0 0 0)).1 (Za.mk ([(QP (Y6 a0.Frame.Zq (ZY.mk a2 (nth a0.ZS J).Zg (ZP a0.Frame.Methods a0.Frame.Now) (Ya (ZP a0.Frame.Methods a0.Frame.Now) a3) 1 a4 0 0 0)).1), (JK (nth a0.ZS J))] : List ZO) ([] : List ZK)))).1.row) (L := [(92, 1)]) ?_
  have f := ms f e1
  simp [YV (x := (XB (nth a0.ZA a1.toNat) (ZM.mk a0.Next a5 a3 (Y6 a0.Frame.Zq (ZY.mk a2 (nth a0.ZS J).Zg (ZP a0.Frame.Methods a0.Frame.Now) (Ya (ZP a0.Frame.Methods a0.Frame.Now) a3) 1 a4 0 0 0)).1 (Za.mk ([(QP (Y6 a0.Frame.Zq (ZY.mk a2 (nth a0.ZS J).Zg (ZP a0.Frame.Methods a0.Frame.Now) (Ya (ZP a0.Frame.Methods a0.Frame.Now) a3) 1 a4 0 0 0)).1), (JK (nth a0.ZS J))] : List ZO) ([] : List ZK)))).1) rfl, c1, i2, ZE, Zj]
  refine rpS ?_
  exact rt [.cell 12 47, .tmp 13] f
 have c3 := sl 2314240 a0.ZS (an u0 u1)
 have f := ms f e1
 exact rt [.cell 12 47, .tmp 13] f
theorem FX (a0 : ZJ) (a1 : Int) (a2 : Int) (a3 : ZV) (a4 : Int) (a5 : Int) (u0 : Sm 2310144 a0) (u1 : Sm 2310144 a3) : Sd 44 [a0.row, rI a1, rI a2, a3.row, rI a4, rI a5] [(xe a0 a1 a2 a3 a4 a5).1.row, rB (xe a0 a1 a2 a3 a4 a5).2] := by
 have f := me (xe.eq_1 a0 a1 a2 a3 a4 a5)
 refine soD func44 ntmps44 ?_
 refine cRs (yR a0.Frame.Zq a2) ?_
 refine dIs mixed ?_
 refine gIf ?_ ?_ <;> intro G
 ·have i1 : (YH a0.Frame.Zq a2).toNat < a0.Frame.Zq.length := by have := jX a0.Frame.Zq a2; exact il
  simp [i1, ZE, G]
  refine rpG ?_
  refine cK f ?_ ?_ <;> intro k2 h1 f
  ·refine cDg [false, false, false, true, true, false, false, true, false, false, true, false] (YF a0 (by first | (exact Zk (n := 2310144) (by decide) (xs (an u0 u1))) | (exact Zk (n := 2310144 + 1) (by decide) (yl (n := 2310144) (xs (an u0 u1)) (xs (an u0 u1)) (by decide))))) ?_
   exact zb [.cell 12 47, .tmp 13] f
  ·refine cRg (PU a0 a1 a2 a3 a4 a5 (sg u0) (sg u1)) ?_
   refine cDg [false, false, false, true, true, false, false, true, false, false, true, false] (YF (XP a0 a1 a2 a3 a4 a5).1 (by first | (exact Zk (n := 2310144) (by decide) (xs (an u0 u1))) | (exact Zk (n := 2310144 + 1) (by decide) (yl (n := 2310144) (xs (an u0 u1)) (xs (an u0 u1)) (by decide))))) ?_
   exact zb [.cell 12 47, .tmp 13] f
 ·refine cK f ?_ ?_ <;> intro k3 h2 f
  ·refine cDg [false, false, false, true, true, false, false, true, false, false, true, false] (YF a0 (by first | (exact Zk (n := 2310144) (by decide) (xs (an u0 u1))) | (exact Zk (n := 2310144 + 1) (by decide) (yl (n := 2310144) (xs (an u0 u1)) (xs (an u0 u1)) (by decide))))) ?_
   exact zb [.cell 12 47, .tmp 13] f
  ·simp [G] at h2
theorem My (a0 : ZJ) (a1 : Int) : Sa 124 [a0.row, rI a1] [rI (ZT a0 a1).1, rI (ZT a0 a1).2] := by
 have f := me (ZT.eq_1 a0 a1)
 refine so func124 ntmps124 ?_
 refine lp1 (y7.eq_2 a0 a1) (fun J => YX 25 [eI 1 a1, eL 10 2 a0.ZA ZD.row, eI 11 (a0.ZA.length : Int), eI 12 (J : Int)]) (fun n1 J => a0.ZA.length < n1 + J /\ J <= a0.ZA.length) (a0.ZA.length + 1) 0 (fun p1 J e1 j1 => ?_)
 refine cFf e1 ?_ ?_ <;> intro k2 h1 e1
 ·have i1 := ix h1
  have m2 := ml a0.ZA (k2 10 _ rfl)
  have w1 := wr J
  simp [i1, ZE]
  refine rpS ?_
  refine cRs (qQ (nth a0.ZA J) a1) ?_
  refine cF e1 ?_ ?_ <;> intro k3 h2 e1
  ·have f := ms f e1
   exact rt [.tmp 4, .tmp 5] f
  exact ny1 w1 e1
 have f := ms f e1
 exact rt [.tmp 4, .tmp 5] f
theorem N1 (a0 : ZO) : Sa 241 [a0.row] [rI (QX a0)] := by
 have f := me (QX.eq_1 a0)
 refine so func241 ntmps241 ?_
 refine dIs mixed ?_
 refine gIf ?_ ?_ <;> intro G
 ·have i1 := ik 0 a0.YP
  simp [i1, ZE, G]
  refine rpG ?_
  refine cGg (fun gg => (YY (nth a0.YP 0) 101 105)) ?_
  refine gJf G ?_ ?_ <;> intro G
  ·try (simp at G; done)
   all_goals
    have g2 := G.2; try simp [Zp] at g2
    all_goals
     simp [i1, ZE, G]
     refine rpG ?_
     refine gK (fun _ => ?_)
     have r1 : ∀ i : Nat, i < 5 -> cut [At.d (.int .i64 7), At.d (.int .i64 5), At.d (.int .i64 5), At.d (.int .i64 9), At.d (.int .i64 6)] i 1 = [At.d (.int .i64 (nth ([7, 5, 5, 9, 6] : List Int) i))] := by intro i h; (have z : i = 0 \/ i = 1 \/ i = 2 \/ i = 3 \/ i = 4 := by omega); rcases z with rfl | rfl | rfl | rfl | rfl <;> rfl
     have i2 : (W ((nth a0.YP 0) - 101)).toNat < 5 := by first | omega | ((try simp only [Kc, show ∀ x, IntKind.i64.wrap x = W x from fun _ => rfl] at *); omega)
     have r1b := r1 _ i2; simp only [cut] at r1b
     simp [r1 _ i2, r1b, G]
     refine rpG ?_
     refine cKo f ?_ ?_ <;> intro k2 h1 f
     ·have q1 := h1; try simp [Zp] at q1
      simp [G]
      refine rpG ?_
      exact rtg [.tmp 2] f
     ·have q1 := h1; try simp [Zp] at q1
      simp [i1, ZE, G]
      refine rpG ?_
      exact rtg [.tmp 2] f
  ·try (simp at G; done)
   all_goals
    refine sGg ?_
    refine cKo f ?_ ?_ <;> intro k3 h2 f
    ·have q2 := h2; try simp [Zp] at q2
     simp [G]
     refine rpG ?_
     exact rtg [.tmp 2] f
    ·simp [G] at h2
 ·refine sGo ?_
  simp [G]
  refine rpG ?_
  refine gJf G ?_ ?_ <;> intro G
  ·try (simp at G; done)
   all_goals
    have g3 := G.2; try simp [Zp] at g3
    all_goals
     have i5 := ik 0 a0.YP
     simp [i5, ZE, G]
     refine rpG ?_
     refine gK (fun _ => ?_)
     have r3 : ∀ i : Nat, i < 5 -> cut [At.d (.int .i64 7), At.d (.int .i64 5), At.d (.int .i64 5), At.d (.int .i64 9), At.d (.int .i64 6)] i 1 = [At.d (.int .i64 (nth ([7, 5, 5, 9, 6] : List Int) i))] := by intro i h; (have z : i = 0 \/ i = 1 \/ i = 2 \/ i = 3 \/ i = 4 := by omega); rcases z with rfl | rfl | rfl | rfl | rfl <;> rfl
     have i6 : (W ((nth a0.YP 0) - 101)).toNat < 5 := by first | omega | ((try simp only [Kc, show ∀ x, IntKind.i64.wrap x = W x from fun _ => rfl] at *); omega)
     have r3b := r3 _ i6; simp only [cut] at r3b
     simp [r3 _ i6, r3b, G]
     refine rpG ?_
     refine cKo f ?_ ?_ <;> intro k4 h3 f
     ·simp [G] at h3
     ·simp [G] at h3
  ·try (simp at G; done)
   all_goals
    refine sGg ?_
    refine cKo f ?_ ?_ <;> intro k5 h4 f
    ·have q4 := h4; try simp [Zp] at q4
     simp [G]
     refine rpG ?_
     exact rtg [.tmp 2] f
    ·simp [G] at h4
theorem Hk (a0 : ZO) : Sa 183 [a0.row] [(J6 a0).1.row, rB (J6 a0).2] := by
 have f := me (J6.eq_1 a0)
 refine so func183 ntmps183 ?_
 refine dIs mixed ?_
 refine cRs (N1 a0) ?_
 refine gIf ?_ ?_ <;> intro G
 ·have gP := G
  have g1 := G; try simp at g1
  have i1 : 6 < a0.YP.length := by (have z := J9 a0; simp_all; done)
  simp [i1, ZE, G]
  refine rpG ?_
  refine cK f ?_ ?_ <;> intro k2 h1 f
  ·exact rtg [.cell 2 125, .tmp 3] f
  ·refine dIo mixed ?_
   have i2 : 1 < a0.YP.length := by (have z := J9 a0; simp_all; done)
   have i3 : 2 < a0.YP.length := by (have z := J9 a0; simp_all; done)
   have i4 : 3 < a0.YP.length := by (have z := J9 a0; simp_all; done)
   have i5 : 4 < a0.YP.length := by (have z := J9 a0; simp_all; done)
   have i6 : 5 < a0.YP.length := by (have z := J9 a0; simp_all; done)
   simp [i2, ZE, i3, i4, i5, i6, i1, G]
   refine rpG ?_
   exact rtg [.cell 2 125, .tmp 3] f
 ·have gP := G
  refine cK f ?_ ?_ <;> intro k4 h2 f
  ·exact rtg [.cell 2 125, .tmp 3] f
  ·simp [G] at h2
theorem F9 (a0 : List Z1) (a1 : Int) : Sa 184 [rL 7 Z1.row a0, rI a1] [rI (XL a0 a1)] := by
 have f := me (XL.eq_1 a0 a1)
 refine so func184 ntmps184 ?_
 refine lp1 (yV.eq_2 a0 a1) (fun J => YX 20 [eI 1 a1, eL 7 7 a0 Z1.row, eI 8 (a0.length : Int), eI 9 (J : Int)]) (fun n1 J => a0.length < n1 + J /\ J <= a0.length) (a0.length + 1) 0 (fun p1 J e1 j1 => ?_)
 refine cFf e1 ?_ ?_ <;> intro k2 h1 e1
 ·have i1 := ix h1
  have m2 := ml a0 (k2 7 _ rfl)
  have w1 := wr J
  simp [i1, ZE]
  refine rpS ?_
  refine cF e1 ?_ ?_ <;> intro k3 h2 e1
  ·have f := ms f e1
   exact rt [.tmp 4] f
  exact ny1 w1 e1
 have f := ms f e1
 exact rt [.tmp 4] f
theorem zK {a b : Prop} (h : b) (k : a := by (intros; first | omega | with_unfolding_all (first | first | omega | (have fi := KS a0 a1 (by first | omega | (simp at *; omega)); omega) | (simp only [Bool.or_eq_false_iff, decide_eq_false_iff_not] at *; omega)) | (simp_all; done) | (simp_all; omega) | grind | ((try simp only [Kc, show ∀ x, IntKind.i64.wrap x = W x from fun _ => rfl] at *); omega))) : a /\ b := ⟨k, h⟩
theorem LH (a0 : ZJ) (a1 : Int) : Sa 111 [a0.row, rI a1] [rI (YG a0 a1).1, rI (YG a0 a1).2.1, rB (YG a0 a1).2.2] := by
 have f := me (YG.eq_1 a0 a1)
 refine so func111 ntmps111 ?_
 refine cRs (My a0 a1) ?_
 refine gIo ?_ ?_ <;> intro G
 ·have gP := G
  have g1 := G; try simp at g1
  have i1 : (ZT a0 a1).1.toNat < a0.ZA.length := by first | omega | (have fi := KS a0 a1 (by first | omega | (simp at *; omega)); omega) | (simp only [Bool.or_eq_false_iff, decide_eq_false_iff_not] at *; omega)
  simp [i1, ZE, G]
  repeat with_reducible refine zK ?_
  refine gK (fun _ => ?_)
  have i2 : (ZT a0 a1).2.toNat < (nth a0.ZA (ZT a0 a1).1.toNat).ZF.length := by first | omega | (have fi := KS a0 a1 (by first | omega | (simp at *; omega)); omega) | (simp only [Bool.or_eq_false_iff, decide_eq_false_iff_not] at *; omega)
  simp [i2, ZE, G]
  repeat with_reducible refine zK ?_
  refine cKo f ?_ ?_ <;> intro k1 h1 f
  ·simp [G]
   repeat with_reducible refine zK ?_
   exact rtg [.tmp 4, .tmp 5, .tmp 6] f
  ·have i3 : 1 < (nth (nth a0.ZA (ZT a0 a1).1.toNat).ZF (ZT a0 a1).2.toNat).ZI.ZL.length := by first | omega | (have fi := KS a0 a1 (by first | omega | (simp at *; omega)); omega) | (simp only [Bool.or_eq_false_iff, decide_eq_false_iff_not] at *; omega)
   simp [i1, ZE, i2, i3, G]
   repeat with_reducible refine zK ?_
   refine cR (Hk (nth (nth (nth a0.ZA (ZT a0 a1).1.toNat).ZF (ZT a0 a1).2.toNat).ZI.ZL 1)) ?_
   simp [G]
   repeat with_reducible refine zK ?_
   refine cR (F9 a0.ZS (J6 (nth (nth (nth a0.ZA (ZT a0 a1).1.toNat).ZF (ZT a0 a1).2.toNat).ZI.ZL 1)).1.Zg) ?_
   simp [G]
   repeat with_reducible refine zK ?_
   exact rtg [.tmp 4, .tmp 5, .tmp 6] f
 ·have gP := G
  simp [G]
  repeat with_reducible refine zK ?_
  refine sGo ?_
  simp [G]
  repeat with_reducible refine zK ?_
  refine cKo f ?_ ?_ <;> intro k2 h2 f
  ·simp [G]
   repeat with_reducible refine zK ?_
   exact rtg [.tmp 4, .tmp 5, .tmp 6] f
  ·simp [G] at h2
theorem Se (a0 : Z4) : Sd 242 [a0.row] [rL 1 iR (JT a0)] := by
 have f := me (JT.eq_1 a0)
 refine soD func242 ntmps242 ?_
 exact rtD [.tmp 2] f
theorem F5 (a0 : Z4) : Sa 243 [a0.row] [rB (VG a0)] := by
 have f := me (VG.eq_1 a0)
 refine so func243 ntmps243 ?_
 refine cRs (YY a0.Zg 1 999) ?_
 refine cGs (fun gg => (S0 a0.OC)) ?_
 refine cGs (fun gg => (YY a0.Zr (-1) (W (a0.OC + 1)))) ?_
 refine cGs (fun gg => (YY a0.Z5 1 99)) ?_
 exact rt [.tmp 2] f
theorem Lf (a0 : List YR) (a1 : Z4) (u0 : Sm 2318336 a0) : Sa 185 [rL 5 YR.row a0, a1.row] [(Yp a0 a1).1.row, rB (Yp a0 a1).2] := by
 have f := me (Yp.eq_1 a0 a1)
 refine so func185 ntmps185 ?_
 refine dIs mixed ?_
 refine cRs (Yv.rd (Se a1)) ?_
 refine cRs (S5 a0 a1.Z5 (JT a1) (sg u0) (by simp (maxDischargeDepth := 12) [SM, Zk (m := 2322432) (by decide) u0]; try omega)) ?_
 refine cRs (F5 a1) ?_
 refine cF f ?_ ?_ <;> intro k2 h1 f
 ·exact rt [.cell 4 131, .tmp 5] f
 exact rt [.cell 4 131, .tmp 5] f
theorem Mb (a0 : Z4) : Sd 187 [a0.row] [(XD a0).row] := by
 have f := me (XD.eq_1 a0)
 refine soD func187 ntmps187 ?_
 refine dIs mixed ?_
 refine cDs [false] (Se a0) ?_
 exact rtD [.cell 2 129] f
theorem Fa (a0 : Za) (a1 : ZO) (u0 : Sm 2326528 a0) (u1 : Sm 2326528 a1) : Sd 244 [a0.row, a1.row] [(Jp a0 a1).1.row, rB (Jp a0 a1).2] := by
 have f := me (Jp.eq_1 a0 a1)
 refine soD func244 ntmps244 ?_
 refine cDs [] (ze a0 (sg u0)) ?_
 refine drJ [14] mixed ?_
 simp
 refine cDs [true, false] (Sb a1 (sg u1)) ?_
 refine Wd ?_
 have c1 := sl 2326528 a0.ZL (an u0 u1)
 simp
 refine Vl (lC := (a0.ZL.map ZO.row)) (news := (([a1] : List ZO).map ZO.row)) (l1 := [(8, 0)]) (l2 := [(12, 1)]) (size := 3) ?_
 simp
 refine cRs (Ud (Za.mk (a0.ZL ++ ([a1] : List ZO)) a0.Zd)) ?_
 refine cF f ?_ ?_ <;> intro k2 h1 f
 ·refine cDs [] (ze a0 (sg u0)) ?_
  exact rtD [.cell 4 112, .tmp 5] f
 exact rtD [.cell 4 112, .tmp 5] f
theorem Ht (a0 : ZD) (a1 : Int) (a2 : ZO) (u0 : Sm 2318336 a0) (u1 : Sm 2318336 a2) : Sd 186 [a0.row, rI a1, a2.row] [(XZ a0 a1 a2).1.row, rB (XZ a0 a1 a2).2] := by
 have f := me (XZ.eq_1 a0 a1 a2)
 refine soD func186 ntmps186 ?_
 refine cDs [] (YT a0 (sg u0)) ?_
 refine cRs (qQ a0 a1) ?_
 refine cF f ?_ ?_ <;> intro k1 h1 f
 ·exact rtD [.cell 6 119, .tmp 7] f
 refine dIo mixed ?_
 have i1 : (ZW a0 a1).toNat < a0.ZF.length := by have := Qw a0 a1; exact il
 simp [i1, ZE]
 refine rpS ?_
 refine cDf i1 [] (Fa (nth a0.ZF (ZW a0 a1).toNat).ZI a2 (sg (ZM.Jf (Yf (ZD.Ys u0)))) (sg u1)) ?_
 refine r6 (t := 13) (j := 1) (i := (ZW a0 a1).toNat) (c := 14) (size := 16) (rows := (a0.ZF.map ZM.row)) (ds := (Jp (nth a0.ZF (ZW a0 a1).toNat).ZI a2).1.row) (L := [(28, 0), (28, 1)]) rfl rfl rfl rfl (by simp) (by simp) (by simp; try omega) (by simp) (by simp) (by simp) (by simp) (by simp) (by simp) ?_
 simp [YV (x := (ZM.mk (nth a0.ZF (ZW a0 a1).toNat).Id (nth a0.ZF (ZW a0 a1).toNat).Y7 (nth a0.ZF (ZW a0 a1).toNat).Doc (nth a0.ZF (ZW a0 a1).toNat).Sig (Jp (nth a0.ZF (ZW a0 a1).toNat).ZI a2).1)) rfl, i1, ZE, Zj]
 refine rpS ?_
 exact rtD [.cell 6 119, .tmp 7] f
theorem UP (a0 : ZJ) (a1 : Int) (a2 : Int) (a3 : Z4) (u0 : Sm 2314240 a0) (u1 : 0 <= a1 /\ a1 < (a0.ZA.length : Int)) : Sd 112 [a0.row, rI a1, rI a2, a3.row] [(JX a0 a1 a2 a3).1.row, rB (JX a0 a1 a2 a3).2] := by
 have f := me (JX.eq_1 a0 a1 a2 a3)
 refine soD func112 ntmps112 ?_
 refine cRs (Lf a0.Frame.Zq a3 (sg (Z8.xw (ZJ.Xq u0)))) ?_
 refine dIo mixed ?_
 have i1 := ik a1.toNat a0.ZA
 simp [i1, ZE]
 refine rpS ?_
 refine cRs (Yv.rd (Mb (Yp a0.Frame.Zq a3).1)) ?_
 refine cDs [] (Ht (nth a0.ZA a1.toNat) a2 (XD (Yp a0.Frame.Zq a3).1) (sg (Yf (ZJ.Y1 u0))) (by simp (maxDischargeDepth := 12) [N9, Zk (m := 2318336) (by decide) u0, Zk (m := 2318336) (by decide) u1]; try omega)) ?_
 refine cDs [false, false, false, true, true, false, false, true, false, false, true, false] (YF a0 (sg u0)) ?_
 refine cFt f ?_ ?_ <;> intro k2 h1 f
 ·exact rtD [.cell 8 47, .tmp 9] f
 simp [i1, ZE]
 refine rpS ?_
 refine Si (t := 36) (j := 7) (i := a1.toNat) (size := 2) (rows := (a0.ZA.map ZD.row)) (ds := (XZ (nth a0.ZA a1.toNat) a2 (XD (Yp a0.Frame.Zq a3).1)).1.row) (L := [(32, 1)]) ?_
 simp [YV (x := (XZ (nth a0.ZA a1.toNat) a2 (XD (Yp a0.Frame.Zq a3).1)).1) rfl, i1, ZE, Zj]
 refine rpS ?_
 exact rtD [.cell 8 47, .tmp 9] f
theorem IY {a b : Prop} (h : b) (k : a := by (intros; first | omega | with_unfolding_all (first | first | omega | (have z := Jr a0 a1 (by simp_all); (try simp at *); omega)) | ((try simp only [Kc, show ∀ x, IntKind.i64.wrap x = W x from fun _ => rfl] at *); omega))) : a /\ b := ⟨k, h⟩
theorem Xd {a b : Prop} (h : b) (k : a := by (intros; first | omega | with_unfolding_all (first | first | omega | (have z := Jr a0 a1 (by simp_all); (try simp at *); omega)) | (simp_all; done) | (simp_all; omega) | grind | ((try simp only [Kc, show ∀ x, IntKind.i64.wrap x = W x from fun _ => rfl] at *); omega))) : a /\ b := ⟨k, h⟩
theorem Ls (a0 : ZJ) (a1 : Int) (u0 : Sm 2310144 a0) : Sd 45 [a0.row, rI a1] [(K9 a0 a1).1.row, rB (K9 a0 a1).2] := by
 have f := me (K9.eq_1 a0 a1)
 refine soD func45 ntmps45 ?_
 refine cRs (LH a0 a1) ?_
 refine cF f ?_ ?_ <;> intro k1 h1 f
 ·refine cDs [false, false, false, true, true, false, false, true, false, false, true, false] (YF a0 (sg u0)) ?_
  exact rtD [.cell 4 47, .tmp 5] f
 refine dIo mixed ?_
 have i1 : (YG a0 a1).2.1.toNat < a0.ZS.length := by first | omega | (have z := Jr a0 a1 (by simp_all); (try simp at *); omega)
 simp [i1, ZE]
 repeat with_reducible refine IY ?_
 refine cRs (yR a0.Frame.Zq (nth a0.ZS (YG a0 a1).2.1.toNat).Z5) ?_
 refine dIs mixed ?_
 refine gIo ?_ ?_ <;> intro G
 ·have gP := G
  have g1 := G; try simp at g1
  have i2 : (YH a0.Frame.Zq (nth a0.ZS (YG a0 a1).2.1.toNat).Z5).toNat < a0.Frame.Zq.length := by have := jX a0.Frame.Zq (nth a0.ZS (YG a0 a1).2.1.toNat).Z5; first | omega | (have z := Jr a0 a1 (by simp_all); (try simp at *); omega)
  simp [i2, ZE, G]
  repeat with_reducible refine Xd ?_
  refine cKo f ?_ ?_ <;> intro k4 h2 f
  ·simp [G]
   repeat with_reducible refine Xd ?_
   refine cD [false, false, false, true, true, false, false, true, false, false, true, false] (YF a0 (sg u0)) ?_
   simp [G]
   repeat with_reducible refine Xd ?_
   exact zb [.cell 4 47, .tmp 5] f
  ·have i3 : (YG a0 a1).2.1.toNat < a0.Zr.length := by first | omega | (have z := Jr a0 a1 (by simp_all); (try simp at *); omega)
   simp [i3, ZE, G]
   repeat with_reducible refine Xd ?_
   refine cKo f ?_ ?_ <;> intro k5 h3 f
   ·simp [G]
    repeat with_reducible refine Xd ?_
    refine dIo mixed ?_
    simp [i1, ZE, G]
    repeat with_reducible refine Xd ?_
    refine cD [false, false, false, true, true, false, false, true, false, false, true, false] (UP a0 (YG a0 a1).1 a1 (Z4.mk (nth a0.ZS (YG a0 a1).2.1.toNat).Zg a0.Frame.Now (-1) (nth a0.ZS (YG a0 a1).2.1.toNat).Z5 0) (sg u0) (by (have z := Jr a0 a1 (by simp_all); (try simp at *); omega))) ?_
    simp [G]
    repeat with_reducible refine Xd ?_
    exact zb [.cell 4 47, .tmp 5] f
   ·simp [G]
    repeat with_reducible refine Xd ?_
    refine dIo mixed ?_
    simp [i1, ZE, G]
    repeat with_reducible refine Xd ?_
    refine cD [false, false, false, true, true, false, false, true, false, false, true, false] (UP a0 (YG a0 a1).1 a1 (Z4.mk (nth a0.ZS (YG a0 a1).2.1.toNat).Zg a0.Frame.Now (nth a0.Zr (YG a0 a1).2.1.toNat) (nth a0.ZS (YG a0 a1).2.1.toNat).Z5 0) (sg u0) (by (have z := Jr a0 a1 (by simp_all); (try simp at *); omega))) ?_
    simp [G]
    repeat with_reducible refine Xd ?_
    exact zb [.cell 4 47, .tmp 5] f
 ·have gP := G
  simp [G]
  repeat with_reducible refine Xd ?_
  refine cKo f ?_ ?_ <;> intro k8 h4 f
  ·simp [G]
   repeat with_reducible refine Xd ?_
   refine cD [false, false, false, true, true, false, false, true, false, false, true, false] (YF a0 (sg u0)) ?_
   simp [G]
   repeat with_reducible refine Xd ?_
   exact zb [.cell 4 47, .tmp 5] f
  ·simp [G] at h4
theorem LY (a0 : ZJ) (a1 : Int) (u0 : Sm 2314240 a0) : Sd 46 [a0.row, rI a1] [(KN a0 a1).1.row, rB (KN a0 a1).2] := by
 have f := me (KN.eq_1 a0 a1)
 refine soD func46 ntmps46 ?_
 refine cDs [false, false, false, true, true, false, false, true, false, false, true, false] (YF a0 (sg u0)) ?_
 refine cRs (YY a1 0 (W ((a0.Zr.length : Int) - 1))) ?_
 refine gIf ?_ ?_ <;> intro G
 ·have c1 := sl 2314240 a0.Zr u0
  have w1 : IntKind.i64.wrap ((a0.Zr.length : Int) - 1) = (a0.Zr.length : Int) - 1 := Zb (by omega) (by omega)
  have g1 := G; try simp [Zp, w1] at g1
  have i1 := ik a1.toNat a0.Zr
  simp [i1, ZE, G]
  refine rpG ?_
  refine cKo f ?_ ?_ <;> intro k1 h1 f
  ·have q1 := h1; try simp [Zp, w1] at q1
   simp [G]
   refine rpG ?_
   exact zb [.cell 4 47, .tmp 5] f
  ·have q1 := h1; try simp [Zp, w1] at q1
   simp [i1, ZE, YV (x := (W (a0.Frame.Now + 1))) rfl, G]
   refine rpG ?_
   refine FL (rv := [.cell 4 47, .tmp 5]) rfl ?_
   simp [f.h, G]
   all_goals (repeat' (first | exact Hn (by simp) (by simp) | refine And.intro ?_ ?_))
 ·have c2 := sl 2314240 a0.Zr u0
  have w2 : IntKind.i64.wrap ((a0.Zr.length : Int) - 1) = (a0.Zr.length : Int) - 1 := Zb (by omega) (by omega)
  refine cKo f ?_ ?_ <;> intro k2 h2 f
  ·have q2 := h2; try simp [Zp, w2] at q2
   simp [G]
   refine rpG ?_
   exact zb [.cell 4 47, .tmp 5] f
  ·simp [G] at h2
theorem Iz (a0 : List Int) : Sa 115 [rL 1 iR a0] [rB (qw a0)] := by
 have f := me (qw.eq_1 a0)
 refine so func115 ntmps115 ?_
 refine lp1 (ka.eq_2 a0) (fun J => YX 20 [eL 0 1 a0 iR, eI 3 (J : Int)]) (fun n1 J => a0.length < n1 + J /\ 1 <= J) (a0.length + 1) 1 (fun p1 J e1 j1 => ?_)
 refine cF e1 ?_ ?_ <;> intro k2 h1 e1
 ·have i1 := ix h1
  have m2 := ml a0 (k2 0 _ rfl)
  have w1 := wr J
  refine dIo mixed ?_
  have i2 := ik (J - 1) a0
  have w2 : IntKind.i64.wrap ((J : Int) - 1) = (J : Int) - 1 := Zb (by omega) (by omega)
  simp [i2, ZE, w2, qp, i1]
  refine rpS ?_
  refine cF e1 ?_ ?_ <;> intro k4 h2 e1
  ·have f := ms f e1
   exact rt [.tmp 2] f
  exact ny1 (an w1 w2) e1
 have f := ms f e1
 exact rt [.tmp 2] f
theorem Rj (a0 : ZX) : Sd 193 [a0.row] [rL 1 iR (J5 a0)] := by
 have f := me (J5.eq_1 a0)
 refine soD func193 ntmps193 ?_
 exact rtD [.tmp 2] f
theorem VU (a0 : Int) (a1 : ZK) (u0 : Sm 2326528 a1) : Sa 202 [rI a0, a1.row] [rI (KL a0 a1)] := by
 have f := me (KL.eq_1 a0 a1)
 refine so func202 ntmps202 ?_
 refine lp2 (KC.eq_2 a1) (fun J U => YX 59 [eI 0 a0, eX 3 (a1.row.map .d), (5, .one (.sref 5 0 0 J.length), [.arr false 1 (J.map iR)]), eL 19 2 a1.Path Zv.row, eI 20 (a1.Path.length : Int), eI 21 (U : Int)]) (fun n1 J U => a1.Path.length < n1 + U /\ U <= a1.Path.length /\ J.length <= 4 + 2 * U) (a1.Path.length + 1) ([4, a1.Count, a1.Method, a1.ID] : List Int) 0 (fun p1 J U e1 j1 => ?_) (h0 := wkS [((5, 0), some (17, 0))] [])
 refine cFo e1 ?_ ?_ <;> intro k2 h1 e1
 ·have q1 := h1; try simp at q1
  have i1 := ix h1
  have m2 := ml a1.Path (k2 19 _ rfl)
  have c1 := sl 2326528 a1.Path u0
  have w1 := wr U
  simp [i1, ZE]
  refine rpS ?_
  refine cFo e1 ?_ ?_ <;> intro k3 h2 e1
  ·have q2 := h2; try simp at q2
   simp
   refine rpS ?_
   exact nx2 e1 (hw := Xh [((5, 0), some (32, 0))] [] rfl (by simp [w1]))
  have q2 := h2; try simp at q2
  simp
  refine rpS ?_
  exact nx2 e1 (hw := Xh [((5, 0), some (32, 0))] [] rfl (by simp [w1]))
 have q1 := h1; try simp at q1
 have c2 := sl 2326528 a1.Path u0
 have f := ms f e1
 simp
 refine rpS ?_
 refine lp2 (zH.eq_2 a1) (fun lI lq => YX 59 [eI 0 a0, (5, .one (.sref 5 0 0 lI.length), [.arr false 1 (lI.map iR)]), eL 41 5 a1.YE ZX.row, eI 42 (a1.YE.length : Int), eI 43 (lq : Int)]) (fun n2 lI lq => a1.YE.length < n2 + lq /\ lq <= a1.YE.length /\ lI.length <= 5 + 2 * 2326528 + 6 * lq) (a1.YE.length + 1) (J ++ ([(a1.YE.length : Int)] : List Int)) 0 (fun p2 lI lq e2 j2 => ?_) (hI := by (have o : a1.Path.length <= 2326528 := JA (xs u0); simp at *; omega)) (h0 := wkS [((5, 0), some (39, 0))] [])
 try dsimp only at j2
 refine cFo e2 ?_ ?_ <;> intro k5 h3 e2
 ·have q3 := h3; try simp at q3
  have i2 := ix h3
  have m4 := ml a1.YE (k5 41 _ rfl)
  have c3 := sl 2326528 a1.YE u0
  have w2 := wr lq
  simp [i2, ZE]
  refine rpS ?_
  refine dIs mixed ?_
  refine cRs (Yv.rd (Rj (nth a1.YE lq))) ?_
  exact nx2 e2 (hI := by (simp; omega)) (hw := Xh [((5, 0), some (54, 0))] [] rfl (by simp [w2]))
 have q3 := h3; try simp at q3
 have c4 := sl 2326528 a1.YE u0
 have f := ms f e2
 simp
 refine cRs (KZ a0 lI (by first | (simp (maxDischargeDepth := 12) [XC]; omega) | (simp (maxDischargeDepth := 12) [Zk (m := 68719476736) (by decide) u0]; done))) ?_
 exact rt [.tmp 4] f
theorem UF (a0 : Int) (a1 : List ZO) (u0 : Sm 2326528 a1) : Sa 252 [rI a0, rL 3 ZO.row a1] [rI (J3 a0 a1)] := by
 have f := me (J3.eq_1 a0 a1)
 refine so func252 ntmps252 ?_
 refine lp2 (zn.eq_2 a0 a1) (fun J U => YX 32 [eI 0 a0, (5, .one (.sref 5 0 0 J.length), [.arr false 1 (J.map iR)]), eL 9 3 a1 ZO.row, eI 10 (a1.length : Int), eI 11 (U : Int)]) (fun n1 J U => a1.length < n1 + U /\ U <= a1.length /\ J.length <= 1 + 1 * U) (a1.length + 1) ([2] : List Int) 0 (fun p1 J U e1 j1 => ?_) (h0 := wkS [((5, 0), some (8, 0))] [])
 refine cFf e1 ?_ ?_ <;> intro k2 h1 e1
 ·have i1 := ix h1
  have m2 := ml a1 (k2 9 _ rfl)
  have c1 := sl 2326528 a1 u0
  have w1 := wr U
  have c2 := sl 2326528 (nth a1 U).YP u0
  simp [i1, ZE]
  refine rpS ?_
  refine cRs (KZ a0 (([(nth a1 U).Key, (nth a1 U).Mark] : List Int) ++ (nth a1 U).YP) (by simp (maxDischargeDepth := 12) [K0, XC, Zk (m := 68719476736) (by decide) u0]; try omega)) ?_
  exact nx2 e1 (hw := Xh [((5, 0), some (27, 0))] [] rfl (by simp [w1]))
 have c3 := sl 2326528 a1 u0
 have f := ms f e1
 refine cRs (KZ a0 J (by first | (simp (maxDischargeDepth := 12) [XC]; omega) | (simp (maxDischargeDepth := 12) [Zk (m := 68719476736) (by decide) u0]; done))) ?_
 exact rt [.tmp 4] f
theorem LR (a0 : Int) (a1 : Int) (a2 : List ZO) (a3 : Int) (u0 : Sm 2322432 a2) : Sa 203 [rI a0, rI a1, rL 3 ZO.row a2, rI a3] [rI (TD a0 a1 a2 a3)] := by
 have f := me (TD.eq_1 a0 a1 a2 a3)
 refine so func203 ntmps203 ?_
 refine cRs (UF a0 a2 (sg u0)) ?_
 refine cRs (KZ a0 ([3, a1, (J3 a0 a2), a3] : List Int) (by simp (maxDischargeDepth := 12) [K0, XC, Zk (m := 68719476736) (by decide) u0]; try omega)) ?_
 exact rt [.tmp 8] f
theorem Ou (a0 : ZM) (a1 : Int) (u0 : Sm 2318336 a0) : Sa 126 [a0.row, rI a1] [rI (QJ a0 a1)] := by
 have f := me (QJ.eq_1 a0 a1)
 refine so func126 ntmps126 ?_
 refine cFf f ?_ ?_ <;> intro k1 h1 f
 ·have i1 := ik (a0.ZI.Zd.length - 1) a0.ZI.Zd
  have m1 := ml a0.ZI.Zd (k1 9 _ rfl)
  have w1 : IntKind.i64.wrap ((a0.ZI.Zd.length : Int) - 1) = (a0.ZI.Zd.length : Int) - 1 := Zb (by omega) (by omega)
  simp [i1, ZE, w1, qp]
  refine rpS ?_
  refine cRs (VU a1 (nth a0.ZI.Zd (a0.ZI.Zd.length - 1)) (sg (Yf (Za.jO (ZM.Jf u0))))) ?_
  refine dIs mixed ?_
  refine cRs (jM a1 a0.Doc (sg (ZM.kH u0))) ?_
  refine cRs (LR a1 (Ya a1 a0.Doc) a0.ZI.ZL (KL a1 (nth a0.ZI.Zd (a0.ZI.Zd.length - 1))) (sg (Za.kB (ZM.Jf u0)))) ?_
  exact rt [.tmp 4] f
 refine dIs mixed ?_
 refine cRs (jM a1 a0.Doc (sg (ZM.kH u0))) ?_
 refine cRs (LR a1 (Ya a1 a0.Doc) a0.ZI.ZL 0 (sg (Za.kB (ZM.Jf u0)))) ?_
 exact rt [.tmp 4] f
theorem RF (a0 : ZD) (a1 : Int) (u0 : Sm 2314240 a0) : Sd 189 [a0.row, rI a1] [rL 1 iR (Xc a0 a1)] := by
 have f := me (Xc.eq_1 a0 a1)
 refine soD func189 ntmps189 ?_
 refine lp2 (ym.eq_2 a0 a1) (fun J U => YX 23 [eI 1 a1, (5, .one (.sref 5 0 0 J.length), [.arr false 1 (J.map iR)]), eL 9 16 a0.ZF ZM.row, eI 10 (a0.ZF.length : Int), eI 11 (U : Int)]) (fun n1 J U => a0.ZF.length < n1 + U /\ U <= a0.ZF.length /\ J.length <= 0 + 1 * U) (a0.ZF.length + 1) ([] : List Int) 0 (fun p1 J U e1 j1 => ?_) (h0 := wkS [((5, 0), none)] [])
 refine cFf e1 ?_ ?_ <;> intro k2 h1 e1
 ·have i1 := ix h1
  have m2 := ml a0.ZF (k2 9 _ rfl)
  have c1 := sl 2314240 a0.ZF u0
  have w1 := wr U
  simp [i1, ZE]
  refine rpS ?_
  refine cRs (Ou (nth a0.ZF U) a1 (sg (Yf (ZD.Ys u0)))) ?_
  exact nx2 e1 (hw := Xh [((5, 0), some (20, 0))] [] rfl (by simp [w1]))
 have c2 := sl 2314240 a0.ZF u0
 have f := ms f e1
 exact rtD [.tmp 4] f
theorem Lw (a0 : Int) (a1 : Int) (a2 : Int) : Sa 272 [rI a0, rI a1, rI a2] [rI (jr a0 a1 a2)] := by
 have f := me (jr.eq_1 a0 a1 a2)
 refine so func272 ntmps272 ?_
 refine cRs (KZ a0 ([1, a1, a2] : List Int) (by simp (maxDischargeDepth := 12) [K0, XC]; try omega)) ?_
 exact rt [.tmp 6] f
theorem qd (a0 : Int) (a1 : List Int) (u0 : Sm 2322432 a1) : Sd 245 [rI a0, rL 1 iR a1] [rL 1 iR (Jy a0 a1)] := by
 have f := me (Jy.eq_1 a0 a1)
 refine soD func245 ntmps245 ?_
 refine lp2 (Ja.eq_2 a0 a1) (fun J U => YX 40 [eI 0 a0, eL 1 1 a1 iR, (5, .one (.sref 5 0 0 J.length), [.arr false 1 (J.map iR)]), eI 6 (U : Int)]) (fun n1 J U => a1.length < n1 + U /\ U <= a1.length + 1 /\ J.length <= U) (a1.length + 1) ([] : List Int) 0 (fun p1 J U e1 j1 => ?_) (h0 := wkS [((5, 0), none)] [])
 try dsimp only at j1
 refine cF e1 ?_ ?_ <;> intro k2 h1 e1
 ·have i1 := ix h1
  have m2 := ml a1 (k2 1 _ rfl)
  have c1 := sl 2322432 a1 u0
  have w1 := wr U
  refine cFt e1 ?_ ?_ <;> intro k3 h2 e1
  ·refine okD fun k4 => ?_
   refine dIo mixed ?_
   have i2 := ik (W ((U : Int) + 1)).toNat a1
   simp [i1, ZE, i2]
   refine rpS ?_
   refine cRs (Lw a0 (nth a1 U) (nth a1 (W ((U : Int) + 1)).toNat)) ?_ (lP := by first | (simp; done) | (simp [W, w1]; done))
   have w2 : IntKind.i64.wrap ((U : Int) + 2) = (U : Int) + 2 := Zb (by omega) (by omega)
   exact nx2 e1 (hI := by first | omega | (simp at *; omega)) (hw := Xh [((5, 0), some (31, 0))] [] rfl (by simp [w1, w2]))
  simp [i1, ZE]
  refine rpS ?_
  have w3 : IntKind.i64.wrap ((U : Int) + 2) = (U : Int) + 2 := Zb (by omega) (by omega)
  exact nx2 e1 (hI := by first | omega | (simp at *; omega)) (hw := Xh [((5, 0), some (38, 0))] [] rfl (by simp [w1, w3]))
 have c2 := sl 2322432 a1 u0
 have f := ms f e1
 exact rtD [.tmp 4] f
theorem PY (a0 : Int) (a1 : List Int) (u0 : Sm 2318336 a1) : Sa 188 [rI a0, rL 1 iR a1] [rI (qq a0 a1)] := by
 have f := me (qq.eq_1 a0 a1)
 refine so func188 ntmps188 ?_
 refine cRs (YY (a1.length : Int) 1 16) ?_
 refine cFo f ?_ ?_ <;> intro k1 h1 f
 ·have q1 := h1; try simp [Zp] at q1
  simp
  exact rt [.tmp 4] f
 have q1 := h1; try simp [Zp] at q1
 simp
 refine lp1 (j4.eq_2 a0) (fun J => YX 18 [eI 0 a0, eL 1 1 J iR]) (fun n1 J => J.length < n1 /\ 1 <= J.length /\ J.length <= 16) (a1.length + 1) a1 (fun p1 J e1 j1 => ?_) (hI := by first | omega | (simp at *; omega))
 try dsimp only at j1
 refine cFt e1 ?_ ?_ <;> intro k3 h2 e1
 ·refine cRs (Yv.rd (qd a0 J (by first | (simp (maxDischargeDepth := 12) [XC]; omega) | (simp (maxDischargeDepth := 12) [Zk (m := 2322432) (by decide) u0]; done)))) ?_
  exact nx1 e1 (hI := by (have z := qB a0 J (by omega); (try dsimp only); simp at *; omega))
 have f := ms f e1
 have i1 := ik 0 J
 simp [i1, ZE]
 refine rpS ?_
 exact rt [.tmp 4] f
theorem OY (a0 : ZD) (a1 : Int) (u0 : Sm 2310144 a0) : Sa 116 [a0.row, rI a1] [rI (Qf a0 a1)] := by
 have f := me (Qf.eq_1 a0 a1)
 refine so func116 ntmps116 ?_
 refine cRs (Yv.rd (RF a0 a1 (sg u0))) ?_
 refine cRs (PY a1 (Xc a0 a1) (by simp (maxDischargeDepth := 12) [Vh, Zk (m := 2318336) (by decide) u0]; try omega)) ?_
 exact rt [.tmp 4] f
theorem W9 (a0 : List ZQ) (a1 : Int) : Sa 117 [rL 3 ZQ.row a0, rI a1] [rI (Zi a0 a1)] := by
 have f := me (Zi.eq_1 a0 a1)
 refine so func117 ntmps117 ?_
 refine lp1 (Jd.eq_2 a0 a1) (fun J => YX 20 [eI 1 a1, eL 7 3 a0 ZQ.row, eI 8 (a0.length : Int), eI 9 (J : Int)]) (fun n1 J => a0.length < n1 + J /\ J <= a0.length) (a0.length + 1) 0 (fun p1 J e1 j1 => ?_)
 refine cFf e1 ?_ ?_ <;> intro k2 h1 e1
 ·have i1 := ix h1
  have m2 := ml a0 (k2 7 _ rfl)
  have w1 := wr J
  simp [i1, ZE]
  refine rpS ?_
  refine cF e1 ?_ ?_ <;> intro k3 h2 e1
  ·have f := ms f e1
   exact rt [.tmp 4] f
  exact ny1 w1 e1
 have f := ms f e1
 exact rt [.tmp 4] f
theorem Ci (a0 : List Int) (a1 : Int) : Sa 190 [rL 1 iR a0, rI a1] [rI (PC a0 a1)] := by
 have f := me (PC.eq_1 a0 a1)
 refine so func190 ntmps190 ?_
 refine lp1 (UH.eq_2 a0 a1) (fun J => YX 19 [eI 1 a1, eL 7 1 a0 iR, eI 8 (a0.length : Int), eI 9 (J : Int)]) (fun n1 J => a0.length < n1 + J /\ J <= a0.length) (a0.length + 1) 0 (fun p1 J e1 j1 => ?_)
 refine cFf e1 ?_ ?_ <;> intro k2 h1 e1
 ·have i1 := ix h1
  have m2 := ml a0 (k2 7 _ rfl)
  have w1 := wr J
  simp [i1, ZE]
  refine rpS ?_
  refine cF e1 ?_ ?_ <;> intro k3 h2 e1
  ·have f := ms f e1
   exact rt [.tmp 4] f
  exact ny1 w1 e1
 have f := ms f e1
 exact rt [.tmp 4] f
theorem RB (a0 : List Int) (a1 : Int) : Sa 118 [rL 1 iR a0, rI a1] [rB (jb a0 a1)] := by
 have f := me (jb.eq_1 a0 a1)
 refine so func118 ntmps118 ?_
 refine cRs (Ci a0 a1) ?_
 exact rt [.tmp 4] f
theorem VT (a0 : List YR) (a1 : List ZQ) (a2 : ZX) (u0 : Sm 2318336 a0) (u1 : Sm 2318336 a1) : Sa 119 [rL 5 YR.row a0, rL 3 ZQ.row a1, a2.row] [(Jm a0 a1 a2).1.row, rB (Jm a0 a1 a2).2] := by
 have f := me (Jm.eq_1 a0 a1 a2)
 refine so func119 ntmps119 ?_
 refine cRs (W9 a1 a2.Authority) ?_
 refine cGs (fun gg => (S0 a2.Time)) ?_
 refine cF f ?_ ?_ <;> intro k1 h1 f
 ·exact rt [.cell 6 144, .tmp 7] f
 refine dIo mixed ?_
 have i1 : (Zi a1 a2.Authority).toNat < a1.length := by have := Jq a1 a2.Authority; exact il
 simp [i1, ZE]
 refine rpS ?_
 refine cRs (Yv.rd (Rj a2)) ?_
 refine cRs (S5 a0 (nth a1 (Zi a1 a2.Authority).toNat).Key (J5 a2) (sg u0) (by simp (maxDischargeDepth := 12) [HL, Zk (m := 2322432) (by decide) u0, Zk (m := 2322432) (by decide) u1]; try omega)) ?_
 refine cF f ?_ ?_ <;> intro k3 h2 f
 ·exact rt [.cell 6 144, .tmp 7] f
 exact rt [.cell 6 144, .tmp 7] f
theorem PR {a b : Prop} (h : b) (k : a := by (intros; first | omega | with_unfolding_all (first | first | omega | (have tm := Int.tmod_eq_emod_of_nonneg (b := 2) (show 0 <= U by omega); (try simp only [Kc, show ∀ x, IntKind.i64.wrap x = W x from fun _ => rfl] at *); (try simp at *); omega)) | ((try simp only [Kc, show ∀ x, IntKind.i64.wrap x = W x from fun _ => rfl] at *); omega))) : a /\ b := ⟨k, h⟩
theorem EJ (a0 : Int) (a1 : List Int) (a2 : Int) (u0 : Sm 2318336 a1) : Sd 195 [rI a0, rL 1 iR a1, rI a2] [rL 2 Zv.row (Qj a0 a1 a2)] := by
 have f := me (Qj.eq_1 a0 a1 a2)
 refine soD func195 ntmps195 ?_
 refine cRs (YY a2 0 (W ((a1.length : Int) - 1))) ?_
 have c1 := sl 2318336 a1 u0
 have w1 : IntKind.i64.wrap ((a1.length : Int) - 1) = (a1.length : Int) - 1 := Zb (by omega) (by omega)
 refine cFo f ?_ ?_ <;> intro k1 h1 f
 ·have q1 := h1; try simp [Zp, w1] at q1
  simp
  exact rtD [.tmp 6] f
 have q1 := h1; try simp [Zp, w1] at q1
 simp
 refine lp3 (JW.eq_2 a0) (fun J U lA => YX 54 [eI 0 a0, eL 1 1 J iR, eI 2 U, (7, .one (.sref 7 0 0 lA.length), [.arr false 2 (lA.map Zv.row)])]) (fun n1 J U lA => J.length < n1 /\ 0 <= U /\ U < (J.length : Int) /\ J.length <= 16 /\ lA.length + n1 <= 17) (a1.length + 1) a1 a2 ([] : List Zv) (fun p1 J U lA e1 j1 => ?_) (hI := by first | omega | (simp at *; omega)) (h0 := wkS [((7, 0), none)] [])
 try dsimp only at j1
 refine cF e1 ?_ ?_ <;> intro k3 h2 e1
 ·refine cFf e1 ?_ ?_ <;> intro k4 h3 e1
  ·have i1 : (W (U - 1)).toNat < J.length := by first | omega | (have tm := Int.tmod_eq_emod_of_nonneg (b := 2) (show 0 <= U by omega); (try simp only [Kc, show ∀ x, IntKind.i64.wrap x = W x from fun _ => rfl] at *); (try simp at *); omega)
   simp [i1, ZE]
   repeat with_reducible refine PR ?_
   refine cRs (Yv.rd (qd a0 J (by first | (simp (maxDischargeDepth := 12) [XC]; omega) | (simp (maxDischargeDepth := 12) [Zk (m := 2322432) (by decide) u0]; done)))) ?_
   exact nx3 e1 (hI := by (have z := qB a0 J (by omega); have td := Int.tdiv_eq_ediv_of_nonneg (b := 2) (show 0 <= U by omega); have w2 : W (Int.tdiv U 2) = Int.tdiv U 2 := Zb (by omega) (by omega); (try dsimp only); rw [w2]; simp at *; omega)) (hw := Xh [((7, 0), some (33, 0))] [] rfl (by simp [w1]))
  refine cFo e1 ?_ ?_ <;> intro k5 h4 e1
  ·have q4 := h4; try simp [w1] at q4
   have i2 : (W (U + 1)).toNat < J.length := by first | omega | (have tm := Int.tmod_eq_emod_of_nonneg (b := 2) (show 0 <= U by omega); (try simp only [Kc, show ∀ x, IntKind.i64.wrap x = W x from fun _ => rfl] at *); (try simp at *); omega)
   simp [i2, ZE]
   repeat with_reducible refine PR ?_
   refine cRs (Yv.rd (qd a0 J (by first | (simp (maxDischargeDepth := 12) [XC]; omega) | (simp (maxDischargeDepth := 12) [Zk (m := 2322432) (by decide) u0]; done)))) ?_
   exact nx3 e1 (hI := by (have z := qB a0 J (by omega); have td := Int.tdiv_eq_ediv_of_nonneg (b := 2) (show 0 <= U by omega); have w2 : W (Int.tdiv U 2) = Int.tdiv U 2 := Zb (by omega) (by omega); (try dsimp only); rw [w2]; simp at *; omega)) (hw := Xh [((7, 0), some (47, 0))] [] rfl (by simp [w1]))
  have q4 := h4; try simp [w1] at q4
  simp
  refine cRs (Yv.rd (qd a0 J (by first | (simp (maxDischargeDepth := 12) [XC]; omega) | (simp (maxDischargeDepth := 12) [Zk (m := 2322432) (by decide) u0]; done)))) ?_
  exact ny3 w1 e1 (hI := by (have z := qB a0 J (by omega); have td := Int.tdiv_eq_ediv_of_nonneg (b := 2) (show 0 <= U by omega); have w2 : W (Int.tdiv U 2) = Int.tdiv U 2 := Zb (by omega) (by omega); (try dsimp only); rw [w2]; simp at *; omega))
 have f := ms f e1
 exact rtD [.tmp 6] f
theorem SC (a0 : Za) (a1 : ZK) (u0 : Sm 2326528 a0) (u1 : Sm 2326528 a1) : Sd 127 [a0.row, a1.row] [(XW a0 a1).1.row, rB (XW a0 a1).2] := by
 have f := me (XW.eq_1 a0 a1)
 refine soD func127 ntmps127 ?_
 refine cDs [] (ze a0 (sg u0)) ?_
 refine drJ [14] mixed ?_
 simp
 refine cDs [true, true, true, false, false] (Vt a1 (sg u1)) ?_
 refine Wd ?_
 have c1 := sl 2326528 a0.Zd (an u0 u1)
 simp
 refine Vl (lC := (a0.Zd.map ZK.row)) (news := (([a1] : List ZK).map ZK.row)) (l1 := [(8, 1)]) (l2 := [(12, 3), (12, 4)]) (size := 5) ?_
 simp
 refine cRs (Ud (Za.mk a0.ZL (a0.Zd ++ ([a1] : List ZK)))) ?_
 refine cF f ?_ ?_ <;> intro k2 h1 f
 ·refine cDs [] (ze a0 (sg u0)) ?_
  exact rtD [.cell 4 112, .tmp 5] f
 exact rtD [.cell 4 112, .tmp 5] f
theorem Ml (a0 : ZD) (a1 : Int) (a2 : List ZX) (u0 : Sm 2306048 a0) (u1 : Sm 2306048 a2) : Sd 120 [a0.row, rI a1, rL 5 ZX.row a2] [(Qb a0 a1 a2).1.row, rB (Qb a0 a1 a2).2] := by
 have f := me (Qb.eq_1 a0 a1 a2)
 refine soD func120 ntmps120 ?_
 refine cGs (fun gg => (y3 a0)) ?_
 refine cF f ?_ ?_ <;> intro k1 h1 f
 ·refine cDs [] (YT a0 (sg u0)) ?_
  exact rtD [.cell 6 119, .tmp 7] f
 refine cDs [] (YT a0 (sg u0)) ?_
 refine cRs (Yv.rd (RF a0 a1 (sg u0))) ?_
 refine lp2 (X7.eq_2 a0 a1 a2) (fun J U => YX 75 [eI 1 a1, eL 2 5 a2 ZX.row, eX 3 (a0.row.map .d), (6, .one (.bptr 6 0), [.box [.d (.int .i64 0), .nil 16]]), (8, .one (.bptr 8 0), [.box [.d (.int .i64 a0.Id), .sref 26 1 0 U.length]]), eL 9 1 (Xc a0 a1) iR, (26, .any, [.none, .arr true 16 (U.map ZM.row)]), eL 31 16 a0.ZF ZM.row, eI 32 (a0.ZF.length : Int), eI 33 (J : Int)]) (fun n1 J U => a0.ZF.length < n1 + J /\ J <= a0.ZF.length /\ U.length = a0.ZF.length) (a0.ZF.length + 1) 0 a0.ZF (fun p1 J U e1 j1 => ?_)
 refine cFf e1 ?_ ?_ <;> intro k3 h2 e1
 ·have i1 := ix h2
  have m2 := ml a0.ZF (k3 31 _ rfl)
  have c1 := sl 2306048 a0.ZF (an u0 u1)
  have w1 := wr J
  simp [i1, ZE]
  refine rpS ?_
  refine dIs mixed ?_
  refine cRs (OY a0 a1 (sg u0)) ?_
  refine cRs (Yv.rd (EJ a1 (Xc a0 a1) (J : Int) (by simp (maxDischargeDepth := 12) [Vh, Zk (m := 2318336) (by decide) u0, Zk (m := 2318336) (by decide) u1]; try omega))) ?_
  refine cDs [] (SC (nth a0.ZF J).ZI (ZK.mk ((nth a0.ZF J).ZI.ZL.length : Int) a1 (Qf a0 a1) (Qj a1 (Xc a0 a1) (J : Int)) a2) (sg (ZM.Jf (Yf (ZD.Ys u0)))) (by simp (maxDischargeDepth := 12) [EA, Vh, Zk (m := 2326528) (by decide) u0, Zk (m := 2326528) (by decide) u1]; try omega)) ?_
  refine cFt e1 ?_ ?_ <;> intro k5 h3 e1
  ·refine cDs [] (YT a0 (sg u0)) ?_
   have f := ms f e1
   exact rtD [.cell 6 119, .tmp 7] f
  have i2 := ik J U
  simp [i2, ZE]
  refine rpS ?_
  refine r6 (t := 26) (j := 1) (i := J) (c := 14) (size := 16) (rows := (U.map ZM.row)) (ds := (XW (nth a0.ZF J).ZI (ZK.mk ((nth a0.ZF J).ZI.ZL.length : Int) a1 (Qf a0 a1) (Qj a1 (Xc a0 a1) (J : Int)) a2)).1.row) (L := [(55, 0), (55, 1)]) rfl rfl rfl rfl (by simp) (by simp) (by simp; try omega) (by simp) (by simp) (by simp) (by simp) (by simp) (by simp) ?_
  simp [YV (x := (ZM.mk (nth U J).Id (nth U J).Y7 (nth U J).Doc (nth U J).Sig (XW (nth a0.ZF J).ZI (ZK.mk ((nth a0.ZF J).ZI.ZL.length : Int) a1 (Qf a0 a1) (Qj a1 (Xc a0 a1) (J : Int)) a2)).1)) rfl, i2, ZE, Zj]
  refine rpS ?_
  exact ny2 w1 e1
 have c2 := sl 2306048 a0.ZF (an u0 u1)
 have f := ms f e1
 refine cRs (y3 (ZD.mk a0.Id U)) ?_
 refine cF f ?_ ?_ <;> intro k6 h4 f
 ·refine cDs [] (YT a0 (sg u0)) ?_
  exact rtD [.cell 6 119, .tmp 7] f
 exact rtD [.cell 6 119, .tmp 7] f
theorem FE (a0 : ZJ) (a1 : Int) (a2 : List Int) (a3 : Int) (u0 : Sm 2301952 a0) (u1 : Sm 2301952 a2) : Sd 47 [a0.row, rI a1, rL 1 iR a2, rI a3] [(zP a0 a1 a2 a3).1.row, rB (zP a0 a1 a2 a3).2] := by
 have f := me (zP.eq_1 a0 a1 a2 a3)
 refine soD func47 ntmps47 ?_
 refine cDs [false, false, false, true, true, false, false, true, false, false, true, false] (YF a0 (sg u0)) ?_
 refine cRs (qe a0.Frame.Methods a0.Frame.Now) ?_
 refine cRs (zq a0 a1) ?_
 refine cGs (fun gg => (Iz a2)) ?_
 refine cGs (fun gg => (YY a3 (-10000) 10000)) ?_
 have c1 := sl 2301952 a0.ZA (an u0 u1)
 have w1 : IntKind.i64.wrap ((a0.ZA.length : Int) - 1) = (a0.ZA.length : Int) - 1 := Zb (by omega) (by omega)
 refine cFo f ?_ ?_ <;> intro k1 h1 f
 ·have q1 := h1; try simp [Zp, w1, YU] at q1
  simp
  exact rtD [.cell 8 47, .tmp 9] f
 have q1 := h1; try simp [Zp, w1, YU] at q1
 have i1 := ik a1.toNat a0.ZA
 simp [i1, ZE]
 refine rpS ?_
 refine cRs (OY (nth a0.ZA a1.toNat) (ZP a0.Frame.Methods a0.Frame.Now) (sg (Yf (ZJ.Y1 u0)))) ?_
 refine lp3 (Xr.eq_2 a0 a1 a2 a3) (fun J U lA => YX 175 [eI 1 a1, eI 3 a3, eX 4 (a0.row.map .d), (8, .one (.bptr 8 0), [.box [.nil 5, .nil 3, .nil 4, .d (.int .i64 0), .d (.int .i64 0), .nil 7, .nil 1, .nil 2, .nil 1, .nil 1, .d (.int .i64 0), .nil 1]]), eX 10 (a0.Frame.row.map .d), (11, .one (.bptr 11 0), [.box [.sref 27 0 0 a0.Frame.Zq.length, .sref 27 1 0 a0.Frame.ZG.length, .sref 27 2 0 a0.Frame.Methods.length, .d (.int .i64 a0.Frame.y9), .d (.int .i64 a0.Frame.Now), .sref 27 5 0 a0.ZS.length, .sref 27 6 0 a0.Zr.length, .sref 27 7 0 a0.ZA.length, .sref 27 8 0 lA.length, .sref 27 9 0 a0.YW.length, .d (.int .i64 a0.Next), .sref 27 11 0 a0.YN.length]]), eI 12 (ZP a0.Frame.Methods a0.Frame.Now), eI 13 (Qf (nth a0.ZA a1.toNat) (ZP a0.Frame.Methods a0.Frame.Now)), (14, .one (.sref 14 0 0 J.length), [.arr false 5 (J.map ZX.row)]), (27, .any, [.arr false 5 (a0.Frame.Zq.map YR.row), .arr false 3 (a0.Frame.ZG.map ZQ.row), .arr false 4 (a0.Frame.Methods.map Zf.row), .none, .none, .arr false 7 (a0.ZS.map Z1.row), .arr false 1 (a0.Zr.map iR), .arr true 2 (a0.ZA.map ZD.row), .arr false 1 (lA.map iR), .arr false 1 (a0.YW.map iR), .none, .arr false 1 (a0.YN.map iR)]), eL 64 1 a2 iR, eI 65 (a2.length : Int), eI 66 (U : Int)]) (fun n1 J U lA => a2.length < n1 + U /\ U <= a2.length /\ J.length <= 0 + 1 * U /\ lA.length = a0.Ym.length) (a2.length + 1) ([] : List ZX) 0 a0.Ym (fun p1 J U lA e1 j1 => ?_) (h0 := wkS [((14, 0), none)] [])
 refine cFo e1 ?_ ?_ <;> intro k3 h2 e1
 ·have i2 := ix h2
  have m2 := ml a2 (k3 64 _ rfl)
  have c2 := sl 2301952 a2 (an u0 u1)
  have w2 := wr U
  simp [i2, ZE]
  refine rpS ?_
  refine cRs (W9 a0.Frame.ZG (nth a2 U)) ?_
  refine cF e1 ?_ ?_ <;> intro k4 h3 e1
  ·refine cDs [false, false, false, true, true, false, false, true, false, false, true, false] (YF a0 (sg u0)) ?_
   have f := ms f e1
   exact rtD [.cell 8 47, .tmp 9] f
  refine dIo mixed ?_
  have i3 : (Zi a0.Frame.ZG (nth a2 U)).toNat < a0.Frame.ZG.length := by have := Jq a0.Frame.ZG (nth a2 U); exact il
  simp [i3, ZE]
  refine rpS ?_
  refine cRs (yR a0.Frame.Zq (nth a0.Frame.ZG (Zi a0.Frame.ZG (nth a2 U)).toNat).Key) ?_
  refine dIs mixed ?_
  refine gIf ?_ ?_ <;> intro G
  ·have i4 : (YH a0.Frame.Zq (nth a0.Frame.ZG (Zi a0.Frame.ZG (nth a2 U)).toNat).Key).toNat < a0.Frame.Zq.length := by have := jX a0.Frame.Zq (nth a0.Frame.ZG (Zi a0.Frame.ZG (nth a2 U)).toNat).Key; exact il
   simp [i4, ZE, G]
   refine rpG ?_
   refine cK e1 ?_ ?_ <;> intro k7 h4 e1
   ·refine cDg [false, false, false, true, true, false, false, true, false, false, true, false] (YF a0 (sg u0)) ?_
    have f := ms f e1
    exact zb [.cell 8 47, .tmp 9] f
   ·refine cRg (RB a0.YW (nth a2 U)) ?_
    refine cK e1 ?_ ?_ <;> intro k8 h5 e1
    ·refine dIo mixed ?_
     have i5 : (Zi a0.Frame.ZG (nth a2 U)).toNat < a0.Ym.length := by have := Jq a0.Frame.ZG (nth a2 U); exact il
     simp [i5, ZE, G]
     refine rpG ?_
     refine cRg (VT a0.Frame.Zq a0.Frame.ZG (ZX.mk (nth a2 U) (nth a0.Ym (Zi a0.Frame.ZG (nth a2 U)).toNat) (if (if (W (a0.Frame.Now + a3)) < 10000 then (W (a0.Frame.Now + a3)) else 10000) > 0 then (if (W (a0.Frame.Now + a3)) < 10000 then (W (a0.Frame.Now + a3)) else 10000) else 0) (Qf (nth a0.ZA a1.toNat) (ZP a0.Frame.Methods a0.Frame.Now)) 0) (sg (Z8.xw (ZJ.Xq u0))) (sg (Z8.Xo (ZJ.Xq u0)))) ?_ (lP := by first | (simp; done) | (simp [W, w1, w2]; done))
     refine cKo e1 ?_ ?_ <;> intro cO h6 e1
     ·have q6 := h6; try simp [w1] at q6
      simp [G]
      refine rpG ?_
      refine cDg [false, false, false, true, true, false, false, true, false, false, true, false] (YF a0 (sg u0)) ?_
      have f := ms f e1
      exact zb [.cell 8 47, .tmp 9] f
     ·have q6 := h6; try simp [w1] at q6
      have i6 : (Zi a0.Frame.ZG (nth a2 U)).toNat < lA.length := by have := Jq a0.Frame.ZG (nth a2 U); exact il
      simp [i6, ZE, YV (x := (W ((nth lA (Zi a0.Frame.ZG (nth a2 U)).toNat) + 1))) rfl, G]
      refine rpG ?_
      exact nx3 e1 (hw := Xh [((14, 0), some (145, 0))] [] rfl (by simp [w1, w2, G]))
    ·refine dIo mixed ?_
     have i7 : (Zi a0.Frame.ZG (nth a2 U)).toNat < a0.Ym.length := by have := Jq a0.Frame.ZG (nth a2 U); exact il
     simp [i7, ZE, G]
     refine rpG ?_
     refine cRg (VT a0.Frame.Zq a0.Frame.ZG (ZX.mk (nth a2 U) (nth a0.Ym (Zi a0.Frame.ZG (nth a2 U)).toNat) a0.Frame.Now (Qf (nth a0.ZA a1.toNat) (ZP a0.Frame.Methods a0.Frame.Now)) 0) (sg (Z8.xw (ZJ.Xq u0))) (sg (Z8.Xo (ZJ.Xq u0)))) ?_
     refine cKt e1 ?_ ?_ <;> intro k12 h7 e1
     ·refine cDg [false, false, false, true, true, false, false, true, false, false, true, false] (YF a0 (sg u0)) ?_
      have f := ms f e1
      exact zb [.cell 8 47, .tmp 9] f
     ·have i8 : (Zi a0.Frame.ZG (nth a2 U)).toNat < lA.length := by have := Jq a0.Frame.ZG (nth a2 U); exact il
      simp [i8, ZE, YV (x := (W ((nth lA (Zi a0.Frame.ZG (nth a2 U)).toNat) + 1))) rfl, G]
      refine rpG ?_
      exact nx3 e1 (hw := Xh [((14, 0), some (145, 0))] [] rfl (by simp [w1, w2, G]))
  ·refine cK e1 ?_ ?_ <;> intro cw h8 e1
   ·refine cDg [false, false, false, true, true, false, false, true, false, false, true, false] (YF a0 (sg u0)) ?_
    have f := ms f e1
    exact zb [.cell 8 47, .tmp 9] f
   ·simp [G] at h8
 have c3 := sl 2301952 a2 (an u0 u1)
 have f := ms f e1
 simp [i1, ZE]
 refine rpS ?_
 refine cDs [] (Ml (nth a0.ZA a1.toNat) (ZP a0.Frame.Methods a0.Frame.Now) J (sg (Yf (ZJ.Y1 u0))) (by first | (simp (maxDischargeDepth := 12) [XC]; omega) | (simp (maxDischargeDepth := 12) [Zk (m := 2306048) (by decide) u0, Zk (m := 2306048) (by decide) u1]; done))) ?_
 refine cFt f ?_ ?_ <;> intro k19 h12 f
 ·refine cDs [false, false, false, true, true, false, false, true, false, false, true, false] (YF a0 (sg u0)) ?_
  exact rtD [.cell 8 47, .tmp 9] f
 simp [i1, ZE]
 refine rpS ?_
 refine Si (t := 27) (j := 7) (i := a1.toNat) (size := 2) (rows := (a0.ZA.map ZD.row)) (ds := (Qb (nth a0.ZA a1.toNat) (ZP a0.Frame.Methods a0.Frame.Now) J).1.row) (L := [(162, 1)]) ?_
 simp [YV (x := (Qb (nth a0.ZA a1.toNat) (ZP a0.Frame.Methods a0.Frame.Now) J).1) rfl, c1, i1, ZE, Zj]
 refine rpS ?_
 exact rtD [.cell 8 47, .tmp 9] f
theorem IZ (a0 : Int) (a1 : ZM) (u0 : Sm 2318336 a1) : Sa 275 [rI a0, a1.row] [rI (ju a0 a1)] := by
 have f := me (ju.eq_1 a0 a1)
 refine so func275 ntmps275 ?_
 refine dIs mixed ?_
 refine cRs (jM a0 a1.Doc (sg (ZM.kH u0))) ?_
 refine cRs (UF a0 a1.ZI.ZL (sg (Za.kB (ZM.Jf u0)))) ?_
 refine lp2 (xR.eq_2 a0 a1) (fun J U => YX 40 [eI 0 a0, (5, .one (.sref 5 0 0 J.length), [.arr false 1 (J.map iR)]), eL 24 5 a1.ZI.Zd ZK.row, eI 25 (a1.ZI.Zd.length : Int), eI 26 (U : Int)]) (fun n1 J U => a1.ZI.Zd.length < n1 + U /\ U <= a1.ZI.Zd.length /\ J.length <= 5 + 1 * U) (a1.ZI.Zd.length + 1) ([5, a1.Id, a1.Y7, (Ya a0 a1.Doc), (J3 a0 a1.ZI.ZL)] : List Int) 0 (fun p1 J U e1 j1 => ?_) (h0 := wkS [((5, 0), some (21, 0))] [])
 refine cFf e1 ?_ ?_ <;> intro k3 h1 e1
 ·have i1 := ix h1
  have m2 := ml a1.ZI.Zd (k3 24 _ rfl)
  have c1 := sl 2318336 a1.ZI.Zd u0
  have w1 := wr U
  simp [i1, ZE]
  refine rpS ?_
  refine cRs (VU a0 (nth a1.ZI.Zd U) (sg (Yf (Za.jO (ZM.Jf u0))))) ?_
  exact nx2 e1 (hw := Xh [((5, 0), some (35, 0))] [] rfl (by simp [w1]))
 have c2 := sl 2318336 a1.ZI.Zd u0
 have f := ms f e1
 refine cRs (KZ a0 J (by first | (simp (maxDischargeDepth := 12) [XC]; omega) | (simp (maxDischargeDepth := 12) [Zk (m := 68719476736) (by decide) u0]; done))) ?_
 exact rt [.tmp 4] f
theorem VO (a0 : Int) (a1 : List ZM) (u0 : Sm 2314240 a1) : Sa 248 [rI a0, rL 16 ZM.row a1] [rI (K4 a0 a1)] := by
 have f := me (K4.eq_1 a0 a1)
 refine so func248 ntmps248 ?_
 refine lp2 (zI.eq_2 a0 a1) (fun J U => YX 24 [eI 0 a0, (5, .one (.sref 5 0 0 J.length), [.arr false 1 (J.map iR)]), eL 8 16 a1 ZM.row, eI 9 (a1.length : Int), eI 10 (U : Int)]) (fun n1 J U => a1.length < n1 + U /\ U <= a1.length /\ J.length <= 0 + 1 * U) (a1.length + 1) ([] : List Int) 0 (fun p1 J U e1 j1 => ?_) (h0 := wkS [((5, 0), none)] [])
 refine cFf e1 ?_ ?_ <;> intro k2 h1 e1
 ·have i1 := ix h1
  have m2 := ml a1 (k2 8 _ rfl)
  have c1 := sl 2314240 a1 u0
  have w1 := wr U
  simp [i1, ZE]
  refine rpS ?_
  refine cRs (IZ a0 (nth a1 U) (sg (Yf u0))) ?_
  exact nx2 e1 (hw := Xh [((5, 0), some (19, 0))] [] rfl (by simp [w1]))
 have c2 := sl 2314240 a1 u0
 have f := ms f e1
 refine cRs (PY a0 J (by first | (simp (maxDischargeDepth := 12) [XC]; omega) | (simp (maxDischargeDepth := 12) [Zk (m := 2318336) (by decide) u0]; done))) ?_
 exact rt [.tmp 4] f
theorem L2 (a0 : ZD) (a1 : Int) (a2 : List Int) (a3 : Int) (u0 : Sm 2310144 a0) (u1 : Sm 2310144 a2) : Sd 196 [a0.row, rI a1, rL 1 iR a2, rI a3] [(Yw a0 a1 a2 a3).1.row, rB (Yw a0 a1 a2 a3).2] := by
 have f := me (Yw.eq_1 a0 a1 a2 a3)
 refine soD func196 ntmps196 ?_
 refine lp2 (Xp.eq_2 a0 a2) (fun J U => YX 52 [eL 2 1 a2 iR, eI 3 a3, eX 4 (a0.row.map .d), (8, .one (.bptr 8 0), [.box [.d (.int .i64 0), .d (.int .i64 0), .nil 16, .d (.int .i64 0)]]), (10, .one (.bptr 10 0), [.box [.d (.int .i64 a0.Id), .d (.int .i64 a1), .sref 10 3 0 U.length, .d (.int .i64 0)], .none, .none, .arr true 16 (U.map ZM.row)]), eL 18 1 a2 iR, eI 19 (a2.length : Int), eI 20 (J : Int)]) (fun n1 J U => a2.length < n1 + J /\ J <= a2.length /\ U.length <= J /\ (∀ x ∈ U, Sm 2310144 x)) (a2.length + 1) 0 ([] : List ZM) (fun p1 J U e1 j1 => ?_) (hI := by exact ⟨by omega, by omega, Nat.zero_le _, Nat.zero_le _, fun x h => by cases h⟩) (h0 := wkS [((10, 3), none)] [])
 try dsimp only at j1
 refine cFf e1 ?_ ?_ <;> intro k2 h1 e1
 ·have i1 := ix h1
  have m2 := ml a2 (k2 2 _ rfl)
  have c1 := sl 2310144 a2 (an u0 u1)
  have w1 := wr J
  simp [i1, ZE]
  refine rpS ?_
  refine cRs (qQ a0 (nth a2 J)) ?_
  refine cF e1 ?_ ?_ <;> intro k3 h2 e1
  ·have f := ms f e1
   exact rtD [.cell 8 205, .tmp 9] f
  refine drJ [39] mixed ?_
  have i2 : (ZW a0 (nth a2 J)).toNat < a0.ZF.length := by have := Qw a0 (nth a2 J); exact il
  simp [i2, ZE]
  refine rpS ?_
  refine cDs [true, true, true, false, false] (xT (nth a0.ZF (ZW a0 (nth a2 J)).toNat) (sg (Yf (ZD.Ys u0)))) ?_
  refine Wd ?_
  simp
  refine Vl (lC := (U.map ZM.row)) (news := (([(nth a0.ZF (ZW a0 (nth a2 J)).toNat)] : List ZM).map ZM.row)) (l1 := [(10, 3)]) (l2 := [(37, 3), (37, 4), (37, 14), (37, 15)]) (size := 16) ?_
  simp
  exact nx2 e1 (hI := by ((try dsimp only); refine ⟨by omega, by omega, by omega, by simp; omega, fun x hx => ?_⟩; rcases List.mem_append.1 hx with hx | hx; exact j1.2.2.2.2 x hx; have e := List.mem_singleton.1 hx; subst e; exact Yf (ZD.Ys u0))) (hw := Xh [((10, 3), some (39, 0))] [] rfl (by simp [w1]))
 have c2 := sl 2310144 a2 (an u0 u1)
 have f := ms f e1
 refine cF f ?_ ?_ <;> intro k5 h3 f
 ·exact rtD [.cell 8 205, .tmp 9] f
 refine cRs (VO a3 U (by (have q := JA (show Sm 2310144 a2 from u1); exact Zk (n := 2310144) (by decide) ⟨by omega, j1.2.2.2.2⟩))) ?_
 exact rtD [.cell 8 205, .tmp 9] f
theorem MI (a0 : YM) (a1 : Int) (u0 : Sm 2310144 a0) : Sa 249 [a0.row, rI a1] [rB (Qt a0 a1)] := by
 have f := me (Qt.eq_1 a0 a1)
 refine so func249 ntmps249 ?_
 refine lp1 (Jn.eq_2 a0) (fun J => YX 31 [eI 1 a1, eX 2 (a0.row.map .d), eL 8 16 a0.ZF ZM.row, eI 9 (a0.ZF.length : Int), eI 10 (J : Int)]) (fun n1 J => a0.ZF.length < n1 + J /\ J <= a0.ZF.length) (a0.ZF.length + 1) 0 (fun p1 J e1 j1 => ?_)
 refine cFf e1 ?_ ?_ <;> intro k2 h1 e1
 ·have i1 := ix h1
  have m2 := ml a0.ZF (k2 8 _ rfl)
  have c1 := sl 2310144 a0.ZF u0
  have w1 := wr J
  simp [i1, ZE]
  refine rpS ?_
  refine cRs (LN (nth a0.ZF J)) ?_
  refine cF e1 ?_ ?_ <;> intro k3 h2 e1
  ·have f := ms f e1
   exact rt [.tmp 4] f
  exact ny1 w1 e1
 have c2 := sl 2310144 a0.ZF u0
 have f := ms f e1
 refine dIs mixed ?_
 refine cRs (YY (a0.ZF.length : Int) 1 8) ?_
 refine cGs (fun gg => (VO a1 a0.ZF (sg (YM.Ys u0)))) ?_
 exact rt [.tmp 4] f
theorem Nl (a0 : ZD) (a1 : YM) (a2 : Int) (u0 : Sm 2306048 a0) (u1 : Sm 2306048 a1) : Sd 197 [a0.row, a1.row, rI a2] [(XJ a0 a1 a2).1.row, rB (XJ a0 a1 a2).2] := by
 have f := me (XJ.eq_1 a0 a1 a2)
 refine soD func197 ntmps197 ?_
 refine cRs (MI a1 a2 (sg u1)) ?_
 refine cF f ?_ ?_ <;> intro k1 h1 f
 ·refine cDs [] (YT a0 (sg u0)) ?_
  exact rtD [.cell 6 119, .tmp 7] f
 refine cDs [] (YT a0 (sg u0)) ?_
 refine lp3 (QA.eq_2 a0 a1) (fun J U lA => YX 48 [eX 3 (a0.row.map .d), (6, .one (.bptr 6 0), [.box [.d (.int .i64 0), .nil 16]]), (8, .one (.bptr 8 0), [.box [.d (.int .i64 U), .sref 8 2 0 lA.length], .none, .arr true 16 (lA.map ZM.row)]), eL 29 16 a1.ZF ZM.row, eI 30 (a1.ZF.length : Int), eI 31 (J : Int)]) (fun n1 J U lA => a1.ZF.length < n1 + J /\ J <= a1.ZF.length /\ Sm (2306048 + J) (ZD.mk U lA)) (a1.ZF.length + 1) 0 a0.Id a0.ZF (fun p1 J U lA e1 j1 => ?_) (hI := by exact ⟨by omega, by omega, Nat.zero_le _, u0⟩) (h0 := wkS [((8, 2), some (27, 1))] [])
 try dsimp only at j1
 refine cFf e1 ?_ ?_ <;> intro k3 h2 e1
 ·have i1 := ix h2
  have m2 := ml a1.ZF (k3 29 _ rfl)
  have c1 := sl 2306048 a1.ZF (an u0 u1)
  have w1 := wr J
  simp [i1, ZE]
  refine rpS ?_
  refine cDs [] (Ok (ZD.mk U lA) (nth a1.ZF J) (by first | (have hl := V9 a1 a2 (by simp at h1; exact h1.1); exact Zk (n := 2306048 + J) (by omega) j1.2.2.2) | exact sg (Yf (YM.Ys u1))) (by first | (have hl := V9 a1 a2 (by simp at h1; exact h1.1); exact Zk (n := 2306048 + J) (by omega) j1.2.2.2) | exact sg (Yf (YM.Ys u1)))) ?_
  refine cF e1 ?_ ?_ <;> intro k4 h3 e1
  ·refine cDs [] (YT a0 (sg u0)) ?_
   have f := ms f e1
   exact rtD [.cell 6 119, .tmp 7] f
  exact nx3 e1 (hI := by ((try dsimp only); refine ⟨by omega, by omega, by omega, ?_⟩; exact O7 (n := 2306048 + J) j1.2.2.2 (Zk (n := 2306048) (by omega) (Yf (YM.Ys u1))))) (hw := Xh [((8, 2), some (38, 1))] [] rfl (by simp [w1]))
 have c2 := sl 2306048 a1.ZF (an u0 u1)
 have f := ms f e1
 exact rtD [.cell 6 119, .tmp 7] f
theorem Ec {a b : Prop} (h : b) (k : a := by (intros; first | omega | with_unfolding_all (first | first | omega | (have h0 := h1; simp only [decide_eq_false_iff_not] at h0; have z := Qw a0 a1; have hc := JA (ZD.Ys u0); have w2 : IntKind.i64.wrap ((ZW a0 a1) + 1) = (ZW a0 a1) + 1 := (Zb (by omega) (by omega)); have w : W ((ZW a0 a1) + 1) = (ZW a0 a1) + 1 := w2; omega)) | ((try simp only [Kc, show ∀ x, IntKind.i64.wrap x = W x from fun _ => rfl] at *); omega))) : a /\ b := ⟨k, h⟩
theorem FV (a0 : ZD) (a1 : Int) (u0 : Sm 2318336 a0) : Sd 198 [a0.row, rI a1] [(Q8 a0 a1).1.row, rB (Q8 a0 a1).2] := by
 have f := me (Q8.eq_1 a0 a1)
 refine soD func198 ntmps198 ?_
 refine cDs [] (YT a0 (sg u0)) ?_
 refine cRs (qQ a0 a1) ?_
 refine cF f ?_ ?_ <;> intro k1 h1 f
 ·exact rtD [.cell 4 119, .tmp 5] f
 refine drJ [25] mixed ?_
 have c1 := sl 2318336 a0.ZF u0
 simp
 repeat with_reducible refine Ec ?_
 refine nq (rows := (a0.ZF.map ZM.row)) (news := ((a0.ZF.drop (W ((ZW a0 a1) + 1)).toNat).map ZM.row)) (size := 16) (u := 9) (j := 1) (len := (ZW a0 a1).toNat) (lo := (W ((ZW a0 a1) + 1)).toNat) (n := (a0.ZF.length - (W ((ZW a0 a1) + 1)).toNat)) rfl rfl rfl rfl (by simp) (by simp) (by simp) (by simp) (by simp) (by first | omega | (first | omega | (have h0 := h1; simp only [decide_eq_false_iff_not] at h0; have z := Qw a0 a1; have hc := JA (ZD.Ys u0); have w2 : IntKind.i64.wrap ((ZW a0 a1) + 1) = (ZW a0 a1) + 1 := (Zb (by omega) (by omega)); have w : W ((ZW a0 a1) + 1) = (ZW a0 a1) + 1 := w2; omega)) | (simp; first | omega | (have h0 := h1; simp only [decide_eq_false_iff_not] at h0; have z := Qw a0 a1; have hc := JA (ZD.Ys u0); have w2 : IntKind.i64.wrap ((ZW a0 a1) + 1) = (ZW a0 a1) + 1 := (Zb (by omega) (by omega)); have w : W ((ZW a0 a1) + 1) = (ZW a0 a1) + 1 := w2; omega))) (by first | omega | (simp; done) | (simp; first | omega | (have h0 := h1; simp only [decide_eq_false_iff_not] at h0; have z := Qw a0 a1; have hc := JA (ZD.Ys u0); have w2 : IntKind.i64.wrap ((ZW a0 a1) + 1) = (ZW a0 a1) + 1 := (Zb (by omega) (by omega)); have w : W ((ZW a0 a1) + 1) = (ZW a0 a1) + 1 := w2; omega))) (Rb _ _ _) (by simp) (by first | omega | (simp; first | omega | (have h0 := h1; simp only [decide_eq_false_iff_not] at h0; have z := Qw a0 a1; have hc := JA (ZD.Ys u0); have w2 : IntKind.i64.wrap ((ZW a0 a1) + 1) = (ZW a0 a1) + 1 := (Zb (by omega) (by omega)); have w : W ((ZW a0 a1) + 1) = (ZW a0 a1) + 1 := w2; omega))) ?_
 simp
 exact rtD [.cell 4 119, .tmp 5] f
theorem FM (a0 : ZD) (a1 : ZD) (a2 : List Int) (a3 : Int) (u0 : Sm 2301952 a0) (u1 : Sm 2301952 a1) (u2 : Sm 2301952 a2) : Sd 121 [a0.row, a1.row, rL 1 iR a2, rI a3] [(Yy a0 a1 a2 a3).1.row, (Yy a0 a1 a2 a3).2.1.row, rB (Yy a0 a1 a2 a3).2.2] := by
 have f := me (Yy.eq_1 a0 a1 a2 a3)
 refine soD func121 ntmps121 ?_
 refine cRs (Yv.rd (L2 a0 a1.Id a2 a3 (by first | exact sg u0 | exact sg u2) (by first | exact sg u0 | exact sg u2))) ?_
 refine cDs [] (Nl a1 (Yw a0 a1.Id a2 a3).1 a3 (by first | exact sg u1 | exact Zk (n := 2301952) (by decide) (SJ u0 u2)) (by first | exact sg u1 | exact Zk (n := 2301952) (by decide) (SJ u0 u2))) ?_
 refine cF f ?_ ?_ <;> intro k1 h1 f
 ·refine okD fun k2 => ?_
  refine dIs mixed ?_
  refine cDs [] (YT a0 (sg u0)) ?_
  refine cDs [] (YT a1 (sg u1)) ?_
  exact rtD [.cell 8 119, .cell 9 119, .tmp 10] f
 refine cDs [] (YT a0 (sg u0)) ?_
 refine lp3 (QB.eq_2 a0 a1 a2) (fun J U lA => YX 70 [eX 4 (a0.row.map .d), eX 5 (a1.row.map .d), (8, .one (.bptr 8 0), [.box [.d (.int .i64 0), .nil 16]]), (9, .one (.bptr 9 0), [.box [.d (.int .i64 0), .nil 16]]), (13, .one (.bptr 13 0), [.box [.d (.int .i64 (XJ a1 (Yw a0 a1.Id a2 a3).1 a3).1.Id), .sref 33 1 0 (XJ a1 (Yw a0 a1.Id a2 a3).1 a3).1.ZF.length]]), (15, .one (.bptr 15 0), [.box [.d (.int .i64 U), .sref 15 2 0 lA.length], .none, .arr true 16 (lA.map ZM.row)]), (33, .any, [.none, .arr true 16 ((XJ a1 (Yw a0 a1.Id a2 a3).1 a3).1.ZF.map ZM.row)]), eL 48 1 a2 iR, eI 49 (a2.length : Int), eI 50 (J : Int)]) (fun n1 J U lA => a2.length < n1 + J /\ J <= a2.length /\ Sm 2301952 (ZD.mk U lA)) (a2.length + 1) 0 a0.Id a0.ZF (fun p1 J U lA e1 j1 => ?_) (hI := by exact ⟨by omega, by omega, Nat.zero_le _, u0⟩) (h0 := wkS [((15, 2), some (47, 1))] [])
 try dsimp only at j1
 refine cFf e1 ?_ ?_ <;> intro k4 h2 e1
 ·have i1 := ix h2
  have m2 := ml a2 (k4 48 _ rfl)
  have c1 := sl 2301952 a2 (an u0 (an u1 u2))
  have w1 := wr J
  simp [i1, ZE]
  refine rpS ?_
  refine cDs [] (FV (ZD.mk U lA) (nth a2 J) (by exact Zk (n := 2301952) (by decide) j1.2.2.2)) ?_
  refine cF e1 ?_ ?_ <;> intro k5 h3 e1
  ·refine okD fun k6 => ?_
   refine dIs mixed ?_
   refine cDs [] (YT a0 (sg u0)) ?_
   refine cDs [] (YT a1 (sg u1)) ?_
   have f := ms f e1
   exact rtD [.cell 8 119, .cell 9 119, .tmp 10] f
  exact nx3 e1 (hI := by ((try dsimp only); refine ⟨by omega, by omega, by omega, ?_⟩; exact Po (by decide) j1.2.2.2)) (hw := Xh [((15, 2), some (57, 1))] [] rfl (by simp [w1]))
 have c2 := sl 2301952 a2 (an u0 (an u1 u2))
 have f := ms f e1
 refine tJ [(8, 8), (9, 9), (13, 13), (15, 15)] mixed (by kernel_rfl) (by kernel_rfl) (by kernel_rfl) (by kernel_rfl) ?_
 simp
 exact rtD [.cell 8 119, .cell 9 119, .tmp 10] f
theorem Fj (a0 : ZJ) (a1 : Int) (a2 : Int) (a3 : Int) (u0 : Sm 2297856 a0) : Sd 48 [a0.row, rI a1, rI a2, rI a3] [(yE a0 a1 a2 a3).1.row, rB (yE a0 a1 a2 a3).2] := by
 have f := me (yE.eq_1 a0 a1 a2 a3)
 refine soD func48 ntmps48 ?_
 refine cDs [false, false, false, true, true, false, false, true, false, false, true, false] (YF a0 (sg u0)) ?_
 refine cRs (qe a0.Frame.Methods a0.Frame.Now) ?_
 refine cRs (zq a0 a1) ?_
 refine cGs (fun gg => (zq a0 a2)) ?_
 have c1 := sl 2297856 a0.ZA u0
 have w1 : IntKind.i64.wrap ((a0.ZA.length : Int) - 1) = (a0.ZA.length : Int) - 1 := Zb (by omega) (by omega)
 refine cFo f ?_ ?_ <;> intro k1 h1 f
 ·have q1 := h1; try simp [w1, YU, Zp] at q1
  simp
  exact rtD [.cell 8 47, .tmp 9] f
 have q1 := h1; try simp [w1, YU, Zp] at q1
 simp
 refine dIo mixed ?_
 have i1 := ik a1.toNat a0.ZA
 have i2 := ik a2.toNat a0.ZA
 simp [i1, ZE, i2]
 refine rpS ?_
 refine cDs [] (FM (nth a0.ZA a1.toNat) (nth a0.ZA a2.toNat) ([a3] : List Int) (ZP a0.Frame.Methods a0.Frame.Now) (sg (Yf (ZJ.Y1 u0))) (sg (Yf (ZJ.Y1 u0))) (by simp (maxDischargeDepth := 12) [K0, XC, Zk (m := 2301952) (by decide) u0]; try omega)) ?_
 refine cF f ?_ ?_ <;> intro k3 h2 f
 ·refine okD fun k4 => ?_
  refine tX [(10, 10), (12, 12), (13, 13), (63, 10), (66, 10)] [71, 72] [] mixed (by kernel_rfl) (by kernel_rfl) (by kernel_rfl) (by kernel_rfl) (by kernel_rfl) (by kernel_rfl) (by kernel_rfl) ?_
  simp [i1, ZE]
  refine rpS ?_
  refine Si (t := 16) (j := 7) (i := a1.toNat) (size := 2) (rows := (a0.ZA.map ZD.row)) (ds := (Yy (nth a0.ZA a1.toNat) (nth a0.ZA a2.toNat) ([a3] : List Int) (ZP a0.Frame.Methods a0.Frame.Now)).1.row) (L := [(58, 1)]) ?_
  simp [YV (x := (Yy (nth a0.ZA a1.toNat) (nth a0.ZA a2.toNat) ([a3] : List Int) (ZP a0.Frame.Methods a0.Frame.Now)).1) rfl, c1, i1, i2, ZE, Zj]
  refine rpS ?_
  refine Si (t := 16) (j := 7) (i := a2.toNat) (size := 2) (rows := ((a0.ZA.set a1.toNat (Yy (nth a0.ZA a1.toNat) (nth a0.ZA a2.toNat) ([a3] : List Int) (ZP a0.Frame.Methods a0.Frame.Now)).1).map ZD.row)) (ds := (Yy (nth a0.ZA a1.toNat) (nth a0.ZA a2.toNat) ([a3] : List Int) (ZP a0.Frame.Methods a0.Frame.Now)).2.1.row) (L := [(58, 3)]) ?_
  simp [YV (x := (Yy (nth a0.ZA a1.toNat) (nth a0.ZA a2.toNat) ([a3] : List Int) (ZP a0.Frame.Methods a0.Frame.Now)).1) rfl, c1, i1, i2, ZE, Zj]
  refine rpS ?_
  exact rtD [.cell 8 47, .tmp 9] f
 exact rtD [.cell 8 47, .tmp 9] f
theorem IF (a0 : ZD) (a1 : Int) (u0 : Sm 2322432 a0) : Sd 122 [a0.row, rI a1] [(J0 a0 a1).1.row, rI (J0 a0 a1).2] := by
 have f := me (J0.eq_1 a0 a1)
 refine soD func122 ntmps122 ?_
 refine lp2 (Jb.eq_2 a0 a1) (fun J U => YX 39 [eI 1 a1, eX 2 (a0.row.map .d), (4, .one (.bptr 4 0), [.box [.d (.int .i64 0), .nil 16]]), (6, .one (.bptr 6 0), [.box [.d (.int .i64 a0.Id), .sref 6 2 0 U.length], .none, .arr true 16 (U.map ZM.row)]), eL 13 16 a0.ZF ZM.row, eI 14 (a0.ZF.length : Int), eI 15 (J : Int)]) (fun n1 J U => a0.ZF.length < n1 + J /\ J <= a0.ZF.length /\ U.length <= 0 + 1 * J) (a0.ZF.length + 1) 0 ([] : List ZM) (fun p1 J U e1 j1 => ?_) (h0 := wkS [((6, 2), none)] [])
 refine cFf e1 ?_ ?_ <;> intro k2 h1 e1
 ·have i1 := ix h1
  have m2 := ml a0.ZF (k2 13 _ rfl)
  have c1 := sl 2322432 a0.ZF u0
  have w1 := wr J
  simp [i1, ZE]
  refine rpS ?_
  refine cF e1 ?_ ?_ <;> intro k3 h2 e1
  ·refine okD fun k4 => ?_
   refine drJ [28] mixed ?_
   simp
   refine cDs [true, true, true, false, false] (xT (nth a0.ZF J) (sg (Yf (ZD.Ys u0)))) ?_
   refine Wd ?_
   simp
   refine Vl (lC := (U.map ZM.row)) (news := (([(nth a0.ZF J)] : List ZM).map ZM.row)) (l1 := [(6, 2)]) (l2 := [(26, 3), (26, 4), (26, 14), (26, 15)]) (size := 16) ?_
   simp
   exact nx2 e1 (hw := Xh [((6, 2), some (28, 0))] [] rfl (by simp [w1]))
  exact ny2 w1 e1
 have c2 := sl 2322432 a0.ZF u0
 have f := ms f e1
 refine tJ [(2, 2), (4, 4), (6, 6), (32, 2), (35, 6)] mixed (by kernel_rfl) (by kernel_rfl) (by kernel_rfl) (by kernel_rfl) ?_
 simp
 exact rtD [.cell 4 119, .tmp 5] f
theorem Lr (a0 : ZJ) (a1 : Int) (u0 : Sm 2314240 a0) : Sd 49 [a0.row, rI a1] [(zL a0 a1).1.row, rB (zL a0 a1).2] := by
 have f := me (zL.eq_1 a0 a1)
 refine soD func49 ntmps49 ?_
 refine cDs [false, false, false, true, true, false, false, true, false, false, true, false] (YF a0 (sg u0)) ?_
 refine cRs (zq a0 a1) ?_
 have c1 := sl 2314240 a0.ZA u0
 have w1 : IntKind.i64.wrap ((a0.ZA.length : Int) - 1) = (a0.ZA.length : Int) - 1 := Zb (by omega) (by omega)
 refine cFo f ?_ ?_ <;> intro k1 h1 f
 ·have q1 := h1; try simp [w1, YU, Zp] at q1
  simp
  exact rtD [.cell 4 47, .tmp 5] f
 have q1 := h1; try simp [w1, YU, Zp] at q1
 simp
 refine drJ [] mixed ?_
 have i1 := ik a1.toNat a0.ZA
 simp [i1, ZE]
 refine rpS ?_
 refine cDf i1 [] (IF (nth a0.ZA a1.toNat) a0.Frame.Now (sg (Yf (ZJ.Y1 u0)))) ?_
 refine Si (t := 8) (j := 7) (i := a1.toNat) (size := 2) (rows := (a0.ZA.map ZD.row)) (ds := (J0 (nth a0.ZA a1.toNat) a0.Frame.Now).1.row) (L := [(26, 1)]) ?_
 simp [YV (x := (J0 (nth a0.ZA a1.toNat) a0.Frame.Now).1) rfl, c1, i1, ZE, Zj]
 refine rpS ?_
 exact rtD [.cell 4 47, .tmp 5] f
theorem Lz (a0 : List Zf) (a1 : Int) : Sa 276 [rL 4 Zf.row a0, rI a1] [rI (zQ a0 a1)] := by
 have f := me (zQ.eq_1 a0 a1)
 refine so func276 ntmps276 ?_
 refine lp1 (zk.eq_2 a0 a1) (fun J => YX 20 [eI 1 a1, eL 7 4 a0 Zf.row, eI 8 (a0.length : Int), eI 9 (J : Int)]) (fun n1 J => a0.length < n1 + J /\ J <= a0.length) (a0.length + 1) 0 (fun p1 J e1 j1 => ?_)
 refine cFf e1 ?_ ?_ <;> intro k2 h1 e1
 ·have i1 := ix h1
  have m2 := ml a0 (k2 7 _ rfl)
  have w1 := wr J
  simp [i1, ZE]
  refine rpS ?_
  refine cF e1 ?_ ?_ <;> intro k3 h2 e1
  ·have f := ms f e1
   exact rt [.tmp 4] f
  exact ny1 w1 e1
 have f := ms f e1
 exact rt [.tmp 4] f
theorem Ch (a0 : List Zf) (a1 : Int) : Sa 251 [rL 4 Zf.row a0, rI a1] [rI (TC a0 a1)] := by
 have f := me (TC.eq_1 a0 a1)
 refine so func251 ntmps251 ?_
 refine cRs (Lz a0 a1) ?_
 refine cFf f ?_ ?_ <;> intro k1 h1 f
 ·have i1 : (zQ a0 a1).toNat < a0.length := by have := Lu a0 a1; exact il
  simp [i1, ZE]
  refine rpS ?_
  exact rt [.tmp 4] f
 exact rt [.tmp 4] f
theorem L0 (a0 : Z8) (a1 : Int) : Sa 200 [a0.row, rI a1] [rI (Wp a0 a1)] := by
 have f := me (Wp.eq_1 a0 a1)
 refine so func200 ntmps200 ?_
 refine cRs (yR a0.Zq a1) ?_
 refine cF f ?_ ?_ <;> intro k1 h1 f
 ·exact rt [.tmp 4] f
 refine dIo mixed ?_
 have i1 : (YH a0.Zq a1).toNat < a0.Zq.length := by have := jX a0.Zq a1; exact il
 simp [i1, ZE]
 refine rpS ?_
 refine cRs (Ch a0.Methods (nth a0.Zq (YH a0.Zq a1).toNat).Method) ?_
 exact rt [.tmp 4] f
theorem Ub (a0 : Z8) (a1 : Int) : Sa 123 [a0.row, rI a1] [rB (za a0 a1)] := by
 have f := me (za.eq_1 a0 a1)
 refine so func123 ntmps123 ?_
 refine dIs mixed ?_
 refine cRs (yR a0.Zq a1) ?_
 refine cGs (fun gg => (L0 a0 a1)) ?_
 exact rt [.tmp 4] f
theorem GS {a b : Prop} (h : b) (k : a := by (intros; first | omega | with_unfolding_all (first | first | omega | (have o := JA (ZJ.MN (yl (n := 2310144) (a1 := a1) (a2 := a2) (a4 := 0) (a5 := 10000) u0 u1 (by decide))); (try simp); omega)) | ((try simp only [Kc, show ∀ x, IntKind.i64.wrap x = W x from fun _ => rfl] at *); omega))) : a /\ b := ⟨k, h⟩
theorem HT (a0 : ZJ) (a1 : Int) (a2 : Int) (a3 : ZV) (u0 : Sm 2310144 a0) (u1 : Sm 2310144 a3) : Sd 50 [a0.row, rI a1, rI a2, a3.row] [(z9 a0 a1 a2 a3).1.row, rB (z9 a0 a1 a2 a3).2] := by
 have f := me (z9.eq_1 a0 a1 a2 a3)
 refine soD func50 ntmps50 ?_
 refine cRs (Ub a0.Frame a2) ?_
 refine cFo f ?_ ?_ <;> intro k1 h1 f
 ·have q1 := h1; try simp at q1
  simp
  refine cDs [false, false, false, true, true, false, false, true, false, false, true, false] (YF a0 (by first | (exact Zk (n := 2310144) (by decide) (xs (an u0 u1))) | (exact Zk (n := 2310144 + 1) (by decide) (yl (n := 2310144) (xs (an u0 u1)) (xs (an u0 u1)) (by decide))))) ?_
  refine FL (rv := [.cell 8 47, .tmp 9]) rfl ?_
  simp [f.h]
  all_goals ((try simp only [q2, true_and]); (try (rintro r (⟨a, _, rfl⟩ | rfl) x hx <;> simp at hx <;> subst hx <;> rfl)))
 have q1 := h1; try simp at q1
 simp
 refine cRs (PU a0 a1 a2 a3 0 10000 (sg u0) (sg u1)) ?_
 refine cDs [false, false, false, true, true, false, false, true, false, false, true, false] (YF (XP a0 a1 a2 a3 0 10000).1 (by first | (exact Zk (n := 2310144) (by decide) (xs (an u0 u1))) | (exact Zk (n := 2310144 + 1) (by decide) (yl (n := 2310144) (xs (an u0 u1)) (xs (an u0 u1)) (by decide))))) ?_
 refine cFo f ?_ ?_ <;> intro k2 h2 f
 ·have q2 := h2; try simp at q2
  simp
  repeat with_reducible refine GS ?_
  refine FL (rv := [.cell 8 47, .tmp 9]) rfl ?_
  simp [f.h]
  all_goals ((try simp only [q2, true_and]); (try (rintro r (⟨a, _, rfl⟩ | rfl) x hx <;> simp at hx <;> subst hx <;> rfl)))
 have q2 := h2; try simp at q2
 simp
 refine FL (rv := [.cell 8 47, .tmp 9]) rfl ?_
 simp [f.h]
 all_goals ((try simp only [q2, true_and]); (try (rintro r (⟨a, _, rfl⟩ | rfl) x hx <;> simp at hx <;> subst hx <;> rfl)))
theorem Sh (a0 : ZJ) (u0 : Sm 2326528 a0) : Sd 125 [a0.row] [rL 1 iR (Z6 a0)] := by
 have f := me (Z6.eq_1 a0)
 refine soD func125 ntmps125 ?_
 refine lp2 (Xt.eq_2 a0) (fun J U => YX 33 [eX 1 (a0.row.map .d), (3, .one (.sref 3 0 0 J.length), [.arr false 1 (J.map iR)]), eL 8 3 a0.Frame.ZG ZQ.row, eI 9 (a0.Frame.ZG.length : Int), eI 10 (U : Int)]) (fun n1 J U => a0.Frame.ZG.length < n1 + U /\ U <= a0.Frame.ZG.length /\ J.length <= 0 + 1 * U) (a0.Frame.ZG.length + 1) ([] : List Int) 0 (fun p1 J U e1 j1 => ?_) (h0 := wkS [((3, 0), none)] [])
 refine cFf e1 ?_ ?_ <;> intro k2 h1 e1
 ·have i1 := ix h1
  have m2 := ml a0.Frame.ZG (k2 8 _ rfl)
  have c1 := sl 2326528 a0.Frame.ZG u0
  have w1 := wr U
  simp [i1, ZE]
  refine rpS ?_
  refine cRs (RB a0.YW (nth a0.Frame.ZG U).Id) ?_
  refine cGs (fun gg => (Ub a0.Frame (nth a0.Frame.ZG U).Key)) ?_
  refine cF e1 ?_ ?_ <;> intro k3 h2 e1
  ·exact nx2 e1 (hw := Xh [((3, 0), some (30, 0))] [] rfl (by simp [w1]))
  exact ny2 w1 e1
 have c2 := sl 2326528 a0.Frame.ZG u0
 have f := ms f e1
 exact rtD [.tmp 2] f
theorem zB {a b : Prop} (h : b) (k : a := by (intros; first | omega | with_unfolding_all (first | first | omega | (have f0 : 0 <= (ZT a0 a1).1 := (by first | omega | (simp at *; omega)); have fi := KS a0 a1 f0; omega) | (have fl := KV a0; have fm := JA (Z8.Xo (ZJ.Xq u0)); (try dsimp only at *); omega)) | ((try simp only [Kc, show ∀ x, IntKind.i64.wrap x = W x from fun _ => rfl] at *); omega))) : a /\ b := ⟨k, h⟩
theorem OU (a0 : ZJ) (a1 : Int) (a2 : Int) (u0 : Sm 2314240 a0) : Sd 51 [a0.row, rI a1, rI a2] [(JZ a0 a1 a2).1.row, rB (JZ a0 a1 a2).2] := by
 have f := me (JZ.eq_1 a0 a1 a2)
 refine soD func51 ntmps51 ?_
 refine cDs [false, false, false, true, true, false, false, true, false, false, true, false] (YF a0 (sg u0)) ?_
 refine cRs (My a0 a1) ?_
 refine cRs (qe a0.Frame.Methods a0.Frame.Now) ?_
 refine cRs (Yv.rd (Sh a0 (sg u0))) ?_
 refine cRs (RB a0.YN a1) ?_
 refine cFt f ?_ ?_ <;> intro k1 h1 f
 ·exact rtD [.cell 6 47, .tmp 7] f
 have i1 : (ZT a0 a1).1.toNat < a0.ZA.length := by first | omega | (have f0 : 0 <= (ZT a0 a1).1 := (by first | omega | (simp at *; omega)); have fi := KS a0 a1 f0; omega)
 have i2 : (ZT a0 a1).2.toNat < (nth a0.ZA (ZT a0 a1).1.toNat).ZF.length := by first | omega | (have f0 : 0 <= (ZT a0 a1).1 := (by first | omega | (simp at *; omega)); have fi := KS a0 a1 f0; omega)
 simp [i1, ZE, i2]
 repeat with_reducible refine zB ?_
 refine dIs mixed ?_
 refine cRs (Ou (nth (nth a0.ZA (ZT a0 a1).1.toNat).ZF (ZT a0 a1).2.toNat) (ZP a0.Frame.Methods a0.Frame.Now) (sg (Yf (ZD.Ys (Yf (ZJ.Y1 u0)))))) ?_
 refine lp2 (Qd.eq_2 a0 a1 a2) (fun J U => YX 124 [eI 2 a2, (6, .one (.bptr 6 0), [.box [.nil 5, .nil 3, .nil 4, .d (.int .i64 0), .d (.int .i64 0), .nil 7, .nil 1, .nil 2, .nil 1, .nil 1, .d (.int .i64 0), .nil 1]]), eX 8 (a0.Frame.row.map .d), (9, .one (.bptr 9 0), [.box [.sref 25 0 0 a0.Frame.Zq.length, .sref 25 1 0 a0.Frame.ZG.length, .sref 25 2 0 a0.Frame.Methods.length, .d (.int .i64 a0.Frame.y9), .d (.int .i64 a0.Frame.Now), .sref 25 5 0 a0.ZS.length, .sref 25 6 0 a0.Zr.length, .sref 25 7 0 a0.ZA.length, .sref 25 8 0 a0.Ym.length, .sref 25 9 0 a0.YW.length, .d (.int .i64 a0.Next), .sref 25 11 0 a0.YN.length]]), eI 10 (ZT a0 a1).1, eI 11 (ZT a0 a1).2, eX 14 ((nth (nth a0.ZA (ZT a0 a1).1.toNat).ZF (ZT a0 a1).2.toNat).row.map .d), (15, .one (.bptr 15 0), [.box [.d (.int .i64 ((nth (nth a0.ZA (ZT a0 a1).1.toNat).ZF (ZT a0 a1).2.toNat).ZI.ZL.length : Int)), .d (.int .i64 (ZP a0.Frame.Methods a0.Frame.Now)), .d (.int .i64 (QJ (nth (nth a0.ZA (ZT a0 a1).1.toNat).ZF (ZT a0 a1).2.toNat) (ZP a0.Frame.Methods a0.Frame.Now))), .nil 2, .sref 15 5 0 U.length], .none, .none, .none, .none, .arr false 5 (U.map ZX.row)]), (25, .any, [.arr false 5 (a0.Frame.Zq.map YR.row), .arr false 3 (a0.Frame.ZG.map ZQ.row), .arr false 4 (a0.Frame.Methods.map Zf.row), .none, .none, .arr false 7 (a0.ZS.map Z1.row), .arr false 1 (a0.Zr.map iR), .arr true 2 (a0.ZA.map ZD.row), .arr false 1 (a0.Ym.map iR), .arr false 1 (a0.YW.map iR), .none, .arr false 1 (a0.YN.map iR)]), eL 76 1 (Z6 a0) iR, eI 77 ((Z6 a0).length : Int), eI 78 (J : Int)]) (fun n1 J U => (Z6 a0).length < n1 + J /\ J <= (Z6 a0).length /\ U.length <= 0 + 1 * J) ((Z6 a0).length + 1) 0 ([] : List ZX) (fun p1 J U e1 j1 => ?_) (h0 := wkS [((15, 5), none)] [])
 try dsimp only at j1
 refine cFf e1 ?_ ?_ <;> intro k4 h2 e1
 ·have i3 := ix h2
  have m2 := ml (Z6 a0) (k4 76 _ rfl)
  have w1 := wr J
  simp [i3, ZE]
  repeat with_reducible refine zB ?_
  refine cRs (VT a0.Frame.Zq a0.Frame.ZG (ZX.mk (nth (Z6 a0) J) 0 a2 (QJ (nth (nth a0.ZA (ZT a0 a1).1.toNat).ZF (ZT a0 a1).2.toNat) (ZP a0.Frame.Methods a0.Frame.Now)) 0) (sg (Z8.xw (ZJ.Xq u0))) (sg (Z8.Xo (ZJ.Xq u0)))) ?_
  refine cFt e1 ?_ ?_ <;> intro k5 h3 e1
  ·have f := ms f e1
   exact rtD [.cell 6 47, .tmp 7] f
  simp
  repeat with_reducible refine zB ?_
  exact nx2 e1 (hw := Xh [((15, 5), some (102, 0))] [] rfl (by simp [w1]))
 have f := ms f e1
 refine cDs [] (SC (nth (nth a0.ZA (ZT a0 a1).1.toNat).ZF (ZT a0 a1).2.toNat).ZI (ZK.mk ((nth (nth a0.ZA (ZT a0 a1).1.toNat).ZF (ZT a0 a1).2.toNat).ZI.ZL.length : Int) (ZP a0.Frame.Methods a0.Frame.Now) (QJ (nth (nth a0.ZA (ZT a0 a1).1.toNat).ZF (ZT a0 a1).2.toNat) (ZP a0.Frame.Methods a0.Frame.Now)) ([] : List Zv) U) (by first | (have fl := KV a0; have fm := JA (Z8.Xo (ZJ.Xq u0)); simp [XC]; omega) | (refine Zk (n := 2314240) (by decide) ?_; simp (maxDischargeDepth := 12) [u0]; done)) (by first | (have fl := KV a0; have fm := JA (Z8.Xo (ZJ.Xq u0)); simp [XC]; omega) | (refine Zk (n := 2314240) (by decide) ?_; simp (maxDischargeDepth := 12) [u0]; done))) ?_
 refine drJ [] mixed ?_
 simp [i1, ZE, i2]
 repeat with_reducible refine zB ?_
 refine oa (t := 25) (j := 7) (i := (ZT a0 a1).1.toNat) (c := 1) (k' := (ZT a0 a1).2.toNat) (q := 14) (n := 16) (size := 2) (s := ((nth a0.ZA (ZT a0 a1).1.toNat).ZF.map ZM.row)) (rows := (a0.ZA.map ZD.row)) (ds := (XW (nth (nth a0.ZA (ZT a0 a1).1.toNat).ZF (ZT a0 a1).2.toNat).ZI (ZK.mk ((nth (nth a0.ZA (ZT a0 a1).1.toNat).ZF (ZT a0 a1).2.toNat).ZI.ZL.length : Int) (ZP a0.Frame.Methods a0.Frame.Now) (QJ (nth (nth a0.ZA (ZT a0 a1).1.toNat).ZF (ZT a0 a1).2.toNat) (ZP a0.Frame.Methods a0.Frame.Now)) ([] : List Zv) U)).1.row) (L := [(109, 0), (109, 1)]) rfl rfl rfl rfl (by simp; rfl) (by simp) (by simp) (by simp [i1, i2]) (by simp [ZE, Zj, i1, i2]) (by simp [i1, i2]) (by simp) (by simp) (by simp) (by simp) (by simp) (by simp) ?_
 simp [YV (x := (ZD.mk (nth a0.ZA (ZT a0 a1).1.toNat).Id ((nth a0.ZA (ZT a0 a1).1.toNat).ZF.set (ZT a0 a1).2.toNat (ZM.mk (nth (nth a0.ZA (ZT a0 a1).1.toNat).ZF (ZT a0 a1).2.toNat).Id (nth (nth a0.ZA (ZT a0 a1).1.toNat).ZF (ZT a0 a1).2.toNat).Y7 (nth (nth a0.ZA (ZT a0 a1).1.toNat).ZF (ZT a0 a1).2.toNat).Doc (nth (nth a0.ZA (ZT a0 a1).1.toNat).ZF (ZT a0 a1).2.toNat).Sig (XW (nth (nth a0.ZA (ZT a0 a1).1.toNat).ZF (ZT a0 a1).2.toNat).ZI (ZK.mk ((nth (nth a0.ZA (ZT a0 a1).1.toNat).ZF (ZT a0 a1).2.toNat).ZI.ZL.length : Int) (ZP a0.Frame.Methods a0.Frame.Now) (QJ (nth (nth a0.ZA (ZT a0 a1).1.toNat).ZF (ZT a0 a1).2.toNat) (ZP a0.Frame.Methods a0.Frame.Now)) ([] : List Zv) U)).1)))) rfl, ZE, Zj, i1, i2]
 repeat with_reducible refine zB ?_
 exact rtD [.cell 6 47, .tmp 7] f
theorem Qy {a b : Prop} (h : b) (k : a := by (intros; first | omega | with_unfolding_all (first | first | omega | (have z := Jr a0 a1 (by simp_all); (try simp at *); omega)) | (simp_all; done) | (simp_all; omega) | grind | ((try simp only [Kc, show ∀ x, IntKind.i64.wrap x = W x from fun _ => rfl] at *); omega))) : a /\ b := ⟨k, h⟩
theorem FZ (a0 : ZJ) (a1 : Int) (a2 : Int) (u0 : Sm 2310144 a0) : Sd 52 [a0.row, rI a1, rI a2] [(y5 a0 a1 a2).1.row, rB (y5 a0 a1 a2).2] := by
 have f := me (y5.eq_1 a0 a1 a2)
 refine soD func52 ntmps52 ?_
 refine cRs (LH a0 a1) ?_
 refine dIs mixed ?_
 refine gIo ?_ ?_ <;> intro G
 ·have gP := G
  have g1 := G; try simp at g1
  have i1 : (YG a0 a1).2.1.toNat < a0.ZS.length := by first | omega | (have z := Jr a0 a1 (by simp_all); (try simp at *); omega)
  simp [i1, ZE, G]
  repeat with_reducible refine Qy ?_
  refine cGo (fun gg => (Ub a0.Frame (nth a0.ZS (YG a0 a1).2.1.toNat).Z5)) ?_
  simp [G]
  repeat with_reducible refine Qy ?_
  refine cKo f ?_ ?_ <;> intro k2 h1 f
  ·simp [G]
   repeat with_reducible refine Qy ?_
   refine cD [false, false, false, true, true, false, false, true, false, false, true, false] (YF a0 (sg u0)) ?_
   simp [G]
   repeat with_reducible refine Qy ?_
   exact zb [.cell 6 47, .tmp 7] f
  ·simp [G]
   repeat with_reducible refine Qy ?_
   refine dIo mixed ?_
   simp [i1, ZE, G]
   repeat with_reducible refine Qy ?_
   refine cD [false, false, false, true, true, false, false, true, false, false, true, false] (UP a0 (YG a0 a1).1 a1 (Z4.mk (nth a0.ZS (YG a0 a1).2.1.toNat).Zg a2 (-1) (nth a0.ZS (YG a0 a1).2.1.toNat).Z5 0) (sg u0) (by (have z := Jr a0 a1 (by simp_all); (try simp at *); omega))) ?_
   simp [G]
   repeat with_reducible refine Qy ?_
   exact zb [.cell 6 47, .tmp 7] f
 ·have gP := G
  simp [G]
  repeat with_reducible refine Qy ?_
  refine sGo ?_
  simp [G]
  repeat with_reducible refine Qy ?_
  refine cKo f ?_ ?_ <;> intro k4 h2 f
  ·simp [G]
   repeat with_reducible refine Qy ?_
   refine cD [false, false, false, true, true, false, false, true, false, false, true, false] (YF a0 (sg u0)) ?_
   simp [G]
   repeat with_reducible refine Qy ?_
   exact zb [.cell 6 47, .tmp 7] f
  ·simp [G] at h2
theorem SO (a0 : ZJ) (a1 : Yu) (u0 : Sm 2293760 a0) (u1 : Sm 2293760 a1) : Sd 10 [a0.row, a1.row] [(Z3 a0 a1).1.row, rB (Z3 a0 a1).2] := by
 have f := me (Z3.eq_1 a0 a1)
 refine soD func10 ntmps10 ?_
 refine cF f ?_ ?_ <;> intro k1 h1 f
 ·refine cDs [false, false, false, true, true, false, false, true, false, false, true, false] (Ej a0 a1.A (sg u0)) ?_
  exact rtD [.cell 4 47, .tmp 5] f
 refine cF f ?_ ?_ <;> intro k2 h2 f
 ·refine cDs [false, false, false, true, true, false, false, true, false, false, true, false] (FX a0 a1.A a1.B a1.Doc a1.C a1.D (sg u0) (sg (Yu.kH u1))) ?_
  exact rtD [.cell 4 47, .tmp 5] f
 refine cF f ?_ ?_ <;> intro k3 h3 f
 ·refine cDs [false, false, false, true, true, false, false, true, false, false, true, false] (Ls a0 a1.A (sg u0)) ?_
  exact rtD [.cell 4 47, .tmp 5] f
 refine cF f ?_ ?_ <;> intro k4 h4 f
 ·refine cDs [false, false, false, true, true, false, false, true, false, false, true, false] (LY a0 a1.A (sg u0)) ?_
  exact rtD [.cell 4 47, .tmp 5] f
 refine cF f ?_ ?_ <;> intro k5 h5 f
 ·refine cDs [false, false, false, true, true, false, false, true, false, false, true, false] (FE a0 a1.A a1.Ids a1.B (sg u0) (sg (Yu.wU u1))) ?_
  exact rtD [.cell 4 47, .tmp 5] f
 refine cF f ?_ ?_ <;> intro k6 h6 f
 ·refine cDs [false, false, false, true, true, false, false, true, false, false, true, false] (Fj a0 a1.A a1.B a1.C (sg u0)) ?_
  exact rtD [.cell 4 47, .tmp 5] f
 refine cF f ?_ ?_ <;> intro k7 h7 f
 ·refine cDs [false, false, false, true, true, false, false, true, false, false, true, false] (Lr a0 a1.A (sg u0)) ?_
  exact rtD [.cell 4 47, .tmp 5] f
 refine cF f ?_ ?_ <;> intro k8 h8 f
 ·refine cDs [false, false, false, true, true, false, false, true, false, false, true, false] (HT a0 a1.A a1.B a1.Doc (sg u0) (sg (Yu.kH u1))) ?_
  exact rtD [.cell 4 47, .tmp 5] f
 refine cF f ?_ ?_ <;> intro k9 h9 f
 ·refine cDs [false, false, false, true, true, false, false, true, false, false, true, false] (OU a0 a1.A a1.B (sg u0)) ?_
  exact rtD [.cell 4 47, .tmp 5] f
 refine cF f ?_ ?_ <;> intro cO fg f
 ·refine cDs [false, false, false, true, true, false, false, true, false, false, true, false] (FZ a0 a1.A a1.B (sg u0)) ?_
  exact rtD [.cell 4 47, .tmp 5] f
 refine cDs [false, false, false, true, true, false, false, true, false, false, true, false] (YF a0 (sg u0)) ?_
 exact rtD [.cell 4 47, .tmp 5] f
end Go.Proofs.YtdkobknehoecjaaGreat
