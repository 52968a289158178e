/- Contracts of the functions Mj the abstract machine, part I2. No condition. -/
import Derived.Test.YthjkhlcbpfnobaaGreatCI1
namespace Go.Proofs.YthjkhlcbpfnobaaGreat
open Tryz
open Go.Vm Go.Mo
set_option maxHeartbeats 1000000
set_option maxRecDepth 100000
set_option linter.unusedSimpArgs false
set_option linter.unusedVariables false
variable {a b : Prop}
theorem T4 (h : b) (k : a := by (intros; first | omega | with_unfolding_all (first | (first | omega | (have z := YS u0; omega) | (have z := YS u0; simp at *; omega))) | ((try simp only [Y9, show ∀ x, IntKind.i64.wrap x = W x from fun _ => rfl] at *); omega))) : a /\ b := ⟨k, h⟩
theorem xI (h : b) (k : a := by (intros; first | omega | with_unfolding_all (first | (first | omega | (have z := YS u0; omega) | (have z := YS u0; simp at *; omega))) | (simp_all; done) | (simp_all; omega) | grind | ((try simp only [Y9, show ∀ x, IntKind.i64.wrap x = W x from fun _ => rfl] at *); omega))) : a /\ b := ⟨k, h⟩
theorem xH (a0 : List Zg) (u0 : Sm 2330624 a0) : Sd 339 [rL 2 Zg.row a0] [rL 2 Zg.row (Qf a0)] := by
 have f := me (Qf.eq_1 a0)
 refine soD func339 ntmps339 ?_
 refine lp2 (jj.eq_2 a0) (fun J U => Yq 85 [(3, .one (.sref 3 0 0 J.length), [.arr false 2 (J.map Zg.row)]), eL 10 2 a0 Zg.row, eI 11 (a0.length : Int), eI 12 (U : Int)]) (fun n1 J U => a0.length < n1 + U /\ U <= a0.length /\ J.length <= U) (a0.length + 1) ([] : List Zg) 0 (fun p1 J U e1 j1 => ?_) (h0 := wkS [((3, 0), none)] [])
 try dsimp only at j1
 refine cFf e1 ?_ ?_ <;> intro k2 h1 e1
 ·have i1 := ix h1
  have m2 := ml a0 (k2 10 _ rfl)
  have c1 := sl 2330624 a0 u0
  have w1 := wr U
  simp [i1, ZE]
  repeat with_reducible refine T4 ?_
  refine cRs (KU (nth a0 U)) ?_
  refine cF e1 ?_ ?_ <;> intro k3 h2 e1
  ·exact ny2 w1 e1 (hI := by first | omega | (simp at *; omega))
  refine lp4 (jn.eq_2 J) (fun m0 m9 lV lX => Yq 85 [(3, .any, [.arr false 2 (J.map Zg.row)]), (5, .one (.bptr 5 0), [.box [.d (.int .i64 lV), .d (.int .i64 lX)]]), (6, .one (.sref 6 0 0 m0.length), [.arr false 2 (m0.map Zg.row)]), eL 10 2 a0 Zg.row, eI 11 (a0.length : Int), eI 12 (U : Int), (19, .one (.sref 3 0 0 J.length), []), eI 20 (J.length : Int), eI 21 (m9 : Int)]) (fun n2 m0 m9 lV lX => J.length < n2 + m9 /\ m9 <= J.length /\ m0.length <= m9) (J.length + 1) ([] : List Zg) 0 (nth a0 U).X5 (nth a0 U).To (fun p2 m0 m9 lV lX e2 j2 => ?_) (h0 := wkS [((6, 0), none)] [])
  try dsimp only at j2
  refine cFf e2 ?_ ?_ <;> intro k5 h3 e2
  ·have i2 := ix h3
   have m4 := ml J (k5 19 _ rfl)
   have w2 := wr m9
   simp [i2, ZE]
   repeat with_reducible refine T4 ?_
   refine cFf e2 ?_ ?_ <;> intro k6 h4 e2
   ·simp
    repeat with_reducible refine T4 ?_
    exact nx4 e2 (hI := by first | omega | (simp at *; omega)) (hw := XI [((6, 0), some (42, 0))] [] rfl zBv)
   exact ny4 (an w1 w2) e2 (hI := by first | omega | (simp at *; omega))
  have e1 := ms e1 e2
  refine lp1 (R6.eq_2 m0 lV) (fun lj => Yq 85 [(5, .one (.bptr 5 0), [.box [.d (.int .i64 lV), .d (.int .i64 lX)]]), (6, .one (.sref 6 0 0 m0.length), [.arr false 2 (m0.map Zg.row)]), eI 9 (lj : Int), eL 10 2 a0 Zg.row, eI 11 (a0.length : Int), eI 12 (U : Int)]) (fun n3 lj => m0.length < n3 + lj /\ lj <= m0.length) (m0.length + 1) 0 (fun p3 lj e3 j3 => ?_)
  try dsimp only at j3
  refine dIs mixed ?_
  refine gIo ?_ ?_ <;> intro G
  ·have g5 := G
   have g1 := G; try simp at g1
   have i3 := ik lj m0
   simp [i3, ZE, G]
   repeat with_reducible refine xI ?_
   refine cKo e3 ?_ ?_ <;> intro k9 h5 e3
   ·have i4 : lj < m0.length := by (simp at h5; omega)
    have m6 := ml m0 (k9 6 _ rfl)
    have w3 := wr lj
    simp [G]
    repeat with_reducible refine xI ?_
    exact ny1 (an w1 (an w3 G)) e3
   ·have e1 := ms e1 e3
    simp [G]
    repeat with_reducible refine xI ?_
    refine dIo mixed ?_
    simp [G]
    repeat with_reducible refine xI ?_
    exact nx2 e1 (hI := by first | omega | (simp at *; omega)) (hw := XI [((3, 0), some (82, 0))] [] rfl (by simp [w1, G]))
  ·have g5 := G
   simp [G]
   repeat with_reducible refine xI ?_
   refine cKo e3 ?_ ?_ <;> intro bg h6 e3
   ·simp [G] at h6
   ·have e1 := ms e1 e3
    simp [G]
    repeat with_reducible refine xI ?_
    refine dIo mixed ?_
    simp [G]
    repeat with_reducible refine xI ?_
    exact nx2 e1 (hI := by first | omega | (simp at *; omega)) (hw := XI [((3, 0), some (82, 0))] [] rfl (by simp [w1, G]))
 have c2 := sl 2330624 a0 u0
 have f := ms f e1
 refine ID (rv := [.tmp 2]) rfl ?_
 simp [f.h]
 all_goals ((rintro r (hr | rfl | hr) x hx <;> (first | (simp at hx; rcases hx with rfl | rfl <;> rfl) | ((first | (replace hr := List.mem_of_mem_take hr) | (replace hr := List.mem_of_mem_drop hr)); simp at hr; obtain ⟨a, _, rfl⟩ := hr; simp at hx; rcases hx with rfl | rfl <;> rfl))))
theorem F1 (a0 : YX) (a1 : List Zn) (u0 : Sm 2322432 a1) : Sd 312 [a0.row, rL 5 Zn.row a1] [rL 2 Zg.row (kz a0 a1)] := by
 have f := me (kz.eq_1 a0 a1)
 refine soD func312 ntmps312 ?_
 refine ow (t := 5) (cells := [.nil 2]) rfl rfl rfl rfl zAF zAF ?_
 simp
 refine cF f ?_ ?_ <;> intro k1 h1 f
 ·refine HQ (tf := 11) (u := 5) (row := [.sl 2 (([] : List Zg).map Zg.row)]) (lD := [.sl 2 ((Zr 0 (W (a0.X5 - 1)) ([] : List Zg)).map Zg.row)]) (cells := [.nil 2]) [false] rfl rfl rfl rfl (KA 0 (W (a0.X5 - 1)) ([] : List Zg) zAC) zAF zAF zAF zAF zAF zAF zAF zAF zAF zAF zB0 zAF zAF ?_
  simp
  refine cF f ?_ ?_ <;> intro k2 h2 f
  ·refine HQ (tf := 19) (u := 5) (row := [.sl 2 ((Zr 0 (W (a0.X5 - 1)) ([] : List Zg)).map Zg.row)]) (lD := [.sl 2 ((Zr (W (a0.To + 1)) 10000 (Zr 0 (W (a0.X5 - 1)) ([] : List Zg))).map Zg.row)]) (cells := [.sref 5 1 0 (Zr 0 (W (a0.X5 - 1)) ([] : List Zg)).length]) [false] rfl rfl rfl rfl (KA (W (a0.To + 1)) 10000 (Zr 0 (W (a0.X5 - 1)) ([] : List Zg)) zAC) zAF zAF zAF zAF zAF zAF zAF zAF zAF zAF zB0 zAF zAF ?_
   simp
   refine cRs (VP a1 a0.Zd) ?_
   refine HQ (tf := 24) (u := 5) (row := [.sl 2 ((Zr (W (a0.To + 1)) 10000 (Zr 0 (W (a0.X5 - 1)) ([] : List Zg))).map Zg.row)]) (lD := [.sl 2 ((Zr (JJ a1 a0.Zd) 10000 (Zr (W (a0.To + 1)) 10000 (Zr 0 (W (a0.X5 - 1)) ([] : List Zg)))).map Zg.row)]) (cells := [.sref 5 1 0 (Zr (W (a0.To + 1)) 10000 (Zr 0 (W (a0.X5 - 1)) ([] : List Zg))).length]) [false] rfl rfl rfl rfl (KA (JJ a1 a0.Zd) 10000 (Zr (W (a0.To + 1)) 10000 (Zr 0 (W (a0.X5 - 1)) ([] : List Zg))) zAC) zAF zAF zAF zAF zAF zAF zAF zAF zAF zAF zB0 zAF zAF ?_
   simp
   refine cDs [false] (xH (Zr (JJ a1 a0.Zd) 10000 (Zr (W (a0.To + 1)) 10000 (Zr 0 (W (a0.X5 - 1)) ([] : List Zg)))) zAC) ?_
   exact rtD [.tmp 4] f
  refine cRs (VP a1 a0.Zd) ?_
  refine HQ (tf := 24) (u := 5) (row := [.sl 2 ((Zr 0 (W (a0.X5 - 1)) ([] : List Zg)).map Zg.row)]) (lD := [.sl 2 ((Zr (JJ a1 a0.Zd) 10000 (Zr 0 (W (a0.X5 - 1)) ([] : List Zg))).map Zg.row)]) (cells := [.sref 5 1 0 (Zr 0 (W (a0.X5 - 1)) ([] : List Zg)).length]) [false] rfl rfl rfl rfl (KA (JJ a1 a0.Zd) 10000 (Zr 0 (W (a0.X5 - 1)) ([] : List Zg)) zAC) zAF zAF zAF zAF zAF zAF zAF zAF zAF zAF zB0 zAF zAF ?_
  simp
  refine cDs [false] (xH (Zr (JJ a1 a0.Zd) 10000 (Zr 0 (W (a0.X5 - 1)) ([] : List Zg))) zAC) ?_
  exact rtD [.tmp 4] f
 refine cF f ?_ ?_ <;> intro k3 h3 f
 ·refine HQ (tf := 19) (u := 5) (row := [.sl 2 (([] : List Zg).map Zg.row)]) (lD := [.sl 2 ((Zr (W (a0.To + 1)) 10000 ([] : List Zg)).map Zg.row)]) (cells := [.nil 2]) [false] rfl rfl rfl rfl (KA (W (a0.To + 1)) 10000 ([] : List Zg) zAC) zAF zAF zAF zAF zAF zAF zAF zAF zAF zAF zB0 zAF zAF ?_
  simp
  refine cRs (VP a1 a0.Zd) ?_
  refine HQ (tf := 24) (u := 5) (row := [.sl 2 ((Zr (W (a0.To + 1)) 10000 ([] : List Zg)).map Zg.row)]) (lD := [.sl 2 ((Zr (JJ a1 a0.Zd) 10000 (Zr (W (a0.To + 1)) 10000 ([] : List Zg))).map Zg.row)]) (cells := [.sref 5 1 0 (Zr (W (a0.To + 1)) 10000 ([] : List Zg)).length]) [false] rfl rfl rfl rfl (KA (JJ a1 a0.Zd) 10000 (Zr (W (a0.To + 1)) 10000 ([] : List Zg)) zAC) zAF zAF zAF zAF zAF zAF zAF zAF zAF zAF zB0 zAF zAF ?_
  simp
  refine cDs [false] (xH (Zr (JJ a1 a0.Zd) 10000 (Zr (W (a0.To + 1)) 10000 ([] : List Zg))) zAC) ?_
  exact rtD [.tmp 4] f
 refine cRs (VP a1 a0.Zd) ?_
 refine HQ (tf := 24) (u := 5) (row := [.sl 2 (([] : List Zg).map Zg.row)]) (lD := [.sl 2 ((Zr (JJ a1 a0.Zd) 10000 ([] : List Zg)).map Zg.row)]) (cells := [.nil 2]) [false] rfl rfl rfl rfl (KA (JJ a1 a0.Zd) 10000 ([] : List Zg) zAC) zAF zAF zAF zAF zAF zAF zAF zAF zAF zAF zB0 zAF zAF ?_
 simp
 refine cDs [false] (xH (Zr (JJ a1 a0.Zd) 10000 ([] : List Zg)) zAC) ?_
 exact rtD [.tmp 4] f
theorem Fh (a0 : Zg) (a1 : Zg) : Sa 340 [a0.row, a1.row] [rB (Oa a0 a1)] := by
 have f := me (Oa.eq_1 a0 a1)
 refine so func340 ntmps340 ?_
 refine cRs (KU a0) ?_
 refine cGs (fun gg => (KU a1)) ?_
 exact rt [.tmp 4] f
theorem Wu (a0 : List Zg) (a1 : Zg) (u0 : Sm 2326528 a0) : Sa 311 [rL 2 Zg.row a0, a1.row] [rB (jz a0 a1)] := by
 have f := me (jz.eq_1 a0 a1)
 refine so func311 ntmps311 ?_
 refine cRs (YV.rd (xH a0 (sg u0))) ?_
 refine lp1 (V9.eq_2 a0 a1) (fun J => Yq 18 [eX 3 (a1.row.map .d), eL 8 2 (Qf a0) Zg.row, eI 9 ((Qf a0).length : Int), eI 10 (J : Int)]) (fun n1 J => (Qf a0).length < n1 + J /\ J <= (Qf a0).length) ((Qf a0).length + 1) 0 (fun p1 J e1 j1 => ?_)
 refine cFf e1 ?_ ?_ <;> intro k2 h1 e1
 ·have i1 := ix h1
  have m2 := ml (Qf a0) (k2 8 _ rfl)
  have w1 := wr J
  simp [i1, ZE]
  refine rpS ?_
  refine cRs (Fh a1 (nth (Qf a0) J)) ?_
  refine cF e1 ?_ ?_ <;> intro k3 h2 e1
  ·exact rt [.tmp 4] (ms f e1)
  exact ny1 w1 e1
 exact rt [.tmp 4] (ms f e1)
theorem F8 (a0 : YX) (a1 : List Zn) (a2 : Zg) (u0 : Sm 2318336 a1) : Sa 248 [a0.row, rL 5 Zn.row a1, a2.row] [rB (On a0 a1 a2)] := by
 have f := me (On.eq_1 a0 a1 a2)
 refine so func248 ntmps248 ?_
 refine dIs mixed ?_
 refine cRs (YV.rd (F1 a0 a1 (sg u0))) ?_
 refine cRs (Wu (kz a0 a1) a2 (by exact EL zAE)) ?_
 exact rt [.tmp 6] f
theorem FF (a0 : List Zn) (a1 : Int) : Sa 344 [rL 5 Zn.row a0, rI a1] [rI (Uu a0 a1)] := by
 have f := me (Uu.eq_1 a0 a1)
 refine so func344 ntmps344 ?_
 refine cRs (Ep a0 a1) ?_
 refine cF f ?_ ?_ <;> intro k1 h1 f
 ·exact rt [.tmp 4] f
 exact rt [.tmp 4] f
theorem HU (a0 : Zg) (a1 : Zg) : Sa 352 [a0.row, a1.row] [(xw a0 a1).1.row, rB (xw a0 a1).2] := by
 have f := me (xw.eq_1 a0 a1)
 refine so func352 ntmps352 ?_
 refine cRs (KU a0) ?_
 refine cGs (fun gg => (KU a1)) ?_
 refine cGs (fun gg => (KU (Zg.mk (if a1.X5 > a0.X5 then a1.X5 else a0.X5) (if a1.To < a0.To then a1.To else a0.To)))) ?_
 refine cF f ?_ ?_ <;> intro k1 h1 f
 ·exact rt _ f
 exact rt _ f
theorem SF (h : b) (k : a := by (intros; first | omega | with_unfolding_all (first | (first | omega | (simp at *; omega))) | ((try simp only [Y9, show ∀ x, IntKind.i64.wrap x = W x from fun _ => rfl] at *); omega))) : a /\ b := ⟨k, h⟩
theorem Dg (a0 : List Zg) (a1 : List Zg) (u0 : Sm 2326528 a0) (u1 : Sm 2326528 a1) (u2 : a0.length <= 1 /\ a1.length <= 1) : Sd 343 [rL 2 Zg.row a0, rL 2 Zg.row a1] [rL 2 Zg.row (Pj a0 a1)] := by
 have f := me (Pj.eq_1 a0 a1)
 refine soD func343 ntmps343 ?_
 refine lp2 (RM.eq_2 a0 a1) (fun J U => Yq 39 [eL 1 2 a1 Zg.row, (5, .one (.sref 5 0 0 J.length), [.arr false 2 (J.map Zg.row)]), eL 12 2 a0 Zg.row, eI 13 (a0.length : Int), eI 14 (U : Int)]) (fun n1 J U => a0.length < n1 + U /\ U <= a0.length /\ J.length <= U) (a0.length + 1) ([] : List Zg) 0 (fun p1 J U e1 j1 => ?_) (h0 := wkS [((5, 0), none)] [])
 try dsimp only at j1
 refine cFf e1 ?_ ?_ <;> intro k2 h1 e1
 ·have i1 := ix h1
  have m2 := ml a0 (k2 12 _ rfl)
  have c1 := sl 2326528 a0 (an u0 (an u1 u2))
  have w1 := wr U
  simp [i1, ZE]
  repeat with_reducible refine SF ?_
  refine lp2 (Uh.eq_2 a0 a1 U) (fun m0 m9 => Yq 39 [eL 1 2 a1 Zg.row, (5, .one (.sref 5 0 0 m0.length), [.arr false 2 (m0.map Zg.row)]), eX 7 ((nth a0 U).row.map .d), eL 12 2 a0 Zg.row, eI 13 (a0.length : Int), eI 14 (U : Int), eL 18 2 a1 Zg.row, eI 19 (a1.length : Int), eI 20 (m9 : Int)]) (fun n2 m0 m9 => a1.length < n2 + m9 /\ m9 <= a1.length /\ m0.length <= U + m9) (a1.length + 1) J 0 (fun p2 m0 m9 e2 j2 => ?_)
  try dsimp only at j2
  refine cFf e2 ?_ ?_ <;> intro k4 h2 e2
  ·have i2 := ix h2
   have m4 := ml a1 (k4 1 _ rfl)
   have c2 := sl 2326528 a1 (an u0 (an u1 u2))
   have w2 := wr m9
   simp [i2, ZE]
   repeat with_reducible refine SF ?_
   refine cRs (HU (nth a0 U) (nth a1 m9)) ?_
   refine cFf e2 ?_ ?_ <;> intro k5 h3 e2
   ·simp
    repeat with_reducible refine SF ?_
    exact nx2 e2 (hI := by first | omega | (simp at *; omega)) (hw := XI [((5, 0), some (34, 0))] [] rfl zBv)
   exact ny2 (an w1 w2) e2 (hI := by first | omega | (simp at *; omega))
  have c3 := sl 2326528 a1 (an u0 (an u1 u2))
  have e1 := ms e1 e2
  exact ny2 w1 e1
 have c4 := sl 2326528 a0 (an u0 (an u1 u2))
 have f := ms f e1
 refine cDs [false] (xH J (by exact ⟨zAA, fun _ _ => trivial⟩)) ?_
 exact rtD [.tmp 4] f
theorem Hp (a0 : YX) (a1 : List Zn) (u0 : Sm 2322432 a1) : Sd 313 [a0.row, rL 5 Zn.row a1] [rL 2 Zg.row (jh a0 a1)] := by
 have f := me (jh.eq_1 a0 a1)
 refine soD func313 ntmps313 ?_
 refine dIs mixed ?_
 refine cRs (OB a0) ?_
 refine cRs (FF a1 a0.Zd) ?_
 refine cDs [false] (Dg ([(qG a0)] : List Zg) ([(Zg.mk 0 (Uu a1 a0.Zd))] : List Zg) zAo zAo (by exact ⟨Nat.le_refl _, Nat.le_refl _⟩)) ?_
 exact rtD [.tmp 4] f
theorem I3 (a0 : YX) (a1 : List Zn) (a2 : Zg) (u0 : Sm 2318336 a1) : Sa 249 [a0.row, rL 5 Zn.row a1, a2.row] [rB (T8 a0 a1 a2)] := by
 have f := me (T8.eq_1 a0 a1 a2)
 refine so func249 ntmps249 ?_
 refine dIs mixed ?_
 refine cRs (YV.rd (Hp a0 a1 (sg u0))) ?_
 refine cRs (Wu (jh a0 a1) a2 (by exact G6 zAE)) ?_
 exact rt [.tmp 6] f
theorem HD (a0 : List ZT) (u0 : Sm 2330624 a0) : Sd 251 [rL 3 ZT.row a0] [rL 6 XV.row (kG a0)] := by
 have f := me (kG.eq_1 a0)
 refine soD func251 ntmps251 ?_
 refine lp2 (x1.eq_2 a0) (fun J U => Yq 26 [(3, .one (.sref 3 0 0 J.length), [.arr false 6 (J.map XV.row)]), eL 8 3 a0 ZT.row, eI 9 (a0.length : Int), eI 10 (U : Int)]) (fun n1 J U => a0.length < n1 + U /\ U <= a0.length /\ J.length <= 0 + 1 * U) (a0.length + 1) ([] : List XV) 0 (fun p1 J U e1 j1 => ?_) (h0 := wkS [((3, 0), none)] [])
 refine cFf e1 ?_ ?_ <;> intro k2 h1 e1
 ·have i1 := ix h1
  have m2 := ml a0 (k2 8 _ rfl)
  have c1 := sl 2330624 a0 u0
  have w1 := wr U
  simp [i1, ZE]
  refine rpS ?_
  refine cRs (Un (nth a0 U)) ?_
  refine cF e1 ?_ ?_ <;> intro k3 h2 e1
  ·exact nx2 e1 (hw := XI [((3, 0), some (23, 0))] [] rfl zAb)
  exact ny2 w1 e1
 exact rtD [.tmp 2] (ms f e1)
theorem HZ (a0 : XV) : Sa 353 [a0.row] [rB (RO a0)] := by
 have f := me (RO.eq_1 a0)
 refine so func353 ntmps353 ?_
 refine cRs (Zq a0.Org 1 99) ?_
 refine cGs (fun gg => (Zq a0.Mz 0 99)) ?_
 refine cGs (fun gg => (Zq a0.Key 1 99)) ?_
 refine cGs (fun gg => (KU (Zg.mk a0.X5 a0.To))) ?_
 exact rt [.tmp 2] f
theorem LH (a0 : XV) : Sd 354 [a0.row] [rL 1 iR (yG a0)] := by
 have f := me (yG.eq_1 a0)
 refine soD func354 ntmps354 ?_
 exact rtD [.tmp 2] f
theorem Nm (a0 : List Yw) (a1 : XV) (u0 : Sm 2314240 a0) : Sa 345 [rL 5 Yw.row a0, a1.row] [rB (V8 a0 a1)] := by
 have f := me (V8.eq_1 a0 a1)
 refine so func345 ntmps345 ?_
 refine dIs mixed ?_
 refine cRs (HZ a1) ?_
 refine cGs (fun gg => (NF a0 a1.Key)) ?_
 refine cGs (fun gg => YV.rd (LH a1)) ?_
 refine cGs (fun gg => (Jo a0 a1.Key (yG a1) a1.Mark (sg u0) (by simp (maxDischargeDepth := 12) [Mn]; try omega))) ?_
 exact rt [.tmp 4] f
theorem NX (a0 : List Yw) (a1 : List XV) (a2 : Int) (a3 : Int) (u0 : Sm 2310144 a0) (u1 : Sm 2310144 a1) : Sd 314 [rL 5 Yw.row a0, rL 6 XV.row a1, rI a2, rI a3] [rL 2 Zg.row (qE a0 a1 a2 a3)] := by
 have f := me (qE.eq_1 a0 a1 a2 a3)
 refine soD func314 ntmps314 ?_
 refine lp2 (yj.eq_2 a0 a1 a2 a3) (fun J U => Yq 44 [eL 0 5 a0 Yw.row, eI 2 a2, eI 3 a3, (9, .one (.sref 9 0 0 J.length), [.arr false 2 (J.map Zg.row)]), eL 12 6 a1 XV.row, eI 13 (a1.length : Int), eI 14 (U : Int)]) (fun n1 J U => a1.length < n1 + U /\ U <= a1.length /\ J.length <= 0 + 1 * U) (a1.length + 1) ([] : List Zg) 0 (fun p1 J U e1 j1 => ?_) (h0 := wkS [((9, 0), none)] [])
 refine cFf e1 ?_ ?_ <;> intro k2 h1 e1
 ·have i1 := ix h1
  have m2 := ml a1 (k2 12 _ rfl)
  have c1 := sl 2310144 a1 (an u0 u1)
  have w1 := wr U
  simp [i1, ZE]
  refine rpS ?_
  refine cGs (fun gg => (Nm a0 (nth a1 U) (sg u0))) ?_
  refine cF e1 ?_ ?_ <;> intro k3 h2 e1
  ·exact nx2 e1 (hw := XI [((9, 0), some (40, 0))] [] rfl zAb)
  exact ny2 w1 e1
 have c2 := sl 2310144 a1 (an u0 u1)
 have f := ms f e1
 refine cDs [false] (xH J (by first | (simp (maxDischargeDepth := 12) [XD]; omega) | (simp (maxDischargeDepth := 12) [ZM (m := 2330624) zAE u0, ZM (m := 2330624) zAE u1]; done))) ?_
 exact rtD [.tmp 8] f
theorem L5 (a0 : List Yw) (a1 : List XV) (a2 : Int) (a3 : Int) (a4 : Zg) (u0 : Sm 2306048 a0) (u1 : Sm 2306048 a1) : Sa 250 [rL 5 Yw.row a0, rL 6 XV.row a1, rI a2, rI a3, a4.row] [rB (SZ a0 a1 a2 a3 a4)] := by
 have f := me (SZ.eq_1 a0 a1 a2 a3 a4)
 refine so func250 ntmps250 ?_
 refine dIs mixed ?_
 refine cGs (fun gg => (KU a4)) ?_
 refine cGs (fun gg => YV.rd (NX a0 a1 a2 a3 (by first | exact sg u0 | exact sg u1) (by first | exact sg u0 | exact sg u1))) ?_
 refine cGs (fun gg => (Wu (qE a0 a1 a2 a3) a4 (by exact Nq (by have z := YS u1; omega)))) ?_
 refine ⟨by by_cases h : a2 = 0 <;> simp [h], ?_⟩
 exact rt [.tmp 10] f
theorem Nf (a0 : ZX) (a1 : Z0) (a2 : List (List Int)) (a3 : Int) (a4 : Zl) (u0 : Sm 2281472 a0) (u1 : Sm 2281472 a1) (u2 : Sm 2281472 a2) (u3 : ru a1 <= 2097152) : Sa 164 [a0.row, a1.row, rL 1 (slR 1 iR) a2, rI a3, a4.row] [(kP a0 a1 a2 a3 a4).row] := by
 have f := me (kP.eq_1 a0 a1 a2 a3 a4)
 refine so func164 ntmps164 ?_
 refine cRs (NG a0) ?_
 refine cF f ?_ ?_ <;> intro k1 h1 f
 ·refine cRs (Vh 1) ?_
  exact rt [.cell 10 61] f
 refine cRs (kx a4) ?_
 refine cF f ?_ ?_ <;> intro k2 h2 f
 ·refine cRs (SP 1) ?_
  exact rt [.cell 10 61] f
 refine cF f ?_ ?_ <;> intro k3 h3 f
 ·refine cRs (Vh 2) ?_
  exact rt [.cell 10 61] f
 refine cF f ?_ ?_ <;> intro k4 h4 f
 ·refine cRs (SP 2) ?_
  exact rt [.cell 10 61] f
 refine cRs (JS a0.Zo a4.Key) ?_
 refine cF f ?_ ?_ <;> intro k5 h5 f
 ·refine cRs (Vh 3) ?_
  exact rt [.cell 10 61] f
 refine cRs (Pm a0.Zo a4 zAB) ?_
 refine cF f ?_ ?_ <;> intro k6 h6 f
 ·refine cRs (SP 4) ?_
  exact rt [.cell 10 61] f
 refine dIs mixed ?_
 refine cRs (YV.rd (Vu a4)) ?_
 refine cRs (UM a0 a1 a2 (Yu a4) zAB zAB zAB zAB) ?_
 refine cRs (W3 a0 a4.Key) ?_
 refine cGs (fun gg => (VM a0.Methods a4.Method)) ?_
 refine cF f ?_ ?_ <;> intro k8 h7 f
 ·refine cRs (Vh 5) ?_
  exact rt [.cell 10 61] f
 refine cRs (NY a0 a1 a2 zAB zAB zAB zAB) ?_
 refine cRs (Dk a0 (Z2 a0 a1 a2) a4 zAB zAB) ?_
 refine cF f ?_ ?_ <;> intro k9 h8 f
 ·refine cRs (Vh 6) ?_
  exact rt [.cell 10 61] f
 refine cRs (Gi a0 a1 (Z2 a0 a1 a2) a4 zAB zAB zAB) ?_
 refine cF f ?_ ?_ <;> intro bP h9 f
 ·refine cRs (Vh 7) ?_
  exact rt [.cell 10 61] f
 refine cRs (YV.rd (LQ (Z2 a0 a1 a2) (J7 a0 (Z2 a0 a1 a2) a4).1 zAB)) ?_
 refine cRs (F8 (J7 a0 (Z2 a0 a1 a2) a4).1 (yC (Z2 a0 a1 a2) (J7 a0 (Z2 a0 a1 a2) a4).1) (Zg.mk (Jd a0 a1 (Z2 a0 a1 a2) a4) (Yr a0 a1 a2 (Yu a4))) zAB) ?_
 refine cF f ?_ ?_ <;> intro bg ev f
 ·exact rt [.cell 10 61] f
 refine cRs (I3 (J7 a0 (Z2 a0 a1 a2) a4).1 (yC (Z2 a0 a1 a2) (J7 a0 (Z2 a0 a1 a2) a4).1) (Zg.mk (Jd a0 a1 (Z2 a0 a1 a2) a4) (Yr a0 a1 a2 (Yu a4))) zAB) ?_
 refine cF f ?_ ?_ <;> intro k12 h11 f
 ·exact rt [.cell 10 61] f
 refine dIs mixed ?_
 refine cRs (YV.rd (HD (Z2 a0 a1 a2) zAB)) ?_
 refine cRs (L5 a0.Zo (kG (Z2 a0 a1 a2)) a4.Org (J7 a0 (Z2 a0 a1 a2) a4).1.kW (Zg.mk (Jd a0 a1 (Z2 a0 a1 a2) a4) (Yr a0 a1 a2 (Yu a4))) zAB zAB) ?_
 refine cF f ?_ ?_ <;> intro k14 h12 f
 ·exact rt [.cell 10 61] f
 exact rt [.cell 10 61] f
theorem Ab (a0 : ZX) (a1 : Z0) (a2 : ZN) (a3 : Zl) (u0 : Sm 2277376 a0) (u1 : Sm 2277376 a1) (u2 : Sm 2277376 a2) (u3 : ru a1 <= 2097152) : Sa 85 [a0.row, a1.row, a2.row, a3.row] [(HK a0 a1 a2 a3).row] := by
 have f := me (HK.eq_1 a0 a1 a2 a3)
 refine so func85 ntmps85 ?_
 refine dIs mixed ?_
 refine cRs (YV.rd (Oc a1 a2 zAc zAc)) ?_
 refine cRs (yU a3.Method a2 zAc) ?_
 refine cRs (Nf a0 a1 (Qq a1 a2) (Yb a3.Method a2) a3 zAc zAc (by (first | exact sg u0 | exact sg u1 | exact sg u2 | exact u3 | exact sg (JZ u1))) zAc) ?_
 exact rt _ f
theorem HO (a0 : ZX) (a1 : ZQ) (u0 : Sm 2273280 a0) (u1 : Sm 2097152 a1) : Sa 25 [a0.row, a1.row] [(Wh a0 a1).row] := by
 have f := me (Wh.eq_1 a0 a1)
 refine so func25 ntmps25 ?_
 refine dIs mixed ?_
 refine cRs (YV.rd (O7 a1 zAH)) ?_
 refine cRs (Ab a0 (QB a1) a1.Doc a1.Sig zAH zAH zAH zAH) ?_
 exact rt [.cell 4 61] f
theorem ML (h : b) (k : a := by (intros; first | omega | with_unfolding_all (first | first | omega | (have fi := QM a0 a1 zBl; omega)) | ((try simp only [Y9, show ∀ x, IntKind.i64.wrap x = W x from fun _ => rfl] at *); omega))) : a /\ b := ⟨k, h⟩
theorem M9 (a0 : ZF) (a1 : Int) (u0 : Sm 1048576 a0) : Sa 45 [a0.row, rI a1] [(Qr a0 a1).row] := by
 have f := me (Qr.eq_1 a0 a1)
 refine so func45 ntmps45 ?_
 refine cRs (R8 a0 a1) ?_
 refine cFo f ?_ ?_ <;> intro k1 h1 f
 ·have q1 := h1; try simp at q1
  simp
  exact rt _ f
 have q1 := h1; try simp at q1
 simp
 refine dIo mixed ?_
 have i1 : (ZL a0 a1).1.toNat < a0.ZA.length := zBN
 have i2 : (ZL a0 a1).2.toNat < (nth a0.ZA (ZL a0 a1).1.toNat).ZC.length := zBN
 simp [i1, ZE, i2]
 repeat with_reducible refine ML ?_
 refine cRs (HO a0.Frame (nth (nth a0.ZA (ZL a0 a1).1.toNat).ZC (ZL a0 a1).2.toNat) (sg (ZF.Y7 u0)) (sg (Zp (ZD.Ye (Zp (ZF.Yn u0)))))) ?_
 exact rt _ f
theorem IN (h : b) (k : a := by (intros; first | omega | with_unfolding_all (first | (first | omega | (have z := OE a0; omega))) | ((try simp only [Y9, show ∀ x, IntKind.i64.wrap x = W x from fun _ => rfl] at *); omega))) : a /\ b := ⟨k, h⟩
theorem Iz (a0 : ZF) (u0 : Sm 1048576 a0) (u1 : itn a0.ZA <= 1048576) : Sd 42 [a0.row] [rL 1 iR (XX a0)] := by
 have f := me (XX.eq_1 a0)
 refine soD func42 ntmps42 ?_
 refine cRs (DM a0 (sg u0) zAW) ?_
 refine lp2 (zN.eq_2 a0) (fun J U => Yq 26 [eX 1 (a0.row.map .d), (3, .one (.sref 3 0 0 J.length), [.arr false 1 (J.map iR)]), eL 7 16 (Q6 a0) ZQ.row, eI 8 ((Q6 a0).length : Int), eI 9 (U : Int)]) (fun n1 J U => (Q6 a0).length < n1 + U /\ U <= (Q6 a0).length /\ J.length <= U) ((Q6 a0).length + 1) ([] : List Int) 0 (fun p1 J U e1 j1 => ?_) (h0 := wkS [((3, 0), none)] [])
 refine cFf e1 ?_ ?_ <;> intro k2 h1 e1
 ·have i1 := ix h1
  have m2 := ml (Q6 a0) (k2 7 _ rfl)
  have w1 := wr U
  simp [i1, ZE]
  refine cRs (M9 a0 (nth (Q6 a0) U).Id u0) ?_
  refine cFf e1 ?_ ?_ <;> intro k3 h2 e1
  ·simp
   repeat with_reducible refine IN ?_
   exact nx2 e1 (hw := XI [((3, 0), some (23, 0))] [] rfl zAb)
  exact ny2 w1 e1
 exact rtD [.tmp 2] (ms f e1)
theorem MW (h : b) (k : a := by (intros; first | omega | with_unfolding_all (first | (first | omega | (have z := LB a0; omega))) | ((try simp only [Y9, show ∀ x, IntKind.i64.wrap x = W x from fun _ => rfl] at *); omega))) : a /\ b := ⟨k, h⟩
theorem kq (a0 : ZF) (u0 : Sm 1048576 a0) (u1 : itn a0.ZA <= 1048576) : Sd 36 [a0.row] [rL 1 iR (zC a0)] := by
 have f := me (zC.eq_1 a0)
 refine soD func36 ntmps36 ?_
 refine cRs (YV.rd (Iz a0 u0 zAW)) ?_
 refine lp2 (za.eq_2 a0) (fun J U => Yq 23 [eX 1 (a0.row.map .d), (3, .one (.sref 3 0 0 J.length), [.arr false 1 (J.map iR)]), eL 7 1 (XX a0) iR, eI 8 ((XX a0).length : Int), eI 9 (U : Int)]) (fun n1 J U => (XX a0).length < n1 + U /\ U <= (XX a0).length /\ J.length <= 0 + 1 * U) ((XX a0).length + 1) ([] : List Int) 0 (fun p1 J U e1 j1 => ?_) (h0 := wkS [((3, 0), none)] [])
 refine cFf e1 ?_ ?_ <;> intro k2 h1 e1
 ·have i1 := ix h1
  have m2 := ml (XX a0) (k2 7 _ rfl)
  have w1 := wr U
  simp [i1, ZE]
  refine cRs (Wq a0.YE (nth (XX a0) U)) ?_
  refine cFf e1 ?_ ?_ <;> intro k3 h2 e1
  ·simp
   repeat with_reducible refine MW ?_
   exact nx2 e1 (hw := XI [((3, 0), some (20, 0))] [] rfl zAb)
  exact ny2 w1 e1
 exact rtD [.tmp 2] (ms f e1)
theorem Dy (a0 : List Z8) (a1 : Int) (a2 : Int) : Sa 115 [rL 4 Z8.row a0, rI a1, rI a2] [rB (Mg a0 a1 a2)] := by
 have f := me (Mg.eq_1 a0 a1 a2)
 refine so func115 ntmps115 ?_
 refine cRs (W8 a0 a1) ?_
 refine gIf ?_ ?_ <;> intro G
 ·have i1 : (X7 a0 a1).toNat < a0.length := by have := jF a0 a1; exact il
  simp [i1, ZE, G]
  refine rpG ?_
  refine gJf G ?_ ?_ <;> intro G
  ·all_goals
    simp [i1, ZE, G]
    refine rpG ?_
    exact rtg [.tmp 6] f
  ·all_goals
    exact rtg [.tmp 6] f
 ·refine gJf G ?_ ?_ <;> intro G
  ·try (simp at G; done)
   all_goals
    have i3 : (X7 a0 a1).toNat < a0.length := by have := jF a0 a1; exact il
    simp [i3, ZE, G]
    refine rpG ?_
    exact rtg [.tmp 6] f
  ·all_goals
    exact rtg [.tmp 6] f
theorem wA (a0 : ZX) (a1 : Int) : Sa 116 [a0.row, rI a1] [rI (DQ a0 a1)] := by
 have f := me (DQ.eq_1 a0 a1)
 refine so func116 ntmps116 ?_
 refine cRs (W8 a0.Methods a1) ?_
 refine cFf f ?_ ?_ <;> intro k1 h1 f
 ·have i1 : (X7 a0.Methods a1).toNat < a0.Methods.length := by have := jF a0.Methods a1; exact il
  simp [i1, ZE]
  refine rpS ?_
  exact rt [.tmp 4] f
 exact rt [.tmp 4] f
theorem PL (a0 : ZX) (u0 : Sm 2334720 a0) : Sd 39 [a0.row] [rL 1 iR (YG a0)] := by
 have f := me (YG.eq_1 a0)
 refine soD func39 ntmps39 ?_
 refine lp2 (X3.eq_2 a0) (fun J U => Yq 57 [eX 1 (a0.row.map .d), (3, .one (.sref 3 0 0 J.length), [.arr false 1 (J.map iR)]), eL 9 3 a0.ZB Zf.row, eI 10 (a0.ZB.length : Int), eI 11 (U : Int)]) (fun n1 J U => a0.ZB.length < n1 + U /\ U <= a0.ZB.length /\ J.length <= 0 + 1 * U) (a0.ZB.length + 1) ([] : List Int) 0 (fun p1 J U e1 j1 => ?_) (h0 := wkS [((3, 0), none)] [])
 refine cFf e1 ?_ ?_ <;> intro k2 h1 e1
 ·have i1 := ix h1
  have m2 := ml a0.ZB (k2 9 _ rfl)
  have c1 := sl 2334720 a0.ZB u0
  have w1 := wr U
  simp [i1, ZE]
  refine rpS ?_
  refine cRs (JS a0.Zo (nth a0.ZB U).Key) ?_
  refine cFt e1 ?_ ?_ <;> intro k3 h2 e1
  ·exact ny2 w1 e1
  have i2 : (Zt a0.Zo (nth a0.ZB U).Key).toNat < a0.Zo.length := by have := Kw a0.Zo (nth a0.ZB U).Key; exact il
  simp [i2, ZE]
  refine rpS ?_
  refine dIs mixed ?_
  refine cGs (fun gg => (Dy a0.Methods (nth a0.Zo (Zt a0.Zo (nth a0.ZB U).Key).toNat).Method a0.Now)) ?_
  refine cGs (fun gg => (wA a0 (nth a0.Zo (Zt a0.Zo (nth a0.ZB U).Key).toNat).Method)) ?_
  refine cF e1 ?_ ?_ <;> intro k5 h3 e1
  ·exact nx2 e1 (hw := XI [((3, 0), some (54, 0))] [] rfl zAb)
  exact ny2 w1 e1
 have c2 := sl 2334720 a0.ZB u0
 exact rtD [.tmp 2] (ms f e1)
theorem qa (h : b) (k : a := by (intros; first | omega | with_unfolding_all (first | first | omega | (have o : (nth a0.ZA m9).ZC.length <= 2310144 := YS (xs u0); have o2 : a0.ZA.length <= 2310144 := YS (xs u0); omega)) | ((try simp only [Y9, show ∀ x, IntKind.i64.wrap x = W x from fun _ => rfl] at *); omega))) : a /\ b := ⟨k, h⟩
theorem xA (h : b) (k : a := by (intros; first | omega | with_unfolding_all (first | first | omega | (have o : (nth a0.ZA m9).ZC.length <= 2310144 := YS (xs u0); have o2 : a0.ZA.length <= 2310144 := YS (xs u0); omega)) | (simp_all; done) | (simp_all; omega) | grind | ((try simp only [Y9, show ∀ x, IntKind.i64.wrap x = W x from fun _ => rfl] at *); omega))) : a /\ b := ⟨k, h⟩
theorem D3 (a0 : ZF) (u0 : Sm 2310144 a0) : Sa 15 [a0.row] [rB (Vj a0)] := by
 have f := me (Vj.eq_1 a0)
 refine so func15 ntmps15 ?_
 refine cRs (NG a0.Frame) ?_
 refine cGs (fun gg => (Zq (a0.ZA.length : Int) 1 4)) ?_
 refine cGs (fun gg => (UF a0.YO)) ?_
 refine cGs (fun gg => (UF a0.YE)) ?_
 refine cFo f ?_ ?_ <;> intro k1 h1 f
 ·have q1 := h1; try simp [ZS] at q1
  simp
  exact rt [.tmp 2] f
 have q1 := h1; try simp [ZS] at q1
 simp
 refine lp1 (Wd.eq_2 a0) (fun J => Yq 167 [eX 1 (a0.row.map .d), eX 3 (a0.Frame.row.map .d), eL 71 7 a0.ZY YX.row, eI 72 (a0.ZY.length : Int), eI 73 (J : Int)]) (fun n1 J => a0.ZY.length < n1 + J /\ J <= a0.ZY.length) (a0.ZY.length + 1) 0 (fun p1 J e1 j1 => ?_)
 try dsimp only at j1
 refine cFf e1 ?_ ?_ <;> intro k3 h2 e1
 ·have i1 := ix h2
  have m2 := ml a0.ZY (k3 71 _ rfl)
  have c1 := sl 2310144 a0.ZY u0
  have w1 := wr J
  simp [i1, ZE]
  repeat with_reducible refine qa ?_
  refine cRs (Ro a0.Frame.Zo (nth a0.ZY J) (sg (ZX.XS (ZF.Y7 u0)))) ?_
  refine cGs (fun gg => (P2 a0.ZY (nth a0.ZY J).Zd)) ?_
  refine gIo ?_ ?_ <;> intro G
  ·have g5 := G
   have g1 := G; try simp at g1
   have i2 := ik J a0.Zx
   simp [i2, ZE, G]
   repeat with_reducible refine xA ?_
   refine cGo (fun gg => (Zq (nth a0.Zx J) (-1) 10001)) ?_
   simp [G]
   repeat with_reducible refine xA ?_
   refine cKo e1 ?_ ?_ <;> intro k4 h3 e1
   ·have q3 := h3; try simp [ZS] at q3
    have f := ms f e1
    simp [G]
    repeat with_reducible refine xA ?_
    exact rtg [.tmp 2] f
   ·have q3 := h3; try simp [ZS] at q3
    simp [G]
    repeat with_reducible refine xA ?_
    exact ny1 (an w1 G) e1
  ·have g5 := G
   simp [G]
   repeat with_reducible refine xA ?_
   refine sGo ?_
   simp [G]
   repeat with_reducible refine xA ?_
   refine cKo e1 ?_ ?_ <;> intro k5 h4 e1
   ·have q4 := h4; try simp [ZS] at q4
    have f := ms f e1
    simp [G]
    repeat with_reducible refine xA ?_
    exact rtg [.tmp 2] f
   ·simp [G] at h4
 have c2 := sl 2310144 a0.ZY u0
 have f := ms f e1
 refine lp2 (yz.eq_2 a0) (fun m0 m9 => Yq 167 [eX 1 (a0.row.map .d), eX 3 (a0.Frame.row.map .d), (6, .one (.sref 6 0 0 m0.length), [.arr false 1 (m0.map iR)]), eL 103 2 a0.ZA ZD.row, eI 104 (a0.ZA.length : Int), eI 105 (m9 : Int)]) (fun n2 m0 m9 => a0.ZA.length < n2 + m9 /\ m0.length <= 2310144 * m9) (a0.ZA.length + 1) ([] : List Int) 0 (fun p2 m0 m9 e2 j2 => ?_) (h0 := wkS [((6, 0), none)] [])
 try dsimp only at j2
 refine cFf e2 ?_ ?_ <;> intro k7 h5 e2
 ·have i4 := ix h5
  have m4 := ml a0.ZA (k7 103 _ rfl)
  have c3 := sl 2310144 a0.ZA u0
  have w2 := wr m9
  simp [i4, ZE]
  repeat with_reducible refine qa ?_
  refine cRs (yn (nth a0.ZA m9)) ?_
  refine cF e2 ?_ ?_ <;> intro k8 h6 e2
  ·exact rt [.tmp 2] (ms f e2)
  refine lp2 (zx.eq_2 a0 m9) (fun lj lg => Yq 167 [eX 1 (a0.row.map .d), eX 3 (a0.Frame.row.map .d), (6, .one (.sref 6 0 0 lj.length), [.arr false 1 (lj.map iR)]), eL 103 2 a0.ZA ZD.row, eI 104 (a0.ZA.length : Int), eI 105 (m9 : Int), eL 120 16 (nth a0.ZA m9).ZC ZQ.row, eI 121 ((nth a0.ZA m9).ZC.length : Int), eI 122 (lg : Int)]) (fun n3 lj lg => (nth a0.ZA m9).ZC.length < n3 + lg /\ lg <= (nth a0.ZA m9).ZC.length /\ lj.length <= 2310144 * m9 + lg) ((nth a0.ZA m9).ZC.length + 1) m0 0 (fun p3 lj lg e3 j3 => ?_)
  try dsimp only at j3
  refine cFf e3 ?_ ?_ <;> intro bP h7 e3
  ·have i5 := ix h7
   have m6 := ml (nth a0.ZA m9).ZC (bP 120 _ rfl)
   have c4 := sl 2310144 (nth a0.ZA m9).ZC u0
   have w3 := wr lg
   simp [i5, ZE]
   repeat with_reducible refine qa ?_
   refine cRs (Wq lj (nth (nth a0.ZA m9).ZC lg).Id) ?_
   refine cFt e3 ?_ ?_ <;> intro bg h8 e3
   ·have e2 := ms e2 e3
    exact rt [.tmp 2] (ms f e2)
   simp
   repeat with_reducible refine qa ?_
   exact nx2 e3 (hI := by (have o : (nth a0.ZA m9).ZC.length <= 2310144 := YS (xs u0); first | omega | (simp at *; omega))) (hw := XI [((6, 0), some (141, 0))] [] rfl (by simp [w2, w3]))
  have c5 := sl 2310144 (nth a0.ZA m9).ZC u0
  have e2 := ms e2 e3
  exact ny2 w2 e2 (hI := by (have o : (nth a0.ZA m9).ZC.length <= 2310144 := YS (xs u0); first | omega | (simp at *; omega)))
 have c6 := sl 2310144 a0.ZA u0
 have f := ms f e2
 refine lp1 (Ws.eq_2 a0) (fun gQ => Yq 167 [eX 1 (a0.row.map .d), eX 3 (a0.Frame.row.map .d), eL 145 1 a0.Yt iR, eI 146 (a0.Yt.length : Int), eI 147 (gQ : Int)]) (fun n4 gQ => a0.Yt.length < n4 + gQ /\ gQ <= a0.Yt.length) (a0.Yt.length + 1) 0 (fun p4 gQ e4 j4 => ?_)
 try dsimp only at j4
 refine cFf e4 ?_ ?_ <;> intro bh h9 e4
 ·have i6 := ix h9
  have m8 := ml a0.Yt (bh 145 _ rfl)
  have c7 := sl 2310144 a0.Yt u0
  have w4 := wr gQ
  simp [i6, ZE]
  repeat with_reducible refine qa ?_
  refine cF e4 ?_ ?_ <;> intro k14 ev e4
  ·exact rt [.tmp 2] (ms f e4)
  exact ny1 w4 e4
 have c8 := sl 2310144 a0.Yt u0
 have f := ms f e4
 refine lp1 (Wt.eq_2 a0) (fun fT => Yq 167 [eX 3 (a0.Frame.row.map .d), eL 155 1 a0.YO iR, eI 156 (a0.YO.length : Int), eI 157 (fT : Int)]) (fun n5 fT => a0.YO.length < n5 + fT /\ fT <= a0.YO.length) (a0.YO.length + 1) 0 (fun p5 fT e5 j5 => ?_)
 try dsimp only at j5
 refine cFf e5 ?_ ?_ <;> intro k16 h11 e5
 ·have i7 := ix h11
  have m10 := ml a0.YO (k16 155 _ rfl)
  have c9 := sl 2310144 a0.YO u0
  have w5 := wr fT
  simp [i7, ZE]
  repeat with_reducible refine qa ?_
  refine cRs (zQ a0.Frame.ZB (nth a0.YO fT)) ?_
  refine cF e5 ?_ ?_ <;> intro k17 h12 e5
  ·exact rt [.tmp 2] (ms f e5)
  exact ny1 w5 e5
 have c10 := sl 2310144 a0.YO u0
 exact rt [.tmp 2] (ms f e5)
theorem CB (a0 : ZF) (u0 : Sm 1048576 a0) (u1 : itn a0.ZA <= 1048576) : Sa 40 [a0.row] [rS (WL a0)] := by
 have f := me (WL.eq_1 a0)
 refine so func40 ntmps40 ?_
 refine cRs (D3 a0 (sg u0)) ?_
 refine cF f ?_ ?_ <;> intro k1 h1 f
 ·exact rt [.tmp 2] f
 refine cRs (YV.rd (kq a0 u0 zAW)) ?_
 refine cF f ?_ ?_ <;> intro k2 h2 f
 ·exact rt [.tmp 2] f
 exact rt [.tmp 2] f
end Go.Proofs.YthjkhlcbpfnobaaGreat
