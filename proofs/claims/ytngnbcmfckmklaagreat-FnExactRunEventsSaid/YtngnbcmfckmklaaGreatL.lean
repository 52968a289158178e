/- Plain lemmas on the models of the helpers. No condition. -/
import Derived.Test.YtngnbcmfckmklaaGreatM
namespace Go.Mo
open Go.Vm
set_option linter.unusedSimpArgs false
set_option linter.unusedVariables false
theorem wG : ks JU := Sq (fun _ _ => trivial) (fun _ _ => rfl)
theorem vO : kb JU 0 := Sj (fun _ => Nat.le_of_ble_eq_true rfl) (fun _ _ => rfl)
theorem Nd : ks Xh := Sq (fun _ _ => trivial) (fun _ _ => rfl)
theorem MX : kb Xh 0 := Sj (fun _ => Nat.le_of_ble_eq_true rfl) (fun _ _ => rfl)
theorem Fx : ks yR := Sq (fun _ _ => trivial) (fun _ _ => rfl)
theorem G4 : kb yR 0 := Sj (fun _ => Nat.le_of_ble_eq_true rfl) (fun _ _ => rfl)
theorem Bq : ks YH := by
  intro a0 a1 hm h0 hn h
  unfold YH at h ⊢
  by_cases c0 : (JU a0.Zm a1) < 0
  · simp [c0] at h
  obtain ⟨s0, t0⟩ := wG a0.Zm a1 (by simp [hm]) (by omega) (by omega) c0
  by_cases c1 : (Xh a0.ZE (JU a0.Zm a1)) < 0
  · simp [c1, c0] at h
  obtain ⟨s1, t1⟩ := Nd a0.ZE (JU a0.Zm a1) (by simp [hm]) (by omega) (by omega) c1
  by_cases c2 : (yR a0.Methods (Xh a0.ZE (JU a0.Zm a1))) < 0
  · simp [c2, c0, c1] at h
  obtain ⟨s2, t2⟩ := Fx a0.Methods (Xh a0.ZE (JU a0.Zm a1)) (by simp [hm]) (by omega) (by omega) c2
  simp only [c0, c1, c2, decide_false, cond_false] at h ⊢
  exact ⟨⟨s0, s1, s2⟩, t2⟩
theorem AH : kb YH 2 := by
  intro a0 a1 hm h0 hn h
  unfold YH at h ⊢
  by_cases c0 : (JU a0.Zm a1) < 0
  · simp [c0] at h
  obtain ⟨s0, t0⟩ := vO a0.Zm a1 (by simp [hm]) (by omega) (by omega) c0
  by_cases c1 : (Xh a0.ZE (JU a0.Zm a1)) < 0
  · simp [c1, c0] at h
  obtain ⟨s1, t1⟩ := MX a0.ZE (JU a0.Zm a1) (by simp [hm]) (by omega) (by omega) c1
  by_cases c2 : (yR a0.Methods (Xh a0.ZE (JU a0.Zm a1))) < 0
  · simp [c2, c0, c1] at h
  obtain ⟨s2, t2⟩ := G4 a0.Methods (Xh a0.ZE (JU a0.Zm a1)) (by simp [hm]) (by omega) (by omega) c2
  simp only [c0, c1, c2, decide_false, cond_false] at h ⊢
  simp only [Xk, Xd, QL, Zq.Yz]
  omega
theorem Bj : ks Yl := Sq (fun _ _ => trivial) (fun _ _ => rfl)
theorem Ba : kb Yl 0 := Sj (fun _ => Nat.le_of_ble_eq_true rfl) (fun _ _ => rfl)
theorem xf : ks Zv := Sq (fun _ _ => trivial) (fun _ _ => rfl)
theorem xJ : kb Zv 0 := Sj (fun _ => Nat.le_of_ble_eq_true rfl) (fun _ _ => rfl)
theorem FB : ks Qv := Pp sC (G := qZ) (fun _ _ _ _ => rfl) (fun _ _ => rfl)
theorem Gx : kb Qv 0 := Pr tE (by decide) (G := qZ) (fun _ _ _ _ => rfl) (fun _ _ => rfl)
theorem S5 : ks Yo := by
  intro a0 a1 hm h0 hn h
  unfold Yo at h ⊢
  by_cases c0 : (Qv a0.ZU a1) < 0
  · simp [c0] at h
  obtain ⟨s0, t0⟩ := FB a0.ZU a1 (by simp [hm]) (by omega) (by omega) c0
  by_cases c1 : (Zv a0.Zk (Qv a0.ZU a1)) < 0
  · simp [c1, c0] at h
  obtain ⟨s1, t1⟩ := xf a0.Zk (Qv a0.ZU a1) (by simp [hm]) (by omega) (by omega) c1
  simp only [c0, c1, decide_false, cond_false] at h ⊢
  exact ⟨⟨s0, s1⟩, t1⟩
theorem S8 : kb Yo 1 := by
  intro a0 a1 hm h0 hn h
  unfold Yo at h ⊢
  by_cases c0 : (Qv a0.ZU a1) < 0
  · simp [c0] at h
  obtain ⟨s0, t0⟩ := Gx a0.ZU a1 (by simp [hm]) (by omega) (by omega) c0
  by_cases c1 : (Zv a0.Zk (Qv a0.ZU a1)) < 0
  · simp [c1, c0] at h
  obtain ⟨s1, t1⟩ := xJ a0.Zk (Qv a0.ZU a1) (by simp [hm]) (by omega) (by omega) c1
  simp only [c0, c1, decide_false, cond_false] at h ⊢
  simp only [Xk, Xd, QL, ZT.Yz]
  omega
theorem BV : ks jW := by
  intro a0 a1 hm h0 hn h
  unfold jW at h ⊢
  by_cases c0 : (Zv a0.Ys a1) < 0
  · simp [c0] at h
  obtain ⟨s0, t0⟩ := xf a0.Ys a1 (by simp [hm]) (by omega) (by omega) c0
  simp only [c0, decide_false, cond_false] at h ⊢
  exact ⟨s0, t0⟩
theorem Bc : kb jW 2 := by
  intro a0 a1 hm h0 hn h
  unfold jW at h ⊢
  by_cases c0 : (Zv a0.Ys a1) < 0
  · simp [c0] at h
  obtain ⟨s0, t0⟩ := xJ a0.Ys a1 (by simp [hm]) (by omega) (by omega) c0
  simp only [c0, decide_false, cond_false] at h ⊢
  simp only [Xk, Xd, QL, ZO.Yz]
  omega
theorem EY : ks Jf := Pp BV (G := jr) (fun _ _ _ _ => rfl) (fun _ _ => rfl)
theorem Dr : kb Jf 0 := Pr Bc (by decide) (G := jr) (fun _ _ _ _ => rfl) (fun _ _ => rfl)
theorem BY : ks KP := Sq (fun _ _ => trivial) (fun _ _ => rfl)
theorem BM : kb KP 0 := Sj (fun _ => Nat.le_of_ble_eq_true rfl) (fun _ _ => rfl)
theorem Ei : ks xP := Sq (fun _ _ => trivial) (fun _ _ => rfl)
theorem Df : kb xP 0 := Sj (fun _ => Nat.le_of_ble_eq_true rfl) (fun _ _ => rfl)
theorem Gw : ks yM := by
  intro a0 a1 hm h0 hn h
  unfold yM at h ⊢
  by_cases c0 : (KP a0.Path a1) < 0
  · simp [c0] at h
  obtain ⟨s0, t0⟩ := BY a0.Path a1 (by simp [hm]) (by omega) (by omega) c0
  by_cases c1 : (xP a0.Yi (KP a0.Path a1)) < 0
  · simp [c1, c0] at h
  obtain ⟨s1, t1⟩ := Ei a0.Yi (KP a0.Path a1) (by simp [hm]) (by omega) (by omega) c1
  simp only [c0, c1, decide_false, cond_false] at h ⊢
  exact ⟨⟨s0, s1⟩, t1⟩
theorem F5 : kb yM 3 := by
  intro a0 a1 hm h0 hn h
  unfold yM at h ⊢
  by_cases c0 : (KP a0.Path a1) < 0
  · simp [c0] at h
  obtain ⟨s0, t0⟩ := BM a0.Path a1 (by simp [hm]) (by omega) (by omega) c0
  by_cases c1 : (xP a0.Yi (KP a0.Path a1)) < 0
  · simp [c1, c0] at h
  obtain ⟨s1, t1⟩ := Df a0.Yi (KP a0.Path a1) (by simp [hm]) (by omega) (by omega) c1
  simp only [c0, c1, decide_false, cond_false] at h ⊢
  simp only [Xk, Xd, QL, ZK.Yz]
  omega
theorem IZ : ks zd := Pp Gw (G := xW) (fun _ _ _ _ => rfl) (fun _ _ => rfl)
theorem Hc : kb zd 0 := Pr F5 (by decide) (G := xW) (fun _ _ _ _ => rfl) (fun _ _ => rfl)
theorem D2 : ks zk := by
  intro a0 a1 hm h0 hn h
  unfold zk at h ⊢
  by_cases c0 : (Jf a0.ZL a1) < 0
  · simp [c0] at h
  obtain ⟨s0, t0⟩ := EY a0.ZL a1 (by simp [hm]) (by omega) (by omega) c0
  by_cases c1 : (zd a0.Zf (Jf a0.ZL a1)) < 0
  · simp [c1, c0] at h
  obtain ⟨s1, t1⟩ := IZ a0.Zf (Jf a0.ZL a1) (by simp [hm]) (by omega) (by omega) c1
  simp only [c0, c1, decide_false, cond_false] at h ⊢
  exact ⟨⟨s0, s1⟩, t1⟩
theorem EZ : kb zk 0 := by
  intro a0 a1 hm h0 hn h
  unfold zk at h ⊢
  by_cases c0 : (Jf a0.ZL a1) < 0
  · simp [c0] at h
  obtain ⟨s0, t0⟩ := Dr a0.ZL a1 (by simp [hm]) (by omega) (by omega) c0
  by_cases c1 : (zd a0.Zf (Jf a0.ZL a1)) < 0
  · simp [c1, c0] at h
  obtain ⟨s1, t1⟩ := Hc a0.Zf (Jf a0.ZL a1) (by simp [hm]) (by omega) (by omega) c1
  simp only [c0, c1, decide_false, cond_false] at h ⊢
  simp only [Xk, Xd, QL, Za.Yz]
  omega
theorem wW : ks WU := by
  intro a0 a1 hm h0 hn h
  unfold WU at h ⊢
  by_cases c0 : (Yo a0.Doc a1) < 0
  · simp [c0] at h
  obtain ⟨s0, t0⟩ := S5 a0.Doc a1 (by simp [hm]) (by omega) (by omega) c0
  by_cases c1 : (zk a0.ZJ (Yo a0.Doc a1)) < 0
  · simp [c1, c0] at h
  obtain ⟨s1, t1⟩ := D2 a0.ZJ (Yo a0.Doc a1) (by simp [hm]) (by omega) (by omega) c1
  simp only [c0, c1, decide_false, cond_false] at h ⊢
  exact ⟨⟨s0, s1⟩, t1⟩
theorem vP : kb WU 12 := by
  intro a0 a1 hm h0 hn h
  unfold WU at h ⊢
  by_cases c0 : (Yo a0.Doc a1) < 0
  · simp [c0] at h
  obtain ⟨s0, t0⟩ := S8 a0.Doc a1 (by simp [hm]) (by omega) (by omega) c0
  by_cases c1 : (zk a0.ZJ (Yo a0.Doc a1)) < 0
  · simp [c1, c0] at h
  obtain ⟨s1, t1⟩ := EZ a0.ZJ (Yo a0.Doc a1) (by simp [hm]) (by omega) (by omega) c1
  simp only [c0, c1, decide_false, cond_false] at h ⊢
  simp only [Xk, Xd, QL, ZM.Yz, Zc.Yz]
  omega
theorem C0 : ks jO := Pp wW (G := We) (fun _ _ _ _ => rfl) (fun _ _ => rfl)
theorem C4 : kb jO 0 := Pr vP (by decide) (G := We) (fun _ _ _ _ => rfl) (fun _ _ => rfl)
theorem EU : ks yN := by
  intro a0 a1 hm h0 hn h
  unfold yN at h ⊢
  by_cases c0 : (jO a0.ZD a1) < 0
  · simp [c0] at h
  obtain ⟨s0, t0⟩ := C0 a0.ZD a1 (by simp [hm]) (by omega) (by omega) c0
  simp only [c0, decide_false, cond_false] at h ⊢
  exact ⟨s0, t0⟩
theorem FP : kb yN 1 := by
  intro a0 a1 hm h0 hn h
  unfold yN at h ⊢
  by_cases c0 : (jO a0.ZD a1) < 0
  · simp [c0] at h
  obtain ⟨s0, t0⟩ := C4 a0.ZD a1 (by simp [hm]) (by omega) (by omega) c0
  simp only [c0, decide_false, cond_false] at h ⊢
  simp only [Xk, Xd, QL, ZC.Yz]
  omega
theorem Is : ks Yn := Pp EU (G := xq) (fun _ _ _ _ => rfl) (fun _ _ => rfl)
theorem Ih : kb Yn 0 := Pr FP (by decide) (G := xq) (fun _ _ _ _ => rfl) (fun _ _ => rfl)
theorem N7 : ks KQ := by
  intro a0 a1 hm h0 hn h
  unfold KQ at h ⊢
  by_cases c0 : (YH a0.Frame a1) < 0
  · simp [c0] at h
  obtain ⟨s0, t0⟩ := Bq a0.Frame a1 (by simp [hm]) (by omega) (by omega) c0
  by_cases c1 : (Yl a0.ZN (YH a0.Frame a1)) < 0
  · simp [c1, c0] at h
  obtain ⟨s1, t1⟩ := Bj a0.ZN (YH a0.Frame a1) (by simp [hm]) (by omega) (by omega) c1
  by_cases c2 : (Zv a0.Zl (Yl a0.ZN (YH a0.Frame a1))) < 0
  · simp [c2, c0, c1] at h
  obtain ⟨s2, t2⟩ := xf a0.Zl (Yl a0.ZN (YH a0.Frame a1)) (by simp [hm]) (by omega) (by omega) c2
  by_cases c3 : (Yn a0.ZA (Zv a0.Zl (Yl a0.ZN (YH a0.Frame a1)))) < 0
  · simp [c3, c0, c1, c2] at h
  obtain ⟨s3, t3⟩ := Is a0.ZA (Zv a0.Zl (Yl a0.ZN (YH a0.Frame a1))) (by simp [hm]) (by omega) (by omega) c3
  by_cases c4 : (Zv a0.YX (Yn a0.ZA (Zv a0.Zl (Yl a0.ZN (YH a0.Frame a1))))) < 0
  · simp [c4, c0, c1, c2, c3] at h
  obtain ⟨s4, t4⟩ := xf a0.YX (Yn a0.ZA (Zv a0.Zl (Yl a0.ZN (YH a0.Frame a1)))) (by simp [hm]) (by omega) (by omega) c4
  by_cases c5 : (Zv a0.YJ (Zv a0.YX (Yn a0.ZA (Zv a0.Zl (Yl a0.ZN (YH a0.Frame a1)))))) < 0
  · simp [c5, c0, c1, c2, c3, c4] at h
  obtain ⟨s5, t5⟩ := xf a0.YJ (Zv a0.YX (Yn a0.ZA (Zv a0.Zl (Yl a0.ZN (YH a0.Frame a1))))) (by simp [hm]) (by omega) (by omega) c5
  by_cases c6 : (Zv a0.Z4 (Zv a0.YJ (Zv a0.YX (Yn a0.ZA (Zv a0.Zl (Yl a0.ZN (YH a0.Frame a1))))))) < 0
  · simp [c6, c0, c1, c2, c3, c4, c5] at h
  obtain ⟨s6, t6⟩ := xf a0.Z4 (Zv a0.YJ (Zv a0.YX (Yn a0.ZA (Zv a0.Zl (Yl a0.ZN (YH a0.Frame a1)))))) (by simp [hm]) (by omega) (by omega) c6
  simp only [c0, c1, c2, c3, c4, c5, c6, decide_false, cond_false] at h ⊢
  exact ⟨⟨s0, s1, s2, s3, s4, s5, s6⟩, t6⟩
theorem BQ : kb KQ 3 := by
  intro a0 a1 hm h0 hn h
  unfold KQ at h ⊢
  by_cases c0 : (YH a0.Frame a1) < 0
  · simp [c0] at h
  obtain ⟨s0, t0⟩ := AH a0.Frame a1 (by simp [hm]) (by omega) (by omega) c0
  by_cases c1 : (Yl a0.ZN (YH a0.Frame a1)) < 0
  · simp [c1, c0] at h
  obtain ⟨s1, t1⟩ := Ba a0.ZN (YH a0.Frame a1) (by simp [hm]) (by omega) (by omega) c1
  by_cases c2 : (Zv a0.Zl (Yl a0.ZN (YH a0.Frame a1))) < 0
  · simp [c2, c0, c1] at h
  obtain ⟨s2, t2⟩ := xJ a0.Zl (Yl a0.ZN (YH a0.Frame a1)) (by simp [hm]) (by omega) (by omega) c2
  by_cases c3 : (Yn a0.ZA (Zv a0.Zl (Yl a0.ZN (YH a0.Frame a1)))) < 0
  · simp [c3, c0, c1, c2] at h
  obtain ⟨s3, t3⟩ := Ih a0.ZA (Zv a0.Zl (Yl a0.ZN (YH a0.Frame a1))) (by simp [hm]) (by omega) (by omega) c3
  by_cases c4 : (Zv a0.YX (Yn a0.ZA (Zv a0.Zl (Yl a0.ZN (YH a0.Frame a1))))) < 0
  · simp [c4, c0, c1, c2, c3] at h
  obtain ⟨s4, t4⟩ := xJ a0.YX (Yn a0.ZA (Zv a0.Zl (Yl a0.ZN (YH a0.Frame a1)))) (by simp [hm]) (by omega) (by omega) c4
  by_cases c5 : (Zv a0.YJ (Zv a0.YX (Yn a0.ZA (Zv a0.Zl (Yl a0.ZN (YH a0.Frame a1)))))) < 0
  · simp [c5, c0, c1, c2, c3, c4] at h
  obtain ⟨s5, t5⟩ := xJ a0.YJ (Zv a0.YX (Yn a0.ZA (Zv a0.Zl (Yl a0.ZN (YH a0.Frame a1))))) (by simp [hm]) (by omega) (by omega) c5
  by_cases c6 : (Zv a0.Z4 (Zv a0.YJ (Zv a0.YX (Yn a0.ZA (Zv a0.Zl (Yl a0.ZN (YH a0.Frame a1))))))) < 0
  · simp [c6, c0, c1, c2, c3, c4, c5] at h
  obtain ⟨s6, t6⟩ := xJ a0.Z4 (Zv a0.YJ (Zv a0.YX (Yn a0.ZA (Zv a0.Zl (Yl a0.ZN (YH a0.Frame a1)))))) (by simp [hm]) (by omega) (by omega) c6
  simp only [c0, c1, c2, c3, c4, c5, c6, decide_false, cond_false] at h ⊢
  simp only [Xk, Xd, QL, ZH.Yz]
  omega
theorem C1 : ks jS := by
  intro a0 a1 hm h0 hn h
  unfold jS at h ⊢
  by_cases c0 : (Yo a0.Doc a1) < 0
  · simp [c0] at h
  obtain ⟨s0, t0⟩ := S5 a0.Doc a1 (by simp [hm]) (by omega) (by omega) c0
  by_cases c1 : (Zv a0.Ids (Yo a0.Doc a1)) < 0
  · simp [c1, c0] at h
  obtain ⟨s1, t1⟩ := xf a0.Ids (Yo a0.Doc a1) (by simp [hm]) (by omega) (by omega) c1
  simp only [c0, c1, decide_false, cond_false] at h ⊢
  exact ⟨⟨s0, s1⟩, t1⟩
theorem AA : kb jS 6 := by
  intro a0 a1 hm h0 hn h
  unfold jS at h ⊢
  by_cases c0 : (Yo a0.Doc a1) < 0
  · simp [c0] at h
  obtain ⟨s0, t0⟩ := S8 a0.Doc a1 (by simp [hm]) (by omega) (by omega) c0
  by_cases c1 : (Zv a0.Ids (Yo a0.Doc a1)) < 0
  · simp [c1, c0] at h
  obtain ⟨s1, t1⟩ := xJ a0.Ids (Yo a0.Doc a1) (by simp [hm]) (by omega) (by omega) c1
  simp only [c0, c1, decide_false, cond_false] at h ⊢
  simp only [Xk, Xd, QL, Zp.Yz]
  omega
theorem OO : ks kV := Pp C1 (G := jj) (fun _ _ _ _ => rfl) (fun _ _ => rfl)
theorem El : kb kV 0 := Pr AA (by decide) (G := jj) (fun _ _ _ _ => rfl) (fun _ _ => rfl)
theorem JI (a0 : YZ) : Hr a0 = a0 := by cases a0; simp [Hr]
theorem QX (a0 : List YZ) : Fh a0 = a0 := qO (F := Sp a0) (g := (fun x => x)) (fun _ => rfl) (fun _ _ _ => rfl) _ 0 _ (by simp) (by omega) (by omega) (fun j h => by omega)
theorem Y3 (a0 : ZR) : WL a0 = a0 := by cases a0; simp [WL]
theorem Yw (a0 : List ZR) : VW a0 = a0 := qO (F := qB a0) (g := (fun x => x)) (fun _ => rfl) (fun _ _ _ => rfl) _ 0 _ (by simp) (by omega) (by omega) (fun j h => by omega)
theorem Xt (a0 : Zj) : SX a0 = a0 := by cases a0; simp [SX]
theorem XU (a0 : List Zj) : PG a0 = a0 := qO (F := WJ a0) (g := (fun x => x)) (fun _ => rfl) (fun _ _ _ => rfl) _ 0 _ (by simp) (by omega) (by omega) (fun j h => by omega)
theorem X2 (a0 : Zq) : P5 a0 = a0 := by cases a0; simp [P5]
theorem QT (a0 : Z1) : Nq a0 = a0 := by cases a0; simp [Nq]
theorem X6 (a0 : List Z1) : LJ a0 = a0 := qO (F := Up a0) (g := (fun x => x)) (fun _ => rfl) (fun _ _ _ => rfl) _ 0 _ (by simp) (by omega) (by omega) (fun j h => by omega)
theorem QS (a0 : List Int) : Hv a0 = a0 := qO (F := SZ a0) (g := (fun x => x)) (fun _ => rfl) (fun _ _ _ => rfl) _ 0 _ (by simp) (by omega) (by omega) (fun j h => by omega)
theorem XW (a0 : List ByteArray) : Pa a0 = a0 := qO (F := WM a0) (g := (fun x => x)) (fun _ => rfl) (fun _ _ _ => rfl) _ 0 _ (by simp) (by omega) (by omega) (fun j h => by omega)
theorem XE (a0 : ZT) : W3 a0 = a0 := by cases a0; simp [W3]
theorem Y1 (a0 : Zc) : kv a0 = a0 := by cases a0; simp [kv]
theorem X1 (a0 : ZO) : P4 a0 = a0 := by cases a0; simp [P4]
theorem Xn (a0 : List ZO) : Oz a0 = a0 := qO (F := W4 a0) (g := (fun x => x)) (fun _ => rfl) (fun _ _ _ => rfl) _ 0 _ (by simp) (by omega) (by omega) (fun j h => by omega)
theorem Qc (a0 : Zy) : Nw a0 = a0 := by cases a0; simp [Nw]
theorem Xz (a0 : List Zy) : Mi a0 = a0 := qO (F := Uc a0) (g := (fun x => x)) (fun _ => rfl) (fun _ _ _ => rfl) _ 0 _ (by simp) (by omega) (by omega) (fun j h => by omega)
theorem Xy (a0 : ZW) : Ps a0 = a0 := by cases a0; simp [Ps]
theorem Xq (a0 : List ZW) : Om a0 = a0 := qO (F := VB a0) (g := (fun x => x)) (fun _ => rfl) (fun _ _ _ => rfl) _ 0 _ (by simp) (by omega) (by omega) (fun j h => by omega)
theorem XR (a0 : ZK) : UY a0 = a0 := by cases a0; simp [UY]
theorem XD (a0 : List ZK) : SU a0 = a0 := qO (F := ji a0) (g := (fun x => x)) (fun _ => rfl) (fun _ _ _ => rfl) _ 0 _ (by simp) (by omega) (by omega) (fun j h => by omega)
theorem Xo (a0 : Za) : Sw a0 = a0 := by cases a0; simp [Sw]
theorem QU (a0 : ZM) : MH a0 = a0 := by cases a0; simp [MH]
theorem X3 (a0 : List ZM) : LN a0 = a0 := qO (F := UU a0) (g := (fun x => x)) (fun _ => rfl) (fun _ _ _ => rfl) _ 0 _ (by simp) (by omega) (by omega) (fun j h => by omega)
theorem XT (a0 : ZC) : Uo a0 = a0 := by cases a0; simp [Uo]
theorem XF (a0 : List ZC) : SM a0 = a0 := qO (F := kB a0) (g := (fun x => x)) (fun _ => rfl) (fun _ _ _ => rfl) _ 0 _ (by simp) (by omega) (by omega) (fun j h => by omega)
theorem X0 (a0 : ZH) : Pn a0 = a0 := by cases a0; simp [Pn]
theorem X8 (a0 : Zp) : Pm a0 = a0 := by cases a0; simp [Pm]
theorem Xs (a0 : List Zp) : Oo a0 = a0 := qO (F := W6 a0) (g := (fun x => x)) (fun _ => rfl) (fun _ _ _ => rfl) _ 0 _ (by simp) (by omega) (by omega) (fun j h => by omega)
theorem DA (a0 : Zq) : Ou a0 = a0 := rfl
theorem wK (a0 : ZT) : ES a0 = a0 := rfl
theorem AJ (a0 : ZO) : LV a0 = a0 := rfl
theorem wb (a0 : List ZO) : NY a0 = a0 := by
  have h := jP (F := (Su a0)) (a := a0) (g := (fun x => x)) (fun _ => rfl) (fun _ _ _ => rfl) (a0.length + 1) [] 0 (by omega) (by omega)
  simp only [List.nil_append, List.drop_zero] at h
  unfold NY
  rw [h]
theorem BK (a0 : ZK) : M6 a0 = a0 := rfl
theorem C2 (a0 : Za) : Pu a0 = a0 := by
  have h := jP (F := (fun n v i => Um a0 n i v)) (a := a0.Zf) (g := (fun x => x)) (fun _ => rfl) (fun _ _ _ => rfl) (a0.Zf.length + 1) [] 0 (by omega) (by omega)
  simp only [List.nil_append, List.drop_zero] at h
  unfold Pu
  rw [h]
theorem AQ (a0 : ZM) : M9 a0 = a0 := rfl
theorem B1 (a0 : ZC) : Py a0 = a0 := by
  have h := jP (F := (fun n v i => Un a0 n i v)) (a := a0.ZD) (g := (fun x => x)) (fun _ => rfl) (fun _ _ _ => rfl) (a0.ZD.length + 1) [] 0 (by omega) (by omega)
  simp only [List.nil_append, List.drop_zero] at h
  unfold Py
  rw [h]
theorem C6 (a0 : ZH) : Px a0 = a0 := by
  have h := jP (F := (fun n v i => UO a0 n i v)) (a := a0.ZA) (g := (fun x => x)) (fun _ => rfl) (fun _ _ _ => rfl) (a0.ZA.length + 1) [] 0 (by omega) (by omega)
  simp only [List.nil_append, List.drop_zero] at h
  unfold Px
  rw [h]
theorem Kc (a0 : List YZ) (a1 : Int) : Ye a0 a1 < (a0.length : Int) := kF (F := jY a0 a1) (c := fun J => ((nth a0 J).Number == a1)) (fun _ => rfl) (fun _ _ => rfl) _ _
theorem FY (a0 : ZH) (a1 : Int) : XY a0 a1 < (a0.ZN.length : Int) := kF (F := J3 a0 a1) (c := fun J => ((nth a0.ZN J).Key == a1)) (fun _ => rfl) (fun _ _ => rfl) _ _
theorem U3 (a0 : ZC) (a1 : Int) : Yj a0 a1 < (a0.ZD.length : Int) := kF (F := qI a0 a1) (c := fun J => ((nth a0.ZD J).Id == a1)) (fun _ => rfl) (fun _ _ => rfl) _ _
theorem TD (a0 : List Z1) (a1 : Int) : Zx a0 a1 < (a0.length : Int) := kF (F := qA a0 a1) (c := fun J => ((nth a0 J).Zi == a1)) (fun _ => rfl) (fun _ _ => rfl) _ _
theorem JG (a0 : List ZR) (a1 : Int) : Ze a0 a1 < (a0.length : Int) := kF (F := KM a0 a1) (c := fun J => ((nth a0 J).Id == a1)) (fun _ => rfl) (fun _ _ => rfl) _ _
theorem Ig (a0 : List Zj) (a1 : Int) : zZ a0 a1 < (a0.length : Int) := kF (F := z9 a0 a1) (c := fun J => ((nth a0 J).Id == a1)) (fun _ => rfl) (fun _ _ => rfl) _ _
theorem F7 (a0 : Zq) : Rl a0 = a0 := rfl
theorem Dl (a0 : List Int) : Ov a0 = a0 := rfl
theorem Nz (a0 : ZT) : Vt a0 = a0 := rfl
theorem G1 (a0 : ZO) : PE a0 = a0 := rfl
theorem Ie (a0 : List ZO) : W5 a0 = a0 := by
  have h := jP (F := (ju a0)) (a := a0) (g := (fun x => x)) (fun _ => rfl) (fun _ _ _ => rfl) (a0.length + 1) [] 0 (by omega) (by omega)
  simp only [List.nil_append, List.drop_zero] at h
  unfold W5
  rw [h]
theorem Im (a0 : List ZW) : SS a0 = a0 := rfl
theorem Ml (a0 : ZK) : Uv a0 = a0 := rfl
theorem Ha (a0 : Za) : VK a0 = a0 := by
  have h := jP (F := (fun n v i => kN a0 n i v)) (a := a0.Zf) (g := (fun x => x)) (fun _ => rfl) (fun _ _ _ => rfl) (a0.Zf.length + 1) [] 0 (by omega) (by omega)
  simp only [List.nil_append, List.drop_zero] at h
  unfold VK
  rw [h]
theorem De (a0 : ZM) : NG a0 = a0 := rfl
theorem LK (a0 : ZC) : WC a0 = a0 := by
  have h := jP (F := (fun n v i => qu a0 n i v)) (a := a0.ZD) (g := (fun x => x)) (fun _ => rfl) (fun _ _ _ => rfl) (a0.ZD.length + 1) [] 0 (by omega) (by omega)
  simp only [List.nil_append, List.drop_zero] at h
  unfold WC
  rw [h]
theorem GO (a0 : ZH) : Uf a0 = a0 := by
  have h := jP (F := (fun n v i => WO a0 n i v)) (a := a0.ZA) (g := (fun x => x)) (fun _ => rfl) (fun _ _ _ => rfl) (a0.ZA.length + 1) [] 0 (by omega) (by omega)
  simp only [List.nil_append, List.drop_zero] at h
  unfold Uf
  rw [h]
theorem j9 (a0 : List YZ) (a1 : Int) : YD a0 a1 < (a0.length : Int) := kF (F := ja a0 a1) (c := fun J => ((nth a0 J).Number == a1)) (fun _ => rfl) (fun _ _ => rfl) _ _
theorem Q5 (a0 : ZC) (a1 : Int) : ZX a0 a1 < (a0.ZD.length : Int) := kF (F := yX a0 a1) (c := fun J => ((nth a0.ZD J).Id == a1)) (fun _ => rfl) (fun _ _ => rfl) _ _
theorem DH (a0 : List Z1) (a1 : Int) : XJ a0 a1 < (a0.length : Int) := kF (F := ye a0 a1) (c := fun J => ((nth a0 J).Zi == a1)) (fun _ => rfl) (fun _ _ => rfl) _ _
theorem Jy (a0 : List ZR) (a1 : Int) : Zh a0 a1 < (a0.length : Int) := kF (F := Jd a0 a1) (c := fun J => ((nth a0 J).Id == a1)) (fun _ => rfl) (fun _ _ => rfl) _ _
theorem IQ (a0 : List Zj) (a1 : Int) : zi a0 a1 < (a0.length : Int) := kF (F := z3 a0 a1) (c := fun J => ((nth a0 J).Id == a1)) (fun _ => rfl) (fun _ _ => rfl) _ _
theorem N4 (a0 : YZ) : P1 a0 a0 = true := by simp [P1]
theorem Og (a0 : List YZ) : Ry a0 a0 = true := by
  unfold Ry
  rw [qQ (F := SV a0 a0) (L := a0.length) (c := fun J => (!(P1 (nth a0 J) (nth a0 J)))) (fun i => by simp [N4]) (fun _ => rfl) (fun _ _ => rfl)]
  simp
theorem Vk (a0 : ZR) : xC a0 a0 = true := by simp [xC]
theorem Ww (a0 : List ZR) : xb a0 a0 = true := by
  unfold xb
  rw [qQ (F := xv a0 a0) (L := a0.length) (c := fun J => (!(xC (nth a0 J) (nth a0 J)))) (fun i => by simp [Vk]) (fun _ => rfl) (fun _ _ => rfl)]
  simp
theorem RV (a0 : Zj) : ki a0 a0 = true := by simp [ki]
theorem Tm (a0 : List Zj) : Wg a0 a0 = true := by
  unfold Wg
  rw [qQ (F := WQ a0 a0) (L := a0.length) (c := fun J => (!(ki (nth a0 J) (nth a0 J)))) (fun i => by simp [RV]) (fun _ => rfl) (fun _ _ => rfl)]
  simp
theorem Rv (a0 : Zq) : Tz a0 a0 = true := by simp [Tz, Ww, Og, Tm]
theorem OM (a0 : Z1) : T8 a0 a0 = true := by simp [T8]
theorem Rf (a0 : List Z1) : Tr a0 a0 = true := by
  unfold Tr
  rw [qQ (F := Ub a0 a0) (L := a0.length) (c := fun J => (!(T8 (nth a0 J) (nth a0 J)))) (fun i => by simp [OM]) (fun _ => rfl) (fun _ _ => rfl)]
  simp
theorem qk (a0 : List Int) : xr a0 a0 = true := by
  unfold xr
  rw [qQ (F := SB a0 a0) (L := a0.length) (c := fun J => ((nth a0 J) != (nth a0 J))) (fun i => by simp) (fun _ => rfl) (fun _ _ => rfl)]
  simp
theorem T2 (a0 : List ByteArray) : Wc a0 a0 = true := by
  unfold Wc
  rw [qQ (F := kx a0 a0) (L := a0.length) (c := fun J => (!decide ((nth a0 J) = (nth a0 J)))) (fun i => by simp) (fun _ => rfl) (fun _ _ => rfl)]
  simp
theorem kG (a0 : ZT) : qL a0 a0 = true := by simp [qL, qk, T2]
theorem V2 (a0 : Zc) : qm a0 a0 = true := by simp [qm]
theorem Rk (a0 : ZO) : VQ a0 a0 = true := by simp [VQ, qk]
theorem RI (a0 : List ZO) : VX a0 a0 = true := by
  unfold VX
  rw [qQ (F := W9 a0 a0) (L := a0.length) (c := fun J => (!(VQ (nth a0 J) (nth a0 J)))) (fun i => by simp [Rk]) (fun _ => rfl) (fun _ _ => rfl)]
  simp
theorem Oe (a0 : Zy) : T7 a0 a0 = true := by simp [T7]
theorem PZ (a0 : List Zy) : Th a0 a0 = true := by
  unfold Th
  rw [qQ (F := UT a0 a0) (L := a0.length) (c := fun J => (!(T7 (nth a0 J) (nth a0 J)))) (fun i => by simp [Oe]) (fun _ => rfl) (fun _ _ => rfl)]
  simp
theorem PV (a0 : ZW) : VR a0 a0 = true := by simp [VR]
theorem RP (a0 : List ZW) : UE a0 a0 = true := by
  unfold UE
  rw [qQ (F := VL a0 a0) (L := a0.length) (c := fun J => (!(VR (nth a0 J) (nth a0 J)))) (fun i => by simp [PV]) (fun _ => rfl) (fun _ _ => rfl)]
  simp
theorem SA (a0 : ZK) : jR a0 a0 = true := by simp [jR, RP, PZ]
theorem Uq (a0 : List ZK) : kO a0 a0 = true := by
  unfold kO
  rw [qQ (F := jq a0 a0) (L := a0.length) (c := fun J => (!(jR (nth a0 J) (nth a0 J)))) (fun i => by simp [SA]) (fun _ => rfl) (fun _ _ => rfl)]
  simp
theorem S3 (a0 : Za) : Vq a0 a0 = true := by simp [Vq, RI, Uq]
theorem OT (a0 : ZM) : T4 a0 a0 = true := by simp [T4, kG, V2, S3]
theorem R4 (a0 : List ZM) : Tt a0 a0 = true := by
  unfold Tt
  rw [qQ (F := Uj a0 a0) (L := a0.length) (c := fun J => (!(T4 (nth a0 J) (nth a0 J)))) (fun i => by simp [OT]) (fun _ => rfl) (fun _ _ => rfl)]
  simp
theorem Tw (a0 : ZC) : jV a0 a0 = true := by simp [jV, R4]
theorem Ug (a0 : List ZC) : jn a0 a0 = true := by
  unfold jn
  rw [qQ (F := jg a0 a0) (L := a0.length) (c := fun J => (!(jV (nth a0 J) (nth a0 J)))) (fun i => by simp [Tw]) (fun _ => rfl) (fun _ _ => rfl)]
  simp
theorem Fp (a0 : ZH) : jZ a0 a0 = true := by simp [jZ, Ug, Rf, Rv, qk]
theorem PA (a0 : Zp) : VS a0 a0 = true := by simp [VS, kG, qk]
theorem IT (a0 : List Zp) : UK a0 a0 = true := by
  unfold UK
  rw [qQ (F := VM a0 a0) (L := a0.length) (c := fun J => (!(VS (nth a0 J) (nth a0 J)))) (fun i => by simp [PA]) (fun _ => rfl) (fun _ _ => rfl)]
  simp
def J1 (x : YZ) (k : Int) : YZ × Int := ((YZ.mk k (W (k + 1)) (W ((W (k + 1)) + 1)) (W ((W ((W (k + 1)) + 1)) + 1)) (W ((W ((W ((W (k + 1)) + 1)) + 1)) + 1))), (W ((W ((W ((W ((W (k + 1)) + 1)) + 1)) + 1)) + 1)))
theorem U2 (a0 : List YZ) (a1 : Int) : XM a0 a1 = mkL J1 a0 a1 := by
  have h := K2 (F := zW) (f := J1) (fun _ _ _ _ => rfl) a0 [] (a0.length + 1) a1 (by omega)
  unfold XM
  simp only [List.length_nil, List.nil_append] at h
  rw [h]
@[simp] theorem pH (a0 : List YZ) (a1 : Int) : (XM a0 a1).1.length = a0.length := by rw [U2, Qu]
theorem Sn : ∀ (x : YZ) (k : Int), 0 <= k -> k + (cn x : Nat) < 4611686018427387904 -> (J1 x k).2 = k + (cn x : Nat) := by
  intro x k h0 h
  simp only [J1, Xk, Xd, yy, QL, YZ.Yz] at h ⊢
  try simp (disch := omega) only [Wz]
  omega
theorem Fw (a0 : List YZ) (a1 : Int) (h0 : 0 <= a1) (h : a1 + (cn a0 : Nat) < 4611686018427387904) : (XM a0 a1).2 = a1 + (cn a0 : Nat) := by
  rw [U2]
  exact Qt Sn a0 a1 h0 h
def SO (x : YZ) (k : Int) (r : Int -> Sum Int Int) : Sum Int Int := (bif (x.Number != k) then (.inl (-1)) else (bif (x.WY != (W (k + 1))) then (.inl (-1)) else (bif (x.Method != (W ((W (k + 1)) + 1))) then (.inl (-1)) else (bif (x.Vz != (W ((W ((W (k + 1)) + 1)) + 1))) then (.inl (-1)) else (bif (x.V8 != (W ((W ((W ((W (k + 1)) + 1)) + 1)) + 1))) then (.inl (-1)) else (r (W ((W ((W ((W ((W (k + 1)) + 1)) + 1)) + 1)) + 1))))))))
theorem Bt : ∀ (x : YZ) (k : Int) (r : Int -> Sum Int Int), 0 <= k -> k + (cn x : Nat) < 4611686018427387904 -> SO (J1 x k).1 k r = r (J1 x k).2 := by
  intro x k r h0 h
  simp only [J1, SO, Xk, Xd, yy, QL, YZ.Yz] at h ⊢
  try simp (disch := omega) only [Wz]
  simp
theorem Db (a0 : List YZ) (a1 : Int) (h0 : 0 <= a1) (h : a1 + (cn a0 : Nat) < 4611686018427387904) : a1 <= (XM a0 a1).2 /\ (XM a0 a1).2 <= a1 + (cn a0 : Nat) /\ zt (XM a0 a1).1 a1 = (XM a0 a1).2 := by
  rw [U2]
  have s := Qt Sn a0 a1 h0 h
  have hh := zQ (z := (mkL J1 a0 a1).1) (H := VJ (mkL J1 a0 a1).1) (G := SO) (fun _ _ _ => rfl) Sn Bt a0 [] ((mkL J1 a0 a1).1.length + 1) a1 (by simp) (by rw [Qu]; omega) h0 h
  simp only [List.length_nil] at hh
  rw [X5] at *
  refine ⟨by omega, by omega, ?_⟩
  unfold zt
  rw [hh]
def Xr (x : ZR) (k : Int) : ZR × Int := ((ZR.mk k (W (k + 1)) (W ((W (k + 1)) + 1))), (W ((W ((W (k + 1)) + 1)) + 1)))
theorem qV (a0 : List ZR) (a1 : Int) : Yk a0 a1 = mkL Xr a0 a1 := by
  have h := K2 (F := QQ) (f := Xr) (fun _ _ _ _ => rfl) a0 [] (a0.length + 1) a1 (by omega)
  unfold Yk
  simp only [List.length_nil, List.nil_append] at h
  rw [h]
@[simp] theorem vA (a0 : List ZR) (a1 : Int) : (Yk a0 a1).1.length = a0.length := by rw [qV, Qu]
theorem jG : ∀ (x : ZR) (k : Int), 0 <= k -> k + (cn x : Nat) < 4611686018427387904 -> (Xr x k).2 = k + (cn x : Nat) := by
  intro x k h0 h
  simp only [Xr, Xk, Xd, yy, QL, ZR.Yz] at h ⊢
  try simp (disch := omega) only [Wz]
  omega
theorem Rn (a0 : List ZR) (a1 : Int) (h0 : 0 <= a1) (h : a1 + (cn a0 : Nat) < 4611686018427387904) : (Yk a0 a1).2 = a1 + (cn a0 : Nat) := by
  rw [qV]
  exact Qt jG a0 a1 h0 h
def qz (x : ZR) (k : Int) (r : Int -> Sum Int Int) : Sum Int Int := (bif (x.Id != k) then (.inl (-1)) else (bif (x.Key != (W (k + 1))) then (.inl (-1)) else (bif (x.Error != (W ((W (k + 1)) + 1))) then (.inl (-1)) else (r (W ((W ((W (k + 1)) + 1)) + 1))))))
theorem O0 : ∀ (x : ZR) (k : Int) (r : Int -> Sum Int Int), 0 <= k -> k + (cn x : Nat) < 4611686018427387904 -> qz (Xr x k).1 k r = r (Xr x k).2 := by
  intro x k r h0 h
  simp only [Xr, qz, Xk, Xd, yy, QL, ZR.Yz] at h ⊢
  try simp (disch := omega) only [Wz]
  simp
theorem OA (a0 : List ZR) (a1 : Int) (h0 : 0 <= a1) (h : a1 + (cn a0 : Nat) < 4611686018427387904) : a1 <= (Yk a0 a1).2 /\ (Yk a0 a1).2 <= a1 + (cn a0 : Nat) /\ JS (Yk a0 a1).1 a1 = (Yk a0 a1).2 := by
  rw [qV]
  have s := Qt jG a0 a1 h0 h
  have hh := zQ (z := (mkL Xr a0 a1).1) (H := yk (mkL Xr a0 a1).1) (G := qz) (fun _ _ _ => rfl) jG O0 a0 [] ((mkL Xr a0 a1).1.length + 1) a1 (by simp) (by rw [Qu]; omega) h0 h
  simp only [List.length_nil] at hh
  rw [X5] at *
  refine ⟨by omega, by omega, ?_⟩
  unfold JS
  rw [hh]
def Qi (x : Zj) (k : Int) : Zj × Int := ((Zj.mk k (W (k + 1)) (W ((W (k + 1)) + 1)) (W ((W ((W (k + 1)) + 1)) + 1))), (W ((W ((W ((W (k + 1)) + 1)) + 1)) + 1)))
theorem kT (a0 : List Zj) (a1 : Int) : Xw a0 a1 = mkL Qi a0 a1 := by
  have h := K2 (F := Jr) (f := Qi) (fun _ _ _ _ => rfl) a0 [] (a0.length + 1) a1 (by omega)
  unfold Xw
  simp only [List.length_nil, List.nil_append] at h
  rw [h]
@[simp] theorem u4 (a0 : List Zj) (a1 : Int) : (Xw a0 a1).1.length = a0.length := by rw [kT, Qu]
theorem Wq : ∀ (x : Zj) (k : Int), 0 <= k -> k + (cn x : Nat) < 4611686018427387904 -> (Qi x k).2 = k + (cn x : Nat) := by
  intro x k h0 h
  simp only [Qi, Xk, Xd, yy, QL, Zj.Yz] at h ⊢
  try simp (disch := omega) only [Wz]
  omega
theorem NU (a0 : List Zj) (a1 : Int) (h0 : 0 <= a1) (h : a1 + (cn a0 : Nat) < 4611686018427387904) : (Xw a0 a1).2 = a1 + (cn a0 : Nat) := by
  rw [kT]
  exact Qt Wq a0 a1 h0 h
def Wh (x : Zj) (k : Int) (r : Int -> Sum Int Int) : Sum Int Int := (bif (x.Id != k) then (.inl (-1)) else (bif (x.Nc != (W (k + 1))) then (.inl (-1)) else (bif (x.Ends != (W ((W (k + 1)) + 1))) then (.inl (-1)) else (bif (x.Si != (W ((W ((W (k + 1)) + 1)) + 1))) then (.inl (-1)) else (r (W ((W ((W ((W (k + 1)) + 1)) + 1)) + 1)))))))
theorem HF : ∀ (x : Zj) (k : Int) (r : Int -> Sum Int Int), 0 <= k -> k + (cn x : Nat) < 4611686018427387904 -> Wh (Qi x k).1 k r = r (Qi x k).2 := by
  intro x k r h0 h
  simp only [Qi, Wh, Xk, Xd, yy, QL, Zj.Yz] at h ⊢
  try simp (disch := omega) only [Wz]
  simp
theorem Mx (a0 : List Zj) (a1 : Int) (h0 : 0 <= a1) (h : a1 + (cn a0 : Nat) < 4611686018427387904) : a1 <= (Xw a0 a1).2 /\ (Xw a0 a1).2 <= a1 + (cn a0 : Nat) /\ xA (Xw a0 a1).1 a1 = (Xw a0 a1).2 := by
  rw [kT]
  have s := Qt Wq a0 a1 h0 h
  have hh := zQ (z := (mkL Qi a0 a1).1) (H := qw (mkL Qi a0 a1).1) (G := Wh) (fun _ _ _ => rfl) Wq HF a0 [] ((mkL Qi a0 a1).1.length + 1) a1 (by simp) (by rw [Qu]; omega) h0 h
  simp only [List.length_nil] at hh
  rw [X5] at *
  refine ⟨by omega, by omega, ?_⟩
  unfold xA
  rw [hh]
@[simp] theorem vR (a0 : Zq) (a1 : Int) : (Zu a0 a1).1.Zm.length = a0.Zm.length := by simp [Zu]
@[simp] theorem Hs (a0 : Zq) (a1 : Int) : (Zu a0 a1).1.ZE.length = a0.ZE.length := by simp [Zu]
@[simp] theorem Cq (a0 : Zq) (a1 : Int) : (Zu a0 a1).1.Methods.length = a0.Methods.length := by simp [Zu]
@[simp] theorem ui (a0 : Zq) (a1 : Int) : (Zu a0 a1).1.KZ = a0.KZ := rfl
@[simp] theorem sW (a0 : Zq) (a1 : Int) : (Zu a0 a1).1.Now = a0.Now := rfl
theorem Gn (a0 : Zq) (a1 : Int) (h0 : 0 <= a1) (h : a1 + (cn a0 : Nat) < 4611686018427387904) : a1 <= (Zu a0 a1).2 /\ (Zu a0 a1).2 <= a1 + (cn a0 : Nat) /\ Xu (Zu a0 a1).1 a1 = (Zu a0 a1).2 := by
  simp only [Zu, Xu, Xk, Xd, QL, Zq.Yz] at h ⊢
  obtain ⟨m0, n0, h0⟩ := Db a0.Zm a1 (by omega) (by omega)
  have q0 := Fw a0.Zm a1 (by omega) (by omega)
  have o0 : ¬ (XM a0.Zm a1).2 < 0 := by omega
  obtain ⟨m3, n3, h3⟩ := OA a0.ZE (XM a0.Zm a1).2 (by omega) (by omega)
  have q3 := Rn a0.ZE (XM a0.Zm a1).2 (by omega) (by omega)
  have o3 : ¬ (Yk a0.ZE (XM a0.Zm a1).2).2 < 0 := by omega
  obtain ⟨m6, n6, h6⟩ := Mx a0.Methods (Yk a0.ZE (XM a0.Zm a1).2).2 (by omega) (by omega)
  have q6 := NU a0.Methods (Yk a0.ZE (XM a0.Zm a1).2).2 (by omega) (by omega)
  have o6 : ¬ (Xw a0.Methods (Yk a0.ZE (XM a0.Zm a1).2).2).2 < 0 := by omega
  refine ⟨by omega, by omega, ?_⟩
  simp (disch := omega) [Wz, h0, h3, h6, o0, o3, o6]
def Ja (x : Z1) (k : Int) : Z1 × Int := ((Z1.mk k (W (k + 1)) (W ((W (k + 1)) + 1)) (W ((W ((W (k + 1)) + 1)) + 1)) (W ((W ((W ((W (k + 1)) + 1)) + 1)) + 1)) (W ((W ((W ((W ((W (k + 1)) + 1)) + 1)) + 1)) + 1)) (W ((W ((W ((W ((W ((W (k + 1)) + 1)) + 1)) + 1)) + 1)) + 1))), (W ((W ((W ((W ((W ((W ((W (k + 1)) + 1)) + 1)) + 1)) + 1)) + 1)) + 1)))
theorem UF (a0 : List Z1) (a1 : Int) : Z8 a0 a1 = mkL Ja a0 a1 := by
  have h := K2 (F := Ks) (f := Ja) (fun _ _ _ _ => rfl) a0 [] (a0.length + 1) a1 (by omega)
  unfold Z8
  simp only [List.length_nil, List.nil_append] at h
  rw [h]
@[simp] theorem sM (a0 : List Z1) (a1 : Int) : (Z8 a0 a1).1.length = a0.length := by rw [UF, Qu]
theorem TA : ∀ (x : Z1) (k : Int), 0 <= k -> k + (cn x : Nat) < 4611686018427387904 -> (Ja x k).2 = k + (cn x : Nat) := by
  intro x k h0 h
  simp only [Ja, Xk, Xd, yy, QL, Z1.Yz] at h ⊢
  try simp (disch := omega) only [Wz]
  omega
theorem I3 (a0 : List Z1) (a1 : Int) (h0 : 0 <= a1) (h : a1 + (cn a0 : Nat) < 4611686018427387904) : (Z8 a0 a1).2 = a1 + (cn a0 : Nat) := by
  rw [UF]
  exact Qt TA a0 a1 h0 h
def U7 (x : Z1) (k : Int) (r : Int -> Sum Int Int) : Sum Int Int := (bif (x.Zi != k) then (.inl (-1)) else (bif (x.Key != (W (k + 1))) then (.inl (-1)) else (bif (x.WY != (W ((W (k + 1)) + 1))) then (.inl (-1)) else (bif (x.UM != (W ((W ((W (k + 1)) + 1)) + 1))) then (.inl (-1)) else (bif (x.To != (W ((W ((W ((W (k + 1)) + 1)) + 1)) + 1))) then (.inl (-1)) else (bif (x.Z2 != (W ((W ((W ((W ((W (k + 1)) + 1)) + 1)) + 1)) + 1))) then (.inl (-1)) else (bif (x.Mark != (W ((W ((W ((W ((W ((W (k + 1)) + 1)) + 1)) + 1)) + 1)) + 1))) then (.inl (-1)) else (r (W ((W ((W ((W ((W ((W ((W (k + 1)) + 1)) + 1)) + 1)) + 1)) + 1)) + 1))))))))))
theorem Ef : ∀ (x : Z1) (k : Int) (r : Int -> Sum Int Int), 0 <= k -> k + (cn x : Nat) < 4611686018427387904 -> U7 (Ja x k).1 k r = r (Ja x k).2 := by
  intro x k r h0 h
  simp only [Ja, U7, Xk, Xd, yy, QL, Z1.Yz] at h ⊢
  try simp (disch := omega) only [Wz]
  simp
theorem FC (a0 : List Z1) (a1 : Int) (h0 : 0 <= a1) (h : a1 + (cn a0 : Nat) < 4611686018427387904) : a1 <= (Z8 a0 a1).2 /\ (Z8 a0 a1).2 <= a1 + (cn a0 : Nat) /\ QJ (Z8 a0 a1).1 a1 = (Z8 a0 a1).2 := by
  rw [UF]
  have s := Qt TA a0 a1 h0 h
  have hh := zQ (z := (mkL Ja a0 a1).1) (H := WH (mkL Ja a0 a1).1) (G := U7) (fun _ _ _ => rfl) TA Ef a0 [] ((mkL Ja a0 a1).1.length + 1) a1 (by simp) (by rw [Qu]; omega) h0 h
  simp only [List.length_nil] at hh
  rw [X5] at *
  refine ⟨by omega, by omega, ?_⟩
  unfold QJ
  rw [hh]
def J7 (x : Int) (k : Int) : Int × Int := (k, (W (k + 1)))
theorem U9 (a0 : List Int) (a1 : Int) : ZI a0 a1 = mkL J7 a0 a1 := by
  have h := K2 (F := zT) (f := J7) (fun _ _ _ _ => rfl) a0 [] (a0.length + 1) a1 (by omega)
  unfold ZI
  simp only [List.length_nil, List.nil_append] at h
  rw [h]
@[simp] theorem sy (a0 : List Int) (a1 : Int) : (ZI a0 a1).1.length = a0.length := by rw [U9, Qu]
theorem SC : ∀ (x : Int) (k : Int), 0 <= k -> k + (cn x : Nat) < 4611686018427387904 -> (J7 x k).2 = k + (cn x : Nat) := by
  intro x k h0 h
  simp only [J7, Xk, Xd, yy, QL] at h ⊢
  try simp (disch := omega) only [Wz]
  omega
theorem QW (a0 : List Int) (a1 : Int) (h0 : 0 <= a1) (h : a1 + (cn a0 : Nat) < 4611686018427387904) : (ZI a0 a1).2 = a1 + (cn a0 : Nat) := by
  rw [U9]
  exact Qt SC a0 a1 h0 h
theorem ky (a0 : List Int) (a1 : Int) (h0 : 0 <= a1) (h : a1 + (cn a0 : Nat) < 4611686018427387904) : a1 <= (ZI a0 a1).2 /\ (ZI a0 a1).2 <= a1 + (cn a0 : Nat) := by
  have := QW a0 a1 h0 h
  omega
def Sv (x : Int) (k : Int) (r : Int -> Sum Int Int) : Sum Int Int := (bif (x != k) then (.inl (-1)) else (r (W (k + 1))))
theorem Bl : ∀ (x : Int) (k : Int) (r : Int -> Sum Int Int), 0 <= k -> k + (cn x : Nat) < 4611686018427387904 -> Sv (J7 x k).1 k r = r (J7 x k).2 := by
  intro x k r h0 h
  simp only [J7, Sv, Xk, Xd, yy, QL] at h ⊢
  try simp (disch := omega) only [Wz]
  simp
theorem xB (a0 : List Int) (a1 : Int) (h0 : 0 <= a1) (h : a1 + (cn a0 : Nat) < 4611686018427387904) : a1 <= (ZI a0 a1).2 /\ (ZI a0 a1).2 <= a1 + (cn a0 : Nat) /\ Zr (ZI a0 a1).1 a1 = (ZI a0 a1).2 := by
  rw [U9]
  have s := Qt SC a0 a1 h0 h
  have hh := zQ (z := (mkL J7 a0 a1).1) (H := VA (mkL J7 a0 a1).1) (G := Sv) (fun _ _ _ => rfl) SC Bl a0 [] ((mkL J7 a0 a1).1.length + 1) a1 (by simp) (by rw [Qu]; omega) h0 h
  simp only [List.length_nil] at hh
  rw [X5] at *
  refine ⟨by omega, by omega, ?_⟩
  unfold Zr
  rw [hh]
def Qk (x : ByteArray) (k : Int) : ByteArray × Int := ((xI k), (W (k + 1)))
theorem kg (a0 : List ByteArray) (a1 : Int) : ZG a0 a1 = mkL Qk a0 a1 := by
  have h := K2 (F := Jt) (f := Qk) (fun _ _ _ _ => rfl) a0 [] (a0.length + 1) a1 (by omega)
  unfold ZG
  simp only [List.length_nil, List.nil_append] at h
  rw [h]
@[simp] theorem uy (a0 : List ByteArray) (a1 : Int) : (ZG a0 a1).1.length = a0.length := by rw [kg, Qu]
theorem Wv : ∀ (x : ByteArray) (k : Int), 0 <= k -> k + (cn x : Nat) < 4611686018427387904 -> (Qk x k).2 = k + (cn x : Nat) := by
  intro x k h0 h
  simp only [Qk, Xk, Xd, yy, QL] at h ⊢
  try simp (disch := omega) only [Wz]
  omega
theorem xG (a0 : List ByteArray) (a1 : Int) (h0 : 0 <= a1) (h : a1 + (cn a0 : Nat) < 4611686018427387904) : (ZG a0 a1).2 = a1 + (cn a0 : Nat) := by
  rw [kg]
  exact Qt Wv a0 a1 h0 h
theorem TU (a0 : List ByteArray) (a1 : Int) (h0 : 0 <= a1) (h : a1 + (cn a0 : Nat) < 4611686018427387904) : a1 <= (ZG a0 a1).2 /\ (ZG a0 a1).2 <= a1 + (cn a0 : Nat) := by
  have := xG a0 a1 h0 h
  omega
def Ws (x : ByteArray) (k : Int) (r : Int -> Sum Int Int) : Sum Int Int := (bif (!decide (x = (xI k))) then (.inl (-1)) else (r (W (k + 1))))
theorem Hf : ∀ (x : ByteArray) (k : Int) (r : Int -> Sum Int Int), 0 <= k -> k + (cn x : Nat) < 4611686018427387904 -> Ws (Qk x k).1 k r = r (Qk x k).2 := by
  intro x k r h0 h
  simp only [Qk, Ws, Xk, Xd, yy, QL] at h ⊢
  try simp (disch := omega) only [Wz]
  simp
theorem Ma (a0 : List ByteArray) (a1 : Int) (h0 : 0 <= a1) (h : a1 + (cn a0 : Nat) < 4611686018427387904) : a1 <= (ZG a0 a1).2 /\ (ZG a0 a1).2 <= a1 + (cn a0 : Nat) /\ Z3 (ZG a0 a1).1 a1 = (ZG a0 a1).2 := by
  rw [kg]
  have s := Qt Wv a0 a1 h0 h
  have hh := zQ (z := (mkL Qk a0 a1).1) (H := qx (mkL Qk a0 a1).1) (G := Ws) (fun _ _ _ => rfl) Wv Hf a0 [] ((mkL Qk a0 a1).1.length + 1) a1 (by simp) (by rw [Qu]; omega) h0 h
  simp only [List.length_nil] at hh
  rw [X5] at *
  refine ⟨by omega, by omega, ?_⟩
  unfold Z3
  rw [hh]
def Q6 (x : ZO) (k : Int) : ZO × Int := ((ZO.mk k (ZI x.Ys (W (k + 1))).1 (ZI x.Ys (W (k + 1))).2), (W ((ZI x.Ys (W (k + 1))).2 + 1)))
theorem Wj (a0 : List ZO) (a1 : Int) : YC a0 a1 = mkL Q6 a0 a1 := by
  have h := K2 (F := KH) (f := Q6) (fun _ _ _ _ => rfl) a0 [] (a0.length + 1) a1 (by omega)
  unfold YC
  simp only [List.length_nil, List.nil_append] at h
  rw [h]
@[simp] theorem tq (a0 : List ZO) (a1 : Int) : (YC a0 a1).1.length = a0.length := by rw [Wj, Qu]
theorem VY : ∀ (x : ZO) (k : Int), 0 <= k -> k + (cn x : Nat) < 4611686018427387904 -> (Q6 x k).2 = k + (cn x : Nat) := by
  intro x k h0 h
  simp only [Q6, Xk, Xd, yy, QL, ZO.Yz] at h ⊢
  try simp (disch := omega) only [Wz]
  obtain ⟨m1, n1⟩ := ky x.Ys (k + 1) (by omega) (by omega)
  have q1 := QW x.Ys (k + 1) (by omega) (by omega)
  try simp (disch := omega) only [Wz]
  omega
theorem kl (a0 : List ZO) (a1 : Int) (h0 : 0 <= a1) (h : a1 + (cn a0 : Nat) < 4611686018427387904) : (YC a0 a1).2 = a1 + (cn a0 : Nat) := by
  rw [Wj]
  exact Qt VY a0 a1 h0 h
theorem Ik (a0 : List ZO) (a1 : Int) (h0 : 0 <= a1) (h : a1 + (cn a0 : Nat) < 4611686018427387904) : a1 <= (YC a0 a1).2 /\ (YC a0 a1).2 <= a1 + (cn a0 : Nat) := by
  have := kl a0 a1 h0 h
  omega
def Vr (x : ZO) (k : Int) (r : Int -> Sum Int Int) : Sum Int Int := (bif (x.Key != k) then (.inl (-1)) else (bif (decide ((Zr x.Ys (W (k + 1))) < 0)) then (.inl (-1)) else (bif (x.Mark != (Zr x.Ys (W (k + 1)))) then (.inl (-1)) else (r (W ((Zr x.Ys (W (k + 1))) + 1))))))
theorem Fu : ∀ (x : ZO) (k : Int) (r : Int -> Sum Int Int), 0 <= k -> k + (cn x : Nat) < 4611686018427387904 -> Vr (Q6 x k).1 k r = r (Q6 x k).2 := by
  intro x k r h0 h
  simp only [Q6, Vr, Xk, Xd, yy, QL, ZO.Yz] at h ⊢
  try simp (disch := omega) only [Wz]
  obtain ⟨m1, n1, h1⟩ := xB x.Ys (k + 1) (by omega) (by omega)
  have q1 := QW x.Ys (k + 1) (by omega) (by omega)
  have o1 : ¬ (ZI x.Ys (k + 1)).2 < 0 := by omega
  try simp (disch := omega) only [Wz]
  simp (disch := omega) [Wz, h1, o1]
theorem HY (a0 : List ZO) (a1 : Int) (h0 : 0 <= a1) (h : a1 + (cn a0 : Nat) < 4611686018427387904) : a1 <= (YC a0 a1).2 /\ (YC a0 a1).2 <= a1 + (cn a0 : Nat) /\ Jg (YC a0 a1).1 a1 = (YC a0 a1).2 := by
  rw [Wj]
  have s := Qt VY a0 a1 h0 h
  have hh := zQ (z := (mkL Q6 a0 a1).1) (H := j5 (mkL Q6 a0 a1).1) (G := Vr) (fun _ _ _ => rfl) VY Fu a0 [] ((mkL Q6 a0 a1).1.length + 1) a1 (by simp) (by rw [Qu]; omega) h0 h
  simp only [List.length_nil] at hh
  rw [X5] at *
  refine ⟨by omega, by omega, ?_⟩
  unfold Jg
  rw [hh]
def JZ (x : Zy) (k : Int) : Zy × Int := ((Zy.mk k ((Int.tmod (W (k + 1)) 3) == 0)), (W ((W (k + 1)) + 1)))
theorem VU (a0 : List Zy) (a1 : Int) : YS a0 a1 = mkL JZ a0 a1 := by
  have h := K2 (F := Kv) (f := JZ) (fun _ _ _ _ => rfl) a0 [] (a0.length + 1) a1 (by omega)
  unfold YS
  simp only [List.length_nil, List.nil_append] at h
  rw [h]
@[simp] theorem sN (a0 : List Zy) (a1 : Int) : (YS a0 a1).1.length = a0.length := by rw [VU, Qu]
theorem TG : ∀ (x : Zy) (k : Int), 0 <= k -> k + (cn x : Nat) < 4611686018427387904 -> (JZ x k).2 = k + (cn x : Nat) := by
  intro x k h0 h
  simp only [JZ, Xk, Xd, yy, QL, Zy.Yz] at h ⊢
  try simp (disch := omega) only [Wz]
  omega
theorem Wl (a0 : List Zy) (a1 : Int) (h0 : 0 <= a1) (h : a1 + (cn a0 : Nat) < 4611686018427387904) : (YS a0 a1).2 = a1 + (cn a0 : Nat) := by
  rw [VU]
  exact Qt TG a0 a1 h0 h
theorem Gt (a0 : List Zy) (a1 : Int) (h0 : 0 <= a1) (h : a1 + (cn a0 : Nat) < 4611686018427387904) : a1 <= (YS a0 a1).2 /\ (YS a0 a1).2 <= a1 + (cn a0 : Nat) := by
  have := Wl a0 a1 h0 h
  omega
def TJ (x : Zy) (k : Int) (r : Int -> Sum Int Int) : Sum Int Int := (bif (x.Xa != k) then (.inl (-1)) else (bif (!(x.Left == ((Int.tmod (W (k + 1)) 3) == 0))) then (.inl (-1)) else (r (W ((W (k + 1)) + 1)))))
theorem E4 : ∀ (x : Zy) (k : Int) (r : Int -> Sum Int Int), 0 <= k -> k + (cn x : Nat) < 4611686018427387904 -> TJ (JZ x k).1 k r = r (JZ x k).2 := by
  intro x k r h0 h
  simp only [JZ, TJ, Xk, Xd, yy, QL, Zy.Yz] at h ⊢
  try simp (disch := omega) only [Wz]
  simp
theorem Fl (a0 : List Zy) (a1 : Int) (h0 : 0 <= a1) (h : a1 + (cn a0 : Nat) < 4611686018427387904) : a1 <= (YS a0 a1).2 /\ (YS a0 a1).2 <= a1 + (cn a0 : Nat) /\ KG (YS a0 a1).1 a1 = (YS a0 a1).2 := by
  rw [VU]
  have s := Qt TG a0 a1 h0 h
  have hh := zQ (z := (mkL JZ a0 a1).1) (H := kz (mkL JZ a0 a1).1) (G := TJ) (fun _ _ _ => rfl) TG E4 a0 [] ((mkL JZ a0 a1).1.length + 1) a1 (by simp) (by rw [Qu]; omega) h0 h
  simp only [List.length_nil] at hh
  rw [X5] at *
  refine ⟨by omega, by omega, ?_⟩
  unfold KG
  rw [hh]
def Q7 (x : ZW) (k : Int) : ZW × Int := ((ZW.mk k (W (k + 1)) (W ((W (k + 1)) + 1)) (W ((W ((W (k + 1)) + 1)) + 1)) (W ((W ((W ((W (k + 1)) + 1)) + 1)) + 1))), (W ((W ((W ((W ((W (k + 1)) + 1)) + 1)) + 1)) + 1)))
theorem Wi (a0 : List ZW) (a1 : Int) : Y4 a0 a1 = mkL Q7 a0 a1 := by
  have h := K2 (F := KD) (f := Q7) (fun _ _ _ _ => rfl) a0 [] (a0.length + 1) a1 (by omega)
  unfold Y4
  simp only [List.length_nil, List.nil_append] at h
  rw [h]
@[simp] theorem tA (a0 : List ZW) (a1 : Int) : (Y4 a0 a1).1.length = a0.length := by rw [Wi, Qu]
theorem VZ : ∀ (x : ZW) (k : Int), 0 <= k -> k + (cn x : Nat) < 4611686018427387904 -> (Q7 x k).2 = k + (cn x : Nat) := by
  intro x k h0 h
  simp only [Q7, Xk, Xd, yy, QL, ZW.Yz] at h ⊢
  try simp (disch := omega) only [Wz]
  omega
theorem ka (a0 : List ZW) (a1 : Int) (h0 : 0 <= a1) (h : a1 + (cn a0 : Nat) < 4611686018427387904) : (Y4 a0 a1).2 = a1 + (cn a0 : Nat) := by
  rw [Wi]
  exact Qt VZ a0 a1 h0 h
theorem Ip (a0 : List ZW) (a1 : Int) (h0 : 0 <= a1) (h : a1 + (cn a0 : Nat) < 4611686018427387904) : a1 <= (Y4 a0 a1).2 /\ (Y4 a0 a1).2 <= a1 + (cn a0 : Nat) := by
  have := ka a0 a1 h0 h
  omega
def Vv (x : ZW) (k : Int) (r : Int -> Sum Int Int) : Sum Int Int := (bif (x.Authority != k) then (.inl (-1)) else (bif (x.Seq != (W (k + 1))) then (.inl (-1)) else (bif (x.Time != (W ((W (k + 1)) + 1))) then (.inl (-1)) else (bif (x.Xa != (W ((W ((W (k + 1)) + 1)) + 1))) then (.inl (-1)) else (bif (x.Mark != (W ((W ((W ((W (k + 1)) + 1)) + 1)) + 1))) then (.inl (-1)) else (r (W ((W ((W ((W ((W (k + 1)) + 1)) + 1)) + 1)) + 1))))))))
theorem F8 : ∀ (x : ZW) (k : Int) (r : Int -> Sum Int Int), 0 <= k -> k + (cn x : Nat) < 4611686018427387904 -> Vv (Q7 x k).1 k r = r (Q7 x k).2 := by
  intro x k r h0 h
  simp only [Q7, Vv, Xk, Xd, yy, QL, ZW.Yz] at h ⊢
  try simp (disch := omega) only [Wz]
  simp
theorem Ii (a0 : List ZW) (a1 : Int) (h0 : 0 <= a1) (h : a1 + (cn a0 : Nat) < 4611686018427387904) : a1 <= (Y4 a0 a1).2 /\ (Y4 a0 a1).2 <= a1 + (cn a0 : Nat) /\ zX (Y4 a0 a1).1 a1 = (Y4 a0 a1).2 := by
  rw [Wi]
  have s := Qt VZ a0 a1 h0 h
  have hh := zQ (z := (mkL Q7 a0 a1).1) (H := jf (mkL Q7 a0 a1).1) (G := Vv) (fun _ _ _ => rfl) VZ F8 a0 [] ((mkL Q7 a0 a1).1.length + 1) a1 (by simp) (by rw [Qu]; omega) h0 h
  simp only [List.length_nil] at hh
  rw [X5] at *
  refine ⟨by omega, by omega, ?_⟩
  unfold zX
  rw [hh]
def QI (x : ZK) (k : Int) : ZK × Int := ((ZK.mk k (W (k + 1)) (W ((W (k + 1)) + 1)) (YS x.Path (W ((W ((W (k + 1)) + 1)) + 1))).1 (Y4 x.Yi (YS x.Path (W ((W ((W (k + 1)) + 1)) + 1))).2).1), (Y4 x.Yi (YS x.Path (W ((W ((W (k + 1)) + 1)) + 1))).2).2)
theorem jz (a0 : List ZK) (a1 : Int) : Yr a0 a1 = mkL QI a0 a1 := by
  have h := K2 (F := JR) (f := QI) (fun _ _ _ _ => rfl) a0 [] (a0.length + 1) a1 (by omega)
  unfold Yr
  simp only [List.length_nil, List.nil_append] at h
  rw [h]
@[simp] theorem v7 (a0 : List ZK) (a1 : Int) : (Yr a0 a1).1.length = a0.length := by rw [jz, Qu]
theorem kU : ∀ (x : ZK) (k : Int), 0 <= k -> k + (cn x : Nat) < 4611686018427387904 -> (QI x k).2 = k + (cn x : Nat) := by
  intro x k h0 h
  simp only [QI, Xk, Xd, yy, QL, ZK.Yz] at h ⊢
  try simp (disch := omega) only [Wz]
  obtain ⟨m1, n1⟩ := Gt x.Path (((k + 1) + 1) + 1) (by omega) (by omega)
  have q1 := Wl x.Path (((k + 1) + 1) + 1) (by omega) (by omega)
  obtain ⟨m3, n3⟩ := Ip x.Yi (YS x.Path (((k + 1) + 1) + 1)).2 (by omega) (by omega)
  have q3 := ka x.Yi (YS x.Path (((k + 1) + 1) + 1)).2 (by omega) (by omega)
  omega
theorem jD (a0 : List ZK) (a1 : Int) (h0 : 0 <= a1) (h : a1 + (cn a0 : Nat) < 4611686018427387904) : (Yr a0 a1).2 = a1 + (cn a0 : Nat) := by
  rw [jz]
  exact Qt kU a0 a1 h0 h
theorem Nf (a0 : List ZK) (a1 : Int) (h0 : 0 <= a1) (h : a1 + (cn a0 : Nat) < 4611686018427387904) : a1 <= (Yr a0 a1).2 /\ (Yr a0 a1).2 <= a1 + (cn a0 : Nat) := by
  have := jD a0 a1 h0 h
  omega
def kY (x : ZK) (k : Int) (r : Int -> Sum Int Int) : Sum Int Int := (bif (x.Count != k) then (.inl (-1)) else (bif (x.Method != (W (k + 1))) then (.inl (-1)) else (bif (x.GK != (W ((W (k + 1)) + 1))) then (.inl (-1)) else (bif (decide ((KG x.Path (W ((W ((W (k + 1)) + 1)) + 1))) < 0)) then (.inl (-1)) else (bif (decide ((zX x.Yi (KG x.Path (W ((W ((W (k + 1)) + 1)) + 1)))) < 0)) then (.inl (-1)) else (r (zX x.Yi (KG x.Path (W ((W ((W (k + 1)) + 1)) + 1))))))))))
theorem Mg : ∀ (x : ZK) (k : Int) (r : Int -> Sum Int Int), 0 <= k -> k + (cn x : Nat) < 4611686018427387904 -> kY (QI x k).1 k r = r (QI x k).2 := by
  intro x k r h0 h
  simp only [QI, kY, Xk, Xd, yy, QL, ZK.Yz] at h ⊢
  try simp (disch := omega) only [Wz]
  obtain ⟨m1, n1, h1⟩ := Fl x.Path (((k + 1) + 1) + 1) (by omega) (by omega)
  have q1 := Wl x.Path (((k + 1) + 1) + 1) (by omega) (by omega)
  have o1 : ¬ (YS x.Path (((k + 1) + 1) + 1)).2 < 0 := by omega
  obtain ⟨m4, n4, h4⟩ := Ii x.Yi (YS x.Path (((k + 1) + 1) + 1)).2 (by omega) (by omega)
  have q4 := ka x.Yi (YS x.Path (((k + 1) + 1) + 1)).2 (by omega) (by omega)
  have o4 : ¬ (Y4 x.Yi (YS x.Path (((k + 1) + 1) + 1)).2).2 < 0 := by omega
  simp (disch := omega) [Wz, h1, h4, o1, o4]
theorem MF (a0 : List ZK) (a1 : Int) (h0 : 0 <= a1) (h : a1 + (cn a0 : Nat) < 4611686018427387904) : a1 <= (Yr a0 a1).2 /\ (Yr a0 a1).2 <= a1 + (cn a0 : Nat) /\ KK (Yr a0 a1).1 a1 = (Yr a0 a1).2 := by
  rw [jz]
  have s := Qt kU a0 a1 h0 h
  have hh := zQ (z := (mkL QI a0 a1).1) (H := qE (mkL QI a0 a1).1) (G := kY) (fun _ _ _ => rfl) kU Mg a0 [] ((mkL QI a0 a1).1.length + 1) a1 (by simp) (by rw [Qu]; omega) h0 h
  simp only [List.length_nil] at hh
  rw [X5] at *
  refine ⟨by omega, by omega, ?_⟩
  unfold KK
  rw [hh]
def Jb (x : ZM) (k : Int) : ZM × Int := ((ZM.mk k (W (k + 1)) (ZT.mk (W ((W (k + 1)) + 1)) (ZG x.Doc.ZU (W ((W ((W (k + 1)) + 1)) + 1))).1 (ZI x.Doc.Zk (ZG x.Doc.ZU (W ((W ((W (k + 1)) + 1)) + 1))).2).1) (Zc.mk (ZI x.Doc.Zk (ZG x.Doc.ZU (W ((W ((W (k + 1)) + 1)) + 1))).2).2 (W ((ZI x.Doc.Zk (ZG x.Doc.ZU (W ((W ((W (k + 1)) + 1)) + 1))).2).2 + 1)) (W ((W ((ZI x.Doc.Zk (ZG x.Doc.ZU (W ((W ((W (k + 1)) + 1)) + 1))).2).2 + 1)) + 1)) (W ((W ((W ((ZI x.Doc.Zk (ZG x.Doc.ZU (W ((W ((W (k + 1)) + 1)) + 1))).2).2 + 1)) + 1)) + 1)) (W ((W ((W ((W ((ZI x.Doc.Zk (ZG x.Doc.ZU (W ((W ((W (k + 1)) + 1)) + 1))).2).2 + 1)) + 1)) + 1)) + 1)) (W ((W ((W ((W ((W ((ZI x.Doc.Zk (ZG x.Doc.ZU (W ((W ((W (k + 1)) + 1)) + 1))).2).2 + 1)) + 1)) + 1)) + 1)) + 1)) (W ((W ((W ((W ((W ((W ((ZI x.Doc.Zk (ZG x.Doc.ZU (W ((W ((W (k + 1)) + 1)) + 1))).2).2 + 1)) + 1)) + 1)) + 1)) + 1)) + 1)) (W ((W ((W ((W ((W ((W ((W ((ZI x.Doc.Zk (ZG x.Doc.ZU (W ((W ((W (k + 1)) + 1)) + 1))).2).2 + 1)) + 1)) + 1)) + 1)) + 1)) + 1)) + 1)) (W ((W ((W ((W ((W ((W ((W ((W ((ZI x.Doc.Zk (ZG x.Doc.ZU (W ((W ((W (k + 1)) + 1)) + 1))).2).2 + 1)) + 1)) + 1)) + 1)) + 1)) + 1)) + 1)) + 1))) (Za.mk (YC x.ZJ.ZL (W ((W ((W ((W ((W ((W ((W ((W ((W ((ZI x.Doc.Zk (ZG x.Doc.ZU (W ((W ((W (k + 1)) + 1)) + 1))).2).2 + 1)) + 1)) + 1)) + 1)) + 1)) + 1)) + 1)) + 1)) + 1))).1 (Yr x.ZJ.Zf (YC x.ZJ.ZL (W ((W ((W ((W ((W ((W ((W ((W ((W ((ZI x.Doc.Zk (ZG x.Doc.ZU (W ((W ((W (k + 1)) + 1)) + 1))).2).2 + 1)) + 1)) + 1)) + 1)) + 1)) + 1)) + 1)) + 1)) + 1))).2).1)), (Yr x.ZJ.Zf (YC x.ZJ.ZL (W ((W ((W ((W ((W ((W ((W ((W ((W ((ZI x.Doc.Zk (ZG x.Doc.ZU (W ((W ((W (k + 1)) + 1)) + 1))).2).2 + 1)) + 1)) + 1)) + 1)) + 1)) + 1)) + 1)) + 1)) + 1))).2).2)
theorem Vp (a0 : List ZM) (a1 : Int) : XN a0 a1 = mkL Jb a0 a1 := by
  have h := K2 (F := Ko) (f := Jb) (fun _ _ _ _ => rfl) a0 [] (a0.length + 1) a1 (by omega)
  unfold XN
  simp only [List.length_nil, List.nil_append] at h
  rw [h]
@[simp] theorem sL (a0 : List ZM) (a1 : Int) : (XN a0 a1).1.length = a0.length := by rw [Vp, Qu]
theorem U4 : ∀ (x : ZM) (k : Int), 0 <= k -> k + (cn x : Nat) < 4611686018427387904 -> (Jb x k).2 = k + (cn x : Nat) := by
  intro x k h0 h
  simp only [Jb, Xk, Xd, yy, QL, ZM.Yz, ZT.Yz, Za.Yz, Zc.Yz] at h ⊢
  try simp (disch := omega) only [Wz]
  obtain ⟨m1, n1⟩ := TU x.Doc.ZU (((k + 1) + 1) + 1) (by omega) (by omega)
  have q1 := xG x.Doc.ZU (((k + 1) + 1) + 1) (by omega) (by omega)
  obtain ⟨m3, n3⟩ := ky x.Doc.Zk (ZG x.Doc.ZU (((k + 1) + 1) + 1)).2 (by omega) (by omega)
  have q3 := QW x.Doc.Zk (ZG x.Doc.ZU (((k + 1) + 1) + 1)).2 (by omega) (by omega)
  try simp (disch := omega) only [Wz]
  obtain ⟨m6, n6⟩ := Ik x.ZJ.ZL ((((((((((ZI x.Doc.Zk (ZG x.Doc.ZU (((k + 1) + 1) + 1)).2).2 + 1) + 1) + 1) + 1) + 1) + 1) + 1) + 1) + 1) (by omega) (by omega)
  have q6 := kl x.ZJ.ZL ((((((((((ZI x.Doc.Zk (ZG x.Doc.ZU (((k + 1) + 1) + 1)).2).2 + 1) + 1) + 1) + 1) + 1) + 1) + 1) + 1) + 1) (by omega) (by omega)
  obtain ⟨m8, n8⟩ := Nf x.ZJ.Zf (YC x.ZJ.ZL ((((((((((ZI x.Doc.Zk (ZG x.Doc.ZU (((k + 1) + 1) + 1)).2).2 + 1) + 1) + 1) + 1) + 1) + 1) + 1) + 1) + 1)).2 (by omega) (by omega)
  have q8 := jD x.ZJ.Zf (YC x.ZJ.ZL ((((((((((ZI x.Doc.Zk (ZG x.Doc.ZU (((k + 1) + 1) + 1)).2).2 + 1) + 1) + 1) + 1) + 1) + 1) + 1) + 1) + 1)).2 (by omega) (by omega)
  omega
theorem Wn (a0 : List ZM) (a1 : Int) (h0 : 0 <= a1) (h : a1 + (cn a0 : Nat) < 4611686018427387904) : (XN a0 a1).2 = a1 + (cn a0 : Nat) := by
  rw [Vp]
  exact Qt U4 a0 a1 h0 h
theorem F4 (a0 : List ZM) (a1 : Int) (h0 : 0 <= a1) (h : a1 + (cn a0 : Nat) < 4611686018427387904) : a1 <= (XN a0 a1).2 /\ (XN a0 a1).2 <= a1 + (cn a0 : Nat) := by
  have := Wn a0 a1 h0 h
  omega
def TC (x : ZM) (k : Int) (r : Int -> Sum Int Int) : Sum Int Int := (bif (x.Id != k) then (.inl (-1)) else (bif (x.XB != (W (k + 1))) then (.inl (-1)) else (bif (x.Doc.qn != (W ((W (k + 1)) + 1))) then (.inl (-1)) else (bif (decide ((Z3 x.Doc.ZU (W ((W ((W (k + 1)) + 1)) + 1))) < 0)) then (.inl (-1)) else (bif (decide ((Zr x.Doc.Zk (Z3 x.Doc.ZU (W ((W ((W (k + 1)) + 1)) + 1)))) < 0)) then (.inl (-1)) else (bif (x.Sig.Key != (Zr x.Doc.Zk (Z3 x.Doc.ZU (W ((W ((W (k + 1)) + 1)) + 1))))) then (.inl (-1)) else (bif (x.Sig.Zi != (W ((Zr x.Doc.Zk (Z3 x.Doc.ZU (W ((W ((W (k + 1)) + 1)) + 1)))) + 1))) then (.inl (-1)) else (bif (x.Sig.Method != (W ((W ((Zr x.Doc.Zk (Z3 x.Doc.ZU (W ((W ((W (k + 1)) + 1)) + 1)))) + 1)) + 1))) then (.inl (-1)) else (bif (x.Sig.Xa != (W ((W ((W ((Zr x.Doc.Zk (Z3 x.Doc.ZU (W ((W ((W (k + 1)) + 1)) + 1)))) + 1)) + 1)) + 1))) then (.inl (-1)) else (bif (x.Sig.qX != (W ((W ((W ((W ((Zr x.Doc.Zk (Z3 x.Doc.ZU (W ((W ((W (k + 1)) + 1)) + 1)))) + 1)) + 1)) + 1)) + 1))) then (.inl (-1)) else (bif (x.Sig.Org != (W ((W ((W ((W ((W ((Zr x.Doc.Zk (Z3 x.Doc.ZU (W ((W ((W (k + 1)) + 1)) + 1)))) + 1)) + 1)) + 1)) + 1)) + 1))) then (.inl (-1)) else (bif (x.Sig.qW != (W ((W ((W ((W ((W ((W ((Zr x.Doc.Zk (Z3 x.Doc.ZU (W ((W ((W (k + 1)) + 1)) + 1)))) + 1)) + 1)) + 1)) + 1)) + 1)) + 1))) then (.inl (-1)) else (bif (x.Sig.Wy != (W ((W ((W ((W ((W ((W ((W ((Zr x.Doc.Zk (Z3 x.Doc.ZU (W ((W ((W (k + 1)) + 1)) + 1)))) + 1)) + 1)) + 1)) + 1)) + 1)) + 1)) + 1))) then (.inl (-1)) else (bif (x.Sig.Mark != (W ((W ((W ((W ((W ((W ((W ((W ((Zr x.Doc.Zk (Z3 x.Doc.ZU (W ((W ((W (k + 1)) + 1)) + 1)))) + 1)) + 1)) + 1)) + 1)) + 1)) + 1)) + 1)) + 1))) then (.inl (-1)) else (bif (decide ((Jg x.ZJ.ZL (W ((W ((W ((W ((W ((W ((W ((W ((W ((Zr x.Doc.Zk (Z3 x.Doc.ZU (W ((W ((W (k + 1)) + 1)) + 1)))) + 1)) + 1)) + 1)) + 1)) + 1)) + 1)) + 1)) + 1)) + 1))) < 0)) then (.inl (-1)) else (bif (decide ((KK x.ZJ.Zf (Jg x.ZJ.ZL (W ((W ((W ((W ((W ((W ((W ((W ((W ((Zr x.Doc.Zk (Z3 x.Doc.ZU (W ((W ((W (k + 1)) + 1)) + 1)))) + 1)) + 1)) + 1)) + 1)) + 1)) + 1)) + 1)) + 1)) + 1)))) < 0)) then (.inl (-1)) else (r (KK x.ZJ.Zf (Jg x.ZJ.ZL (W ((W ((W ((W ((W ((W ((W ((W ((W ((Zr x.Doc.Zk (Z3 x.Doc.ZU (W ((W ((W (k + 1)) + 1)) + 1)))) + 1)) + 1)) + 1)) + 1)) + 1)) + 1)) + 1)) + 1)) + 1)))))))))))))))))))))
theorem DQ : ∀ (x : ZM) (k : Int) (r : Int -> Sum Int Int), 0 <= k -> k + (cn x : Nat) < 4611686018427387904 -> TC (Jb x k).1 k r = r (Jb x k).2 := by
  intro x k r h0 h
  simp only [Jb, TC, Xk, Xd, yy, QL, ZM.Yz, ZT.Yz, Za.Yz, Zc.Yz] at h ⊢
  try simp (disch := omega) only [Wz]
  obtain ⟨m1, n1, h1⟩ := Ma x.Doc.ZU (((k + 1) + 1) + 1) (by omega) (by omega)
  have q1 := xG x.Doc.ZU (((k + 1) + 1) + 1) (by omega) (by omega)
  have o1 : ¬ (ZG x.Doc.ZU (((k + 1) + 1) + 1)).2 < 0 := by omega
  obtain ⟨m4, n4, h4⟩ := xB x.Doc.Zk (ZG x.Doc.ZU (((k + 1) + 1) + 1)).2 (by omega) (by omega)
  have q4 := QW x.Doc.Zk (ZG x.Doc.ZU (((k + 1) + 1) + 1)).2 (by omega) (by omega)
  have o4 : ¬ (ZI x.Doc.Zk (ZG x.Doc.ZU (((k + 1) + 1) + 1)).2).2 < 0 := by omega
  try simp (disch := omega) only [Wz]
  obtain ⟨m8, n8, h8⟩ := HY x.ZJ.ZL ((((((((((ZI x.Doc.Zk (ZG x.Doc.ZU (((k + 1) + 1) + 1)).2).2 + 1) + 1) + 1) + 1) + 1) + 1) + 1) + 1) + 1) (by omega) (by omega)
  have q8 := kl x.ZJ.ZL ((((((((((ZI x.Doc.Zk (ZG x.Doc.ZU (((k + 1) + 1) + 1)).2).2 + 1) + 1) + 1) + 1) + 1) + 1) + 1) + 1) + 1) (by omega) (by omega)
  have o8 : ¬ (YC x.ZJ.ZL ((((((((((ZI x.Doc.Zk (ZG x.Doc.ZU (((k + 1) + 1) + 1)).2).2 + 1) + 1) + 1) + 1) + 1) + 1) + 1) + 1) + 1)).2 < 0 := by omega
  obtain ⟨m11, n11, aI⟩ := MF x.ZJ.Zf (YC x.ZJ.ZL ((((((((((ZI x.Doc.Zk (ZG x.Doc.ZU (((k + 1) + 1) + 1)).2).2 + 1) + 1) + 1) + 1) + 1) + 1) + 1) + 1) + 1)).2 (by omega) (by omega)
  have q11 := jD x.ZJ.Zf (YC x.ZJ.ZL ((((((((((ZI x.Doc.Zk (ZG x.Doc.ZU (((k + 1) + 1) + 1)).2).2 + 1) + 1) + 1) + 1) + 1) + 1) + 1) + 1) + 1)).2 (by omega) (by omega)
  have o11 : ¬ (Yr x.ZJ.Zf (YC x.ZJ.ZL ((((((((((ZI x.Doc.Zk (ZG x.Doc.ZU (((k + 1) + 1) + 1)).2).2 + 1) + 1) + 1) + 1) + 1) + 1) + 1) + 1) + 1)).2).2 < 0 := by omega
  simp (disch := omega) [Wz, h1, h4, h8, aI, o1, o4, o8, o11]
theorem Gq (a0 : List ZM) (a1 : Int) (h0 : 0 <= a1) (h : a1 + (cn a0 : Nat) < 4611686018427387904) : a1 <= (XN a0 a1).2 /\ (XN a0 a1).2 <= a1 + (cn a0 : Nat) /\ yU (XN a0 a1).1 a1 = (XN a0 a1).2 := by
  rw [Vp]
  have s := Qt U4 a0 a1 h0 h
  have hh := zQ (z := (mkL Jb a0 a1).1) (H := WR (mkL Jb a0 a1).1) (G := TC) (fun _ _ _ => rfl) U4 DQ a0 [] ((mkL Jb a0 a1).1.length + 1) a1 (by simp) (by rw [Qu]; omega) h0 h
  simp only [List.length_nil] at hh
  rw [X5] at *
  refine ⟨by omega, by omega, ?_⟩
  unfold yU
  rw [hh]
def QF (x : ZC) (k : Int) : ZC × Int := ((ZC.mk k (XN x.ZD (W (k + 1))).1), (XN x.ZD (W (k + 1))).2)
theorem je (a0 : List ZC) (a1 : Int) : Z9 a0 a1 = mkL QF a0 a1 := by
  have h := K2 (F := JO) (f := QF) (fun _ _ _ _ => rfl) a0 [] (a0.length + 1) a1 (by omega)
  unfold Z9
  simp only [List.length_nil, List.nil_append] at h
  rw [h]
@[simp] theorem vt (a0 : List ZC) (a1 : Int) : (Z9 a0 a1).1.length = a0.length := by rw [je, Qu]
theorem kd : ∀ (x : ZC) (k : Int), 0 <= k -> k + (cn x : Nat) < 4611686018427387904 -> (QF x k).2 = k + (cn x : Nat) := by
  intro x k h0 h
  simp only [QF, Xk, Xd, yy, QL, ZC.Yz] at h ⊢
  try simp (disch := omega) only [Wz]
  obtain ⟨m1, n1⟩ := F4 x.ZD (k + 1) (by omega) (by omega)
  have q1 := Wn x.ZD (k + 1) (by omega) (by omega)
  omega
theorem ND (a0 : List ZC) (a1 : Int) (h0 : 0 <= a1) (h : a1 + (cn a0 : Nat) < 4611686018427387904) : (Z9 a0 a1).2 = a1 + (cn a0 : Nat) := by
  rw [je]
  exact Qt kd a0 a1 h0 h
def kX (x : ZC) (k : Int) (r : Int -> Sum Int Int) : Sum Int Int := (bif (x.Id != k) then (.inl (-1)) else (bif (decide ((yU x.ZD (W (k + 1))) < 0)) then (.inl (-1)) else (r (yU x.ZD (W (k + 1))))))
theorem LL : ∀ (x : ZC) (k : Int) (r : Int -> Sum Int Int), 0 <= k -> k + (cn x : Nat) < 4611686018427387904 -> kX (QF x k).1 k r = r (QF x k).2 := by
  intro x k r h0 h
  simp only [QF, kX, Xk, Xd, yy, QL, ZC.Yz] at h ⊢
  try simp (disch := omega) only [Wz]
  obtain ⟨m1, n1, h1⟩ := Gq x.ZD (k + 1) (by omega) (by omega)
  have q1 := Wn x.ZD (k + 1) (by omega) (by omega)
  have o1 : ¬ (XN x.ZD (k + 1)).2 < 0 := by omega
  simp (disch := omega) [Wz, h1, o1]
theorem MR (a0 : List ZC) (a1 : Int) (h0 : 0 <= a1) (h : a1 + (cn a0 : Nat) < 4611686018427387904) : a1 <= (Z9 a0 a1).2 /\ (Z9 a0 a1).2 <= a1 + (cn a0 : Nat) /\ X9 (Z9 a0 a1).1 a1 = (Z9 a0 a1).2 := by
  rw [je]
  have s := Qt kd a0 a1 h0 h
  have hh := zQ (z := (mkL QF a0 a1).1) (H := qF (mkL QF a0 a1).1) (G := kX) (fun _ _ _ => rfl) kd LL a0 [] ((mkL QF a0 a1).1.length + 1) a1 (by simp) (by rw [Qu]; omega) h0 h
  simp only [List.length_nil] at hh
  rw [X5] at *
  refine ⟨by omega, by omega, ?_⟩
  unfold X9
  rw [hh]
@[simp] theorem Hz (a0 : ZH) (a1 : Int) : (Zz a0 a1).1.Frame.Zm.length = a0.Frame.Zm.length := by simp [Zz]
@[simp] theorem NN (a0 : ZH) (a1 : Int) : (Zz a0 a1).1.Frame.ZE.length = a0.Frame.ZE.length := by simp [Zz]
@[simp] theorem IB (a0 : ZH) (a1 : Int) : (Zz a0 a1).1.Frame.Methods.length = a0.Frame.Methods.length := by simp [Zz]
@[simp] theorem CL (a0 : ZH) (a1 : Int) : (Zz a0 a1).1.Frame.KZ = a0.Frame.KZ := rfl
@[simp] theorem Ae (a0 : ZH) (a1 : Int) : (Zz a0 a1).1.Frame.Now = a0.Frame.Now := rfl
@[simp] theorem Ad (a0 : ZH) (a1 : Int) : (Zz a0 a1).1.ZN.length = a0.ZN.length := by simp [Zz]
@[simp] theorem Ac (a0 : ZH) (a1 : Int) : (Zz a0 a1).1.Zl.length = a0.Zl.length := by simp [Zz]
@[simp] theorem Ea (a0 : ZH) (a1 : Int) : (Zz a0 a1).1.ZA.length = a0.ZA.length := by simp [Zz]
@[simp] theorem we (a0 : ZH) (a1 : Int) : (Zz a0 a1).1.YX.length = a0.YX.length := by simp [Zz]
@[simp] theorem Af (a0 : ZH) (a1 : Int) : (Zz a0 a1).1.YJ.length = a0.YJ.length := by simp [Zz]
@[simp] theorem sA (a0 : ZH) (a1 : Int) : (Zz a0 a1).1.Next = a0.Next := rfl
@[simp] theorem AO (a0 : ZH) (a1 : Int) : (Zz a0 a1).1.Z4.length = a0.Z4.length := by simp [Zz]
theorem Rm (a0 : ZH) (a1 : Int) (h0 : 0 <= a1) (h : a1 + (cn a0 : Nat) < 4611686018427387904) : a1 <= (Zz a0 a1).2 /\ (Zz a0 a1).2 <= a1 + (cn a0 : Nat) /\ yS (Zz a0 a1).1 a1 = (Zz a0 a1).2 := by
  simp only [Zz, yS, Xk, Xd, QL, ZH.Yz] at h ⊢
  obtain ⟨m0, n0, h0⟩ := Gn a0.Frame a1 (by omega) (by omega)
  have o0 : ¬ (Zu a0.Frame a1).2 < 0 := by omega
  obtain ⟨m2, n2, h2⟩ := FC a0.ZN (Zu a0.Frame a1).2 (by omega) (by omega)
  have q2 := I3 a0.ZN (Zu a0.Frame a1).2 (by omega) (by omega)
  have o2 : ¬ (Z8 a0.ZN (Zu a0.Frame a1).2).2 < 0 := by omega
  obtain ⟨m5, n5, h5⟩ := xB a0.Zl (Z8 a0.ZN (Zu a0.Frame a1).2).2 (by omega) (by omega)
  have q5 := QW a0.Zl (Z8 a0.ZN (Zu a0.Frame a1).2).2 (by omega) (by omega)
  have o5 : ¬ (ZI a0.Zl (Z8 a0.ZN (Zu a0.Frame a1).2).2).2 < 0 := by omega
  obtain ⟨m8, n8, h8⟩ := MR a0.ZA (ZI a0.Zl (Z8 a0.ZN (Zu a0.Frame a1).2).2).2 (by omega) (by omega)
  have q8 := ND a0.ZA (ZI a0.Zl (Z8 a0.ZN (Zu a0.Frame a1).2).2).2 (by omega) (by omega)
  have o8 : ¬ (Z9 a0.ZA (ZI a0.Zl (Z8 a0.ZN (Zu a0.Frame a1).2).2).2).2 < 0 := by omega
  obtain ⟨m11, n11, aI⟩ := xB a0.YX (Z9 a0.ZA (ZI a0.Zl (Z8 a0.ZN (Zu a0.Frame a1).2).2).2).2 (by omega) (by omega)
  have q11 := QW a0.YX (Z9 a0.ZA (ZI a0.Zl (Z8 a0.ZN (Zu a0.Frame a1).2).2).2).2 (by omega) (by omega)
  have o11 : ¬ (ZI a0.YX (Z9 a0.ZA (ZI a0.Zl (Z8 a0.ZN (Zu a0.Frame a1).2).2).2).2).2 < 0 := by omega
  obtain ⟨m14, n14, h14⟩ := xB a0.YJ (ZI a0.YX (Z9 a0.ZA (ZI a0.Zl (Z8 a0.ZN (Zu a0.Frame a1).2).2).2).2).2 (by omega) (by omega)
  have q14 := QW a0.YJ (ZI a0.YX (Z9 a0.ZA (ZI a0.Zl (Z8 a0.ZN (Zu a0.Frame a1).2).2).2).2).2 (by omega) (by omega)
  have o14 : ¬ (ZI a0.YJ (ZI a0.YX (Z9 a0.ZA (ZI a0.Zl (Z8 a0.ZN (Zu a0.Frame a1).2).2).2).2).2).2 < 0 := by omega
  obtain ⟨m17, n17, h17⟩ := xB a0.Z4 (ZI a0.YJ (ZI a0.YX (Z9 a0.ZA (ZI a0.Zl (Z8 a0.ZN (Zu a0.Frame a1).2).2).2).2).2).2 (by omega) (by omega)
  have q17 := QW a0.Z4 (ZI a0.YJ (ZI a0.YX (Z9 a0.ZA (ZI a0.Zl (Z8 a0.ZN (Zu a0.Frame a1).2).2).2).2).2).2 (by omega) (by omega)
  have o17 : ¬ (ZI a0.Z4 (ZI a0.YJ (ZI a0.YX (Z9 a0.ZA (ZI a0.Zl (Z8 a0.ZN (Zu a0.Frame a1).2).2).2).2).2).2).2 < 0 := by omega
  refine ⟨by omega, by omega, ?_⟩
  simp (disch := omega) [Wz, h0, h2, h5, h8, aI, h14, h17, o0, o2, o5, o8, o11, o14, o17]
def kI (x : Zp) (k : Int) : Zp × Int := ((Zp.mk k (W (k + 1)) (W ((W (k + 1)) + 1)) (W ((W ((W (k + 1)) + 1)) + 1)) (W ((W ((W ((W (k + 1)) + 1)) + 1)) + 1)) (ZT.mk (W ((W ((W ((W ((W (k + 1)) + 1)) + 1)) + 1)) + 1)) (ZG x.Doc.ZU (W ((W ((W ((W ((W ((W (k + 1)) + 1)) + 1)) + 1)) + 1)) + 1))).1 (ZI x.Doc.Zk (ZG x.Doc.ZU (W ((W ((W ((W ((W ((W (k + 1)) + 1)) + 1)) + 1)) + 1)) + 1))).2).1) (ZI x.Ids (ZI x.Doc.Zk (ZG x.Doc.ZU (W ((W ((W ((W ((W ((W (k + 1)) + 1)) + 1)) + 1)) + 1)) + 1))).2).2).1), (ZI x.Ids (ZI x.Doc.Zk (ZG x.Doc.ZU (W ((W ((W ((W ((W ((W (k + 1)) + 1)) + 1)) + 1)) + 1)) + 1))).2).2).2)
theorem RO (a0 : List Zp) (a1 : Int) : JD a0 a1 = mkL kI a0 a1 := by
  have h := K2 (F := KE) (f := kI) (fun _ _ _ _ => rfl) a0 [] (a0.length + 1) a1 (by omega)
  unfold JD
  simp only [List.length_nil, List.nil_append] at h
  rw [h]
@[simp] theorem tY (a0 : List Zp) (a1 : Int) : (JD a0 a1).1.length = a0.length := by rw [RO, Qu]
theorem Ff : ∀ (x : Zp) (k : Int), 0 <= k -> k + (cn x : Nat) < 4611686018427387904 -> (kI x k).2 = k + (cn x : Nat) := by
  intro x k h0 h
  simp only [kI, Xk, Xd, yy, QL, Zp.Yz, ZT.Yz] at h ⊢
  try simp (disch := omega) only [Wz]
  obtain ⟨m1, n1⟩ := TU x.Doc.ZU ((((((k + 1) + 1) + 1) + 1) + 1) + 1) (by omega) (by omega)
  have q1 := xG x.Doc.ZU ((((((k + 1) + 1) + 1) + 1) + 1) + 1) (by omega) (by omega)
  obtain ⟨m3, n3⟩ := ky x.Doc.Zk (ZG x.Doc.ZU ((((((k + 1) + 1) + 1) + 1) + 1) + 1)).2 (by omega) (by omega)
  have q3 := QW x.Doc.Zk (ZG x.Doc.ZU ((((((k + 1) + 1) + 1) + 1) + 1) + 1)).2 (by omega) (by omega)
  obtain ⟨m5, n5⟩ := ky x.Ids (ZI x.Doc.Zk (ZG x.Doc.ZU ((((((k + 1) + 1) + 1) + 1) + 1) + 1)).2).2 (by omega) (by omega)
  have q5 := QW x.Ids (ZI x.Doc.Zk (ZG x.Doc.ZU ((((((k + 1) + 1) + 1) + 1) + 1) + 1)).2).2 (by omega) (by omega)
  omega
theorem Lc (a0 : List Zp) (a1 : Int) (h0 : 0 <= a1) (h : a1 + (cn a0 : Nat) < 4611686018427387904) : (JD a0 a1).2 = a1 + (cn a0 : Nat) := by
  rw [RO]
  exact Qt Ff a0 a1 h0 h
theorem HN (a0 : List Zp) (a1 : Int) (h0 : 0 <= a1) (h : a1 + (cn a0 : Nat) < 4611686018427387904) : a1 <= (JD a0 a1).2 /\ (JD a0 a1).2 <= a1 + (cn a0 : Nat) := by
  have := Lc a0 a1 h0 h
  omega
theorem Eo {n : Nat} {x : Z1} (h : 7 <= n) : Sm n (xj x) := ⟨by simp [xj]; omega, fun _ _ => trivial⟩
@[simp] theorem rW (x : Z1) : (xj x).length = 7 := rfl
theorem Dd {n : Nat} {x : Z1} (h : 7 <= n) : Sm n (xR x) := ⟨by simp [xR]; omega, fun _ _ => trivial⟩
@[simp] theorem sZ (x : Z1) : (xR x).length = 7 := rfl
theorem FF {n : Nat} {x : ZW} (h : 5 <= n) : Sm n (Kq x) := ⟨by simp [Kq]; omega, fun _ _ => trivial⟩
@[simp] theorem sP (x : ZW) : (Kq x).length = 5 := rfl
theorem GJ {n : Nat} {x : ZW} (h : 5 <= n) : Sm n (KB x) := ⟨by simp [KB]; omega, fun _ _ => trivial⟩
@[simp] theorem sI (x : ZW) : (KB x).length = 5 := rfl
theorem RJ {n : Nat} {x : Z0} (h : 5 <= n) : Sm n (J2 x) := ⟨by simp [J2]; omega, fun _ _ => trivial⟩
@[simp] theorem tv (x : Z0) : (J2 x).length = 5 := rfl
theorem RD {n : Nat} {x : Z0} (h : 5 <= n) : Sm n (Jm x) := ⟨by simp [Jm]; omega, fun _ _ => trivial⟩
@[simp] theorem tS (x : Z0) : (Jm x).length = 5 := rfl
theorem Vi {n : Nat} {x : Zc} (h : 9 <= n) : Sm n (Qe x) := ⟨by simp [Qe]; omega, fun _ _ => trivial⟩
@[simp] theorem vY (x : Zc) : (Qe x).length = 9 := rfl
theorem UG {n : Nat} {x : Zc} (h : 9 <= n) : Sm n (QD x) := ⟨by simp [QD]; omega, fun _ _ => trivial⟩
@[simp] theorem vW (x : Zc) : (QD x).length = 9 := rfl
theorem GY {a : Za} (h : yj a = true) : 0 < a.ZL.length := by
  unfold yj at h
  split at h
  · rename_i r e
    have : ∀ n v, qD a n v ≠ .inl true := by
      intro n
      induction n with
      | zero => intro v h; cases h
      | succ n ih =>
        intro v h
        rw [qD] at h
        cases h1 : decide ((v : Int) < (a.ZL.length : Int)) with
        | false => rw [h1] at h; cases h
        | true =>
          rw [h1] at h
          cases h2 : decide (jc a (nth a.ZL v) < (v : Int)) with
          | true => rw [h2] at h; cases h
          | false => rw [h2] at h; exact ih _ h
    subst h; exact absurd e (this _ _)
  · split at h
    · rename_i r e
      have : ∀ n v, qC a n v ≠ .inl true := by
        intro n
        induction n with
        | zero => intro v h; cases h
        | succ n ih =>
          intro v h
          rw [qC] at h
          generalize decide ((v : Int) < (a.Zf.length : Int)) = c1 at h
          cases c1 with
          | false => cases h
          | true =>
            simp only [cond_true] at h
            generalize (!YN (nth a.Zf v).Count 1 (a.ZL.length : Int) || decide ((v : Int) > 0) && decide ((nth a.Zf (v - 1)).Count > (nth a.Zf v).Count)) = c2 at h
            cases c2 with
            | true => cases h
            | false => exact ih _ h
      subst h; exact absurd e (this _ _)
    · simp only [YN, Bool.and_eq_true, decide_eq_true_eq] at h; omega
theorem EO {a : Za} (h : zp a = true) : 0 < a.ZL.length := by
  unfold zp at h
  generalize (match qS a (a.ZL.length + 1) 0 with | .inl r1 => r1 | .inr _ => (match qN a (a.Zf.length + 1) 0 with | .inl r2 => r2 | .inr _ => true)) = m at h
  cases hh : Zn (a.ZL.length : Int) 1 12 with
  | false => rw [hh] at h; simp at h
  | true => simp only [Zn, Bool.and_eq_true, decide_eq_true_eq] at hh; omega
theorem M3 {a : ZT} (h : ze a = true) : a.Zk.length = a.ZU.length := by
  unfold ze at h
  split at h
  · rename_i r e
    have : ∀ n v, yK a n v ≠ .inl true := by
      intro n
      induction n with
      | zero => intro v h; cases h
      | succ n ih =>
        intro v h
        rw [yK] at h
        generalize decide ((v : Int) < (a.ZU.length : Int)) = c1 at h
        cases c1 with
        | false => cases h
        | true =>
          simp only [cond_true] at h
          generalize decide (((nth a.ZU v).size : Int) > 40) = c2 at h
          cases c2 with
          | true => cases h
          | false => exact ih _ h
    subst h; exact absurd e (this _ _)
  · split at h
    · rename_i r e
      have : ∀ n v, zy a n v ≠ .inl true := by
        intro n
        induction n with
        | zero => intro v h; cases h
        | succ n ih =>
          intro v h
          rw [zy] at h
          generalize decide ((v : Int) < (a.Zk.length : Int)) = c1 at h
          cases c1 with
          | false => cases h
          | true =>
            simp only [cond_true] at h
            generalize (!YN (nth a.Zk v) 1 1000000000000) = c2 at h
            cases c2 with
            | true => cases h
            | false => exact ih _ h
      subst h; exact absurd e (this _ _)
    · simp only [Bool.and_eq_true, beq_iff_eq] at h; omega
theorem Mq {a : ZT} (h : zg a = true) : a.Zk.length = a.ZU.length := by
  unfold zg at h
  generalize (match yB a (a.ZU.length + 1) 0 with | .inl r1 => r1 | .inr _ => true) = m at h
  by_cases hh : a.Zk.length = a.ZU.length
  · exact hh
  · rw [show ((a.Zk.length : Int) != (a.ZU.length : Int)) = true by simp; omega] at h
    simp at h
theorem Y8 (a0 : ZH) (a1 : Int) (h : 0 <= (ZF a0 a1).1) : (ZF a0 a1).1.toNat < a0.ZA.length /\ 0 <= (ZF a0 a1).2 /\ (ZF a0 a1).2.toNat < (nth a0.ZA (ZF a0 a1).1.toNat).ZD.length := by
  have key : ∀ n v r, xS a0 a1 n v = .inl r -> r.1.toNat < a0.ZA.length /\ 0 <= r.2 /\ r.2.toNat < (nth a0.ZA r.1.toNat).ZD.length := by
    intro n
    induction n with
    | zero => intro v r h; cases h
    | succ n ih =>
      intro v r h
      rw [xS] at h
      cases h1 : decide ((v : Int) < (a0.ZA.length : Int)) with
      | false => rw [h1] at h; cases h
      | true =>
        rw [h1] at h
        simp only [cond_true] at h
        cases h2 : decide (Yj (nth a0.ZA v) a1 >= 0) with
        | false => rw [h2] at h; exact ih _ _ h
        | true =>
          rw [h2] at h; cases h
          simp at h1 h2
          have := U3 (nth a0.ZA v) a1
          simp only [Int.toNat_natCast]
          exact ⟨h1, h2, by omega⟩
  unfold ZF at h ⊢
  cases hh : xS a0 a1 (a0.ZA.length + 1) 0 with
  | inl r => rw [hh] at h; exact key _ _ r hh
  | inr u => rw [hh] at h; simp at h
theorem Kl (a0 : ZH) (a1 : Int) (h : 0 <= (ZV a0 a1).1) : (ZV a0 a1).1.toNat < a0.ZA.length /\ 0 <= (ZV a0 a1).2 /\ (ZV a0 a1).2.toNat < (nth a0.ZA (ZV a0 a1).1.toNat).ZD.length := by
  have key : ∀ n v r, xp a0 a1 n v = .inl r -> r.1.toNat < a0.ZA.length /\ 0 <= r.2 /\ r.2.toNat < (nth a0.ZA r.1.toNat).ZD.length := by
    intro n
    induction n with
    | zero => intro v r h; cases h
    | succ n ih =>
      intro v r h
      rw [xp] at h
      cases h1 : decide ((v : Int) < (a0.ZA.length : Int)) with
      | false => rw [h1] at h; cases h
      | true =>
        rw [h1] at h
        simp only [cond_true] at h
        cases h2 : decide (ZX (nth a0.ZA v) a1 >= 0) with
        | false => rw [h2] at h; exact ih _ _ h
        | true =>
          rw [h2] at h; cases h
          simp at h1 h2
          have := Q5 (nth a0.ZA v) a1
          simp only [Int.toNat_natCast]
          exact ⟨h1, h2, by omega⟩
  unfold ZV at h ⊢
  cases hh : xp a0 a1 (a0.ZA.length + 1) 0 with
  | inl r => rw [hh] at h; exact key _ _ r hh
  | inr u => rw [hh] at h; simp at h
theorem VV {a : Int} {n : Nat} (hn : n <= 9223372036854775807) (h : YN a 0 (W ((n : Int) - 1)) = true) : 0 <= a /\ a < n := by
  rw [rz n hn] at h
  simp only [YN, Bool.and_eq_true, decide_eq_true_eq] at h; omega
@[simp] theorem pP (l : List UInt8) : (kr l).length = l.length := by
  have key : ∀ n (acc : List Int) v, l.length < n + v -> v <= l.length -> (xo l n acc v).length = acc.length + (l.length - v) := by
    intro n
    induction n with
    | zero => intro acc v h1 h2; omega
    | succ n ih =>
      intro acc v h1 h2
      rw [xo]
      by_cases hv : v < l.length
      · rw [show decide ((v : Int) < (l.length : Int)) = true by simpa using hv, cond_true, ih _ (v + 1) (by omega) (by omega)]
        simp; omega
      · rw [show decide ((v : Int) < (l.length : Int)) = false by simpa using hv, cond_false]; omega
  have := key (l.length + 1) [] 0 (by omega) (by omega)
  simpa [kr] using this
theorem qq {n : Nat} {a0 : Za} {a1 : ZT} (h : Sm n a0) : Sm n (J9 a0 a1) := by
  have key : ∀ n (acc : List Int) v, a0.Zf.length < n + v -> v <= a0.Zf.length -> (yF a0 a1 n acc v).length = acc.length + (a0.Zf.length - v) := by
    intro n
    induction n with
    | zero => intro acc v h1 h2; omega
    | succ n ih =>
      intro acc v h1 h2
      rw [yF]
      by_cases hv : v < a0.Zf.length
      · rw [show decide ((v : Int) < (a0.Zf.length : Int)) = true by simpa using hv, cond_true, ih _ (v + 1) (by omega) (by omega)]
        simp; omega
      · rw [show decide ((v : Int) < (a0.Zf.length : Int)) = false by simpa using hv, cond_false]; omega
  have h2 := key (a0.Zf.length + 1) [] 0 (by omega) (by omega)
  have h3 := XP (Za.kH h)
  refine ⟨?_, fun _ _ => trivial⟩
  unfold J9
  simp only [List.length_nil, Nat.zero_add, Nat.sub_zero] at h2
  rw [h2]; exact h3
theorem KS (a0 : ZO) : (Qj a0 = 101 -> a0.Ys.length = 7) /\ (Qj a0 = 102 -> a0.Ys.length = 5) /\ (Qj a0 = 103 -> a0.Ys.length = 5) /\ (Qj a0 = 104 -> a0.Ys.length = 9) /\ (Qj a0 = 105 -> a0.Ys.length = 6) := by
  have key : ∀ v : Int, v ≠ 0 -> Qj a0 = v -> nth a0.Ys 0 = v /\ (a0.Ys.length : Int) = nth ([7, 5, 5, 9, 6] : List Int) (W (v - 101)).toNat := by
    intro v hv h
    unfold Qj at h
    cases c0 : (((a0.Ys.length : Int) == 0) || (!(YN (nth a0.Ys 0) 101 105)))
    · rw [c0, cond_false] at h
      cases c1 : ((a0.Ys.length : Int) != (nth ([7, 5, 5, 9, 6] : List Int) (W ((nth a0.Ys 0) - 101)).toNat))
      · rw [c1, cond_false] at h
        simp only [bne_eq_false_iff_eq] at c1
        exact ⟨h, by rw [<- h]; exact c1⟩
      · rw [c1, cond_true] at h; exact absurd h.symm hv
    · rw [c0, cond_true] at h; exact absurd h.symm hv
  refine ⟨fun h => ?_, fun h => ?_, fun h => ?_, fun h => ?_, fun h => ?_⟩ <;> (have := (key _ (by decide) h).2; simp [nth, K1] at this; omega)
theorem KR (a0 : ZO) : (Qf a0 = 101 -> a0.Ys.length = 7) /\ (Qf a0 = 102 -> a0.Ys.length = 5) /\ (Qf a0 = 103 -> a0.Ys.length = 5) /\ (Qf a0 = 104 -> a0.Ys.length = 9) /\ (Qf a0 = 105 -> a0.Ys.length = 6) := by
  have key : ∀ v : Int, v ≠ 0 -> Qf a0 = v -> nth a0.Ys 0 = v /\ (a0.Ys.length : Int) = nth ([7, 5, 5, 9, 6] : List Int) (W (v - 101)).toNat := by
    intro v hv h
    unfold Qf at h
    cases c1 : ((((a0.Ys.length : Int) == 0) || (!(Zn (nth a0.Ys 0) 101 105))) || ((a0.Ys.length : Int) != (nth ([7, 5, 5, 9, 6] : List Int) (W ((nth a0.Ys 0) - 101)).toNat)))
    · rw [c1, cond_false] at h
      simp only [Bool.or_eq_false_iff, bne_eq_false_iff_eq] at c1
      exact ⟨h, by rw [<- h]; exact c1.2⟩
    · rw [c1, cond_true] at h; exact absurd h.symm hv
  refine ⟨fun h => ?_, fun h => ?_, fun h => ?_, fun h => ?_, fun h => ?_⟩ <;> (have := (key _ (by decide) h).2; simp [nth, K1] at this; omega)
theorem Ul (a0 : Int) (a1 : List Int) (h : a1.length <= 1048576) : 2 * (WA a0 a1).length = a1.length + a1.length % 2 := by
  have key : ∀ n v i, a1.length + 1 < 2 * n + i -> i <= a1.length + 1 -> i % 2 = 0 -> 2 * (xx a0 a1 n v i).length = 2 * v.length + (a1.length + a1.length % 2 - i) := by
    intro n
    induction n with
    | zero => intro v i h1 h2; omega
    | succ n ih =>
      intro v i h1 h2 h3
      unfold xx
      by_cases hi : i < a1.length
      · rw [show decide ((i : Int) < (a1.length : Int)) = true by simp [hi], cond_true]
        have e : ∀ x, 2 * (xx a0 a1 n (v ++ [x]) (i + 2)).length = 2 * v.length + (a1.length + a1.length % 2 - i) := by
          intro x
          have := ih (v ++ [x]) (i + 2) (by omega) (by omega) (by omega)
          rw [this, List.length_append, List.length_singleton]; omega
        exact ZS (p := fun (r : List Int) => 2 * r.length = 2 * v.length + (a1.length + a1.length % 2 - i)) (e _) (e _)
      · rw [show decide ((i : Int) < (a1.length : Int)) = false by simp; omega, cond_false]; omega
  have := key (a1.length + 1) [] 0 (by omega) (by omega) (by omega)
  unfold WA
  rw [this]; simp
theorem xt (a0 : Int) (a1 : List Int) (h : a1.length <= 1048576) : 2 * (J6 a0 a1).length = a1.length + a1.length % 2 := by
  have key : ∀ n v i, a1.length + 1 < 2 * n + i -> i <= a1.length + 1 -> i % 2 = 0 -> 2 * (Jj a0 a1 n v i).length = 2 * v.length + (a1.length + a1.length % 2 - i) := by
    intro n
    induction n with
    | zero => intro v i h1 h2; omega
    | succ n ih =>
      intro v i h1 h2 h3
      unfold Jj
      by_cases hi : i < a1.length
      · rw [show decide ((i : Int) < (a1.length : Int)) = true by simp [hi], cond_true]
        have e : ∀ x, 2 * (Jj a0 a1 n (v ++ [x]) (i + 2)).length = 2 * v.length + (a1.length + a1.length % 2 - i) := by
          intro x
          have := ih (v ++ [x]) (i + 2) (by omega) (by omega) (by omega)
          rw [this, List.length_append, List.length_singleton]; omega
        exact ZS (p := fun (r : List Int) => 2 * r.length = 2 * v.length + (a1.length + a1.length % 2 - i)) (e _) (e _)
      · rw [show decide ((i : Int) < (a1.length : Int)) = false by simp; omega, cond_false]; omega
  have := key (a1.length + 1) [] 0 (by omega) (by omega) (by omega)
  unfold J6
  rw [this]; simp
theorem j3 {n : Nat} {a0 : ZC} {a1 : Int} (h : Sm n a0) : Sm n (YB a0 a1) := by
  refine ⟨?_, fun _ _ => trivial⟩
  have e := wv (F := KA a0 a1) (fun _ _ => rfl) (fun _ _ _ => rfl) (a0.ZD.length + 1) [] 0
  have : (YB a0 a1).length <= 0 + (a0.ZD.length - 0) := e
  have := XP (show Sm n a0.ZD from h)
  omega
theorem qv (a0 : ZC) (a1 : Int) : (YB a0 a1).length = a0.ZD.length := by
  have key : ∀ n v i, i <= a0.ZD.length -> a0.ZD.length < n + i -> (KA a0 a1 n v i).length = v.length + (a0.ZD.length - i) := by
    intro n
    induction n with
    | zero => intro v i h0 h; omega
    | succ n ih =>
      intro v i h0 h
      rw [KA]
      by_cases hc : (i : Int) < (a0.ZD.length : Int)
      · simp only [decide_eq_true hc, cond_true]
        rw [ih _ _ (by omega) (by omega)]
        simp
        omega
      · simp only [decide_eq_false hc, cond_false]
        omega
  have := key (a0.ZD.length + 1) [] 0 (by omega) (by omega)
  exact this.trans (by simp)
theorem V0 {n : Nat} {a0 : ZC} {a1 : Int} (h : Sm n a0) : Sm n (Xi a0 a1) := by
  refine ⟨?_, fun _ _ => trivial⟩
  have e := wv (F := y3 a0 a1) (fun _ _ => rfl) (fun _ _ _ => rfl) (a0.ZD.length + 1) [] 0
  have : (Xi a0 a1).length <= 0 + (a0.ZD.length - 0) := e
  have := XP (show Sm n a0.ZD from h)
  omega
theorem J8 (a0 : ZH) (a1 : Int) (h : (YE a0 a1).2.2 = true) : 0 <= (YE a0 a1).1 /\ (YE a0 a1).1 < (a0.ZA.length : Int) /\ 0 <= (YE a0 a1).2.1 /\ (YE a0 a1).2.1 < (a0.ZN.length : Int) :=
  Jp (p := fun (r : Int × Int × Bool) => r.2.2 = true -> 0 <= r.1 /\ r.1 < (a0.ZA.length : Int) /\ 0 <= r.2.1 /\ r.2.1 < (a0.ZN.length : Int)) (fun _ h => by simp at h) (fun hc h => by
    simp only [Bool.or_eq_false_iff, decide_eq_false_iff_not] at hc
    have f := Kl a0 a1 (by omega)
    dsimp only at h ⊢
    rw [Bool.and_eq_true, decide_eq_true_eq] at h
    have h2 := h.2
    exact ⟨by omega, by omega, by omega, DH _ _⟩) h
theorem EA {n : Nat} {x : Z1} (h : 7 <= n) : Sm n (jd x) := Eo h
theorem PN {n : Nat} {x : Z1} (h : 7 <= n) : Sm n (JL x) := Dd h
theorem kh {n : Nat} {x : Z0} (h : 5 <= n) : Sm n (Y0 x) := RJ h
theorem Tn {n : Nat} {x : Z0} (h : 5 <= n) : Sm n (Xc x) := RD h
theorem FU {n : Nat} {x : Zc} (h : 9 <= n) : Sm n (yT x) := Vi h
theorem Rj {n : Nat} {x : Zc} (h : 9 <= n) : Sm n (Qd x) := UG h
theorem ZY {a0 : List YZ} {a1 : Z0} (h : (Ya a0 a1).2 = true) : 0 <= Ye a0 a1.Z2 := by
  unfold Ya at h
  cases hc : ((!(kc a1)) || (decide ((Ye a0 a1.Z2) < 0))) with
  | true => rw [hc] at h; simp at h
  | false => simp at hc; exact hc.2
theorem VF {n : Nat} {a0 : ZH} {a1 : Int} {a2 : ZT} {a3 a4 : Int} (h : Sm n a2) (hn : 9 <= n) : Sm n (Xv a0 a1 a2 a3 a4).1 := by
  unfold Xv
  cases ((decide ((Zg a0.Frame.Methods a0.Frame.Now) < 0)) || (decide ((XY a0 a1) < 0))) with
  | true => exact ⟨⟨SQ, SQ⟩, SQ, SQ⟩
  | false =>
    refine ⟨h, ⟨by simp; omega, fun y hy => ?_⟩, SQ⟩
    rcases List.mem_cons.1 hy with rfl | hy
    · exact FU (by omega)
    rcases List.mem_cons.1 hy with rfl | hy
    · exact EA (by omega)
    · cases hy
theorem SG {n : Nat} {a0 : ZC} {a1 : ZM} (h : Sm n a0) (hx : Sm (n + 1) a1) : Sm (n + 1) (XZ a0 a1).1 := by
  have h1 : Sm (n + 1) a0 := ZZ (Nat.le_succ n) h
  unfold XZ
  cases ((decide ((ZX a0 a1.Id) >= 0)) || (!(Jq a0))) with
  | true => exact h1
  | false =>
    simp only [cond_false]
    generalize XH a0 a1 (a0.ZD.length + 1) 0 = z
    cases (!(Jq (ZC.mk a0.Id (((a0.ZD.take z) ++ ([a1] : List ZM)) ++ (a0.ZD.drop z))))) with
    | true => exact h1
    | false =>
      refine ⟨by have := ZC.YO h; have := this.1; simp; omega, fun y hy => ?_⟩
      have hy' : y ∈ a0.ZD.take z \/ y = a1 \/ y ∈ a0.ZD.drop z := by simpa using hy
      rcases hy' with hy | rfl | hy
      · exact h1.2 y (List.mem_of_mem_take hy)
      · exact hx
      · exact h1.2 y (List.mem_of_mem_drop hy)
theorem Vo {n : Nat} {a0 : ZC} {a1 : ZM} (h : Sm n a0) (hx : Sm n a1) : ∀ (m : Nat) (b : Bool) (i : Nat) (l : List ZM), l.length <= i + (bif b then 1 else 0) -> i <= a0.ZD.length -> (∀ y ∈ l, Sm n y) ->
    (QZ a0 a1 m b i l).2.length <= a0.ZD.length + (bif (QZ a0 a1 m b i l).1 then 1 else 0) /\ ∀ y ∈ (QZ a0 a1 m b i l).2, Sm n y
  | 0, b, i, l, _, _, _ => ⟨Nat.zero_le _, fun y hy => by cases hy⟩
  | m + 1, b, i, l, hl, hi, hs => by
    unfold QZ
    cases hc : decide ((i : Int) < (a0.ZD.length : Int)) with
    | false =>
      simp only [cond_false]
      refine ⟨?_, hs⟩
      have : ¬ ((i : Int) < a0.ZD.length) := by simpa using hc
      omega
    | true =>
      have ij : i < a0.ZD.length := by simpa using hc
      have hn : Sm n (nth a0.ZD i) := Z7 h
      simp only [cond_true]
      cases hd : ((!b) && (decide (a1.Id < (nth a0.ZD i).Id))) with
      | true =>
        have hb : b = false := by cases b <;> simp_all
        subst hb
        simp only [cond_true]
        refine Vo h hx m true (i + 1) _ (by simp at hl ⊢; omega) ij (fun y hy => ?_)
        simp only [List.append_assoc, List.mem_append, List.mem_cons, List.not_mem_nil, or_false] at hy
        rcases hy with hy | rfl | rfl
        · exact hs y hy
        · exact hx
        · exact hn
      | false =>
        simp only [cond_false]
        refine Vo h hx m b (i + 1) _ (by simp at hl ⊢; omega) ij (fun y hy => ?_)
        simp only [List.mem_append, List.mem_cons, List.not_mem_nil, or_false] at hy
        rcases hy with hy | rfl
        · exact hs y hy
        · exact hn
theorem Bn {n : Nat} {a0 : ZC} {a1 : ZM} (h : Sm n a0) (hx : Sm n a1) : Sm (n + 1) (Q0 a0 a1).1 := by
  have h1 : Sm (n + 1) a0 := ZZ (Nat.le_succ n) h
  unfold Q0
  cases ((!(JP a0)) || (decide ((Yj a0 a1.Id) >= 0))) with
  | true => exact h1
  | false =>
    have hz := Vo h hx (a0.ZD.length + 1) false 0 [] (Nat.zero_le _) (Nat.zero_le _) (fun y hy => by cases hy)
    have hlen := (ZC.YO h).1
    simp only [cond_false]
    generalize hq : QZ a0 a1 (a0.ZD.length + 1) false 0 [] = z at hz ⊢
    obtain ⟨z0, z1⟩ := z
    cases z0 with
    | false =>
      simp only [Bool.not_false, cond_true]
      cases (!(JP (ZC.mk a0.Id (z1 ++ ([a1] : List ZM))))) with
      | true => exact h1
      | false =>
        refine ⟨by have := hz.1; simp at this ⊢; omega, fun y hy => ?_⟩
        have hy' : y ∈ z1 \/ y = a1 := by simpa using hy
        rcases hy' with hy | rfl
        · exact ZZ (Nat.le_succ n) (hz.2 y hy)
        · exact ZZ (Nat.le_succ n) hx
    | true =>
      simp only [Bool.not_true, cond_false]
      cases (!(JP (ZC.mk a0.Id z1))) with
      | true => exact h1
      | false => exact ⟨by have := hz.1; simp at this ⊢; omega, fun y hy => ZZ (Nat.le_succ n) (hz.2 y hy)⟩
theorem RW {n : Nat} {a0 : ZH} {a1 a2 : Int} {a3 : ZT} {a4 a5 : Int} (h : Sm n a0) (hd : Sm n a3) (hn : 9 <= n) : ∀ (m v : Nat) (r : ZH × Bool), QO a0 a1 a2 a3 a4 a5 m v = .inl r -> Sm (n + 1) r.1
  | 0, v, r, e => by cases e
  | m + 1, v, r, e => by
    have h1 : Sm (n + 1) a0 := ZZ (Nat.le_succ n) h
    unfold QO at e
    cases hc : decide ((v : Int) < (a0.ZN.length : Int)) with
    | false => rw [hc] at e; cases e
    | true =>
      rw [hc] at e
      simp only [cond_true] at e
      cases hk : ((nth a0.ZN v).Key != a2) with
      | true => rw [hk] at e; exact RW h hd hn m (v + 1) r e
      | false =>
        rw [hk] at e
        simp only [cond_false] at e
        generalize hq : (ZM.mk a0.Next a5 a3 (Y5 a0.Frame.Zm (Zc.mk a2 (nth a0.ZN v).Zi (ZP a0.Frame.Methods a0.Frame.Now) (Yc (ZP a0.Frame.Methods a0.Frame.Now) a3) 1 a4 0 0 0)).1 (Za.mk ([(Qd (Y5 a0.Frame.Zm (Zc.mk a2 (nth a0.ZN v).Zi (ZP a0.Frame.Methods a0.Frame.Now) (Yc (ZP a0.Frame.Methods a0.Frame.Now) a3) 1 a4 0 0 0)).1), (JL (nth a0.ZN v))] : List ZO) ([] : List ZK))) = it at e
        have hit : Sm (n + 1) it := by
          rw [<- hq]
          refine ⟨ZZ (Nat.le_succ n) hd, ⟨by simp; omega, fun y hy => ?_⟩, SQ⟩
          rcases List.mem_cons.1 hy with rfl | hy
          · exact Rj (by omega)
          rcases List.mem_cons.1 hy with rfl | hy
          · exact PN (by omega)
          · cases hy
        clear hq
        cases hb : ((!(Y5 a0.Frame.Zm (Zc.mk a2 (nth a0.ZN v).Zi (ZP a0.Frame.Methods a0.Frame.Now) (Yc (ZP a0.Frame.Methods a0.Frame.Now) a3) 1 a4 0 0 0)).2) || (!(XZ (nth a0.ZA a1.toNat) it).2)) with
        | true => rw [hb] at e; cases e; exact h1
        | false =>
          rw [hb] at e
          cases e
          exact ⟨h1.1, h1.2.1, h1.2.2.1, Pc h1.2.2.2.1 (SG (Z7 h.2.2.2.1) hit), h1.2.2.2.2.1, h1.2.2.2.2.2.1, h1.2.2.2.2.2.2⟩
theorem Kz {n : Nat} {a0 : ZH} {a1 a2 : Int} {a3 : ZT} {a4 a5 : Int} (h : Sm n a0) (hd : Sm n a3) (hn : 9 <= n) : Sm (n + 1) (Yx a0 a1 a2 a3 a4 a5).1 := by
  have h1 : Sm (n + 1) a0 := ZZ (Nat.le_succ n) h
  unfold Yx
  cases (((!(YR a0 a1)) || (decide ((YD a0.Frame.Zm a2) < 0))) || (decide ((ZP a0.Frame.Methods a0.Frame.Now) < 0))) with
  | true => exact h1
  | false =>
    simp only [cond_false]
    cases he : QO a0 a1 a2 a3 a4 a5 (a0.ZN.length + 1) 0 with
    | inl r => exact RW h hd hn _ _ r he
    | inr _ => exact h1
theorem xz (a0 : Int) : ∀ (m : Nat) (x : Int) (l : List Zy) (y : List Int), (Ki a0 m x l y).length <= l.length + m
  | 0, x, l, y => Nat.zero_le _
  | m + 1, x, l, y => by
    simp only [Ki]
    cases decide ((y.length : Int) > 1) with
    | false => simp
    | true =>
      simp only [cond_true]
      cases ((Int.tmod x 2) == 1) with
      | true => refine Nat.le_trans (xz a0 m _ _ _) ?_; simp; omega
      | false =>
        simp only [cond_false]
        cases decide ((W (x + 1)) < (y.length : Int)) with
        | true => refine Nat.le_trans (xz a0 m _ _ _) ?_; simp; omega
        | false => refine Nat.le_trans (xz a0 m _ _ _) ?_; omega
theorem Et {n : Nat} {a0 : Int} {a1 : List Int} {a2 : Int} (h : 17 <= n) : Sm n (K9 a0 a1 a2) := by
  refine ⟨?_, fun _ _ => trivial⟩
  unfold K9
  cases hc : ((decide ((a1.length : Int) > 16)) || (!(YN a2 0 (W ((a1.length : Int) - 1))))) with
  | true => exact Nat.zero_le _
  | false =>
    have h1 := xz a0 (a1.length + 1) a2 [] a1
    simp only [Bool.or_eq_false_iff, decide_eq_false_iff_not] at hc
    simp only [cond_false]; simp at h1; omega
theorem qR (a0 : Int) : ∀ (m : Nat) (y : List Int) (x : Int) (l : List Zy), (Jh a0 m y x l).length <= l.length + m
  | 0, y, x, l => Nat.zero_le _
  | m + 1, y, x, l => by
    simp only [Jh]
    cases decide ((y.length : Int) > 1) with
    | false => simp
    | true =>
      simp only [cond_true]
      cases ((Int.tmod x 2) == 1) with
      | true => refine Nat.le_trans (qR a0 m _ _ _) ?_; simp; omega
      | false =>
        simp only [cond_false]
        cases decide ((W (x + 1)) < (y.length : Int)) with
        | true => refine Nat.le_trans (qR a0 m _ _ _) ?_; simp; omega
        | false => refine Nat.le_trans (qR a0 m _ _ _) ?_; omega
theorem OJ {n : Nat} {a0 : Int} {a1 : List Int} {a2 : Int} (h : 17 <= n) : Sm n (JJ a0 a1 a2) := by
  refine ⟨?_, fun _ _ => trivial⟩
  unfold JJ
  cases hc : ((!(Zn a2 0 (W ((a1.length : Int) - 1)))) || (decide ((a1.length : Int) > 16))) with
  | true => exact Nat.zero_le _
  | false =>
    have h1 := qR a0 (a1.length + 1) a1 a2 []
    simp only [Bool.or_eq_false_iff, decide_eq_false_iff_not] at hc
    simp only [cond_false]; simp at h1; omega
theorem ON (a0 : ZH) (a1 : List Int) : ∀ (m v : Nat), a1.length < m + v -> (match xi a0 a1 m v with | .inl r => r | .inr _ => true) = true -> ∀ j, v <= j -> j < a1.length -> 0 <= Ze a0.Frame.ZE (nth a1 j) /\ Ze a0.Frame.ZE (nth a1 j) < (a0.YX.length : Int) /\ 0 <= Ye a0.Frame.Zm (nth a0.Frame.ZE (Ze a0.Frame.ZE (nth a1 j)).toNat).Key
  | 0, v, h, _ => fun j h1 h2 => by omega
  | m + 1, v, h, e => by
    intro j h1 h2
    unfold xi at e
    have hc : decide ((v : Int) < (a1.length : Int)) = true := by simp; omega
    rw [hc] at e
    simp only [cond_true] at e
    revert e
    cases hA : (((decide ((Ze a0.Frame.ZE (nth a1 v)) < 0)) || (decide ((Ze a0.Frame.ZE (nth a1 v)) >= (a0.YX.length : Int)))) || ((decide ((v : Int) > 0)) && (decide ((nth a1 (v - 1)) >= (nth a1 v))))) with
    | true => intro e; simp at e
    | false =>
      simp only [cond_false]
      cases hB : ((decide ((Ye a0.Frame.Zm (nth a0.Frame.ZE (Ze a0.Frame.ZE (nth a1 v)).toNat).Key) < 0)) || (decide ((nth a0.Frame.Zm (Ye a0.Frame.Zm (nth a0.Frame.ZE (Ze a0.Frame.ZE (nth a1 v)).toNat).Key).toNat).Vz > a0.Frame.Now))) with
      | true => intro e; simp at e
      | false =>
        intro e
        rcases Nat.eq_or_lt_of_le h1 with rfl | h1
        · simp only [Bool.or_eq_false_iff, decide_eq_false_iff_not] at hA hB
          exact ⟨by omega, by omega, by omega⟩
        · exact ON a0 a1 m (v + 1) (by omega) e j h1 h2
theorem Jw {a0 : ZH} {a1 : List Int} (h : zY a0 a1 = true) {j : Nat} (hj : j < a1.length) : 0 <= Ze a0.Frame.ZE (nth a1 j) /\ Ze a0.Frame.ZE (nth a1 j) < (a0.YX.length : Int) /\ 0 <= Ye a0.Frame.Zm (nth a0.Frame.ZE (Ze a0.Frame.ZE (nth a1 j)).toNat).Key := by
  refine ON a0 a1 (a1.length + 1) 0 (by omega) ?_ j (Nat.zero_le _) hj
  unfold zY at h
  revert h
  cases xi a0 a1 (a1.length + 1) 0 with
  | inl r => exact fun h => h
  | inr _ => exact fun _ => rfl
theorem Je (a0 : ZH) : (Zw a0).length <= a0.Frame.ZE.length := by
  have e := vV (F := QR a0) (fun _ _ => rfl) (fun _ _ _ => rfl) (a0.Frame.ZE.length + 1) [] 0
  have : (Zw a0).length <= 0 + (a0.Frame.ZE.length - 0) := e
  omega
theorem yd (a0 : ZH) : (Yd a0).length <= a0.Frame.ZE.length := by
  have e := vV (F := Qb a0) (fun _ _ => rfl) (fun _ _ _ => rfl) (a0.Frame.ZE.length + 1) [] 0
  have : (Yd a0).length <= 0 + (a0.Frame.ZE.length - 0) := e
  omega
theorem Us (a0 : YP) (a1 : Int) (h : Q8 a0 a1 = true) : a0.ZD.length <= 8 := by
  unfold Q8 at h
  have hk : ∀ n v r, Ju a0 n v = .inl r -> r = false := by
    intro n
    induction n with
    | zero => intro v r h; cases h
    | succ n ih =>
      intro v r h
      rw [Ju] at h
      revert h
      exact ZS (p := fun w => w = Sum.inl r -> r = false) (ZS (p := fun w => w = Sum.inl r -> r = false) (fun h => by cases h; rfl) (fun h => ih _ _ h)) (fun h => by cases h)
  cases hh : Ju a0 (a0.ZD.length + 1) 0 with
  | inl r => rw [hh] at h; have := hk _ _ _ hh; subst this; cases h
  | inr u =>
    rw [hh] at h
    simp only [Zn, Bool.and_eq_true, decide_eq_true_eq] at h
    omega
theorem jy {n : Nat} {a0 : ZC} {a2 : List Int} (h : Sm n a0) : ∀ (m v : Nat) (l : List ZM), (∀ x ∈ l, Sm n x) -> l.length <= v -> v <= a2.length ->
    (∀ r, QB a0 a2 m v l = .inl r -> r = (YP.mk 0 0 [] 0, false)) /\ ∀ z, QB a0 a2 m v l = .inr z -> z.length <= a2.length /\ ∀ x ∈ z, Sm n x
  | 0, v, l, _, _, _ => ⟨fun r h => (by cases h), fun z h => (by cases h; exact ⟨Nat.zero_le _, fun x hx => (by cases hx)⟩)⟩
  | m + 1, v, l, hs, hl, hv => by
    rw [QB]
    let p := fun w : Sum (YP × Bool) (List ZM) => (∀ r, w = .inl r -> r = (YP.mk 0 0 [] 0, false)) /\ ∀ z, w = .inr z -> z.length <= a2.length /\ ∀ x ∈ z, Sm n x
    refine Jp (p := p) (fun hc => ?_) (fun _ => ⟨fun r h => (by cases h), fun z h => (by cases h; exact ⟨by omega, hs⟩)⟩)
    have hc : v < a2.length := by simpa using hc
    refine ZS (p := p) ⟨fun r h => (by cases h; rfl), fun z h => (by cases h)⟩ ?_
    refine jy h m (v + 1) _ (fun x hx => ?_) (by simp; omega) hc
    rcases List.mem_append.1 hx with hx | hx
    · exact hs x hx
    · have e := List.mem_singleton.1 hx
      subst e
      exact Z7 (ZC.YO h)
theorem Wr {n : Nat} {a0 : ZC} {a1 a3 : Int} {a2 : List Int} (h : Sm n a0) (h2 : Sm n a2) : Sm n (YK a0 a1 a2 a3).1 := by
  unfold YK
  obtain ⟨k1, k2⟩ := jy (a2 := a2) h (a2.length + 1) 0 [] (fun x hx => (by cases hx)) (Nat.zero_le _) (Nat.zero_le _)
  have h0 : Sm n (YP.mk 0 0 [] 0) := by simp [XC]
  cases hh : QB a0 a2 (a2.length + 1) 0 [] with
  | inl r => rw [k1 r hh]; exact h0
  | inr z =>
    obtain ⟨q1, q2⟩ := k2 z hh
    have hz : Sm n z := ⟨by have := XP h2; omega, q2⟩
    dsimp only
    refine ZS (p := fun w : YP × Bool => Sm n w.1) h0 ?_
    simp [hz]
theorem Uw {n : Nat} {a0 : ZC} {a1 : Int} (hb : n <= 9223372036854775807) (h : Sm n a0) : Sm n (QM a0 a1).1 := by
  unfold QM
  by_cases hk : ZX a0 a1 < 0
  · rw [decide_eq_true hk]; exact h
  · rw [decide_eq_false hk]
    have hi := ZC.YO h
    have hf := Q5 a0 a1
    have hl := XP hi
    refine ⟨?_, fun y hy => ?_⟩
    · have hm : (a0.ZD.take (ZX a0 a1).toNat ++ (a0.ZD.drop (W ((ZX a0 a1) + 1)).toNat)).length <= n := by
        have w : W ((ZX a0 a1) + 1) = (ZX a0 a1) + 1 := YG (by omega) (by omega)
        rw [w]; simp; omega
      exact hm
    · have hy' : y ∈ a0.ZD.take (ZX a0 a1).toNat \/ y ∈ a0.ZD.drop (W ((ZX a0 a1) + 1)).toNat := List.mem_append.1 hy
      rcases hy' with hy | hy
      · exact hi.2 y (List.mem_of_mem_take hy)
      · exact hi.2 y (List.mem_of_mem_drop hy)
theorem NS (a0 : YP) (a1 : Int) (h : Ky a0 a1 = true) : a0.ZD.length <= 8 := by
  unfold Ky at h
  have hk : ∀ n v r, Jv a0 n v = .inl r -> r = false := by
    intro n
    induction n with
    | zero => intro v r h; cases h
    | succ n ih =>
      intro v r h
      rw [Jv] at h
      revert h
      exact ZS (p := fun w => w = Sum.inl r -> r = false) (ZS (p := fun w => w = Sum.inl r -> r = false) (fun h => by cases h; rfl) (fun h => ih _ _ h)) (fun h => by cases h)
  cases hh : Jv a0 (a0.ZD.length + 1) 0 with
  | inl r => rw [hh] at h; have := hk _ _ _ hh; subst this; cases h
  | inr u =>
    rw [hh] at h
    simp only [YN, Bool.and_eq_true, decide_eq_true_eq] at h
    omega
theorem Uk {n : Nat} {a0 : ZC} {a2 : List Int} (h : Sm n a0) : ∀ (m v : Nat) (l : List ZM), (∀ x ∈ l, Sm n x) -> l.length <= v -> v <= a2.length ->
    (∀ r, Jl a0 a2 m v l = .inl r -> r = (YP.mk 0 0 [] 0, false)) /\ ∀ z, Jl a0 a2 m v l = .inr z -> z.length <= a2.length /\ ∀ x ∈ z, Sm n x
  | 0, v, l, _, _, _ => ⟨fun r h => (by cases h), fun z h => (by cases h; exact ⟨Nat.zero_le _, fun x hx => (by cases hx)⟩)⟩
  | m + 1, v, l, hs, hl, hv => by
    rw [Jl]
    let p := fun w : Sum (YP × Bool) (List ZM) => (∀ r, w = .inl r -> r = (YP.mk 0 0 [] 0, false)) /\ ∀ z, w = .inr z -> z.length <= a2.length /\ ∀ x ∈ z, Sm n x
    refine Jp (p := p) (fun hc => ?_) (fun _ => ⟨fun r h => (by cases h), fun z h => (by cases h; exact ⟨by omega, hs⟩)⟩)
    have hc : v < a2.length := by simpa using hc
    refine ZS (p := p) ⟨fun r h => (by cases h; rfl), fun z h => (by cases h)⟩ ?_
    refine Uk h m (v + 1) _ (fun x hx => ?_) (by simp; omega) hc
    rcases List.mem_append.1 hx with hx | hx
    · exact hs x hx
    · have e := List.mem_singleton.1 hx
      subst e
      exact Z7 (ZC.YO h)
theorem RB {n : Nat} {a0 : ZC} {a1 a3 : Int} {a2 : List Int} (h : Sm n a0) (h2 : Sm n a2) : Sm n (Xm a0 a1 a2 a3).1 := by
  unfold Xm
  obtain ⟨k1, k2⟩ := Uk (a2 := a2) h (a2.length + 1) 0 [] (fun x hx => (by cases hx)) (Nat.zero_le _) (Nat.zero_le _)
  have h0 : Sm n (YP.mk 0 0 [] 0) := by simp [XC]
  cases hh : Jl a0 a2 (a2.length + 1) 0 [] with
  | inl r => rw [k1 r hh]; exact h0
  | inr z =>
    obtain ⟨q1, q2⟩ := k2 z hh
    have hz : Sm n z := ⟨by have := XP h2; omega, q2⟩
    dsimp only
    refine ZS (p := fun w : YP × Bool => Sm n w.1) h0 ?_
    simp [hz]
theorem DO {n : Nat} {a0 : ZC} {a1 : Int} (h : Sm n a0) : Sm n (zo a0 a1).1 := by
  have hi := ZC.YO h
  have hl := XP hi
  have key : ∀ m v l, (∀ x ∈ l, Sm n x) -> l.length <= v -> v <= a0.ZD.length -> (Kf a0 a1 m v l).length <= a0.ZD.length /\ ∀ x ∈ Kf a0 a1 m v l, Sm n x := by
    intro m
    induction m with
    | zero => intro v l _ _ _; exact ⟨Nat.zero_le _, fun x hx => (by cases hx)⟩
    | succ m ih =>
      intro v l hs hl hv
      rw [Kf]
      let p := fun w : List ZM => w.length <= a0.ZD.length /\ ∀ x ∈ w, Sm n x
      refine Jp (p := p) (fun hc => ?_) (fun _ => ⟨by omega, hs⟩)
      have hc : v < a0.ZD.length := by simpa using hc
      refine ZS (p := p) (ih _ _ (fun x hx => ?_) (by simp; omega) hc) (ih _ _ hs (by omega) hc)
      rcases List.mem_append.1 hx with hx | hx
      · exact hs x hx
      · have e := List.mem_singleton.1 hx
        subst e
        exact Z7 hi
  unfold zo
  obtain ⟨k1, k2⟩ := key (a0.ZD.length + 1) 0 [] (fun x hx => (by cases hx)) (Nat.zero_le _) (Nat.zero_le _)
  refine ZS (p := fun w : ZC × Bool => Sm n w.1) h ?_
  exact ⟨by dsimp only; omega, k2⟩
theorem Ek {n : Nat} {a0 : ZH} {a1 : Int} (h : Sm n a0) : Sm n (ya a0 a1).1 := by
  refine ZS (p := fun w : ZH × Bool => Sm n w.1) h ?_
  exact ⟨h.1, h.2⟩
theorem HD {n : Nat} {a0 : ZH} {a1 : Int} (h : Sm n a0) : Sm n (Ke a0 a1).1 := by
  refine ZS (p := fun w : ZH × Bool => Sm n w.1) h ?_
  exact ⟨h.1, h.2.1, Pc h.2.2.1 trivial, h.2.2.2⟩
theorem DM {n : Nat} {a0 : ZH} {a1 a2 : Int} {a3 : ZT} {a4 a5 : Int} (h : Sm n a0) (hd : Sm n a3) (hn : 9 <= n) : Sm (n + 1) (yq a0 a1 a2 a3 a4 a5).1 :=
  ZS (p := fun w : ZH × Bool => Sm (n + 1) w.1) (ZZ (Nat.le_succ n) h) (Kz h hd hn)
theorem MY (a0 : ZH) (a1 a2 : Int) (a3 : ZT) (a4 a5 : Int) : (Yx a0 a1 a2 a3 a4 a5).1.Z4 = a0.Z4 := by
  have key : ∀ m v r, QO a0 a1 a2 a3 a4 a5 m v = .inl r -> r.1.Z4 = a0.Z4 := by
    intro m
    induction m with
    | zero => intro v r h; cases h
    | succ m ih =>
      intro v r h
      unfold QO at h
      revert h
      let p := fun w : Sum (ZH × Bool) Unit => w = Sum.inl r -> r.1.Z4 = a0.Z4
      exact ZS (p := p) (ZS (p := p) (fun h => ih _ _ h) (ZS (p := p) (fun h => by cases h; rfl) (fun h => by cases h; rfl))) (fun h => by cases h)
  unfold Yx
  refine ZS (p := fun w : ZH × Bool => w.1.Z4 = a0.Z4) rfl ?_
  cases he : QO a0 a1 a2 a3 a4 a5 (a0.ZN.length + 1) 0 with
  | inl r => exact key _ _ r he
  | inr _ => rfl
theorem Ga {n : Nat} {a0 : ZH} {a1 a2 : Int} {a3 : ZT} (h : Sm n a0) (hd : Sm n a3) (hn : 9 <= n) : Sm (n + 1) (Km a0 a1 a2 a3).1 := by
  unfold Km
  have hs : Sm (n + 1) (Yx a0 a1 a2 a3 0 10000).1 := Kz h hd hn
  refine ZS (p := fun w : ZH × Bool => Sm (n + 1) w.1) (ZZ (Nat.le_succ n) h) (ZS (p := fun w : ZH × Bool => Sm (n + 1) w.1) ?_ hs)
  refine ⟨hs.1, hs.2.1, hs.2.2.1, hs.2.2.2.1, hs.2.2.2.2.1, hs.2.2.2.2.2.1, ⟨?_, fun _ _ => trivial⟩⟩
  show (_ ++ [a0.Next]).length <= n + 1
  rw [MY]
  have := XP (ZH.Pw h)
  simp; omega
theorem Ds {n : Nat} {a0 : Za} {a1 : ZO} (h : Sm n a0) (hp : Sm (n + 1) a1) : Sm (n + 1) (J0 a0 a1).1 := by
  have h1 : Sm (n + 1) a0 := ZZ (Nat.le_succ n) h
  refine ZS (p := fun w : Za × Bool => Sm (n + 1) w.1) h1 ?_
  refine ⟨⟨?_, fun x hx => ?_⟩, h1.2⟩
  · have := h.1.1; simp; omega
  · rcases List.mem_append.1 hx with hx | hx
    · exact h1.1.2 x hx
    · have e := List.mem_singleton.1 hx; subst e; exact hp
theorem RS {n : Nat} {a0 : Za} {a1 : ZK} (h : Sm n a0) (hp : Sm (n + 1) a1) : Sm (n + 1) (Xl a0 a1).1 := by
  have h1 : Sm (n + 1) a0 := ZZ (Nat.le_succ n) h
  refine ZS (p := fun w : Za × Bool => Sm (n + 1) w.1) h1 ?_
  refine ⟨h1.1, ⟨?_, fun x hx => ?_⟩⟩
  · have := h.2.1; simp; omega
  · rcases List.mem_append.1 hx with hx | hx
    · exact h1.2.2 x hx
    · have e := List.mem_singleton.1 hx; subst e; exact hp
theorem G3 {n : Nat} {a0 : ZC} {a1 : Int} {a2 : ZO} (h : Sm n a0) (hp : Sm (n + 1) a2) : Sm (n + 1) (Xg a0 a1 a2).1 := by
  have h1 : Sm (n + 1) a0 := ZZ (Nat.le_succ n) h
  refine ZS (p := fun w : ZC × Bool => Sm (n + 1) w.1) h1 ?_
  refine Pc (ZC.YO h1) ?_
  have hi : Sm n (nth a0.ZD (ZX a0 a1).toNat) := Z7 (ZC.YO h)
  exact ⟨(ZZ (Nat.le_succ n) hi).1, Ds hi.2 hp⟩
theorem NK {n : Nat} {a0 : ZH} {i : Nat} {x : ZC} (h : Sm n a0) (hx : Sm n x) : Sm n (ZH.mk a0.Frame a0.ZN a0.Zl (a0.ZA.set i x) a0.YX a0.YJ a0.Next a0.Z4) :=
  ⟨h.1, h.2.1, h.2.2.1, Pc h.2.2.2.1 hx, h.2.2.2.2⟩
theorem U8 {n : Nat} {a0 : ZH} {a1 a2 : Int} {a3 : Z0} (h : Sm n a0) (hn : 5 <= n) : Sm (n + 1) (JK a0 a1 a2 a3).1 := by
  have h1 : Sm (n + 1) a0 := ZZ (Nat.le_succ n) h
  refine ZS (p := fun w : ZH × Bool => Sm (n + 1) w.1) h1 ?_
  exact NK h1 (G3 (Z7 (ZH.YW h)) (Tn (by omega)))
theorem He {n : Nat} {a0 : ZH} {a1 : Int} (h : Sm n a0) (hn : 5 <= n) : Sm (n + 1) (Kb a0 a1).1 := by
  have h1 : Sm (n + 1) a0 := ZZ (Nat.le_succ n) h
  let p := fun w : ZH × Bool => Sm (n + 1) w.1
  exact ZS (p := p) h1 (ZS (p := p) h1 (ZS (p := p) (U8 h hn) (U8 h hn)))
theorem DN {n : Nat} {a0 : ZH} {a1 a2 : Int} (h : Sm n a0) (hn : 5 <= n) : Sm (n + 1) (ym a0 a1 a2).1 := by
  have h1 : Sm (n + 1) a0 := ZZ (Nat.le_succ n) h
  exact ZS (p := fun w : ZH × Bool => Sm (n + 1) w.1) h1 (U8 h hn)
theorem IU {n : Nat} {a0 : ZC} {a1 : Int} (h : Sm n a0) : Sm n (Kd a0 a1).1 := by
  have hi := ZC.YO h
  have key : ∀ m v l, (∀ x ∈ l, Sm n x) -> l.length <= v -> v <= a0.ZD.length -> (QC a0 a1 m v l).length <= a0.ZD.length /\ ∀ x ∈ QC a0 a1 m v l, Sm n x := by
    intro m
    induction m with
    | zero => intro v l _ _ _; exact ⟨Nat.zero_le _, fun x hx => (by cases hx)⟩
    | succ m ih =>
      intro v l hs hl hv
      rw [QC]
      let p := fun w : List ZM => w.length <= a0.ZD.length /\ ∀ x ∈ w, Sm n x
      refine Jp (p := p) (fun hc => ?_) (fun _ => ⟨by omega, hs⟩)
      have hc : v < a0.ZD.length := by simpa using hc
      refine ZS (p := p) (ih _ _ (fun x hx => ?_) (by simp; omega) hc) (ih _ _ hs (by omega) hc)
      rcases List.mem_append.1 hx with hx | hx
      · exact hs x hx
      · have e := List.mem_singleton.1 hx
        subst e
        exact Z7 hi
  obtain ⟨k1, k2⟩ := key (a0.ZD.length + 1) 0 [] (fun x hx => (by cases hx)) (Nat.zero_le _) (Nat.zero_le _)
  have := XP hi
  exact ⟨by show (QC a0 a1 (a0.ZD.length + 1) 0 []).length <= n; omega, k2⟩
theorem Iw {n : Nat} {a0 : ZH} {a1 : Int} (h : Sm n a0) : Sm n (Kk a0 a1).1 :=
  ZS (p := fun w : ZH × Bool => Sm n w.1) h (NK h (IU (Z7 (ZH.YW h))))
theorem Le {n : Nat} {a0 : ZC} {a1 : Int} {a2 : List ZW} (h : Sm n a0) (hp : Sm n a2) (hn : 17 <= n) : Sm (n + 1) (Qh a0 a1 a2).1 := by
  have h1 : Sm (n + 1) a0 := ZZ (Nat.le_succ n) h
  have hi := ZC.YO h
  have key : ∀ m v l, l.length = a0.ZD.length -> (∀ x ∈ l, Sm (n + 1) x) -> (∀ r, XQ a0 a1 a2 m v l = .inl r -> r = (a0, false)) /\ ∀ z, XQ a0 a1 a2 m v l = .inr z -> z.length <= a0.ZD.length /\ ∀ x ∈ z, Sm (n + 1) x := by
    intro m
    induction m with
    | zero => intro v l _ _; exact ⟨fun r h => (by cases h), fun z h => (by cases h; exact ⟨Nat.zero_le _, fun x hx => (by cases hx)⟩)⟩
    | succ m ih =>
      intro v l hl hs
      rw [XQ]
      let p := fun w : Sum (ZC × Bool) (List ZM) => (∀ r, w = .inl r -> r = (a0, false)) /\ ∀ z, w = .inr z -> z.length <= a0.ZD.length /\ ∀ x ∈ z, Sm (n + 1) x
      refine ZS (p := p) (ZS (p := p) ⟨fun r h => (by cases h; rfl), fun z h => (by cases h)⟩ (ih _ _ (by rw [List.length_set]; exact hl) (fun x hx => ?_))) ⟨fun r h => (by cases h), fun z h => (by cases h; exact ⟨by omega, hs⟩)⟩
      rcases List.mem_or_eq_of_mem_set hx with hx | rfl
      · exact hs x hx
      · have hx0 : Sm (n + 1) (nth l v) := by
          by_cases hv : v < l.length
          · have : nth l v = l[v] := by simp [nth, List.getD_eq_getElem?_getD, List.getElem?_eq_getElem hv]
            rw [this]; exact hs _ (List.getElem_mem hv)
          · have : nth l v = default := by simp [nth, List.getD_eq_getElem?_getD, List.getElem?_eq_none (Nat.le_of_not_lt hv)]
            rw [this]; exact Sz.zero _
        have hv : Sm n (nth a0.ZD v) := Z7 hi
        refine ⟨hx0.1, RS hv.2 ?_⟩
        exact ⟨OJ (by omega), ZZ (Nat.le_succ n) hp⟩
  unfold Qh
  refine ZS (p := fun w : ZC × Bool => Sm (n + 1) w.1) h1 ?_
  obtain ⟨k1, k2⟩ := key (a0.ZD.length + 1) 0 a0.ZD rfl (fun x hx => ZZ (Nat.le_succ n) (hi.2 x hx))
  cases hh : XQ a0 a1 a2 (a0.ZD.length + 1) 0 a0.ZD with
  | inl r => rw [k1 r hh]; exact h1
  | inr z =>
    obtain ⟨q1, q2⟩ := k2 z hh
    have := XP hi
    exact ZS (p := fun w : ZC × Bool => Sm (n + 1) w.1) h1 ⟨by show z.length <= n + 1; omega, q2⟩
theorem TZ {n : Nat} {a0 : ZH} {a1 : Int} {a2 : List Int} {a3 : Int} : ∀ (m : Nat) (l : List ZW) (v : Nat) (q : List Int), l.length <= v -> v <= a2.length ->
    (∀ r, Y7 a0 a1 a2 a3 m l v q = .inl r -> r = (a0, false)) /\ ∀ z, Y7 a0 a1 a2 a3 m l v q = .inr z -> z.1.length <= a2.length /\ z.2.length <= q.length
  | 0, _, _, _, _, _ => ⟨fun r h => (by cases h), fun z h => (by cases h; exact ⟨Nat.zero_le _, Nat.zero_le _⟩)⟩
  | m + 1, l, v, q, hl, hv => by
    rw [Y7]
    let p := fun w : Sum (ZH × Bool) (List ZW × List Int) => (∀ r, w = .inl r -> r = (a0, false)) /\ ∀ z, w = .inr z -> z.1.length <= a2.length /\ z.2.length <= q.length
    have bad : p (.inl (a0, false)) := ⟨fun r h => (by cases h; rfl), fun z h => (by cases h)⟩
    refine Jp (p := p) (fun hc => ?_) (fun _ => ⟨fun r h => (by cases h), fun z h => (by cases h; exact ⟨Nat.le_trans hl hv, Nat.le_refl _⟩)⟩)
    have hc : v < a2.length := by simpa using hc
    have step : ∀ x i y, p (Y7 a0 a1 a2 a3 m (l ++ [x]) (v + 1) (q.set i y)) := fun x i y => by
      obtain ⟨k1, k2⟩ := TZ (n := n) (a0 := a0) (a1 := a1) (a2 := a2) (a3 := a3) m (l ++ [x]) (v + 1) (q.set i y) (by simp; omega) hc
      exact ⟨k1, fun z hz => by have := k2 z hz; rw [List.length_set] at this; exact this⟩
    exact ZS (p := p) bad (ZS (p := p) bad (ZS (p := p) (ZS (p := p) bad (step _ _ _)) (ZS (p := p) bad (step _ _ _))))
theorem Fg {n : Nat} {a0 : ZH} {a1 : Int} {a2 : List Int} {a3 : Int} (h : Sm n a0) (h2 : Sm n a2) (hn : 17 <= n) : Sm (n + 1) (Kr a0 a1 a2 a3).1 := by
  have h1 : Sm (n + 1) a0 := ZZ (Nat.le_succ n) h
  unfold Kr
  refine ZS (p := fun w : ZH × Bool => Sm (n + 1) w.1) h1 ?_
  obtain ⟨k1, k2⟩ := TZ (n := n) (a0 := a0) (a1 := a1) (a2 := a2) (a3 := a3) (a2.length + 1) [] 0 a0.YX (Nat.zero_le _) (Nat.zero_le _)
  cases hh : Y7 a0 a1 a2 a3 (a2.length + 1) [] 0 a0.YX with
  | inl r => rw [k1 r hh]; exact h1
  | inr z =>
    obtain ⟨q1, q2⟩ := k2 z hh
    obtain ⟨z0, z1⟩ := z
    have e2 := XP h2
    have e3 := XP (ZH.Cy h)
    have hs : Sm n z0 := ⟨by simp only at q1; omega, fun _ _ => trivial⟩
    refine ZS (p := fun w : ZH × Bool => Sm (n + 1) w.1) h1 ?_
    exact ⟨h1.1, h1.2.1, h1.2.2.1, Pc h1.2.2.2.1 (Le (Z7 (ZH.YW h)) hs hn), ⟨by simp only at q2 ⊢; omega, fun _ _ => trivial⟩, h1.2.2.2.2.2⟩
theorem N9 {n : Nat} {a0 : ZC} {a1 : YP} {a2 : Int} (h : Sm n a0) (hp : Sm n a1) : Sm (n + a1.ZD.length) (Yq a0 a1 a2).1 := by
  have h1 : Sm (n + a1.ZD.length) a0 := ZZ (Nat.le_add_right _ _) h
  have key : ∀ m v d l, Sm (n + v) (ZC.mk d l) -> v <= a1.ZD.length -> (∀ r, XA a0 a1 m v d l = .inl r -> r = (a0, false)) /\ ∀ z, XA a0 a1 m v d l = .inr z -> Sm (n + a1.ZD.length) (ZC.mk z.1 z.2) := by
    intro m
    induction m with
    | zero => intro v d l _ _; exact ⟨fun r h => (by cases h), fun z h => (by cases h; exact SQ)⟩
    | succ m ih =>
      intro v d l hs hv
      rw [XA]
      let p := fun w : Sum (ZC × Bool) (Int × List ZM) => (∀ r, w = .inl r -> r = (a0, false)) /\ ∀ z, w = .inr z -> Sm (n + a1.ZD.length) (ZC.mk z.1 z.2)
      refine Jp (p := p) (fun hc => ?_) (fun _ => ⟨fun r h => (by cases h), fun z h => (by cases h; exact ZZ (Nat.add_le_add_left hv n) hs)⟩)
      have hc : v < a1.ZD.length := by simpa using hc
      exact ZS (p := p) ⟨fun r h => (by cases h; rfl), fun z h => (by cases h)⟩ (ih _ _ _ (SG hs (ZZ (Nat.le_succ_of_le (Nat.le_add_right n v)) (Z7 (YP.YO hp)))) hc)
  unfold Yq
  refine ZS (p := fun w : ZC × Bool => Sm (n + a1.ZD.length) w.1) h1 ?_
  obtain ⟨k1, k2⟩ := key (a1.ZD.length + 1) 0 a0.Id a0.ZD h (Nat.zero_le _)
  cases hh : XA a0 a1 (a1.ZD.length + 1) 0 a0.Id a0.ZD with
  | inl r => rw [k1 r hh]; exact h1
  | inr z => exact k2 z hh
theorem LX {n : Nat} {a0 : ZC} {a1 : Int} {a2 : List Int} {a3 : Int} (h : Sm n a0) : (YK a0 a1 a2 a3).1.ZD.length <= a2.length := by
  unfold YK
  obtain ⟨k1, k2⟩ := jy (a2 := a2) h (a2.length + 1) 0 [] (fun x hx => (by cases hx)) (Nat.zero_le _) (Nat.zero_le _)
  cases hh : QB a0 a2 (a2.length + 1) 0 [] with
  | inl r => rw [k1 r hh]; exact Nat.zero_le _
  | inr z => exact ZS (p := fun w : YP × Bool => w.1.ZD.length <= a2.length) (Nat.zero_le _) (k2 z hh).1
theorem Fj {n : Nat} {a0 a1 : ZC} {a2 : List Int} {a3 : Int} (hb : n <= 9223372036854775807) (h0 : Sm n a0) (h1 : Sm n a1) (h2 : Sm n a2) : Sm n (Yt a0 a1 a2 a3).1 /\ Sm (n + a2.length) (Yt a0 a1 a2 a3).2.1 := by
  have hto : Sm (n + a2.length) (Yq a1 (YK a0 a1.Id a2 a3).1 a3).1 :=
    ZZ (Nat.add_le_add_left (LX h0) n) (N9 h1 (Wr h0 h2))
  have bad : Sm n a0 /\ Sm (n + a2.length) a1 := ⟨h0, ZZ (Nat.le_add_right _ _) h1⟩
  have key : ∀ m v d l, Sm n (ZC.mk d l) -> (∀ r, Xb a0 a1 a2 m v d l = .inl r -> r = (a0, a1, false)) /\ ∀ z, Xb a0 a1 a2 m v d l = .inr z -> Sm n (ZC.mk z.1 z.2) := by
    intro m
    induction m with
    | zero => intro v d l _; exact ⟨fun r h => (by cases h), fun z h => (by cases h; exact SQ)⟩
    | succ m ih =>
      intro v d l hs
      rw [Xb]
      let p := fun w : Sum (ZC × ZC × Bool) (Int × List ZM) => (∀ r, w = .inl r -> r = (a0, a1, false)) /\ ∀ z, w = .inr z -> Sm n (ZC.mk z.1 z.2)
      exact ZS (p := p) (ZS (p := p) ⟨fun r h => (by cases h; rfl), fun z h => (by cases h)⟩ (ih _ _ _ (Uw hb hs))) ⟨fun r h => (by cases h), fun z h => (by cases h; exact hs)⟩
  unfold Yt
  let p := fun w : ZC × ZC × Bool => Sm n w.1 /\ Sm (n + a2.length) w.2.1
  refine ZS (p := p) bad ?_
  obtain ⟨k1, k2⟩ := key (a2.length + 1) 0 a0.Id a0.ZD h0
  cases hh : Xb a0 a1 a2 (a2.length + 1) 0 a0.Id a0.ZD with
  | inl r => rw [k1 r hh]; exact bad
  | inr z => exact ⟨k2 z hh, hto⟩
theorem Dn {n : Nat} {a0 : ZH} {a1 a2 a3 : Int} (hb : n <= 9223372036854775807) (h : Sm n a0) (hn : 1 <= n) : Sm (n + 1) (yV a0 a1 a2 a3).1 := by
  have h1 : Sm (n + 1) a0 := ZZ (Nat.le_succ n) h
  have hm := Fj (a0 := nth a0.ZA a1.toNat) (a1 := nth a0.ZA a2.toNat) (a2 := [a3]) (a3 := ZP a0.Frame.Methods a0.Frame.Now) hb (Z7 (ZH.YW h)) (Z7 (ZH.YW h)) ⟨hn, fun _ _ => trivial⟩
  let p := fun w : ZH × Bool => Sm (n + 1) w.1
  exact ZS (p := p) h1 (ZS (p := p) ⟨h1.1, h1.2.1, h1.2.2.1, Pc (Pc h1.2.2.2.1 (ZZ (Nat.le_succ n) hm.1)) hm.2, h1.2.2.2.2⟩ h1)
theorem qY {a0 : ZH} {a1 a2 : Int} : ∀ (m v : Nat) (l : List ZW), (∀ r, QG a0 a1 a2 m v l = .inl r -> r = (a0, false)) /\ ∀ z, QG a0 a1 a2 m v l = .inr z -> z.length <= l.length + ((Zw a0).length - v)
  | 0, v, l => ⟨fun r h => (by cases h), fun z h => (by cases h; exact Nat.zero_le _)⟩
  | m + 1, v, l => by
    rw [QG]
    let p := fun w : Sum (ZH × Bool) (List ZW) => (∀ r, w = .inl r -> r = (a0, false)) /\ ∀ z, w = .inr z -> z.length <= l.length + ((Zw a0).length - v)
    refine Jp (p := p) (fun hc => ?_) (fun _ => ⟨fun r h => (by cases h), fun z h => (by cases h; exact Nat.le_add_right _ _)⟩)
    have hc : v < (Zw a0).length := by simpa using hc
    refine ZS (p := p) ⟨fun r h => (by cases h; rfl), fun z h => (by cases h)⟩ ?_
    obtain ⟨k1, k2⟩ := qY (a0 := a0) (a1 := a1) (a2 := a2) m (v + 1) (l ++ [(Js a0.Frame.Zm a0.Frame.ZE (ZW.mk (nth (Zw a0) v) 0 a2 (Qy (nth (nth a0.ZA (ZV a0 a1).1.toNat).ZD (ZV a0 a1).2.toNat) (ZP a0.Frame.Methods a0.Frame.Now)) 0)).1])
    exact ⟨k1, fun z hz => by have := k2 z hz; rw [List.length_append, List.length_singleton] at this; omega⟩
theorem Nt {n : Nat} {a0 : ZH} {a1 a2 : Int} (h : Sm n a0) : Sm (n + 1) (JA a0 a1 a2).1 := by
  have h1 : Sm (n + 1) a0 := ZZ (Nat.le_succ n) h
  unfold JA
  refine ZS (p := fun w : ZH × Bool => Sm (n + 1) w.1) h1 ?_
  obtain ⟨k1, k2⟩ := qY (a0 := a0) (a1 := a1) (a2 := a2) ((Zw a0).length + 1) 0 []
  cases hh : QG a0 a1 a2 ((Zw a0).length + 1) 0 [] with
  | inl r => rw [k1 r hh]; exact h1
  | inr z =>
    have hz := k2 z hh
    have hf := Je a0
    have ha := XP (Zq.XV (ZH.Xj h))
    rw [List.length_nil] at hz
    have hA : Sm n (nth a0.ZA (ZV a0 a1).1.toNat) := Z7 (ZH.YW h)
    have hI : Sm n (nth (nth a0.ZA (ZV a0 a1).1.toNat).ZD (ZV a0 a1).2.toNat) := Z7 (ZC.YO hA)
    refine NK h1 (Pc (ZC.YO (ZZ (Nat.le_succ n) hA)) ⟨(ZZ (Nat.le_succ n) hI).1, RS hI.2 ?_⟩)
    exact ⟨SQ, ⟨by show z.length <= n + 1; omega, fun _ _ => trivial⟩⟩
theorem Wp {n : Nat} {a0 : ZH} {a1 : Zp} (hb : n <= 9223372036854775807) (h : Sm n a0) (he : Sm n a1) (hn : 17 <= n) : Sm (n + 1) (Y6 a0 a1).1 := by
  have h1 : Sm (n + 1) a0 := ZZ (Nat.le_succ n) h
  have up : ∀ w : ZH, Sm n w -> Sm (n + 1) w := fun w hw => ZZ (Nat.le_succ n) hw
  unfold Y6
  let p := fun w : ZH × Bool => Sm (n + 1) w.1
  exact ZS (p := p) (up _ (Ek h)) (ZS (p := p) (DM h he.1 (by omega)) (ZS (p := p) (He h (by omega)) (ZS (p := p) (up _ (HD h)) (ZS (p := p) (Fg h he.2 hn) (ZS (p := p) (Dn hb h (by omega)) (ZS (p := p) (up _ (Iw h))
    (ZS (p := p) (Ga h he.1 (by omega)) (ZS (p := p) (Nt h) (ZS (p := p) (DN h (by omega)) h1)))))))))
end Go.Mo
