/- Plain lemmas on the models of the helpers. No condition. -/
import Derived.Test.YtfhmpplolpejnaaGreatM
namespace Go.Mo
open Go.Vm
set_option linter.unusedSimpArgs false
set_option linter.unusedVariables false
theorem Ct : WJ Xv := Tm (fun _ _ => trivial) (fun _ _ => rfl)
theorem BN : qp Xv 0 := SG (fun _ => Nat.le_of_ble_eq_true rfl) (fun _ _ => rfl)
theorem O7 : WJ Y6 := Tm (fun _ _ => trivial) (fun _ _ => rfl)
theorem O1 : qp Y6 0 := SG (fun _ => Nat.le_of_ble_eq_true rfl) (fun _ _ => rfl)
theorem Ia : WJ zW := Tm (fun _ _ => trivial) (fun _ _ => rfl)
theorem IQ : qp zW 0 := SG (fun _ => Nat.le_of_ble_eq_true rfl) (fun _ _ => rfl)
theorem EY : WJ Z0 := by
  intro a0 a1 hm h0 hn h
  unfold Z0 at h ⊢
  by_cases c0 : (Xv a0.Yb a1) < 0
  · simp [c0] at h
  obtain ⟨s0, t0⟩ := Ct a0.Yb a1 (by simp [hm]) (by omega) (by omega) c0
  by_cases c1 : (Y6 a0.ZU (Xv a0.Yb a1)) < 0
  · simp [c1, c0] at h
  obtain ⟨s1, t1⟩ := O7 a0.ZU (Xv a0.Yb a1) (by simp [hm]) (by omega) (by omega) c1
  by_cases c2 : (zW a0.Methods (Y6 a0.ZU (Xv a0.Yb a1))) < 0
  · simp [c2, c0, c1] at h
  obtain ⟨s2, t2⟩ := Ia a0.Methods (Y6 a0.ZU (Xv a0.Yb a1)) (by simp [hm]) (by omega) (by omega) c2
  simp only [c0, c1, c2, decide_false, cond_false] at h ⊢
  exact ⟨⟨s0, s1, s2⟩, t2⟩
theorem O4 : qp Z0 2 := by
  intro a0 a1 hm h0 hn h
  unfold Z0 at h ⊢
  by_cases c0 : (Xv a0.Yb a1) < 0
  · simp [c0] at h
  obtain ⟨s0, t0⟩ := BN a0.Yb a1 (by simp [hm]) (by omega) (by omega) c0
  by_cases c1 : (Y6 a0.ZU (Xv a0.Yb a1)) < 0
  · simp [c1, c0] at h
  obtain ⟨s1, t1⟩ := O1 a0.ZU (Xv a0.Yb a1) (by simp [hm]) (by omega) (by omega) c1
  by_cases c2 : (zW a0.Methods (Y6 a0.ZU (Xv a0.Yb a1))) < 0
  · simp [c2, c0, c1] at h
  obtain ⟨s2, t2⟩ := IQ a0.Methods (Y6 a0.ZU (Xv a0.Yb a1)) (by simp [hm]) (by omega) (by omega) c2
  simp only [c0, c1, c2, decide_false, cond_false] at h ⊢
  simp only [RZ, Vw, Ta, ZH.Jl]
  omega
theorem Dm : WJ YC := Tm (fun _ _ => trivial) (fun _ _ => rfl)
theorem ND : qp YC 0 := SG (fun _ => Nat.le_of_ble_eq_true rfl) (fun _ _ => rfl)
theorem qk : WJ Zk := Tm (fun _ _ => trivial) (fun _ _ => rfl)
theorem yg : qp Zk 0 := SG (fun _ => Nat.le_of_ble_eq_true rfl) (fun _ _ => rfl)
theorem Is : WJ Xh := O6 vA (G := xj) (fun _ _ _ _ => rfl) (fun _ _ => rfl)
theorem Ip : qp Xh 0 := SA w9 (by decide) (G := xj) (fun _ _ _ _ => rfl) (fun _ _ => rfl)
theorem L4 : WJ XD := by
  intro a0 a1 hm h0 hn h
  unfold XD at h ⊢
  by_cases c0 : (Xh a0.YY a1) < 0
  · simp [c0] at h
  obtain ⟨s0, t0⟩ := Is a0.YY a1 (by simp [hm]) (by omega) (by omega) c0
  by_cases c1 : (Zk a0.XI (Xh a0.YY a1)) < 0
  · simp [c1, c0] at h
  obtain ⟨s1, t1⟩ := qk a0.XI (Xh a0.YY a1) (by simp [hm]) (by omega) (by omega) c1
  simp only [c0, c1, decide_false, cond_false] at h ⊢
  exact ⟨⟨s0, s1⟩, t1⟩
theorem LG : qp XD 1 := by
  intro a0 a1 hm h0 hn h
  unfold XD at h ⊢
  by_cases c0 : (Xh a0.YY a1) < 0
  · simp [c0] at h
  obtain ⟨s0, t0⟩ := Ip a0.YY a1 (by simp [hm]) (by omega) (by omega) c0
  by_cases c1 : (Zk a0.XI (Xh a0.YY a1)) < 0
  · simp [c1, c0] at h
  obtain ⟨s1, t1⟩ := yg a0.XI (Xh a0.YY a1) (by simp [hm]) (by omega) (by omega) c1
  simp only [c0, c1, decide_false, cond_false] at h ⊢
  simp only [RZ, Vw, Ta, Zd.Jl]
  omega
theorem DD : WJ qS := by
  intro a0 a1 hm h0 hn h
  unfold qS at h ⊢
  by_cases c0 : (Zk a0.Zb a1) < 0
  · simp [c0] at h
  obtain ⟨s0, t0⟩ := qk a0.Zb a1 (by simp [hm]) (by omega) (by omega) c0
  simp only [c0, decide_false, cond_false] at h ⊢
  exact ⟨s0, t0⟩
theorem DZ : qp qS 2 := by
  intro a0 a1 hm h0 hn h
  unfold qS at h ⊢
  by_cases c0 : (Zk a0.Zb a1) < 0
  · simp [c0] at h
  obtain ⟨s0, t0⟩ := yg a0.Zb a1 (by simp [hm]) (by omega) (by omega) c0
  simp only [c0, decide_false, cond_false] at h ⊢
  simp only [RZ, Vw, Ta, ZB.Jl]
  omega
theorem Fc : WJ QF := O6 DD (G := jD) (fun _ _ _ _ => rfl) (fun _ _ => rfl)
theorem G7 : qp QF 0 := SA DZ (by decide) (G := jD) (fun _ _ _ _ => rfl) (fun _ _ => rfl)
theorem D8 : WJ Qx := Tm (fun _ _ => trivial) (fun _ _ => rfl)
theorem Dn : qp Qx 0 := SG (fun _ => Nat.le_of_ble_eq_true rfl) (fun _ _ => rfl)
theorem FT : WJ yR := Tm (fun _ _ => trivial) (fun _ _ => rfl)
theorem G1 : qp yR 0 := SG (fun _ => Nat.le_of_ble_eq_true rfl) (fun _ _ => rfl)
theorem Hw : WJ zS := by
  intro a0 a1 hm h0 hn h
  unfold zS at h ⊢
  by_cases c0 : (Qx a0.Path a1) < 0
  · simp [c0] at h
  obtain ⟨s0, t0⟩ := D8 a0.Path a1 (by simp [hm]) (by omega) (by omega) c0
  by_cases c1 : (yR a0.Zf (Qx a0.Path a1)) < 0
  · simp [c1, c0] at h
  obtain ⟨s1, t1⟩ := FT a0.Zf (Qx a0.Path a1) (by simp [hm]) (by omega) (by omega) c1
  simp only [c0, c1, decide_false, cond_false] at h ⊢
  exact ⟨⟨s0, s1⟩, t1⟩
theorem GG : qp zS 3 := by
  intro a0 a1 hm h0 hn h
  unfold zS at h ⊢
  by_cases c0 : (Qx a0.Path a1) < 0
  · simp [c0] at h
  obtain ⟨s0, t0⟩ := Dn a0.Path a1 (by simp [hm]) (by omega) (by omega) c0
  by_cases c1 : (yR a0.Zf (Qx a0.Path a1)) < 0
  · simp [c1, c0] at h
  obtain ⟨s1, t1⟩ := G1 a0.Zf (Qx a0.Path a1) (by simp [hm]) (by omega) (by omega) c1
  simp only [c0, c1, decide_false, cond_false] at h ⊢
  simp only [RZ, Vw, Ta, ZV.Jl]
  omega
theorem Lm : WJ KR := O6 Hw (G := yd) (fun _ _ _ _ => rfl) (fun _ _ => rfl)
theorem Lh : qp KR 0 := SA GG (by decide) (G := yd) (fun _ _ _ _ => rfl) (fun _ _ => rfl)
theorem GU : WJ KY := by
  intro a0 a1 hm h0 hn h
  unfold KY at h ⊢
  by_cases c0 : (QF a0.ZT a1) < 0
  · simp [c0] at h
  obtain ⟨s0, t0⟩ := Fc a0.ZT a1 (by simp [hm]) (by omega) (by omega) c0
  by_cases c1 : (KR a0.ZM (QF a0.ZT a1)) < 0
  · simp [c1, c0] at h
  obtain ⟨s1, t1⟩ := Lm a0.ZM (QF a0.ZT a1) (by simp [hm]) (by omega) (by omega) c1
  simp only [c0, c1, decide_false, cond_false] at h ⊢
  exact ⟨⟨s0, s1⟩, t1⟩
theorem FI : qp KY 0 := by
  intro a0 a1 hm h0 hn h
  unfold KY at h ⊢
  by_cases c0 : (QF a0.ZT a1) < 0
  · simp [c0] at h
  obtain ⟨s0, t0⟩ := G7 a0.ZT a1 (by simp [hm]) (by omega) (by omega) c0
  by_cases c1 : (KR a0.ZM (QF a0.ZT a1)) < 0
  · simp [c1, c0] at h
  obtain ⟨s1, t1⟩ := Lh a0.ZM (QF a0.ZT a1) (by simp [hm]) (by omega) (by omega) c1
  simp only [c0, c1, decide_false, cond_false] at h ⊢
  simp only [RZ, Vw, Ta, ZK.Jl]
  omega
theorem Ch : WJ xt := by
  intro a0 a1 hm h0 hn h
  unfold xt at h ⊢
  by_cases c0 : (XD a0.Doc a1) < 0
  · simp [c0] at h
  obtain ⟨s0, t0⟩ := L4 a0.Doc a1 (by simp [hm]) (by omega) (by omega) c0
  by_cases c1 : (KY a0.Yl (XD a0.Doc a1)) < 0
  · simp [c1, c0] at h
  obtain ⟨s1, t1⟩ := GU a0.Yl (XD a0.Doc a1) (by simp [hm]) (by omega) (by omega) c1
  simp only [c0, c1, decide_false, cond_false] at h ⊢
  exact ⟨⟨s0, s1⟩, t1⟩
theorem Ri : qp xt 12 := by
  intro a0 a1 hm h0 hn h
  unfold xt at h ⊢
  by_cases c0 : (XD a0.Doc a1) < 0
  · simp [c0] at h
  obtain ⟨s0, t0⟩ := LG a0.Doc a1 (by simp [hm]) (by omega) (by omega) c0
  by_cases c1 : (KY a0.Yl (XD a0.Doc a1)) < 0
  · simp [c1, c0] at h
  obtain ⟨s1, t1⟩ := FI a0.Yl (XD a0.Doc a1) (by simp [hm]) (by omega) (by omega) c1
  simp only [c0, c1, decide_false, cond_false] at h ⊢
  simp only [RZ, Vw, Ta, Zt.Jl, ZY.Jl]
  omega
theorem DY : WJ J2 := O6 Ch (G := qg) (fun _ _ _ _ => rfl) (fun _ _ => rfl)
theorem Ef : qp J2 0 := SA Ri (by decide) (G := qg) (fun _ _ _ _ => rfl) (fun _ _ => rfl)
theorem Ho : WJ Qn := by
  intro a0 a1 hm h0 hn h
  unfold Qn at h ⊢
  by_cases c0 : (J2 a0.Zh a1) < 0
  · simp [c0] at h
  obtain ⟨s0, t0⟩ := DY a0.Zh a1 (by simp [hm]) (by omega) (by omega) c0
  simp only [c0, decide_false, cond_false] at h ⊢
  exact ⟨s0, t0⟩
theorem GA : qp Qn 1 := by
  intro a0 a1 hm h0 hn h
  unfold Qn at h ⊢
  by_cases c0 : (J2 a0.Zh a1) < 0
  · simp [c0] at h
  obtain ⟨s0, t0⟩ := Ef a0.Zh a1 (by simp [hm]) (by omega) (by omega) c0
  simp only [c0, decide_false, cond_false] at h ⊢
  simp only [RZ, Vw, Ta, Zc.Jl]
  omega
theorem LJ : WJ YG := O6 Ho (G := K9) (fun _ _ _ _ => rfl) (fun _ _ => rfl)
theorem M4 : qp YG 0 := SA GA (by decide) (G := K9) (fun _ _ _ _ => rfl) (fun _ _ => rfl)
theorem Dp : WJ zC := by
  intro a0 a1 hm h0 hn h
  unfold zC at h ⊢
  by_cases c0 : (Z0 a0.Frame a1) < 0
  · simp [c0] at h
  obtain ⟨s0, t0⟩ := EY a0.Frame a1 (by simp [hm]) (by omega) (by omega) c0
  by_cases c1 : (YC a0.YN (Z0 a0.Frame a1)) < 0
  · simp [c1, c0] at h
  obtain ⟨s1, t1⟩ := Dm a0.YN (Z0 a0.Frame a1) (by simp [hm]) (by omega) (by omega) c1
  by_cases c2 : (Zk a0.YX (YC a0.YN (Z0 a0.Frame a1))) < 0
  · simp [c2, c0, c1] at h
  obtain ⟨s2, t2⟩ := qk a0.YX (YC a0.YN (Z0 a0.Frame a1)) (by simp [hm]) (by omega) (by omega) c2
  by_cases c3 : (YG a0.ZE (Zk a0.YX (YC a0.YN (Z0 a0.Frame a1)))) < 0
  · simp [c3, c0, c1, c2] at h
  obtain ⟨s3, t3⟩ := LJ a0.ZE (Zk a0.YX (YC a0.YN (Z0 a0.Frame a1))) (by simp [hm]) (by omega) (by omega) c3
  by_cases c4 : (Zk a0.Qg (YG a0.ZE (Zk a0.YX (YC a0.YN (Z0 a0.Frame a1))))) < 0
  · simp [c4, c0, c1, c2, c3] at h
  obtain ⟨s4, t4⟩ := qk a0.Qg (YG a0.ZE (Zk a0.YX (YC a0.YN (Z0 a0.Frame a1)))) (by simp [hm]) (by omega) (by omega) c4
  by_cases c5 : (Zk a0.Y4 (Zk a0.Qg (YG a0.ZE (Zk a0.YX (YC a0.YN (Z0 a0.Frame a1)))))) < 0
  · simp [c5, c0, c1, c2, c3, c4] at h
  obtain ⟨s5, t5⟩ := qk a0.Y4 (Zk a0.Qg (YG a0.ZE (Zk a0.YX (YC a0.YN (Z0 a0.Frame a1))))) (by simp [hm]) (by omega) (by omega) c5
  by_cases c6 : (Zk a0.XQ (Zk a0.Y4 (Zk a0.Qg (YG a0.ZE (Zk a0.YX (YC a0.YN (Z0 a0.Frame a1))))))) < 0
  · simp [c6, c0, c1, c2, c3, c4, c5] at h
  obtain ⟨s6, t6⟩ := qk a0.XQ (Zk a0.Y4 (Zk a0.Qg (YG a0.ZE (Zk a0.YX (YC a0.YN (Z0 a0.Frame a1)))))) (by simp [hm]) (by omega) (by omega) c6
  simp only [c0, c1, c2, c3, c4, c5, c6, decide_false, cond_false] at h ⊢
  exact ⟨⟨s0, s1, s2, s3, s4, s5, s6⟩, t6⟩
theorem P8 : qp zC 3 := by
  intro a0 a1 hm h0 hn h
  unfold zC at h ⊢
  by_cases c0 : (Z0 a0.Frame a1) < 0
  · simp [c0] at h
  obtain ⟨s0, t0⟩ := O4 a0.Frame a1 (by simp [hm]) (by omega) (by omega) c0
  by_cases c1 : (YC a0.YN (Z0 a0.Frame a1)) < 0
  · simp [c1, c0] at h
  obtain ⟨s1, t1⟩ := ND a0.YN (Z0 a0.Frame a1) (by simp [hm]) (by omega) (by omega) c1
  by_cases c2 : (Zk a0.YX (YC a0.YN (Z0 a0.Frame a1))) < 0
  · simp [c2, c0, c1] at h
  obtain ⟨s2, t2⟩ := yg a0.YX (YC a0.YN (Z0 a0.Frame a1)) (by simp [hm]) (by omega) (by omega) c2
  by_cases c3 : (YG a0.ZE (Zk a0.YX (YC a0.YN (Z0 a0.Frame a1)))) < 0
  · simp [c3, c0, c1, c2] at h
  obtain ⟨s3, t3⟩ := M4 a0.ZE (Zk a0.YX (YC a0.YN (Z0 a0.Frame a1))) (by simp [hm]) (by omega) (by omega) c3
  by_cases c4 : (Zk a0.Qg (YG a0.ZE (Zk a0.YX (YC a0.YN (Z0 a0.Frame a1))))) < 0
  · simp [c4, c0, c1, c2, c3] at h
  obtain ⟨s4, t4⟩ := yg a0.Qg (YG a0.ZE (Zk a0.YX (YC a0.YN (Z0 a0.Frame a1)))) (by simp [hm]) (by omega) (by omega) c4
  by_cases c5 : (Zk a0.Y4 (Zk a0.Qg (YG a0.ZE (Zk a0.YX (YC a0.YN (Z0 a0.Frame a1)))))) < 0
  · simp [c5, c0, c1, c2, c3, c4] at h
  obtain ⟨s5, t5⟩ := yg a0.Y4 (Zk a0.Qg (YG a0.ZE (Zk a0.YX (YC a0.YN (Z0 a0.Frame a1))))) (by simp [hm]) (by omega) (by omega) c5
  by_cases c6 : (Zk a0.XQ (Zk a0.Y4 (Zk a0.Qg (YG a0.ZE (Zk a0.YX (YC a0.YN (Z0 a0.Frame a1))))))) < 0
  · simp [c6, c0, c1, c2, c3, c4, c5] at h
  obtain ⟨s6, t6⟩ := yg a0.XQ (Zk a0.Y4 (Zk a0.Qg (YG a0.ZE (Zk a0.YX (YC a0.YN (Z0 a0.Frame a1)))))) (by simp [hm]) (by omega) (by omega) c6
  simp only [c0, c1, c2, c3, c4, c5, c6, decide_false, cond_false] at h ⊢
  simp only [RZ, Vw, Ta, Zi.Jl]
  omega
theorem qG (a0 : Zy) : IK a0 = a0 := by cases a0; simp [IK]
theorem yb (a0 : List Zy) : Hj a0 = a0 := xy (F := SF a0) (g := (fun x => x)) (fun _ => rfl) (fun _ _ _ => rfl) _ 0 _ (by simp) (by omega) (by omega) (fun j h => by omega)
theorem QV (a0 : ZF) : kQ a0 = a0 := by cases a0; simp [kQ]
theorem QC (a0 : List ZF) : VP a0 = a0 := xy (F := y6 a0) (g := (fun x => x)) (fun _ => rfl) (fun _ _ _ => rfl) _ 0 _ (by simp) (by omega) (by omega) (fun j h => by omega)
theorem Kd (a0 : Zg) : SB a0 = a0 := by cases a0; simp [SB]
theorem Jd (a0 : List Zg) : RJ a0 = a0 := xy (F := kO a0) (g := (fun x => x)) (fun _ => rfl) (fun _ _ _ => rfl) _ 0 _ (by simp) (by omega) (by omega) (fun j h => by omega)
theorem zg (a0 : ZH) : R9 a0 = a0 := by cases a0; simp [R9]
theorem yT (a0 : Zs) : Oj a0 = a0 := by cases a0; simp [Oj]
theorem zo (a0 : List Zs) : ML a0 = a0 := xy (F := Vq a0) (g := (fun x => x)) (fun _ => rfl) (fun _ _ _ => rfl) _ 0 _ (by simp) (by omega) (by omega) (fun j h => by omega)
theorem yI (a0 : List Int) : Iz a0 = a0 := xy (F := TZ a0) (g := (fun x => x)) (fun _ => rfl) (fun _ _ _ => rfl) _ 0 _ (by simp) (by omega) (by omega) (fun j h => by omega)
theorem Jm (a0 : List ByteArray) : S7 a0 = a0 := xy (F := kI a0) (g := (fun x => x)) (fun _ => rfl) (fun _ _ _ => rfl) _ 0 _ (by simp) (by omega) (by omega) (fun j h => by omega)
theorem Qz (a0 : Zd) : WZ a0 = a0 := by cases a0; simp [WZ]
theorem QU (a0 : ZY) : kD a0 = a0 := by cases a0; simp [kD]
theorem zk (a0 : ZB) : R7 a0 = a0 := by cases a0; simp [R7]
theorem Kh (a0 : List ZB) : P5 a0 = a0 := xy (F := We a0) (g := (fun x => x)) (fun _ => rfl) (fun _ _ _ => rfl) _ 0 _ (by simp) (by omega) (by omega) (fun j h => by omega)
theorem yq (a0 : Yq) : OV a0 = a0 := by cases a0; simp [OV]
theorem zl (a0 : List Yq) : Nd a0 = a0 := xy (F := Vn a0) (g := (fun x => x)) (fun _ => rfl) (fun _ _ _ => rfl) _ 0 _ (by simp) (by omega) (by omega) (fun j h => by omega)
theorem zx (a0 : ZZ) : R6 a0 = a0 := by cases a0; simp [R6]
theorem KV (a0 : List ZZ) : Pu a0 = a0 := xy (F := Wo a0) (g := (fun x => x)) (fun _ => rfl) (fun _ _ _ => rfl) _ 0 _ (by simp) (by omega) (by omega) (fun j h => by omega)
theorem Jj (a0 : ZV) : V7 a0 = a0 := by cases a0; simp [V7]
theorem Qy (a0 : List ZV) : Tp a0 = a0 := xy (F := jC a0) (g := (fun x => x)) (fun _ => rfl) (fun _ _ _ => rfl) _ 0 _ (by simp) (by omega) (by omega) (fun j h => by omega)
theorem Ka (a0 : ZK) : Tl a0 = a0 := by cases a0; simp [Tl]
theorem yx (a0 : Zt) : OX a0 = a0 := by cases a0; simp [OX]
theorem z5 (a0 : List Zt) : Nm a0 = a0 := xy (F := UM a0) (g := (fun x => x)) (fun _ => rfl) (fun _ _ _ => rfl) _ 0 _ (by simp) (by omega) (by omega) (fun j h => by omega)
theorem Ji (a0 : Zc) : V4 a0 = a0 := by cases a0; simp [V4]
theorem JC (a0 : List Zc) : T3 a0 = a0 := xy (F := jS a0) (g := (fun x => x)) (fun _ => rfl) (fun _ _ _ => rfl) _ 0 _ (by simp) (by omega) (by omega) (fun j h => by omega)
theorem ze (a0 : Zi) : R8 a0 = a0 := by cases a0; simp [R8]
theorem zq (a0 : List ZF) (a1 : Int) : Z2 a0 a1 < (a0.length : Int) := UJ (F := Qw a0 a1) (c := fun v1_0 => ((nth a0 v1_0).Id == a1)) (fun _ => rfl) (fun _ _ => rfl) _ _
theorem JK (a0 : List Zy) (a1 : Int) : Yc a0 a1 < (a0.length : Int) := UJ (F := qJ a0 a1) (c := fun v1_0 => ((nth a0 v1_0).Number == a1)) (fun _ => rfl) (fun _ _ => rfl) _ _
theorem GV (a0 : Zc) (a1 : Int) : y3 a0 a1 < (a0.Zh.length : Int) := UJ (F := xO a0 a1) (c := fun v1_0 => ((nth a0.Zh v1_0).Id == a1)) (fun _ => rfl) (fun _ _ => rfl) _ _
theorem E1 (a0 : ZB) : Nw a0 = a0 := rfl
theorem Bf (a0 : List ZB) : OI a0 = a0 := by
  have h := Rz (F := (T5 a0)) (a := a0) (g := (fun x => x)) (fun _ => rfl) (fun _ _ _ => rfl) (a0.length + 1) [] 0 (by omega) (by omega)
  simp only [List.nil_append, List.drop_zero] at h
  unfold OI
  rw [h]
theorem Ew (a0 : ZV) : MG a0 = a0 := rfl
theorem DG (a0 : ZK) : PA a0 = a0 := by
  have h := Rz (F := (fun n v i => Vu a0 n i v)) (a := a0.ZM) (g := (fun x => x)) (fun _ => rfl) (fun _ _ _ => rfl) (a0.ZM.length + 1) [] 0 (by omega) (by omega)
  simp only [List.nil_append, List.drop_zero] at h
  unfold PA
  rw [h]
theorem Ld (a0 : List Zg) (a1 : Int) : J8 a0 a1 < (a0.length : Int) := UJ (F := Ko a0 a1) (c := fun v1_0 => ((nth a0 v1_0).Id == a1)) (fun _ => rfl) (fun _ _ => rfl) _ _
theorem qu (a0 : List Zy) (a1 : Int) : Yg a0 a1 < (a0.length : Int) := UJ (F := qY a0 a1) (c := fun v1_0 => ((nth a0 v1_0).Number == a1)) (fun _ => rfl) (fun _ _ => rfl) _ _
theorem zy (a0 : List ZF) (a1 : Int) : Z4 a0 a1 < (a0.length : Int) := UJ (F := Qt a0 a1) (c := fun v1_0 => ((nth a0 v1_0).Id == a1)) (fun _ => rfl) (fun _ _ => rfl) _ _
theorem GW (a0 : Zc) (a1 : Int) : yo a0 a1 < (a0.Zh.length : Int) := UJ (F := xI a0 a1) (c := fun v1_0 => ((nth a0.Zh v1_0).Id == a1)) (fun _ => rfl) (fun _ _ => rfl) _ _
theorem Gh (a0 : List Int) : Pm a0 = a0 := rfl
theorem IN (a0 : ZB) : RQ a0 = a0 := rfl
theorem LX (a0 : List ZB) : Wg a0 = a0 := by
  have h := Rz (F := (jQ a0)) (a := a0) (g := (fun x => x)) (fun _ => rfl) (fun _ _ _ => rfl) (a0.length + 1) [] 0 (by omega) (by omega)
  simp only [List.nil_append, List.drop_zero] at h
  unfold Wg
  rw [h]
theorem LY (a0 : List ZZ) : T6 a0 = a0 := rfl
theorem MA (a0 : ZV) : UZ a0 = a0 := rfl
theorem L1 (a0 : ZK) : Wh a0 = a0 := by
  have h := Rz (F := (fun n v i => jW a0 n i v)) (a := a0.ZM) (g := (fun x => x)) (fun _ => rfl) (fun _ _ _ => rfl) (a0.ZM.length + 1) [] 0 (by omega) (by omega)
  simp only [List.nil_append, List.drop_zero] at h
  unfold Wh
  rw [h]
theorem LB (a0 : List Zg) (a1 : Int) : KJ a0 a1 < (a0.length : Int) := UJ (F := Kt a0 a1) (c := fun v1_0 => ((nth a0 v1_0).Id == a1)) (fun _ => rfl) (fun _ _ => rfl) _ _
theorem NL (a0 : Zy) : PD a0 a0 = true := by simp [PD]
theorem PW (a0 : List Zy) : Rb a0 a0 = true := by
  unfold Rb
  rw [xz (F := T4 a0 a0) (L := a0.length) (c := fun v1_0 => (!(PD (nth a0 v1_0) (nth a0 v1_0)))) (fun i => by simp [NL]) (fun _ => rfl) (fun _ _ => rfl)]
  simp
theorem VA (a0 : ZF) : yA a0 a0 = true := by simp [yA]
theorem WV (a0 : List ZF) : yP a0 a0 = true := by
  unfold yP
  rw [xz (F := xV a0 a0) (L := a0.length) (c := fun v1_0 => (!(yA (nth a0 v1_0) (nth a0 v1_0)))) (fun i => by simp [VA]) (fun _ => rfl) (fun _ _ => rfl)]
  simp
theorem Sh (a0 : Zg) : kA a0 a0 = true := by simp [kA]
theorem U3 (a0 : List Zg) : ks a0 a0 = true := by
  unfold ks
  rw [xz (F := kP a0 a0) (L := a0.length) (c := fun v1_0 => (!(kA (nth a0 v1_0) (nth a0 v1_0)))) (fun i => by simp [Sh]) (fun _ => rfl) (fun _ _ => rfl)]
  simp
theorem Rk (a0 : ZH) : Ul a0 a0 = true := by simp [Ul, WV, PW, U3]
theorem Pc (a0 : Zs) : TV a0 a0 = true := by simp [TV]
theorem RU (a0 : List Zs) : U6 a0 a0 = true := by
  unfold U6
  rw [xz (F := UD a0 a0) (L := a0.length) (c := fun v1_0 => (!(TV (nth a0 v1_0) (nth a0 v1_0)))) (fun i => by simp [Pc]) (fun _ => rfl) (fun _ _ => rfl)]
  simp
theorem kF (a0 : List Int) : xr a0 a0 = true := by
  unfold xr
  rw [xz (F := Tj a0 a0) (L := a0.length) (c := fun v1_0 => ((nth a0 v1_0) != (nth a0 v1_0))) (fun i => by simp) (fun _ => rfl) (fun _ _ => rfl)]
  simp
theorem TO (a0 : List ByteArray) : kg a0 a0 = true := by
  unfold kg
  rw [xz (F := kH a0 a0) (L := a0.length) (c := fun v1_0 => (!decide ((nth a0 v1_0) = (nth a0 v1_0)))) (fun i => by simp) (fun _ => rfl) (fun _ _ => rfl)]
  simp
theorem UN (a0 : Zd) : qq a0 a0 = true := by simp [qq, kF, TO]
theorem VN (a0 : ZY) : xl a0 a0 = true := by simp [xl]
theorem S4 (a0 : ZB) : Wr a0 a0 = true := by simp [Wr, kF]
theorem Si (a0 : List ZB) : VC a0 a0 = true := by
  unfold VC
  rw [xz (F := Wj a0 a0) (L := a0.length) (c := fun v1_0 => (!(Wr (nth a0 v1_0) (nth a0 v1_0)))) (fun i => by simp [S4]) (fun _ => rfl) (fun _ _ => rfl)]
  simp
theorem PS (a0 : Yq) : Uq a0 a0 = true := by simp [Uq]
theorem Rx (a0 : List Yq) : TC a0 a0 = true := by
  unfold TC
  rw [xz (F := UP a0 a0) (L := a0.length) (c := fun v1_0 => (!(Uq (nth a0 v1_0) (nth a0 v1_0)))) (fun i => by simp [PS]) (fun _ => rfl) (fun _ _ => rfl)]
  simp
theorem Ss (a0 : ZZ) : Wv a0 a0 = true := by simp [Wv]
theorem SW (a0 : List ZZ) : Wz a0 a0 = true := by
  unfold Wz
  rw [xz (F := Wi a0 a0) (L := a0.length) (c := fun v1_0 => (!(Wv (nth a0 v1_0) (nth a0 v1_0)))) (fun i => by simp [Ss]) (fun _ => rfl) (fun _ _ => rfl)]
  simp
theorem TQ (a0 : ZV) : qH a0 a0 = true := by simp [qH, SW, Rx]
theorem Vx (a0 : List ZV) : qm a0 a0 = true := by
  unfold qm
  rw [xz (F := jd a0 a0) (L := a0.length) (c := fun v1_0 => (!(qH (nth a0 v1_0) (nth a0 v1_0)))) (fun i => by simp [TQ]) (fun _ => rfl) (fun _ _ => rfl)]
  simp
theorem SU (a0 : ZK) : Wy a0 a0 = true := by simp [Wy, Si, Vx]
theorem Ph (a0 : Zt) : TP a0 a0 = true := by simp [TP, UN, VN, SU]
theorem Rc (a0 : List Zt) : TY a0 a0 = true := by
  unfold TY
  rw [xz (F := Vo a0 a0) (L := a0.length) (c := fun v1_0 => (!(TP (nth a0 v1_0) (nth a0 v1_0)))) (fun i => by simp [Ph]) (fun _ => rfl) (fun _ _ => rfl)]
  simp
theorem Um (a0 : Zc) : qb a0 a0 = true := by simp [qb, Rc]
theorem Vl (a0 : List Zc) : jP a0 a0 = true := by
  unfold jP
  rw [xz (F := ql a0 a0) (L := a0.length) (c := fun v1_0 => (!(qb (nth a0 v1_0) (nth a0 v1_0)))) (fun i => by simp [Um]) (fun _ => rfl) (fun _ _ => rfl)]
  simp
theorem GQ (a0 : Zi) : TK a0 a0 = true := by simp [TK, Vl, RU, Rk, kF]
theorem FY {n : Nat} {x : Zs} (h : 7 ≤ n) : Sm n (zu x) := ⟨by simp [zu]; omega, fun _ _ => trivial⟩
@[simp] theorem vt (x : Zs) : (zu x).length = 7 := rfl
theorem Fb {n : Nat} {x : Zs} (h : 7 ≤ n) : Sm n (z4 x) := ⟨by simp [z4]; omega, fun _ _ => trivial⟩
@[simp] theorem uP (x : Zs) : (z4 x).length = 7 := rfl
theorem HX {n : Nat} {x : ZZ} (h : 5 ≤ n) : Sm n (Qp x) := ⟨by simp [Qp]; omega, fun _ _ => trivial⟩
@[simp] theorem vZ (x : ZZ) : (Qp x).length = 5 := rfl
theorem Ii {n : Nat} {x : ZZ} (h : 5 ≤ n) : Sm n (QI x) := ⟨by simp [QI]; omega, fun _ _ => trivial⟩
@[simp] theorem vc (x : ZZ) : (QI x).length = 5 := rfl
theorem VD {n : Nat} {x : ZY} (h : 9 ≤ n) : Sm n (Xa x) := ⟨by simp [Xa]; omega, fun _ _ => trivial⟩
@[simp] theorem Bk (x : ZY) : (Xa x).length = 9 := rfl
theorem VX {n : Nat} {x : ZY} (h : 9 ≤ n) : Sm n (XY x) := ⟨by simp [XY]; omega, fun _ _ => trivial⟩
@[simp] theorem Bl (x : ZY) : (XY x).length = 9 := rfl
theorem Ni {n : Nat} {x : Zr} (h : 6 ≤ n) : Sm n (Qh x) := ⟨by simp [Qh]; omega, fun _ _ => trivial⟩
@[simp] theorem wA (x : Zr) : (Qh x).length = 6 := rfl
theorem Nf {n : Nat} {x : Zr} (h : 6 ≤ n) : Sm n (QX x) := ⟨by simp [QX]; omega, fun _ _ => trivial⟩
@[simp] theorem wU (x : Zr) : (QX x).length = 6 := rfl
theorem Hb {a : ZK} (h : qC a = true) : 0 < a.ZT.length := by
  unfold qC at h
  split at h
  · rename_i r e
    have : ∀ n v, y7 a n v ≠ .inl true := by
      intro n
      induction n with
      | zero => intro v h; cases h
      | succ n ih =>
        intro v h
        rw [y7] at h
        cases h1 : decide ((v : Int) < (a.ZT.length : Int)) with
        | false => rw [h1] at h; cases h
        | true =>
          rw [h1] at h
          cases h2 : decide (Qj a (nth a.ZT v) < (v : Int)) with
          | true => rw [h2] at h; cases h
          | false => rw [h2] at h; exact ih _ h
    subst h; exact absurd e (this _ _)
  · split at h
    · rename_i r e
      have : ∀ n v, xL a n v ≠ .inl true := by
        intro n
        induction n with
        | zero => intro v h; cases h
        | succ n ih =>
          intro v h
          rw [xL] at h
          generalize decide ((v : Int) < (a.ZM.length : Int)) = c1 at h
          cases c1 with
          | false => cases h
          | true =>
            simp only [cond_true] at h
            generalize (!Zw (nth a.ZM v).Count 1 (a.ZT.length : Int) || decide ((v : Int) > 0) && decide ((nth a.ZM (v - 1)).Count > (nth a.ZM v).Count)) = c2 at h
            cases c2 with
            | true => cases h
            | false => exact ih _ h
      subst h; exact absurd e (this _ _)
    · simp only [Zw, Bool.and_eq_true, decide_eq_true_eq] at h; omega
theorem H5 {a : ZK} (h : qE a = true) : 0 < a.ZT.length := by
  unfold qE at h
  generalize (match xG a (a.ZT.length + 1) 0 with | .inl r1 => r1 | .inr _ => (match xF a (a.ZM.length + 1) 0 with | .inl r2 => r2 | .inr _ => true)) = m at h
  cases hh : ZS (a.ZT.length : Int) 1 12 with
  | false => rw [hh] at h; simp at h
  | true => simp only [ZS, Bool.and_eq_true, decide_eq_true_eq] at hh; omega
theorem Nh {a : Zd} (h : J6 a = true) : a.XI.length = a.YY.length := by
  unfold J6 at h
  split at h
  · rename_i r e
    have : ∀ n v, Km a n v ≠ .inl true := by
      intro n
      induction n with
      | zero => intro v h; cases h
      | succ n ih =>
        intro v h
        rw [Km] at h
        generalize decide ((v : Int) < (a.YY.length : Int)) = c1 at h
        cases c1 with
        | false => cases h
        | true =>
          simp only [cond_true] at h
          generalize decide (((nth a.YY v).size : Int) > 40) = c2 at h
          cases c2 with
          | true => cases h
          | false => exact ih _ h
    subst h; exact absurd e (this _ _)
  · split at h
    · rename_i r e
      have : ∀ n v, zB a n v ≠ .inl true := by
        intro n
        induction n with
        | zero => intro v h; cases h
        | succ n ih =>
          intro v h
          rw [zB] at h
          generalize decide ((v : Int) < (a.XI.length : Int)) = c1 at h
          cases c1 with
          | false => cases h
          | true =>
            simp only [cond_true] at h
            generalize (!Zw (nth a.XI v) 1 1000000000000) = c2 at h
            cases c2 with
            | true => cases h
            | false => exact ih _ h
      subst h; exact absurd e (this _ _)
    · simp only [Bool.and_eq_true, beq_iff_eq] at h; omega
theorem MS {a : Zd} (h : KD a = true) : a.XI.length = a.YY.length := by
  unfold KD at h
  generalize (match zN a (a.YY.length + 1) 0 with | .inl r1 => r1 | .inr _ => true) = m at h
  by_cases hh : a.XI.length = a.YY.length
  · exact hh
  · rw [show ((a.XI.length : Int) != (a.YY.length : Int)) = true by simp; omega] at h
    simp at h
theorem SE (a0 : Zi) (a1 : Int) (h : 0 ≤ (QB a0 a1).1) : (QB a0 a1).1.toNat < a0.ZE.length ∧ 0 ≤ (QB a0 a1).2 ∧ (QB a0 a1).2.toNat < (nth a0.ZE (QB a0 a1).1.toNat).Zh.length := by
  have key : ∀ n v r, yW a0 a1 n v = .inl r → r.1.toNat < a0.ZE.length ∧ 0 ≤ r.2 ∧ r.2.toNat < (nth a0.ZE r.1.toNat).Zh.length := by
    intro n
    induction n with
    | zero => intro v r h; cases h
    | succ n ih =>
      intro v r h
      rw [yW] at h
      cases h1 : decide ((v : Int) < (a0.ZE.length : Int)) with
      | false => rw [h1] at h; cases h
      | true =>
        rw [h1] at h
        simp only [cond_true] at h
        cases h2 : decide (y3 (nth a0.ZE v) a1 ≥ 0) with
        | false => rw [h2] at h; exact ih _ _ h
        | true =>
          rw [h2] at h; cases h
          simp at h1 h2
          have := GV (nth a0.ZE v) a1
          simp only [Int.toNat_natCast]
          exact ⟨h1, h2, by omega⟩
  unfold QB at h ⊢
  cases hh : yW a0 a1 (a0.ZE.length + 1) 0 with
  | inl r => rw [hh] at h; exact key _ _ r hh
  | inr u => rw [hh] at h; simp at h
theorem Tn (a0 : Zi) (a1 : Int) (h : 0 ≤ (QD a0 a1).1) : (QD a0 a1).1.toNat < a0.ZE.length ∧ 0 ≤ (QD a0 a1).2 ∧ (QD a0 a1).2.toNat < (nth a0.ZE (QD a0 a1).1.toNat).Zh.length := by
  have key : ∀ n v r, yQ a0 a1 n v = .inl r → r.1.toNat < a0.ZE.length ∧ 0 ≤ r.2 ∧ r.2.toNat < (nth a0.ZE r.1.toNat).Zh.length := by
    intro n
    induction n with
    | zero => intro v r h; cases h
    | succ n ih =>
      intro v r h
      rw [yQ] at h
      cases h1 : decide ((v : Int) < (a0.ZE.length : Int)) with
      | false => rw [h1] at h; cases h
      | true =>
        rw [h1] at h
        simp only [cond_true] at h
        cases h2 : decide (yo (nth a0.ZE v) a1 ≥ 0) with
        | false => rw [h2] at h; exact ih _ _ h
        | true =>
          rw [h2] at h; cases h
          simp at h1 h2
          have := GW (nth a0.ZE v) a1
          simp only [Int.toNat_natCast]
          exact ⟨h1, h2, by omega⟩
  unfold QD at h ⊢
  cases hh : yQ a0 a1 (a0.ZE.length + 1) 0 with
  | inl r => rw [hh] at h; exact key _ _ r hh
  | inr u => rw [hh] at h; simp at h
theorem zd {a : Int} {n : Nat} (hn : n ≤ 9223372036854775807) (h : Zw a 0 (W ((n : Int) - 1)) = true) : 0 ≤ a ∧ a < n := by
  rw [RS n hn] at h
  simp only [Zw, Bool.and_eq_true, decide_eq_true_eq] at h; omega
theorem Qe {a : Int} {n : Nat} (hn : n ≤ 9223372036854775807) (h : ZS a 0 (W ((n : Int) - 1)) = true) : 0 ≤ a ∧ a < n := by
  rw [RS n hn] at h
  simp only [ZS, Bool.and_eq_true, decide_eq_true_eq] at h; omega
@[simp] theorem tG (l : List UInt8) : (jn l).length = l.length := by
  have key : ∀ n (acc : List Int) v, l.length < n + v → v ≤ l.length → (yJ l n acc v).length = acc.length + (l.length - v) := by
    intro n
    induction n with
    | zero => intro acc v h1 h2; omega
    | succ n ih =>
      intro acc v h1 h2
      rw [yJ]
      by_cases hv : v < l.length
      · rw [show decide ((v : Int) < (l.length : Int)) = true by simpa using hv, cond_true, ih _ (v + 1) (by omega) (by omega)]
        simp; omega
      · rw [show decide ((v : Int) < (l.length : Int)) = false by simpa using hv, cond_false]; omega
  have := key (l.length + 1) [] 0 (by omega) (by omega)
  simpa [jn] using this
theorem LP {n : Nat} {a0 : ZK} {a1 : Zd} (h : Sm n a0) : Sm n (zi a0 a1) := by
  have key : ∀ n (acc : List Int) v, a0.ZM.length < n + v → v ≤ a0.ZM.length → (Jg a0 a1 n acc v).length = acc.length + (a0.ZM.length - v) := by
    intro n
    induction n with
    | zero => intro acc v h1 h2; omega
    | succ n ih =>
      intro acc v h1 h2
      rw [Jg]
      by_cases hv : v < a0.ZM.length
      · rw [show decide ((v : Int) < (a0.ZM.length : Int)) = true by simpa using hv, cond_true, ih _ (v + 1) (by omega) (by omega)]
        simp; omega
      · rw [show decide ((v : Int) < (a0.ZM.length : Int)) = false by simpa using hv, cond_false]; omega
  have h2 := key (a0.ZM.length + 1) [] 0 (by omega) (by omega)
  have h3 := YH (ZK.Xo h)
  refine ⟨?_, fun _ _ => trivial⟩
  unfold zi
  simp only [List.length_nil, Nat.zero_add, Nat.sub_zero] at h2
  rw [h2]; exact h3
theorem L0 {n : Nat} {a0 : ZK} {a1 : Zd} (h : Sm n a0) : Sm n (KG a0 a1) := by
  have key : ∀ n (acc : List Int) v, a0.ZM.length < n + v → v ≤ a0.ZM.length → (Jb a0 a1 n acc v).length = acc.length + (a0.ZM.length - v) := by
    intro n
    induction n with
    | zero => intro acc v h1 h2; omega
    | succ n ih =>
      intro acc v h1 h2
      rw [Jb]
      by_cases hv : v < a0.ZM.length
      · rw [show decide ((v : Int) < (a0.ZM.length : Int)) = true by simpa using hv, cond_true, ih _ (v + 1) (by omega) (by omega)]
        simp; omega
      · rw [show decide ((v : Int) < (a0.ZM.length : Int)) = false by simpa using hv, cond_false]; omega
  have h2 := key (a0.ZM.length + 1) [] 0 (by omega) (by omega)
  have h3 := YH (ZK.Xo h)
  refine ⟨?_, fun _ _ => trivial⟩
  unfold KG
  simp only [List.length_nil, Nat.zero_add, Nat.sub_zero] at h2
  rw [h2]; exact h3
theorem ZW (a0 : ZB) : (Y2 a0 = 101 → a0.Zb.length = 7) ∧ (Y2 a0 = 102 → a0.Zb.length = 5) ∧ (Y2 a0 = 103 → a0.Zb.length = 5) ∧ (Y2 a0 = 104 → a0.Zb.length = 9) ∧ (Y2 a0 = 105 → a0.Zb.length = 6) := by
  have key : ∀ v : Int, v ≠ 0 → Y2 a0 = v → nth a0.Zb 0 = v ∧ (a0.Zb.length : Int) = nth ([7, 5, 5, 9, 6] : List Int) (W (v - 101)).toNat := by
    intro v hv h
    unfold Y2 at h
    cases c0 : (((↑a0.Zb.length : Int) == 0) || (!(Zw (nth a0.Zb 0) 101 105)))
    · rw [c0, cond_false] at h
      cases c1 : ((↑a0.Zb.length : Int) != (nth ([7, 5, 5, 9, 6] : List Int) (W ((nth a0.Zb 0) - 101)).toNat))
      · rw [c1, cond_false] at h
        simp only [bne_eq_false_iff_eq] at c1
        exact ⟨h, by rw [← h]; exact c1⟩
      · rw [c1, cond_true] at h; exact absurd h.symm hv
    · rw [c0, cond_true] at h; exact absurd h.symm hv
  refine ⟨fun h => ?_, fun h => ?_, fun h => ?_, fun h => ?_, fun h => ?_⟩ <;> (have := (key _ (by decide) h).2; simp [nth, Qv] at this; omega)
theorem ZX (a0 : ZB) : (Zv a0 = 101 → a0.Zb.length = 7) ∧ (Zv a0 = 102 → a0.Zb.length = 5) ∧ (Zv a0 = 103 → a0.Zb.length = 5) ∧ (Zv a0 = 104 → a0.Zb.length = 9) ∧ (Zv a0 = 105 → a0.Zb.length = 6) := by
  have key : ∀ v : Int, v ≠ 0 → Zv a0 = v → nth a0.Zb 0 = v ∧ (a0.Zb.length : Int) = nth ([7, 5, 5, 9, 6] : List Int) (W (v - 101)).toNat := by
    intro v hv h
    unfold Zv at h
    cases c1 : ((((↑a0.Zb.length : Int) == 0) || (!(ZS (nth a0.Zb 0) 101 105))) || ((↑a0.Zb.length : Int) != (nth ([7, 5, 5, 9, 6] : List Int) (W ((nth a0.Zb 0) - 101)).toNat)))
    · rw [c1, cond_false] at h
      simp only [Bool.or_eq_false_iff, bne_eq_false_iff_eq] at c1
      exact ⟨h, by rw [← h]; exact c1.2⟩
    · rw [c1, cond_true] at h; exact absurd h.symm hv
  refine ⟨fun h => ?_, fun h => ?_, fun h => ?_, fun h => ?_, fun h => ?_⟩ <;> (have := (key _ (by decide) h).2; simp [nth, Qv] at this; omega)
theorem Ye {n : Nat} {x : ZY} (h : 9 ≤ n) : Sm n (Yz x) := VD h
theorem Yd {n : Nat} {x : ZY} (h : 9 ≤ n) : Sm n (Yx x) := VX h
def itn (l : List Zc) : Nat := cnL (fun a => a.Zh.length) l
theorem Oe {l : List Zc} {i : Nat} (h : i < l.length) : itn (l.drop i) = (nth l i).Zh.length + itn (l.drop (i + 1)) := EP _ h
theorem W5 (a0 : Zi) : Xc a0 = a0.ZE.flatMap (·.Zh) := by
  unfold Xc
  have := NQ (as := a0.ZE) (fun a => a.Zh) (F := fun n i l => Vt a0 n l i) (fun _ _ _ => rfl) (a0.ZE.length + 1) 0 [] (by omega) (Nat.zero_le _)
  simpa using this
theorem Uc (a0 : Zi) : (Xc a0).length = itn a0.ZE := by rw [W5, CP]; rfl
theorem Pk {a0 : Zi} {a1 : Int} (hm : Sm maxLen a0) (h0 : 0 ≤ a1) (hn : a1 ≤ 1048576) (h : ¬ zC a0 a1 < 0) : itn a0.ZE ≤ 1048576 := by
  have hI : @qp Zt _ _ ⟨fun _ => 32⟩ xt 32 := fun a n hm h0 hn h => ⟨by have := (Ri a n hm h0 hn h).2; show ((32 : Nat) : Int) ≤ _; omega, (Ri a n hm h0 hn h).2⟩
  have hIS : @qp (List Zt) _ _ (@instCnList Zt ⟨fun _ => 32⟩) J2 0 := @SA Zt _ _ ⟨fun _ => 32⟩ xt 32 hI (by decide) J2 qg (fun _ _ _ _ => rfl) (fun _ _ => rfl)
  have hA : @qp Zc _ _ ⟨fun a => 32 * a.Zh.length⟩ Qn 0 := by
    intro a n hm h0 hn h
    unfold Qn at h ⊢
    by_cases c0 : (J2 a.Zh n) < 0
    · simp [c0] at h
    obtain ⟨s0, t0⟩ := hIS a.Zh n (by simp [hm]) (by omega) (by omega) c0
    simp only [c0, decide_false, cond_false] at h ⊢
    refine ⟨?_, t0⟩
    have e : cnL (fun _ : Zt => 32) a.Zh = 32 * a.Zh.length := Cc (fun _ => rfl) _
    have s1 : ((cnL (fun _ : Zt => 32) a.Zh : Nat) : Int) ≤ 32 * (n - J2 a.Zh n) + (0 : Nat) := s0
    rw [e] at s1; exact s1
  have hAS : @qp (List Zc) _ _ (@instCnList Zc ⟨fun a => 32 * a.Zh.length⟩) YG 0 := @SA Zc _ _ ⟨fun a => 32 * a.Zh.length⟩ Qn 0 hA (by decide) YG K9 (fun _ _ _ _ => rfl) (fun _ _ => rfl)
  unfold zC at h
  by_cases c0 : (Z0 a0.Frame a1) < 0
  · simp [c0] at h
  obtain ⟨_, t0⟩ := O4 a0.Frame a1 (by simp [hm]) (by omega) (by omega) c0
  by_cases c1 : (YC a0.YN (Z0 a0.Frame a1)) < 0
  · simp [c1, c0] at h
  obtain ⟨_, t1⟩ := ND a0.YN (Z0 a0.Frame a1) (by simp [hm]) (by omega) (by omega) c1
  by_cases c2 : (Zk a0.YX (YC a0.YN (Z0 a0.Frame a1))) < 0
  · simp [c2, c0, c1] at h
  obtain ⟨_, t2⟩ := yg a0.YX (YC a0.YN (Z0 a0.Frame a1)) (by simp [hm]) (by omega) (by omega) c2
  by_cases c3 : (YG a0.ZE (Zk a0.YX (YC a0.YN (Z0 a0.Frame a1)))) < 0
  · simp [c3, c0, c1, c2] at h
  obtain ⟨s3, t3⟩ := hAS a0.ZE (Zk a0.YX (YC a0.YN (Z0 a0.Frame a1))) (by simp [hm]) (by omega) (by omega) c3
  have s4 : ((cnL (fun a : Zc => 32 * a.Zh.length) a0.ZE : Nat) : Int) ≤ 32 * (Zk a0.YX (YC a0.YN (Z0 a0.Frame a1)) - YG a0.ZE (Zk a0.YX (YC a0.YN (Z0 a0.Frame a1)))) + (0 : Nat) := s3
  have e : ∀ l : List Zc, cnL (fun a : Zc => 32 * a.Zh.length) l = 32 * itn l := by
    intro l; induction l with
    | nil => rfl
    | cons x l ih => show 32 * x.Zh.length + cnL _ l = 32 * (x.Zh.length + itn l); rw [ih]; omega
  rw [e] at s4
  omega
theorem TR (a0 : ZH) (a1 : ZK) (a2 : List Int) : ∀ n v, KW a0 a1 a2 n v ≤ v
  | 0, _ => Nat.zero_le _
  | n + 1, v => by
    simp only [KW]
    exact Y3 (p := fun r => r ≤ v) (Nat.le_trans (TR a0 a1 a2 n (v - 1)) (Nat.sub_le _ _)) (Nat.le_refl _)
theorem Lc (a0 : ZH) (a1 : ZK) (a2 : List Int) : 0 ≤ J3 a0 a1 a2 ∧ J3 a0 a1 a2 ≤ (a1.ZM.length : Int) := by
  have h := TR a0 a1 a2 (a1.ZM.length + 1) a1.ZM.length
  simp only [J3]; omega
theorem Ur (a0 : ZH) (a1 : ZK) (a2 : List Int) : ∀ n v, Kg a0 a1 a2 n v ≤ v
  | 0, _ => Nat.zero_le _
  | n + 1, v => by
    simp only [Kg]
    exact Y3 (p := fun r => r ≤ v) (Y3 (p := fun r => r ≤ v) (Nat.le_refl _) (Nat.le_trans (Ur a0 a1 a2 n (v - 1)) (Nat.sub_le _ _))) (Nat.le_refl _)
theorem LW (a0 : ZH) (a1 : ZK) (a2 : List Int) : 0 ≤ KN a0 a1 a2 ∧ KN a0 a1 a2 ≤ (a1.ZM.length : Int) := by
  have h := Ur a0 a1 a2 (a1.ZM.length + 1) a1.ZM.length
  simp only [KN]; omega
theorem UY (a0 : List ZD) : ∀ (n : Nat) (l : List ZD) (i : Nat) (x y : Int), i ≤ a0.length → (qL a0 n l i x y).1.length ≤ l.length + (a0.length - i)
  | 0, _, _, _, _, _ => Nat.zero_le _
  | n + 1, l, i, x, y, hi => by
    simp only [qL]
    by_cases h : i < a0.length
    · rw [show decide ((i : Int) < (a0.length : Int)) = true by simpa using h, cond_true]
      refine Y3 (p := fun (r : List ZD × Int × Int) => r.1.length ≤ l.length + (a0.length - i)) ?_ ?_
      · have := UY a0 n (l ++ [nth a0 i]) (i + 1) x y h
        simp at this; omega
      · exact Nat.le_trans (UY a0 n l (i + 1) _ _ h) (by omega)
    · rw [show decide ((i : Int) < (a0.length : Int)) = false by simpa using h, cond_false]; exact Nat.le_add_right _ _
theorem Sr (a0 : List ZD) (a1 : ZD) : (Tg a0 a1).length ≤ a0.length + 1 := by
  have h := UY a0 (a0.length + 1) [] 0 a1.YE a1.To (Nat.zero_le _)
  simp only [Tg]
  simp at h ⊢
  omega
theorem WD (a0 : List ZD) : ∀ (n : Nat) (l : List ZD) (i : Nat), i ≤ a0.length → (zQ a0 n l i).length ≤ l.length + (a0.length - i)
  | 0, _, _, _ => Nat.zero_le _
  | n + 1, l, i, hi => by
    simp only [zQ]
    by_cases h : i < a0.length
    · rw [show decide ((i : Int) < (a0.length : Int)) = true by simpa using h, cond_true]
      refine Y3 (p := fun (r : List ZD) => r.length ≤ l.length + (a0.length - i)) ?_ ?_
      · have h1 := WD a0 n (Tg l (nth a0 i)) (i + 1) h
        have h2 := Sr l (nth a0 i)
        omega
      · exact Nat.le_trans (WD a0 n l (i + 1) h) (by omega)
    · rw [show decide ((i : Int) < (a0.length : Int)) = false by simpa using h, cond_false]; exact Nat.le_add_right _ _
theorem xT {n : Nat} {a0 : List ZD} (h : Sm n a0) : Sm n (XK a0) :=
  ⟨Nat.le_trans (WD a0 (a0.length + 1) [] 0 (Nat.zero_le _)) (by have := h.1; simp; omega), fun _ _ => trivial⟩
theorem WG (a0 : List ZD) : ∀ (n : Nat) (l : List ZD) (i : Nat) (x y : Int), i ≤ a0.length → (zb a0 n l i x y).1.length ≤ l.length + (a0.length - i)
  | 0, _, _, _, _, _ => Nat.zero_le _
  | n + 1, l, i, x, y, hi => by
    simp only [zb]
    by_cases h : i < a0.length
    · rw [show decide ((i : Int) < (a0.length : Int)) = true by simpa using h, cond_true]
      refine Y3 (p := fun (r : List ZD × Int × Int) => r.1.length ≤ l.length + (a0.length - i)) ?_ ?_
      · have := WG a0 n (l ++ [nth a0 i]) (i + 1) x y h
        simp at this; omega
      · exact Nat.le_trans (WG a0 n l (i + 1) _ _ h) (by omega)
    · rw [show decide ((i : Int) < (a0.length : Int)) = false by simpa using h, cond_false]; exact Nat.le_add_right _ _
theorem WB (a0 : List ZD) : ∀ (n : Nat) (l : List ZD) (i : Nat), i ≤ a0.length → (zc a0 n l i).length ≤ l.length + (a0.length - i)
  | 0, _, _, _ => Nat.zero_le _
  | n + 1, l, i, hi => by
    simp only [zc]
    by_cases h : i < a0.length
    · rw [show decide ((i : Int) < (a0.length : Int)) = true by simpa using h, cond_true]
      refine Y3 (p := fun (r : List ZD) => r.length ≤ l.length + (a0.length - i)) (Nat.le_trans (WB a0 n l (i + 1) h) (by omega)) ?_
      have h2 := WG l (l.length + 1) [] 0 (nth a0 i).YE (nth a0 i).To (Nat.zero_le _)
      refine Nat.le_trans (WB a0 n _ (i + 1) h) ?_
      simp at h2 ⊢
      omega
    · rw [show decide ((i : Int) < (a0.length : Int)) = false by simpa using h, cond_false]; exact Nat.le_add_right _ _
theorem y8 {n : Nat} {a0 : List ZD} (h : Sm n a0) : Sm n (Y1 a0) :=
  ⟨Nat.le_trans (WB a0 (a0.length + 1) [] 0 (Nat.zero_le _)) (by have := h.1; simp; omega), fun _ _ => trivial⟩
theorem ZJ {n : Nat} {a0 : List ZD} {a1 a2 : Int} (h : Sm n a0) : Sm (n + 1) (Yv a0 a1 a2) := by
  unfold Yv
  refine Y3 (p := fun r : List ZD => Sm (n + 1) r) (Za (Nat.le_succ n) h) ⟨?_, fun _ _ => trivial⟩
  have := h.1
  simp; omega
theorem ZC {n : Nat} {a0 a1 : Int} {a2 : List ZD} (h : Sm n a2) : Sm (n + 1) (Ze a0 a1 a2) := by
  unfold Ze
  refine Y3 (p := fun r : List ZD => Sm (n + 1) r) ⟨?_, fun _ _ => trivial⟩ (Za (Nat.le_succ n) h)
  have := h.1
  simp; omega
theorem Gt {n : Nat} {a0 : Zs} {a1 : List Zo} (h : 3 ≤ n) : Sm n (yn a0 a1) := by
  have h0 : Sm 0 ([] : List ZD) := ⟨Nat.zero_le _, fun _ _ => trivial⟩
  unfold yn
  refine Y3 (p := fun r : List ZD => Sm n r) (Y3 (p := fun r : List ZD => Sm n r) ?_ ?_) (Y3 (p := fun r : List ZD => Sm n r) ?_ ?_)
  · exact xT (Za h (ZJ (ZJ (ZJ h0))))
  · exact xT (Za (by omega) (ZJ (ZJ h0)))
  · exact xT (Za (by omega) (ZJ (ZJ h0)))
  · exact xT (Za (by omega) (ZJ h0))
theorem FB {n : Nat} {a0 : Zs} {a1 : List Zo} (h : 3 ≤ n) : Sm n (yS a0 a1) := by
  have h0 : Sm 0 ([] : List ZD) := ⟨Nat.zero_le _, fun _ _ => trivial⟩
  unfold yS
  refine Y3 (p := fun r : List ZD => Sm n r) (Y3 (p := fun r : List ZD => Sm n r) ?_ ?_) (Y3 (p := fun r : List ZD => Sm n r) ?_ ?_)
  · exact y8 (Za h (ZC (ZC (ZC h0))))
  · exact y8 (Za (by omega) (ZC (ZC h0)))
  · exact y8 (Za (by omega) (ZC (ZC h0)))
  · exact y8 (Za (by omega) (ZC h0))
theorem AH {n : Nat} {c d : ZD} (h : 1 ≤ n) : Sm n (Wu [c] [d]) := by
  show Sm n (XK (bif (J5 c d).2 then [(J5 c d).1] else []))
  exact xT (Y3 (p := fun r : List ZD => Sm n r) ⟨h, fun _ _ => trivial⟩ ⟨Nat.zero_le _, fun _ _ => trivial⟩)
theorem Hs {n : Nat} {a0 : Zs} {a1 : List Zo} (h : 1 ≤ n) : Sm n (zY a0 a1) := by
  unfold zY
  exact Y3 (p := fun r : List ZD => Sm n r) ⟨Nat.zero_le _, fun _ _ => trivial⟩ (AH h)
theorem OY {n : Nat} {a0 : List Zy} {a1 : List Zr} {a2 a3 : Int} (h : a1.length ≤ n) : Sm n (Jk a0 a1 a2 a3) :=
  xT ⟨Nat.le_trans (Uj (F := QW a0 a1 a2 a3) (fun _ _ => rfl) (fun _ _ _ => rfl) (a1.length + 1) [] 0) (by simp; omega), fun _ _ => trivial⟩
theorem AU {n : Nat} {c d : ZD} (h : 1 ≤ n) : Sm n (j7 [c] [d]) := by
  show Sm n (Y1 (bif (QJ c d).2 then [(QJ c d).1] else []))
  exact y8 (Y3 (p := fun r : List ZD => Sm n r) ⟨h, fun _ _ => trivial⟩ ⟨Nat.zero_le _, fun _ _ => trivial⟩)
theorem Hv {n : Nat} {a0 : Zs} {a1 : List Zo} (h : 1 ≤ n) : Sm n (zV a0 a1) := by
  unfold zV
  exact AU h
theorem Ot {n : Nat} {a0 : List Zy} {a1 : List Zr} {a2 a3 : Int} (h : a1.length ≤ n) : Sm n (Qk a0 a1 a2 a3) :=
  y8 ⟨Nat.le_trans (Uj (F := QS a0 a1 a2 a3) (fun _ _ => rfl) (fun _ _ _ => rfl) (a1.length + 1) [] 0) (by simp; omega), fun _ _ => trivial⟩
def CC (e : ZI) : Nat := cnL (fun s => s.ZT.length) e.ZL
theorem IL {l : List ZK} {i : Nat} (h : i < l.length) : cnL (fun s : ZK => s.ZT.length) (l.drop i) = (nth l i).ZT.length + cnL (fun s : ZK => s.ZT.length) (l.drop (i + 1)) := EP _ h
theorem WX (a0 : List ZB) (a1 : ZB) : (z8 a0 a1).length ≤ a0.length + 1 := by
  unfold z8
  refine Y3 (p := fun r : List ZB => r.length ≤ a0.length + 1) (Nat.le_succ _) ?_
  simp; omega
theorem S0 {n : Nat} {a0 : List ZB} {a1 : ZB} (h : Sm n a0) (h1 : Sm n a1) (hl : a0.length + 1 ≤ n) : Sm n (z8 a0 a1) := by
  refine ⟨Nat.le_trans (WX a0 a1) hl, ?_⟩
  unfold z8
  refine Y3 (p := fun r : List ZB => ∀ x ∈ r, Sm n x) h.2 ?_
  intro x hx
  simp only [List.mem_append, List.mem_singleton] at hx
  rcases hx with (hx | rfl) | hx
  · exact h.2 x (List.mem_of_mem_take hx)
  · exact h1
  · exact h.2 x (List.mem_of_mem_drop hx)
theorem xX {K : Nat} (a0 : ZH) (a1 : ZI) (a2 : List (List Int)) (v : Nat) (h : Sm K a1) : ∀ (n : Nat) (l : List ZB) (i : Nat), i ≤ (nth a1.ZL v).ZT.length → Sm K l → l.length + ((nth a1.ZL v).ZT.length - i) ≤ K → Sm K (XN a0 a1 a2 v n l i) ∧ (XN a0 a1 a2 v n l i).length ≤ l.length + ((nth a1.ZL v).ZT.length - i)
  | 0, _, _, _, _, _ => ⟨⟨Nat.zero_le _, fun x hx => by cases hx⟩, Nat.zero_le _⟩
  | n + 1, l, i, hi, hl, hk => by
    simp only [XN]
    by_cases hv : i < (nth a1.ZL v).ZT.length
    · rw [show decide ((i : Int) < ((nth a1.ZL v).ZT.length : Int)) = true by simpa using hv, cond_true]
      have hp : Sm K (nth (nth a1.ZL v).ZT i) := Zx (ZK.Yh (Zx (ZI.YS h)))
      have hl2 := WX l (nth (nth a1.ZL v).ZT i)
      refine Y3 (p := fun (r : List ZB) => Sm K r ∧ r.length ≤ l.length + ((nth a1.ZL v).ZT.length - i)) ?_ ?_
      · obtain ⟨r1, r2⟩ := xX a0 a1 a2 v h n (z8 l (nth (nth a1.ZL v).ZT i)) (i + 1) hv (S0 hl hp (by omega)) (by omega)
        exact ⟨r1, by omega⟩
      · obtain ⟨r1, r2⟩ := xX a0 a1 a2 v h n l (i + 1) hv hl (by omega)
        exact ⟨r1, by omega⟩
    · rw [show decide ((i : Int) < ((nth a1.ZL v).ZT.length : Int)) = false by simpa using hv, cond_false]
      exact ⟨hl, Nat.le_add_right _ _⟩
theorem WU {K : Nat} (a0 : ZH) (a1 : ZI) (a2 : List (List Int)) (h : Sm K a1) : ∀ (n : Nat) (l : List ZB) (i : Nat), i ≤ a1.ZL.length → Sm K l → l.length + cnL (fun s : ZK => s.ZT.length) (a1.ZL.drop i) ≤ K → Sm K (QN a0 a1 a2 n l i)
  | 0, _, _, _, _, _ => ⟨Nat.zero_le _, fun x hx => by cases hx⟩
  | n + 1, l, i, hi, hl, hk => by
    simp only [QN]
    by_cases hv : i < a1.ZL.length
    · rw [show decide ((i : Int) < (a1.ZL.length : Int)) = true by simpa using hv, cond_true]
      have hd := IL hv
      obtain ⟨r1, r2⟩ := xX a0 a1 a2 i h ((nth a1.ZL i).ZT.length + 1) l 0 (Nat.zero_le _) hl (by omega)
      exact WU a0 a1 a2 h n _ (i + 1) hv r1 (by omega)
    · rw [show decide ((i : Int) < (a1.ZL.length : Int)) = false by simpa using hv, cond_false]; exact hl
theorem ZN {K : Nat} {a0 : ZH} {a1 : ZI} {a2 : List (List Int)} (h : Sm K a1) (hp : CC a1 ≤ 2097152) (hk : 2097152 ≤ K) : Sm K (Zl a0 a1 a2) :=
  WU a0 a1 a2 h _ [] 0 (Nat.zero_le _) ⟨Nat.zero_le _, fun x hx => by cases hx⟩ (by rw [List.drop_zero]; simp only [List.length_nil]; exact Nat.le_trans (by rw [Nat.zero_add]; exact hp) hk)
theorem PU {a0 : ZH} {a1 : Int} {a2 : ZY} (h : ((jl a0 a1 a2).Code != 0) = false) : 0 ≤ Yc a0.Yb a2.Key := by
  unfold jl at h
  cases hk : decide (Yc a0.Yb a2.Key < 0) with
  | false => simpa using hk
  | true =>
    rw [hk] at h
    cases h1 : jr a0 <;> cases h2 : Kj a2 <;> cases h3 : decide (a1 < 0) <;> cases h4 : (a1 != a2.Yo) <;> rw [h1, h2, h3, h4] at h <;> cases h
theorem YJ {n : Nat} {a0 : List ZB} {a1 : Zs} (h : Sm n a0) : Sm n (Qb a0 a1) :=
  ⟨Nat.le_trans (Uj (F := Q7 a0 a1) (fun _ _ => rfl) (fun _ _ _ => rfl) (a0.length + 1) [] 0) (by have := h.1; simp; omega), fun _ _ => trivial⟩
theorem YP {n : Nat} {a0 : List ZB} (h : Sm n a0) : Sm n (z3 a0) :=
  ⟨Nat.le_trans (Uj (F := Js a0) (fun _ _ => rfl) (fun _ _ _ => rfl) (a0.length + 1) [] 0) (by have := h.1; simp; omega), fun _ _ => trivial⟩
theorem YK {n : Nat} {a0 : List ZB} {a1 : Zs} (h : Sm n a0) : Sm n (Qc a0 a1) :=
  ⟨Nat.le_trans (Uj (F := JD a0 a1) (fun _ _ => rfl) (fun _ _ _ => rfl) (a0.length + 1) [] 0) (by have := h.1; simp; omega), fun _ _ => trivial⟩
theorem YQ {n : Nat} {a0 : List ZB} (h : Sm n a0) : Sm n (zs a0) :=
  ⟨Nat.le_trans (Uj (F := Je a0) (fun _ _ => rfl) (fun _ _ _ => rfl) (a0.length + 1) [] 0) (by have := h.1; simp; omega), fun _ _ => trivial⟩
theorem kU {n : Nat} (a0 : ZI) (a1 : Zd) (h : Sm n a0) : ∀ (m : Nat) (l : List (List Int)) (i : Nat), i ≤ a0.ZL.length → Sm n l → l.length + (a0.ZL.length - i) ≤ n → Sm n (X6 a0 a1 m l i)
  | 0, _, _, _, _, _ => ⟨Nat.zero_le _, fun x hx => by cases hx⟩
  | m + 1, l, i, hi, hl, hk => by
    simp only [X6]
    by_cases hv : i < a0.ZL.length
    · rw [show decide ((i : Int) < (a0.ZL.length : Int)) = true by simpa using hv, cond_true]
      refine kU a0 a1 h m _ (i + 1) hv ⟨by simp; omega, fun x hx => ?_⟩ (by simp; omega)
      rcases List.mem_append.1 hx with hx | hx
      · exact hl.2 x hx
      · rw [List.mem_singleton.1 hx]; exact LP (Zx (ZI.YS h))
    · rw [show decide ((i : Int) < (a0.ZL.length : Int)) = false by simpa using hv, cond_false]; exact hl
theorem Xs {n : Nat} {a0 : ZI} {a1 : Zd} (h : Sm n a0) : Sm n (JE a0 a1) :=
  kU a0 a1 h _ [] 0 (Nat.zero_le _) ⟨Nat.zero_le _, fun x hx => by cases hx⟩ (by have z := YH (ZI.YS h); simp; omega)
theorem kW {n : Nat} (a0 : ZI) (a1 : Zd) (h : Sm n a0) : ∀ (m : Nat) (l : List (List Int)) (i : Nat), i ≤ a0.ZL.length → Sm n l → l.length + (a0.ZL.length - i) ≤ n → Sm n (X8 a0 a1 m l i)
  | 0, _, _, _, _, _ => ⟨Nat.zero_le _, fun x hx => by cases hx⟩
  | m + 1, l, i, hi, hl, hk => by
    simp only [X8]
    by_cases hv : i < a0.ZL.length
    · rw [show decide ((i : Int) < (a0.ZL.length : Int)) = true by simpa using hv, cond_true]
      refine kW a0 a1 h m _ (i + 1) hv ⟨by simp; omega, fun x hx => ?_⟩ (by simp; omega)
      rcases List.mem_append.1 hx with hx | hx
      · exact hl.2 x hx
      · rw [List.mem_singleton.1 hx]; exact L0 (Zx (ZI.YS h))
    · rw [show decide ((i : Int) < (a0.ZL.length : Int)) = false by simpa using hv, cond_false]; exact hl
theorem Xu {n : Nat} {a0 : ZI} {a1 : Zd} (h : Sm n a0) : Sm n (JA a0 a1) :=
  kW a0 a1 h _ [] 0 (Nat.zero_le _) ⟨Nat.zero_le _, fun x hx => by cases hx⟩ (by have z := YH (ZI.YS h); simp; omega)
theorem DC {K z : Nat} {l : List ZB} {p : ZB} (hl : Sm K l) (hp : Sm K p) (hk : l.length + 1 ≤ K) : Sm K ((l.take z ++ [p]) ++ (l.drop z).take (l.length - z)) ∧ ((l.take z ++ [p]) ++ (l.drop z).take (l.length - z)).length ≤ l.length + 1 := by
  have h : ((l.take z ++ [p]) ++ (l.drop z).take (l.length - z)).length ≤ l.length + 1 := by simp; omega
  refine ⟨⟨Nat.le_trans h hk, fun x hx => ?_⟩, h⟩
  simp only [List.mem_append, List.mem_singleton] at hx
  rcases hx with (hx | rfl) | hx
  · exact hl.2 x (List.mem_of_mem_take hx)
  · exact hp
  · exact hl.2 x (List.mem_of_mem_drop (List.mem_of_mem_take hx))
theorem xY {K : Nat} (a0 : ZH) (a1 : ZI) (a2 : List (List Int)) (v : Nat) (h : Sm K a1) : ∀ (n : Nat) (l : List ZB) (i : Nat), i ≤ (nth a1.ZL v).ZT.length → Sm K l → l.length + ((nth a1.ZL v).ZT.length - i) ≤ K → Sm K (Xe a0 a1 a2 v n l i) ∧ (Xe a0 a1 a2 v n l i).length ≤ l.length + ((nth a1.ZL v).ZT.length - i)
  | 0, _, _, _, _, _ => ⟨⟨Nat.zero_le _, fun x hx => by cases hx⟩, Nat.zero_le _⟩
  | n + 1, l, i, hi, hl, hk => by
    simp only [Xe]
    by_cases hv : i < (nth a1.ZL v).ZT.length
    · rw [show decide ((i : Int) < ((nth a1.ZL v).ZT.length : Int)) = true by simpa using hv, cond_true]
      have hp : Sm K (nth (nth a1.ZL v).ZT i) := Zx (ZK.Yh (Zx (ZI.YS h)))
      refine Y3 (p := fun (r : List ZB) => Sm K r ∧ r.length ≤ l.length + ((nth a1.ZL v).ZT.length - i)) ?_ ?_
      · obtain ⟨r1, r2⟩ := xY a0 a1 a2 v h n l (i + 1) hv hl (by omega)
        exact ⟨r1, by omega⟩
      · obtain ⟨q1, q2⟩ := DC (z := JV a1 v l i (l.length + 1) 0) hl hp (by omega)
        obtain ⟨r1, r2⟩ := xY a0 a1 a2 v h n _ (i + 1) hv q1 (by omega)
        exact ⟨r1, by omega⟩
    · rw [show decide ((i : Int) < ((nth a1.ZL v).ZT.length : Int)) = false by simpa using hv, cond_false]
      exact ⟨hl, Nat.le_add_right _ _⟩
theorem WS {K : Nat} (a0 : ZH) (a1 : ZI) (a2 : List (List Int)) (h : Sm K a1) : ∀ (n : Nat) (l : List ZB) (i : Nat), i ≤ a1.ZL.length → Sm K l → l.length + cnL (fun s : ZK => s.ZT.length) (a1.ZL.drop i) ≤ K → Sm K (QO a0 a1 a2 n l i)
  | 0, _, _, _, _, _ => ⟨Nat.zero_le _, fun x hx => by cases hx⟩
  | n + 1, l, i, hi, hl, hk => by
    simp only [QO]
    by_cases hv : i < a1.ZL.length
    · rw [show decide ((i : Int) < (a1.ZL.length : Int)) = true by simpa using hv, cond_true]
      have hd := IL hv
      obtain ⟨r1, r2⟩ := xY a0 a1 a2 i h ((nth a1.ZL i).ZT.length + 1) l 0 (Nat.zero_le _) hl (by omega)
      exact WS a0 a1 a2 h n _ (i + 1) hv r1 (by omega)
    · rw [show decide ((i : Int) < (a1.ZL.length : Int)) = false by simpa using hv, cond_false]; exact hl
theorem ZO {K : Nat} {a0 : ZH} {a1 : ZI} {a2 : List (List Int)} (h : Sm K a1) (hp : CC a1 ≤ 2097152) (hk : 2097152 ≤ K) : Sm K (Zj a0 a1 a2) :=
  WS a0 a1 a2 h _ [] 0 (Nat.zero_le _) ⟨Nat.zero_le _, fun x hx => by cases hx⟩ (by rw [List.drop_zero]; simp only [List.length_nil]; exact Nat.le_trans (by rw [Nat.zero_add]; exact hp) hk)
theorem EO {α β : Type} [Inhabited α] {as : List α} (c : α → Bool) (g : α → β) {F : Nat → Nat → List β → List β} (h1 : ∀ n i l, F (n + 1) i l = bif decide ((i : Int) < (as.length : Int)) then (bif c (nth as i) then F n (i + 1) (l ++ [g (nth as i)]) else F n (i + 1) l) else l) (n i : Nat) (l : List β) (h : as.length < n + i) (h2 : i ≤ as.length) : F n i l = l ++ (as.drop i).flatMap (fun a => bif c a then [g a] else []) :=
  NQ (fun a => bif c a then [g a] else []) (F := F) (fun n i l => by rw [h1]; cases decide ((i : Int) < (as.length : Int)) <;> simp only [MH, Nu]; cases c (nth as i) <;> simp) n i l h h2
theorem N1 {α β : Type} (f : α → List β) (h : ∀ x, (f x).length ≤ 1) : ∀ l : List α, (l.flatMap f).length ≤ l.length
  | [] => Nat.zero_le _
  | x :: l => by have := N1 f h l; have := h x; simp only [List.flatMap_cons, List.length_append, List.length_cons]; omega
theorem CQ {α : Type} (c : Bool) (x : α) : (bif c then [x] else []).length ≤ 1 := by cases c <;> simp
theorem Vp (a0 : Zi) : XE a0 = a0.ZE.flatMap (fun a => a.Zh.flatMap (fun x => bif (Qf a0 x.Id).Code == 1 then [x.Id] else [])) := by
  have h2 : ∀ v l, Kz a0 v ((nth a0.ZE v).Zh.length + 1) l 0 = l ++ (nth a0.ZE v).Zh.flatMap (fun x => bif (Qf a0 x.Id).Code == 1 then [x.Id] else []) := fun v l => by
    have := EO (as := (nth a0.ZE v).Zh) (fun x => (Qf a0 x.Id).Code == 1) (fun x => x.Id) (F := fun n i l => Kz a0 v n l i) (fun _ _ _ => rfl) ((nth a0.ZE v).Zh.length + 1) 0 l (by omega) (Nat.zero_le _)
    rw [this, List.drop_zero]
  have := NQ (as := a0.ZE) (fun a => a.Zh.flatMap (fun x => bif (Qf a0 x.Id).Code == 1 then [x.Id] else [])) (F := fun n i l => yr a0 n l i) (fun n i l => by simp only [yr, h2]) (a0.ZE.length + 1) 0 [] (by omega) (Nat.zero_le _)
  unfold XE
  rw [this]; rfl
theorem UL (a0 : Zi) : Y5 a0 = (Xc a0).flatMap (fun x => bif (KZ a0 x.Id).Code == 1 then [x.Id] else []) := by
  have := EO (as := Xc a0) (fun x => (KZ a0 x.Id).Code == 1) (fun x => x.Id) (F := fun n i l => yp a0 n l i) (fun _ _ _ => rfl) ((Xc a0).length + 1) 0 [] (by omega) (Nat.zero_le _)
  unfold Y5
  rw [this]; rfl
theorem Nk (a0 : Zi) : (Y5 a0).length ≤ itn a0.ZE := by
  rw [UL, ← Uc]; exact N1 _ (fun x => CQ _ _) _
theorem Ny (a0 : Zi) : (XE a0).length ≤ itn a0.ZE := by
  rw [Vp, ← Uc, W5, ← List.flatMap_assoc]; exact N1 _ (fun x => CQ _ _) _
end Go.Mo
