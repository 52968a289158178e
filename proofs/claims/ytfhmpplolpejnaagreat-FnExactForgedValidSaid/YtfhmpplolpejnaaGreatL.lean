/- Plain lemmas on the models of the helpers. No condition. -/
import Derived.Test.YtfhmpplolpejnaaGreatM
namespace Go.Mo
open Go.Vm
set_option linter.unusedSimpArgs false
set_option linter.unusedVariables false
theorem Ac : Wn Qr := RC (fun _ _ => trivial) (fun _ _ => rfl)
theorem BQ : jk Qr 0 := Sh (fun _ => Nat.le_of_ble_eq_true rfl) (fun _ _ => rfl)
theorem NN : Wn XW := RC (fun _ _ => trivial) (fun _ _ => rfl)
theorem Nc : jk XW 0 := Sh (fun _ => Nat.le_of_ble_eq_true rfl) (fun _ _ => rfl)
theorem G5 : Wn yK := RC (fun _ _ => trivial) (fun _ _ => rfl)
theorem HL : jk yK 0 := Sh (fun _ => Nat.le_of_ble_eq_true rfl) (fun _ _ => rfl)
theorem CA : Wn Z6 := by
  intro a0 a1 hm h0 hn h
  unfold Z6 at h ⊢
  by_cases c0 : (Qr a0.YY a1) < 0
  · simp [c0] at h
  obtain ⟨s0, t0⟩ := Ac a0.YY a1 (by simp [hm]) (by omega) (by omega) c0
  by_cases c1 : (XW a0.ZN (Qr a0.YY a1)) < 0
  · simp [c1, c0] at h
  obtain ⟨s1, t1⟩ := NN a0.ZN (Qr a0.YY a1) (by simp [hm]) (by omega) (by omega) c1
  by_cases c2 : (yK a0.Methods (XW a0.ZN (Qr a0.YY a1))) < 0
  · simp [c2, c0, c1] at h
  obtain ⟨s2, t2⟩ := G5 a0.Methods (XW a0.ZN (Qr a0.YY a1)) (by simp [hm]) (by omega) (by omega) c2
  simp only [c0, c1, c2, decide_false, cond_false] at h ⊢
  exact ⟨⟨s0, s1, s2⟩, t2⟩
theorem N5 : jk Z6 2 := by
  intro a0 a1 hm h0 hn h
  unfold Z6 at h ⊢
  by_cases c0 : (Qr a0.YY a1) < 0
  · simp [c0] at h
  obtain ⟨s0, t0⟩ := BQ a0.YY a1 (by simp [hm]) (by omega) (by omega) c0
  by_cases c1 : (XW a0.ZN (Qr a0.YY a1)) < 0
  · simp [c1, c0] at h
  obtain ⟨s1, t1⟩ := Nc a0.ZN (Qr a0.YY a1) (by simp [hm]) (by omega) (by omega) c1
  by_cases c2 : (yK a0.Methods (XW a0.ZN (Qr a0.YY a1))) < 0
  · simp [c2, c0, c1] at h
  obtain ⟨s2, t2⟩ := HL a0.Methods (XW a0.ZN (Qr a0.YY a1)) (by simp [hm]) (by omega) (by omega) c2
  simp only [c0, c1, c2, decide_false, cond_false] at h ⊢
  simp only [KH, JD, KK, ZI.X3]
  omega
theorem Ci : Wn YO := RC (fun _ _ => trivial) (fun _ _ => rfl)
theorem MD : jk YO 0 := Sh (fun _ => Nat.le_of_ble_eq_true rfl) (fun _ _ => rfl)
theorem jQ : Wn Zp := RC (fun _ _ => trivial) (fun _ _ => rfl)
theorem xm : jk Zp 0 := Sh (fun _ => Nat.le_of_ble_eq_true rfl) (fun _ _ => rfl)
theorem GZ : Wn QU := O3 uJ (G := qc) (fun _ _ _ _ => rfl) (fun _ _ => rfl)
theorem FM : jk QU 0 := RH uc (by decide) (G := qc) (fun _ _ _ _ => rfl) (fun _ _ => rfl)
theorem Iq : Wn Xk := by
  intro a0 a1 hm h0 hn h
  unfold Xk at h ⊢
  by_cases c0 : (QU a0.ZQ a1) < 0
  · simp [c0] at h
  obtain ⟨s0, t0⟩ := GZ a0.ZQ a1 (by simp [hm]) (by omega) (by omega) c0
  by_cases c1 : (Zp a0.Zb (QU a0.ZQ a1)) < 0
  · simp [c1, c0] at h
  obtain ⟨s1, t1⟩ := jQ a0.Zb (QU a0.ZQ a1) (by simp [hm]) (by omega) (by omega) c1
  simp only [c0, c1, decide_false, cond_false] at h ⊢
  exact ⟨⟨s0, s1⟩, t1⟩
theorem Lo : jk Xk 1 := by
  intro a0 a1 hm h0 hn h
  unfold Xk at h ⊢
  by_cases c0 : (QU a0.ZQ a1) < 0
  · simp [c0] at h
  obtain ⟨s0, t0⟩ := FM a0.ZQ a1 (by simp [hm]) (by omega) (by omega) c0
  by_cases c1 : (Zp a0.Zb (QU a0.ZQ a1)) < 0
  · simp [c1, c0] at h
  obtain ⟨s1, t1⟩ := xm a0.Zb (QU a0.ZQ a1) (by simp [hm]) (by omega) (by omega) c1
  simp only [c0, c1, decide_false, cond_false] at h ⊢
  simp only [KH, JD, KK, Zc.X3]
  omega
theorem Cw : Wn jR := by
  intro a0 a1 hm h0 hn h
  unfold jR at h ⊢
  by_cases c0 : (Zp a0.Zg a1) < 0
  · simp [c0] at h
  obtain ⟨s0, t0⟩ := jQ a0.Zg a1 (by simp [hm]) (by omega) (by omega) c0
  simp only [c0, decide_false, cond_false] at h ⊢
  exact ⟨s0, t0⟩
theorem Dr : jk jR 2 := by
  intro a0 a1 hm h0 hn h
  unfold jR at h ⊢
  by_cases c0 : (Zp a0.Zg a1) < 0
  · simp [c0] at h
  obtain ⟨s0, t0⟩ := xm a0.Zg a1 (by simp [hm]) (by omega) (by omega) c0
  simp only [c0, decide_false, cond_false] at h ⊢
  simp only [KH, JD, KK, ZD.X3]
  omega
theorem Fj : Wn JB := O3 Cw (G := jl) (fun _ _ _ _ => rfl) (fun _ _ => rfl)
theorem Fu : jk JB 0 := RH Dr (by decide) (G := jl) (fun _ _ _ _ => rfl) (fun _ _ => rfl)
theorem D1 : Wn Jp := RC (fun _ _ => trivial) (fun _ _ => rfl)
theorem Cv : jk Jp 0 := Sh (fun _ => Nat.le_of_ble_eq_true rfl) (fun _ _ => rfl)
theorem Ef : Wn xe := RC (fun _ _ => trivial) (fun _ _ => rfl)
theorem Fl : jk xe 0 := Sh (fun _ => Nat.le_of_ble_eq_true rfl) (fun _ _ => rfl)
theorem GV : Wn yS := by
  intro a0 a1 hm h0 hn h
  unfold yS at h ⊢
  by_cases c0 : (Jp a0.Path a1) < 0
  · simp [c0] at h
  obtain ⟨s0, t0⟩ := D1 a0.Path a1 (by simp [hm]) (by omega) (by omega) c0
  by_cases c1 : (xe a0.Zj (Jp a0.Path a1)) < 0
  · simp [c1, c0] at h
  obtain ⟨s1, t1⟩ := Ef a0.Zj (Jp a0.Path a1) (by simp [hm]) (by omega) (by omega) c1
  simp only [c0, c1, decide_false, cond_false] at h ⊢
  exact ⟨⟨s0, s1⟩, t1⟩
theorem FB : jk yS 3 := by
  intro a0 a1 hm h0 hn h
  unfold yS at h ⊢
  by_cases c0 : (Jp a0.Path a1) < 0
  · simp [c0] at h
  obtain ⟨s0, t0⟩ := Cv a0.Path a1 (by simp [hm]) (by omega) (by omega) c0
  by_cases c1 : (xe a0.Zj (Jp a0.Path a1)) < 0
  · simp [c1, c0] at h
  obtain ⟨s1, t1⟩ := Fl a0.Zj (Jp a0.Path a1) (by simp [hm]) (by omega) (by omega) c1
  simp only [c0, c1, decide_false, cond_false] at h ⊢
  simp only [KH, JD, KK, ZK.X3]
  omega
theorem L1 : Wn zL := O3 GV (G := xH) (fun _ _ _ _ => rfl) (fun _ _ => rfl)
theorem IV : jk zL 0 := RH FB (by decide) (G := xH) (fun _ _ _ _ => rfl) (fun _ _ => rfl)
theorem Eo : Wn zP := by
  intro a0 a1 hm h0 hn h
  unfold zP at h ⊢
  by_cases c0 : (JB a0.Zd a1) < 0
  · simp [c0] at h
  obtain ⟨s0, t0⟩ := Fj a0.Zd a1 (by simp [hm]) (by omega) (by omega) c0
  by_cases c1 : (zL a0.ZX (JB a0.Zd a1)) < 0
  · simp [c1, c0] at h
  obtain ⟨s1, t1⟩ := L1 a0.ZX (JB a0.Zd a1) (by simp [hm]) (by omega) (by omega) c1
  simp only [c0, c1, decide_false, cond_false] at h ⊢
  exact ⟨⟨s0, s1⟩, t1⟩
theorem Fx : jk zP 0 := by
  intro a0 a1 hm h0 hn h
  unfold zP at h ⊢
  by_cases c0 : (JB a0.Zd a1) < 0
  · simp [c0] at h
  obtain ⟨s0, t0⟩ := Fu a0.Zd a1 (by simp [hm]) (by omega) (by omega) c0
  by_cases c1 : (zL a0.ZX (JB a0.Zd a1)) < 0
  · simp [c1, c0] at h
  obtain ⟨s1, t1⟩ := IV a0.ZX (JB a0.Zd a1) (by simp [hm]) (by omega) (by omega) c1
  simp only [c0, c1, decide_false, cond_false] at h ⊢
  simp only [KH, JD, KK, ZP.X3]
  omega
theorem B9 : Wn ql := by
  intro a0 a1 hm h0 hn h
  unfold ql at h ⊢
  by_cases c0 : (Xk a0.Doc a1) < 0
  · simp [c0] at h
  obtain ⟨s0, t0⟩ := Iq a0.Doc a1 (by simp [hm]) (by omega) (by omega) c0
  by_cases c1 : (zP a0.Z0 (Xk a0.Doc a1)) < 0
  · simp [c1, c0] at h
  obtain ⟨s1, t1⟩ := Eo a0.Z0 (Xk a0.Doc a1) (by simp [hm]) (by omega) (by omega) c1
  simp only [c0, c1, decide_false, cond_false] at h ⊢
  exact ⟨⟨s0, s1⟩, t1⟩
theorem PV : jk ql 12 := by
  intro a0 a1 hm h0 hn h
  unfold ql at h ⊢
  by_cases c0 : (Xk a0.Doc a1) < 0
  · simp [c0] at h
  obtain ⟨s0, t0⟩ := Lo a0.Doc a1 (by simp [hm]) (by omega) (by omega) c0
  by_cases c1 : (zP a0.Z0 (Xk a0.Doc a1)) < 0
  · simp [c1, c0] at h
  obtain ⟨s1, t1⟩ := Fx a0.Z0 (Xk a0.Doc a1) (by simp [hm]) (by omega) (by omega) c1
  simp only [c0, c1, decide_false, cond_false] at h ⊢
  simp only [KH, JD, KK, Zm.X3, ZV.X3]
  omega
theorem CY : Wn Kx := O3 B9 (G := jD) (fun _ _ _ _ => rfl) (fun _ _ => rfl)
theorem CH : jk Kx 0 := RH PV (by decide) (G := jD) (fun _ _ _ _ => rfl) (fun _ _ => rfl)
theorem GW : Wn Jf := by
  intro a0 a1 hm h0 hn h
  unfold Jf at h ⊢
  by_cases c0 : (Kx a0.YM a1) < 0
  · simp [c0] at h
  obtain ⟨s0, t0⟩ := CY a0.YM a1 (by simp [hm]) (by omega) (by omega) c0
  simp only [c0, decide_false, cond_false] at h ⊢
  exact ⟨s0, t0⟩
theorem HY : jk Jf 1 := by
  intro a0 a1 hm h0 hn h
  unfold Jf at h ⊢
  by_cases c0 : (Kx a0.YM a1) < 0
  · simp [c0] at h
  obtain ⟨s0, t0⟩ := CH a0.YM a1 (by simp [hm]) (by omega) (by omega) c0
  simp only [c0, decide_false, cond_false] at h ⊢
  simp only [KH, JD, KK, Zf.X3]
  omega
theorem Il : Wn YT := O3 GW (G := zh) (fun _ _ _ _ => rfl) (fun _ _ => rfl)
theorem Ih : jk YT 0 := RH HY (by decide) (G := zh) (fun _ _ _ _ => rfl) (fun _ _ => rfl)
theorem VL : Wn QX := by
  intro a0 a1 hm h0 hn h
  unfold QX at h ⊢
  by_cases c0 : (Z6 a0.Frame a1) < 0
  · simp [c0] at h
  obtain ⟨s0, t0⟩ := CA a0.Frame a1 (by simp [hm]) (by omega) (by omega) c0
  by_cases c1 : (YO a0.Yg (Z6 a0.Frame a1)) < 0
  · simp [c1, c0] at h
  obtain ⟨s1, t1⟩ := Ci a0.Yg (Z6 a0.Frame a1) (by simp [hm]) (by omega) (by omega) c1
  by_cases c2 : (Zp a0.YW (YO a0.Yg (Z6 a0.Frame a1))) < 0
  · simp [c2, c0, c1] at h
  obtain ⟨s2, t2⟩ := jQ a0.YW (YO a0.Yg (Z6 a0.Frame a1)) (by simp [hm]) (by omega) (by omega) c2
  by_cases c3 : (YT a0.ZJ (Zp a0.YW (YO a0.Yg (Z6 a0.Frame a1)))) < 0
  · simp [c3, c0, c1, c2] at h
  obtain ⟨s3, t3⟩ := Il a0.ZJ (Zp a0.YW (YO a0.Yg (Z6 a0.Frame a1))) (by simp [hm]) (by omega) (by omega) c3
  by_cases c4 : (Zp a0.J8 (YT a0.ZJ (Zp a0.YW (YO a0.Yg (Z6 a0.Frame a1))))) < 0
  · simp [c4, c0, c1, c2, c3] at h
  obtain ⟨s4, t4⟩ := jQ a0.J8 (YT a0.ZJ (Zp a0.YW (YO a0.Yg (Z6 a0.Frame a1)))) (by simp [hm]) (by omega) (by omega) c4
  by_cases c5 : (Zp a0.Q6 (Zp a0.J8 (YT a0.ZJ (Zp a0.YW (YO a0.Yg (Z6 a0.Frame a1)))))) < 0
  · simp [c5, c0, c1, c2, c3, c4] at h
  obtain ⟨s5, t5⟩ := jQ a0.Q6 (Zp a0.J8 (YT a0.ZJ (Zp a0.YW (YO a0.Yg (Z6 a0.Frame a1))))) (by simp [hm]) (by omega) (by omega) c5
  by_cases c6 : (Zp a0.QP (Zp a0.Q6 (Zp a0.J8 (YT a0.ZJ (Zp a0.YW (YO a0.Yg (Z6 a0.Frame a1))))))) < 0
  · simp [c6, c0, c1, c2, c3, c4, c5] at h
  obtain ⟨s6, t6⟩ := jQ a0.QP (Zp a0.Q6 (Zp a0.J8 (YT a0.ZJ (Zp a0.YW (YO a0.Yg (Z6 a0.Frame a1)))))) (by simp [hm]) (by omega) (by omega) c6
  simp only [c0, c1, c2, c3, c4, c5, c6, decide_false, cond_false] at h ⊢
  exact ⟨⟨s0, s1, s2, s3, s4, s5, s6⟩, t6⟩
theorem zH : jk QX 3 := by
  intro a0 a1 hm h0 hn h
  unfold QX at h ⊢
  by_cases c0 : (Z6 a0.Frame a1) < 0
  · simp [c0] at h
  obtain ⟨s0, t0⟩ := N5 a0.Frame a1 (by simp [hm]) (by omega) (by omega) c0
  by_cases c1 : (YO a0.Yg (Z6 a0.Frame a1)) < 0
  · simp [c1, c0] at h
  obtain ⟨s1, t1⟩ := MD a0.Yg (Z6 a0.Frame a1) (by simp [hm]) (by omega) (by omega) c1
  by_cases c2 : (Zp a0.YW (YO a0.Yg (Z6 a0.Frame a1))) < 0
  · simp [c2, c0, c1] at h
  obtain ⟨s2, t2⟩ := xm a0.YW (YO a0.Yg (Z6 a0.Frame a1)) (by simp [hm]) (by omega) (by omega) c2
  by_cases c3 : (YT a0.ZJ (Zp a0.YW (YO a0.Yg (Z6 a0.Frame a1)))) < 0
  · simp [c3, c0, c1, c2] at h
  obtain ⟨s3, t3⟩ := Ih a0.ZJ (Zp a0.YW (YO a0.Yg (Z6 a0.Frame a1))) (by simp [hm]) (by omega) (by omega) c3
  by_cases c4 : (Zp a0.J8 (YT a0.ZJ (Zp a0.YW (YO a0.Yg (Z6 a0.Frame a1))))) < 0
  · simp [c4, c0, c1, c2, c3] at h
  obtain ⟨s4, t4⟩ := xm a0.J8 (YT a0.ZJ (Zp a0.YW (YO a0.Yg (Z6 a0.Frame a1)))) (by simp [hm]) (by omega) (by omega) c4
  by_cases c5 : (Zp a0.Q6 (Zp a0.J8 (YT a0.ZJ (Zp a0.YW (YO a0.Yg (Z6 a0.Frame a1)))))) < 0
  · simp [c5, c0, c1, c2, c3, c4] at h
  obtain ⟨s5, t5⟩ := xm a0.Q6 (Zp a0.J8 (YT a0.ZJ (Zp a0.YW (YO a0.Yg (Z6 a0.Frame a1))))) (by simp [hm]) (by omega) (by omega) c5
  by_cases c6 : (Zp a0.QP (Zp a0.Q6 (Zp a0.J8 (YT a0.ZJ (Zp a0.YW (YO a0.Yg (Z6 a0.Frame a1))))))) < 0
  · simp [c6, c0, c1, c2, c3, c4, c5] at h
  obtain ⟨s6, t6⟩ := xm a0.QP (Zp a0.Q6 (Zp a0.J8 (YT a0.ZJ (Zp a0.YW (YO a0.Yg (Z6 a0.Frame a1)))))) (by simp [hm]) (by omega) (by omega) c6
  simp only [c0, c1, c2, c3, c4, c5, c6, decide_false, cond_false] at h ⊢
  simp only [KH, JD, KK, Zo.X3]
  omega
theorem Qj (a0 : Zs) : HF a0 = a0 := by cases a0; simp [HF]
theorem QE (a0 : List Zs) : FY a0 = a0 := qn (F := S6 a0) (g := (fun x => x)) (fun _ => rfl) (fun _ _ _ => rfl) _ 0 _ (by simp) (by omega) (by omega) (fun j h => by omega)
theorem Y6 (a0 : ZG) : WB a0 = a0 := by cases a0; simp [WB]
theorem Y1 (a0 : List ZG) : UB a0 = a0 := qn (F := xp a0) (g := (fun x => x)) (fun _ => rfl) (fun _ _ _ => rfl) _ 0 _ (by simp) (by omega) (by omega) (fun j h => by omega)
theorem Xb (a0 : Zh) : SS a0 = a0 := by cases a0; simp [SS]
theorem XM (a0 : List Zh) : R6 a0 = a0 := qn (F := WE a0) (g := (fun x => x)) (fun _ => rfl) (fun _ _ _ => rfl) _ 0 _ (by simp) (by omega) (by omega) (fun j h => by omega)
theorem Xm (a0 : ZI) : Pv a0 = a0 := by cases a0; simp [Pv]
theorem X7 (a0 : Zn) : Nm a0 = a0 := by cases a0; simp [Nm]
theorem Xq (a0 : List Zn) : Mc a0 = a0 := qn (F := U8 a0) (g := (fun x => x)) (fun _ => rfl) (fun _ _ _ => rfl) _ 0 _ (by simp) (by omega) (by omega) (fun j h => by omega)
theorem QC (a0 : List Int) : GS a0 = a0 := qn (F := Sw a0) (g := (fun x => x)) (fun _ => rfl) (fun _ _ _ => rfl) _ 0 _ (by simp) (by omega) (by omega) (fun j h => by omega)
theorem XN (a0 : List ByteArray) : Rq a0 = a0 := qn (F := ky a0) (g := (fun x => x)) (fun _ => rfl) (fun _ _ _ => rfl) _ 0 _ (by simp) (by omega) (by omega) (fun j h => by omega)
theorem XE (a0 : Zc) : VE a0 = a0 := by cases a0; simp [VE]
theorem Y5 (a0 : ZV) : WD a0 = a0 := by cases a0; simp [WD]
theorem Xo (a0 : ZD) : Pm a0 = a0 := by cases a0; simp [Pm]
theorem Xa (a0 : List ZD) : OU a0 = a0 := qn (F := VD a0) (g := (fun x => x)) (fun _ => rfl) (fun _ _ _ => rfl) _ 0 _ (by simp) (by omega) (by omega) (fun j h => by omega)
theorem QA (a0 : Ya) : MA a0 = a0 := by cases a0; simp [MA]
theorem Xr (a0 : List Ya) : Mn a0 = a0 := qn (F := Uj a0) (g := (fun x => x)) (fun _ => rfl) (fun _ _ _ => rfl) _ 0 _ (by simp) (by omega) (by omega) (fun j h => by omega)
theorem Xp (a0 : ZY) : Pu a0 = a0 := by cases a0; simp [Pu]
theorem Xc (a0 : List ZY) : Oc a0 = a0 := qn (F := VT a0) (g := (fun x => x)) (fun _ => rfl) (fun _ _ _ => rfl) _ 0 _ (by simp) (by omega) (by omega) (fun j h => by omega)
theorem XO (a0 : ZK) : Un a0 = a0 := by cases a0; simp [Un]
theorem XC (a0 : List ZK) : Si a0 = a0 := qn (F := jc a0) (g := (fun x => x)) (fun _ => rfl) (fun _ _ _ => rfl) _ 0 _ (by simp) (by omega) (by omega) (fun j h => by omega)
theorem XZ (a0 : ZP) : Sv a0 = a0 := by cases a0; simp [Sv]
theorem X8 (a0 : Zm) : Na a0 = a0 := by cases a0; simp [Na]
theorem Xt (a0 : List Zm) : M5 a0 = a0 := qn (F := U0 a0) (g := (fun x => x)) (fun _ => rfl) (fun _ _ _ => rfl) _ 0 _ (by simp) (by omega) (by omega) (fun j h => by omega)
theorem XL (a0 : Zf) : Ux a0 = a0 := by cases a0; simp [Ux]
theorem XD (a0 : List Zf) : RJ a0 = a0 := qn (F := jz a0) (g := (fun x => x)) (fun _ => rfl) (fun _ _ _ => rfl) _ 0 _ (by simp) (by omega) (by omega) (fun j h => by omega)
theorem Xn (a0 : Zo) : Pn a0 = a0 := by cases a0; simp [Pn]
theorem Fa (a0 : Zf) (a1 : Int) : xd a0 a1 < (a0.YM.length : Int) := Us (F := xw a0 a1) (c := fun v1_0 => ((nth a0.YM v1_0).Id == a1)) (fun _ => rfl) (fun _ _ => rfl) _ _
theorem D7 (a0 : ZD) : ML a0 = a0 := rfl
theorem Bo (a0 : List ZD) : O7 a0 = a0 := by
  have h := Pj (F := (S4 a0)) (a := a0) (g := (fun x => x)) (fun _ => rfl) (fun _ _ _ => rfl) (a0.length + 1) [] 0 (by omega) (by omega)
  simp only [List.nil_append, List.drop_zero] at h
  unfold O7
  rw [h]
theorem Dt (a0 : ZK) : MX a0 = a0 := rfl
theorem Dy (a0 : ZP) : Pk a0 = a0 := by
  have h := Pj (F := (fun n v i => UX a0 n i v)) (a := a0.ZX) (g := (fun x => x)) (fun _ => rfl) (fun _ _ _ => rfl) (a0.ZX.length + 1) [] 0 (by omega) (by omega)
  simp only [List.nil_append, List.drop_zero] at h
  unfold Pk
  rw [h]
theorem KF (a0 : List Zs) (a1 : Int) : Ys a0 a1 < (a0.length : Int) := Us (F := jT a0 a1) (c := fun v1_0 => ((nth a0 v1_0).Number == a1)) (fun _ => rfl) (fun _ _ => rfl) _ _
theorem yn (a0 : List ZG) (a1 : Int) : Z9 a0 a1 < (a0.length : Int) := Us (F := Jw a0 a1) (c := fun v1_0 => ((nth a0 v1_0).Id == a1)) (fun _ => rfl) (fun _ _ => rfl) _ _
theorem L4 (a0 : List Zh) (a1 : Int) : zI a0 a1 < (a0.length : Int) := Us (F := zs a0 a1) (c := fun v1_0 => ((nth a0 v1_0).Id == a1)) (fun _ => rfl) (fun _ _ => rfl) _ _
theorem EY (a0 : Zf) (a1 : Int) : xR a0 a1 < (a0.YM.length : Int) := Us (F := qG a0 a1) (c := fun v1_0 => ((nth a0.YM v1_0).Id == a1)) (fun _ => rfl) (fun _ _ => rfl) _ _
theorem EE (a0 : List Int) : Oi a0 = a0 := rfl
theorem G3 (a0 : ZD) : PW a0 = a0 := rfl
theorem IF (a0 : List ZD) : VG a0 = a0 := by
  have h := Pj (F := (kK a0)) (a := a0) (g := (fun x => x)) (fun _ => rfl) (fun _ _ _ => rfl) (a0.length + 1) [] 0 (by omega) (by omega)
  simp only [List.nil_append, List.drop_zero] at h
  unfold VG
  rw [h]
theorem Lu (a0 : List ZY) : S0 a0 = a0 := rfl
theorem Mi (a0 : ZK) : TU a0 = a0 := rfl
theorem II (a0 : ZP) : VH a0 = a0 := by
  have h := Pj (F := (fun n v i => jt a0 n i v)) (a := a0.ZX) (g := (fun x => x)) (fun _ => rfl) (fun _ _ _ => rfl) (a0.ZX.length + 1) [] 0 (by omega) (by omega)
  simp only [List.nil_append, List.drop_zero] at h
  unfold VH
  rw [h]
theorem kD (a0 : List Zs) (a1 : Int) : Yx a0 a1 < (a0.length : Int) := Us (F := jF a0 a1) (c := fun v1_0 => ((nth a0 v1_0).Number == a1)) (fun _ => rfl) (fun _ _ => rfl) _ _
theorem ye (a0 : List ZG) (a1 : Int) : YC a0 a1 < (a0.length : Int) := Us (F := Jt a0 a1) (c := fun v1_0 => ((nth a0 v1_0).Id == a1)) (fun _ => rfl) (fun _ _ => rfl) _ _
theorem IQ (a0 : List Zh) (a1 : Int) : K6 a0 a1 < (a0.length : Int) := Us (F := yD a0 a1) (c := fun v1_0 => ((nth a0 v1_0).Id == a1)) (fun _ => rfl) (fun _ _ => rfl) _ _
theorem qi (a0 : List Int) : KC a0 a0 = true := by
  unfold KC
  rw [qp (F := Sr a0 a0) (L := a0.length) (c := fun v1_0 => ((nth a0 v1_0) != (nth a0 v1_0))) (fun i => by simp) (fun _ => rfl) (fun _ _ => rfl)]
  simp
theorem RI (a0 : Zs) : Ph a0 a0 = true := by simp [Ph]
theorem TV (a0 : List Zs) : PR a0 a0 = true := by
  unfold PR
  rw [qp (F := SU a0 a0) (L := a0.length) (c := fun v1_0 => (!(Ph (nth a0 v1_0) (nth a0 v1_0)))) (fun i => by simp [RI]) (fun _ => rfl) (fun _ _ => rfl)]
  simp
theorem qq (a0 : ZG) : yz a0 a0 = true := by simp [yz]
theorem qR (a0 : List ZG) : xk a0 a0 = true := by
  unfold xk
  rw [qp (F := qK a0 a0) (L := a0.length) (c := fun v1_0 => (!(yz (nth a0 v1_0) (nth a0 v1_0)))) (fun i => by simp [qq]) (fun _ => rfl) (fun _ _ => rfl)]
  simp
theorem W4 (a0 : Zh) : kU a0 a0 = true := by simp [kU]
theorem kW (a0 : List Zh) : Wi a0 a0 = true := by
  unfold Wi
  rw [qp (F := kv a0 a0) (L := a0.length) (c := fun v1_0 => (!(kU (nth a0 v1_0) (nth a0 v1_0)))) (fun i => by simp [W4]) (fun _ => rfl) (fun _ _ => rfl)]
  simp
theorem US (a0 : ZI) : Tb a0 a0 = true := by simp [Tb, qR, TV, kW]
theorem TW (a0 : Zn) : Tx a0 a0 = true := by simp [Tx]
theorem UA (a0 : List Zn) : T8 a0 a0 = true := by
  unfold T8
  rw [qp (F := Um a0 a0) (L := a0.length) (c := fun v1_0 => (!(Tx (nth a0 v1_0) (nth a0 v1_0)))) (fun i => by simp [TW]) (fun _ => rfl) (fun _ _ => rfl)]
  simp
theorem kh (a0 : List ByteArray) : Wf a0 a0 = true := by
  unfold Wf
  rw [qp (F := kr a0 a0) (L := a0.length) (c := fun v1_0 => (!decide ((nth a0 v1_0) = (nth a0 v1_0)))) (fun i => by simp) (fun _ => rfl) (fun _ _ => rfl)]
  simp
theorem jo (a0 : Zc) : jd a0 a0 = true := by simp [jd, qi, kh]
theorem qt (a0 : ZV) : qW a0 a0 = true := by simp [qW]
theorem UH (a0 : ZD) : VV a0 a0 = true := by simp [VV, qi]
theorem Wq (a0 : List ZD) : Vr a0 a0 = true := by
  unfold Vr
  rw [qp (F := VK a0 a0) (L := a0.length) (c := fun v1_0 => (!(VV (nth a0 v1_0) (nth a0 v1_0)))) (fun i => by simp [UH]) (fun _ => rfl) (fun _ _ => rfl)]
  simp
theorem TX (a0 : Ya) : Tn a0 a0 = true := by simp [Tn]
theorem UC (a0 : List Ya) : Tu a0 a0 = true := by
  unfold Tu
  rw [qp (F := TA a0 a0) (L := a0.length) (c := fun v1_0 => (!(Tn (nth a0 v1_0) (nth a0 v1_0)))) (fun i => by simp [TX]) (fun _ => rfl) (fun _ _ => rfl)]
  simp
theorem UN (a0 : ZY) : Vg a0 a0 = true := by simp [Vg]
theorem Wm (a0 : List ZY) : Vl a0 a0 = true := by
  unfold Vl
  rw [qp (F := VQ a0 a0) (L := a0.length) (c := fun v1_0 => (!(Vg (nth a0 v1_0) (nth a0 v1_0)))) (fun i => by simp [UN]) (fun _ => rfl) (fun _ _ => rfl)]
  simp
theorem kg (a0 : ZK) : jI a0 a0 = true := by simp [jI, Wm, UC]
theorem jn (a0 : List ZK) : kH a0 a0 = true := by
  unfold kH
  rw [qp (F := kA a0 a0) (L := a0.length) (c := fun v1_0 => (!(jI (nth a0 v1_0) (nth a0 v1_0)))) (fun i => by simp [kg]) (fun _ => rfl) (fun _ _ => rfl)]
  simp
theorem Wo (a0 : ZP) : UE a0 a0 = true := by simp [UE, Wq, jn]
theorem Ta (a0 : Zm) : SF a0 a0 = true := by simp [SF, jo, qt, Wo]
theorem Vp (a0 : List Zm) : SQ a0 a0 = true := by
  unfold SQ
  rw [qp (F := UZ a0 a0) (L := a0.length) (c := fun v1_0 => (!(SF (nth a0 v1_0) (nth a0 v1_0)))) (fun i => by simp [Ta]) (fun _ => rfl) (fun _ _ => rfl)]
  simp
theorem kj (a0 : Zf) : jL a0 a0 = true := by simp [jL, Vp]
theorem jj (a0 : List Zf) : kN a0 a0 = true := by
  unfold kN
  rw [qp (F := jr a0 a0) (L := a0.length) (c := fun v1_0 => (!(jL (nth a0 v1_0) (nth a0 v1_0)))) (fun i => by simp [kj]) (fun _ => rfl) (fun _ _ => rfl)]
  simp
theorem Rn (a0 : Zo) : VZ a0 a0 = true := by simp [VZ, jj, UA, US, qi]
theorem OG (a0 : List Zs) (a1 : Int) : XT a0 a1 = mkL (fun (x : Zs) (k : Int) => ((Zs.mk k (W (k + 1)) (W ((W (k + 1)) + 1)) (W ((W ((W (k + 1)) + 1)) + 1)) (W ((W ((W ((W (k + 1)) + 1)) + 1)) + 1))), (W ((W ((W ((W ((W (k + 1)) + 1)) + 1)) + 1)) + 1)))) a0 a1 := by
  have h := Kv (F := K7) (f := (fun (x : Zs) (k : Int) => ((Zs.mk k (W (k + 1)) (W ((W (k + 1)) + 1)) (W ((W ((W (k + 1)) + 1)) + 1)) (W ((W ((W ((W (k + 1)) + 1)) + 1)) + 1))), (W ((W ((W ((W ((W (k + 1)) + 1)) + 1)) + 1)) + 1))))) (fun _ _ _ _ => rfl) a0 [] (a0.length + 1) a1 (by omega)
  unfold XT
  simp only [List.length_nil, List.nil_append] at h
  rw [h]
@[simp] theorem tT (a0 : List Zs) (a1 : Int) : (XT a0 a1).1.length = a0.length := by rw [OG, y4]
theorem CW : ∀ (x : Zs) (k : Int), 0 ≤ k → k + (cn x : Nat) < 4611686018427387904 → ((fun (x : Zs) (k : Int) => ((Zs.mk k (W (k + 1)) (W ((W (k + 1)) + 1)) (W ((W ((W (k + 1)) + 1)) + 1)) (W ((W ((W ((W (k + 1)) + 1)) + 1)) + 1))), (W ((W ((W ((W ((W (k + 1)) + 1)) + 1)) + 1)) + 1)))) x k).2 = k + (cn x : Nat) := by
  intro x k h0 h
  simp only [KH, JD, T2, KK, Zs.X3] at h ⊢
  have e0 : W (k + 1) = k + 1 := Zk (by omega) (by omega)
  have e1 : W ((W (k + 1)) + 1) = (W (k + 1)) + 1 := Zk (by omega) (by omega)
  have e2 : W ((W ((W (k + 1)) + 1)) + 1) = (W ((W (k + 1)) + 1)) + 1 := Zk (by omega) (by omega)
  have e3 : W ((W ((W ((W (k + 1)) + 1)) + 1)) + 1) = (W ((W ((W (k + 1)) + 1)) + 1)) + 1 := Zk (by omega) (by omega)
  have e4 : W ((W ((W ((W ((W (k + 1)) + 1)) + 1)) + 1)) + 1) = (W ((W ((W ((W (k + 1)) + 1)) + 1)) + 1)) + 1 := Zk (by omega) (by omega)
  omega
theorem Rw (a0 : List Zs) (a1 : Int) (h0 : 0 ≤ a1) (h : a1 + (cn a0 : Nat) < 4611686018427387904) : (XT a0 a1).2 = a1 + (cn a0 : Nat) := by
  rw [OG]
  exact y6 CW a0 a1 h0 h
theorem Eg (a0 : List Zs) (a1 : Int) (h0 : 0 ≤ a1) (h : a1 + (cn a0 : Nat) < 4611686018427387904) : a1 ≤ (XT a0 a1).2 ∧ (XT a0 a1).2 ≤ a1 + (cn a0 : Nat) := by
  have := Rw a0 a1 h0 h
  omega
theorem VB (a0 : List ZG) (a1 : Int) : Yt a0 a1 = mkL (fun (x : ZG) (k : Int) => ((ZG.mk k (W (k + 1)) (W ((W (k + 1)) + 1))), (W ((W ((W (k + 1)) + 1)) + 1)))) a0 a1 := by
  have h := Kv (F := QB) (f := (fun (x : ZG) (k : Int) => ((ZG.mk k (W (k + 1)) (W ((W (k + 1)) + 1))), (W ((W ((W (k + 1)) + 1)) + 1))))) (fun _ _ _ _ => rfl) a0 [] (a0.length + 1) a1 (by omega)
  unfold Yt
  simp only [List.length_nil, List.nil_append] at h
  rw [h]
@[simp] theorem AN (a0 : List ZG) (a1 : Int) : (Yt a0 a1).1.length = a0.length := by rw [VB, y4]
theorem OR : ∀ (x : ZG) (k : Int), 0 ≤ k → k + (cn x : Nat) < 4611686018427387904 → ((fun (x : ZG) (k : Int) => ((ZG.mk k (W (k + 1)) (W ((W (k + 1)) + 1))), (W ((W ((W (k + 1)) + 1)) + 1)))) x k).2 = k + (cn x : Nat) := by
  intro x k h0 h
  simp only [KH, JD, T2, KK, ZG.X3] at h ⊢
  have e0 : W (k + 1) = k + 1 := Zk (by omega) (by omega)
  have e1 : W ((W (k + 1)) + 1) = (W (k + 1)) + 1 := Zk (by omega) (by omega)
  have e2 : W ((W ((W (k + 1)) + 1)) + 1) = (W ((W (k + 1)) + 1)) + 1 := Zk (by omega) (by omega)
  omega
theorem WR (a0 : List ZG) (a1 : Int) (h0 : 0 ≤ a1) (h : a1 + (cn a0 : Nat) < 4611686018427387904) : (Yt a0 a1).2 = a1 + (cn a0 : Nat) := by
  rw [VB]
  exact y6 OR a0 a1 h0 h
theorem P2 (a0 : List ZG) (a1 : Int) (h0 : 0 ≤ a1) (h : a1 + (cn a0 : Nat) < 4611686018427387904) : a1 ≤ (Yt a0 a1).2 ∧ (Yt a0 a1).2 ≤ a1 + (cn a0 : Nat) := by
  have := WR a0 a1 h0 h
  omega
theorem T7 (a0 : List Zh) (a1 : Int) : QI a0 a1 = mkL (fun (x : Zh) (k : Int) => ((Zh.mk k (W (k + 1)) (W ((W (k + 1)) + 1)) (W ((W ((W (k + 1)) + 1)) + 1))), (W ((W ((W ((W (k + 1)) + 1)) + 1)) + 1)))) a0 a1 := by
  have h := Kv (F := JH) (f := (fun (x : Zh) (k : Int) => ((Zh.mk k (W (k + 1)) (W ((W (k + 1)) + 1)) (W ((W ((W (k + 1)) + 1)) + 1))), (W ((W ((W ((W (k + 1)) + 1)) + 1)) + 1))))) (fun _ _ _ _ => rfl) a0 [] (a0.length + 1) a1 (by omega)
  unfold QI
  simp only [List.length_nil, List.nil_append] at h
  rw [h]
@[simp] theorem vk (a0 : List Zh) (a1 : Int) : (QI a0 a1).1.length = a0.length := by rw [T7, y4]
theorem Iy : ∀ (x : Zh) (k : Int), 0 ≤ k → k + (cn x : Nat) < 4611686018427387904 → ((fun (x : Zh) (k : Int) => ((Zh.mk k (W (k + 1)) (W ((W (k + 1)) + 1)) (W ((W ((W (k + 1)) + 1)) + 1))), (W ((W ((W ((W (k + 1)) + 1)) + 1)) + 1)))) x k).2 = k + (cn x : Nat) := by
  intro x k h0 h
  simp only [KH, JD, T2, KK, Zh.X3] at h ⊢
  have e0 : W (k + 1) = k + 1 := Zk (by omega) (by omega)
  have e1 : W ((W (k + 1)) + 1) = (W (k + 1)) + 1 := Zk (by omega) (by omega)
  have e2 : W ((W ((W (k + 1)) + 1)) + 1) = (W ((W (k + 1)) + 1)) + 1 := Zk (by omega) (by omega)
  have e3 : W ((W ((W ((W (k + 1)) + 1)) + 1)) + 1) = (W ((W ((W (k + 1)) + 1)) + 1)) + 1 := Zk (by omega) (by omega)
  omega
theorem Uo (a0 : List Zh) (a1 : Int) (h0 : 0 ≤ a1) (h : a1 + (cn a0 : Nat) < 4611686018427387904) : (QI a0 a1).2 = a1 + (cn a0 : Nat) := by
  rw [T7]
  exact y6 Iy a0 a1 h0 h
theorem Mg (a0 : List Zh) (a1 : Int) (h0 : 0 ≤ a1) (h : a1 + (cn a0 : Nat) < 4611686018427387904) : a1 ≤ (QI a0 a1).2 ∧ (QI a0 a1).2 ≤ a1 + (cn a0 : Nat) := by
  have := Uo a0 a1 h0 h
  omega
@[simp] theorem Bc (a0 : ZI) (a1 : Int) : (Zw a0 a1).1.YY.length = a0.YY.length := by simp [Zw]
@[simp] theorem HI (a0 : ZI) (a1 : Int) : (Zw a0 a1).1.ZN.length = a0.ZN.length := by simp [Zw]
@[simp] theorem DO (a0 : ZI) (a1 : Int) : (Zw a0 a1).1.Methods.length = a0.Methods.length := by simp [Zw]
@[simp] theorem va (a0 : ZI) (a1 : Int) : (Zw a0 a1).1.QR = a0.QR := rfl
@[simp] theorem uw (a0 : ZI) (a1 : Int) : (Zw a0 a1).1.Now = a0.Now := rfl
theorem FF (a0 : ZI) (a1 : Int) (h0 : 0 ≤ a1) (h : a1 + (cn a0 : Nat) < 4611686018427387904) : a1 ≤ (Zw a0 a1).2 ∧ (Zw a0 a1).2 ≤ a1 + (cn a0 : Nat) := by
  simp only [KH, JD, KK, ZI.X3] at h ⊢
  obtain ⟨m0, n0⟩ := Eg a0.YY a1 (by omega) (by omega)
  have q0 := Rw a0.YY a1 (by omega) (by omega)
  have o0 : ¬ (XT a0.YY a1).2 < 0 := by omega
  obtain ⟨m3, n3⟩ := P2 a0.ZN (XT a0.YY a1).2 (by omega) (by omega)
  have q3 := WR a0.ZN (XT a0.YY a1).2 (by omega) (by omega)
  have o3 : ¬ (Yt a0.ZN (XT a0.YY a1).2).2 < 0 := by omega
  obtain ⟨m6, n6⟩ := Mg a0.Methods (Yt a0.ZN (XT a0.YY a1).2).2 (by omega) (by omega)
  have q6 := Uo a0.Methods (Yt a0.ZN (XT a0.YY a1).2).2 (by omega) (by omega)
  have o6 : ¬ (QI a0.Methods (Yt a0.ZN (XT a0.YY a1).2).2).2 < 0 := by omega
  refine ⟨by simp only [Zw]; omega, by simp only [Zw]; omega⟩
theorem PS (a0 : List Zn) (a1 : Int) : YI a0 a1 = mkL (fun (x : Zn) (k : Int) => ((Zn.mk k (W (k + 1)) (W ((W (k + 1)) + 1)) (W ((W ((W (k + 1)) + 1)) + 1)) (W ((W ((W ((W (k + 1)) + 1)) + 1)) + 1)) (W ((W ((W ((W ((W (k + 1)) + 1)) + 1)) + 1)) + 1)) (W ((W ((W ((W ((W ((W (k + 1)) + 1)) + 1)) + 1)) + 1)) + 1))), (W ((W ((W ((W ((W ((W ((W (k + 1)) + 1)) + 1)) + 1)) + 1)) + 1)) + 1)))) a0 a1 := by
  have h := Kv (F := KT) (f := (fun (x : Zn) (k : Int) => ((Zn.mk k (W (k + 1)) (W ((W (k + 1)) + 1)) (W ((W ((W (k + 1)) + 1)) + 1)) (W ((W ((W ((W (k + 1)) + 1)) + 1)) + 1)) (W ((W ((W ((W ((W (k + 1)) + 1)) + 1)) + 1)) + 1)) (W ((W ((W ((W ((W ((W (k + 1)) + 1)) + 1)) + 1)) + 1)) + 1))), (W ((W ((W ((W ((W ((W ((W (k + 1)) + 1)) + 1)) + 1)) + 1)) + 1)) + 1))))) (fun _ _ _ _ => rfl) a0 [] (a0.length + 1) a1 (by omega)
  unfold YI
  simp only [List.length_nil, List.nil_append] at h
  rw [h]
@[simp] theorem tD (a0 : List Zn) (a1 : Int) : (YI a0 a1).1.length = a0.length := by rw [PS, y4]
theorem EA : ∀ (x : Zn) (k : Int), 0 ≤ k → k + (cn x : Nat) < 4611686018427387904 → ((fun (x : Zn) (k : Int) => ((Zn.mk k (W (k + 1)) (W ((W (k + 1)) + 1)) (W ((W ((W (k + 1)) + 1)) + 1)) (W ((W ((W ((W (k + 1)) + 1)) + 1)) + 1)) (W ((W ((W ((W ((W (k + 1)) + 1)) + 1)) + 1)) + 1)) (W ((W ((W ((W ((W ((W (k + 1)) + 1)) + 1)) + 1)) + 1)) + 1))), (W ((W ((W ((W ((W ((W ((W (k + 1)) + 1)) + 1)) + 1)) + 1)) + 1)) + 1)))) x k).2 = k + (cn x : Nat) := by
  intro x k h0 h
  simp only [KH, JD, T2, KK, Zn.X3] at h ⊢
  have e0 : W (k + 1) = k + 1 := Zk (by omega) (by omega)
  have e1 : W ((W (k + 1)) + 1) = (W (k + 1)) + 1 := Zk (by omega) (by omega)
  have e2 : W ((W ((W (k + 1)) + 1)) + 1) = (W ((W (k + 1)) + 1)) + 1 := Zk (by omega) (by omega)
  have e3 : W ((W ((W ((W (k + 1)) + 1)) + 1)) + 1) = (W ((W ((W (k + 1)) + 1)) + 1)) + 1 := Zk (by omega) (by omega)
  have e4 : W ((W ((W ((W ((W (k + 1)) + 1)) + 1)) + 1)) + 1) = (W ((W ((W ((W (k + 1)) + 1)) + 1)) + 1)) + 1 := Zk (by omega) (by omega)
  have e5 : W ((W ((W ((W ((W ((W (k + 1)) + 1)) + 1)) + 1)) + 1)) + 1) = (W ((W ((W ((W ((W (k + 1)) + 1)) + 1)) + 1)) + 1)) + 1 := Zk (by omega) (by omega)
  have e6 : W ((W ((W ((W ((W ((W ((W (k + 1)) + 1)) + 1)) + 1)) + 1)) + 1)) + 1) = (W ((W ((W ((W ((W ((W (k + 1)) + 1)) + 1)) + 1)) + 1)) + 1)) + 1 := Zk (by omega) (by omega)
  omega
theorem RX (a0 : List Zn) (a1 : Int) (h0 : 0 ≤ a1) (h : a1 + (cn a0 : Nat) < 4611686018427387904) : (YI a0 a1).2 = a1 + (cn a0 : Nat) := by
  rw [PS]
  exact y6 EA a0 a1 h0 h
theorem Ga (a0 : List Zn) (a1 : Int) (h0 : 0 ≤ a1) (h : a1 + (cn a0 : Nat) < 4611686018427387904) : a1 ≤ (YI a0 a1).2 ∧ (YI a0 a1).2 ≤ a1 + (cn a0 : Nat) := by
  have := RX a0 a1 h0 h
  omega
theorem TC (a0 : List Int) (a1 : Int) : ZC a0 a1 = mkL (fun (x : Int) (k : Int) => (k, (W (k + 1)))) a0 a1 := by
  have h := Kv (F := zF) (f := (fun (x : Int) (k : Int) => (k, (W (k + 1))))) (fun _ _ _ _ => rfl) a0 [] (a0.length + 1) a1 (by omega)
  unfold ZC
  simp only [List.length_nil, List.nil_append] at h
  rw [h]
@[simp] theorem sW (a0 : List Int) (a1 : Int) : (ZC a0 a1).1.length = a0.length := by rw [TC, y4]
theorem Sy : ∀ (x : Int) (k : Int), 0 ≤ k → k + (cn x : Nat) < 4611686018427387904 → ((fun (x : Int) (k : Int) => (k, (W (k + 1)))) x k).2 = k + (cn x : Nat) := by
  intro x k h0 h
  simp only [KH, JD, T2, KK] at h ⊢
  have e0 : W (k + 1) = k + 1 := Zk (by omega) (by omega)
  omega
theorem Ke (a0 : List Int) (a1 : Int) (h0 : 0 ≤ a1) (h : a1 + (cn a0 : Nat) < 4611686018427387904) : (ZC a0 a1).2 = a1 + (cn a0 : Nat) := by
  rw [TC]
  exact y6 Sy a0 a1 h0 h
theorem yy (a0 : List Int) (a1 : Int) (h0 : 0 ≤ a1) (h : a1 + (cn a0 : Nat) < 4611686018427387904) : a1 ≤ (ZC a0 a1).2 ∧ (ZC a0 a1).2 ≤ a1 + (cn a0 : Nat) := by
  have := Ke a0 a1 h0 h
  omega
theorem Cz : ∀ (x : Int) (k : Int) (r : Int → Sum Int Int), 0 ≤ k → k + (cn x : Nat) < 4611686018427387904 → (fun (x : Int) (k : Int) (r : Int → Sum Int Int) => (bif (x != k) then (.inl (-1)) else (r (W (k + 1))))) ((fun (x : Int) (k : Int) => (k, (W (k + 1)))) x k).1 k r = r ((fun (x : Int) (k : Int) => (k, (W (k + 1)))) x k).2 := by
  intro x k r h0 h
  simp only [KH, JD, T2, KK] at h
  have e0 : W (k + 1) = k + 1 := Zk (by omega) (by omega)
  simp
theorem OI (a0 : List Int) (a1 : Int) (h0 : 0 ≤ a1) (h : a1 + (cn a0 : Nat) < 4611686018427387904) : a1 ≤ (ZC a0 a1).2 ∧ (ZC a0 a1).2 ≤ a1 + (cn a0 : Nat) ∧ Jz (ZC a0 a1).1 a1 = (ZC a0 a1).2 := by
  rw [TC]
  have s := y6 Sy a0 a1 h0 h
  have hh := vx (z := (mkL (fun (x : Int) (k : Int) => (k, (W (k + 1)))) a0 a1).1) (H := VI (mkL (fun (x : Int) (k : Int) => (k, (W (k + 1)))) a0 a1).1) (G := (fun (x : Int) (k : Int) (r : Int → Sum Int Int) => (bif (x != k) then (.inl (-1)) else (r (W (k + 1)))))) (fun _ _ _ => rfl) Sy Cz a0 [] ((mkL (fun (x : Int) (k : Int) => (k, (W (k + 1)))) a0 a1).1.length + 1) a1 (by simp) (by rw [y4]; omega) h0 h
  simp only [List.length_nil] at hh
  rw [P0] at *
  refine ⟨by omega, by omega, ?_⟩
  unfold Jz
  rw [hh]
theorem T9 (a0 : List ByteArray) (a1 : Int) : ZB a0 a1 = mkL (fun (x : ByteArray) (k : Int) => ((xS k), (W (k + 1)))) a0 a1 := by
  have h := Kv (F := JJ) (f := (fun (x : ByteArray) (k : Int) => ((xS k), (W (k + 1))))) (fun _ _ _ _ => rfl) a0 [] (a0.length + 1) a1 (by omega)
  unfold ZB
  simp only [List.length_nil, List.nil_append] at h
  rw [h]
@[simp] theorem vG (a0 : List ByteArray) (a1 : Int) : (ZB a0 a1).1.length = a0.length := by rw [T9, y4]
theorem I0 : ∀ (x : ByteArray) (k : Int), 0 ≤ k → k + (cn x : Nat) < 4611686018427387904 → ((fun (x : ByteArray) (k : Int) => ((xS k), (W (k + 1)))) x k).2 = k + (cn x : Nat) := by
  intro x k h0 h
  simp only [KH, JD, T2, KK] at h ⊢
  have e0 : W (k + 1) = k + 1 := Zk (by omega) (by omega)
  omega
theorem U6 (a0 : List ByteArray) (a1 : Int) (h0 : 0 ≤ a1) (h : a1 + (cn a0 : Nat) < 4611686018427387904) : (ZB a0 a1).2 = a1 + (cn a0 : Nat) := by
  rw [T9]
  exact y6 I0 a0 a1 h0 h
theorem M4 (a0 : List ByteArray) (a1 : Int) (h0 : 0 ≤ a1) (h : a1 + (cn a0 : Nat) < 4611686018427387904) : a1 ≤ (ZB a0 a1).2 ∧ (ZB a0 a1).2 ≤ a1 + (cn a0 : Nat) := by
  have := U6 a0 a1 h0 h
  omega
theorem Rc (a0 : List ZD) (a1 : Int) : YJ a0 a1 = mkL (fun (x : ZD) (k : Int) => ((ZD.mk k (ZC x.Zg (W (k + 1))).1 (ZC x.Zg (W (k + 1))).2), (W ((ZC x.Zg (W (k + 1))).2 + 1)))) a0 a1 := by
  have h := Kv (F := Jl) (f := (fun (x : ZD) (k : Int) => ((ZD.mk k (ZC x.Zg (W (k + 1))).1 (ZC x.Zg (W (k + 1))).2), (W ((ZC x.Zg (W (k + 1))).2 + 1))))) (fun _ _ _ _ => rfl) a0 [] (a0.length + 1) a1 (by omega)
  unfold YJ
  simp only [List.length_nil, List.nil_append] at h
  rw [h]
@[simp] theorem uW (a0 : List ZD) (a1 : Int) : (YJ a0 a1).1.length = a0.length := by rw [Rc, y4]
theorem GB : ∀ (x : ZD) (k : Int), 0 ≤ k → k + (cn x : Nat) < 4611686018427387904 → ((fun (x : ZD) (k : Int) => ((ZD.mk k (ZC x.Zg (W (k + 1))).1 (ZC x.Zg (W (k + 1))).2), (W ((ZC x.Zg (W (k + 1))).2 + 1)))) x k).2 = k + (cn x : Nat) := by
  intro x k h0 h
  simp only [KH, JD, T2, KK, ZD.X3] at h ⊢
  have e0 : W (k + 1) = k + 1 := Zk (by omega) (by omega)
  obtain ⟨m1, n1⟩ := yy x.Zg (W (k + 1)) (by omega) (by omega)
  have q1 := Ke x.Zg (W (k + 1)) (by omega) (by omega)
  have o1 : ¬ (ZC x.Zg (W (k + 1))).2 < 0 := by omega
  have e4 : W ((ZC x.Zg (W (k + 1))).2 + 1) = (ZC x.Zg (W (k + 1))).2 + 1 := Zk (by omega) (by omega)
  omega
theorem Tj (a0 : List ZD) (a1 : Int) (h0 : 0 ≤ a1) (h : a1 + (cn a0 : Nat) < 4611686018427387904) : (YJ a0 a1).2 = a1 + (cn a0 : Nat) := by
  rw [Rc]
  exact y6 GB a0 a1 h0 h
theorem IX (a0 : List ZD) (a1 : Int) (h0 : 0 ≤ a1) (h : a1 + (cn a0 : Nat) < 4611686018427387904) : a1 ≤ (YJ a0 a1).2 ∧ (YJ a0 a1).2 ≤ a1 + (cn a0 : Nat) := by
  have := Tj a0 a1 h0 h
  omega
theorem PH (a0 : List Ya) (a1 : Int) : YV a0 a1 = mkL (fun (x : Ya) (k : Int) => ((Ya.mk k ((Int.tmod (W (k + 1)) 3) == 0)), (W ((W (k + 1)) + 1)))) a0 a1 := by
  have h := Kv (F := KO) (f := (fun (x : Ya) (k : Int) => ((Ya.mk k ((Int.tmod (W (k + 1)) 3) == 0)), (W ((W (k + 1)) + 1))))) (fun _ _ _ _ => rfl) a0 [] (a0.length + 1) a1 (by omega)
  unfold YV
  simp only [List.length_nil, List.nil_append] at h
  rw [h]
@[simp] theorem u4 (a0 : List Ya) (a1 : Int) : (YV a0 a1).1.length = a0.length := by rw [PH, y4]
theorem Fq : ∀ (x : Ya) (k : Int), 0 ≤ k → k + (cn x : Nat) < 4611686018427387904 → ((fun (x : Ya) (k : Int) => ((Ya.mk k ((Int.tmod (W (k + 1)) 3) == 0)), (W ((W (k + 1)) + 1)))) x k).2 = k + (cn x : Nat) := by
  intro x k h0 h
  simp only [KH, JD, T2, KK, Ya.X3] at h ⊢
  have e0 : W (k + 1) = k + 1 := Zk (by omega) (by omega)
  have e1 : W ((W (k + 1)) + 1) = (W (k + 1)) + 1 := Zk (by omega) (by omega)
  omega
theorem RY (a0 : List Ya) (a1 : Int) (h0 : 0 ≤ a1) (h : a1 + (cn a0 : Nat) < 4611686018427387904) : (YV a0 a1).2 = a1 + (cn a0 : Nat) := by
  rw [PH]
  exact y6 Fq a0 a1 h0 h
theorem Hm (a0 : List Ya) (a1 : Int) (h0 : 0 ≤ a1) (h : a1 + (cn a0 : Nat) < 4611686018427387904) : a1 ≤ (YV a0 a1).2 ∧ (YV a0 a1).2 ≤ a1 + (cn a0 : Nat) := by
  have := RY a0 a1 h0 h
  omega
theorem RS (a0 : List ZY) (a1 : Int) : Y9 a0 a1 = mkL (fun (x : ZY) (k : Int) => ((ZY.mk k (W (k + 1)) (W ((W (k + 1)) + 1)) (W ((W ((W (k + 1)) + 1)) + 1)) (W ((W ((W ((W (k + 1)) + 1)) + 1)) + 1))), (W ((W ((W ((W ((W (k + 1)) + 1)) + 1)) + 1)) + 1)))) a0 a1 := by
  have h := Kv (F := Jh) (f := (fun (x : ZY) (k : Int) => ((ZY.mk k (W (k + 1)) (W ((W (k + 1)) + 1)) (W ((W ((W (k + 1)) + 1)) + 1)) (W ((W ((W ((W (k + 1)) + 1)) + 1)) + 1))), (W ((W ((W ((W ((W (k + 1)) + 1)) + 1)) + 1)) + 1))))) (fun _ _ _ _ => rfl) a0 [] (a0.length + 1) a1 (by omega)
  unfold Y9
  simp only [List.length_nil, List.nil_append] at h
  rw [h]
@[simp] theorem uV (a0 : List ZY) (a1 : Int) : (Y9 a0 a1).1.length = a0.length := by rw [RS, y4]
theorem Gc : ∀ (x : ZY) (k : Int), 0 ≤ k → k + (cn x : Nat) < 4611686018427387904 → ((fun (x : ZY) (k : Int) => ((ZY.mk k (W (k + 1)) (W ((W (k + 1)) + 1)) (W ((W ((W (k + 1)) + 1)) + 1)) (W ((W ((W ((W (k + 1)) + 1)) + 1)) + 1))), (W ((W ((W ((W ((W (k + 1)) + 1)) + 1)) + 1)) + 1)))) x k).2 = k + (cn x : Nat) := by
  intro x k h0 h
  simp only [KH, JD, T2, KK, ZY.X3] at h ⊢
  have e0 : W (k + 1) = k + 1 := Zk (by omega) (by omega)
  have e1 : W ((W (k + 1)) + 1) = (W (k + 1)) + 1 := Zk (by omega) (by omega)
  have e2 : W ((W ((W (k + 1)) + 1)) + 1) = (W ((W (k + 1)) + 1)) + 1 := Zk (by omega) (by omega)
  have e3 : W ((W ((W ((W (k + 1)) + 1)) + 1)) + 1) = (W ((W ((W (k + 1)) + 1)) + 1)) + 1 := Zk (by omega) (by omega)
  have e4 : W ((W ((W ((W ((W (k + 1)) + 1)) + 1)) + 1)) + 1) = (W ((W ((W ((W (k + 1)) + 1)) + 1)) + 1)) + 1 := Zk (by omega) (by omega)
  omega
theorem SO (a0 : List ZY) (a1 : Int) (h0 : 0 ≤ a1) (h : a1 + (cn a0 : Nat) < 4611686018427387904) : (Y9 a0 a1).2 = a1 + (cn a0 : Nat) := by
  rw [RS]
  exact y6 Gc a0 a1 h0 h
theorem Im (a0 : List ZY) (a1 : Int) (h0 : 0 ≤ a1) (h : a1 + (cn a0 : Nat) < 4611686018427387904) : a1 ≤ (Y9 a0 a1).2 ∧ (Y9 a0 a1).2 ≤ a1 + (cn a0 : Nat) := by
  have := SO a0 a1 h0 h
  omega
theorem U9 (a0 : List ZK) (a1 : Int) : Yp a0 a1 = mkL (fun (x : ZK) (k : Int) => ((ZK.mk k (W (k + 1)) (W ((W (k + 1)) + 1)) (YV x.Path (W ((W ((W (k + 1)) + 1)) + 1))).1 (Y9 x.Zj (YV x.Path (W ((W ((W (k + 1)) + 1)) + 1))).2).1), (Y9 x.Zj (YV x.Path (W ((W ((W (k + 1)) + 1)) + 1))).2).2)) a0 a1 := by
  have h := Kv (F := Qn) (f := (fun (x : ZK) (k : Int) => ((ZK.mk k (W (k + 1)) (W ((W (k + 1)) + 1)) (YV x.Path (W ((W ((W (k + 1)) + 1)) + 1))).1 (Y9 x.Zj (YV x.Path (W ((W ((W (k + 1)) + 1)) + 1))).2).1), (Y9 x.Zj (YV x.Path (W ((W ((W (k + 1)) + 1)) + 1))).2).2))) (fun _ _ _ _ => rfl) a0 [] (a0.length + 1) a1 (by omega)
  unfold Yp
  simp only [List.length_nil, List.nil_append] at h
  rw [h]
@[simp] theorem wF (a0 : List ZK) (a1 : Int) : (Yp a0 a1).1.length = a0.length := by rw [U9, y4]
theorem MR : ∀ (x : ZK) (k : Int), 0 ≤ k → k + (cn x : Nat) < 4611686018427387904 → ((fun (x : ZK) (k : Int) => ((ZK.mk k (W (k + 1)) (W ((W (k + 1)) + 1)) (YV x.Path (W ((W ((W (k + 1)) + 1)) + 1))).1 (Y9 x.Zj (YV x.Path (W ((W ((W (k + 1)) + 1)) + 1))).2).1), (Y9 x.Zj (YV x.Path (W ((W ((W (k + 1)) + 1)) + 1))).2).2)) x k).2 = k + (cn x : Nat) := by
  intro x k h0 h
  simp only [KH, JD, T2, KK, ZK.X3] at h ⊢
  have e0 : W (k + 1) = k + 1 := Zk (by omega) (by omega)
  have e1 : W ((W (k + 1)) + 1) = (W (k + 1)) + 1 := Zk (by omega) (by omega)
  have e2 : W ((W ((W (k + 1)) + 1)) + 1) = (W ((W (k + 1)) + 1)) + 1 := Zk (by omega) (by omega)
  obtain ⟨m3, n3⟩ := Hm x.Path (W ((W ((W (k + 1)) + 1)) + 1)) (by omega) (by omega)
  have q3 := RY x.Path (W ((W ((W (k + 1)) + 1)) + 1)) (by omega) (by omega)
  have o3 : ¬ (YV x.Path (W ((W ((W (k + 1)) + 1)) + 1))).2 < 0 := by omega
  obtain ⟨m6, n6⟩ := Im x.Zj (YV x.Path (W ((W ((W (k + 1)) + 1)) + 1))).2 (by omega) (by omega)
  have q6 := SO x.Zj (YV x.Path (W ((W ((W (k + 1)) + 1)) + 1))).2 (by omega) (by omega)
  have o6 : ¬ (Y9 x.Zj (YV x.Path (W ((W ((W (k + 1)) + 1)) + 1))).2).2 < 0 := by omega
  omega
theorem V6 (a0 : List ZK) (a1 : Int) (h0 : 0 ≤ a1) (h : a1 + (cn a0 : Nat) < 4611686018427387904) : (Yp a0 a1).2 = a1 + (cn a0 : Nat) := by
  rw [U9]
  exact y6 MR a0 a1 h0 h
theorem N0 (a0 : List ZK) (a1 : Int) (h0 : 0 ≤ a1) (h : a1 + (cn a0 : Nat) < 4611686018427387904) : a1 ≤ (Yp a0 a1).2 ∧ (Yp a0 a1).2 ≤ a1 + (cn a0 : Nat) := by
  have := V6 a0 a1 h0 h
  omega
theorem PF (a0 : List Zm) (a1 : Int) : XJ a0 a1 = mkL (fun (x : Zm) (k : Int) => ((Zm.mk k (W (k + 1)) (Zc.mk (W ((W (k + 1)) + 1)) (ZB x.Doc.ZQ (W ((W ((W (k + 1)) + 1)) + 1))).1 (ZC x.Doc.Zb (ZB x.Doc.ZQ (W ((W ((W (k + 1)) + 1)) + 1))).2).1) (ZV.mk (ZC x.Doc.Zb (ZB x.Doc.ZQ (W ((W ((W (k + 1)) + 1)) + 1))).2).2 (W ((ZC x.Doc.Zb (ZB x.Doc.ZQ (W ((W ((W (k + 1)) + 1)) + 1))).2).2 + 1)) (W ((W ((ZC x.Doc.Zb (ZB x.Doc.ZQ (W ((W ((W (k + 1)) + 1)) + 1))).2).2 + 1)) + 1)) (W ((W ((W ((ZC x.Doc.Zb (ZB x.Doc.ZQ (W ((W ((W (k + 1)) + 1)) + 1))).2).2 + 1)) + 1)) + 1)) (W ((W ((W ((W ((ZC x.Doc.Zb (ZB x.Doc.ZQ (W ((W ((W (k + 1)) + 1)) + 1))).2).2 + 1)) + 1)) + 1)) + 1)) (W ((W ((W ((W ((W ((ZC x.Doc.Zb (ZB x.Doc.ZQ (W ((W ((W (k + 1)) + 1)) + 1))).2).2 + 1)) + 1)) + 1)) + 1)) + 1)) (W ((W ((W ((W ((W ((W ((ZC x.Doc.Zb (ZB x.Doc.ZQ (W ((W ((W (k + 1)) + 1)) + 1))).2).2 + 1)) + 1)) + 1)) + 1)) + 1)) + 1)) (W ((W ((W ((W ((W ((W ((W ((ZC x.Doc.Zb (ZB x.Doc.ZQ (W ((W ((W (k + 1)) + 1)) + 1))).2).2 + 1)) + 1)) + 1)) + 1)) + 1)) + 1)) + 1)) (W ((W ((W ((W ((W ((W ((W ((W ((ZC x.Doc.Zb (ZB x.Doc.ZQ (W ((W ((W (k + 1)) + 1)) + 1))).2).2 + 1)) + 1)) + 1)) + 1)) + 1)) + 1)) + 1)) + 1))) (ZP.mk (YJ x.Z0.Zd (W ((W ((W ((W ((W ((W ((W ((W ((W ((ZC x.Doc.Zb (ZB x.Doc.ZQ (W ((W ((W (k + 1)) + 1)) + 1))).2).2 + 1)) + 1)) + 1)) + 1)) + 1)) + 1)) + 1)) + 1)) + 1))).1 (Yp x.Z0.ZX (YJ x.Z0.Zd (W ((W ((W ((W ((W ((W ((W ((W ((W ((ZC x.Doc.Zb (ZB x.Doc.ZQ (W ((W ((W (k + 1)) + 1)) + 1))).2).2 + 1)) + 1)) + 1)) + 1)) + 1)) + 1)) + 1)) + 1)) + 1))).2).1)), (Yp x.Z0.ZX (YJ x.Z0.Zd (W ((W ((W ((W ((W ((W ((W ((W ((W ((ZC x.Doc.Zb (ZB x.Doc.ZQ (W ((W ((W (k + 1)) + 1)) + 1))).2).2 + 1)) + 1)) + 1)) + 1)) + 1)) + 1)) + 1)) + 1)) + 1))).2).2)) a0 a1 := by
  have h := Kv (F := KN) (f := (fun (x : Zm) (k : Int) => ((Zm.mk k (W (k + 1)) (Zc.mk (W ((W (k + 1)) + 1)) (ZB x.Doc.ZQ (W ((W ((W (k + 1)) + 1)) + 1))).1 (ZC x.Doc.Zb (ZB x.Doc.ZQ (W ((W ((W (k + 1)) + 1)) + 1))).2).1) (ZV.mk (ZC x.Doc.Zb (ZB x.Doc.ZQ (W ((W ((W (k + 1)) + 1)) + 1))).2).2 (W ((ZC x.Doc.Zb (ZB x.Doc.ZQ (W ((W ((W (k + 1)) + 1)) + 1))).2).2 + 1)) (W ((W ((ZC x.Doc.Zb (ZB x.Doc.ZQ (W ((W ((W (k + 1)) + 1)) + 1))).2).2 + 1)) + 1)) (W ((W ((W ((ZC x.Doc.Zb (ZB x.Doc.ZQ (W ((W ((W (k + 1)) + 1)) + 1))).2).2 + 1)) + 1)) + 1)) (W ((W ((W ((W ((ZC x.Doc.Zb (ZB x.Doc.ZQ (W ((W ((W (k + 1)) + 1)) + 1))).2).2 + 1)) + 1)) + 1)) + 1)) (W ((W ((W ((W ((W ((ZC x.Doc.Zb (ZB x.Doc.ZQ (W ((W ((W (k + 1)) + 1)) + 1))).2).2 + 1)) + 1)) + 1)) + 1)) + 1)) (W ((W ((W ((W ((W ((W ((ZC x.Doc.Zb (ZB x.Doc.ZQ (W ((W ((W (k + 1)) + 1)) + 1))).2).2 + 1)) + 1)) + 1)) + 1)) + 1)) + 1)) (W ((W ((W ((W ((W ((W ((W ((ZC x.Doc.Zb (ZB x.Doc.ZQ (W ((W ((W (k + 1)) + 1)) + 1))).2).2 + 1)) + 1)) + 1)) + 1)) + 1)) + 1)) + 1)) (W ((W ((W ((W ((W ((W ((W ((W ((ZC x.Doc.Zb (ZB x.Doc.ZQ (W ((W ((W (k + 1)) + 1)) + 1))).2).2 + 1)) + 1)) + 1)) + 1)) + 1)) + 1)) + 1)) + 1))) (ZP.mk (YJ x.Z0.Zd (W ((W ((W ((W ((W ((W ((W ((W ((W ((ZC x.Doc.Zb (ZB x.Doc.ZQ (W ((W ((W (k + 1)) + 1)) + 1))).2).2 + 1)) + 1)) + 1)) + 1)) + 1)) + 1)) + 1)) + 1)) + 1))).1 (Yp x.Z0.ZX (YJ x.Z0.Zd (W ((W ((W ((W ((W ((W ((W ((W ((W ((ZC x.Doc.Zb (ZB x.Doc.ZQ (W ((W ((W (k + 1)) + 1)) + 1))).2).2 + 1)) + 1)) + 1)) + 1)) + 1)) + 1)) + 1)) + 1)) + 1))).2).1)), (Yp x.Z0.ZX (YJ x.Z0.Zd (W ((W ((W ((W ((W ((W ((W ((W ((W ((ZC x.Doc.Zb (ZB x.Doc.ZQ (W ((W ((W (k + 1)) + 1)) + 1))).2).2 + 1)) + 1)) + 1)) + 1)) + 1)) + 1)) + 1)) + 1)) + 1))).2).2))) (fun _ _ _ _ => rfl) a0 [] (a0.length + 1) a1 (by omega)
  unfold XJ
  simp only [List.length_nil, List.nil_append] at h
  rw [h]
@[simp] theorem tC (a0 : List Zm) (a1 : Int) : (XJ a0 a1).1.length = a0.length := by rw [PF, y4]
theorem Ec : ∀ (x : Zm) (k : Int), 0 ≤ k → k + (cn x : Nat) < 4611686018427387904 → ((fun (x : Zm) (k : Int) => ((Zm.mk k (W (k + 1)) (Zc.mk (W ((W (k + 1)) + 1)) (ZB x.Doc.ZQ (W ((W ((W (k + 1)) + 1)) + 1))).1 (ZC x.Doc.Zb (ZB x.Doc.ZQ (W ((W ((W (k + 1)) + 1)) + 1))).2).1) (ZV.mk (ZC x.Doc.Zb (ZB x.Doc.ZQ (W ((W ((W (k + 1)) + 1)) + 1))).2).2 (W ((ZC x.Doc.Zb (ZB x.Doc.ZQ (W ((W ((W (k + 1)) + 1)) + 1))).2).2 + 1)) (W ((W ((ZC x.Doc.Zb (ZB x.Doc.ZQ (W ((W ((W (k + 1)) + 1)) + 1))).2).2 + 1)) + 1)) (W ((W ((W ((ZC x.Doc.Zb (ZB x.Doc.ZQ (W ((W ((W (k + 1)) + 1)) + 1))).2).2 + 1)) + 1)) + 1)) (W ((W ((W ((W ((ZC x.Doc.Zb (ZB x.Doc.ZQ (W ((W ((W (k + 1)) + 1)) + 1))).2).2 + 1)) + 1)) + 1)) + 1)) (W ((W ((W ((W ((W ((ZC x.Doc.Zb (ZB x.Doc.ZQ (W ((W ((W (k + 1)) + 1)) + 1))).2).2 + 1)) + 1)) + 1)) + 1)) + 1)) (W ((W ((W ((W ((W ((W ((ZC x.Doc.Zb (ZB x.Doc.ZQ (W ((W ((W (k + 1)) + 1)) + 1))).2).2 + 1)) + 1)) + 1)) + 1)) + 1)) + 1)) (W ((W ((W ((W ((W ((W ((W ((ZC x.Doc.Zb (ZB x.Doc.ZQ (W ((W ((W (k + 1)) + 1)) + 1))).2).2 + 1)) + 1)) + 1)) + 1)) + 1)) + 1)) + 1)) (W ((W ((W ((W ((W ((W ((W ((W ((ZC x.Doc.Zb (ZB x.Doc.ZQ (W ((W ((W (k + 1)) + 1)) + 1))).2).2 + 1)) + 1)) + 1)) + 1)) + 1)) + 1)) + 1)) + 1))) (ZP.mk (YJ x.Z0.Zd (W ((W ((W ((W ((W ((W ((W ((W ((W ((ZC x.Doc.Zb (ZB x.Doc.ZQ (W ((W ((W (k + 1)) + 1)) + 1))).2).2 + 1)) + 1)) + 1)) + 1)) + 1)) + 1)) + 1)) + 1)) + 1))).1 (Yp x.Z0.ZX (YJ x.Z0.Zd (W ((W ((W ((W ((W ((W ((W ((W ((W ((ZC x.Doc.Zb (ZB x.Doc.ZQ (W ((W ((W (k + 1)) + 1)) + 1))).2).2 + 1)) + 1)) + 1)) + 1)) + 1)) + 1)) + 1)) + 1)) + 1))).2).1)), (Yp x.Z0.ZX (YJ x.Z0.Zd (W ((W ((W ((W ((W ((W ((W ((W ((W ((ZC x.Doc.Zb (ZB x.Doc.ZQ (W ((W ((W (k + 1)) + 1)) + 1))).2).2 + 1)) + 1)) + 1)) + 1)) + 1)) + 1)) + 1)) + 1)) + 1))).2).2)) x k).2 = k + (cn x : Nat) := by
  intro x k h0 h
  simp only [KH, JD, T2, KK, Zm.X3, Zc.X3, ZP.X3, ZV.X3] at h ⊢
  have e0 : W (k + 1) = k + 1 := Zk (by omega) (by omega)
  have e1 : W ((W (k + 1)) + 1) = (W (k + 1)) + 1 := Zk (by omega) (by omega)
  have e2 : W ((W ((W (k + 1)) + 1)) + 1) = (W ((W (k + 1)) + 1)) + 1 := Zk (by omega) (by omega)
  obtain ⟨m3, n3⟩ := M4 x.Doc.ZQ (W ((W ((W (k + 1)) + 1)) + 1)) (by omega) (by omega)
  have q3 := U6 x.Doc.ZQ (W ((W ((W (k + 1)) + 1)) + 1)) (by omega) (by omega)
  have o3 : ¬ (ZB x.Doc.ZQ (W ((W ((W (k + 1)) + 1)) + 1))).2 < 0 := by omega
  obtain ⟨m6, n6⟩ := yy x.Doc.Zb (ZB x.Doc.ZQ (W ((W ((W (k + 1)) + 1)) + 1))).2 (by omega) (by omega)
  have q6 := Ke x.Doc.Zb (ZB x.Doc.ZQ (W ((W ((W (k + 1)) + 1)) + 1))).2 (by omega) (by omega)
  have o6 : ¬ (ZC x.Doc.Zb (ZB x.Doc.ZQ (W ((W ((W (k + 1)) + 1)) + 1))).2).2 < 0 := by omega
  have e9 : W ((ZC x.Doc.Zb (ZB x.Doc.ZQ (W ((W ((W (k + 1)) + 1)) + 1))).2).2 + 1) = (ZC x.Doc.Zb (ZB x.Doc.ZQ (W ((W ((W (k + 1)) + 1)) + 1))).2).2 + 1 := Zk (by omega) (by omega)
  have e10 : W ((W ((ZC x.Doc.Zb (ZB x.Doc.ZQ (W ((W ((W (k + 1)) + 1)) + 1))).2).2 + 1)) + 1) = (W ((ZC x.Doc.Zb (ZB x.Doc.ZQ (W ((W ((W (k + 1)) + 1)) + 1))).2).2 + 1)) + 1 := Zk (by omega) (by omega)
  have e11 : W ((W ((W ((ZC x.Doc.Zb (ZB x.Doc.ZQ (W ((W ((W (k + 1)) + 1)) + 1))).2).2 + 1)) + 1)) + 1) = (W ((W ((ZC x.Doc.Zb (ZB x.Doc.ZQ (W ((W ((W (k + 1)) + 1)) + 1))).2).2 + 1)) + 1)) + 1 := Zk (by omega) (by omega)
  have e12 : W ((W ((W ((W ((ZC x.Doc.Zb (ZB x.Doc.ZQ (W ((W ((W (k + 1)) + 1)) + 1))).2).2 + 1)) + 1)) + 1)) + 1) = (W ((W ((W ((ZC x.Doc.Zb (ZB x.Doc.ZQ (W ((W ((W (k + 1)) + 1)) + 1))).2).2 + 1)) + 1)) + 1)) + 1 := Zk (by omega) (by omega)
  have e13 : W ((W ((W ((W ((W ((ZC x.Doc.Zb (ZB x.Doc.ZQ (W ((W ((W (k + 1)) + 1)) + 1))).2).2 + 1)) + 1)) + 1)) + 1)) + 1) = (W ((W ((W ((W ((ZC x.Doc.Zb (ZB x.Doc.ZQ (W ((W ((W (k + 1)) + 1)) + 1))).2).2 + 1)) + 1)) + 1)) + 1)) + 1 := Zk (by omega) (by omega)
  have e14 : W ((W ((W ((W ((W ((W ((ZC x.Doc.Zb (ZB x.Doc.ZQ (W ((W ((W (k + 1)) + 1)) + 1))).2).2 + 1)) + 1)) + 1)) + 1)) + 1)) + 1) = (W ((W ((W ((W ((W ((ZC x.Doc.Zb (ZB x.Doc.ZQ (W ((W ((W (k + 1)) + 1)) + 1))).2).2 + 1)) + 1)) + 1)) + 1)) + 1)) + 1 := Zk (by omega) (by omega)
  have e15 : W ((W ((W ((W ((W ((W ((W ((ZC x.Doc.Zb (ZB x.Doc.ZQ (W ((W ((W (k + 1)) + 1)) + 1))).2).2 + 1)) + 1)) + 1)) + 1)) + 1)) + 1)) + 1) = (W ((W ((W ((W ((W ((W ((ZC x.Doc.Zb (ZB x.Doc.ZQ (W ((W ((W (k + 1)) + 1)) + 1))).2).2 + 1)) + 1)) + 1)) + 1)) + 1)) + 1)) + 1 := Zk (by omega) (by omega)
  have e16 : W ((W ((W ((W ((W ((W ((W ((W ((ZC x.Doc.Zb (ZB x.Doc.ZQ (W ((W ((W (k + 1)) + 1)) + 1))).2).2 + 1)) + 1)) + 1)) + 1)) + 1)) + 1)) + 1)) + 1) = (W ((W ((W ((W ((W ((W ((W ((ZC x.Doc.Zb (ZB x.Doc.ZQ (W ((W ((W (k + 1)) + 1)) + 1))).2).2 + 1)) + 1)) + 1)) + 1)) + 1)) + 1)) + 1)) + 1 := Zk (by omega) (by omega)
  have e17 : W ((W ((W ((W ((W ((W ((W ((W ((W ((ZC x.Doc.Zb (ZB x.Doc.ZQ (W ((W ((W (k + 1)) + 1)) + 1))).2).2 + 1)) + 1)) + 1)) + 1)) + 1)) + 1)) + 1)) + 1)) + 1) = (W ((W ((W ((W ((W ((W ((W ((W ((ZC x.Doc.Zb (ZB x.Doc.ZQ (W ((W ((W (k + 1)) + 1)) + 1))).2).2 + 1)) + 1)) + 1)) + 1)) + 1)) + 1)) + 1)) + 1)) + 1 := Zk (by omega) (by omega)
  obtain ⟨m18, n18⟩ := IX x.Z0.Zd (W ((W ((W ((W ((W ((W ((W ((W ((W ((ZC x.Doc.Zb (ZB x.Doc.ZQ (W ((W ((W (k + 1)) + 1)) + 1))).2).2 + 1)) + 1)) + 1)) + 1)) + 1)) + 1)) + 1)) + 1)) + 1)) (by omega) (by omega)
  have q18 := Tj x.Z0.Zd (W ((W ((W ((W ((W ((W ((W ((W ((W ((ZC x.Doc.Zb (ZB x.Doc.ZQ (W ((W ((W (k + 1)) + 1)) + 1))).2).2 + 1)) + 1)) + 1)) + 1)) + 1)) + 1)) + 1)) + 1)) + 1)) (by omega) (by omega)
  have o18 : ¬ (YJ x.Z0.Zd (W ((W ((W ((W ((W ((W ((W ((W ((W ((ZC x.Doc.Zb (ZB x.Doc.ZQ (W ((W ((W (k + 1)) + 1)) + 1))).2).2 + 1)) + 1)) + 1)) + 1)) + 1)) + 1)) + 1)) + 1)) + 1))).2 < 0 := by omega
  obtain ⟨m21, n21⟩ := N0 x.Z0.ZX (YJ x.Z0.Zd (W ((W ((W ((W ((W ((W ((W ((W ((W ((ZC x.Doc.Zb (ZB x.Doc.ZQ (W ((W ((W (k + 1)) + 1)) + 1))).2).2 + 1)) + 1)) + 1)) + 1)) + 1)) + 1)) + 1)) + 1)) + 1))).2 (by omega) (by omega)
  have q21 := V6 x.Z0.ZX (YJ x.Z0.Zd (W ((W ((W ((W ((W ((W ((W ((W ((W ((ZC x.Doc.Zb (ZB x.Doc.ZQ (W ((W ((W (k + 1)) + 1)) + 1))).2).2 + 1)) + 1)) + 1)) + 1)) + 1)) + 1)) + 1)) + 1)) + 1))).2 (by omega) (by omega)
  have o21 : ¬ (Yp x.Z0.ZX (YJ x.Z0.Zd (W ((W ((W ((W ((W ((W ((W ((W ((W ((ZC x.Doc.Zb (ZB x.Doc.ZQ (W ((W ((W (k + 1)) + 1)) + 1))).2).2 + 1)) + 1)) + 1)) + 1)) + 1)) + 1)) + 1)) + 1)) + 1))).2).2 < 0 := by omega
  omega
theorem Re (a0 : List Zm) (a1 : Int) (h0 : 0 ≤ a1) (h : a1 + (cn a0 : Nat) < 4611686018427387904) : (XJ a0 a1).2 = a1 + (cn a0 : Nat) := by
  rw [PF]
  exact y6 Ec a0 a1 h0 h
theorem Gu (a0 : List Zm) (a1 : Int) (h0 : 0 ≤ a1) (h : a1 + (cn a0 : Nat) < 4611686018427387904) : a1 ≤ (XJ a0 a1).2 ∧ (XJ a0 a1).2 ≤ a1 + (cn a0 : Nat) := by
  have := Re a0 a1 h0 h
  omega
theorem U2 (a0 : List Zf) (a1 : Int) : YK a0 a1 = mkL (fun (x : Zf) (k : Int) => ((Zf.mk k (XJ x.YM (W (k + 1))).1), (XJ x.YM (W (k + 1))).2)) a0 a1 := by
  have h := Kv (F := Qo) (f := (fun (x : Zf) (k : Int) => ((Zf.mk k (XJ x.YM (W (k + 1))).1), (XJ x.YM (W (k + 1))).2))) (fun _ _ _ _ => rfl) a0 [] (a0.length + 1) a1 (by omega)
  unfold YK
  simp only [List.length_nil, List.nil_append] at h
  rw [h]
@[simp] theorem wa (a0 : List Zf) (a1 : Int) : (YK a0 a1).1.length = a0.length := by rw [U2, y4]
theorem MS : ∀ (x : Zf) (k : Int), 0 ≤ k → k + (cn x : Nat) < 4611686018427387904 → ((fun (x : Zf) (k : Int) => ((Zf.mk k (XJ x.YM (W (k + 1))).1), (XJ x.YM (W (k + 1))).2)) x k).2 = k + (cn x : Nat) := by
  intro x k h0 h
  simp only [KH, JD, T2, KK, Zf.X3] at h ⊢
  have e0 : W (k + 1) = k + 1 := Zk (by omega) (by omega)
  obtain ⟨m1, n1⟩ := Gu x.YM (W (k + 1)) (by omega) (by omega)
  have q1 := Re x.YM (W (k + 1)) (by omega) (by omega)
  have o1 : ¬ (XJ x.YM (W (k + 1))).2 < 0 := by omega
  omega
theorem Vw (a0 : List Zf) (a1 : Int) (h0 : 0 ≤ a1) (h : a1 + (cn a0 : Nat) < 4611686018427387904) : (YK a0 a1).2 = a1 + (cn a0 : Nat) := by
  rw [U2]
  exact y6 MS a0 a1 h0 h
theorem O8 (a0 : List Zf) (a1 : Int) (h0 : 0 ≤ a1) (h : a1 + (cn a0 : Nat) < 4611686018427387904) : a1 ≤ (YK a0 a1).2 ∧ (YK a0 a1).2 ≤ a1 + (cn a0 : Nat) := by
  have := Vw a0 a1 h0 h
  omega
@[simp] theorem Gd (a0 : Zo) (a1 : Int) : (YQ a0 a1).1.Frame.YY.length = a0.Frame.YY.length := by simp [YQ]
@[simp] theorem On (a0 : Zo) (a1 : Int) : (YQ a0 a1).1.Frame.ZN.length = a0.Frame.ZN.length := by simp [YQ]
@[simp] theorem Lh (a0 : Zo) (a1 : Int) : (YQ a0 a1).1.Frame.Methods.length = a0.Frame.Methods.length := by simp [YQ]
@[simp] theorem DA (a0 : Zo) (a1 : Int) : (YQ a0 a1).1.Frame.QR = a0.Frame.QR := rfl
@[simp] theorem BF (a0 : Zo) (a1 : Int) : (YQ a0 a1).1.Frame.Now = a0.Frame.Now := rfl
@[simp] theorem BD (a0 : Zo) (a1 : Int) : (YQ a0 a1).1.Yg.length = a0.Yg.length := by simp [YQ]
@[simp] theorem BH (a0 : Zo) (a1 : Int) : (YQ a0 a1).1.YW.length = a0.YW.length := by simp [YQ]
@[simp] theorem Ee (a0 : Zo) (a1 : Int) : (YQ a0 a1).1.ZJ.length = a0.ZJ.length := by simp [YQ]
@[simp] theorem AS (a0 : Zo) (a1 : Int) : (YQ a0 a1).1.J8.length = a0.J8.length := by simp [YQ]
@[simp] theorem BG (a0 : Zo) (a1 : Int) : (YQ a0 a1).1.Q6.length = a0.Q6.length := by simp [YQ]
@[simp] theorem uu (a0 : Zo) (a1 : Int) : (YQ a0 a1).1.Next = a0.Next := rfl
@[simp] theorem CE (a0 : Zo) (a1 : Int) : (YQ a0 a1).1.QP.length = a0.QP.length := by simp [YQ]
theorem PJ (a0 : Zo) (a1 : Int) (h0 : 0 ≤ a1) (h : a1 + (cn a0 : Nat) < 4611686018427387904) : a1 ≤ (YQ a0 a1).2 ∧ (YQ a0 a1).2 ≤ a1 + (cn a0 : Nat) := by
  simp only [KH, JD, KK, Zo.X3] at h ⊢
  obtain ⟨m0, n0⟩ := FF a0.Frame a1 (by omega) (by omega)
  have o0 : ¬ (Zw a0.Frame a1).2 < 0 := by omega
  obtain ⟨m2, n2⟩ := Ga a0.Yg (Zw a0.Frame a1).2 (by omega) (by omega)
  have q2 := RX a0.Yg (Zw a0.Frame a1).2 (by omega) (by omega)
  have o2 : ¬ (YI a0.Yg (Zw a0.Frame a1).2).2 < 0 := by omega
  obtain ⟨m5, n5⟩ := yy a0.YW (YI a0.Yg (Zw a0.Frame a1).2).2 (by omega) (by omega)
  have q5 := Ke a0.YW (YI a0.Yg (Zw a0.Frame a1).2).2 (by omega) (by omega)
  have o5 : ¬ (ZC a0.YW (YI a0.Yg (Zw a0.Frame a1).2).2).2 < 0 := by omega
  obtain ⟨m8, n8⟩ := O8 a0.ZJ (ZC a0.YW (YI a0.Yg (Zw a0.Frame a1).2).2).2 (by omega) (by omega)
  have q8 := Vw a0.ZJ (ZC a0.YW (YI a0.Yg (Zw a0.Frame a1).2).2).2 (by omega) (by omega)
  have o8 : ¬ (YK a0.ZJ (ZC a0.YW (YI a0.Yg (Zw a0.Frame a1).2).2).2).2 < 0 := by omega
  obtain ⟨m11, n11⟩ := yy a0.J8 (YK a0.ZJ (ZC a0.YW (YI a0.Yg (Zw a0.Frame a1).2).2).2).2 (by omega) (by omega)
  have q11 := Ke a0.J8 (YK a0.ZJ (ZC a0.YW (YI a0.Yg (Zw a0.Frame a1).2).2).2).2 (by omega) (by omega)
  have o11 : ¬ (ZC a0.J8 (YK a0.ZJ (ZC a0.YW (YI a0.Yg (Zw a0.Frame a1).2).2).2).2).2 < 0 := by omega
  obtain ⟨m14, n14⟩ := yy a0.Q6 (ZC a0.J8 (YK a0.ZJ (ZC a0.YW (YI a0.Yg (Zw a0.Frame a1).2).2).2).2).2 (by omega) (by omega)
  have q14 := Ke a0.Q6 (ZC a0.J8 (YK a0.ZJ (ZC a0.YW (YI a0.Yg (Zw a0.Frame a1).2).2).2).2).2 (by omega) (by omega)
  have o14 : ¬ (ZC a0.Q6 (ZC a0.J8 (YK a0.ZJ (ZC a0.YW (YI a0.Yg (Zw a0.Frame a1).2).2).2).2).2).2 < 0 := by omega
  obtain ⟨m17, n17⟩ := yy a0.QP (ZC a0.Q6 (ZC a0.J8 (YK a0.ZJ (ZC a0.YW (YI a0.Yg (Zw a0.Frame a1).2).2).2).2).2).2 (by omega) (by omega)
  have q17 := Ke a0.QP (ZC a0.Q6 (ZC a0.J8 (YK a0.ZJ (ZC a0.YW (YI a0.Yg (Zw a0.Frame a1).2).2).2).2).2).2 (by omega) (by omega)
  have o17 : ¬ (ZC a0.QP (ZC a0.Q6 (ZC a0.J8 (YK a0.ZJ (ZC a0.YW (YI a0.Yg (Zw a0.Frame a1).2).2).2).2).2).2).2 < 0 := by omega
  refine ⟨by simp only [YQ]; omega, by simp only [YQ]; omega⟩
theorem EK {n : Nat} {x : Zn} (h : 7 ≤ n) : Sm n (yo x) := ⟨by simp [yo]; omega, fun _ _ => trivial⟩
@[simp] theorem tg (x : Zn) : (yo x).length = 7 := rfl
theorem Ft {n : Nat} {x : Zn} (h : 7 ≤ n) : Sm n (yd x) := ⟨by simp [yd]; omega, fun _ _ => trivial⟩
@[simp] theorem th (x : Zn) : (yd x).length = 7 := rfl
theorem Ho {n : Nat} {x : ZY} (h : 5 ≤ n) : Sm n (Jo x) := ⟨by simp [Jo]; omega, fun _ _ => trivial⟩
@[simp] theorem tB (x : ZY) : (Jo x).length = 5 := rfl
theorem H9 {n : Nat} {x : ZY} (h : 5 ≤ n) : Sm n (JI x) := ⟨by simp [JI]; omega, fun _ _ => trivial⟩
@[simp] theorem u9 (x : ZY) : (JI x).length = 5 := rfl
theorem Vz {n : Nat} {x : ZV} (h : 9 ≤ n) : Sm n (QH x) := ⟨by simp [QH]; omega, fun _ _ => trivial⟩
@[simp] theorem Aq (x : ZV) : (QH x).length = 9 := rfl
theorem V0 {n : Nat} {x : ZV} (h : 9 ≤ n) : Sm n (QJ x) := ⟨by simp [QJ]; omega, fun _ _ => trivial⟩
@[simp] theorem Ao (x : ZV) : (QJ x).length = 9 := rfl
theorem LD {n : Nat} {x : Zy} (h : 6 ≤ n) : Sm n (JV x) := ⟨by simp [JV]; omega, fun _ _ => trivial⟩
@[simp] theorem vY (x : Zy) : (JV x).length = 6 := rfl
theorem MY {n : Nat} {x : Zy} (h : 6 ≤ n) : Sm n (JX x) := ⟨by simp [JX]; omega, fun _ _ => trivial⟩
@[simp] theorem vd (x : Zy) : (JX x).length = 6 := rfl
theorem Mk {a : Zc} (h : yZ a = true) : a.Zb.length = a.ZQ.length := by
  unfold yZ at h
  split at h
  · rename_i r e
    have : ∀ n v, z5 a n v ≠ .inl true := by
      intro n
      induction n with
      | zero => intro v h; cases h
      | succ n ih =>
        intro v h
        rw [z5] at h
        generalize decide ((v : Int) < (a.ZQ.length : Int)) = c1 at h
        cases c1 with
        | false => cases h
        | true =>
          simp only [cond_true] at h
          generalize decide (((nth a.ZQ v).size : Int) > 40) = c2 at h
          cases c2 with
          | true => cases h
          | false => exact ih _ h
    subst h; exact absurd e (this _ _)
  · split at h
    · rename_i r e
      have : ∀ n v, zk a n v ≠ .inl true := by
        intro n
        induction n with
        | zero => intro v h; cases h
        | succ n ih =>
          intro v h
          rw [zk] at h
          generalize decide ((v : Int) < (a.Zb.length : Int)) = c1 at h
          cases c1 with
          | false => cases h
          | true =>
            simp only [cond_true] at h
            generalize (!YG (nth a.Zb v) 1 1000000000000) = c2 at h
            cases c2 with
            | true => cases h
            | false => exact ih _ h
      subst h; exact absurd e (this _ _)
    · simp only [Bool.and_eq_true, beq_iff_eq] at h; omega
theorem Mf {a : Zc} (h : yg a = true) : a.Zb.length = a.ZQ.length := by
  unfold yg at h
  generalize (match z4 a (a.ZQ.length + 1) 0 with | .inl r1 => r1 | .inr _ => true) = m at h
  by_cases hh : a.Zb.length = a.ZQ.length
  · exact hh
  · rw [show ((a.Zb.length : Int) != (a.ZQ.length : Int)) = true by simp; omega] at h
    simp at h
theorem RB (a0 : Zo) (a1 : Int) (h : 0 ≤ (Q5 a0 a1).1) : (Q5 a0 a1).1.toNat < a0.ZJ.length ∧ 0 ≤ (Q5 a0 a1).2 ∧ (Q5 a0 a1).2.toNat < (nth a0.ZJ (Q5 a0 a1).1.toNat).YM.length := by
  have key : ∀ n v r, xK a0 a1 n v = .inl r → r.1.toNat < a0.ZJ.length ∧ 0 ≤ r.2 ∧ r.2.toNat < (nth a0.ZJ r.1.toNat).YM.length := by
    intro n
    induction n with
    | zero => intro v r h; cases h
    | succ n ih =>
      intro v r h
      rw [xK] at h
      cases h1 : decide ((v : Int) < (a0.ZJ.length : Int)) with
      | false => rw [h1] at h; cases h
      | true =>
        rw [h1] at h
        simp only [cond_true] at h
        cases h2 : decide (xd (nth a0.ZJ v) a1 ≥ 0) with
        | false => rw [h2] at h; exact ih _ _ h
        | true =>
          rw [h2] at h; cases h
          simp at h1 h2
          have := Fa (nth a0.ZJ v) a1
          simp only [Int.toNat_natCast]
          exact ⟨h1, h2, by omega⟩
  unfold Q5 at h ⊢
  cases hh : xK a0 a1 (a0.ZJ.length + 1) 0 with
  | inl r => rw [hh] at h; exact key _ _ r hh
  | inr u => rw [hh] at h; simp at h
theorem Se (a0 : Zo) (a1 : Int) (h : 0 ≤ (Q0 a0 a1).1) : (Q0 a0 a1).1.toNat < a0.ZJ.length ∧ 0 ≤ (Q0 a0 a1).2 ∧ (Q0 a0 a1).2.toNat < (nth a0.ZJ (Q0 a0 a1).1.toNat).YM.length := by
  have key : ∀ n v r, xV a0 a1 n v = .inl r → r.1.toNat < a0.ZJ.length ∧ 0 ≤ r.2 ∧ r.2.toNat < (nth a0.ZJ r.1.toNat).YM.length := by
    intro n
    induction n with
    | zero => intro v r h; cases h
    | succ n ih =>
      intro v r h
      rw [xV] at h
      cases h1 : decide ((v : Int) < (a0.ZJ.length : Int)) with
      | false => rw [h1] at h; cases h
      | true =>
        rw [h1] at h
        simp only [cond_true] at h
        cases h2 : decide (xR (nth a0.ZJ v) a1 ≥ 0) with
        | false => rw [h2] at h; exact ih _ _ h
        | true =>
          rw [h2] at h; cases h
          simp at h1 h2
          have := EY (nth a0.ZJ v) a1
          simp only [Int.toNat_natCast]
          exact ⟨h1, h2, by omega⟩
  unfold Q0 at h ⊢
  cases hh : xV a0 a1 (a0.ZJ.length + 1) 0 with
  | inl r => rw [hh] at h; exact key _ _ r hh
  | inr u => rw [hh] at h; simp at h
theorem yi {a : Int} {n : Nat} (hn : n ≤ 9223372036854775807) (h : YG a 0 (W ((n : Int) - 1)) = true) : 0 ≤ a ∧ a < n := by
  rw [Rz n hn] at h
  simp only [YG, Bool.and_eq_true, decide_eq_true_eq] at h; omega
theorem Ja {a : Int} {n : Nat} (hn : n ≤ 9223372036854775807) (h : Ze a 0 (W ((n : Int) - 1)) = true) : 0 ≤ a ∧ a < n := by
  rw [Rz n hn] at h
  simp only [Ze, Bool.and_eq_true, decide_eq_true_eq] at h; omega
@[simp] theorem rE (l : List UInt8) : (km l).length = l.length := by
  have key : ∀ n (acc : List Int) v, l.length < n + v → v ≤ l.length → (xX l n acc v).length = acc.length + (l.length - v) := by
    intro n
    induction n with
    | zero => intro acc v h1 h2; omega
    | succ n ih =>
      intro acc v h1 h2
      rw [xX]
      by_cases hv : v < l.length
      · rw [show decide ((v : Int) < (l.length : Int)) = true by simpa using hv, cond_true, ih _ (v + 1) (by omega) (by omega)]
        simp; omega
      · rw [show decide ((v : Int) < (l.length : Int)) = false by simpa using hv, cond_false]; omega
  have := key (l.length + 1) [] 0 (by omega) (by omega)
  simpa [km] using this
theorem I4 {n : Nat} {a0 : ZP} {a1 : Zc} (h : Sm n a0) : Sm n (yh a0 a1) := by
  have key : ∀ n (acc : List Int) v, a0.ZX.length < n + v → v ≤ a0.ZX.length → (Km a0 a1 n acc v).length = acc.length + (a0.ZX.length - v) := by
    intro n
    induction n with
    | zero => intro acc v h1 h2; omega
    | succ n ih =>
      intro acc v h1 h2
      rw [Km]
      by_cases hv : v < a0.ZX.length
      · rw [show decide ((v : Int) < (a0.ZX.length : Int)) = true by simpa using hv, cond_true, ih _ (v + 1) (by omega) (by omega)]
        simp; omega
      · rw [show decide ((v : Int) < (a0.ZX.length : Int)) = false by simpa using hv, cond_false]; omega
  have h2 := key (a0.ZX.length + 1) [] 0 (by omega) (by omega)
  have h3 := Yv (ZP.Qc h)
  refine ⟨?_, fun _ _ => trivial⟩
  unfold yh
  simp only [List.length_nil, Nat.zero_add, Nat.sub_zero] at h2
  rw [h2]; exact h3
theorem I3 {n : Nat} {a0 : ZP} {a1 : Zc} (h : Sm n a0) : Sm n (K8 a0 a1) := by
  have key : ∀ n (acc : List Int) v, a0.ZX.length < n + v → v ≤ a0.ZX.length → (Kg a0 a1 n acc v).length = acc.length + (a0.ZX.length - v) := by
    intro n
    induction n with
    | zero => intro acc v h1 h2; omega
    | succ n ih =>
      intro acc v h1 h2
      rw [Kg]
      by_cases hv : v < a0.ZX.length
      · rw [show decide ((v : Int) < (a0.ZX.length : Int)) = true by simpa using hv, cond_true, ih _ (v + 1) (by omega) (by omega)]
        simp; omega
      · rw [show decide ((v : Int) < (a0.ZX.length : Int)) = false by simpa using hv, cond_false]; omega
  have h2 := key (a0.ZX.length + 1) [] 0 (by omega) (by omega)
  have h3 := Yv (ZP.Qc h)
  refine ⟨?_, fun _ _ => trivial⟩
  unfold K8
  simp only [List.length_nil, Nat.zero_add, Nat.sub_zero] at h2
  rw [h2]; exact h3
theorem ZZ (a0 : ZD) : (XS a0 = 101 → a0.Zg.length = 7) ∧ (XS a0 = 102 → a0.Zg.length = 5) ∧ (XS a0 = 103 → a0.Zg.length = 5) ∧ (XS a0 = 104 → a0.Zg.length = 9) ∧ (XS a0 = 105 → a0.Zg.length = 6) := by
  have key : ∀ v : Int, v ≠ 0 → XS a0 = v → nth a0.Zg 0 = v ∧ (a0.Zg.length : Int) = nth ([7, 5, 5, 9, 6] : List Int) (W (v - 101)).toNat := by
    intro v hv h
    unfold XS at h
    cases c0 : (((↑a0.Zg.length : Int) == 0) || (!(YG (nth a0.Zg 0) 101 105)))
    · rw [c0, cond_false] at h
      cases c1 : ((↑a0.Zg.length : Int) != (nth ([7, 5, 5, 9, 6] : List Int) (W ((nth a0.Zg 0) - 101)).toNat))
      · rw [c1, cond_false] at h
        simp only [bne_eq_false_iff_eq] at c1
        exact ⟨h, by rw [← h]; exact c1⟩
      · rw [c1, cond_true] at h; exact absurd h.symm hv
    · rw [c0, cond_true] at h; exact absurd h.symm hv
  refine ⟨fun h => ?_, fun h => ?_, fun h => ?_, fun h => ?_, fun h => ?_⟩ <;> (have := (key _ (by decide) h).2; simp [nth, Kb] at this; omega)
theorem Za (a0 : ZD) : (Z2 a0 = 101 → a0.Zg.length = 7) ∧ (Z2 a0 = 102 → a0.Zg.length = 5) ∧ (Z2 a0 = 103 → a0.Zg.length = 5) ∧ (Z2 a0 = 104 → a0.Zg.length = 9) ∧ (Z2 a0 = 105 → a0.Zg.length = 6) := by
  have key : ∀ v : Int, v ≠ 0 → Z2 a0 = v → nth a0.Zg 0 = v ∧ (a0.Zg.length : Int) = nth ([7, 5, 5, 9, 6] : List Int) (W (v - 101)).toNat := by
    intro v hv h
    unfold Z2 at h
    cases c1 : ((((↑a0.Zg.length : Int) == 0) || (!(Ze (nth a0.Zg 0) 101 105))) || ((↑a0.Zg.length : Int) != (nth ([7, 5, 5, 9, 6] : List Int) (W ((nth a0.Zg 0) - 101)).toNat)))
    · rw [c1, cond_false] at h
      simp only [Bool.or_eq_false_iff, bne_eq_false_iff_eq] at c1
      exact ⟨h, by rw [← h]; exact c1.2⟩
    · rw [c1, cond_true] at h; exact absurd h.symm hv
  refine ⟨fun h => ?_, fun h => ?_, fun h => ?_, fun h => ?_, fun h => ?_⟩ <;> (have := (key _ (by decide) h).2; simp [nth, Kb] at this; omega)
theorem Yu {n : Nat} {x : ZV} (h : 9 ≤ n) : Sm n (XX x) := Vz h
theorem Yr {n : Nat} {x : ZV} (h : 9 ≤ n) : Sm n (XY x) := V0 h
def itn (l : List Zf) : Nat := cnL (fun a => a.YM.length) l
theorem Nr {l : List Zf} {i : Nat} (h : i < l.length) : itn (l.drop i) = (nth l i).YM.length + itn (l.drop (i + 1)) := DU _ h
theorem Vs (a0 : Zo) : QN a0 = a0.ZJ.flatMap (·.YM) := by
  unfold QN
  have := NY (as := a0.ZJ) (fun a => a.YM) (F := fun n i l => U3 a0 n l i) (fun _ _ _ => rfl) (a0.ZJ.length + 1) 0 [] (by omega) (Nat.zero_le _)
  simpa using this
theorem TM (a0 : Zo) : (QN a0).length = itn a0.ZJ := by rw [Vs, AH]; rfl
theorem yw {a0 : Zo} {a1 : Int} (hm : Sm maxLen a0) (h0 : 0 ≤ a1) (hn : a1 ≤ 1048576) (h : ¬ QX a0 a1 < 0) : itn a0.ZJ ≤ 1048576 := by
  have hI : @jk Zm _ _ ⟨fun _ => 32⟩ ql 32 := fun a n hm h0 hn h => ⟨by have := (PV a n hm h0 hn h).2; show ((32 : Nat) : Int) ≤ _; omega, (PV a n hm h0 hn h).2⟩
  have hIS : @jk (List Zm) _ _ (@instCnList Zm ⟨fun _ => 32⟩) Kx 0 := @RH Zm _ _ ⟨fun _ => 32⟩ ql 32 hI (by decide) Kx jD (fun _ _ _ _ => rfl) (fun _ _ => rfl)
  have hA : @jk Zf _ _ ⟨fun a => 32 * a.YM.length⟩ Jf 0 := by
    intro a n hm h0 hn h
    unfold Jf at h ⊢
    by_cases c0 : (Kx a.YM n) < 0
    · simp [c0] at h
    obtain ⟨s0, t0⟩ := hIS a.YM n (by simp [hm]) (by omega) (by omega) c0
    simp only [c0, decide_false, cond_false] at h ⊢
    refine ⟨?_, t0⟩
    have e : cnL (fun _ : Zm => 32) a.YM = 32 * a.YM.length := FV (fun _ => rfl) _
    have s1 : ((cnL (fun _ : Zm => 32) a.YM : Nat) : Int) ≤ 32 * (n - Kx a.YM n) + (0 : Nat) := s0
    rw [e] at s1; exact s1
  have hAS : @jk (List Zf) _ _ (@instCnList Zf ⟨fun a => 32 * a.YM.length⟩) YT 0 := @RH Zf _ _ ⟨fun a => 32 * a.YM.length⟩ Jf 0 hA (by decide) YT zh (fun _ _ _ _ => rfl) (fun _ _ => rfl)
  unfold QX at h
  by_cases c0 : (Z6 a0.Frame a1) < 0
  · simp [c0] at h
  obtain ⟨_, t0⟩ := N5 a0.Frame a1 (by simp [hm]) (by omega) (by omega) c0
  by_cases c1 : (YO a0.Yg (Z6 a0.Frame a1)) < 0
  · simp [c1, c0] at h
  obtain ⟨_, t1⟩ := MD a0.Yg (Z6 a0.Frame a1) (by simp [hm]) (by omega) (by omega) c1
  by_cases c2 : (Zp a0.YW (YO a0.Yg (Z6 a0.Frame a1))) < 0
  · simp [c2, c0, c1] at h
  obtain ⟨_, t2⟩ := xm a0.YW (YO a0.Yg (Z6 a0.Frame a1)) (by simp [hm]) (by omega) (by omega) c2
  by_cases c3 : (YT a0.ZJ (Zp a0.YW (YO a0.Yg (Z6 a0.Frame a1)))) < 0
  · simp [c3, c0, c1, c2] at h
  obtain ⟨s3, t3⟩ := hAS a0.ZJ (Zp a0.YW (YO a0.Yg (Z6 a0.Frame a1))) (by simp [hm]) (by omega) (by omega) c3
  have s4 : ((cnL (fun a : Zf => 32 * a.YM.length) a0.ZJ : Nat) : Int) ≤ 32 * (Zp a0.YW (YO a0.Yg (Z6 a0.Frame a1)) - YT a0.ZJ (Zp a0.YW (YO a0.Yg (Z6 a0.Frame a1)))) + (0 : Nat) := s3
  have e : ∀ l : List Zf, cnL (fun a : Zf => 32 * a.YM.length) l = 32 * itn l := by
    intro l; induction l with
    | nil => rfl
    | cons x l ih => show 32 * x.YM.length + cnL _ l = 32 * (x.YM.length + itn l); rw [ih]; omega
  rw [e] at s4
  omega
theorem Tk (a0 : ZI) (a1 : ZP) (a2 : List Int) : ∀ n v, za a0 a1 a2 n v ≤ v
  | 0, _ => Nat.zero_le _
  | n + 1, v => by
    simp only [za]
    exact XU (p := fun r => r ≤ v) (Nat.le_trans (Tk a0 a1 a2 n (v - 1)) (Nat.sub_le _ _)) (Nat.le_refl _)
theorem Lx (a0 : ZI) (a1 : ZP) (a2 : List Int) : 0 ≤ zG a0 a1 a2 ∧ zG a0 a1 a2 ≤ (a1.ZX.length : Int) := by
  have h := Tk a0 a1 a2 (a1.ZX.length + 1) a1.ZX.length
  simp only [zG]; omega
theorem Tw (a0 : ZI) (a1 : ZP) (a2 : List Int) : ∀ n v, zT a0 a1 a2 n v ≤ v
  | 0, _ => Nat.zero_le _
  | n + 1, v => by
    simp only [zT]
    exact XU (p := fun r => r ≤ v) (XU (p := fun r => r ≤ v) (Nat.le_refl _) (Nat.le_trans (Tw a0 a1 a2 n (v - 1)) (Nat.sub_le _ _))) (Nat.le_refl _)
theorem Io (a0 : ZI) (a1 : ZP) (a2 : List Int) : 0 ≤ K9 a0 a1 a2 ∧ K9 a0 a1 a2 ≤ (a1.ZX.length : Int) := by
  have h := Tw a0 a1 a2 (a1.ZX.length + 1) a1.ZX.length
  simp only [K9]; omega
theorem TQ (a0 : List ZF) : ∀ (n : Nat) (l : List ZF) (i : Nat) (x y : Int), i ≤ a0.length → (jG a0 n l i x y).1.length ≤ l.length + (a0.length - i)
  | 0, _, _, _, _, _ => Nat.zero_le _
  | n + 1, l, i, x, y, hi => by
    simp only [jG]
    by_cases h : i < a0.length
    · rw [show decide ((i : Int) < (a0.length : Int)) = true by simpa using h, cond_true]
      refine XU (p := fun (r : List ZF × Int × Int) => r.1.length ≤ l.length + (a0.length - i)) ?_ ?_
      · have := TQ a0 n (l ++ [nth a0 i]) (i + 1) x y h
        simp at this; omega
      · exact Nat.le_trans (TQ a0 n l (i + 1) _ _ h) (by omega)
    · rw [show decide ((i : Int) < (a0.length : Int)) = false by simpa using h, cond_false]; exact Nat.le_add_right _ _
theorem Pb (a0 : List ZF) (a1 : ZF) : (SY a0 a1).length ≤ a0.length + 1 := by
  have h := TQ a0 (a0.length + 1) [] 0 a1.YN a1.To (Nat.zero_le _)
  simp only [SY]
  simp at h ⊢
  omega
theorem Wr (a0 : List ZF) : ∀ (n : Nat) (l : List ZF) (i : Nat), i ≤ a0.length → (yV a0 n l i).length ≤ l.length + (a0.length - i)
  | 0, _, _, _ => Nat.zero_le _
  | n + 1, l, i, hi => by
    simp only [yV]
    by_cases h : i < a0.length
    · rw [show decide ((i : Int) < (a0.length : Int)) = true by simpa using h, cond_true]
      refine XU (p := fun (r : List ZF) => r.length ≤ l.length + (a0.length - i)) ?_ ?_
      · have h1 := Wr a0 n (SY l (nth a0 i)) (i + 1) h
        have h2 := Pb l (nth a0 i)
        omega
      · exact Nat.le_trans (Wr a0 n l (i + 1) h) (by omega)
    · rw [show decide ((i : Int) < (a0.length : Int)) = false by simpa using h, cond_false]; exact Nat.le_add_right _ _
theorem qF {n : Nat} {a0 : List ZF} (h : Sm n a0) : Sm n (Xx a0) :=
  ⟨Nat.le_trans (Wr a0 (a0.length + 1) [] 0 (Nat.zero_le _)) (by have := h.1; simp; omega), fun _ _ => trivial⟩
theorem W1 (a0 : List ZF) : ∀ (n : Nat) (l : List ZF) (i : Nat) (x y : Int), i ≤ a0.length → (yR a0 n l i x y).1.length ≤ l.length + (a0.length - i)
  | 0, _, _, _, _, _ => Nat.zero_le _
  | n + 1, l, i, x, y, hi => by
    simp only [yR]
    by_cases h : i < a0.length
    · rw [show decide ((i : Int) < (a0.length : Int)) = true by simpa using h, cond_true]
      refine XU (p := fun (r : List ZF × Int × Int) => r.1.length ≤ l.length + (a0.length - i)) ?_ ?_
      · have := W1 a0 n (l ++ [nth a0 i]) (i + 1) x y h
        simp at this; omega
      · exact Nat.le_trans (W1 a0 n l (i + 1) _ _ h) (by omega)
    · rw [show decide ((i : Int) < (a0.length : Int)) = false by simpa using h, cond_false]; exact Nat.le_add_right _ _
theorem Ws (a0 : List ZF) : ∀ (n : Nat) (l : List ZF) (i : Nat), i ≤ a0.length → (yU a0 n l i).length ≤ l.length + (a0.length - i)
  | 0, _, _, _ => Nat.zero_le _
  | n + 1, l, i, hi => by
    simp only [yU]
    by_cases h : i < a0.length
    · rw [show decide ((i : Int) < (a0.length : Int)) = true by simpa using h, cond_true]
      refine XU (p := fun (r : List ZF) => r.length ≤ l.length + (a0.length - i)) (Nat.le_trans (Ws a0 n l (i + 1) h) (by omega)) ?_
      have h2 := W1 l (l.length + 1) [] 0 (nth a0 i).YN (nth a0 i).To (Nat.zero_le _)
      refine Nat.le_trans (Ws a0 n _ (i + 1) h) ?_
      simp at h2 ⊢
      omega
    · rw [show decide ((i : Int) < (a0.length : Int)) = false by simpa using h, cond_false]; exact Nat.le_add_right _ _
theorem xv {n : Nat} {a0 : List ZF} (h : Sm n a0) : Sm n (XQ a0) :=
  ⟨Nat.le_trans (Ws a0 (a0.length + 1) [] 0 (Nat.zero_le _)) (by have := h.1; simp; omega), fun _ _ => trivial⟩
theorem ZM {n : Nat} {a0 : List ZF} {a1 a2 : Int} (h : Sm n a0) : Sm (n + 1) (XG a0 a1 a2) := by
  unfold XG
  refine XU (p := fun r : List ZF => Sm (n + 1) r) (Zi (Nat.le_succ n) h) ⟨?_, fun _ _ => trivial⟩
  have := h.1
  simp; omega
theorem ZE {n : Nat} {a0 a1 : Int} {a2 : List ZF} (h : Sm n a2) : Sm (n + 1) (Zl a0 a1 a2) := by
  unfold Zl
  refine XU (p := fun r : List ZF => Sm (n + 1) r) ⟨?_, fun _ _ => trivial⟩ (Zi (Nat.le_succ n) h)
  have := h.1
  simp; omega
theorem El {n : Nat} {a0 : Zn} {a1 : List Zu} (h : 3 ≤ n) : Sm n (xF a0 a1) := by
  have h0 : Sm 0 ([] : List ZF) := ⟨Nat.zero_le _, fun _ _ => trivial⟩
  unfold xF
  refine XU (p := fun r : List ZF => Sm n r) (XU (p := fun r : List ZF => Sm n r) ?_ ?_) (XU (p := fun r : List ZF => Sm n r) ?_ ?_)
  · exact qF (Zi h (ZM (ZM (ZM h0))))
  · exact qF (Zi (by omega) (ZM (ZM h0)))
  · exact qF (Zi (by omega) (ZM (ZM h0)))
  · exact qF (Zi (by omega) (ZM h0))
theorem ED {n : Nat} {a0 : Zn} {a1 : List Zu} (h : 3 ≤ n) : Sm n (xU a0 a1) := by
  have h0 : Sm 0 ([] : List ZF) := ⟨Nat.zero_le _, fun _ _ => trivial⟩
  unfold xU
  refine XU (p := fun r : List ZF => Sm n r) (XU (p := fun r : List ZF => Sm n r) ?_ ?_) (XU (p := fun r : List ZF => Sm n r) ?_ ?_)
  · exact xv (Zi h (ZE (ZE (ZE h0))))
  · exact xv (Zi (by omega) (ZE (ZE h0)))
  · exact xv (Zi (by omega) (ZE (ZE h0)))
  · exact xv (Zi (by omega) (ZE h0))
theorem wj {n : Nat} {c d : ZF} (h : 1 ≤ n) : Sm n (VY [c] [d]) := by
  show Sm n (Xx (bif (zB c d).2 then [(zB c d).1] else []))
  exact qF (XU (p := fun r : List ZF => Sm n r) ⟨h, fun _ _ => trivial⟩ ⟨Nat.zero_le _, fun _ _ => trivial⟩)
theorem GF {n : Nat} {a0 : Zn} {a1 : List Zu} (h : 1 ≤ n) : Sm n (yO a0 a1) := by
  unfold yO
  exact XU (p := fun r : List ZF => Sm n r) ⟨Nat.zero_le _, fun _ _ => trivial⟩ (wj h)
theorem NF {n : Nat} {a0 : List Zs} {a1 : List Zy} {a2 a3 : Int} (h : a1.length ≤ n) : Sm n (Kf a0 a1 a2 a3) :=
  qF ⟨Nat.le_trans (Tl (F := JP a0 a1 a2 a3) (fun _ _ => rfl) (fun _ _ _ => rfl) (a1.length + 1) [] 0) (by simp; omega), fun _ _ => trivial⟩
theorem wH {n : Nat} {c d : ZF} (h : 1 ≤ n) : Sm n (kc [c] [d]) := by
  show Sm n (XQ (bif (JG c d).2 then [(JG c d).1] else []))
  exact xv (XU (p := fun r : List ZF => Sm n r) ⟨h, fun _ _ => trivial⟩ ⟨Nat.zero_le _, fun _ _ => trivial⟩)
theorem HP {n : Nat} {a0 : Zn} {a1 : List Zu} (h : 1 ≤ n) : Sm n (yT a0 a1) := by
  unfold yT
  exact wH h
theorem Nt {n : Nat} {a0 : List Zs} {a1 : List Zy} {a2 a3 : Int} (h : a1.length ≤ n) : Sm n (Jm a0 a1 a2 a3) :=
  xv ⟨Nat.le_trans (Tl (F := JR a0 a1 a2 a3) (fun _ _ => rfl) (fun _ _ _ => rfl) (a1.length + 1) [] 0) (by simp; omega), fun _ _ => trivial⟩
def BL (e : ZL) : Nat := cnL (fun s => s.Zd.length) e.ZO
theorem I8 {l : List ZP} {i : Nat} (h : i < l.length) : cnL (fun s : ZP => s.Zd.length) (l.drop i) = (nth l i).Zd.length + cnL (fun s : ZP => s.Zd.length) (l.drop (i + 1)) := DU _ h
theorem VS (a0 : List ZD) (a1 : ZD) : (yv a0 a1).length ≤ a0.length + 1 := by
  unfold yv
  refine XU (p := fun r : List ZD => r.length ≤ a0.length + 1) (Nat.le_succ _) ?_
  simp; omega
theorem Pc {n : Nat} {a0 : List ZD} {a1 : ZD} (h : Sm n a0) (h1 : Sm n a1) (hl : a0.length + 1 ≤ n) : Sm n (yv a0 a1) := by
  refine ⟨Nat.le_trans (VS a0 a1) hl, ?_⟩
  unfold yv
  refine XU (p := fun r : List ZD => ∀ x ∈ r, Sm n x) h.2 ?_
  intro x hx
  simp only [List.mem_append, List.mem_singleton] at hx
  rcases hx with (hx | rfl) | hx
  · exact h.2 x (List.mem_of_mem_take hx)
  · exact h1
  · exact h.2 x (List.mem_of_mem_drop hx)
theorem qQ {K : Nat} (a0 : ZI) (a1 : ZL) (a2 : List (List Int)) (v : Nat) (h : Sm K a1) : ∀ (n : Nat) (l : List ZD) (i : Nat), i ≤ (nth a1.ZO v).Zd.length → Sm K l → l.length + ((nth a1.ZO v).Zd.length - i) ≤ K → Sm K (Xy a0 a1 a2 v n l i) ∧ (Xy a0 a1 a2 v n l i).length ≤ l.length + ((nth a1.ZO v).Zd.length - i)
  | 0, _, _, _, _, _ => ⟨⟨Nat.zero_le _, fun x hx => by cases hx⟩, Nat.zero_le _⟩
  | n + 1, l, i, hi, hl, hk => by
    simp only [Xy]
    by_cases hv : i < (nth a1.ZO v).Zd.length
    · rw [show decide ((i : Int) < ((nth a1.ZO v).Zd.length : Int)) = true by simpa using hv, cond_true]
      have hp : Sm K (nth (nth a1.ZO v).Zd i) := Z3 (ZP.Yy (Z3 (ZL.Yl h)))
      have hl2 := VS l (nth (nth a1.ZO v).Zd i)
      refine XU (p := fun (r : List ZD) => Sm K r ∧ r.length ≤ l.length + ((nth a1.ZO v).Zd.length - i)) ?_ ?_
      · obtain ⟨r1, r2⟩ := qQ a0 a1 a2 v h n (yv l (nth (nth a1.ZO v).Zd i)) (i + 1) hv (Pc hl hp (by omega)) (by omega)
        exact ⟨r1, by omega⟩
      · obtain ⟨r1, r2⟩ := qQ a0 a1 a2 v h n l (i + 1) hv hl (by omega)
        exact ⟨r1, by omega⟩
    · rw [show decide ((i : Int) < ((nth a1.ZO v).Zd.length : Int)) = false by simpa using hv, cond_false]
      exact ⟨hl, Nat.le_add_right _ _⟩
theorem VA {K : Nat} (a0 : ZI) (a1 : ZL) (a2 : List (List Int)) (h : Sm K a1) : ∀ (n : Nat) (l : List ZD) (i : Nat), i ≤ a1.ZO.length → Sm K l → l.length + cnL (fun s : ZP => s.Zd.length) (a1.ZO.drop i) ≤ K → Sm K (JU a0 a1 a2 n l i)
  | 0, _, _, _, _, _ => ⟨Nat.zero_le _, fun x hx => by cases hx⟩
  | n + 1, l, i, hi, hl, hk => by
    simp only [JU]
    by_cases hv : i < a1.ZO.length
    · rw [show decide ((i : Int) < (a1.ZO.length : Int)) = true by simpa using hv, cond_true]
      have hd := I8 hv
      obtain ⟨r1, r2⟩ := qQ a0 a1 a2 i h ((nth a1.ZO i).Zd.length + 1) l 0 (Nat.zero_le _) hl (by omega)
      exact VA a0 a1 a2 h n _ (i + 1) hv r1 (by omega)
    · rw [show decide ((i : Int) < (a1.ZO.length : Int)) = false by simpa using hv, cond_false]; exact hl
theorem ZS {K : Nat} {a0 : ZI} {a1 : ZL} {a2 : List (List Int)} (h : Sm K a1) (hp : BL a1 ≤ 2097152) (hk : 2097152 ≤ K) : Sm K (Zq a0 a1 a2) :=
  VA a0 a1 a2 h _ [] 0 (Nat.zero_le _) ⟨Nat.zero_le _, fun x hx => by cases hx⟩ (by rw [List.drop_zero]; simp only [List.length_nil]; exact Nat.le_trans (by rw [Nat.zero_add]; exact hp) hk)
theorem OD {a0 : ZI} {a1 : Int} {a2 : ZV} (h : ((ka a0 a1 a2).Code != 0) = false) : 0 ≤ Ys a0.YY a2.Key := by
  unfold ka at h
  cases hk : decide (Ys a0.YY a2.Key < 0) with
  | false => simpa using hk
  | true =>
    rw [hk] at h
    cases h1 : VX a0 <;> cases h2 : zV a2 <;> cases h3 : decide (a1 < 0) <;> cases h4 : (a1 != a2.Yz) <;> rw [h1, h2, h3, h4] at h <;> cases h
theorem YZ {n : Nat} {a0 : List ZD} {a1 : Zn} (h : Sm n a0) : Sm n (JZ a0 a1) :=
  ⟨Nat.le_trans (Tl (F := Jx a0 a1) (fun _ _ => rfl) (fun _ _ _ => rfl) (a0.length + 1) [] 0) (by have := h.1; simp; omega), fun _ _ => trivial⟩
theorem Yj {n : Nat} {a0 : List ZD} (h : Sm n a0) : Sm n (yp a0) :=
  ⟨Nat.le_trans (Tl (F := Kk a0) (fun _ _ => rfl) (fun _ _ _ => rfl) (a0.length + 1) [] 0) (by have := h.1; simp; omega), fun _ _ => trivial⟩
theorem YX {n : Nat} {a0 : List ZD} {a1 : Zn} (h : Sm n a0) : Sm n (Jc a0 a1) :=
  ⟨Nat.le_trans (Tl (F := J5 a0 a1) (fun _ _ => rfl) (fun _ _ _ => rfl) (a0.length + 1) [] 0) (by have := h.1; simp; omega), fun _ _ => trivial⟩
theorem Yi {n : Nat} {a0 : List ZD} (h : Sm n a0) : Sm n (yf a0) :=
  ⟨Nat.le_trans (Tl (F := Kc a0) (fun _ _ => rfl) (fun _ _ _ => rfl) (a0.length + 1) [] 0) (by have := h.1; simp; omega), fun _ _ => trivial⟩
theorem Wa {n : Nat} (a0 : ZL) (a1 : Zc) (h : Sm n a0) : ∀ (m : Nat) (l : List (List Int)) (i : Nat), i ≤ a0.ZO.length → Sm n l → l.length + (a0.ZO.length - i) ≤ n → Sm n (JC a0 a1 m l i)
  | 0, _, _, _, _, _ => ⟨Nat.zero_le _, fun x hx => by cases hx⟩
  | m + 1, l, i, hi, hl, hk => by
    simp only [JC]
    by_cases hv : i < a0.ZO.length
    · rw [show decide ((i : Int) < (a0.ZO.length : Int)) = true by simpa using hv, cond_true]
      refine Wa a0 a1 h m _ (i + 1) hv ⟨by simp; omega, fun x hx => ?_⟩ (by simp; omega)
      rcases List.mem_append.1 hx with hx | hx
      · exact hl.2 x hx
      · rw [List.mem_singleton.1 hx]; exact I4 (Z3 (ZL.Yl h))
    · rw [show decide ((i : Int) < (a0.ZO.length : Int)) = false by simpa using hv, cond_false]; exact hl
theorem Qk {n : Nat} {a0 : ZL} {a1 : Zc} (h : Sm n a0) : Sm n (J7 a0 a1) :=
  Wa a0 a1 h _ [] 0 (Nat.zero_le _) ⟨Nat.zero_le _, fun x hx => by cases hx⟩ (by have z := Yv (ZL.Yl h); simp; omega)
theorem Wh {n : Nat} (a0 : ZL) (a1 : Zc) (h : Sm n a0) : ∀ (m : Nat) (l : List (List Int)) (i : Nat), i ≤ a0.ZO.length → Sm n l → l.length + (a0.ZO.length - i) ≤ n → Sm n (Q8 a0 a1 m l i)
  | 0, _, _, _, _, _ => ⟨Nat.zero_le _, fun x hx => by cases hx⟩
  | m + 1, l, i, hi, hl, hk => by
    simp only [Q8]
    by_cases hv : i < a0.ZO.length
    · rw [show decide ((i : Int) < (a0.ZO.length : Int)) = true by simpa using hv, cond_true]
      refine Wh a0 a1 h m _ (i + 1) hv ⟨by simp; omega, fun x hx => ?_⟩ (by simp; omega)
      rcases List.mem_append.1 hx with hx | hx
      · exact hl.2 x hx
      · rw [List.mem_singleton.1 hx]; exact I3 (Z3 (ZL.Yl h))
    · rw [show decide ((i : Int) < (a0.ZO.length : Int)) = false by simpa using hv, cond_false]; exact hl
theorem Qi {n : Nat} {a0 : ZL} {a1 : Zc} (h : Sm n a0) : Sm n (J2 a0 a1) :=
  Wh a0 a1 h _ [] 0 (Nat.zero_le _) ⟨Nat.zero_le _, fun x hx => by cases hx⟩ (by have z := Yv (ZL.Yl h); simp; omega)
theorem C7 {K z : Nat} {l : List ZD} {p : ZD} (hl : Sm K l) (hp : Sm K p) (hk : l.length + 1 ≤ K) : Sm K ((l.take z ++ [p]) ++ (l.drop z).take (l.length - z)) ∧ ((l.take z ++ [p]) ++ (l.drop z).take (l.length - z)).length ≤ l.length + 1 := by
  have h : ((l.take z ++ [p]) ++ (l.drop z).take (l.length - z)).length ≤ l.length + 1 := by simp; omega
  refine ⟨⟨Nat.le_trans h hk, fun x hx => ?_⟩, h⟩
  simp only [List.mem_append, List.mem_singleton] at hx
  rcases hx with (hx | rfl) | hx
  · exact hl.2 x (List.mem_of_mem_take hx)
  · exact hp
  · exact hl.2 x (List.mem_of_mem_drop (List.mem_of_mem_take hx))
theorem qP {K : Nat} (a0 : ZI) (a1 : ZL) (a2 : List (List Int)) (v : Nat) (h : Sm K a1) : ∀ (n : Nat) (l : List ZD) (i : Nat), i ≤ (nth a1.ZO v).Zd.length → Sm K l → l.length + ((nth a1.ZO v).Zd.length - i) ≤ K → Sm K (QM a0 a1 a2 v n l i) ∧ (QM a0 a1 a2 v n l i).length ≤ l.length + ((nth a1.ZO v).Zd.length - i)
  | 0, _, _, _, _, _ => ⟨⟨Nat.zero_le _, fun x hx => by cases hx⟩, Nat.zero_le _⟩
  | n + 1, l, i, hi, hl, hk => by
    simp only [QM]
    by_cases hv : i < (nth a1.ZO v).Zd.length
    · rw [show decide ((i : Int) < ((nth a1.ZO v).Zd.length : Int)) = true by simpa using hv, cond_true]
      have hp : Sm K (nth (nth a1.ZO v).Zd i) := Z3 (ZP.Yy (Z3 (ZL.Yl h)))
      refine XU (p := fun (r : List ZD) => Sm K r ∧ r.length ≤ l.length + ((nth a1.ZO v).Zd.length - i)) ?_ ?_
      · obtain ⟨r1, r2⟩ := qP a0 a1 a2 v h n l (i + 1) hv hl (by omega)
        exact ⟨r1, by omega⟩
      · obtain ⟨q1, q2⟩ := C7 (z := KZ a1 v l i (l.length + 1) 0) hl hp (by omega)
        obtain ⟨r1, r2⟩ := qP a0 a1 a2 v h n _ (i + 1) hv q1 (by omega)
        exact ⟨r1, by omega⟩
    · rw [show decide ((i : Int) < ((nth a1.ZO v).Zd.length : Int)) = false by simpa using hv, cond_false]
      exact ⟨hl, Nat.le_add_right _ _⟩
theorem W8 {K : Nat} (a0 : ZI) (a1 : ZL) (a2 : List (List Int)) (h : Sm K a1) : ∀ (n : Nat) (l : List ZD) (i : Nat), i ≤ a1.ZO.length → Sm K l → l.length + cnL (fun s : ZP => s.Zd.length) (a1.ZO.drop i) ≤ K → Sm K (JQ a0 a1 a2 n l i)
  | 0, _, _, _, _, _ => ⟨Nat.zero_le _, fun x hx => by cases hx⟩
  | n + 1, l, i, hi, hl, hk => by
    simp only [JQ]
    by_cases hv : i < a1.ZO.length
    · rw [show decide ((i : Int) < (a1.ZO.length : Int)) = true by simpa using hv, cond_true]
      have hd := I8 hv
      obtain ⟨r1, r2⟩ := qP a0 a1 a2 i h ((nth a1.ZO i).Zd.length + 1) l 0 (Nat.zero_le _) hl (by omega)
      exact W8 a0 a1 a2 h n _ (i + 1) hv r1 (by omega)
    · rw [show decide ((i : Int) < (a1.ZO.length : Int)) = false by simpa using hv, cond_false]; exact hl
theorem ZR {K : Nat} {a0 : ZI} {a1 : ZL} {a2 : List (List Int)} (h : Sm K a1) (hp : BL a1 ≤ 2097152) (hk : 2097152 ≤ K) : Sm K (Zr a0 a1 a2) :=
  W8 a0 a1 a2 h _ [] 0 (Nat.zero_le _) ⟨Nat.zero_le _, fun x hx => by cases hx⟩ (by rw [List.drop_zero]; simp only [List.length_nil]; exact Nat.le_trans (by rw [Nat.zero_add]; exact hp) hk)
theorem LA {α β : Type} [Inhabited α] {as : List α} (c : α → Bool) (g : α → β) {F : Nat → Nat → List β → List β} (h1 : ∀ n i l, F (n + 1) i l = bif decide ((i : Int) < (as.length : Int)) then (bif c (nth as i) then F n (i + 1) (l ++ [g (nth as i)]) else F n (i + 1) l) else l) (n i : Nat) (l : List β) (h : as.length < n + i) (h2 : i ≤ as.length) : F n i l = l ++ (as.drop i).flatMap (fun a => bif c a then [g a] else []) :=
  NY (fun a => bif c a then [g a] else []) (F := F) (fun n i l => by rw [h1]; cases decide ((i : Int) < (as.length : Int)) <;> simp only [Xf, Xg]; cases c (nth as i) <;> simp) n i l h h2
theorem Pw {α β : Type} (f : α → List β) (h : ∀ x, (f x).length ≤ 1) : ∀ l : List α, (l.flatMap f).length ≤ l.length
  | [] => Nat.zero_le _
  | x :: l => by have := Pw f h l; have := h x; simp only [List.flatMap_cons, List.length_append, List.length_cons]; omega
theorem FQ {α : Type} (c : Bool) (x : α) : (bif c then [x] else []).length ≤ 1 := by cases c <;> simp
theorem Ug (a0 : Zo) : Y2 a0 = a0.ZJ.flatMap (fun a => a.YM.flatMap (fun x => bif (JY a0 x.Id).Code == 1 then [x.Id] else [])) := by
  have h2 : ∀ v l, yH a0 v ((nth a0.ZJ v).YM.length + 1) l 0 = l ++ (nth a0.ZJ v).YM.flatMap (fun x => bif (JY a0 x.Id).Code == 1 then [x.Id] else []) := fun v l => by
    have := LA (as := (nth a0.ZJ v).YM) (fun x => (JY a0 x.Id).Code == 1) (fun x => x.Id) (F := fun n i l => yH a0 v n l i) (fun _ _ _ => rfl) ((nth a0.ZJ v).YM.length + 1) 0 l (by omega) (Nat.zero_le _)
    rw [this, List.drop_zero]
  have := NY (as := a0.ZJ) (fun a => a.YM.flatMap (fun x => bif (JY a0 x.Id).Code == 1 then [x.Id] else [])) (F := fun n i l => xh a0 n l i) (fun n i l => by simp only [xh, h2]) (a0.ZJ.length + 1) 0 [] (by omega) (Nat.zero_le _)
  unfold Y2
  rw [this]; rfl
theorem UU (a0 : Zo) : Zz a0 = (QN a0).flatMap (fun x => bif (zO a0 x.Id).Code == 1 then [x.Id] else []) := by
  have := LA (as := QN a0) (fun x => (zO a0 x.Id).Code == 1) (fun x => x.Id) (F := fun n i l => xT a0 n l i) (fun _ _ _ => rfl) ((QN a0).length + 1) 0 [] (by omega) (Nat.zero_le _)
  unfold Zz
  rw [this]; rfl
theorem kT (a0 : Zo) : (Zz a0).length ≤ itn a0.ZJ := by
  rw [UU, ← TM]; exact Pw _ (fun x => FQ _ _) _
theorem LJ (a0 : Zo) : (Y2 a0).length ≤ itn a0.ZJ := by
  rw [Ug, ← TM, Vs, ← List.flatMap_assoc]; exact Pw _ (fun x => FQ _ _) _
end Go.Mo
