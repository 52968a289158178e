/- Plain lemmas on the models of the helpers. No condition. -/
import Derived.Test.YtfhmpplolpejnaaGreatM
namespace Go.Mo
open Go.Vm
set_option linter.unusedSimpArgs false
set_option linter.unusedVariables false
theorem ZQx : ZAv QO := ZD4 (fun _ _ => trivial) (fun _ _ => rfl)
theorem ZQ5 : kG QO 0 := ZDv (fun _ => Nat.le_of_ble_eq_true rfl) (fun _ _ => rfl)
theorem ZHT : ZAv XX := ZD4 (fun _ _ => trivial) (fun _ _ => rfl)
theorem ZG7 : kG XX 0 := ZDv (fun _ => Nat.le_of_ble_eq_true rfl) (fun _ _ => rfl)
theorem ZLK : ZAv yU := ZD4 (fun _ _ => trivial) (fun _ _ => rfl)
theorem ZKz : kG yU 0 := ZDv (fun _ => Nat.le_of_ble_eq_true rfl) (fun _ _ => rfl)
theorem ZET : ZAv Zx := by
  intro a0 a1 hm h0 hn h
  unfold Zx at h ⊢
  by_cases c0 : (QO a0.Y3 a1) < 0
  · simp [c0] at h
  obtain ⟨s0, t0⟩ := ZQx a0.Y3 a1 (by simp [hm]) (by omega) (by omega) c0
  by_cases c1 : (XX a0.ZT (QO a0.Y3 a1)) < 0
  · simp [c1, c0] at h
  obtain ⟨s1, t1⟩ := ZHT a0.ZT (QO a0.Y3 a1) (by simp [hm]) (by omega) (by omega) c1
  by_cases c2 : (yU a0.Methods (XX a0.ZT (QO a0.Y3 a1))) < 0
  · simp [c2, c0, c1] at h
  obtain ⟨s2, t2⟩ := ZLK a0.Methods (XX a0.ZT (QO a0.Y3 a1)) (by simp [hm]) (by omega) (by omega) c2
  simp only [c0, c1, c2, decide_false, cond_false] at h ⊢
  exact ⟨⟨s0, s1, s2⟩, t2⟩
theorem ZHD : kG Zx 2 := by
  intro a0 a1 hm h0 hn h
  unfold Zx at h ⊢
  by_cases c0 : (QO a0.Y3 a1) < 0
  · simp [c0] at h
  obtain ⟨s0, t0⟩ := ZQ5 a0.Y3 a1 (by simp [hm]) (by omega) (by omega) c0
  by_cases c1 : (XX a0.ZT (QO a0.Y3 a1)) < 0
  · simp [c1, c0] at h
  obtain ⟨s1, t1⟩ := ZG7 a0.ZT (QO a0.Y3 a1) (by simp [hm]) (by omega) (by omega) c1
  by_cases c2 : (yU a0.Methods (XX a0.ZT (QO a0.Y3 a1))) < 0
  · simp [c2, c0, c1] at h
  obtain ⟨s2, t2⟩ := ZKz a0.Methods (XX a0.ZT (QO a0.Y3 a1)) (by simp [hm]) (by omega) (by omega) c2
  simp only [c0, c1, c2, decide_false, cond_false] at h ⊢
  simp only [ZFq, ZCl, ZD6, ZF.KR]
  omega
theorem ZKs : ZAv QA := ZH0 ZSx (G := qd) (fun _ _ _ _ => rfl) (fun _ _ => rfl)
theorem ZL3 : kG QA 0 := ZDy ZTU (by decide) (G := qd) (fun _ _ _ _ => rfl) (fun _ _ => rfl)
theorem je : ZAv Zv := ZD4 (fun _ _ => trivial) (fun _ _ => rfl)
theorem xr : kG Zv 0 := ZDv (fun _ => Nat.le_of_ble_eq_true rfl) (fun _ _ => rfl)
theorem ZJm : ZAv Xe := by
  intro a0 a1 hm h0 hn h
  unfold Xe at h ⊢
  by_cases c0 : (QA a0.Yx a1) < 0
  · simp [c0] at h
  obtain ⟨s0, t0⟩ := ZKs a0.Yx a1 (by simp [hm]) (by omega) (by omega) c0
  by_cases c1 : (Zv a0.Xl (QA a0.Yx a1)) < 0
  · simp [c1, c0] at h
  obtain ⟨s1, t1⟩ := je a0.Xl (QA a0.Yx a1) (by simp [hm]) (by omega) (by omega) c1
  simp only [c0, c1, decide_false, cond_false] at h ⊢
  exact ⟨⟨s0, s1⟩, t1⟩
theorem ZJr : kG Xe 1 := by
  intro a0 a1 hm h0 hn h
  unfold Xe at h ⊢
  by_cases c0 : (QA a0.Yx a1) < 0
  · simp [c0] at h
  obtain ⟨s0, t0⟩ := ZL3 a0.Yx a1 (by simp [hm]) (by omega) (by omega) c0
  by_cases c1 : (Zv a0.Xl (QA a0.Yx a1)) < 0
  · simp [c1, c0] at h
  obtain ⟨s1, t1⟩ := xr a0.Xl (QA a0.Yx a1) (by simp [hm]) (by omega) (by omega) c1
  simp only [c0, c1, decide_false, cond_false] at h ⊢
  simp only [ZFq, ZCl, ZD6, Zg.KR]
  omega
theorem ZO9 : ZAv jZ := by
  intro a0 a1 hm h0 hn h
  unfold jZ at h ⊢
  by_cases c0 : (Zv a0.Zb a1) < 0
  · simp [c0] at h
  obtain ⟨s0, t0⟩ := je a0.Zb a1 (by simp [hm]) (by omega) (by omega) c0
  simp only [c0, decide_false, cond_false] at h ⊢
  exact ⟨s0, t0⟩
theorem ZOv : kG jZ 2 := by
  intro a0 a1 hm h0 hn h
  unfold jZ at h ⊢
  by_cases c0 : (Zv a0.Zb a1) < 0
  · simp [c0] at h
  obtain ⟨s0, t0⟩ := xr a0.Zb a1 (by simp [hm]) (by omega) (by omega) c0
  simp only [c0, decide_false, cond_false] at h ⊢
  simp only [ZFq, ZCl, ZD6, ZB.KR]
  omega
theorem ZNd : ZAv Qc := ZH0 ZO9 (G := kC) (fun _ _ _ _ => rfl) (fun _ _ => rfl)
theorem ZNV : kG Qc 0 := ZDy ZOv (by decide) (G := kC) (fun _ _ _ _ => rfl) (fun _ _ => rfl)
theorem ZPu : ZAv JR := ZD4 (fun _ _ => trivial) (fun _ _ => rfl)
theorem ZPL : kG JR 0 := ZDv (fun _ => Nat.le_of_ble_eq_true rfl) (fun _ _ => rfl)
theorem ZNO : ZAv xO := ZD4 (fun _ _ => trivial) (fun _ _ => rfl)
theorem ZMq : kG xO 0 := ZDv (fun _ => Nat.le_of_ble_eq_true rfl) (fun _ _ => rfl)
theorem ZLb : ZAv yQ := by
  intro a0 a1 hm h0 hn h
  unfold yQ at h ⊢
  by_cases c0 : (JR a0.Path a1) < 0
  · simp [c0] at h
  obtain ⟨s0, t0⟩ := ZPu a0.Path a1 (by simp [hm]) (by omega) (by omega) c0
  by_cases c1 : (xO a0.Zi (JR a0.Path a1)) < 0
  · simp [c1, c0] at h
  obtain ⟨s1, t1⟩ := ZNO a0.Zi (JR a0.Path a1) (by simp [hm]) (by omega) (by omega) c1
  simp only [c0, c1, decide_false, cond_false] at h ⊢
  exact ⟨⟨s0, s1⟩, t1⟩
theorem ZK9 : kG yQ 3 := by
  intro a0 a1 hm h0 hn h
  unfold yQ at h ⊢
  by_cases c0 : (JR a0.Path a1) < 0
  · simp [c0] at h
  obtain ⟨s0, t0⟩ := ZPL a0.Path a1 (by simp [hm]) (by omega) (by omega) c0
  by_cases c1 : (xO a0.Zi (JR a0.Path a1)) < 0
  · simp [c1, c0] at h
  obtain ⟨s1, t1⟩ := ZMq a0.Zi (JR a0.Path a1) (by simp [hm]) (by omega) (by omega) c1
  simp only [c0, c1, decide_false, cond_false] at h ⊢
  simp only [ZFq, ZCl, ZD6, ZS.KR]
  omega
theorem ZJ3 : ZAv Kx := ZH0 ZLb (G := xv) (fun _ _ _ _ => rfl) (fun _ _ => rfl)
theorem ZKZ : kG Kx 0 := ZDy ZK9 (by decide) (G := xv) (fun _ _ _ _ => rfl) (fun _ _ => rfl)
theorem ZMo : ZAv zK := by
  intro a0 a1 hm h0 hn h
  unfold zK at h ⊢
  by_cases c0 : (Qc a0.ZZ a1) < 0
  · simp [c0] at h
  obtain ⟨s0, t0⟩ := ZNd a0.ZZ a1 (by simp [hm]) (by omega) (by omega) c0
  by_cases c1 : (Kx a0.ZR (Qc a0.ZZ a1)) < 0
  · simp [c1, c0] at h
  obtain ⟨s1, t1⟩ := ZJ3 a0.ZR (Qc a0.ZZ a1) (by simp [hm]) (by omega) (by omega) c1
  simp only [c0, c1, decide_false, cond_false] at h ⊢
  exact ⟨⟨s0, s1⟩, t1⟩
theorem ZNl : kG zK 0 := by
  intro a0 a1 hm h0 hn h
  unfold zK at h ⊢
  by_cases c0 : (Qc a0.ZZ a1) < 0
  · simp [c0] at h
  obtain ⟨s0, t0⟩ := ZNV a0.ZZ a1 (by simp [hm]) (by omega) (by omega) c0
  by_cases c1 : (Kx a0.ZR (Qc a0.ZZ a1)) < 0
  · simp [c1, c0] at h
  obtain ⟨s1, t1⟩ := ZKZ a0.ZR (Qc a0.ZZ a1) (by simp [hm]) (by omega) (by omega) c1
  simp only [c0, c1, decide_false, cond_false] at h ⊢
  simp only [ZFq, ZCl, ZD6, ZN.KR]
  omega
theorem ZI6 : ZAv xY := by
  intro a0 a1 hm h0 hn h
  unfold xY at h ⊢
  by_cases c0 : (Xe a0.Doc a1) < 0
  · simp [c0] at h
  obtain ⟨s0, t0⟩ := ZJm a0.Doc a1 (by simp [hm]) (by omega) (by omega) c0
  by_cases c1 : (zK a0.Y7 (Xe a0.Doc a1)) < 0
  · simp [c1, c0] at h
  obtain ⟨s1, t1⟩ := ZMo a0.Y7 (Xe a0.Doc a1) (by simp [hm]) (by omega) (by omega) c1
  simp only [c0, c1, decide_false, cond_false] at h ⊢
  exact ⟨⟨s0, s1⟩, t1⟩
theorem ZFs : kG xY 12 := by
  intro a0 a1 hm h0 hn h
  unfold xY at h ⊢
  by_cases c0 : (Xe a0.Doc a1) < 0
  · simp [c0] at h
  obtain ⟨s0, t0⟩ := ZJr a0.Doc a1 (by simp [hm]) (by omega) (by omega) c0
  by_cases c1 : (zK a0.Y7 (Xe a0.Doc a1)) < 0
  · simp [c1, c0] at h
  obtain ⟨s1, t1⟩ := ZNl a0.Y7 (Xe a0.Doc a1) (by simp [hm]) (by omega) (by omega) c1
  simp only [c0, c1, decide_false, cond_false] at h ⊢
  simp only [ZFq, ZCl, ZD6, Z3.KR, ZY.KR]
  omega
theorem YV (a0 : YC) : ZKq a0 = a0 := by cases a0; simp [ZKq]
theorem YK (a0 : List YC) : ZLu a0 = a0 := qy (F := ZD8 a0) (g := (fun x => x)) (fun _ => rfl) (fun _ _ _ => rfl) _ 0 _ (by simp) (by omega) (by omega) (fun j h => by omega)
theorem Zf (a0 : ZE) : ZAD a0 = a0 := by cases a0; simp [ZAD]
theorem Zd (a0 : List ZE) : ZBi a0 = a0 := qy (F := qF a0) (g := (fun x => x)) (fun _ => rfl) (fun _ _ _ => rfl) _ 0 _ (by simp) (by omega) (by omega) (fun j h => by omega)
theorem Zp (a0 : Zl) : ZEW a0 = a0 := by cases a0; simp [ZEW]
theorem Zn (a0 : List Zl) : ZE0 a0 = a0 := qy (F := ZAH a0) (g := (fun x => x)) (fun _ => rfl) (fun _ _ _ => rfl) _ 0 _ (by simp) (by omega) (by omega) (fun j h => by omega)
theorem Z7 (a0 : ZF) : ZF5 a0 = a0 := by cases a0; simp [ZF5]
theorem Zm (a0 : List ByteArray) : ZFw a0 = a0 := qy (F := ZAC a0) (g := (fun x => x)) (fun _ => rfl) (fun _ _ _ => rfl) _ 0 _ (by simp) (by omega) (by omega) (fun j h => by omega)
theorem YJ (a0 : List Int) : ZLo a0 = a0 := qy (F := ZD5 a0) (g := (fun x => x)) (fun _ => rfl) (fun _ _ _ => rfl) _ 0 _ (by simp) (by omega) (by omega) (fun j h => by omega)
theorem Zk (a0 : Zg) : ZBM a0 = a0 := by cases a0; simp [ZBM]
theorem Ze (a0 : ZY) : ZAJ a0 = a0 := by cases a0; simp [ZAJ]
theorem Z6 (a0 : ZB) : ZF2 a0 = a0 := by cases a0; simp [ZF2]
theorem Zq (a0 : List ZB) : ZGi a0 = a0 := qy (F := ZBL a0) (g := (fun x => x)) (fun _ => rfl) (fun _ _ _ => rfl) _ 0 _ (by simp) (by omega) (by omega) (fun j h => by omega)
theorem YI (a0 : XG) : ZHk a0 = a0 := by cases a0; simp [ZHk]
theorem Z4 (a0 : List XG) : ZIc a0 = a0 := qy (F := ZCK a0) (g := (fun x => x)) (fun _ => rfl) (fun _ _ _ => rfl) _ 0 _ (by simp) (by omega) (by omega) (fun j h => by omega)
theorem Z8 (a0 : Za) : ZF0 a0 = a0 := by cases a0; simp [ZF0]
theorem Zr (a0 : List Za) : ZGm a0 = a0 := qy (F := ZBP a0) (g := (fun x => x)) (fun _ => rfl) (fun _ _ _ => rfl) _ 0 _ (by simp) (by omega) (by omega) (fun j h => by omega)
theorem Zo (a0 : ZS) : ZCJ a0 = a0 := by cases a0; simp [ZCJ]
theorem Zj (a0 : List ZS) : ZD1 a0 = a0 := qy (F := kI a0) (g := (fun x => x)) (fun _ => rfl) (fun _ _ _ => rfl) _ 0 _ (by simp) (by omega) (by omega) (fun j h => by omega)
theorem Zs (a0 : ZN) : ZDu a0 = a0 := by cases a0; simp [ZDu]
theorem YL (a0 : Z3) : ZH8 a0 = a0 := by cases a0; simp [ZH8]
theorem ZPO (a0 : ZB) : ZIK a0 = a0 := rfl
theorem ZPz (a0 : List ZB) : ZG3 a0 = a0 := by
  have h := ZFy (F := (ZEF a0)) (a := a0) (g := (fun x => x)) (fun _ => rfl) (fun _ _ _ => rfl) (a0.length + 1) [] 0 (by omega) (by omega)
  simp only [List.nil_append, List.drop_zero] at h
  unfold ZG3
  rw [h]
theorem ZPi (a0 : ZS) : ZIR a0 = a0 := rfl
theorem ZOY (a0 : ZN) : ZF1 a0 = a0 := by
  have h := ZFy (F := (fun n v i => ZCU a0 n i v)) (a := a0.ZR) (g := (fun x => x)) (fun _ => rfl) (fun _ _ _ => rfl) (a0.ZR.length + 1) [] 0 (by omega) (by omega)
  simp only [List.nil_append, List.drop_zero] at h
  unfold ZF1
  rw [h]
theorem J2 (a0 : List YC) (a1 : Int) : Y0 a0 a1 < (a0.length : Int) := ZCg (F := jQ a0 a1) (c := fun v1_0 => ((nth a0 v1_0).Number == a1)) (fun _ => rfl) (fun _ _ => rfl) _ _
theorem yX (a0 : List ZE) (a1 : Int) : YM a0 a1 < (a0.length : Int) := ZCg (F := JX a0 a1) (c := fun v1_0 => ((nth a0 v1_0).Id == a1)) (fun _ => rfl) (fun _ _ => rfl) _ _
theorem ZKF (a0 : List Zl) (a1 : Int) : Kz a0 a1 < (a0.length : Int) := ZCg (F := zX a0 a1) (c := fun v1_0 => ((nth a0 v1_0).Id == a1)) (fun _ => rfl) (fun _ _ => rfl) _ _
theorem ZNW (a0 : List Int) : ZGc a0 = a0 := rfl
theorem ZK5 (a0 : ZB) : ZE8 a0 = a0 := rfl
theorem ZJh (a0 : List ZB) : ZBE a0 = a0 := by
  have h := ZFy (F := (kO a0)) (a := a0) (g := (fun x => x)) (fun _ => rfl) (fun _ _ _ => rfl) (a0.length + 1) [] 0 (by omega) (by omega)
  simp only [List.nil_append, List.drop_zero] at h
  unfold ZBE
  rw [h]
theorem ZKg (a0 : List Za) : ZEY a0 = a0 := rfl
theorem ZIa (a0 : ZS) : ZC5 a0 = a0 := rfl
theorem ZJn (a0 : ZN) : ZBB a0 = a0 := by
  have h := ZFy (F := (fun n v i => kU a0 n i v)) (a := a0.ZR) (g := (fun x => x)) (fun _ => rfl) (fun _ _ _ => rfl) (a0.ZR.length + 1) [] 0 (by omega) (by omega)
  simp only [List.nil_append, List.drop_zero] at h
  unfold ZBB
  rw [h]
theorem kT (a0 : List YC) (a1 : Int) : Y5 a0 a1 < (a0.length : Int) := ZCg (F := jO a0 a1) (c := fun v1_0 => ((nth a0 v1_0).Number == a1)) (fun _ => rfl) (fun _ _ => rfl) _ _
theorem yb (a0 : List ZE) (a1 : Int) : YP a0 a1 < (a0.length : Int) := ZCg (F := JZ a0 a1) (c := fun v1_0 => ((nth a0 v1_0).Id == a1)) (fun _ => rfl) (fun _ _ => rfl) _ _
theorem ZJ4 (a0 : List Zl) (a1 : Int) : Kv a0 a1 < (a0.length : Int) := ZCg (F := z3 a0 a1) (c := fun v1_0 => ((nth a0 v1_0).Id == a1)) (fun _ => rfl) (fun _ _ => rfl) _ _
theorem qE (a0 : YC) : ZF6 a0 a0 = true := by simp [ZF6]
theorem y2 (a0 : List YC) : ZFi a0 a0 = true := by
  unfold ZFi
  rw [jA (F := ZEK a0 a0) (L := a0.length) (c := fun v1_0 => (!(ZF6 (nth a0 v1_0) (nth a0 v1_0)))) (fun i => by simp [qE]) (fun _ => rfl) (fun _ _ => rfl)]
  simp
theorem Qu (a0 : ZE) : y9 a0 a0 = true := by simp [y9]
theorem Qj (a0 : List ZE) : xN a0 a0 = true := by
  unfold xN
  rw [jA (F := qH a0 a0) (L := a0.length) (c := fun v1_0 => (!(y9 (nth a0 v1_0) (nth a0 v1_0)))) (fun i => by simp [Qu]) (fun _ => rfl) (fun _ _ => rfl)]
  simp
theorem Kk (a0 : Zl) : kc a0 a0 = true := by simp [kc]
theorem KH (a0 : List Zl) : ZAm a0 a0 = true := by
  unfold ZAm
  rw [jA (F := ZAN a0 a0) (L := a0.length) (c := fun v1_0 => (!(kc (nth a0 v1_0) (nth a0 v1_0)))) (fun i => by simp [Kk]) (fun _ => rfl) (fun _ _ => rfl)]
  simp
theorem z7 (a0 : ZF) : km a0 a0 = true := by simp [km, Qj, y2, KH]
theorem KE (a0 : List ByteArray) : ZAR a0 a0 = true := by
  unfold ZAR
  rw [jA (F := ZAG a0 a0) (L := a0.length) (c := fun v1_0 => (!decide ((nth a0 v1_0) = (nth a0 v1_0)))) (fun i => by simp) (fun _ => rfl) (fun _ _ => rfl)]
  simp
theorem J6 (a0 : List Int) : qY a0 a0 = true := by
  unfold qY
  rw [jA (F := ZEO a0 a0) (L := a0.length) (c := fun v1_0 => ((nth a0 v1_0) != (nth a0 v1_0))) (fun i => by simp) (fun _ => rfl) (fun _ _ => rfl)]
  simp
theorem JW (a0 : Zg) : jv a0 a0 = true := by simp [jv, J6, KE]
theorem Qw (a0 : ZY) : qm a0 a0 = true := by simp [qm]
theorem zf (a0 : ZB) : ZBU a0 a0 = true := by simp [ZBU, J6]
theorem Km (a0 : List ZB) : ZBu a0 a0 = true := by
  unfold ZBu
  rw [jA (F := ZBK a0 a0) (L := a0.length) (c := fun v1_0 => (!(ZBU (nth a0 v1_0) (nth a0 v1_0)))) (fun i => by simp [zf]) (fun _ => rfl) (fun _ _ => rfl)]
  simp
theorem y7 (a0 : XG) : ZDa a0 a0 = true := by simp [ZDa]
theorem yE (a0 : List XG) : ZDp a0 a0 = true := by
  unfold ZDp
  rw [jA (F := ZCn a0 a0) (L := a0.length) (c := fun v1_0 => (!(ZDa (nth a0 v1_0) (nth a0 v1_0)))) (fun i => by simp [y7]) (fun _ => rfl) (fun _ _ => rfl)]
  simp
theorem zy (a0 : Za) : ZBS a0 a0 = true := by simp [ZBS]
theorem Ki (a0 : List Za) : ZB6 a0 a0 = true := by
  unfold ZB6
  rw [jA (F := ZBG a0 a0) (L := a0.length) (c := fun v1_0 => (!(ZBS (nth a0 v1_0) (nth a0 v1_0)))) (fun i => by simp [zy]) (fun _ => rfl) (fun _ _ => rfl)]
  simp
theorem KF (a0 : ZS) : jd a0 a0 = true := by simp [jd, Ki, yE]
theorem JU (a0 : List ZS) : kB a0 a0 = true := by
  unfold kB
  rw [jA (F := kM a0 a0) (L := a0.length) (c := fun v1_0 => (!(jd (nth a0 v1_0) (nth a0 v1_0)))) (fun i => by simp [KF]) (fun _ => rfl) (fun _ _ => rfl)]
  simp
theorem Kl (a0 : ZN) : ZBb a0 a0 = true := by simp [ZBb, Km, JU]
theorem y4 (a0 : Z3) : ZCF a0 a0 = true := by simp [ZCF, JW, Qw, Kl]
theorem ZPa : ZAv Ko := ZH0 ZI6 (G := jh) (fun _ _ _ _ => rfl) (fun _ _ => rfl)
theorem ZO0 : kG Ko 0 := ZDy ZFs (by decide) (G := jh) (fun _ _ _ _ => rfl) (fun _ _ => rfl)
theorem ZFp : ZAv Qn := by
  intro a0 a1 hm h0 hn h
  unfold Qn at h ⊢
  by_cases c0 : (Ko a0.Z5 a1) < 0
  · simp [c0] at h
  obtain ⟨s0, t0⟩ := ZPa a0.Z5 a1 (by simp [hm]) (by omega) (by omega) c0
  simp only [c0, decide_false, cond_false] at h ⊢
  exact ⟨s0, t0⟩
theorem ZMO : kG Qn 1 := by
  intro a0 a1 hm h0 hn h
  unfold Qn at h ⊢
  by_cases c0 : (Ko a0.Z5 a1) < 0
  · simp [c0] at h
  obtain ⟨s0, t0⟩ := ZO0 a0.Z5 a1 (by simp [hm]) (by omega) (by omega) c0
  simp only [c0, decide_false, cond_false] at h ⊢
  simp only [ZFq, ZCl, ZD6, Zc.KR]
  omega
theorem YY (a0 : List Z3) : ZID a0 = a0 := qy (F := ZCa a0) (g := (fun x => x)) (fun _ => rfl) (fun _ _ _ => rfl) _ 0 _ (by simp) (by omega) (by omega) (fun j h => by omega)
theorem YF (a0 : Zc) : ZCP a0 = a0 := by cases a0; simp [ZCP]
theorem yF (a0 : List Z3) : ZDR a0 a0 = true := by
  unfold ZDR
  rw [jA (F := ZCk a0 a0) (L := a0.length) (c := fun v1_0 => (!(ZCF (nth a0 v1_0) (nth a0 v1_0)))) (fun i => by simp [y4]) (fun _ => rfl) (fun _ _ => rfl)]
  simp
theorem KG (a0 : Zc) : xn a0 a0 = true := by simp [xn, yF]
theorem ZPS : ZAv YW := ZD4 (fun _ _ => trivial) (fun _ _ => rfl)
theorem ZHy : kG YW 0 := ZDv (fun _ => Nat.le_of_ble_eq_true rfl) (fun _ _ => rfl)
theorem ZJl : ZAv Ya := ZH0 ZFp (G := yD) (fun _ _ _ _ => rfl) (fun _ _ => rfl)
theorem ZJ9 : kG Ya 0 := ZDy ZMO (by decide) (G := yD) (fun _ _ _ _ => rfl) (fun _ _ => rfl)
theorem ZDx : ZAv Qx := by
  intro a0 a1 hm h0 hn h
  unfold Qx at h ⊢
  by_cases c0 : (Zx a0.Frame a1) < 0
  · simp [c0] at h
  obtain ⟨s0, t0⟩ := ZET a0.Frame a1 (by simp [hm]) (by omega) (by omega) c0
  by_cases c1 : (YW a0.Xg (Zx a0.Frame a1)) < 0
  · simp [c1, c0] at h
  obtain ⟨s1, t1⟩ := ZPS a0.Xg (Zx a0.Frame a1) (by simp [hm]) (by omega) (by omega) c1
  by_cases c2 : (Zv a0.XH (YW a0.Xg (Zx a0.Frame a1))) < 0
  · simp [c2, c0, c1] at h
  obtain ⟨s2, t2⟩ := je a0.XH (YW a0.Xg (Zx a0.Frame a1)) (by simp [hm]) (by omega) (by omega) c2
  by_cases c3 : (Ya a0.ZH (Zv a0.XH (YW a0.Xg (Zx a0.Frame a1)))) < 0
  · simp [c3, c0, c1, c2] at h
  obtain ⟨s3, t3⟩ := ZJl a0.ZH (Zv a0.XH (YW a0.Xg (Zx a0.Frame a1))) (by simp [hm]) (by omega) (by omega) c3
  by_cases c4 : (Zv a0.kX (Ya a0.ZH (Zv a0.XH (YW a0.Xg (Zx a0.Frame a1))))) < 0
  · simp [c4, c0, c1, c2, c3] at h
  obtain ⟨s4, t4⟩ := je a0.kX (Ya a0.ZH (Zv a0.XH (YW a0.Xg (Zx a0.Frame a1)))) (by simp [hm]) (by omega) (by omega) c4
  by_cases c5 : (Zv a0.xU (Zv a0.kX (Ya a0.ZH (Zv a0.XH (YW a0.Xg (Zx a0.Frame a1)))))) < 0
  · simp [c5, c0, c1, c2, c3, c4] at h
  obtain ⟨s5, t5⟩ := je a0.xU (Zv a0.kX (Ya a0.ZH (Zv a0.XH (YW a0.Xg (Zx a0.Frame a1))))) (by simp [hm]) (by omega) (by omega) c5
  by_cases c6 : (Zv a0.KW (Zv a0.xU (Zv a0.kX (Ya a0.ZH (Zv a0.XH (YW a0.Xg (Zx a0.Frame a1))))))) < 0
  · simp [c6, c0, c1, c2, c3, c4, c5] at h
  obtain ⟨s6, t6⟩ := je a0.KW (Zv a0.xU (Zv a0.kX (Ya a0.ZH (Zv a0.XH (YW a0.Xg (Zx a0.Frame a1)))))) (by simp [hm]) (by omega) (by omega) c6
  simp only [c0, c1, c2, c3, c4, c5, c6, decide_false, cond_false] at h ⊢
  exact ⟨⟨s0, s1, s2, s3, s4, s5, s6⟩, t6⟩
theorem ZBC : kG Qx 3 := by
  intro a0 a1 hm h0 hn h
  unfold Qx at h ⊢
  by_cases c0 : (Zx a0.Frame a1) < 0
  · simp [c0] at h
  obtain ⟨s0, t0⟩ := ZHD a0.Frame a1 (by simp [hm]) (by omega) (by omega) c0
  by_cases c1 : (YW a0.Xg (Zx a0.Frame a1)) < 0
  · simp [c1, c0] at h
  obtain ⟨s1, t1⟩ := ZHy a0.Xg (Zx a0.Frame a1) (by simp [hm]) (by omega) (by omega) c1
  by_cases c2 : (Zv a0.XH (YW a0.Xg (Zx a0.Frame a1))) < 0
  · simp [c2, c0, c1] at h
  obtain ⟨s2, t2⟩ := xr a0.XH (YW a0.Xg (Zx a0.Frame a1)) (by simp [hm]) (by omega) (by omega) c2
  by_cases c3 : (Ya a0.ZH (Zv a0.XH (YW a0.Xg (Zx a0.Frame a1)))) < 0
  · simp [c3, c0, c1, c2] at h
  obtain ⟨s3, t3⟩ := ZJ9 a0.ZH (Zv a0.XH (YW a0.Xg (Zx a0.Frame a1))) (by simp [hm]) (by omega) (by omega) c3
  by_cases c4 : (Zv a0.kX (Ya a0.ZH (Zv a0.XH (YW a0.Xg (Zx a0.Frame a1))))) < 0
  · simp [c4, c0, c1, c2, c3] at h
  obtain ⟨s4, t4⟩ := xr a0.kX (Ya a0.ZH (Zv a0.XH (YW a0.Xg (Zx a0.Frame a1)))) (by simp [hm]) (by omega) (by omega) c4
  by_cases c5 : (Zv a0.xU (Zv a0.kX (Ya a0.ZH (Zv a0.XH (YW a0.Xg (Zx a0.Frame a1)))))) < 0
  · simp [c5, c0, c1, c2, c3, c4] at h
  obtain ⟨s5, t5⟩ := xr a0.xU (Zv a0.kX (Ya a0.ZH (Zv a0.XH (YW a0.Xg (Zx a0.Frame a1))))) (by simp [hm]) (by omega) (by omega) c5
  by_cases c6 : (Zv a0.KW (Zv a0.xU (Zv a0.kX (Ya a0.ZH (Zv a0.XH (YW a0.Xg (Zx a0.Frame a1))))))) < 0
  · simp [c6, c0, c1, c2, c3, c4, c5] at h
  obtain ⟨s6, t6⟩ := xr a0.KW (Zv a0.xU (Zv a0.kX (Ya a0.ZH (Zv a0.XH (YW a0.Xg (Zx a0.Frame a1)))))) (by simp [hm]) (by omega) (by omega) c6
  simp only [c0, c1, c2, c3, c4, c5, c6, decide_false, cond_false] at h ⊢
  simp only [ZFq, ZCl, ZD6, YD.KR]
  omega
theorem XO (a0 : YH) : ZHv a0 = a0 := by cases a0; simp [ZHv]
theorem XD (a0 : List YH) : ZIH a0 = a0 := qy (F := ZCe a0) (g := (fun x => x)) (fun _ => rfl) (fun _ _ _ => rfl) _ 0 _ (by simp) (by omega) (by omega) (fun j h => by omega)
theorem Yk (a0 : List Zc) : ZD9 a0 = a0 := qy (F := jn a0) (g := (fun x => x)) (fun _ => rfl) (fun _ _ _ => rfl) _ 0 _ (by simp) (by omega) (by omega) (fun j h => by omega)
theorem XE (a0 : YD) : ZF8 a0 = a0 := by cases a0; simp [ZF8]
theorem ZNh (a0 : Zc) (a1 : Int) : xR a0 a1 < (a0.Z5.length : Int) := ZCg (F := qM a0 a1) (c := fun v1_0 => ((nth a0.Z5 v1_0).Id == a1)) (fun _ => rfl) (fun _ _ => rfl) _ _
theorem ZMz (a0 : Zc) (a1 : Int) : xK a0 a1 < (a0.Z5.length : Int) := ZCg (F := qC a0 a1) (c := fun v1_0 => ((nth a0.Z5 v1_0).Id == a1)) (fun _ => rfl) (fun _ _ => rfl) _ _
theorem xA (a0 : ZD) : ZE9 a0 a0 = true := by simp [ZE9]
theorem z6 (a0 : Yf) : ZAQ a0 a0 = true := by simp [ZAQ, xA]
theorem y3 (a0 : YH) : ZDs a0 a0 = true := by simp [ZDs]
theorem zt (a0 : List YH) : ZDl a0 a0 = true := by
  unfold ZDl
  rw [jA (F := ZCN a0 a0) (L := a0.length) (c := fun v1_0 => (!(ZDs (nth a0 v1_0) (nth a0 v1_0)))) (fun i => by simp [y3]) (fun _ => rfl) (fun _ _ => rfl)]
  simp
theorem JS (a0 : List Zc) : kR a0 a0 = true := by
  unfold kR
  rw [jA (F := kH a0 a0) (L := a0.length) (c := fun v1_0 => (!(xn (nth a0 v1_0) (nth a0 v1_0)))) (fun i => by simp [KG]) (fun _ => rfl) (fun _ _ => rfl)]
  simp
theorem xd (a0 : YD) : kb a0 a0 = true := by simp [kb, JS, zt, z7, J6]
theorem ZB5 : ∀ (n : Nat) (v : ByteArray) (x : Int), (Q7 n v x).size ≤ v.size + n
  | 0, v, x => by show (default : ByteArray).size ≤ _; exact Nat.zero_le _
  | n + 1, v, x => by
    simp only [Q7]
    cases (x != 0) with
    | false => simp
    | true =>
      simp only [cond_true]
      cases decide (x.tmod 10 < 0) <;> simp only [cond_true, cond_false] <;> refine Nat.le_trans (ZB5 n _ _) ?_ <;> simp <;> omega
theorem YX (a0 : Int) : (XT a0).size ≤ 24 := by
  unfold XT
  have h := ZB5 22 (⟨#[]⟩ : ByteArray) a0
  simp only [ZU9, List.size_toArray, List.length_nil] at h
  cases (a0 == 0) with
  | true => simp
  | false =>
    simp only [cond_false]
    cases decide (a0 < 0) <;> simp <;> omega
theorem jz : ∀ (n : Nat) (x : Int) (l : List UInt8), (KC n x l).length ≤ l.length + n
  | 0, x, l => by show (default : List UInt8).length ≤ _; exact Nat.zero_le _
  | n + 1, x, l => by
    simp only [KC]
    cases decide (x.tmod 10 < 0) <;> simp only [cond_true, cond_false] <;> cases (W (x.tdiv 10) == 0) <;> simp only [cond_true, cond_false]
    · refine Nat.le_trans (jz n _ _) ?_; simp; omega
    · simp
    · refine Nat.le_trans (jz n _ _) ?_; simp; omega
    · simp
theorem Y8 (a0 : Int) : (XJ a0).size ≤ 24 := by
  unfold XJ
  have h := jz 21 a0 []
  simp only [List.length_nil] at h
  cases decide (a0 < 0) <;> simp <;> omega
theorem ZNN {n : Nat} {x : YH} (h : 7 ≤ n) : Sm n (ya x) := ⟨by simp [ya]; omega, fun _ _ => trivial⟩
@[simp] theorem ZTu (x : YH) : (ya x).length = 7 := rfl
theorem ZNG {n : Nat} {x : YH} (h : 7 ≤ n) : Sm n (yn x) := ⟨by simp [yn]; omega, fun _ _ => trivial⟩
@[simp] theorem ZUj (x : YH) : (yn x).length = 7 := rfl
theorem ZKt {n : Nat} {x : Za} (h : 5 ≤ n) : Sm n (JN x) := ⟨by simp [JN]; omega, fun _ _ => trivial⟩
@[simp] theorem ZTb (x : Za) : (JN x).length = 5 := rfl
theorem ZME {n : Nat} {x : Za} (h : 5 ≤ n) : Sm n (Ql x) := ⟨by simp [Ql]; omega, fun _ _ => trivial⟩
@[simp] theorem ZTe (x : Za) : (Ql x).length = 5 := rfl
theorem ZB8 {n : Nat} {x : ZY} (h : 9 ≤ n) : Sm n (Xv x) := ⟨by simp [Xv]; omega, fun _ _ => trivial⟩
@[simp] theorem ZRN (x : ZY) : (Xv x).length = 9 := rfl
theorem ZB2 {n : Nat} {x : ZY} (h : 9 ≤ n) : Sm n (Xx x) := ⟨by simp [Xx]; omega, fun _ _ => trivial⟩
@[simp] theorem ZRM (x : ZY) : (Xx x).length = 9 := rfl
theorem ZId {n : Nat} {x : Z1} (h : 6 ≤ n) : Sm n (JE x) := ⟨by simp [JE]; omega, fun _ _ => trivial⟩
@[simp] theorem ZSl (x : Z1) : (JE x).length = 6 := rfl
theorem ZIu {n : Nat} {x : Z1} (h : 6 ≤ n) : Sm n (JH x) := ⟨by simp [JH]; omega, fun _ _ => trivial⟩
@[simp] theorem ZSI (x : Z1) : (JH x).length = 6 := rfl
theorem ZIZ {a : Zg} (h : yf a = true) : a.Xl.length = a.Yx.length := by
  unfold yf at h
  split at h
  · rename_i r e
    have : ∀ n v, zk a n v ≠ .inl true := by
      intro n
      induction n with
      | zero => intro v h; cases h
      | succ n ih =>
        intro v h
        rw [zk] at h
        generalize decide ((v : Int) < (a.Yx.length : Int)) = c1 at h
        cases c1 with
        | false => cases h
        | true =>
          simp only [cond_true] at h
          generalize decide (((nth a.Yx v).size : Int) > 40) = c2 at h
          cases c2 with
          | true => cases h
          | false => exact ih _ h
    subst h; exact absurd e (this _ _)
  · split at h
    · rename_i r e
      have : ∀ n v, zw a n v ≠ .inl true := by
        intro n
        induction n with
        | zero => intro v h; cases h
        | succ n ih =>
          intro v h
          rw [zw] at h
          generalize decide ((v : Int) < (a.Xl.length : Int)) = c1 at h
          cases c1 with
          | false => cases h
          | true =>
            simp only [cond_true] at h
            generalize (!YN (nth a.Xl v) 1 1000000000000) = c2 at h
            cases c2 with
            | true => cases h
            | false => exact ih _ h
      subst h; exact absurd e (this _ _)
    · simp only [Bool.and_eq_true, beq_iff_eq] at h; omega
theorem ZIy {a : Zg} (h : yj a = true) : a.Xl.length = a.Yx.length := by
  unfold yj at h
  generalize (match zW a (a.Yx.length + 1) 0 with | .inl r1 => r1 | .inr _ => true) = m at h
  by_cases hh : a.Xl.length = a.Yx.length
  · exact hh
  · rw [show ((a.Xl.length : Int) != (a.Yx.length : Int)) = true by simp; omega] at h
    simp at h
theorem ZEA (a0 : YD) (a1 : Int) (h : 0 ≤ (QZ a0 a1).1) : (QZ a0 a1).1.toNat < a0.ZH.length ∧ 0 ≤ (QZ a0 a1).2 ∧ (QZ a0 a1).2.toNat < (nth a0.ZH (QZ a0 a1).1.toNat).Z5.length := by
  have key : ∀ n v r, xV a0 a1 n v = .inl r → r.1.toNat < a0.ZH.length ∧ 0 ≤ r.2 ∧ r.2.toNat < (nth a0.ZH r.1.toNat).Z5.length := by
    intro n
    induction n with
    | zero => intro v r h; cases h
    | succ n ih =>
      intro v r h
      rw [xV] at h
      cases h1 : decide ((v : Int) < (a0.ZH.length : Int)) with
      | false => rw [h1] at h; cases h
      | true =>
        rw [h1] at h
        simp only [cond_true] at h
        cases h2 : decide (xR (nth a0.ZH v) a1 ≥ 0) with
        | false => rw [h2] at h; exact ih _ _ h
        | true =>
          rw [h2] at h; cases h
          simp at h1 h2
          have := ZNh (nth a0.ZH v) a1
          simp only [Int.toNat_natCast]
          exact ⟨h1, h2, by omega⟩
  unfold QZ at h ⊢
  cases hh : xV a0 a1 (a0.ZH.length + 1) 0 with
  | inl r => rw [hh] at h; exact key _ _ r hh
  | inr u => rw [hh] at h; simp at h
theorem ZD3 (a0 : YD) (a1 : Int) (h : 0 ≤ (QY a0 a1).1) : (QY a0 a1).1.toNat < a0.ZH.length ∧ 0 ≤ (QY a0 a1).2 ∧ (QY a0 a1).2.toNat < (nth a0.ZH (QY a0 a1).1.toNat).Z5.length := by
  have key : ∀ n v r, xH a0 a1 n v = .inl r → r.1.toNat < a0.ZH.length ∧ 0 ≤ r.2 ∧ r.2.toNat < (nth a0.ZH r.1.toNat).Z5.length := by
    intro n
    induction n with
    | zero => intro v r h; cases h
    | succ n ih =>
      intro v r h
      rw [xH] at h
      cases h1 : decide ((v : Int) < (a0.ZH.length : Int)) with
      | false => rw [h1] at h; cases h
      | true =>
        rw [h1] at h
        simp only [cond_true] at h
        cases h2 : decide (xK (nth a0.ZH v) a1 ≥ 0) with
        | false => rw [h2] at h; exact ih _ _ h
        | true =>
          rw [h2] at h; cases h
          simp at h1 h2
          have := ZMz (nth a0.ZH v) a1
          simp only [Int.toNat_natCast]
          exact ⟨h1, h2, by omega⟩
  unfold QY at h ⊢
  cases hh : xH a0 a1 (a0.ZH.length + 1) 0 with
  | inl r => rw [hh] at h; exact key _ _ r hh
  | inr u => rw [hh] at h; simp at h
theorem yW {a : Int} {n : Nat} (hn : n ≤ 9223372036854775807) (h : YN a 0 (W ((n : Int) - 1)) = true) : 0 ≤ a ∧ a < n := by
  rw [ZFZ n hn] at h
  simp only [YN, Bool.and_eq_true, decide_eq_true_eq] at h; omega
theorem Q8 {a : Int} {n : Nat} (hn : n ≤ 9223372036854775807) (h : ZW a 0 (W ((n : Int) - 1)) = true) : 0 ≤ a ∧ a < n := by
  rw [ZFZ n hn] at h
  simp only [ZW, Bool.and_eq_true, decide_eq_true_eq] at h; omega
@[simp] theorem ZUu (l : List UInt8) : (kv l).length = l.length := by
  have key : ∀ n (acc : List Int) v, l.length < n + v → v ≤ l.length → (xk l n acc v).length = acc.length + (l.length - v) := by
    intro n
    induction n with
    | zero => intro acc v h1 h2; omega
    | succ n ih =>
      intro acc v h1 h2
      rw [xk]
      by_cases hv : v < l.length
      · rw [show decide ((v : Int) < (l.length : Int)) = true by simpa using hv, cond_true, ih _ (v + 1) (by omega) (by omega)]
        simp; omega
      · rw [show decide ((v : Int) < (l.length : Int)) = false by simpa using hv, cond_false]; omega
  have := key (l.length + 1) [] 0 (by omega) (by omega)
  simpa [kv] using this
theorem ZJ0 {n : Nat} {a0 : ZN} {a1 : Zg} (h : Sm n a0) : Sm n (yV a0 a1) := by
  have key : ∀ n (acc : List Int) v, a0.ZR.length < n + v → v ≤ a0.ZR.length → (KP a0 a1 n acc v).length = acc.length + (a0.ZR.length - v) := by
    intro n
    induction n with
    | zero => intro acc v h1 h2; omega
    | succ n ih =>
      intro acc v h1 h2
      rw [KP]
      by_cases hv : v < a0.ZR.length
      · rw [show decide ((v : Int) < (a0.ZR.length : Int)) = true by simpa using hv, cond_true, ih _ (v + 1) (by omega) (by omega)]
        simp; omega
      · rw [show decide ((v : Int) < (a0.ZR.length : Int)) = false by simpa using hv, cond_false]; omega
  have h2 := key (a0.ZR.length + 1) [] 0 (by omega) (by omega)
  have h3 := Yw (ZN.QG h)
  refine ⟨?_, fun _ _ => trivial⟩
  unfold yV
  simp only [List.length_nil, Nat.zero_add, Nat.sub_zero] at h2
  rw [h2]; exact h3
theorem ZKT {n : Nat} {a0 : ZN} {a1 : Zg} (h : Sm n a0) : Sm n (K5 a0 a1) := by
  have key : ∀ n (acc : List Int) v, a0.ZR.length < n + v → v ≤ a0.ZR.length → (KU a0 a1 n acc v).length = acc.length + (a0.ZR.length - v) := by
    intro n
    induction n with
    | zero => intro acc v h1 h2; omega
    | succ n ih =>
      intro acc v h1 h2
      rw [KU]
      by_cases hv : v < a0.ZR.length
      · rw [show decide ((v : Int) < (a0.ZR.length : Int)) = true by simpa using hv, cond_true, ih _ (v + 1) (by omega) (by omega)]
        simp; omega
      · rw [show decide ((v : Int) < (a0.ZR.length : Int)) = false by simpa using hv, cond_false]; omega
  have h2 := key (a0.ZR.length + 1) [] 0 (by omega) (by omega)
  have h3 := Yw (ZN.QG h)
  refine ⟨?_, fun _ _ => trivial⟩
  unfold K5
  simp only [List.length_nil, Nat.zero_add, Nat.sub_zero] at h2
  rw [h2]; exact h3
theorem ZU (a0 : ZB) : (XV a0 = 101 → a0.Zb.length = 7) ∧ (XV a0 = 102 → a0.Zb.length = 5) ∧ (XV a0 = 103 → a0.Zb.length = 5) ∧ (XV a0 = 104 → a0.Zb.length = 9) ∧ (XV a0 = 105 → a0.Zb.length = 6) := by
  have key : ∀ v : Int, v ≠ 0 → XV a0 = v → nth a0.Zb 0 = v ∧ (a0.Zb.length : Int) = nth ([7, 5, 5, 9, 6] : List Int) (W (v - 101)).toNat := by
    intro v hv h
    unfold XV at h
    cases c0 : (((↑a0.Zb.length : Int) == 0) || (!(YN (nth a0.Zb 0) 101 105)))
    · rw [c0, cond_false] at h
      cases c1 : ((↑a0.Zb.length : Int) != (nth ([7, 5, 5, 9, 6] : List Int) (W ((nth a0.Zb 0) - 101)).toNat))
      · rw [c1, cond_false] at h
        simp only [bne_eq_false_iff_eq] at c1
        exact ⟨h, by rw [← h]; exact c1⟩
      · rw [c1, cond_true] at h; exact absurd h.symm hv
    · rw [c0, cond_true] at h; exact absurd h.symm hv
  refine ⟨fun h => ?_, fun h => ?_, fun h => ?_, fun h => ?_, fun h => ?_⟩ <;> (have := (key _ (by decide) h).2; simp [nth, J7] at this; omega)
theorem ZV (a0 : ZB) : (YB a0 = 101 → a0.Zb.length = 7) ∧ (YB a0 = 102 → a0.Zb.length = 5) ∧ (YB a0 = 103 → a0.Zb.length = 5) ∧ (YB a0 = 104 → a0.Zb.length = 9) ∧ (YB a0 = 105 → a0.Zb.length = 6) := by
  have key : ∀ v : Int, v ≠ 0 → YB a0 = v → nth a0.Zb 0 = v ∧ (a0.Zb.length : Int) = nth ([7, 5, 5, 9, 6] : List Int) (W (v - 101)).toNat := by
    intro v hv h
    unfold YB at h
    cases c1 : ((((↑a0.Zb.length : Int) == 0) || (!(ZW (nth a0.Zb 0) 101 105))) || ((↑a0.Zb.length : Int) != (nth ([7, 5, 5, 9, 6] : List Int) (W ((nth a0.Zb 0) - 101)).toNat)))
    · rw [c1, cond_false] at h
      simp only [Bool.or_eq_false_iff, bne_eq_false_iff_eq] at c1
      exact ⟨h, by rw [← h]; exact c1.2⟩
    · rw [c1, cond_true] at h; exact absurd h.symm hv
  refine ⟨fun h => ?_, fun h => ?_, fun h => ?_, fun h => ?_, fun h => ?_⟩ <;> (have := (key _ (by decide) h).2; simp [nth, J7] at this; omega)
theorem Yz {n : Nat} {x : ZY} (h : 9 ≤ n) : Sm n (XW x) := ZB8 h
theorem Y1 {n : Nat} {x : ZY} (h : 9 ≤ n) : Sm n (XY x) := ZB2 h
def itn (l : List Zc) : Nat := cnL (fun a => a.Z5.length) l
theorem ZG9 {l : List Zc} {i : Nat} (h : i < l.length) : itn (l.drop i) = (nth l i).Z5.length + itn (l.drop (i + 1)) := ZOG _ h
theorem ZE6 (a0 : YD) : X1 a0 = a0.ZH.flatMap (·.Z5) := by
  unfold X1
  have := ZDm (as := a0.ZH) (fun a => a.Z5) (F := fun n i l => ZCp a0 n l i) (fun _ _ _ => rfl) (a0.ZH.length + 1) 0 [] (by omega) (Nat.zero_le _)
  simpa using this
theorem ZNP (a0 : YD) : (X1 a0).length = itn a0.ZH := by rw [ZE6, ZL4]; rfl
theorem ZAM {a0 : YD} {a1 : Int} (hm : Sm maxLen a0) (h0 : 0 ≤ a1) (hn : a1 ≤ 1048576) (h : ¬ Qx a0 a1 < 0) : itn a0.ZH ≤ 1048576 := by
  have hI : @kG Z3 _ _ ⟨fun _ => 32⟩ xY 32 := fun a n hm h0 hn h => ⟨by have := (ZFs a n hm h0 hn h).2; show ((32 : Nat) : Int) ≤ _; omega, (ZFs a n hm h0 hn h).2⟩
  have hIS : @kG (List Z3) _ _ (@instCnList Z3 ⟨fun _ => 32⟩) Ko 0 := @ZDy Z3 _ _ ⟨fun _ => 32⟩ xY 32 hI (by decide) Ko jh (fun _ _ _ _ => rfl) (fun _ _ => rfl)
  have hA : @kG Zc _ _ ⟨fun a => 32 * a.Z5.length⟩ Qn 0 := by
    intro a n hm h0 hn h
    unfold Qn at h ⊢
    by_cases c0 : (Ko a.Z5 n) < 0
    · simp [c0] at h
    obtain ⟨s0, t0⟩ := hIS a.Z5 n (by simp [hm]) (by omega) (by omega) c0
    simp only [c0, decide_false, cond_false] at h ⊢
    refine ⟨?_, t0⟩
    have e : cnL (fun _ : Z3 => 32) a.Z5 = 32 * a.Z5.length := ZQn (fun _ => rfl) _
    have s1 : ((cnL (fun _ : Z3 => 32) a.Z5 : Nat) : Int) ≤ 32 * (n - Ko a.Z5 n) + (0 : Nat) := s0
    rw [e] at s1; exact s1
  have hAS : @kG (List Zc) _ _ (@instCnList Zc ⟨fun a => 32 * a.Z5.length⟩) Ya 0 := @ZDy Zc _ _ ⟨fun a => 32 * a.Z5.length⟩ Qn 0 hA (by decide) Ya yD (fun _ _ _ _ => rfl) (fun _ _ => rfl)
  unfold Qx at h
  by_cases c0 : (Zx a0.Frame a1) < 0
  · simp [c0] at h
  obtain ⟨_, t0⟩ := ZHD a0.Frame a1 (by simp [hm]) (by omega) (by omega) c0
  by_cases c1 : (YW a0.Xg (Zx a0.Frame a1)) < 0
  · simp [c1, c0] at h
  obtain ⟨_, t1⟩ := ZHy a0.Xg (Zx a0.Frame a1) (by simp [hm]) (by omega) (by omega) c1
  by_cases c2 : (Zv a0.XH (YW a0.Xg (Zx a0.Frame a1))) < 0
  · simp [c2, c0, c1] at h
  obtain ⟨_, t2⟩ := xr a0.XH (YW a0.Xg (Zx a0.Frame a1)) (by simp [hm]) (by omega) (by omega) c2
  by_cases c3 : (Ya a0.ZH (Zv a0.XH (YW a0.Xg (Zx a0.Frame a1)))) < 0
  · simp [c3, c0, c1, c2] at h
  obtain ⟨s3, t3⟩ := hAS a0.ZH (Zv a0.XH (YW a0.Xg (Zx a0.Frame a1))) (by simp [hm]) (by omega) (by omega) c3
  have s4 : ((cnL (fun a : Zc => 32 * a.Z5.length) a0.ZH : Nat) : Int) ≤ 32 * (Zv a0.XH (YW a0.Xg (Zx a0.Frame a1)) - Ya a0.ZH (Zv a0.XH (YW a0.Xg (Zx a0.Frame a1)))) + (0 : Nat) := s3
  have e : ∀ l : List Zc, cnL (fun a : Zc => 32 * a.Z5.length) l = 32 * itn l := by
    intro l; induction l with
    | nil => rfl
    | cons x l ih => show 32 * x.Z5.length + cnL _ l = 32 * (x.Z5.length + itn l); rw [ih]; omega
  rw [e] at s4
  omega
theorem ZDQ (a0 : ZF) (a1 : ZN) (a2 : List Int) : ∀ n v, zI a0 a1 a2 n v ≤ v
  | 0, _ => Nat.zero_le _
  | n + 1, v => by
    simp only [zI]
    exact Yy (p := fun r => r ≤ v) (Nat.le_trans (ZDQ a0 a1 a2 n (v - 1)) (Nat.sub_le _ _)) (Nat.le_refl _)
theorem ZJW (a0 : ZF) (a1 : ZN) (a2 : List Int) : 0 ≤ K4 a0 a1 a2 ∧ K4 a0 a1 a2 ≤ (a1.ZR.length : Int) := by
  have h := ZDQ a0 a1 a2 (a1.ZR.length + 1) a1.ZR.length
  simp only [K4]; omega
theorem ZDJ (a0 : ZF) (a1 : ZN) (a2 : List Int) : ∀ n v, zO a0 a1 a2 n v ≤ v
  | 0, _ => Nat.zero_le _
  | n + 1, v => by
    simp only [zO]
    exact Yy (p := fun r => r ≤ v) (Yy (p := fun r => r ≤ v) (Nat.le_refl _) (Nat.le_trans (ZDJ a0 a1 a2 n (v - 1)) (Nat.sub_le _ _))) (Nat.le_refl _)
theorem ZKO (a0 : ZF) (a1 : ZN) (a2 : List Int) : 0 ≤ K7 a0 a1 a2 ∧ K7 a0 a1 a2 ≤ (a1.ZR.length : Int) := by
  have h := ZDJ a0 a1 a2 (a1.ZR.length + 1) a1.ZR.length
  simp only [K7]; omega
theorem ZB3 (a0 : Int) : (JD a0).size ≤ 24 := by
  unfold JD
  exact Yy (p := fun r : ByteArray => r.size ≤ 24) (Nat.zero_le _) (ZMh (by decide) _)
theorem ZCb (a0 : Int) : (Ju a0).size ≤ 24 := by
  unfold Ju
  exact Yy (p := fun r : ByteArray => r.size ≤ 24) (Nat.zero_le _) (ZMh (by decide) _)
theorem ZAk (a0 : Yf) : (Je a0).size ≤ 200 := by
  have h1 := ZB3 a0.Code
  have h2 := ZCb a0.Reason
  have h3 := YX a0.Span.YQ
  have h4 := YX a0.Span.To
  have e1 : (⟨#[32]⟩ : ByteArray).size = 1 := rfl
  have e2 : (⟨#[45]⟩ : ByteArray).size = 1 := rfl
  unfold Je
  refine Yy (p := fun r : ByteArray => r.size ≤ 200) (Nat.zero_le _) (Yy (p := fun r : ByteArray => r.size ≤ 200) ?_ ?_) <;> simp only [ByteArray.size_append] <;> omega
theorem jI (a0 : Int) : (JG a0).size ≤ 24 := by
  unfold JG
  exact Yy (p := fun r : ByteArray => r.size ≤ 24) (Nat.zero_le _) (ZMh (by decide) _)
theorem kL (a0 : Int) : (J3 a0).size ≤ 24 := by
  unfold J3
  exact Yy (p := fun r : ByteArray => r.size ≤ 24) (Nat.zero_le _) (ZMh (by decide) _)
theorem ZAi (a0 : Yf) : (Ji a0).size ≤ 200 := by
  have h1 := jI a0.Code
  have h2 := kL a0.Reason
  have h3 := Y8 a0.Span.YQ
  have h4 := Y8 a0.Span.To
  have e1 : (⟨#[32]⟩ : ByteArray).size = 1 := rfl
  have e2 : (⟨#[45]⟩ : ByteArray).size = 1 := rfl
  unfold Ji
  refine Yy (p := fun r : ByteArray => r.size ≤ 200) (Nat.zero_le _) (Yy (p := fun r : ByteArray => r.size ≤ 200) ?_ ?_) <;> simp only [ByteArray.size_append] <;> omega
theorem ZC9 (a0 : List ZD) : ∀ (n : Nat) (l : List ZD) (i : Nat) (x y : Int), i ≤ a0.length → (jY a0 n l i x y).1.length ≤ l.length + (a0.length - i)
  | 0, _, _, _, _, _ => Nat.zero_le _
  | n + 1, l, i, x, y, hi => by
    simp only [jY]
    by_cases h : i < a0.length
    · rw [show decide ((i : Int) < (a0.length : Int)) = true by simpa using h, cond_true]
      refine Yy (p := fun (r : List ZD × Int × Int) => r.1.length ≤ l.length + (a0.length - i)) ?_ ?_
      · have := ZC9 a0 n (l ++ [nth a0 i]) (i + 1) x y h
        simp at this; omega
      · exact Nat.le_trans (ZC9 a0 n l (i + 1) _ _ h) (by omega)
    · rw [show decide ((i : Int) < (a0.length : Int)) = false by simpa using h, cond_false]; exact Nat.le_add_right _ _
theorem ZFC (a0 : List ZD) (a1 : ZD) : (ZEe a0 a1).length ≤ a0.length + 1 := by
  have h := ZC9 a0 (a0.length + 1) [] 0 a1.YQ a1.To (Nat.zero_le _)
  simp only [ZEe]
  simp at h ⊢
  omega
theorem ZAo (a0 : List ZD) : ∀ (n : Nat) (l : List ZD) (i : Nat), i ≤ a0.length → (yM a0 n l i).length ≤ l.length + (a0.length - i)
  | 0, _, _, _ => Nat.zero_le _
  | n + 1, l, i, hi => by
    simp only [yM]
    by_cases h : i < a0.length
    · rw [show decide ((i : Int) < (a0.length : Int)) = true by simpa using h, cond_true]
      refine Yy (p := fun (r : List ZD) => r.length ≤ l.length + (a0.length - i)) ?_ ?_
      · have h1 := ZAo a0 n (ZEe l (nth a0 i)) (i + 1) h
        have h2 := ZFC l (nth a0 i)
        omega
      · exact Nat.le_trans (ZAo a0 n l (i + 1) h) (by omega)
    · rw [show decide ((i : Int) < (a0.length : Int)) = false by simpa using h, cond_false]; exact Nat.le_add_right _ _
theorem qD {n : Nat} {a0 : List ZD} (h : Sm n a0) : Sm n (Xm a0) :=
  ⟨Nat.le_trans (ZAo a0 (a0.length + 1) [] 0 (Nat.zero_le _)) (by have := h.1; simp; omega), fun _ _ => trivial⟩
theorem ZAr (a0 : List ZD) : ∀ (n : Nat) (l : List ZD) (i : Nat) (x y : Int), i ≤ a0.length → (yK a0 n l i x y).1.length ≤ l.length + (a0.length - i)
  | 0, _, _, _, _, _ => Nat.zero_le _
  | n + 1, l, i, x, y, hi => by
    simp only [yK]
    by_cases h : i < a0.length
    · rw [show decide ((i : Int) < (a0.length : Int)) = true by simpa using h, cond_true]
      refine Yy (p := fun (r : List ZD × Int × Int) => r.1.length ≤ l.length + (a0.length - i)) ?_ ?_
      · have := ZAr a0 n (l ++ [nth a0 i]) (i + 1) x y h
        simp at this; omega
      · exact Nat.le_trans (ZAr a0 n l (i + 1) _ _ h) (by omega)
    · rw [show decide ((i : Int) < (a0.length : Int)) = false by simpa using h, cond_false]; exact Nat.le_add_right _ _
theorem ZA4 (a0 : List ZD) : ∀ (n : Nat) (l : List ZD) (i : Nat), i ≤ a0.length → (yI a0 n l i).length ≤ l.length + (a0.length - i)
  | 0, _, _, _ => Nat.zero_le _
  | n + 1, l, i, hi => by
    simp only [yI]
    by_cases h : i < a0.length
    · rw [show decide ((i : Int) < (a0.length : Int)) = true by simpa using h, cond_true]
      refine Yy (p := fun (r : List ZD) => r.length ≤ l.length + (a0.length - i)) (Nat.le_trans (ZA4 a0 n l (i + 1) h) (by omega)) ?_
      have h2 := ZAr l (l.length + 1) [] 0 (nth a0 i).YQ (nth a0 i).To (Nat.zero_le _)
      refine Nat.le_trans (ZA4 a0 n _ (i + 1) h) ?_
      simp at h2 ⊢
      omega
    · rw [show decide ((i : Int) < (a0.length : Int)) = false by simpa using h, cond_false]; exact Nat.le_add_right _ _
theorem qJ {n : Nat} {a0 : List ZD} (h : Sm n a0) : Sm n (XU a0) :=
  ⟨Nat.le_trans (ZA4 a0 (a0.length + 1) [] 0 (Nat.zero_le _)) (by have := h.1; simp; omega), fun _ _ => trivial⟩
theorem ZJ {n : Nat} {a0 : List ZD} {a1 a2 : Int} (h : Sm n a0) : Sm (n + 1) (XM a0 a1 a2) := by
  unfold XM
  refine Yy (p := fun r : List ZD => Sm (n + 1) r) (ZX (Nat.le_succ n) h) ⟨?_, fun _ _ => trivial⟩
  have := h.1
  simp; omega
theorem ZC {n : Nat} {a0 a1 : Int} {a2 : List ZD} (h : Sm n a2) : Sm (n + 1) (Zh a0 a1 a2) := by
  unfold Zh
  refine Yy (p := fun r : List ZD => Sm (n + 1) r) ⟨?_, fun _ _ => trivial⟩ (ZX (Nat.le_succ n) h)
  have := h.1
  simp; omega
theorem ZNE {n : Nat} {a0 : YH} {a1 : List Zy} (h : 3 ≤ n) : Sm n (xm a0 a1) := by
  have h0 : Sm 0 ([] : List ZD) := ⟨Nat.zero_le _, fun _ _ => trivial⟩
  unfold xm
  refine Yy (p := fun r : List ZD => Sm n r) (Yy (p := fun r : List ZD => Sm n r) ?_ ?_) (Yy (p := fun r : List ZD => Sm n r) ?_ ?_)
  · exact qD (ZX h (ZJ (ZJ (ZJ h0))))
  · exact qD (ZX (by omega) (ZJ (ZJ h0)))
  · exact qD (ZX (by omega) (ZJ (ZJ h0)))
  · exact qD (ZX (by omega) (ZJ h0))
theorem ZNf {n : Nat} {a0 : YH} {a1 : List Zy} (h : 3 ≤ n) : Sm n (xo a0 a1) := by
  have h0 : Sm 0 ([] : List ZD) := ⟨Nat.zero_le _, fun _ _ => trivial⟩
  unfold xo
  refine Yy (p := fun r : List ZD => Sm n r) (Yy (p := fun r : List ZD => Sm n r) ?_ ?_) (Yy (p := fun r : List ZD => Sm n r) ?_ ?_)
  · exact qJ (ZX h (ZC (ZC (ZC h0))))
  · exact qJ (ZX (by omega) (ZC (ZC h0)))
  · exact qJ (ZX (by omega) (ZC (ZC h0)))
  · exact qJ (ZX (by omega) (ZC h0))
theorem ZR3 {n : Nat} {c d : ZD} (h : 1 ≤ n) : Sm n (ZBW [c] [d]) := by
  show Sm n (Xm (bif (Kp c d).2 then [(Kp c d).1] else []))
  exact qD (Yy (p := fun r : List ZD => Sm n r) ⟨h, fun _ _ => trivial⟩ ⟨Nat.zero_le _, fun _ _ => trivial⟩)
theorem ZK1 {n : Nat} {a0 : YH} {a1 : List Zy} (h : 1 ≤ n) : Sm n (yL a0 a1) := by
  unfold yL
  exact Yy (p := fun r : List ZD => Sm n r) ⟨Nat.zero_le _, fun _ _ => trivial⟩ (ZR3 h)
theorem ZHi {n : Nat} {a0 : List YC} {a1 : List Z1} {a2 a3 : Int} (h : a1.length ≤ n) : Sm n (KS a0 a1 a2 a3) :=
  qD ⟨Nat.le_trans (ZDW (F := Qt a0 a1 a2 a3) (fun _ _ => rfl) (fun _ _ _ => rfl) (a1.length + 1) [] 0) (by simp; omega), fun _ _ => trivial⟩
theorem ZRe {n : Nat} {c d : ZD} (h : 1 ≤ n) : Sm n (ks [c] [d]) := by
  show Sm n (XU (bif (Qm c d).2 then [(Qm c d).1] else []))
  exact qJ (Yy (p := fun r : List ZD => Sm n r) ⟨h, fun _ _ => trivial⟩ ⟨Nat.zero_le _, fun _ _ => trivial⟩)
theorem ZMU {n : Nat} {a0 : YH} {a1 : List Zy} (h : 1 ≤ n) : Sm n (yN a0 a1) := by
  unfold yN
  exact ZRe h
theorem ZHQ {n : Nat} {a0 : List YC} {a1 : List Z1} {a2 a3 : Int} (h : a1.length ≤ n) : Sm n (JP a0 a1 a2 a3) :=
  qJ ⟨Nat.le_trans (ZDW (F := Qr a0 a1 a2 a3) (fun _ _ => rfl) (fun _ _ _ => rfl) (a1.length + 1) [] 0) (by simp; omega), fun _ _ => trivial⟩
def ZQt (e : ZI) : Nat := cnL (fun s => s.ZZ.length) e.ZK
theorem ZKr {l : List ZN} {i : Nat} (h : i < l.length) : cnL (fun s : ZN => s.ZZ.length) (l.drop i) = (nth l i).ZZ.length + cnL (fun s : ZN => s.ZZ.length) (l.drop (i + 1)) := ZOG _ h
theorem ZBO (a0 : List ZB) (a1 : ZB) : (yr a0 a1).length ≤ a0.length + 1 := by
  unfold yr
  refine Yy (p := fun r : List ZB => r.length ≤ a0.length + 1) (Nat.le_succ _) ?_
  simp; omega
theorem ZFc {n : Nat} {a0 : List ZB} {a1 : ZB} (h : Sm n a0) (h1 : Sm n a1) (hl : a0.length + 1 ≤ n) : Sm n (yr a0 a1) := by
  refine ⟨Nat.le_trans (ZBO a0 a1) hl, ?_⟩
  unfold yr
  refine Yy (p := fun r : List ZB => ∀ x ∈ r, Sm n x) h.2 ?_
  intro x hx
  simp only [List.mem_append, List.mem_singleton] at hx
  rcases hx with (hx | rfl) | hx
  · exact h.2 x (List.mem_of_mem_take hx)
  · exact h1
  · exact h.2 x (List.mem_of_mem_drop hx)
theorem qV {K : Nat} (a0 : ZF) (a1 : ZI) (a2 : List (List Int)) (v : Nat) (h : Sm K a1) : ∀ (n : Nat) (l : List ZB) (i : Nat), i ≤ (nth a1.ZK v).ZZ.length → Sm K l → l.length + ((nth a1.ZK v).ZZ.length - i) ≤ K → Sm K (Xn a0 a1 a2 v n l i) ∧ (Xn a0 a1 a2 v n l i).length ≤ l.length + ((nth a1.ZK v).ZZ.length - i)
  | 0, _, _, _, _, _ => ⟨⟨Nat.zero_le _, fun x hx => by cases hx⟩, Nat.zero_le _⟩
  | n + 1, l, i, hi, hl, hk => by
    simp only [Xn]
    by_cases hv : i < (nth a1.ZK v).ZZ.length
    · rw [show decide ((i : Int) < ((nth a1.ZK v).ZZ.length : Int)) = true by simpa using hv, cond_true]
      have hp : Sm K (nth (nth a1.ZK v).ZZ i) := Z2 (ZN.Y4 (Z2 (ZI.Yr h)))
      have hl2 := ZBO l (nth (nth a1.ZK v).ZZ i)
      refine Yy (p := fun (r : List ZB) => Sm K r ∧ r.length ≤ l.length + ((nth a1.ZK v).ZZ.length - i)) ?_ ?_
      · obtain ⟨r1, r2⟩ := qV a0 a1 a2 v h n (yr l (nth (nth a1.ZK v).ZZ i)) (i + 1) hv (ZFc hl hp (by omega)) (by omega)
        exact ⟨r1, by omega⟩
      · obtain ⟨r1, r2⟩ := qV a0 a1 a2 v h n l (i + 1) hv hl (by omega)
        exact ⟨r1, by omega⟩
    · rw [show decide ((i : Int) < ((nth a1.ZK v).ZZ.length : Int)) = false by simpa using hv, cond_false]
      exact ⟨hl, Nat.le_add_right _ _⟩
theorem ZA6 {K : Nat} (a0 : ZF) (a1 : ZI) (a2 : List (List Int)) (h : Sm K a1) : ∀ (n : Nat) (l : List ZB) (i : Nat), i ≤ a1.ZK.length → Sm K l → l.length + cnL (fun s : ZN => s.ZZ.length) (a1.ZK.drop i) ≤ K → Sm K (Qv a0 a1 a2 n l i)
  | 0, _, _, _, _, _ => ⟨Nat.zero_le _, fun x hx => by cases hx⟩
  | n + 1, l, i, hi, hl, hk => by
    simp only [Qv]
    by_cases hv : i < a1.ZK.length
    · rw [show decide ((i : Int) < (a1.ZK.length : Int)) = true by simpa using hv, cond_true]
      have hd := ZKr hv
      obtain ⟨r1, r2⟩ := qV a0 a1 a2 i h ((nth a1.ZK i).ZZ.length + 1) l 0 (Nat.zero_le _) hl (by omega)
      exact ZA6 a0 a1 a2 h n _ (i + 1) hv r1 (by omega)
    · rw [show decide ((i : Int) < (a1.ZK.length : Int)) = false by simpa using hv, cond_false]; exact hl
theorem ZL {K : Nat} {a0 : ZF} {a1 : ZI} {a2 : List (List Int)} (h : Sm K a1) (hp : ZQt a1 ≤ 2097152) (hk : 2097152 ≤ K) : Sm K (Zu a0 a1 a2) :=
  ZA6 a0 a1 a2 h _ [] 0 (Nat.zero_le _) ⟨Nat.zero_le _, fun x hx => by cases hx⟩ (by rw [List.drop_zero]; simp only [List.length_nil]; exact Nat.le_trans (by rw [Nat.zero_add]; exact hp) hk)
theorem ZGJ {a0 : ZF} {a1 : Int} {a2 : ZY} (h : ((ki a0 a1 a2).Code != 0) = false) : 0 ≤ Y0 a0.Y3 a2.Key := by
  unfold ki at h
  cases hk : decide (Y0 a0.Y3 a2.Key < 0) with
  | false => simpa using hk
  | true =>
    rw [hk] at h
    cases h1 : ZBZ a0 <;> cases h2 : zH a2 <;> cases h3 : decide (a1 < 0) <;> cases h4 : (a1 != a2.XC) <;> rw [h1, h2, h3, h4] at h <;> cases h
theorem Yi {n : Nat} {a0 : List ZB} {a1 : YH} (h : Sm n a0) : Sm n (JB a0 a1) :=
  ⟨Nat.le_trans (ZDW (F := Jk a0 a1) (fun _ _ => rfl) (fun _ _ _ => rfl) (a0.length + 1) [] 0) (by have := h.1; simp; omega), fun _ _ => trivial⟩
theorem Yo {n : Nat} {a0 : List ZB} (h : Sm n a0) : Sm n (ym a0) :=
  ⟨Nat.le_trans (ZDW (F := KO a0) (fun _ _ => rfl) (fun _ _ _ => rfl) (a0.length + 1) [] 0) (by have := h.1; simp; omega), fun _ _ => trivial⟩
theorem Yg {n : Nat} {a0 : List ZB} {a1 : YH} (h : Sm n a0) : Sm n (JC a0 a1) :=
  ⟨Nat.le_trans (ZDW (F := Jm a0 a1) (fun _ _ => rfl) (fun _ _ _ => rfl) (a0.length + 1) [] 0) (by have := h.1; simp; omega), fun _ _ => trivial⟩
theorem Yn {n : Nat} {a0 : List ZB} (h : Sm n a0) : Sm n (yg a0) :=
  ⟨Nat.le_trans (ZDW (F := KV a0) (fun _ _ => rfl) (fun _ _ _ => rfl) (a0.length + 1) [] 0) (by have := h.1; simp; omega), fun _ _ => trivial⟩
theorem ZAa {n : Nat} (a0 : ZI) (a1 : Zg) (h : Sm n a0) : ∀ (m : Nat) (l : List (List Int)) (i : Nat), i ≤ a0.ZK.length → Sm n l → l.length + (a0.ZK.length - i) ≤ n → Sm n (Qe a0 a1 m l i)
  | 0, _, _, _, _, _ => ⟨Nat.zero_le _, fun x hx => by cases hx⟩
  | m + 1, l, i, hi, hl, hk => by
    simp only [Qe]
    by_cases hv : i < a0.ZK.length
    · rw [show decide ((i : Int) < (a0.ZK.length : Int)) = true by simpa using hv, cond_true]
      refine ZAa a0 a1 h m _ (i + 1) hv ⟨by simp; omega, fun x hx => ?_⟩ (by simp; omega)
      rcases List.mem_append.1 hx with hx | hx
      · exact hl.2 x hx
      · rw [List.mem_singleton.1 hx]; exact ZJ0 (Z2 (ZI.Yr h))
    · rw [show decide ((i : Int) < (a0.ZK.length : Int)) = false by simpa using hv, cond_false]; exact hl
theorem QN {n : Nat} {a0 : ZI} {a1 : Zg} (h : Sm n a0) : Sm n (Jf a0 a1) :=
  ZAa a0 a1 h _ [] 0 (Nat.zero_le _) ⟨Nat.zero_le _, fun x hx => by cases hx⟩ (by have z := Yw (ZI.Yr h); simp; omega)
theorem ZAV {n : Nat} (a0 : ZI) (a1 : Zg) (h : Sm n a0) : ∀ (m : Nat) (l : List (List Int)) (i : Nat), i ≤ a0.ZK.length → Sm n l → l.length + (a0.ZK.length - i) ≤ n → Sm n (QV a0 a1 m l i)
  | 0, _, _, _, _, _ => ⟨Nat.zero_le _, fun x hx => by cases hx⟩
  | m + 1, l, i, hi, hl, hk => by
    simp only [QV]
    by_cases hv : i < a0.ZK.length
    · rw [show decide ((i : Int) < (a0.ZK.length : Int)) = true by simpa using hv, cond_true]
      refine ZAV a0 a1 h m _ (i + 1) hv ⟨by simp; omega, fun x hx => ?_⟩ (by simp; omega)
      rcases List.mem_append.1 hx with hx | hx
      · exact hl.2 x hx
      · rw [List.mem_singleton.1 hx]; exact ZKT (Z2 (ZI.Yr h))
    · rw [show decide ((i : Int) < (a0.ZK.length : Int)) = false by simpa using hv, cond_false]; exact hl
theorem QL {n : Nat} {a0 : ZI} {a1 : Zg} (h : Sm n a0) : Sm n (Jo a0 a1) :=
  ZAV a0 a1 h _ [] 0 (Nat.zero_le _) ⟨Nat.zero_le _, fun x hx => by cases hx⟩ (by have z := Yw (ZI.Yr h); simp; omega)
theorem ZPN {K z : Nat} {l : List ZB} {p : ZB} (hl : Sm K l) (hp : Sm K p) (hk : l.length + 1 ≤ K) : Sm K ((l.take z ++ [p]) ++ (l.drop z).take (l.length - z)) ∧ ((l.take z ++ [p]) ++ (l.drop z).take (l.length - z)).length ≤ l.length + 1 := by
  have h : ((l.take z ++ [p]) ++ (l.drop z).take (l.length - z)).length ≤ l.length + 1 := by simp; omega
  refine ⟨⟨Nat.le_trans h hk, fun x hx => ?_⟩, h⟩
  simp only [List.mem_append, List.mem_singleton] at hx
  rcases hx with (hx | rfl) | hx
  · exact hl.2 x (List.mem_of_mem_take hx)
  · exact hp
  · exact hl.2 x (List.mem_of_mem_drop (List.mem_of_mem_take hx))
theorem qU {K : Nat} (a0 : ZF) (a1 : ZI) (a2 : List (List Int)) (v : Nat) (h : Sm K a1) : ∀ (n : Nat) (l : List ZB) (i : Nat), i ≤ (nth a1.ZK v).ZZ.length → Sm K l → l.length + ((nth a1.ZK v).ZZ.length - i) ≤ K → Sm K (Xz a0 a1 a2 v n l i) ∧ (Xz a0 a1 a2 v n l i).length ≤ l.length + ((nth a1.ZK v).ZZ.length - i)
  | 0, _, _, _, _, _ => ⟨⟨Nat.zero_le _, fun x hx => by cases hx⟩, Nat.zero_le _⟩
  | n + 1, l, i, hi, hl, hk => by
    simp only [Xz]
    by_cases hv : i < (nth a1.ZK v).ZZ.length
    · rw [show decide ((i : Int) < ((nth a1.ZK v).ZZ.length : Int)) = true by simpa using hv, cond_true]
      have hp : Sm K (nth (nth a1.ZK v).ZZ i) := Z2 (ZN.Y4 (Z2 (ZI.Yr h)))
      refine Yy (p := fun (r : List ZB) => Sm K r ∧ r.length ≤ l.length + ((nth a1.ZK v).ZZ.length - i)) ?_ ?_
      · obtain ⟨r1, r2⟩ := qU a0 a1 a2 v h n l (i + 1) hv hl (by omega)
        exact ⟨r1, by omega⟩
      · obtain ⟨q1, q2⟩ := ZPN (z := KJ a1 v l i (l.length + 1) 0) hl hp (by omega)
        obtain ⟨r1, r2⟩ := qU a0 a1 a2 v h n _ (i + 1) hv q1 (by omega)
        exact ⟨r1, by omega⟩
    · rw [show decide ((i : Int) < ((nth a1.ZK v).ZZ.length : Int)) = false by simpa using hv, cond_false]
      exact ⟨hl, Nat.le_add_right _ _⟩
theorem ZA5 {K : Nat} (a0 : ZF) (a1 : ZI) (a2 : List (List Int)) (h : Sm K a1) : ∀ (n : Nat) (l : List ZB) (i : Nat), i ≤ a1.ZK.length → Sm K l → l.length + cnL (fun s : ZN => s.ZZ.length) (a1.ZK.drop i) ≤ K → Sm K (Q0 a0 a1 a2 n l i)
  | 0, _, _, _, _, _ => ⟨Nat.zero_le _, fun x hx => by cases hx⟩
  | n + 1, l, i, hi, hl, hk => by
    simp only [Q0]
    by_cases hv : i < a1.ZK.length
    · rw [show decide ((i : Int) < (a1.ZK.length : Int)) = true by simpa using hv, cond_true]
      have hd := ZKr hv
      obtain ⟨r1, r2⟩ := qU a0 a1 a2 i h ((nth a1.ZK i).ZZ.length + 1) l 0 (Nat.zero_le _) hl (by omega)
      exact ZA5 a0 a1 a2 h n _ (i + 1) hv r1 (by omega)
    · rw [show decide ((i : Int) < (a1.ZK.length : Int)) = false by simpa using hv, cond_false]; exact hl
theorem ZM {K : Nat} {a0 : ZF} {a1 : ZI} {a2 : List (List Int)} (h : Sm K a1) (hp : ZQt a1 ≤ 2097152) (hk : 2097152 ≤ K) : Sm K (Zt a0 a1 a2) :=
  ZA5 a0 a1 a2 h _ [] 0 (Nat.zero_le _) ⟨Nat.zero_le _, fun x hx => by cases hx⟩ (by rw [List.drop_zero]; simp only [List.length_nil]; exact Nat.le_trans (by rw [Nat.zero_add]; exact hp) hk)
theorem xE (a0 : ZF) (a1 : Z3) : (Jz a0 a1).size ≤ 400 := by
  have h1 := YX a1.Id
  have h2 := YX a1.Sig.Key
  have h3 := YX (a1.Y7.ZZ.length : Int)
  have h4 := YX (a1.Y7.ZR.length : Int)
  have h5 := ZAk (Kr a0 a1)
  unfold Jz
  simp only [ByteArray.size_append]
  show 1 + _ + 2 + _ + 1 + _ + 1 + _ + 1 + _ ≤ 400
  omega
theorem ZHH (a0 : ZF) (a1 : Z3) : (Qi a0 a1).size ≤ 400 := by
  have h1 := Y8 a1.Id
  have h2 := Y8 a1.Sig.Key
  have h3 := Y8 (a1.Y7.ZZ.length : Int)
  have h4 := Y8 (a1.Y7.ZR.length : Int)
  have h5 := ZAi (Ks a0 a1)
  unfold Qi
  simp only [ByteArray.size_append]
  show 1 + _ + 2 + _ + 1 + _ + 1 + _ + 1 + _ ≤ 400
  omega
theorem ZA3 {l : List ByteArray} {b : ByteArray} (hb : b.size = 1) (h : ∀ x ∈ l, x.size ≤ 24) : ∀ (n : Nat) (v : ByteArray) (i : Nat), (KY l b n v i).size ≤ v.size + 25 * (l.length - i)
  | 0, v, i => Nat.zero_le _
  | n + 1, v, i => by
    simp only [KY]
    by_cases hi : i < l.length
    · have hx := ZMh h i
      have h1 := ZA3 hb h n (v ++ b ++ nth l i) (i + 1)
      have h2 := ZA3 hb h n (v ++ nth l i) (i + 1)
      simp only [ByteArray.size_append] at h1 h2
      rw [show decide ((i : Int) < (l.length : Int)) = true by simpa using hi, ZC2]
      refine Yy (p := fun r : ByteArray => r.size ≤ v.size + 25 * (l.length - i)) ?_ ?_ <;> omega
    · rw [show decide ((i : Int) < (l.length : Int)) = false by simpa using hi, ZCz]; omega
theorem ZC6 {l : List ByteArray} {b : ByteArray} (hb : b.size = 1) (h : ∀ x ∈ l, x.size ≤ 24) : (xX l b).size ≤ 25 * l.length := by
  have := ZA3 hb h (l.length + 1) ⟨#[]⟩ 0
  have e : (⟨#[]⟩ : ByteArray).size = 0 := rfl
  unfold xX
  simp only
  omega
theorem ZGM (a0 : YD) : KZ a0 = a0.ZH.flatMap (fun a => a.Z5.map (·.Id)) := by
  have h2 : ∀ v l, ZBw a0 v ((nth a0.ZH v).Z5.length + 1) l 0 = l ++ (nth a0.ZH v).Z5.map (·.Id) := fun v l => by
    have := ZDm (as := (nth a0.ZH v).Z5) (fun x => [x.Id]) (F := fun n i l => ZBw a0 v n l i) (fun _ _ _ => rfl) ((nth a0.ZH v).Z5.length + 1) 0 l (by omega) (Nat.zero_le _)
    rw [this, List.drop_zero, ZIB]
  have := ZDm (as := a0.ZH) (fun a => a.Z5.map (·.Id)) (F := fun n i l => ZCA a0 n l i) (fun n i l => by simp only [ZCA, h2]) (a0.ZH.length + 1) 0 [] (by omega) (Nat.zero_le _)
  unfold KZ
  rw [this]; rfl
theorem ZOe (a0 : YD) : (KZ a0).length = itn a0.ZH := by rw [ZGM, ZL4]; simp only [List.length_map]; rfl
end Go.Mo
