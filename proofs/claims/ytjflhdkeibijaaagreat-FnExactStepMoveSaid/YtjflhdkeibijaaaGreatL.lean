/- Plain lemmas on the models of the helpers. No condition. -/
import Derived.Test.YtjflhdkeibijaaaGreatM
namespace Go.Mo
open Go.Vm
set_option linter.unusedSimpArgs false
set_option linter.unusedVariables false
theorem Io : xd XV := kL (fun _ _ => trivial) (fun _ _ => rfl)
theorem Iw : xb XV 0 := ki (fun _ => Nat.le_of_ble_eq_true rfl) (fun _ _ => rfl)
theorem UX : xd Yf := kL (fun _ _ => trivial) (fun _ _ => rfl)
theorem UY : xb Yf 0 := ki (fun _ => Nat.le_of_ble_eq_true rfl) (fun _ _ => rfl)
theorem Ot : xd Ju := kL (fun _ _ => trivial) (fun _ _ => rfl)
theorem Oo : xb Ju 0 := ki (fun _ => Nat.le_of_ble_eq_true rfl) (fun _ _ => rfl)
theorem LL : xd Zw := by
  intro a0 a1 hm h0 hn h
  unfold Zw at h ⊢
  by_cases c0 : (XV a0.XE a1) < 0
  · simp [c0] at h
  obtain ⟨s0, t0⟩ := Io a0.XE a1 (by simp [hm]) (by omega) (by omega) c0
  by_cases c1 : (Yf a0.Zc (XV a0.XE a1)) < 0
  · simp [c1, c0] at h
  obtain ⟨s1, t1⟩ := UX a0.Zc (XV a0.XE a1) (by simp [hm]) (by omega) (by omega) c1
  by_cases c2 : (Ju a0.Methods (Yf a0.Zc (XV a0.XE a1))) < 0
  · simp [c2, c0, c1] at h
  obtain ⟨s2, t2⟩ := Ot a0.Methods (Yf a0.Zc (XV a0.XE a1)) (by simp [hm]) (by omega) (by omega) c2
  simp only [c0, c1, c2, decide_false, cond_false] at h ⊢
  exact ⟨⟨s0, s1, s2⟩, t2⟩
theorem LM : xb Zw 2 := by
  intro a0 a1 hm h0 hn h
  unfold Zw at h ⊢
  by_cases c0 : (XV a0.XE a1) < 0
  · simp [c0] at h
  obtain ⟨s0, t0⟩ := Iw a0.XE a1 (by simp [hm]) (by omega) (by omega) c0
  by_cases c1 : (Yf a0.Zc (XV a0.XE a1)) < 0
  · simp [c1, c0] at h
  obtain ⟨s1, t1⟩ := UY a0.Zc (XV a0.XE a1) (by simp [hm]) (by omega) (by omega) c1
  by_cases c2 : (Ju a0.Methods (Yf a0.Zc (XV a0.XE a1))) < 0
  · simp [c2, c0, c1] at h
  obtain ⟨s2, t2⟩ := Oo a0.Methods (Yf a0.Zc (XV a0.XE a1)) (by simp [hm]) (by omega) (by omega) c2
  simp only [c0, c1, c2, decide_false, cond_false] at h ⊢
  simp only [Y3, Yj, Y4, YJ.Ya]
  omega
theorem Ly : xd YB := kL (fun _ _ => trivial) (fun _ _ => rfl)
theorem IP : xb YB 0 := ki (fun _ => Nat.le_of_ble_eq_true rfl) (fun _ _ => rfl)
theorem zt : xd Zi := kL (fun _ _ => trivial) (fun _ _ => rfl)
theorem zo : xb Zi 0 := ki (fun _ => Nat.le_of_ble_eq_true rfl) (fun _ _ => rfl)
theorem Oe : xd XF := TK FZ (G := K9) (fun _ _ _ _ => rfl) (fun _ _ => rfl)
theorem P6 : xb XF 0 := U4 Fo (by decide) (G := K9) (fun _ _ _ _ => rfl) (fun _ _ => rfl)
theorem RL : xd Yp := by
  intro a0 a1 hm h0 hn h
  unfold Yp at h ⊢
  by_cases c0 : (XF a0.ZE a1) < 0
  · simp [c0] at h
  obtain ⟨s0, t0⟩ := Oe a0.ZE a1 (by simp [hm]) (by omega) (by omega) c0
  by_cases c1 : (Zi a0.ZG (XF a0.ZE a1)) < 0
  · simp [c1, c0] at h
  obtain ⟨s1, t1⟩ := zt a0.ZG (XF a0.ZE a1) (by simp [hm]) (by omega) (by omega) c1
  simp only [c0, c1, decide_false, cond_false] at h ⊢
  exact ⟨⟨s0, s1⟩, t1⟩
theorem RB : xb Yp 1 := by
  intro a0 a1 hm h0 hn h
  unfold Yp at h ⊢
  by_cases c0 : (XF a0.ZE a1) < 0
  · simp [c0] at h
  obtain ⟨s0, t0⟩ := P6 a0.ZE a1 (by simp [hm]) (by omega) (by omega) c0
  by_cases c1 : (Zi a0.ZG (XF a0.ZE a1)) < 0
  · simp [c1, c0] at h
  obtain ⟨s1, t1⟩ := zo a0.ZG (XF a0.ZE a1) (by simp [hm]) (by omega) (by omega) c1
  simp only [c0, c1, decide_false, cond_false] at h ⊢
  simp only [Y3, Yj, Y4, ZR.Ya]
  omega
theorem L6 : xd zu := by
  intro a0 a1 hm h0 hn h
  unfold zu at h ⊢
  by_cases c0 : (Zi a0.Yh a1) < 0
  · simp [c0] at h
  obtain ⟨s0, t0⟩ := zt a0.Yh a1 (by simp [hm]) (by omega) (by omega) c0
  simp only [c0, decide_false, cond_false] at h ⊢
  exact ⟨s0, t0⟩
theorem IE : xb zu 2 := by
  intro a0 a1 hm h0 hn h
  unfold zu at h ⊢
  by_cases c0 : (Zi a0.Yh a1) < 0
  · simp [c0] at h
  obtain ⟨s0, t0⟩ := zo a0.Yh a1 (by simp [hm]) (by omega) (by omega) c0
  simp only [c0, decide_false, cond_false] at h ⊢
  simp only [Y3, Yj, Y4, ZM.Ya]
  omega
theorem Ni : xd Xl := TK L6 (G := yB) (fun _ _ _ _ => rfl) (fun _ _ => rfl)
theorem NM : xb Xl 0 := U4 IE (by decide) (G := yB) (fun _ _ _ _ => rfl) (fun _ _ => rfl)
theorem Lt : xd QG := kL (fun _ _ => trivial) (fun _ _ => rfl)
theorem LX : xb QG 0 := ki (fun _ => Nat.le_of_ble_eq_true rfl) (fun _ _ => rfl)
theorem NP : xd KO := kL (fun _ _ => trivial) (fun _ _ => rfl)
theorem MD : xb KO 0 := ki (fun _ => Nat.le_of_ble_eq_true rfl) (fun _ _ => rfl)
theorem Pf : xd Js := by
  intro a0 a1 hm h0 hn h
  unfold Js at h ⊢
  by_cases c0 : (QG a0.Path a1) < 0
  · simp [c0] at h
  obtain ⟨s0, t0⟩ := Lt a0.Path a1 (by simp [hm]) (by omega) (by omega) c0
  by_cases c1 : (KO a0.Zu (QG a0.Path a1)) < 0
  · simp [c1, c0] at h
  obtain ⟨s1, t1⟩ := NP a0.Zu (QG a0.Path a1) (by simp [hm]) (by omega) (by omega) c1
  simp only [c0, c1, decide_false, cond_false] at h ⊢
  exact ⟨⟨s0, s1⟩, t1⟩
theorem Pt : xb Js 3 := by
  intro a0 a1 hm h0 hn h
  unfold Js at h ⊢
  by_cases c0 : (QG a0.Path a1) < 0
  · simp [c0] at h
  obtain ⟨s0, t0⟩ := LX a0.Path a1 (by simp [hm]) (by omega) (by omega) c0
  by_cases c1 : (KO a0.Zu (QG a0.Path a1)) < 0
  · simp [c1, c0] at h
  obtain ⟨s1, t1⟩ := MD a0.Zu (QG a0.Path a1) (by simp [hm]) (by omega) (by omega) c1
  simp only [c0, c1, decide_false, cond_false] at h ⊢
  simp only [Y3, Yj, Y4, ZL.Ya]
  omega
theorem RQ : xd Q0 := TK Pf (G := Kd) (fun _ _ _ _ => rfl) (fun _ _ => rfl)
theorem RW : xb Q0 0 := U4 Pt (by decide) (G := Kd) (fun _ _ _ _ => rfl) (fun _ _ => rfl)
theorem N5 : xd JP := by
  intro a0 a1 hm h0 hn h
  unfold JP at h ⊢
  by_cases c0 : (Xl a0.ZS a1) < 0
  · simp [c0] at h
  obtain ⟨s0, t0⟩ := Ni a0.ZS a1 (by simp [hm]) (by omega) (by omega) c0
  by_cases c1 : (Q0 a0.Zj (Xl a0.ZS a1)) < 0
  · simp [c1, c0] at h
  obtain ⟨s1, t1⟩ := RQ a0.Zj (Xl a0.ZS a1) (by simp [hm]) (by omega) (by omega) c1
  simp only [c0, c1, decide_false, cond_false] at h ⊢
  exact ⟨⟨s0, s1⟩, t1⟩
theorem ND : xb JP 0 := by
  intro a0 a1 hm h0 hn h
  unfold JP at h ⊢
  by_cases c0 : (Xl a0.ZS a1) < 0
  · simp [c0] at h
  obtain ⟨s0, t0⟩ := NM a0.ZS a1 (by simp [hm]) (by omega) (by omega) c0
  by_cases c1 : (Q0 a0.Zj (Xl a0.ZS a1)) < 0
  · simp [c1, c0] at h
  obtain ⟨s1, t1⟩ := RW a0.Zj (Xl a0.ZS a1) (by simp [hm]) (by omega) (by omega) c1
  simp only [c0, c1, decide_false, cond_false] at h ⊢
  simp only [Y3, Yj, Y4, Zf.Ya]
  omega
theorem Iz : xd xE := by
  intro a0 a1 hm h0 hn h
  unfold xE at h ⊢
  by_cases c0 : (Yp a0.Doc a1) < 0
  · simp [c0] at h
  obtain ⟨s0, t0⟩ := RL a0.Doc a1 (by simp [hm]) (by omega) (by omega) c0
  by_cases c1 : (JP a0.ZQ (Yp a0.Doc a1)) < 0
  · simp [c1, c0] at h
  obtain ⟨s1, t1⟩ := N5 a0.ZQ (Yp a0.Doc a1) (by simp [hm]) (by omega) (by omega) c1
  simp only [c0, c1, decide_false, cond_false] at h ⊢
  exact ⟨⟨s0, s1⟩, t1⟩
theorem HB : xb xE 12 := by
  intro a0 a1 hm h0 hn h
  unfold xE at h ⊢
  by_cases c0 : (Yp a0.Doc a1) < 0
  · simp [c0] at h
  obtain ⟨s0, t0⟩ := RB a0.Doc a1 (by simp [hm]) (by omega) (by omega) c0
  by_cases c1 : (JP a0.ZQ (Yp a0.Doc a1)) < 0
  · simp [c1, c0] at h
  obtain ⟨s1, t1⟩ := ND a0.ZQ (Yp a0.Doc a1) (by simp [hm]) (by omega) (by omega) c1
  simp only [c0, c1, decide_false, cond_false] at h ⊢
  simp only [Y3, Yj, Y4, ZI.Ya, Zb.Ya]
  omega
theorem Lq : xd zx := TK Iz (G := xJ) (fun _ _ _ _ => rfl) (fun _ _ => rfl)
theorem L5 : xb zx 0 := U4 HB (by decide) (G := xJ) (fun _ _ _ _ => rfl) (fun _ _ => rfl)
theorem R8 : xd Jj := by
  intro a0 a1 hm h0 hn h
  unfold Jj at h ⊢
  by_cases c0 : (zx a0.ZF a1) < 0
  · simp [c0] at h
  obtain ⟨s0, t0⟩ := Lq a0.ZF a1 (by simp [hm]) (by omega) (by omega) c0
  simp only [c0, decide_false, cond_false] at h ⊢
  exact ⟨s0, t0⟩
theorem ON : xb Jj 1 := by
  intro a0 a1 hm h0 hn h
  unfold Jj at h ⊢
  by_cases c0 : (zx a0.ZF a1) < 0
  · simp [c0] at h
  obtain ⟨s0, t0⟩ := L5 a0.ZF a1 (by simp [hm]) (by omega) (by omega) c0
  simp only [c0, decide_false, cond_false] at h ⊢
  simp only [Y3, Yj, Y4, ZC.Ya]
  omega
theorem RE : xd YC := TK R8 (G := Kf) (fun _ _ _ _ => rfl) (fun _ _ => rfl)
theorem RP : xb YC 0 := U4 ON (by decide) (G := Kf) (fun _ _ _ _ => rfl) (fun _ _ => rfl)
theorem Uw : xd zf := by
  intro a0 a1 hm h0 hn h
  unfold zf at h ⊢
  by_cases c0 : (Zw a0.Frame a1) < 0
  · simp [c0] at h
  obtain ⟨s0, t0⟩ := LL a0.Frame a1 (by simp [hm]) (by omega) (by omega) c0
  by_cases c1 : (YB a0.Zy (Zw a0.Frame a1)) < 0
  · simp [c1, c0] at h
  obtain ⟨s1, t1⟩ := Ly a0.Zy (Zw a0.Frame a1) (by simp [hm]) (by omega) (by omega) c1
  by_cases c2 : (Zi a0.Z6 (YB a0.Zy (Zw a0.Frame a1))) < 0
  · simp [c2, c0, c1] at h
  obtain ⟨s2, t2⟩ := zt a0.Z6 (YB a0.Zy (Zw a0.Frame a1)) (by simp [hm]) (by omega) (by omega) c2
  by_cases c3 : (YC a0.ZH (Zi a0.Z6 (YB a0.Zy (Zw a0.Frame a1)))) < 0
  · simp [c3, c0, c1, c2] at h
  obtain ⟨s3, t3⟩ := RE a0.ZH (Zi a0.Z6 (YB a0.Zy (Zw a0.Frame a1))) (by simp [hm]) (by omega) (by omega) c3
  by_cases c4 : (Zi a0.XC (YC a0.ZH (Zi a0.Z6 (YB a0.Zy (Zw a0.Frame a1))))) < 0
  · simp [c4, c0, c1, c2, c3] at h
  obtain ⟨s4, t4⟩ := zt a0.XC (YC a0.ZH (Zi a0.Z6 (YB a0.Zy (Zw a0.Frame a1)))) (by simp [hm]) (by omega) (by omega) c4
  by_cases c5 : (Zi a0.Yq (Zi a0.XC (YC a0.ZH (Zi a0.Z6 (YB a0.Zy (Zw a0.Frame a1)))))) < 0
  · simp [c5, c0, c1, c2, c3, c4] at h
  obtain ⟨s5, t5⟩ := zt a0.Yq (Zi a0.XC (YC a0.ZH (Zi a0.Z6 (YB a0.Zy (Zw a0.Frame a1))))) (by simp [hm]) (by omega) (by omega) c5
  by_cases c6 : (Zi a0.Ym (Zi a0.Yq (Zi a0.XC (YC a0.ZH (Zi a0.Z6 (YB a0.Zy (Zw a0.Frame a1))))))) < 0
  · simp [c6, c0, c1, c2, c3, c4, c5] at h
  obtain ⟨s6, t6⟩ := zt a0.Ym (Zi a0.Yq (Zi a0.XC (YC a0.ZH (Zi a0.Z6 (YB a0.Zy (Zw a0.Frame a1)))))) (by simp [hm]) (by omega) (by omega) c6
  simp only [c0, c1, c2, c3, c4, c5, c6, decide_false, cond_false] at h ⊢
  exact ⟨⟨s0, s1, s2, s3, s4, s5, s6⟩, t6⟩
theorem IY : xb zf 3 := by
  intro a0 a1 hm h0 hn h
  unfold zf at h ⊢
  by_cases c0 : (Zw a0.Frame a1) < 0
  · simp [c0] at h
  obtain ⟨s0, t0⟩ := LM a0.Frame a1 (by simp [hm]) (by omega) (by omega) c0
  by_cases c1 : (YB a0.Zy (Zw a0.Frame a1)) < 0
  · simp [c1, c0] at h
  obtain ⟨s1, t1⟩ := IP a0.Zy (Zw a0.Frame a1) (by simp [hm]) (by omega) (by omega) c1
  by_cases c2 : (Zi a0.Z6 (YB a0.Zy (Zw a0.Frame a1))) < 0
  · simp [c2, c0, c1] at h
  obtain ⟨s2, t2⟩ := zo a0.Z6 (YB a0.Zy (Zw a0.Frame a1)) (by simp [hm]) (by omega) (by omega) c2
  by_cases c3 : (YC a0.ZH (Zi a0.Z6 (YB a0.Zy (Zw a0.Frame a1)))) < 0
  · simp [c3, c0, c1, c2] at h
  obtain ⟨s3, t3⟩ := RP a0.ZH (Zi a0.Z6 (YB a0.Zy (Zw a0.Frame a1))) (by simp [hm]) (by omega) (by omega) c3
  by_cases c4 : (Zi a0.XC (YC a0.ZH (Zi a0.Z6 (YB a0.Zy (Zw a0.Frame a1))))) < 0
  · simp [c4, c0, c1, c2, c3] at h
  obtain ⟨s4, t4⟩ := zo a0.XC (YC a0.ZH (Zi a0.Z6 (YB a0.Zy (Zw a0.Frame a1)))) (by simp [hm]) (by omega) (by omega) c4
  by_cases c5 : (Zi a0.Yq (Zi a0.XC (YC a0.ZH (Zi a0.Z6 (YB a0.Zy (Zw a0.Frame a1)))))) < 0
  · simp [c5, c0, c1, c2, c3, c4] at h
  obtain ⟨s5, t5⟩ := zo a0.Yq (Zi a0.XC (YC a0.ZH (Zi a0.Z6 (YB a0.Zy (Zw a0.Frame a1))))) (by simp [hm]) (by omega) (by omega) c5
  by_cases c6 : (Zi a0.Ym (Zi a0.Yq (Zi a0.XC (YC a0.ZH (Zi a0.Z6 (YB a0.Zy (Zw a0.Frame a1))))))) < 0
  · simp [c6, c0, c1, c2, c3, c4, c5] at h
  obtain ⟨s6, t6⟩ := zo a0.Ym (Zi a0.Yq (Zi a0.XC (YC a0.ZH (Zi a0.Z6 (YB a0.Zy (Zw a0.Frame a1)))))) (by simp [hm]) (by omega) (by omega) c6
  simp only [c0, c1, c2, c3, c4, c5, c6, decide_false, cond_false] at h ⊢
  simp only [Y3, Yj, Y4, Ze.Ya]
  omega
theorem Kj (a0 : YQ) : Rw a0 = a0 := by cases a0; simp [Rw]
theorem Jv (a0 : List YQ) : OR a0 = a0 := zK (F := kN a0) (g := (fun x => x)) (fun _ => rfl) (fun _ _ _ => rfl) _ 0 _ (by simp) (by omega) (by omega) (fun j h => by omega)
theorem XW (a0 : ZN) : xC a0 = a0 := by cases a0; simp [xC]
theorem XG (a0 : List ZN) : qa a0 = a0 := zK (F := K3 a0) (g := (fun x => x)) (fun _ => rfl) (fun _ _ _ => rfl) _ 0 _ (by simp) (by omega) (by omega) (fun j h => by omega)
theorem Qc (a0 : ZV) : kY a0 = a0 := by cases a0; simp [kY]
theorem QD (a0 : List ZV) : WZ a0 = a0 := zK (F := y2 a0) (g := (fun x => x)) (fun _ => rfl) (fun _ _ _ => rfl) _ 0 _ (by simp) (by omega) (by omega) (fun j h => by omega)
theorem Qz (a0 : YJ) : VN a0 = a0 := by cases a0; simp [VN]
theorem Jn (a0 : Zz) : TH a0 = a0 := by cases a0; simp [TH]
theorem Q9 (a0 : List Zz) : SJ a0 = a0 := zK (F := jH a0) (g := (fun x => x)) (fun _ => rfl) (fun _ _ _ => rfl) _ 0 _ (by simp) (by omega) (by omega) (fun j h => by omega)
theorem Jt (a0 : List Int) : P9 a0 = a0 := zK (F := kF a0) (g := (fun x => x)) (fun _ => rfl) (fun _ _ _ => rfl) _ 0 _ (by simp) (by omega) (by omega) (fun j h => by omega)
theorem QE (a0 : List ByteArray) : Wb a0 = a0 := zK (F := y4 a0) (g := (fun x => x)) (fun _ => rfl) (fun _ _ _ => rfl) _ 0 _ (by simp) (by omega) (by omega) (fun j h => by omega)
theorem Xv (a0 : ZR) : xp a0 = a0 := by cases a0; simp [xp]
theorem XU (a0 : Zb) : y9 a0 = a0 := by cases a0; simp [y9]
theorem JJ (a0 : ZM) : VL a0 = a0 := by cases a0; simp [VL]
theorem QZ (a0 : List ZM) : V5 a0 = a0 := zK (F := xn a0) (g := (fun x => x)) (fun _ => rfl) (fun _ _ _ => rfl) _ 0 _ (by simp) (by omega) (by omega) (fun j h => by omega)
theorem Jm (a0 : Z4) : UR a0 = a0 := by cases a0; simp [UR]
theorem JB (a0 : List Z4) : Th a0 = a0 := zK (F := jB a0) (g := (fun x => x)) (fun _ => rfl) (fun _ _ _ => rfl) _ 0 _ (by simp) (by omega) (by omega) (fun j h => by omega)
theorem Q6 (a0 : Za) : VK a0 = a0 := by cases a0; simp [VK]
theorem Qd (a0 : List Za) : UB a0 = a0 := zK (F := xt a0) (g := (fun x => x)) (fun _ => rfl) (fun _ _ _ => rfl) _ 0 _ (by simp) (by omega) (by omega) (fun j h => by omega)
theorem QA (a0 : ZL) : qz a0 = a0 := by cases a0; simp [qz]
theorem Xy (a0 : List ZL) : ka a0 = a0 := zK (F := yW a0) (g := (fun x => x)) (fun _ => rfl) (fun _ _ _ => rfl) _ 0 _ (by simp) (by omega) (by omega) (fun j h => by omega)
theorem QW (a0 : Zf) : kj a0 = a0 := by cases a0; simp [kj]
theorem Jw (a0 : ZI) : Ui a0 = a0 := by cases a0; simp [Ui]
theorem JE (a0 : List ZI) : T2 a0 = a0 := zK (F := jM a0) (g := (fun x => x)) (fun _ => rfl) (fun _ _ _ => rfl) _ 0 _ (by simp) (by omega) (by omega) (fun j h => by omega)
theorem QB (a0 : ZC) : jI a0 = a0 := by cases a0; simp [jI]
theorem Xx (a0 : List ZC) : kd a0 = a0 := zK (F := zy a0) (g := (fun x => x)) (fun _ => rfl) (fun _ _ _ => rfl) _ 0 _ (by simp) (by omega) (by omega) (fun j h => by omega)
theorem JA (a0 : Ze) : VC a0 = a0 := by cases a0; simp [VC]
theorem N7 (a0 : YJ) : UI a0 = a0 := rfl
theorem HL (a0 : ZR) : Ou a0 = a0 := rfl
theorem Lz (a0 : ZM) : Tz a0 = a0 := rfl
theorem Ho (a0 : List ZM) : TM a0 = a0 := by
  have h := zm (F := (kO a0)) (a := a0) (g := (fun x => x)) (fun _ => rfl) (fun _ _ _ => rfl) (a0.length + 1) [] 0 (by omega) (by omega)
  simp only [List.nil_append, List.drop_zero] at h
  unfold TM
  rw [h]
theorem IF (a0 : ZL) : Ta a0 = a0 := rfl
theorem LG (a0 : Zf) : VG a0 = a0 := by
  have h := zm (F := (fun n v i => jJ a0 n i v)) (a := a0.Zj) (g := (fun x => x)) (fun _ => rfl) (fun _ _ _ => rfl) (a0.Zj.length + 1) [] 0 (by omega) (by omega)
  simp only [List.nil_append, List.drop_zero] at h
  unfold VG
  rw [h]
theorem IU (a0 : ZI) : Tx a0 = a0 := rfl
theorem M9 (a0 : ZC) : VE a0 = a0 := by
  have h := zm (F := (fun n v i => jF a0 n i v)) (a := a0.ZF) (g := (fun x => x)) (fun _ => rfl) (fun _ _ _ => rfl) (a0.ZF.length + 1) [] 0 (by omega) (by omega)
  simp only [List.nil_append, List.drop_zero] at h
  unfold VE
  rw [h]
theorem M6 (a0 : Ze) : VF a0 = a0 := by
  have h := zm (F := (fun n v i => jN a0 n i v)) (a := a0.ZH) (g := (fun x => x)) (fun _ => rfl) (fun _ _ _ => rfl) (a0.ZH.length + 1) [] 0 (by omega) (by omega)
  simp only [List.nil_append, List.drop_zero] at h
  unfold VF
  rw [h]
theorem Na (a0 : ZC) (a1 : Int) : Xo a0 a1 < (a0.ZF.length : Int) := FH (F := K1 a0 a1) (c := fun v1_0 => ((nth a0.ZF v1_0).Id == a1)) (fun _ => rfl) (fun _ _ => rfl) _ _
theorem OA (a0 : YJ) : Wr a0 = a0 := rfl
theorem Nr (a0 : List Int) : Vv a0 = a0 := rfl
theorem Uj (a0 : ZR) : qZ a0 = a0 := rfl
theorem Oq (a0 : ZM) : W4 a0 = a0 := rfl
theorem Sy (a0 : List ZM) : qB a0 = a0 := by
  have h := zm (F := (yX a0)) (a := a0) (g := (fun x => x)) (fun _ => rfl) (fun _ _ _ => rfl) (a0.length + 1) [] 0 (by omega) (by omega)
  simp only [List.nil_append, List.drop_zero] at h
  unfold qB
  rw [h]
theorem S0 (a0 : List Za) : kl a0 = a0 := rfl
theorem Tq (a0 : ZL) : jZ a0 = a0 := rfl
theorem RO (a0 : Zf) : xu a0 = a0 := by
  have h := zm (F := (fun n v i => yC a0 n i v)) (a := a0.Zj) (g := (fun x => x)) (fun _ => rfl) (fun _ _ _ => rfl) (a0.Zj.length + 1) [] 0 (by omega) (by omega)
  simp only [List.nil_append, List.drop_zero] at h
  unfold xu
  rw [h]
theorem Nu (a0 : ZI) : UF a0 = a0 := rfl
theorem Tk (a0 : ZC) : xB a0 = a0 := by
  have h := zm (F := (fun n v i => zL a0 n i v)) (a := a0.ZF) (g := (fun x => x)) (fun _ => rfl) (fun _ _ _ => rfl) (a0.ZF.length + 1) [] 0 (by omega) (by omega)
  simp only [List.nil_append, List.drop_zero] at h
  unfold xB
  rw [h]
theorem OD (a0 : Ze) : qn a0 = a0 := by
  have h := zm (F := (fun n v i => y6 a0 n i v)) (a := a0.ZH) (g := (fun x => x)) (fun _ => rfl) (fun _ _ _ => rfl) (a0.ZH.length + 1) [] 0 (by omega) (by omega)
  simp only [List.nil_append, List.drop_zero] at h
  unfold qn
  rw [h]
theorem X8 (a0 : ZC) (a1 : Int) : ZX a0 a1 < (a0.ZF.length : Int) := FH (F := Jx a0 a1) (c := fun v1_0 => ((nth a0.ZF v1_0).Id == a1)) (fun _ => rfl) (fun _ _ => rfl) _ _
theorem Us (a0 : YQ) : VO a0 a0 = true := by simp [VO]
theorem Vn (a0 : List YQ) : We a0 a0 = true := by
  unfold We
  rw [zI (F := ko a0 a0) (L := a0.length) (c := fun v1_0 => (!(VO (nth a0 v1_0) (nth a0 v1_0)))) (fun i => by simp [Us]) (fun _ => rfl) (fun _ _ => rfl)]
  simp
theorem qY (a0 : ZN) : KG a0 a0 = true := by simp [KG]
theorem xi (a0 : List ZN) : KX a0 a0 = true := by
  unfold KX
  rw [zI (F := Ko a0 a0) (L := a0.length) (c := fun v1_0 => (!(KG (nth a0 v1_0) (nth a0 v1_0)))) (fun i => by simp [qY]) (fun _ => rfl) (fun _ _ => rfl)]
  simp
theorem WH (a0 : ZV) : yi a0 a0 = true := by simp [yi]
theorem jr (a0 : List ZV) : xR a0 a0 = true := by
  unfold xR
  rw [zI (F := yy a0 a0) (L := a0.length) (c := fun v1_0 => (!(yi (nth a0 v1_0) (nth a0 v1_0)))) (fun i => by simp [WH]) (fun _ => rfl) (fun _ _ => rfl)]
  simp
theorem WQ (a0 : YJ) : ju a0 a0 = true := by simp [ju, xi, Vn, jr]
theorem Vr (a0 : Zz) : kB a0 a0 = true := by simp [kB]
theorem WO (a0 : List Zz) : ji a0 a0 = true := by
  unfold ji
  rw [zI (F := qo a0 a0) (L := a0.length) (c := fun v1_0 => (!(kB (nth a0 v1_0) (nth a0 v1_0)))) (fun i => by simp [Vr]) (fun _ => rfl) (fun _ _ => rfl)]
  simp
theorem y3 (a0 : List Int) : zF a0 a0 = true := by
  unfold zF
  rw [zI (F := kH a0 a0) (L := a0.length) (c := fun v1_0 => ((nth a0 v1_0) != (nth a0 v1_0))) (fun i => by simp) (fun _ => rfl) (fun _ _ => rfl)]
  simp
theorem jj (a0 : List ByteArray) : xF a0 a0 = true := by
  unfold xF
  rw [zI (F := yw a0 a0) (L := a0.length) (c := fun v1_0 => (!decide ((nth a0 v1_0) = (nth a0 v1_0)))) (fun i => by simp) (fun _ => rfl) (fun _ _ => rfl)]
  simp
theorem qk (a0 : ZR) : z9 a0 a0 = true := by simp [z9, y3, jj]
theorem qb (a0 : Zb) : K8 a0 a0 = true := by simp [K8]
theorem WU (a0 : ZM) : qG a0 a0 = true := by simp [qG, y3]
theorem WE (a0 : List ZM) : qO a0 a0 = true := by
  unfold qO
  rw [zI (F := xv a0 a0) (L := a0.length) (c := fun v1_0 => (!(qG (nth a0 v1_0) (nth a0 v1_0)))) (fun i => by simp [WU]) (fun _ => rfl) (fun _ _ => rfl)]
  simp
theorem VZ (a0 : Z4) : jn a0 a0 = true := by simp [jn]
theorem W2 (a0 : List Z4) : jv a0 a0 = true := by
  unfold jv
  rw [zI (F := jE a0 a0) (L := a0.length) (c := fun v1_0 => (!(jn (nth a0 v1_0) (nth a0 v1_0)))) (fun i => by simp [VZ]) (fun _ => rfl) (fun _ _ => rfl)]
  simp
theorem WN (a0 : Za) : qH a0 a0 = true := by simp [qH]
theorem WG (a0 : List Za) : qU a0 a0 = true := by
  unfold qU
  rw [zI (F := xx a0 a0) (L := a0.length) (c := fun v1_0 => (!(qH (nth a0 v1_0) (nth a0 v1_0)))) (fun i => by simp [WN]) (fun _ => rfl) (fun _ _ => rfl)]
  simp
theorem jl (a0 : ZL) : zZ a0 a0 = true := by simp [zZ, WG, W2]
theorem qq (a0 : List ZL) : zz a0 a0 = true := by
  unfold zz
  rw [zI (F := yH a0 a0) (L := a0.length) (c := fun v1_0 => (!(zZ (nth a0 v1_0) (nth a0 v1_0)))) (fun i => by simp [jl]) (fun _ => rfl) (fun _ _ => rfl)]
  simp
theorem kz (a0 : Zf) : qT a0 a0 = true := by simp [qT, WE, qq]
theorem Vt (a0 : ZI) : jm a0 a0 = true := by simp [jm, qk, qb, kz]
theorem WV (a0 : List ZI) : j5 a0 a0 = true := by
  unfold j5
  rw [zI (F := jD a0 a0) (L := a0.length) (c := fun v1_0 => (!(jm (nth a0 v1_0) (nth a0 v1_0)))) (fun i => by simp [Vt]) (fun _ => rfl) (fun _ _ => rfl)]
  simp
theorem jx (a0 : ZC) : zY a0 a0 = true := by simp [zY, WV]
theorem qp (a0 : List ZC) : yY a0 a0 = true := by
  unfold yY
  rw [zI (F := yL a0 a0) (L := a0.length) (c := fun v1_0 => (!(zY (nth a0 v1_0) (nth a0 v1_0)))) (fun i => by simp [jx]) (fun _ => rfl) (fun _ _ => rfl)]
  simp
theorem Oi (a0 : Ze) : zw a0 a0 = true := by simp [zw, qp, WO, WQ, y3]
theorem ja (a0 : List YQ) (a1 : Int) : YX a0 a1 = mkL (fun (x : YQ) (k : Int) => ((YQ.mk k (W (k + 1)) (W ((W (k + 1)) + 1)) (W ((W ((W (k + 1)) + 1)) + 1)) (W ((W ((W ((W (k + 1)) + 1)) + 1)) + 1))), (W ((W ((W ((W ((W (k + 1)) + 1)) + 1)) + 1)) + 1)))) a0 a1 := by
  have h := Qw (F := JI) (f := (fun (x : YQ) (k : Int) => ((YQ.mk k (W (k + 1)) (W ((W (k + 1)) + 1)) (W ((W ((W (k + 1)) + 1)) + 1)) (W ((W ((W ((W (k + 1)) + 1)) + 1)) + 1))), (W ((W ((W ((W ((W (k + 1)) + 1)) + 1)) + 1)) + 1))))) (fun _ _ _ _ => rfl) a0 [] (a0.length + 1) a1 (by omega)
  unfold YX
  simp only [List.length_nil, List.nil_append] at h
  rw [h]
@[simp] theorem DF (a0 : List YQ) (a1 : Int) : (YX a0 a1).1.length = a0.length := by rw [ja, XR]
theorem kq : ∀ (x : YQ) (k : Int), 0 ≤ k → k + (cn x : Nat) < 4611686018427387904 → ((fun (x : YQ) (k : Int) => ((YQ.mk k (W (k + 1)) (W ((W (k + 1)) + 1)) (W ((W ((W (k + 1)) + 1)) + 1)) (W ((W ((W ((W (k + 1)) + 1)) + 1)) + 1))), (W ((W ((W ((W ((W (k + 1)) + 1)) + 1)) + 1)) + 1)))) x k).2 = k + (cn x : Nat) := by
  intro x k h0 h
  simp only [Y3, Yj, KN, Y4, YQ.Ya] at h ⊢
  have e0 : W (k + 1) = k + 1 := ZT (by omega) (by omega)
  have e1 : W ((W (k + 1)) + 1) = (W (k + 1)) + 1 := ZT (by omega) (by omega)
  have e2 : W ((W ((W (k + 1)) + 1)) + 1) = (W ((W (k + 1)) + 1)) + 1 := ZT (by omega) (by omega)
  have e3 : W ((W ((W ((W (k + 1)) + 1)) + 1)) + 1) = (W ((W ((W (k + 1)) + 1)) + 1)) + 1 := ZT (by omega) (by omega)
  have e4 : W ((W ((W ((W ((W (k + 1)) + 1)) + 1)) + 1)) + 1) = (W ((W ((W ((W (k + 1)) + 1)) + 1)) + 1)) + 1 := ZT (by omega) (by omega)
  omega
theorem Pz (a0 : List YQ) (a1 : Int) (h0 : 0 ≤ a1) (h : a1 + (cn a0 : Nat) < 4611686018427387904) : (YX a0 a1).2 = a1 + (cn a0 : Nat) := by
  rw [ja]
  exact XP kq a0 a1 h0 h
theorem IN : ∀ (x : YQ) (k : Int) (r : Int → Sum Int Int), 0 ≤ k → k + (cn x : Nat) < 4611686018427387904 → (fun (x : YQ) (k : Int) (r : Int → Sum Int Int) => (bif (x.Number != k) then (.inl (-1)) else (bif (x.ze != (W (k + 1))) then (.inl (-1)) else (bif (x.Method != (W ((W (k + 1)) + 1))) then (.inl (-1)) else (bif (x.Oz != (W ((W ((W (k + 1)) + 1)) + 1))) then (.inl (-1)) else (bif (x.xf != (W ((W ((W ((W (k + 1)) + 1)) + 1)) + 1))) then (.inl (-1)) else (r (W ((W ((W ((W ((W (k + 1)) + 1)) + 1)) + 1)) + 1))))))))) ((fun (x : YQ) (k : Int) => ((YQ.mk k (W (k + 1)) (W ((W (k + 1)) + 1)) (W ((W ((W (k + 1)) + 1)) + 1)) (W ((W ((W ((W (k + 1)) + 1)) + 1)) + 1))), (W ((W ((W ((W ((W (k + 1)) + 1)) + 1)) + 1)) + 1)))) x k).1 k r = r ((fun (x : YQ) (k : Int) => ((YQ.mk k (W (k + 1)) (W ((W (k + 1)) + 1)) (W ((W ((W (k + 1)) + 1)) + 1)) (W ((W ((W ((W (k + 1)) + 1)) + 1)) + 1))), (W ((W ((W ((W ((W (k + 1)) + 1)) + 1)) + 1)) + 1)))) x k).2 := by
  intro x k r h0 h
  simp only [Y3, Yj, KN, Y4, YQ.Ya] at h
  have e0 : W (k + 1) = k + 1 := ZT (by omega) (by omega)
  have e1 : W ((W (k + 1)) + 1) = (W (k + 1)) + 1 := ZT (by omega) (by omega)
  have e2 : W ((W ((W (k + 1)) + 1)) + 1) = (W ((W (k + 1)) + 1)) + 1 := ZT (by omega) (by omega)
  have e3 : W ((W ((W ((W (k + 1)) + 1)) + 1)) + 1) = (W ((W ((W (k + 1)) + 1)) + 1)) + 1 := ZT (by omega) (by omega)
  have e4 : W ((W ((W ((W ((W (k + 1)) + 1)) + 1)) + 1)) + 1) = (W ((W ((W ((W (k + 1)) + 1)) + 1)) + 1)) + 1 := ZT (by omega) (by omega)
  simp
theorem Nd (a0 : List YQ) (a1 : Int) (h0 : 0 ≤ a1) (h : a1 + (cn a0 : Nat) < 4611686018427387904) : a1 ≤ (YX a0 a1).2 ∧ (YX a0 a1).2 ≤ a1 + (cn a0 : Nat) ∧ JN (YX a0 a1).1 a1 = (YX a0 a1).2 := by
  rw [ja]
  have s := XP kq a0 a1 h0 h
  have hh := Qu (z := (mkL (fun (x : YQ) (k : Int) => ((YQ.mk k (W (k + 1)) (W ((W (k + 1)) + 1)) (W ((W ((W (k + 1)) + 1)) + 1)) (W ((W ((W ((W (k + 1)) + 1)) + 1)) + 1))), (W ((W ((W ((W ((W (k + 1)) + 1)) + 1)) + 1)) + 1)))) a0 a1).1) (H := xy (mkL (fun (x : YQ) (k : Int) => ((YQ.mk k (W (k + 1)) (W ((W (k + 1)) + 1)) (W ((W ((W (k + 1)) + 1)) + 1)) (W ((W ((W ((W (k + 1)) + 1)) + 1)) + 1))), (W ((W ((W ((W ((W (k + 1)) + 1)) + 1)) + 1)) + 1)))) a0 a1).1) (G := (fun (x : YQ) (k : Int) (r : Int → Sum Int Int) => (bif (x.Number != k) then (.inl (-1)) else (bif (x.ze != (W (k + 1))) then (.inl (-1)) else (bif (x.Method != (W ((W (k + 1)) + 1))) then (.inl (-1)) else (bif (x.Oz != (W ((W ((W (k + 1)) + 1)) + 1))) then (.inl (-1)) else (bif (x.xf != (W ((W ((W ((W (k + 1)) + 1)) + 1)) + 1))) then (.inl (-1)) else (r (W ((W ((W ((W ((W (k + 1)) + 1)) + 1)) + 1)) + 1)))))))))) (fun _ _ _ => rfl) kq IN a0 [] ((mkL (fun (x : YQ) (k : Int) => ((YQ.mk k (W (k + 1)) (W ((W (k + 1)) + 1)) (W ((W ((W (k + 1)) + 1)) + 1)) (W ((W ((W ((W (k + 1)) + 1)) + 1)) + 1))), (W ((W ((W ((W ((W (k + 1)) + 1)) + 1)) + 1)) + 1)))) a0 a1).1.length + 1) a1 (by simp) (by rw [XR]; omega) h0 h
  simp only [List.length_nil] at hh
  rw [Qm] at *
  refine ⟨by omega, by omega, ?_⟩
  unfold JN
  rw [hh]
theorem K5 (a0 : List ZN) (a1 : Int) : YA a0 a1 = mkL (fun (x : ZN) (k : Int) => ((ZN.mk k (W (k + 1)) (W ((W (k + 1)) + 1))), (W ((W ((W (k + 1)) + 1)) + 1)))) a0 a1 := by
  have h := Qw (F := Y9) (f := (fun (x : ZN) (k : Int) => ((ZN.mk k (W (k + 1)) (W ((W (k + 1)) + 1))), (W ((W ((W (k + 1)) + 1)) + 1))))) (fun _ _ _ _ => rfl) a0 [] (a0.length + 1) a1 (by omega)
  unfold YA
  simp only [List.length_nil, List.nil_append] at h
  rw [h]
@[simp] theorem Hk (a0 : List ZN) (a1 : Int) : (YA a0 a1).1.length = a0.length := by rw [K5, XR]
theorem zS : ∀ (x : ZN) (k : Int), 0 ≤ k → k + (cn x : Nat) < 4611686018427387904 → ((fun (x : ZN) (k : Int) => ((ZN.mk k (W (k + 1)) (W ((W (k + 1)) + 1))), (W ((W ((W (k + 1)) + 1)) + 1)))) x k).2 = k + (cn x : Nat) := by
  intro x k h0 h
  simp only [Y3, Yj, KN, Y4, ZN.Ya] at h ⊢
  have e0 : W (k + 1) = k + 1 := ZT (by omega) (by omega)
  have e1 : W ((W (k + 1)) + 1) = (W (k + 1)) + 1 := ZT (by omega) (by omega)
  have e2 : W ((W ((W (k + 1)) + 1)) + 1) = (W ((W (k + 1)) + 1)) + 1 := ZT (by omega) (by omega)
  omega
theorem Wv (a0 : List ZN) (a1 : Int) (h0 : 0 ≤ a1) (h : a1 + (cn a0 : Nat) < 4611686018427387904) : (YA a0 a1).2 = a1 + (cn a0 : Nat) := by
  rw [K5]
  exact XP zS a0 a1 h0 h
theorem Vy : ∀ (x : ZN) (k : Int) (r : Int → Sum Int Int), 0 ≤ k → k + (cn x : Nat) < 4611686018427387904 → (fun (x : ZN) (k : Int) (r : Int → Sum Int Int) => (bif (x.Id != k) then (.inl (-1)) else (bif (x.Key != (W (k + 1))) then (.inl (-1)) else (bif (x.Error != (W ((W (k + 1)) + 1))) then (.inl (-1)) else (r (W ((W ((W (k + 1)) + 1)) + 1))))))) ((fun (x : ZN) (k : Int) => ((ZN.mk k (W (k + 1)) (W ((W (k + 1)) + 1))), (W ((W ((W (k + 1)) + 1)) + 1)))) x k).1 k r = r ((fun (x : ZN) (k : Int) => ((ZN.mk k (W (k + 1)) (W ((W (k + 1)) + 1))), (W ((W ((W (k + 1)) + 1)) + 1)))) x k).2 := by
  intro x k r h0 h
  simp only [Y3, Yj, KN, Y4, ZN.Ya] at h
  have e0 : W (k + 1) = k + 1 := ZT (by omega) (by omega)
  have e1 : W ((W (k + 1)) + 1) = (W (k + 1)) + 1 := ZT (by omega) (by omega)
  have e2 : W ((W ((W (k + 1)) + 1)) + 1) = (W ((W (k + 1)) + 1)) + 1 := ZT (by omega) (by omega)
  simp
theorem VP (a0 : List ZN) (a1 : Int) (h0 : 0 ≤ a1) (h : a1 + (cn a0 : Nat) < 4611686018427387904) : a1 ≤ (YA a0 a1).2 ∧ (YA a0 a1).2 ≤ a1 + (cn a0 : Nat) ∧ Xb (YA a0 a1).1 a1 = (YA a0 a1).2 := by
  rw [K5]
  have s := XP zS a0 a1 h0 h
  have hh := Qu (z := (mkL (fun (x : ZN) (k : Int) => ((ZN.mk k (W (k + 1)) (W ((W (k + 1)) + 1))), (W ((W ((W (k + 1)) + 1)) + 1)))) a0 a1).1) (H := J3 (mkL (fun (x : ZN) (k : Int) => ((ZN.mk k (W (k + 1)) (W ((W (k + 1)) + 1))), (W ((W ((W (k + 1)) + 1)) + 1)))) a0 a1).1) (G := (fun (x : ZN) (k : Int) (r : Int → Sum Int Int) => (bif (x.Id != k) then (.inl (-1)) else (bif (x.Key != (W (k + 1))) then (.inl (-1)) else (bif (x.Error != (W ((W (k + 1)) + 1))) then (.inl (-1)) else (r (W ((W ((W (k + 1)) + 1)) + 1)))))))) (fun _ _ _ => rfl) zS Vy a0 [] ((mkL (fun (x : ZN) (k : Int) => ((ZN.mk k (W (k + 1)) (W ((W (k + 1)) + 1))), (W ((W ((W (k + 1)) + 1)) + 1)))) a0 a1).1.length + 1) a1 (by simp) (by rw [XR]; omega) h0 h
  simp only [List.length_nil] at hh
  rw [Qm] at *
  refine ⟨by omega, by omega, ?_⟩
  unfold Xb
  rw [hh]
theorem yo (a0 : List ZV) (a1 : Int) : Ys a0 a1 = mkL (fun (x : ZV) (k : Int) => ((ZV.mk k (W (k + 1)) (W ((W (k + 1)) + 1)) (W ((W ((W (k + 1)) + 1)) + 1))), (W ((W ((W ((W (k + 1)) + 1)) + 1)) + 1)))) a0 a1 := by
  have h := Qw (F := Xw) (f := (fun (x : ZV) (k : Int) => ((ZV.mk k (W (k + 1)) (W ((W (k + 1)) + 1)) (W ((W ((W (k + 1)) + 1)) + 1))), (W ((W ((W ((W (k + 1)) + 1)) + 1)) + 1))))) (fun _ _ _ _ => rfl) a0 [] (a0.length + 1) a1 (by omega)
  unfold Ys
  simp only [List.length_nil, List.nil_append] at h
  rw [h]
@[simp] theorem FF (a0 : List ZV) (a1 : Int) : (Ys a0 a1).1.length = a0.length := by rw [yo, XR]
theorem xU : ∀ (x : ZV) (k : Int), 0 ≤ k → k + (cn x : Nat) < 4611686018427387904 → ((fun (x : ZV) (k : Int) => ((ZV.mk k (W (k + 1)) (W ((W (k + 1)) + 1)) (W ((W ((W (k + 1)) + 1)) + 1))), (W ((W ((W ((W (k + 1)) + 1)) + 1)) + 1)))) x k).2 = k + (cn x : Nat) := by
  intro x k h0 h
  simp only [Y3, Yj, KN, Y4, ZV.Ya] at h ⊢
  have e0 : W (k + 1) = k + 1 := ZT (by omega) (by omega)
  have e1 : W ((W (k + 1)) + 1) = (W (k + 1)) + 1 := ZT (by omega) (by omega)
  have e2 : W ((W ((W (k + 1)) + 1)) + 1) = (W ((W (k + 1)) + 1)) + 1 := ZT (by omega) (by omega)
  have e3 : W ((W ((W ((W (k + 1)) + 1)) + 1)) + 1) = (W ((W ((W (k + 1)) + 1)) + 1)) + 1 := ZT (by omega) (by omega)
  omega
theorem Uo (a0 : List ZV) (a1 : Int) (h0 : 0 ≤ a1) (h : a1 + (cn a0 : Nat) < 4611686018427387904) : (Ys a0 a1).2 = a1 + (cn a0 : Nat) := by
  rw [yo]
  exact XP xU a0 a1 h0 h
theorem S8 : ∀ (x : ZV) (k : Int) (r : Int → Sum Int Int), 0 ≤ k → k + (cn x : Nat) < 4611686018427387904 → (fun (x : ZV) (k : Int) (r : Int → Sum Int Int) => (bif (x.Id != k) then (.inl (-1)) else (bif (x.WX != (W (k + 1))) then (.inl (-1)) else (bif (x.Ends != (W ((W (k + 1)) + 1))) then (.inl (-1)) else (bif (x.qd != (W ((W ((W (k + 1)) + 1)) + 1))) then (.inl (-1)) else (r (W ((W ((W ((W (k + 1)) + 1)) + 1)) + 1)))))))) ((fun (x : ZV) (k : Int) => ((ZV.mk k (W (k + 1)) (W ((W (k + 1)) + 1)) (W ((W ((W (k + 1)) + 1)) + 1))), (W ((W ((W ((W (k + 1)) + 1)) + 1)) + 1)))) x k).1 k r = r ((fun (x : ZV) (k : Int) => ((ZV.mk k (W (k + 1)) (W ((W (k + 1)) + 1)) (W ((W ((W (k + 1)) + 1)) + 1))), (W ((W ((W ((W (k + 1)) + 1)) + 1)) + 1)))) x k).2 := by
  intro x k r h0 h
  simp only [Y3, Yj, KN, Y4, ZV.Ya] at h
  have e0 : W (k + 1) = k + 1 := ZT (by omega) (by omega)
  have e1 : W ((W (k + 1)) + 1) = (W (k + 1)) + 1 := ZT (by omega) (by omega)
  have e2 : W ((W ((W (k + 1)) + 1)) + 1) = (W ((W (k + 1)) + 1)) + 1 := ZT (by omega) (by omega)
  have e3 : W ((W ((W ((W (k + 1)) + 1)) + 1)) + 1) = (W ((W ((W (k + 1)) + 1)) + 1)) + 1 := ZT (by omega) (by omega)
  simp
theorem TW (a0 : List ZV) (a1 : Int) (h0 : 0 ≤ a1) (h : a1 + (cn a0 : Nat) < 4611686018427387904) : a1 ≤ (Ys a0 a1).2 ∧ (Ys a0 a1).2 ≤ a1 + (cn a0 : Nat) ∧ KK (Ys a0 a1).1 a1 = (Ys a0 a1).2 := by
  rw [yo]
  have s := XP xU a0 a1 h0 h
  have hh := Qu (z := (mkL (fun (x : ZV) (k : Int) => ((ZV.mk k (W (k + 1)) (W ((W (k + 1)) + 1)) (W ((W ((W (k + 1)) + 1)) + 1))), (W ((W ((W ((W (k + 1)) + 1)) + 1)) + 1)))) a0 a1).1) (H := zH (mkL (fun (x : ZV) (k : Int) => ((ZV.mk k (W (k + 1)) (W ((W (k + 1)) + 1)) (W ((W ((W (k + 1)) + 1)) + 1))), (W ((W ((W ((W (k + 1)) + 1)) + 1)) + 1)))) a0 a1).1) (G := (fun (x : ZV) (k : Int) (r : Int → Sum Int Int) => (bif (x.Id != k) then (.inl (-1)) else (bif (x.WX != (W (k + 1))) then (.inl (-1)) else (bif (x.Ends != (W ((W (k + 1)) + 1))) then (.inl (-1)) else (bif (x.qd != (W ((W ((W (k + 1)) + 1)) + 1))) then (.inl (-1)) else (r (W ((W ((W ((W (k + 1)) + 1)) + 1)) + 1))))))))) (fun _ _ _ => rfl) xU S8 a0 [] ((mkL (fun (x : ZV) (k : Int) => ((ZV.mk k (W (k + 1)) (W ((W (k + 1)) + 1)) (W ((W ((W (k + 1)) + 1)) + 1))), (W ((W ((W ((W (k + 1)) + 1)) + 1)) + 1)))) a0 a1).1.length + 1) a1 (by simp) (by rw [XR]; omega) h0 h
  simp only [List.length_nil] at hh
  rw [Qm] at *
  refine ⟨by omega, by omega, ?_⟩
  unfold KK
  rw [hh]
@[simp] theorem Hp (a0 : YJ) (a1 : Int) : (Zd a0 a1).1.XE.length = a0.XE.length := by simp [Zd]
@[simp] theorem R0 (a0 : YJ) (a1 : Int) : (Zd a0 a1).1.Zc.length = a0.Zc.length := by simp [Zd]
@[simp] theorem Mj (a0 : YJ) (a1 : Int) : (Zd a0 a1).1.Methods.length = a0.Methods.length := by simp [Zd]
@[simp] theorem FN (a0 : YJ) (a1 : Int) : (Zd a0 a1).1.xh = a0.xh := rfl
@[simp] theorem EM (a0 : YJ) (a1 : Int) : (Zd a0 a1).1.Now = a0.Now := rfl
theorem PN (a0 : YJ) (a1 : Int) (h0 : 0 ≤ a1) (h : a1 + (cn a0 : Nat) < 4611686018427387904) : a1 ≤ (Zd a0 a1).2 ∧ (Zd a0 a1).2 ≤ a1 + (cn a0 : Nat) ∧ Yn (Zd a0 a1).1 a1 = (Zd a0 a1).2 := by
  simp only [Y3, Yj, Y4, YJ.Ya] at h ⊢
  obtain ⟨m0, n0, h0⟩ := Nd a0.XE a1 (by omega) (by omega)
  have q0 := Pz a0.XE a1 (by omega) (by omega)
  have o0 : ¬ (YX a0.XE a1).2 < 0 := by omega
  obtain ⟨m3, n3, h3⟩ := VP a0.Zc (YX a0.XE a1).2 (by omega) (by omega)
  have q3 := Wv a0.Zc (YX a0.XE a1).2 (by omega) (by omega)
  have o3 : ¬ (YA a0.Zc (YX a0.XE a1).2).2 < 0 := by omega
  obtain ⟨m6, n6, h6⟩ := TW a0.Methods (YA a0.Zc (YX a0.XE a1).2).2 (by omega) (by omega)
  have q6 := Uo a0.Methods (YA a0.Zc (YX a0.XE a1).2).2 (by omega) (by omega)
  have o6 : ¬ (Ys a0.Methods (YA a0.Zc (YX a0.XE a1).2).2).2 < 0 := by omega
  refine ⟨by simp only [Zd]; omega, by simp only [Zd]; omega, ?_⟩
  simp [Zd, Yn, h0, h3, h6, o0, o3, o6]
theorem qV (a0 : List Zz) (a1 : Int) : Zr a0 a1 = mkL (fun (x : Zz) (k : Int) => ((Zz.mk k (W (k + 1)) (W ((W (k + 1)) + 1)) (W ((W ((W (k + 1)) + 1)) + 1)) (W ((W ((W ((W (k + 1)) + 1)) + 1)) + 1)) (W ((W ((W ((W ((W (k + 1)) + 1)) + 1)) + 1)) + 1)) (W ((W ((W ((W ((W ((W (k + 1)) + 1)) + 1)) + 1)) + 1)) + 1))), (W ((W ((W ((W ((W ((W ((W (k + 1)) + 1)) + 1)) + 1)) + 1)) + 1)) + 1)))) a0 a1 := by
  have h := Qw (F := QS) (f := (fun (x : Zz) (k : Int) => ((Zz.mk k (W (k + 1)) (W ((W (k + 1)) + 1)) (W ((W ((W (k + 1)) + 1)) + 1)) (W ((W ((W ((W (k + 1)) + 1)) + 1)) + 1)) (W ((W ((W ((W ((W (k + 1)) + 1)) + 1)) + 1)) + 1)) (W ((W ((W ((W ((W ((W (k + 1)) + 1)) + 1)) + 1)) + 1)) + 1))), (W ((W ((W ((W ((W ((W ((W (k + 1)) + 1)) + 1)) + 1)) + 1)) + 1)) + 1))))) (fun _ _ _ _ => rfl) a0 [] (a0.length + 1) a1 (by omega)
  unfold Zr
  simp only [List.length_nil, List.nil_append] at h
  rw [h]
@[simp] theorem EU (a0 : List Zz) (a1 : Int) : (Zr a0 a1).1.length = a0.length := by rw [qV, XR]
theorem jV : ∀ (x : Zz) (k : Int), 0 ≤ k → k + (cn x : Nat) < 4611686018427387904 → ((fun (x : Zz) (k : Int) => ((Zz.mk k (W (k + 1)) (W ((W (k + 1)) + 1)) (W ((W ((W (k + 1)) + 1)) + 1)) (W ((W ((W ((W (k + 1)) + 1)) + 1)) + 1)) (W ((W ((W ((W ((W (k + 1)) + 1)) + 1)) + 1)) + 1)) (W ((W ((W ((W ((W ((W (k + 1)) + 1)) + 1)) + 1)) + 1)) + 1))), (W ((W ((W ((W ((W ((W ((W (k + 1)) + 1)) + 1)) + 1)) + 1)) + 1)) + 1)))) x k).2 = k + (cn x : Nat) := by
  intro x k h0 h
  simp only [Y3, Yj, KN, Y4, Zz.Ya] at h ⊢
  have e0 : W (k + 1) = k + 1 := ZT (by omega) (by omega)
  have e1 : W ((W (k + 1)) + 1) = (W (k + 1)) + 1 := ZT (by omega) (by omega)
  have e2 : W ((W ((W (k + 1)) + 1)) + 1) = (W ((W (k + 1)) + 1)) + 1 := ZT (by omega) (by omega)
  have e3 : W ((W ((W ((W (k + 1)) + 1)) + 1)) + 1) = (W ((W ((W (k + 1)) + 1)) + 1)) + 1 := ZT (by omega) (by omega)
  have e4 : W ((W ((W ((W ((W (k + 1)) + 1)) + 1)) + 1)) + 1) = (W ((W ((W ((W (k + 1)) + 1)) + 1)) + 1)) + 1 := ZT (by omega) (by omega)
  have e5 : W ((W ((W ((W ((W ((W (k + 1)) + 1)) + 1)) + 1)) + 1)) + 1) = (W ((W ((W ((W ((W (k + 1)) + 1)) + 1)) + 1)) + 1)) + 1 := ZT (by omega) (by omega)
  have e6 : W ((W ((W ((W ((W ((W ((W (k + 1)) + 1)) + 1)) + 1)) + 1)) + 1)) + 1) = (W ((W ((W ((W ((W ((W (k + 1)) + 1)) + 1)) + 1)) + 1)) + 1)) + 1 := ZT (by omega) (by omega)
  omega
theorem RT (a0 : List Zz) (a1 : Int) (h0 : 0 ≤ a1) (h : a1 + (cn a0 : Nat) < 4611686018427387904) : (Zr a0 a1).2 = a1 + (cn a0 : Nat) := by
  rw [qV]
  exact XP jV a0 a1 h0 h
theorem Nj : ∀ (x : Zz) (k : Int) (r : Int → Sum Int Int), 0 ≤ k → k + (cn x : Nat) < 4611686018427387904 → (fun (x : Zz) (k : Int) (r : Int → Sum Int Int) => (bif (x.QM != k) then (.inl (-1)) else (bif (x.Key != (W (k + 1))) then (.inl (-1)) else (bif (x.ze != (W ((W (k + 1)) + 1))) then (.inl (-1)) else (bif (x.xo != (W ((W ((W (k + 1)) + 1)) + 1))) then (.inl (-1)) else (bif (x.To != (W ((W ((W ((W (k + 1)) + 1)) + 1)) + 1))) then (.inl (-1)) else (bif (x.KW != (W ((W ((W ((W ((W (k + 1)) + 1)) + 1)) + 1)) + 1))) then (.inl (-1)) else (bif (x.Mark != (W ((W ((W ((W ((W ((W (k + 1)) + 1)) + 1)) + 1)) + 1)) + 1))) then (.inl (-1)) else (r (W ((W ((W ((W ((W ((W ((W (k + 1)) + 1)) + 1)) + 1)) + 1)) + 1)) + 1))))))))))) ((fun (x : Zz) (k : Int) => ((Zz.mk k (W (k + 1)) (W ((W (k + 1)) + 1)) (W ((W ((W (k + 1)) + 1)) + 1)) (W ((W ((W ((W (k + 1)) + 1)) + 1)) + 1)) (W ((W ((W ((W ((W (k + 1)) + 1)) + 1)) + 1)) + 1)) (W ((W ((W ((W ((W ((W (k + 1)) + 1)) + 1)) + 1)) + 1)) + 1))), (W ((W ((W ((W ((W ((W ((W (k + 1)) + 1)) + 1)) + 1)) + 1)) + 1)) + 1)))) x k).1 k r = r ((fun (x : Zz) (k : Int) => ((Zz.mk k (W (k + 1)) (W ((W (k + 1)) + 1)) (W ((W ((W (k + 1)) + 1)) + 1)) (W ((W ((W ((W (k + 1)) + 1)) + 1)) + 1)) (W ((W ((W ((W ((W (k + 1)) + 1)) + 1)) + 1)) + 1)) (W ((W ((W ((W ((W ((W (k + 1)) + 1)) + 1)) + 1)) + 1)) + 1))), (W ((W ((W ((W ((W ((W ((W (k + 1)) + 1)) + 1)) + 1)) + 1)) + 1)) + 1)))) x k).2 := by
  intro x k r h0 h
  simp only [Y3, Yj, KN, Y4, Zz.Ya] at h
  have e0 : W (k + 1) = k + 1 := ZT (by omega) (by omega)
  have e1 : W ((W (k + 1)) + 1) = (W (k + 1)) + 1 := ZT (by omega) (by omega)
  have e2 : W ((W ((W (k + 1)) + 1)) + 1) = (W ((W (k + 1)) + 1)) + 1 := ZT (by omega) (by omega)
  have e3 : W ((W ((W ((W (k + 1)) + 1)) + 1)) + 1) = (W ((W ((W (k + 1)) + 1)) + 1)) + 1 := ZT (by omega) (by omega)
  have e4 : W ((W ((W ((W ((W (k + 1)) + 1)) + 1)) + 1)) + 1) = (W ((W ((W ((W (k + 1)) + 1)) + 1)) + 1)) + 1 := ZT (by omega) (by omega)
  have e5 : W ((W ((W ((W ((W ((W (k + 1)) + 1)) + 1)) + 1)) + 1)) + 1) = (W ((W ((W ((W ((W (k + 1)) + 1)) + 1)) + 1)) + 1)) + 1 := ZT (by omega) (by omega)
  have e6 : W ((W ((W ((W ((W ((W ((W (k + 1)) + 1)) + 1)) + 1)) + 1)) + 1)) + 1) = (W ((W ((W ((W ((W ((W (k + 1)) + 1)) + 1)) + 1)) + 1)) + 1)) + 1 := ZT (by omega) (by omega)
  simp
theorem Ph (a0 : List Zz) (a1 : Int) (h0 : 0 ≤ a1) (h : a1 + (cn a0 : Nat) < 4611686018427387904) : a1 ≤ (Zr a0 a1).2 ∧ (Zr a0 a1).2 ≤ a1 + (cn a0 : Nat) ∧ Yz (Zr a0 a1).1 a1 = (Zr a0 a1).2 := by
  rw [qV]
  have s := XP jV a0 a1 h0 h
  have hh := Qu (z := (mkL (fun (x : Zz) (k : Int) => ((Zz.mk k (W (k + 1)) (W ((W (k + 1)) + 1)) (W ((W ((W (k + 1)) + 1)) + 1)) (W ((W ((W ((W (k + 1)) + 1)) + 1)) + 1)) (W ((W ((W ((W ((W (k + 1)) + 1)) + 1)) + 1)) + 1)) (W ((W ((W ((W ((W ((W (k + 1)) + 1)) + 1)) + 1)) + 1)) + 1))), (W ((W ((W ((W ((W ((W ((W (k + 1)) + 1)) + 1)) + 1)) + 1)) + 1)) + 1)))) a0 a1).1) (H := y5 (mkL (fun (x : Zz) (k : Int) => ((Zz.mk k (W (k + 1)) (W ((W (k + 1)) + 1)) (W ((W ((W (k + 1)) + 1)) + 1)) (W ((W ((W ((W (k + 1)) + 1)) + 1)) + 1)) (W ((W ((W ((W ((W (k + 1)) + 1)) + 1)) + 1)) + 1)) (W ((W ((W ((W ((W ((W (k + 1)) + 1)) + 1)) + 1)) + 1)) + 1))), (W ((W ((W ((W ((W ((W ((W (k + 1)) + 1)) + 1)) + 1)) + 1)) + 1)) + 1)))) a0 a1).1) (G := (fun (x : Zz) (k : Int) (r : Int → Sum Int Int) => (bif (x.QM != k) then (.inl (-1)) else (bif (x.Key != (W (k + 1))) then (.inl (-1)) else (bif (x.ze != (W ((W (k + 1)) + 1))) then (.inl (-1)) else (bif (x.xo != (W ((W ((W (k + 1)) + 1)) + 1))) then (.inl (-1)) else (bif (x.To != (W ((W ((W ((W (k + 1)) + 1)) + 1)) + 1))) then (.inl (-1)) else (bif (x.KW != (W ((W ((W ((W ((W (k + 1)) + 1)) + 1)) + 1)) + 1))) then (.inl (-1)) else (bif (x.Mark != (W ((W ((W ((W ((W ((W (k + 1)) + 1)) + 1)) + 1)) + 1)) + 1))) then (.inl (-1)) else (r (W ((W ((W ((W ((W ((W ((W (k + 1)) + 1)) + 1)) + 1)) + 1)) + 1)) + 1)))))))))))) (fun _ _ _ => rfl) jV Nj a0 [] ((mkL (fun (x : Zz) (k : Int) => ((Zz.mk k (W (k + 1)) (W ((W (k + 1)) + 1)) (W ((W ((W (k + 1)) + 1)) + 1)) (W ((W ((W ((W (k + 1)) + 1)) + 1)) + 1)) (W ((W ((W ((W ((W (k + 1)) + 1)) + 1)) + 1)) + 1)) (W ((W ((W ((W ((W ((W (k + 1)) + 1)) + 1)) + 1)) + 1)) + 1))), (W ((W ((W ((W ((W ((W ((W (k + 1)) + 1)) + 1)) + 1)) + 1)) + 1)) + 1)))) a0 a1).1.length + 1) a1 (by simp) (by rw [XR]; omega) h0 h
  simp only [List.length_nil] at hh
  rw [Qm] at *
  refine ⟨by omega, by omega, ?_⟩
  unfold Yz
  rw [hh]
theorem jO (a0 : List Int) (a1 : Int) : ZB a0 a1 = mkL (fun (x : Int) (k : Int) => (k, (W (k + 1)))) a0 a1 := by
  have h := Qw (F := JD) (f := (fun (x : Int) (k : Int) => (k, (W (k + 1))))) (fun _ _ _ _ => rfl) a0 [] (a0.length + 1) a1 (by omega)
  unfold ZB
  simp only [List.length_nil, List.nil_append] at h
  rw [h]
@[simp] theorem DB (a0 : List Int) (a1 : Int) : (ZB a0 a1).1.length = a0.length := by rw [jO, XR]
theorem kI : ∀ (x : Int) (k : Int), 0 ≤ k → k + (cn x : Nat) < 4611686018427387904 → ((fun (x : Int) (k : Int) => (k, (W (k + 1)))) x k).2 = k + (cn x : Nat) := by
  intro x k h0 h
  simp only [Y3, Yj, KN, Y4] at h ⊢
  have e0 : W (k + 1) = k + 1 := ZT (by omega) (by omega)
  omega
theorem Xn (a0 : List Int) (a1 : Int) (h0 : 0 ≤ a1) (h : a1 + (cn a0 : Nat) < 4611686018427387904) : (ZB a0 a1).2 = a1 + (cn a0 : Nat) := by
  rw [jO]
  exact XP kI a0 a1 h0 h
theorem VY (a0 : List Int) (a1 : Int) (h0 : 0 ≤ a1) (h : a1 + (cn a0 : Nat) < 4611686018427387904) : a1 ≤ (ZB a0 a1).2 ∧ (ZB a0 a1).2 ≤ a1 + (cn a0 : Nat) := by
  have := Xn a0 a1 h0 h
  omega
theorem Lf : ∀ (x : Int) (k : Int) (r : Int → Sum Int Int), 0 ≤ k → k + (cn x : Nat) < 4611686018427387904 → (fun (x : Int) (k : Int) (r : Int → Sum Int Int) => (bif (x != k) then (.inl (-1)) else (r (W (k + 1))))) ((fun (x : Int) (k : Int) => (k, (W (k + 1)))) x k).1 k r = r ((fun (x : Int) (k : Int) => (k, (W (k + 1)))) x k).2 := by
  intro x k r h0 h
  simp only [Y3, Yj, KN, Y4] at h
  have e0 : W (k + 1) = k + 1 := ZT (by omega) (by omega)
  simp
theorem KF (a0 : List Int) (a1 : Int) (h0 : 0 ≤ a1) (h : a1 + (cn a0 : Nat) < 4611686018427387904) : a1 ≤ (ZB a0 a1).2 ∧ (ZB a0 a1).2 ≤ a1 + (cn a0 : Nat) ∧ ZU (ZB a0 a1).1 a1 = (ZB a0 a1).2 := by
  rw [jO]
  have s := XP kI a0 a1 h0 h
  have hh := Qu (z := (mkL (fun (x : Int) (k : Int) => (k, (W (k + 1)))) a0 a1).1) (H := qA (mkL (fun (x : Int) (k : Int) => (k, (W (k + 1)))) a0 a1).1) (G := (fun (x : Int) (k : Int) (r : Int → Sum Int Int) => (bif (x != k) then (.inl (-1)) else (r (W (k + 1)))))) (fun _ _ _ => rfl) kI Lf a0 [] ((mkL (fun (x : Int) (k : Int) => (k, (W (k + 1)))) a0 a1).1.length + 1) a1 (by simp) (by rw [XR]; omega) h0 h
  simp only [List.length_nil] at hh
  rw [Qm] at *
  refine ⟨by omega, by omega, ?_⟩
  unfold ZU
  rw [hh]
theorem yd (a0 : List ByteArray) (a1 : Int) : ZA a0 a1 = mkL (fun (x : ByteArray) (k : Int) => ((XD k), (W (k + 1)))) a0 a1 := by
  have h := Qw (F := Xt) (f := (fun (x : ByteArray) (k : Int) => ((XD k), (W (k + 1))))) (fun _ _ _ _ => rfl) a0 [] (a0.length + 1) a1 (by omega)
  unfold ZA
  simp only [List.length_nil, List.nil_append] at h
  rw [h]
@[simp] theorem G5 (a0 : List ByteArray) (a1 : Int) : (ZA a0 a1).1.length = a0.length := by rw [yd, XR]
theorem xW : ∀ (x : ByteArray) (k : Int), 0 ≤ k → k + (cn x : Nat) < 4611686018427387904 → ((fun (x : ByteArray) (k : Int) => ((XD k), (W (k + 1)))) x k).2 = k + (cn x : Nat) := by
  intro x k h0 h
  simp only [Y3, Yj, KN, Y4] at h ⊢
  have e0 : W (k + 1) = k + 1 := ZT (by omega) (by omega)
  omega
theorem z6 (a0 : List ByteArray) (a1 : Int) (h0 : 0 ≤ a1) (h : a1 + (cn a0 : Nat) < 4611686018427387904) : (ZA a0 a1).2 = a1 + (cn a0 : Nat) := by
  rw [yd]
  exact XP xW a0 a1 h0 h
theorem Tl (a0 : List ByteArray) (a1 : Int) (h0 : 0 ≤ a1) (h : a1 + (cn a0 : Nat) < 4611686018427387904) : a1 ≤ (ZA a0 a1).2 ∧ (ZA a0 a1).2 ≤ a1 + (cn a0 : Nat) := by
  have := z6 a0 a1 h0 h
  omega
theorem RU : ∀ (x : ByteArray) (k : Int) (r : Int → Sum Int Int), 0 ≤ k → k + (cn x : Nat) < 4611686018427387904 → (fun (x : ByteArray) (k : Int) (r : Int → Sum Int Int) => (bif (!decide (x = (XD k))) then (.inl (-1)) else (r (W (k + 1))))) ((fun (x : ByteArray) (k : Int) => ((XD k), (W (k + 1)))) x k).1 k r = r ((fun (x : ByteArray) (k : Int) => ((XD k), (W (k + 1)))) x k).2 := by
  intro x k r h0 h
  simp only [Y3, Yj, KN, Y4] at h
  have e0 : W (k + 1) = k + 1 := ZT (by omega) (by omega)
  simp
theorem Tw (a0 : List ByteArray) (a1 : Int) (h0 : 0 ≤ a1) (h : a1 + (cn a0 : Nat) < 4611686018427387904) : a1 ≤ (ZA a0 a1).2 ∧ (ZA a0 a1).2 ≤ a1 + (cn a0 : Nat) ∧ ZY (ZA a0 a1).1 a1 = (ZA a0 a1).2 := by
  rw [yd]
  have s := XP xW a0 a1 h0 h
  have hh := Qu (z := (mkL (fun (x : ByteArray) (k : Int) => ((XD k), (W (k + 1)))) a0 a1).1) (H := zJ (mkL (fun (x : ByteArray) (k : Int) => ((XD k), (W (k + 1)))) a0 a1).1) (G := (fun (x : ByteArray) (k : Int) (r : Int → Sum Int Int) => (bif (!decide (x = (XD k))) then (.inl (-1)) else (r (W (k + 1)))))) (fun _ _ _ => rfl) xW RU a0 [] ((mkL (fun (x : ByteArray) (k : Int) => ((XD k), (W (k + 1)))) a0 a1).1.length + 1) a1 (by simp) (by rw [XR]; omega) h0 h
  simp only [List.length_nil] at hh
  rw [Qm] at *
  refine ⟨by omega, by omega, ?_⟩
  unfold ZY
  rw [hh]
theorem xS (a0 : List ZM) (a1 : Int) : ZW a0 a1 = mkL (fun (x : ZM) (k : Int) => ((ZM.mk k (ZB x.Yh (W (k + 1))).1 (ZB x.Yh (W (k + 1))).2), (W ((ZB x.Yh (W (k + 1))).2 + 1)))) a0 a1 := by
  have h := Qw (F := X9) (f := (fun (x : ZM) (k : Int) => ((ZM.mk k (ZB x.Yh (W (k + 1))).1 (ZB x.Yh (W (k + 1))).2), (W ((ZB x.Yh (W (k + 1))).2 + 1))))) (fun _ _ _ _ => rfl) a0 [] (a0.length + 1) a1 (by omega)
  unfold ZW
  simp only [List.length_nil, List.nil_append] at h
  rw [h]
@[simp] theorem Fv (a0 : List ZM) (a1 : Int) : (ZW a0 a1).1.length = a0.length := by rw [xS, XR]
theorem qR : ∀ (x : ZM) (k : Int), 0 ≤ k → k + (cn x : Nat) < 4611686018427387904 → ((fun (x : ZM) (k : Int) => ((ZM.mk k (ZB x.Yh (W (k + 1))).1 (ZB x.Yh (W (k + 1))).2), (W ((ZB x.Yh (W (k + 1))).2 + 1)))) x k).2 = k + (cn x : Nat) := by
  intro x k h0 h
  simp only [Y3, Yj, KN, Y4, ZM.Ya] at h ⊢
  have e0 : W (k + 1) = k + 1 := ZT (by omega) (by omega)
  obtain ⟨m1, n1⟩ := VY x.Yh (W (k + 1)) (by omega) (by omega)
  have q1 := Xn x.Yh (W (k + 1)) (by omega) (by omega)
  have o1 : ¬ (ZB x.Yh (W (k + 1))).2 < 0 := by omega
  have e4 : W ((ZB x.Yh (W (k + 1))).2 + 1) = (ZB x.Yh (W (k + 1))).2 + 1 := ZT (by omega) (by omega)
  omega
theorem yq (a0 : List ZM) (a1 : Int) (h0 : 0 ≤ a1) (h : a1 + (cn a0 : Nat) < 4611686018427387904) : (ZW a0 a1).2 = a1 + (cn a0 : Nat) := by
  rw [xS]
  exact XP qR a0 a1 h0 h
theorem RM (a0 : List ZM) (a1 : Int) (h0 : 0 ≤ a1) (h : a1 + (cn a0 : Nat) < 4611686018427387904) : a1 ≤ (ZW a0 a1).2 ∧ (ZW a0 a1).2 ≤ a1 + (cn a0 : Nat) := by
  have := yq a0 a1 h0 h
  omega
theorem OH : ∀ (x : ZM) (k : Int) (r : Int → Sum Int Int), 0 ≤ k → k + (cn x : Nat) < 4611686018427387904 → (fun (x : ZM) (k : Int) (r : Int → Sum Int Int) => (bif (x.Key != k) then (.inl (-1)) else (bif (decide ((ZU x.Yh (W (k + 1))) < 0)) then (.inl (-1)) else (bif (x.Mark != (ZU x.Yh (W (k + 1)))) then (.inl (-1)) else (r (W ((ZU x.Yh (W (k + 1))) + 1))))))) ((fun (x : ZM) (k : Int) => ((ZM.mk k (ZB x.Yh (W (k + 1))).1 (ZB x.Yh (W (k + 1))).2), (W ((ZB x.Yh (W (k + 1))).2 + 1)))) x k).1 k r = r ((fun (x : ZM) (k : Int) => ((ZM.mk k (ZB x.Yh (W (k + 1))).1 (ZB x.Yh (W (k + 1))).2), (W ((ZB x.Yh (W (k + 1))).2 + 1)))) x k).2 := by
  intro x k r h0 h
  simp only [Y3, Yj, KN, Y4, ZM.Ya] at h
  have e0 : W (k + 1) = k + 1 := ZT (by omega) (by omega)
  obtain ⟨m1, n1, h1⟩ := KF x.Yh (W (k + 1)) (by omega) (by omega)
  have q1 := Xn x.Yh (W (k + 1)) (by omega) (by omega)
  have o1 : ¬ (ZB x.Yh (W (k + 1))).2 < 0 := by omega
  have e4 : W ((ZB x.Yh (W (k + 1))).2 + 1) = (ZB x.Yh (W (k + 1))).2 + 1 := ZT (by omega) (by omega)
  simp [h1, o1]
theorem Rv (a0 : List ZM) (a1 : Int) (h0 : 0 ≤ a1) (h : a1 + (cn a0 : Nat) < 4611686018427387904) : a1 ≤ (ZW a0 a1).2 ∧ (ZW a0 a1).2 ≤ a1 + (cn a0 : Nat) ∧ Y0 (ZW a0 a1).1 a1 = (ZW a0 a1).2 := by
  rw [xS]
  have s := XP qR a0 a1 h0 h
  have hh := Qu (z := (mkL (fun (x : ZM) (k : Int) => ((ZM.mk k (ZB x.Yh (W (k + 1))).1 (ZB x.Yh (W (k + 1))).2), (W ((ZB x.Yh (W (k + 1))).2 + 1)))) a0 a1).1) (H := yU (mkL (fun (x : ZM) (k : Int) => ((ZM.mk k (ZB x.Yh (W (k + 1))).1 (ZB x.Yh (W (k + 1))).2), (W ((ZB x.Yh (W (k + 1))).2 + 1)))) a0 a1).1) (G := (fun (x : ZM) (k : Int) (r : Int → Sum Int Int) => (bif (x.Key != k) then (.inl (-1)) else (bif (decide ((ZU x.Yh (W (k + 1))) < 0)) then (.inl (-1)) else (bif (x.Mark != (ZU x.Yh (W (k + 1)))) then (.inl (-1)) else (r (W ((ZU x.Yh (W (k + 1))) + 1)))))))) (fun _ _ _ => rfl) qR OH a0 [] ((mkL (fun (x : ZM) (k : Int) => ((ZM.mk k (ZB x.Yh (W (k + 1))).1 (ZB x.Yh (W (k + 1))).2), (W ((ZB x.Yh (W (k + 1))).2 + 1)))) a0 a1).1.length + 1) a1 (by simp) (by rw [XR]; omega) h0 h
  simp only [List.length_nil] at hh
  rw [Qm] at *
  refine ⟨by omega, by omega, ?_⟩
  unfold Y0
  rw [hh]
theorem qP (a0 : List Z4) (a1 : Int) : ZZ a0 a1 = mkL (fun (x : Z4) (k : Int) => ((Z4.mk k ((Int.tmod (W (k + 1)) 3) == 0)), (W ((W (k + 1)) + 1)))) a0 a1 := by
  have h := Qw (F := QT) (f := (fun (x : Z4) (k : Int) => ((Z4.mk k ((Int.tmod (W (k + 1)) 3) == 0)), (W ((W (k + 1)) + 1))))) (fun _ _ _ _ => rfl) a0 [] (a0.length + 1) a1 (by omega)
  unfold ZZ
  simp only [List.length_nil, List.nil_append] at h
  rw [h]
@[simp] theorem EP (a0 : List Z4) (a1 : Int) : (ZZ a0 a1).1.length = a0.length := by rw [qP, XR]
theorem jT : ∀ (x : Z4) (k : Int), 0 ≤ k → k + (cn x : Nat) < 4611686018427387904 → ((fun (x : Z4) (k : Int) => ((Z4.mk k ((Int.tmod (W (k + 1)) 3) == 0)), (W ((W (k + 1)) + 1)))) x k).2 = k + (cn x : Nat) := by
  intro x k h0 h
  simp only [Y3, Yj, KN, Y4, Z4.Ya] at h ⊢
  have e0 : W (k + 1) = k + 1 := ZT (by omega) (by omega)
  have e1 : W ((W (k + 1)) + 1) = (W (k + 1)) + 1 := ZT (by omega) (by omega)
  omega
theorem xV (a0 : List Z4) (a1 : Int) (h0 : 0 ≤ a1) (h : a1 + (cn a0 : Nat) < 4611686018427387904) : (ZZ a0 a1).2 = a1 + (cn a0 : Nat) := by
  rw [qP]
  exact XP jT a0 a1 h0 h
theorem Pp (a0 : List Z4) (a1 : Int) (h0 : 0 ≤ a1) (h : a1 + (cn a0 : Nat) < 4611686018427387904) : a1 ≤ (ZZ a0 a1).2 ∧ (ZZ a0 a1).2 ≤ a1 + (cn a0 : Nat) := by
  have := xV a0 a1 h0 h
  omega
theorem Nz : ∀ (x : Z4) (k : Int) (r : Int → Sum Int Int), 0 ≤ k → k + (cn x : Nat) < 4611686018427387904 → (fun (x : Z4) (k : Int) (r : Int → Sum Int Int) => (bif (x.YZ != k) then (.inl (-1)) else (bif (!(x.Left == ((Int.tmod (W (k + 1)) 3) == 0))) then (.inl (-1)) else (r (W ((W (k + 1)) + 1)))))) ((fun (x : Z4) (k : Int) => ((Z4.mk k ((Int.tmod (W (k + 1)) 3) == 0)), (W ((W (k + 1)) + 1)))) x k).1 k r = r ((fun (x : Z4) (k : Int) => ((Z4.mk k ((Int.tmod (W (k + 1)) 3) == 0)), (W ((W (k + 1)) + 1)))) x k).2 := by
  intro x k r h0 h
  simp only [Y3, Yj, KN, Y4, Z4.Ya] at h
  have e0 : W (k + 1) = k + 1 := ZT (by omega) (by omega)
  have e1 : W ((W (k + 1)) + 1) = (W (k + 1)) + 1 := ZT (by omega) (by omega)
  simp
theorem PA (a0 : List Z4) (a1 : Int) (h0 : 0 ≤ a1) (h : a1 + (cn a0 : Nat) < 4611686018427387904) : a1 ≤ (ZZ a0 a1).2 ∧ (ZZ a0 a1).2 ≤ a1 + (cn a0 : Nat) ∧ XH (ZZ a0 a1).1 a1 = (ZZ a0 a1).2 := by
  rw [qP]
  have s := XP jT a0 a1 h0 h
  have hh := Qu (z := (mkL (fun (x : Z4) (k : Int) => ((Z4.mk k ((Int.tmod (W (k + 1)) 3) == 0)), (W ((W (k + 1)) + 1)))) a0 a1).1) (H := y1 (mkL (fun (x : Z4) (k : Int) => ((Z4.mk k ((Int.tmod (W (k + 1)) 3) == 0)), (W ((W (k + 1)) + 1)))) a0 a1).1) (G := (fun (x : Z4) (k : Int) (r : Int → Sum Int Int) => (bif (x.YZ != k) then (.inl (-1)) else (bif (!(x.Left == ((Int.tmod (W (k + 1)) 3) == 0))) then (.inl (-1)) else (r (W ((W (k + 1)) + 1))))))) (fun _ _ _ => rfl) jT Nz a0 [] ((mkL (fun (x : Z4) (k : Int) => ((Z4.mk k ((Int.tmod (W (k + 1)) 3) == 0)), (W ((W (k + 1)) + 1)))) a0 a1).1.length + 1) a1 (by simp) (by rw [XR]; omega) h0 h
  simp only [List.length_nil] at hh
  rw [Qm] at *
  refine ⟨by omega, by omega, ?_⟩
  unfold XH
  rw [hh]
theorem xg (a0 : List Za) (a1 : Int) : Zo a0 a1 = mkL (fun (x : Za) (k : Int) => ((Za.mk k (W (k + 1)) (W ((W (k + 1)) + 1)) (W ((W ((W (k + 1)) + 1)) + 1)) (W ((W ((W ((W (k + 1)) + 1)) + 1)) + 1))), (W ((W ((W ((W ((W (k + 1)) + 1)) + 1)) + 1)) + 1)))) a0 a1 := by
  have h := Qw (F := QF) (f := (fun (x : Za) (k : Int) => ((Za.mk k (W (k + 1)) (W ((W (k + 1)) + 1)) (W ((W ((W (k + 1)) + 1)) + 1)) (W ((W ((W ((W (k + 1)) + 1)) + 1)) + 1))), (W ((W ((W ((W ((W (k + 1)) + 1)) + 1)) + 1)) + 1))))) (fun _ _ _ _ => rfl) a0 [] (a0.length + 1) a1 (by omega)
  unfold Zo
  simp only [List.length_nil, List.nil_append] at h
  rw [h]
@[simp] theorem Fh (a0 : List Za) (a1 : Int) : (Zo a0 a1).1.length = a0.length := by rw [xg, XR]
theorem qK : ∀ (x : Za) (k : Int), 0 ≤ k → k + (cn x : Nat) < 4611686018427387904 → ((fun (x : Za) (k : Int) => ((Za.mk k (W (k + 1)) (W ((W (k + 1)) + 1)) (W ((W ((W (k + 1)) + 1)) + 1)) (W ((W ((W ((W (k + 1)) + 1)) + 1)) + 1))), (W ((W ((W ((W ((W (k + 1)) + 1)) + 1)) + 1)) + 1)))) x k).2 = k + (cn x : Nat) := by
  intro x k h0 h
  simp only [Y3, Yj, KN, Y4, Za.Ya] at h ⊢
  have e0 : W (k + 1) = k + 1 := ZT (by omega) (by omega)
  have e1 : W ((W (k + 1)) + 1) = (W (k + 1)) + 1 := ZT (by omega) (by omega)
  have e2 : W ((W ((W (k + 1)) + 1)) + 1) = (W ((W (k + 1)) + 1)) + 1 := ZT (by omega) (by omega)
  have e3 : W ((W ((W ((W (k + 1)) + 1)) + 1)) + 1) = (W ((W ((W (k + 1)) + 1)) + 1)) + 1 := ZT (by omega) (by omega)
  have e4 : W ((W ((W ((W ((W (k + 1)) + 1)) + 1)) + 1)) + 1) = (W ((W ((W ((W (k + 1)) + 1)) + 1)) + 1)) + 1 := ZT (by omega) (by omega)
  omega
theorem yk (a0 : List Za) (a1 : Int) (h0 : 0 ≤ a1) (h : a1 + (cn a0 : Nat) < 4611686018427387904) : (Zo a0 a1).2 = a1 + (cn a0 : Nat) := by
  rw [xg]
  exact XP qK a0 a1 h0 h
theorem RR (a0 : List Za) (a1 : Int) (h0 : 0 ≤ a1) (h : a1 + (cn a0 : Nat) < 4611686018427387904) : a1 ≤ (Zo a0 a1).2 ∧ (Zo a0 a1).2 ≤ a1 + (cn a0 : Nat) := by
  have := yk a0 a1 h0 h
  omega
theorem Pg : ∀ (x : Za) (k : Int) (r : Int → Sum Int Int), 0 ≤ k → k + (cn x : Nat) < 4611686018427387904 → (fun (x : Za) (k : Int) (r : Int → Sum Int Int) => (bif (x.Authority != k) then (.inl (-1)) else (bif (x.Seq != (W (k + 1))) then (.inl (-1)) else (bif (x.Time != (W ((W (k + 1)) + 1))) then (.inl (-1)) else (bif (x.YZ != (W ((W ((W (k + 1)) + 1)) + 1))) then (.inl (-1)) else (bif (x.Mark != (W ((W ((W ((W (k + 1)) + 1)) + 1)) + 1))) then (.inl (-1)) else (r (W ((W ((W ((W ((W (k + 1)) + 1)) + 1)) + 1)) + 1))))))))) ((fun (x : Za) (k : Int) => ((Za.mk k (W (k + 1)) (W ((W (k + 1)) + 1)) (W ((W ((W (k + 1)) + 1)) + 1)) (W ((W ((W ((W (k + 1)) + 1)) + 1)) + 1))), (W ((W ((W ((W ((W (k + 1)) + 1)) + 1)) + 1)) + 1)))) x k).1 k r = r ((fun (x : Za) (k : Int) => ((Za.mk k (W (k + 1)) (W ((W (k + 1)) + 1)) (W ((W ((W (k + 1)) + 1)) + 1)) (W ((W ((W ((W (k + 1)) + 1)) + 1)) + 1))), (W ((W ((W ((W ((W (k + 1)) + 1)) + 1)) + 1)) + 1)))) x k).2 := by
  intro x k r h0 h
  simp only [Y3, Yj, KN, Y4, Za.Ya] at h
  have e0 : W (k + 1) = k + 1 := ZT (by omega) (by omega)
  have e1 : W ((W (k + 1)) + 1) = (W (k + 1)) + 1 := ZT (by omega) (by omega)
  have e2 : W ((W ((W (k + 1)) + 1)) + 1) = (W ((W (k + 1)) + 1)) + 1 := ZT (by omega) (by omega)
  have e3 : W ((W ((W ((W (k + 1)) + 1)) + 1)) + 1) = (W ((W ((W (k + 1)) + 1)) + 1)) + 1 := ZT (by omega) (by omega)
  have e4 : W ((W ((W ((W ((W (k + 1)) + 1)) + 1)) + 1)) + 1) = (W ((W ((W ((W (k + 1)) + 1)) + 1)) + 1)) + 1 := ZT (by omega) (by omega)
  simp
theorem Rt (a0 : List Za) (a1 : Int) (h0 : 0 ≤ a1) (h : a1 + (cn a0 : Nat) < 4611686018427387904) : a1 ≤ (Zo a0 a1).2 ∧ (Zo a0 a1).2 ≤ a1 + (cn a0 : Nat) ∧ X7 (Zo a0 a1).1 a1 = (Zo a0 a1).2 := by
  rw [xg]
  have s := XP qK a0 a1 h0 h
  have hh := Qu (z := (mkL (fun (x : Za) (k : Int) => ((Za.mk k (W (k + 1)) (W ((W (k + 1)) + 1)) (W ((W ((W (k + 1)) + 1)) + 1)) (W ((W ((W ((W (k + 1)) + 1)) + 1)) + 1))), (W ((W ((W ((W ((W (k + 1)) + 1)) + 1)) + 1)) + 1)))) a0 a1).1) (H := yT (mkL (fun (x : Za) (k : Int) => ((Za.mk k (W (k + 1)) (W ((W (k + 1)) + 1)) (W ((W ((W (k + 1)) + 1)) + 1)) (W ((W ((W ((W (k + 1)) + 1)) + 1)) + 1))), (W ((W ((W ((W ((W (k + 1)) + 1)) + 1)) + 1)) + 1)))) a0 a1).1) (G := (fun (x : Za) (k : Int) (r : Int → Sum Int Int) => (bif (x.Authority != k) then (.inl (-1)) else (bif (x.Seq != (W (k + 1))) then (.inl (-1)) else (bif (x.Time != (W ((W (k + 1)) + 1))) then (.inl (-1)) else (bif (x.YZ != (W ((W ((W (k + 1)) + 1)) + 1))) then (.inl (-1)) else (bif (x.Mark != (W ((W ((W ((W (k + 1)) + 1)) + 1)) + 1))) then (.inl (-1)) else (r (W ((W ((W ((W ((W (k + 1)) + 1)) + 1)) + 1)) + 1)))))))))) (fun _ _ _ => rfl) qK Pg a0 [] ((mkL (fun (x : Za) (k : Int) => ((Za.mk k (W (k + 1)) (W ((W (k + 1)) + 1)) (W ((W ((W (k + 1)) + 1)) + 1)) (W ((W ((W ((W (k + 1)) + 1)) + 1)) + 1))), (W ((W ((W ((W ((W (k + 1)) + 1)) + 1)) + 1)) + 1)))) a0 a1).1.length + 1) a1 (by simp) (by rw [XR]; omega) h0 h
  simp only [List.length_nil] at hh
  rw [Qm] at *
  refine ⟨by omega, by omega, ?_⟩
  unfold X7
  rw [hh]
theorem yF (a0 : List ZL) (a1 : Int) : Zg a0 a1 = mkL (fun (x : ZL) (k : Int) => ((ZL.mk k (W (k + 1)) (W ((W (k + 1)) + 1)) (ZZ x.Path (W ((W ((W (k + 1)) + 1)) + 1))).1 (Zo x.Zu (ZZ x.Path (W ((W ((W (k + 1)) + 1)) + 1))).2).1), (Zo x.Zu (ZZ x.Path (W ((W ((W (k + 1)) + 1)) + 1))).2).2)) a0 a1 := by
  have h := Qw (F := Xc) (f := (fun (x : ZL) (k : Int) => ((ZL.mk k (W (k + 1)) (W ((W (k + 1)) + 1)) (ZZ x.Path (W ((W ((W (k + 1)) + 1)) + 1))).1 (Zo x.Zu (ZZ x.Path (W ((W ((W (k + 1)) + 1)) + 1))).2).1), (Zo x.Zu (ZZ x.Path (W ((W ((W (k + 1)) + 1)) + 1))).2).2))) (fun _ _ _ _ => rfl) a0 [] (a0.length + 1) a1 (by omega)
  unfold Zg
  simp only [List.length_nil, List.nil_append] at h
  rw [h]
@[simp] theorem Gs (a0 : List ZL) (a1 : Int) : (Zg a0 a1).1.length = a0.length := by rw [yF, XR]
theorem ye : ∀ (x : ZL) (k : Int), 0 ≤ k → k + (cn x : Nat) < 4611686018427387904 → ((fun (x : ZL) (k : Int) => ((ZL.mk k (W (k + 1)) (W ((W (k + 1)) + 1)) (ZZ x.Path (W ((W ((W (k + 1)) + 1)) + 1))).1 (Zo x.Zu (ZZ x.Path (W ((W ((W (k + 1)) + 1)) + 1))).2).1), (Zo x.Zu (ZZ x.Path (W ((W ((W (k + 1)) + 1)) + 1))).2).2)) x k).2 = k + (cn x : Nat) := by
  intro x k h0 h
  simp only [Y3, Yj, KN, Y4, ZL.Ya] at h ⊢
  have e0 : W (k + 1) = k + 1 := ZT (by omega) (by omega)
  have e1 : W ((W (k + 1)) + 1) = (W (k + 1)) + 1 := ZT (by omega) (by omega)
  have e2 : W ((W ((W (k + 1)) + 1)) + 1) = (W ((W (k + 1)) + 1)) + 1 := ZT (by omega) (by omega)
  obtain ⟨m3, n3⟩ := Pp x.Path (W ((W ((W (k + 1)) + 1)) + 1)) (by omega) (by omega)
  have q3 := xV x.Path (W ((W ((W (k + 1)) + 1)) + 1)) (by omega) (by omega)
  have o3 : ¬ (ZZ x.Path (W ((W ((W (k + 1)) + 1)) + 1))).2 < 0 := by omega
  obtain ⟨m6, n6⟩ := RR x.Zu (ZZ x.Path (W ((W ((W (k + 1)) + 1)) + 1))).2 (by omega) (by omega)
  have q6 := yk x.Zu (ZZ x.Path (W ((W ((W (k + 1)) + 1)) + 1))).2 (by omega) (by omega)
  have o6 : ¬ (Zo x.Zu (ZZ x.Path (W ((W ((W (k + 1)) + 1)) + 1))).2).2 < 0 := by omega
  omega
theorem zX (a0 : List ZL) (a1 : Int) (h0 : 0 ≤ a1) (h : a1 + (cn a0 : Nat) < 4611686018427387904) : (Zg a0 a1).2 = a1 + (cn a0 : Nat) := by
  rw [yF]
  exact XP ye a0 a1 h0 h
theorem Ul (a0 : List ZL) (a1 : Int) (h0 : 0 ≤ a1) (h : a1 + (cn a0 : Nat) < 4611686018427387904) : a1 ≤ (Zg a0 a1).2 ∧ (Zg a0 a1).2 ≤ a1 + (cn a0 : Nat) := by
  have := zX a0 a1 h0 h
  omega
theorem T5 : ∀ (x : ZL) (k : Int) (r : Int → Sum Int Int), 0 ≤ k → k + (cn x : Nat) < 4611686018427387904 → (fun (x : ZL) (k : Int) (r : Int → Sum Int Int) => (bif (x.Count != k) then (.inl (-1)) else (bif (x.Method != (W (k + 1))) then (.inl (-1)) else (bif (x.Ud != (W ((W (k + 1)) + 1))) then (.inl (-1)) else (bif (decide ((XH x.Path (W ((W ((W (k + 1)) + 1)) + 1))) < 0)) then (.inl (-1)) else (bif (decide ((X7 x.Zu (XH x.Path (W ((W ((W (k + 1)) + 1)) + 1)))) < 0)) then (.inl (-1)) else (r (X7 x.Zu (XH x.Path (W ((W ((W (k + 1)) + 1)) + 1))))))))))) ((fun (x : ZL) (k : Int) => ((ZL.mk k (W (k + 1)) (W ((W (k + 1)) + 1)) (ZZ x.Path (W ((W ((W (k + 1)) + 1)) + 1))).1 (Zo x.Zu (ZZ x.Path (W ((W ((W (k + 1)) + 1)) + 1))).2).1), (Zo x.Zu (ZZ x.Path (W ((W ((W (k + 1)) + 1)) + 1))).2).2)) x k).1 k r = r ((fun (x : ZL) (k : Int) => ((ZL.mk k (W (k + 1)) (W ((W (k + 1)) + 1)) (ZZ x.Path (W ((W ((W (k + 1)) + 1)) + 1))).1 (Zo x.Zu (ZZ x.Path (W ((W ((W (k + 1)) + 1)) + 1))).2).1), (Zo x.Zu (ZZ x.Path (W ((W ((W (k + 1)) + 1)) + 1))).2).2)) x k).2 := by
  intro x k r h0 h
  simp only [Y3, Yj, KN, Y4, ZL.Ya] at h
  have e0 : W (k + 1) = k + 1 := ZT (by omega) (by omega)
  have e1 : W ((W (k + 1)) + 1) = (W (k + 1)) + 1 := ZT (by omega) (by omega)
  have e2 : W ((W ((W (k + 1)) + 1)) + 1) = (W ((W (k + 1)) + 1)) + 1 := ZT (by omega) (by omega)
  obtain ⟨m3, n3, h3⟩ := PA x.Path (W ((W ((W (k + 1)) + 1)) + 1)) (by omega) (by omega)
  have q3 := xV x.Path (W ((W ((W (k + 1)) + 1)) + 1)) (by omega) (by omega)
  have o3 : ¬ (ZZ x.Path (W ((W ((W (k + 1)) + 1)) + 1))).2 < 0 := by omega
  obtain ⟨m6, n6, h6⟩ := Rt x.Zu (ZZ x.Path (W ((W ((W (k + 1)) + 1)) + 1))).2 (by omega) (by omega)
  have q6 := yk x.Zu (ZZ x.Path (W ((W ((W (k + 1)) + 1)) + 1))).2 (by omega) (by omega)
  have o6 : ¬ (Zo x.Zu (ZZ x.Path (W ((W ((W (k + 1)) + 1)) + 1))).2).2 < 0 := by omega
  simp [h3, h6, o3, o6]
theorem U9 (a0 : List ZL) (a1 : Int) (h0 : 0 ≤ a1) (h : a1 + (cn a0 : Nat) < 4611686018427387904) : a1 ≤ (Zg a0 a1).2 ∧ (Zg a0 a1).2 ≤ a1 + (cn a0 : Nat) ∧ XN (Zg a0 a1).1 a1 = (Zg a0 a1).2 := by
  rw [yF]
  have s := XP ye a0 a1 h0 h
  have hh := Qu (z := (mkL (fun (x : ZL) (k : Int) => ((ZL.mk k (W (k + 1)) (W ((W (k + 1)) + 1)) (ZZ x.Path (W ((W ((W (k + 1)) + 1)) + 1))).1 (Zo x.Zu (ZZ x.Path (W ((W ((W (k + 1)) + 1)) + 1))).2).1), (Zo x.Zu (ZZ x.Path (W ((W ((W (k + 1)) + 1)) + 1))).2).2)) a0 a1).1) (H := Kt (mkL (fun (x : ZL) (k : Int) => ((ZL.mk k (W (k + 1)) (W ((W (k + 1)) + 1)) (ZZ x.Path (W ((W ((W (k + 1)) + 1)) + 1))).1 (Zo x.Zu (ZZ x.Path (W ((W ((W (k + 1)) + 1)) + 1))).2).1), (Zo x.Zu (ZZ x.Path (W ((W ((W (k + 1)) + 1)) + 1))).2).2)) a0 a1).1) (G := (fun (x : ZL) (k : Int) (r : Int → Sum Int Int) => (bif (x.Count != k) then (.inl (-1)) else (bif (x.Method != (W (k + 1))) then (.inl (-1)) else (bif (x.Ud != (W ((W (k + 1)) + 1))) then (.inl (-1)) else (bif (decide ((XH x.Path (W ((W ((W (k + 1)) + 1)) + 1))) < 0)) then (.inl (-1)) else (bif (decide ((X7 x.Zu (XH x.Path (W ((W ((W (k + 1)) + 1)) + 1)))) < 0)) then (.inl (-1)) else (r (X7 x.Zu (XH x.Path (W ((W ((W (k + 1)) + 1)) + 1)))))))))))) (fun _ _ _ => rfl) ye T5 a0 [] ((mkL (fun (x : ZL) (k : Int) => ((ZL.mk k (W (k + 1)) (W ((W (k + 1)) + 1)) (ZZ x.Path (W ((W ((W (k + 1)) + 1)) + 1))).1 (Zo x.Zu (ZZ x.Path (W ((W ((W (k + 1)) + 1)) + 1))).2).1), (Zo x.Zu (ZZ x.Path (W ((W ((W (k + 1)) + 1)) + 1))).2).2)) a0 a1).1.length + 1) a1 (by simp) (by rw [XR]; omega) h0 h
  simp only [List.length_nil] at hh
  rw [Qm] at *
  refine ⟨by omega, by omega, ?_⟩
  unfold XN
  rw [hh]
theorem qM (a0 : List ZI) (a1 : Int) : Zv a0 a1 = mkL (fun (x : ZI) (k : Int) => ((ZI.mk k (W (k + 1)) (ZR.mk (W ((W (k + 1)) + 1)) (ZA x.Doc.ZE (W ((W ((W (k + 1)) + 1)) + 1))).1 (ZB x.Doc.ZG (ZA x.Doc.ZE (W ((W ((W (k + 1)) + 1)) + 1))).2).1) (Zb.mk (ZB x.Doc.ZG (ZA x.Doc.ZE (W ((W ((W (k + 1)) + 1)) + 1))).2).2 (W ((ZB x.Doc.ZG (ZA x.Doc.ZE (W ((W ((W (k + 1)) + 1)) + 1))).2).2 + 1)) (W ((W ((ZB x.Doc.ZG (ZA x.Doc.ZE (W ((W ((W (k + 1)) + 1)) + 1))).2).2 + 1)) + 1)) (W ((W ((W ((ZB x.Doc.ZG (ZA x.Doc.ZE (W ((W ((W (k + 1)) + 1)) + 1))).2).2 + 1)) + 1)) + 1)) (W ((W ((W ((W ((ZB x.Doc.ZG (ZA x.Doc.ZE (W ((W ((W (k + 1)) + 1)) + 1))).2).2 + 1)) + 1)) + 1)) + 1)) (W ((W ((W ((W ((W ((ZB x.Doc.ZG (ZA x.Doc.ZE (W ((W ((W (k + 1)) + 1)) + 1))).2).2 + 1)) + 1)) + 1)) + 1)) + 1)) (W ((W ((W ((W ((W ((W ((ZB x.Doc.ZG (ZA x.Doc.ZE (W ((W ((W (k + 1)) + 1)) + 1))).2).2 + 1)) + 1)) + 1)) + 1)) + 1)) + 1)) (W ((W ((W ((W ((W ((W ((W ((ZB x.Doc.ZG (ZA x.Doc.ZE (W ((W ((W (k + 1)) + 1)) + 1))).2).2 + 1)) + 1)) + 1)) + 1)) + 1)) + 1)) + 1)) (W ((W ((W ((W ((W ((W ((W ((W ((ZB x.Doc.ZG (ZA x.Doc.ZE (W ((W ((W (k + 1)) + 1)) + 1))).2).2 + 1)) + 1)) + 1)) + 1)) + 1)) + 1)) + 1)) + 1))) (Zf.mk (ZW x.ZQ.ZS (W ((W ((W ((W ((W ((W ((W ((W ((W ((ZB x.Doc.ZG (ZA x.Doc.ZE (W ((W ((W (k + 1)) + 1)) + 1))).2).2 + 1)) + 1)) + 1)) + 1)) + 1)) + 1)) + 1)) + 1)) + 1))).1 (Zg x.ZQ.Zj (ZW x.ZQ.ZS (W ((W ((W ((W ((W ((W ((W ((W ((W ((ZB x.Doc.ZG (ZA x.Doc.ZE (W ((W ((W (k + 1)) + 1)) + 1))).2).2 + 1)) + 1)) + 1)) + 1)) + 1)) + 1)) + 1)) + 1)) + 1))).2).1)), (Zg x.ZQ.Zj (ZW x.ZQ.ZS (W ((W ((W ((W ((W ((W ((W ((W ((W ((ZB x.Doc.ZG (ZA x.Doc.ZE (W ((W ((W (k + 1)) + 1)) + 1))).2).2 + 1)) + 1)) + 1)) + 1)) + 1)) + 1)) + 1)) + 1)) + 1))).2).2)) a0 a1 := by
  have h := Qw (F := QX) (f := (fun (x : ZI) (k : Int) => ((ZI.mk k (W (k + 1)) (ZR.mk (W ((W (k + 1)) + 1)) (ZA x.Doc.ZE (W ((W ((W (k + 1)) + 1)) + 1))).1 (ZB x.Doc.ZG (ZA x.Doc.ZE (W ((W ((W (k + 1)) + 1)) + 1))).2).1) (Zb.mk (ZB x.Doc.ZG (ZA x.Doc.ZE (W ((W ((W (k + 1)) + 1)) + 1))).2).2 (W ((ZB x.Doc.ZG (ZA x.Doc.ZE (W ((W ((W (k + 1)) + 1)) + 1))).2).2 + 1)) (W ((W ((ZB x.Doc.ZG (ZA x.Doc.ZE (W ((W ((W (k + 1)) + 1)) + 1))).2).2 + 1)) + 1)) (W ((W ((W ((ZB x.Doc.ZG (ZA x.Doc.ZE (W ((W ((W (k + 1)) + 1)) + 1))).2).2 + 1)) + 1)) + 1)) (W ((W ((W ((W ((ZB x.Doc.ZG (ZA x.Doc.ZE (W ((W ((W (k + 1)) + 1)) + 1))).2).2 + 1)) + 1)) + 1)) + 1)) (W ((W ((W ((W ((W ((ZB x.Doc.ZG (ZA x.Doc.ZE (W ((W ((W (k + 1)) + 1)) + 1))).2).2 + 1)) + 1)) + 1)) + 1)) + 1)) (W ((W ((W ((W ((W ((W ((ZB x.Doc.ZG (ZA x.Doc.ZE (W ((W ((W (k + 1)) + 1)) + 1))).2).2 + 1)) + 1)) + 1)) + 1)) + 1)) + 1)) (W ((W ((W ((W ((W ((W ((W ((ZB x.Doc.ZG (ZA x.Doc.ZE (W ((W ((W (k + 1)) + 1)) + 1))).2).2 + 1)) + 1)) + 1)) + 1)) + 1)) + 1)) + 1)) (W ((W ((W ((W ((W ((W ((W ((W ((ZB x.Doc.ZG (ZA x.Doc.ZE (W ((W ((W (k + 1)) + 1)) + 1))).2).2 + 1)) + 1)) + 1)) + 1)) + 1)) + 1)) + 1)) + 1))) (Zf.mk (ZW x.ZQ.ZS (W ((W ((W ((W ((W ((W ((W ((W ((W ((ZB x.Doc.ZG (ZA x.Doc.ZE (W ((W ((W (k + 1)) + 1)) + 1))).2).2 + 1)) + 1)) + 1)) + 1)) + 1)) + 1)) + 1)) + 1)) + 1))).1 (Zg x.ZQ.Zj (ZW x.ZQ.ZS (W ((W ((W ((W ((W ((W ((W ((W ((W ((ZB x.Doc.ZG (ZA x.Doc.ZE (W ((W ((W (k + 1)) + 1)) + 1))).2).2 + 1)) + 1)) + 1)) + 1)) + 1)) + 1)) + 1)) + 1)) + 1))).2).1)), (Zg x.ZQ.Zj (ZW x.ZQ.ZS (W ((W ((W ((W ((W ((W ((W ((W ((W ((ZB x.Doc.ZG (ZA x.Doc.ZE (W ((W ((W (k + 1)) + 1)) + 1))).2).2 + 1)) + 1)) + 1)) + 1)) + 1)) + 1)) + 1)) + 1)) + 1))).2).2))) (fun _ _ _ _ => rfl) a0 [] (a0.length + 1) a1 (by omega)
  unfold Zv
  simp only [List.length_nil, List.nil_append] at h
  rw [h]
@[simp] theorem EV (a0 : List ZI) (a1 : Int) : (Zv a0 a1).1.length = a0.length := by rw [qM, XR]
theorem jc : ∀ (x : ZI) (k : Int), 0 ≤ k → k + (cn x : Nat) < 4611686018427387904 → ((fun (x : ZI) (k : Int) => ((ZI.mk k (W (k + 1)) (ZR.mk (W ((W (k + 1)) + 1)) (ZA x.Doc.ZE (W ((W ((W (k + 1)) + 1)) + 1))).1 (ZB x.Doc.ZG (ZA x.Doc.ZE (W ((W ((W (k + 1)) + 1)) + 1))).2).1) (Zb.mk (ZB x.Doc.ZG (ZA x.Doc.ZE (W ((W ((W (k + 1)) + 1)) + 1))).2).2 (W ((ZB x.Doc.ZG (ZA x.Doc.ZE (W ((W ((W (k + 1)) + 1)) + 1))).2).2 + 1)) (W ((W ((ZB x.Doc.ZG (ZA x.Doc.ZE (W ((W ((W (k + 1)) + 1)) + 1))).2).2 + 1)) + 1)) (W ((W ((W ((ZB x.Doc.ZG (ZA x.Doc.ZE (W ((W ((W (k + 1)) + 1)) + 1))).2).2 + 1)) + 1)) + 1)) (W ((W ((W ((W ((ZB x.Doc.ZG (ZA x.Doc.ZE (W ((W ((W (k + 1)) + 1)) + 1))).2).2 + 1)) + 1)) + 1)) + 1)) (W ((W ((W ((W ((W ((ZB x.Doc.ZG (ZA x.Doc.ZE (W ((W ((W (k + 1)) + 1)) + 1))).2).2 + 1)) + 1)) + 1)) + 1)) + 1)) (W ((W ((W ((W ((W ((W ((ZB x.Doc.ZG (ZA x.Doc.ZE (W ((W ((W (k + 1)) + 1)) + 1))).2).2 + 1)) + 1)) + 1)) + 1)) + 1)) + 1)) (W ((W ((W ((W ((W ((W ((W ((ZB x.Doc.ZG (ZA x.Doc.ZE (W ((W ((W (k + 1)) + 1)) + 1))).2).2 + 1)) + 1)) + 1)) + 1)) + 1)) + 1)) + 1)) (W ((W ((W ((W ((W ((W ((W ((W ((ZB x.Doc.ZG (ZA x.Doc.ZE (W ((W ((W (k + 1)) + 1)) + 1))).2).2 + 1)) + 1)) + 1)) + 1)) + 1)) + 1)) + 1)) + 1))) (Zf.mk (ZW x.ZQ.ZS (W ((W ((W ((W ((W ((W ((W ((W ((W ((ZB x.Doc.ZG (ZA x.Doc.ZE (W ((W ((W (k + 1)) + 1)) + 1))).2).2 + 1)) + 1)) + 1)) + 1)) + 1)) + 1)) + 1)) + 1)) + 1))).1 (Zg x.ZQ.Zj (ZW x.ZQ.ZS (W ((W ((W ((W ((W ((W ((W ((W ((W ((ZB x.Doc.ZG (ZA x.Doc.ZE (W ((W ((W (k + 1)) + 1)) + 1))).2).2 + 1)) + 1)) + 1)) + 1)) + 1)) + 1)) + 1)) + 1)) + 1))).2).1)), (Zg x.ZQ.Zj (ZW x.ZQ.ZS (W ((W ((W ((W ((W ((W ((W ((W ((W ((ZB x.Doc.ZG (ZA x.Doc.ZE (W ((W ((W (k + 1)) + 1)) + 1))).2).2 + 1)) + 1)) + 1)) + 1)) + 1)) + 1)) + 1)) + 1)) + 1))).2).2)) x k).2 = k + (cn x : Nat) := by
  intro x k h0 h
  simp only [Y3, Yj, KN, Y4, ZI.Ya, ZR.Ya, Zf.Ya, Zb.Ya] at h ⊢
  have e0 : W (k + 1) = k + 1 := ZT (by omega) (by omega)
  have e1 : W ((W (k + 1)) + 1) = (W (k + 1)) + 1 := ZT (by omega) (by omega)
  have e2 : W ((W ((W (k + 1)) + 1)) + 1) = (W ((W (k + 1)) + 1)) + 1 := ZT (by omega) (by omega)
  obtain ⟨m3, n3⟩ := Tl x.Doc.ZE (W ((W ((W (k + 1)) + 1)) + 1)) (by omega) (by omega)
  have q3 := z6 x.Doc.ZE (W ((W ((W (k + 1)) + 1)) + 1)) (by omega) (by omega)
  have o3 : ¬ (ZA x.Doc.ZE (W ((W ((W (k + 1)) + 1)) + 1))).2 < 0 := by omega
  obtain ⟨m6, n6⟩ := VY x.Doc.ZG (ZA x.Doc.ZE (W ((W ((W (k + 1)) + 1)) + 1))).2 (by omega) (by omega)
  have q6 := Xn x.Doc.ZG (ZA x.Doc.ZE (W ((W ((W (k + 1)) + 1)) + 1))).2 (by omega) (by omega)
  have o6 : ¬ (ZB x.Doc.ZG (ZA x.Doc.ZE (W ((W ((W (k + 1)) + 1)) + 1))).2).2 < 0 := by omega
  have e9 : W ((ZB x.Doc.ZG (ZA x.Doc.ZE (W ((W ((W (k + 1)) + 1)) + 1))).2).2 + 1) = (ZB x.Doc.ZG (ZA x.Doc.ZE (W ((W ((W (k + 1)) + 1)) + 1))).2).2 + 1 := ZT (by omega) (by omega)
  have e10 : W ((W ((ZB x.Doc.ZG (ZA x.Doc.ZE (W ((W ((W (k + 1)) + 1)) + 1))).2).2 + 1)) + 1) = (W ((ZB x.Doc.ZG (ZA x.Doc.ZE (W ((W ((W (k + 1)) + 1)) + 1))).2).2 + 1)) + 1 := ZT (by omega) (by omega)
  have e11 : W ((W ((W ((ZB x.Doc.ZG (ZA x.Doc.ZE (W ((W ((W (k + 1)) + 1)) + 1))).2).2 + 1)) + 1)) + 1) = (W ((W ((ZB x.Doc.ZG (ZA x.Doc.ZE (W ((W ((W (k + 1)) + 1)) + 1))).2).2 + 1)) + 1)) + 1 := ZT (by omega) (by omega)
  have e12 : W ((W ((W ((W ((ZB x.Doc.ZG (ZA x.Doc.ZE (W ((W ((W (k + 1)) + 1)) + 1))).2).2 + 1)) + 1)) + 1)) + 1) = (W ((W ((W ((ZB x.Doc.ZG (ZA x.Doc.ZE (W ((W ((W (k + 1)) + 1)) + 1))).2).2 + 1)) + 1)) + 1)) + 1 := ZT (by omega) (by omega)
  have e13 : W ((W ((W ((W ((W ((ZB x.Doc.ZG (ZA x.Doc.ZE (W ((W ((W (k + 1)) + 1)) + 1))).2).2 + 1)) + 1)) + 1)) + 1)) + 1) = (W ((W ((W ((W ((ZB x.Doc.ZG (ZA x.Doc.ZE (W ((W ((W (k + 1)) + 1)) + 1))).2).2 + 1)) + 1)) + 1)) + 1)) + 1 := ZT (by omega) (by omega)
  have e14 : W ((W ((W ((W ((W ((W ((ZB x.Doc.ZG (ZA x.Doc.ZE (W ((W ((W (k + 1)) + 1)) + 1))).2).2 + 1)) + 1)) + 1)) + 1)) + 1)) + 1) = (W ((W ((W ((W ((W ((ZB x.Doc.ZG (ZA x.Doc.ZE (W ((W ((W (k + 1)) + 1)) + 1))).2).2 + 1)) + 1)) + 1)) + 1)) + 1)) + 1 := ZT (by omega) (by omega)
  have e15 : W ((W ((W ((W ((W ((W ((W ((ZB x.Doc.ZG (ZA x.Doc.ZE (W ((W ((W (k + 1)) + 1)) + 1))).2).2 + 1)) + 1)) + 1)) + 1)) + 1)) + 1)) + 1) = (W ((W ((W ((W ((W ((W ((ZB x.Doc.ZG (ZA x.Doc.ZE (W ((W ((W (k + 1)) + 1)) + 1))).2).2 + 1)) + 1)) + 1)) + 1)) + 1)) + 1)) + 1 := ZT (by omega) (by omega)
  have e16 : W ((W ((W ((W ((W ((W ((W ((W ((ZB x.Doc.ZG (ZA x.Doc.ZE (W ((W ((W (k + 1)) + 1)) + 1))).2).2 + 1)) + 1)) + 1)) + 1)) + 1)) + 1)) + 1)) + 1) = (W ((W ((W ((W ((W ((W ((W ((ZB x.Doc.ZG (ZA x.Doc.ZE (W ((W ((W (k + 1)) + 1)) + 1))).2).2 + 1)) + 1)) + 1)) + 1)) + 1)) + 1)) + 1)) + 1 := ZT (by omega) (by omega)
  have e17 : W ((W ((W ((W ((W ((W ((W ((W ((W ((ZB x.Doc.ZG (ZA x.Doc.ZE (W ((W ((W (k + 1)) + 1)) + 1))).2).2 + 1)) + 1)) + 1)) + 1)) + 1)) + 1)) + 1)) + 1)) + 1) = (W ((W ((W ((W ((W ((W ((W ((W ((ZB x.Doc.ZG (ZA x.Doc.ZE (W ((W ((W (k + 1)) + 1)) + 1))).2).2 + 1)) + 1)) + 1)) + 1)) + 1)) + 1)) + 1)) + 1)) + 1 := ZT (by omega) (by omega)
  obtain ⟨m18, n18⟩ := RM x.ZQ.ZS (W ((W ((W ((W ((W ((W ((W ((W ((W ((ZB x.Doc.ZG (ZA x.Doc.ZE (W ((W ((W (k + 1)) + 1)) + 1))).2).2 + 1)) + 1)) + 1)) + 1)) + 1)) + 1)) + 1)) + 1)) + 1)) (by omega) (by omega)
  have q18 := yq x.ZQ.ZS (W ((W ((W ((W ((W ((W ((W ((W ((W ((ZB x.Doc.ZG (ZA x.Doc.ZE (W ((W ((W (k + 1)) + 1)) + 1))).2).2 + 1)) + 1)) + 1)) + 1)) + 1)) + 1)) + 1)) + 1)) + 1)) (by omega) (by omega)
  have o18 : ¬ (ZW x.ZQ.ZS (W ((W ((W ((W ((W ((W ((W ((W ((W ((ZB x.Doc.ZG (ZA x.Doc.ZE (W ((W ((W (k + 1)) + 1)) + 1))).2).2 + 1)) + 1)) + 1)) + 1)) + 1)) + 1)) + 1)) + 1)) + 1))).2 < 0 := by omega
  obtain ⟨m21, n21⟩ := Ul x.ZQ.Zj (ZW x.ZQ.ZS (W ((W ((W ((W ((W ((W ((W ((W ((W ((ZB x.Doc.ZG (ZA x.Doc.ZE (W ((W ((W (k + 1)) + 1)) + 1))).2).2 + 1)) + 1)) + 1)) + 1)) + 1)) + 1)) + 1)) + 1)) + 1))).2 (by omega) (by omega)
  have q21 := zX x.ZQ.Zj (ZW x.ZQ.ZS (W ((W ((W ((W ((W ((W ((W ((W ((W ((ZB x.Doc.ZG (ZA x.Doc.ZE (W ((W ((W (k + 1)) + 1)) + 1))).2).2 + 1)) + 1)) + 1)) + 1)) + 1)) + 1)) + 1)) + 1)) + 1))).2 (by omega) (by omega)
  have o21 : ¬ (Zg x.ZQ.Zj (ZW x.ZQ.ZS (W ((W ((W ((W ((W ((W ((W ((W ((W ((ZB x.Doc.ZG (ZA x.Doc.ZE (W ((W ((W (k + 1)) + 1)) + 1))).2).2 + 1)) + 1)) + 1)) + 1)) + 1)) + 1)) + 1)) + 1)) + 1))).2).2 < 0 := by omega
  omega
theorem xe (a0 : List ZI) (a1 : Int) (h0 : 0 ≤ a1) (h : a1 + (cn a0 : Nat) < 4611686018427387904) : (Zv a0 a1).2 = a1 + (cn a0 : Nat) := by
  rw [qM]
  exact XP jc a0 a1 h0 h
theorem P3 (a0 : List ZI) (a1 : Int) (h0 : 0 ≤ a1) (h : a1 + (cn a0 : Nat) < 4611686018427387904) : a1 ≤ (Zv a0 a1).2 ∧ (Zv a0 a1).2 ≤ a1 + (cn a0 : Nat) := by
  have := xe a0 a1 h0 h
  omega
theorem ME : ∀ (x : ZI) (k : Int) (r : Int → Sum Int Int), 0 ≤ k → k + (cn x : Nat) < 4611686018427387904 → (fun (x : ZI) (k : Int) (r : Int → Sum Int Int) => (bif (x.Id != k) then (.inl (-1)) else (bif (x.Yo != (W (k + 1))) then (.inl (-1)) else (bif (x.Doc.K4 != (W ((W (k + 1)) + 1))) then (.inl (-1)) else (bif (decide ((ZY x.Doc.ZE (W ((W ((W (k + 1)) + 1)) + 1))) < 0)) then (.inl (-1)) else (bif (decide ((ZU x.Doc.ZG (ZY x.Doc.ZE (W ((W ((W (k + 1)) + 1)) + 1)))) < 0)) then (.inl (-1)) else (bif (x.Sig.Key != (ZU x.Doc.ZG (ZY x.Doc.ZE (W ((W ((W (k + 1)) + 1)) + 1))))) then (.inl (-1)) else (bif (x.Sig.QM != (W ((ZU x.Doc.ZG (ZY x.Doc.ZE (W ((W ((W (k + 1)) + 1)) + 1)))) + 1))) then (.inl (-1)) else (bif (x.Sig.Method != (W ((W ((ZU x.Doc.ZG (ZY x.Doc.ZE (W ((W ((W (k + 1)) + 1)) + 1)))) + 1)) + 1))) then (.inl (-1)) else (bif (x.Sig.YZ != (W ((W ((W ((ZU x.Doc.ZG (ZY x.Doc.ZE (W ((W ((W (k + 1)) + 1)) + 1)))) + 1)) + 1)) + 1))) then (.inl (-1)) else (bif (x.Sig.zP != (W ((W ((W ((W ((ZU x.Doc.ZG (ZY x.Doc.ZE (W ((W ((W (k + 1)) + 1)) + 1)))) + 1)) + 1)) + 1)) + 1))) then (.inl (-1)) else (bif (x.Sig.Org != (W ((W ((W ((W ((W ((ZU x.Doc.ZG (ZY x.Doc.ZE (W ((W ((W (k + 1)) + 1)) + 1)))) + 1)) + 1)) + 1)) + 1)) + 1))) then (.inl (-1)) else (bif (x.Sig.KY != (W ((W ((W ((W ((W ((W ((ZU x.Doc.ZG (ZY x.Doc.ZE (W ((W ((W (k + 1)) + 1)) + 1)))) + 1)) + 1)) + 1)) + 1)) + 1)) + 1))) then (.inl (-1)) else (bif (x.Sig.yZ != (W ((W ((W ((W ((W ((W ((W ((ZU x.Doc.ZG (ZY x.Doc.ZE (W ((W ((W (k + 1)) + 1)) + 1)))) + 1)) + 1)) + 1)) + 1)) + 1)) + 1)) + 1))) then (.inl (-1)) else (bif (x.Sig.Mark != (W ((W ((W ((W ((W ((W ((W ((W ((ZU x.Doc.ZG (ZY x.Doc.ZE (W ((W ((W (k + 1)) + 1)) + 1)))) + 1)) + 1)) + 1)) + 1)) + 1)) + 1)) + 1)) + 1))) then (.inl (-1)) else (bif (decide ((Y0 x.ZQ.ZS (W ((W ((W ((W ((W ((W ((W ((W ((W ((ZU x.Doc.ZG (ZY x.Doc.ZE (W ((W ((W (k + 1)) + 1)) + 1)))) + 1)) + 1)) + 1)) + 1)) + 1)) + 1)) + 1)) + 1)) + 1))) < 0)) then (.inl (-1)) else (bif (decide ((XN x.ZQ.Zj (Y0 x.ZQ.ZS (W ((W ((W ((W ((W ((W ((W ((W ((W ((ZU x.Doc.ZG (ZY x.Doc.ZE (W ((W ((W (k + 1)) + 1)) + 1)))) + 1)) + 1)) + 1)) + 1)) + 1)) + 1)) + 1)) + 1)) + 1)))) < 0)) then (.inl (-1)) else (r (XN x.ZQ.Zj (Y0 x.ZQ.ZS (W ((W ((W ((W ((W ((W ((W ((W ((W ((ZU x.Doc.ZG (ZY x.Doc.ZE (W ((W ((W (k + 1)) + 1)) + 1)))) + 1)) + 1)) + 1)) + 1)) + 1)) + 1)) + 1)) + 1)) + 1)))))))))))))))))))))) ((fun (x : ZI) (k : Int) => ((ZI.mk k (W (k + 1)) (ZR.mk (W ((W (k + 1)) + 1)) (ZA x.Doc.ZE (W ((W ((W (k + 1)) + 1)) + 1))).1 (ZB x.Doc.ZG (ZA x.Doc.ZE (W ((W ((W (k + 1)) + 1)) + 1))).2).1) (Zb.mk (ZB x.Doc.ZG (ZA x.Doc.ZE (W ((W ((W (k + 1)) + 1)) + 1))).2).2 (W ((ZB x.Doc.ZG (ZA x.Doc.ZE (W ((W ((W (k + 1)) + 1)) + 1))).2).2 + 1)) (W ((W ((ZB x.Doc.ZG (ZA x.Doc.ZE (W ((W ((W (k + 1)) + 1)) + 1))).2).2 + 1)) + 1)) (W ((W ((W ((ZB x.Doc.ZG (ZA x.Doc.ZE (W ((W ((W (k + 1)) + 1)) + 1))).2).2 + 1)) + 1)) + 1)) (W ((W ((W ((W ((ZB x.Doc.ZG (ZA x.Doc.ZE (W ((W ((W (k + 1)) + 1)) + 1))).2).2 + 1)) + 1)) + 1)) + 1)) (W ((W ((W ((W ((W ((ZB x.Doc.ZG (ZA x.Doc.ZE (W ((W ((W (k + 1)) + 1)) + 1))).2).2 + 1)) + 1)) + 1)) + 1)) + 1)) (W ((W ((W ((W ((W ((W ((ZB x.Doc.ZG (ZA x.Doc.ZE (W ((W ((W (k + 1)) + 1)) + 1))).2).2 + 1)) + 1)) + 1)) + 1)) + 1)) + 1)) (W ((W ((W ((W ((W ((W ((W ((ZB x.Doc.ZG (ZA x.Doc.ZE (W ((W ((W (k + 1)) + 1)) + 1))).2).2 + 1)) + 1)) + 1)) + 1)) + 1)) + 1)) + 1)) (W ((W ((W ((W ((W ((W ((W ((W ((ZB x.Doc.ZG (ZA x.Doc.ZE (W ((W ((W (k + 1)) + 1)) + 1))).2).2 + 1)) + 1)) + 1)) + 1)) + 1)) + 1)) + 1)) + 1))) (Zf.mk (ZW x.ZQ.ZS (W ((W ((W ((W ((W ((W ((W ((W ((W ((ZB x.Doc.ZG (ZA x.Doc.ZE (W ((W ((W (k + 1)) + 1)) + 1))).2).2 + 1)) + 1)) + 1)) + 1)) + 1)) + 1)) + 1)) + 1)) + 1))).1 (Zg x.ZQ.Zj (ZW x.ZQ.ZS (W ((W ((W ((W ((W ((W ((W ((W ((W ((ZB x.Doc.ZG (ZA x.Doc.ZE (W ((W ((W (k + 1)) + 1)) + 1))).2).2 + 1)) + 1)) + 1)) + 1)) + 1)) + 1)) + 1)) + 1)) + 1))).2).1)), (Zg x.ZQ.Zj (ZW x.ZQ.ZS (W ((W ((W ((W ((W ((W ((W ((W ((W ((ZB x.Doc.ZG (ZA x.Doc.ZE (W ((W ((W (k + 1)) + 1)) + 1))).2).2 + 1)) + 1)) + 1)) + 1)) + 1)) + 1)) + 1)) + 1)) + 1))).2).2)) x k).1 k r = r ((fun (x : ZI) (k : Int) => ((ZI.mk k (W (k + 1)) (ZR.mk (W ((W (k + 1)) + 1)) (ZA x.Doc.ZE (W ((W ((W (k + 1)) + 1)) + 1))).1 (ZB x.Doc.ZG (ZA x.Doc.ZE (W ((W ((W (k + 1)) + 1)) + 1))).2).1) (Zb.mk (ZB x.Doc.ZG (ZA x.Doc.ZE (W ((W ((W (k + 1)) + 1)) + 1))).2).2 (W ((ZB x.Doc.ZG (ZA x.Doc.ZE (W ((W ((W (k + 1)) + 1)) + 1))).2).2 + 1)) (W ((W ((ZB x.Doc.ZG (ZA x.Doc.ZE (W ((W ((W (k + 1)) + 1)) + 1))).2).2 + 1)) + 1)) (W ((W ((W ((ZB x.Doc.ZG (ZA x.Doc.ZE (W ((W ((W (k + 1)) + 1)) + 1))).2).2 + 1)) + 1)) + 1)) (W ((W ((W ((W ((ZB x.Doc.ZG (ZA x.Doc.ZE (W ((W ((W (k + 1)) + 1)) + 1))).2).2 + 1)) + 1)) + 1)) + 1)) (W ((W ((W ((W ((W ((ZB x.Doc.ZG (ZA x.Doc.ZE (W ((W ((W (k + 1)) + 1)) + 1))).2).2 + 1)) + 1)) + 1)) + 1)) + 1)) (W ((W ((W ((W ((W ((W ((ZB x.Doc.ZG (ZA x.Doc.ZE (W ((W ((W (k + 1)) + 1)) + 1))).2).2 + 1)) + 1)) + 1)) + 1)) + 1)) + 1)) (W ((W ((W ((W ((W ((W ((W ((ZB x.Doc.ZG (ZA x.Doc.ZE (W ((W ((W (k + 1)) + 1)) + 1))).2).2 + 1)) + 1)) + 1)) + 1)) + 1)) + 1)) + 1)) (W ((W ((W ((W ((W ((W ((W ((W ((ZB x.Doc.ZG (ZA x.Doc.ZE (W ((W ((W (k + 1)) + 1)) + 1))).2).2 + 1)) + 1)) + 1)) + 1)) + 1)) + 1)) + 1)) + 1))) (Zf.mk (ZW x.ZQ.ZS (W ((W ((W ((W ((W ((W ((W ((W ((W ((ZB x.Doc.ZG (ZA x.Doc.ZE (W ((W ((W (k + 1)) + 1)) + 1))).2).2 + 1)) + 1)) + 1)) + 1)) + 1)) + 1)) + 1)) + 1)) + 1))).1 (Zg x.ZQ.Zj (ZW x.ZQ.ZS (W ((W ((W ((W ((W ((W ((W ((W ((W ((ZB x.Doc.ZG (ZA x.Doc.ZE (W ((W ((W (k + 1)) + 1)) + 1))).2).2 + 1)) + 1)) + 1)) + 1)) + 1)) + 1)) + 1)) + 1)) + 1))).2).1)), (Zg x.ZQ.Zj (ZW x.ZQ.ZS (W ((W ((W ((W ((W ((W ((W ((W ((W ((ZB x.Doc.ZG (ZA x.Doc.ZE (W ((W ((W (k + 1)) + 1)) + 1))).2).2 + 1)) + 1)) + 1)) + 1)) + 1)) + 1)) + 1)) + 1)) + 1))).2).2)) x k).2 := by
  intro x k r h0 h
  simp only [Y3, Yj, KN, Y4, ZI.Ya, ZR.Ya, Zf.Ya, Zb.Ya] at h
  have e0 : W (k + 1) = k + 1 := ZT (by omega) (by omega)
  have e1 : W ((W (k + 1)) + 1) = (W (k + 1)) + 1 := ZT (by omega) (by omega)
  have e2 : W ((W ((W (k + 1)) + 1)) + 1) = (W ((W (k + 1)) + 1)) + 1 := ZT (by omega) (by omega)
  obtain ⟨m3, n3, h3⟩ := Tw x.Doc.ZE (W ((W ((W (k + 1)) + 1)) + 1)) (by omega) (by omega)
  have q3 := z6 x.Doc.ZE (W ((W ((W (k + 1)) + 1)) + 1)) (by omega) (by omega)
  have o3 : ¬ (ZA x.Doc.ZE (W ((W ((W (k + 1)) + 1)) + 1))).2 < 0 := by omega
  obtain ⟨m6, n6, h6⟩ := KF x.Doc.ZG (ZA x.Doc.ZE (W ((W ((W (k + 1)) + 1)) + 1))).2 (by omega) (by omega)
  have q6 := Xn x.Doc.ZG (ZA x.Doc.ZE (W ((W ((W (k + 1)) + 1)) + 1))).2 (by omega) (by omega)
  have o6 : ¬ (ZB x.Doc.ZG (ZA x.Doc.ZE (W ((W ((W (k + 1)) + 1)) + 1))).2).2 < 0 := by omega
  have e9 : W ((ZB x.Doc.ZG (ZA x.Doc.ZE (W ((W ((W (k + 1)) + 1)) + 1))).2).2 + 1) = (ZB x.Doc.ZG (ZA x.Doc.ZE (W ((W ((W (k + 1)) + 1)) + 1))).2).2 + 1 := ZT (by omega) (by omega)
  have e10 : W ((W ((ZB x.Doc.ZG (ZA x.Doc.ZE (W ((W ((W (k + 1)) + 1)) + 1))).2).2 + 1)) + 1) = (W ((ZB x.Doc.ZG (ZA x.Doc.ZE (W ((W ((W (k + 1)) + 1)) + 1))).2).2 + 1)) + 1 := ZT (by omega) (by omega)
  have e11 : W ((W ((W ((ZB x.Doc.ZG (ZA x.Doc.ZE (W ((W ((W (k + 1)) + 1)) + 1))).2).2 + 1)) + 1)) + 1) = (W ((W ((ZB x.Doc.ZG (ZA x.Doc.ZE (W ((W ((W (k + 1)) + 1)) + 1))).2).2 + 1)) + 1)) + 1 := ZT (by omega) (by omega)
  have e12 : W ((W ((W ((W ((ZB x.Doc.ZG (ZA x.Doc.ZE (W ((W ((W (k + 1)) + 1)) + 1))).2).2 + 1)) + 1)) + 1)) + 1) = (W ((W ((W ((ZB x.Doc.ZG (ZA x.Doc.ZE (W ((W ((W (k + 1)) + 1)) + 1))).2).2 + 1)) + 1)) + 1)) + 1 := ZT (by omega) (by omega)
  have e13 : W ((W ((W ((W ((W ((ZB x.Doc.ZG (ZA x.Doc.ZE (W ((W ((W (k + 1)) + 1)) + 1))).2).2 + 1)) + 1)) + 1)) + 1)) + 1) = (W ((W ((W ((W ((ZB x.Doc.ZG (ZA x.Doc.ZE (W ((W ((W (k + 1)) + 1)) + 1))).2).2 + 1)) + 1)) + 1)) + 1)) + 1 := ZT (by omega) (by omega)
  have e14 : W ((W ((W ((W ((W ((W ((ZB x.Doc.ZG (ZA x.Doc.ZE (W ((W ((W (k + 1)) + 1)) + 1))).2).2 + 1)) + 1)) + 1)) + 1)) + 1)) + 1) = (W ((W ((W ((W ((W ((ZB x.Doc.ZG (ZA x.Doc.ZE (W ((W ((W (k + 1)) + 1)) + 1))).2).2 + 1)) + 1)) + 1)) + 1)) + 1)) + 1 := ZT (by omega) (by omega)
  have e15 : W ((W ((W ((W ((W ((W ((W ((ZB x.Doc.ZG (ZA x.Doc.ZE (W ((W ((W (k + 1)) + 1)) + 1))).2).2 + 1)) + 1)) + 1)) + 1)) + 1)) + 1)) + 1) = (W ((W ((W ((W ((W ((W ((ZB x.Doc.ZG (ZA x.Doc.ZE (W ((W ((W (k + 1)) + 1)) + 1))).2).2 + 1)) + 1)) + 1)) + 1)) + 1)) + 1)) + 1 := ZT (by omega) (by omega)
  have e16 : W ((W ((W ((W ((W ((W ((W ((W ((ZB x.Doc.ZG (ZA x.Doc.ZE (W ((W ((W (k + 1)) + 1)) + 1))).2).2 + 1)) + 1)) + 1)) + 1)) + 1)) + 1)) + 1)) + 1) = (W ((W ((W ((W ((W ((W ((W ((ZB x.Doc.ZG (ZA x.Doc.ZE (W ((W ((W (k + 1)) + 1)) + 1))).2).2 + 1)) + 1)) + 1)) + 1)) + 1)) + 1)) + 1)) + 1 := ZT (by omega) (by omega)
  have e17 : W ((W ((W ((W ((W ((W ((W ((W ((W ((ZB x.Doc.ZG (ZA x.Doc.ZE (W ((W ((W (k + 1)) + 1)) + 1))).2).2 + 1)) + 1)) + 1)) + 1)) + 1)) + 1)) + 1)) + 1)) + 1) = (W ((W ((W ((W ((W ((W ((W ((W ((ZB x.Doc.ZG (ZA x.Doc.ZE (W ((W ((W (k + 1)) + 1)) + 1))).2).2 + 1)) + 1)) + 1)) + 1)) + 1)) + 1)) + 1)) + 1)) + 1 := ZT (by omega) (by omega)
  obtain ⟨m18, n18, h18⟩ := Rv x.ZQ.ZS (W ((W ((W ((W ((W ((W ((W ((W ((W ((ZB x.Doc.ZG (ZA x.Doc.ZE (W ((W ((W (k + 1)) + 1)) + 1))).2).2 + 1)) + 1)) + 1)) + 1)) + 1)) + 1)) + 1)) + 1)) + 1)) (by omega) (by omega)
  have q18 := yq x.ZQ.ZS (W ((W ((W ((W ((W ((W ((W ((W ((W ((ZB x.Doc.ZG (ZA x.Doc.ZE (W ((W ((W (k + 1)) + 1)) + 1))).2).2 + 1)) + 1)) + 1)) + 1)) + 1)) + 1)) + 1)) + 1)) + 1)) (by omega) (by omega)
  have o18 : ¬ (ZW x.ZQ.ZS (W ((W ((W ((W ((W ((W ((W ((W ((W ((ZB x.Doc.ZG (ZA x.Doc.ZE (W ((W ((W (k + 1)) + 1)) + 1))).2).2 + 1)) + 1)) + 1)) + 1)) + 1)) + 1)) + 1)) + 1)) + 1))).2 < 0 := by omega
  obtain ⟨m21, n21, h21⟩ := U9 x.ZQ.Zj (ZW x.ZQ.ZS (W ((W ((W ((W ((W ((W ((W ((W ((W ((ZB x.Doc.ZG (ZA x.Doc.ZE (W ((W ((W (k + 1)) + 1)) + 1))).2).2 + 1)) + 1)) + 1)) + 1)) + 1)) + 1)) + 1)) + 1)) + 1))).2 (by omega) (by omega)
  have q21 := zX x.ZQ.Zj (ZW x.ZQ.ZS (W ((W ((W ((W ((W ((W ((W ((W ((W ((ZB x.Doc.ZG (ZA x.Doc.ZE (W ((W ((W (k + 1)) + 1)) + 1))).2).2 + 1)) + 1)) + 1)) + 1)) + 1)) + 1)) + 1)) + 1)) + 1))).2 (by omega) (by omega)
  have o21 : ¬ (Zg x.ZQ.Zj (ZW x.ZQ.ZS (W ((W ((W ((W ((W ((W ((W ((W ((W ((ZB x.Doc.ZG (ZA x.Doc.ZE (W ((W ((W (k + 1)) + 1)) + 1))).2).2 + 1)) + 1)) + 1)) + 1)) + 1)) + 1)) + 1)) + 1)) + 1))).2).2 < 0 := by omega
  simp [h3, h6, h18, h21, o3, o6, o18, o21]
theorem R4 (a0 : List ZI) (a1 : Int) (h0 : 0 ≤ a1) (h : a1 + (cn a0 : Nat) < 4611686018427387904) : a1 ≤ (Zv a0 a1).2 ∧ (Zv a0 a1).2 ≤ a1 + (cn a0 : Nat) ∧ QY (Zv a0 a1).1 a1 = (Zv a0 a1).2 := by
  rw [qM]
  have s := XP jc a0 a1 h0 h
  have hh := Qu (z := (mkL (fun (x : ZI) (k : Int) => ((ZI.mk k (W (k + 1)) (ZR.mk (W ((W (k + 1)) + 1)) (ZA x.Doc.ZE (W ((W ((W (k + 1)) + 1)) + 1))).1 (ZB x.Doc.ZG (ZA x.Doc.ZE (W ((W ((W (k + 1)) + 1)) + 1))).2).1) (Zb.mk (ZB x.Doc.ZG (ZA x.Doc.ZE (W ((W ((W (k + 1)) + 1)) + 1))).2).2 (W ((ZB x.Doc.ZG (ZA x.Doc.ZE (W ((W ((W (k + 1)) + 1)) + 1))).2).2 + 1)) (W ((W ((ZB x.Doc.ZG (ZA x.Doc.ZE (W ((W ((W (k + 1)) + 1)) + 1))).2).2 + 1)) + 1)) (W ((W ((W ((ZB x.Doc.ZG (ZA x.Doc.ZE (W ((W ((W (k + 1)) + 1)) + 1))).2).2 + 1)) + 1)) + 1)) (W ((W ((W ((W ((ZB x.Doc.ZG (ZA x.Doc.ZE (W ((W ((W (k + 1)) + 1)) + 1))).2).2 + 1)) + 1)) + 1)) + 1)) (W ((W ((W ((W ((W ((ZB x.Doc.ZG (ZA x.Doc.ZE (W ((W ((W (k + 1)) + 1)) + 1))).2).2 + 1)) + 1)) + 1)) + 1)) + 1)) (W ((W ((W ((W ((W ((W ((ZB x.Doc.ZG (ZA x.Doc.ZE (W ((W ((W (k + 1)) + 1)) + 1))).2).2 + 1)) + 1)) + 1)) + 1)) + 1)) + 1)) (W ((W ((W ((W ((W ((W ((W ((ZB x.Doc.ZG (ZA x.Doc.ZE (W ((W ((W (k + 1)) + 1)) + 1))).2).2 + 1)) + 1)) + 1)) + 1)) + 1)) + 1)) + 1)) (W ((W ((W ((W ((W ((W ((W ((W ((ZB x.Doc.ZG (ZA x.Doc.ZE (W ((W ((W (k + 1)) + 1)) + 1))).2).2 + 1)) + 1)) + 1)) + 1)) + 1)) + 1)) + 1)) + 1))) (Zf.mk (ZW x.ZQ.ZS (W ((W ((W ((W ((W ((W ((W ((W ((W ((ZB x.Doc.ZG (ZA x.Doc.ZE (W ((W ((W (k + 1)) + 1)) + 1))).2).2 + 1)) + 1)) + 1)) + 1)) + 1)) + 1)) + 1)) + 1)) + 1))).1 (Zg x.ZQ.Zj (ZW x.ZQ.ZS (W ((W ((W ((W ((W ((W ((W ((W ((W ((ZB x.Doc.ZG (ZA x.Doc.ZE (W ((W ((W (k + 1)) + 1)) + 1))).2).2 + 1)) + 1)) + 1)) + 1)) + 1)) + 1)) + 1)) + 1)) + 1))).2).1)), (Zg x.ZQ.Zj (ZW x.ZQ.ZS (W ((W ((W ((W ((W ((W ((W ((W ((W ((ZB x.Doc.ZG (ZA x.Doc.ZE (W ((W ((W (k + 1)) + 1)) + 1))).2).2 + 1)) + 1)) + 1)) + 1)) + 1)) + 1)) + 1)) + 1)) + 1))).2).2)) a0 a1).1) (H := xD (mkL (fun (x : ZI) (k : Int) => ((ZI.mk k (W (k + 1)) (ZR.mk (W ((W (k + 1)) + 1)) (ZA x.Doc.ZE (W ((W ((W (k + 1)) + 1)) + 1))).1 (ZB x.Doc.ZG (ZA x.Doc.ZE (W ((W ((W (k + 1)) + 1)) + 1))).2).1) (Zb.mk (ZB x.Doc.ZG (ZA x.Doc.ZE (W ((W ((W (k + 1)) + 1)) + 1))).2).2 (W ((ZB x.Doc.ZG (ZA x.Doc.ZE (W ((W ((W (k + 1)) + 1)) + 1))).2).2 + 1)) (W ((W ((ZB x.Doc.ZG (ZA x.Doc.ZE (W ((W ((W (k + 1)) + 1)) + 1))).2).2 + 1)) + 1)) (W ((W ((W ((ZB x.Doc.ZG (ZA x.Doc.ZE (W ((W ((W (k + 1)) + 1)) + 1))).2).2 + 1)) + 1)) + 1)) (W ((W ((W ((W ((ZB x.Doc.ZG (ZA x.Doc.ZE (W ((W ((W (k + 1)) + 1)) + 1))).2).2 + 1)) + 1)) + 1)) + 1)) (W ((W ((W ((W ((W ((ZB x.Doc.ZG (ZA x.Doc.ZE (W ((W ((W (k + 1)) + 1)) + 1))).2).2 + 1)) + 1)) + 1)) + 1)) + 1)) (W ((W ((W ((W ((W ((W ((ZB x.Doc.ZG (ZA x.Doc.ZE (W ((W ((W (k + 1)) + 1)) + 1))).2).2 + 1)) + 1)) + 1)) + 1)) + 1)) + 1)) (W ((W ((W ((W ((W ((W ((W ((ZB x.Doc.ZG (ZA x.Doc.ZE (W ((W ((W (k + 1)) + 1)) + 1))).2).2 + 1)) + 1)) + 1)) + 1)) + 1)) + 1)) + 1)) (W ((W ((W ((W ((W ((W ((W ((W ((ZB x.Doc.ZG (ZA x.Doc.ZE (W ((W ((W (k + 1)) + 1)) + 1))).2).2 + 1)) + 1)) + 1)) + 1)) + 1)) + 1)) + 1)) + 1))) (Zf.mk (ZW x.ZQ.ZS (W ((W ((W ((W ((W ((W ((W ((W ((W ((ZB x.Doc.ZG (ZA x.Doc.ZE (W ((W ((W (k + 1)) + 1)) + 1))).2).2 + 1)) + 1)) + 1)) + 1)) + 1)) + 1)) + 1)) + 1)) + 1))).1 (Zg x.ZQ.Zj (ZW x.ZQ.ZS (W ((W ((W ((W ((W ((W ((W ((W ((W ((ZB x.Doc.ZG (ZA x.Doc.ZE (W ((W ((W (k + 1)) + 1)) + 1))).2).2 + 1)) + 1)) + 1)) + 1)) + 1)) + 1)) + 1)) + 1)) + 1))).2).1)), (Zg x.ZQ.Zj (ZW x.ZQ.ZS (W ((W ((W ((W ((W ((W ((W ((W ((W ((ZB x.Doc.ZG (ZA x.Doc.ZE (W ((W ((W (k + 1)) + 1)) + 1))).2).2 + 1)) + 1)) + 1)) + 1)) + 1)) + 1)) + 1)) + 1)) + 1))).2).2)) a0 a1).1) (G := (fun (x : ZI) (k : Int) (r : Int → Sum Int Int) => (bif (x.Id != k) then (.inl (-1)) else (bif (x.Yo != (W (k + 1))) then (.inl (-1)) else (bif (x.Doc.K4 != (W ((W (k + 1)) + 1))) then (.inl (-1)) else (bif (decide ((ZY x.Doc.ZE (W ((W ((W (k + 1)) + 1)) + 1))) < 0)) then (.inl (-1)) else (bif (decide ((ZU x.Doc.ZG (ZY x.Doc.ZE (W ((W ((W (k + 1)) + 1)) + 1)))) < 0)) then (.inl (-1)) else (bif (x.Sig.Key != (ZU x.Doc.ZG (ZY x.Doc.ZE (W ((W ((W (k + 1)) + 1)) + 1))))) then (.inl (-1)) else (bif (x.Sig.QM != (W ((ZU x.Doc.ZG (ZY x.Doc.ZE (W ((W ((W (k + 1)) + 1)) + 1)))) + 1))) then (.inl (-1)) else (bif (x.Sig.Method != (W ((W ((ZU x.Doc.ZG (ZY x.Doc.ZE (W ((W ((W (k + 1)) + 1)) + 1)))) + 1)) + 1))) then (.inl (-1)) else (bif (x.Sig.YZ != (W ((W ((W ((ZU x.Doc.ZG (ZY x.Doc.ZE (W ((W ((W (k + 1)) + 1)) + 1)))) + 1)) + 1)) + 1))) then (.inl (-1)) else (bif (x.Sig.zP != (W ((W ((W ((W ((ZU x.Doc.ZG (ZY x.Doc.ZE (W ((W ((W (k + 1)) + 1)) + 1)))) + 1)) + 1)) + 1)) + 1))) then (.inl (-1)) else (bif (x.Sig.Org != (W ((W ((W ((W ((W ((ZU x.Doc.ZG (ZY x.Doc.ZE (W ((W ((W (k + 1)) + 1)) + 1)))) + 1)) + 1)) + 1)) + 1)) + 1))) then (.inl (-1)) else (bif (x.Sig.KY != (W ((W ((W ((W ((W ((W ((ZU x.Doc.ZG (ZY x.Doc.ZE (W ((W ((W (k + 1)) + 1)) + 1)))) + 1)) + 1)) + 1)) + 1)) + 1)) + 1))) then (.inl (-1)) else (bif (x.Sig.yZ != (W ((W ((W ((W ((W ((W ((W ((ZU x.Doc.ZG (ZY x.Doc.ZE (W ((W ((W (k + 1)) + 1)) + 1)))) + 1)) + 1)) + 1)) + 1)) + 1)) + 1)) + 1))) then (.inl (-1)) else (bif (x.Sig.Mark != (W ((W ((W ((W ((W ((W ((W ((W ((ZU x.Doc.ZG (ZY x.Doc.ZE (W ((W ((W (k + 1)) + 1)) + 1)))) + 1)) + 1)) + 1)) + 1)) + 1)) + 1)) + 1)) + 1))) then (.inl (-1)) else (bif (decide ((Y0 x.ZQ.ZS (W ((W ((W ((W ((W ((W ((W ((W ((W ((ZU x.Doc.ZG (ZY x.Doc.ZE (W ((W ((W (k + 1)) + 1)) + 1)))) + 1)) + 1)) + 1)) + 1)) + 1)) + 1)) + 1)) + 1)) + 1))) < 0)) then (.inl (-1)) else (bif (decide ((XN x.ZQ.Zj (Y0 x.ZQ.ZS (W ((W ((W ((W ((W ((W ((W ((W ((W ((ZU x.Doc.ZG (ZY x.Doc.ZE (W ((W ((W (k + 1)) + 1)) + 1)))) + 1)) + 1)) + 1)) + 1)) + 1)) + 1)) + 1)) + 1)) + 1)))) < 0)) then (.inl (-1)) else (r (XN x.ZQ.Zj (Y0 x.ZQ.ZS (W ((W ((W ((W ((W ((W ((W ((W ((W ((ZU x.Doc.ZG (ZY x.Doc.ZE (W ((W ((W (k + 1)) + 1)) + 1)))) + 1)) + 1)) + 1)) + 1)) + 1)) + 1)) + 1)) + 1)) + 1))))))))))))))))))))))) (fun _ _ _ => rfl) jc ME a0 [] ((mkL (fun (x : ZI) (k : Int) => ((ZI.mk k (W (k + 1)) (ZR.mk (W ((W (k + 1)) + 1)) (ZA x.Doc.ZE (W ((W ((W (k + 1)) + 1)) + 1))).1 (ZB x.Doc.ZG (ZA x.Doc.ZE (W ((W ((W (k + 1)) + 1)) + 1))).2).1) (Zb.mk (ZB x.Doc.ZG (ZA x.Doc.ZE (W ((W ((W (k + 1)) + 1)) + 1))).2).2 (W ((ZB x.Doc.ZG (ZA x.Doc.ZE (W ((W ((W (k + 1)) + 1)) + 1))).2).2 + 1)) (W ((W ((ZB x.Doc.ZG (ZA x.Doc.ZE (W ((W ((W (k + 1)) + 1)) + 1))).2).2 + 1)) + 1)) (W ((W ((W ((ZB x.Doc.ZG (ZA x.Doc.ZE (W ((W ((W (k + 1)) + 1)) + 1))).2).2 + 1)) + 1)) + 1)) (W ((W ((W ((W ((ZB x.Doc.ZG (ZA x.Doc.ZE (W ((W ((W (k + 1)) + 1)) + 1))).2).2 + 1)) + 1)) + 1)) + 1)) (W ((W ((W ((W ((W ((ZB x.Doc.ZG (ZA x.Doc.ZE (W ((W ((W (k + 1)) + 1)) + 1))).2).2 + 1)) + 1)) + 1)) + 1)) + 1)) (W ((W ((W ((W ((W ((W ((ZB x.Doc.ZG (ZA x.Doc.ZE (W ((W ((W (k + 1)) + 1)) + 1))).2).2 + 1)) + 1)) + 1)) + 1)) + 1)) + 1)) (W ((W ((W ((W ((W ((W ((W ((ZB x.Doc.ZG (ZA x.Doc.ZE (W ((W ((W (k + 1)) + 1)) + 1))).2).2 + 1)) + 1)) + 1)) + 1)) + 1)) + 1)) + 1)) (W ((W ((W ((W ((W ((W ((W ((W ((ZB x.Doc.ZG (ZA x.Doc.ZE (W ((W ((W (k + 1)) + 1)) + 1))).2).2 + 1)) + 1)) + 1)) + 1)) + 1)) + 1)) + 1)) + 1))) (Zf.mk (ZW x.ZQ.ZS (W ((W ((W ((W ((W ((W ((W ((W ((W ((ZB x.Doc.ZG (ZA x.Doc.ZE (W ((W ((W (k + 1)) + 1)) + 1))).2).2 + 1)) + 1)) + 1)) + 1)) + 1)) + 1)) + 1)) + 1)) + 1))).1 (Zg x.ZQ.Zj (ZW x.ZQ.ZS (W ((W ((W ((W ((W ((W ((W ((W ((W ((ZB x.Doc.ZG (ZA x.Doc.ZE (W ((W ((W (k + 1)) + 1)) + 1))).2).2 + 1)) + 1)) + 1)) + 1)) + 1)) + 1)) + 1)) + 1)) + 1))).2).1)), (Zg x.ZQ.Zj (ZW x.ZQ.ZS (W ((W ((W ((W ((W ((W ((W ((W ((W ((ZB x.Doc.ZG (ZA x.Doc.ZE (W ((W ((W (k + 1)) + 1)) + 1))).2).2 + 1)) + 1)) + 1)) + 1)) + 1)) + 1)) + 1)) + 1)) + 1))).2).2)) a0 a1).1.length + 1) a1 (by simp) (by rw [XR]; omega) h0 h
  simp only [List.length_nil] at hh
  rw [Qm] at *
  refine ⟨by omega, by omega, ?_⟩
  unfold QY
  rw [hh]
theorem yP (a0 : List ZC) (a1 : Int) : Zs a0 a1 = mkL (fun (x : ZC) (k : Int) => ((ZC.mk k (Zv x.ZF (W (k + 1))).1), (Zv x.ZF (W (k + 1))).2)) a0 a1 := by
  have h := Qw (F := Xa) (f := (fun (x : ZC) (k : Int) => ((ZC.mk k (Zv x.ZF (W (k + 1))).1), (Zv x.ZF (W (k + 1))).2))) (fun _ _ _ _ => rfl) a0 [] (a0.length + 1) a1 (by omega)
  unfold Zs
  simp only [List.length_nil, List.nil_append] at h
  rw [h]
@[simp] theorem Gc (a0 : List ZC) (a1 : Int) : (Zs a0 a1).1.length = a0.length := by rw [yP, XR]
theorem ym : ∀ (x : ZC) (k : Int), 0 ≤ k → k + (cn x : Nat) < 4611686018427387904 → ((fun (x : ZC) (k : Int) => ((ZC.mk k (Zv x.ZF (W (k + 1))).1), (Zv x.ZF (W (k + 1))).2)) x k).2 = k + (cn x : Nat) := by
  intro x k h0 h
  simp only [Y3, Yj, KN, Y4, ZC.Ya] at h ⊢
  have e0 : W (k + 1) = k + 1 := ZT (by omega) (by omega)
  obtain ⟨m1, n1⟩ := P3 x.ZF (W (k + 1)) (by omega) (by omega)
  have q1 := xe x.ZF (W (k + 1)) (by omega) (by omega)
  have o1 : ¬ (Zv x.ZF (W (k + 1))).2 < 0 := by omega
  omega
theorem V1 (a0 : List ZC) (a1 : Int) (h0 : 0 ≤ a1) (h : a1 + (cn a0 : Nat) < 4611686018427387904) : (Zs a0 a1).2 = a1 + (cn a0 : Nat) := by
  rw [yP]
  exact XP ym a0 a1 h0 h
theorem TT : ∀ (x : ZC) (k : Int) (r : Int → Sum Int Int), 0 ≤ k → k + (cn x : Nat) < 4611686018427387904 → (fun (x : ZC) (k : Int) (r : Int → Sum Int Int) => (bif (x.Id != k) then (.inl (-1)) else (bif (decide ((QY x.ZF (W (k + 1))) < 0)) then (.inl (-1)) else (r (QY x.ZF (W (k + 1))))))) ((fun (x : ZC) (k : Int) => ((ZC.mk k (Zv x.ZF (W (k + 1))).1), (Zv x.ZF (W (k + 1))).2)) x k).1 k r = r ((fun (x : ZC) (k : Int) => ((ZC.mk k (Zv x.ZF (W (k + 1))).1), (Zv x.ZF (W (k + 1))).2)) x k).2 := by
  intro x k r h0 h
  simp only [Y3, Yj, KN, Y4, ZC.Ya] at h
  have e0 : W (k + 1) = k + 1 := ZT (by omega) (by omega)
  obtain ⟨m1, n1, h1⟩ := R4 x.ZF (W (k + 1)) (by omega) (by omega)
  have q1 := xe x.ZF (W (k + 1)) (by omega) (by omega)
  have o1 : ¬ (Zv x.ZF (W (k + 1))).2 < 0 := by omega
  simp [h1, o1]
theorem Ut (a0 : List ZC) (a1 : Int) (h0 : 0 ≤ a1) (h : a1 + (cn a0 : Nat) < 4611686018427387904) : a1 ≤ (Zs a0 a1).2 ∧ (Zs a0 a1).2 ≤ a1 + (cn a0 : Nat) ∧ Yu (Zs a0 a1).1 a1 = (Zs a0 a1).2 := by
  rw [yP]
  have s := XP ym a0 a1 h0 h
  have hh := Qu (z := (mkL (fun (x : ZC) (k : Int) => ((ZC.mk k (Zv x.ZF (W (k + 1))).1), (Zv x.ZF (W (k + 1))).2)) a0 a1).1) (H := Ks (mkL (fun (x : ZC) (k : Int) => ((ZC.mk k (Zv x.ZF (W (k + 1))).1), (Zv x.ZF (W (k + 1))).2)) a0 a1).1) (G := (fun (x : ZC) (k : Int) (r : Int → Sum Int Int) => (bif (x.Id != k) then (.inl (-1)) else (bif (decide ((QY x.ZF (W (k + 1))) < 0)) then (.inl (-1)) else (r (QY x.ZF (W (k + 1)))))))) (fun _ _ _ => rfl) ym TT a0 [] ((mkL (fun (x : ZC) (k : Int) => ((ZC.mk k (Zv x.ZF (W (k + 1))).1), (Zv x.ZF (W (k + 1))).2)) a0 a1).1.length + 1) a1 (by simp) (by rw [XR]; omega) h0 h
  simp only [List.length_nil] at hh
  rw [Qm] at *
  refine ⟨by omega, by omega, ?_⟩
  unfold Yu
  rw [hh]
@[simp] theorem PE (a0 : Ze) (a1 : Int) : (Zm a0 a1).1.Frame.XE.length = a0.Frame.XE.length := by simp [Zm]
@[simp] theorem UO (a0 : Ze) (a1 : Int) : (Zm a0 a1).1.Frame.Zc.length = a0.Frame.Zc.length := by simp [Zm]
@[simp] theorem SW (a0 : Ze) (a1 : Int) : (Zm a0 a1).1.Frame.Methods.length = a0.Frame.Methods.length := by simp [Zm]
@[simp] theorem My (a0 : Ze) (a1 : Int) : (Zm a0 a1).1.Frame.xh = a0.Frame.xh := rfl
@[simp] theorem Ih (a0 : Ze) (a1 : Int) : (Zm a0 a1).1.Frame.Now = a0.Frame.Now := rfl
@[simp] theorem Ii (a0 : Ze) (a1 : Int) : (Zm a0 a1).1.Zy.length = a0.Zy.length := by simp [Zm]
@[simp] theorem Ij (a0 : Ze) (a1 : Int) : (Zm a0 a1).1.Z6.length = a0.Z6.length := by simp [Zm]
@[simp] theorem MA (a0 : Ze) (a1 : Int) : (Zm a0 a1).1.ZH.length = a0.ZH.length := by simp [Zm]
@[simp] theorem Hs (a0 : Ze) (a1 : Int) : (Zm a0 a1).1.XC.length = a0.XC.length := by simp [Zm]
@[simp] theorem Ig (a0 : Ze) (a1 : Int) : (Zm a0 a1).1.Yq.length = a0.Yq.length := by simp [Zm]
@[simp] theorem Fu (a0 : Ze) (a1 : Int) : (Zm a0 a1).1.Next = a0.Next := rfl
@[simp] theorem LN (a0 : Ze) (a1 : Int) : (Zm a0 a1).1.Ym.length = a0.Ym.length := by simp [Zm]
theorem W0 (a0 : Ze) (a1 : Int) (h0 : 0 ≤ a1) (h : a1 + (cn a0 : Nat) < 4611686018427387904) : a1 ≤ (Zm a0 a1).2 ∧ (Zm a0 a1).2 ≤ a1 + (cn a0 : Nat) ∧ Jp (Zm a0 a1).1 a1 = (Zm a0 a1).2 := by
  simp only [Y3, Yj, Y4, Ze.Ya] at h ⊢
  obtain ⟨m0, n0, h0⟩ := PN a0.Frame a1 (by omega) (by omega)
  have o0 : ¬ (Zd a0.Frame a1).2 < 0 := by omega
  obtain ⟨m2, n2, h2⟩ := Ph a0.Zy (Zd a0.Frame a1).2 (by omega) (by omega)
  have q2 := RT a0.Zy (Zd a0.Frame a1).2 (by omega) (by omega)
  have o2 : ¬ (Zr a0.Zy (Zd a0.Frame a1).2).2 < 0 := by omega
  obtain ⟨m5, n5, h5⟩ := KF a0.Z6 (Zr a0.Zy (Zd a0.Frame a1).2).2 (by omega) (by omega)
  have q5 := Xn a0.Z6 (Zr a0.Zy (Zd a0.Frame a1).2).2 (by omega) (by omega)
  have o5 : ¬ (ZB a0.Z6 (Zr a0.Zy (Zd a0.Frame a1).2).2).2 < 0 := by omega
  obtain ⟨m8, n8, h8⟩ := Ut a0.ZH (ZB a0.Z6 (Zr a0.Zy (Zd a0.Frame a1).2).2).2 (by omega) (by omega)
  have q8 := V1 a0.ZH (ZB a0.Z6 (Zr a0.Zy (Zd a0.Frame a1).2).2).2 (by omega) (by omega)
  have o8 : ¬ (Zs a0.ZH (ZB a0.Z6 (Zr a0.Zy (Zd a0.Frame a1).2).2).2).2 < 0 := by omega
  obtain ⟨m11, n11, h11⟩ := KF a0.XC (Zs a0.ZH (ZB a0.Z6 (Zr a0.Zy (Zd a0.Frame a1).2).2).2).2 (by omega) (by omega)
  have q11 := Xn a0.XC (Zs a0.ZH (ZB a0.Z6 (Zr a0.Zy (Zd a0.Frame a1).2).2).2).2 (by omega) (by omega)
  have o11 : ¬ (ZB a0.XC (Zs a0.ZH (ZB a0.Z6 (Zr a0.Zy (Zd a0.Frame a1).2).2).2).2).2 < 0 := by omega
  obtain ⟨m14, n14, h14⟩ := KF a0.Yq (ZB a0.XC (Zs a0.ZH (ZB a0.Z6 (Zr a0.Zy (Zd a0.Frame a1).2).2).2).2).2 (by omega) (by omega)
  have q14 := Xn a0.Yq (ZB a0.XC (Zs a0.ZH (ZB a0.Z6 (Zr a0.Zy (Zd a0.Frame a1).2).2).2).2).2 (by omega) (by omega)
  have o14 : ¬ (ZB a0.Yq (ZB a0.XC (Zs a0.ZH (ZB a0.Z6 (Zr a0.Zy (Zd a0.Frame a1).2).2).2).2).2).2 < 0 := by omega
  obtain ⟨m17, n17, h17⟩ := KF a0.Ym (ZB a0.Yq (ZB a0.XC (Zs a0.ZH (ZB a0.Z6 (Zr a0.Zy (Zd a0.Frame a1).2).2).2).2).2).2 (by omega) (by omega)
  have q17 := Xn a0.Ym (ZB a0.Yq (ZB a0.XC (Zs a0.ZH (ZB a0.Z6 (Zr a0.Zy (Zd a0.Frame a1).2).2).2).2).2).2 (by omega) (by omega)
  have o17 : ¬ (ZB a0.Ym (ZB a0.Yq (ZB a0.XC (Zs a0.ZH (ZB a0.Z6 (Zr a0.Zy (Zd a0.Frame a1).2).2).2).2).2).2).2 < 0 := by omega
  refine ⟨by simp only [Zm]; omega, by simp only [Zm]; omega, ?_⟩
  simp [Zm, Jp, h0, h2, h5, h8, h11, h14, h17, o0, o2, o5, o8, o11, o14, o17]
@[simp] theorem ER (x : Za) : (zk x).length = 5 := rfl
@[simp] theorem EW (x : Za) : (zd x).length = 5 := rfl
@[simp] theorem GD (x : Zb) : (Qx x).length = 9 := rfl
@[simp] theorem GF (x : Zb) : (Qy x).length = 9 := rfl
theorem PW {a : Zf} (h : zV a = true) : 0 < a.ZS.length := by
  unfold zV at h
  split at h
  · rename_i r e
    have : ∀ n v, Kv a n v ≠ .inl true := by
      intro n
      induction n with
      | zero => intro v h; cases h
      | succ n ih =>
        intro v h
        rw [Kv] at h
        cases h1 : decide ((v : Int) < (a.ZS.length : Int)) with
        | false => rw [h1] at h; cases h
        | true =>
          rw [h1] at h
          cases h2 : decide (zp a (nth a.ZS v) < (v : Int)) with
          | true => rw [h2] at h; cases h
          | false => rw [h2] at h; exact ih _ h
    subst h; exact absurd e (this _ _)
  · split at h
    · rename_i r e
      have : ∀ n v, Kw a n v ≠ .inl true := by
        intro n
        induction n with
        | zero => intro v h; cases h
        | succ n ih =>
          intro v h
          rw [Kw] at h
          generalize decide ((v : Int) < (a.Zj.length : Int)) = c1 at h
          cases c1 with
          | false => cases h
          | true =>
            simp only [cond_true] at h
            generalize (!XM (nth a.Zj v).Count 1 (a.ZS.length : Int) || decide ((v : Int) > 0) && decide ((nth a.Zj (v - 1)).Count > (nth a.Zj v).Count)) = c2 at h
            cases c2 with
            | true => cases h
            | false => exact ih _ h
      subst h; exact absurd e (this _ _)
    · simp only [XM, Bool.and_eq_true, decide_eq_true_eq] at h; omega
theorem OK {a : Zf} (h : zU a = true) : 0 < a.ZS.length := by
  unfold zU at h
  generalize (match Kx a (a.ZS.length + 1) 0 with | .inl r1 => r1 | .inr _ => (match K0 a (a.Zj.length + 1) 0 with | .inl r2 => r2 | .inr _ => true)) = m at h
  cases hh : YE (a.ZS.length : Int) 1 12 with
  | false => rw [hh] at h; simp at h
  | true => simp only [YE, Bool.and_eq_true, decide_eq_true_eq] at hh; omega
theorem T6 {a : ZR} (h : Q8 a = true) : a.ZG.length = a.ZE.length := by
  unfold Q8 at h
  split at h
  · rename_i r e
    have : ∀ n v, Jd a n v ≠ .inl true := by
      intro n
      induction n with
      | zero => intro v h; cases h
      | succ n ih =>
        intro v h
        rw [Jd] at h
        generalize decide ((v : Int) < (a.ZE.length : Int)) = c1 at h
        cases c1 with
        | false => cases h
        | true =>
          simp only [cond_true] at h
          generalize decide (((nth a.ZE v).size : Int) > 40) = c2 at h
          cases c2 with
          | true => cases h
          | false => exact ih _ h
    subst h; exact absurd e (this _ _)
  · split at h
    · rename_i r e
      have : ∀ n v, Jg a n v ≠ .inl true := by
        intro n
        induction n with
        | zero => intro v h; cases h
        | succ n ih =>
          intro v h
          rw [Jg] at h
          generalize decide ((v : Int) < (a.ZG.length : Int)) = c1 at h
          cases c1 with
          | false => cases h
          | true =>
            simp only [cond_true] at h
            generalize (!XM (nth a.ZG v) 1 1000000000000) = c2 at h
            cases c2 with
            | true => cases h
            | false => exact ih _ h
      subst h; exact absurd e (this _ _)
    · simp only [Bool.and_eq_true, beq_iff_eq] at h; omega
theorem Tb {a : ZR} (h : JK a = true) : a.ZG.length = a.ZE.length := by
  unfold JK at h
  generalize (match JW a (a.ZE.length + 1) 0 with | .inl r1 => r1 | .inr _ => true) = m at h
  by_cases hh : a.ZG.length = a.ZE.length
  · exact hh
  · rw [show ((a.ZG.length : Int) != (a.ZE.length : Int)) = true by simp; omega] at h
    simp at h
@[simp] theorem DY (l : List UInt8) : (yg l).length = l.length := by
  have key : ∀ n (acc : List Int) v, l.length < n + v → v ≤ l.length → (Kc l n acc v).length = acc.length + (l.length - v) := by
    intro n
    induction n with
    | zero => intro acc v h1 h2; omega
    | succ n ih =>
      intro acc v h1 h2
      rw [Kc]
      by_cases hv : v < l.length
      · rw [show decide ((v : Int) < (l.length : Int)) = true by simpa using hv, cond_true, ih _ (v + 1) (by omega) (by omega)]
        simp; omega
      · rw [show decide ((v : Int) < (l.length : Int)) = false by simpa using hv, cond_false]; omega
  have := key (l.length + 1) [] 0 (by omega) (by omega)
  simpa [yg] using this
theorem Ip (a0 : Int) (a1 : List Int) (h : a1.length ≤ 1048576) : 2 * (kP a0 a1).length = a1.length + a1.length % 2 := by
  have key : ∀ n v i, a1.length + 1 < 2 * n + i → i ≤ a1.length + 1 → i % 2 = 0 → 2 * (Kn a0 a1 n v i).length = 2 * v.length + (a1.length + a1.length % 2 - i) := by
    intro n
    induction n with
    | zero => intro v i h1 h2; omega
    | succ n ih =>
      intro v i h1 h2 h3
      unfold Kn
      by_cases hi : i < a1.length
      · rw [show decide ((i : Int) < (a1.length : Int)) = true by simp [hi], cond_true]
        have e : ∀ x, 2 * (Kn a0 a1 n (v ++ [x]) (i + 2)).length = 2 * v.length + (a1.length + a1.length % 2 - i) := by
          intro x
          have := ih (v ++ [x]) (i + 2) (by omega) (by omega) (by omega)
          rw [this, List.length_append, List.length_singleton]; omega
        exact YS (p := fun (r : List Int) => 2 * r.length = 2 * v.length + (a1.length + a1.length % 2 - i)) (e _) (e _)
      · rw [show decide ((i : Int) < (a1.length : Int)) = false by simp; omega, cond_false]; omega
  have := key (a1.length + 1) [] 0 (by omega) (by omega) (by omega)
  unfold kP
  rw [this]; simp
theorem SG (a0 : Int) (a1 : List Int) (h : a1.length ≤ 1048576) : 2 * (J1 a0 a1).length = a1.length + a1.length % 2 := by
  have key : ∀ n v i, a1.length + 1 < 2 * n + i → i ≤ a1.length + 1 → i % 2 = 0 → 2 * (Xr a0 a1 n v i).length = 2 * v.length + (a1.length + a1.length % 2 - i) := by
    intro n
    induction n with
    | zero => intro v i h1 h2; omega
    | succ n ih =>
      intro v i h1 h2 h3
      unfold Xr
      by_cases hi : i < a1.length
      · rw [show decide ((i : Int) < (a1.length : Int)) = true by simp [hi], cond_true]
        have e : ∀ x, 2 * (Xr a0 a1 n (v ++ [x]) (i + 2)).length = 2 * v.length + (a1.length + a1.length % 2 - i) := by
          intro x
          have := ih (v ++ [x]) (i + 2) (by omega) (by omega) (by omega)
          rw [this, List.length_append, List.length_singleton]; omega
        exact YS (p := fun (r : List Int) => 2 * r.length = 2 * v.length + (a1.length + a1.length % 2 - i)) (e _) (e _)
      · rw [show decide ((i : Int) < (a1.length : Int)) = false by simp; omega, cond_false]; omega
  have := key (a1.length + 1) [] 0 (by omega) (by omega) (by omega)
  unfold J1
  rw [this]; simp
theorem L4 {n : Nat} {a0 : ZC} {a1 : ZI} (h : Sm n a0) (hx : Sm (n + 1) a1) : Sm (n + 1) (X4 a0 a1).1 := by
  have h1 : Sm (n + 1) a0 := YL (Nat.le_succ n) h
  unfold X4
  cases ((decide ((ZX a0 a1.Id) ≥ 0)) || (!(JG a0))) with
  | true => exact h1
  | false =>
    simp only [cond_false]
    generalize YU a0 a1 (a0.ZF.length + 1) 0 = z
    cases (!(JG (ZC.mk a0.Id (((a0.ZF.take z) ++ ([a1] : List ZI)) ++ (a0.ZF.drop z))))) with
    | true => exact h1
    | false =>
      refine ⟨by have := ZC.YW h; have := this.1; simp; omega, fun y hy => ?_⟩
      have hy' : y ∈ a0.ZF.take z ∨ y = a1 ∨ y ∈ a0.ZF.drop z := by simpa using hy
      rcases hy' with hy | rfl | hy
      · exact h1.2 y (List.mem_of_mem_take hy)
      · exact hx
      · exact h1.2 y (List.mem_of_mem_drop hy)
theorem qS {n : Nat} {a0 : ZC} {a1 : ZI} (h : Sm n a0) (hx : Sm n a1) : ∀ (m : Nat) (b : Bool) (i : Nat) (l : List ZI), l.length ≤ i + (bif b then 1 else 0) → i ≤ a0.ZF.length → (∀ y ∈ l, Sm n y) →
    (Y8 a0 a1 m b i l).2.length ≤ a0.ZF.length + (bif (Y8 a0 a1 m b i l).1 then 1 else 0) ∧ ∀ y ∈ (Y8 a0 a1 m b i l).2, Sm n y
  | 0, b, i, l, _, _, _ => ⟨Nat.zero_le _, fun y hy => by cases hy⟩
  | m + 1, b, i, l, hl, hi, hs => by
    unfold Y8
    cases hc : decide ((↑i : Int) < (↑a0.ZF.length : Int)) with
    | false =>
      simp only [cond_false]
      refine ⟨?_, hs⟩
      have : ¬ ((i : Int) < a0.ZF.length) := by simpa using hc
      omega
    | true =>
      have hlt : i < a0.ZF.length := by simpa using hc
      have hn : Sm n (nth a0.ZF i) := Yl h
      simp only [cond_true]
      cases hd : ((!b) && (decide (a1.Id < (nth a0.ZF i).Id))) with
      | true =>
        have hb : b = false := by cases b <;> simp_all
        subst hb
        simp only [cond_true]
        refine qS h hx m true (i + 1) _ (by simp at hl ⊢; omega) hlt (fun y hy => ?_)
        simp only [List.append_assoc, List.mem_append, List.mem_cons, List.not_mem_nil, or_false] at hy
        rcases hy with hy | rfl | rfl
        · exact hs y hy
        · exact hx
        · exact hn
      | false =>
        simp only [cond_false]
        refine qS h hx m b (i + 1) _ (by simp at hl ⊢; omega) hlt (fun y hy => ?_)
        simp only [List.mem_append, List.mem_cons, List.not_mem_nil, or_false] at hy
        rcases hy with hy | rfl
        · exact hs y hy
        · exact hn
theorem LC {n : Nat} {a0 : ZC} {a1 : ZI} (h : Sm n a0) (hx : Sm n a1) : Sm (n + 1) (KD a0 a1).1 := by
  have h1 : Sm (n + 1) a0 := YL (Nat.le_succ n) h
  unfold KD
  cases ((!(QV a0)) || (decide ((Xo a0 a1.Id) ≥ 0))) with
  | true => exact h1
  | false =>
    have hz := qS h hx (a0.ZF.length + 1) false 0 [] (Nat.zero_le _) (Nat.zero_le _) (fun y hy => by cases hy)
    have hlen := (ZC.YW h).1
    simp only [cond_false]
    generalize hq : Y8 a0 a1 (a0.ZF.length + 1) false 0 [] = z at hz ⊢
    obtain ⟨z0, z1⟩ := z
    cases z0 with
    | false =>
      simp only [Bool.not_false, cond_true]
      cases (!(QV (ZC.mk a0.Id (z1 ++ ([a1] : List ZI))))) with
      | true => exact h1
      | false =>
        refine ⟨by have := hz.1; simp at this ⊢; omega, fun y hy => ?_⟩
        have hy' : y ∈ z1 ∨ y = a1 := by simpa using hy
        rcases hy' with hy | rfl
        · exact YL (Nat.le_succ n) (hz.2 y hy)
        · exact YL (Nat.le_succ n) hx
    | true =>
      simp only [Bool.not_true, cond_false]
      cases (!(QV (ZC.mk a0.Id z1))) with
      | true => exact h1
      | false => exact ⟨by have := hz.1; simp at this ⊢; omega, fun y hy => YL (Nat.le_succ n) (hz.2 y hy)⟩
theorem qw (a0 : Z1) (a1 : Int) (h : XK a0 a1 = true) : a0.ZF.length ≤ 8 := by
  unfold XK at h
  have hk : ∀ n v r, Xu a0 n v = .inl r → r = false := by
    intro n
    induction n with
    | zero => intro v r h; cases h
    | succ n ih =>
      intro v r h
      rw [Xu] at h
      revert h
      exact YS (p := fun w => w = Sum.inl r → r = false) (YS (p := fun w => w = Sum.inl r → r = false) (fun h => by cases h; rfl) (fun h => ih _ _ h)) (fun h => by cases h)
  cases hh : Xu a0 (a0.ZF.length + 1) 0 with
  | inl r => rw [hh] at h; have := hk _ _ _ hh; subst this; cases h
  | inr u =>
    rw [hh] at h
    simp only [YE, Bool.and_eq_true, decide_eq_true_eq] at h
    omega
theorem qy {n : Nat} {a0 : ZC} {a2 : List Int} (h : Sm n a0) : ∀ (m v : Nat) (l : List ZI), (∀ x ∈ l, Sm n x) → l.length ≤ v → v ≤ a2.length →
    (∀ r, Yr a0 a2 m v l = .inl r → r = (Z1.mk 0 0 [] 0, false)) ∧ ∀ z, Yr a0 a2 m v l = .inr z → z.length ≤ a2.length ∧ ∀ x ∈ z, Sm n x
  | 0, v, l, _, _, _ => ⟨fun r h => (by cases h), fun z h => (by cases h; exact ⟨Nat.zero_le _, fun x hx => (by cases hx)⟩)⟩
  | m + 1, v, l, hs, hl, hv => by
    rw [Yr]
    let p := fun w : Sum (Z1 × Bool) (List ZI) => (∀ r, w = .inl r → r = (Z1.mk 0 0 [] 0, false)) ∧ ∀ z, w = .inr z → z.length ≤ a2.length ∧ ∀ x ∈ z, Sm n x
    refine xQ (p := p) (fun hc => ?_) (fun _ => ⟨fun r h => (by cases h), fun z h => (by cases h; exact ⟨by omega, hs⟩)⟩)
    have hc : v < a2.length := by simpa using hc
    refine YS (p := p) ⟨fun r h => (by cases h; rfl), fun z h => (by cases h)⟩ ?_
    refine qy h m (v + 1) _ (fun x hx => ?_) (by simp; omega) hc
    rcases List.mem_append.1 hx with hx | hx
    · exact hs x hx
    · have e := List.mem_singleton.1 hx
      subst e
      exact Yl (ZC.YW h)
theorem WA {n : Nat} {a0 : ZC} {a1 a3 : Int} {a2 : List Int} (h : Sm n a0) (h2 : Sm n a2) : Sm n (YH a0 a1 a2 a3).1 := by
  unfold YH
  obtain ⟨k1, k2⟩ := qy (a2 := a2) h (a2.length + 1) 0 [] (fun x hx => (by cases hx)) (Nat.zero_le _) (Nat.zero_le _)
  have h0 : Sm n (Z1.mk 0 0 [] 0) := by simp [Xd]
  cases hh : Yr a0 a2 (a2.length + 1) 0 [] with
  | inl r => rw [k1 r hh]; exact h0
  | inr z =>
    obtain ⟨q1, q2⟩ := k2 z hh
    have hz : Sm n z := ⟨by have := zM h2; omega, q2⟩
    dsimp only
    refine YS (p := fun w : Z1 × Bool => Sm n w.1) h0 ?_
    simp [hz]
theorem VX {n : Nat} {a0 : ZC} {a1 : Int} (hb : n ≤ 9223372036854775807) (h : Sm n a0) : Sm n (XS a0 a1).1 := by
  unfold XS
  by_cases hk : ZX a0 a1 < 0
  · rw [decide_eq_true hk]; exact h
  · rw [decide_eq_false hk]
    have hi := ZC.YW h
    have hf := X8 a0 a1
    have hl := zM hi
    refine ⟨?_, fun y hy => ?_⟩
    · have hm : (a0.ZF.take (ZX a0 a1).toNat ++ (a0.ZF.drop (W ((ZX a0 a1) + 1)).toNat)).length ≤ n := by
        have w : W ((ZX a0 a1) + 1) = (ZX a0 a1) + 1 := ZT (by omega) (by omega)
        rw [w]; simp; omega
      exact hm
    · have hy' : y ∈ a0.ZF.take (ZX a0 a1).toNat ∨ y ∈ a0.ZF.drop (W ((ZX a0 a1) + 1)).toNat := List.mem_append.1 hy
      rcases hy' with hy | hy
      · exact hi.2 y (List.mem_of_mem_take hy)
      · exact hi.2 y (List.mem_of_mem_drop hy)
theorem U0 (a0 : Z1) (a1 : Int) (h : QU a0 a1 = true) : a0.ZF.length ≤ 8 := by
  unfold QU at h
  have hk : ∀ n v r, Xs a0 n v = .inl r → r = false := by
    intro n
    induction n with
    | zero => intro v r h; cases h
    | succ n ih =>
      intro v r h
      rw [Xs] at h
      revert h
      exact YS (p := fun w => w = Sum.inl r → r = false) (YS (p := fun w => w = Sum.inl r → r = false) (fun h => by cases h; rfl) (fun h => ih _ _ h)) (fun h => by cases h)
  cases hh : Xs a0 (a0.ZF.length + 1) 0 with
  | inl r => rw [hh] at h; have := hk _ _ _ hh; subst this; cases h
  | inr u =>
    rw [hh] at h
    simp only [XM, Bool.and_eq_true, decide_eq_true_eq] at h
    omega
theorem qu {n : Nat} {a0 : ZC} {a2 : List Int} (h : Sm n a0) : ∀ (m v : Nat) (l : List ZI), (∀ x ∈ l, Sm n x) → l.length ≤ v → v ≤ a2.length →
    (∀ r, Xq a0 a2 m v l = .inl r → r = (Z1.mk 0 0 [] 0, false)) ∧ ∀ z, Xq a0 a2 m v l = .inr z → z.length ≤ a2.length ∧ ∀ x ∈ z, Sm n x
  | 0, v, l, _, _, _ => ⟨fun r h => (by cases h), fun z h => (by cases h; exact ⟨Nat.zero_le _, fun x hx => (by cases hx)⟩)⟩
  | m + 1, v, l, hs, hl, hv => by
    rw [Xq]
    let p := fun w : Sum (Z1 × Bool) (List ZI) => (∀ r, w = .inl r → r = (Z1.mk 0 0 [] 0, false)) ∧ ∀ z, w = .inr z → z.length ≤ a2.length ∧ ∀ x ∈ z, Sm n x
    refine xQ (p := p) (fun hc => ?_) (fun _ => ⟨fun r h => (by cases h), fun z h => (by cases h; exact ⟨by omega, hs⟩)⟩)
    have hc : v < a2.length := by simpa using hc
    refine YS (p := p) ⟨fun r h => (by cases h; rfl), fun z h => (by cases h)⟩ ?_
    refine qu h m (v + 1) _ (fun x hx => ?_) (by simp; omega) hc
    rcases List.mem_append.1 hx with hx | hx
    · exact hs x hx
    · have e := List.mem_singleton.1 hx
      subst e
      exact Yl (ZC.YW h)
theorem ky {n : Nat} {a0 : ZC} {a1 a3 : Int} {a2 : List Int} (h : Sm n a0) (h2 : Sm n a2) : Sm n (Yg a0 a1 a2 a3).1 := by
  unfold Yg
  obtain ⟨k1, k2⟩ := qu (a2 := a2) h (a2.length + 1) 0 [] (fun x hx => (by cases hx)) (Nat.zero_le _) (Nat.zero_le _)
  have h0 : Sm n (Z1.mk 0 0 [] 0) := by simp [Xd]
  cases hh : Xq a0 a2 (a2.length + 1) 0 [] with
  | inl r => rw [k1 r hh]; exact h0
  | inr z =>
    obtain ⟨q1, q2⟩ := k2 z hh
    have hz : Sm n z := ⟨by have := zM h2; omega, q2⟩
    dsimp only
    refine YS (p := fun w : Z1 × Bool => Sm n w.1) h0 ?_
    simp [hz]
theorem NZ {n : Nat} {a0 : ZC} {a1 : Int} (h : Sm n a0) : Sm n (JM a0 a1).1 := by
  have hi := ZC.YW h
  have hl := zM hi
  have key : ∀ m v l, (∀ x ∈ l, Sm n x) → l.length ≤ v → v ≤ a0.ZF.length → (QR a0 a1 m v l).length ≤ a0.ZF.length ∧ ∀ x ∈ QR a0 a1 m v l, Sm n x := by
    intro m
    induction m with
    | zero => intro v l _ _ _; exact ⟨Nat.zero_le _, fun x hx => (by cases hx)⟩
    | succ m ih =>
      intro v l hs hl hv
      rw [QR]
      let p := fun w : List ZI => w.length ≤ a0.ZF.length ∧ ∀ x ∈ w, Sm n x
      refine xQ (p := p) (fun hc => ?_) (fun _ => ⟨by omega, hs⟩)
      have hc : v < a0.ZF.length := by simpa using hc
      refine YS (p := p) (ih _ _ (fun x hx => ?_) (by simp; omega) hc) (ih _ _ hs (by omega) hc)
      rcases List.mem_append.1 hx with hx | hx
      · exact hs x hx
      · have e := List.mem_singleton.1 hx
        subst e
        exact Yl hi
  unfold JM
  obtain ⟨k1, k2⟩ := key (a0.ZF.length + 1) 0 [] (fun x hx => (by cases hx)) (Nat.zero_le _) (Nat.zero_le _)
  refine YS (p := fun w : ZC × Bool => Sm n w.1) h ?_
  exact ⟨by dsimp only; omega, k2⟩
end Go.Mo
