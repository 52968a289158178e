/- Plain lemmas on the models of the helpers. No condition. -/
import Derived.Test.YtjflhdkeibijaaaGreatM
namespace Go.Mo
open Go.Vm
set_option linter.unusedSimpArgs false
set_option linter.unusedVariables false
theorem Im : y7 XL := kC (fun _ _ => trivial) (fun _ _ => rfl)
theorem IG : y8 XL 0 := j5 (fun _ => Nat.le_of_ble_eq_true rfl) (fun _ _ => rfl)
theorem V3 : y7 Yd := kC (fun _ _ => trivial) (fun _ _ => rfl)
theorem UP : y8 Yd 0 := j5 (fun _ => Nat.le_of_ble_eq_true rfl) (fun _ _ => rfl)
theorem PJ : y7 Je := kC (fun _ _ => trivial) (fun _ _ => rfl)
theorem Pq : y8 Je 0 := j5 (fun _ => Nat.le_of_ble_eq_true rfl) (fun _ _ => rfl)
theorem LU : y7 Z1 := by
  intro a0 a1 hm h0 hn h
  unfold Z1 at h ⊢
  by_cases c0 : (XL a0.YR a1) < 0
  · simp [c0] at h
  obtain ⟨s0, t0⟩ := Im a0.YR a1 (by simp [hm]) (by omega) (by omega) c0
  by_cases c1 : (Yd a0.ZL (XL a0.YR a1)) < 0
  · simp [c1, c0] at h
  obtain ⟨s1, t1⟩ := V3 a0.ZL (XL a0.YR a1) (by simp [hm]) (by omega) (by omega) c1
  by_cases c2 : (Je a0.Methods (Yd a0.ZL (XL a0.YR a1))) < 0
  · simp [c2, c0, c1] at h
  obtain ⟨s2, t2⟩ := PJ a0.Methods (Yd a0.ZL (XL a0.YR a1)) (by simp [hm]) (by omega) (by omega) c2
  simp only [c0, c1, c2, decide_false, cond_false] at h ⊢
  exact ⟨⟨s0, s1, s2⟩, t2⟩
theorem Li : y8 Z1 2 := by
  intro a0 a1 hm h0 hn h
  unfold Z1 at h ⊢
  by_cases c0 : (XL a0.YR a1) < 0
  · simp [c0] at h
  obtain ⟨s0, t0⟩ := IG a0.YR a1 (by simp [hm]) (by omega) (by omega) c0
  by_cases c1 : (Yd a0.ZL (XL a0.YR a1)) < 0
  · simp [c1, c0] at h
  obtain ⟨s1, t1⟩ := UP a0.ZL (XL a0.YR a1) (by simp [hm]) (by omega) (by omega) c1
  by_cases c2 : (Je a0.Methods (Yd a0.ZL (XL a0.YR a1))) < 0
  · simp [c2, c0, c1] at h
  obtain ⟨s2, t2⟩ := Pq a0.Methods (Yd a0.ZL (XL a0.YR a1)) (by simp [hm]) (by omega) (by omega) c2
  simp only [c0, c1, c2, decide_false, cond_false] at h ⊢
  simp only [Y0, Yf, Y1, Z4.YP]
  omega
theorem Ld : y7 YE := kC (fun _ _ => trivial) (fun _ _ => rfl)
theorem LM : y8 YE 0 := j5 (fun _ => Nat.le_of_ble_eq_true rfl) (fun _ _ => rfl)
theorem zH : y7 Zk := kC (fun _ _ => trivial) (fun _ _ => rfl)
theorem K7 : y8 Zk 0 := j5 (fun _ => Nat.le_of_ble_eq_true rfl) (fun _ _ => rfl)
theorem Pz : y7 Y9 := UX G1 (G := Kf) (fun _ _ _ _ => rfl) (fun _ _ => rfl)
theorem R5 : y8 Y9 0 := UG FA (by decide) (G := Kf) (fun _ _ _ _ => rfl) (fun _ _ => rfl)
theorem T9 : y7 Yj := by
  intro a0 a1 hm h0 hn h
  unfold Yj at h ⊢
  by_cases c0 : (Y9 a0.ZE a1) < 0
  · simp [c0] at h
  obtain ⟨s0, t0⟩ := Pz a0.ZE a1 (by simp [hm]) (by omega) (by omega) c0
  by_cases c1 : (Zk a0.ZG (Y9 a0.ZE a1)) < 0
  · simp [c1, c0] at h
  obtain ⟨s1, t1⟩ := zH a0.ZG (Y9 a0.ZE a1) (by simp [hm]) (by omega) (by omega) c1
  simp only [c0, c1, decide_false, cond_false] at h ⊢
  exact ⟨⟨s0, s1⟩, t1⟩
theorem Sj : y8 Yj 1 := by
  intro a0 a1 hm h0 hn h
  unfold Yj at h ⊢
  by_cases c0 : (Y9 a0.ZE a1) < 0
  · simp [c0] at h
  obtain ⟨s0, t0⟩ := R5 a0.ZE a1 (by simp [hm]) (by omega) (by omega) c0
  by_cases c1 : (Zk a0.ZG (Y9 a0.ZE a1)) < 0
  · simp [c1, c0] at h
  obtain ⟨s1, t1⟩ := K7 a0.ZG (Y9 a0.ZE a1) (by simp [hm]) (by omega) (by omega) c1
  simp only [c0, c1, decide_false, cond_false] at h ⊢
  simp only [Y0, Yf, Y1, ZT.YP]
  omega
theorem Mw : y7 zG := by
  intro a0 a1 hm h0 hn h
  unfold zG at h ⊢
  by_cases c0 : (Zk a0.Ye a1) < 0
  · simp [c0] at h
  obtain ⟨s0, t0⟩ := zH a0.Ye a1 (by simp [hm]) (by omega) (by omega) c0
  simp only [c0, decide_false, cond_false] at h ⊢
  exact ⟨s0, t0⟩
theorem N8 : y8 zG 2 := by
  intro a0 a1 hm h0 hn h
  unfold zG at h ⊢
  by_cases c0 : (Zk a0.Ye a1) < 0
  · simp [c0] at h
  obtain ⟨s0, t0⟩ := K7 a0.Ye a1 (by simp [hm]) (by omega) (by omega) c0
  simp only [c0, decide_false, cond_false] at h ⊢
  simp only [Y0, Yf, Y1, ZO.YP]
  omega
theorem OV : y7 XV := UX Mw (G := zc) (fun _ _ _ _ => rfl) (fun _ _ => rfl)
theorem Oq : y8 XV 0 := UG N8 (by decide) (G := zc) (fun _ _ _ _ => rfl) (fun _ _ => rfl)
theorem Mm : y7 Xw := kC (fun _ _ => trivial) (fun _ _ => rfl)
theorem LC : y8 Xw 0 := j5 (fun _ => Nat.le_of_ble_eq_true rfl) (fun _ _ => rfl)
theorem O6 : y7 KL := kC (fun _ _ => trivial) (fun _ _ => rfl)
theorem Oz : y8 KL 0 := j5 (fun _ => Nat.le_of_ble_eq_true rfl) (fun _ _ => rfl)
theorem PO : y7 JU := by
  intro a0 a1 hm h0 hn h
  unfold JU at h ⊢
  by_cases c0 : (Xw a0.Path a1) < 0
  · simp [c0] at h
  obtain ⟨s0, t0⟩ := Mm a0.Path a1 (by simp [hm]) (by omega) (by omega) c0
  by_cases c1 : (KL a0.Zv (Xw a0.Path a1)) < 0
  · simp [c1, c0] at h
  obtain ⟨s1, t1⟩ := O6 a0.Zv (Xw a0.Path a1) (by simp [hm]) (by omega) (by omega) c1
  simp only [c0, c1, decide_false, cond_false] at h ⊢
  exact ⟨⟨s0, s1⟩, t1⟩
theorem Rm : y8 JU 3 := by
  intro a0 a1 hm h0 hn h
  unfold JU at h ⊢
  by_cases c0 : (Xw a0.Path a1) < 0
  · simp [c0] at h
  obtain ⟨s0, t0⟩ := LC a0.Path a1 (by simp [hm]) (by omega) (by omega) c0
  by_cases c1 : (KL a0.Zv (Xw a0.Path a1)) < 0
  · simp [c1, c0] at h
  obtain ⟨s1, t1⟩ := Oz a0.Zv (Xw a0.Path a1) (by simp [hm]) (by omega) (by omega) c1
  simp only [c0, c1, decide_false, cond_false] at h ⊢
  simp only [Y0, Yf, Y1, ZF.YP]
  omega
theorem SE : y7 Qs := UX PO (G := KK) (fun _ _ _ _ => rfl) (fun _ _ => rfl)
theorem SV : y8 Qs 0 := UG Rm (by decide) (G := KK) (fun _ _ _ _ => rfl) (fun _ _ => rfl)
theorem Oy : y7 Q4 := by
  intro a0 a1 hm h0 hn h
  unfold Q4 at h ⊢
  by_cases c0 : (XV a0.ZR a1) < 0
  · simp [c0] at h
  obtain ⟨s0, t0⟩ := OV a0.ZR a1 (by simp [hm]) (by omega) (by omega) c0
  by_cases c1 : (Qs a0.ZV (XV a0.ZR a1)) < 0
  · simp [c1, c0] at h
  obtain ⟨s1, t1⟩ := SE a0.ZV (XV a0.ZR a1) (by simp [hm]) (by omega) (by omega) c1
  simp only [c0, c1, decide_false, cond_false] at h ⊢
  exact ⟨⟨s0, s1⟩, t1⟩
theorem Ox : y8 Q4 0 := by
  intro a0 a1 hm h0 hn h
  unfold Q4 at h ⊢
  by_cases c0 : (XV a0.ZR a1) < 0
  · simp [c0] at h
  obtain ⟨s0, t0⟩ := Oq a0.ZR a1 (by simp [hm]) (by omega) (by omega) c0
  by_cases c1 : (Qs a0.ZV (XV a0.ZR a1)) < 0
  · simp [c1, c0] at h
  obtain ⟨s1, t1⟩ := SV a0.ZV (XV a0.ZR a1) (by simp [hm]) (by omega) (by omega) c1
  simp only [c0, c1, decide_false, cond_false] at h ⊢
  simp only [Y0, Yf, Y1, ZY.YP]
  omega
theorem L9 : y7 yo := by
  intro a0 a1 hm h0 hn h
  unfold yo at h ⊢
  by_cases c0 : (Yj a0.Doc a1) < 0
  · simp [c0] at h
  obtain ⟨s0, t0⟩ := T9 a0.Doc a1 (by simp [hm]) (by omega) (by omega) c0
  by_cases c1 : (Q4 a0.ZK (Yj a0.Doc a1)) < 0
  · simp [c1, c0] at h
  obtain ⟨s1, t1⟩ := Oy a0.ZK (Yj a0.Doc a1) (by simp [hm]) (by omega) (by omega) c1
  simp only [c0, c1, decide_false, cond_false] at h ⊢
  exact ⟨⟨s0, s1⟩, t1⟩
theorem L7 : y8 yo 12 := by
  intro a0 a1 hm h0 hn h
  unfold yo at h ⊢
  by_cases c0 : (Yj a0.Doc a1) < 0
  · simp [c0] at h
  obtain ⟨s0, t0⟩ := Sj a0.Doc a1 (by simp [hm]) (by omega) (by omega) c0
  by_cases c1 : (Q4 a0.ZK (Yj a0.Doc a1)) < 0
  · simp [c1, c0] at h
  obtain ⟨s1, t1⟩ := Ox a0.ZK (Yj a0.Doc a1) (by simp [hm]) (by omega) (by omega) c1
  simp only [c0, c1, decide_false, cond_false] at h ⊢
  simp only [Y0, Yf, Y1, Zb.YP, Zm.YP]
  omega
theorem LK : y7 zK := UX L9 (G := ym) (fun _ _ _ _ => rfl) (fun _ _ => rfl)
theorem Mq : y8 zK 0 := UG L7 (by decide) (G := ym) (fun _ _ _ _ => rfl) (fun _ _ => rfl)
theorem Pd : y7 JT := by
  intro a0 a1 hm h0 hn h
  unfold JT at h ⊢
  by_cases c0 : (zK a0.ZS a1) < 0
  · simp [c0] at h
  obtain ⟨s0, t0⟩ := LK a0.ZS a1 (by simp [hm]) (by omega) (by omega) c0
  simp only [c0, decide_false, cond_false] at h ⊢
  exact ⟨s0, t0⟩
theorem R8 : y8 JT 1 := by
  intro a0 a1 hm h0 hn h
  unfold JT at h ⊢
  by_cases c0 : (zK a0.ZS a1) < 0
  · simp [c0] at h
  obtain ⟨s0, t0⟩ := Mq a0.ZS a1 (by simp [hm]) (by omega) (by omega) c0
  simp only [c0, decide_false, cond_false] at h ⊢
  simp only [Y0, Yf, Y1, ZH.YP]
  omega
theorem T5 : y7 YF := UX Pd (G := KH) (fun _ _ _ _ => rfl) (fun _ _ => rfl)
theorem SN : y8 YF 0 := UG R8 (by decide) (G := KH) (fun _ _ _ _ => rfl) (fun _ _ => rfl)
theorem Uf : y7 zO := by
  intro a0 a1 hm h0 hn h
  unfold zO at h ⊢
  by_cases c0 : (Z1 a0.Frame a1) < 0
  · simp [c0] at h
  obtain ⟨s0, t0⟩ := LU a0.Frame a1 (by simp [hm]) (by omega) (by omega) c0
  by_cases c1 : (YE a0.Zx (Z1 a0.Frame a1)) < 0
  · simp [c1, c0] at h
  obtain ⟨s1, t1⟩ := Ld a0.Zx (Z1 a0.Frame a1) (by simp [hm]) (by omega) (by omega) c1
  by_cases c2 : (Zk a0.Z5 (YE a0.Zx (Z1 a0.Frame a1))) < 0
  · simp [c2, c0, c1] at h
  obtain ⟨s2, t2⟩ := zH a0.Z5 (YE a0.Zx (Z1 a0.Frame a1)) (by simp [hm]) (by omega) (by omega) c2
  by_cases c3 : (YF a0.ZC (Zk a0.Z5 (YE a0.Zx (Z1 a0.Frame a1)))) < 0
  · simp [c3, c0, c1, c2] at h
  obtain ⟨s3, t3⟩ := T5 a0.ZC (Zk a0.Z5 (YE a0.Zx (Z1 a0.Frame a1))) (by simp [hm]) (by omega) (by omega) c3
  by_cases c4 : (Zk a0.Yz (YF a0.ZC (Zk a0.Z5 (YE a0.Zx (Z1 a0.Frame a1))))) < 0
  · simp [c4, c0, c1, c2, c3] at h
  obtain ⟨s4, t4⟩ := zH a0.Yz (YF a0.ZC (Zk a0.Z5 (YE a0.Zx (Z1 a0.Frame a1)))) (by simp [hm]) (by omega) (by omega) c4
  by_cases c5 : (Zk a0.YX (Zk a0.Yz (YF a0.ZC (Zk a0.Z5 (YE a0.Zx (Z1 a0.Frame a1)))))) < 0
  · simp [c5, c0, c1, c2, c3, c4] at h
  obtain ⟨s5, t5⟩ := zH a0.YX (Zk a0.Yz (YF a0.ZC (Zk a0.Z5 (YE a0.Zx (Z1 a0.Frame a1))))) (by simp [hm]) (by omega) (by omega) c5
  by_cases c6 : (Zk a0.YT (Zk a0.YX (Zk a0.Yz (YF a0.ZC (Zk a0.Z5 (YE a0.Zx (Z1 a0.Frame a1))))))) < 0
  · simp [c6, c0, c1, c2, c3, c4, c5] at h
  obtain ⟨s6, t6⟩ := zH a0.YT (Zk a0.YX (Zk a0.Yz (YF a0.ZC (Zk a0.Z5 (YE a0.Zx (Z1 a0.Frame a1)))))) (by simp [hm]) (by omega) (by omega) c6
  simp only [c0, c1, c2, c3, c4, c5, c6, decide_false, cond_false] at h ⊢
  exact ⟨⟨s0, s1, s2, s3, s4, s5, s6⟩, t6⟩
theorem LQ : y8 zO 3 := by
  intro a0 a1 hm h0 hn h
  unfold zO at h ⊢
  by_cases c0 : (Z1 a0.Frame a1) < 0
  · simp [c0] at h
  obtain ⟨s0, t0⟩ := Li a0.Frame a1 (by simp [hm]) (by omega) (by omega) c0
  by_cases c1 : (YE a0.Zx (Z1 a0.Frame a1)) < 0
  · simp [c1, c0] at h
  obtain ⟨s1, t1⟩ := LM a0.Zx (Z1 a0.Frame a1) (by simp [hm]) (by omega) (by omega) c1
  by_cases c2 : (Zk a0.Z5 (YE a0.Zx (Z1 a0.Frame a1))) < 0
  · simp [c2, c0, c1] at h
  obtain ⟨s2, t2⟩ := K7 a0.Z5 (YE a0.Zx (Z1 a0.Frame a1)) (by simp [hm]) (by omega) (by omega) c2
  by_cases c3 : (YF a0.ZC (Zk a0.Z5 (YE a0.Zx (Z1 a0.Frame a1)))) < 0
  · simp [c3, c0, c1, c2] at h
  obtain ⟨s3, t3⟩ := SN a0.ZC (Zk a0.Z5 (YE a0.Zx (Z1 a0.Frame a1))) (by simp [hm]) (by omega) (by omega) c3
  by_cases c4 : (Zk a0.Yz (YF a0.ZC (Zk a0.Z5 (YE a0.Zx (Z1 a0.Frame a1))))) < 0
  · simp [c4, c0, c1, c2, c3] at h
  obtain ⟨s4, t4⟩ := K7 a0.Yz (YF a0.ZC (Zk a0.Z5 (YE a0.Zx (Z1 a0.Frame a1)))) (by simp [hm]) (by omega) (by omega) c4
  by_cases c5 : (Zk a0.YX (Zk a0.Yz (YF a0.ZC (Zk a0.Z5 (YE a0.Zx (Z1 a0.Frame a1)))))) < 0
  · simp [c5, c0, c1, c2, c3, c4] at h
  obtain ⟨s5, t5⟩ := K7 a0.YX (Zk a0.Yz (YF a0.ZC (Zk a0.Z5 (YE a0.Zx (Z1 a0.Frame a1))))) (by simp [hm]) (by omega) (by omega) c5
  by_cases c6 : (Zk a0.YT (Zk a0.YX (Zk a0.Yz (YF a0.ZC (Zk a0.Z5 (YE a0.Zx (Z1 a0.Frame a1))))))) < 0
  · simp [c6, c0, c1, c2, c3, c4, c5] at h
  obtain ⟨s6, t6⟩ := K7 a0.YT (Zk a0.YX (Zk a0.Yz (YF a0.ZC (Zk a0.Z5 (YE a0.Zx (Z1 a0.Frame a1)))))) (by simp [hm]) (by omega) (by omega) c6
  simp only [c0, c1, c2, c3, c4, c5, c6, decide_false, cond_false] at h ⊢
  simp only [Y0, Yf, Y1, Zc.YP]
  omega
theorem J3 (a0 : YD) : RF a0 = a0 := by cases a0; simp [RF]
theorem Jc (a0 : List YD) : RT a0 = a0 := Kq (F := jn a0) (g := (fun x => x)) (fun _ => rfl) (fun _ _ _ => rfl) _ 0 _ (by simp) (by omega) (by omega) (fun j h => by omega)
theorem XH (a0 : ZI) : yZ a0 = a0 := by cases a0; simp [yZ]
theorem Y7 (a0 : List ZI) : xj a0 = a0 := Kq (F := KN a0) (g := (fun x => x)) (fun _ => rfl) (fun _ _ _ => rfl) _ 0 _ (by simp) (by omega) (by omega) (fun j h => by omega)
theorem QJ (a0 : ZU) : ji a0 = a0 := by cases a0; simp [ji]
theorem Xr (a0 : List ZU) : kj a0 = a0 := Kq (F := yP a0) (g := (fun x => x)) (fun _ => rfl) (fun _ _ _ => rfl) _ 0 _ (by simp) (by omega) (by omega) (fun j h => by omega)
theorem Qm (a0 : Z4) : Wp a0 = a0 := by cases a0; simp [Wp]
theorem Jb (a0 : Z0) : Ub a0 = a0 := by cases a0; simp [Ub]
theorem Qu (a0 : List Z0) : TN a0 = a0 := Kq (F := qc a0) (g := (fun x => x)) (fun _ => rfl) (fun _ _ _ => rfl) _ 0 _ (by simp) (by omega) (by omega) (fun j h => by omega)
theorem Jd (a0 : List Int) : PZ a0 = a0 := Kq (F := kL a0) (g := (fun x => x)) (fun _ => rfl) (fun _ _ _ => rfl) _ 0 _ (by simp) (by omega) (by omega) (fun j h => by omega)
theorem Xq (a0 : List ByteArray) : WC a0 = a0 := Kq (F := yO a0) (g := (fun x => x)) (fun _ => rfl) (fun _ _ _ => rfl) _ 0 _ (by simp) (by omega) (by omega) (fun j h => by omega)
theorem XY (a0 : ZT) : xZ a0 = a0 := by cases a0; simp [xZ]
theorem XM (a0 : Zm) : yd a0 = a0 := by cases a0; simp [yd]
theorem Qj (a0 : ZO) : Wo a0 = a0 := by cases a0; simp [Wo]
theorem QH (a0 : List ZO) : Vi a0 = a0 := Kq (F := xM a0) (g := (fun x => x)) (fun _ => rfl) (fun _ _ _ => rfl) _ 0 _ (by simp) (by omega) (by omega) (fun j h => by omega)
theorem JY (a0 : Zq) : UM a0 = a0 := by cases a0; simp [UM]
theorem Qh (a0 : List Zq) : TK a0 = a0 := Kq (F := qk a0) (g := (fun x => x)) (fun _ => rfl) (fun _ _ _ => rfl) _ 0 _ (by simp) (by omega) (by omega) (fun j h => by omega)
theorem Qg (a0 : ZX) : Wl a0 = a0 := by cases a0; simp [Wl]
theorem QI (a0 : List ZX) : VB a0 = a0 := Kq (F := xI a0) (g := (fun x => x)) (fun _ => rfl) (fun _ _ _ => rfl) _ 0 _ (by simp) (by omega) (by omega) (fun j h => by omega)
theorem Xm (a0 : ZF) : qK a0 = a0 := by cases a0; simp [qK]
theorem XX (a0 : List ZF) : kB a0 = a0 := Kq (F := zS a0) (g := (fun x => x)) (fun _ => rfl) (fun _ _ _ => rfl) _ 0 _ (by simp) (by omega) (by omega) (fun j h => by omega)
theorem QD (a0 : ZY) : kH a0 = a0 := by cases a0; simp [kH]
theorem JZ (a0 : Zb) : V2 a0 = a0 := by cases a0; simp [V2]
theorem Qp (a0 : List Zb) : Td a0 = a0 := Kq (F := qV a0) (g := (fun x => x)) (fun _ => rfl) (fun _ _ _ => rfl) _ 0 _ (by simp) (by omega) (by omega) (fun j h => by omega)
theorem Xn (a0 : ZH) : qh a0 = a0 := by cases a0; simp [qh]
theorem XZ (a0 : List ZH) : jx a0 = a0 := Kq (F := zR a0) (g := (fun x => x)) (fun _ => rfl) (fun _ _ _ => rfl) _ 0 _ (by simp) (by omega) (by omega) (fun j h => by omega)
theorem Qt (a0 : Zc) : Wn a0 = a0 := by cases a0; simp [Wn]
theorem OT (a0 : Z4) : VF a0 = a0 := rfl
theorem Lw (a0 : ZT) : R0 a0 = a0 := rfl
theorem MV (a0 : ZO) : TY a0 = a0 := rfl
theorem I2 (a0 : List ZO) : V1 a0 = a0 := by
  have h := zN (F := (jm a0)) (a := a0) (g := (fun x => x)) (fun _ => rfl) (fun _ _ _ => rfl) (a0.length + 1) [] 0 (by omega) (by omega)
  simp only [List.nil_append, List.drop_zero] at h
  unfold V1
  rw [h]
theorem M7 (a0 : ZF) : TI a0 = a0 := rfl
theorem Lj (a0 : ZY) : Wd a0 = a0 := by
  have h := zN (F := (fun n v i => qL a0 n i v)) (a := a0.ZV) (g := (fun x => x)) (fun _ => rfl) (fun _ _ _ => rfl) (a0.ZV.length + 1) [] 0 (by omega) (by omega)
  simp only [List.nil_append, List.drop_zero] at h
  unfold Wd
  rw [h]
theorem M8 (a0 : Zb) : U2 a0 = a0 := rfl
theorem LD (a0 : ZH) : Wh a0 = a0 := by
  have h := zN (F := (fun n v i => qS a0 n i v)) (a := a0.ZS) (g := (fun x => x)) (fun _ => rfl) (fun _ _ _ => rfl) (a0.ZS.length + 1) [] 0 (by omega) (by omega)
  simp only [List.nil_append, List.drop_zero] at h
  unfold Wh
  rw [h]
theorem LX (a0 : Zc) : We a0 = a0 := by
  have h := zN (F := (fun n v i => qd a0 n i v)) (a := a0.ZC) (g := (fun x => x)) (fun _ => rfl) (fun _ _ _ => rfl) (a0.ZC.length + 1) [] 0 (by omega) (by omega)
  simp only [List.nil_append, List.drop_zero] at h
  unfold We
  rw [h]
theorem O3 (a0 : ZH) (a1 : Int) : J4 a0 a1 < (a0.ZS.length : Int) := qj (F := KX a0 a1) (c := fun v1_0 => ((nth a0.ZS v1_0).Id == a1)) (fun _ => rfl) (fun _ _ => rfl) _ _
theorem Ur (a0 : List YD) (a1 : Int) : QL a0 a1 < (a0.length : Int) := qj (F := K5 a0 a1) (c := fun v1_0 => ((nth a0 v1_0).Number == a1)) (fun _ => rfl) (fun _ _ => rfl) _ _
theorem SW (a0 : List ZU) (a1 : Int) : Qx a0 a1 < (a0.length : Int) := qj (F := JJ a0 a1) (c := fun v1_0 => ((nth a0 v1_0).Id == a1)) (fun _ => rfl) (fun _ _ => rfl) _ _
theorem Vn (a0 : List ZI) (a1 : Int) : Ya a0 a1 < (a0.length : Int) := qj (F := Xx a0 a1) (c := fun v1_0 => ((nth a0 v1_0).Id == a1)) (fun _ => rfl) (fun _ _ => rfl) _ _
theorem P9 (a0 : Z4) : WX a0 = a0 := rfl
theorem OZ (a0 : List Int) : VW a0 = a0 := rfl
theorem UA (a0 : ZT) : qF a0 = a0 := rfl
theorem Rr (a0 : ZO) : WR a0 = a0 := rfl
theorem SD (a0 : List ZO) : xR a0 = a0 := by
  have h := zN (F := (zb a0)) (a := a0) (g := (fun x => x)) (fun _ => rfl) (fun _ _ _ => rfl) (a0.length + 1) [] 0 (by omega) (by omega)
  simp only [List.nil_append, List.drop_zero] at h
  unfold xR
  rw [h]
theorem SZ (a0 : List ZX) : kK a0 = a0 := rfl
theorem TH (a0 : ZF) : qw a0 = a0 := rfl
theorem SP (a0 : ZY) : xK a0 = a0 := by
  have h := zN (F := (fun n v i => zY a0 n i v)) (a := a0.ZV) (g := (fun x => x)) (fun _ => rfl) (fun _ _ _ => rfl) (a0.ZV.length + 1) [] 0 (by omega) (by omega)
  simp only [List.nil_append, List.drop_zero] at h
  unfold xK
  rw [h]
theorem Oj (a0 : Zb) : Vh a0 = a0 := rfl
theorem U5 (a0 : ZH) : yS a0 = a0 := by
  have h := zN (F := (fun n v i => Ks a0 n i v)) (a := a0.ZS) (g := (fun x => x)) (fun _ => rfl) (fun _ _ _ => rfl) (a0.ZS.length + 1) [] 0 (by omega) (by omega)
  simp only [List.nil_append, List.drop_zero] at h
  unfold yS
  rw [h]
theorem RV (a0 : Zc) : qW a0 = a0 := by
  have h := zN (F := (fun n v i => ya a0 n i v)) (a := a0.ZC) (g := (fun x => x)) (fun _ => rfl) (fun _ _ _ => rfl) (a0.ZC.length + 1) [] 0 (by omega) (by omega)
  simp only [List.nil_append, List.drop_zero] at h
  unfold qW
  rw [h]
theorem NH (a0 : ZH) (a1 : Int) : KG a0 a1 < (a0.ZS.length : Int) := qj (F := KY a0 a1) (c := fun v1_0 => ((nth a0.ZS v1_0).Id == a1)) (fun _ => rfl) (fun _ _ => rfl) _ _
theorem V5 (a0 : List YD) (a1 : Int) : XK a0 a1 < (a0.length : Int) := qj (F := zJ a0 a1) (c := fun v1_0 => ((nth a0 v1_0).Number == a1)) (fun _ => rfl) (fun _ _ => rfl) _ _
theorem Sl (a0 : List ZU) (a1 : Int) : Qy a0 a1 < (a0.length : Int) := qj (F := JI a0 a1) (c := fun v1_0 => ((nth a0 v1_0).Id == a1)) (fun _ => rfl) (fun _ _ => rfl) _ _
theorem VH (a0 : List ZI) (a1 : Int) : Yo a0 a1 < (a0.length : Int) := qj (F := Xy a0 a1) (c := fun v1_0 => ((nth a0 v1_0).Id == a1)) (fun _ => rfl) (fun _ _ => rfl) _ _
theorem UR (a0 : YD) : Wa a0 a0 = true := by simp [Wa]
theorem W2 (a0 : List YD) : WH a0 a0 = true := by
  unfold WH
  rw [Kw (F := kG a0 a0) (L := a0.length) (c := fun v1_0 => (!(Wa (nth a0 v1_0) (nth a0 v1_0)))) (fun i => by simp [UR]) (fun _ => rfl) (fun _ _ => rfl)]
  simp
theorem xi (a0 : ZI) : Ju a0 a0 = true := by simp [Ju]
theorem xH (a0 : List ZI) : J6 a0 a0 = true := by
  unfold J6
  rw [Kw (F := KR a0 a0) (L := a0.length) (c := fun v1_0 => (!(Ju (nth a0 v1_0) (nth a0 v1_0)))) (fun i => by simp [xi]) (fun _ => rfl) (fun _ _ => rfl)]
  simp
theorem kS (a0 : ZU) : z9 a0 a0 = true := by simp [z9]
theorem jY (a0 : List ZU) : yw a0 a0 = true := by
  unfold yw
  rw [Kw (F := yQ a0 a0) (L := a0.length) (c := fun v1_0 => (!(z9 (nth a0 v1_0) (nth a0 v1_0)))) (fun i => by simp [kS]) (fun _ => rfl) (fun _ _ => rfl)]
  simp
theorem WV (a0 : Z4) : jM a0 a0 = true := by simp [jM, xH, W2, jY]
theorem W9 (a0 : Z0) : jQ a0 a0 = true := by simp [jQ]
theorem WM (a0 : List Z0) : jR a0 a0 = true := by
  unfold jR
  rw [Kw (F := qY a0 a0) (L := a0.length) (c := fun v1_0 => (!(jQ (nth a0 v1_0) (nth a0 v1_0)))) (fun i => by simp [W9]) (fun _ => rfl) (fun _ _ => rfl)]
  simp
theorem yb (a0 : List Int) : Kj a0 a0 = true := by
  unfold Kj
  rw [Kw (F := j3 a0 a0) (L := a0.length) (c := fun v1_0 => ((nth a0 v1_0) != (nth a0 v1_0))) (fun i => by simp) (fun _ => rfl) (fun _ _ => rfl)]
  simp
theorem jH (a0 : List ByteArray) : yx a0 a0 = true := by
  unfold yx
  rw [Kw (F := yV a0 a0) (L := a0.length) (c := fun v1_0 => (!decide ((nth a0 v1_0) = (nth a0 v1_0)))) (fun i => by simp) (fun _ => rfl) (fun _ _ => rfl)]
  simp
theorem ql (a0 : ZT) : zX a0 a0 = true := by simp [zX, yb, jH]
theorem xw (a0 : Zm) : Kn a0 a0 = true := by simp [Kn]
theorem ko (a0 : ZO) : xd a0 a0 = true := by simp [xd, yb]
theorem kT (a0 : List ZO) : xu a0 a0 = true := by
  unfold xu
  rw [Kw (F := xU a0 a0) (L := a0.length) (c := fun v1_0 => (!(xd (nth a0 v1_0) (nth a0 v1_0)))) (fun i => by simp [ko]) (fun _ => rfl) (fun _ _ => rfl)]
  simp
theorem W4 (a0 : Zq) : ja a0 a0 = true := by simp [ja]
theorem ka (a0 : List Zq) : jS a0 a0 = true := by
  unfold jS
  rw [Kw (F := qU a0 a0) (L := a0.length) (c := fun v1_0 => (!(ja (nth a0 v1_0) (nth a0 v1_0)))) (fun i => by simp [W4]) (fun _ => rfl) (fun _ _ => rfl)]
  simp
theorem WN (a0 : ZX) : xe a0 a0 = true := by simp [xe]
theorem kN (a0 : List ZX) : xl a0 a0 = true := by
  unfold xl
  rw [Kw (F := xW a0 a0) (L := a0.length) (c := fun v1_0 => (!(xe (nth a0 v1_0) (nth a0 v1_0)))) (fun i => by simp [WN]) (fun _ => rfl) (fun _ _ => rfl)]
  simp
theorem jg (a0 : ZF) : zE a0 a0 = true := by simp [zE, kN, ka]
theorem qM (a0 : List ZF) : zj a0 a0 = true := by
  unfold zj
  rw [Kw (F := zU a0 a0) (L := a0.length) (c := fun v1_0 => (!(zE (nth a0 v1_0) (nth a0 v1_0)))) (fun i => by simp [jg]) (fun _ => rfl) (fun _ _ => rfl)]
  simp
theorem kV (a0 : ZY) : xo a0 a0 = true := by simp [xo, kT, qM]
theorem W3 (a0 : Zb) : jW a0 a0 = true := by simp [jW, ql, xw, kV]
theorem WO (a0 : List Zb) : jI a0 a0 = true := by
  unfold jI
  rw [Kw (F := qP a0 a0) (L := a0.length) (c := fun v1_0 => (!(jW (nth a0 v1_0) (nth a0 v1_0)))) (fun i => by simp [W3]) (fun _ => rfl) (fun _ _ => rfl)]
  simp
theorem jT (a0 : ZH) : zF a0 a0 = true := by simp [zF, WO]
theorem qN (a0 : List ZH) : zs a0 a0 = true := by
  unfold zs
  rw [Kw (F := zg a0 a0) (L := a0.length) (c := fun v1_0 => (!(zF (nth a0 v1_0) (nth a0 v1_0)))) (fun i => by simp [jT]) (fun _ => rfl) (fun _ _ => rfl)]
  simp
theorem Pk (a0 : Zc) : zC a0 a0 = true := by simp [zC, qN, WM, WV, yb]
theorem jC (a0 : List YD) (a1 : Int) : YS a0 a1 = mkL (fun (x : YD) (k : Int) => ((YD.mk k (W (k + 1)) (W ((W (k + 1)) + 1)) (W ((W ((W (k + 1)) + 1)) + 1)) (W ((W ((W ((W (k + 1)) + 1)) + 1)) + 1))), (W ((W ((W ((W ((W (k + 1)) + 1)) + 1)) + 1)) + 1)))) a0 a1 := by
  have h := QZ (F := Ql) (f := (fun (x : YD) (k : Int) => ((YD.mk k (W (k + 1)) (W ((W (k + 1)) + 1)) (W ((W ((W (k + 1)) + 1)) + 1)) (W ((W ((W ((W (k + 1)) + 1)) + 1)) + 1))), (W ((W ((W ((W ((W (k + 1)) + 1)) + 1)) + 1)) + 1))))) (fun _ _ _ _ => rfl) a0 [] (a0.length + 1) a1 (by omega)
  unfold YS
  simp only [List.length_nil, List.nil_append] at h
  rw [h]
@[simp] theorem EN (a0 : List YD) (a1 : Int) : (YS a0 a1).1.length = a0.length := by rw [jC, XC]
theorem jo : ∀ (x : YD) (k : Int), 0 ≤ k → k + (cn x : Nat) < 4611686018427387904 → ((fun (x : YD) (k : Int) => ((YD.mk k (W (k + 1)) (W ((W (k + 1)) + 1)) (W ((W ((W (k + 1)) + 1)) + 1)) (W ((W ((W ((W (k + 1)) + 1)) + 1)) + 1))), (W ((W ((W ((W ((W (k + 1)) + 1)) + 1)) + 1)) + 1)))) x k).2 = k + (cn x : Nat) := by
  intro x k h0 h
  simp only [Y0, Yf, J2, Y1, YD.YP] at h ⊢
  have e0 : W (k + 1) = k + 1 := Za (by omega) (by omega)
  have e1 : W ((W (k + 1)) + 1) = (W (k + 1)) + 1 := Za (by omega) (by omega)
  have e2 : W ((W ((W (k + 1)) + 1)) + 1) = (W ((W (k + 1)) + 1)) + 1 := Za (by omega) (by omega)
  have e3 : W ((W ((W ((W (k + 1)) + 1)) + 1)) + 1) = (W ((W ((W (k + 1)) + 1)) + 1)) + 1 := Za (by omega) (by omega)
  have e4 : W ((W ((W ((W ((W (k + 1)) + 1)) + 1)) + 1)) + 1) = (W ((W ((W ((W (k + 1)) + 1)) + 1)) + 1)) + 1 := Za (by omega) (by omega)
  omega
theorem RQ (a0 : List YD) (a1 : Int) (h0 : 0 ≤ a1) (h : a1 + (cn a0 : Nat) < 4611686018427387904) : (YS a0 a1).2 = a1 + (cn a0 : Nat) := by
  rw [jC]
  exact XF jo a0 a1 h0 h
theorem Mh : ∀ (x : YD) (k : Int) (r : Int → Sum Int Int), 0 ≤ k → k + (cn x : Nat) < 4611686018427387904 → (fun (x : YD) (k : Int) (r : Int → Sum Int Int) => (bif (x.Number != k) then (.inl (-1)) else (bif (x.K8 != (W (k + 1))) then (.inl (-1)) else (bif (x.Method != (W ((W (k + 1)) + 1))) then (.inl (-1)) else (bif (x.RY != (W ((W ((W (k + 1)) + 1)) + 1))) then (.inl (-1)) else (bif (x.Kb != (W ((W ((W ((W (k + 1)) + 1)) + 1)) + 1))) then (.inl (-1)) else (r (W ((W ((W ((W ((W (k + 1)) + 1)) + 1)) + 1)) + 1))))))))) ((fun (x : YD) (k : Int) => ((YD.mk k (W (k + 1)) (W ((W (k + 1)) + 1)) (W ((W ((W (k + 1)) + 1)) + 1)) (W ((W ((W ((W (k + 1)) + 1)) + 1)) + 1))), (W ((W ((W ((W ((W (k + 1)) + 1)) + 1)) + 1)) + 1)))) x k).1 k r = r ((fun (x : YD) (k : Int) => ((YD.mk k (W (k + 1)) (W ((W (k + 1)) + 1)) (W ((W ((W (k + 1)) + 1)) + 1)) (W ((W ((W ((W (k + 1)) + 1)) + 1)) + 1))), (W ((W ((W ((W ((W (k + 1)) + 1)) + 1)) + 1)) + 1)))) x k).2 := by
  intro x k r h0 h
  simp only [Y0, Yf, J2, Y1, YD.YP] at h
  have e0 : W (k + 1) = k + 1 := Za (by omega) (by omega)
  have e1 : W ((W (k + 1)) + 1) = (W (k + 1)) + 1 := Za (by omega) (by omega)
  have e2 : W ((W ((W (k + 1)) + 1)) + 1) = (W ((W (k + 1)) + 1)) + 1 := Za (by omega) (by omega)
  have e3 : W ((W ((W ((W (k + 1)) + 1)) + 1)) + 1) = (W ((W ((W (k + 1)) + 1)) + 1)) + 1 := Za (by omega) (by omega)
  have e4 : W ((W ((W ((W ((W (k + 1)) + 1)) + 1)) + 1)) + 1) = (W ((W ((W ((W (k + 1)) + 1)) + 1)) + 1)) + 1 := Za (by omega) (by omega)
  simp
theorem Oo (a0 : List YD) (a1 : Int) (h0 : 0 ≤ a1) (h : a1 + (cn a0 : Nat) < 4611686018427387904) : a1 ≤ (YS a0 a1).2 ∧ (YS a0 a1).2 ≤ a1 + (cn a0 : Nat) ∧ Qz (YS a0 a1).1 a1 = (YS a0 a1).2 := by
  rw [jC]
  have s := XF jo a0 a1 h0 h
  have hh := Qc (z := (mkL (fun (x : YD) (k : Int) => ((YD.mk k (W (k + 1)) (W ((W (k + 1)) + 1)) (W ((W ((W (k + 1)) + 1)) + 1)) (W ((W ((W ((W (k + 1)) + 1)) + 1)) + 1))), (W ((W ((W ((W ((W (k + 1)) + 1)) + 1)) + 1)) + 1)))) a0 a1).1) (H := xX (mkL (fun (x : YD) (k : Int) => ((YD.mk k (W (k + 1)) (W ((W (k + 1)) + 1)) (W ((W ((W (k + 1)) + 1)) + 1)) (W ((W ((W ((W (k + 1)) + 1)) + 1)) + 1))), (W ((W ((W ((W ((W (k + 1)) + 1)) + 1)) + 1)) + 1)))) a0 a1).1) (G := (fun (x : YD) (k : Int) (r : Int → Sum Int Int) => (bif (x.Number != k) then (.inl (-1)) else (bif (x.K8 != (W (k + 1))) then (.inl (-1)) else (bif (x.Method != (W ((W (k + 1)) + 1))) then (.inl (-1)) else (bif (x.RY != (W ((W ((W (k + 1)) + 1)) + 1))) then (.inl (-1)) else (bif (x.Kb != (W ((W ((W ((W (k + 1)) + 1)) + 1)) + 1))) then (.inl (-1)) else (r (W ((W ((W ((W ((W (k + 1)) + 1)) + 1)) + 1)) + 1)))))))))) (fun _ _ _ => rfl) jo Mh a0 [] ((mkL (fun (x : YD) (k : Int) => ((YD.mk k (W (k + 1)) (W ((W (k + 1)) + 1)) (W ((W ((W (k + 1)) + 1)) + 1)) (W ((W ((W ((W (k + 1)) + 1)) + 1)) + 1))), (W ((W ((W ((W ((W (k + 1)) + 1)) + 1)) + 1)) + 1)))) a0 a1).1.length + 1) a1 (by simp) (by rw [XC]; omega) h0 h
  simp only [List.length_nil] at hh
  rw [XT] at *
  refine ⟨by omega, by omega, ?_⟩
  unfold Qz
  rw [hh]
theorem Kc (a0 : List ZI) (a1 : Int) : YB a0 a1 = mkL (fun (x : ZI) (k : Int) => ((ZI.mk k (W (k + 1)) (W ((W (k + 1)) + 1))), (W ((W ((W (k + 1)) + 1)) + 1)))) a0 a1 := by
  have h := QZ (F := Y3) (f := (fun (x : ZI) (k : Int) => ((ZI.mk k (W (k + 1)) (W ((W (k + 1)) + 1))), (W ((W ((W (k + 1)) + 1)) + 1))))) (fun _ _ _ _ => rfl) a0 [] (a0.length + 1) a1 (by omega)
  unfold YB
  simp only [List.length_nil, List.nil_append] at h
  rw [h]
@[simp] theorem IQ (a0 : List ZI) (a1 : Int) : (YB a0 a1).1.length = a0.length := by rw [Kc, XC]
theorem K0 : ∀ (x : ZI) (k : Int), 0 ≤ k → k + (cn x : Nat) < 4611686018427387904 → ((fun (x : ZI) (k : Int) => ((ZI.mk k (W (k + 1)) (W ((W (k + 1)) + 1))), (W ((W ((W (k + 1)) + 1)) + 1)))) x k).2 = k + (cn x : Nat) := by
  intro x k h0 h
  simp only [Y0, Yf, J2, Y1, ZI.YP] at h ⊢
  have e0 : W (k + 1) = k + 1 := Za (by omega) (by omega)
  have e1 : W ((W (k + 1)) + 1) = (W (k + 1)) + 1 := Za (by omega) (by omega)
  have e2 : W ((W ((W (k + 1)) + 1)) + 1) = (W ((W (k + 1)) + 1)) + 1 := Za (by omega) (by omega)
  omega
theorem WL (a0 : List ZI) (a1 : Int) (h0 : 0 ≤ a1) (h : a1 + (cn a0 : Nat) < 4611686018427387904) : (YB a0 a1).2 = a1 + (cn a0 : Nat) := by
  rw [Kc]
  exact XF K0 a0 a1 h0 h
theorem VU : ∀ (x : ZI) (k : Int) (r : Int → Sum Int Int), 0 ≤ k → k + (cn x : Nat) < 4611686018427387904 → (fun (x : ZI) (k : Int) (r : Int → Sum Int Int) => (bif (x.Id != k) then (.inl (-1)) else (bif (x.Key != (W (k + 1))) then (.inl (-1)) else (bif (x.Error != (W ((W (k + 1)) + 1))) then (.inl (-1)) else (r (W ((W ((W (k + 1)) + 1)) + 1))))))) ((fun (x : ZI) (k : Int) => ((ZI.mk k (W (k + 1)) (W ((W (k + 1)) + 1))), (W ((W ((W (k + 1)) + 1)) + 1)))) x k).1 k r = r ((fun (x : ZI) (k : Int) => ((ZI.mk k (W (k + 1)) (W ((W (k + 1)) + 1))), (W ((W ((W (k + 1)) + 1)) + 1)))) x k).2 := by
  intro x k r h0 h
  simp only [Y0, Yf, J2, Y1, ZI.YP] at h
  have e0 : W (k + 1) = k + 1 := Za (by omega) (by omega)
  have e1 : W ((W (k + 1)) + 1) = (W (k + 1)) + 1 := Za (by omega) (by omega)
  have e2 : W ((W ((W (k + 1)) + 1)) + 1) = (W ((W (k + 1)) + 1)) + 1 := Za (by omega) (by omega)
  simp
theorem Wu (a0 : List ZI) (a1 : Int) (h0 : 0 ≤ a1) (h : a1 + (cn a0 : Nat) < 4611686018427387904) : a1 ≤ (YB a0 a1).2 ∧ (YB a0 a1).2 ≤ a1 + (cn a0 : Nat) ∧ XI (YB a0 a1).1 a1 = (YB a0 a1).2 := by
  rw [Kc]
  have s := XF K0 a0 a1 h0 h
  have hh := Qc (z := (mkL (fun (x : ZI) (k : Int) => ((ZI.mk k (W (k + 1)) (W ((W (k + 1)) + 1))), (W ((W ((W (k + 1)) + 1)) + 1)))) a0 a1).1) (H := Jl (mkL (fun (x : ZI) (k : Int) => ((ZI.mk k (W (k + 1)) (W ((W (k + 1)) + 1))), (W ((W ((W (k + 1)) + 1)) + 1)))) a0 a1).1) (G := (fun (x : ZI) (k : Int) (r : Int → Sum Int Int) => (bif (x.Id != k) then (.inl (-1)) else (bif (x.Key != (W (k + 1))) then (.inl (-1)) else (bif (x.Error != (W ((W (k + 1)) + 1))) then (.inl (-1)) else (r (W ((W ((W (k + 1)) + 1)) + 1)))))))) (fun _ _ _ => rfl) K0 VU a0 [] ((mkL (fun (x : ZI) (k : Int) => ((ZI.mk k (W (k + 1)) (W ((W (k + 1)) + 1))), (W ((W ((W (k + 1)) + 1)) + 1)))) a0 a1).1.length + 1) a1 (by simp) (by rw [XC]; omega) h0 h
  simp only [List.length_nil] at hh
  rw [XT] at *
  refine ⟨by omega, by omega, ?_⟩
  unfold XI
  rw [hh]
theorem yF (a0 : List ZU) (a1 : Int) : Yl a0 a1 = mkL (fun (x : ZU) (k : Int) => ((ZU.mk k (W (k + 1)) (W ((W (k + 1)) + 1)) (W ((W ((W (k + 1)) + 1)) + 1))), (W ((W ((W ((W (k + 1)) + 1)) + 1)) + 1)))) a0 a1 := by
  have h := QZ (F := Xa) (f := (fun (x : ZU) (k : Int) => ((ZU.mk k (W (k + 1)) (W ((W (k + 1)) + 1)) (W ((W ((W (k + 1)) + 1)) + 1))), (W ((W ((W ((W (k + 1)) + 1)) + 1)) + 1))))) (fun _ _ _ _ => rfl) a0 [] (a0.length + 1) a1 (by omega)
  unfold Yl
  simp only [List.length_nil, List.nil_append] at h
  rw [h]
@[simp] theorem H9 (a0 : List ZU) (a1 : Int) : (Yl a0 a1).1.length = a0.length := by rw [yF, XC]
theorem xB : ∀ (x : ZU) (k : Int), 0 ≤ k → k + (cn x : Nat) < 4611686018427387904 → ((fun (x : ZU) (k : Int) => ((ZU.mk k (W (k + 1)) (W ((W (k + 1)) + 1)) (W ((W ((W (k + 1)) + 1)) + 1))), (W ((W ((W ((W (k + 1)) + 1)) + 1)) + 1)))) x k).2 = k + (cn x : Nat) := by
  intro x k h0 h
  simp only [Y0, Yf, J2, Y1, ZU.YP] at h ⊢
  have e0 : W (k + 1) = k + 1 := Za (by omega) (by omega)
  have e1 : W ((W (k + 1)) + 1) = (W (k + 1)) + 1 := Za (by omega) (by omega)
  have e2 : W ((W ((W (k + 1)) + 1)) + 1) = (W ((W (k + 1)) + 1)) + 1 := Za (by omega) (by omega)
  have e3 : W ((W ((W ((W (k + 1)) + 1)) + 1)) + 1) = (W ((W ((W (k + 1)) + 1)) + 1)) + 1 := Za (by omega) (by omega)
  omega
theorem Uj (a0 : List ZU) (a1 : Int) (h0 : 0 ≤ a1) (h : a1 + (cn a0 : Nat) < 4611686018427387904) : (Yl a0 a1).2 = a1 + (cn a0 : Nat) := by
  rw [yF]
  exact XF xB a0 a1 h0 h
theorem SU : ∀ (x : ZU) (k : Int) (r : Int → Sum Int Int), 0 ≤ k → k + (cn x : Nat) < 4611686018427387904 → (fun (x : ZU) (k : Int) (r : Int → Sum Int Int) => (bif (x.Id != k) then (.inl (-1)) else (bif (x.kr != (W (k + 1))) then (.inl (-1)) else (bif (x.Ends != (W ((W (k + 1)) + 1))) then (.inl (-1)) else (bif (x.yN != (W ((W ((W (k + 1)) + 1)) + 1))) then (.inl (-1)) else (r (W ((W ((W ((W (k + 1)) + 1)) + 1)) + 1)))))))) ((fun (x : ZU) (k : Int) => ((ZU.mk k (W (k + 1)) (W ((W (k + 1)) + 1)) (W ((W ((W (k + 1)) + 1)) + 1))), (W ((W ((W ((W (k + 1)) + 1)) + 1)) + 1)))) x k).1 k r = r ((fun (x : ZU) (k : Int) => ((ZU.mk k (W (k + 1)) (W ((W (k + 1)) + 1)) (W ((W ((W (k + 1)) + 1)) + 1))), (W ((W ((W ((W (k + 1)) + 1)) + 1)) + 1)))) x k).2 := by
  intro x k r h0 h
  simp only [Y0, Yf, J2, Y1, ZU.YP] at h
  have e0 : W (k + 1) = k + 1 := Za (by omega) (by omega)
  have e1 : W ((W (k + 1)) + 1) = (W (k + 1)) + 1 := Za (by omega) (by omega)
  have e2 : W ((W ((W (k + 1)) + 1)) + 1) = (W ((W (k + 1)) + 1)) + 1 := Za (by omega) (by omega)
  have e3 : W ((W ((W ((W (k + 1)) + 1)) + 1)) + 1) = (W ((W ((W (k + 1)) + 1)) + 1)) + 1 := Za (by omega) (by omega)
  simp
theorem TG (a0 : List ZU) (a1 : Int) (h0 : 0 ≤ a1) (h : a1 + (cn a0 : Nat) < 4611686018427387904) : a1 ≤ (Yl a0 a1).2 ∧ (Yl a0 a1).2 ≤ a1 + (cn a0 : Nat) ∧ Jz (Yl a0 a1).1 a1 = (Yl a0 a1).2 := by
  rw [yF]
  have s := XF xB a0 a1 h0 h
  have hh := Qc (z := (mkL (fun (x : ZU) (k : Int) => ((ZU.mk k (W (k + 1)) (W ((W (k + 1)) + 1)) (W ((W ((W (k + 1)) + 1)) + 1))), (W ((W ((W ((W (k + 1)) + 1)) + 1)) + 1)))) a0 a1).1) (H := Kt (mkL (fun (x : ZU) (k : Int) => ((ZU.mk k (W (k + 1)) (W ((W (k + 1)) + 1)) (W ((W ((W (k + 1)) + 1)) + 1))), (W ((W ((W ((W (k + 1)) + 1)) + 1)) + 1)))) a0 a1).1) (G := (fun (x : ZU) (k : Int) (r : Int → Sum Int Int) => (bif (x.Id != k) then (.inl (-1)) else (bif (x.kr != (W (k + 1))) then (.inl (-1)) else (bif (x.Ends != (W ((W (k + 1)) + 1))) then (.inl (-1)) else (bif (x.yN != (W ((W ((W (k + 1)) + 1)) + 1))) then (.inl (-1)) else (r (W ((W ((W ((W (k + 1)) + 1)) + 1)) + 1))))))))) (fun _ _ _ => rfl) xB SU a0 [] ((mkL (fun (x : ZU) (k : Int) => ((ZU.mk k (W (k + 1)) (W ((W (k + 1)) + 1)) (W ((W ((W (k + 1)) + 1)) + 1))), (W ((W ((W ((W (k + 1)) + 1)) + 1)) + 1)))) a0 a1).1.length + 1) a1 (by simp) (by rw [XC]; omega) h0 h
  simp only [List.length_nil] at hh
  rw [XT] at *
  refine ⟨by omega, by omega, ?_⟩
  unfold Jz
  rw [hh]
@[simp] theorem IP (a0 : Z4) (a1 : Int) : (Zh a0 a1).1.YR.length = a0.YR.length := by simp [Zh]
@[simp] theorem RG (a0 : Z4) (a1 : Int) : (Zh a0 a1).1.ZL.length = a0.ZL.length := by simp [Zh]
@[simp] theorem NP (a0 : Z4) (a1 : Int) : (Zh a0 a1).1.Methods.length = a0.Methods.length := by simp [Zh]
@[simp] theorem H6 (a0 : Z4) (a1 : Int) : (Zh a0 a1).1.zu = a0.zu := rfl
@[simp] theorem FE (a0 : Z4) (a1 : Int) : (Zh a0 a1).1.Now = a0.Now := rfl
theorem PI (a0 : Z4) (a1 : Int) (h0 : 0 ≤ a1) (h : a1 + (cn a0 : Nat) < 4611686018427387904) : a1 ≤ (Zh a0 a1).2 ∧ (Zh a0 a1).2 ≤ a1 + (cn a0 : Nat) ∧ Yh (Zh a0 a1).1 a1 = (Zh a0 a1).2 := by
  simp only [Y0, Yf, Y1, Z4.YP] at h ⊢
  obtain ⟨m0, n0, h0⟩ := Oo a0.YR a1 (by omega) (by omega)
  have q0 := RQ a0.YR a1 (by omega) (by omega)
  have o0 : ¬ (YS a0.YR a1).2 < 0 := by omega
  obtain ⟨m3, n3, h3⟩ := Wu a0.ZL (YS a0.YR a1).2 (by omega) (by omega)
  have q3 := WL a0.ZL (YS a0.YR a1).2 (by omega) (by omega)
  have o3 : ¬ (YB a0.ZL (YS a0.YR a1).2).2 < 0 := by omega
  obtain ⟨m6, n6, h6⟩ := TG a0.Methods (YB a0.ZL (YS a0.YR a1).2).2 (by omega) (by omega)
  have q6 := Uj a0.Methods (YB a0.ZL (YS a0.YR a1).2).2 (by omega) (by omega)
  have o6 : ¬ (Yl a0.Methods (YB a0.ZL (YS a0.YR a1).2).2).2 < 0 := by omega
  refine ⟨by simp only [Zh]; omega, by simp only [Zh]; omega, ?_⟩
  simp [Zh, Yh, h0, h3, h6, o0, o3, o6]
theorem xh (a0 : List Z0) (a1 : Int) : Zt a0 a1 = mkL (fun (x : Z0) (k : Int) => ((Z0.mk k (W (k + 1)) (W ((W (k + 1)) + 1)) (W ((W ((W (k + 1)) + 1)) + 1)) (W ((W ((W ((W (k + 1)) + 1)) + 1)) + 1)) (W ((W ((W ((W ((W (k + 1)) + 1)) + 1)) + 1)) + 1)) (W ((W ((W ((W ((W ((W (k + 1)) + 1)) + 1)) + 1)) + 1)) + 1))), (W ((W ((W ((W ((W ((W ((W (k + 1)) + 1)) + 1)) + 1)) + 1)) + 1)) + 1)))) a0 a1 := by
  have h := QZ (F := QG) (f := (fun (x : Z0) (k : Int) => ((Z0.mk k (W (k + 1)) (W ((W (k + 1)) + 1)) (W ((W ((W (k + 1)) + 1)) + 1)) (W ((W ((W ((W (k + 1)) + 1)) + 1)) + 1)) (W ((W ((W ((W ((W (k + 1)) + 1)) + 1)) + 1)) + 1)) (W ((W ((W ((W ((W ((W (k + 1)) + 1)) + 1)) + 1)) + 1)) + 1))), (W ((W ((W ((W ((W ((W ((W (k + 1)) + 1)) + 1)) + 1)) + 1)) + 1)) + 1))))) (fun _ _ _ _ => rfl) a0 [] (a0.length + 1) a1 (by omega)
  unfold Zt
  simp only [List.length_nil, List.nil_append] at h
  rw [h]
@[simp] theorem FK (a0 : List Z0) (a1 : Int) : (Zt a0 a1).1.length = a0.length := by rw [xh, XC]
theorem qy : ∀ (x : Z0) (k : Int), 0 ≤ k → k + (cn x : Nat) < 4611686018427387904 → ((fun (x : Z0) (k : Int) => ((Z0.mk k (W (k + 1)) (W ((W (k + 1)) + 1)) (W ((W ((W (k + 1)) + 1)) + 1)) (W ((W ((W ((W (k + 1)) + 1)) + 1)) + 1)) (W ((W ((W ((W ((W (k + 1)) + 1)) + 1)) + 1)) + 1)) (W ((W ((W ((W ((W ((W (k + 1)) + 1)) + 1)) + 1)) + 1)) + 1))), (W ((W ((W ((W ((W ((W ((W (k + 1)) + 1)) + 1)) + 1)) + 1)) + 1)) + 1)))) x k).2 = k + (cn x : Nat) := by
  intro x k h0 h
  simp only [Y0, Yf, J2, Y1, Z0.YP] at h ⊢
  have e0 : W (k + 1) = k + 1 := Za (by omega) (by omega)
  have e1 : W ((W (k + 1)) + 1) = (W (k + 1)) + 1 := Za (by omega) (by omega)
  have e2 : W ((W ((W (k + 1)) + 1)) + 1) = (W ((W (k + 1)) + 1)) + 1 := Za (by omega) (by omega)
  have e3 : W ((W ((W ((W (k + 1)) + 1)) + 1)) + 1) = (W ((W ((W (k + 1)) + 1)) + 1)) + 1 := Za (by omega) (by omega)
  have e4 : W ((W ((W ((W ((W (k + 1)) + 1)) + 1)) + 1)) + 1) = (W ((W ((W ((W (k + 1)) + 1)) + 1)) + 1)) + 1 := Za (by omega) (by omega)
  have e5 : W ((W ((W ((W ((W ((W (k + 1)) + 1)) + 1)) + 1)) + 1)) + 1) = (W ((W ((W ((W ((W (k + 1)) + 1)) + 1)) + 1)) + 1)) + 1 := Za (by omega) (by omega)
  have e6 : W ((W ((W ((W ((W ((W ((W (k + 1)) + 1)) + 1)) + 1)) + 1)) + 1)) + 1) = (W ((W ((W ((W ((W ((W (k + 1)) + 1)) + 1)) + 1)) + 1)) + 1)) + 1 := Za (by omega) (by omega)
  omega
theorem Sn (a0 : List Z0) (a1 : Int) (h0 : 0 ≤ a1) (h : a1 + (cn a0 : Nat) < 4611686018427387904) : (Zt a0 a1).2 = a1 + (cn a0 : Nat) := by
  rw [xh]
  exact XF qy a0 a1 h0 h
theorem OU : ∀ (x : Z0) (k : Int) (r : Int → Sum Int Int), 0 ≤ k → k + (cn x : Nat) < 4611686018427387904 → (fun (x : Z0) (k : Int) (r : Int → Sum Int Int) => (bif (x.QO != k) then (.inl (-1)) else (bif (x.Key != (W (k + 1))) then (.inl (-1)) else (bif (x.K8 != (W ((W (k + 1)) + 1))) then (.inl (-1)) else (bif (x.xQ != (W ((W ((W (k + 1)) + 1)) + 1))) then (.inl (-1)) else (bif (x.To != (W ((W ((W ((W (k + 1)) + 1)) + 1)) + 1))) then (.inl (-1)) else (bif (x.J9 != (W ((W ((W ((W ((W (k + 1)) + 1)) + 1)) + 1)) + 1))) then (.inl (-1)) else (bif (x.Mark != (W ((W ((W ((W ((W ((W (k + 1)) + 1)) + 1)) + 1)) + 1)) + 1))) then (.inl (-1)) else (r (W ((W ((W ((W ((W ((W ((W (k + 1)) + 1)) + 1)) + 1)) + 1)) + 1)) + 1))))))))))) ((fun (x : Z0) (k : Int) => ((Z0.mk k (W (k + 1)) (W ((W (k + 1)) + 1)) (W ((W ((W (k + 1)) + 1)) + 1)) (W ((W ((W ((W (k + 1)) + 1)) + 1)) + 1)) (W ((W ((W ((W ((W (k + 1)) + 1)) + 1)) + 1)) + 1)) (W ((W ((W ((W ((W ((W (k + 1)) + 1)) + 1)) + 1)) + 1)) + 1))), (W ((W ((W ((W ((W ((W ((W (k + 1)) + 1)) + 1)) + 1)) + 1)) + 1)) + 1)))) x k).1 k r = r ((fun (x : Z0) (k : Int) => ((Z0.mk k (W (k + 1)) (W ((W (k + 1)) + 1)) (W ((W ((W (k + 1)) + 1)) + 1)) (W ((W ((W ((W (k + 1)) + 1)) + 1)) + 1)) (W ((W ((W ((W ((W (k + 1)) + 1)) + 1)) + 1)) + 1)) (W ((W ((W ((W ((W ((W (k + 1)) + 1)) + 1)) + 1)) + 1)) + 1))), (W ((W ((W ((W ((W ((W ((W (k + 1)) + 1)) + 1)) + 1)) + 1)) + 1)) + 1)))) x k).2 := by
  intro x k r h0 h
  simp only [Y0, Yf, J2, Y1, Z0.YP] at h
  have e0 : W (k + 1) = k + 1 := Za (by omega) (by omega)
  have e1 : W ((W (k + 1)) + 1) = (W (k + 1)) + 1 := Za (by omega) (by omega)
  have e2 : W ((W ((W (k + 1)) + 1)) + 1) = (W ((W (k + 1)) + 1)) + 1 := Za (by omega) (by omega)
  have e3 : W ((W ((W ((W (k + 1)) + 1)) + 1)) + 1) = (W ((W ((W (k + 1)) + 1)) + 1)) + 1 := Za (by omega) (by omega)
  have e4 : W ((W ((W ((W ((W (k + 1)) + 1)) + 1)) + 1)) + 1) = (W ((W ((W ((W (k + 1)) + 1)) + 1)) + 1)) + 1 := Za (by omega) (by omega)
  have e5 : W ((W ((W ((W ((W ((W (k + 1)) + 1)) + 1)) + 1)) + 1)) + 1) = (W ((W ((W ((W ((W (k + 1)) + 1)) + 1)) + 1)) + 1)) + 1 := Za (by omega) (by omega)
  have e6 : W ((W ((W ((W ((W ((W ((W (k + 1)) + 1)) + 1)) + 1)) + 1)) + 1)) + 1) = (W ((W ((W ((W ((W ((W (k + 1)) + 1)) + 1)) + 1)) + 1)) + 1)) + 1 := Za (by omega) (by omega)
  simp
theorem R2 (a0 : List Z0) (a1 : Int) (h0 : 0 ≤ a1) (h : a1 + (cn a0 : Nat) < 4611686018427387904) : a1 ≤ (Zt a0 a1).2 ∧ (Zt a0 a1).2 ≤ a1 + (cn a0 : Nat) ∧ Yr (Zt a0 a1).1 a1 = (Zt a0 a1).2 := by
  rw [xh]
  have s := XF qy a0 a1 h0 h
  have hh := Qc (z := (mkL (fun (x : Z0) (k : Int) => ((Z0.mk k (W (k + 1)) (W ((W (k + 1)) + 1)) (W ((W ((W (k + 1)) + 1)) + 1)) (W ((W ((W ((W (k + 1)) + 1)) + 1)) + 1)) (W ((W ((W ((W ((W (k + 1)) + 1)) + 1)) + 1)) + 1)) (W ((W ((W ((W ((W ((W (k + 1)) + 1)) + 1)) + 1)) + 1)) + 1))), (W ((W ((W ((W ((W ((W ((W (k + 1)) + 1)) + 1)) + 1)) + 1)) + 1)) + 1)))) a0 a1).1) (H := yg (mkL (fun (x : Z0) (k : Int) => ((Z0.mk k (W (k + 1)) (W ((W (k + 1)) + 1)) (W ((W ((W (k + 1)) + 1)) + 1)) (W ((W ((W ((W (k + 1)) + 1)) + 1)) + 1)) (W ((W ((W ((W ((W (k + 1)) + 1)) + 1)) + 1)) + 1)) (W ((W ((W ((W ((W ((W (k + 1)) + 1)) + 1)) + 1)) + 1)) + 1))), (W ((W ((W ((W ((W ((W ((W (k + 1)) + 1)) + 1)) + 1)) + 1)) + 1)) + 1)))) a0 a1).1) (G := (fun (x : Z0) (k : Int) (r : Int → Sum Int Int) => (bif (x.QO != k) then (.inl (-1)) else (bif (x.Key != (W (k + 1))) then (.inl (-1)) else (bif (x.K8 != (W ((W (k + 1)) + 1))) then (.inl (-1)) else (bif (x.xQ != (W ((W ((W (k + 1)) + 1)) + 1))) then (.inl (-1)) else (bif (x.To != (W ((W ((W ((W (k + 1)) + 1)) + 1)) + 1))) then (.inl (-1)) else (bif (x.J9 != (W ((W ((W ((W ((W (k + 1)) + 1)) + 1)) + 1)) + 1))) then (.inl (-1)) else (bif (x.Mark != (W ((W ((W ((W ((W ((W (k + 1)) + 1)) + 1)) + 1)) + 1)) + 1))) then (.inl (-1)) else (r (W ((W ((W ((W ((W ((W ((W (k + 1)) + 1)) + 1)) + 1)) + 1)) + 1)) + 1)))))))))))) (fun _ _ _ => rfl) qy OU a0 [] ((mkL (fun (x : Z0) (k : Int) => ((Z0.mk k (W (k + 1)) (W ((W (k + 1)) + 1)) (W ((W ((W (k + 1)) + 1)) + 1)) (W ((W ((W ((W (k + 1)) + 1)) + 1)) + 1)) (W ((W ((W ((W ((W (k + 1)) + 1)) + 1)) + 1)) + 1)) (W ((W ((W ((W ((W ((W (k + 1)) + 1)) + 1)) + 1)) + 1)) + 1))), (W ((W ((W ((W ((W ((W ((W (k + 1)) + 1)) + 1)) + 1)) + 1)) + 1)) + 1)))) a0 a1).1.length + 1) a1 (by simp) (by rw [XC]; omega) h0 h
  simp only [List.length_nil] at hh
  rw [XT] at *
  refine ⟨by omega, by omega, ?_⟩
  unfold Yr
  rw [hh]
theorem qp (a0 : List Int) (a1 : Int) : ZB a0 a1 = mkL (fun (x : Int) (k : Int) => (k, (W (k + 1)))) a0 a1 := by
  have h := QZ (F := Qi) (f := (fun (x : Int) (k : Int) => (k, (W (k + 1))))) (fun _ _ _ _ => rfl) a0 [] (a0.length + 1) a1 (by omega)
  unfold ZB
  simp only [List.length_nil, List.nil_append] at h
  rw [h]
@[simp] theorem EM (a0 : List Int) (a1 : Int) : (ZB a0 a1).1.length = a0.length := by rw [qp, XC]
theorem jt : ∀ (x : Int) (k : Int), 0 ≤ k → k + (cn x : Nat) < 4611686018427387904 → ((fun (x : Int) (k : Int) => (k, (W (k + 1)))) x k).2 = k + (cn x : Nat) := by
  intro x k h0 h
  simp only [Y0, Yf, J2, Y1] at h ⊢
  have e0 : W (k + 1) = k + 1 := Za (by omega) (by omega)
  omega
theorem XQ (a0 : List Int) (a1 : Int) (h0 : 0 ≤ a1) (h : a1 + (cn a0 : Nat) < 4611686018427387904) : (ZB a0 a1).2 = a1 + (cn a0 : Nat) := by
  rw [qp]
  exact XF jt a0 a1 h0 h
theorem W7 (a0 : List Int) (a1 : Int) (h0 : 0 ≤ a1) (h : a1 + (cn a0 : Nat) < 4611686018427387904) : a1 ≤ (ZB a0 a1).2 ∧ (ZB a0 a1).2 ≤ a1 + (cn a0 : Nat) := by
  have := XQ a0 a1 h0 h
  omega
theorem ME : ∀ (x : Int) (k : Int) (r : Int → Sum Int Int), 0 ≤ k → k + (cn x : Nat) < 4611686018427387904 → (fun (x : Int) (k : Int) (r : Int → Sum Int Int) => (bif (x != k) then (.inl (-1)) else (r (W (k + 1))))) ((fun (x : Int) (k : Int) => (k, (W (k + 1)))) x k).1 k r = r ((fun (x : Int) (k : Int) => (k, (W (k + 1)))) x k).2 := by
  intro x k r h0 h
  simp only [Y0, Yf, J2, Y1] at h
  have e0 : W (k + 1) = k + 1 := Za (by omega) (by omega)
  simp
theorem Jv (a0 : List Int) (a1 : Int) (h0 : 0 ≤ a1) (h : a1 + (cn a0 : Nat) < 4611686018427387904) : a1 ≤ (ZB a0 a1).2 ∧ (ZB a0 a1).2 ≤ a1 + (cn a0 : Nat) ∧ ZZ (ZB a0 a1).1 a1 = (ZB a0 a1).2 := by
  rw [qp]
  have s := XF jt a0 a1 h0 h
  have hh := Qc (z := (mkL (fun (x : Int) (k : Int) => (k, (W (k + 1)))) a0 a1).1) (H := xS (mkL (fun (x : Int) (k : Int) => (k, (W (k + 1)))) a0 a1).1) (G := (fun (x : Int) (k : Int) (r : Int → Sum Int Int) => (bif (x != k) then (.inl (-1)) else (r (W (k + 1)))))) (fun _ _ _ => rfl) jt ME a0 [] ((mkL (fun (x : Int) (k : Int) => (k, (W (k + 1)))) a0 a1).1.length + 1) a1 (by simp) (by rw [XC]; omega) h0 h
  simp only [List.length_nil] at hh
  rw [XT] at *
  refine ⟨by omega, by omega, ?_⟩
  unfold ZZ
  rw [hh]
theorem yI (a0 : List ByteArray) (a1 : Int) : ZA a0 a1 = mkL (fun (x : ByteArray) (k : Int) => ((Y5 k), (W (k + 1)))) a0 a1 := by
  have h := QZ (F := Xb) (f := (fun (x : ByteArray) (k : Int) => ((Y5 k), (W (k + 1))))) (fun _ _ _ _ => rfl) a0 [] (a0.length + 1) a1 (by omega)
  unfold ZA
  simp only [List.length_nil, List.nil_append] at h
  rw [h]
@[simp] theorem GM (a0 : List ByteArray) (a1 : Int) : (ZA a0 a1).1.length = a0.length := by rw [yI, XC]
theorem y9 : ∀ (x : ByteArray) (k : Int), 0 ≤ k → k + (cn x : Nat) < 4611686018427387904 → ((fun (x : ByteArray) (k : Int) => ((Y5 k), (W (k + 1)))) x k).2 = k + (cn x : Nat) := by
  intro x k h0 h
  simp only [Y0, Yf, J2, Y1] at h ⊢
  have e0 : W (k + 1) = k + 1 := Za (by omega) (by omega)
  omega
theorem zW (a0 : List ByteArray) (a1 : Int) (h0 : 0 ≤ a1) (h : a1 + (cn a0 : Nat) < 4611686018427387904) : (ZA a0 a1).2 = a1 + (cn a0 : Nat) := by
  rw [yI]
  exact XF y9 a0 a1 h0 h
theorem U4 (a0 : List ByteArray) (a1 : Int) (h0 : 0 ≤ a1) (h : a1 + (cn a0 : Nat) < 4611686018427387904) : a1 ≤ (ZA a0 a1).2 ∧ (ZA a0 a1).2 ≤ a1 + (cn a0 : Nat) := by
  have := zW a0 a1 h0 h
  omega
theorem RA : ∀ (x : ByteArray) (k : Int) (r : Int → Sum Int Int), 0 ≤ k → k + (cn x : Nat) < 4611686018427387904 → (fun (x : ByteArray) (k : Int) (r : Int → Sum Int Int) => (bif (!decide (x = (Y5 k))) then (.inl (-1)) else (r (W (k + 1))))) ((fun (x : ByteArray) (k : Int) => ((Y5 k), (W (k + 1)))) x k).1 k r = r ((fun (x : ByteArray) (k : Int) => ((Y5 k), (W (k + 1)))) x k).2 := by
  intro x k r h0 h
  simp only [Y0, Yf, J2, Y1] at h
  have e0 : W (k + 1) = k + 1 := Za (by omega) (by omega)
  simp
theorem Tb (a0 : List ByteArray) (a1 : Int) (h0 : 0 ≤ a1) (h : a1 + (cn a0 : Nat) < 4611686018427387904) : a1 ≤ (ZA a0 a1).2 ∧ (ZA a0 a1).2 ≤ a1 + (cn a0 : Nat) ∧ Ze (ZA a0 a1).1 a1 = (ZA a0 a1).2 := by
  rw [yI]
  have s := XF y9 a0 a1 h0 h
  have hh := Qc (z := (mkL (fun (x : ByteArray) (k : Int) => ((Y5 k), (W (k + 1)))) a0 a1).1) (H := Kr (mkL (fun (x : ByteArray) (k : Int) => ((Y5 k), (W (k + 1)))) a0 a1).1) (G := (fun (x : ByteArray) (k : Int) (r : Int → Sum Int Int) => (bif (!decide (x = (Y5 k))) then (.inl (-1)) else (r (W (k + 1)))))) (fun _ _ _ => rfl) y9 RA a0 [] ((mkL (fun (x : ByteArray) (k : Int) => ((Y5 k), (W (k + 1)))) a0 a1).1.length + 1) a1 (by simp) (by rw [XC]; omega) h0 h
  simp only [List.length_nil] at hh
  rw [XT] at *
  refine ⟨by omega, by omega, ?_⟩
  unfold Ze
  rw [hh]
theorem xC (a0 : List ZO) (a1 : Int) : Zd a0 a1 = mkL (fun (x : ZO) (k : Int) => ((ZO.mk k (ZB x.Ye (W (k + 1))).1 (ZB x.Ye (W (k + 1))).2), (W ((ZB x.Ye (W (k + 1))).2 + 1)))) a0 a1 := by
  have h := QZ (F := Xo) (f := (fun (x : ZO) (k : Int) => ((ZO.mk k (ZB x.Ye (W (k + 1))).1 (ZB x.Ye (W (k + 1))).2), (W ((ZB x.Ye (W (k + 1))).2 + 1))))) (fun _ _ _ _ => rfl) a0 [] (a0.length + 1) a1 (by omega)
  unfold Zd
  simp only [List.length_nil, List.nil_append] at h
  rw [h]
@[simp] theorem Gf (a0 : List ZO) (a1 : Int) : (Zd a0 a1).1.length = a0.length := by rw [xC, XC]
theorem xn : ∀ (x : ZO) (k : Int), 0 ≤ k → k + (cn x : Nat) < 4611686018427387904 → ((fun (x : ZO) (k : Int) => ((ZO.mk k (ZB x.Ye (W (k + 1))).1 (ZB x.Ye (W (k + 1))).2), (W ((ZB x.Ye (W (k + 1))).2 + 1)))) x k).2 = k + (cn x : Nat) := by
  intro x k h0 h
  simp only [Y0, Yf, J2, Y1, ZO.YP] at h ⊢
  have e0 : W (k + 1) = k + 1 := Za (by omega) (by omega)
  obtain ⟨m1, n1⟩ := W7 x.Ye (W (k + 1)) (by omega) (by omega)
  have q1 := XQ x.Ye (W (k + 1)) (by omega) (by omega)
  have o1 : ¬ (ZB x.Ye (W (k + 1))).2 < 0 := by omega
  have e4 : W ((ZB x.Ye (W (k + 1))).2 + 1) = (ZB x.Ye (W (k + 1))).2 + 1 := Za (by omega) (by omega)
  omega
theorem z4 (a0 : List ZO) (a1 : Int) (h0 : 0 ≤ a1) (h : a1 + (cn a0 : Nat) < 4611686018427387904) : (Zd a0 a1).2 = a1 + (cn a0 : Nat) := by
  rw [xC]
  exact XF xn a0 a1 h0 h
theorem Sc (a0 : List ZO) (a1 : Int) (h0 : 0 ≤ a1) (h : a1 + (cn a0 : Nat) < 4611686018427387904) : a1 ≤ (Zd a0 a1).2 ∧ (Zd a0 a1).2 ≤ a1 + (cn a0 : Nat) := by
  have := z4 a0 a1 h0 h
  omega
theorem OF : ∀ (x : ZO) (k : Int) (r : Int → Sum Int Int), 0 ≤ k → k + (cn x : Nat) < 4611686018427387904 → (fun (x : ZO) (k : Int) (r : Int → Sum Int Int) => (bif (x.Key != k) then (.inl (-1)) else (bif (decide ((ZZ x.Ye (W (k + 1))) < 0)) then (.inl (-1)) else (bif (x.Mark != (ZZ x.Ye (W (k + 1)))) then (.inl (-1)) else (r (W ((ZZ x.Ye (W (k + 1))) + 1))))))) ((fun (x : ZO) (k : Int) => ((ZO.mk k (ZB x.Ye (W (k + 1))).1 (ZB x.Ye (W (k + 1))).2), (W ((ZB x.Ye (W (k + 1))).2 + 1)))) x k).1 k r = r ((fun (x : ZO) (k : Int) => ((ZO.mk k (ZB x.Ye (W (k + 1))).1 (ZB x.Ye (W (k + 1))).2), (W ((ZB x.Ye (W (k + 1))).2 + 1)))) x k).2 := by
  intro x k r h0 h
  simp only [Y0, Yf, J2, Y1, ZO.YP] at h
  have e0 : W (k + 1) = k + 1 := Za (by omega) (by omega)
  obtain ⟨m1, n1, h1⟩ := Jv x.Ye (W (k + 1)) (by omega) (by omega)
  have q1 := XQ x.Ye (W (k + 1)) (by omega) (by omega)
  have o1 : ¬ (ZB x.Ye (W (k + 1))).2 < 0 := by omega
  have e4 : W ((ZB x.Ye (W (k + 1))).2 + 1) = (ZB x.Ye (W (k + 1))).2 + 1 := Za (by omega) (by omega)
  simp [h1, o1]
theorem S3 (a0 : List ZO) (a1 : Int) (h0 : 0 ≤ a1) (h : a1 + (cn a0 : Nat) < 4611686018427387904) : a1 ≤ (Zd a0 a1).2 ∧ (Zd a0 a1).2 ≤ a1 + (cn a0 : Nat) ∧ Yu (Zd a0 a1).1 a1 = (Zd a0 a1).2 := by
  rw [xC]
  have s := XF xn a0 a1 h0 h
  have hh := Qc (z := (mkL (fun (x : ZO) (k : Int) => ((ZO.mk k (ZB x.Ye (W (k + 1))).1 (ZB x.Ye (W (k + 1))).2), (W ((ZB x.Ye (W (k + 1))).2 + 1)))) a0 a1).1) (H := zZ (mkL (fun (x : ZO) (k : Int) => ((ZO.mk k (ZB x.Ye (W (k + 1))).1 (ZB x.Ye (W (k + 1))).2), (W ((ZB x.Ye (W (k + 1))).2 + 1)))) a0 a1).1) (G := (fun (x : ZO) (k : Int) (r : Int → Sum Int Int) => (bif (x.Key != k) then (.inl (-1)) else (bif (decide ((ZZ x.Ye (W (k + 1))) < 0)) then (.inl (-1)) else (bif (x.Mark != (ZZ x.Ye (W (k + 1)))) then (.inl (-1)) else (r (W ((ZZ x.Ye (W (k + 1))) + 1)))))))) (fun _ _ _ => rfl) xn OF a0 [] ((mkL (fun (x : ZO) (k : Int) => ((ZO.mk k (ZB x.Ye (W (k + 1))).1 (ZB x.Ye (W (k + 1))).2), (W ((ZB x.Ye (W (k + 1))).2 + 1)))) a0 a1).1.length + 1) a1 (by simp) (by rw [XC]; omega) h0 h
  simp only [List.length_nil] at hh
  rw [XT] at *
  refine ⟨by omega, by omega, ?_⟩
  unfold Yu
  rw [hh]
theorem xp (a0 : List Zq) (a1 : Int) : Zf a0 a1 = mkL (fun (x : Zq) (k : Int) => ((Zq.mk k ((Int.tmod (W (k + 1)) 3) == 0)), (W ((W (k + 1)) + 1)))) a0 a1 := by
  have h := QZ (F := QC) (f := (fun (x : Zq) (k : Int) => ((Zq.mk k ((Int.tmod (W (k + 1)) 3) == 0)), (W ((W (k + 1)) + 1))))) (fun _ _ _ _ => rfl) a0 [] (a0.length + 1) a1 (by omega)
  unfold Zf
  simp only [List.length_nil, List.nil_append] at h
  rw [h]
@[simp] theorem FG (a0 : List Zq) (a1 : Int) : (Zf a0 a1).1.length = a0.length := by rw [xp, XC]
theorem qt : ∀ (x : Zq) (k : Int), 0 ≤ k → k + (cn x : Nat) < 4611686018427387904 → ((fun (x : Zq) (k : Int) => ((Zq.mk k ((Int.tmod (W (k + 1)) 3) == 0)), (W ((W (k + 1)) + 1)))) x k).2 = k + (cn x : Nat) := by
  intro x k h0 h
  simp only [Y0, Yf, J2, Y1, Zq.YP] at h ⊢
  have e0 : W (k + 1) = k + 1 := Za (by omega) (by omega)
  have e1 : W ((W (k + 1)) + 1) = (W (k + 1)) + 1 := Za (by omega) (by omega)
  omega
theorem xA (a0 : List Zq) (a1 : Int) (h0 : 0 ≤ a1) (h : a1 + (cn a0 : Nat) < 4611686018427387904) : (Zf a0 a1).2 = a1 + (cn a0 : Nat) := by
  rw [xp]
  exact XF qt a0 a1 h0 h
theorem R9 (a0 : List Zq) (a1 : Int) (h0 : 0 ≤ a1) (h : a1 + (cn a0 : Nat) < 4611686018427387904) : a1 ≤ (Zf a0 a1).2 ∧ (Zf a0 a1).2 ≤ a1 + (cn a0 : Nat) := by
  have := xA a0 a1 h0 h
  omega
theorem Oa : ∀ (x : Zq) (k : Int) (r : Int → Sum Int Int), 0 ≤ k → k + (cn x : Nat) < 4611686018427387904 → (fun (x : Zq) (k : Int) (r : Int → Sum Int Int) => (bif (x.YY != k) then (.inl (-1)) else (bif (!(x.Left == ((Int.tmod (W (k + 1)) 3) == 0))) then (.inl (-1)) else (r (W ((W (k + 1)) + 1)))))) ((fun (x : Zq) (k : Int) => ((Zq.mk k ((Int.tmod (W (k + 1)) 3) == 0)), (W ((W (k + 1)) + 1)))) x k).1 k r = r ((fun (x : Zq) (k : Int) => ((Zq.mk k ((Int.tmod (W (k + 1)) 3) == 0)), (W ((W (k + 1)) + 1)))) x k).2 := by
  intro x k r h0 h
  simp only [Y0, Yf, J2, Y1, Zq.YP] at h
  have e0 : W (k + 1) = k + 1 := Za (by omega) (by omega)
  have e1 : W ((W (k + 1)) + 1) = (W (k + 1)) + 1 := Za (by omega) (by omega)
  simp
theorem Re (a0 : List Zq) (a1 : Int) (h0 : 0 ≤ a1) (h : a1 + (cn a0 : Nat) < 4611686018427387904) : a1 ≤ (Zf a0 a1).2 ∧ (Zf a0 a1).2 ≤ a1 + (cn a0 : Nat) ∧ Y6 (Zf a0 a1).1 a1 = (Zf a0 a1).2 := by
  rw [xp]
  have s := XF qt a0 a1 h0 h
  have hh := Qc (z := (mkL (fun (x : Zq) (k : Int) => ((Zq.mk k ((Int.tmod (W (k + 1)) 3) == 0)), (W ((W (k + 1)) + 1)))) a0 a1).1) (H := yY (mkL (fun (x : Zq) (k : Int) => ((Zq.mk k ((Int.tmod (W (k + 1)) 3) == 0)), (W ((W (k + 1)) + 1)))) a0 a1).1) (G := (fun (x : Zq) (k : Int) (r : Int → Sum Int Int) => (bif (x.YY != k) then (.inl (-1)) else (bif (!(x.Left == ((Int.tmod (W (k + 1)) 3) == 0))) then (.inl (-1)) else (r (W ((W (k + 1)) + 1))))))) (fun _ _ _ => rfl) qt Oa a0 [] ((mkL (fun (x : Zq) (k : Int) => ((Zq.mk k ((Int.tmod (W (k + 1)) 3) == 0)), (W ((W (k + 1)) + 1)))) a0 a1).1.length + 1) a1 (by simp) (by rw [XC]; omega) h0 h
  simp only [List.length_nil] at hh
  rw [XT] at *
  refine ⟨by omega, by omega, ?_⟩
  unfold Y6
  rw [hh]
theorem y6 (a0 : List ZX) (a1 : Int) : Zr a0 a1 = mkL (fun (x : ZX) (k : Int) => ((ZX.mk k (W (k + 1)) (W ((W (k + 1)) + 1)) (W ((W ((W (k + 1)) + 1)) + 1)) (W ((W ((W ((W (k + 1)) + 1)) + 1)) + 1))), (W ((W ((W ((W ((W (k + 1)) + 1)) + 1)) + 1)) + 1)))) a0 a1 := by
  have h := QZ (F := Xt) (f := (fun (x : ZX) (k : Int) => ((ZX.mk k (W (k + 1)) (W ((W (k + 1)) + 1)) (W ((W ((W (k + 1)) + 1)) + 1)) (W ((W ((W ((W (k + 1)) + 1)) + 1)) + 1))), (W ((W ((W ((W ((W (k + 1)) + 1)) + 1)) + 1)) + 1))))) (fun _ _ _ _ => rfl) a0 [] (a0.length + 1) a1 (by omega)
  unfold Zr
  simp only [List.length_nil, List.nil_append] at h
  rw [h]
@[simp] theorem G8 (a0 : List ZX) (a1 : Int) : (Zr a0 a1).1.length = a0.length := by rw [y6, XC]
theorem xt : ∀ (x : ZX) (k : Int), 0 ≤ k → k + (cn x : Nat) < 4611686018427387904 → ((fun (x : ZX) (k : Int) => ((ZX.mk k (W (k + 1)) (W ((W (k + 1)) + 1)) (W ((W ((W (k + 1)) + 1)) + 1)) (W ((W ((W ((W (k + 1)) + 1)) + 1)) + 1))), (W ((W ((W ((W ((W (k + 1)) + 1)) + 1)) + 1)) + 1)))) x k).2 = k + (cn x : Nat) := by
  intro x k h0 h
  simp only [Y0, Yf, J2, Y1, ZX.YP] at h ⊢
  have e0 : W (k + 1) = k + 1 := Za (by omega) (by omega)
  have e1 : W ((W (k + 1)) + 1) = (W (k + 1)) + 1 := Za (by omega) (by omega)
  have e2 : W ((W ((W (k + 1)) + 1)) + 1) = (W ((W (k + 1)) + 1)) + 1 := Za (by omega) (by omega)
  have e3 : W ((W ((W ((W (k + 1)) + 1)) + 1)) + 1) = (W ((W ((W (k + 1)) + 1)) + 1)) + 1 := Za (by omega) (by omega)
  have e4 : W ((W ((W ((W ((W (k + 1)) + 1)) + 1)) + 1)) + 1) = (W ((W ((W ((W (k + 1)) + 1)) + 1)) + 1)) + 1 := Za (by omega) (by omega)
  omega
theorem z6 (a0 : List ZX) (a1 : Int) (h0 : 0 ≤ a1) (h : a1 + (cn a0 : Nat) < 4611686018427387904) : (Zr a0 a1).2 = a1 + (cn a0 : Nat) := by
  rw [y6]
  exact XF xt a0 a1 h0 h
theorem SC (a0 : List ZX) (a1 : Int) (h0 : 0 ≤ a1) (h : a1 + (cn a0 : Nat) < 4611686018427387904) : a1 ≤ (Zr a0 a1).2 ∧ (Zr a0 a1).2 ≤ a1 + (cn a0 : Nat) := by
  have := z6 a0 a1 h0 h
  omega
theorem RZ : ∀ (x : ZX) (k : Int) (r : Int → Sum Int Int), 0 ≤ k → k + (cn x : Nat) < 4611686018427387904 → (fun (x : ZX) (k : Int) (r : Int → Sum Int Int) => (bif (x.Authority != k) then (.inl (-1)) else (bif (x.Seq != (W (k + 1))) then (.inl (-1)) else (bif (x.Time != (W ((W (k + 1)) + 1))) then (.inl (-1)) else (bif (x.YY != (W ((W ((W (k + 1)) + 1)) + 1))) then (.inl (-1)) else (bif (x.Mark != (W ((W ((W ((W (k + 1)) + 1)) + 1)) + 1))) then (.inl (-1)) else (r (W ((W ((W ((W ((W (k + 1)) + 1)) + 1)) + 1)) + 1))))))))) ((fun (x : ZX) (k : Int) => ((ZX.mk k (W (k + 1)) (W ((W (k + 1)) + 1)) (W ((W ((W (k + 1)) + 1)) + 1)) (W ((W ((W ((W (k + 1)) + 1)) + 1)) + 1))), (W ((W ((W ((W ((W (k + 1)) + 1)) + 1)) + 1)) + 1)))) x k).1 k r = r ((fun (x : ZX) (k : Int) => ((ZX.mk k (W (k + 1)) (W ((W (k + 1)) + 1)) (W ((W ((W (k + 1)) + 1)) + 1)) (W ((W ((W ((W (k + 1)) + 1)) + 1)) + 1))), (W ((W ((W ((W ((W (k + 1)) + 1)) + 1)) + 1)) + 1)))) x k).2 := by
  intro x k r h0 h
  simp only [Y0, Yf, J2, Y1, ZX.YP] at h
  have e0 : W (k + 1) = k + 1 := Za (by omega) (by omega)
  have e1 : W ((W (k + 1)) + 1) = (W (k + 1)) + 1 := Za (by omega) (by omega)
  have e2 : W ((W ((W (k + 1)) + 1)) + 1) = (W ((W (k + 1)) + 1)) + 1 := Za (by omega) (by omega)
  have e3 : W ((W ((W ((W (k + 1)) + 1)) + 1)) + 1) = (W ((W ((W (k + 1)) + 1)) + 1)) + 1 := Za (by omega) (by omega)
  have e4 : W ((W ((W ((W ((W (k + 1)) + 1)) + 1)) + 1)) + 1) = (W ((W ((W ((W (k + 1)) + 1)) + 1)) + 1)) + 1 := Za (by omega) (by omega)
  simp
theorem So (a0 : List ZX) (a1 : Int) (h0 : 0 ≤ a1) (h : a1 + (cn a0 : Nat) < 4611686018427387904) : a1 ≤ (Zr a0 a1).2 ∧ (Zr a0 a1).2 ≤ a1 + (cn a0 : Nat) ∧ Xh (Zr a0 a1).1 a1 = (Zr a0 a1).2 := by
  rw [y6]
  have s := XF xt a0 a1 h0 h
  have hh := Qc (z := (mkL (fun (x : ZX) (k : Int) => ((ZX.mk k (W (k + 1)) (W ((W (k + 1)) + 1)) (W ((W ((W (k + 1)) + 1)) + 1)) (W ((W ((W ((W (k + 1)) + 1)) + 1)) + 1))), (W ((W ((W ((W ((W (k + 1)) + 1)) + 1)) + 1)) + 1)))) a0 a1).1) (H := zt (mkL (fun (x : ZX) (k : Int) => ((ZX.mk k (W (k + 1)) (W ((W (k + 1)) + 1)) (W ((W ((W (k + 1)) + 1)) + 1)) (W ((W ((W ((W (k + 1)) + 1)) + 1)) + 1))), (W ((W ((W ((W ((W (k + 1)) + 1)) + 1)) + 1)) + 1)))) a0 a1).1) (G := (fun (x : ZX) (k : Int) (r : Int → Sum Int Int) => (bif (x.Authority != k) then (.inl (-1)) else (bif (x.Seq != (W (k + 1))) then (.inl (-1)) else (bif (x.Time != (W ((W (k + 1)) + 1))) then (.inl (-1)) else (bif (x.YY != (W ((W ((W (k + 1)) + 1)) + 1))) then (.inl (-1)) else (bif (x.Mark != (W ((W ((W ((W (k + 1)) + 1)) + 1)) + 1))) then (.inl (-1)) else (r (W ((W ((W ((W ((W (k + 1)) + 1)) + 1)) + 1)) + 1)))))))))) (fun _ _ _ => rfl) xt RZ a0 [] ((mkL (fun (x : ZX) (k : Int) => ((ZX.mk k (W (k + 1)) (W ((W (k + 1)) + 1)) (W ((W ((W (k + 1)) + 1)) + 1)) (W ((W ((W ((W (k + 1)) + 1)) + 1)) + 1))), (W ((W ((W ((W ((W (k + 1)) + 1)) + 1)) + 1)) + 1)))) a0 a1).1.length + 1) a1 (by simp) (by rw [XC]; omega) h0 h
  simp only [List.length_nil] at hh
  rw [XT] at *
  refine ⟨by omega, by omega, ?_⟩
  unfold Xh
  rw [hh]
theorem zi (a0 : List ZF) (a1 : Int) : Zi a0 a1 = mkL (fun (x : ZF) (k : Int) => ((ZF.mk k (W (k + 1)) (W ((W (k + 1)) + 1)) (Zf x.Path (W ((W ((W (k + 1)) + 1)) + 1))).1 (Zr x.Zv (Zf x.Path (W ((W ((W (k + 1)) + 1)) + 1))).2).1), (Zr x.Zv (Zf x.Path (W ((W ((W (k + 1)) + 1)) + 1))).2).2)) a0 a1 := by
  have h := QZ (F := XN) (f := (fun (x : ZF) (k : Int) => ((ZF.mk k (W (k + 1)) (W ((W (k + 1)) + 1)) (Zf x.Path (W ((W ((W (k + 1)) + 1)) + 1))).1 (Zr x.Zv (Zf x.Path (W ((W ((W (k + 1)) + 1)) + 1))).2).1), (Zr x.Zv (Zf x.Path (W ((W ((W (k + 1)) + 1)) + 1))).2).2))) (fun _ _ _ _ => rfl) a0 [] (a0.length + 1) a1 (by omega)
  unfold Zi
  simp only [List.length_nil, List.nil_append] at h
  rw [h]
@[simp] theorem Hq (a0 : List ZF) (a1 : Int) : (Zi a0 a1).1.length = a0.length := by rw [zi, XC]
theorem yL : ∀ (x : ZF) (k : Int), 0 ≤ k → k + (cn x : Nat) < 4611686018427387904 → ((fun (x : ZF) (k : Int) => ((ZF.mk k (W (k + 1)) (W ((W (k + 1)) + 1)) (Zf x.Path (W ((W ((W (k + 1)) + 1)) + 1))).1 (Zr x.Zv (Zf x.Path (W ((W ((W (k + 1)) + 1)) + 1))).2).1), (Zr x.Zv (Zf x.Path (W ((W ((W (k + 1)) + 1)) + 1))).2).2)) x k).2 = k + (cn x : Nat) := by
  intro x k h0 h
  simp only [Y0, Yf, J2, Y1, ZF.YP] at h ⊢
  have e0 : W (k + 1) = k + 1 := Za (by omega) (by omega)
  have e1 : W ((W (k + 1)) + 1) = (W (k + 1)) + 1 := Za (by omega) (by omega)
  have e2 : W ((W ((W (k + 1)) + 1)) + 1) = (W ((W (k + 1)) + 1)) + 1 := Za (by omega) (by omega)
  obtain ⟨m3, n3⟩ := R9 x.Path (W ((W ((W (k + 1)) + 1)) + 1)) (by omega) (by omega)
  have q3 := xA x.Path (W ((W ((W (k + 1)) + 1)) + 1)) (by omega) (by omega)
  have o3 : ¬ (Zf x.Path (W ((W ((W (k + 1)) + 1)) + 1))).2 < 0 := by omega
  obtain ⟨m6, n6⟩ := SC x.Zv (Zf x.Path (W ((W ((W (k + 1)) + 1)) + 1))).2 (by omega) (by omega)
  have q6 := z6 x.Zv (Zf x.Path (W ((W ((W (k + 1)) + 1)) + 1))).2 (by omega) (by omega)
  have o6 : ¬ (Zr x.Zv (Zf x.Path (W ((W ((W (k + 1)) + 1)) + 1))).2).2 < 0 := by omega
  omega
theorem Kx (a0 : List ZF) (a1 : Int) (h0 : 0 ≤ a1) (h : a1 + (cn a0 : Nat) < 4611686018427387904) : (Zi a0 a1).2 = a1 + (cn a0 : Nat) := by
  rw [zi]
  exact XF yL a0 a1 h0 h
theorem UY (a0 : List ZF) (a1 : Int) (h0 : 0 ≤ a1) (h : a1 + (cn a0 : Nat) < 4611686018427387904) : a1 ≤ (Zi a0 a1).2 ∧ (Zi a0 a1).2 ≤ a1 + (cn a0 : Nat) := by
  have := Kx a0 a1 h0 h
  omega
theorem U0 : ∀ (x : ZF) (k : Int) (r : Int → Sum Int Int), 0 ≤ k → k + (cn x : Nat) < 4611686018427387904 → (fun (x : ZF) (k : Int) (r : Int → Sum Int Int) => (bif (x.Count != k) then (.inl (-1)) else (bif (x.Method != (W (k + 1))) then (.inl (-1)) else (bif (x.V4 != (W ((W (k + 1)) + 1))) then (.inl (-1)) else (bif (decide ((Y6 x.Path (W ((W ((W (k + 1)) + 1)) + 1))) < 0)) then (.inl (-1)) else (bif (decide ((Xh x.Zv (Y6 x.Path (W ((W ((W (k + 1)) + 1)) + 1)))) < 0)) then (.inl (-1)) else (r (Xh x.Zv (Y6 x.Path (W ((W ((W (k + 1)) + 1)) + 1))))))))))) ((fun (x : ZF) (k : Int) => ((ZF.mk k (W (k + 1)) (W ((W (k + 1)) + 1)) (Zf x.Path (W ((W ((W (k + 1)) + 1)) + 1))).1 (Zr x.Zv (Zf x.Path (W ((W ((W (k + 1)) + 1)) + 1))).2).1), (Zr x.Zv (Zf x.Path (W ((W ((W (k + 1)) + 1)) + 1))).2).2)) x k).1 k r = r ((fun (x : ZF) (k : Int) => ((ZF.mk k (W (k + 1)) (W ((W (k + 1)) + 1)) (Zf x.Path (W ((W ((W (k + 1)) + 1)) + 1))).1 (Zr x.Zv (Zf x.Path (W ((W ((W (k + 1)) + 1)) + 1))).2).1), (Zr x.Zv (Zf x.Path (W ((W ((W (k + 1)) + 1)) + 1))).2).2)) x k).2 := by
  intro x k r h0 h
  simp only [Y0, Yf, J2, Y1, ZF.YP] at h
  have e0 : W (k + 1) = k + 1 := Za (by omega) (by omega)
  have e1 : W ((W (k + 1)) + 1) = (W (k + 1)) + 1 := Za (by omega) (by omega)
  have e2 : W ((W ((W (k + 1)) + 1)) + 1) = (W ((W (k + 1)) + 1)) + 1 := Za (by omega) (by omega)
  obtain ⟨m3, n3, h3⟩ := Re x.Path (W ((W ((W (k + 1)) + 1)) + 1)) (by omega) (by omega)
  have q3 := xA x.Path (W ((W ((W (k + 1)) + 1)) + 1)) (by omega) (by omega)
  have o3 : ¬ (Zf x.Path (W ((W ((W (k + 1)) + 1)) + 1))).2 < 0 := by omega
  obtain ⟨m6, n6, h6⟩ := So x.Zv (Zf x.Path (W ((W ((W (k + 1)) + 1)) + 1))).2 (by omega) (by omega)
  have q6 := z6 x.Zv (Zf x.Path (W ((W ((W (k + 1)) + 1)) + 1))).2 (by omega) (by omega)
  have o6 : ¬ (Zr x.Zv (Zf x.Path (W ((W ((W (k + 1)) + 1)) + 1))).2).2 < 0 := by omega
  simp [h3, h6, o3, o6]
theorem UO (a0 : List ZF) (a1 : Int) (h0 : 0 ≤ a1) (h : a1 + (cn a0 : Nat) < 4611686018427387904) : a1 ≤ (Zi a0 a1).2 ∧ (Zi a0 a1).2 ≤ a1 + (cn a0 : Nat) ∧ XB (Zi a0 a1).1 a1 = (Zi a0 a1).2 := by
  rw [zi]
  have s := XF yL a0 a1 h0 h
  have hh := Qc (z := (mkL (fun (x : ZF) (k : Int) => ((ZF.mk k (W (k + 1)) (W ((W (k + 1)) + 1)) (Zf x.Path (W ((W ((W (k + 1)) + 1)) + 1))).1 (Zr x.Zv (Zf x.Path (W ((W ((W (k + 1)) + 1)) + 1))).2).1), (Zr x.Zv (Zf x.Path (W ((W ((W (k + 1)) + 1)) + 1))).2).2)) a0 a1).1) (H := KU (mkL (fun (x : ZF) (k : Int) => ((ZF.mk k (W (k + 1)) (W ((W (k + 1)) + 1)) (Zf x.Path (W ((W ((W (k + 1)) + 1)) + 1))).1 (Zr x.Zv (Zf x.Path (W ((W ((W (k + 1)) + 1)) + 1))).2).1), (Zr x.Zv (Zf x.Path (W ((W ((W (k + 1)) + 1)) + 1))).2).2)) a0 a1).1) (G := (fun (x : ZF) (k : Int) (r : Int → Sum Int Int) => (bif (x.Count != k) then (.inl (-1)) else (bif (x.Method != (W (k + 1))) then (.inl (-1)) else (bif (x.V4 != (W ((W (k + 1)) + 1))) then (.inl (-1)) else (bif (decide ((Y6 x.Path (W ((W ((W (k + 1)) + 1)) + 1))) < 0)) then (.inl (-1)) else (bif (decide ((Xh x.Zv (Y6 x.Path (W ((W ((W (k + 1)) + 1)) + 1)))) < 0)) then (.inl (-1)) else (r (Xh x.Zv (Y6 x.Path (W ((W ((W (k + 1)) + 1)) + 1)))))))))))) (fun _ _ _ => rfl) yL U0 a0 [] ((mkL (fun (x : ZF) (k : Int) => ((ZF.mk k (W (k + 1)) (W ((W (k + 1)) + 1)) (Zf x.Path (W ((W ((W (k + 1)) + 1)) + 1))).1 (Zr x.Zv (Zf x.Path (W ((W ((W (k + 1)) + 1)) + 1))).2).1), (Zr x.Zv (Zf x.Path (W ((W ((W (k + 1)) + 1)) + 1))).2).2)) a0 a1).1.length + 1) a1 (by simp) (by rw [XC]; omega) h0 h
  simp only [List.length_nil] at hh
  rw [XT] at *
  refine ⟨by omega, by omega, ?_⟩
  unfold XB
  rw [hh]
theorem xr (a0 : List Zb) (a1 : Int) : Zy a0 a1 = mkL (fun (x : Zb) (k : Int) => ((Zb.mk k (W (k + 1)) (ZT.mk (W ((W (k + 1)) + 1)) (ZA x.Doc.ZE (W ((W ((W (k + 1)) + 1)) + 1))).1 (ZB x.Doc.ZG (ZA x.Doc.ZE (W ((W ((W (k + 1)) + 1)) + 1))).2).1) (Zm.mk (ZB x.Doc.ZG (ZA x.Doc.ZE (W ((W ((W (k + 1)) + 1)) + 1))).2).2 (W ((ZB x.Doc.ZG (ZA x.Doc.ZE (W ((W ((W (k + 1)) + 1)) + 1))).2).2 + 1)) (W ((W ((ZB x.Doc.ZG (ZA x.Doc.ZE (W ((W ((W (k + 1)) + 1)) + 1))).2).2 + 1)) + 1)) (W ((W ((W ((ZB x.Doc.ZG (ZA x.Doc.ZE (W ((W ((W (k + 1)) + 1)) + 1))).2).2 + 1)) + 1)) + 1)) (W ((W ((W ((W ((ZB x.Doc.ZG (ZA x.Doc.ZE (W ((W ((W (k + 1)) + 1)) + 1))).2).2 + 1)) + 1)) + 1)) + 1)) (W ((W ((W ((W ((W ((ZB x.Doc.ZG (ZA x.Doc.ZE (W ((W ((W (k + 1)) + 1)) + 1))).2).2 + 1)) + 1)) + 1)) + 1)) + 1)) (W ((W ((W ((W ((W ((W ((ZB x.Doc.ZG (ZA x.Doc.ZE (W ((W ((W (k + 1)) + 1)) + 1))).2).2 + 1)) + 1)) + 1)) + 1)) + 1)) + 1)) (W ((W ((W ((W ((W ((W ((W ((ZB x.Doc.ZG (ZA x.Doc.ZE (W ((W ((W (k + 1)) + 1)) + 1))).2).2 + 1)) + 1)) + 1)) + 1)) + 1)) + 1)) + 1)) (W ((W ((W ((W ((W ((W ((W ((W ((ZB x.Doc.ZG (ZA x.Doc.ZE (W ((W ((W (k + 1)) + 1)) + 1))).2).2 + 1)) + 1)) + 1)) + 1)) + 1)) + 1)) + 1)) + 1))) (ZY.mk (Zd x.ZK.ZR (W ((W ((W ((W ((W ((W ((W ((W ((W ((ZB x.Doc.ZG (ZA x.Doc.ZE (W ((W ((W (k + 1)) + 1)) + 1))).2).2 + 1)) + 1)) + 1)) + 1)) + 1)) + 1)) + 1)) + 1)) + 1))).1 (Zi x.ZK.ZV (Zd x.ZK.ZR (W ((W ((W ((W ((W ((W ((W ((W ((W ((ZB x.Doc.ZG (ZA x.Doc.ZE (W ((W ((W (k + 1)) + 1)) + 1))).2).2 + 1)) + 1)) + 1)) + 1)) + 1)) + 1)) + 1)) + 1)) + 1))).2).1)), (Zi x.ZK.ZV (Zd x.ZK.ZR (W ((W ((W ((W ((W ((W ((W ((W ((W ((ZB x.Doc.ZG (ZA x.Doc.ZE (W ((W ((W (k + 1)) + 1)) + 1))).2).2 + 1)) + 1)) + 1)) + 1)) + 1)) + 1)) + 1)) + 1)) + 1))).2).2)) a0 a1 := by
  have h := QZ (F := QA) (f := (fun (x : Zb) (k : Int) => ((Zb.mk k (W (k + 1)) (ZT.mk (W ((W (k + 1)) + 1)) (ZA x.Doc.ZE (W ((W ((W (k + 1)) + 1)) + 1))).1 (ZB x.Doc.ZG (ZA x.Doc.ZE (W ((W ((W (k + 1)) + 1)) + 1))).2).1) (Zm.mk (ZB x.Doc.ZG (ZA x.Doc.ZE (W ((W ((W (k + 1)) + 1)) + 1))).2).2 (W ((ZB x.Doc.ZG (ZA x.Doc.ZE (W ((W ((W (k + 1)) + 1)) + 1))).2).2 + 1)) (W ((W ((ZB x.Doc.ZG (ZA x.Doc.ZE (W ((W ((W (k + 1)) + 1)) + 1))).2).2 + 1)) + 1)) (W ((W ((W ((ZB x.Doc.ZG (ZA x.Doc.ZE (W ((W ((W (k + 1)) + 1)) + 1))).2).2 + 1)) + 1)) + 1)) (W ((W ((W ((W ((ZB x.Doc.ZG (ZA x.Doc.ZE (W ((W ((W (k + 1)) + 1)) + 1))).2).2 + 1)) + 1)) + 1)) + 1)) (W ((W ((W ((W ((W ((ZB x.Doc.ZG (ZA x.Doc.ZE (W ((W ((W (k + 1)) + 1)) + 1))).2).2 + 1)) + 1)) + 1)) + 1)) + 1)) (W ((W ((W ((W ((W ((W ((ZB x.Doc.ZG (ZA x.Doc.ZE (W ((W ((W (k + 1)) + 1)) + 1))).2).2 + 1)) + 1)) + 1)) + 1)) + 1)) + 1)) (W ((W ((W ((W ((W ((W ((W ((ZB x.Doc.ZG (ZA x.Doc.ZE (W ((W ((W (k + 1)) + 1)) + 1))).2).2 + 1)) + 1)) + 1)) + 1)) + 1)) + 1)) + 1)) (W ((W ((W ((W ((W ((W ((W ((W ((ZB x.Doc.ZG (ZA x.Doc.ZE (W ((W ((W (k + 1)) + 1)) + 1))).2).2 + 1)) + 1)) + 1)) + 1)) + 1)) + 1)) + 1)) + 1))) (ZY.mk (Zd x.ZK.ZR (W ((W ((W ((W ((W ((W ((W ((W ((W ((ZB x.Doc.ZG (ZA x.Doc.ZE (W ((W ((W (k + 1)) + 1)) + 1))).2).2 + 1)) + 1)) + 1)) + 1)) + 1)) + 1)) + 1)) + 1)) + 1))).1 (Zi x.ZK.ZV (Zd x.ZK.ZR (W ((W ((W ((W ((W ((W ((W ((W ((W ((ZB x.Doc.ZG (ZA x.Doc.ZE (W ((W ((W (k + 1)) + 1)) + 1))).2).2 + 1)) + 1)) + 1)) + 1)) + 1)) + 1)) + 1)) + 1)) + 1))).2).1)), (Zi x.ZK.ZV (Zd x.ZK.ZR (W ((W ((W ((W ((W ((W ((W ((W ((W ((ZB x.Doc.ZG (ZA x.Doc.ZE (W ((W ((W (k + 1)) + 1)) + 1))).2).2 + 1)) + 1)) + 1)) + 1)) + 1)) + 1)) + 1)) + 1)) + 1))).2).2))) (fun _ _ _ _ => rfl) a0 [] (a0.length + 1) a1 (by omega)
  unfold Zy
  simp only [List.length_nil, List.nil_append] at h
  rw [h]
@[simp] theorem FJ (a0 : List Zb) (a1 : Int) : (Zy a0 a1).1.length = a0.length := by rw [xr, XC]
theorem qu : ∀ (x : Zb) (k : Int), 0 ≤ k → k + (cn x : Nat) < 4611686018427387904 → ((fun (x : Zb) (k : Int) => ((Zb.mk k (W (k + 1)) (ZT.mk (W ((W (k + 1)) + 1)) (ZA x.Doc.ZE (W ((W ((W (k + 1)) + 1)) + 1))).1 (ZB x.Doc.ZG (ZA x.Doc.ZE (W ((W ((W (k + 1)) + 1)) + 1))).2).1) (Zm.mk (ZB x.Doc.ZG (ZA x.Doc.ZE (W ((W ((W (k + 1)) + 1)) + 1))).2).2 (W ((ZB x.Doc.ZG (ZA x.Doc.ZE (W ((W ((W (k + 1)) + 1)) + 1))).2).2 + 1)) (W ((W ((ZB x.Doc.ZG (ZA x.Doc.ZE (W ((W ((W (k + 1)) + 1)) + 1))).2).2 + 1)) + 1)) (W ((W ((W ((ZB x.Doc.ZG (ZA x.Doc.ZE (W ((W ((W (k + 1)) + 1)) + 1))).2).2 + 1)) + 1)) + 1)) (W ((W ((W ((W ((ZB x.Doc.ZG (ZA x.Doc.ZE (W ((W ((W (k + 1)) + 1)) + 1))).2).2 + 1)) + 1)) + 1)) + 1)) (W ((W ((W ((W ((W ((ZB x.Doc.ZG (ZA x.Doc.ZE (W ((W ((W (k + 1)) + 1)) + 1))).2).2 + 1)) + 1)) + 1)) + 1)) + 1)) (W ((W ((W ((W ((W ((W ((ZB x.Doc.ZG (ZA x.Doc.ZE (W ((W ((W (k + 1)) + 1)) + 1))).2).2 + 1)) + 1)) + 1)) + 1)) + 1)) + 1)) (W ((W ((W ((W ((W ((W ((W ((ZB x.Doc.ZG (ZA x.Doc.ZE (W ((W ((W (k + 1)) + 1)) + 1))).2).2 + 1)) + 1)) + 1)) + 1)) + 1)) + 1)) + 1)) (W ((W ((W ((W ((W ((W ((W ((W ((ZB x.Doc.ZG (ZA x.Doc.ZE (W ((W ((W (k + 1)) + 1)) + 1))).2).2 + 1)) + 1)) + 1)) + 1)) + 1)) + 1)) + 1)) + 1))) (ZY.mk (Zd x.ZK.ZR (W ((W ((W ((W ((W ((W ((W ((W ((W ((ZB x.Doc.ZG (ZA x.Doc.ZE (W ((W ((W (k + 1)) + 1)) + 1))).2).2 + 1)) + 1)) + 1)) + 1)) + 1)) + 1)) + 1)) + 1)) + 1))).1 (Zi x.ZK.ZV (Zd x.ZK.ZR (W ((W ((W ((W ((W ((W ((W ((W ((W ((ZB x.Doc.ZG (ZA x.Doc.ZE (W ((W ((W (k + 1)) + 1)) + 1))).2).2 + 1)) + 1)) + 1)) + 1)) + 1)) + 1)) + 1)) + 1)) + 1))).2).1)), (Zi x.ZK.ZV (Zd x.ZK.ZR (W ((W ((W ((W ((W ((W ((W ((W ((W ((ZB x.Doc.ZG (ZA x.Doc.ZE (W ((W ((W (k + 1)) + 1)) + 1))).2).2 + 1)) + 1)) + 1)) + 1)) + 1)) + 1)) + 1)) + 1)) + 1))).2).2)) x k).2 = k + (cn x : Nat) := by
  intro x k h0 h
  simp only [Y0, Yf, J2, Y1, Zb.YP, ZT.YP, ZY.YP, Zm.YP] at h ⊢
  have e0 : W (k + 1) = k + 1 := Za (by omega) (by omega)
  have e1 : W ((W (k + 1)) + 1) = (W (k + 1)) + 1 := Za (by omega) (by omega)
  have e2 : W ((W ((W (k + 1)) + 1)) + 1) = (W ((W (k + 1)) + 1)) + 1 := Za (by omega) (by omega)
  obtain ⟨m3, n3⟩ := U4 x.Doc.ZE (W ((W ((W (k + 1)) + 1)) + 1)) (by omega) (by omega)
  have q3 := zW x.Doc.ZE (W ((W ((W (k + 1)) + 1)) + 1)) (by omega) (by omega)
  have o3 : ¬ (ZA x.Doc.ZE (W ((W ((W (k + 1)) + 1)) + 1))).2 < 0 := by omega
  obtain ⟨m6, n6⟩ := W7 x.Doc.ZG (ZA x.Doc.ZE (W ((W ((W (k + 1)) + 1)) + 1))).2 (by omega) (by omega)
  have q6 := XQ x.Doc.ZG (ZA x.Doc.ZE (W ((W ((W (k + 1)) + 1)) + 1))).2 (by omega) (by omega)
  have o6 : ¬ (ZB x.Doc.ZG (ZA x.Doc.ZE (W ((W ((W (k + 1)) + 1)) + 1))).2).2 < 0 := by omega
  have e9 : W ((ZB x.Doc.ZG (ZA x.Doc.ZE (W ((W ((W (k + 1)) + 1)) + 1))).2).2 + 1) = (ZB x.Doc.ZG (ZA x.Doc.ZE (W ((W ((W (k + 1)) + 1)) + 1))).2).2 + 1 := Za (by omega) (by omega)
  have e10 : W ((W ((ZB x.Doc.ZG (ZA x.Doc.ZE (W ((W ((W (k + 1)) + 1)) + 1))).2).2 + 1)) + 1) = (W ((ZB x.Doc.ZG (ZA x.Doc.ZE (W ((W ((W (k + 1)) + 1)) + 1))).2).2 + 1)) + 1 := Za (by omega) (by omega)
  have e11 : W ((W ((W ((ZB x.Doc.ZG (ZA x.Doc.ZE (W ((W ((W (k + 1)) + 1)) + 1))).2).2 + 1)) + 1)) + 1) = (W ((W ((ZB x.Doc.ZG (ZA x.Doc.ZE (W ((W ((W (k + 1)) + 1)) + 1))).2).2 + 1)) + 1)) + 1 := Za (by omega) (by omega)
  have e12 : W ((W ((W ((W ((ZB x.Doc.ZG (ZA x.Doc.ZE (W ((W ((W (k + 1)) + 1)) + 1))).2).2 + 1)) + 1)) + 1)) + 1) = (W ((W ((W ((ZB x.Doc.ZG (ZA x.Doc.ZE (W ((W ((W (k + 1)) + 1)) + 1))).2).2 + 1)) + 1)) + 1)) + 1 := Za (by omega) (by omega)
  have e13 : W ((W ((W ((W ((W ((ZB x.Doc.ZG (ZA x.Doc.ZE (W ((W ((W (k + 1)) + 1)) + 1))).2).2 + 1)) + 1)) + 1)) + 1)) + 1) = (W ((W ((W ((W ((ZB x.Doc.ZG (ZA x.Doc.ZE (W ((W ((W (k + 1)) + 1)) + 1))).2).2 + 1)) + 1)) + 1)) + 1)) + 1 := Za (by omega) (by omega)
  have e14 : W ((W ((W ((W ((W ((W ((ZB x.Doc.ZG (ZA x.Doc.ZE (W ((W ((W (k + 1)) + 1)) + 1))).2).2 + 1)) + 1)) + 1)) + 1)) + 1)) + 1) = (W ((W ((W ((W ((W ((ZB x.Doc.ZG (ZA x.Doc.ZE (W ((W ((W (k + 1)) + 1)) + 1))).2).2 + 1)) + 1)) + 1)) + 1)) + 1)) + 1 := Za (by omega) (by omega)
  have e15 : W ((W ((W ((W ((W ((W ((W ((ZB x.Doc.ZG (ZA x.Doc.ZE (W ((W ((W (k + 1)) + 1)) + 1))).2).2 + 1)) + 1)) + 1)) + 1)) + 1)) + 1)) + 1) = (W ((W ((W ((W ((W ((W ((ZB x.Doc.ZG (ZA x.Doc.ZE (W ((W ((W (k + 1)) + 1)) + 1))).2).2 + 1)) + 1)) + 1)) + 1)) + 1)) + 1)) + 1 := Za (by omega) (by omega)
  have e16 : W ((W ((W ((W ((W ((W ((W ((W ((ZB x.Doc.ZG (ZA x.Doc.ZE (W ((W ((W (k + 1)) + 1)) + 1))).2).2 + 1)) + 1)) + 1)) + 1)) + 1)) + 1)) + 1)) + 1) = (W ((W ((W ((W ((W ((W ((W ((ZB x.Doc.ZG (ZA x.Doc.ZE (W ((W ((W (k + 1)) + 1)) + 1))).2).2 + 1)) + 1)) + 1)) + 1)) + 1)) + 1)) + 1)) + 1 := Za (by omega) (by omega)
  have e17 : W ((W ((W ((W ((W ((W ((W ((W ((W ((ZB x.Doc.ZG (ZA x.Doc.ZE (W ((W ((W (k + 1)) + 1)) + 1))).2).2 + 1)) + 1)) + 1)) + 1)) + 1)) + 1)) + 1)) + 1)) + 1) = (W ((W ((W ((W ((W ((W ((W ((W ((ZB x.Doc.ZG (ZA x.Doc.ZE (W ((W ((W (k + 1)) + 1)) + 1))).2).2 + 1)) + 1)) + 1)) + 1)) + 1)) + 1)) + 1)) + 1)) + 1 := Za (by omega) (by omega)
  obtain ⟨m18, n18⟩ := Sc x.ZK.ZR (W ((W ((W ((W ((W ((W ((W ((W ((W ((ZB x.Doc.ZG (ZA x.Doc.ZE (W ((W ((W (k + 1)) + 1)) + 1))).2).2 + 1)) + 1)) + 1)) + 1)) + 1)) + 1)) + 1)) + 1)) + 1)) (by omega) (by omega)
  have q18 := z4 x.ZK.ZR (W ((W ((W ((W ((W ((W ((W ((W ((W ((ZB x.Doc.ZG (ZA x.Doc.ZE (W ((W ((W (k + 1)) + 1)) + 1))).2).2 + 1)) + 1)) + 1)) + 1)) + 1)) + 1)) + 1)) + 1)) + 1)) (by omega) (by omega)
  have o18 : ¬ (Zd x.ZK.ZR (W ((W ((W ((W ((W ((W ((W ((W ((W ((ZB x.Doc.ZG (ZA x.Doc.ZE (W ((W ((W (k + 1)) + 1)) + 1))).2).2 + 1)) + 1)) + 1)) + 1)) + 1)) + 1)) + 1)) + 1)) + 1))).2 < 0 := by omega
  obtain ⟨m21, n21⟩ := UY x.ZK.ZV (Zd x.ZK.ZR (W ((W ((W ((W ((W ((W ((W ((W ((W ((ZB x.Doc.ZG (ZA x.Doc.ZE (W ((W ((W (k + 1)) + 1)) + 1))).2).2 + 1)) + 1)) + 1)) + 1)) + 1)) + 1)) + 1)) + 1)) + 1))).2 (by omega) (by omega)
  have q21 := Kx x.ZK.ZV (Zd x.ZK.ZR (W ((W ((W ((W ((W ((W ((W ((W ((W ((ZB x.Doc.ZG (ZA x.Doc.ZE (W ((W ((W (k + 1)) + 1)) + 1))).2).2 + 1)) + 1)) + 1)) + 1)) + 1)) + 1)) + 1)) + 1)) + 1))).2 (by omega) (by omega)
  have o21 : ¬ (Zi x.ZK.ZV (Zd x.ZK.ZR (W ((W ((W ((W ((W ((W ((W ((W ((W ((ZB x.Doc.ZG (ZA x.Doc.ZE (W ((W ((W (k + 1)) + 1)) + 1))).2).2 + 1)) + 1)) + 1)) + 1)) + 1)) + 1)) + 1)) + 1)) + 1))).2).2 < 0 := by omega
  omega
theorem xE (a0 : List Zb) (a1 : Int) (h0 : 0 ≤ a1) (h : a1 + (cn a0 : Nat) < 4611686018427387904) : (Zy a0 a1).2 = a1 + (cn a0 : Nat) := by
  rw [xr]
  exact XF qu a0 a1 h0 h
theorem PF (a0 : List Zb) (a1 : Int) (h0 : 0 ≤ a1) (h : a1 + (cn a0 : Nat) < 4611686018427387904) : a1 ≤ (Zy a0 a1).2 ∧ (Zy a0 a1).2 ≤ a1 + (cn a0 : Nat) := by
  have := xE a0 a1 h0 h
  omega
theorem Oh : ∀ (x : Zb) (k : Int) (r : Int → Sum Int Int), 0 ≤ k → k + (cn x : Nat) < 4611686018427387904 → (fun (x : Zb) (k : Int) (r : Int → Sum Int Int) => (bif (x.Id != k) then (.inl (-1)) else (bif (x.Yk != (W (k + 1))) then (.inl (-1)) else (bif (x.Doc.Ka != (W ((W (k + 1)) + 1))) then (.inl (-1)) else (bif (decide ((Ze x.Doc.ZE (W ((W ((W (k + 1)) + 1)) + 1))) < 0)) then (.inl (-1)) else (bif (decide ((ZZ x.Doc.ZG (Ze x.Doc.ZE (W ((W ((W (k + 1)) + 1)) + 1)))) < 0)) then (.inl (-1)) else (bif (x.Sig.Key != (ZZ x.Doc.ZG (Ze x.Doc.ZE (W ((W ((W (k + 1)) + 1)) + 1))))) then (.inl (-1)) else (bif (x.Sig.QO != (W ((ZZ x.Doc.ZG (Ze x.Doc.ZE (W ((W ((W (k + 1)) + 1)) + 1)))) + 1))) then (.inl (-1)) else (bif (x.Sig.Method != (W ((W ((ZZ x.Doc.ZG (Ze x.Doc.ZE (W ((W ((W (k + 1)) + 1)) + 1)))) + 1)) + 1))) then (.inl (-1)) else (bif (x.Sig.YY != (W ((W ((W ((ZZ x.Doc.ZG (Ze x.Doc.ZE (W ((W ((W (k + 1)) + 1)) + 1)))) + 1)) + 1)) + 1))) then (.inl (-1)) else (bif (x.Sig.yB != (W ((W ((W ((W ((ZZ x.Doc.ZG (Ze x.Doc.ZE (W ((W ((W (k + 1)) + 1)) + 1)))) + 1)) + 1)) + 1)) + 1))) then (.inl (-1)) else (bif (x.Sig.Org != (W ((W ((W ((W ((W ((ZZ x.Doc.ZG (Ze x.Doc.ZE (W ((W ((W (k + 1)) + 1)) + 1)))) + 1)) + 1)) + 1)) + 1)) + 1))) then (.inl (-1)) else (bif (x.Sig.Ky != (W ((W ((W ((W ((W ((W ((ZZ x.Doc.ZG (Ze x.Doc.ZE (W ((W ((W (k + 1)) + 1)) + 1)))) + 1)) + 1)) + 1)) + 1)) + 1)) + 1))) then (.inl (-1)) else (bif (x.Sig.xG != (W ((W ((W ((W ((W ((W ((W ((ZZ x.Doc.ZG (Ze x.Doc.ZE (W ((W ((W (k + 1)) + 1)) + 1)))) + 1)) + 1)) + 1)) + 1)) + 1)) + 1)) + 1))) then (.inl (-1)) else (bif (x.Sig.Mark != (W ((W ((W ((W ((W ((W ((W ((W ((ZZ x.Doc.ZG (Ze x.Doc.ZE (W ((W ((W (k + 1)) + 1)) + 1)))) + 1)) + 1)) + 1)) + 1)) + 1)) + 1)) + 1)) + 1))) then (.inl (-1)) else (bif (decide ((Yu x.ZK.ZR (W ((W ((W ((W ((W ((W ((W ((W ((W ((ZZ x.Doc.ZG (Ze x.Doc.ZE (W ((W ((W (k + 1)) + 1)) + 1)))) + 1)) + 1)) + 1)) + 1)) + 1)) + 1)) + 1)) + 1)) + 1))) < 0)) then (.inl (-1)) else (bif (decide ((XB x.ZK.ZV (Yu x.ZK.ZR (W ((W ((W ((W ((W ((W ((W ((W ((W ((ZZ x.Doc.ZG (Ze x.Doc.ZE (W ((W ((W (k + 1)) + 1)) + 1)))) + 1)) + 1)) + 1)) + 1)) + 1)) + 1)) + 1)) + 1)) + 1)))) < 0)) then (.inl (-1)) else (r (XB x.ZK.ZV (Yu x.ZK.ZR (W ((W ((W ((W ((W ((W ((W ((W ((W ((ZZ x.Doc.ZG (Ze x.Doc.ZE (W ((W ((W (k + 1)) + 1)) + 1)))) + 1)) + 1)) + 1)) + 1)) + 1)) + 1)) + 1)) + 1)) + 1)))))))))))))))))))))) ((fun (x : Zb) (k : Int) => ((Zb.mk k (W (k + 1)) (ZT.mk (W ((W (k + 1)) + 1)) (ZA x.Doc.ZE (W ((W ((W (k + 1)) + 1)) + 1))).1 (ZB x.Doc.ZG (ZA x.Doc.ZE (W ((W ((W (k + 1)) + 1)) + 1))).2).1) (Zm.mk (ZB x.Doc.ZG (ZA x.Doc.ZE (W ((W ((W (k + 1)) + 1)) + 1))).2).2 (W ((ZB x.Doc.ZG (ZA x.Doc.ZE (W ((W ((W (k + 1)) + 1)) + 1))).2).2 + 1)) (W ((W ((ZB x.Doc.ZG (ZA x.Doc.ZE (W ((W ((W (k + 1)) + 1)) + 1))).2).2 + 1)) + 1)) (W ((W ((W ((ZB x.Doc.ZG (ZA x.Doc.ZE (W ((W ((W (k + 1)) + 1)) + 1))).2).2 + 1)) + 1)) + 1)) (W ((W ((W ((W ((ZB x.Doc.ZG (ZA x.Doc.ZE (W ((W ((W (k + 1)) + 1)) + 1))).2).2 + 1)) + 1)) + 1)) + 1)) (W ((W ((W ((W ((W ((ZB x.Doc.ZG (ZA x.Doc.ZE (W ((W ((W (k + 1)) + 1)) + 1))).2).2 + 1)) + 1)) + 1)) + 1)) + 1)) (W ((W ((W ((W ((W ((W ((ZB x.Doc.ZG (ZA x.Doc.ZE (W ((W ((W (k + 1)) + 1)) + 1))).2).2 + 1)) + 1)) + 1)) + 1)) + 1)) + 1)) (W ((W ((W ((W ((W ((W ((W ((ZB x.Doc.ZG (ZA x.Doc.ZE (W ((W ((W (k + 1)) + 1)) + 1))).2).2 + 1)) + 1)) + 1)) + 1)) + 1)) + 1)) + 1)) (W ((W ((W ((W ((W ((W ((W ((W ((ZB x.Doc.ZG (ZA x.Doc.ZE (W ((W ((W (k + 1)) + 1)) + 1))).2).2 + 1)) + 1)) + 1)) + 1)) + 1)) + 1)) + 1)) + 1))) (ZY.mk (Zd x.ZK.ZR (W ((W ((W ((W ((W ((W ((W ((W ((W ((ZB x.Doc.ZG (ZA x.Doc.ZE (W ((W ((W (k + 1)) + 1)) + 1))).2).2 + 1)) + 1)) + 1)) + 1)) + 1)) + 1)) + 1)) + 1)) + 1))).1 (Zi x.ZK.ZV (Zd x.ZK.ZR (W ((W ((W ((W ((W ((W ((W ((W ((W ((ZB x.Doc.ZG (ZA x.Doc.ZE (W ((W ((W (k + 1)) + 1)) + 1))).2).2 + 1)) + 1)) + 1)) + 1)) + 1)) + 1)) + 1)) + 1)) + 1))).2).1)), (Zi x.ZK.ZV (Zd x.ZK.ZR (W ((W ((W ((W ((W ((W ((W ((W ((W ((ZB x.Doc.ZG (ZA x.Doc.ZE (W ((W ((W (k + 1)) + 1)) + 1))).2).2 + 1)) + 1)) + 1)) + 1)) + 1)) + 1)) + 1)) + 1)) + 1))).2).2)) x k).1 k r = r ((fun (x : Zb) (k : Int) => ((Zb.mk k (W (k + 1)) (ZT.mk (W ((W (k + 1)) + 1)) (ZA x.Doc.ZE (W ((W ((W (k + 1)) + 1)) + 1))).1 (ZB x.Doc.ZG (ZA x.Doc.ZE (W ((W ((W (k + 1)) + 1)) + 1))).2).1) (Zm.mk (ZB x.Doc.ZG (ZA x.Doc.ZE (W ((W ((W (k + 1)) + 1)) + 1))).2).2 (W ((ZB x.Doc.ZG (ZA x.Doc.ZE (W ((W ((W (k + 1)) + 1)) + 1))).2).2 + 1)) (W ((W ((ZB x.Doc.ZG (ZA x.Doc.ZE (W ((W ((W (k + 1)) + 1)) + 1))).2).2 + 1)) + 1)) (W ((W ((W ((ZB x.Doc.ZG (ZA x.Doc.ZE (W ((W ((W (k + 1)) + 1)) + 1))).2).2 + 1)) + 1)) + 1)) (W ((W ((W ((W ((ZB x.Doc.ZG (ZA x.Doc.ZE (W ((W ((W (k + 1)) + 1)) + 1))).2).2 + 1)) + 1)) + 1)) + 1)) (W ((W ((W ((W ((W ((ZB x.Doc.ZG (ZA x.Doc.ZE (W ((W ((W (k + 1)) + 1)) + 1))).2).2 + 1)) + 1)) + 1)) + 1)) + 1)) (W ((W ((W ((W ((W ((W ((ZB x.Doc.ZG (ZA x.Doc.ZE (W ((W ((W (k + 1)) + 1)) + 1))).2).2 + 1)) + 1)) + 1)) + 1)) + 1)) + 1)) (W ((W ((W ((W ((W ((W ((W ((ZB x.Doc.ZG (ZA x.Doc.ZE (W ((W ((W (k + 1)) + 1)) + 1))).2).2 + 1)) + 1)) + 1)) + 1)) + 1)) + 1)) + 1)) (W ((W ((W ((W ((W ((W ((W ((W ((ZB x.Doc.ZG (ZA x.Doc.ZE (W ((W ((W (k + 1)) + 1)) + 1))).2).2 + 1)) + 1)) + 1)) + 1)) + 1)) + 1)) + 1)) + 1))) (ZY.mk (Zd x.ZK.ZR (W ((W ((W ((W ((W ((W ((W ((W ((W ((ZB x.Doc.ZG (ZA x.Doc.ZE (W ((W ((W (k + 1)) + 1)) + 1))).2).2 + 1)) + 1)) + 1)) + 1)) + 1)) + 1)) + 1)) + 1)) + 1))).1 (Zi x.ZK.ZV (Zd x.ZK.ZR (W ((W ((W ((W ((W ((W ((W ((W ((W ((ZB x.Doc.ZG (ZA x.Doc.ZE (W ((W ((W (k + 1)) + 1)) + 1))).2).2 + 1)) + 1)) + 1)) + 1)) + 1)) + 1)) + 1)) + 1)) + 1))).2).1)), (Zi x.ZK.ZV (Zd x.ZK.ZR (W ((W ((W ((W ((W ((W ((W ((W ((W ((ZB x.Doc.ZG (ZA x.Doc.ZE (W ((W ((W (k + 1)) + 1)) + 1))).2).2 + 1)) + 1)) + 1)) + 1)) + 1)) + 1)) + 1)) + 1)) + 1))).2).2)) x k).2 := by
  intro x k r h0 h
  simp only [Y0, Yf, J2, Y1, Zb.YP, ZT.YP, ZY.YP, Zm.YP] at h
  have e0 : W (k + 1) = k + 1 := Za (by omega) (by omega)
  have e1 : W ((W (k + 1)) + 1) = (W (k + 1)) + 1 := Za (by omega) (by omega)
  have e2 : W ((W ((W (k + 1)) + 1)) + 1) = (W ((W (k + 1)) + 1)) + 1 := Za (by omega) (by omega)
  obtain ⟨m3, n3, h3⟩ := Tb x.Doc.ZE (W ((W ((W (k + 1)) + 1)) + 1)) (by omega) (by omega)
  have q3 := zW x.Doc.ZE (W ((W ((W (k + 1)) + 1)) + 1)) (by omega) (by omega)
  have o3 : ¬ (ZA x.Doc.ZE (W ((W ((W (k + 1)) + 1)) + 1))).2 < 0 := by omega
  obtain ⟨m6, n6, h6⟩ := Jv x.Doc.ZG (ZA x.Doc.ZE (W ((W ((W (k + 1)) + 1)) + 1))).2 (by omega) (by omega)
  have q6 := XQ x.Doc.ZG (ZA x.Doc.ZE (W ((W ((W (k + 1)) + 1)) + 1))).2 (by omega) (by omega)
  have o6 : ¬ (ZB x.Doc.ZG (ZA x.Doc.ZE (W ((W ((W (k + 1)) + 1)) + 1))).2).2 < 0 := by omega
  have e9 : W ((ZB x.Doc.ZG (ZA x.Doc.ZE (W ((W ((W (k + 1)) + 1)) + 1))).2).2 + 1) = (ZB x.Doc.ZG (ZA x.Doc.ZE (W ((W ((W (k + 1)) + 1)) + 1))).2).2 + 1 := Za (by omega) (by omega)
  have e10 : W ((W ((ZB x.Doc.ZG (ZA x.Doc.ZE (W ((W ((W (k + 1)) + 1)) + 1))).2).2 + 1)) + 1) = (W ((ZB x.Doc.ZG (ZA x.Doc.ZE (W ((W ((W (k + 1)) + 1)) + 1))).2).2 + 1)) + 1 := Za (by omega) (by omega)
  have e11 : W ((W ((W ((ZB x.Doc.ZG (ZA x.Doc.ZE (W ((W ((W (k + 1)) + 1)) + 1))).2).2 + 1)) + 1)) + 1) = (W ((W ((ZB x.Doc.ZG (ZA x.Doc.ZE (W ((W ((W (k + 1)) + 1)) + 1))).2).2 + 1)) + 1)) + 1 := Za (by omega) (by omega)
  have e12 : W ((W ((W ((W ((ZB x.Doc.ZG (ZA x.Doc.ZE (W ((W ((W (k + 1)) + 1)) + 1))).2).2 + 1)) + 1)) + 1)) + 1) = (W ((W ((W ((ZB x.Doc.ZG (ZA x.Doc.ZE (W ((W ((W (k + 1)) + 1)) + 1))).2).2 + 1)) + 1)) + 1)) + 1 := Za (by omega) (by omega)
  have e13 : W ((W ((W ((W ((W ((ZB x.Doc.ZG (ZA x.Doc.ZE (W ((W ((W (k + 1)) + 1)) + 1))).2).2 + 1)) + 1)) + 1)) + 1)) + 1) = (W ((W ((W ((W ((ZB x.Doc.ZG (ZA x.Doc.ZE (W ((W ((W (k + 1)) + 1)) + 1))).2).2 + 1)) + 1)) + 1)) + 1)) + 1 := Za (by omega) (by omega)
  have e14 : W ((W ((W ((W ((W ((W ((ZB x.Doc.ZG (ZA x.Doc.ZE (W ((W ((W (k + 1)) + 1)) + 1))).2).2 + 1)) + 1)) + 1)) + 1)) + 1)) + 1) = (W ((W ((W ((W ((W ((ZB x.Doc.ZG (ZA x.Doc.ZE (W ((W ((W (k + 1)) + 1)) + 1))).2).2 + 1)) + 1)) + 1)) + 1)) + 1)) + 1 := Za (by omega) (by omega)
  have e15 : W ((W ((W ((W ((W ((W ((W ((ZB x.Doc.ZG (ZA x.Doc.ZE (W ((W ((W (k + 1)) + 1)) + 1))).2).2 + 1)) + 1)) + 1)) + 1)) + 1)) + 1)) + 1) = (W ((W ((W ((W ((W ((W ((ZB x.Doc.ZG (ZA x.Doc.ZE (W ((W ((W (k + 1)) + 1)) + 1))).2).2 + 1)) + 1)) + 1)) + 1)) + 1)) + 1)) + 1 := Za (by omega) (by omega)
  have e16 : W ((W ((W ((W ((W ((W ((W ((W ((ZB x.Doc.ZG (ZA x.Doc.ZE (W ((W ((W (k + 1)) + 1)) + 1))).2).2 + 1)) + 1)) + 1)) + 1)) + 1)) + 1)) + 1)) + 1) = (W ((W ((W ((W ((W ((W ((W ((ZB x.Doc.ZG (ZA x.Doc.ZE (W ((W ((W (k + 1)) + 1)) + 1))).2).2 + 1)) + 1)) + 1)) + 1)) + 1)) + 1)) + 1)) + 1 := Za (by omega) (by omega)
  have e17 : W ((W ((W ((W ((W ((W ((W ((W ((W ((ZB x.Doc.ZG (ZA x.Doc.ZE (W ((W ((W (k + 1)) + 1)) + 1))).2).2 + 1)) + 1)) + 1)) + 1)) + 1)) + 1)) + 1)) + 1)) + 1) = (W ((W ((W ((W ((W ((W ((W ((W ((ZB x.Doc.ZG (ZA x.Doc.ZE (W ((W ((W (k + 1)) + 1)) + 1))).2).2 + 1)) + 1)) + 1)) + 1)) + 1)) + 1)) + 1)) + 1)) + 1 := Za (by omega) (by omega)
  obtain ⟨m18, n18, h18⟩ := S3 x.ZK.ZR (W ((W ((W ((W ((W ((W ((W ((W ((W ((ZB x.Doc.ZG (ZA x.Doc.ZE (W ((W ((W (k + 1)) + 1)) + 1))).2).2 + 1)) + 1)) + 1)) + 1)) + 1)) + 1)) + 1)) + 1)) + 1)) (by omega) (by omega)
  have q18 := z4 x.ZK.ZR (W ((W ((W ((W ((W ((W ((W ((W ((W ((ZB x.Doc.ZG (ZA x.Doc.ZE (W ((W ((W (k + 1)) + 1)) + 1))).2).2 + 1)) + 1)) + 1)) + 1)) + 1)) + 1)) + 1)) + 1)) + 1)) (by omega) (by omega)
  have o18 : ¬ (Zd x.ZK.ZR (W ((W ((W ((W ((W ((W ((W ((W ((W ((ZB x.Doc.ZG (ZA x.Doc.ZE (W ((W ((W (k + 1)) + 1)) + 1))).2).2 + 1)) + 1)) + 1)) + 1)) + 1)) + 1)) + 1)) + 1)) + 1))).2 < 0 := by omega
  obtain ⟨m21, n21, h21⟩ := UO x.ZK.ZV (Zd x.ZK.ZR (W ((W ((W ((W ((W ((W ((W ((W ((W ((ZB x.Doc.ZG (ZA x.Doc.ZE (W ((W ((W (k + 1)) + 1)) + 1))).2).2 + 1)) + 1)) + 1)) + 1)) + 1)) + 1)) + 1)) + 1)) + 1))).2 (by omega) (by omega)
  have q21 := Kx x.ZK.ZV (Zd x.ZK.ZR (W ((W ((W ((W ((W ((W ((W ((W ((W ((ZB x.Doc.ZG (ZA x.Doc.ZE (W ((W ((W (k + 1)) + 1)) + 1))).2).2 + 1)) + 1)) + 1)) + 1)) + 1)) + 1)) + 1)) + 1)) + 1))).2 (by omega) (by omega)
  have o21 : ¬ (Zi x.ZK.ZV (Zd x.ZK.ZR (W ((W ((W ((W ((W ((W ((W ((W ((W ((ZB x.Doc.ZG (ZA x.Doc.ZE (W ((W ((W (k + 1)) + 1)) + 1))).2).2 + 1)) + 1)) + 1)) + 1)) + 1)) + 1)) + 1)) + 1)) + 1))).2).2 < 0 := by omega
  simp [h3, h6, h18, h21, o3, o6, o18, o21]
theorem RI (a0 : List Zb) (a1 : Int) (h0 : 0 ≤ a1) (h : a1 + (cn a0 : Nat) < 4611686018427387904) : a1 ≤ (Zy a0 a1).2 ∧ (Zy a0 a1).2 ≤ a1 + (cn a0 : Nat) ∧ QK (Zy a0 a1).1 a1 = (Zy a0 a1).2 := by
  rw [xr]
  have s := XF qu a0 a1 h0 h
  have hh := Qc (z := (mkL (fun (x : Zb) (k : Int) => ((Zb.mk k (W (k + 1)) (ZT.mk (W ((W (k + 1)) + 1)) (ZA x.Doc.ZE (W ((W ((W (k + 1)) + 1)) + 1))).1 (ZB x.Doc.ZG (ZA x.Doc.ZE (W ((W ((W (k + 1)) + 1)) + 1))).2).1) (Zm.mk (ZB x.Doc.ZG (ZA x.Doc.ZE (W ((W ((W (k + 1)) + 1)) + 1))).2).2 (W ((ZB x.Doc.ZG (ZA x.Doc.ZE (W ((W ((W (k + 1)) + 1)) + 1))).2).2 + 1)) (W ((W ((ZB x.Doc.ZG (ZA x.Doc.ZE (W ((W ((W (k + 1)) + 1)) + 1))).2).2 + 1)) + 1)) (W ((W ((W ((ZB x.Doc.ZG (ZA x.Doc.ZE (W ((W ((W (k + 1)) + 1)) + 1))).2).2 + 1)) + 1)) + 1)) (W ((W ((W ((W ((ZB x.Doc.ZG (ZA x.Doc.ZE (W ((W ((W (k + 1)) + 1)) + 1))).2).2 + 1)) + 1)) + 1)) + 1)) (W ((W ((W ((W ((W ((ZB x.Doc.ZG (ZA x.Doc.ZE (W ((W ((W (k + 1)) + 1)) + 1))).2).2 + 1)) + 1)) + 1)) + 1)) + 1)) (W ((W ((W ((W ((W ((W ((ZB x.Doc.ZG (ZA x.Doc.ZE (W ((W ((W (k + 1)) + 1)) + 1))).2).2 + 1)) + 1)) + 1)) + 1)) + 1)) + 1)) (W ((W ((W ((W ((W ((W ((W ((ZB x.Doc.ZG (ZA x.Doc.ZE (W ((W ((W (k + 1)) + 1)) + 1))).2).2 + 1)) + 1)) + 1)) + 1)) + 1)) + 1)) + 1)) (W ((W ((W ((W ((W ((W ((W ((W ((ZB x.Doc.ZG (ZA x.Doc.ZE (W ((W ((W (k + 1)) + 1)) + 1))).2).2 + 1)) + 1)) + 1)) + 1)) + 1)) + 1)) + 1)) + 1))) (ZY.mk (Zd x.ZK.ZR (W ((W ((W ((W ((W ((W ((W ((W ((W ((ZB x.Doc.ZG (ZA x.Doc.ZE (W ((W ((W (k + 1)) + 1)) + 1))).2).2 + 1)) + 1)) + 1)) + 1)) + 1)) + 1)) + 1)) + 1)) + 1))).1 (Zi x.ZK.ZV (Zd x.ZK.ZR (W ((W ((W ((W ((W ((W ((W ((W ((W ((ZB x.Doc.ZG (ZA x.Doc.ZE (W ((W ((W (k + 1)) + 1)) + 1))).2).2 + 1)) + 1)) + 1)) + 1)) + 1)) + 1)) + 1)) + 1)) + 1))).2).1)), (Zi x.ZK.ZV (Zd x.ZK.ZR (W ((W ((W ((W ((W ((W ((W ((W ((W ((ZB x.Doc.ZG (ZA x.Doc.ZE (W ((W ((W (k + 1)) + 1)) + 1))).2).2 + 1)) + 1)) + 1)) + 1)) + 1)) + 1)) + 1)) + 1)) + 1))).2).2)) a0 a1).1) (H := ye (mkL (fun (x : Zb) (k : Int) => ((Zb.mk k (W (k + 1)) (ZT.mk (W ((W (k + 1)) + 1)) (ZA x.Doc.ZE (W ((W ((W (k + 1)) + 1)) + 1))).1 (ZB x.Doc.ZG (ZA x.Doc.ZE (W ((W ((W (k + 1)) + 1)) + 1))).2).1) (Zm.mk (ZB x.Doc.ZG (ZA x.Doc.ZE (W ((W ((W (k + 1)) + 1)) + 1))).2).2 (W ((ZB x.Doc.ZG (ZA x.Doc.ZE (W ((W ((W (k + 1)) + 1)) + 1))).2).2 + 1)) (W ((W ((ZB x.Doc.ZG (ZA x.Doc.ZE (W ((W ((W (k + 1)) + 1)) + 1))).2).2 + 1)) + 1)) (W ((W ((W ((ZB x.Doc.ZG (ZA x.Doc.ZE (W ((W ((W (k + 1)) + 1)) + 1))).2).2 + 1)) + 1)) + 1)) (W ((W ((W ((W ((ZB x.Doc.ZG (ZA x.Doc.ZE (W ((W ((W (k + 1)) + 1)) + 1))).2).2 + 1)) + 1)) + 1)) + 1)) (W ((W ((W ((W ((W ((ZB x.Doc.ZG (ZA x.Doc.ZE (W ((W ((W (k + 1)) + 1)) + 1))).2).2 + 1)) + 1)) + 1)) + 1)) + 1)) (W ((W ((W ((W ((W ((W ((ZB x.Doc.ZG (ZA x.Doc.ZE (W ((W ((W (k + 1)) + 1)) + 1))).2).2 + 1)) + 1)) + 1)) + 1)) + 1)) + 1)) (W ((W ((W ((W ((W ((W ((W ((ZB x.Doc.ZG (ZA x.Doc.ZE (W ((W ((W (k + 1)) + 1)) + 1))).2).2 + 1)) + 1)) + 1)) + 1)) + 1)) + 1)) + 1)) (W ((W ((W ((W ((W ((W ((W ((W ((ZB x.Doc.ZG (ZA x.Doc.ZE (W ((W ((W (k + 1)) + 1)) + 1))).2).2 + 1)) + 1)) + 1)) + 1)) + 1)) + 1)) + 1)) + 1))) (ZY.mk (Zd x.ZK.ZR (W ((W ((W ((W ((W ((W ((W ((W ((W ((ZB x.Doc.ZG (ZA x.Doc.ZE (W ((W ((W (k + 1)) + 1)) + 1))).2).2 + 1)) + 1)) + 1)) + 1)) + 1)) + 1)) + 1)) + 1)) + 1))).1 (Zi x.ZK.ZV (Zd x.ZK.ZR (W ((W ((W ((W ((W ((W ((W ((W ((W ((ZB x.Doc.ZG (ZA x.Doc.ZE (W ((W ((W (k + 1)) + 1)) + 1))).2).2 + 1)) + 1)) + 1)) + 1)) + 1)) + 1)) + 1)) + 1)) + 1))).2).1)), (Zi x.ZK.ZV (Zd x.ZK.ZR (W ((W ((W ((W ((W ((W ((W ((W ((W ((ZB x.Doc.ZG (ZA x.Doc.ZE (W ((W ((W (k + 1)) + 1)) + 1))).2).2 + 1)) + 1)) + 1)) + 1)) + 1)) + 1)) + 1)) + 1)) + 1))).2).2)) a0 a1).1) (G := (fun (x : Zb) (k : Int) (r : Int → Sum Int Int) => (bif (x.Id != k) then (.inl (-1)) else (bif (x.Yk != (W (k + 1))) then (.inl (-1)) else (bif (x.Doc.Ka != (W ((W (k + 1)) + 1))) then (.inl (-1)) else (bif (decide ((Ze x.Doc.ZE (W ((W ((W (k + 1)) + 1)) + 1))) < 0)) then (.inl (-1)) else (bif (decide ((ZZ x.Doc.ZG (Ze x.Doc.ZE (W ((W ((W (k + 1)) + 1)) + 1)))) < 0)) then (.inl (-1)) else (bif (x.Sig.Key != (ZZ x.Doc.ZG (Ze x.Doc.ZE (W ((W ((W (k + 1)) + 1)) + 1))))) then (.inl (-1)) else (bif (x.Sig.QO != (W ((ZZ x.Doc.ZG (Ze x.Doc.ZE (W ((W ((W (k + 1)) + 1)) + 1)))) + 1))) then (.inl (-1)) else (bif (x.Sig.Method != (W ((W ((ZZ x.Doc.ZG (Ze x.Doc.ZE (W ((W ((W (k + 1)) + 1)) + 1)))) + 1)) + 1))) then (.inl (-1)) else (bif (x.Sig.YY != (W ((W ((W ((ZZ x.Doc.ZG (Ze x.Doc.ZE (W ((W ((W (k + 1)) + 1)) + 1)))) + 1)) + 1)) + 1))) then (.inl (-1)) else (bif (x.Sig.yB != (W ((W ((W ((W ((ZZ x.Doc.ZG (Ze x.Doc.ZE (W ((W ((W (k + 1)) + 1)) + 1)))) + 1)) + 1)) + 1)) + 1))) then (.inl (-1)) else (bif (x.Sig.Org != (W ((W ((W ((W ((W ((ZZ x.Doc.ZG (Ze x.Doc.ZE (W ((W ((W (k + 1)) + 1)) + 1)))) + 1)) + 1)) + 1)) + 1)) + 1))) then (.inl (-1)) else (bif (x.Sig.Ky != (W ((W ((W ((W ((W ((W ((ZZ x.Doc.ZG (Ze x.Doc.ZE (W ((W ((W (k + 1)) + 1)) + 1)))) + 1)) + 1)) + 1)) + 1)) + 1)) + 1))) then (.inl (-1)) else (bif (x.Sig.xG != (W ((W ((W ((W ((W ((W ((W ((ZZ x.Doc.ZG (Ze x.Doc.ZE (W ((W ((W (k + 1)) + 1)) + 1)))) + 1)) + 1)) + 1)) + 1)) + 1)) + 1)) + 1))) then (.inl (-1)) else (bif (x.Sig.Mark != (W ((W ((W ((W ((W ((W ((W ((W ((ZZ x.Doc.ZG (Ze x.Doc.ZE (W ((W ((W (k + 1)) + 1)) + 1)))) + 1)) + 1)) + 1)) + 1)) + 1)) + 1)) + 1)) + 1))) then (.inl (-1)) else (bif (decide ((Yu x.ZK.ZR (W ((W ((W ((W ((W ((W ((W ((W ((W ((ZZ x.Doc.ZG (Ze x.Doc.ZE (W ((W ((W (k + 1)) + 1)) + 1)))) + 1)) + 1)) + 1)) + 1)) + 1)) + 1)) + 1)) + 1)) + 1))) < 0)) then (.inl (-1)) else (bif (decide ((XB x.ZK.ZV (Yu x.ZK.ZR (W ((W ((W ((W ((W ((W ((W ((W ((W ((ZZ x.Doc.ZG (Ze x.Doc.ZE (W ((W ((W (k + 1)) + 1)) + 1)))) + 1)) + 1)) + 1)) + 1)) + 1)) + 1)) + 1)) + 1)) + 1)))) < 0)) then (.inl (-1)) else (r (XB x.ZK.ZV (Yu x.ZK.ZR (W ((W ((W ((W ((W ((W ((W ((W ((W ((ZZ x.Doc.ZG (Ze x.Doc.ZE (W ((W ((W (k + 1)) + 1)) + 1)))) + 1)) + 1)) + 1)) + 1)) + 1)) + 1)) + 1)) + 1)) + 1))))))))))))))))))))))) (fun _ _ _ => rfl) qu Oh a0 [] ((mkL (fun (x : Zb) (k : Int) => ((Zb.mk k (W (k + 1)) (ZT.mk (W ((W (k + 1)) + 1)) (ZA x.Doc.ZE (W ((W ((W (k + 1)) + 1)) + 1))).1 (ZB x.Doc.ZG (ZA x.Doc.ZE (W ((W ((W (k + 1)) + 1)) + 1))).2).1) (Zm.mk (ZB x.Doc.ZG (ZA x.Doc.ZE (W ((W ((W (k + 1)) + 1)) + 1))).2).2 (W ((ZB x.Doc.ZG (ZA x.Doc.ZE (W ((W ((W (k + 1)) + 1)) + 1))).2).2 + 1)) (W ((W ((ZB x.Doc.ZG (ZA x.Doc.ZE (W ((W ((W (k + 1)) + 1)) + 1))).2).2 + 1)) + 1)) (W ((W ((W ((ZB x.Doc.ZG (ZA x.Doc.ZE (W ((W ((W (k + 1)) + 1)) + 1))).2).2 + 1)) + 1)) + 1)) (W ((W ((W ((W ((ZB x.Doc.ZG (ZA x.Doc.ZE (W ((W ((W (k + 1)) + 1)) + 1))).2).2 + 1)) + 1)) + 1)) + 1)) (W ((W ((W ((W ((W ((ZB x.Doc.ZG (ZA x.Doc.ZE (W ((W ((W (k + 1)) + 1)) + 1))).2).2 + 1)) + 1)) + 1)) + 1)) + 1)) (W ((W ((W ((W ((W ((W ((ZB x.Doc.ZG (ZA x.Doc.ZE (W ((W ((W (k + 1)) + 1)) + 1))).2).2 + 1)) + 1)) + 1)) + 1)) + 1)) + 1)) (W ((W ((W ((W ((W ((W ((W ((ZB x.Doc.ZG (ZA x.Doc.ZE (W ((W ((W (k + 1)) + 1)) + 1))).2).2 + 1)) + 1)) + 1)) + 1)) + 1)) + 1)) + 1)) (W ((W ((W ((W ((W ((W ((W ((W ((ZB x.Doc.ZG (ZA x.Doc.ZE (W ((W ((W (k + 1)) + 1)) + 1))).2).2 + 1)) + 1)) + 1)) + 1)) + 1)) + 1)) + 1)) + 1))) (ZY.mk (Zd x.ZK.ZR (W ((W ((W ((W ((W ((W ((W ((W ((W ((ZB x.Doc.ZG (ZA x.Doc.ZE (W ((W ((W (k + 1)) + 1)) + 1))).2).2 + 1)) + 1)) + 1)) + 1)) + 1)) + 1)) + 1)) + 1)) + 1))).1 (Zi x.ZK.ZV (Zd x.ZK.ZR (W ((W ((W ((W ((W ((W ((W ((W ((W ((ZB x.Doc.ZG (ZA x.Doc.ZE (W ((W ((W (k + 1)) + 1)) + 1))).2).2 + 1)) + 1)) + 1)) + 1)) + 1)) + 1)) + 1)) + 1)) + 1))).2).1)), (Zi x.ZK.ZV (Zd x.ZK.ZR (W ((W ((W ((W ((W ((W ((W ((W ((W ((ZB x.Doc.ZG (ZA x.Doc.ZE (W ((W ((W (k + 1)) + 1)) + 1))).2).2 + 1)) + 1)) + 1)) + 1)) + 1)) + 1)) + 1)) + 1)) + 1))).2).2)) a0 a1).1.length + 1) a1 (by simp) (by rw [XC]; omega) h0 h
  simp only [List.length_nil] at hh
  rw [XT] at *
  refine ⟨by omega, by omega, ?_⟩
  unfold QK
  rw [hh]
theorem zV (a0 : List ZH) (a1 : Int) : Zu a0 a1 = mkL (fun (x : ZH) (k : Int) => ((ZH.mk k (Zy x.ZS (W (k + 1))).1), (Zy x.ZS (W (k + 1))).2)) a0 a1 := by
  have h := QZ (F := XJ) (f := (fun (x : ZH) (k : Int) => ((ZH.mk k (Zy x.ZS (W (k + 1))).1), (Zy x.ZS (W (k + 1))).2))) (fun _ _ _ _ => rfl) a0 [] (a0.length + 1) a1 (by omega)
  unfold Zu
  simp only [List.length_nil, List.nil_append] at h
  rw [h]
@[simp] theorem Hw (a0 : List ZH) (a1 : Int) : (Zu a0 a1).1.length = a0.length := by rw [zV, XC]
theorem z7 : ∀ (x : ZH) (k : Int), 0 ≤ k → k + (cn x : Nat) < 4611686018427387904 → ((fun (x : ZH) (k : Int) => ((ZH.mk k (Zy x.ZS (W (k + 1))).1), (Zy x.ZS (W (k + 1))).2)) x k).2 = k + (cn x : Nat) := by
  intro x k h0 h
  simp only [Y0, Yf, J2, Y1, ZH.YP] at h ⊢
  have e0 : W (k + 1) = k + 1 := Za (by omega) (by omega)
  obtain ⟨m1, n1⟩ := PF x.ZS (W (k + 1)) (by omega) (by omega)
  have q1 := xE x.ZS (W (k + 1)) (by omega) (by omega)
  have o1 : ¬ (Zy x.ZS (W (k + 1))).2 < 0 := by omega
  omega
theorem VP (a0 : List ZH) (a1 : Int) (h0 : 0 ≤ a1) (h : a1 + (cn a0 : Nat) < 4611686018427387904) : (Zu a0 a1).2 = a1 + (cn a0 : Nat) := by
  rw [zV]
  exact XF z7 a0 a1 h0 h
theorem TQ : ∀ (x : ZH) (k : Int) (r : Int → Sum Int Int), 0 ≤ k → k + (cn x : Nat) < 4611686018427387904 → (fun (x : ZH) (k : Int) (r : Int → Sum Int Int) => (bif (x.Id != k) then (.inl (-1)) else (bif (decide ((QK x.ZS (W (k + 1))) < 0)) then (.inl (-1)) else (r (QK x.ZS (W (k + 1))))))) ((fun (x : ZH) (k : Int) => ((ZH.mk k (Zy x.ZS (W (k + 1))).1), (Zy x.ZS (W (k + 1))).2)) x k).1 k r = r ((fun (x : ZH) (k : Int) => ((ZH.mk k (Zy x.ZS (W (k + 1))).1), (Zy x.ZS (W (k + 1))).2)) x k).2 := by
  intro x k r h0 h
  simp only [Y0, Yf, J2, Y1, ZH.YP] at h
  have e0 : W (k + 1) = k + 1 := Za (by omega) (by omega)
  obtain ⟨m1, n1, h1⟩ := RI x.ZS (W (k + 1)) (by omega) (by omega)
  have q1 := xE x.ZS (W (k + 1)) (by omega) (by omega)
  have o1 : ¬ (Zy x.ZS (W (k + 1))).2 < 0 := by omega
  simp [h1, o1]
theorem UZ (a0 : List ZH) (a1 : Int) (h0 : 0 ≤ a1) (h : a1 + (cn a0 : Nat) < 4611686018427387904) : a1 ≤ (Zu a0 a1).2 ∧ (Zu a0 a1).2 ≤ a1 + (cn a0 : Nat) ∧ Yp (Zu a0 a1).1 a1 = (Zu a0 a1).2 := by
  rw [zV]
  have s := XF z7 a0 a1 h0 h
  have hh := Qc (z := (mkL (fun (x : ZH) (k : Int) => ((ZH.mk k (Zy x.ZS (W (k + 1))).1), (Zy x.ZS (W (k + 1))).2)) a0 a1).1) (H := KQ (mkL (fun (x : ZH) (k : Int) => ((ZH.mk k (Zy x.ZS (W (k + 1))).1), (Zy x.ZS (W (k + 1))).2)) a0 a1).1) (G := (fun (x : ZH) (k : Int) (r : Int → Sum Int Int) => (bif (x.Id != k) then (.inl (-1)) else (bif (decide ((QK x.ZS (W (k + 1))) < 0)) then (.inl (-1)) else (r (QK x.ZS (W (k + 1)))))))) (fun _ _ _ => rfl) z7 TQ a0 [] ((mkL (fun (x : ZH) (k : Int) => ((ZH.mk k (Zy x.ZS (W (k + 1))).1), (Zy x.ZS (W (k + 1))).2)) a0 a1).1.length + 1) a1 (by simp) (by rw [XC]; omega) h0 h
  simp only [List.length_nil] at hh
  rw [XT] at *
  refine ⟨by omega, by omega, ?_⟩
  unfold Yp
  rw [hh]
@[simp] theorem RX (a0 : Zc) (a1 : Int) : (Zn a0 a1).1.Frame.YR.length = a0.Frame.YR.length := by simp [Zn]
@[simp] theorem Vq (a0 : Zc) (a1 : Int) : (Zn a0 a1).1.Frame.ZL.length = a0.Frame.ZL.length := by simp [Zn]
@[simp] theorem Tn (a0 : Zc) (a1 : Int) : (Zn a0 a1).1.Frame.Methods.length = a0.Frame.Methods.length := by simp [Zn]
@[simp] theorem N2 (a0 : Zc) (a1 : Int) : (Zn a0 a1).1.Frame.zu = a0.Frame.zu := rfl
@[simp] theorem Lk (a0 : Zc) (a1 : Int) : (Zn a0 a1).1.Frame.Now = a0.Frame.Now := rfl
@[simp] theorem Ln (a0 : Zc) (a1 : Int) : (Zn a0 a1).1.Zx.length = a0.Zx.length := by simp [Zn]
@[simp] theorem Ll (a0 : Zc) (a1 : Int) : (Zn a0 a1).1.Z5.length = a0.Z5.length := by simp [Zn]
@[simp] theorem O7 (a0 : Zc) (a1 : Int) : (Zn a0 a1).1.ZC.length = a0.ZC.length := by simp [Zn]
@[simp] theorem I5 (a0 : Zc) (a1 : Int) : (Zn a0 a1).1.Yz.length = a0.Yz.length := by simp [Zn]
@[simp] theorem Lm (a0 : Zc) (a1 : Int) : (Zn a0 a1).1.YX.length = a0.YX.length := by simp [Zn]
@[simp] theorem Gs (a0 : Zc) (a1 : Int) : (Zn a0 a1).1.Next = a0.Next := rfl
@[simp] theorem LN (a0 : Zc) (a1 : Int) : (Zn a0 a1).1.YT.length = a0.YT.length := by simp [Zn]
theorem WZ (a0 : Zc) (a1 : Int) (h0 : 0 ≤ a1) (h : a1 + (cn a0 : Nat) < 4611686018427387904) : a1 ≤ (Zn a0 a1).2 ∧ (Zn a0 a1).2 ≤ a1 + (cn a0 : Nat) ∧ Ja (Zn a0 a1).1 a1 = (Zn a0 a1).2 := by
  simp only [Y0, Yf, Y1, Zc.YP] at h ⊢
  obtain ⟨m0, n0, h0⟩ := PI a0.Frame a1 (by omega) (by omega)
  have o0 : ¬ (Zh a0.Frame a1).2 < 0 := by omega
  obtain ⟨m2, n2, h2⟩ := R2 a0.Zx (Zh a0.Frame a1).2 (by omega) (by omega)
  have q2 := Sn a0.Zx (Zh a0.Frame a1).2 (by omega) (by omega)
  have o2 : ¬ (Zt a0.Zx (Zh a0.Frame a1).2).2 < 0 := by omega
  obtain ⟨m5, n5, h5⟩ := Jv a0.Z5 (Zt a0.Zx (Zh a0.Frame a1).2).2 (by omega) (by omega)
  have q5 := XQ a0.Z5 (Zt a0.Zx (Zh a0.Frame a1).2).2 (by omega) (by omega)
  have o5 : ¬ (ZB a0.Z5 (Zt a0.Zx (Zh a0.Frame a1).2).2).2 < 0 := by omega
  obtain ⟨m8, n8, h8⟩ := UZ a0.ZC (ZB a0.Z5 (Zt a0.Zx (Zh a0.Frame a1).2).2).2 (by omega) (by omega)
  have q8 := VP a0.ZC (ZB a0.Z5 (Zt a0.Zx (Zh a0.Frame a1).2).2).2 (by omega) (by omega)
  have o8 : ¬ (Zu a0.ZC (ZB a0.Z5 (Zt a0.Zx (Zh a0.Frame a1).2).2).2).2 < 0 := by omega
  obtain ⟨m11, n11, h11⟩ := Jv a0.Yz (Zu a0.ZC (ZB a0.Z5 (Zt a0.Zx (Zh a0.Frame a1).2).2).2).2 (by omega) (by omega)
  have q11 := XQ a0.Yz (Zu a0.ZC (ZB a0.Z5 (Zt a0.Zx (Zh a0.Frame a1).2).2).2).2 (by omega) (by omega)
  have o11 : ¬ (ZB a0.Yz (Zu a0.ZC (ZB a0.Z5 (Zt a0.Zx (Zh a0.Frame a1).2).2).2).2).2 < 0 := by omega
  obtain ⟨m14, n14, h14⟩ := Jv a0.YX (ZB a0.Yz (Zu a0.ZC (ZB a0.Z5 (Zt a0.Zx (Zh a0.Frame a1).2).2).2).2).2 (by omega) (by omega)
  have q14 := XQ a0.YX (ZB a0.Yz (Zu a0.ZC (ZB a0.Z5 (Zt a0.Zx (Zh a0.Frame a1).2).2).2).2).2 (by omega) (by omega)
  have o14 : ¬ (ZB a0.YX (ZB a0.Yz (Zu a0.ZC (ZB a0.Z5 (Zt a0.Zx (Zh a0.Frame a1).2).2).2).2).2).2 < 0 := by omega
  obtain ⟨m17, n17, h17⟩ := Jv a0.YT (ZB a0.YX (ZB a0.Yz (Zu a0.ZC (ZB a0.Z5 (Zt a0.Zx (Zh a0.Frame a1).2).2).2).2).2).2 (by omega) (by omega)
  have q17 := XQ a0.YT (ZB a0.YX (ZB a0.Yz (Zu a0.ZC (ZB a0.Z5 (Zt a0.Zx (Zh a0.Frame a1).2).2).2).2).2).2 (by omega) (by omega)
  have o17 : ¬ (ZB a0.YT (ZB a0.YX (ZB a0.Yz (Zu a0.ZC (ZB a0.Z5 (Zt a0.Zx (Zh a0.Frame a1).2).2).2).2).2).2).2 < 0 := by omega
  refine ⟨by simp only [Zn]; omega, by simp only [Zn]; omega, ?_⟩
  simp [Zn, Ja, h0, h2, h5, h8, h11, h14, h17, o0, o2, o5, o8, o11, o14, o17]
theorem Rh {n : Nat} {x : ZX} (h : 5 ≤ n) : Sm n (X9 x) := ⟨by simp [X9]; omega, fun _ _ => trivial⟩
@[simp] theorem FC (x : ZX) : (X9 x).length = 5 := rfl
theorem Ps {n : Nat} {x : ZX} (h : 5 ≤ n) : Sm n (Xs x) := ⟨by simp [Xs]; omega, fun _ _ => trivial⟩
@[simp] theorem FI (x : ZX) : (Xs x).length = 5 := rfl
theorem TE {a : ZT} (h : Ji a = true) : a.ZG.length = a.ZE.length := by
  unfold Ji at h
  split at h
  · rename_i r e
    have : ∀ n v, JH a n v ≠ .inl true := by
      intro n
      induction n with
      | zero => intro v h; cases h
      | succ n ih =>
        intro v h
        rw [JH] at h
        generalize decide ((v : Int) < (a.ZE.length : Int)) = c1 at h
        cases c1 with
        | false => cases h
        | true =>
          simp only [cond_true] at h
          generalize decide (((nth a.ZE v).size : Int) > 40) = c2 at h
          cases c2 with
          | true => cases h
          | false => exact ih _ h
    subst h; exact absurd e (this _ _)
  · split at h
    · rename_i r e
      have : ∀ n v, JD a n v ≠ .inl true := by
        intro n
        induction n with
        | zero => intro v h; cases h
        | succ n ih =>
          intro v h
          rw [JD] at h
          generalize decide ((v : Int) < (a.ZG.length : Int)) = c1 at h
          cases c1 with
          | false => cases h
          | true =>
            simp only [cond_true] at h
            generalize (!Xe (nth a.ZG v) 1 1000000000000) = c2 at h
            cases c2 with
            | true => cases h
            | false => exact ih _ h
      subst h; exact absurd e (this _ _)
    · simp only [Bool.and_eq_true, beq_iff_eq] at h; omega
theorem TF {a : ZT} (h : Jj a = true) : a.ZG.length = a.ZE.length := by
  unfold Jj at h
  generalize (match JA a (a.ZE.length + 1) 0 with | .inl r1 => r1 | .inr _ => true) = m at h
  by_cases hh : a.ZG.length = a.ZE.length
  · exact hh
  · rw [show ((a.ZG.length : Int) != (a.ZE.length : Int)) = true by simp; omega] at h
    simp at h
theorem Qf (a0 : Zc) (a1 : Int) (h : 0 ≤ (ZW a0 a1).1) : (ZW a0 a1).1.toNat < a0.ZC.length ∧ 0 ≤ (ZW a0 a1).2 ∧ (ZW a0 a1).2.toNat < (nth a0.ZC (ZW a0 a1).1.toNat).ZS.length := by
  have key : ∀ n v r, KB a0 a1 n v = .inl r → r.1.toNat < a0.ZC.length ∧ 0 ≤ r.2 ∧ r.2.toNat < (nth a0.ZC r.1.toNat).ZS.length := by
    intro n
    induction n with
    | zero => intro v r h; cases h
    | succ n ih =>
      intro v r h
      rw [KB] at h
      cases h1 : decide ((v : Int) < (a0.ZC.length : Int)) with
      | false => rw [h1] at h; cases h
      | true =>
        rw [h1] at h
        simp only [cond_true] at h
        cases h2 : decide (J4 (nth a0.ZC v) a1 ≥ 0) with
        | false => rw [h2] at h; exact ih _ _ h
        | true =>
          rw [h2] at h; cases h
          simp at h1 h2
          have := O3 (nth a0.ZC v) a1
          simp only [Int.toNat_natCast]
          exact ⟨h1, h2, by omega⟩
  unfold ZW at h ⊢
  cases hh : KB a0 a1 (a0.ZC.length + 1) 0 with
  | inl r => rw [hh] at h; exact key _ _ r hh
  | inr u => rw [hh] at h; simp at h
theorem xN (a0 : Zc) (a1 : Int) (h : 0 ≤ (ZN a0 a1).1) : (ZN a0 a1).1.toNat < a0.ZC.length ∧ 0 ≤ (ZN a0 a1).2 ∧ (ZN a0 a1).2.toNat < (nth a0.ZC (ZN a0 a1).1.toNat).ZS.length := by
  have key : ∀ n v r, KJ a0 a1 n v = .inl r → r.1.toNat < a0.ZC.length ∧ 0 ≤ r.2 ∧ r.2.toNat < (nth a0.ZC r.1.toNat).ZS.length := by
    intro n
    induction n with
    | zero => intro v r h; cases h
    | succ n ih =>
      intro v r h
      rw [KJ] at h
      cases h1 : decide ((v : Int) < (a0.ZC.length : Int)) with
      | false => rw [h1] at h; cases h
      | true =>
        rw [h1] at h
        simp only [cond_true] at h
        cases h2 : decide (KG (nth a0.ZC v) a1 ≥ 0) with
        | false => rw [h2] at h; exact ih _ _ h
        | true =>
          rw [h2] at h; cases h
          simp at h1 h2
          have := NH (nth a0.ZC v) a1
          simp only [Int.toNat_natCast]
          exact ⟨h1, h2, by omega⟩
  unfold ZN at h ⊢
  cases hh : KJ a0 a1 (a0.ZC.length + 1) 0 with
  | inl r => rw [hh] at h; exact key _ _ r hh
  | inr u => rw [hh] at h; simp at h
theorem Jm {a : Int} {n : Nat} (hn : n ≤ 9223372036854775807) (h : Xe a 0 (W ((n : Int) - 1)) = true) : 0 ≤ a ∧ a < n := by
  rw [F0 n hn] at h
  simp only [Xe, Bool.and_eq_true, decide_eq_true_eq] at h; omega
@[simp] theorem EW (l : List UInt8) : (z3 l).length = l.length := by
  have key : ∀ n (acc : List Int) v, l.length < n + v → v ≤ l.length → (J7 l n acc v).length = acc.length + (l.length - v) := by
    intro n
    induction n with
    | zero => intro acc v h1 h2; omega
    | succ n ih =>
      intro acc v h1 h2
      rw [J7]
      by_cases hv : v < l.length
      · rw [show decide ((v : Int) < (l.length : Int)) = true by simpa using hv, cond_true, ih _ (v + 1) (by omega) (by omega)]
        simp; omega
      · rw [show decide ((v : Int) < (l.length : Int)) = false by simpa using hv, cond_false]; omega
  have := key (l.length + 1) [] 0 (by omega) (by omega)
  simpa [z3] using this
theorem Kp {n : Nat} {a0 : ZY} {a1 : ZT} (h : Sm n a0) : Sm n (Xi a0 a1) := by
  have key : ∀ n (acc : List Int) v, a0.ZV.length < n + v → v ≤ a0.ZV.length → (JS a0 a1 n acc v).length = acc.length + (a0.ZV.length - v) := by
    intro n
    induction n with
    | zero => intro acc v h1 h2; omega
    | succ n ih =>
      intro acc v h1 h2
      rw [JS]
      by_cases hv : v < a0.ZV.length
      · rw [show decide ((v : Int) < (a0.ZV.length : Int)) = true by simpa using hv, cond_true, ih _ (v + 1) (by omega) (by omega)]
        simp; omega
      · rw [show decide ((v : Int) < (a0.ZV.length : Int)) = false by simpa using hv, cond_false]; omega
  have h2 := key (a0.ZV.length + 1) [] 0 (by omega) (by omega)
  have h3 := JQ (ZY.yp h)
  refine ⟨?_, fun _ _ => trivial⟩
  unfold Xi
  simp only [List.length_nil, Nat.zero_add, Nat.sub_zero] at h2
  rw [h2]; exact h3
theorem Ku (a0 : ZH) (a1 : Int) : (Yc a0 a1).length = a0.ZS.length := by
  have key : ∀ n v i, i ≤ a0.ZS.length → a0.ZS.length < n + i → (Jr a0 a1 n v i).length = v.length + (a0.ZS.length - i) := by
    intro n
    induction n with
    | zero => intro v i h0 h; omega
    | succ n ih =>
      intro v i h0 h
      rw [Jr]
      by_cases hc : (i : Int) < (a0.ZS.length : Int)
      · simp only [decide_eq_true hc, cond_true]
        rw [ih _ _ (by omega) (by omega)]
        simp
        omega
      · simp only [decide_eq_false hc, cond_false]
        omega
  have := key (a0.ZS.length + 1) [] 0 (by omega) (by omega)
  exact this.trans (by simp)
theorem X6 (a0 : Zc) : (Zo a0).length ≤ a0.Frame.ZL.length := by
  have e := Rl (F := Ym a0) (fun _ _ => rfl) (fun _ _ _ => rfl) (a0.Frame.ZL.length + 1) [] 0
  have : (Zo a0).length ≤ 0 + (a0.Frame.ZL.length - 0) := e
  omega
theorem Jf (a0 : Zc) : (Z7 a0).length ≤ a0.Frame.ZL.length := by
  have e := Rl (F := Y2 a0) (fun _ _ => rfl) (fun _ _ _ => rfl) (a0.Frame.ZL.length + 1) [] 0
  have : (Z7 a0).length ≤ 0 + (a0.Frame.ZL.length - 0) := e
  omega
end Go.Mo
