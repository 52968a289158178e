/- Plain lemmas on the models of the helpers. No condition. -/
import Derived.Test.YtjflhdkeibijaaaGreatM
namespace Go.Mo
open Go.Vm
set_option linter.unusedSimpArgs false
set_option linter.unusedVariables false
theorem H4 : xx Xx := WH (fun _ _ => trivial) (fun _ _ => rfl)
theorem HR : qH Xx 0 := WB (fun _ => Nat.le_of_ble_eq_true rfl) (fun _ _ => rfl)
theorem TN : xx Y9 := WH (fun _ _ => trivial) (fun _ _ => rfl)
theorem Uz : qH Y9 0 := WB (fun _ => Nat.le_of_ble_eq_true rfl) (fun _ _ => rfl)
theorem Oy : xx J0 := WH (fun _ _ => trivial) (fun _ _ => rfl)
theorem OT : qH J0 0 := WB (fun _ => Nat.le_of_ble_eq_true rfl) (fun _ _ => rfl)
theorem IT : xx Z2 := by
  intro a0 a1 hm h0 hn h
  unfold Z2 at h ⊢
  by_cases c0 : (Xx a0.YV a1) < 0
  · simp [c0] at h
  obtain ⟨s0, t0⟩ := H4 a0.YV a1 (by simp [hm]) (by omega) (by omega) c0
  by_cases c1 : (Y9 a0.ZC (Xx a0.YV a1)) < 0
  · simp [c1, c0] at h
  obtain ⟨s1, t1⟩ := TN a0.ZC (Xx a0.YV a1) (by simp [hm]) (by omega) (by omega) c1
  by_cases c2 : (J0 a0.Methods (Y9 a0.ZC (Xx a0.YV a1))) < 0
  · simp [c2, c0, c1] at h
  obtain ⟨s2, t2⟩ := Oy a0.Methods (Y9 a0.ZC (Xx a0.YV a1)) (by simp [hm]) (by omega) (by omega) c2
  simp only [c0, c1, c2, decide_false, cond_false] at h ⊢
  exact ⟨⟨s0, s1, s2⟩, t2⟩
theorem IS : qH Z2 2 := by
  intro a0 a1 hm h0 hn h
  unfold Z2 at h ⊢
  by_cases c0 : (Xx a0.YV a1) < 0
  · simp [c0] at h
  obtain ⟨s0, t0⟩ := HR a0.YV a1 (by simp [hm]) (by omega) (by omega) c0
  by_cases c1 : (Y9 a0.ZC (Xx a0.YV a1)) < 0
  · simp [c1, c0] at h
  obtain ⟨s1, t1⟩ := Uz a0.ZC (Xx a0.YV a1) (by simp [hm]) (by omega) (by omega) c1
  by_cases c2 : (J0 a0.Methods (Y9 a0.ZC (Xx a0.YV a1))) < 0
  · simp [c2, c0, c1] at h
  obtain ⟨s2, t2⟩ := OT a0.Methods (Y9 a0.ZC (Xx a0.YV a1)) (by simp [hm]) (by omega) (by omega) c2
  simp only [c0, c1, c2, decide_false, cond_false] at h ⊢
  simp only [XL, XC, XW, YF.Yn]
  omega
theorem IH : xx YL := WH (fun _ _ => trivial) (fun _ _ => rfl)
theorem IM : qH YL 0 := WB (fun _ => Nat.le_of_ble_eq_true rfl) (fun _ _ => rfl)
theorem z4 : xx Zm := WH (fun _ _ => trivial) (fun _ _ => rfl)
theorem zo : qH Zm 0 := WB (fun _ => Nat.le_of_ble_eq_true rfl) (fun _ _ => rfl)
theorem Pk : xx Xi := Tb F3 (G := zJ) (fun _ _ _ _ => rfl) (fun _ _ => rfl)
theorem P2 : qH Xi 0 := T1 Fz (by decide) (G := zJ) (fun _ _ _ _ => rfl) (fun _ _ => rfl)
theorem Rn : xx XF := by
  intro a0 a1 hm h0 hn h
  unfold XF at h ⊢
  by_cases c0 : (Xi a0.ZE a1) < 0
  · simp [c0] at h
  obtain ⟨s0, t0⟩ := Pk a0.ZE a1 (by simp [hm]) (by omega) (by omega) c0
  by_cases c1 : (Zm a0.ZH (Xi a0.ZE a1)) < 0
  · simp [c1, c0] at h
  obtain ⟨s1, t1⟩ := z4 a0.ZH (Xi a0.ZE a1) (by simp [hm]) (by omega) (by omega) c1
  simp only [c0, c1, decide_false, cond_false] at h ⊢
  exact ⟨⟨s0, s1⟩, t1⟩
theorem RU : qH XF 1 := by
  intro a0 a1 hm h0 hn h
  unfold XF at h ⊢
  by_cases c0 : (Xi a0.ZE a1) < 0
  · simp [c0] at h
  obtain ⟨s0, t0⟩ := P2 a0.ZE a1 (by simp [hm]) (by omega) (by omega) c0
  by_cases c1 : (Zm a0.ZH (Xi a0.ZE a1)) < 0
  · simp [c1, c0] at h
  obtain ⟨s1, t1⟩ := zo a0.ZH (Xi a0.ZE a1) (by simp [hm]) (by omega) (by omega) c1
  simp only [c0, c1, decide_false, cond_false] at h ⊢
  simp only [XL, XC, XW, ZV.Yn]
  omega
theorem Lk : xx z5 := by
  intro a0 a1 hm h0 hn h
  unfold z5 at h ⊢
  by_cases c0 : (Zm a0.Y7 a1) < 0
  · simp [c0] at h
  obtain ⟨s0, t0⟩ := z4 a0.Y7 a1 (by simp [hm]) (by omega) (by omega) c0
  simp only [c0, decide_false, cond_false] at h ⊢
  exact ⟨s0, t0⟩
theorem L6 : qH z5 2 := by
  intro a0 a1 hm h0 hn h
  unfold z5 at h ⊢
  by_cases c0 : (Zm a0.Y7 a1) < 0
  · simp [c0] at h
  obtain ⟨s0, t0⟩ := zo a0.Y7 a1 (by simp [hm]) (by omega) (by omega) c0
  simp only [c0, decide_false, cond_false] at h ⊢
  simp only [XL, XC, XW, ZN.Yn]
  omega
theorem MY : xx X1 := Tb Lk (G := yQ) (fun _ _ _ _ => rfl) (fun _ _ => rfl)
theorem N2 : qH X1 0 := T1 L6 (by decide) (G := yQ) (fun _ _ _ _ => rfl) (fun _ _ => rfl)
theorem Lf : xx QR := WH (fun _ _ => trivial) (fun _ _ => rfl)
theorem Ls : qH QR 0 := WB (fun _ => Nat.le_of_ble_eq_true rfl) (fun _ _ => rfl)
theorem Nv : xx Kn := WH (fun _ _ => trivial) (fun _ _ => rfl)
theorem Nl : qH Kn 0 := WB (fun _ => Nat.le_of_ble_eq_true rfl) (fun _ _ => rfl)
theorem Pw : xx J3 := by
  intro a0 a1 hm h0 hn h
  unfold J3 at h ⊢
  by_cases c0 : (QR a0.Path a1) < 0
  · simp [c0] at h
  obtain ⟨s0, t0⟩ := Lf a0.Path a1 (by simp [hm]) (by omega) (by omega) c0
  by_cases c1 : (Kn a0.Zx (QR a0.Path a1)) < 0
  · simp [c1, c0] at h
  obtain ⟨s1, t1⟩ := Nv a0.Zx (QR a0.Path a1) (by simp [hm]) (by omega) (by omega) c1
  simp only [c0, c1, decide_false, cond_false] at h ⊢
  exact ⟨⟨s0, s1⟩, t1⟩
theorem OY : qH J3 3 := by
  intro a0 a1 hm h0 hn h
  unfold J3 at h ⊢
  by_cases c0 : (QR a0.Path a1) < 0
  · simp [c0] at h
  obtain ⟨s0, t0⟩ := Ls a0.Path a1 (by simp [hm]) (by omega) (by omega) c0
  by_cases c1 : (Kn a0.Zx (QR a0.Path a1)) < 0
  · simp [c1, c0] at h
  obtain ⟨s1, t1⟩ := Nl a0.Zx (QR a0.Path a1) (by simp [hm]) (by omega) (by omega) c1
  simp only [c0, c1, decide_false, cond_false] at h ⊢
  simp only [XL, XC, XW, ZG.Yn]
  omega
theorem R9 : xx JK := Tb Pw (G := KY) (fun _ _ _ _ => rfl) (fun _ _ => rfl)
theorem PQ : qH JK 0 := T1 OY (by decide) (G := KY) (fun _ _ _ _ => rfl) (fun _ _ => rfl)
theorem MD : xx Jg := by
  intro a0 a1 hm h0 hn h
  unfold Jg at h ⊢
  by_cases c0 : (X1 a0.ZO a1) < 0
  · simp [c0] at h
  obtain ⟨s0, t0⟩ := MY a0.ZO a1 (by simp [hm]) (by omega) (by omega) c0
  by_cases c1 : (JK a0.ZX (X1 a0.ZO a1)) < 0
  · simp [c1, c0] at h
  obtain ⟨s1, t1⟩ := R9 a0.ZX (X1 a0.ZO a1) (by simp [hm]) (by omega) (by omega) c1
  simp only [c0, c1, decide_false, cond_false] at h ⊢
  exact ⟨⟨s0, s1⟩, t1⟩
theorem MS : qH Jg 0 := by
  intro a0 a1 hm h0 hn h
  unfold Jg at h ⊢
  by_cases c0 : (X1 a0.ZO a1) < 0
  · simp [c0] at h
  obtain ⟨s0, t0⟩ := N2 a0.ZO a1 (by simp [hm]) (by omega) (by omega) c0
  by_cases c1 : (JK a0.ZX (X1 a0.ZO a1)) < 0
  · simp [c1, c0] at h
  obtain ⟨s1, t1⟩ := PQ a0.ZX (X1 a0.ZO a1) (by simp [hm]) (by omega) (by omega) c1
  simp only [c0, c1, decide_false, cond_false] at h ⊢
  simp only [XL, XC, XW, Za.Yn]
  omega
theorem H8 : xx xh := by
  intro a0 a1 hm h0 hn h
  unfold xh at h ⊢
  by_cases c0 : (XF a0.Doc a1) < 0
  · simp [c0] at h
  obtain ⟨s0, t0⟩ := Rn a0.Doc a1 (by simp [hm]) (by omega) (by omega) c0
  by_cases c1 : (Jg a0.ZL (XF a0.Doc a1)) < 0
  · simp [c1, c0] at h
  obtain ⟨s1, t1⟩ := MD a0.ZL (XF a0.Doc a1) (by simp [hm]) (by omega) (by omega) c1
  simp only [c0, c1, decide_false, cond_false] at h ⊢
  exact ⟨⟨s0, s1⟩, t1⟩
theorem GD : qH xh 12 := by
  intro a0 a1 hm h0 hn h
  unfold xh at h ⊢
  by_cases c0 : (XF a0.Doc a1) < 0
  · simp [c0] at h
  obtain ⟨s0, t0⟩ := RU a0.Doc a1 (by simp [hm]) (by omega) (by omega) c0
  by_cases c1 : (Jg a0.ZL (XF a0.Doc a1)) < 0
  · simp [c1, c0] at h
  obtain ⟨s1, t1⟩ := MS a0.ZL (XF a0.Doc a1) (by simp [hm]) (by omega) (by omega) c1
  simp only [c0, c1, decide_false, cond_false] at h ⊢
  simp only [XL, XC, XW, ZY.Yn, Zh.Yn]
  omega
theorem Ij : xx zu := Tb H8 (G := xi) (fun _ _ _ _ => rfl) (fun _ _ => rfl)
theorem Ln : qH zu 0 := T1 GD (by decide) (G := xi) (fun _ _ _ _ => rfl) (fun _ _ => rfl)
theorem ND : xx Jy := by
  intro a0 a1 hm h0 hn h
  unfold Jy at h ⊢
  by_cases c0 : (zu a0.ZM a1) < 0
  · simp [c0] at h
  obtain ⟨s0, t0⟩ := Ij a0.ZM a1 (by simp [hm]) (by omega) (by omega) c0
  simp only [c0, decide_false, cond_false] at h ⊢
  exact ⟨s0, t0⟩
theorem Oj : qH Jy 1 := by
  intro a0 a1 hm h0 hn h
  unfold Jy at h ⊢
  by_cases c0 : (zu a0.ZM a1) < 0
  · simp [c0] at h
  obtain ⟨s0, t0⟩ := Ln a0.ZM a1 (by simp [hm]) (by omega) (by omega) c0
  simp only [c0, decide_false, cond_false] at h ⊢
  simp only [XL, XC, XW, ZF.Yn]
  omega
theorem PM : xx YN := Tb ND (G := Ke) (fun _ _ _ _ => rfl) (fun _ _ => rfl)
theorem Rr : qH YN 0 := T1 Oj (by decide) (G := Ke) (fun _ _ _ _ => rfl) (fun _ _ => rfl)
theorem qe : xx KM := by
  intro a0 a1 hm h0 hn h
  unfold KM at h ⊢
  by_cases c0 : (Z2 a0.Frame a1) < 0
  · simp [c0] at h
  obtain ⟨s0, t0⟩ := IT a0.Frame a1 (by simp [hm]) (by omega) (by omega) c0
  by_cases c1 : (YL a0.Zy (Z2 a0.Frame a1)) < 0
  · simp [c1, c0] at h
  obtain ⟨s1, t1⟩ := IH a0.Zy (Z2 a0.Frame a1) (by simp [hm]) (by omega) (by omega) c1
  by_cases c2 : (Zm a0.Z3 (YL a0.Zy (Z2 a0.Frame a1))) < 0
  · simp [c2, c0, c1] at h
  obtain ⟨s2, t2⟩ := z4 a0.Z3 (YL a0.Zy (Z2 a0.Frame a1)) (by simp [hm]) (by omega) (by omega) c2
  by_cases c3 : (YN a0.ZI (Zm a0.Z3 (YL a0.Zy (Z2 a0.Frame a1)))) < 0
  · simp [c3, c0, c1, c2] at h
  obtain ⟨s3, t3⟩ := PM a0.ZI (Zm a0.Z3 (YL a0.Zy (Z2 a0.Frame a1))) (by simp [hm]) (by omega) (by omega) c3
  by_cases c4 : (Zm a0.YZ (YN a0.ZI (Zm a0.Z3 (YL a0.Zy (Z2 a0.Frame a1))))) < 0
  · simp [c4, c0, c1, c2, c3] at h
  obtain ⟨s4, t4⟩ := z4 a0.YZ (YN a0.ZI (Zm a0.Z3 (YL a0.Zy (Z2 a0.Frame a1)))) (by simp [hm]) (by omega) (by omega) c4
  by_cases c5 : (Zm a0.Yl (Zm a0.YZ (YN a0.ZI (Zm a0.Z3 (YL a0.Zy (Z2 a0.Frame a1)))))) < 0
  · simp [c5, c0, c1, c2, c3, c4] at h
  obtain ⟨s5, t5⟩ := z4 a0.Yl (Zm a0.YZ (YN a0.ZI (Zm a0.Z3 (YL a0.Zy (Z2 a0.Frame a1))))) (by simp [hm]) (by omega) (by omega) c5
  by_cases c6 : (Zm a0.Ym (Zm a0.Yl (Zm a0.YZ (YN a0.ZI (Zm a0.Z3 (YL a0.Zy (Z2 a0.Frame a1))))))) < 0
  · simp [c6, c0, c1, c2, c3, c4, c5] at h
  obtain ⟨s6, t6⟩ := z4 a0.Ym (Zm a0.Yl (Zm a0.YZ (YN a0.ZI (Zm a0.Z3 (YL a0.Zy (Z2 a0.Frame a1)))))) (by simp [hm]) (by omega) (by omega) c6
  simp only [c0, c1, c2, c3, c4, c5, c6, decide_false, cond_false] at h ⊢
  exact ⟨⟨s0, s1, s2, s3, s4, s5, s6⟩, t6⟩
theorem TC : qH KM 3 := by
  intro a0 a1 hm h0 hn h
  unfold KM at h ⊢
  by_cases c0 : (Z2 a0.Frame a1) < 0
  · simp [c0] at h
  obtain ⟨s0, t0⟩ := IS a0.Frame a1 (by simp [hm]) (by omega) (by omega) c0
  by_cases c1 : (YL a0.Zy (Z2 a0.Frame a1)) < 0
  · simp [c1, c0] at h
  obtain ⟨s1, t1⟩ := IM a0.Zy (Z2 a0.Frame a1) (by simp [hm]) (by omega) (by omega) c1
  by_cases c2 : (Zm a0.Z3 (YL a0.Zy (Z2 a0.Frame a1))) < 0
  · simp [c2, c0, c1] at h
  obtain ⟨s2, t2⟩ := zo a0.Z3 (YL a0.Zy (Z2 a0.Frame a1)) (by simp [hm]) (by omega) (by omega) c2
  by_cases c3 : (YN a0.ZI (Zm a0.Z3 (YL a0.Zy (Z2 a0.Frame a1)))) < 0
  · simp [c3, c0, c1, c2] at h
  obtain ⟨s3, t3⟩ := Rr a0.ZI (Zm a0.Z3 (YL a0.Zy (Z2 a0.Frame a1))) (by simp [hm]) (by omega) (by omega) c3
  by_cases c4 : (Zm a0.YZ (YN a0.ZI (Zm a0.Z3 (YL a0.Zy (Z2 a0.Frame a1))))) < 0
  · simp [c4, c0, c1, c2, c3] at h
  obtain ⟨s4, t4⟩ := zo a0.YZ (YN a0.ZI (Zm a0.Z3 (YL a0.Zy (Z2 a0.Frame a1)))) (by simp [hm]) (by omega) (by omega) c4
  by_cases c5 : (Zm a0.Yl (Zm a0.YZ (YN a0.ZI (Zm a0.Z3 (YL a0.Zy (Z2 a0.Frame a1)))))) < 0
  · simp [c5, c0, c1, c2, c3, c4] at h
  obtain ⟨s5, t5⟩ := zo a0.Yl (Zm a0.YZ (YN a0.ZI (Zm a0.Z3 (YL a0.Zy (Z2 a0.Frame a1))))) (by simp [hm]) (by omega) (by omega) c5
  by_cases c6 : (Zm a0.Ym (Zm a0.Yl (Zm a0.YZ (YN a0.ZI (Zm a0.Z3 (YL a0.Zy (Z2 a0.Frame a1))))))) < 0
  · simp [c6, c0, c1, c2, c3, c4, c5] at h
  obtain ⟨s6, t6⟩ := zo a0.Ym (Zm a0.Yl (Zm a0.YZ (YN a0.ZI (Zm a0.Z3 (YL a0.Zy (Z2 a0.Frame a1)))))) (by simp [hm]) (by omega) (by omega) c6
  simp only [c0, c1, c2, c3, c4, c5, c6, decide_false, cond_false] at h ⊢
  simp only [XL, XC, XW, ZZ.Yn]
  omega
theorem Y6 (a0 : YG) : PW a0 = a0 := by cases a0; simp [PW]
theorem Yt (a0 : List YG) : NQ a0 = a0 := zZ (F := WZ a0) (g := (fun x => x)) (fun _ => rfl) (fun _ _ _ => rfl) _ 0 _ (by simp) (by omega) (by omega) (fun j h => by omega)
theorem Z4 (a0 : ZJ) : xe a0 = a0 := by cases a0; simp [xe]
theorem Zz (a0 : List ZJ) : jF a0 = a0 := zZ (F := K5 a0) (g := (fun x => x)) (fun _ => rfl) (fun _ _ _ => rfl) _ 0 _ (by simp) (by omega) (by omega) (fun j h => by omega)
theorem YS (a0 : Zc) : WY a0 = a0 := by cases a0; simp [WY]
theorem YH (a0 : List Zc) : VB a0 = a0 := zZ (F := xb a0) (g := (fun x => x)) (fun _ => rfl) (fun _ _ _ => rfl) _ 0 _ (by simp) (by omega) (by omega) (fun j h => by omega)
theorem Yg (a0 : YF) : V5 a0 = a0 := by cases a0; simp [V5]
theorem Yq (a0 : Z0) : Tn a0 = a0 := by cases a0; simp [Tn]
theorem Yd (a0 : List Z0) : SE a0 = a0 := zZ (F := je a0) (g := (fun x => x)) (fun _ => rfl) (fun _ _ _ => rfl) _ 0 _ (by simp) (by omega) (by omega) (fun j h => by omega)
theorem Yr (a0 : List Int) : O9 a0 = a0 := zZ (F := We a0) (g := (fun x => x)) (fun _ => rfl) (fun _ _ _ => rfl) _ 0 _ (by simp) (by omega) (by omega) (fun j h => by omega)
theorem YK (a0 : List ByteArray) : VV a0 = a0 := zZ (F := xa a0) (g := (fun x => x)) (fun _ => rfl) (fun _ _ _ => rfl) _ 0 _ (by simp) (by omega) (by omega) (fun j h => by omega)
theorem YB (a0 : ZV) : qP a0 = a0 := by cases a0; simp [qP]
theorem Z5 (a0 : Zh) : xP a0 = a0 := by cases a0; simp [xP]
theorem Yi (a0 : ZN) : Vs a0 = a0 := by cases a0; simp [Vs]
theorem YR (a0 : List ZN) : UU a0 = a0 := zZ (F := qV a0) (g := (fun x => x)) (fun _ => rfl) (fun _ _ _ => rfl) _ 0 _ (by simp) (by omega) (by omega) (fun j h => by omega)
theorem Yp (a0 : Zk) : Ty a0 = a0 := by cases a0; simp [Ty]
theorem Yh (a0 : List Zk) : T4 a0 = a0 := zZ (F := jl a0) (g := (fun x => x)) (fun _ => rfl) (fun _ _ _ => rfl) _ 0 _ (by simp) (by omega) (by omega) (fun j h => by omega)
theorem Yf (a0 : ZQ) : V4 a0 = a0 := by cases a0; simp [V4]
theorem YU (a0 : List ZQ) : UY a0 = a0 := zZ (F := qR a0) (g := (fun x => x)) (fun _ => rfl) (fun _ _ _ => rfl) _ 0 _ (by simp) (by omega) (by omega) (fun j h => by omega)
theorem YJ (a0 : ZG) : jf a0 = a0 := by cases a0; simp [jf]
theorem Z9 (a0 : List ZG) : kn a0 = a0 := zZ (F := yd a0) (g := (fun x => x)) (fun _ => rfl) (fun _ _ _ => rfl) _ 0 _ (by simp) (by omega) (by omega) (fun j h => by omega)
theorem YT (a0 : Za) : kx a0 = a0 := by cases a0; simp [kx]
theorem Yo (a0 : ZY) : U6 a0 = a0 := by cases a0; simp [U6]
theorem Ye (a0 : List ZY) : Sw a0 = a0 := zZ (F := jZ a0) (g := (fun x => x)) (fun _ => rfl) (fun _ _ _ => rfl) _ 0 _ (by simp) (by omega) (by omega) (fun j h => by omega)
theorem YI (a0 : ZF) : jd a0 = a0 := by cases a0; simp [jd]
theorem YA (a0 : List ZF) : ky a0 = a0 := zZ (F := yJ a0) (g := (fun x => x)) (fun _ => rfl) (fun _ _ _ => rfl) _ 0 _ (by simp) (by omega) (by omega) (fun j h => by omega)
theorem Yc (a0 : ZZ) : Vt a0 = a0 := by cases a0; simp [Vt]
theorem Ng (a0 : YF) : Uq a0 = a0 := rfl
theorem Hf (a0 : ZV) : Pf a0 = a0 := rfl
theorem IN (a0 : ZN) : SZ a0 = a0 := rfl
theorem GU (a0 : List ZN) : TD a0 = a0 := by
  have h := z8 (F := (WX a0)) (a := a0) (g := (fun x => x)) (fun _ => rfl) (fun _ _ _ => rfl) (a0.length + 1) [] 0 (by omega) (by omega)
  simp only [List.nil_append, List.drop_zero] at h
  unfold TD
  rw [h]
theorem LY (a0 : ZG) : Sh a0 = a0 := rfl
theorem LU (a0 : Za) : Vw a0 = a0 := by
  have h := z8 (F := (fun n v i => ji a0 n i v)) (a := a0.ZX) (g := (fun x => x)) (fun _ => rfl) (fun _ _ _ => rfl) (a0.ZX.length + 1) [] 0 (by omega) (by omega)
  simp only [List.nil_append, List.drop_zero] at h
  unfold Vw
  rw [h]
theorem LV (a0 : ZY) : Se a0 = a0 := rfl
theorem LQ (a0 : ZF) : V2 a0 = a0 := by
  have h := z8 (F := (fun n v i => jm a0 n i v)) (a := a0.ZM) (g := (fun x => x)) (fun _ => rfl) (fun _ _ _ => rfl) (a0.ZM.length + 1) [] 0 (by omega) (by omega)
  simp only [List.nil_append, List.drop_zero] at h
  unfold V2
  rw [h]
theorem Lg (a0 : ZZ) : Vz a0 = a0 := by
  have h := z8 (F := (fun n v i => jj a0 n i v)) (a := a0.ZI) (g := (fun x => x)) (fun _ => rfl) (fun _ _ _ => rfl) (a0.ZI.length + 1) [] 0 (by omega) (by omega)
  simp only [List.nil_append, List.drop_zero] at h
  unfold Vz
  rw [h]
theorem Na (a0 : YF) : Vj a0 = a0 := rfl
theorem Nz (a0 : List Int) : UW a0 = a0 := rfl
theorem Tu (a0 : ZV) : jP a0 = a0 := rfl
theorem NB (a0 : ZN) : VS a0 = a0 := rfl
theorem Rw (a0 : List ZN) : qa a0 = a0 := by
  have h := z8 (F := (yp a0)) (a := a0) (g := (fun x => x)) (fun _ => rfl) (fun _ _ _ => rfl) (a0.length + 1) [] 0 (by omega) (by omega)
  simp only [List.nil_append, List.drop_zero] at h
  unfold qa
  rw [h]
theorem Rf (a0 : List ZQ) : WJ a0 = a0 := rfl
theorem T8 (a0 : ZG) : kA a0 = a0 := rfl
theorem PI (a0 : Za) : qT a0 = a0 := by
  have h := z8 (F := (fun n v i => yD a0 n i v)) (a := a0.ZX) (g := (fun x => x)) (fun _ => rfl) (fun _ _ _ => rfl) (a0.ZX.length + 1) [] 0 (by omega) (by omega)
  simp only [List.nil_append, List.drop_zero] at h
  unfold qT
  rw [h]
theorem Nh (a0 : ZY) : Ul a0 = a0 := rfl
theorem Sb (a0 : ZF) : xf a0 = a0 := by
  have h := z8 (F := (fun n v i => zX a0 n i v)) (a := a0.ZM) (g := (fun x => x)) (fun _ => rfl) (fun _ _ _ => rfl) (a0.ZM.length + 1) [] 0 (by omega) (by omega)
  simp only [List.nil_append, List.drop_zero] at h
  unfold xf
  rw [h]
theorem NV (a0 : ZZ) : js a0 = a0 := by
  have h := z8 (F := (fun n v i => xU a0 n i v)) (a := a0.ZI) (g := (fun x => x)) (fun _ => rfl) (fun _ _ _ => rfl) (a0.ZI.length + 1) [] 0 (by omega) (by omega)
  simp only [List.nil_append, List.drop_zero] at h
  unfold js
  rw [h]
theorem Wd (a0 : YG) : Vy a0 a0 = true := by simp [Vy]
theorem jt (a0 : List YG) : VP a0 a0 = true := by
  unfold VP
  rw [zW (F := Wc a0 a0) (L := a0.length) (c := fun v1_0 => (!(Vy (nth a0 v1_0) (nth a0 v1_0)))) (fun i => by simp [Wd]) (fun _ => rfl) (fun _ _ => rfl)]
  simp
theorem zh (a0 : ZJ) : KK a0 a0 = true := by simp [KK]
theorem zA (a0 : List ZJ) : Kg a0 a0 = true := by
  unfold Kg
  rw [zW (F := K7 a0 a0) (L := a0.length) (c := fun v1_0 => (!(KK (nth a0 v1_0) (nth a0 v1_0)))) (fun i => by simp [zh]) (fun _ => rfl) (fun _ _ => rfl)]
  simp
theorem xy (a0 : Zc) : xH a0 a0 = true := by simp [xH]
theorem xA (a0 : List Zc) : xm a0 a0 = true := by
  unfold xm
  rw [zW (F := xY a0 a0) (L := a0.length) (c := fun v1_0 => (!(xH (nth a0 v1_0) (nth a0 v1_0)))) (fun i => by simp [xy]) (fun _ => rfl) (fun _ _ => rfl)]
  simp
theorem qp (a0 : YF) : ki a0 a0 = true := by simp [ki, zA, jt, xA]
theorem j6 (a0 : Z0) : kU a0 a0 = true := by simp [kU]
theorem qj (a0 : List Z0) : kO a0 a0 = true := by
  unfold kO
  rw [zW (F := jW a0 a0) (L := a0.length) (c := fun v1_0 => (!(kU (nth a0 v1_0) (nth a0 v1_0)))) (fun i => by simp [j6]) (fun _ => rfl) (fun _ _ => rfl)]
  simp
theorem zG (a0 : List Int) : Kb a0 a0 = true := by
  unfold Kb
  rw [zW (F := kq a0 a0) (L := a0.length) (c := fun v1_0 => ((nth a0 v1_0) != (nth a0 v1_0))) (fun i => by simp) (fun _ => rfl) (fun _ _ => rfl)]
  simp
theorem xC (a0 : List ByteArray) : xv a0 a0 = true := by
  unfold xv
  rw [zW (F := xO a0 a0) (L := a0.length) (c := fun v1_0 => (!decide ((nth a0 v1_0) = (nth a0 v1_0)))) (fun i => by simp) (fun _ => rfl) (fun _ _ => rfl)]
  simp
theorem yq (a0 : ZV) : yH a0 a0 = true := by simp [yH, zG, xC]
theorem zf (a0 : Zh) : zP a0 a0 = true := by simp [zP]
theorem jC (a0 : ZN) : qi a0 a0 = true := by simp [qi, zG]
theorem qF (a0 : List ZN) : jM a0 a0 = true := by
  unfold jM
  rw [zW (F := qd a0 a0) (L := a0.length) (c := fun v1_0 => (!(qi (nth a0 v1_0) (nth a0 v1_0)))) (fun i => by simp [jC]) (fun _ => rfl) (fun _ _ => rfl)]
  simp
theorem kH (a0 : Zk) : kg a0 a0 = true := by simp [kg]
theorem jN (a0 : List Zk) : kR a0 a0 = true := by
  unfold kR
  rw [zW (F := jn a0 a0) (L := a0.length) (c := fun v1_0 => (!(kg (nth a0 v1_0) (nth a0 v1_0)))) (fun i => by simp [kH]) (fun _ => rfl) (fun _ _ => rfl)]
  simp
theorem qw (a0 : ZQ) : qg a0 a0 = true := by simp [qg]
theorem qK (a0 : List ZQ) : jK a0 a0 = true := by
  unfold jK
  rw [zW (F := qY a0 a0) (L := a0.length) (c := fun v1_0 => (!(qg (nth a0 v1_0) (nth a0 v1_0)))) (fun i => by simp [qw]) (fun _ => rfl) (fun _ _ => rfl)]
  simp
theorem y8 (a0 : ZG) : zt a0 a0 = true := by simp [zt, qK, jN]
theorem yS (a0 : List ZG) : yg a0 a0 = true := by
  unfold yg
  rw [zW (F := yR a0 a0) (L := a0.length) (c := fun v1_0 => (!(zt (nth a0 v1_0) (nth a0 v1_0)))) (fun i => by simp [y8]) (fun _ => rfl) (fun _ _ => rfl)]
  simp
theorem qL (a0 : Za) : qk a0 a0 = true := by simp [qk, qF, yS]
theorem jz (a0 : ZY) : kJ a0 a0 = true := by simp [kJ, yq, zf, qL]
theorem qz (a0 : List ZY) : kc a0 a0 = true := by
  unfold kc
  rw [zW (F := jV a0 a0) (L := a0.length) (c := fun v1_0 => (!(kJ (nth a0 v1_0) (nth a0 v1_0)))) (fun i => by simp [jz]) (fun _ => rfl) (fun _ _ => rfl)]
  simp
theorem y9 (a0 : ZF) : zz a0 a0 = true := by simp [zz, qz]
theorem yX (a0 : List ZF) : yo a0 a0 = true := by
  unfold yo
  rw [zW (F := yO a0 a0) (L := a0.length) (c := fun v1_0 => (!(zz (nth a0 v1_0) (nth a0 v1_0)))) (fun i => by simp [y9]) (fun _ => rfl) (fun _ _ => rfl)]
  simp
theorem W1 (a0 : ZZ) : JD a0 a0 = true := by simp [JD, yX, qj, qp, zG]
theorem kG (a0 : List YG) (a1 : Int) : Yv a0 a1 = mkL (fun (x : YG) (k : Int) => ((YG.mk k (W (k + 1)) (W ((W (k + 1)) + 1)) (W ((W ((W (k + 1)) + 1)) + 1)) (W ((W ((W ((W (k + 1)) + 1)) + 1)) + 1))), (W ((W ((W ((W ((W (k + 1)) + 1)) + 1)) + 1)) + 1)))) a0 a1 := by
  have h := Q9 (F := JS) (f := (fun (x : YG) (k : Int) => ((YG.mk k (W (k + 1)) (W ((W (k + 1)) + 1)) (W ((W ((W (k + 1)) + 1)) + 1)) (W ((W ((W ((W (k + 1)) + 1)) + 1)) + 1))), (W ((W ((W ((W ((W (k + 1)) + 1)) + 1)) + 1)) + 1))))) (fun _ _ _ _ => rfl) a0 [] (a0.length + 1) a1 (by omega)
  unfold Yv
  simp only [List.length_nil, List.nil_append] at h
  rw [h]
@[simp] theorem En (a0 : List YG) (a1 : Int) : (Yv a0 a1).1.length = a0.length := by rw [kG, Xq]
theorem WG : ∀ (x : YG) (k : Int), 0 ≤ k → k + (cn x : Nat) < 4611686018427387904 → ((fun (x : YG) (k : Int) => ((YG.mk k (W (k + 1)) (W ((W (k + 1)) + 1)) (W ((W ((W (k + 1)) + 1)) + 1)) (W ((W ((W ((W (k + 1)) + 1)) + 1)) + 1))), (W ((W ((W ((W ((W (k + 1)) + 1)) + 1)) + 1)) + 1)))) x k).2 = k + (cn x : Nat) := by
  intro x k h0 h
  simp only [XL, XC, KS, XW, YG.Yn] at h ⊢
  have e0 : W (k + 1) = k + 1 := ZW (by omega) (by omega)
  have e1 : W ((W (k + 1)) + 1) = (W (k + 1)) + 1 := ZW (by omega) (by omega)
  have e2 : W ((W ((W (k + 1)) + 1)) + 1) = (W ((W (k + 1)) + 1)) + 1 := ZW (by omega) (by omega)
  have e3 : W ((W ((W ((W (k + 1)) + 1)) + 1)) + 1) = (W ((W ((W (k + 1)) + 1)) + 1)) + 1 := ZW (by omega) (by omega)
  have e4 : W ((W ((W ((W ((W (k + 1)) + 1)) + 1)) + 1)) + 1) = (W ((W ((W ((W (k + 1)) + 1)) + 1)) + 1)) + 1 := ZW (by omega) (by omega)
  omega
theorem Pd (a0 : List YG) (a1 : Int) (h0 : 0 ≤ a1) (h : a1 + (cn a0 : Nat) < 4611686018427387904) : (Yv a0 a1).2 = a1 + (cn a0 : Nat) := by
  rw [kG]
  exact Xs WG a0 a1 h0 h
theorem Is : ∀ (x : YG) (k : Int) (r : Int → Sum Int Int), 0 ≤ k → k + (cn x : Nat) < 4611686018427387904 → (fun (x : YG) (k : Int) (r : Int → Sum Int Int) => (bif (x.Number != k) then (.inl (-1)) else (bif (x.zx != (W (k + 1))) then (.inl (-1)) else (bif (x.Method != (W ((W (k + 1)) + 1))) then (.inl (-1)) else (bif (x.VF != (W ((W ((W (k + 1)) + 1)) + 1))) then (.inl (-1)) else (bif (x.zE != (W ((W ((W ((W (k + 1)) + 1)) + 1)) + 1))) then (.inl (-1)) else (r (W ((W ((W ((W ((W (k + 1)) + 1)) + 1)) + 1)) + 1))))))))) ((fun (x : YG) (k : Int) => ((YG.mk k (W (k + 1)) (W ((W (k + 1)) + 1)) (W ((W ((W (k + 1)) + 1)) + 1)) (W ((W ((W ((W (k + 1)) + 1)) + 1)) + 1))), (W ((W ((W ((W ((W (k + 1)) + 1)) + 1)) + 1)) + 1)))) x k).1 k r = r ((fun (x : YG) (k : Int) => ((YG.mk k (W (k + 1)) (W ((W (k + 1)) + 1)) (W ((W ((W (k + 1)) + 1)) + 1)) (W ((W ((W ((W (k + 1)) + 1)) + 1)) + 1))), (W ((W ((W ((W ((W (k + 1)) + 1)) + 1)) + 1)) + 1)))) x k).2 := by
  intro x k r h0 h
  simp only [XL, XC, KS, XW, YG.Yn] at h
  have e0 : W (k + 1) = k + 1 := ZW (by omega) (by omega)
  have e1 : W ((W (k + 1)) + 1) = (W (k + 1)) + 1 := ZW (by omega) (by omega)
  have e2 : W ((W ((W (k + 1)) + 1)) + 1) = (W ((W (k + 1)) + 1)) + 1 := ZW (by omega) (by omega)
  have e3 : W ((W ((W ((W (k + 1)) + 1)) + 1)) + 1) = (W ((W ((W (k + 1)) + 1)) + 1)) + 1 := ZW (by omega) (by omega)
  have e4 : W ((W ((W ((W ((W (k + 1)) + 1)) + 1)) + 1)) + 1) = (W ((W ((W ((W (k + 1)) + 1)) + 1)) + 1)) + 1 := ZW (by omega) (by omega)
  simp
theorem Ns (a0 : List YG) (a1 : Int) (h0 : 0 ≤ a1) (h : a1 + (cn a0 : Nat) < 4611686018427387904) : a1 ≤ (Yv a0 a1).2 ∧ (Yv a0 a1).2 ≤ a1 + (cn a0 : Nat) ∧ Jd (Yv a0 a1).1 a1 = (Yv a0 a1).2 := by
  rw [kG]
  have s := Xs WG a0 a1 h0 h
  have hh := JB (z := (mkL (fun (x : YG) (k : Int) => ((YG.mk k (W (k + 1)) (W ((W (k + 1)) + 1)) (W ((W ((W (k + 1)) + 1)) + 1)) (W ((W ((W ((W (k + 1)) + 1)) + 1)) + 1))), (W ((W ((W ((W ((W (k + 1)) + 1)) + 1)) + 1)) + 1)))) a0 a1).1) (H := qb (mkL (fun (x : YG) (k : Int) => ((YG.mk k (W (k + 1)) (W ((W (k + 1)) + 1)) (W ((W ((W (k + 1)) + 1)) + 1)) (W ((W ((W ((W (k + 1)) + 1)) + 1)) + 1))), (W ((W ((W ((W ((W (k + 1)) + 1)) + 1)) + 1)) + 1)))) a0 a1).1) (G := (fun (x : YG) (k : Int) (r : Int → Sum Int Int) => (bif (x.Number != k) then (.inl (-1)) else (bif (x.zx != (W (k + 1))) then (.inl (-1)) else (bif (x.Method != (W ((W (k + 1)) + 1))) then (.inl (-1)) else (bif (x.VF != (W ((W ((W (k + 1)) + 1)) + 1))) then (.inl (-1)) else (bif (x.zE != (W ((W ((W ((W (k + 1)) + 1)) + 1)) + 1))) then (.inl (-1)) else (r (W ((W ((W ((W ((W (k + 1)) + 1)) + 1)) + 1)) + 1)))))))))) (fun _ _ _ => rfl) WG Is a0 [] ((mkL (fun (x : YG) (k : Int) => ((YG.mk k (W (k + 1)) (W ((W (k + 1)) + 1)) (W ((W ((W (k + 1)) + 1)) + 1)) (W ((W ((W ((W (k + 1)) + 1)) + 1)) + 1))), (W ((W ((W ((W ((W (k + 1)) + 1)) + 1)) + 1)) + 1)))) a0 a1).1.length + 1) a1 (by simp) (by rw [Xq]; omega) h0 h
  simp only [List.length_nil] at hh
  rw [Xf] at *
  refine ⟨by omega, by omega, ?_⟩
  unfold Jd
  rw [hh]
theorem zB (a0 : List ZJ) (a1 : Int) : YD a0 a1 = mkL (fun (x : ZJ) (k : Int) => ((ZJ.mk k (W (k + 1)) (W ((W (k + 1)) + 1))), (W ((W ((W (k + 1)) + 1)) + 1)))) a0 a1 := by
  have h := Q9 (F := XX) (f := (fun (x : ZJ) (k : Int) => ((ZJ.mk k (W (k + 1)) (W ((W (k + 1)) + 1))), (W ((W ((W (k + 1)) + 1)) + 1))))) (fun _ _ _ _ => rfl) a0 [] (a0.length + 1) a1 (by omega)
  unfold YD
  simp only [List.length_nil, List.nil_append] at h
  rw [h]
@[simp] theorem HH (a0 : List ZJ) (a1 : Int) : (YD a0 a1).1.length = a0.length := by rw [zB, Xq]
theorem zi : ∀ (x : ZJ) (k : Int), 0 ≤ k → k + (cn x : Nat) < 4611686018427387904 → ((fun (x : ZJ) (k : Int) => ((ZJ.mk k (W (k + 1)) (W ((W (k + 1)) + 1))), (W ((W ((W (k + 1)) + 1)) + 1)))) x k).2 = k + (cn x : Nat) := by
  intro x k h0 h
  simp only [XL, XC, KS, XW, ZJ.Yn] at h ⊢
  have e0 : W (k + 1) = k + 1 := ZW (by omega) (by omega)
  have e1 : W ((W (k + 1)) + 1) = (W (k + 1)) + 1 := ZW (by omega) (by omega)
  have e2 : W ((W ((W (k + 1)) + 1)) + 1) = (W ((W (k + 1)) + 1)) + 1 := ZW (by omega) (by omega)
  omega
theorem W7 (a0 : List ZJ) (a1 : Int) (h0 : 0 ≤ a1) (h : a1 + (cn a0 : Nat) < 4611686018427387904) : (YD a0 a1).2 = a1 + (cn a0 : Nat) := by
  rw [zB]
  exact Xs zi a0 a1 h0 h
theorem Uh : ∀ (x : ZJ) (k : Int) (r : Int → Sum Int Int), 0 ≤ k → k + (cn x : Nat) < 4611686018427387904 → (fun (x : ZJ) (k : Int) (r : Int → Sum Int Int) => (bif (x.Id != k) then (.inl (-1)) else (bif (x.Key != (W (k + 1))) then (.inl (-1)) else (bif (x.Error != (W ((W (k + 1)) + 1))) then (.inl (-1)) else (r (W ((W ((W (k + 1)) + 1)) + 1))))))) ((fun (x : ZJ) (k : Int) => ((ZJ.mk k (W (k + 1)) (W ((W (k + 1)) + 1))), (W ((W ((W (k + 1)) + 1)) + 1)))) x k).1 k r = r ((fun (x : ZJ) (k : Int) => ((ZJ.mk k (W (k + 1)) (W ((W (k + 1)) + 1))), (W ((W ((W (k + 1)) + 1)) + 1)))) x k).2 := by
  intro x k r h0 h
  simp only [XL, XC, KS, XW, ZJ.Yn] at h
  have e0 : W (k + 1) = k + 1 := ZW (by omega) (by omega)
  have e1 : W ((W (k + 1)) + 1) = (W (k + 1)) + 1 := ZW (by omega) (by omega)
  have e2 : W ((W ((W (k + 1)) + 1)) + 1) = (W ((W (k + 1)) + 1)) + 1 := ZW (by omega) (by omega)
  simp
theorem UB (a0 : List ZJ) (a1 : Int) (h0 : 0 ≤ a1) (h : a1 + (cn a0 : Nat) < 4611686018427387904) : a1 ≤ (YD a0 a1).2 ∧ (YD a0 a1).2 ≤ a1 + (cn a0 : Nat) ∧ Xw (YD a0 a1).1 a1 = (YD a0 a1).2 := by
  rw [zB]
  have s := Xs zi a0 a1 h0 h
  have hh := JB (z := (mkL (fun (x : ZJ) (k : Int) => ((ZJ.mk k (W (k + 1)) (W ((W (k + 1)) + 1))), (W ((W ((W (k + 1)) + 1)) + 1)))) a0 a1).1) (H := J6 (mkL (fun (x : ZJ) (k : Int) => ((ZJ.mk k (W (k + 1)) (W ((W (k + 1)) + 1))), (W ((W ((W (k + 1)) + 1)) + 1)))) a0 a1).1) (G := (fun (x : ZJ) (k : Int) (r : Int → Sum Int Int) => (bif (x.Id != k) then (.inl (-1)) else (bif (x.Key != (W (k + 1))) then (.inl (-1)) else (bif (x.Error != (W ((W (k + 1)) + 1))) then (.inl (-1)) else (r (W ((W ((W (k + 1)) + 1)) + 1)))))))) (fun _ _ _ => rfl) zi Uh a0 [] ((mkL (fun (x : ZJ) (k : Int) => ((ZJ.mk k (W (k + 1)) (W ((W (k + 1)) + 1))), (W ((W ((W (k + 1)) + 1)) + 1)))) a0 a1).1.length + 1) a1 (by simp) (by rw [Xq]; omega) h0 h
  simp only [List.length_nil] at hh
  rw [Xf] at *
  refine ⟨by omega, by omega, ?_⟩
  unfold Xw
  rw [hh]
theorem xI (a0 : List Zc) (a1 : Int) : XJ a0 a1 = mkL (fun (x : Zc) (k : Int) => ((Zc.mk k (W (k + 1)) (W ((W (k + 1)) + 1)) (W ((W ((W (k + 1)) + 1)) + 1))), (W ((W ((W ((W (k + 1)) + 1)) + 1)) + 1)))) a0 a1 := by
  have h := Q9 (F := QA) (f := (fun (x : Zc) (k : Int) => ((Zc.mk k (W (k + 1)) (W ((W (k + 1)) + 1)) (W ((W ((W (k + 1)) + 1)) + 1))), (W ((W ((W ((W (k + 1)) + 1)) + 1)) + 1))))) (fun _ _ _ _ => rfl) a0 [] (a0.length + 1) a1 (by omega)
  unfold XJ
  simp only [List.length_nil, List.nil_append] at h
  rw [h]
@[simp] theorem FW (a0 : List Zc) (a1 : Int) : (XJ a0 a1).1.length = a0.length := by rw [xI, Xq]
theorem qD : ∀ (x : Zc) (k : Int), 0 ≤ k → k + (cn x : Nat) < 4611686018427387904 → ((fun (x : Zc) (k : Int) => ((Zc.mk k (W (k + 1)) (W ((W (k + 1)) + 1)) (W ((W ((W (k + 1)) + 1)) + 1))), (W ((W ((W ((W (k + 1)) + 1)) + 1)) + 1)))) x k).2 = k + (cn x : Nat) := by
  intro x k h0 h
  simp only [XL, XC, KS, XW, Zc.Yn] at h ⊢
  have e0 : W (k + 1) = k + 1 := ZW (by omega) (by omega)
  have e1 : W ((W (k + 1)) + 1) = (W (k + 1)) + 1 := ZW (by omega) (by omega)
  have e2 : W ((W ((W (k + 1)) + 1)) + 1) = (W ((W (k + 1)) + 1)) + 1 := ZW (by omega) (by omega)
  have e3 : W ((W ((W ((W (k + 1)) + 1)) + 1)) + 1) = (W ((W ((W (k + 1)) + 1)) + 1)) + 1 := ZW (by omega) (by omega)
  omega
theorem TI (a0 : List Zc) (a1 : Int) (h0 : 0 ≤ a1) (h : a1 + (cn a0 : Nat) < 4611686018427387904) : (XJ a0 a1).2 = a1 + (cn a0 : Nat) := by
  rw [xI]
  exact Xs qD a0 a1 h0 h
theorem Rm : ∀ (x : Zc) (k : Int) (r : Int → Sum Int Int), 0 ≤ k → k + (cn x : Nat) < 4611686018427387904 → (fun (x : Zc) (k : Int) (r : Int → Sum Int Int) => (bif (x.Id != k) then (.inl (-1)) else (bif (x.Vp != (W (k + 1))) then (.inl (-1)) else (bif (x.Ends != (W ((W (k + 1)) + 1))) then (.inl (-1)) else (bif (x.jE != (W ((W ((W (k + 1)) + 1)) + 1))) then (.inl (-1)) else (r (W ((W ((W ((W (k + 1)) + 1)) + 1)) + 1)))))))) ((fun (x : Zc) (k : Int) => ((Zc.mk k (W (k + 1)) (W ((W (k + 1)) + 1)) (W ((W ((W (k + 1)) + 1)) + 1))), (W ((W ((W ((W (k + 1)) + 1)) + 1)) + 1)))) x k).1 k r = r ((fun (x : Zc) (k : Int) => ((Zc.mk k (W (k + 1)) (W ((W (k + 1)) + 1)) (W ((W ((W (k + 1)) + 1)) + 1))), (W ((W ((W ((W (k + 1)) + 1)) + 1)) + 1)))) x k).2 := by
  intro x k r h0 h
  simp only [XL, XC, KS, XW, Zc.Yn] at h
  have e0 : W (k + 1) = k + 1 := ZW (by omega) (by omega)
  have e1 : W ((W (k + 1)) + 1) = (W (k + 1)) + 1 := ZW (by omega) (by omega)
  have e2 : W ((W ((W (k + 1)) + 1)) + 1) = (W ((W (k + 1)) + 1)) + 1 := ZW (by omega) (by omega)
  have e3 : W ((W ((W ((W (k + 1)) + 1)) + 1)) + 1) = (W ((W ((W (k + 1)) + 1)) + 1)) + 1 := ZW (by omega) (by omega)
  simp
theorem Sg (a0 : List Zc) (a1 : Int) (h0 : 0 ≤ a1) (h : a1 + (cn a0 : Nat) < 4611686018427387904) : a1 ≤ (XJ a0 a1).2 ∧ (XJ a0 a1).2 ≤ a1 + (cn a0 : Nat) ∧ KG (XJ a0 a1).1 a1 = (XJ a0 a1).2 := by
  rw [xI]
  have s := Xs qD a0 a1 h0 h
  have hh := JB (z := (mkL (fun (x : Zc) (k : Int) => ((Zc.mk k (W (k + 1)) (W ((W (k + 1)) + 1)) (W ((W ((W (k + 1)) + 1)) + 1))), (W ((W ((W ((W (k + 1)) + 1)) + 1)) + 1)))) a0 a1).1) (H := zY (mkL (fun (x : Zc) (k : Int) => ((Zc.mk k (W (k + 1)) (W ((W (k + 1)) + 1)) (W ((W ((W (k + 1)) + 1)) + 1))), (W ((W ((W ((W (k + 1)) + 1)) + 1)) + 1)))) a0 a1).1) (G := (fun (x : Zc) (k : Int) (r : Int → Sum Int Int) => (bif (x.Id != k) then (.inl (-1)) else (bif (x.Vp != (W (k + 1))) then (.inl (-1)) else (bif (x.Ends != (W ((W (k + 1)) + 1))) then (.inl (-1)) else (bif (x.jE != (W ((W ((W (k + 1)) + 1)) + 1))) then (.inl (-1)) else (r (W ((W ((W ((W (k + 1)) + 1)) + 1)) + 1))))))))) (fun _ _ _ => rfl) qD Rm a0 [] ((mkL (fun (x : Zc) (k : Int) => ((Zc.mk k (W (k + 1)) (W ((W (k + 1)) + 1)) (W ((W ((W (k + 1)) + 1)) + 1))), (W ((W ((W ((W (k + 1)) + 1)) + 1)) + 1)))) a0 a1).1.length + 1) a1 (by simp) (by rw [Xq]; omega) h0 h
  simp only [List.length_nil] at hh
  rw [Xf] at *
  refine ⟨by omega, by omega, ?_⟩
  unfold KG
  rw [hh]
@[simp] theorem Hp (a0 : YF) (a1 : Int) : (Zi a0 a1).1.YV.length = a0.YV.length := by simp [Zi]
@[simp] theorem PV (a0 : YF) (a1 : Int) : (Zi a0 a1).1.ZC.length = a0.ZC.length := by simp [Zi]
@[simp] theorem Mv (a0 : YF) (a1 : Int) : (Zi a0 a1).1.Methods.length = a0.Methods.length := by simp [Zi]
@[simp] theorem Fk (a0 : YF) (a1 : Int) : (Zi a0 a1).1.zN = a0.zN := rfl
@[simp] theorem Ek (a0 : YF) (a1 : Int) : (Zi a0 a1).1.Now = a0.Now := rfl
theorem OH (a0 : YF) (a1 : Int) (h0 : 0 ≤ a1) (h : a1 + (cn a0 : Nat) < 4611686018427387904) : a1 ≤ (Zi a0 a1).2 ∧ (Zi a0 a1).2 ≤ a1 + (cn a0 : Nat) ∧ XE (Zi a0 a1).1 a1 = (Zi a0 a1).2 := by
  simp only [XL, XC, XW, YF.Yn] at h ⊢
  obtain ⟨m0, n0, h0⟩ := Ns a0.YV a1 (by omega) (by omega)
  have q0 := Pd a0.YV a1 (by omega) (by omega)
  have o0 : ¬ (Yv a0.YV a1).2 < 0 := by omega
  obtain ⟨m3, n3, h3⟩ := UB a0.ZC (Yv a0.YV a1).2 (by omega) (by omega)
  have q3 := W7 a0.ZC (Yv a0.YV a1).2 (by omega) (by omega)
  have o3 : ¬ (YD a0.ZC (Yv a0.YV a1).2).2 < 0 := by omega
  obtain ⟨m6, n6, h6⟩ := Sg a0.Methods (YD a0.ZC (Yv a0.YV a1).2).2 (by omega) (by omega)
  have q6 := TI a0.Methods (YD a0.ZC (Yv a0.YV a1).2).2 (by omega) (by omega)
  have o6 : ¬ (XJ a0.Methods (YD a0.ZC (Yv a0.YV a1).2).2).2 < 0 := by omega
  refine ⟨by simp only [Zi]; omega, by simp only [Zi]; omega, ?_⟩
  simp [Zi, XE, h0, h3, h6, o0, o3, o6]
theorem qx (a0 : List Z0) (a1 : Int) : Zw a0 a1 = mkL (fun (x : Z0) (k : Int) => ((Z0.mk k (W (k + 1)) (W ((W (k + 1)) + 1)) (W ((W ((W (k + 1)) + 1)) + 1)) (W ((W ((W ((W (k + 1)) + 1)) + 1)) + 1)) (W ((W ((W ((W ((W (k + 1)) + 1)) + 1)) + 1)) + 1)) (W ((W ((W ((W ((W ((W (k + 1)) + 1)) + 1)) + 1)) + 1)) + 1))), (W ((W ((W ((W ((W ((W ((W (k + 1)) + 1)) + 1)) + 1)) + 1)) + 1)) + 1)))) a0 a1 := by
  have h := Q9 (F := Qj) (f := (fun (x : Z0) (k : Int) => ((Z0.mk k (W (k + 1)) (W ((W (k + 1)) + 1)) (W ((W ((W (k + 1)) + 1)) + 1)) (W ((W ((W ((W (k + 1)) + 1)) + 1)) + 1)) (W ((W ((W ((W ((W (k + 1)) + 1)) + 1)) + 1)) + 1)) (W ((W ((W ((W ((W ((W (k + 1)) + 1)) + 1)) + 1)) + 1)) + 1))), (W ((W ((W ((W ((W ((W ((W (k + 1)) + 1)) + 1)) + 1)) + 1)) + 1)) + 1))))) (fun _ _ _ _ => rfl) a0 [] (a0.length + 1) a1 (by omega)
  unfold Zw
  simp only [List.length_nil, List.nil_append] at h
  rw [h]
@[simp] theorem Ee (a0 : List Z0) (a1 : Int) : (Zw a0 a1).1.length = a0.length := by rw [qx, Xq]
theorem j4 : ∀ (x : Z0) (k : Int), 0 ≤ k → k + (cn x : Nat) < 4611686018427387904 → ((fun (x : Z0) (k : Int) => ((Z0.mk k (W (k + 1)) (W ((W (k + 1)) + 1)) (W ((W ((W (k + 1)) + 1)) + 1)) (W ((W ((W ((W (k + 1)) + 1)) + 1)) + 1)) (W ((W ((W ((W ((W (k + 1)) + 1)) + 1)) + 1)) + 1)) (W ((W ((W ((W ((W ((W (k + 1)) + 1)) + 1)) + 1)) + 1)) + 1))), (W ((W ((W ((W ((W ((W ((W (k + 1)) + 1)) + 1)) + 1)) + 1)) + 1)) + 1)))) x k).2 = k + (cn x : Nat) := by
  intro x k h0 h
  simp only [XL, XC, KS, XW, Z0.Yn] at h ⊢
  have e0 : W (k + 1) = k + 1 := ZW (by omega) (by omega)
  have e1 : W ((W (k + 1)) + 1) = (W (k + 1)) + 1 := ZW (by omega) (by omega)
  have e2 : W ((W ((W (k + 1)) + 1)) + 1) = (W ((W (k + 1)) + 1)) + 1 := ZW (by omega) (by omega)
  have e3 : W ((W ((W ((W (k + 1)) + 1)) + 1)) + 1) = (W ((W ((W (k + 1)) + 1)) + 1)) + 1 := ZW (by omega) (by omega)
  have e4 : W ((W ((W ((W ((W (k + 1)) + 1)) + 1)) + 1)) + 1) = (W ((W ((W ((W (k + 1)) + 1)) + 1)) + 1)) + 1 := ZW (by omega) (by omega)
  have e5 : W ((W ((W ((W ((W ((W (k + 1)) + 1)) + 1)) + 1)) + 1)) + 1) = (W ((W ((W ((W ((W (k + 1)) + 1)) + 1)) + 1)) + 1)) + 1 := ZW (by omega) (by omega)
  have e6 : W ((W ((W ((W ((W ((W ((W (k + 1)) + 1)) + 1)) + 1)) + 1)) + 1)) + 1) = (W ((W ((W ((W ((W ((W (k + 1)) + 1)) + 1)) + 1)) + 1)) + 1)) + 1 := ZW (by omega) (by omega)
  omega
theorem R5 (a0 : List Z0) (a1 : Int) (h0 : 0 ≤ a1) (h : a1 + (cn a0 : Nat) < 4611686018427387904) : (Zw a0 a1).2 = a1 + (cn a0 : Nat) := by
  rw [qx]
  exact Xs j4 a0 a1 h0 h
theorem Np : ∀ (x : Z0) (k : Int) (r : Int → Sum Int Int), 0 ≤ k → k + (cn x : Nat) < 4611686018427387904 → (fun (x : Z0) (k : Int) (r : Int → Sum Int Int) => (bif (x.QY != k) then (.inl (-1)) else (bif (x.Key != (W (k + 1))) then (.inl (-1)) else (bif (x.zx != (W ((W (k + 1)) + 1))) then (.inl (-1)) else (bif (x.qQ != (W ((W ((W (k + 1)) + 1)) + 1))) then (.inl (-1)) else (bif (x.To != (W ((W ((W ((W (k + 1)) + 1)) + 1)) + 1))) then (.inl (-1)) else (bif (x.Kc != (W ((W ((W ((W ((W (k + 1)) + 1)) + 1)) + 1)) + 1))) then (.inl (-1)) else (bif (x.Mark != (W ((W ((W ((W ((W ((W (k + 1)) + 1)) + 1)) + 1)) + 1)) + 1))) then (.inl (-1)) else (r (W ((W ((W ((W ((W ((W ((W (k + 1)) + 1)) + 1)) + 1)) + 1)) + 1)) + 1))))))))))) ((fun (x : Z0) (k : Int) => ((Z0.mk k (W (k + 1)) (W ((W (k + 1)) + 1)) (W ((W ((W (k + 1)) + 1)) + 1)) (W ((W ((W ((W (k + 1)) + 1)) + 1)) + 1)) (W ((W ((W ((W ((W (k + 1)) + 1)) + 1)) + 1)) + 1)) (W ((W ((W ((W ((W ((W (k + 1)) + 1)) + 1)) + 1)) + 1)) + 1))), (W ((W ((W ((W ((W ((W ((W (k + 1)) + 1)) + 1)) + 1)) + 1)) + 1)) + 1)))) x k).1 k r = r ((fun (x : Z0) (k : Int) => ((Z0.mk k (W (k + 1)) (W ((W (k + 1)) + 1)) (W ((W ((W (k + 1)) + 1)) + 1)) (W ((W ((W ((W (k + 1)) + 1)) + 1)) + 1)) (W ((W ((W ((W ((W (k + 1)) + 1)) + 1)) + 1)) + 1)) (W ((W ((W ((W ((W ((W (k + 1)) + 1)) + 1)) + 1)) + 1)) + 1))), (W ((W ((W ((W ((W ((W ((W (k + 1)) + 1)) + 1)) + 1)) + 1)) + 1)) + 1)))) x k).2 := by
  intro x k r h0 h
  simp only [XL, XC, KS, XW, Z0.Yn] at h
  have e0 : W (k + 1) = k + 1 := ZW (by omega) (by omega)
  have e1 : W ((W (k + 1)) + 1) = (W (k + 1)) + 1 := ZW (by omega) (by omega)
  have e2 : W ((W ((W (k + 1)) + 1)) + 1) = (W ((W (k + 1)) + 1)) + 1 := ZW (by omega) (by omega)
  have e3 : W ((W ((W ((W (k + 1)) + 1)) + 1)) + 1) = (W ((W ((W (k + 1)) + 1)) + 1)) + 1 := ZW (by omega) (by omega)
  have e4 : W ((W ((W ((W ((W (k + 1)) + 1)) + 1)) + 1)) + 1) = (W ((W ((W ((W (k + 1)) + 1)) + 1)) + 1)) + 1 := ZW (by omega) (by omega)
  have e5 : W ((W ((W ((W ((W ((W (k + 1)) + 1)) + 1)) + 1)) + 1)) + 1) = (W ((W ((W ((W ((W (k + 1)) + 1)) + 1)) + 1)) + 1)) + 1 := ZW (by omega) (by omega)
  have e6 : W ((W ((W ((W ((W ((W ((W (k + 1)) + 1)) + 1)) + 1)) + 1)) + 1)) + 1) = (W ((W ((W ((W ((W ((W (k + 1)) + 1)) + 1)) + 1)) + 1)) + 1)) + 1 := ZW (by omega) (by omega)
  simp
theorem OV (a0 : List Z0) (a1 : Int) (h0 : 0 ≤ a1) (h : a1 + (cn a0 : Nat) < 4611686018427387904) : a1 ≤ (Zw a0 a1).2 ∧ (Zw a0 a1).2 ≤ a1 + (cn a0 : Nat) ∧ XP (Zw a0 a1).1 a1 = (Zw a0 a1).2 := by
  rw [qx]
  have s := Xs j4 a0 a1 h0 h
  have hh := JB (z := (mkL (fun (x : Z0) (k : Int) => ((Z0.mk k (W (k + 1)) (W ((W (k + 1)) + 1)) (W ((W ((W (k + 1)) + 1)) + 1)) (W ((W ((W ((W (k + 1)) + 1)) + 1)) + 1)) (W ((W ((W ((W ((W (k + 1)) + 1)) + 1)) + 1)) + 1)) (W ((W ((W ((W ((W ((W (k + 1)) + 1)) + 1)) + 1)) + 1)) + 1))), (W ((W ((W ((W ((W ((W ((W (k + 1)) + 1)) + 1)) + 1)) + 1)) + 1)) + 1)))) a0 a1).1) (H := xS (mkL (fun (x : Z0) (k : Int) => ((Z0.mk k (W (k + 1)) (W ((W (k + 1)) + 1)) (W ((W ((W (k + 1)) + 1)) + 1)) (W ((W ((W ((W (k + 1)) + 1)) + 1)) + 1)) (W ((W ((W ((W ((W (k + 1)) + 1)) + 1)) + 1)) + 1)) (W ((W ((W ((W ((W ((W (k + 1)) + 1)) + 1)) + 1)) + 1)) + 1))), (W ((W ((W ((W ((W ((W ((W (k + 1)) + 1)) + 1)) + 1)) + 1)) + 1)) + 1)))) a0 a1).1) (G := (fun (x : Z0) (k : Int) (r : Int → Sum Int Int) => (bif (x.QY != k) then (.inl (-1)) else (bif (x.Key != (W (k + 1))) then (.inl (-1)) else (bif (x.zx != (W ((W (k + 1)) + 1))) then (.inl (-1)) else (bif (x.qQ != (W ((W ((W (k + 1)) + 1)) + 1))) then (.inl (-1)) else (bif (x.To != (W ((W ((W ((W (k + 1)) + 1)) + 1)) + 1))) then (.inl (-1)) else (bif (x.Kc != (W ((W ((W ((W ((W (k + 1)) + 1)) + 1)) + 1)) + 1))) then (.inl (-1)) else (bif (x.Mark != (W ((W ((W ((W ((W ((W (k + 1)) + 1)) + 1)) + 1)) + 1)) + 1))) then (.inl (-1)) else (r (W ((W ((W ((W ((W ((W ((W (k + 1)) + 1)) + 1)) + 1)) + 1)) + 1)) + 1)))))))))))) (fun _ _ _ => rfl) j4 Np a0 [] ((mkL (fun (x : Z0) (k : Int) => ((Z0.mk k (W (k + 1)) (W ((W (k + 1)) + 1)) (W ((W ((W (k + 1)) + 1)) + 1)) (W ((W ((W ((W (k + 1)) + 1)) + 1)) + 1)) (W ((W ((W ((W ((W (k + 1)) + 1)) + 1)) + 1)) + 1)) (W ((W ((W ((W ((W ((W (k + 1)) + 1)) + 1)) + 1)) + 1)) + 1))), (W ((W ((W ((W ((W ((W ((W (k + 1)) + 1)) + 1)) + 1)) + 1)) + 1)) + 1)))) a0 a1).1.length + 1) a1 (by simp) (by rw [Xq]; omega) h0 h
  simp only [List.length_nil] at hh
  rw [Xf] at *
  refine ⟨by omega, by omega, ?_⟩
  unfold XP
  rw [hh]
theorem j8 (a0 : List Int) (a1 : Int) : ZB a0 a1 = mkL (fun (x : Int) (k : Int) => (k, (W (k + 1)))) a0 a1 := by
  have h := Q9 (F := JQ) (f := (fun (x : Int) (k : Int) => (k, (W (k + 1))))) (fun _ _ _ _ => rfl) a0 [] (a0.length + 1) a1 (by omega)
  unfold ZB
  simp only [List.length_nil, List.nil_append] at h
  rw [h]
@[simp] theorem E5 (a0 : List Int) (a1 : Int) : (ZB a0 a1).1.length = a0.length := by rw [j8, Xq]
theorem kv : ∀ (x : Int) (k : Int), 0 ≤ k → k + (cn x : Nat) < 4611686018427387904 → ((fun (x : Int) (k : Int) => (k, (W (k + 1)))) x k).2 = k + (cn x : Nat) := by
  intro x k h0 h
  simp only [XL, XC, KS, XW] at h ⊢
  have e0 : W (k + 1) = k + 1 := ZW (by omega) (by omega)
  omega
theorem X3 (a0 : List Int) (a1 : Int) (h0 : 0 ≤ a1) (h : a1 + (cn a0 : Nat) < 4611686018427387904) : (ZB a0 a1).2 = a1 + (cn a0 : Nat) := by
  rw [j8]
  exact Xs kv a0 a1 h0 h
theorem UD (a0 : List Int) (a1 : Int) (h0 : 0 ≤ a1) (h : a1 + (cn a0 : Nat) < 4611686018427387904) : a1 ≤ (ZB a0 a1).2 ∧ (ZB a0 a1).2 ≤ a1 + (cn a0 : Nat) := by
  have := X3 a0 a1 h0 h
  omega
theorem L1 : ∀ (x : Int) (k : Int) (r : Int → Sum Int Int), 0 ≤ k → k + (cn x : Nat) < 4611686018427387904 → (fun (x : Int) (k : Int) (r : Int → Sum Int Int) => (bif (x != k) then (.inl (-1)) else (r (W (k + 1))))) ((fun (x : Int) (k : Int) => (k, (W (k + 1)))) x k).1 k r = r ((fun (x : Int) (k : Int) => (k, (W (k + 1)))) x k).2 := by
  intro x k r h0 h
  simp only [XL, XC, KS, XW] at h
  have e0 : W (k + 1) = k + 1 := ZW (by omega) (by omega)
  simp
theorem Je (a0 : List Int) (a1 : Int) (h0 : 0 ≤ a1) (h : a1 + (cn a0 : Nat) < 4611686018427387904) : a1 ≤ (ZB a0 a1).2 ∧ (ZB a0 a1).2 ≤ a1 + (cn a0 : Nat) ∧ Zb (ZB a0 a1).1 a1 = (ZB a0 a1).2 := by
  rw [j8]
  have s := Xs kv a0 a1 h0 h
  have hh := JB (z := (mkL (fun (x : Int) (k : Int) => (k, (W (k + 1)))) a0 a1).1) (H := qN (mkL (fun (x : Int) (k : Int) => (k, (W (k + 1)))) a0 a1).1) (G := (fun (x : Int) (k : Int) (r : Int → Sum Int Int) => (bif (x != k) then (.inl (-1)) else (r (W (k + 1)))))) (fun _ _ _ => rfl) kv L1 a0 [] ((mkL (fun (x : Int) (k : Int) => (k, (W (k + 1)))) a0 a1).1.length + 1) a1 (by simp) (by rw [Xq]; omega) h0 h
  simp only [List.length_nil] at hh
  rw [Xf] at *
  refine ⟨by omega, by omega, ?_⟩
  unfold Zb
  rw [hh]
theorem xG (a0 : List ByteArray) (a1 : Int) : ZA a0 a1 = mkL (fun (x : ByteArray) (k : Int) => ((Xe k), (W (k + 1)))) a0 a1 := by
  have h := Q9 (F := QC) (f := (fun (x : ByteArray) (k : Int) => ((Xe k), (W (k + 1))))) (fun _ _ _ _ => rfl) a0 [] (a0.length + 1) a1 (by omega)
  unfold ZA
  simp only [List.length_nil, List.nil_append] at h
  rw [h]
@[simp] theorem Fe (a0 : List ByteArray) (a1 : Int) : (ZA a0 a1).1.length = a0.length := by rw [xG, Xq]
theorem qI : ∀ (x : ByteArray) (k : Int), 0 ≤ k → k + (cn x : Nat) < 4611686018427387904 → ((fun (x : ByteArray) (k : Int) => ((Xe k), (W (k + 1)))) x k).2 = k + (cn x : Nat) := by
  intro x k h0 h
  simp only [XL, XC, KS, XW] at h ⊢
  have e0 : W (k + 1) = k + 1 := ZW (by omega) (by omega)
  omega
theorem yN (a0 : List ByteArray) (a1 : Int) (h0 : 0 ≤ a1) (h : a1 + (cn a0 : Nat) < 4611686018427387904) : (ZA a0 a1).2 = a1 + (cn a0 : Nat) := by
  rw [xG]
  exact Xs qI a0 a1 h0 h
theorem T2 (a0 : List ByteArray) (a1 : Int) (h0 : 0 ≤ a1) (h : a1 + (cn a0 : Nat) < 4611686018427387904) : a1 ≤ (ZA a0 a1).2 ∧ (ZA a0 a1).2 ≤ a1 + (cn a0 : Nat) := by
  have := yN a0 a1 h0 h
  omega
theorem RV : ∀ (x : ByteArray) (k : Int) (r : Int → Sum Int Int), 0 ≤ k → k + (cn x : Nat) < 4611686018427387904 → (fun (x : ByteArray) (k : Int) (r : Int → Sum Int Int) => (bif (!decide (x = (Xe k))) then (.inl (-1)) else (r (W (k + 1))))) ((fun (x : ByteArray) (k : Int) => ((Xe k), (W (k + 1)))) x k).1 k r = r ((fun (x : ByteArray) (k : Int) => ((Xe k), (W (k + 1)))) x k).2 := by
  intro x k r h0 h
  simp only [XL, XC, KS, XW] at h
  have e0 : W (k + 1) = k + 1 := ZW (by omega) (by omega)
  simp
theorem SX (a0 : List ByteArray) (a1 : Int) (h0 : 0 ≤ a1) (h : a1 + (cn a0 : Nat) < 4611686018427387904) : a1 ≤ (ZA a0 a1).2 ∧ (ZA a0 a1).2 ≤ a1 + (cn a0 : Nat) ∧ Zf (ZA a0 a1).1 a1 = (ZA a0 a1).2 := by
  rw [xG]
  have s := Xs qI a0 a1 h0 h
  have hh := JB (z := (mkL (fun (x : ByteArray) (k : Int) => ((Xe k), (W (k + 1)))) a0 a1).1) (H := zV (mkL (fun (x : ByteArray) (k : Int) => ((Xe k), (W (k + 1)))) a0 a1).1) (G := (fun (x : ByteArray) (k : Int) (r : Int → Sum Int Int) => (bif (!decide (x = (Xe k))) then (.inl (-1)) else (r (W (k + 1)))))) (fun _ _ _ => rfl) qI RV a0 [] ((mkL (fun (x : ByteArray) (k : Int) => ((Xe k), (W (k + 1)))) a0 a1).1.length + 1) a1 (by simp) (by rw [Xq]; omega) h0 h
  simp only [List.length_nil] at hh
  rw [Xf] at *
  refine ⟨by omega, by omega, ?_⟩
  unfold Zf
  rw [hh]
theorem qG (a0 : List ZN) (a1 : Int) : Zd a0 a1 = mkL (fun (x : ZN) (k : Int) => ((ZN.mk k (ZB x.Y7 (W (k + 1))).1 (ZB x.Y7 (W (k + 1))).2), (W ((ZB x.Y7 (W (k + 1))).2 + 1)))) a0 a1 := by
  have h := Q9 (F := QN) (f := (fun (x : ZN) (k : Int) => ((ZN.mk k (ZB x.Y7 (W (k + 1))).1 (ZB x.Y7 (W (k + 1))).2), (W ((ZB x.Y7 (W (k + 1))).2 + 1))))) (fun _ _ _ _ => rfl) a0 [] (a0.length + 1) a1 (by omega)
  unfold Zd
  simp only [List.length_nil, List.nil_append] at h
  rw [h]
@[simp] theorem EO (a0 : List ZN) (a1 : Int) : (Zd a0 a1).1.length = a0.length := by rw [qG, Xq]
theorem jB : ∀ (x : ZN) (k : Int), 0 ≤ k → k + (cn x : Nat) < 4611686018427387904 → ((fun (x : ZN) (k : Int) => ((ZN.mk k (ZB x.Y7 (W (k + 1))).1 (ZB x.Y7 (W (k + 1))).2), (W ((ZB x.Y7 (W (k + 1))).2 + 1)))) x k).2 = k + (cn x : Nat) := by
  intro x k h0 h
  simp only [XL, XC, KS, XW, ZN.Yn] at h ⊢
  have e0 : W (k + 1) = k + 1 := ZW (by omega) (by omega)
  obtain ⟨m1, n1⟩ := UD x.Y7 (W (k + 1)) (by omega) (by omega)
  have q1 := X3 x.Y7 (W (k + 1)) (by omega) (by omega)
  have o1 : ¬ (ZB x.Y7 (W (k + 1))).2 < 0 := by omega
  have e4 : W ((ZB x.Y7 (W (k + 1))).2 + 1) = (ZB x.Y7 (W (k + 1))).2 + 1 := ZW (by omega) (by omega)
  omega
theorem xD (a0 : List ZN) (a1 : Int) (h0 : 0 ≤ a1) (h : a1 + (cn a0 : Nat) < 4611686018427387904) : (Zd a0 a1).2 = a1 + (cn a0 : Nat) := by
  rw [qG]
  exact Xs jB a0 a1 h0 h
theorem Rs (a0 : List ZN) (a1 : Int) (h0 : 0 ≤ a1) (h : a1 + (cn a0 : Nat) < 4611686018427387904) : a1 ≤ (Zd a0 a1).2 ∧ (Zd a0 a1).2 ≤ a1 + (cn a0 : Nat) := by
  have := xD a0 a1 h0 h
  omega
theorem Pq : ∀ (x : ZN) (k : Int) (r : Int → Sum Int Int), 0 ≤ k → k + (cn x : Nat) < 4611686018427387904 → (fun (x : ZN) (k : Int) (r : Int → Sum Int Int) => (bif (x.Key != k) then (.inl (-1)) else (bif (decide ((Zb x.Y7 (W (k + 1))) < 0)) then (.inl (-1)) else (bif (x.Mark != (Zb x.Y7 (W (k + 1)))) then (.inl (-1)) else (r (W ((Zb x.Y7 (W (k + 1))) + 1))))))) ((fun (x : ZN) (k : Int) => ((ZN.mk k (ZB x.Y7 (W (k + 1))).1 (ZB x.Y7 (W (k + 1))).2), (W ((ZB x.Y7 (W (k + 1))).2 + 1)))) x k).1 k r = r ((fun (x : ZN) (k : Int) => ((ZN.mk k (ZB x.Y7 (W (k + 1))).1 (ZB x.Y7 (W (k + 1))).2), (W ((ZB x.Y7 (W (k + 1))).2 + 1)))) x k).2 := by
  intro x k r h0 h
  simp only [XL, XC, KS, XW, ZN.Yn] at h
  have e0 : W (k + 1) = k + 1 := ZW (by omega) (by omega)
  obtain ⟨m1, n1, h1⟩ := Je x.Y7 (W (k + 1)) (by omega) (by omega)
  have q1 := X3 x.Y7 (W (k + 1)) (by omega) (by omega)
  have o1 : ¬ (ZB x.Y7 (W (k + 1))).2 < 0 := by omega
  have e4 : W ((ZB x.Y7 (W (k + 1))).2 + 1) = (ZB x.Y7 (W (k + 1))).2 + 1 := ZW (by omega) (by omega)
  simp [h1, o1]
theorem Ru (a0 : List ZN) (a1 : Int) (h0 : 0 ≤ a1) (h : a1 + (cn a0 : Nat) < 4611686018427387904) : a1 ≤ (Zd a0 a1).2 ∧ (Zd a0 a1).2 ≤ a1 + (cn a0 : Nat) ∧ XQ (Zd a0 a1).1 a1 = (Zd a0 a1).2 := by
  rw [qG]
  have s := Xs jB a0 a1 h0 h
  have hh := JB (z := (mkL (fun (x : ZN) (k : Int) => ((ZN.mk k (ZB x.Y7 (W (k + 1))).1 (ZB x.Y7 (W (k + 1))).2), (W ((ZB x.Y7 (W (k + 1))).2 + 1)))) a0 a1).1) (H := yG (mkL (fun (x : ZN) (k : Int) => ((ZN.mk k (ZB x.Y7 (W (k + 1))).1 (ZB x.Y7 (W (k + 1))).2), (W ((ZB x.Y7 (W (k + 1))).2 + 1)))) a0 a1).1) (G := (fun (x : ZN) (k : Int) (r : Int → Sum Int Int) => (bif (x.Key != k) then (.inl (-1)) else (bif (decide ((Zb x.Y7 (W (k + 1))) < 0)) then (.inl (-1)) else (bif (x.Mark != (Zb x.Y7 (W (k + 1)))) then (.inl (-1)) else (r (W ((Zb x.Y7 (W (k + 1))) + 1)))))))) (fun _ _ _ => rfl) jB Pq a0 [] ((mkL (fun (x : ZN) (k : Int) => ((ZN.mk k (ZB x.Y7 (W (k + 1))).1 (ZB x.Y7 (W (k + 1))).2), (W ((ZB x.Y7 (W (k + 1))).2 + 1)))) a0 a1).1.length + 1) a1 (by simp) (by rw [Xq]; omega) h0 h
  simp only [List.length_nil] at hh
  rw [Xf] at *
  refine ⟨by omega, by omega, ?_⟩
  unfold XQ
  rw [hh]
theorem jH (a0 : List Zk) (a1 : Int) : Zg a0 a1 = mkL (fun (x : Zk) (k : Int) => ((Zk.mk k ((Int.tmod (W (k + 1)) 3) == 0)), (W ((W (k + 1)) + 1)))) a0 a1 := by
  have h := Q9 (F := Ql) (f := (fun (x : Zk) (k : Int) => ((Zk.mk k ((Int.tmod (W (k + 1)) 3) == 0)), (W ((W (k + 1)) + 1))))) (fun _ _ _ _ => rfl) a0 [] (a0.length + 1) a1 (by omega)
  unfold Zg
  simp only [List.length_nil, List.nil_append] at h
  rw [h]
@[simp] theorem Ei (a0 : List Zk) (a1 : Int) : (Zg a0 a1).1.length = a0.length := by rw [jH, Xq]
theorem j3 : ∀ (x : Zk) (k : Int), 0 ≤ k → k + (cn x : Nat) < 4611686018427387904 → ((fun (x : Zk) (k : Int) => ((Zk.mk k ((Int.tmod (W (k + 1)) 3) == 0)), (W ((W (k + 1)) + 1)))) x k).2 = k + (cn x : Nat) := by
  intro x k h0 h
  simp only [XL, XC, KS, XW, Zk.Yn] at h ⊢
  have e0 : W (k + 1) = k + 1 := ZW (by omega) (by omega)
  have e1 : W ((W (k + 1)) + 1) = (W (k + 1)) + 1 := ZW (by omega) (by omega)
  omega
theorem xz (a0 : List Zk) (a1 : Int) (h0 : 0 ≤ a1) (h : a1 + (cn a0 : Nat) < 4611686018427387904) : (Zg a0 a1).2 = a1 + (cn a0 : Nat) := by
  rw [jH]
  exact Xs j3 a0 a1 h0 h
theorem Og (a0 : List Zk) (a1 : Int) (h0 : 0 ≤ a1) (h : a1 + (cn a0 : Nat) < 4611686018427387904) : a1 ≤ (Zg a0 a1).2 ∧ (Zg a0 a1).2 ≤ a1 + (cn a0 : Nat) := by
  have := xz a0 a1 h0 h
  omega
theorem Nu : ∀ (x : Zk) (k : Int) (r : Int → Sum Int Int), 0 ≤ k → k + (cn x : Nat) < 4611686018427387904 → (fun (x : Zk) (k : Int) (r : Int → Sum Int Int) => (bif (x.Yz != k) then (.inl (-1)) else (bif (!(x.Left == ((Int.tmod (W (k + 1)) 3) == 0))) then (.inl (-1)) else (r (W ((W (k + 1)) + 1)))))) ((fun (x : Zk) (k : Int) => ((Zk.mk k ((Int.tmod (W (k + 1)) 3) == 0)), (W ((W (k + 1)) + 1)))) x k).1 k r = r ((fun (x : Zk) (k : Int) => ((Zk.mk k ((Int.tmod (W (k + 1)) 3) == 0)), (W ((W (k + 1)) + 1)))) x k).2 := by
  intro x k r h0 h
  simp only [XL, XC, KS, XW, Zk.Yn] at h
  have e0 : W (k + 1) = k + 1 := ZW (by omega) (by omega)
  have e1 : W ((W (k + 1)) + 1) = (W (k + 1)) + 1 := ZW (by omega) (by omega)
  simp
theorem Pr (a0 : List Zk) (a1 : Int) (h0 : 0 ≤ a1) (h : a1 + (cn a0 : Nat) < 4611686018427387904) : a1 ≤ (Zg a0 a1).2 ∧ (Zg a0 a1).2 ≤ a1 + (cn a0 : Nat) ∧ Xh (Zg a0 a1).1 a1 = (Zg a0 a1).2 := by
  rw [jH]
  have s := Xs j3 a0 a1 h0 h
  have hh := JB (z := (mkL (fun (x : Zk) (k : Int) => ((Zk.mk k ((Int.tmod (W (k + 1)) 3) == 0)), (W ((W (k + 1)) + 1)))) a0 a1).1) (H := xX (mkL (fun (x : Zk) (k : Int) => ((Zk.mk k ((Int.tmod (W (k + 1)) 3) == 0)), (W ((W (k + 1)) + 1)))) a0 a1).1) (G := (fun (x : Zk) (k : Int) (r : Int → Sum Int Int) => (bif (x.Yz != k) then (.inl (-1)) else (bif (!(x.Left == ((Int.tmod (W (k + 1)) 3) == 0))) then (.inl (-1)) else (r (W ((W (k + 1)) + 1))))))) (fun _ _ _ => rfl) j3 Nu a0 [] ((mkL (fun (x : Zk) (k : Int) => ((Zk.mk k ((Int.tmod (W (k + 1)) 3) == 0)), (W ((W (k + 1)) + 1)))) a0 a1).1.length + 1) a1 (by simp) (by rw [Xq]; omega) h0 h
  simp only [List.length_nil] at hh
  rw [Xf] at *
  refine ⟨by omega, by omega, ?_⟩
  unfold Xh
  rw [hh]
theorem qM (a0 : List ZQ) (a1 : Int) : Zs a0 a1 = mkL (fun (x : ZQ) (k : Int) => ((ZQ.mk k (W (k + 1)) (W ((W (k + 1)) + 1)) (W ((W ((W (k + 1)) + 1)) + 1)) (W ((W ((W ((W (k + 1)) + 1)) + 1)) + 1))), (W ((W ((W ((W ((W (k + 1)) + 1)) + 1)) + 1)) + 1)))) a0 a1 := by
  have h := Q9 (F := QQ) (f := (fun (x : ZQ) (k : Int) => ((ZQ.mk k (W (k + 1)) (W ((W (k + 1)) + 1)) (W ((W ((W (k + 1)) + 1)) + 1)) (W ((W ((W ((W (k + 1)) + 1)) + 1)) + 1))), (W ((W ((W ((W ((W (k + 1)) + 1)) + 1)) + 1)) + 1))))) (fun _ _ _ _ => rfl) a0 [] (a0.length + 1) a1 (by omega)
  unfold Zs
  simp only [List.length_nil, List.nil_append] at h
  rw [h]
@[simp] theorem EF (a0 : List ZQ) (a1 : Int) : (Zs a0 a1).1.length = a0.length := by rw [qM, Xq]
theorem jL : ∀ (x : ZQ) (k : Int), 0 ≤ k → k + (cn x : Nat) < 4611686018427387904 → ((fun (x : ZQ) (k : Int) => ((ZQ.mk k (W (k + 1)) (W ((W (k + 1)) + 1)) (W ((W ((W (k + 1)) + 1)) + 1)) (W ((W ((W ((W (k + 1)) + 1)) + 1)) + 1))), (W ((W ((W ((W ((W (k + 1)) + 1)) + 1)) + 1)) + 1)))) x k).2 = k + (cn x : Nat) := by
  intro x k h0 h
  simp only [XL, XC, KS, XW, ZQ.Yn] at h ⊢
  have e0 : W (k + 1) = k + 1 := ZW (by omega) (by omega)
  have e1 : W ((W (k + 1)) + 1) = (W (k + 1)) + 1 := ZW (by omega) (by omega)
  have e2 : W ((W ((W (k + 1)) + 1)) + 1) = (W ((W (k + 1)) + 1)) + 1 := ZW (by omega) (by omega)
  have e3 : W ((W ((W ((W (k + 1)) + 1)) + 1)) + 1) = (W ((W ((W (k + 1)) + 1)) + 1)) + 1 := ZW (by omega) (by omega)
  have e4 : W ((W ((W ((W ((W (k + 1)) + 1)) + 1)) + 1)) + 1) = (W ((W ((W ((W (k + 1)) + 1)) + 1)) + 1)) + 1 := ZW (by omega) (by omega)
  omega
theorem yy (a0 : List ZQ) (a1 : Int) (h0 : 0 ≤ a1) (h : a1 + (cn a0 : Nat) < 4611686018427387904) : (Zs a0 a1).2 = a1 + (cn a0 : Nat) := by
  rw [qM]
  exact Xs jL a0 a1 h0 h
theorem PA (a0 : List ZQ) (a1 : Int) (h0 : 0 ≤ a1) (h : a1 + (cn a0 : Nat) < 4611686018427387904) : a1 ≤ (Zs a0 a1).2 ∧ (Zs a0 a1).2 ≤ a1 + (cn a0 : Nat) := by
  have := yy a0 a1 h0 h
  omega
theorem OM : ∀ (x : ZQ) (k : Int) (r : Int → Sum Int Int), 0 ≤ k → k + (cn x : Nat) < 4611686018427387904 → (fun (x : ZQ) (k : Int) (r : Int → Sum Int Int) => (bif (x.Authority != k) then (.inl (-1)) else (bif (x.Seq != (W (k + 1))) then (.inl (-1)) else (bif (x.Time != (W ((W (k + 1)) + 1))) then (.inl (-1)) else (bif (x.Yz != (W ((W ((W (k + 1)) + 1)) + 1))) then (.inl (-1)) else (bif (x.Mark != (W ((W ((W ((W (k + 1)) + 1)) + 1)) + 1))) then (.inl (-1)) else (r (W ((W ((W ((W ((W (k + 1)) + 1)) + 1)) + 1)) + 1))))))))) ((fun (x : ZQ) (k : Int) => ((ZQ.mk k (W (k + 1)) (W ((W (k + 1)) + 1)) (W ((W ((W (k + 1)) + 1)) + 1)) (W ((W ((W ((W (k + 1)) + 1)) + 1)) + 1))), (W ((W ((W ((W ((W (k + 1)) + 1)) + 1)) + 1)) + 1)))) x k).1 k r = r ((fun (x : ZQ) (k : Int) => ((ZQ.mk k (W (k + 1)) (W ((W (k + 1)) + 1)) (W ((W ((W (k + 1)) + 1)) + 1)) (W ((W ((W ((W (k + 1)) + 1)) + 1)) + 1))), (W ((W ((W ((W ((W (k + 1)) + 1)) + 1)) + 1)) + 1)))) x k).2 := by
  intro x k r h0 h
  simp only [XL, XC, KS, XW, ZQ.Yn] at h
  have e0 : W (k + 1) = k + 1 := ZW (by omega) (by omega)
  have e1 : W ((W (k + 1)) + 1) = (W (k + 1)) + 1 := ZW (by omega) (by omega)
  have e2 : W ((W ((W (k + 1)) + 1)) + 1) = (W ((W (k + 1)) + 1)) + 1 := ZW (by omega) (by omega)
  have e3 : W ((W ((W ((W (k + 1)) + 1)) + 1)) + 1) = (W ((W ((W (k + 1)) + 1)) + 1)) + 1 := ZW (by omega) (by omega)
  have e4 : W ((W ((W ((W ((W (k + 1)) + 1)) + 1)) + 1)) + 1) = (W ((W ((W ((W (k + 1)) + 1)) + 1)) + 1)) + 1 := ZW (by omega) (by omega)
  simp
theorem PN (a0 : List ZQ) (a1 : Int) (h0 : 0 ≤ a1) (h : a1 + (cn a0 : Nat) < 4611686018427387904) : a1 ≤ (Zs a0 a1).2 ∧ (Zs a0 a1).2 ≤ a1 + (cn a0 : Nat) ∧ QK (Zs a0 a1).1 a1 = (Zs a0 a1).2 := by
  rw [qM]
  have s := Xs jL a0 a1 h0 h
  have hh := JB (z := (mkL (fun (x : ZQ) (k : Int) => ((ZQ.mk k (W (k + 1)) (W ((W (k + 1)) + 1)) (W ((W ((W (k + 1)) + 1)) + 1)) (W ((W ((W ((W (k + 1)) + 1)) + 1)) + 1))), (W ((W ((W ((W ((W (k + 1)) + 1)) + 1)) + 1)) + 1)))) a0 a1).1) (H := yY (mkL (fun (x : ZQ) (k : Int) => ((ZQ.mk k (W (k + 1)) (W ((W (k + 1)) + 1)) (W ((W ((W (k + 1)) + 1)) + 1)) (W ((W ((W ((W (k + 1)) + 1)) + 1)) + 1))), (W ((W ((W ((W ((W (k + 1)) + 1)) + 1)) + 1)) + 1)))) a0 a1).1) (G := (fun (x : ZQ) (k : Int) (r : Int → Sum Int Int) => (bif (x.Authority != k) then (.inl (-1)) else (bif (x.Seq != (W (k + 1))) then (.inl (-1)) else (bif (x.Time != (W ((W (k + 1)) + 1))) then (.inl (-1)) else (bif (x.Yz != (W ((W ((W (k + 1)) + 1)) + 1))) then (.inl (-1)) else (bif (x.Mark != (W ((W ((W ((W (k + 1)) + 1)) + 1)) + 1))) then (.inl (-1)) else (r (W ((W ((W ((W ((W (k + 1)) + 1)) + 1)) + 1)) + 1)))))))))) (fun _ _ _ => rfl) jL OM a0 [] ((mkL (fun (x : ZQ) (k : Int) => ((ZQ.mk k (W (k + 1)) (W ((W (k + 1)) + 1)) (W ((W ((W (k + 1)) + 1)) + 1)) (W ((W ((W ((W (k + 1)) + 1)) + 1)) + 1))), (W ((W ((W ((W ((W (k + 1)) + 1)) + 1)) + 1)) + 1)))) a0 a1).1.length + 1) a1 (by simp) (by rw [Xq]; omega) h0 h
  simp only [List.length_nil] at hh
  rw [Xf] at *
  refine ⟨by omega, by omega, ?_⟩
  unfold QK
  rw [hh]
theorem yK (a0 : List ZG) (a1 : Int) : Zj a0 a1 = mkL (fun (x : ZG) (k : Int) => ((ZG.mk k (W (k + 1)) (W ((W (k + 1)) + 1)) (Zg x.Path (W ((W ((W (k + 1)) + 1)) + 1))).1 (Zs x.Zx (Zg x.Path (W ((W ((W (k + 1)) + 1)) + 1))).2).1), (Zs x.Zx (Zg x.Path (W ((W ((W (k + 1)) + 1)) + 1))).2).2)) a0 a1 := by
  have h := Q9 (F := Xz) (f := (fun (x : ZG) (k : Int) => ((ZG.mk k (W (k + 1)) (W ((W (k + 1)) + 1)) (Zg x.Path (W ((W ((W (k + 1)) + 1)) + 1))).1 (Zs x.Zx (Zg x.Path (W ((W ((W (k + 1)) + 1)) + 1))).2).1), (Zs x.Zx (Zg x.Path (W ((W ((W (k + 1)) + 1)) + 1))).2).2))) (fun _ _ _ _ => rfl) a0 [] (a0.length + 1) a1 (by omega)
  unfold Zj
  simp only [List.length_nil, List.nil_append] at h
  rw [h]
@[simp] theorem G2 (a0 : List ZG) (a1 : Int) : (Zj a0 a1).1.length = a0.length := by rw [yK, Xq]
theorem yz : ∀ (x : ZG) (k : Int), 0 ≤ k → k + (cn x : Nat) < 4611686018427387904 → ((fun (x : ZG) (k : Int) => ((ZG.mk k (W (k + 1)) (W ((W (k + 1)) + 1)) (Zg x.Path (W ((W ((W (k + 1)) + 1)) + 1))).1 (Zs x.Zx (Zg x.Path (W ((W ((W (k + 1)) + 1)) + 1))).2).1), (Zs x.Zx (Zg x.Path (W ((W ((W (k + 1)) + 1)) + 1))).2).2)) x k).2 = k + (cn x : Nat) := by
  intro x k h0 h
  simp only [XL, XC, KS, XW, ZG.Yn] at h ⊢
  have e0 : W (k + 1) = k + 1 := ZW (by omega) (by omega)
  have e1 : W ((W (k + 1)) + 1) = (W (k + 1)) + 1 := ZW (by omega) (by omega)
  have e2 : W ((W ((W (k + 1)) + 1)) + 1) = (W ((W (k + 1)) + 1)) + 1 := ZW (by omega) (by omega)
  obtain ⟨m3, n3⟩ := Og x.Path (W ((W ((W (k + 1)) + 1)) + 1)) (by omega) (by omega)
  have q3 := xz x.Path (W ((W ((W (k + 1)) + 1)) + 1)) (by omega) (by omega)
  have o3 : ¬ (Zg x.Path (W ((W ((W (k + 1)) + 1)) + 1))).2 < 0 := by omega
  obtain ⟨m6, n6⟩ := PA x.Zx (Zg x.Path (W ((W ((W (k + 1)) + 1)) + 1))).2 (by omega) (by omega)
  have q6 := yy x.Zx (Zg x.Path (W ((W ((W (k + 1)) + 1)) + 1))).2 (by omega) (by omega)
  have o6 : ¬ (Zs x.Zx (Zg x.Path (W ((W ((W (k + 1)) + 1)) + 1))).2).2 < 0 := by omega
  omega
theorem ze (a0 : List ZG) (a1 : Int) (h0 : 0 ≤ a1) (h : a1 + (cn a0 : Nat) < 4611686018427387904) : (Zj a0 a1).2 = a1 + (cn a0 : Nat) := by
  rw [yK]
  exact Xs yz a0 a1 h0 h
theorem Tw (a0 : List ZG) (a1 : Int) (h0 : 0 ≤ a1) (h : a1 + (cn a0 : Nat) < 4611686018427387904) : a1 ≤ (Zj a0 a1).2 ∧ (Zj a0 a1).2 ≤ a1 + (cn a0 : Nat) := by
  have := ze a0 a1 h0 h
  omega
theorem Sf : ∀ (x : ZG) (k : Int) (r : Int → Sum Int Int), 0 ≤ k → k + (cn x : Nat) < 4611686018427387904 → (fun (x : ZG) (k : Int) (r : Int → Sum Int Int) => (bif (x.Count != k) then (.inl (-1)) else (bif (x.Method != (W (k + 1))) then (.inl (-1)) else (bif (x.TA != (W ((W (k + 1)) + 1))) then (.inl (-1)) else (bif (decide ((Xh x.Path (W ((W ((W (k + 1)) + 1)) + 1))) < 0)) then (.inl (-1)) else (bif (decide ((QK x.Zx (Xh x.Path (W ((W ((W (k + 1)) + 1)) + 1)))) < 0)) then (.inl (-1)) else (r (QK x.Zx (Xh x.Path (W ((W ((W (k + 1)) + 1)) + 1))))))))))) ((fun (x : ZG) (k : Int) => ((ZG.mk k (W (k + 1)) (W ((W (k + 1)) + 1)) (Zg x.Path (W ((W ((W (k + 1)) + 1)) + 1))).1 (Zs x.Zx (Zg x.Path (W ((W ((W (k + 1)) + 1)) + 1))).2).1), (Zs x.Zx (Zg x.Path (W ((W ((W (k + 1)) + 1)) + 1))).2).2)) x k).1 k r = r ((fun (x : ZG) (k : Int) => ((ZG.mk k (W (k + 1)) (W ((W (k + 1)) + 1)) (Zg x.Path (W ((W ((W (k + 1)) + 1)) + 1))).1 (Zs x.Zx (Zg x.Path (W ((W ((W (k + 1)) + 1)) + 1))).2).1), (Zs x.Zx (Zg x.Path (W ((W ((W (k + 1)) + 1)) + 1))).2).2)) x k).2 := by
  intro x k r h0 h
  simp only [XL, XC, KS, XW, ZG.Yn] at h
  have e0 : W (k + 1) = k + 1 := ZW (by omega) (by omega)
  have e1 : W ((W (k + 1)) + 1) = (W (k + 1)) + 1 := ZW (by omega) (by omega)
  have e2 : W ((W ((W (k + 1)) + 1)) + 1) = (W ((W (k + 1)) + 1)) + 1 := ZW (by omega) (by omega)
  obtain ⟨m3, n3, h3⟩ := Pr x.Path (W ((W ((W (k + 1)) + 1)) + 1)) (by omega) (by omega)
  have q3 := xz x.Path (W ((W ((W (k + 1)) + 1)) + 1)) (by omega) (by omega)
  have o3 : ¬ (Zg x.Path (W ((W ((W (k + 1)) + 1)) + 1))).2 < 0 := by omega
  obtain ⟨m6, n6, h6⟩ := PN x.Zx (Zg x.Path (W ((W ((W (k + 1)) + 1)) + 1))).2 (by omega) (by omega)
  have q6 := yy x.Zx (Zg x.Path (W ((W ((W (k + 1)) + 1)) + 1))).2 (by omega) (by omega)
  have o6 : ¬ (Zs x.Zx (Zg x.Path (W ((W ((W (k + 1)) + 1)) + 1))).2).2 < 0 := by omega
  simp [h3, h6, o3, o6]
theorem Te (a0 : List ZG) (a1 : Int) (h0 : 0 ≤ a1) (h : a1 + (cn a0 : Nat) < 4611686018427387904) : a1 ≤ (Zj a0 a1).2 ∧ (Zj a0 a1).2 ≤ a1 + (cn a0 : Nat) ∧ Xl (Zj a0 a1).1 a1 = (Zj a0 a1).2 := by
  rw [yK]
  have s := Xs yz a0 a1 h0 h
  have hh := JB (z := (mkL (fun (x : ZG) (k : Int) => ((ZG.mk k (W (k + 1)) (W ((W (k + 1)) + 1)) (Zg x.Path (W ((W ((W (k + 1)) + 1)) + 1))).1 (Zs x.Zx (Zg x.Path (W ((W ((W (k + 1)) + 1)) + 1))).2).1), (Zs x.Zx (Zg x.Path (W ((W ((W (k + 1)) + 1)) + 1))).2).2)) a0 a1).1) (H := Ks (mkL (fun (x : ZG) (k : Int) => ((ZG.mk k (W (k + 1)) (W ((W (k + 1)) + 1)) (Zg x.Path (W ((W ((W (k + 1)) + 1)) + 1))).1 (Zs x.Zx (Zg x.Path (W ((W ((W (k + 1)) + 1)) + 1))).2).1), (Zs x.Zx (Zg x.Path (W ((W ((W (k + 1)) + 1)) + 1))).2).2)) a0 a1).1) (G := (fun (x : ZG) (k : Int) (r : Int → Sum Int Int) => (bif (x.Count != k) then (.inl (-1)) else (bif (x.Method != (W (k + 1))) then (.inl (-1)) else (bif (x.TA != (W ((W (k + 1)) + 1))) then (.inl (-1)) else (bif (decide ((Xh x.Path (W ((W ((W (k + 1)) + 1)) + 1))) < 0)) then (.inl (-1)) else (bif (decide ((QK x.Zx (Xh x.Path (W ((W ((W (k + 1)) + 1)) + 1)))) < 0)) then (.inl (-1)) else (r (QK x.Zx (Xh x.Path (W ((W ((W (k + 1)) + 1)) + 1)))))))))))) (fun _ _ _ => rfl) yz Sf a0 [] ((mkL (fun (x : ZG) (k : Int) => ((ZG.mk k (W (k + 1)) (W ((W (k + 1)) + 1)) (Zg x.Path (W ((W ((W (k + 1)) + 1)) + 1))).1 (Zs x.Zx (Zg x.Path (W ((W ((W (k + 1)) + 1)) + 1))).2).1), (Zs x.Zx (Zg x.Path (W ((W ((W (k + 1)) + 1)) + 1))).2).2)) a0 a1).1.length + 1) a1 (by simp) (by rw [Xq]; omega) h0 h
  simp only [List.length_nil] at hh
  rw [Xf] at *
  refine ⟨by omega, by omega, ?_⟩
  unfold Xl
  rw [hh]
theorem qy (a0 : List ZY) (a1 : Int) : Z1 a0 a1 = mkL (fun (x : ZY) (k : Int) => ((ZY.mk k (W (k + 1)) (ZV.mk (W ((W (k + 1)) + 1)) (ZA x.Doc.ZE (W ((W ((W (k + 1)) + 1)) + 1))).1 (ZB x.Doc.ZH (ZA x.Doc.ZE (W ((W ((W (k + 1)) + 1)) + 1))).2).1) (Zh.mk (ZB x.Doc.ZH (ZA x.Doc.ZE (W ((W ((W (k + 1)) + 1)) + 1))).2).2 (W ((ZB x.Doc.ZH (ZA x.Doc.ZE (W ((W ((W (k + 1)) + 1)) + 1))).2).2 + 1)) (W ((W ((ZB x.Doc.ZH (ZA x.Doc.ZE (W ((W ((W (k + 1)) + 1)) + 1))).2).2 + 1)) + 1)) (W ((W ((W ((ZB x.Doc.ZH (ZA x.Doc.ZE (W ((W ((W (k + 1)) + 1)) + 1))).2).2 + 1)) + 1)) + 1)) (W ((W ((W ((W ((ZB x.Doc.ZH (ZA x.Doc.ZE (W ((W ((W (k + 1)) + 1)) + 1))).2).2 + 1)) + 1)) + 1)) + 1)) (W ((W ((W ((W ((W ((ZB x.Doc.ZH (ZA x.Doc.ZE (W ((W ((W (k + 1)) + 1)) + 1))).2).2 + 1)) + 1)) + 1)) + 1)) + 1)) (W ((W ((W ((W ((W ((W ((ZB x.Doc.ZH (ZA x.Doc.ZE (W ((W ((W (k + 1)) + 1)) + 1))).2).2 + 1)) + 1)) + 1)) + 1)) + 1)) + 1)) (W ((W ((W ((W ((W ((W ((W ((ZB x.Doc.ZH (ZA x.Doc.ZE (W ((W ((W (k + 1)) + 1)) + 1))).2).2 + 1)) + 1)) + 1)) + 1)) + 1)) + 1)) + 1)) (W ((W ((W ((W ((W ((W ((W ((W ((ZB x.Doc.ZH (ZA x.Doc.ZE (W ((W ((W (k + 1)) + 1)) + 1))).2).2 + 1)) + 1)) + 1)) + 1)) + 1)) + 1)) + 1)) + 1))) (Za.mk (Zd x.ZL.ZO (W ((W ((W ((W ((W ((W ((W ((W ((W ((ZB x.Doc.ZH (ZA x.Doc.ZE (W ((W ((W (k + 1)) + 1)) + 1))).2).2 + 1)) + 1)) + 1)) + 1)) + 1)) + 1)) + 1)) + 1)) + 1))).1 (Zj x.ZL.ZX (Zd x.ZL.ZO (W ((W ((W ((W ((W ((W ((W ((W ((W ((ZB x.Doc.ZH (ZA x.Doc.ZE (W ((W ((W (k + 1)) + 1)) + 1))).2).2 + 1)) + 1)) + 1)) + 1)) + 1)) + 1)) + 1)) + 1)) + 1))).2).1)), (Zj x.ZL.ZX (Zd x.ZL.ZO (W ((W ((W ((W ((W ((W ((W ((W ((W ((ZB x.Doc.ZH (ZA x.Doc.ZE (W ((W ((W (k + 1)) + 1)) + 1))).2).2 + 1)) + 1)) + 1)) + 1)) + 1)) + 1)) + 1)) + 1)) + 1))).2).2)) a0 a1 := by
  have h := Q9 (F := Qm) (f := (fun (x : ZY) (k : Int) => ((ZY.mk k (W (k + 1)) (ZV.mk (W ((W (k + 1)) + 1)) (ZA x.Doc.ZE (W ((W ((W (k + 1)) + 1)) + 1))).1 (ZB x.Doc.ZH (ZA x.Doc.ZE (W ((W ((W (k + 1)) + 1)) + 1))).2).1) (Zh.mk (ZB x.Doc.ZH (ZA x.Doc.ZE (W ((W ((W (k + 1)) + 1)) + 1))).2).2 (W ((ZB x.Doc.ZH (ZA x.Doc.ZE (W ((W ((W (k + 1)) + 1)) + 1))).2).2 + 1)) (W ((W ((ZB x.Doc.ZH (ZA x.Doc.ZE (W ((W ((W (k + 1)) + 1)) + 1))).2).2 + 1)) + 1)) (W ((W ((W ((ZB x.Doc.ZH (ZA x.Doc.ZE (W ((W ((W (k + 1)) + 1)) + 1))).2).2 + 1)) + 1)) + 1)) (W ((W ((W ((W ((ZB x.Doc.ZH (ZA x.Doc.ZE (W ((W ((W (k + 1)) + 1)) + 1))).2).2 + 1)) + 1)) + 1)) + 1)) (W ((W ((W ((W ((W ((ZB x.Doc.ZH (ZA x.Doc.ZE (W ((W ((W (k + 1)) + 1)) + 1))).2).2 + 1)) + 1)) + 1)) + 1)) + 1)) (W ((W ((W ((W ((W ((W ((ZB x.Doc.ZH (ZA x.Doc.ZE (W ((W ((W (k + 1)) + 1)) + 1))).2).2 + 1)) + 1)) + 1)) + 1)) + 1)) + 1)) (W ((W ((W ((W ((W ((W ((W ((ZB x.Doc.ZH (ZA x.Doc.ZE (W ((W ((W (k + 1)) + 1)) + 1))).2).2 + 1)) + 1)) + 1)) + 1)) + 1)) + 1)) + 1)) (W ((W ((W ((W ((W ((W ((W ((W ((ZB x.Doc.ZH (ZA x.Doc.ZE (W ((W ((W (k + 1)) + 1)) + 1))).2).2 + 1)) + 1)) + 1)) + 1)) + 1)) + 1)) + 1)) + 1))) (Za.mk (Zd x.ZL.ZO (W ((W ((W ((W ((W ((W ((W ((W ((W ((ZB x.Doc.ZH (ZA x.Doc.ZE (W ((W ((W (k + 1)) + 1)) + 1))).2).2 + 1)) + 1)) + 1)) + 1)) + 1)) + 1)) + 1)) + 1)) + 1))).1 (Zj x.ZL.ZX (Zd x.ZL.ZO (W ((W ((W ((W ((W ((W ((W ((W ((W ((ZB x.Doc.ZH (ZA x.Doc.ZE (W ((W ((W (k + 1)) + 1)) + 1))).2).2 + 1)) + 1)) + 1)) + 1)) + 1)) + 1)) + 1)) + 1)) + 1))).2).1)), (Zj x.ZL.ZX (Zd x.ZL.ZO (W ((W ((W ((W ((W ((W ((W ((W ((W ((ZB x.Doc.ZH (ZA x.Doc.ZE (W ((W ((W (k + 1)) + 1)) + 1))).2).2 + 1)) + 1)) + 1)) + 1)) + 1)) + 1)) + 1)) + 1)) + 1))).2).2))) (fun _ _ _ _ => rfl) a0 [] (a0.length + 1) a1 (by omega)
  unfold Z1
  simp only [List.length_nil, List.nil_append] at h
  rw [h]
@[simp] theorem Eg (a0 : List ZY) (a1 : Int) : (Z1 a0 a1).1.length = a0.length := by rw [qy, Xq]
theorem kD : ∀ (x : ZY) (k : Int), 0 ≤ k → k + (cn x : Nat) < 4611686018427387904 → ((fun (x : ZY) (k : Int) => ((ZY.mk k (W (k + 1)) (ZV.mk (W ((W (k + 1)) + 1)) (ZA x.Doc.ZE (W ((W ((W (k + 1)) + 1)) + 1))).1 (ZB x.Doc.ZH (ZA x.Doc.ZE (W ((W ((W (k + 1)) + 1)) + 1))).2).1) (Zh.mk (ZB x.Doc.ZH (ZA x.Doc.ZE (W ((W ((W (k + 1)) + 1)) + 1))).2).2 (W ((ZB x.Doc.ZH (ZA x.Doc.ZE (W ((W ((W (k + 1)) + 1)) + 1))).2).2 + 1)) (W ((W ((ZB x.Doc.ZH (ZA x.Doc.ZE (W ((W ((W (k + 1)) + 1)) + 1))).2).2 + 1)) + 1)) (W ((W ((W ((ZB x.Doc.ZH (ZA x.Doc.ZE (W ((W ((W (k + 1)) + 1)) + 1))).2).2 + 1)) + 1)) + 1)) (W ((W ((W ((W ((ZB x.Doc.ZH (ZA x.Doc.ZE (W ((W ((W (k + 1)) + 1)) + 1))).2).2 + 1)) + 1)) + 1)) + 1)) (W ((W ((W ((W ((W ((ZB x.Doc.ZH (ZA x.Doc.ZE (W ((W ((W (k + 1)) + 1)) + 1))).2).2 + 1)) + 1)) + 1)) + 1)) + 1)) (W ((W ((W ((W ((W ((W ((ZB x.Doc.ZH (ZA x.Doc.ZE (W ((W ((W (k + 1)) + 1)) + 1))).2).2 + 1)) + 1)) + 1)) + 1)) + 1)) + 1)) (W ((W ((W ((W ((W ((W ((W ((ZB x.Doc.ZH (ZA x.Doc.ZE (W ((W ((W (k + 1)) + 1)) + 1))).2).2 + 1)) + 1)) + 1)) + 1)) + 1)) + 1)) + 1)) (W ((W ((W ((W ((W ((W ((W ((W ((ZB x.Doc.ZH (ZA x.Doc.ZE (W ((W ((W (k + 1)) + 1)) + 1))).2).2 + 1)) + 1)) + 1)) + 1)) + 1)) + 1)) + 1)) + 1))) (Za.mk (Zd x.ZL.ZO (W ((W ((W ((W ((W ((W ((W ((W ((W ((ZB x.Doc.ZH (ZA x.Doc.ZE (W ((W ((W (k + 1)) + 1)) + 1))).2).2 + 1)) + 1)) + 1)) + 1)) + 1)) + 1)) + 1)) + 1)) + 1))).1 (Zj x.ZL.ZX (Zd x.ZL.ZO (W ((W ((W ((W ((W ((W ((W ((W ((W ((ZB x.Doc.ZH (ZA x.Doc.ZE (W ((W ((W (k + 1)) + 1)) + 1))).2).2 + 1)) + 1)) + 1)) + 1)) + 1)) + 1)) + 1)) + 1)) + 1))).2).1)), (Zj x.ZL.ZX (Zd x.ZL.ZO (W ((W ((W ((W ((W ((W ((W ((W ((W ((ZB x.Doc.ZH (ZA x.Doc.ZE (W ((W ((W (k + 1)) + 1)) + 1))).2).2 + 1)) + 1)) + 1)) + 1)) + 1)) + 1)) + 1)) + 1)) + 1))).2).2)) x k).2 = k + (cn x : Nat) := by
  intro x k h0 h
  simp only [XL, XC, KS, XW, ZY.Yn, ZV.Yn, Za.Yn, Zh.Yn] at h ⊢
  have e0 : W (k + 1) = k + 1 := ZW (by omega) (by omega)
  have e1 : W ((W (k + 1)) + 1) = (W (k + 1)) + 1 := ZW (by omega) (by omega)
  have e2 : W ((W ((W (k + 1)) + 1)) + 1) = (W ((W (k + 1)) + 1)) + 1 := ZW (by omega) (by omega)
  obtain ⟨m3, n3⟩ := T2 x.Doc.ZE (W ((W ((W (k + 1)) + 1)) + 1)) (by omega) (by omega)
  have q3 := yN x.Doc.ZE (W ((W ((W (k + 1)) + 1)) + 1)) (by omega) (by omega)
  have o3 : ¬ (ZA x.Doc.ZE (W ((W ((W (k + 1)) + 1)) + 1))).2 < 0 := by omega
  obtain ⟨m6, n6⟩ := UD x.Doc.ZH (ZA x.Doc.ZE (W ((W ((W (k + 1)) + 1)) + 1))).2 (by omega) (by omega)
  have q6 := X3 x.Doc.ZH (ZA x.Doc.ZE (W ((W ((W (k + 1)) + 1)) + 1))).2 (by omega) (by omega)
  have o6 : ¬ (ZB x.Doc.ZH (ZA x.Doc.ZE (W ((W ((W (k + 1)) + 1)) + 1))).2).2 < 0 := by omega
  have e9 : W ((ZB x.Doc.ZH (ZA x.Doc.ZE (W ((W ((W (k + 1)) + 1)) + 1))).2).2 + 1) = (ZB x.Doc.ZH (ZA x.Doc.ZE (W ((W ((W (k + 1)) + 1)) + 1))).2).2 + 1 := ZW (by omega) (by omega)
  have e10 : W ((W ((ZB x.Doc.ZH (ZA x.Doc.ZE (W ((W ((W (k + 1)) + 1)) + 1))).2).2 + 1)) + 1) = (W ((ZB x.Doc.ZH (ZA x.Doc.ZE (W ((W ((W (k + 1)) + 1)) + 1))).2).2 + 1)) + 1 := ZW (by omega) (by omega)
  have e11 : W ((W ((W ((ZB x.Doc.ZH (ZA x.Doc.ZE (W ((W ((W (k + 1)) + 1)) + 1))).2).2 + 1)) + 1)) + 1) = (W ((W ((ZB x.Doc.ZH (ZA x.Doc.ZE (W ((W ((W (k + 1)) + 1)) + 1))).2).2 + 1)) + 1)) + 1 := ZW (by omega) (by omega)
  have e12 : W ((W ((W ((W ((ZB x.Doc.ZH (ZA x.Doc.ZE (W ((W ((W (k + 1)) + 1)) + 1))).2).2 + 1)) + 1)) + 1)) + 1) = (W ((W ((W ((ZB x.Doc.ZH (ZA x.Doc.ZE (W ((W ((W (k + 1)) + 1)) + 1))).2).2 + 1)) + 1)) + 1)) + 1 := ZW (by omega) (by omega)
  have e13 : W ((W ((W ((W ((W ((ZB x.Doc.ZH (ZA x.Doc.ZE (W ((W ((W (k + 1)) + 1)) + 1))).2).2 + 1)) + 1)) + 1)) + 1)) + 1) = (W ((W ((W ((W ((ZB x.Doc.ZH (ZA x.Doc.ZE (W ((W ((W (k + 1)) + 1)) + 1))).2).2 + 1)) + 1)) + 1)) + 1)) + 1 := ZW (by omega) (by omega)
  have e14 : W ((W ((W ((W ((W ((W ((ZB x.Doc.ZH (ZA x.Doc.ZE (W ((W ((W (k + 1)) + 1)) + 1))).2).2 + 1)) + 1)) + 1)) + 1)) + 1)) + 1) = (W ((W ((W ((W ((W ((ZB x.Doc.ZH (ZA x.Doc.ZE (W ((W ((W (k + 1)) + 1)) + 1))).2).2 + 1)) + 1)) + 1)) + 1)) + 1)) + 1 := ZW (by omega) (by omega)
  have e15 : W ((W ((W ((W ((W ((W ((W ((ZB x.Doc.ZH (ZA x.Doc.ZE (W ((W ((W (k + 1)) + 1)) + 1))).2).2 + 1)) + 1)) + 1)) + 1)) + 1)) + 1)) + 1) = (W ((W ((W ((W ((W ((W ((ZB x.Doc.ZH (ZA x.Doc.ZE (W ((W ((W (k + 1)) + 1)) + 1))).2).2 + 1)) + 1)) + 1)) + 1)) + 1)) + 1)) + 1 := ZW (by omega) (by omega)
  have e16 : W ((W ((W ((W ((W ((W ((W ((W ((ZB x.Doc.ZH (ZA x.Doc.ZE (W ((W ((W (k + 1)) + 1)) + 1))).2).2 + 1)) + 1)) + 1)) + 1)) + 1)) + 1)) + 1)) + 1) = (W ((W ((W ((W ((W ((W ((W ((ZB x.Doc.ZH (ZA x.Doc.ZE (W ((W ((W (k + 1)) + 1)) + 1))).2).2 + 1)) + 1)) + 1)) + 1)) + 1)) + 1)) + 1)) + 1 := ZW (by omega) (by omega)
  have e17 : W ((W ((W ((W ((W ((W ((W ((W ((W ((ZB x.Doc.ZH (ZA x.Doc.ZE (W ((W ((W (k + 1)) + 1)) + 1))).2).2 + 1)) + 1)) + 1)) + 1)) + 1)) + 1)) + 1)) + 1)) + 1) = (W ((W ((W ((W ((W ((W ((W ((W ((ZB x.Doc.ZH (ZA x.Doc.ZE (W ((W ((W (k + 1)) + 1)) + 1))).2).2 + 1)) + 1)) + 1)) + 1)) + 1)) + 1)) + 1)) + 1)) + 1 := ZW (by omega) (by omega)
  obtain ⟨m18, n18⟩ := Rs x.ZL.ZO (W ((W ((W ((W ((W ((W ((W ((W ((W ((ZB x.Doc.ZH (ZA x.Doc.ZE (W ((W ((W (k + 1)) + 1)) + 1))).2).2 + 1)) + 1)) + 1)) + 1)) + 1)) + 1)) + 1)) + 1)) + 1)) (by omega) (by omega)
  have q18 := xD x.ZL.ZO (W ((W ((W ((W ((W ((W ((W ((W ((W ((ZB x.Doc.ZH (ZA x.Doc.ZE (W ((W ((W (k + 1)) + 1)) + 1))).2).2 + 1)) + 1)) + 1)) + 1)) + 1)) + 1)) + 1)) + 1)) + 1)) (by omega) (by omega)
  have o18 : ¬ (Zd x.ZL.ZO (W ((W ((W ((W ((W ((W ((W ((W ((W ((ZB x.Doc.ZH (ZA x.Doc.ZE (W ((W ((W (k + 1)) + 1)) + 1))).2).2 + 1)) + 1)) + 1)) + 1)) + 1)) + 1)) + 1)) + 1)) + 1))).2 < 0 := by omega
  obtain ⟨m21, n21⟩ := Tw x.ZL.ZX (Zd x.ZL.ZO (W ((W ((W ((W ((W ((W ((W ((W ((W ((ZB x.Doc.ZH (ZA x.Doc.ZE (W ((W ((W (k + 1)) + 1)) + 1))).2).2 + 1)) + 1)) + 1)) + 1)) + 1)) + 1)) + 1)) + 1)) + 1))).2 (by omega) (by omega)
  have q21 := ze x.ZL.ZX (Zd x.ZL.ZO (W ((W ((W ((W ((W ((W ((W ((W ((W ((ZB x.Doc.ZH (ZA x.Doc.ZE (W ((W ((W (k + 1)) + 1)) + 1))).2).2 + 1)) + 1)) + 1)) + 1)) + 1)) + 1)) + 1)) + 1)) + 1))).2 (by omega) (by omega)
  have o21 : ¬ (Zj x.ZL.ZX (Zd x.ZL.ZO (W ((W ((W ((W ((W ((W ((W ((W ((W ((ZB x.Doc.ZH (ZA x.Doc.ZE (W ((W ((W (k + 1)) + 1)) + 1))).2).2 + 1)) + 1)) + 1)) + 1)) + 1)) + 1)) + 1)) + 1)) + 1))).2).2 < 0 := by omega
  omega
theorem qE (a0 : List ZY) (a1 : Int) (h0 : 0 ≤ a1) (h : a1 + (cn a0 : Nat) < 4611686018427387904) : (Z1 a0 a1).2 = a1 + (cn a0 : Nat) := by
  rw [qy]
  exact Xs kD a0 a1 h0 h
theorem P3 (a0 : List ZY) (a1 : Int) (h0 : 0 ≤ a1) (h : a1 + (cn a0 : Nat) < 4611686018427387904) : a1 ≤ (Z1 a0 a1).2 ∧ (Z1 a0 a1).2 ≤ a1 + (cn a0 : Nat) := by
  have := qE a0 a1 h0 h
  omega
theorem MR : ∀ (x : ZY) (k : Int) (r : Int → Sum Int Int), 0 ≤ k → k + (cn x : Nat) < 4611686018427387904 → (fun (x : ZY) (k : Int) (r : Int → Sum Int Int) => (bif (x.Id != k) then (.inl (-1)) else (bif (x.Y8 != (W (k + 1))) then (.inl (-1)) else (bif (x.Doc.K9 != (W ((W (k + 1)) + 1))) then (.inl (-1)) else (bif (decide ((Zf x.Doc.ZE (W ((W ((W (k + 1)) + 1)) + 1))) < 0)) then (.inl (-1)) else (bif (decide ((Zb x.Doc.ZH (Zf x.Doc.ZE (W ((W ((W (k + 1)) + 1)) + 1)))) < 0)) then (.inl (-1)) else (bif (x.Sig.Key != (Zb x.Doc.ZH (Zf x.Doc.ZE (W ((W ((W (k + 1)) + 1)) + 1))))) then (.inl (-1)) else (bif (x.Sig.QY != (W ((Zb x.Doc.ZH (Zf x.Doc.ZE (W ((W ((W (k + 1)) + 1)) + 1)))) + 1))) then (.inl (-1)) else (bif (x.Sig.Method != (W ((W ((Zb x.Doc.ZH (Zf x.Doc.ZE (W ((W ((W (k + 1)) + 1)) + 1)))) + 1)) + 1))) then (.inl (-1)) else (bif (x.Sig.Yz != (W ((W ((W ((Zb x.Doc.ZH (Zf x.Doc.ZE (W ((W ((W (k + 1)) + 1)) + 1)))) + 1)) + 1)) + 1))) then (.inl (-1)) else (bif (x.Sig.zj != (W ((W ((W ((W ((Zb x.Doc.ZH (Zf x.Doc.ZE (W ((W ((W (k + 1)) + 1)) + 1)))) + 1)) + 1)) + 1)) + 1))) then (.inl (-1)) else (bif (x.Sig.Org != (W ((W ((W ((W ((W ((Zb x.Doc.ZH (Zf x.Doc.ZE (W ((W ((W (k + 1)) + 1)) + 1)))) + 1)) + 1)) + 1)) + 1)) + 1))) then (.inl (-1)) else (bif (x.Sig.KU != (W ((W ((W ((W ((W ((W ((Zb x.Doc.ZH (Zf x.Doc.ZE (W ((W ((W (k + 1)) + 1)) + 1)))) + 1)) + 1)) + 1)) + 1)) + 1)) + 1))) then (.inl (-1)) else (bif (x.Sig.yw != (W ((W ((W ((W ((W ((W ((W ((Zb x.Doc.ZH (Zf x.Doc.ZE (W ((W ((W (k + 1)) + 1)) + 1)))) + 1)) + 1)) + 1)) + 1)) + 1)) + 1)) + 1))) then (.inl (-1)) else (bif (x.Sig.Mark != (W ((W ((W ((W ((W ((W ((W ((W ((Zb x.Doc.ZH (Zf x.Doc.ZE (W ((W ((W (k + 1)) + 1)) + 1)))) + 1)) + 1)) + 1)) + 1)) + 1)) + 1)) + 1)) + 1))) then (.inl (-1)) else (bif (decide ((XQ x.ZL.ZO (W ((W ((W ((W ((W ((W ((W ((W ((W ((Zb x.Doc.ZH (Zf x.Doc.ZE (W ((W ((W (k + 1)) + 1)) + 1)))) + 1)) + 1)) + 1)) + 1)) + 1)) + 1)) + 1)) + 1)) + 1))) < 0)) then (.inl (-1)) else (bif (decide ((Xl x.ZL.ZX (XQ x.ZL.ZO (W ((W ((W ((W ((W ((W ((W ((W ((W ((Zb x.Doc.ZH (Zf x.Doc.ZE (W ((W ((W (k + 1)) + 1)) + 1)))) + 1)) + 1)) + 1)) + 1)) + 1)) + 1)) + 1)) + 1)) + 1)))) < 0)) then (.inl (-1)) else (r (Xl x.ZL.ZX (XQ x.ZL.ZO (W ((W ((W ((W ((W ((W ((W ((W ((W ((Zb x.Doc.ZH (Zf x.Doc.ZE (W ((W ((W (k + 1)) + 1)) + 1)))) + 1)) + 1)) + 1)) + 1)) + 1)) + 1)) + 1)) + 1)) + 1)))))))))))))))))))))) ((fun (x : ZY) (k : Int) => ((ZY.mk k (W (k + 1)) (ZV.mk (W ((W (k + 1)) + 1)) (ZA x.Doc.ZE (W ((W ((W (k + 1)) + 1)) + 1))).1 (ZB x.Doc.ZH (ZA x.Doc.ZE (W ((W ((W (k + 1)) + 1)) + 1))).2).1) (Zh.mk (ZB x.Doc.ZH (ZA x.Doc.ZE (W ((W ((W (k + 1)) + 1)) + 1))).2).2 (W ((ZB x.Doc.ZH (ZA x.Doc.ZE (W ((W ((W (k + 1)) + 1)) + 1))).2).2 + 1)) (W ((W ((ZB x.Doc.ZH (ZA x.Doc.ZE (W ((W ((W (k + 1)) + 1)) + 1))).2).2 + 1)) + 1)) (W ((W ((W ((ZB x.Doc.ZH (ZA x.Doc.ZE (W ((W ((W (k + 1)) + 1)) + 1))).2).2 + 1)) + 1)) + 1)) (W ((W ((W ((W ((ZB x.Doc.ZH (ZA x.Doc.ZE (W ((W ((W (k + 1)) + 1)) + 1))).2).2 + 1)) + 1)) + 1)) + 1)) (W ((W ((W ((W ((W ((ZB x.Doc.ZH (ZA x.Doc.ZE (W ((W ((W (k + 1)) + 1)) + 1))).2).2 + 1)) + 1)) + 1)) + 1)) + 1)) (W ((W ((W ((W ((W ((W ((ZB x.Doc.ZH (ZA x.Doc.ZE (W ((W ((W (k + 1)) + 1)) + 1))).2).2 + 1)) + 1)) + 1)) + 1)) + 1)) + 1)) (W ((W ((W ((W ((W ((W ((W ((ZB x.Doc.ZH (ZA x.Doc.ZE (W ((W ((W (k + 1)) + 1)) + 1))).2).2 + 1)) + 1)) + 1)) + 1)) + 1)) + 1)) + 1)) (W ((W ((W ((W ((W ((W ((W ((W ((ZB x.Doc.ZH (ZA x.Doc.ZE (W ((W ((W (k + 1)) + 1)) + 1))).2).2 + 1)) + 1)) + 1)) + 1)) + 1)) + 1)) + 1)) + 1))) (Za.mk (Zd x.ZL.ZO (W ((W ((W ((W ((W ((W ((W ((W ((W ((ZB x.Doc.ZH (ZA x.Doc.ZE (W ((W ((W (k + 1)) + 1)) + 1))).2).2 + 1)) + 1)) + 1)) + 1)) + 1)) + 1)) + 1)) + 1)) + 1))).1 (Zj x.ZL.ZX (Zd x.ZL.ZO (W ((W ((W ((W ((W ((W ((W ((W ((W ((ZB x.Doc.ZH (ZA x.Doc.ZE (W ((W ((W (k + 1)) + 1)) + 1))).2).2 + 1)) + 1)) + 1)) + 1)) + 1)) + 1)) + 1)) + 1)) + 1))).2).1)), (Zj x.ZL.ZX (Zd x.ZL.ZO (W ((W ((W ((W ((W ((W ((W ((W ((W ((ZB x.Doc.ZH (ZA x.Doc.ZE (W ((W ((W (k + 1)) + 1)) + 1))).2).2 + 1)) + 1)) + 1)) + 1)) + 1)) + 1)) + 1)) + 1)) + 1))).2).2)) x k).1 k r = r ((fun (x : ZY) (k : Int) => ((ZY.mk k (W (k + 1)) (ZV.mk (W ((W (k + 1)) + 1)) (ZA x.Doc.ZE (W ((W ((W (k + 1)) + 1)) + 1))).1 (ZB x.Doc.ZH (ZA x.Doc.ZE (W ((W ((W (k + 1)) + 1)) + 1))).2).1) (Zh.mk (ZB x.Doc.ZH (ZA x.Doc.ZE (W ((W ((W (k + 1)) + 1)) + 1))).2).2 (W ((ZB x.Doc.ZH (ZA x.Doc.ZE (W ((W ((W (k + 1)) + 1)) + 1))).2).2 + 1)) (W ((W ((ZB x.Doc.ZH (ZA x.Doc.ZE (W ((W ((W (k + 1)) + 1)) + 1))).2).2 + 1)) + 1)) (W ((W ((W ((ZB x.Doc.ZH (ZA x.Doc.ZE (W ((W ((W (k + 1)) + 1)) + 1))).2).2 + 1)) + 1)) + 1)) (W ((W ((W ((W ((ZB x.Doc.ZH (ZA x.Doc.ZE (W ((W ((W (k + 1)) + 1)) + 1))).2).2 + 1)) + 1)) + 1)) + 1)) (W ((W ((W ((W ((W ((ZB x.Doc.ZH (ZA x.Doc.ZE (W ((W ((W (k + 1)) + 1)) + 1))).2).2 + 1)) + 1)) + 1)) + 1)) + 1)) (W ((W ((W ((W ((W ((W ((ZB x.Doc.ZH (ZA x.Doc.ZE (W ((W ((W (k + 1)) + 1)) + 1))).2).2 + 1)) + 1)) + 1)) + 1)) + 1)) + 1)) (W ((W ((W ((W ((W ((W ((W ((ZB x.Doc.ZH (ZA x.Doc.ZE (W ((W ((W (k + 1)) + 1)) + 1))).2).2 + 1)) + 1)) + 1)) + 1)) + 1)) + 1)) + 1)) (W ((W ((W ((W ((W ((W ((W ((W ((ZB x.Doc.ZH (ZA x.Doc.ZE (W ((W ((W (k + 1)) + 1)) + 1))).2).2 + 1)) + 1)) + 1)) + 1)) + 1)) + 1)) + 1)) + 1))) (Za.mk (Zd x.ZL.ZO (W ((W ((W ((W ((W ((W ((W ((W ((W ((ZB x.Doc.ZH (ZA x.Doc.ZE (W ((W ((W (k + 1)) + 1)) + 1))).2).2 + 1)) + 1)) + 1)) + 1)) + 1)) + 1)) + 1)) + 1)) + 1))).1 (Zj x.ZL.ZX (Zd x.ZL.ZO (W ((W ((W ((W ((W ((W ((W ((W ((W ((ZB x.Doc.ZH (ZA x.Doc.ZE (W ((W ((W (k + 1)) + 1)) + 1))).2).2 + 1)) + 1)) + 1)) + 1)) + 1)) + 1)) + 1)) + 1)) + 1))).2).1)), (Zj x.ZL.ZX (Zd x.ZL.ZO (W ((W ((W ((W ((W ((W ((W ((W ((W ((ZB x.Doc.ZH (ZA x.Doc.ZE (W ((W ((W (k + 1)) + 1)) + 1))).2).2 + 1)) + 1)) + 1)) + 1)) + 1)) + 1)) + 1)) + 1)) + 1))).2).2)) x k).2 := by
  intro x k r h0 h
  simp only [XL, XC, KS, XW, ZY.Yn, ZV.Yn, Za.Yn, Zh.Yn] at h
  have e0 : W (k + 1) = k + 1 := ZW (by omega) (by omega)
  have e1 : W ((W (k + 1)) + 1) = (W (k + 1)) + 1 := ZW (by omega) (by omega)
  have e2 : W ((W ((W (k + 1)) + 1)) + 1) = (W ((W (k + 1)) + 1)) + 1 := ZW (by omega) (by omega)
  obtain ⟨m3, n3, h3⟩ := SX x.Doc.ZE (W ((W ((W (k + 1)) + 1)) + 1)) (by omega) (by omega)
  have q3 := yN x.Doc.ZE (W ((W ((W (k + 1)) + 1)) + 1)) (by omega) (by omega)
  have o3 : ¬ (ZA x.Doc.ZE (W ((W ((W (k + 1)) + 1)) + 1))).2 < 0 := by omega
  obtain ⟨m6, n6, h6⟩ := Je x.Doc.ZH (ZA x.Doc.ZE (W ((W ((W (k + 1)) + 1)) + 1))).2 (by omega) (by omega)
  have q6 := X3 x.Doc.ZH (ZA x.Doc.ZE (W ((W ((W (k + 1)) + 1)) + 1))).2 (by omega) (by omega)
  have o6 : ¬ (ZB x.Doc.ZH (ZA x.Doc.ZE (W ((W ((W (k + 1)) + 1)) + 1))).2).2 < 0 := by omega
  have e9 : W ((ZB x.Doc.ZH (ZA x.Doc.ZE (W ((W ((W (k + 1)) + 1)) + 1))).2).2 + 1) = (ZB x.Doc.ZH (ZA x.Doc.ZE (W ((W ((W (k + 1)) + 1)) + 1))).2).2 + 1 := ZW (by omega) (by omega)
  have e10 : W ((W ((ZB x.Doc.ZH (ZA x.Doc.ZE (W ((W ((W (k + 1)) + 1)) + 1))).2).2 + 1)) + 1) = (W ((ZB x.Doc.ZH (ZA x.Doc.ZE (W ((W ((W (k + 1)) + 1)) + 1))).2).2 + 1)) + 1 := ZW (by omega) (by omega)
  have e11 : W ((W ((W ((ZB x.Doc.ZH (ZA x.Doc.ZE (W ((W ((W (k + 1)) + 1)) + 1))).2).2 + 1)) + 1)) + 1) = (W ((W ((ZB x.Doc.ZH (ZA x.Doc.ZE (W ((W ((W (k + 1)) + 1)) + 1))).2).2 + 1)) + 1)) + 1 := ZW (by omega) (by omega)
  have e12 : W ((W ((W ((W ((ZB x.Doc.ZH (ZA x.Doc.ZE (W ((W ((W (k + 1)) + 1)) + 1))).2).2 + 1)) + 1)) + 1)) + 1) = (W ((W ((W ((ZB x.Doc.ZH (ZA x.Doc.ZE (W ((W ((W (k + 1)) + 1)) + 1))).2).2 + 1)) + 1)) + 1)) + 1 := ZW (by omega) (by omega)
  have e13 : W ((W ((W ((W ((W ((ZB x.Doc.ZH (ZA x.Doc.ZE (W ((W ((W (k + 1)) + 1)) + 1))).2).2 + 1)) + 1)) + 1)) + 1)) + 1) = (W ((W ((W ((W ((ZB x.Doc.ZH (ZA x.Doc.ZE (W ((W ((W (k + 1)) + 1)) + 1))).2).2 + 1)) + 1)) + 1)) + 1)) + 1 := ZW (by omega) (by omega)
  have e14 : W ((W ((W ((W ((W ((W ((ZB x.Doc.ZH (ZA x.Doc.ZE (W ((W ((W (k + 1)) + 1)) + 1))).2).2 + 1)) + 1)) + 1)) + 1)) + 1)) + 1) = (W ((W ((W ((W ((W ((ZB x.Doc.ZH (ZA x.Doc.ZE (W ((W ((W (k + 1)) + 1)) + 1))).2).2 + 1)) + 1)) + 1)) + 1)) + 1)) + 1 := ZW (by omega) (by omega)
  have e15 : W ((W ((W ((W ((W ((W ((W ((ZB x.Doc.ZH (ZA x.Doc.ZE (W ((W ((W (k + 1)) + 1)) + 1))).2).2 + 1)) + 1)) + 1)) + 1)) + 1)) + 1)) + 1) = (W ((W ((W ((W ((W ((W ((ZB x.Doc.ZH (ZA x.Doc.ZE (W ((W ((W (k + 1)) + 1)) + 1))).2).2 + 1)) + 1)) + 1)) + 1)) + 1)) + 1)) + 1 := ZW (by omega) (by omega)
  have e16 : W ((W ((W ((W ((W ((W ((W ((W ((ZB x.Doc.ZH (ZA x.Doc.ZE (W ((W ((W (k + 1)) + 1)) + 1))).2).2 + 1)) + 1)) + 1)) + 1)) + 1)) + 1)) + 1)) + 1) = (W ((W ((W ((W ((W ((W ((W ((ZB x.Doc.ZH (ZA x.Doc.ZE (W ((W ((W (k + 1)) + 1)) + 1))).2).2 + 1)) + 1)) + 1)) + 1)) + 1)) + 1)) + 1)) + 1 := ZW (by omega) (by omega)
  have e17 : W ((W ((W ((W ((W ((W ((W ((W ((W ((ZB x.Doc.ZH (ZA x.Doc.ZE (W ((W ((W (k + 1)) + 1)) + 1))).2).2 + 1)) + 1)) + 1)) + 1)) + 1)) + 1)) + 1)) + 1)) + 1) = (W ((W ((W ((W ((W ((W ((W ((W ((ZB x.Doc.ZH (ZA x.Doc.ZE (W ((W ((W (k + 1)) + 1)) + 1))).2).2 + 1)) + 1)) + 1)) + 1)) + 1)) + 1)) + 1)) + 1)) + 1 := ZW (by omega) (by omega)
  obtain ⟨m18, n18, h18⟩ := Ru x.ZL.ZO (W ((W ((W ((W ((W ((W ((W ((W ((W ((ZB x.Doc.ZH (ZA x.Doc.ZE (W ((W ((W (k + 1)) + 1)) + 1))).2).2 + 1)) + 1)) + 1)) + 1)) + 1)) + 1)) + 1)) + 1)) + 1)) (by omega) (by omega)
  have q18 := xD x.ZL.ZO (W ((W ((W ((W ((W ((W ((W ((W ((W ((ZB x.Doc.ZH (ZA x.Doc.ZE (W ((W ((W (k + 1)) + 1)) + 1))).2).2 + 1)) + 1)) + 1)) + 1)) + 1)) + 1)) + 1)) + 1)) + 1)) (by omega) (by omega)
  have o18 : ¬ (Zd x.ZL.ZO (W ((W ((W ((W ((W ((W ((W ((W ((W ((ZB x.Doc.ZH (ZA x.Doc.ZE (W ((W ((W (k + 1)) + 1)) + 1))).2).2 + 1)) + 1)) + 1)) + 1)) + 1)) + 1)) + 1)) + 1)) + 1))).2 < 0 := by omega
  obtain ⟨m21, n21, h21⟩ := Te x.ZL.ZX (Zd x.ZL.ZO (W ((W ((W ((W ((W ((W ((W ((W ((W ((ZB x.Doc.ZH (ZA x.Doc.ZE (W ((W ((W (k + 1)) + 1)) + 1))).2).2 + 1)) + 1)) + 1)) + 1)) + 1)) + 1)) + 1)) + 1)) + 1))).2 (by omega) (by omega)
  have q21 := ze x.ZL.ZX (Zd x.ZL.ZO (W ((W ((W ((W ((W ((W ((W ((W ((W ((ZB x.Doc.ZH (ZA x.Doc.ZE (W ((W ((W (k + 1)) + 1)) + 1))).2).2 + 1)) + 1)) + 1)) + 1)) + 1)) + 1)) + 1)) + 1)) + 1))).2 (by omega) (by omega)
  have o21 : ¬ (Zj x.ZL.ZX (Zd x.ZL.ZO (W ((W ((W ((W ((W ((W ((W ((W ((W ((ZB x.Doc.ZH (ZA x.Doc.ZE (W ((W ((W (k + 1)) + 1)) + 1))).2).2 + 1)) + 1)) + 1)) + 1)) + 1)) + 1)) + 1)) + 1)) + 1))).2).2 < 0 := by omega
  simp [h3, h6, h18, h21, o3, o6, o18, o21]
theorem Pv (a0 : List ZY) (a1 : Int) (h0 : 0 ≤ a1) (h : a1 + (cn a0 : Nat) < 4611686018427387904) : a1 ≤ (Z1 a0 a1).2 ∧ (Z1 a0 a1).2 ≤ a1 + (cn a0 : Nat) ∧ Qp (Z1 a0 a1).1 a1 = (Z1 a0 a1).2 := by
  rw [qy]
  have s := Xs kD a0 a1 h0 h
  have hh := JB (z := (mkL (fun (x : ZY) (k : Int) => ((ZY.mk k (W (k + 1)) (ZV.mk (W ((W (k + 1)) + 1)) (ZA x.Doc.ZE (W ((W ((W (k + 1)) + 1)) + 1))).1 (ZB x.Doc.ZH (ZA x.Doc.ZE (W ((W ((W (k + 1)) + 1)) + 1))).2).1) (Zh.mk (ZB x.Doc.ZH (ZA x.Doc.ZE (W ((W ((W (k + 1)) + 1)) + 1))).2).2 (W ((ZB x.Doc.ZH (ZA x.Doc.ZE (W ((W ((W (k + 1)) + 1)) + 1))).2).2 + 1)) (W ((W ((ZB x.Doc.ZH (ZA x.Doc.ZE (W ((W ((W (k + 1)) + 1)) + 1))).2).2 + 1)) + 1)) (W ((W ((W ((ZB x.Doc.ZH (ZA x.Doc.ZE (W ((W ((W (k + 1)) + 1)) + 1))).2).2 + 1)) + 1)) + 1)) (W ((W ((W ((W ((ZB x.Doc.ZH (ZA x.Doc.ZE (W ((W ((W (k + 1)) + 1)) + 1))).2).2 + 1)) + 1)) + 1)) + 1)) (W ((W ((W ((W ((W ((ZB x.Doc.ZH (ZA x.Doc.ZE (W ((W ((W (k + 1)) + 1)) + 1))).2).2 + 1)) + 1)) + 1)) + 1)) + 1)) (W ((W ((W ((W ((W ((W ((ZB x.Doc.ZH (ZA x.Doc.ZE (W ((W ((W (k + 1)) + 1)) + 1))).2).2 + 1)) + 1)) + 1)) + 1)) + 1)) + 1)) (W ((W ((W ((W ((W ((W ((W ((ZB x.Doc.ZH (ZA x.Doc.ZE (W ((W ((W (k + 1)) + 1)) + 1))).2).2 + 1)) + 1)) + 1)) + 1)) + 1)) + 1)) + 1)) (W ((W ((W ((W ((W ((W ((W ((W ((ZB x.Doc.ZH (ZA x.Doc.ZE (W ((W ((W (k + 1)) + 1)) + 1))).2).2 + 1)) + 1)) + 1)) + 1)) + 1)) + 1)) + 1)) + 1))) (Za.mk (Zd x.ZL.ZO (W ((W ((W ((W ((W ((W ((W ((W ((W ((ZB x.Doc.ZH (ZA x.Doc.ZE (W ((W ((W (k + 1)) + 1)) + 1))).2).2 + 1)) + 1)) + 1)) + 1)) + 1)) + 1)) + 1)) + 1)) + 1))).1 (Zj x.ZL.ZX (Zd x.ZL.ZO (W ((W ((W ((W ((W ((W ((W ((W ((W ((ZB x.Doc.ZH (ZA x.Doc.ZE (W ((W ((W (k + 1)) + 1)) + 1))).2).2 + 1)) + 1)) + 1)) + 1)) + 1)) + 1)) + 1)) + 1)) + 1))).2).1)), (Zj x.ZL.ZX (Zd x.ZL.ZO (W ((W ((W ((W ((W ((W ((W ((W ((W ((ZB x.Doc.ZH (ZA x.Doc.ZE (W ((W ((W (k + 1)) + 1)) + 1))).2).2 + 1)) + 1)) + 1)) + 1)) + 1)) + 1)) + 1)) + 1)) + 1))).2).2)) a0 a1).1) (H := xL (mkL (fun (x : ZY) (k : Int) => ((ZY.mk k (W (k + 1)) (ZV.mk (W ((W (k + 1)) + 1)) (ZA x.Doc.ZE (W ((W ((W (k + 1)) + 1)) + 1))).1 (ZB x.Doc.ZH (ZA x.Doc.ZE (W ((W ((W (k + 1)) + 1)) + 1))).2).1) (Zh.mk (ZB x.Doc.ZH (ZA x.Doc.ZE (W ((W ((W (k + 1)) + 1)) + 1))).2).2 (W ((ZB x.Doc.ZH (ZA x.Doc.ZE (W ((W ((W (k + 1)) + 1)) + 1))).2).2 + 1)) (W ((W ((ZB x.Doc.ZH (ZA x.Doc.ZE (W ((W ((W (k + 1)) + 1)) + 1))).2).2 + 1)) + 1)) (W ((W ((W ((ZB x.Doc.ZH (ZA x.Doc.ZE (W ((W ((W (k + 1)) + 1)) + 1))).2).2 + 1)) + 1)) + 1)) (W ((W ((W ((W ((ZB x.Doc.ZH (ZA x.Doc.ZE (W ((W ((W (k + 1)) + 1)) + 1))).2).2 + 1)) + 1)) + 1)) + 1)) (W ((W ((W ((W ((W ((ZB x.Doc.ZH (ZA x.Doc.ZE (W ((W ((W (k + 1)) + 1)) + 1))).2).2 + 1)) + 1)) + 1)) + 1)) + 1)) (W ((W ((W ((W ((W ((W ((ZB x.Doc.ZH (ZA x.Doc.ZE (W ((W ((W (k + 1)) + 1)) + 1))).2).2 + 1)) + 1)) + 1)) + 1)) + 1)) + 1)) (W ((W ((W ((W ((W ((W ((W ((ZB x.Doc.ZH (ZA x.Doc.ZE (W ((W ((W (k + 1)) + 1)) + 1))).2).2 + 1)) + 1)) + 1)) + 1)) + 1)) + 1)) + 1)) (W ((W ((W ((W ((W ((W ((W ((W ((ZB x.Doc.ZH (ZA x.Doc.ZE (W ((W ((W (k + 1)) + 1)) + 1))).2).2 + 1)) + 1)) + 1)) + 1)) + 1)) + 1)) + 1)) + 1))) (Za.mk (Zd x.ZL.ZO (W ((W ((W ((W ((W ((W ((W ((W ((W ((ZB x.Doc.ZH (ZA x.Doc.ZE (W ((W ((W (k + 1)) + 1)) + 1))).2).2 + 1)) + 1)) + 1)) + 1)) + 1)) + 1)) + 1)) + 1)) + 1))).1 (Zj x.ZL.ZX (Zd x.ZL.ZO (W ((W ((W ((W ((W ((W ((W ((W ((W ((ZB x.Doc.ZH (ZA x.Doc.ZE (W ((W ((W (k + 1)) + 1)) + 1))).2).2 + 1)) + 1)) + 1)) + 1)) + 1)) + 1)) + 1)) + 1)) + 1))).2).1)), (Zj x.ZL.ZX (Zd x.ZL.ZO (W ((W ((W ((W ((W ((W ((W ((W ((W ((ZB x.Doc.ZH (ZA x.Doc.ZE (W ((W ((W (k + 1)) + 1)) + 1))).2).2 + 1)) + 1)) + 1)) + 1)) + 1)) + 1)) + 1)) + 1)) + 1))).2).2)) a0 a1).1) (G := (fun (x : ZY) (k : Int) (r : Int → Sum Int Int) => (bif (x.Id != k) then (.inl (-1)) else (bif (x.Y8 != (W (k + 1))) then (.inl (-1)) else (bif (x.Doc.K9 != (W ((W (k + 1)) + 1))) then (.inl (-1)) else (bif (decide ((Zf x.Doc.ZE (W ((W ((W (k + 1)) + 1)) + 1))) < 0)) then (.inl (-1)) else (bif (decide ((Zb x.Doc.ZH (Zf x.Doc.ZE (W ((W ((W (k + 1)) + 1)) + 1)))) < 0)) then (.inl (-1)) else (bif (x.Sig.Key != (Zb x.Doc.ZH (Zf x.Doc.ZE (W ((W ((W (k + 1)) + 1)) + 1))))) then (.inl (-1)) else (bif (x.Sig.QY != (W ((Zb x.Doc.ZH (Zf x.Doc.ZE (W ((W ((W (k + 1)) + 1)) + 1)))) + 1))) then (.inl (-1)) else (bif (x.Sig.Method != (W ((W ((Zb x.Doc.ZH (Zf x.Doc.ZE (W ((W ((W (k + 1)) + 1)) + 1)))) + 1)) + 1))) then (.inl (-1)) else (bif (x.Sig.Yz != (W ((W ((W ((Zb x.Doc.ZH (Zf x.Doc.ZE (W ((W ((W (k + 1)) + 1)) + 1)))) + 1)) + 1)) + 1))) then (.inl (-1)) else (bif (x.Sig.zj != (W ((W ((W ((W ((Zb x.Doc.ZH (Zf x.Doc.ZE (W ((W ((W (k + 1)) + 1)) + 1)))) + 1)) + 1)) + 1)) + 1))) then (.inl (-1)) else (bif (x.Sig.Org != (W ((W ((W ((W ((W ((Zb x.Doc.ZH (Zf x.Doc.ZE (W ((W ((W (k + 1)) + 1)) + 1)))) + 1)) + 1)) + 1)) + 1)) + 1))) then (.inl (-1)) else (bif (x.Sig.KU != (W ((W ((W ((W ((W ((W ((Zb x.Doc.ZH (Zf x.Doc.ZE (W ((W ((W (k + 1)) + 1)) + 1)))) + 1)) + 1)) + 1)) + 1)) + 1)) + 1))) then (.inl (-1)) else (bif (x.Sig.yw != (W ((W ((W ((W ((W ((W ((W ((Zb x.Doc.ZH (Zf x.Doc.ZE (W ((W ((W (k + 1)) + 1)) + 1)))) + 1)) + 1)) + 1)) + 1)) + 1)) + 1)) + 1))) then (.inl (-1)) else (bif (x.Sig.Mark != (W ((W ((W ((W ((W ((W ((W ((W ((Zb x.Doc.ZH (Zf x.Doc.ZE (W ((W ((W (k + 1)) + 1)) + 1)))) + 1)) + 1)) + 1)) + 1)) + 1)) + 1)) + 1)) + 1))) then (.inl (-1)) else (bif (decide ((XQ x.ZL.ZO (W ((W ((W ((W ((W ((W ((W ((W ((W ((Zb x.Doc.ZH (Zf x.Doc.ZE (W ((W ((W (k + 1)) + 1)) + 1)))) + 1)) + 1)) + 1)) + 1)) + 1)) + 1)) + 1)) + 1)) + 1))) < 0)) then (.inl (-1)) else (bif (decide ((Xl x.ZL.ZX (XQ x.ZL.ZO (W ((W ((W ((W ((W ((W ((W ((W ((W ((Zb x.Doc.ZH (Zf x.Doc.ZE (W ((W ((W (k + 1)) + 1)) + 1)))) + 1)) + 1)) + 1)) + 1)) + 1)) + 1)) + 1)) + 1)) + 1)))) < 0)) then (.inl (-1)) else (r (Xl x.ZL.ZX (XQ x.ZL.ZO (W ((W ((W ((W ((W ((W ((W ((W ((W ((Zb x.Doc.ZH (Zf x.Doc.ZE (W ((W ((W (k + 1)) + 1)) + 1)))) + 1)) + 1)) + 1)) + 1)) + 1)) + 1)) + 1)) + 1)) + 1))))))))))))))))))))))) (fun _ _ _ => rfl) kD MR a0 [] ((mkL (fun (x : ZY) (k : Int) => ((ZY.mk k (W (k + 1)) (ZV.mk (W ((W (k + 1)) + 1)) (ZA x.Doc.ZE (W ((W ((W (k + 1)) + 1)) + 1))).1 (ZB x.Doc.ZH (ZA x.Doc.ZE (W ((W ((W (k + 1)) + 1)) + 1))).2).1) (Zh.mk (ZB x.Doc.ZH (ZA x.Doc.ZE (W ((W ((W (k + 1)) + 1)) + 1))).2).2 (W ((ZB x.Doc.ZH (ZA x.Doc.ZE (W ((W ((W (k + 1)) + 1)) + 1))).2).2 + 1)) (W ((W ((ZB x.Doc.ZH (ZA x.Doc.ZE (W ((W ((W (k + 1)) + 1)) + 1))).2).2 + 1)) + 1)) (W ((W ((W ((ZB x.Doc.ZH (ZA x.Doc.ZE (W ((W ((W (k + 1)) + 1)) + 1))).2).2 + 1)) + 1)) + 1)) (W ((W ((W ((W ((ZB x.Doc.ZH (ZA x.Doc.ZE (W ((W ((W (k + 1)) + 1)) + 1))).2).2 + 1)) + 1)) + 1)) + 1)) (W ((W ((W ((W ((W ((ZB x.Doc.ZH (ZA x.Doc.ZE (W ((W ((W (k + 1)) + 1)) + 1))).2).2 + 1)) + 1)) + 1)) + 1)) + 1)) (W ((W ((W ((W ((W ((W ((ZB x.Doc.ZH (ZA x.Doc.ZE (W ((W ((W (k + 1)) + 1)) + 1))).2).2 + 1)) + 1)) + 1)) + 1)) + 1)) + 1)) (W ((W ((W ((W ((W ((W ((W ((ZB x.Doc.ZH (ZA x.Doc.ZE (W ((W ((W (k + 1)) + 1)) + 1))).2).2 + 1)) + 1)) + 1)) + 1)) + 1)) + 1)) + 1)) (W ((W ((W ((W ((W ((W ((W ((W ((ZB x.Doc.ZH (ZA x.Doc.ZE (W ((W ((W (k + 1)) + 1)) + 1))).2).2 + 1)) + 1)) + 1)) + 1)) + 1)) + 1)) + 1)) + 1))) (Za.mk (Zd x.ZL.ZO (W ((W ((W ((W ((W ((W ((W ((W ((W ((ZB x.Doc.ZH (ZA x.Doc.ZE (W ((W ((W (k + 1)) + 1)) + 1))).2).2 + 1)) + 1)) + 1)) + 1)) + 1)) + 1)) + 1)) + 1)) + 1))).1 (Zj x.ZL.ZX (Zd x.ZL.ZO (W ((W ((W ((W ((W ((W ((W ((W ((W ((ZB x.Doc.ZH (ZA x.Doc.ZE (W ((W ((W (k + 1)) + 1)) + 1))).2).2 + 1)) + 1)) + 1)) + 1)) + 1)) + 1)) + 1)) + 1)) + 1))).2).1)), (Zj x.ZL.ZX (Zd x.ZL.ZO (W ((W ((W ((W ((W ((W ((W ((W ((W ((ZB x.Doc.ZH (ZA x.Doc.ZE (W ((W ((W (k + 1)) + 1)) + 1))).2).2 + 1)) + 1)) + 1)) + 1)) + 1)) + 1)) + 1)) + 1)) + 1))).2).2)) a0 a1).1.length + 1) a1 (by simp) (by rw [Xq]; omega) h0 h
  simp only [List.length_nil] at hh
  rw [Xf] at *
  refine ⟨by omega, by omega, ?_⟩
  unfold Qp
  rw [hh]
theorem yV (a0 : List ZF) (a1 : Int) : Zv a0 a1 = mkL (fun (x : ZF) (k : Int) => ((ZF.mk k (Z1 x.ZM (W (k + 1))).1), (Z1 x.ZM (W (k + 1))).2)) a0 a1 := by
  have h := Q9 (F := Xy) (f := (fun (x : ZF) (k : Int) => ((ZF.mk k (Z1 x.ZM (W (k + 1))).1), (Z1 x.ZM (W (k + 1))).2))) (fun _ _ _ _ => rfl) a0 [] (a0.length + 1) a1 (by omega)
  unfold Zv
  simp only [List.length_nil, List.nil_append] at h
  rw [h]
@[simp] theorem Gx (a0 : List ZF) (a1 : Int) : (Zv a0 a1).1.length = a0.length := by rw [yV, Xq]
theorem y4 : ∀ (x : ZF) (k : Int), 0 ≤ k → k + (cn x : Nat) < 4611686018427387904 → ((fun (x : ZF) (k : Int) => ((ZF.mk k (Z1 x.ZM (W (k + 1))).1), (Z1 x.ZM (W (k + 1))).2)) x k).2 = k + (cn x : Nat) := by
  intro x k h0 h
  simp only [XL, XC, KS, XW, ZF.Yn] at h ⊢
  have e0 : W (k + 1) = k + 1 := ZW (by omega) (by omega)
  obtain ⟨m1, n1⟩ := P3 x.ZM (W (k + 1)) (by omega) (by omega)
  have q1 := qE x.ZM (W (k + 1)) (by omega) (by omega)
  have o1 : ¬ (Z1 x.ZM (W (k + 1))).2 < 0 := by omega
  omega
theorem Ux (a0 : List ZF) (a1 : Int) (h0 : 0 ≤ a1) (h : a1 + (cn a0 : Nat) < 4611686018427387904) : (Zv a0 a1).2 = a1 + (cn a0 : Nat) := by
  rw [yV]
  exact Xs y4 a0 a1 h0 h
theorem T9 : ∀ (x : ZF) (k : Int) (r : Int → Sum Int Int), 0 ≤ k → k + (cn x : Nat) < 4611686018427387904 → (fun (x : ZF) (k : Int) (r : Int → Sum Int Int) => (bif (x.Id != k) then (.inl (-1)) else (bif (decide ((Qp x.ZM (W (k + 1))) < 0)) then (.inl (-1)) else (r (Qp x.ZM (W (k + 1))))))) ((fun (x : ZF) (k : Int) => ((ZF.mk k (Z1 x.ZM (W (k + 1))).1), (Z1 x.ZM (W (k + 1))).2)) x k).1 k r = r ((fun (x : ZF) (k : Int) => ((ZF.mk k (Z1 x.ZM (W (k + 1))).1), (Z1 x.ZM (W (k + 1))).2)) x k).2 := by
  intro x k r h0 h
  simp only [XL, XC, KS, XW, ZF.Yn] at h
  have e0 : W (k + 1) = k + 1 := ZW (by omega) (by omega)
  obtain ⟨m1, n1, h1⟩ := Pv x.ZM (W (k + 1)) (by omega) (by omega)
  have q1 := qE x.ZM (W (k + 1)) (by omega) (by omega)
  have o1 : ¬ (Z1 x.ZM (W (k + 1))).2 < 0 := by omega
  simp [h1, o1]
theorem Tx (a0 : List ZF) (a1 : Int) (h0 : 0 ≤ a1) (h : a1 + (cn a0 : Nat) < 4611686018427387904) : a1 ≤ (Zv a0 a1).2 ∧ (Zv a0 a1).2 ≤ a1 + (cn a0 : Nat) ∧ XN (Zv a0 a1).1 a1 = (Zv a0 a1).2 := by
  rw [yV]
  have s := Xs y4 a0 a1 h0 h
  have hh := JB (z := (mkL (fun (x : ZF) (k : Int) => ((ZF.mk k (Z1 x.ZM (W (k + 1))).1), (Z1 x.ZM (W (k + 1))).2)) a0 a1).1) (H := K0 (mkL (fun (x : ZF) (k : Int) => ((ZF.mk k (Z1 x.ZM (W (k + 1))).1), (Z1 x.ZM (W (k + 1))).2)) a0 a1).1) (G := (fun (x : ZF) (k : Int) (r : Int → Sum Int Int) => (bif (x.Id != k) then (.inl (-1)) else (bif (decide ((Qp x.ZM (W (k + 1))) < 0)) then (.inl (-1)) else (r (Qp x.ZM (W (k + 1)))))))) (fun _ _ _ => rfl) y4 T9 a0 [] ((mkL (fun (x : ZF) (k : Int) => ((ZF.mk k (Z1 x.ZM (W (k + 1))).1), (Z1 x.ZM (W (k + 1))).2)) a0 a1).1.length + 1) a1 (by simp) (by rw [Xq]; omega) h0 h
  simp only [List.length_nil] at hh
  rw [Xf] at *
  refine ⟨by omega, by omega, ?_⟩
  unfold XN
  rw [hh]
@[simp] theorem P7 (a0 : ZZ) (a1 : Int) : (Ze a0 a1).1.Frame.YV.length = a0.Frame.YV.length := by simp [Ze]
@[simp] theorem Uy (a0 : ZZ) (a1 : Int) : (Ze a0 a1).1.Frame.ZC.length = a0.Frame.ZC.length := by simp [Ze]
@[simp] theorem S3 (a0 : ZZ) (a1 : Int) : (Ze a0 a1).1.Frame.Methods.length = a0.Frame.Methods.length := by simp [Ze]
@[simp] theorem Mq (a0 : ZZ) (a1 : Int) : (Ze a0 a1).1.Frame.zN = a0.Frame.zN := rfl
@[simp] theorem I2 (a0 : ZZ) (a1 : Int) : (Ze a0 a1).1.Frame.Now = a0.Frame.Now := rfl
@[simp] theorem I3 (a0 : ZZ) (a1 : Int) : (Ze a0 a1).1.Zy.length = a0.Zy.length := by simp [Ze]
@[simp] theorem Iz (a0 : ZZ) (a1 : Int) : (Ze a0 a1).1.Z3.length = a0.Z3.length := by simp [Ze]
@[simp] theorem ME (a0 : ZZ) (a1 : Int) : (Ze a0 a1).1.ZI.length = a0.ZI.length := by simp [Ze]
@[simp] theorem GI (a0 : ZZ) (a1 : Int) : (Ze a0 a1).1.YZ.length = a0.YZ.length := by simp [Ze]
@[simp] theorem I0 (a0 : ZZ) (a1 : Int) : (Ze a0 a1).1.Yl.length = a0.Yl.length := by simp [Ze]
@[simp] theorem Ec (a0 : ZZ) (a1 : Int) : (Ze a0 a1).1.Next = a0.Next := rfl
@[simp] theorem Lw (a0 : ZZ) (a1 : Int) : (Ze a0 a1).1.Ym.length = a0.Ym.length := by simp [Ze]
theorem yr (a0 : ZZ) (a1 : Int) (h0 : 0 ≤ a1) (h : a1 + (cn a0 : Nat) < 4611686018427387904) : a1 ≤ (Ze a0 a1).2 ∧ (Ze a0 a1).2 ≤ a1 + (cn a0 : Nat) ∧ QE (Ze a0 a1).1 a1 = (Ze a0 a1).2 := by
  simp only [XL, XC, XW, ZZ.Yn] at h ⊢
  obtain ⟨m0, n0, h0⟩ := OH a0.Frame a1 (by omega) (by omega)
  have o0 : ¬ (Zi a0.Frame a1).2 < 0 := by omega
  obtain ⟨m2, n2, h2⟩ := OV a0.Zy (Zi a0.Frame a1).2 (by omega) (by omega)
  have q2 := R5 a0.Zy (Zi a0.Frame a1).2 (by omega) (by omega)
  have o2 : ¬ (Zw a0.Zy (Zi a0.Frame a1).2).2 < 0 := by omega
  obtain ⟨m5, n5, h5⟩ := Je a0.Z3 (Zw a0.Zy (Zi a0.Frame a1).2).2 (by omega) (by omega)
  have q5 := X3 a0.Z3 (Zw a0.Zy (Zi a0.Frame a1).2).2 (by omega) (by omega)
  have o5 : ¬ (ZB a0.Z3 (Zw a0.Zy (Zi a0.Frame a1).2).2).2 < 0 := by omega
  obtain ⟨m8, n8, h8⟩ := Tx a0.ZI (ZB a0.Z3 (Zw a0.Zy (Zi a0.Frame a1).2).2).2 (by omega) (by omega)
  have q8 := Ux a0.ZI (ZB a0.Z3 (Zw a0.Zy (Zi a0.Frame a1).2).2).2 (by omega) (by omega)
  have o8 : ¬ (Zv a0.ZI (ZB a0.Z3 (Zw a0.Zy (Zi a0.Frame a1).2).2).2).2 < 0 := by omega
  obtain ⟨m11, n11, h11⟩ := Je a0.YZ (Zv a0.ZI (ZB a0.Z3 (Zw a0.Zy (Zi a0.Frame a1).2).2).2).2 (by omega) (by omega)
  have q11 := X3 a0.YZ (Zv a0.ZI (ZB a0.Z3 (Zw a0.Zy (Zi a0.Frame a1).2).2).2).2 (by omega) (by omega)
  have o11 : ¬ (ZB a0.YZ (Zv a0.ZI (ZB a0.Z3 (Zw a0.Zy (Zi a0.Frame a1).2).2).2).2).2 < 0 := by omega
  obtain ⟨m14, n14, h14⟩ := Je a0.Yl (ZB a0.YZ (Zv a0.ZI (ZB a0.Z3 (Zw a0.Zy (Zi a0.Frame a1).2).2).2).2).2 (by omega) (by omega)
  have q14 := X3 a0.Yl (ZB a0.YZ (Zv a0.ZI (ZB a0.Z3 (Zw a0.Zy (Zi a0.Frame a1).2).2).2).2).2 (by omega) (by omega)
  have o14 : ¬ (ZB a0.Yl (ZB a0.YZ (Zv a0.ZI (ZB a0.Z3 (Zw a0.Zy (Zi a0.Frame a1).2).2).2).2).2).2 < 0 := by omega
  obtain ⟨m17, n17, h17⟩ := Je a0.Ym (ZB a0.Yl (ZB a0.YZ (Zv a0.ZI (ZB a0.Z3 (Zw a0.Zy (Zi a0.Frame a1).2).2).2).2).2).2 (by omega) (by omega)
  have q17 := X3 a0.Ym (ZB a0.Yl (ZB a0.YZ (Zv a0.ZI (ZB a0.Z3 (Zw a0.Zy (Zi a0.Frame a1).2).2).2).2).2).2 (by omega) (by omega)
  have o17 : ¬ (ZB a0.Ym (ZB a0.Yl (ZB a0.YZ (Zv a0.ZI (ZB a0.Z3 (Zw a0.Zy (Zi a0.Frame a1).2).2).2).2).2).2).2 < 0 := by omega
  refine ⟨by simp only [Ze]; omega, by simp only [Ze]; omega, ?_⟩
  simp [Ze, QE, h0, h2, h5, h8, h11, h14, h17, o0, o2, o5, o8, o11, o14, o17]
theorem Xu (a0 : List ZJ) (a1 : Int) : ZU a0 a1 < (a0.length : Int) := PX (F := QU a0 a1) (c := fun v1_0 => ((nth a0 v1_0).Id == a1)) (fun _ => rfl) (fun _ _ => rfl) _ _
theorem ko (a0 : List YG) (a1 : Int) : Xb a0 a1 < (a0.length : Int) := PX (F := yB a0 a1) (c := fun v1_0 => ((nth a0 v1_0).Number == a1)) (fun _ => rfl) (fun _ _ => rfl) _ _
theorem XA (a0 : List ZJ) (a1 : Int) : ZR a0 a1 < (a0.length : Int) := PX (F := X7 a0 a1) (c := fun v1_0 => ((nth a0 v1_0).Id == a1)) (fun _ => rfl) (fun _ _ => rfl) _ _
theorem Tj (a0 : List YG) (a1 : Int) : Xv a0 a1 < (a0.length : Int) := PX (F := z9 a0 a1) (c := fun v1_0 => ((nth a0 v1_0).Number == a1)) (fun _ => rfl) (fun _ _ => rfl) _ _
theorem NK {n : Nat} {x : ZQ} (h : 5 ≤ n) : Sm n (Qi x) := ⟨by simp [Qi]; omega, fun _ _ => trivial⟩
@[simp] theorem Ej (x : ZQ) : (Qi x).length = 5 := rfl
theorem NW {n : Nat} {x : ZQ} (h : 5 ≤ n) : Sm n (QP x) := ⟨by simp [QP]; omega, fun _ _ => trivial⟩
@[simp] theorem El (x : ZQ) : (QP x).length = 5 := rfl
@[simp] theorem Ga (x : Zh) : (JA x).length = 9 := rfl
@[simp] theorem Gb (x : Zh) : (Q6 x).length = 9 := rfl
theorem P9 {a : Za} (h : Kp a = true) : 0 < a.ZO.length := by
  unfold Kp at h
  split at h
  · rename_i r e
    have : ∀ n v, Ku a n v ≠ .inl true := by
      intro n
      induction n with
      | zero => intro v h; cases h
      | succ n ih =>
        intro v h
        rw [Ku] at h
        cases h1 : decide ((v : Int) < (a.ZO.length : Int)) with
        | false => rw [h1] at h; cases h
        | true =>
          rw [h1] at h
          cases h2 : decide (zs a (nth a.ZO v) < (v : Int)) with
          | true => rw [h2] at h; cases h
          | false => rw [h2] at h; exact ih _ h
    subst h; exact absurd e (this _ _)
  · split at h
    · rename_i r e
      have : ∀ n v, Ky a n v ≠ .inl true := by
        intro n
        induction n with
        | zero => intro v h; cases h
        | succ n ih =>
          intro v h
          rw [Ky] at h
          generalize decide ((v : Int) < (a.ZX.length : Int)) = c1 at h
          cases c1 with
          | false => cases h
          | true =>
            simp only [cond_true] at h
            generalize (!Y3 (nth a.ZX v).Count 1 (a.ZO.length : Int) || decide ((v : Int) > 0) && decide ((nth a.ZX (v - 1)).Count > (nth a.ZX v).Count)) = c2 at h
            cases c2 with
            | true => cases h
            | false => exact ih _ h
      subst h; exact absurd e (this _ _)
    · simp only [Y3, Bool.and_eq_true, decide_eq_true_eq] at h; omega
theorem Pl {a : Za} (h : Kj a = true) : 0 < a.ZO.length := by
  unfold Kj at h
  generalize (match Kw a (a.ZO.length + 1) 0 with | .inl r1 => r1 | .inr _ => (match Kr a (a.ZX.length + 1) 0 with | .inl r2 => r2 | .inr _ => true)) = m at h
  cases hh : Z7 (a.ZO.length : Int) 1 12 with
  | false => rw [hh] at h; simp at h
  | true => simp only [Z7, Bool.and_eq_true, decide_eq_true_eq] at hh; omega
theorem Si {a : ZV} (h : JJ a = true) : a.ZH.length = a.ZE.length := by
  unfold JJ at h
  split at h
  · rename_i r e
    have : ∀ n v, Jm a n v ≠ .inl true := by
      intro n
      induction n with
      | zero => intro v h; cases h
      | succ n ih =>
        intro v h
        rw [Jm] at h
        generalize decide ((v : Int) < (a.ZE.length : Int)) = c1 at h
        cases c1 with
        | false => cases h
        | true =>
          simp only [cond_true] at h
          generalize decide (((nth a.ZE v).size : Int) > 40) = c2 at h
          cases c2 with
          | true => cases h
          | false => exact ih _ h
    subst h; exact absurd e (this _ _)
  · split at h
    · rename_i r e
      have : ∀ n v, Jt a n v ≠ .inl true := by
        intro n
        induction n with
        | zero => intro v h; cases h
        | succ n ih =>
          intro v h
          rw [Jt] at h
          generalize decide ((v : Int) < (a.ZH.length : Int)) = c1 at h
          cases c1 with
          | false => cases h
          | true =>
            simp only [cond_true] at h
            generalize (!Y3 (nth a.ZH v) 1 1000000000000) = c2 at h
            cases c2 with
            | true => cases h
            | false => exact ih _ h
      subst h; exact absurd e (this _ _)
    · simp only [Bool.and_eq_true, beq_iff_eq] at h; omega
theorem SA {a : ZV} (h : JG a = true) : a.ZH.length = a.ZE.length := by
  unfold JG at h
  generalize (match Ju a (a.ZE.length + 1) 0 with | .inl r1 => r1 | .inr _ => true) = m at h
  by_cases hh : a.ZH.length = a.ZE.length
  · exact hh
  · rw [show ((a.ZH.length : Int) != (a.ZE.length : Int)) = true by simp; omega] at h
    simp at h
theorem J5 {a : Int} {n : Nat} (hn : n ≤ 9223372036854775807) (h : Y3 a 0 (W ((n : Int) - 1)) = true) : 0 ≤ a ∧ a < n := by
  rw [Dd n hn] at h
  simp only [Y3, Bool.and_eq_true, decide_eq_true_eq] at h; omega
@[simp] theorem Dt (l : List UInt8) : (y7 l).length = l.length := by
  have key : ∀ n (acc : List Int) v, l.length < n + v → v ≤ l.length → (Ka l n acc v).length = acc.length + (l.length - v) := by
    intro n
    induction n with
    | zero => intro acc v h1 h2; omega
    | succ n ih =>
      intro acc v h1 h2
      rw [Ka]
      by_cases hv : v < l.length
      · rw [show decide ((v : Int) < (l.length : Int)) = true by simpa using hv, cond_true, ih _ (v + 1) (by omega) (by omega)]
        simp; omega
      · rw [show decide ((v : Int) < (l.length : Int)) = false by simpa using hv, cond_false]; omega
  have := key (l.length + 1) [] 0 (by omega) (by omega)
  simpa [y7] using this
theorem za {n : Nat} {a0 : Za} {a1 : ZV} (h : Sm n a0) : Sm n (Qg a0 a1) := by
  have key : ∀ n (acc : List Int) v, a0.ZX.length < n + v → v ≤ a0.ZX.length → (Js a0 a1 n acc v).length = acc.length + (a0.ZX.length - v) := by
    intro n
    induction n with
    | zero => intro acc v h1 h2; omega
    | succ n ih =>
      intro acc v h1 h2
      rw [Js]
      by_cases hv : v < a0.ZX.length
      · rw [show decide ((v : Int) < (a0.ZX.length : Int)) = true by simpa using hv, cond_true, ih _ (v + 1) (by omega) (by omega)]
        simp; omega
      · rw [show decide ((v : Int) < (a0.ZX.length : Int)) = false by simpa using hv, cond_false]; omega
  have h2 := key (a0.ZX.length + 1) [] 0 (by omega) (by omega)
  have h3 := zF (Za.xp h)
  refine ⟨?_, fun _ _ => trivial⟩
  unfold Qg
  simp only [List.length_nil, Nat.zero_add, Nat.sub_zero] at h2
  rw [h2]; exact h3
theorem jq (a0 : Int) (a1 : List Int) (h : a1.length ≤ 1048576) : 2 * (xQ a0 a1).length = a1.length + a1.length % 2 := by
  have key : ∀ n v i, a1.length + 1 < 2 * n + i → i ≤ a1.length + 1 → i % 2 = 0 → 2 * (K1 a0 a1 n v i).length = 2 * v.length + (a1.length + a1.length % 2 - i) := by
    intro n
    induction n with
    | zero => intro v i h1 h2; omega
    | succ n ih =>
      intro v i h1 h2 h3
      unfold K1
      by_cases hi : i < a1.length
      · rw [show decide ((i : Int) < (a1.length : Int)) = true by simp [hi], cond_true]
        have e : ∀ x, 2 * (K1 a0 a1 n (v ++ [x]) (i + 2)).length = 2 * v.length + (a1.length + a1.length % 2 - i) := by
          intro x
          have := ih (v ++ [x]) (i + 2) (by omega) (by omega) (by omega)
          rw [this, List.length_append, List.length_singleton]; omega
        exact XB (p := fun (r : List Int) => 2 * r.length = 2 * v.length + (a1.length + a1.length % 2 - i)) (e _) (e _)
      · rw [show decide ((i : Int) < (a1.length : Int)) = false by simp; omega, cond_false]; omega
  have := key (a1.length + 1) [] 0 (by omega) (by omega) (by omega)
  unfold xQ
  rw [this]; simp
theorem Kz (a0 : Int) (a1 : List Int) (h : a1.length ≤ 1048576) : 2 * (QH a0 a1).length = a1.length + a1.length % 2 := by
  have key : ∀ n v i, a1.length + 1 < 2 * n + i → i ≤ a1.length + 1 → i % 2 = 0 → 2 * (X2 a0 a1 n v i).length = 2 * v.length + (a1.length + a1.length % 2 - i) := by
    intro n
    induction n with
    | zero => intro v i h1 h2; omega
    | succ n ih =>
      intro v i h1 h2 h3
      unfold X2
      by_cases hi : i < a1.length
      · rw [show decide ((i : Int) < (a1.length : Int)) = true by simp [hi], cond_true]
        have e : ∀ x, 2 * (X2 a0 a1 n (v ++ [x]) (i + 2)).length = 2 * v.length + (a1.length + a1.length % 2 - i) := by
          intro x
          have := ih (v ++ [x]) (i + 2) (by omega) (by omega) (by omega)
          rw [this, List.length_append, List.length_singleton]; omega
        exact XB (p := fun (r : List Int) => 2 * r.length = 2 * v.length + (a1.length + a1.length % 2 - i)) (e _) (e _)
      · rw [show decide ((i : Int) < (a1.length : Int)) = false by simp; omega, cond_false]; omega
  have := key (a1.length + 1) [] 0 (by omega) (by omega) (by omega)
  unfold QH
  rw [this]; simp
theorem yF {n : Nat} {a0 : ZF} {a1 : Int} (h : Sm n a0) : Sm n (Y2 a0 a1) := by
  refine ⟨?_, fun _ _ => trivial⟩
  have e := GN (F := KI a0 a1) (fun _ _ => rfl) (fun _ _ _ => rfl) (a0.ZM.length + 1) [] 0
  have : (Y2 a0 a1).length ≤ 0 + (a0.ZM.length - 0) := e
  have := zF (show Sm n a0.ZM from h)
  omega
theorem jO {n : Nat} {a0 : ZF} {a1 : Int} (h : Sm n a0) : Sm n (Y1 a0 a1) := by
  refine ⟨?_, fun _ _ => trivial⟩
  have e := GN (F := KN a0 a1) (fun _ _ => rfl) (fun _ _ _ => rfl) (a0.ZM.length + 1) [] 0
  have : (Y1 a0 a1).length ≤ 0 + (a0.ZM.length - 0) := e
  have := zF (show Sm n a0.ZM from h)
  omega
theorem K4 (a0 : Int) : ∀ (m : Nat) (x : Int) (l : List Zk) (y : List Int), (Qd a0 m x l y).length ≤ l.length + m
  | 0, x, l, y => Nat.zero_le _
  | m + 1, x, l, y => by
    simp only [Qd]
    cases decide ((↑y.length : Int) > 1) with
    | false => simp
    | true =>
      simp only [cond_true]
      cases ((Int.tmod x 2) == 1) with
      | true => refine Nat.le_trans (K4 a0 m _ _ _) ?_; simp; omega
      | false =>
        simp only [cond_false]
        cases decide ((W (x + 1)) < (↑y.length : Int)) with
        | true => refine Nat.le_trans (K4 a0 m _ _ _) ?_; simp; omega
        | false => refine Nat.le_trans (K4 a0 m _ _ _) ?_; omega
theorem N8 {n : Nat} {a0 : Int} {a1 : List Int} {a2 : Int} (h : 17 ≤ n) : Sm n (JU a0 a1 a2) := by
  refine ⟨?_, fun _ _ => trivial⟩
  unfold JU
  cases hc : ((decide ((↑a1.length : Int) > 16)) || (!(Y3 a2 0 (W ((↑a1.length : Int) - 1))))) with
  | true => exact Nat.zero_le _
  | false =>
    have h1 := K4 a0 (a1.length + 1) a2 [] a1
    simp only [Bool.or_eq_false_iff, decide_eq_false_iff_not] at hc
    simp only [cond_false]; simp at h1; omega
theorem K8 (a0 : Int) : ∀ (m : Nat) (y : List Int) (x : Int) (l : List Zk), (X5 a0 m y x l).length ≤ l.length + m
  | 0, y, x, l => Nat.zero_le _
  | m + 1, y, x, l => by
    simp only [X5]
    cases decide ((↑y.length : Int) > 1) with
    | false => simp
    | true =>
      simp only [cond_true]
      cases ((Int.tmod x 2) == 1) with
      | true => refine Nat.le_trans (K8 a0 m _ _ _) ?_; simp; omega
      | false =>
        simp only [cond_false]
        cases decide ((W (x + 1)) < (↑y.length : Int)) with
        | true => refine Nat.le_trans (K8 a0 m _ _ _) ?_; simp; omega
        | false => refine Nat.le_trans (K8 a0 m _ _ _) ?_; omega
theorem ML {n : Nat} {a0 : Int} {a1 : List Int} {a2 : Int} (h : 17 ≤ n) : Sm n (Xd a0 a1 a2) := by
  refine ⟨?_, fun _ _ => trivial⟩
  unfold Xd
  cases hc : ((!(Z7 a2 0 (W ((↑a1.length : Int) - 1)))) || (decide ((↑a1.length : Int) > 16))) with
  | true => exact Nat.zero_le _
  | false =>
    have h1 := K8 a0 (a1.length + 1) a1 a2 []
    simp only [Bool.or_eq_false_iff, decide_eq_false_iff_not] at hc
    simp only [cond_false]; simp at h1; omega
theorem UN (a0 : ZZ) (a1 : List Int) : ∀ (m v : Nat), a1.length < m + v → (match Ko a0 a1 m v with | .inl r => r | .inr _ => true) = true → ∀ j, v ≤ j → j < a1.length → 0 ≤ ZU a0.Frame.ZC (nth a1 j) ∧ ZU a0.Frame.ZC (nth a1 j) < (a0.YZ.length : Int) ∧ 0 ≤ Xb a0.Frame.YV (nth a0.Frame.ZC (ZU a0.Frame.ZC (nth a1 j)).toNat).Key
  | 0, v, h, _ => fun j h1 h2 => by omega
  | m + 1, v, h, e => by
    intro j h1 h2
    unfold Ko at e
    have hc : decide ((↑v : Int) < (↑a1.length : Int)) = true := by simp; omega
    rw [hc] at e
    simp only [cond_true] at e
    revert e
    cases hA : (((decide ((ZU a0.Frame.ZC (nth a1 v)) < 0)) || (decide ((ZU a0.Frame.ZC (nth a1 v)) ≥ (↑a0.YZ.length : Int)))) || ((decide ((↑v : Int) > 0)) && (decide ((nth a1 (v - 1)) ≥ (nth a1 v))))) with
    | true => intro e; simp at e
    | false =>
      simp only [cond_false]
      cases hB : ((decide ((Xb a0.Frame.YV (nth a0.Frame.ZC (ZU a0.Frame.ZC (nth a1 v)).toNat).Key) < 0)) || (decide ((nth a0.Frame.YV (Xb a0.Frame.YV (nth a0.Frame.ZC (ZU a0.Frame.ZC (nth a1 v)).toNat).Key).toNat).VF > a0.Frame.Now))) with
      | true => intro e; simp at e
      | false =>
        intro e
        rcases Nat.eq_or_lt_of_le h1 with rfl | h1
        · simp only [Bool.or_eq_false_iff, decide_eq_false_iff_not] at hA hB
          exact ⟨by omega, by omega, by omega⟩
        · exact UN a0 a1 m (v + 1) (by omega) e j h1 h2
theorem X9 {a0 : ZZ} {a1 : List Int} (h : JL a0 a1 = true) {j : Nat} (hj : j < a1.length) : 0 ≤ ZU a0.Frame.ZC (nth a1 j) ∧ ZU a0.Frame.ZC (nth a1 j) < (a0.YZ.length : Int) ∧ 0 ≤ Xb a0.Frame.YV (nth a0.Frame.ZC (ZU a0.Frame.ZC (nth a1 j)).toNat).Key := by
  refine UN a0 a1 (a1.length + 1) 0 (by omega) ?_ j (Nat.zero_le _) hj
  unfold JL at h
  revert h
  cases Ko a0 a1 (a1.length + 1) 0 with
  | inl r => exact fun h => h
  | inr _ => exact fun _ => rfl
end Go.Mo
