/- Plain lemmas on the models of the helpers. No condition. -/
import Derived.Test.YtdkobknehoecjaaGreatM
namespace Go.Mo
open Go.Vm
set_option linter.unusedSimpArgs false
set_option linter.unusedVariables false
theorem AJ : WD JL := Ti (fun _ _ => trivial) (fun _ _ => rfl)
theorem Br : kz JL 0 := Tt (fun _ => Nat.le_of_ble_eq_true rfl) (fun _ _ => rfl)
theorem NY : WD Xg := Ti (fun _ _ => trivial) (fun _ _ => rfl)
theorem OS : kz Xg 0 := Tt (fun _ => Nat.le_of_ble_eq_true rfl) (fun _ _ => rfl)
theorem G1 : WD z8 := Ti (fun _ _ => trivial) (fun _ _ => rfl)
theorem Gl : kz z8 0 := Tt (fun _ => Nat.le_of_ble_eq_true rfl) (fun _ _ => rfl)
theorem Cw : WD YJ := by
  intro a0 a1 hm h0 hn h
  unfold YJ at h ⊢
  by_cases c0 : (JL a0.Zq a1) < 0
  · simp [c0] at h
  obtain ⟨s0, t0⟩ := AJ a0.Zq a1 (by simp [hm]) (by omega) (by omega) c0
  by_cases c1 : (Xg a0.ZG (JL a0.Zq a1)) < 0
  · simp [c1, c0] at h
  obtain ⟨s1, t1⟩ := NY a0.ZG (JL a0.Zq a1) (by simp [hm]) (by omega) (by omega) c1
  by_cases c2 : (z8 a0.Methods (Xg a0.ZG (JL a0.Zq a1))) < 0
  · simp [c2, c0, c1] at h
  obtain ⟨s2, t2⟩ := G1 a0.Methods (Xg a0.ZG (JL a0.Zq a1)) (by simp [hm]) (by omega) (by omega) c2
  simp only [c0, c1, c2, decide_false, cond_false] at h ⊢
  exact ⟨⟨s0, s1, s2⟩, t2⟩
theorem C9 : kz YJ 2 := by
  intro a0 a1 hm h0 hn h
  unfold YJ at h ⊢
  by_cases c0 : (JL a0.Zq a1) < 0
  · simp [c0] at h
  obtain ⟨s0, t0⟩ := Br a0.Zq a1 (by simp [hm]) (by omega) (by omega) c0
  by_cases c1 : (Xg a0.ZG (JL a0.Zq a1)) < 0
  · simp [c1, c0] at h
  obtain ⟨s1, t1⟩ := OS a0.ZG (JL a0.Zq a1) (by simp [hm]) (by omega) (by omega) c1
  by_cases c2 : (z8 a0.Methods (Xg a0.ZG (JL a0.Zq a1))) < 0
  · simp [c2, c0, c1] at h
  obtain ⟨s2, t2⟩ := Gl a0.Methods (Xg a0.ZG (JL a0.Zq a1)) (by simp [hm]) (by omega) (by omega) c2
  simp only [c0, c1, c2, decide_false, cond_false] at h ⊢
  simp only [XO, XY, X9, Z8.Yb]
  omega
theorem Cx : WD Yl := Ti (fun _ _ => trivial) (fun _ _ => rfl)
theorem C2 : kz Yl 0 := Tt (fun _ => Nat.le_of_ble_eq_true rfl) (fun _ _ => rfl)
theorem xP : WD Zy := Ti (fun _ _ => trivial) (fun _ _ => rfl)
theorem xS : kz Zy 0 := Tt (fun _ => Nat.le_of_ble_eq_true rfl) (fun _ _ => rfl)
theorem G4 : WD Qo := NO v7 (G := qM) (fun _ _ _ _ => rfl) (fun _ _ => rfl)
theorem I5 : kz Qo 0 := Oy vx (by decide) (G := qM) (fun _ _ _ _ => rfl) (fun _ _ => rfl)
theorem T9 : WD Yq := by
  intro a0 a1 hm h0 hn h
  unfold Yq at h ⊢
  by_cases c0 : (Qo a0.ZN a1) < 0
  · simp [c0] at h
  obtain ⟨s0, t0⟩ := G4 a0.ZN a1 (by simp [hm]) (by omega) (by omega) c0
  by_cases c1 : (Zy a0.ZR (Qo a0.ZN a1)) < 0
  · simp [c1, c0] at h
  obtain ⟨s1, t1⟩ := xP a0.ZR (Qo a0.ZN a1) (by simp [hm]) (by omega) (by omega) c1
  simp only [c0, c1, decide_false, cond_false] at h ⊢
  exact ⟨⟨s0, s1⟩, t1⟩
theorem Sc : kz Yq 1 := by
  intro a0 a1 hm h0 hn h
  unfold Yq at h ⊢
  by_cases c0 : (Qo a0.ZN a1) < 0
  · simp [c0] at h
  obtain ⟨s0, t0⟩ := I5 a0.ZN a1 (by simp [hm]) (by omega) (by omega) c0
  by_cases c1 : (Zy a0.ZR (Qo a0.ZN a1)) < 0
  · simp [c1, c0] at h
  obtain ⟨s1, t1⟩ := xS a0.ZR (Qo a0.ZN a1) (by simp [hm]) (by omega) (by omega) c1
  simp only [c0, c1, decide_false, cond_false] at h ⊢
  simp only [XO, XY, X9, ZV.Yb]
  omega
theorem CK : WD jE := by
  intro a0 a1 hm h0 hn h
  unfold jE at h ⊢
  by_cases c0 : (Zy a0.YP a1) < 0
  · simp [c0] at h
  obtain ⟨s0, t0⟩ := xP a0.YP a1 (by simp [hm]) (by omega) (by omega) c0
  simp only [c0, decide_false, cond_false] at h ⊢
  exact ⟨s0, t0⟩
theorem CQ : kz jE 2 := by
  intro a0 a1 hm h0 hn h
  unfold jE at h ⊢
  by_cases c0 : (Zy a0.YP a1) < 0
  · simp [c0] at h
  obtain ⟨s0, t0⟩ := xS a0.YP a1 (by simp [hm]) (by omega) (by omega) c0
  simp only [c0, decide_false, cond_false] at h ⊢
  simp only [XO, XY, X9, ZO.Yb]
  omega
theorem Em : WD Je := NO CK (G := jn) (fun _ _ _ _ => rfl) (fun _ _ => rfl)
theorem EE : kz Je 0 := Oy CQ (by decide) (G := jn) (fun _ _ _ _ => rfl) (fun _ _ => rfl)
theorem BE : WD KD := Ti (fun _ _ => trivial) (fun _ _ => rfl)
theorem CX : kz KD 0 := Tt (fun _ => Nat.le_of_ble_eq_true rfl) (fun _ _ => rfl)
theorem Fw : WD xI := Ti (fun _ _ => trivial) (fun _ _ => rfl)
theorem FY : kz xI 0 := Tt (fun _ => Nat.le_of_ble_eq_true rfl) (fun _ _ => rfl)
theorem H8 : WD yD := by
  intro a0 a1 hm h0 hn h
  unfold yD at h ⊢
  by_cases c0 : (KD a0.Path a1) < 0
  · simp [c0] at h
  obtain ⟨s0, t0⟩ := BE a0.Path a1 (by simp [hm]) (by omega) (by omega) c0
  by_cases c1 : (xI a0.YE (KD a0.Path a1)) < 0
  · simp [c1, c0] at h
  obtain ⟨s1, t1⟩ := Fw a0.YE (KD a0.Path a1) (by simp [hm]) (by omega) (by omega) c1
  simp only [c0, c1, decide_false, cond_false] at h ⊢
  exact ⟨⟨s0, s1⟩, t1⟩
theorem HV : kz yD 3 := by
  intro a0 a1 hm h0 hn h
  unfold yD at h ⊢
  by_cases c0 : (KD a0.Path a1) < 0
  · simp [c0] at h
  obtain ⟨s0, t0⟩ := CX a0.Path a1 (by simp [hm]) (by omega) (by omega) c0
  by_cases c1 : (xI a0.YE (KD a0.Path a1)) < 0
  · simp [c1, c0] at h
  obtain ⟨s1, t1⟩ := FY a0.YE (KD a0.Path a1) (by simp [hm]) (by omega) (by omega) c1
  simp only [c0, c1, decide_false, cond_false] at h ⊢
  simp only [XO, XY, X9, ZK.Yb]
  omega
theorem L1 : WD zF := NO H8 (G := xC) (fun _ _ _ _ => rfl) (fun _ _ => rfl)
theorem L3 : kz zF 0 := Oy HV (by decide) (G := xC) (fun _ _ _ _ => rfl) (fun _ _ => rfl)
theorem Ew : WD zT := by
  intro a0 a1 hm h0 hn h
  unfold zT at h ⊢
  by_cases c0 : (Je a0.ZL a1) < 0
  · simp [c0] at h
  obtain ⟨s0, t0⟩ := Em a0.ZL a1 (by simp [hm]) (by omega) (by omega) c0
  by_cases c1 : (zF a0.Zd (Je a0.ZL a1)) < 0
  · simp [c1, c0] at h
  obtain ⟨s1, t1⟩ := L1 a0.Zd (Je a0.ZL a1) (by simp [hm]) (by omega) (by omega) c1
  simp only [c0, c1, decide_false, cond_false] at h ⊢
  exact ⟨⟨s0, s1⟩, t1⟩
theorem F0 : kz zT 0 := by
  intro a0 a1 hm h0 hn h
  unfold zT at h ⊢
  by_cases c0 : (Je a0.ZL a1) < 0
  · simp [c0] at h
  obtain ⟨s0, t0⟩ := EE a0.ZL a1 (by simp [hm]) (by omega) (by omega) c0
  by_cases c1 : (zF a0.Zd (Je a0.ZL a1)) < 0
  · simp [c1, c0] at h
  obtain ⟨s1, t1⟩ := L3 a0.Zd (Je a0.ZL a1) (by simp [hm]) (by omega) (by omega) c1
  simp only [c0, c1, decide_false, cond_false] at h ⊢
  simp only [XO, XY, X9, Za.Yb]
  omega
theorem Bv : WD kv := by
  intro a0 a1 hm h0 hn h
  unfold kv at h ⊢
  by_cases c0 : (Yq a0.Doc a1) < 0
  · simp [c0] at h
  obtain ⟨s0, t0⟩ := T9 a0.Doc a1 (by simp [hm]) (by omega) (by omega) c0
  by_cases c1 : (zT a0.ZI (Yq a0.Doc a1)) < 0
  · simp [c1, c0] at h
  obtain ⟨s1, t1⟩ := Ew a0.ZI (Yq a0.Doc a1) (by simp [hm]) (by omega) (by omega) c1
  simp only [c0, c1, decide_false, cond_false] at h ⊢
  exact ⟨⟨s0, s1⟩, t1⟩
theorem AH : kz kv 12 := by
  intro a0 a1 hm h0 hn h
  unfold kv at h ⊢
  by_cases c0 : (Yq a0.Doc a1) < 0
  · simp [c0] at h
  obtain ⟨s0, t0⟩ := Sc a0.Doc a1 (by simp [hm]) (by omega) (by omega) c0
  by_cases c1 : (zT a0.ZI (Yq a0.Doc a1)) < 0
  · simp [c1, c0] at h
  obtain ⟨s1, t1⟩ := F0 a0.ZI (Yq a0.Doc a1) (by simp [hm]) (by omega) (by omega) c1
  simp only [c0, c1, decide_false, cond_false] at h ⊢
  simp only [XO, XY, X9, ZM.Yb, ZY.Yb]
  omega
theorem BJ : WD qv := NO Bv (G := ks) (fun _ _ _ _ => rfl) (fun _ _ => rfl)
theorem Co : kz qv 0 := Oy AH (by decide) (G := ks) (fun _ _ _ _ => rfl) (fun _ _ => rfl)
theorem HZ : WD z5 := by
  intro a0 a1 hm h0 hn h
  unfold z5 at h ⊢
  by_cases c0 : (qv a0.ZF a1) < 0
  · simp [c0] at h
  obtain ⟨s0, t0⟩ := BJ a0.ZF a1 (by simp [hm]) (by omega) (by omega) c0
  simp only [c0, decide_false, cond_false] at h ⊢
  exact ⟨s0, t0⟩
theorem HB : kz z5 1 := by
  intro a0 a1 hm h0 hn h
  unfold z5 at h ⊢
  by_cases c0 : (qv a0.ZF a1) < 0
  · simp [c0] at h
  obtain ⟨s0, t0⟩ := Co a0.ZF a1 (by simp [hm]) (by omega) (by omega) c0
  simp only [c0, decide_false, cond_false] at h ⊢
  simp only [XO, XY, X9, ZD.Yb]
  omega
theorem L4 : WD Yo := NO HZ (G := xU) (fun _ _ _ _ => rfl) (fun _ _ => rfl)
theorem Li : kz Yo 0 := Oy HB (by decide) (G := xU) (fun _ _ _ _ => rfl) (fun _ _ => rfl)
theorem Na : WD KB := by
  intro a0 a1 hm h0 hn h
  unfold KB at h ⊢
  by_cases c0 : (YJ a0.Frame a1) < 0
  · simp [c0] at h
  obtain ⟨s0, t0⟩ := Cw a0.Frame a1 (by simp [hm]) (by omega) (by omega) c0
  by_cases c1 : (Yl a0.ZS (YJ a0.Frame a1)) < 0
  · simp [c1, c0] at h
  obtain ⟨s1, t1⟩ := Cx a0.ZS (YJ a0.Frame a1) (by simp [hm]) (by omega) (by omega) c1
  by_cases c2 : (Zy a0.Zr (Yl a0.ZS (YJ a0.Frame a1))) < 0
  · simp [c2, c0, c1] at h
  obtain ⟨s2, t2⟩ := xP a0.Zr (Yl a0.ZS (YJ a0.Frame a1)) (by simp [hm]) (by omega) (by omega) c2
  by_cases c3 : (Yo a0.ZA (Zy a0.Zr (Yl a0.ZS (YJ a0.Frame a1)))) < 0
  · simp [c3, c0, c1, c2] at h
  obtain ⟨s3, t3⟩ := L4 a0.ZA (Zy a0.Zr (Yl a0.ZS (YJ a0.Frame a1))) (by simp [hm]) (by omega) (by omega) c3
  by_cases c4 : (Zy a0.Ym (Yo a0.ZA (Zy a0.Zr (Yl a0.ZS (YJ a0.Frame a1))))) < 0
  · simp [c4, c0, c1, c2, c3] at h
  obtain ⟨s4, t4⟩ := xP a0.Ym (Yo a0.ZA (Zy a0.Zr (Yl a0.ZS (YJ a0.Frame a1)))) (by simp [hm]) (by omega) (by omega) c4
  by_cases c5 : (Zy a0.YW (Zy a0.Ym (Yo a0.ZA (Zy a0.Zr (Yl a0.ZS (YJ a0.Frame a1)))))) < 0
  · simp [c5, c0, c1, c2, c3, c4] at h
  obtain ⟨s5, t5⟩ := xP a0.YW (Zy a0.Ym (Yo a0.ZA (Zy a0.Zr (Yl a0.ZS (YJ a0.Frame a1))))) (by simp [hm]) (by omega) (by omega) c5
  by_cases c6 : (Zy a0.YN (Zy a0.YW (Zy a0.Ym (Yo a0.ZA (Zy a0.Zr (Yl a0.ZS (YJ a0.Frame a1))))))) < 0
  · simp [c6, c0, c1, c2, c3, c4, c5] at h
  obtain ⟨s6, t6⟩ := xP a0.YN (Zy a0.YW (Zy a0.Ym (Yo a0.ZA (Zy a0.Zr (Yl a0.ZS (YJ a0.Frame a1)))))) (by simp [hm]) (by omega) (by omega) c6
  simp only [c0, c1, c2, c3, c4, c5, c6, decide_false, cond_false] at h ⊢
  exact ⟨⟨s0, s1, s2, s3, s4, s5, s6⟩, t6⟩
theorem D9 : kz KB 3 := by
  intro a0 a1 hm h0 hn h
  unfold KB at h ⊢
  by_cases c0 : (YJ a0.Frame a1) < 0
  · simp [c0] at h
  obtain ⟨s0, t0⟩ := C9 a0.Frame a1 (by simp [hm]) (by omega) (by omega) c0
  by_cases c1 : (Yl a0.ZS (YJ a0.Frame a1)) < 0
  · simp [c1, c0] at h
  obtain ⟨s1, t1⟩ := C2 a0.ZS (YJ a0.Frame a1) (by simp [hm]) (by omega) (by omega) c1
  by_cases c2 : (Zy a0.Zr (Yl a0.ZS (YJ a0.Frame a1))) < 0
  · simp [c2, c0, c1] at h
  obtain ⟨s2, t2⟩ := xS a0.Zr (Yl a0.ZS (YJ a0.Frame a1)) (by simp [hm]) (by omega) (by omega) c2
  by_cases c3 : (Yo a0.ZA (Zy a0.Zr (Yl a0.ZS (YJ a0.Frame a1)))) < 0
  · simp [c3, c0, c1, c2] at h
  obtain ⟨s3, t3⟩ := Li a0.ZA (Zy a0.Zr (Yl a0.ZS (YJ a0.Frame a1))) (by simp [hm]) (by omega) (by omega) c3
  by_cases c4 : (Zy a0.Ym (Yo a0.ZA (Zy a0.Zr (Yl a0.ZS (YJ a0.Frame a1))))) < 0
  · simp [c4, c0, c1, c2, c3] at h
  obtain ⟨s4, t4⟩ := xS a0.Ym (Yo a0.ZA (Zy a0.Zr (Yl a0.ZS (YJ a0.Frame a1)))) (by simp [hm]) (by omega) (by omega) c4
  by_cases c5 : (Zy a0.YW (Zy a0.Ym (Yo a0.ZA (Zy a0.Zr (Yl a0.ZS (YJ a0.Frame a1)))))) < 0
  · simp [c5, c0, c1, c2, c3, c4] at h
  obtain ⟨s5, t5⟩ := xS a0.YW (Zy a0.Ym (Yo a0.ZA (Zy a0.Zr (Yl a0.ZS (YJ a0.Frame a1))))) (by simp [hm]) (by omega) (by omega) c5
  by_cases c6 : (Zy a0.YN (Zy a0.YW (Zy a0.Ym (Yo a0.ZA (Zy a0.Zr (Yl a0.ZS (YJ a0.Frame a1))))))) < 0
  · simp [c6, c0, c1, c2, c3, c4, c5] at h
  obtain ⟨s6, t6⟩ := xS a0.YN (Zy a0.YW (Zy a0.Ym (Yo a0.ZA (Zy a0.Zr (Yl a0.ZS (YJ a0.Frame a1)))))) (by simp [hm]) (by omega) (by omega) c6
  simp only [c0, c1, c2, c3, c4, c5, c6, decide_false, cond_false] at h ⊢
  simp only [XO, XY, X9, ZJ.Yb]
  omega
theorem Oa : WD jB := by
  intro a0 a1 hm h0 hn h
  unfold jB at h ⊢
  by_cases c0 : (Yq a0.Doc a1) < 0
  · simp [c0] at h
  obtain ⟨s0, t0⟩ := T9 a0.Doc a1 (by simp [hm]) (by omega) (by omega) c0
  by_cases c1 : (Zy a0.Ids (Yq a0.Doc a1)) < 0
  · simp [c1, c0] at h
  obtain ⟨s1, t1⟩ := xP a0.Ids (Yq a0.Doc a1) (by simp [hm]) (by omega) (by omega) c1
  simp only [c0, c1, decide_false, cond_false] at h ⊢
  exact ⟨⟨s0, s1⟩, t1⟩
theorem CW : kz jB 6 := by
  intro a0 a1 hm h0 hn h
  unfold jB at h ⊢
  by_cases c0 : (Yq a0.Doc a1) < 0
  · simp [c0] at h
  obtain ⟨s0, t0⟩ := Sc a0.Doc a1 (by simp [hm]) (by omega) (by omega) c0
  by_cases c1 : (Zy a0.Ids (Yq a0.Doc a1)) < 0
  · simp [c1, c0] at h
  obtain ⟨s1, t1⟩ := xS a0.Ids (Yq a0.Doc a1) (by simp [hm]) (by omega) (by omega) c1
  simp only [c0, c1, decide_false, cond_false] at h ⊢
  simp only [XO, XY, X9, Yu.Yb]
  omega
theorem Q9 (a0 : YR) : Iu a0 = a0 := by cases a0; simp [Iu]
theorem QV (a0 : List YR) : GL a0 = a0 := qV (F := Td a0) (g := (fun x => x)) (fun _ => rfl) (fun _ _ _ => rfl) _ 0 _ (by simp) (by omega) (by omega) (fun j h => by omega)
theorem Y3 (a0 : ZQ) : kZ a0 = a0 := by cases a0; simp [kZ]
theorem Yx (a0 : List ZQ) : VC a0 = a0 := qV (F := xt a0) (g := (fun x => x)) (fun _ => rfl) (fun _ _ _ => rfl) _ 0 _ (by simp) (by omega) (by omega) (fun j h => by omega)
theorem Xk (a0 : Zf) : T7 a0 = a0 := by cases a0; simp [T7]
theorem XR (a0 : List Zf) : Rx a0 = a0 := qV (F := kc a0) (g := (fun x => x)) (fun _ => rfl) (fun _ _ _ => rfl) _ 0 _ (by simp) (by omega) (by omega) (fun j h => by omega)
theorem Xz (a0 : Z8) : PI a0 = a0 := by cases a0; simp [PI]
theorem QT (a0 : Z1) : NL a0 = a0 := by cases a0; simp [NL]
theorem Xw (a0 : List Z1) : MD a0 = a0 := qV (F := UB a0) (g := (fun x => x)) (fun _ => rfl) (fun _ _ _ => rfl) _ 0 _ (by simp) (by omega) (by omega) (fun j h => by omega)
theorem QM (a0 : List Int) : I9 a0 = a0 := qV (F := T1 a0) (g := (fun x => x)) (fun _ => rfl) (fun _ _ _ => rfl) _ 0 _ (by simp) (by omega) (by omega) (fun j h => by omega)
theorem XU (a0 : List ByteArray) : Ra a0 = a0 := qV (F := ke a0) (g := (fun x => x)) (fun _ => rfl) (fun _ _ _ => rfl) _ 0 _ (by simp) (by omega) (by omega) (fun j h => by omega)
theorem XE (a0 : ZV) : Wf a0 = a0 := by cases a0; simp [Wf]
theorem Y4 (a0 : ZY) : km a0 = a0 := by cases a0; simp [km]
theorem X0 (a0 : ZO) : R0 a0 = a0 := by cases a0; simp [R0]
theorem Xj (a0 : List ZO) : OP a0 = a0 := qV (F := We a0) (g := (fun x => x)) (fun _ => rfl) (fun _ _ _ => rfl) _ 0 _ (by simp) (by omega) (by omega) (fun j h => by omega)
theorem QS (a0 : Zv) : NM a0 = a0 := by cases a0; simp [NM]
theorem X3 (a0 : List Zv) : ML a0 = a0 := qV (F := Vz a0) (g := (fun x => x)) (fun _ => rfl) (fun _ _ _ => rfl) _ 0 _ (by simp) (by omega) (by omega) (fun j h => by omega)
theorem Xx (a0 : ZX) : R1 a0 = a0 := by cases a0; simp [R1]
theorem Xl (a0 : List ZX) : OF a0 = a0 := qV (F := Wr a0) (g := (fun x => x)) (fun _ => rfl) (fun _ _ _ => rfl) _ 0 _ (by simp) (by omega) (by omega) (fun j h => by omega)
theorem XT (a0 : ZK) : V1 a0 = a0 := by cases a0; simp [V1]
theorem XG (a0 : List ZK) : Tk a0 = a0 := qV (F := jh a0) (g := (fun x => x)) (fun _ => rfl) (fun _ _ _ => rfl) _ 0 _ (by simp) (by omega) (by omega) (fun j h => by omega)
theorem Xi (a0 : Za) : Tc a0 = a0 := by cases a0; simp [Tc]
theorem QO (a0 : ZM) : Oc a0 = a0 := by cases a0; simp [Oc]
theorem X1 (a0 : List ZM) : N3 a0 = a0 := qV (F := V8 a0) (g := (fun x => x)) (fun _ => rfl) (fun _ _ _ => rfl) _ 0 _ (by simp) (by omega) (by omega) (fun j h => by omega)
theorem XV (a0 : ZD) : Vu a0 = a0 := by cases a0; simp [Vu]
theorem XF (a0 : List ZD) : T3 a0 = a0 := qV (F := jS a0) (g := (fun x => x)) (fun _ => rfl) (fun _ _ _ => rfl) _ 0 _ (by simp) (by omega) (by omega) (fun j h => by omega)
theorem X4 (a0 : ZJ) : R9 a0 = a0 := by cases a0; simp [R9]
theorem X2 (a0 : Yu) : R3 a0 = a0 := by cases a0; simp [R3]
theorem EF (a0 : Z8) : P1 a0 = a0 := rfl
theorem Ab (a0 : ZV) : HG a0 = a0 := rfl
theorem Ct (a0 : ZO) : Nn a0 = a0 := rfl
theorem B4 (a0 : List ZO) : Od a0 = a0 := by
  have h := jD (F := (Tq a0)) (a := a0) (g := (fun x => x)) (fun _ => rfl) (fun _ _ _ => rfl) (a0.length + 1) [] 0 (by omega) (by omega)
  simp only [List.nil_append, List.drop_zero] at h
  unfold Od
  rw [h]
theorem Ck (a0 : ZK) : N6 a0 = a0 := rfl
theorem CO (a0 : Za) : R5 a0 = a0 := by
  have h := jD (F := (fun n v i => Vs a0 n i v)) (a := a0.Zd) (g := (fun x => x)) (fun _ => rfl) (fun _ _ _ => rfl) (a0.Zd.length + 1) [] 0 (by omega) (by omega)
  simp only [List.nil_append, List.drop_zero] at h
  unfold R5
  rw [h]
theorem BF (a0 : ZM) : MQ a0 = a0 := rfl
theorem BN (a0 : ZD) : PB a0 = a0 := by
  have h := jD (F := (fun n v i => Vw a0 n i v)) (a := a0.ZF) (g := (fun x => x)) (fun _ => rfl) (fun _ _ _ => rfl) (a0.ZF.length + 1) [] 0 (by omega) (by omega)
  simp only [List.nil_append, List.drop_zero] at h
  unfold PB
  rw [h]
theorem Cp (a0 : ZJ) : PF a0 = a0 := by
  have h := jD (F := (fun n v i => V2 a0 n i v)) (a := a0.ZA) (g := (fun x => x)) (fun _ => rfl) (fun _ _ _ => rfl) (a0.ZA.length + 1) [] 0 (by omega) (by omega)
  simp only [List.nil_append, List.drop_zero] at h
  unfold PF
  rw [h]
theorem KP (a0 : List YR) (a1 : Int) : Yd a0 a1 < (a0.length : Int) := jd (F := qz a0 a1) (c := fun J => ((nth a0 J).Number == a1)) (fun _ => rfl) (fun _ _ => rfl) _ _
theorem GB (a0 : ZJ) (a1 : Int) : Xb a0 a1 < (a0.ZS.length : Int) := jd (F := Jw a0 a1) (c := fun J => ((nth a0.ZS J).Key == a1)) (fun _ => rfl) (fun _ _ => rfl) _ _
theorem Ui (a0 : ZD) (a1 : Int) : Yk a0 a1 < (a0.ZF.length : Int) := jd (F := qA a0 a1) (c := fun J => ((nth a0.ZF J).Id == a1)) (fun _ => rfl) (fun _ _ => rfl) _ _
theorem UL (a0 : List Z1) (a1 : Int) : Z2 a0 a1 < (a0.length : Int) := jd (F := xy a0 a1) (c := fun J => ((nth a0 J).Zg == a1)) (fun _ => rfl) (fun _ _ => rfl) _ _
theorem JC (a0 : List ZQ) (a1 : Int) : Ze a0 a1 < (a0.length : Int) := jd (F := KA a0 a1) (c := fun J => ((nth a0 J).Id == a1)) (fun _ => rfl) (fun _ _ => rfl) _ _
theorem IW (a0 : List Zf) (a1 : Int) : zC a0 a1 < (a0.length : Int) := jd (F := zf a0 a1) (c := fun J => ((nth a0 J).Id == a1)) (fun _ => rfl) (fun _ _ => rfl) _ _
theorem G9 (a0 : Z8) : RL a0 = a0 := rfl
theorem Eh (a0 : List Int) : OL a0 = a0 := rfl
theorem O3 (a0 : ZV) : VB a0 = a0 := rfl
theorem Hx (a0 : ZO) : Rh a0 = a0 := rfl
theorem Lb (a0 : List ZO) : WX a0 = a0 := by
  have h := jD (F := (j3 a0)) (a := a0) (g := (fun x => x)) (fun _ => rfl) (fun _ _ _ => rfl) (a0.length + 1) [] 0 (by omega) (by omega)
  simp only [List.nil_append, List.drop_zero] at h
  unfold WX
  rw [h]
theorem Io (a0 : List ZX) : TS a0 = a0 := rfl
theorem Nz (a0 : ZK) : Uh a0 = a0 := rfl
theorem L9 (a0 : Za) : Wa a0 = a0 := by
  have h := jD (F := (fun n v i => jk a0 n i v)) (a := a0.Zd) (g := (fun x => x)) (fun _ => rfl) (fun _ _ _ => rfl) (a0.Zd.length + 1) [] 0 (by omega) (by omega)
  simp only [List.nil_append, List.drop_zero] at h
  unfold Wa
  rw [h]
theorem F2 (a0 : ZM) : OK a0 = a0 := rfl
theorem Mn (a0 : ZD) : kT a0 = a0 := by
  have h := jD (F := (fun n v i => qb a0 n i v)) (a := a0.ZF) (g := (fun x => x)) (fun _ => rfl) (fun _ _ _ => rfl) (a0.ZF.length + 1) [] 0 (by omega) (by omega)
  simp only [List.nil_append, List.drop_zero] at h
  unfold kT
  rw [h]
theorem GN (a0 : ZJ) : V0 a0 = a0 := by
  have h := jD (F := (fun n v i => kR a0 n i v)) (a := a0.ZA) (g := (fun x => x)) (fun _ => rfl) (fun _ _ _ => rfl) (a0.ZA.length + 1) [] 0 (by omega) (by omega)
  simp only [List.nil_append, List.drop_zero] at h
  unfold V0
  rw [h]
theorem jX (a0 : List YR) (a1 : Int) : YH a0 a1 < (a0.length : Int) := jd (F := jG a0 a1) (c := fun J => ((nth a0 J).Number == a1)) (fun _ => rfl) (fun _ _ => rfl) _ _
theorem Qw (a0 : ZD) (a1 : Int) : ZW a0 a1 < (a0.ZF.length : Int) := jd (F := yO a0 a1) (c := fun J => ((nth a0.ZF J).Id == a1)) (fun _ => rfl) (fun _ _ => rfl) _ _
theorem EY (a0 : List Z1) (a1 : Int) : XL a0 a1 < (a0.length : Int) := jd (F := yV a0 a1) (c := fun J => ((nth a0 J).Zg == a1)) (fun _ => rfl) (fun _ _ => rfl) _ _
theorem Jq (a0 : List ZQ) (a1 : Int) : Zi a0 a1 < (a0.length : Int) := jd (F := Jd a0 a1) (c := fun J => ((nth a0 J).Id == a1)) (fun _ => rfl) (fun _ _ => rfl) _ _
theorem Lu (a0 : List Zf) (a1 : Int) : zQ a0 a1 < (a0.length : Int) := jd (F := zk a0 a1) (c := fun J => ((nth a0 J).Id == a1)) (fun _ => rfl) (fun _ _ => rfl) _ _
theorem Nd (a0 : YR) : PH a0 a0 = true := by simp [PH]
theorem Pp (a0 : List YR) : RA a0 a0 = true := by
  unfold RA
  rw [qW (F := Tm a0 a0) (L := a0.length) (c := fun J => (!(PH (nth a0 J) (nth a0 J)))) (fun i => by simp [Nd]) (fun _ => rfl) (fun _ _ => rfl)]
  simp
theorem VP (a0 : ZQ) : yn a0 a0 = true := by simp [yn]
theorem WU (a0 : List ZQ) : yx a0 a0 = true := by
  unfold yx
  rw [qW (F := xq a0 a0) (L := a0.length) (c := fun J => (!(yn (nth a0 J) (nth a0 J)))) (fun i => by simp [VP]) (fun _ => rfl) (fun _ _ => rfl)]
  simp
theorem SH (a0 : Zf) : j9 a0 a0 = true := by simp [j9]
theorem Us (a0 : List Zf) : ky a0 a0 = true := by
  unfold ky
  rw [qW (F := kY a0 a0) (L := a0.length) (c := fun J => (!(j9 (nth a0 J) (nth a0 J)))) (fun i => by simp [SH]) (fun _ => rfl) (fun _ _ => rfl)]
  simp
theorem RJ (a0 : Z8) : U8 a0 a0 = true := by simp [U8, WU, Pp, Us]
theorem Pl (a0 : Z1) : U0 a0 a0 = true := by simp [U0]
theorem Rq (a0 : List Z1) : Uy a0 a0 = true := by
  unfold Uy
  rw [qW (F := V7 a0 a0) (L := a0.length) (c := fun J => (!(U0 (nth a0 J) (nth a0 J)))) (fun i => by simp [Pl]) (fun _ => rfl) (fun _ _ => rfl)]
  simp
theorem qH (a0 : List Int) : xX a0 a0 = true := by
  unfold xX
  rw [qW (F := T4 a0 a0) (L := a0.length) (c := fun J => ((nth a0 J) != (nth a0 J))) (fun i => by simp) (fun _ => rfl) (fun _ _ => rfl)]
  simp
theorem Uw (a0 : List ByteArray) : WC a0 a0 = true := by
  unfold WC
  rw [qW (F := kh a0 a0) (L := a0.length) (c := fun J => (!decide ((nth a0 J) = (nth a0 J)))) (fun i => by simp) (fun _ => rfl) (fun _ _ => rfl)]
  simp
theorem jQ (a0 : ZV) : qD a0 a0 = true := by simp [qD, qH, Uw]
theorem VX (a0 : ZY) : qG a0 a0 = true := by simp [qG]
theorem RS (a0 : ZO) : Ww a0 a0 = true := by simp [Ww, qH]
theorem SK (a0 : List ZO) : W7 a0 a0 = true := by
  unfold W7
  rw [qW (F := Wg a0 a0) (L := a0.length) (c := fun J => (!(Ww (nth a0 J) (nth a0 J)))) (fun i => by simp [RS]) (fun _ => rfl) (fun _ _ => rfl)]
  simp
theorem PV (a0 : Zv) : TO a0 a0 = true := by simp [TO]
theorem RT (a0 : List Zv) : TF a0 a0 = true := by
  unfold TF
  rw [qW (F := V6 a0 a0) (L := a0.length) (c := fun J => (!(TO (nth a0 J) (nth a0 J)))) (fun i => by simp [PV]) (fun _ => rfl) (fun _ _ => rfl)]
  simp
theorem Su (a0 : ZX) : Wu a0 a0 = true := by simp [Wu]
theorem SD (a0 : List ZX) : VY a0 a0 = true := by
  unfold VY
  rw [qW (F := WW a0 a0) (L := a0.length) (c := fun J => (!(Wu (nth a0 J) (nth a0 J)))) (fun i => by simp [Su]) (fun _ => rfl) (fun _ _ => rfl)]
  simp
theorem TL (a0 : ZK) : jL a0 a0 = true := by simp [jL, SD, RT]
theorem V4 (a0 : List ZK) : jw a0 a0 = true := by
  unfold jw
  rw [qW (F := jm a0 a0) (L := a0.length) (c := fun J => (!(jL (nth a0 J) (nth a0 J)))) (fun i => by simp [TL]) (fun _ => rfl) (fun _ _ => rfl)]
  simp
theorem SN (a0 : Za) : Vk a0 a0 = true := by simp [Vk, SK, V4]
theorem PW (a0 : ZM) : TG a0 a0 = true := by simp [TG, jQ, VX, SN]
theorem RV (a0 : List ZM) : Uz a0 a0 = true := by
  unfold Uz
  rw [qW (F := Vq a0 a0) (L := a0.length) (c := fun J => (!(TG (nth a0 J) (nth a0 J)))) (fun i => by simp [PW]) (fun _ => rfl) (fun _ _ => rfl)]
  simp
theorem TJ (a0 : ZD) : qx a0 a0 = true := by simp [qx, RV]
theorem UK (a0 : List ZD) : jR a0 a0 = true := by
  unfold jR
  rw [qW (F := jP a0 a0) (L := a0.length) (c := fun J => (!(qx (nth a0 J) (nth a0 J)))) (fun i => by simp [TJ]) (fun _ => rfl) (fun _ _ => rfl)]
  simp
theorem Ho (a0 : ZJ) : jJ a0 a0 = true := by simp [jJ, UK, Rq, RJ, qH]
theorem HP (a0 : Yu) : TA a0 a0 = true := by simp [TA, jQ, qH]
theorem UW (a0 : List YR) (a1 : Int) : XM a0 a1 = mkL (fun (x : YR) (k : Int) => ((YR.mk k (W (k + 1)) (W ((W (k + 1)) + 1)) (W ((W ((W (k + 1)) + 1)) + 1)) (W ((W ((W ((W (k + 1)) + 1)) + 1)) + 1))), (W ((W ((W ((W ((W (k + 1)) + 1)) + 1)) + 1)) + 1)))) a0 a1 := by
  have h := K5 (F := zM) (f := (fun (x : YR) (k : Int) => ((YR.mk k (W (k + 1)) (W ((W (k + 1)) + 1)) (W ((W ((W (k + 1)) + 1)) + 1)) (W ((W ((W ((W (k + 1)) + 1)) + 1)) + 1))), (W ((W ((W ((W ((W (k + 1)) + 1)) + 1)) + 1)) + 1))))) (fun _ _ _ _ => rfl) a0 [] (a0.length + 1) a1 (by omega)
  unfold XM
  simp only [List.length_nil, List.nil_append] at h
  rw [h]
@[simp] theorem sH (a0 : List YR) (a1 : Int) : (XM a0 a1).1.length = a0.length := by rw [UW, Q5]
theorem Tf : ∀ (x : YR) (k : Int), 0 <= k -> k + (cn x : Nat) < 4611686018427387904 -> ((fun (x : YR) (k : Int) => ((YR.mk k (W (k + 1)) (W ((W (k + 1)) + 1)) (W ((W ((W (k + 1)) + 1)) + 1)) (W ((W ((W ((W (k + 1)) + 1)) + 1)) + 1))), (W ((W ((W ((W ((W (k + 1)) + 1)) + 1)) + 1)) + 1)))) x k).2 = k + (cn x : Nat) := by
  intro x k h0 h
  simp only [XO, XY, yr, X9, YR.Yb] at h ⊢
  have e0 : W (k + 1) = k + 1 := Zb (by omega) (by omega)
  have e1 : W ((W (k + 1)) + 1) = (W (k + 1)) + 1 := Zb (by omega) (by omega)
  have e2 : W ((W ((W (k + 1)) + 1)) + 1) = (W ((W (k + 1)) + 1)) + 1 := Zb (by omega) (by omega)
  have e3 : W ((W ((W ((W (k + 1)) + 1)) + 1)) + 1) = (W ((W ((W (k + 1)) + 1)) + 1)) + 1 := Zb (by omega) (by omega)
  have e4 : W ((W ((W ((W ((W (k + 1)) + 1)) + 1)) + 1)) + 1) = (W ((W ((W ((W (k + 1)) + 1)) + 1)) + 1)) + 1 := Zb (by omega) (by omega)
  omega
theorem H7 (a0 : List YR) (a1 : Int) (h0 : 0 <= a1) (h : a1 + (cn a0 : Nat) < 4611686018427387904) : (XM a0 a1).2 = a1 + (cn a0 : Nat) := by
  rw [UW]
  exact Q0 Tf a0 a1 h0 h
theorem CT : ∀ (x : YR) (k : Int) (r : Int -> Sum Int Int), 0 <= k -> k + (cn x : Nat) < 4611686018427387904 -> (fun (x : YR) (k : Int) (r : Int -> Sum Int Int) => (bif (x.Number != k) then (.inl (-1)) else (bif (x.ji != (W (k + 1))) then (.inl (-1)) else (bif (x.Method != (W ((W (k + 1)) + 1))) then (.inl (-1)) else (bif (x.Wn != (W ((W ((W (k + 1)) + 1)) + 1))) then (.inl (-1)) else (bif (x.WN != (W ((W ((W ((W (k + 1)) + 1)) + 1)) + 1))) then (.inl (-1)) else (r (W ((W ((W ((W ((W (k + 1)) + 1)) + 1)) + 1)) + 1))))))))) ((fun (x : YR) (k : Int) => ((YR.mk k (W (k + 1)) (W ((W (k + 1)) + 1)) (W ((W ((W (k + 1)) + 1)) + 1)) (W ((W ((W ((W (k + 1)) + 1)) + 1)) + 1))), (W ((W ((W ((W ((W (k + 1)) + 1)) + 1)) + 1)) + 1)))) x k).1 k r = r ((fun (x : YR) (k : Int) => ((YR.mk k (W (k + 1)) (W ((W (k + 1)) + 1)) (W ((W ((W (k + 1)) + 1)) + 1)) (W ((W ((W ((W (k + 1)) + 1)) + 1)) + 1))), (W ((W ((W ((W ((W (k + 1)) + 1)) + 1)) + 1)) + 1)))) x k).2 := by
  intro x k r h0 h
  simp only [XO, XY, yr, X9, YR.Yb] at h
  have e0 : W (k + 1) = k + 1 := Zb (by omega) (by omega)
  have e1 : W ((W (k + 1)) + 1) = (W (k + 1)) + 1 := Zb (by omega) (by omega)
  have e2 : W ((W ((W (k + 1)) + 1)) + 1) = (W ((W (k + 1)) + 1)) + 1 := Zb (by omega) (by omega)
  have e3 : W ((W ((W ((W (k + 1)) + 1)) + 1)) + 1) = (W ((W ((W (k + 1)) + 1)) + 1)) + 1 := Zb (by omega) (by omega)
  have e4 : W ((W ((W ((W ((W (k + 1)) + 1)) + 1)) + 1)) + 1) = (W ((W ((W ((W (k + 1)) + 1)) + 1)) + 1)) + 1 := Zb (by omega) (by omega)
  simp
theorem EG (a0 : List YR) (a1 : Int) (h0 : 0 <= a1) (h : a1 + (cn a0 : Nat) < 4611686018427387904) : a1 <= (XM a0 a1).2 /\ (XM a0 a1).2 <= a1 + (cn a0 : Nat) /\ zZ (XM a0 a1).1 a1 = (XM a0 a1).2 := by
  rw [UW]
  have s := Q0 Tf a0 a1 h0 h
  have hh := K1 (z := (mkL (fun (x : YR) (k : Int) => ((YR.mk k (W (k + 1)) (W ((W (k + 1)) + 1)) (W ((W ((W (k + 1)) + 1)) + 1)) (W ((W ((W ((W (k + 1)) + 1)) + 1)) + 1))), (W ((W ((W ((W ((W (k + 1)) + 1)) + 1)) + 1)) + 1)))) a0 a1).1) (H := WY (mkL (fun (x : YR) (k : Int) => ((YR.mk k (W (k + 1)) (W ((W (k + 1)) + 1)) (W ((W ((W (k + 1)) + 1)) + 1)) (W ((W ((W ((W (k + 1)) + 1)) + 1)) + 1))), (W ((W ((W ((W ((W (k + 1)) + 1)) + 1)) + 1)) + 1)))) a0 a1).1) (G := (fun (x : YR) (k : Int) (r : Int -> Sum Int Int) => (bif (x.Number != k) then (.inl (-1)) else (bif (x.ji != (W (k + 1))) then (.inl (-1)) else (bif (x.Method != (W ((W (k + 1)) + 1))) then (.inl (-1)) else (bif (x.Wn != (W ((W ((W (k + 1)) + 1)) + 1))) then (.inl (-1)) else (bif (x.WN != (W ((W ((W ((W (k + 1)) + 1)) + 1)) + 1))) then (.inl (-1)) else (r (W ((W ((W ((W ((W (k + 1)) + 1)) + 1)) + 1)) + 1)))))))))) (fun _ _ _ => rfl) Tf CT a0 [] ((mkL (fun (x : YR) (k : Int) => ((YR.mk k (W (k + 1)) (W ((W (k + 1)) + 1)) (W ((W ((W (k + 1)) + 1)) + 1)) (W ((W ((W ((W (k + 1)) + 1)) + 1)) + 1))), (W ((W ((W ((W ((W (k + 1)) + 1)) + 1)) + 1)) + 1)))) a0 a1).1.length + 1) a1 (by simp) (by rw [Q5]; omega) h0 h
  simp only [List.length_nil] at hh
  rw [XA] at *
  refine ⟨by omega, by omega, ?_⟩
  unfold zZ
  rw [hh]
theorem qF (a0 : List ZQ) (a1 : Int) : Yj a0 a1 = mkL (fun (x : ZQ) (k : Int) => ((ZQ.mk k (W (k + 1)) (W ((W (k + 1)) + 1))), (W ((W ((W (k + 1)) + 1)) + 1)))) a0 a1 := by
  have h := K5 (F := QW) (f := (fun (x : ZQ) (k : Int) => ((ZQ.mk k (W (k + 1)) (W ((W (k + 1)) + 1))), (W ((W ((W (k + 1)) + 1)) + 1))))) (fun _ _ _ _ => rfl) a0 [] (a0.length + 1) a1 (by omega)
  unfold Yj
  simp only [List.length_nil, List.nil_append] at h
  rw [h]
@[simp] theorem A9 (a0 : List ZQ) (a1 : Int) : (Yj a0 a1).1.length = a0.length := by rw [qF, Q5]
theorem qh : ∀ (x : ZQ) (k : Int), 0 <= k -> k + (cn x : Nat) < 4611686018427387904 -> ((fun (x : ZQ) (k : Int) => ((ZQ.mk k (W (k + 1)) (W ((W (k + 1)) + 1))), (W ((W ((W (k + 1)) + 1)) + 1)))) x k).2 = k + (cn x : Nat) := by
  intro x k h0 h
  simp only [XO, XY, yr, X9, ZQ.Yb] at h ⊢
  have e0 : W (k + 1) = k + 1 := Zb (by omega) (by omega)
  have e1 : W ((W (k + 1)) + 1) = (W (k + 1)) + 1 := Zb (by omega) (by omega)
  have e2 : W ((W ((W (k + 1)) + 1)) + 1) = (W ((W (k + 1)) + 1)) + 1 := Zb (by omega) (by omega)
  omega
theorem Re (a0 : List ZQ) (a1 : Int) (h0 : 0 <= a1) (h : a1 + (cn a0 : Nat) < 4611686018427387904) : (Yj a0 a1).2 = a1 + (cn a0 : Nat) := by
  rw [qF]
  exact Q0 qh a0 a1 h0 h
theorem P3 : ∀ (x : ZQ) (k : Int) (r : Int -> Sum Int Int), 0 <= k -> k + (cn x : Nat) < 4611686018427387904 -> (fun (x : ZQ) (k : Int) (r : Int -> Sum Int Int) => (bif (x.Id != k) then (.inl (-1)) else (bif (x.Key != (W (k + 1))) then (.inl (-1)) else (bif (x.Error != (W ((W (k + 1)) + 1))) then (.inl (-1)) else (r (W ((W ((W (k + 1)) + 1)) + 1))))))) ((fun (x : ZQ) (k : Int) => ((ZQ.mk k (W (k + 1)) (W ((W (k + 1)) + 1))), (W ((W ((W (k + 1)) + 1)) + 1)))) x k).1 k r = r ((fun (x : ZQ) (k : Int) => ((ZQ.mk k (W (k + 1)) (W ((W (k + 1)) + 1))), (W ((W ((W (k + 1)) + 1)) + 1)))) x k).2 := by
  intro x k r h0 h
  simp only [XO, XY, yr, X9, ZQ.Yb] at h
  have e0 : W (k + 1) = k + 1 := Zb (by omega) (by omega)
  have e1 : W ((W (k + 1)) + 1) = (W (k + 1)) + 1 := Zb (by omega) (by omega)
  have e2 : W ((W ((W (k + 1)) + 1)) + 1) = (W ((W (k + 1)) + 1)) + 1 := Zb (by omega) (by omega)
  simp
theorem PN (a0 : List ZQ) (a1 : Int) (h0 : 0 <= a1) (h : a1 + (cn a0 : Nat) < 4611686018427387904) : a1 <= (Yj a0 a1).2 /\ (Yj a0 a1).2 <= a1 + (cn a0 : Nat) /\ JM (Yj a0 a1).1 a1 = (Yj a0 a1).2 := by
  rw [qF]
  have s := Q0 qh a0 a1 h0 h
  have hh := K1 (z := (mkL (fun (x : ZQ) (k : Int) => ((ZQ.mk k (W (k + 1)) (W ((W (k + 1)) + 1))), (W ((W ((W (k + 1)) + 1)) + 1)))) a0 a1).1) (H := yK (mkL (fun (x : ZQ) (k : Int) => ((ZQ.mk k (W (k + 1)) (W ((W (k + 1)) + 1))), (W ((W ((W (k + 1)) + 1)) + 1)))) a0 a1).1) (G := (fun (x : ZQ) (k : Int) (r : Int -> Sum Int Int) => (bif (x.Id != k) then (.inl (-1)) else (bif (x.Key != (W (k + 1))) then (.inl (-1)) else (bif (x.Error != (W ((W (k + 1)) + 1))) then (.inl (-1)) else (r (W ((W ((W (k + 1)) + 1)) + 1)))))))) (fun _ _ _ => rfl) qh P3 a0 [] ((mkL (fun (x : ZQ) (k : Int) => ((ZQ.mk k (W (k + 1)) (W ((W (k + 1)) + 1))), (W ((W ((W (k + 1)) + 1)) + 1)))) a0 a1).1.length + 1) a1 (by simp) (by rw [Q5]; omega) h0 h
  simp only [List.length_nil] at hh
  rw [XA] at *
  refine ⟨by omega, by omega, ?_⟩
  unfold JM
  rw [hh]
theorem kJ (a0 : List Zf) (a1 : Int) : Xs a0 a1 = mkL (fun (x : Zf) (k : Int) => ((Zf.mk k (W (k + 1)) (W ((W (k + 1)) + 1)) (W ((W ((W (k + 1)) + 1)) + 1))), (W ((W ((W ((W (k + 1)) + 1)) + 1)) + 1)))) a0 a1 := by
  have h := K5 (F := Jj) (f := (fun (x : Zf) (k : Int) => ((Zf.mk k (W (k + 1)) (W ((W (k + 1)) + 1)) (W ((W ((W (k + 1)) + 1)) + 1))), (W ((W ((W ((W (k + 1)) + 1)) + 1)) + 1))))) (fun _ _ _ _ => rfl) a0 [] (a0.length + 1) a1 (by omega)
  unfold Xs
  simp only [List.length_nil, List.nil_append] at h
  rw [h]
@[simp] theorem vX (a0 : List Zf) (a1 : Int) : (Xs a0 a1).1.length = a0.length := by rw [kJ, Q5]
theorem WK : ∀ (x : Zf) (k : Int), 0 <= k -> k + (cn x : Nat) < 4611686018427387904 -> ((fun (x : Zf) (k : Int) => ((Zf.mk k (W (k + 1)) (W ((W (k + 1)) + 1)) (W ((W ((W (k + 1)) + 1)) + 1))), (W ((W ((W ((W (k + 1)) + 1)) + 1)) + 1)))) x k).2 = k + (cn x : Nat) := by
  intro x k h0 h
  simp only [XO, XY, yr, X9, Zf.Yb] at h ⊢
  have e0 : W (k + 1) = k + 1 := Zb (by omega) (by omega)
  have e1 : W ((W (k + 1)) + 1) = (W (k + 1)) + 1 := Zb (by omega) (by omega)
  have e2 : W ((W ((W (k + 1)) + 1)) + 1) = (W ((W (k + 1)) + 1)) + 1 := Zb (by omega) (by omega)
  have e3 : W ((W ((W ((W (k + 1)) + 1)) + 1)) + 1) = (W ((W ((W (k + 1)) + 1)) + 1)) + 1 := Zb (by omega) (by omega)
  omega
theorem OT (a0 : List Zf) (a1 : Int) (h0 : 0 <= a1) (h : a1 + (cn a0 : Nat) < 4611686018427387904) : (Xs a0 a1).2 = a1 + (cn a0 : Nat) := by
  rw [kJ]
  exact Q0 WK a0 a1 h0 h
theorem IH : ∀ (x : Zf) (k : Int) (r : Int -> Sum Int Int), 0 <= k -> k + (cn x : Nat) < 4611686018427387904 -> (fun (x : Zf) (k : Int) (r : Int -> Sum Int Int) => (bif (x.Id != k) then (.inl (-1)) else (bif (x.Pn != (W (k + 1))) then (.inl (-1)) else (bif (x.Ends != (W ((W (k + 1)) + 1))) then (.inl (-1)) else (bif (x.UR != (W ((W ((W (k + 1)) + 1)) + 1))) then (.inl (-1)) else (r (W ((W ((W ((W (k + 1)) + 1)) + 1)) + 1)))))))) ((fun (x : Zf) (k : Int) => ((Zf.mk k (W (k + 1)) (W ((W (k + 1)) + 1)) (W ((W ((W (k + 1)) + 1)) + 1))), (W ((W ((W ((W (k + 1)) + 1)) + 1)) + 1)))) x k).1 k r = r ((fun (x : Zf) (k : Int) => ((Zf.mk k (W (k + 1)) (W ((W (k + 1)) + 1)) (W ((W ((W (k + 1)) + 1)) + 1))), (W ((W ((W ((W (k + 1)) + 1)) + 1)) + 1)))) x k).2 := by
  intro x k r h0 h
  simp only [XO, XY, yr, X9, Zf.Yb] at h
  have e0 : W (k + 1) = k + 1 := Zb (by omega) (by omega)
  have e1 : W ((W (k + 1)) + 1) = (W (k + 1)) + 1 := Zb (by omega) (by omega)
  have e2 : W ((W ((W (k + 1)) + 1)) + 1) = (W ((W (k + 1)) + 1)) + 1 := Zb (by omega) (by omega)
  have e3 : W ((W ((W ((W (k + 1)) + 1)) + 1)) + 1) = (W ((W ((W (k + 1)) + 1)) + 1)) + 1 := Zb (by omega) (by omega)
  simp
theorem MW (a0 : List Zf) (a1 : Int) (h0 : 0 <= a1) (h : a1 + (cn a0 : Nat) < 4611686018427387904) : a1 <= (Xs a0 a1).2 /\ (Xs a0 a1).2 <= a1 + (cn a0 : Nat) /\ yj (Xs a0 a1).1 a1 = (Xs a0 a1).2 := by
  rw [kJ]
  have s := Q0 WK a0 a1 h0 h
  have hh := K1 (z := (mkL (fun (x : Zf) (k : Int) => ((Zf.mk k (W (k + 1)) (W ((W (k + 1)) + 1)) (W ((W ((W (k + 1)) + 1)) + 1))), (W ((W ((W ((W (k + 1)) + 1)) + 1)) + 1)))) a0 a1).1) (H := qZ (mkL (fun (x : Zf) (k : Int) => ((Zf.mk k (W (k + 1)) (W ((W (k + 1)) + 1)) (W ((W ((W (k + 1)) + 1)) + 1))), (W ((W ((W ((W (k + 1)) + 1)) + 1)) + 1)))) a0 a1).1) (G := (fun (x : Zf) (k : Int) (r : Int -> Sum Int Int) => (bif (x.Id != k) then (.inl (-1)) else (bif (x.Pn != (W (k + 1))) then (.inl (-1)) else (bif (x.Ends != (W ((W (k + 1)) + 1))) then (.inl (-1)) else (bif (x.UR != (W ((W ((W (k + 1)) + 1)) + 1))) then (.inl (-1)) else (r (W ((W ((W ((W (k + 1)) + 1)) + 1)) + 1))))))))) (fun _ _ _ => rfl) WK IH a0 [] ((mkL (fun (x : Zf) (k : Int) => ((Zf.mk k (W (k + 1)) (W ((W (k + 1)) + 1)) (W ((W ((W (k + 1)) + 1)) + 1))), (W ((W ((W ((W (k + 1)) + 1)) + 1)) + 1)))) a0 a1).1.length + 1) a1 (by simp) (by rw [Q5]; omega) h0 h
  simp only [List.length_nil] at hh
  rw [XA] at *
  refine ⟨by omega, by omega, ?_⟩
  unfold yj
  rw [hh]
@[simp] theorem Au (a0 : Z8) (a1 : Int) : (Zu a0 a1).1.Zq.length = a0.Zq.length := by simp [Zu]
@[simp] theorem Ir (a0 : Z8) (a1 : Int) : (Zu a0 a1).1.ZG.length = a0.ZG.length := by simp [Zu]
@[simp] theorem E8 (a0 : Z8) (a1 : Int) : (Zu a0 a1).1.Methods.length = a0.Methods.length := by simp [Zu]
@[simp] theorem vO (a0 : Z8) (a1 : Int) : (Zu a0 a1).1.y9 = a0.y9 := rfl
@[simp] theorem um (a0 : Z8) (a1 : Int) : (Zu a0 a1).1.Now = a0.Now := rfl
theorem HQ (a0 : Z8) (a1 : Int) (h0 : 0 <= a1) (h : a1 + (cn a0 : Nat) < 4611686018427387904) : a1 <= (Zu a0 a1).2 /\ (Zu a0 a1).2 <= a1 + (cn a0 : Nat) /\ Xn (Zu a0 a1).1 a1 = (Zu a0 a1).2 := by
  simp only [XO, XY, X9, Z8.Yb] at h ⊢
  obtain ⟨m0, n0, h0⟩ := EG a0.Zq a1 (by omega) (by omega)
  have q0 := H7 a0.Zq a1 (by omega) (by omega)
  have o0 : ¬ (XM a0.Zq a1).2 < 0 := by omega
  obtain ⟨m3, n3, h3⟩ := PN a0.ZG (XM a0.Zq a1).2 (by omega) (by omega)
  have q3 := Re a0.ZG (XM a0.Zq a1).2 (by omega) (by omega)
  have o3 : ¬ (Yj a0.ZG (XM a0.Zq a1).2).2 < 0 := by omega
  obtain ⟨m6, n6, h6⟩ := MW a0.Methods (Yj a0.ZG (XM a0.Zq a1).2).2 (by omega) (by omega)
  have q6 := OT a0.Methods (Yj a0.ZG (XM a0.Zq a1).2).2 (by omega) (by omega)
  have o6 : ¬ (Xs a0.Methods (Yj a0.ZG (XM a0.Zq a1).2).2).2 < 0 := by omega
  refine ⟨by simp only [Zu]; omega, by simp only [Zu]; omega, ?_⟩
  simp [Zu, Xn, h0, h3, h6, o0, o3, o6]
theorem VD (a0 : List Z1) (a1 : Int) : YC a0 a1 = mkL (fun (x : Z1) (k : Int) => ((Z1.mk k (W (k + 1)) (W ((W (k + 1)) + 1)) (W ((W ((W (k + 1)) + 1)) + 1)) (W ((W ((W ((W (k + 1)) + 1)) + 1)) + 1)) (W ((W ((W ((W ((W (k + 1)) + 1)) + 1)) + 1)) + 1)) (W ((W ((W ((W ((W ((W (k + 1)) + 1)) + 1)) + 1)) + 1)) + 1))), (W ((W ((W ((W ((W ((W ((W (k + 1)) + 1)) + 1)) + 1)) + 1)) + 1)) + 1)))) a0 a1 := by
  have h := K5 (F := Ki) (f := (fun (x : Z1) (k : Int) => ((Z1.mk k (W (k + 1)) (W ((W (k + 1)) + 1)) (W ((W ((W (k + 1)) + 1)) + 1)) (W ((W ((W ((W (k + 1)) + 1)) + 1)) + 1)) (W ((W ((W ((W ((W (k + 1)) + 1)) + 1)) + 1)) + 1)) (W ((W ((W ((W ((W ((W (k + 1)) + 1)) + 1)) + 1)) + 1)) + 1))), (W ((W ((W ((W ((W ((W ((W (k + 1)) + 1)) + 1)) + 1)) + 1)) + 1)) + 1))))) (fun _ _ _ _ => rfl) a0 [] (a0.length + 1) a1 (by omega)
  unfold YC
  simp only [List.length_nil, List.nil_append] at h
  rw [h]
@[simp] theorem u5 (a0 : List Z1) (a1 : Int) : (YC a0 a1).1.length = a0.length := by rw [VD, Q5]
theorem Ul : ∀ (x : Z1) (k : Int), 0 <= k -> k + (cn x : Nat) < 4611686018427387904 -> ((fun (x : Z1) (k : Int) => ((Z1.mk k (W (k + 1)) (W ((W (k + 1)) + 1)) (W ((W ((W (k + 1)) + 1)) + 1)) (W ((W ((W ((W (k + 1)) + 1)) + 1)) + 1)) (W ((W ((W ((W ((W (k + 1)) + 1)) + 1)) + 1)) + 1)) (W ((W ((W ((W ((W ((W (k + 1)) + 1)) + 1)) + 1)) + 1)) + 1))), (W ((W ((W ((W ((W ((W ((W (k + 1)) + 1)) + 1)) + 1)) + 1)) + 1)) + 1)))) x k).2 = k + (cn x : Nat) := by
  intro x k h0 h
  simp only [XO, XY, yr, X9, Z1.Yb] at h ⊢
  have e0 : W (k + 1) = k + 1 := Zb (by omega) (by omega)
  have e1 : W ((W (k + 1)) + 1) = (W (k + 1)) + 1 := Zb (by omega) (by omega)
  have e2 : W ((W ((W (k + 1)) + 1)) + 1) = (W ((W (k + 1)) + 1)) + 1 := Zb (by omega) (by omega)
  have e3 : W ((W ((W ((W (k + 1)) + 1)) + 1)) + 1) = (W ((W ((W (k + 1)) + 1)) + 1)) + 1 := Zb (by omega) (by omega)
  have e4 : W ((W ((W ((W ((W (k + 1)) + 1)) + 1)) + 1)) + 1) = (W ((W ((W ((W (k + 1)) + 1)) + 1)) + 1)) + 1 := Zb (by omega) (by omega)
  have e5 : W ((W ((W ((W ((W ((W (k + 1)) + 1)) + 1)) + 1)) + 1)) + 1) = (W ((W ((W ((W ((W (k + 1)) + 1)) + 1)) + 1)) + 1)) + 1 := Zb (by omega) (by omega)
  have e6 : W ((W ((W ((W ((W ((W ((W (k + 1)) + 1)) + 1)) + 1)) + 1)) + 1)) + 1) = (W ((W ((W ((W ((W ((W (k + 1)) + 1)) + 1)) + 1)) + 1)) + 1)) + 1 := Zb (by omega) (by omega)
  omega
theorem Lt (a0 : List Z1) (a1 : Int) (h0 : 0 <= a1) (h : a1 + (cn a0 : Nat) < 4611686018427387904) : (YC a0 a1).2 = a1 + (cn a0 : Nat) := by
  rw [VD]
  exact Q0 Ul a0 a1 h0 h
theorem Ey : ∀ (x : Z1) (k : Int) (r : Int -> Sum Int Int), 0 <= k -> k + (cn x : Nat) < 4611686018427387904 -> (fun (x : Z1) (k : Int) (r : Int -> Sum Int Int) => (bif (x.Zg != k) then (.inl (-1)) else (bif (x.Key != (W (k + 1))) then (.inl (-1)) else (bif (x.ji != (W ((W (k + 1)) + 1))) then (.inl (-1)) else (bif (x.VN != (W ((W ((W (k + 1)) + 1)) + 1))) then (.inl (-1)) else (bif (x.To != (W ((W ((W ((W (k + 1)) + 1)) + 1)) + 1))) then (.inl (-1)) else (bif (x.Z5 != (W ((W ((W ((W ((W (k + 1)) + 1)) + 1)) + 1)) + 1))) then (.inl (-1)) else (bif (x.Mark != (W ((W ((W ((W ((W ((W (k + 1)) + 1)) + 1)) + 1)) + 1)) + 1))) then (.inl (-1)) else (r (W ((W ((W ((W ((W ((W ((W (k + 1)) + 1)) + 1)) + 1)) + 1)) + 1)) + 1))))))))))) ((fun (x : Z1) (k : Int) => ((Z1.mk k (W (k + 1)) (W ((W (k + 1)) + 1)) (W ((W ((W (k + 1)) + 1)) + 1)) (W ((W ((W ((W (k + 1)) + 1)) + 1)) + 1)) (W ((W ((W ((W ((W (k + 1)) + 1)) + 1)) + 1)) + 1)) (W ((W ((W ((W ((W ((W (k + 1)) + 1)) + 1)) + 1)) + 1)) + 1))), (W ((W ((W ((W ((W ((W ((W (k + 1)) + 1)) + 1)) + 1)) + 1)) + 1)) + 1)))) x k).1 k r = r ((fun (x : Z1) (k : Int) => ((Z1.mk k (W (k + 1)) (W ((W (k + 1)) + 1)) (W ((W ((W (k + 1)) + 1)) + 1)) (W ((W ((W ((W (k + 1)) + 1)) + 1)) + 1)) (W ((W ((W ((W ((W (k + 1)) + 1)) + 1)) + 1)) + 1)) (W ((W ((W ((W ((W ((W (k + 1)) + 1)) + 1)) + 1)) + 1)) + 1))), (W ((W ((W ((W ((W ((W ((W (k + 1)) + 1)) + 1)) + 1)) + 1)) + 1)) + 1)))) x k).2 := by
  intro x k r h0 h
  simp only [XO, XY, yr, X9, Z1.Yb] at h
  have e0 : W (k + 1) = k + 1 := Zb (by omega) (by omega)
  have e1 : W ((W (k + 1)) + 1) = (W (k + 1)) + 1 := Zb (by omega) (by omega)
  have e2 : W ((W ((W (k + 1)) + 1)) + 1) = (W ((W (k + 1)) + 1)) + 1 := Zb (by omega) (by omega)
  have e3 : W ((W ((W ((W (k + 1)) + 1)) + 1)) + 1) = (W ((W ((W (k + 1)) + 1)) + 1)) + 1 := Zb (by omega) (by omega)
  have e4 : W ((W ((W ((W ((W (k + 1)) + 1)) + 1)) + 1)) + 1) = (W ((W ((W ((W (k + 1)) + 1)) + 1)) + 1)) + 1 := Zb (by omega) (by omega)
  have e5 : W ((W ((W ((W ((W ((W (k + 1)) + 1)) + 1)) + 1)) + 1)) + 1) = (W ((W ((W ((W ((W (k + 1)) + 1)) + 1)) + 1)) + 1)) + 1 := Zb (by omega) (by omega)
  have e6 : W ((W ((W ((W ((W ((W ((W (k + 1)) + 1)) + 1)) + 1)) + 1)) + 1)) + 1) = (W ((W ((W ((W ((W ((W (k + 1)) + 1)) + 1)) + 1)) + 1)) + 1)) + 1 := Zb (by omega) (by omega)
  simp
theorem HA (a0 : List Z1) (a1 : Int) (h0 : 0 <= a1) (h : a1 + (cn a0 : Nat) < 4611686018427387904) : a1 <= (YC a0 a1).2 /\ (YC a0 a1).2 <= a1 + (cn a0 : Nat) /\ QE (YC a0 a1).1 a1 = (YC a0 a1).2 := by
  rw [VD]
  have s := Q0 Ul a0 a1 h0 h
  have hh := K1 (z := (mkL (fun (x : Z1) (k : Int) => ((Z1.mk k (W (k + 1)) (W ((W (k + 1)) + 1)) (W ((W ((W (k + 1)) + 1)) + 1)) (W ((W ((W ((W (k + 1)) + 1)) + 1)) + 1)) (W ((W ((W ((W ((W (k + 1)) + 1)) + 1)) + 1)) + 1)) (W ((W ((W ((W ((W ((W (k + 1)) + 1)) + 1)) + 1)) + 1)) + 1))), (W ((W ((W ((W ((W ((W ((W (k + 1)) + 1)) + 1)) + 1)) + 1)) + 1)) + 1)))) a0 a1).1) (H := kQ (mkL (fun (x : Z1) (k : Int) => ((Z1.mk k (W (k + 1)) (W ((W (k + 1)) + 1)) (W ((W ((W (k + 1)) + 1)) + 1)) (W ((W ((W ((W (k + 1)) + 1)) + 1)) + 1)) (W ((W ((W ((W ((W (k + 1)) + 1)) + 1)) + 1)) + 1)) (W ((W ((W ((W ((W ((W (k + 1)) + 1)) + 1)) + 1)) + 1)) + 1))), (W ((W ((W ((W ((W ((W ((W (k + 1)) + 1)) + 1)) + 1)) + 1)) + 1)) + 1)))) a0 a1).1) (G := (fun (x : Z1) (k : Int) (r : Int -> Sum Int Int) => (bif (x.Zg != k) then (.inl (-1)) else (bif (x.Key != (W (k + 1))) then (.inl (-1)) else (bif (x.ji != (W ((W (k + 1)) + 1))) then (.inl (-1)) else (bif (x.VN != (W ((W ((W (k + 1)) + 1)) + 1))) then (.inl (-1)) else (bif (x.To != (W ((W ((W ((W (k + 1)) + 1)) + 1)) + 1))) then (.inl (-1)) else (bif (x.Z5 != (W ((W ((W ((W ((W (k + 1)) + 1)) + 1)) + 1)) + 1))) then (.inl (-1)) else (bif (x.Mark != (W ((W ((W ((W ((W ((W (k + 1)) + 1)) + 1)) + 1)) + 1)) + 1))) then (.inl (-1)) else (r (W ((W ((W ((W ((W ((W ((W (k + 1)) + 1)) + 1)) + 1)) + 1)) + 1)) + 1)))))))))))) (fun _ _ _ => rfl) Ul Ey a0 [] ((mkL (fun (x : Z1) (k : Int) => ((Z1.mk k (W (k + 1)) (W ((W (k + 1)) + 1)) (W ((W ((W (k + 1)) + 1)) + 1)) (W ((W ((W ((W (k + 1)) + 1)) + 1)) + 1)) (W ((W ((W ((W ((W (k + 1)) + 1)) + 1)) + 1)) + 1)) (W ((W ((W ((W ((W ((W (k + 1)) + 1)) + 1)) + 1)) + 1)) + 1))), (W ((W ((W ((W ((W ((W ((W (k + 1)) + 1)) + 1)) + 1)) + 1)) + 1)) + 1)))) a0 a1).1.length + 1) a1 (by simp) (by rw [Q5]; omega) h0 h
  simp only [List.length_nil] at hh
  rw [XA] at *
  refine ⟨by omega, by omega, ?_⟩
  unfold QE
  rw [hh]
theorem Uf (a0 : List Int) (a1 : Int) : ZC a0 a1 = mkL (fun (x : Int) (k : Int) => (k, (W (k + 1)))) a0 a1 := by
  have h := K5 (F := zN) (f := (fun (x : Int) (k : Int) => (k, (W (k + 1))))) (fun _ _ _ _ => rfl) a0 [] (a0.length + 1) a1 (by omega)
  unfold ZC
  simp only [List.length_nil, List.nil_append] at h
  rw [h]
@[simp] theorem tr (a0 : List Int) (a1 : Int) : (ZC a0 a1).1.length = a0.length := by rw [Uf, Q5]
theorem TT : ∀ (x : Int) (k : Int), 0 <= k -> k + (cn x : Nat) < 4611686018427387904 -> ((fun (x : Int) (k : Int) => (k, (W (k + 1)))) x k).2 = k + (cn x : Nat) := by
  intro x k h0 h
  simp only [XO, XY, yr, X9] at h ⊢
  have e0 : W (k + 1) = k + 1 := Zb (by omega) (by omega)
  omega
theorem QR (a0 : List Int) (a1 : Int) (h0 : 0 <= a1) (h : a1 + (cn a0 : Nat) < 4611686018427387904) : (ZC a0 a1).2 = a1 + (cn a0 : Nat) := by
  rw [Uf]
  exact Q0 TT a0 a1 h0 h
theorem kS (a0 : List Int) (a1 : Int) (h0 : 0 <= a1) (h : a1 + (cn a0 : Nat) < 4611686018427387904) : a1 <= (ZC a0 a1).2 /\ (ZC a0 a1).2 <= a1 + (cn a0 : Nat) := by
  have := QR a0 a1 h0 h
  omega
theorem BH : ∀ (x : Int) (k : Int) (r : Int -> Sum Int Int), 0 <= k -> k + (cn x : Nat) < 4611686018427387904 -> (fun (x : Int) (k : Int) (r : Int -> Sum Int Int) => (bif (x != k) then (.inl (-1)) else (r (W (k + 1))))) ((fun (x : Int) (k : Int) => (k, (W (k + 1)))) x k).1 k r = r ((fun (x : Int) (k : Int) => (k, (W (k + 1)))) x k).2 := by
  intro x k r h0 h
  simp only [XO, XY, yr, X9] at h
  have e0 : W (k + 1) = k + 1 := Zb (by omega) (by omega)
  simp
theorem ye (a0 : List Int) (a1 : Int) (h0 : 0 <= a1) (h : a1 + (cn a0 : Nat) < 4611686018427387904) : a1 <= (ZC a0 a1).2 /\ (ZC a0 a1).2 <= a1 + (cn a0 : Nat) /\ Zl (ZC a0 a1).1 a1 = (ZC a0 a1).2 := by
  rw [Uf]
  have s := Q0 TT a0 a1 h0 h
  have hh := K1 (z := (mkL (fun (x : Int) (k : Int) => (k, (W (k + 1)))) a0 a1).1) (H := Wq (mkL (fun (x : Int) (k : Int) => (k, (W (k + 1)))) a0 a1).1) (G := (fun (x : Int) (k : Int) (r : Int -> Sum Int Int) => (bif (x != k) then (.inl (-1)) else (r (W (k + 1)))))) (fun _ _ _ => rfl) TT BH a0 [] ((mkL (fun (x : Int) (k : Int) => (k, (W (k + 1)))) a0 a1).1.length + 1) a1 (by simp) (by rw [Q5]; omega) h0 h
  simp only [List.length_nil] at hh
  rw [XA] at *
  refine ⟨by omega, by omega, ?_⟩
  unfold Zl
  rw [hh]
theorem kC (a0 : List ByteArray) (a1 : Int) : ZB a0 a1 = mkL (fun (x : ByteArray) (k : Int) => ((Qk k), (W (k + 1)))) a0 a1 := by
  have h := K5 (F := Jh) (f := (fun (x : ByteArray) (k : Int) => ((Qk k), (W (k + 1))))) (fun _ _ _ _ => rfl) a0 [] (a0.length + 1) a1 (by omega)
  unfold ZB
  simp only [List.length_nil, List.nil_append] at h
  rw [h]
@[simp] theorem vN (a0 : List ByteArray) (a1 : Int) : (ZB a0 a1).1.length = a0.length := by rw [kC, Q5]
theorem WO : ∀ (x : ByteArray) (k : Int), 0 <= k -> k + (cn x : Nat) < 4611686018427387904 -> ((fun (x : ByteArray) (k : Int) => ((Qk k), (W (k + 1)))) x k).2 = k + (cn x : Nat) := by
  intro x k h0 h
  simp only [XO, XY, yr, X9] at h ⊢
  have e0 : W (k + 1) = k + 1 := Zb (by omega) (by omega)
  omega
theorem yv (a0 : List ByteArray) (a1 : Int) (h0 : 0 <= a1) (h : a1 + (cn a0 : Nat) < 4611686018427387904) : (ZB a0 a1).2 = a1 + (cn a0 : Nat) := by
  rw [kC]
  exact Q0 WO a0 a1 h0 h
theorem TB (a0 : List ByteArray) (a1 : Int) (h0 : 0 <= a1) (h : a1 + (cn a0 : Nat) < 4611686018427387904) : a1 <= (ZB a0 a1).2 /\ (ZB a0 a1).2 <= a1 + (cn a0 : Nat) := by
  have := yv a0 a1 h0 h
  omega
theorem Ll : ∀ (x : ByteArray) (k : Int) (r : Int -> Sum Int Int), 0 <= k -> k + (cn x : Nat) < 4611686018427387904 -> (fun (x : ByteArray) (k : Int) (r : Int -> Sum Int Int) => (bif (!decide (x = (Qk k))) then (.inl (-1)) else (r (W (k + 1))))) ((fun (x : ByteArray) (k : Int) => ((Qk k), (W (k + 1)))) x k).1 k r = r ((fun (x : ByteArray) (k : Int) => ((Qk k), (W (k + 1)))) x k).2 := by
  intro x k r h0 h
  simp only [XO, XY, yr, X9] at h
  have e0 : W (k + 1) = k + 1 := Zb (by omega) (by omega)
  simp
theorem MR (a0 : List ByteArray) (a1 : Int) (h0 : 0 <= a1) (h : a1 + (cn a0 : Nat) < 4611686018427387904) : a1 <= (ZB a0 a1).2 /\ (ZB a0 a1).2 <= a1 + (cn a0 : Nat) /\ Zo (ZB a0 a1).1 a1 = (ZB a0 a1).2 := by
  rw [kC]
  have s := Q0 WO a0 a1 h0 h
  have hh := K1 (z := (mkL (fun (x : ByteArray) (k : Int) => ((Qk k), (W (k + 1)))) a0 a1).1) (H := qa (mkL (fun (x : ByteArray) (k : Int) => ((Qk k), (W (k + 1)))) a0 a1).1) (G := (fun (x : ByteArray) (k : Int) (r : Int -> Sum Int Int) => (bif (!decide (x = (Qk k))) then (.inl (-1)) else (r (W (k + 1)))))) (fun _ _ _ => rfl) WO Ll a0 [] ((mkL (fun (x : ByteArray) (k : Int) => ((Qk k), (W (k + 1)))) a0 a1).1.length + 1) a1 (by simp) (by rw [Q5]; omega) h0 h
  simp only [List.length_nil] at hh
  rw [XA] at *
  refine ⟨by omega, by omega, ?_⟩
  unfold Zo
  rw [hh]
theorem WM (a0 : List ZO) (a1 : Int) : Zn a0 a1 = mkL (fun (x : ZO) (k : Int) => ((ZO.mk k (ZC x.YP (W (k + 1))).1 (ZC x.YP (W (k + 1))).2), (W ((ZC x.YP (W (k + 1))).2 + 1)))) a0 a1 := by
  have h := K5 (F := J4) (f := (fun (x : ZO) (k : Int) => ((ZO.mk k (ZC x.YP (W (k + 1))).1 (ZC x.YP (W (k + 1))).2), (W ((ZC x.YP (W (k + 1))).2 + 1))))) (fun _ _ _ _ => rfl) a0 [] (a0.length + 1) a1 (by omega)
  unfold Zn
  simp only [List.length_nil, List.nil_append] at h
  rw [h]
@[simp] theorem uI (a0 : List ZO) (a1 : Int) : (Zn a0 a1).1.length = a0.length := by rw [WM, Q5]
theorem VH : ∀ (x : ZO) (k : Int), 0 <= k -> k + (cn x : Nat) < 4611686018427387904 -> ((fun (x : ZO) (k : Int) => ((ZO.mk k (ZC x.YP (W (k + 1))).1 (ZC x.YP (W (k + 1))).2), (W ((ZC x.YP (W (k + 1))).2 + 1)))) x k).2 = k + (cn x : Nat) := by
  intro x k h0 h
  simp only [XO, XY, yr, X9, ZO.Yb] at h ⊢
  have e0 : W (k + 1) = k + 1 := Zb (by omega) (by omega)
  obtain ⟨m1, n1⟩ := kS x.YP (W (k + 1)) (by omega) (by omega)
  have q1 := QR x.YP (W (k + 1)) (by omega) (by omega)
  have o1 : ¬ (ZC x.YP (W (k + 1))).2 < 0 := by omega
  have e4 : W ((ZC x.YP (W (k + 1))).2 + 1) = (ZC x.YP (W (k + 1))).2 + 1 := Zb (by omega) (by omega)
  omega
theorem kI (a0 : List ZO) (a1 : Int) (h0 : 0 <= a1) (h : a1 + (cn a0 : Nat) < 4611686018427387904) : (Zn a0 a1).2 = a1 + (cn a0 : Nat) := by
  rw [WM]
  exact Q0 VH a0 a1 h0 h
theorem IU (a0 : List ZO) (a1 : Int) (h0 : 0 <= a1) (h : a1 + (cn a0 : Nat) < 4611686018427387904) : a1 <= (Zn a0 a1).2 /\ (Zn a0 a1).2 <= a1 + (cn a0 : Nat) := by
  have := kI a0 a1 h0 h
  omega
theorem Hh : ∀ (x : ZO) (k : Int) (r : Int -> Sum Int Int), 0 <= k -> k + (cn x : Nat) < 4611686018427387904 -> (fun (x : ZO) (k : Int) (r : Int -> Sum Int Int) => (bif (x.Key != k) then (.inl (-1)) else (bif (decide ((Zl x.YP (W (k + 1))) < 0)) then (.inl (-1)) else (bif (x.Mark != (Zl x.YP (W (k + 1)))) then (.inl (-1)) else (r (W ((Zl x.YP (W (k + 1))) + 1))))))) ((fun (x : ZO) (k : Int) => ((ZO.mk k (ZC x.YP (W (k + 1))).1 (ZC x.YP (W (k + 1))).2), (W ((ZC x.YP (W (k + 1))).2 + 1)))) x k).1 k r = r ((fun (x : ZO) (k : Int) => ((ZO.mk k (ZC x.YP (W (k + 1))).1 (ZC x.YP (W (k + 1))).2), (W ((ZC x.YP (W (k + 1))).2 + 1)))) x k).2 := by
  intro x k r h0 h
  simp only [XO, XY, yr, X9, ZO.Yb] at h
  have e0 : W (k + 1) = k + 1 := Zb (by omega) (by omega)
  obtain ⟨m1, n1, h1⟩ := ye x.YP (W (k + 1)) (by omega) (by omega)
  have q1 := QR x.YP (W (k + 1)) (by omega) (by omega)
  have o1 : ¬ (ZC x.YP (W (k + 1))).2 < 0 := by omega
  have e4 : W ((ZC x.YP (W (k + 1))).2 + 1) = (ZC x.YP (W (k + 1))).2 + 1 := Zb (by omega) (by omega)
  simp [h1, o1]
theorem IQ (a0 : List ZO) (a1 : Int) (h0 : 0 <= a1) (h : a1 + (cn a0 : Nat) < 4611686018427387904) : a1 <= (Zn a0 a1).2 /\ (Zn a0 a1).2 <= a1 + (cn a0 : Nat) /\ QI (Zn a0 a1).1 a1 = (Zn a0 a1).2 := by
  rw [WM]
  have s := Q0 VH a0 a1 h0 h
  have hh := K1 (z := (mkL (fun (x : ZO) (k : Int) => ((ZO.mk k (ZC x.YP (W (k + 1))).1 (ZC x.YP (W (k + 1))).2), (W ((ZC x.YP (W (k + 1))).2 + 1)))) a0 a1).1) (H := jY (mkL (fun (x : ZO) (k : Int) => ((ZO.mk k (ZC x.YP (W (k + 1))).1 (ZC x.YP (W (k + 1))).2), (W ((ZC x.YP (W (k + 1))).2 + 1)))) a0 a1).1) (G := (fun (x : ZO) (k : Int) (r : Int -> Sum Int Int) => (bif (x.Key != k) then (.inl (-1)) else (bif (decide ((Zl x.YP (W (k + 1))) < 0)) then (.inl (-1)) else (bif (x.Mark != (Zl x.YP (W (k + 1)))) then (.inl (-1)) else (r (W ((Zl x.YP (W (k + 1))) + 1)))))))) (fun _ _ _ => rfl) VH Hh a0 [] ((mkL (fun (x : ZO) (k : Int) => ((ZO.mk k (ZC x.YP (W (k + 1))).1 (ZC x.YP (W (k + 1))).2), (W ((ZC x.YP (W (k + 1))).2 + 1)))) a0 a1).1.length + 1) a1 (by simp) (by rw [Q5]; omega) h0 h
  simp only [List.length_nil] at hh
  rw [XA] at *
  refine ⟨by omega, by omega, ?_⟩
  unfold QI
  rw [hh]
theorem W3 (a0 : List Zv) (a1 : Int) : Zt a0 a1 = mkL (fun (x : Zv) (k : Int) => ((Zv.mk k ((Int.tmod (W (k + 1)) 3) == 0)), (W ((W (k + 1)) + 1)))) a0 a1 := by
  have h := K5 (F := Ke) (f := (fun (x : Zv) (k : Int) => ((Zv.mk k ((Int.tmod (W (k + 1)) 3) == 0)), (W ((W (k + 1)) + 1))))) (fun _ _ _ _ => rfl) a0 [] (a0.length + 1) a1 (by omega)
  unfold Zt
  simp only [List.length_nil, List.nil_append] at h
  rw [h]
@[simp] theorem uq (a0 : List Zv) (a1 : Int) : (Zt a0 a1).1.length = a0.length := by rw [W3, Q5]
theorem Ug : ∀ (x : Zv) (k : Int), 0 <= k -> k + (cn x : Nat) < 4611686018427387904 -> ((fun (x : Zv) (k : Int) => ((Zv.mk k ((Int.tmod (W (k + 1)) 3) == 0)), (W ((W (k + 1)) + 1)))) x k).2 = k + (cn x : Nat) := by
  intro x k h0 h
  simp only [XO, XY, yr, X9, Zv.Yb] at h ⊢
  have e0 : W (k + 1) = k + 1 := Zb (by omega) (by omega)
  have e1 : W ((W (k + 1)) + 1) = (W (k + 1)) + 1 := Zb (by omega) (by omega)
  omega
theorem WJ (a0 : List Zv) (a1 : Int) (h0 : 0 <= a1) (h : a1 + (cn a0 : Nat) < 4611686018427387904) : (Zt a0 a1).2 = a1 + (cn a0 : Nat) := by
  rw [W3]
  exact Q0 Ug a0 a1 h0 h
theorem Gd (a0 : List Zv) (a1 : Int) (h0 : 0 <= a1) (h : a1 + (cn a0 : Nat) < 4611686018427387904) : a1 <= (Zt a0 a1).2 /\ (Zt a0 a1).2 <= a1 + (cn a0 : Nat) := by
  have := WJ a0 a1 h0 h
  omega
theorem EH : ∀ (x : Zv) (k : Int) (r : Int -> Sum Int Int), 0 <= k -> k + (cn x : Nat) < 4611686018427387904 -> (fun (x : Zv) (k : Int) (r : Int -> Sum Int Int) => (bif (x.XN != k) then (.inl (-1)) else (bif (!(x.Left == ((Int.tmod (W (k + 1)) 3) == 0))) then (.inl (-1)) else (r (W ((W (k + 1)) + 1)))))) ((fun (x : Zv) (k : Int) => ((Zv.mk k ((Int.tmod (W (k + 1)) 3) == 0)), (W ((W (k + 1)) + 1)))) x k).1 k r = r ((fun (x : Zv) (k : Int) => ((Zv.mk k ((Int.tmod (W (k + 1)) 3) == 0)), (W ((W (k + 1)) + 1)))) x k).2 := by
  intro x k r h0 h
  simp only [XO, XY, yr, X9, Zv.Yb] at h
  have e0 : W (k + 1) = k + 1 := Zb (by omega) (by omega)
  have e1 : W ((W (k + 1)) + 1) = (W (k + 1)) + 1 := Zb (by omega) (by omega)
  simp
theorem FK (a0 : List Zv) (a1 : Int) (h0 : 0 <= a1) (h : a1 + (cn a0 : Nat) < 4611686018427387904) : a1 <= (Zt a0 a1).2 /\ (Zt a0 a1).2 <= a1 + (cn a0 : Nat) /\ Ql (Zt a0 a1).1 a1 = (Zt a0 a1).2 := by
  rw [W3]
  have s := Q0 Ug a0 a1 h0 h
  have hh := K1 (z := (mkL (fun (x : Zv) (k : Int) => ((Zv.mk k ((Int.tmod (W (k + 1)) 3) == 0)), (W ((W (k + 1)) + 1)))) a0 a1).1) (H := kj (mkL (fun (x : Zv) (k : Int) => ((Zv.mk k ((Int.tmod (W (k + 1)) 3) == 0)), (W ((W (k + 1)) + 1)))) a0 a1).1) (G := (fun (x : Zv) (k : Int) (r : Int -> Sum Int Int) => (bif (x.XN != k) then (.inl (-1)) else (bif (!(x.Left == ((Int.tmod (W (k + 1)) 3) == 0))) then (.inl (-1)) else (r (W ((W (k + 1)) + 1))))))) (fun _ _ _ => rfl) Ug EH a0 [] ((mkL (fun (x : Zv) (k : Int) => ((Zv.mk k ((Int.tmod (W (k + 1)) 3) == 0)), (W ((W (k + 1)) + 1)))) a0 a1).1.length + 1) a1 (by simp) (by rw [Q5]; omega) h0 h
  simp only [List.length_nil] at hh
  rw [XA] at *
  refine ⟨by omega, by omega, ?_⟩
  unfold Ql
  rw [hh]
theorem WH (a0 : List ZX) (a1 : Int) : Z9 a0 a1 = mkL (fun (x : ZX) (k : Int) => ((ZX.mk k (W (k + 1)) (W ((W (k + 1)) + 1)) (W ((W ((W (k + 1)) + 1)) + 1)) (W ((W ((W ((W (k + 1)) + 1)) + 1)) + 1))), (W ((W ((W ((W ((W (k + 1)) + 1)) + 1)) + 1)) + 1)))) a0 a1 := by
  have h := K5 (F := J7) (f := (fun (x : ZX) (k : Int) => ((ZX.mk k (W (k + 1)) (W ((W (k + 1)) + 1)) (W ((W ((W (k + 1)) + 1)) + 1)) (W ((W ((W ((W (k + 1)) + 1)) + 1)) + 1))), (W ((W ((W ((W ((W (k + 1)) + 1)) + 1)) + 1)) + 1))))) (fun _ _ _ _ => rfl) a0 [] (a0.length + 1) a1 (by omega)
  unfold Z9
  simp only [List.length_nil, List.nil_append] at h
  rw [h]
@[simp] theorem uS (a0 : List ZX) (a1 : Int) : (Z9 a0 a1).1.length = a0.length := by rw [WH, Q5]
theorem VR : ∀ (x : ZX) (k : Int), 0 <= k -> k + (cn x : Nat) < 4611686018427387904 -> ((fun (x : ZX) (k : Int) => ((ZX.mk k (W (k + 1)) (W ((W (k + 1)) + 1)) (W ((W ((W (k + 1)) + 1)) + 1)) (W ((W ((W ((W (k + 1)) + 1)) + 1)) + 1))), (W ((W ((W ((W ((W (k + 1)) + 1)) + 1)) + 1)) + 1)))) x k).2 = k + (cn x : Nat) := by
  intro x k h0 h
  simp only [XO, XY, yr, X9, ZX.Yb] at h ⊢
  have e0 : W (k + 1) = k + 1 := Zb (by omega) (by omega)
  have e1 : W ((W (k + 1)) + 1) = (W (k + 1)) + 1 := Zb (by omega) (by omega)
  have e2 : W ((W ((W (k + 1)) + 1)) + 1) = (W ((W (k + 1)) + 1)) + 1 := Zb (by omega) (by omega)
  have e3 : W ((W ((W ((W (k + 1)) + 1)) + 1)) + 1) = (W ((W ((W (k + 1)) + 1)) + 1)) + 1 := Zb (by omega) (by omega)
  have e4 : W ((W ((W ((W ((W (k + 1)) + 1)) + 1)) + 1)) + 1) = (W ((W ((W ((W (k + 1)) + 1)) + 1)) + 1)) + 1 := Zb (by omega) (by omega)
  omega
theorem kK (a0 : List ZX) (a1 : Int) (h0 : 0 <= a1) (h : a1 + (cn a0 : Nat) < 4611686018427387904) : (Z9 a0 a1).2 = a1 + (cn a0 : Nat) := by
  rw [WH]
  exact Q0 VR a0 a1 h0 h
theorem Lm (a0 : List ZX) (a1 : Int) (h0 : 0 <= a1) (h : a1 + (cn a0 : Nat) < 4611686018427387904) : a1 <= (Z9 a0 a1).2 /\ (Z9 a0 a1).2 <= a1 + (cn a0 : Nat) := by
  have := kK a0 a1 h0 h
  omega
theorem Gz : ∀ (x : ZX) (k : Int) (r : Int -> Sum Int Int), 0 <= k -> k + (cn x : Nat) < 4611686018427387904 -> (fun (x : ZX) (k : Int) (r : Int -> Sum Int Int) => (bif (x.Authority != k) then (.inl (-1)) else (bif (x.Seq != (W (k + 1))) then (.inl (-1)) else (bif (x.Time != (W ((W (k + 1)) + 1))) then (.inl (-1)) else (bif (x.XN != (W ((W ((W (k + 1)) + 1)) + 1))) then (.inl (-1)) else (bif (x.Mark != (W ((W ((W ((W (k + 1)) + 1)) + 1)) + 1))) then (.inl (-1)) else (r (W ((W ((W ((W ((W (k + 1)) + 1)) + 1)) + 1)) + 1))))))))) ((fun (x : ZX) (k : Int) => ((ZX.mk k (W (k + 1)) (W ((W (k + 1)) + 1)) (W ((W ((W (k + 1)) + 1)) + 1)) (W ((W ((W ((W (k + 1)) + 1)) + 1)) + 1))), (W ((W ((W ((W ((W (k + 1)) + 1)) + 1)) + 1)) + 1)))) x k).1 k r = r ((fun (x : ZX) (k : Int) => ((ZX.mk k (W (k + 1)) (W ((W (k + 1)) + 1)) (W ((W ((W (k + 1)) + 1)) + 1)) (W ((W ((W ((W (k + 1)) + 1)) + 1)) + 1))), (W ((W ((W ((W ((W (k + 1)) + 1)) + 1)) + 1)) + 1)))) x k).2 := by
  intro x k r h0 h
  simp only [XO, XY, yr, X9, ZX.Yb] at h
  have e0 : W (k + 1) = k + 1 := Zb (by omega) (by omega)
  have e1 : W ((W (k + 1)) + 1) = (W (k + 1)) + 1 := Zb (by omega) (by omega)
  have e2 : W ((W ((W (k + 1)) + 1)) + 1) = (W ((W (k + 1)) + 1)) + 1 := Zb (by omega) (by omega)
  have e3 : W ((W ((W ((W (k + 1)) + 1)) + 1)) + 1) = (W ((W ((W (k + 1)) + 1)) + 1)) + 1 := Zb (by omega) (by omega)
  have e4 : W ((W ((W ((W ((W (k + 1)) + 1)) + 1)) + 1)) + 1) = (W ((W ((W ((W (k + 1)) + 1)) + 1)) + 1)) + 1 := Zb (by omega) (by omega)
  simp
theorem L8 (a0 : List ZX) (a1 : Int) (h0 : 0 <= a1) (h : a1 + (cn a0 : Nat) < 4611686018427387904) : a1 <= (Z9 a0 a1).2 /\ (Z9 a0 a1).2 <= a1 + (cn a0 : Nat) /\ Jz (Z9 a0 a1).1 a1 = (Z9 a0 a1).2 := by
  rw [WH]
  have s := Q0 VR a0 a1 h0 h
  have hh := K1 (z := (mkL (fun (x : ZX) (k : Int) => ((ZX.mk k (W (k + 1)) (W ((W (k + 1)) + 1)) (W ((W ((W (k + 1)) + 1)) + 1)) (W ((W ((W ((W (k + 1)) + 1)) + 1)) + 1))), (W ((W ((W ((W ((W (k + 1)) + 1)) + 1)) + 1)) + 1)))) a0 a1).1) (H := jt (mkL (fun (x : ZX) (k : Int) => ((ZX.mk k (W (k + 1)) (W ((W (k + 1)) + 1)) (W ((W ((W (k + 1)) + 1)) + 1)) (W ((W ((W ((W (k + 1)) + 1)) + 1)) + 1))), (W ((W ((W ((W ((W (k + 1)) + 1)) + 1)) + 1)) + 1)))) a0 a1).1) (G := (fun (x : ZX) (k : Int) (r : Int -> Sum Int Int) => (bif (x.Authority != k) then (.inl (-1)) else (bif (x.Seq != (W (k + 1))) then (.inl (-1)) else (bif (x.Time != (W ((W (k + 1)) + 1))) then (.inl (-1)) else (bif (x.XN != (W ((W ((W (k + 1)) + 1)) + 1))) then (.inl (-1)) else (bif (x.Mark != (W ((W ((W ((W (k + 1)) + 1)) + 1)) + 1))) then (.inl (-1)) else (r (W ((W ((W ((W ((W (k + 1)) + 1)) + 1)) + 1)) + 1)))))))))) (fun _ _ _ => rfl) VR Gz a0 [] ((mkL (fun (x : ZX) (k : Int) => ((ZX.mk k (W (k + 1)) (W ((W (k + 1)) + 1)) (W ((W ((W (k + 1)) + 1)) + 1)) (W ((W ((W ((W (k + 1)) + 1)) + 1)) + 1))), (W ((W ((W ((W ((W (k + 1)) + 1)) + 1)) + 1)) + 1)))) a0 a1).1.length + 1) a1 (by simp) (by rw [Q5]; omega) h0 h
  simp only [List.length_nil] at hh
  rw [XA] at *
  refine ⟨by omega, by omega, ?_⟩
  unfold Jz
  rw [hh]
theorem js (a0 : List ZK) (a1 : Int) : Zz a0 a1 = mkL (fun (x : ZK) (k : Int) => ((ZK.mk k (W (k + 1)) (W ((W (k + 1)) + 1)) (Zt x.Path (W ((W ((W (k + 1)) + 1)) + 1))).1 (Z9 x.YE (Zt x.Path (W ((W ((W (k + 1)) + 1)) + 1))).2).1), (Z9 x.YE (Zt x.Path (W ((W ((W (k + 1)) + 1)) + 1))).2).2)) a0 a1 := by
  have h := K5 (F := JE) (f := (fun (x : ZK) (k : Int) => ((ZK.mk k (W (k + 1)) (W ((W (k + 1)) + 1)) (Zt x.Path (W ((W ((W (k + 1)) + 1)) + 1))).1 (Z9 x.YE (Zt x.Path (W ((W ((W (k + 1)) + 1)) + 1))).2).1), (Z9 x.YE (Zt x.Path (W ((W ((W (k + 1)) + 1)) + 1))).2).2))) (fun _ _ _ _ => rfl) a0 [] (a0.length + 1) a1 (by omega)
  unfold Zz
  simp only [List.length_nil, List.nil_append] at h
  rw [h]
@[simp] theorem wG (a0 : List ZK) (a1 : Int) : (Zz a0 a1).1.length = a0.length := by rw [js, Q5]
theorem kF : ∀ (x : ZK) (k : Int), 0 <= k -> k + (cn x : Nat) < 4611686018427387904 -> ((fun (x : ZK) (k : Int) => ((ZK.mk k (W (k + 1)) (W ((W (k + 1)) + 1)) (Zt x.Path (W ((W ((W (k + 1)) + 1)) + 1))).1 (Z9 x.YE (Zt x.Path (W ((W ((W (k + 1)) + 1)) + 1))).2).1), (Z9 x.YE (Zt x.Path (W ((W ((W (k + 1)) + 1)) + 1))).2).2)) x k).2 = k + (cn x : Nat) := by
  intro x k h0 h
  simp only [XO, XY, yr, X9, ZK.Yb] at h ⊢
  have e0 : W (k + 1) = k + 1 := Zb (by omega) (by omega)
  have e1 : W ((W (k + 1)) + 1) = (W (k + 1)) + 1 := Zb (by omega) (by omega)
  have e2 : W ((W ((W (k + 1)) + 1)) + 1) = (W ((W (k + 1)) + 1)) + 1 := Zb (by omega) (by omega)
  obtain ⟨m3, n3⟩ := Gd x.Path (W ((W ((W (k + 1)) + 1)) + 1)) (by omega) (by omega)
  have q3 := WJ x.Path (W ((W ((W (k + 1)) + 1)) + 1)) (by omega) (by omega)
  have o3 : ¬ (Zt x.Path (W ((W ((W (k + 1)) + 1)) + 1))).2 < 0 := by omega
  obtain ⟨m6, n6⟩ := Lm x.YE (Zt x.Path (W ((W ((W (k + 1)) + 1)) + 1))).2 (by omega) (by omega)
  have q6 := kK x.YE (Zt x.Path (W ((W ((W (k + 1)) + 1)) + 1))).2 (by omega) (by omega)
  have o6 : ¬ (Z9 x.YE (Zt x.Path (W ((W ((W (k + 1)) + 1)) + 1))).2).2 < 0 := by omega
  omega
theorem qt (a0 : List ZK) (a1 : Int) (h0 : 0 <= a1) (h : a1 + (cn a0 : Nat) < 4611686018427387904) : (Zz a0 a1).2 = a1 + (cn a0 : Nat) := by
  rw [js]
  exact Q0 kF a0 a1 h0 h
theorem On (a0 : List ZK) (a1 : Int) (h0 : 0 <= a1) (h : a1 + (cn a0 : Nat) < 4611686018427387904) : a1 <= (Zz a0 a1).2 /\ (Zz a0 a1).2 <= a1 + (cn a0 : Nat) := by
  have := qt a0 a1 h0 h
  omega
theorem Mc : ∀ (x : ZK) (k : Int) (r : Int -> Sum Int Int), 0 <= k -> k + (cn x : Nat) < 4611686018427387904 -> (fun (x : ZK) (k : Int) (r : Int -> Sum Int Int) => (bif (x.Count != k) then (.inl (-1)) else (bif (x.Method != (W (k + 1))) then (.inl (-1)) else (bif (x.ID != (W ((W (k + 1)) + 1))) then (.inl (-1)) else (bif (decide ((Ql x.Path (W ((W ((W (k + 1)) + 1)) + 1))) < 0)) then (.inl (-1)) else (bif (decide ((Jz x.YE (Ql x.Path (W ((W ((W (k + 1)) + 1)) + 1)))) < 0)) then (.inl (-1)) else (r (Jz x.YE (Ql x.Path (W ((W ((W (k + 1)) + 1)) + 1))))))))))) ((fun (x : ZK) (k : Int) => ((ZK.mk k (W (k + 1)) (W ((W (k + 1)) + 1)) (Zt x.Path (W ((W ((W (k + 1)) + 1)) + 1))).1 (Z9 x.YE (Zt x.Path (W ((W ((W (k + 1)) + 1)) + 1))).2).1), (Z9 x.YE (Zt x.Path (W ((W ((W (k + 1)) + 1)) + 1))).2).2)) x k).1 k r = r ((fun (x : ZK) (k : Int) => ((ZK.mk k (W (k + 1)) (W ((W (k + 1)) + 1)) (Zt x.Path (W ((W ((W (k + 1)) + 1)) + 1))).1 (Z9 x.YE (Zt x.Path (W ((W ((W (k + 1)) + 1)) + 1))).2).1), (Z9 x.YE (Zt x.Path (W ((W ((W (k + 1)) + 1)) + 1))).2).2)) x k).2 := by
  intro x k r h0 h
  simp only [XO, XY, yr, X9, ZK.Yb] at h
  have e0 : W (k + 1) = k + 1 := Zb (by omega) (by omega)
  have e1 : W ((W (k + 1)) + 1) = (W (k + 1)) + 1 := Zb (by omega) (by omega)
  have e2 : W ((W ((W (k + 1)) + 1)) + 1) = (W ((W (k + 1)) + 1)) + 1 := Zb (by omega) (by omega)
  obtain ⟨m3, n3, h3⟩ := FK x.Path (W ((W ((W (k + 1)) + 1)) + 1)) (by omega) (by omega)
  have q3 := WJ x.Path (W ((W ((W (k + 1)) + 1)) + 1)) (by omega) (by omega)
  have o3 : ¬ (Zt x.Path (W ((W ((W (k + 1)) + 1)) + 1))).2 < 0 := by omega
  obtain ⟨m6, n6, h6⟩ := L8 x.YE (Zt x.Path (W ((W ((W (k + 1)) + 1)) + 1))).2 (by omega) (by omega)
  have q6 := kK x.YE (Zt x.Path (W ((W ((W (k + 1)) + 1)) + 1))).2 (by omega) (by omega)
  have o6 : ¬ (Z9 x.YE (Zt x.Path (W ((W ((W (k + 1)) + 1)) + 1))).2).2 < 0 := by omega
  simp [h3, h6, o3, o6]
theorem OV (a0 : List ZK) (a1 : Int) (h0 : 0 <= a1) (h : a1 + (cn a0 : Nat) < 4611686018427387904) : a1 <= (Zz a0 a1).2 /\ (Zz a0 a1).2 <= a1 + (cn a0 : Nat) /\ Qu (Zz a0 a1).1 a1 = (Zz a0 a1).2 := by
  rw [js]
  have s := Q0 kF a0 a1 h0 h
  have hh := K1 (z := (mkL (fun (x : ZK) (k : Int) => ((ZK.mk k (W (k + 1)) (W ((W (k + 1)) + 1)) (Zt x.Path (W ((W ((W (k + 1)) + 1)) + 1))).1 (Z9 x.YE (Zt x.Path (W ((W ((W (k + 1)) + 1)) + 1))).2).1), (Z9 x.YE (Zt x.Path (W ((W ((W (k + 1)) + 1)) + 1))).2).2)) a0 a1).1) (H := xo (mkL (fun (x : ZK) (k : Int) => ((ZK.mk k (W (k + 1)) (W ((W (k + 1)) + 1)) (Zt x.Path (W ((W ((W (k + 1)) + 1)) + 1))).1 (Z9 x.YE (Zt x.Path (W ((W ((W (k + 1)) + 1)) + 1))).2).1), (Z9 x.YE (Zt x.Path (W ((W ((W (k + 1)) + 1)) + 1))).2).2)) a0 a1).1) (G := (fun (x : ZK) (k : Int) (r : Int -> Sum Int Int) => (bif (x.Count != k) then (.inl (-1)) else (bif (x.Method != (W (k + 1))) then (.inl (-1)) else (bif (x.ID != (W ((W (k + 1)) + 1))) then (.inl (-1)) else (bif (decide ((Ql x.Path (W ((W ((W (k + 1)) + 1)) + 1))) < 0)) then (.inl (-1)) else (bif (decide ((Jz x.YE (Ql x.Path (W ((W ((W (k + 1)) + 1)) + 1)))) < 0)) then (.inl (-1)) else (r (Jz x.YE (Ql x.Path (W ((W ((W (k + 1)) + 1)) + 1)))))))))))) (fun _ _ _ => rfl) kF Mc a0 [] ((mkL (fun (x : ZK) (k : Int) => ((ZK.mk k (W (k + 1)) (W ((W (k + 1)) + 1)) (Zt x.Path (W ((W ((W (k + 1)) + 1)) + 1))).1 (Z9 x.YE (Zt x.Path (W ((W ((W (k + 1)) + 1)) + 1))).2).1), (Z9 x.YE (Zt x.Path (W ((W ((W (k + 1)) + 1)) + 1))).2).2)) a0 a1).1.length + 1) a1 (by simp) (by rw [Q5]; omega) h0 h
  simp only [List.length_nil] at hh
  rw [XA] at *
  refine ⟨by omega, by omega, ?_⟩
  unfold Qu
  rw [hh]
theorem VQ (a0 : List ZM) (a1 : Int) : YI a0 a1 = mkL (fun (x : ZM) (k : Int) => ((ZM.mk k (W (k + 1)) (ZV.mk (W ((W (k + 1)) + 1)) (ZB x.Doc.ZN (W ((W ((W (k + 1)) + 1)) + 1))).1 (ZC x.Doc.ZR (ZB x.Doc.ZN (W ((W ((W (k + 1)) + 1)) + 1))).2).1) (ZY.mk (ZC x.Doc.ZR (ZB x.Doc.ZN (W ((W ((W (k + 1)) + 1)) + 1))).2).2 (W ((ZC x.Doc.ZR (ZB x.Doc.ZN (W ((W ((W (k + 1)) + 1)) + 1))).2).2 + 1)) (W ((W ((ZC x.Doc.ZR (ZB x.Doc.ZN (W ((W ((W (k + 1)) + 1)) + 1))).2).2 + 1)) + 1)) (W ((W ((W ((ZC x.Doc.ZR (ZB x.Doc.ZN (W ((W ((W (k + 1)) + 1)) + 1))).2).2 + 1)) + 1)) + 1)) (W ((W ((W ((W ((ZC x.Doc.ZR (ZB x.Doc.ZN (W ((W ((W (k + 1)) + 1)) + 1))).2).2 + 1)) + 1)) + 1)) + 1)) (W ((W ((W ((W ((W ((ZC x.Doc.ZR (ZB x.Doc.ZN (W ((W ((W (k + 1)) + 1)) + 1))).2).2 + 1)) + 1)) + 1)) + 1)) + 1)) (W ((W ((W ((W ((W ((W ((ZC x.Doc.ZR (ZB x.Doc.ZN (W ((W ((W (k + 1)) + 1)) + 1))).2).2 + 1)) + 1)) + 1)) + 1)) + 1)) + 1)) (W ((W ((W ((W ((W ((W ((W ((ZC x.Doc.ZR (ZB x.Doc.ZN (W ((W ((W (k + 1)) + 1)) + 1))).2).2 + 1)) + 1)) + 1)) + 1)) + 1)) + 1)) + 1)) (W ((W ((W ((W ((W ((W ((W ((W ((ZC x.Doc.ZR (ZB x.Doc.ZN (W ((W ((W (k + 1)) + 1)) + 1))).2).2 + 1)) + 1)) + 1)) + 1)) + 1)) + 1)) + 1)) + 1))) (Za.mk (Zn x.ZI.ZL (W ((W ((W ((W ((W ((W ((W ((W ((W ((ZC x.Doc.ZR (ZB x.Doc.ZN (W ((W ((W (k + 1)) + 1)) + 1))).2).2 + 1)) + 1)) + 1)) + 1)) + 1)) + 1)) + 1)) + 1)) + 1))).1 (Zz x.ZI.Zd (Zn x.ZI.ZL (W ((W ((W ((W ((W ((W ((W ((W ((W ((ZC x.Doc.ZR (ZB x.Doc.ZN (W ((W ((W (k + 1)) + 1)) + 1))).2).2 + 1)) + 1)) + 1)) + 1)) + 1)) + 1)) + 1)) + 1)) + 1))).2).1)), (Zz x.ZI.Zd (Zn x.ZI.ZL (W ((W ((W ((W ((W ((W ((W ((W ((W ((ZC x.Doc.ZR (ZB x.Doc.ZN (W ((W ((W (k + 1)) + 1)) + 1))).2).2 + 1)) + 1)) + 1)) + 1)) + 1)) + 1)) + 1)) + 1)) + 1))).2).2)) a0 a1 := by
  have h := K5 (F := Kf) (f := (fun (x : ZM) (k : Int) => ((ZM.mk k (W (k + 1)) (ZV.mk (W ((W (k + 1)) + 1)) (ZB x.Doc.ZN (W ((W ((W (k + 1)) + 1)) + 1))).1 (ZC x.Doc.ZR (ZB x.Doc.ZN (W ((W ((W (k + 1)) + 1)) + 1))).2).1) (ZY.mk (ZC x.Doc.ZR (ZB x.Doc.ZN (W ((W ((W (k + 1)) + 1)) + 1))).2).2 (W ((ZC x.Doc.ZR (ZB x.Doc.ZN (W ((W ((W (k + 1)) + 1)) + 1))).2).2 + 1)) (W ((W ((ZC x.Doc.ZR (ZB x.Doc.ZN (W ((W ((W (k + 1)) + 1)) + 1))).2).2 + 1)) + 1)) (W ((W ((W ((ZC x.Doc.ZR (ZB x.Doc.ZN (W ((W ((W (k + 1)) + 1)) + 1))).2).2 + 1)) + 1)) + 1)) (W ((W ((W ((W ((ZC x.Doc.ZR (ZB x.Doc.ZN (W ((W ((W (k + 1)) + 1)) + 1))).2).2 + 1)) + 1)) + 1)) + 1)) (W ((W ((W ((W ((W ((ZC x.Doc.ZR (ZB x.Doc.ZN (W ((W ((W (k + 1)) + 1)) + 1))).2).2 + 1)) + 1)) + 1)) + 1)) + 1)) (W ((W ((W ((W ((W ((W ((ZC x.Doc.ZR (ZB x.Doc.ZN (W ((W ((W (k + 1)) + 1)) + 1))).2).2 + 1)) + 1)) + 1)) + 1)) + 1)) + 1)) (W ((W ((W ((W ((W ((W ((W ((ZC x.Doc.ZR (ZB x.Doc.ZN (W ((W ((W (k + 1)) + 1)) + 1))).2).2 + 1)) + 1)) + 1)) + 1)) + 1)) + 1)) + 1)) (W ((W ((W ((W ((W ((W ((W ((W ((ZC x.Doc.ZR (ZB x.Doc.ZN (W ((W ((W (k + 1)) + 1)) + 1))).2).2 + 1)) + 1)) + 1)) + 1)) + 1)) + 1)) + 1)) + 1))) (Za.mk (Zn x.ZI.ZL (W ((W ((W ((W ((W ((W ((W ((W ((W ((ZC x.Doc.ZR (ZB x.Doc.ZN (W ((W ((W (k + 1)) + 1)) + 1))).2).2 + 1)) + 1)) + 1)) + 1)) + 1)) + 1)) + 1)) + 1)) + 1))).1 (Zz x.ZI.Zd (Zn x.ZI.ZL (W ((W ((W ((W ((W ((W ((W ((W ((W ((ZC x.Doc.ZR (ZB x.Doc.ZN (W ((W ((W (k + 1)) + 1)) + 1))).2).2 + 1)) + 1)) + 1)) + 1)) + 1)) + 1)) + 1)) + 1)) + 1))).2).1)), (Zz x.ZI.Zd (Zn x.ZI.ZL (W ((W ((W ((W ((W ((W ((W ((W ((W ((ZC x.Doc.ZR (ZB x.Doc.ZN (W ((W ((W (k + 1)) + 1)) + 1))).2).2 + 1)) + 1)) + 1)) + 1)) + 1)) + 1)) + 1)) + 1)) + 1))).2).2))) (fun _ _ _ _ => rfl) a0 [] (a0.length + 1) a1 (by omega)
  unfold YI
  simp only [List.length_nil, List.nil_append] at h
  rw [h]
@[simp] theorem uk (a0 : List ZM) (a1 : Int) : (YI a0 a1).1.length = a0.length := by rw [VQ, Q5]
theorem UM : ∀ (x : ZM) (k : Int), 0 <= k -> k + (cn x : Nat) < 4611686018427387904 -> ((fun (x : ZM) (k : Int) => ((ZM.mk k (W (k + 1)) (ZV.mk (W ((W (k + 1)) + 1)) (ZB x.Doc.ZN (W ((W ((W (k + 1)) + 1)) + 1))).1 (ZC x.Doc.ZR (ZB x.Doc.ZN (W ((W ((W (k + 1)) + 1)) + 1))).2).1) (ZY.mk (ZC x.Doc.ZR (ZB x.Doc.ZN (W ((W ((W (k + 1)) + 1)) + 1))).2).2 (W ((ZC x.Doc.ZR (ZB x.Doc.ZN (W ((W ((W (k + 1)) + 1)) + 1))).2).2 + 1)) (W ((W ((ZC x.Doc.ZR (ZB x.Doc.ZN (W ((W ((W (k + 1)) + 1)) + 1))).2).2 + 1)) + 1)) (W ((W ((W ((ZC x.Doc.ZR (ZB x.Doc.ZN (W ((W ((W (k + 1)) + 1)) + 1))).2).2 + 1)) + 1)) + 1)) (W ((W ((W ((W ((ZC x.Doc.ZR (ZB x.Doc.ZN (W ((W ((W (k + 1)) + 1)) + 1))).2).2 + 1)) + 1)) + 1)) + 1)) (W ((W ((W ((W ((W ((ZC x.Doc.ZR (ZB x.Doc.ZN (W ((W ((W (k + 1)) + 1)) + 1))).2).2 + 1)) + 1)) + 1)) + 1)) + 1)) (W ((W ((W ((W ((W ((W ((ZC x.Doc.ZR (ZB x.Doc.ZN (W ((W ((W (k + 1)) + 1)) + 1))).2).2 + 1)) + 1)) + 1)) + 1)) + 1)) + 1)) (W ((W ((W ((W ((W ((W ((W ((ZC x.Doc.ZR (ZB x.Doc.ZN (W ((W ((W (k + 1)) + 1)) + 1))).2).2 + 1)) + 1)) + 1)) + 1)) + 1)) + 1)) + 1)) (W ((W ((W ((W ((W ((W ((W ((W ((ZC x.Doc.ZR (ZB x.Doc.ZN (W ((W ((W (k + 1)) + 1)) + 1))).2).2 + 1)) + 1)) + 1)) + 1)) + 1)) + 1)) + 1)) + 1))) (Za.mk (Zn x.ZI.ZL (W ((W ((W ((W ((W ((W ((W ((W ((W ((ZC x.Doc.ZR (ZB x.Doc.ZN (W ((W ((W (k + 1)) + 1)) + 1))).2).2 + 1)) + 1)) + 1)) + 1)) + 1)) + 1)) + 1)) + 1)) + 1))).1 (Zz x.ZI.Zd (Zn x.ZI.ZL (W ((W ((W ((W ((W ((W ((W ((W ((W ((ZC x.Doc.ZR (ZB x.Doc.ZN (W ((W ((W (k + 1)) + 1)) + 1))).2).2 + 1)) + 1)) + 1)) + 1)) + 1)) + 1)) + 1)) + 1)) + 1))).2).1)), (Zz x.ZI.Zd (Zn x.ZI.ZL (W ((W ((W ((W ((W ((W ((W ((W ((W ((ZC x.Doc.ZR (ZB x.Doc.ZN (W ((W ((W (k + 1)) + 1)) + 1))).2).2 + 1)) + 1)) + 1)) + 1)) + 1)) + 1)) + 1)) + 1)) + 1))).2).2)) x k).2 = k + (cn x : Nat) := by
  intro x k h0 h
  simp only [XO, XY, yr, X9, ZM.Yb, ZV.Yb, Za.Yb, ZY.Yb] at h ⊢
  have e0 : W (k + 1) = k + 1 := Zb (by omega) (by omega)
  have e1 : W ((W (k + 1)) + 1) = (W (k + 1)) + 1 := Zb (by omega) (by omega)
  have e2 : W ((W ((W (k + 1)) + 1)) + 1) = (W ((W (k + 1)) + 1)) + 1 := Zb (by omega) (by omega)
  obtain ⟨m3, n3⟩ := TB x.Doc.ZN (W ((W ((W (k + 1)) + 1)) + 1)) (by omega) (by omega)
  have q3 := yv x.Doc.ZN (W ((W ((W (k + 1)) + 1)) + 1)) (by omega) (by omega)
  have o3 : ¬ (ZB x.Doc.ZN (W ((W ((W (k + 1)) + 1)) + 1))).2 < 0 := by omega
  obtain ⟨m6, n6⟩ := kS x.Doc.ZR (ZB x.Doc.ZN (W ((W ((W (k + 1)) + 1)) + 1))).2 (by omega) (by omega)
  have q6 := QR x.Doc.ZR (ZB x.Doc.ZN (W ((W ((W (k + 1)) + 1)) + 1))).2 (by omega) (by omega)
  have o6 : ¬ (ZC x.Doc.ZR (ZB x.Doc.ZN (W ((W ((W (k + 1)) + 1)) + 1))).2).2 < 0 := by omega
  have e9 : W ((ZC x.Doc.ZR (ZB x.Doc.ZN (W ((W ((W (k + 1)) + 1)) + 1))).2).2 + 1) = (ZC x.Doc.ZR (ZB x.Doc.ZN (W ((W ((W (k + 1)) + 1)) + 1))).2).2 + 1 := Zb (by omega) (by omega)
  have e10 : W ((W ((ZC x.Doc.ZR (ZB x.Doc.ZN (W ((W ((W (k + 1)) + 1)) + 1))).2).2 + 1)) + 1) = (W ((ZC x.Doc.ZR (ZB x.Doc.ZN (W ((W ((W (k + 1)) + 1)) + 1))).2).2 + 1)) + 1 := Zb (by omega) (by omega)
  have e11 : W ((W ((W ((ZC x.Doc.ZR (ZB x.Doc.ZN (W ((W ((W (k + 1)) + 1)) + 1))).2).2 + 1)) + 1)) + 1) = (W ((W ((ZC x.Doc.ZR (ZB x.Doc.ZN (W ((W ((W (k + 1)) + 1)) + 1))).2).2 + 1)) + 1)) + 1 := Zb (by omega) (by omega)
  have e12 : W ((W ((W ((W ((ZC x.Doc.ZR (ZB x.Doc.ZN (W ((W ((W (k + 1)) + 1)) + 1))).2).2 + 1)) + 1)) + 1)) + 1) = (W ((W ((W ((ZC x.Doc.ZR (ZB x.Doc.ZN (W ((W ((W (k + 1)) + 1)) + 1))).2).2 + 1)) + 1)) + 1)) + 1 := Zb (by omega) (by omega)
  have e13 : W ((W ((W ((W ((W ((ZC x.Doc.ZR (ZB x.Doc.ZN (W ((W ((W (k + 1)) + 1)) + 1))).2).2 + 1)) + 1)) + 1)) + 1)) + 1) = (W ((W ((W ((W ((ZC x.Doc.ZR (ZB x.Doc.ZN (W ((W ((W (k + 1)) + 1)) + 1))).2).2 + 1)) + 1)) + 1)) + 1)) + 1 := Zb (by omega) (by omega)
  have e14 : W ((W ((W ((W ((W ((W ((ZC x.Doc.ZR (ZB x.Doc.ZN (W ((W ((W (k + 1)) + 1)) + 1))).2).2 + 1)) + 1)) + 1)) + 1)) + 1)) + 1) = (W ((W ((W ((W ((W ((ZC x.Doc.ZR (ZB x.Doc.ZN (W ((W ((W (k + 1)) + 1)) + 1))).2).2 + 1)) + 1)) + 1)) + 1)) + 1)) + 1 := Zb (by omega) (by omega)
  have e15 : W ((W ((W ((W ((W ((W ((W ((ZC x.Doc.ZR (ZB x.Doc.ZN (W ((W ((W (k + 1)) + 1)) + 1))).2).2 + 1)) + 1)) + 1)) + 1)) + 1)) + 1)) + 1) = (W ((W ((W ((W ((W ((W ((ZC x.Doc.ZR (ZB x.Doc.ZN (W ((W ((W (k + 1)) + 1)) + 1))).2).2 + 1)) + 1)) + 1)) + 1)) + 1)) + 1)) + 1 := Zb (by omega) (by omega)
  have e16 : W ((W ((W ((W ((W ((W ((W ((W ((ZC x.Doc.ZR (ZB x.Doc.ZN (W ((W ((W (k + 1)) + 1)) + 1))).2).2 + 1)) + 1)) + 1)) + 1)) + 1)) + 1)) + 1)) + 1) = (W ((W ((W ((W ((W ((W ((W ((ZC x.Doc.ZR (ZB x.Doc.ZN (W ((W ((W (k + 1)) + 1)) + 1))).2).2 + 1)) + 1)) + 1)) + 1)) + 1)) + 1)) + 1)) + 1 := Zb (by omega) (by omega)
  have e17 : W ((W ((W ((W ((W ((W ((W ((W ((W ((ZC x.Doc.ZR (ZB x.Doc.ZN (W ((W ((W (k + 1)) + 1)) + 1))).2).2 + 1)) + 1)) + 1)) + 1)) + 1)) + 1)) + 1)) + 1)) + 1) = (W ((W ((W ((W ((W ((W ((W ((W ((ZC x.Doc.ZR (ZB x.Doc.ZN (W ((W ((W (k + 1)) + 1)) + 1))).2).2 + 1)) + 1)) + 1)) + 1)) + 1)) + 1)) + 1)) + 1)) + 1 := Zb (by omega) (by omega)
  obtain ⟨m18, n18⟩ := IU x.ZI.ZL (W ((W ((W ((W ((W ((W ((W ((W ((W ((ZC x.Doc.ZR (ZB x.Doc.ZN (W ((W ((W (k + 1)) + 1)) + 1))).2).2 + 1)) + 1)) + 1)) + 1)) + 1)) + 1)) + 1)) + 1)) + 1)) (by omega) (by omega)
  have q18 := kI x.ZI.ZL (W ((W ((W ((W ((W ((W ((W ((W ((W ((ZC x.Doc.ZR (ZB x.Doc.ZN (W ((W ((W (k + 1)) + 1)) + 1))).2).2 + 1)) + 1)) + 1)) + 1)) + 1)) + 1)) + 1)) + 1)) + 1)) (by omega) (by omega)
  have o18 : ¬ (Zn x.ZI.ZL (W ((W ((W ((W ((W ((W ((W ((W ((W ((ZC x.Doc.ZR (ZB x.Doc.ZN (W ((W ((W (k + 1)) + 1)) + 1))).2).2 + 1)) + 1)) + 1)) + 1)) + 1)) + 1)) + 1)) + 1)) + 1))).2 < 0 := by omega
  obtain ⟨m21, n21⟩ := On x.ZI.Zd (Zn x.ZI.ZL (W ((W ((W ((W ((W ((W ((W ((W ((W ((ZC x.Doc.ZR (ZB x.Doc.ZN (W ((W ((W (k + 1)) + 1)) + 1))).2).2 + 1)) + 1)) + 1)) + 1)) + 1)) + 1)) + 1)) + 1)) + 1))).2 (by omega) (by omega)
  have q21 := qt x.ZI.Zd (Zn x.ZI.ZL (W ((W ((W ((W ((W ((W ((W ((W ((W ((ZC x.Doc.ZR (ZB x.Doc.ZN (W ((W ((W (k + 1)) + 1)) + 1))).2).2 + 1)) + 1)) + 1)) + 1)) + 1)) + 1)) + 1)) + 1)) + 1))).2 (by omega) (by omega)
  have o21 : ¬ (Zz x.ZI.Zd (Zn x.ZI.ZL (W ((W ((W ((W ((W ((W ((W ((W ((W ((ZC x.Doc.ZR (ZB x.Doc.ZN (W ((W ((W (k + 1)) + 1)) + 1))).2).2 + 1)) + 1)) + 1)) + 1)) + 1)) + 1)) + 1)) + 1)) + 1))).2).2 < 0 := by omega
  omega
theorem WT (a0 : List ZM) (a1 : Int) (h0 : 0 <= a1) (h : a1 + (cn a0 : Nat) < 4611686018427387904) : (YI a0 a1).2 = a1 + (cn a0 : Nat) := by
  rw [VQ]
  exact Q0 UM a0 a1 h0 h
theorem FN (a0 : List ZM) (a1 : Int) (h0 : 0 <= a1) (h : a1 + (cn a0 : Nat) < 4611686018427387904) : a1 <= (YI a0 a1).2 /\ (YI a0 a1).2 <= a1 + (cn a0 : Nat) := by
  have := WT a0 a1 h0 h
  omega
theorem Ff : ∀ (x : ZM) (k : Int) (r : Int -> Sum Int Int), 0 <= k -> k + (cn x : Nat) < 4611686018427387904 -> (fun (x : ZM) (k : Int) (r : Int -> Sum Int Int) => (bif (x.Id != k) then (.inl (-1)) else (bif (x.Y7 != (W (k + 1))) then (.inl (-1)) else (bif (x.Doc.zA != (W ((W (k + 1)) + 1))) then (.inl (-1)) else (bif (decide ((Zo x.Doc.ZN (W ((W ((W (k + 1)) + 1)) + 1))) < 0)) then (.inl (-1)) else (bif (decide ((Zl x.Doc.ZR (Zo x.Doc.ZN (W ((W ((W (k + 1)) + 1)) + 1)))) < 0)) then (.inl (-1)) else (bif (x.Sig.Key != (Zl x.Doc.ZR (Zo x.Doc.ZN (W ((W ((W (k + 1)) + 1)) + 1))))) then (.inl (-1)) else (bif (x.Sig.Zg != (W ((Zl x.Doc.ZR (Zo x.Doc.ZN (W ((W ((W (k + 1)) + 1)) + 1)))) + 1))) then (.inl (-1)) else (bif (x.Sig.Method != (W ((W ((Zl x.Doc.ZR (Zo x.Doc.ZN (W ((W ((W (k + 1)) + 1)) + 1)))) + 1)) + 1))) then (.inl (-1)) else (bif (x.Sig.XN != (W ((W ((W ((Zl x.Doc.ZR (Zo x.Doc.ZN (W ((W ((W (k + 1)) + 1)) + 1)))) + 1)) + 1)) + 1))) then (.inl (-1)) else (bif (x.Sig.xH != (W ((W ((W ((W ((Zl x.Doc.ZR (Zo x.Doc.ZN (W ((W ((W (k + 1)) + 1)) + 1)))) + 1)) + 1)) + 1)) + 1))) then (.inl (-1)) else (bif (x.Sig.Org != (W ((W ((W ((W ((W ((Zl x.Doc.ZR (Zo x.Doc.ZN (W ((W ((W (k + 1)) + 1)) + 1)))) + 1)) + 1)) + 1)) + 1)) + 1))) then (.inl (-1)) else (bif (x.Sig.xL != (W ((W ((W ((W ((W ((W ((Zl x.Doc.ZR (Zo x.Doc.ZN (W ((W ((W (k + 1)) + 1)) + 1)))) + 1)) + 1)) + 1)) + 1)) + 1)) + 1))) then (.inl (-1)) else (bif (x.Sig.kx != (W ((W ((W ((W ((W ((W ((W ((Zl x.Doc.ZR (Zo x.Doc.ZN (W ((W ((W (k + 1)) + 1)) + 1)))) + 1)) + 1)) + 1)) + 1)) + 1)) + 1)) + 1))) then (.inl (-1)) else (bif (x.Sig.Mark != (W ((W ((W ((W ((W ((W ((W ((W ((Zl x.Doc.ZR (Zo x.Doc.ZN (W ((W ((W (k + 1)) + 1)) + 1)))) + 1)) + 1)) + 1)) + 1)) + 1)) + 1)) + 1)) + 1))) then (.inl (-1)) else (bif (decide ((QI x.ZI.ZL (W ((W ((W ((W ((W ((W ((W ((W ((W ((Zl x.Doc.ZR (Zo x.Doc.ZN (W ((W ((W (k + 1)) + 1)) + 1)))) + 1)) + 1)) + 1)) + 1)) + 1)) + 1)) + 1)) + 1)) + 1))) < 0)) then (.inl (-1)) else (bif (decide ((Qu x.ZI.Zd (QI x.ZI.ZL (W ((W ((W ((W ((W ((W ((W ((W ((W ((Zl x.Doc.ZR (Zo x.Doc.ZN (W ((W ((W (k + 1)) + 1)) + 1)))) + 1)) + 1)) + 1)) + 1)) + 1)) + 1)) + 1)) + 1)) + 1)))) < 0)) then (.inl (-1)) else (r (Qu x.ZI.Zd (QI x.ZI.ZL (W ((W ((W ((W ((W ((W ((W ((W ((W ((Zl x.Doc.ZR (Zo x.Doc.ZN (W ((W ((W (k + 1)) + 1)) + 1)))) + 1)) + 1)) + 1)) + 1)) + 1)) + 1)) + 1)) + 1)) + 1)))))))))))))))))))))) ((fun (x : ZM) (k : Int) => ((ZM.mk k (W (k + 1)) (ZV.mk (W ((W (k + 1)) + 1)) (ZB x.Doc.ZN (W ((W ((W (k + 1)) + 1)) + 1))).1 (ZC x.Doc.ZR (ZB x.Doc.ZN (W ((W ((W (k + 1)) + 1)) + 1))).2).1) (ZY.mk (ZC x.Doc.ZR (ZB x.Doc.ZN (W ((W ((W (k + 1)) + 1)) + 1))).2).2 (W ((ZC x.Doc.ZR (ZB x.Doc.ZN (W ((W ((W (k + 1)) + 1)) + 1))).2).2 + 1)) (W ((W ((ZC x.Doc.ZR (ZB x.Doc.ZN (W ((W ((W (k + 1)) + 1)) + 1))).2).2 + 1)) + 1)) (W ((W ((W ((ZC x.Doc.ZR (ZB x.Doc.ZN (W ((W ((W (k + 1)) + 1)) + 1))).2).2 + 1)) + 1)) + 1)) (W ((W ((W ((W ((ZC x.Doc.ZR (ZB x.Doc.ZN (W ((W ((W (k + 1)) + 1)) + 1))).2).2 + 1)) + 1)) + 1)) + 1)) (W ((W ((W ((W ((W ((ZC x.Doc.ZR (ZB x.Doc.ZN (W ((W ((W (k + 1)) + 1)) + 1))).2).2 + 1)) + 1)) + 1)) + 1)) + 1)) (W ((W ((W ((W ((W ((W ((ZC x.Doc.ZR (ZB x.Doc.ZN (W ((W ((W (k + 1)) + 1)) + 1))).2).2 + 1)) + 1)) + 1)) + 1)) + 1)) + 1)) (W ((W ((W ((W ((W ((W ((W ((ZC x.Doc.ZR (ZB x.Doc.ZN (W ((W ((W (k + 1)) + 1)) + 1))).2).2 + 1)) + 1)) + 1)) + 1)) + 1)) + 1)) + 1)) (W ((W ((W ((W ((W ((W ((W ((W ((ZC x.Doc.ZR (ZB x.Doc.ZN (W ((W ((W (k + 1)) + 1)) + 1))).2).2 + 1)) + 1)) + 1)) + 1)) + 1)) + 1)) + 1)) + 1))) (Za.mk (Zn x.ZI.ZL (W ((W ((W ((W ((W ((W ((W ((W ((W ((ZC x.Doc.ZR (ZB x.Doc.ZN (W ((W ((W (k + 1)) + 1)) + 1))).2).2 + 1)) + 1)) + 1)) + 1)) + 1)) + 1)) + 1)) + 1)) + 1))).1 (Zz x.ZI.Zd (Zn x.ZI.ZL (W ((W ((W ((W ((W ((W ((W ((W ((W ((ZC x.Doc.ZR (ZB x.Doc.ZN (W ((W ((W (k + 1)) + 1)) + 1))).2).2 + 1)) + 1)) + 1)) + 1)) + 1)) + 1)) + 1)) + 1)) + 1))).2).1)), (Zz x.ZI.Zd (Zn x.ZI.ZL (W ((W ((W ((W ((W ((W ((W ((W ((W ((ZC x.Doc.ZR (ZB x.Doc.ZN (W ((W ((W (k + 1)) + 1)) + 1))).2).2 + 1)) + 1)) + 1)) + 1)) + 1)) + 1)) + 1)) + 1)) + 1))).2).2)) x k).1 k r = r ((fun (x : ZM) (k : Int) => ((ZM.mk k (W (k + 1)) (ZV.mk (W ((W (k + 1)) + 1)) (ZB x.Doc.ZN (W ((W ((W (k + 1)) + 1)) + 1))).1 (ZC x.Doc.ZR (ZB x.Doc.ZN (W ((W ((W (k + 1)) + 1)) + 1))).2).1) (ZY.mk (ZC x.Doc.ZR (ZB x.Doc.ZN (W ((W ((W (k + 1)) + 1)) + 1))).2).2 (W ((ZC x.Doc.ZR (ZB x.Doc.ZN (W ((W ((W (k + 1)) + 1)) + 1))).2).2 + 1)) (W ((W ((ZC x.Doc.ZR (ZB x.Doc.ZN (W ((W ((W (k + 1)) + 1)) + 1))).2).2 + 1)) + 1)) (W ((W ((W ((ZC x.Doc.ZR (ZB x.Doc.ZN (W ((W ((W (k + 1)) + 1)) + 1))).2).2 + 1)) + 1)) + 1)) (W ((W ((W ((W ((ZC x.Doc.ZR (ZB x.Doc.ZN (W ((W ((W (k + 1)) + 1)) + 1))).2).2 + 1)) + 1)) + 1)) + 1)) (W ((W ((W ((W ((W ((ZC x.Doc.ZR (ZB x.Doc.ZN (W ((W ((W (k + 1)) + 1)) + 1))).2).2 + 1)) + 1)) + 1)) + 1)) + 1)) (W ((W ((W ((W ((W ((W ((ZC x.Doc.ZR (ZB x.Doc.ZN (W ((W ((W (k + 1)) + 1)) + 1))).2).2 + 1)) + 1)) + 1)) + 1)) + 1)) + 1)) (W ((W ((W ((W ((W ((W ((W ((ZC x.Doc.ZR (ZB x.Doc.ZN (W ((W ((W (k + 1)) + 1)) + 1))).2).2 + 1)) + 1)) + 1)) + 1)) + 1)) + 1)) + 1)) (W ((W ((W ((W ((W ((W ((W ((W ((ZC x.Doc.ZR (ZB x.Doc.ZN (W ((W ((W (k + 1)) + 1)) + 1))).2).2 + 1)) + 1)) + 1)) + 1)) + 1)) + 1)) + 1)) + 1))) (Za.mk (Zn x.ZI.ZL (W ((W ((W ((W ((W ((W ((W ((W ((W ((ZC x.Doc.ZR (ZB x.Doc.ZN (W ((W ((W (k + 1)) + 1)) + 1))).2).2 + 1)) + 1)) + 1)) + 1)) + 1)) + 1)) + 1)) + 1)) + 1))).1 (Zz x.ZI.Zd (Zn x.ZI.ZL (W ((W ((W ((W ((W ((W ((W ((W ((W ((ZC x.Doc.ZR (ZB x.Doc.ZN (W ((W ((W (k + 1)) + 1)) + 1))).2).2 + 1)) + 1)) + 1)) + 1)) + 1)) + 1)) + 1)) + 1)) + 1))).2).1)), (Zz x.ZI.Zd (Zn x.ZI.ZL (W ((W ((W ((W ((W ((W ((W ((W ((W ((ZC x.Doc.ZR (ZB x.Doc.ZN (W ((W ((W (k + 1)) + 1)) + 1))).2).2 + 1)) + 1)) + 1)) + 1)) + 1)) + 1)) + 1)) + 1)) + 1))).2).2)) x k).2 := by
  intro x k r h0 h
  simp only [XO, XY, yr, X9, ZM.Yb, ZV.Yb, Za.Yb, ZY.Yb] at h
  have e0 : W (k + 1) = k + 1 := Zb (by omega) (by omega)
  have e1 : W ((W (k + 1)) + 1) = (W (k + 1)) + 1 := Zb (by omega) (by omega)
  have e2 : W ((W ((W (k + 1)) + 1)) + 1) = (W ((W (k + 1)) + 1)) + 1 := Zb (by omega) (by omega)
  obtain ⟨m3, n3, h3⟩ := MR x.Doc.ZN (W ((W ((W (k + 1)) + 1)) + 1)) (by omega) (by omega)
  have q3 := yv x.Doc.ZN (W ((W ((W (k + 1)) + 1)) + 1)) (by omega) (by omega)
  have o3 : ¬ (ZB x.Doc.ZN (W ((W ((W (k + 1)) + 1)) + 1))).2 < 0 := by omega
  obtain ⟨m6, n6, h6⟩ := ye x.Doc.ZR (ZB x.Doc.ZN (W ((W ((W (k + 1)) + 1)) + 1))).2 (by omega) (by omega)
  have q6 := QR x.Doc.ZR (ZB x.Doc.ZN (W ((W ((W (k + 1)) + 1)) + 1))).2 (by omega) (by omega)
  have o6 : ¬ (ZC x.Doc.ZR (ZB x.Doc.ZN (W ((W ((W (k + 1)) + 1)) + 1))).2).2 < 0 := by omega
  have e9 : W ((ZC x.Doc.ZR (ZB x.Doc.ZN (W ((W ((W (k + 1)) + 1)) + 1))).2).2 + 1) = (ZC x.Doc.ZR (ZB x.Doc.ZN (W ((W ((W (k + 1)) + 1)) + 1))).2).2 + 1 := Zb (by omega) (by omega)
  have e10 : W ((W ((ZC x.Doc.ZR (ZB x.Doc.ZN (W ((W ((W (k + 1)) + 1)) + 1))).2).2 + 1)) + 1) = (W ((ZC x.Doc.ZR (ZB x.Doc.ZN (W ((W ((W (k + 1)) + 1)) + 1))).2).2 + 1)) + 1 := Zb (by omega) (by omega)
  have e11 : W ((W ((W ((ZC x.Doc.ZR (ZB x.Doc.ZN (W ((W ((W (k + 1)) + 1)) + 1))).2).2 + 1)) + 1)) + 1) = (W ((W ((ZC x.Doc.ZR (ZB x.Doc.ZN (W ((W ((W (k + 1)) + 1)) + 1))).2).2 + 1)) + 1)) + 1 := Zb (by omega) (by omega)
  have e12 : W ((W ((W ((W ((ZC x.Doc.ZR (ZB x.Doc.ZN (W ((W ((W (k + 1)) + 1)) + 1))).2).2 + 1)) + 1)) + 1)) + 1) = (W ((W ((W ((ZC x.Doc.ZR (ZB x.Doc.ZN (W ((W ((W (k + 1)) + 1)) + 1))).2).2 + 1)) + 1)) + 1)) + 1 := Zb (by omega) (by omega)
  have e13 : W ((W ((W ((W ((W ((ZC x.Doc.ZR (ZB x.Doc.ZN (W ((W ((W (k + 1)) + 1)) + 1))).2).2 + 1)) + 1)) + 1)) + 1)) + 1) = (W ((W ((W ((W ((ZC x.Doc.ZR (ZB x.Doc.ZN (W ((W ((W (k + 1)) + 1)) + 1))).2).2 + 1)) + 1)) + 1)) + 1)) + 1 := Zb (by omega) (by omega)
  have e14 : W ((W ((W ((W ((W ((W ((ZC x.Doc.ZR (ZB x.Doc.ZN (W ((W ((W (k + 1)) + 1)) + 1))).2).2 + 1)) + 1)) + 1)) + 1)) + 1)) + 1) = (W ((W ((W ((W ((W ((ZC x.Doc.ZR (ZB x.Doc.ZN (W ((W ((W (k + 1)) + 1)) + 1))).2).2 + 1)) + 1)) + 1)) + 1)) + 1)) + 1 := Zb (by omega) (by omega)
  have e15 : W ((W ((W ((W ((W ((W ((W ((ZC x.Doc.ZR (ZB x.Doc.ZN (W ((W ((W (k + 1)) + 1)) + 1))).2).2 + 1)) + 1)) + 1)) + 1)) + 1)) + 1)) + 1) = (W ((W ((W ((W ((W ((W ((ZC x.Doc.ZR (ZB x.Doc.ZN (W ((W ((W (k + 1)) + 1)) + 1))).2).2 + 1)) + 1)) + 1)) + 1)) + 1)) + 1)) + 1 := Zb (by omega) (by omega)
  have e16 : W ((W ((W ((W ((W ((W ((W ((W ((ZC x.Doc.ZR (ZB x.Doc.ZN (W ((W ((W (k + 1)) + 1)) + 1))).2).2 + 1)) + 1)) + 1)) + 1)) + 1)) + 1)) + 1)) + 1) = (W ((W ((W ((W ((W ((W ((W ((ZC x.Doc.ZR (ZB x.Doc.ZN (W ((W ((W (k + 1)) + 1)) + 1))).2).2 + 1)) + 1)) + 1)) + 1)) + 1)) + 1)) + 1)) + 1 := Zb (by omega) (by omega)
  have e17 : W ((W ((W ((W ((W ((W ((W ((W ((W ((ZC x.Doc.ZR (ZB x.Doc.ZN (W ((W ((W (k + 1)) + 1)) + 1))).2).2 + 1)) + 1)) + 1)) + 1)) + 1)) + 1)) + 1)) + 1)) + 1) = (W ((W ((W ((W ((W ((W ((W ((W ((ZC x.Doc.ZR (ZB x.Doc.ZN (W ((W ((W (k + 1)) + 1)) + 1))).2).2 + 1)) + 1)) + 1)) + 1)) + 1)) + 1)) + 1)) + 1)) + 1 := Zb (by omega) (by omega)
  obtain ⟨m18, n18, h18⟩ := IQ x.ZI.ZL (W ((W ((W ((W ((W ((W ((W ((W ((W ((ZC x.Doc.ZR (ZB x.Doc.ZN (W ((W ((W (k + 1)) + 1)) + 1))).2).2 + 1)) + 1)) + 1)) + 1)) + 1)) + 1)) + 1)) + 1)) + 1)) (by omega) (by omega)
  have q18 := kI x.ZI.ZL (W ((W ((W ((W ((W ((W ((W ((W ((W ((ZC x.Doc.ZR (ZB x.Doc.ZN (W ((W ((W (k + 1)) + 1)) + 1))).2).2 + 1)) + 1)) + 1)) + 1)) + 1)) + 1)) + 1)) + 1)) + 1)) (by omega) (by omega)
  have o18 : ¬ (Zn x.ZI.ZL (W ((W ((W ((W ((W ((W ((W ((W ((W ((ZC x.Doc.ZR (ZB x.Doc.ZN (W ((W ((W (k + 1)) + 1)) + 1))).2).2 + 1)) + 1)) + 1)) + 1)) + 1)) + 1)) + 1)) + 1)) + 1))).2 < 0 := by omega
  obtain ⟨m21, n21, h21⟩ := OV x.ZI.Zd (Zn x.ZI.ZL (W ((W ((W ((W ((W ((W ((W ((W ((W ((ZC x.Doc.ZR (ZB x.Doc.ZN (W ((W ((W (k + 1)) + 1)) + 1))).2).2 + 1)) + 1)) + 1)) + 1)) + 1)) + 1)) + 1)) + 1)) + 1))).2 (by omega) (by omega)
  have q21 := qt x.ZI.Zd (Zn x.ZI.ZL (W ((W ((W ((W ((W ((W ((W ((W ((W ((ZC x.Doc.ZR (ZB x.Doc.ZN (W ((W ((W (k + 1)) + 1)) + 1))).2).2 + 1)) + 1)) + 1)) + 1)) + 1)) + 1)) + 1)) + 1)) + 1))).2 (by omega) (by omega)
  have o21 : ¬ (Zz x.ZI.Zd (Zn x.ZI.ZL (W ((W ((W ((W ((W ((W ((W ((W ((W ((ZC x.Doc.ZR (ZB x.Doc.ZN (W ((W ((W (k + 1)) + 1)) + 1))).2).2 + 1)) + 1)) + 1)) + 1)) + 1)) + 1)) + 1)) + 1)) + 1))).2).2 < 0 := by omega
  simp [h3, h6, h18, h21, o3, o6, o18, o21]
theorem Gs (a0 : List ZM) (a1 : Int) (h0 : 0 <= a1) (h : a1 + (cn a0 : Nat) < 4611686018427387904) : a1 <= (YI a0 a1).2 /\ (YI a0 a1).2 <= a1 + (cn a0 : Nat) /\ Kh (YI a0 a1).1 a1 = (YI a0 a1).2 := by
  rw [VQ]
  have s := Q0 UM a0 a1 h0 h
  have hh := K1 (z := (mkL (fun (x : ZM) (k : Int) => ((ZM.mk k (W (k + 1)) (ZV.mk (W ((W (k + 1)) + 1)) (ZB x.Doc.ZN (W ((W ((W (k + 1)) + 1)) + 1))).1 (ZC x.Doc.ZR (ZB x.Doc.ZN (W ((W ((W (k + 1)) + 1)) + 1))).2).1) (ZY.mk (ZC x.Doc.ZR (ZB x.Doc.ZN (W ((W ((W (k + 1)) + 1)) + 1))).2).2 (W ((ZC x.Doc.ZR (ZB x.Doc.ZN (W ((W ((W (k + 1)) + 1)) + 1))).2).2 + 1)) (W ((W ((ZC x.Doc.ZR (ZB x.Doc.ZN (W ((W ((W (k + 1)) + 1)) + 1))).2).2 + 1)) + 1)) (W ((W ((W ((ZC x.Doc.ZR (ZB x.Doc.ZN (W ((W ((W (k + 1)) + 1)) + 1))).2).2 + 1)) + 1)) + 1)) (W ((W ((W ((W ((ZC x.Doc.ZR (ZB x.Doc.ZN (W ((W ((W (k + 1)) + 1)) + 1))).2).2 + 1)) + 1)) + 1)) + 1)) (W ((W ((W ((W ((W ((ZC x.Doc.ZR (ZB x.Doc.ZN (W ((W ((W (k + 1)) + 1)) + 1))).2).2 + 1)) + 1)) + 1)) + 1)) + 1)) (W ((W ((W ((W ((W ((W ((ZC x.Doc.ZR (ZB x.Doc.ZN (W ((W ((W (k + 1)) + 1)) + 1))).2).2 + 1)) + 1)) + 1)) + 1)) + 1)) + 1)) (W ((W ((W ((W ((W ((W ((W ((ZC x.Doc.ZR (ZB x.Doc.ZN (W ((W ((W (k + 1)) + 1)) + 1))).2).2 + 1)) + 1)) + 1)) + 1)) + 1)) + 1)) + 1)) (W ((W ((W ((W ((W ((W ((W ((W ((ZC x.Doc.ZR (ZB x.Doc.ZN (W ((W ((W (k + 1)) + 1)) + 1))).2).2 + 1)) + 1)) + 1)) + 1)) + 1)) + 1)) + 1)) + 1))) (Za.mk (Zn x.ZI.ZL (W ((W ((W ((W ((W ((W ((W ((W ((W ((ZC x.Doc.ZR (ZB x.Doc.ZN (W ((W ((W (k + 1)) + 1)) + 1))).2).2 + 1)) + 1)) + 1)) + 1)) + 1)) + 1)) + 1)) + 1)) + 1))).1 (Zz x.ZI.Zd (Zn x.ZI.ZL (W ((W ((W ((W ((W ((W ((W ((W ((W ((ZC x.Doc.ZR (ZB x.Doc.ZN (W ((W ((W (k + 1)) + 1)) + 1))).2).2 + 1)) + 1)) + 1)) + 1)) + 1)) + 1)) + 1)) + 1)) + 1))).2).1)), (Zz x.ZI.Zd (Zn x.ZI.ZL (W ((W ((W ((W ((W ((W ((W ((W ((W ((ZC x.Doc.ZR (ZB x.Doc.ZN (W ((W ((W (k + 1)) + 1)) + 1))).2).2 + 1)) + 1)) + 1)) + 1)) + 1)) + 1)) + 1)) + 1)) + 1))).2).2)) a0 a1).1) (H := kW (mkL (fun (x : ZM) (k : Int) => ((ZM.mk k (W (k + 1)) (ZV.mk (W ((W (k + 1)) + 1)) (ZB x.Doc.ZN (W ((W ((W (k + 1)) + 1)) + 1))).1 (ZC x.Doc.ZR (ZB x.Doc.ZN (W ((W ((W (k + 1)) + 1)) + 1))).2).1) (ZY.mk (ZC x.Doc.ZR (ZB x.Doc.ZN (W ((W ((W (k + 1)) + 1)) + 1))).2).2 (W ((ZC x.Doc.ZR (ZB x.Doc.ZN (W ((W ((W (k + 1)) + 1)) + 1))).2).2 + 1)) (W ((W ((ZC x.Doc.ZR (ZB x.Doc.ZN (W ((W ((W (k + 1)) + 1)) + 1))).2).2 + 1)) + 1)) (W ((W ((W ((ZC x.Doc.ZR (ZB x.Doc.ZN (W ((W ((W (k + 1)) + 1)) + 1))).2).2 + 1)) + 1)) + 1)) (W ((W ((W ((W ((ZC x.Doc.ZR (ZB x.Doc.ZN (W ((W ((W (k + 1)) + 1)) + 1))).2).2 + 1)) + 1)) + 1)) + 1)) (W ((W ((W ((W ((W ((ZC x.Doc.ZR (ZB x.Doc.ZN (W ((W ((W (k + 1)) + 1)) + 1))).2).2 + 1)) + 1)) + 1)) + 1)) + 1)) (W ((W ((W ((W ((W ((W ((ZC x.Doc.ZR (ZB x.Doc.ZN (W ((W ((W (k + 1)) + 1)) + 1))).2).2 + 1)) + 1)) + 1)) + 1)) + 1)) + 1)) (W ((W ((W ((W ((W ((W ((W ((ZC x.Doc.ZR (ZB x.Doc.ZN (W ((W ((W (k + 1)) + 1)) + 1))).2).2 + 1)) + 1)) + 1)) + 1)) + 1)) + 1)) + 1)) (W ((W ((W ((W ((W ((W ((W ((W ((ZC x.Doc.ZR (ZB x.Doc.ZN (W ((W ((W (k + 1)) + 1)) + 1))).2).2 + 1)) + 1)) + 1)) + 1)) + 1)) + 1)) + 1)) + 1))) (Za.mk (Zn x.ZI.ZL (W ((W ((W ((W ((W ((W ((W ((W ((W ((ZC x.Doc.ZR (ZB x.Doc.ZN (W ((W ((W (k + 1)) + 1)) + 1))).2).2 + 1)) + 1)) + 1)) + 1)) + 1)) + 1)) + 1)) + 1)) + 1))).1 (Zz x.ZI.Zd (Zn x.ZI.ZL (W ((W ((W ((W ((W ((W ((W ((W ((W ((ZC x.Doc.ZR (ZB x.Doc.ZN (W ((W ((W (k + 1)) + 1)) + 1))).2).2 + 1)) + 1)) + 1)) + 1)) + 1)) + 1)) + 1)) + 1)) + 1))).2).1)), (Zz x.ZI.Zd (Zn x.ZI.ZL (W ((W ((W ((W ((W ((W ((W ((W ((W ((ZC x.Doc.ZR (ZB x.Doc.ZN (W ((W ((W (k + 1)) + 1)) + 1))).2).2 + 1)) + 1)) + 1)) + 1)) + 1)) + 1)) + 1)) + 1)) + 1))).2).2)) a0 a1).1) (G := (fun (x : ZM) (k : Int) (r : Int -> Sum Int Int) => (bif (x.Id != k) then (.inl (-1)) else (bif (x.Y7 != (W (k + 1))) then (.inl (-1)) else (bif (x.Doc.zA != (W ((W (k + 1)) + 1))) then (.inl (-1)) else (bif (decide ((Zo x.Doc.ZN (W ((W ((W (k + 1)) + 1)) + 1))) < 0)) then (.inl (-1)) else (bif (decide ((Zl x.Doc.ZR (Zo x.Doc.ZN (W ((W ((W (k + 1)) + 1)) + 1)))) < 0)) then (.inl (-1)) else (bif (x.Sig.Key != (Zl x.Doc.ZR (Zo x.Doc.ZN (W ((W ((W (k + 1)) + 1)) + 1))))) then (.inl (-1)) else (bif (x.Sig.Zg != (W ((Zl x.Doc.ZR (Zo x.Doc.ZN (W ((W ((W (k + 1)) + 1)) + 1)))) + 1))) then (.inl (-1)) else (bif (x.Sig.Method != (W ((W ((Zl x.Doc.ZR (Zo x.Doc.ZN (W ((W ((W (k + 1)) + 1)) + 1)))) + 1)) + 1))) then (.inl (-1)) else (bif (x.Sig.XN != (W ((W ((W ((Zl x.Doc.ZR (Zo x.Doc.ZN (W ((W ((W (k + 1)) + 1)) + 1)))) + 1)) + 1)) + 1))) then (.inl (-1)) else (bif (x.Sig.xH != (W ((W ((W ((W ((Zl x.Doc.ZR (Zo x.Doc.ZN (W ((W ((W (k + 1)) + 1)) + 1)))) + 1)) + 1)) + 1)) + 1))) then (.inl (-1)) else (bif (x.Sig.Org != (W ((W ((W ((W ((W ((Zl x.Doc.ZR (Zo x.Doc.ZN (W ((W ((W (k + 1)) + 1)) + 1)))) + 1)) + 1)) + 1)) + 1)) + 1))) then (.inl (-1)) else (bif (x.Sig.xL != (W ((W ((W ((W ((W ((W ((Zl x.Doc.ZR (Zo x.Doc.ZN (W ((W ((W (k + 1)) + 1)) + 1)))) + 1)) + 1)) + 1)) + 1)) + 1)) + 1))) then (.inl (-1)) else (bif (x.Sig.kx != (W ((W ((W ((W ((W ((W ((W ((Zl x.Doc.ZR (Zo x.Doc.ZN (W ((W ((W (k + 1)) + 1)) + 1)))) + 1)) + 1)) + 1)) + 1)) + 1)) + 1)) + 1))) then (.inl (-1)) else (bif (x.Sig.Mark != (W ((W ((W ((W ((W ((W ((W ((W ((Zl x.Doc.ZR (Zo x.Doc.ZN (W ((W ((W (k + 1)) + 1)) + 1)))) + 1)) + 1)) + 1)) + 1)) + 1)) + 1)) + 1)) + 1))) then (.inl (-1)) else (bif (decide ((QI x.ZI.ZL (W ((W ((W ((W ((W ((W ((W ((W ((W ((Zl x.Doc.ZR (Zo x.Doc.ZN (W ((W ((W (k + 1)) + 1)) + 1)))) + 1)) + 1)) + 1)) + 1)) + 1)) + 1)) + 1)) + 1)) + 1))) < 0)) then (.inl (-1)) else (bif (decide ((Qu x.ZI.Zd (QI x.ZI.ZL (W ((W ((W ((W ((W ((W ((W ((W ((W ((Zl x.Doc.ZR (Zo x.Doc.ZN (W ((W ((W (k + 1)) + 1)) + 1)))) + 1)) + 1)) + 1)) + 1)) + 1)) + 1)) + 1)) + 1)) + 1)))) < 0)) then (.inl (-1)) else (r (Qu x.ZI.Zd (QI x.ZI.ZL (W ((W ((W ((W ((W ((W ((W ((W ((W ((Zl x.Doc.ZR (Zo x.Doc.ZN (W ((W ((W (k + 1)) + 1)) + 1)))) + 1)) + 1)) + 1)) + 1)) + 1)) + 1)) + 1)) + 1)) + 1))))))))))))))))))))))) (fun _ _ _ => rfl) UM Ff a0 [] ((mkL (fun (x : ZM) (k : Int) => ((ZM.mk k (W (k + 1)) (ZV.mk (W ((W (k + 1)) + 1)) (ZB x.Doc.ZN (W ((W ((W (k + 1)) + 1)) + 1))).1 (ZC x.Doc.ZR (ZB x.Doc.ZN (W ((W ((W (k + 1)) + 1)) + 1))).2).1) (ZY.mk (ZC x.Doc.ZR (ZB x.Doc.ZN (W ((W ((W (k + 1)) + 1)) + 1))).2).2 (W ((ZC x.Doc.ZR (ZB x.Doc.ZN (W ((W ((W (k + 1)) + 1)) + 1))).2).2 + 1)) (W ((W ((ZC x.Doc.ZR (ZB x.Doc.ZN (W ((W ((W (k + 1)) + 1)) + 1))).2).2 + 1)) + 1)) (W ((W ((W ((ZC x.Doc.ZR (ZB x.Doc.ZN (W ((W ((W (k + 1)) + 1)) + 1))).2).2 + 1)) + 1)) + 1)) (W ((W ((W ((W ((ZC x.Doc.ZR (ZB x.Doc.ZN (W ((W ((W (k + 1)) + 1)) + 1))).2).2 + 1)) + 1)) + 1)) + 1)) (W ((W ((W ((W ((W ((ZC x.Doc.ZR (ZB x.Doc.ZN (W ((W ((W (k + 1)) + 1)) + 1))).2).2 + 1)) + 1)) + 1)) + 1)) + 1)) (W ((W ((W ((W ((W ((W ((ZC x.Doc.ZR (ZB x.Doc.ZN (W ((W ((W (k + 1)) + 1)) + 1))).2).2 + 1)) + 1)) + 1)) + 1)) + 1)) + 1)) (W ((W ((W ((W ((W ((W ((W ((ZC x.Doc.ZR (ZB x.Doc.ZN (W ((W ((W (k + 1)) + 1)) + 1))).2).2 + 1)) + 1)) + 1)) + 1)) + 1)) + 1)) + 1)) (W ((W ((W ((W ((W ((W ((W ((W ((ZC x.Doc.ZR (ZB x.Doc.ZN (W ((W ((W (k + 1)) + 1)) + 1))).2).2 + 1)) + 1)) + 1)) + 1)) + 1)) + 1)) + 1)) + 1))) (Za.mk (Zn x.ZI.ZL (W ((W ((W ((W ((W ((W ((W ((W ((W ((ZC x.Doc.ZR (ZB x.Doc.ZN (W ((W ((W (k + 1)) + 1)) + 1))).2).2 + 1)) + 1)) + 1)) + 1)) + 1)) + 1)) + 1)) + 1)) + 1))).1 (Zz x.ZI.Zd (Zn x.ZI.ZL (W ((W ((W ((W ((W ((W ((W ((W ((W ((ZC x.Doc.ZR (ZB x.Doc.ZN (W ((W ((W (k + 1)) + 1)) + 1))).2).2 + 1)) + 1)) + 1)) + 1)) + 1)) + 1)) + 1)) + 1)) + 1))).2).1)), (Zz x.ZI.Zd (Zn x.ZI.ZL (W ((W ((W ((W ((W ((W ((W ((W ((W ((ZC x.Doc.ZR (ZB x.Doc.ZN (W ((W ((W (k + 1)) + 1)) + 1))).2).2 + 1)) + 1)) + 1)) + 1)) + 1)) + 1)) + 1)) + 1)) + 1))).2).2)) a0 a1).1.length + 1) a1 (by simp) (by rw [Q5]; omega) h0 h
  simp only [List.length_nil] at hh
  rw [XA] at *
  refine ⟨by omega, by omega, ?_⟩
  unfold Kh
  rw [hh]
theorem jW (a0 : List ZD) (a1 : Int) : YB a0 a1 = mkL (fun (x : ZD) (k : Int) => ((ZD.mk k (YI x.ZF (W (k + 1))).1), (YI x.ZF (W (k + 1))).2)) a0 a1 := by
  have h := K5 (F := JJ) (f := (fun (x : ZD) (k : Int) => ((ZD.mk k (YI x.ZF (W (k + 1))).1), (YI x.ZF (W (k + 1))).2))) (fun _ _ _ _ => rfl) a0 [] (a0.length + 1) a1 (by omega)
  unfold YB
  simp only [List.length_nil, List.nil_append] at h
  rw [h]
@[simp] theorem wj (a0 : List ZD) (a1 : Int) : (YB a0 a1).1.length = a0.length := by rw [jW, Q5]
theorem kD : ∀ (x : ZD) (k : Int), 0 <= k -> k + (cn x : Nat) < 4611686018427387904 -> ((fun (x : ZD) (k : Int) => ((ZD.mk k (YI x.ZF (W (k + 1))).1), (YI x.ZF (W (k + 1))).2)) x k).2 = k + (cn x : Nat) := by
  intro x k h0 h
  simp only [XO, XY, yr, X9, ZD.Yb] at h ⊢
  have e0 : W (k + 1) = k + 1 := Zb (by omega) (by omega)
  obtain ⟨m1, n1⟩ := FN x.ZF (W (k + 1)) (by omega) (by omega)
  have q1 := WT x.ZF (W (k + 1)) (by omega) (by omega)
  have o1 : ¬ (YI x.ZF (W (k + 1))).2 < 0 := by omega
  omega
theorem OM (a0 : List ZD) (a1 : Int) (h0 : 0 <= a1) (h : a1 + (cn a0 : Nat) < 4611686018427387904) : (YB a0 a1).2 = a1 + (cn a0 : Nat) := by
  rw [jW]
  exact Q0 kD a0 a1 h0 h
theorem Nm : ∀ (x : ZD) (k : Int) (r : Int -> Sum Int Int), 0 <= k -> k + (cn x : Nat) < 4611686018427387904 -> (fun (x : ZD) (k : Int) (r : Int -> Sum Int Int) => (bif (x.Id != k) then (.inl (-1)) else (bif (decide ((Kh x.ZF (W (k + 1))) < 0)) then (.inl (-1)) else (r (Kh x.ZF (W (k + 1))))))) ((fun (x : ZD) (k : Int) => ((ZD.mk k (YI x.ZF (W (k + 1))).1), (YI x.ZF (W (k + 1))).2)) x k).1 k r = r ((fun (x : ZD) (k : Int) => ((ZD.mk k (YI x.ZF (W (k + 1))).1), (YI x.ZF (W (k + 1))).2)) x k).2 := by
  intro x k r h0 h
  simp only [XO, XY, yr, X9, ZD.Yb] at h
  have e0 : W (k + 1) = k + 1 := Zb (by omega) (by omega)
  obtain ⟨m1, n1, h1⟩ := Gs x.ZF (W (k + 1)) (by omega) (by omega)
  have q1 := WT x.ZF (W (k + 1)) (by omega) (by omega)
  have o1 : ¬ (YI x.ZF (W (k + 1))).2 < 0 := by omega
  simp [h1, o1]
theorem Ow (a0 : List ZD) (a1 : Int) (h0 : 0 <= a1) (h : a1 + (cn a0 : Nat) < 4611686018427387904) : a1 <= (YB a0 a1).2 /\ (YB a0 a1).2 <= a1 + (cn a0 : Nat) /\ X5 (YB a0 a1).1 a1 = (YB a0 a1).2 := by
  rw [jW]
  have s := Q0 kD a0 a1 h0 h
  have hh := K1 (z := (mkL (fun (x : ZD) (k : Int) => ((ZD.mk k (YI x.ZF (W (k + 1))).1), (YI x.ZF (W (k + 1))).2)) a0 a1).1) (H := xn (mkL (fun (x : ZD) (k : Int) => ((ZD.mk k (YI x.ZF (W (k + 1))).1), (YI x.ZF (W (k + 1))).2)) a0 a1).1) (G := (fun (x : ZD) (k : Int) (r : Int -> Sum Int Int) => (bif (x.Id != k) then (.inl (-1)) else (bif (decide ((Kh x.ZF (W (k + 1))) < 0)) then (.inl (-1)) else (r (Kh x.ZF (W (k + 1)))))))) (fun _ _ _ => rfl) kD Nm a0 [] ((mkL (fun (x : ZD) (k : Int) => ((ZD.mk k (YI x.ZF (W (k + 1))).1), (YI x.ZF (W (k + 1))).2)) a0 a1).1.length + 1) a1 (by simp) (by rw [Q5]; omega) h0 h
  simp only [List.length_nil] at hh
  rw [XA] at *
  refine ⟨by omega, by omega, ?_⟩
  unfold X5
  rw [hh]
@[simp] theorem Gk (a0 : ZJ) (a1 : Int) : (Z0 a0 a1).1.Frame.Zq.length = a0.Frame.Zq.length := by simp [Z0]
@[simp] theorem OR (a0 : ZJ) (a1 : Int) : (Z0 a0 a1).1.Frame.ZG.length = a0.Frame.ZG.length := by simp [Z0]
@[simp] theorem M9 (a0 : ZJ) (a1 : Int) : (Z0 a0 a1).1.Frame.Methods.length = a0.Frame.Methods.length := by simp [Z0]
@[simp] theorem DP (a0 : ZJ) (a1 : Int) : (Z0 a0 a1).1.Frame.y9 = a0.Frame.y9 := rfl
@[simp] theorem BZ (a0 : ZJ) (a1 : Int) : (Z0 a0 a1).1.Frame.Now = a0.Frame.Now := rfl
@[simp] theorem BW (a0 : ZJ) (a1 : Int) : (Z0 a0 a1).1.ZS.length = a0.ZS.length := by simp [Z0]
@[simp] theorem BX (a0 : ZJ) (a1 : Int) : (Z0 a0 a1).1.Zr.length = a0.Zr.length := by simp [Z0]
@[simp] theorem Et (a0 : ZJ) (a1 : Int) : (Z0 a0 a1).1.ZA.length = a0.ZA.length := by simp [Z0]
@[simp] theorem AB (a0 : ZJ) (a1 : Int) : (Z0 a0 a1).1.Ym.length = a0.Ym.length := by simp [Z0]
@[simp] theorem BY (a0 : ZJ) (a1 : Int) : (Z0 a0 a1).1.YW.length = a0.YW.length := by simp [Z0]
@[simp] theorem ua (a0 : ZJ) (a1 : Int) : (Z0 a0 a1).1.Next = a0.Next := rfl
@[simp] theorem CF (a0 : ZJ) (a1 : Int) : (Z0 a0 a1).1.YN.length = a0.YN.length := by simp [Z0]
theorem Rv (a0 : ZJ) (a1 : Int) (h0 : 0 <= a1) (h : a1 + (cn a0 : Nat) < 4611686018427387904) : a1 <= (Z0 a0 a1).2 /\ (Z0 a0 a1).2 <= a1 + (cn a0 : Nat) /\ yA (Z0 a0 a1).1 a1 = (Z0 a0 a1).2 := by
  simp only [XO, XY, X9, ZJ.Yb] at h ⊢
  obtain ⟨m0, n0, h0⟩ := HQ a0.Frame a1 (by omega) (by omega)
  have o0 : ¬ (Zu a0.Frame a1).2 < 0 := by omega
  obtain ⟨m2, n2, h2⟩ := HA a0.ZS (Zu a0.Frame a1).2 (by omega) (by omega)
  have q2 := Lt a0.ZS (Zu a0.Frame a1).2 (by omega) (by omega)
  have o2 : ¬ (YC a0.ZS (Zu a0.Frame a1).2).2 < 0 := by omega
  obtain ⟨m5, n5, h5⟩ := ye a0.Zr (YC a0.ZS (Zu a0.Frame a1).2).2 (by omega) (by omega)
  have q5 := QR a0.Zr (YC a0.ZS (Zu a0.Frame a1).2).2 (by omega) (by omega)
  have o5 : ¬ (ZC a0.Zr (YC a0.ZS (Zu a0.Frame a1).2).2).2 < 0 := by omega
  obtain ⟨m8, n8, h8⟩ := Ow a0.ZA (ZC a0.Zr (YC a0.ZS (Zu a0.Frame a1).2).2).2 (by omega) (by omega)
  have q8 := OM a0.ZA (ZC a0.Zr (YC a0.ZS (Zu a0.Frame a1).2).2).2 (by omega) (by omega)
  have o8 : ¬ (YB a0.ZA (ZC a0.Zr (YC a0.ZS (Zu a0.Frame a1).2).2).2).2 < 0 := by omega
  obtain ⟨m11, n11, bl⟩ := ye a0.Ym (YB a0.ZA (ZC a0.Zr (YC a0.ZS (Zu a0.Frame a1).2).2).2).2 (by omega) (by omega)
  have q11 := QR a0.Ym (YB a0.ZA (ZC a0.Zr (YC a0.ZS (Zu a0.Frame a1).2).2).2).2 (by omega) (by omega)
  have o11 : ¬ (ZC a0.Ym (YB a0.ZA (ZC a0.Zr (YC a0.ZS (Zu a0.Frame a1).2).2).2).2).2 < 0 := by omega
  obtain ⟨m14, n14, h14⟩ := ye a0.YW (ZC a0.Ym (YB a0.ZA (ZC a0.Zr (YC a0.ZS (Zu a0.Frame a1).2).2).2).2).2 (by omega) (by omega)
  have q14 := QR a0.YW (ZC a0.Ym (YB a0.ZA (ZC a0.Zr (YC a0.ZS (Zu a0.Frame a1).2).2).2).2).2 (by omega) (by omega)
  have o14 : ¬ (ZC a0.YW (ZC a0.Ym (YB a0.ZA (ZC a0.Zr (YC a0.ZS (Zu a0.Frame a1).2).2).2).2).2).2 < 0 := by omega
  obtain ⟨m17, n17, h17⟩ := ye a0.YN (ZC a0.YW (ZC a0.Ym (YB a0.ZA (ZC a0.Zr (YC a0.ZS (Zu a0.Frame a1).2).2).2).2).2).2 (by omega) (by omega)
  have q17 := QR a0.YN (ZC a0.YW (ZC a0.Ym (YB a0.ZA (ZC a0.Zr (YC a0.ZS (Zu a0.Frame a1).2).2).2).2).2).2 (by omega) (by omega)
  have o17 : ¬ (ZC a0.YN (ZC a0.YW (ZC a0.Ym (YB a0.ZA (ZC a0.Zr (YC a0.ZS (Zu a0.Frame a1).2).2).2).2).2).2).2 < 0 := by omega
  refine ⟨by simp only [Z0]; omega, by simp only [Z0]; omega, ?_⟩
  simp [Z0, yA, h0, h2, h5, h8, bl, h14, h17, o0, o2, o5, o8, o11, o14, o17]
@[simp] theorem Bj (a0 : ZV) (a1 : Int) : (Yt a0 a1).1.zA = a0.zA := rfl
@[simp] theorem FW (a0 : ZV) (a1 : Int) : (Yt a0 a1).1.ZN.length = a0.ZN.length := by simp [Yt]
@[simp] theorem Ek (a0 : ZV) (a1 : Int) : (Yt a0 a1).1.ZR.length = a0.ZR.length := by simp [Yt]
theorem Om (a0 : ZV) (a1 : Int) (h0 : 0 <= a1) (h : a1 + (cn a0 : Nat) < 4611686018427387904) : a1 <= (Yt a0 a1).2 /\ (Yt a0 a1).2 <= a1 + (cn a0 : Nat) := by
  simp only [XO, XY, X9, ZV.Yb] at h ⊢
  obtain ⟨m0, n0⟩ := TB a0.ZN a1 (by omega) (by omega)
  have q0 := yv a0.ZN a1 (by omega) (by omega)
  have o0 : ¬ (ZB a0.ZN a1).2 < 0 := by omega
  obtain ⟨m3, n3⟩ := kS a0.ZR (ZB a0.ZN a1).2 (by omega) (by omega)
  have q3 := QR a0.ZR (ZB a0.ZN a1).2 (by omega) (by omega)
  have o3 : ¬ (ZC a0.ZR (ZB a0.ZN a1).2).2 < 0 := by omega
  refine ⟨by simp only [Yt]; omega, by simp only [Yt]; omega⟩
@[simp] theorem vy (a0 : Yu) (a1 : Int) : (XI a0 a1).1.Kind = a0.Kind := rfl
@[simp] theorem sr (a0 : Yu) (a1 : Int) : (XI a0 a1).1.A = a0.A := rfl
@[simp] theorem sf (a0 : Yu) (a1 : Int) : (XI a0 a1).1.B = a0.B := rfl
@[simp] theorem su (a0 : Yu) (a1 : Int) : (XI a0 a1).1.C = a0.C := rfl
@[simp] theorem sk (a0 : Yu) (a1 : Int) : (XI a0 a1).1.D = a0.D := rfl
@[simp] theorem Ba (a0 : Yu) (a1 : Int) : (XI a0 a1).1.Doc.zA = a0.Doc.zA := rfl
@[simp] theorem FP (a0 : Yu) (a1 : Int) : (XI a0 a1).1.Doc.ZN.length = a0.Doc.ZN.length := by simp [XI]
@[simp] theorem FO (a0 : Yu) (a1 : Int) : (XI a0 a1).1.Doc.ZR.length = a0.Doc.ZR.length := by simp [XI]
@[simp] theorem wC (a0 : Yu) (a1 : Int) : (XI a0 a1).1.Ids.length = a0.Ids.length := by simp [XI]
theorem Gi (a0 : Yu) (a1 : Int) (h0 : 0 <= a1) (h : a1 + (cn a0 : Nat) < 4611686018427387904) : a1 <= (XI a0 a1).2 /\ (XI a0 a1).2 <= a1 + (cn a0 : Nat) := by
  simp only [XO, XY, X9, Yu.Yb] at h ⊢
  obtain ⟨m0, n0⟩ := Om a0.Doc a1 (by omega) (by omega)
  have o0 : ¬ (Yt a0.Doc a1).2 < 0 := by omega
  obtain ⟨m2, n2⟩ := kS a0.Ids (Yt a0.Doc a1).2 (by omega) (by omega)
  have q2 := QR a0.Ids (Yt a0.Doc a1).2 (by omega) (by omega)
  have o2 : ¬ (ZC a0.Ids (Yt a0.Doc a1).2).2 < 0 := by omega
  refine ⟨by simp only [XI]; omega, by simp only [XI]; omega⟩
theorem En {n : Nat} {x : Z1} (h : 7 <= n) : Sm n (y8 x) := ⟨by simp [y8]; omega, fun _ _ => trivial⟩
@[simp] theorem sB (x : Z1) : (y8 x).length = 7 := rfl
theorem Eo {n : Nat} {x : Z1} (h : 7 <= n) : Sm n (xd x) := ⟨by simp [xd]; omega, fun _ _ => trivial⟩
@[simp] theorem sA (x : Z1) : (xd x).length = 7 := rfl
theorem Gn {n : Nat} {x : ZX} (h : 5 <= n) : Sm n (KX x) := ⟨by simp [KX]; omega, fun _ _ => trivial⟩
@[simp] theorem ui (x : ZX) : (KX x).length = 5 := rfl
theorem HL {n : Nat} {x : ZX} (h : 5 <= n) : Sm n (J5 x) := ⟨by simp [J5]; omega, fun _ _ => trivial⟩
@[simp] theorem uz (x : ZX) : (J5 x).length = 5 := rfl
theorem SP {n : Nat} {x : Z4} (h : 5 <= n) : Sm n (Jv x) := ⟨by simp [Jv]; omega, fun _ _ => trivial⟩
@[simp] theorem v9 (x : Z4) : (Jv x).length = 5 := rfl
theorem SM {n : Nat} {x : Z4} (h : 5 <= n) : Sm n (JT x) := ⟨by simp [JT]; omega, fun _ _ => trivial⟩
@[simp] theorem vq (x : Z4) : (JT x).length = 5 := rfl
theorem W8 {n : Nat} {x : ZY} (h : 9 <= n) : Sm n (QY x) := ⟨by simp [QY]; omega, fun _ _ => trivial⟩
@[simp] theorem wA (x : ZY) : (QY x).length = 9 := rfl
theorem VI {n : Nat} {x : ZY} (h : 9 <= n) : Sm n (X8 x) := ⟨by simp [X8]; omega, fun _ _ => trivial⟩
@[simp] theorem wB (x : ZY) : (X8 x).length = 9 := rfl
theorem Hs {a : Za} (h : yX a = true) : 0 < a.ZL.length := by
  unfold yX at h
  split at h
  · rename_i r e
    have : ∀ n v, xi a n v ≠ .inl true := by
      intro n
      induction n with
      | zero => intro v h; cases h
      | succ n ih =>
        intro v h
        rw [xi] at h
        cases h1 : decide ((v : Int) < (a.ZL.length : Int)) with
        | false => rw [h1] at h; cases h
        | true =>
          rw [h1] at h
          cases h2 : decide (jI a (nth a.ZL v) < (v : Int)) with
          | true => rw [h2] at h; cases h
          | false => rw [h2] at h; exact ih _ h
    subst h; exact absurd e (this _ _)
  · split at h
    · rename_i r e
      have : ∀ n v, xp a n v ≠ .inl true := by
        intro n
        induction n with
        | zero => intro v h; cases h
        | succ n ih =>
          intro v h
          rw [xp] at h
          generalize decide ((v : Int) < (a.Zd.length : Int)) = c1 at h
          cases c1 with
          | false => cases h
          | true =>
            simp only [cond_true] at h
            generalize (!YL (nth a.Zd v).Count 1 (a.ZL.length : Int) || decide ((v : Int) > 0) && decide ((nth a.Zd (v - 1)).Count > (nth a.Zd v).Count)) = c2 at h
            cases c2 with
            | true => cases h
            | false => exact ih _ h
      subst h; exact absurd e (this _ _)
    · simp only [YL, Bool.and_eq_true, decide_eq_true_eq] at h; omega
theorem Gm {a : Za} (h : zX a = true) : 0 < a.ZL.length := by
  unfold zX at h
  generalize (match xz a (a.ZL.length + 1) 0 with | .inl r1 => r1 | .inr _ => (match qC a (a.Zd.length + 1) 0 with | .inl r2 => r2 | .inr _ => true)) = m at h
  cases hh : Zp (a.ZL.length : Int) 1 12 with
  | false => rw [hh] at h; simp at h
  | true => simp only [Zp, Bool.and_eq_true, decide_eq_true_eq] at hh; omega
theorem Nq {a : ZV} (h : zJ a = true) : a.ZR.length = a.ZN.length := by
  unfold zJ at h
  split at h
  · rename_i r e
    have : ∀ n v, zi a n v ≠ .inl true := by
      intro n
      induction n with
      | zero => intro v h; cases h
      | succ n ih =>
        intro v h
        rw [zi] at h
        generalize decide ((v : Int) < (a.ZN.length : Int)) = c1 at h
        cases c1 with
        | false => cases h
        | true =>
          simp only [cond_true] at h
          generalize decide (((nth a.ZN v).size : Int) > 40) = c2 at h
          cases c2 with
          | true => cases h
          | false => exact ih _ h
    subst h; exact absurd e (this _ _)
  · split at h
    · rename_i r e
      have : ∀ n v, z3 a n v ≠ .inl true := by
        intro n
        induction n with
        | zero => intro v h; cases h
        | succ n ih =>
          intro v h
          rw [z3] at h
          generalize decide ((v : Int) < (a.ZR.length : Int)) = c1 at h
          cases c1 with
          | false => cases h
          | true =>
            simp only [cond_true] at h
            generalize (!YL (nth a.ZR v) 1 1000000000000) = c2 at h
            cases c2 with
            | true => cases h
            | false => exact ih _ h
      subst h; exact absurd e (this _ _)
    · simp only [Bool.and_eq_true, beq_iff_eq] at h; omega
theorem N8 {a : ZV} (h : zE a = true) : a.ZR.length = a.ZN.length := by
  unfold zE at h
  generalize (match zm a (a.ZN.length + 1) 0 with | .inl r1 => r1 | .inr _ => true) = m at h
  by_cases hh : a.ZR.length = a.ZN.length
  · exact hh
  · rw [show ((a.ZR.length : Int) != (a.ZN.length : Int)) = true by simp; omega] at h
    simp at h
theorem Y5 (a0 : ZJ) (a1 : Int) (h : 0 <= (ZH a0 a1).1) : (ZH a0 a1).1.toNat < a0.ZA.length /\ 0 <= (ZH a0 a1).2 /\ (ZH a0 a1).2.toNat < (nth a0.ZA (ZH a0 a1).1.toNat).ZF.length := by
  have key : ∀ n v r, xa a0 a1 n v = .inl r -> r.1.toNat < a0.ZA.length /\ 0 <= r.2 /\ r.2.toNat < (nth a0.ZA r.1.toNat).ZF.length := by
    intro n
    induction n with
    | zero => intro v r h; cases h
    | succ n ih =>
      intro v r h
      rw [xa] at h
      cases h1 : decide ((v : Int) < (a0.ZA.length : Int)) with
      | false => rw [h1] at h; cases h
      | true =>
        rw [h1] at h
        simp only [cond_true] at h
        cases h2 : decide (Yk (nth a0.ZA v) a1 >= 0) with
        | false => rw [h2] at h; exact ih _ _ h
        | true =>
          rw [h2] at h; cases h
          simp at h1 h2
          have := Ui (nth a0.ZA v) a1
          simp only [Int.toNat_natCast]
          exact ⟨h1, h2, by omega⟩
  unfold ZH at h ⊢
  cases hh : xa a0 a1 (a0.ZA.length + 1) 0 with
  | inl r => rw [hh] at h; exact key _ _ r hh
  | inr u => rw [hh] at h; simp at h
theorem KS (a0 : ZJ) (a1 : Int) (h : 0 <= (ZT a0 a1).1) : (ZT a0 a1).1.toNat < a0.ZA.length /\ 0 <= (ZT a0 a1).2 /\ (ZT a0 a1).2.toNat < (nth a0.ZA (ZT a0 a1).1.toNat).ZF.length := by
  have key : ∀ n v r, y7 a0 a1 n v = .inl r -> r.1.toNat < a0.ZA.length /\ 0 <= r.2 /\ r.2.toNat < (nth a0.ZA r.1.toNat).ZF.length := by
    intro n
    induction n with
    | zero => intro v r h; cases h
    | succ n ih =>
      intro v r h
      rw [y7] at h
      cases h1 : decide ((v : Int) < (a0.ZA.length : Int)) with
      | false => rw [h1] at h; cases h
      | true =>
        rw [h1] at h
        simp only [cond_true] at h
        cases h2 : decide (ZW (nth a0.ZA v) a1 >= 0) with
        | false => rw [h2] at h; exact ih _ _ h
        | true =>
          rw [h2] at h; cases h
          simp at h1 h2
          have := Qw (nth a0.ZA v) a1
          simp only [Int.toNat_natCast]
          exact ⟨h1, h2, by omega⟩
  unfold ZT at h ⊢
  cases hh : y7 a0 a1 (a0.ZA.length + 1) 0 with
  | inl r => rw [hh] at h; exact key _ _ r hh
  | inr u => rw [hh] at h; simp at h
theorem W1 {a : Int} {n : Nat} (hn : n <= 9223372036854775807) (h : YL a 0 (W ((n : Int) - 1)) = true) : 0 <= a /\ a < n := by
  rw [tU n hn] at h
  simp only [YL, Bool.and_eq_true, decide_eq_true_eq] at h; omega
@[simp] theorem sh (l : List UInt8) : (kA l).length = l.length := by
  have key : ∀ n (acc : List Int) v, l.length < n + v -> v <= l.length -> (xQ l n acc v).length = acc.length + (l.length - v) := by
    intro n
    induction n with
    | zero => intro acc v h1 h2; omega
    | succ n ih =>
      intro acc v h1 h2
      rw [xQ]
      by_cases hv : v < l.length
      · rw [show decide ((v : Int) < (l.length : Int)) = true by simpa using hv, cond_true, ih _ (v + 1) (by omega) (by omega)]
        simp; omega
      · rw [show decide ((v : Int) < (l.length : Int)) = false by simpa using hv, cond_false]; omega
  have := key (l.length + 1) [] 0 (by omega) (by omega)
  simpa [kA] using this
theorem qc {n : Nat} {a0 : Za} {a1 : ZV} (h : Sm n a0) : Sm n (Jx a0 a1) := by
  have key : ∀ n (acc : List Int) v, a0.Zd.length < n + v -> v <= a0.Zd.length -> (zx a0 a1 n acc v).length = acc.length + (a0.Zd.length - v) := by
    intro n
    induction n with
    | zero => intro acc v h1 h2; omega
    | succ n ih =>
      intro acc v h1 h2
      rw [zx]
      by_cases hv : v < a0.Zd.length
      · rw [show decide ((v : Int) < (a0.Zd.length : Int)) = true by simpa using hv, cond_true, ih _ (v + 1) (by omega) (by omega)]
        simp; omega
      · rw [show decide ((v : Int) < (a0.Zd.length : Int)) = false by simpa using hv, cond_false]; omega
  have h2 := key (a0.Zd.length + 1) [] 0 (by omega) (by omega)
  have h3 := JA (Za.jO h)
  refine ⟨?_, fun _ _ => trivial⟩
  unfold Jx
  simp only [List.length_nil, Nat.zero_add, Nat.sub_zero] at h2
  rw [h2]; exact h3
theorem KF (a0 : ZO) : (Qc a0 = 101 -> a0.YP.length = 7) /\ (Qc a0 = 102 -> a0.YP.length = 5) /\ (Qc a0 = 103 -> a0.YP.length = 5) /\ (Qc a0 = 104 -> a0.YP.length = 9) /\ (Qc a0 = 105 -> a0.YP.length = 6) := by
  have key : ∀ v : Int, v ≠ 0 -> Qc a0 = v -> nth a0.YP 0 = v /\ (a0.YP.length : Int) = nth ([7, 5, 5, 9, 6] : List Int) (W (v - 101)).toNat := by
    intro v hv h
    unfold Qc at h
    cases c0 : (((a0.YP.length : Int) == 0) || (!(YL (nth a0.YP 0) 101 105)))
    · rw [c0, cond_false] at h
      cases c1 : ((a0.YP.length : Int) != (nth ([7, 5, 5, 9, 6] : List Int) (W ((nth a0.YP 0) - 101)).toNat))
      · rw [c1, cond_false] at h
        simp only [bne_eq_false_iff_eq] at c1
        exact ⟨h, by rw [<- h]; exact c1⟩
      · rw [c1, cond_true] at h; exact absurd h.symm hv
    · rw [c0, cond_true] at h; exact absurd h.symm hv
  refine ⟨fun h => ?_, fun h => ?_, fun h => ?_, fun h => ?_, fun h => ?_⟩ <;> (have := (key _ (by decide) h).2; simp [nth, Kc] at this; omega)
theorem J9 (a0 : ZO) : (QX a0 = 101 -> a0.YP.length = 7) /\ (QX a0 = 102 -> a0.YP.length = 5) /\ (QX a0 = 103 -> a0.YP.length = 5) /\ (QX a0 = 104 -> a0.YP.length = 9) /\ (QX a0 = 105 -> a0.YP.length = 6) := by
  have key : ∀ v : Int, v ≠ 0 -> QX a0 = v -> nth a0.YP 0 = v /\ (a0.YP.length : Int) = nth ([7, 5, 5, 9, 6] : List Int) (W (v - 101)).toNat := by
    intro v hv h
    unfold QX at h
    cases c1 : ((((a0.YP.length : Int) == 0) || (!(Zp (nth a0.YP 0) 101 105))) || ((a0.YP.length : Int) != (nth ([7, 5, 5, 9, 6] : List Int) (W ((nth a0.YP 0) - 101)).toNat)))
    · rw [c1, cond_false] at h
      simp only [Bool.or_eq_false_iff, bne_eq_false_iff_eq] at c1
      exact ⟨h, by rw [<- h]; exact c1.2⟩
    · rw [c1, cond_true] at h; exact absurd h.symm hv
  refine ⟨fun h => ?_, fun h => ?_, fun h => ?_, fun h => ?_, fun h => ?_⟩ <;> (have := (key _ (by decide) h).2; simp [nth, Kc] at this; omega)
theorem Vx (a0 : Int) (a1 : List Int) (h : a1.length <= 1048576) : 2 * (kl a0 a1).length = a1.length + a1.length % 2 := by
  have key : ∀ n v i, a1.length + 1 < 2 * n + i -> i <= a1.length + 1 -> i % 2 = 0 -> 2 * (xm a0 a1 n v i).length = 2 * v.length + (a1.length + a1.length % 2 - i) := by
    intro n
    induction n with
    | zero => intro v i h1 h2; omega
    | succ n ih =>
      intro v i h1 h2 h3
      unfold xm
      by_cases hi : i < a1.length
      · rw [show decide ((i : Int) < (a1.length : Int)) = true by simp [hi], cond_true]
        have e : ∀ x, 2 * (xm a0 a1 n (v ++ [x]) (i + 2)).length = 2 * v.length + (a1.length + a1.length % 2 - i) := by
          intro x
          have := ih (v ++ [x]) (i + 2) (by omega) (by omega) (by omega)
          rw [this, List.length_append, List.length_singleton]; omega
        exact Zm (p := fun (r : List Int) => 2 * r.length = 2 * v.length + (a1.length + a1.length % 2 - i)) (e _) (e _)
      · rw [show decide ((i : Int) < (a1.length : Int)) = false by simp; omega, cond_false]; omega
  have := key (a1.length + 1) [] 0 (by omega) (by omega) (by omega)
  unfold kl
  rw [this]; simp
theorem qB (a0 : Int) (a1 : List Int) (h : a1.length <= 1048576) : 2 * (Jy a0 a1).length = a1.length + a1.length % 2 := by
  have key : ∀ n v i, a1.length + 1 < 2 * n + i -> i <= a1.length + 1 -> i % 2 = 0 -> 2 * (Ja a0 a1 n v i).length = 2 * v.length + (a1.length + a1.length % 2 - i) := by
    intro n
    induction n with
    | zero => intro v i h1 h2; omega
    | succ n ih =>
      intro v i h1 h2 h3
      unfold Ja
      by_cases hi : i < a1.length
      · rw [show decide ((i : Int) < (a1.length : Int)) = true by simp [hi], cond_true]
        have e : ∀ x, 2 * (Ja a0 a1 n (v ++ [x]) (i + 2)).length = 2 * v.length + (a1.length + a1.length % 2 - i) := by
          intro x
          have := ih (v ++ [x]) (i + 2) (by omega) (by omega) (by omega)
          rw [this, List.length_append, List.length_singleton]; omega
        exact Zm (p := fun (r : List Int) => 2 * r.length = 2 * v.length + (a1.length + a1.length % 2 - i)) (e _) (e _)
      · rw [show decide ((i : Int) < (a1.length : Int)) = false by simp; omega, cond_false]; omega
  have := key (a1.length + 1) [] 0 (by omega) (by omega) (by omega)
  unfold Jy
  rw [this]; simp
theorem ja {n : Nat} {a0 : ZD} {a1 : Int} (h : Sm n a0) : Sm n (YD a0 a1) := by
  refine ⟨?_, fun _ _ => trivial⟩
  have e := Bm (F := Jt a0 a1) (fun _ _ => rfl) (fun _ _ _ => rfl) (a0.ZF.length + 1) [] 0
  have : (YD a0 a1).length <= 0 + (a0.ZF.length - 0) := e
  have := JA (show Sm n a0.ZF from h)
  omega
theorem qX (a0 : ZD) (a1 : Int) : (YD a0 a1).length = a0.ZF.length := by
  have key : ∀ n v i, i <= a0.ZF.length -> a0.ZF.length < n + i -> (Jt a0 a1 n v i).length = v.length + (a0.ZF.length - i) := by
    intro n
    induction n with
    | zero => intro v i h0 h; omega
    | succ n ih =>
      intro v i h0 h
      rw [Jt]
      by_cases hc : (i : Int) < (a0.ZF.length : Int)
      · simp only [decide_eq_true hc, cond_true]
        rw [ih _ _ (by omega) (by omega)]
        simp
        omega
      · simp only [decide_eq_false hc, cond_false]
        omega
  have := key (a0.ZF.length + 1) [] 0 (by omega) (by omega)
  exact this.trans (by simp)
theorem Vh {n : Nat} {a0 : ZD} {a1 : Int} (h : Sm n a0) : Sm n (Xc a0 a1) := by
  refine ⟨?_, fun _ _ => trivial⟩
  have e := Bm (F := ym a0 a1) (fun _ _ => rfl) (fun _ _ _ => rfl) (a0.ZF.length + 1) [] 0
  have : (Xc a0 a1).length <= 0 + (a0.ZF.length - 0) := e
  have := JA (show Sm n a0.ZF from h)
  omega
theorem Jr (a0 : ZJ) (a1 : Int) (h : (YG a0 a1).2.2 = true) : 0 <= (YG a0 a1).1 /\ (YG a0 a1).1 < (a0.ZA.length : Int) /\ 0 <= (YG a0 a1).2.1 /\ (YG a0 a1).2.1 < (a0.ZS.length : Int) :=
  y4 (p := fun (r : Int × Int × Bool) => r.2.2 = true -> 0 <= r.1 /\ r.1 < (a0.ZA.length : Int) /\ 0 <= r.2.1 /\ r.2.1 < (a0.ZS.length : Int)) (fun _ h => by simp at h) (fun hc h => by
    simp only [Bool.or_eq_false_iff, decide_eq_false_iff_not] at hc
    have f := KS a0 a1 (by omega)
    dsimp only at h ⊢
    rw [Bool.and_eq_true, decide_eq_true_eq] at h
    have h2 := h.2
    exact ⟨by omega, by omega, by omega, EY _ _⟩) h
theorem I8 {n : Nat} {x : Z1} (h : 7 <= n) : Sm n (qy x) := En h
theorem Rs {n : Nat} {x : Z1} (h : 7 <= n) : Sm n (JK x) := Eo h
theorem kL {n : Nat} {x : Z4} (h : 5 <= n) : Sm n (Yz x) := SP h
theorem N9 {n : Nat} {x : Z4} (h : 5 <= n) : Sm n (XD x) := SM h
theorem G7 {n : Nat} {x : ZY} (h : 9 <= n) : Sm n (z6 x) := W8 h
theorem RU {n : Nat} {x : ZY} (h : 9 <= n) : Sm n (QP x) := VI h
theorem ZZ {a0 : List YR} {a1 : Z4} (h : (YZ a0 a1).2 = true) : 0 <= Yd a0 a1.Z5 := by
  unfold YZ at h
  cases hc : ((!(kE a1)) || (decide ((Yd a0 a1.Z5) < 0))) with
  | true => rw [hc] at h; simp at h
  | false => simp at hc; exact hc.2
theorem Wl {n : Nat} {a0 : ZJ} {a1 : Int} {a2 : ZV} {a3 a4 : Int} (h : Sm n a2) (hn : 9 <= n) : Sm n (Xa a0 a1 a2 a3 a4).1 := by
  unfold Xa
  cases ((decide ((Zh a0.Frame.Methods a0.Frame.Now) < 0)) || (decide ((Xb a0 a1) < 0))) with
  | true => exact ⟨⟨MS, MS⟩, MS, MS⟩
  | false =>
    refine ⟨h, ⟨by simp; omega, fun y hy => ?_⟩, MS⟩
    rcases List.mem_cons.1 hy with rfl | hy
    · exact G7 (by omega)
    rcases List.mem_cons.1 hy with rfl | hy
    · exact I8 (by omega)
    · cases hy
theorem O7 {n : Nat} {a0 : ZD} {a1 : ZM} (h : Sm n a0) (hx : Sm (n + 1) a1) : Sm (n + 1) (XB a0 a1).1 := by
  have h1 : Sm (n + 1) a0 := Zk (Nat.le_succ n) h
  unfold XB
  cases ((decide ((ZW a0 a1.Id) >= 0)) || (!(Ji a0))) with
  | true => exact h1
  | false =>
    simp only [cond_false]
    generalize Y9 a0 a1 (a0.ZF.length + 1) 0 = z
    cases (!(Ji (ZD.mk a0.Id (((a0.ZF.take z) ++ ([a1] : List ZM)) ++ (a0.ZF.drop z))))) with
    | true => exact h1
    | false =>
      refine ⟨by have := ZD.Ys h; have := this.1; simp; omega, fun y hy => ?_⟩
      have b5 : y ∈ a0.ZF.take z \/ y = a1 \/ y ∈ a0.ZF.drop z := by simpa using hy
      rcases b5 with hy | rfl | hy
      · exact h1.2 y (List.mem_of_mem_take hy)
      · exact hx
      · exact h1.2 y (List.mem_of_mem_drop hy)
theorem VM {n : Nat} {a0 : ZD} {a1 : ZM} (h : Sm n a0) (hx : Sm n a1) : ∀ (m : Nat) (b : Bool) (i : Nat) (l : List ZM), l.length <= i + (bif b then 1 else 0) -> i <= a0.ZF.length -> (∀ y ∈ l, Sm n y) ->
    (QN a0 a1 m b i l).2.length <= a0.ZF.length + (bif (QN a0 a1 m b i l).1 then 1 else 0) /\ ∀ y ∈ (QN a0 a1 m b i l).2, Sm n y
  | 0, b, i, l, _, _, _ => ⟨Nat.zero_le _, fun y hy => by cases hy⟩
  | m + 1, b, i, l, hl, hi, hs => by
    unfold QN
    cases hc : decide ((i : Int) < (a0.ZF.length : Int)) with
    | false =>
      simp only [cond_false]
      refine ⟨?_, hs⟩
      have : ¬ ((i : Int) < a0.ZF.length) := by simpa using hc
      omega
    | true =>
      have lN : i < a0.ZF.length := by simpa using hc
      have hn : Sm n (nth a0.ZF i) := Yf h
      simp only [cond_true]
      cases hd : ((!b) && (decide (a1.Id < (nth a0.ZF i).Id))) with
      | true =>
        have hb : b = false := by cases b <;> simp_all
        subst hb
        simp only [cond_true]
        refine VM h hx m true (i + 1) _ (by simp at hl ⊢; omega) lN (fun y hy => ?_)
        simp only [List.append_assoc, List.mem_append, List.mem_cons, List.not_mem_nil, or_false] at hy
        rcases hy with hy | rfl | rfl
        · exact hs y hy
        · exact hx
        · exact hn
      | false =>
        simp only [cond_false]
        refine VM h hx m b (i + 1) _ (by simp at hl ⊢; omega) lN (fun y hy => ?_)
        simp only [List.mem_append, List.mem_cons, List.not_mem_nil, or_false] at hy
        rcases hy with hy | rfl
        · exact hs y hy
        · exact hn
theorem C3 {n : Nat} {a0 : ZD} {a1 : ZM} (h : Sm n a0) (hx : Sm n a1) : Sm (n + 1) (Qr a0 a1).1 := by
  have h1 : Sm (n + 1) a0 := Zk (Nat.le_succ n) h
  unfold Qr
  cases ((!(JG a0)) || (decide ((Yk a0 a1.Id) >= 0))) with
  | true => exact h1
  | false =>
    have hz := VM h hx (a0.ZF.length + 1) false 0 [] (Nat.zero_le _) (Nat.zero_le _) (fun y hy => by cases hy)
    have hlen := (ZD.Ys h).1
    simp only [cond_false]
    generalize hq : QN a0 a1 (a0.ZF.length + 1) false 0 [] = z at hz ⊢
    obtain ⟨z0, z1⟩ := z
    cases z0 with
    | false =>
      simp only [Bool.not_false, cond_true]
      cases (!(JG (ZD.mk a0.Id (z1 ++ ([a1] : List ZM))))) with
      | true => exact h1
      | false =>
        refine ⟨by have := hz.1; simp at this ⊢; omega, fun y hy => ?_⟩
        have b5 : y ∈ z1 \/ y = a1 := by simpa using hy
        rcases b5 with hy | rfl
        · exact Zk (Nat.le_succ n) (hz.2 y hy)
        · exact Zk (Nat.le_succ n) hx
    | true =>
      simp only [Bool.not_true, cond_false]
      cases (!(JG (ZD.mk a0.Id z1))) with
      | true => exact h1
      | false => exact ⟨by have := hz.1; simp at this ⊢; omega, fun y hy => Zk (Nat.le_succ n) (hz.2 y hy)⟩
theorem Sf {n : Nat} {a0 : ZJ} {a1 a2 : Int} {a3 : ZV} {a4 a5 : Int} (h : Sm n a0) (hd : Sm n a3) (hn : 9 <= n) : ∀ (m v : Nat) (r : ZJ × Bool), K6 a0 a1 a2 a3 a4 a5 m v = .inl r -> Sm (n + 1) r.1
  | 0, v, r, e => by cases e
  | m + 1, v, r, e => by
    have h1 : Sm (n + 1) a0 := Zk (Nat.le_succ n) h
    unfold K6 at e
    cases hc : decide ((v : Int) < (a0.ZS.length : Int)) with
    | false => rw [hc] at e; cases e
    | true =>
      rw [hc] at e
      simp only [cond_true] at e
      cases hk : ((nth a0.ZS v).Key != a2) with
      | true => rw [hk] at e; exact Sf h hd hn m (v + 1) r e
      | false =>
        rw [hk] at e
        simp only [cond_false] at e
        generalize hq : (ZM.mk a0.Next a5 a3 (Y6 a0.Frame.Zq (ZY.mk a2 (nth a0.ZS v).Zg (ZP a0.Frame.Methods a0.Frame.Now) (Ya (ZP a0.Frame.Methods a0.Frame.Now) a3) 1 a4 0 0 0)).1 (Za.mk ([(QP (Y6 a0.Frame.Zq (ZY.mk a2 (nth a0.ZS v).Zg (ZP a0.Frame.Methods a0.Frame.Now) (Ya (ZP a0.Frame.Methods a0.Frame.Now) a3) 1 a4 0 0 0)).1), (JK (nth a0.ZS v))] : List ZO) ([] : List ZK))) = it at e
        have hit : Sm (n + 1) it := by
          rw [<- hq]
          refine ⟨Zk (Nat.le_succ n) hd, ⟨by simp; omega, fun y hy => ?_⟩, MS⟩
          rcases List.mem_cons.1 hy with rfl | hy
          · exact RU (by omega)
          rcases List.mem_cons.1 hy with rfl | hy
          · exact Rs (by omega)
          · cases hy
        clear hq
        cases hb : ((!(Y6 a0.Frame.Zq (ZY.mk a2 (nth a0.ZS v).Zg (ZP a0.Frame.Methods a0.Frame.Now) (Ya (ZP a0.Frame.Methods a0.Frame.Now) a3) 1 a4 0 0 0)).2) || (!(XB (nth a0.ZA a1.toNat) it).2)) with
        | true => rw [hb] at e; cases e; exact h1
        | false =>
          rw [hb] at e
          cases e
          exact ⟨h1.1, h1.2.1, h1.2.2.1, oN h1.2.2.2.1 (O7 (Yf h.2.2.2.1) hit), h1.2.2.2.2.1, h1.2.2.2.2.2.1, h1.2.2.2.2.2.2⟩
theorem yl {n : Nat} {a0 : ZJ} {a1 a2 : Int} {a3 : ZV} {a4 a5 : Int} (h : Sm n a0) (hd : Sm n a3) (hn : 9 <= n) : Sm (n + 1) (XP a0 a1 a2 a3 a4 a5).1 := by
  have h1 : Sm (n + 1) a0 := Zk (Nat.le_succ n) h
  unfold XP
  cases (((!(YU a0 a1)) || (decide ((YH a0.Frame.Zq a2) < 0))) || (decide ((ZP a0.Frame.Methods a0.Frame.Now) < 0))) with
  | true => exact h1
  | false =>
    simp only [cond_false]
    cases he : K6 a0 a1 a2 a3 a4 a5 (a0.ZS.length + 1) 0 with
    | inl r => exact Sf h hd hn _ _ r he
    | inr _ => exact h1
theorem xk (a0 : Int) : ∀ (m : Nat) (x : Int) (l : List Zv) (y : List Int), (KU a0 m x l y).length <= l.length + m
  | 0, x, l, y => Nat.zero_le _
  | m + 1, x, l, y => by
    simp only [KU]
    cases decide ((y.length : Int) > 1) with
    | false => simp
    | true =>
      simp only [cond_true]
      cases ((Int.tmod x 2) == 1) with
      | true => refine Nat.le_trans (xk a0 m _ _ _) ?_; simp; omega
      | false =>
        simp only [cond_false]
        cases decide ((W (x + 1)) < (y.length : Int)) with
        | true => refine Nat.le_trans (xk a0 m _ _ _) ?_; simp; omega
        | false => refine Nat.le_trans (xk a0 m _ _ _) ?_; omega
theorem Fc {n : Nat} {a0 : Int} {a1 : List Int} {a2 : Int} (h : 17 <= n) : Sm n (Km a0 a1 a2) := by
  refine ⟨?_, fun _ _ => trivial⟩
  unfold Km
  cases hc : ((decide ((a1.length : Int) > 16)) || (!(YL a2 0 (W ((a1.length : Int) - 1))))) with
  | true => exact Nat.zero_le _
  | false =>
    have h1 := xk a0 (a1.length + 1) a2 [] a1
    simp only [Bool.or_eq_false_iff, decide_eq_false_iff_not] at hc
    simp only [cond_false]; simp at h1; omega
theorem xj (a0 : Int) : ∀ (m : Nat) (y : List Int) (x : Int) (l : List Zv), (JW a0 m y x l).length <= l.length + m
  | 0, y, x, l => Nat.zero_le _
  | m + 1, y, x, l => by
    simp only [JW]
    cases decide ((y.length : Int) > 1) with
    | false => simp
    | true =>
      simp only [cond_true]
      cases ((Int.tmod x 2) == 1) with
      | true => refine Nat.le_trans (xj a0 m _ _ _) ?_; simp; omega
      | false =>
        simp only [cond_false]
        cases decide ((W (x + 1)) < (y.length : Int)) with
        | true => refine Nat.le_trans (xj a0 m _ _ _) ?_; simp; omega
        | false => refine Nat.le_trans (xj a0 m _ _ _) ?_; omega
theorem EA {n : Nat} {a0 : Int} {a1 : List Int} {a2 : Int} (h : 17 <= n) : Sm n (Qj a0 a1 a2) := by
  refine ⟨?_, fun _ _ => trivial⟩
  unfold Qj
  cases hc : ((!(Zp a2 0 (W ((a1.length : Int) - 1)))) || (decide ((a1.length : Int) > 16))) with
  | true => exact Nat.zero_le _
  | false =>
    have h1 := xj a0 (a1.length + 1) a1 a2 []
    simp only [Bool.or_eq_false_iff, decide_eq_false_iff_not] at hc
    simp only [cond_false]; simp at h1; omega
theorem PQ (a0 : ZJ) (a1 : List Int) : ∀ (m v : Nat), a1.length < m + v -> (match xJ a0 a1 m v with | .inl r => r | .inr _ => true) = true -> ∀ j, v <= j -> j < a1.length -> 0 <= Ze a0.Frame.ZG (nth a1 j) /\ Ze a0.Frame.ZG (nth a1 j) < (a0.Ym.length : Int) /\ 0 <= Yd a0.Frame.Zq (nth a0.Frame.ZG (Ze a0.Frame.ZG (nth a1 j)).toNat).Key
  | 0, v, h, _ => fun j h1 h2 => by omega
  | m + 1, v, h, e => by
    intro j h1 h2
    unfold xJ at e
    have hc : decide ((v : Int) < (a1.length : Int)) = true := by simp; omega
    rw [hc] at e
    simp only [cond_true] at e
    revert e
    cases hA : (((decide ((Ze a0.Frame.ZG (nth a1 v)) < 0)) || (decide ((Ze a0.Frame.ZG (nth a1 v)) >= (a0.Ym.length : Int)))) || ((decide ((v : Int) > 0)) && (decide ((nth a1 (v - 1)) >= (nth a1 v))))) with
    | true => intro e; simp at e
    | false =>
      simp only [cond_false]
      cases hB : ((decide ((Yd a0.Frame.Zq (nth a0.Frame.ZG (Ze a0.Frame.ZG (nth a1 v)).toNat).Key) < 0)) || (decide ((nth a0.Frame.Zq (Yd a0.Frame.Zq (nth a0.Frame.ZG (Ze a0.Frame.ZG (nth a1 v)).toNat).Key).toNat).Wn > a0.Frame.Now))) with
      | true => intro e; simp at e
      | false =>
        intro e
        rcases Nat.eq_or_lt_of_le h1 with rfl | h1
        · simp only [Bool.or_eq_false_iff, decide_eq_false_iff_not] at hA hB
          exact ⟨by omega, by omega, by omega⟩
        · exact PQ a0 a1 m (v + 1) (by omega) e j h1 h2
theorem Jl {a0 : ZJ} {a1 : List Int} (h : K8 a0 a1 = true) {j : Nat} (hj : j < a1.length) : 0 <= Ze a0.Frame.ZG (nth a1 j) /\ Ze a0.Frame.ZG (nth a1 j) < (a0.Ym.length : Int) /\ 0 <= Yd a0.Frame.Zq (nth a0.Frame.ZG (Ze a0.Frame.ZG (nth a1 j)).toNat).Key := by
  refine PQ a0 a1 (a1.length + 1) 0 (by omega) ?_ j (Nat.zero_le _) hj
  unfold K8 at h
  revert h
  cases xJ a0 a1 (a1.length + 1) 0 with
  | inl r => exact fun h => h
  | inr _ => exact fun _ => rfl
theorem KV (a0 : ZJ) : (Z6 a0).length <= a0.Frame.ZG.length := by
  have e := G3 (F := Xt a0) (fun _ _ => rfl) (fun _ _ _ => rfl) (a0.Frame.ZG.length + 1) [] 0
  have : (Z6 a0).length <= 0 + (a0.Frame.ZG.length - 0) := e
  omega
theorem yW (a0 : ZJ) : (Yc a0).length <= a0.Frame.ZG.length := by
  have e := G3 (F := QU a0) (fun _ _ => rfl) (fun _ _ _ => rfl) (a0.Frame.ZG.length + 1) [] 0
  have : (Yc a0).length <= 0 + (a0.Frame.ZG.length - 0) := e
  omega
theorem V9 (a0 : YM) (a1 : Int) (h : Qt a0 a1 = true) : a0.ZF.length <= 8 := by
  unfold Qt at h
  have hk : ∀ n v r, Jn a0 n v = .inl r -> r = false := by
    intro n
    induction n with
    | zero => intro v r h; cases h
    | succ n ih =>
      intro v r h
      rw [Jn] at h
      revert h
      exact Zm (p := fun w => w = Sum.inl r -> r = false) (Zm (p := fun w => w = Sum.inl r -> r = false) (fun h => by cases h; rfl) (fun h => ih _ _ h)) (fun h => by cases h)
  cases hh : Jn a0 (a0.ZF.length + 1) 0 with
  | inl r => rw [hh] at h; have := hk _ _ _ hh; subst this; cases h
  | inr u =>
    rw [hh] at h
    simp only [Zp, Bool.and_eq_true, decide_eq_true_eq] at h
    omega
theorem Vo {n : Nat} {a0 : ZD} {a2 : List Int} (h : Sm n a0) : ∀ (m v : Nat) (l : List ZM), (∀ x ∈ l, Sm n x) -> l.length <= v -> v <= a2.length ->
    (∀ r, Xp a0 a2 m v l = .inl r -> r = (YM.mk 0 0 [] 0, false)) /\ ∀ z, Xp a0 a2 m v l = .inr z -> z.length <= a2.length /\ ∀ x ∈ z, Sm n x
  | 0, v, l, _, _, _ => ⟨fun r h => (by cases h), fun z h => (by cases h; exact ⟨Nat.zero_le _, fun x hx => (by cases hx)⟩)⟩
  | m + 1, v, l, hs, hl, hv => by
    rw [Xp]
    let p := fun w : Sum (YM × Bool) (List ZM) => (∀ r, w = .inl r -> r = (YM.mk 0 0 [] 0, false)) /\ ∀ z, w = .inr z -> z.length <= a2.length /\ ∀ x ∈ z, Sm n x
    refine y4 (p := p) (fun hc => ?_) (fun _ => ⟨fun r h => (by cases h), fun z h => (by cases h; exact ⟨by omega, hs⟩)⟩)
    have hc : v < a2.length := by simpa using hc
    refine Zm (p := p) ⟨fun r h => (by cases h; rfl), fun z h => (by cases h)⟩ ?_
    refine Vo h m (v + 1) _ (fun x hx => ?_) (by simp; omega) hc
    rcases List.mem_append.1 hx with hx | hx
    · exact hs x hx
    · have e := List.mem_singleton.1 hx
      subst e
      exact Yf (ZD.Ys h)
theorem SJ {n : Nat} {a0 : ZD} {a1 a3 : Int} {a2 : List Int} (h : Sm n a0) (h2 : Sm n a2) : Sm n (Yw a0 a1 a2 a3).1 := by
  unfold Yw
  obtain ⟨k1, k2⟩ := Vo (a2 := a2) h (a2.length + 1) 0 [] (fun x hx => (by cases hx)) (Nat.zero_le _) (Nat.zero_le _)
  have h0 : Sm n (YM.mk 0 0 [] 0) := by simp [XC]
  cases hh : Xp a0 a2 (a2.length + 1) 0 [] with
  | inl r => rw [k1 r hh]; exact h0
  | inr z =>
    obtain ⟨q1, q2⟩ := k2 z hh
    have hz : Sm n z := ⟨by have := JA h2; omega, q2⟩
    dsimp only
    refine Zm (p := fun w : YM × Bool => Sm n w.1) h0 ?_
    simp [hz]
theorem Po {n : Nat} {a0 : ZD} {a1 : Int} (hb : n <= 9223372036854775807) (h : Sm n a0) : Sm n (Q8 a0 a1).1 := by
  unfold Q8
  by_cases hk : ZW a0 a1 < 0
  · rw [decide_eq_true hk]; exact h
  · rw [decide_eq_false hk]
    have hi := ZD.Ys h
    have hf := Qw a0 a1
    have hl := JA hi
    refine ⟨?_, fun y hy => ?_⟩
    · have hm : (a0.ZF.take (ZW a0 a1).toNat ++ (a0.ZF.drop (W ((ZW a0 a1) + 1)).toNat)).length <= n := by
        have w : W ((ZW a0 a1) + 1) = (ZW a0 a1) + 1 := Zb (by omega) (by omega)
        rw [w]; simp; omega
      exact hm
    · have b5 : y ∈ a0.ZF.take (ZW a0 a1).toNat \/ y ∈ a0.ZF.drop (W ((ZW a0 a1) + 1)).toNat := List.mem_append.1 hy
      rcases b5 with hy | hy
      · exact hi.2 y (List.mem_of_mem_take hy)
      · exact hi.2 y (List.mem_of_mem_drop hy)
theorem Ol (a0 : YM) (a1 : Int) (h : Kb a0 a1 = true) : a0.ZF.length <= 8 := by
  unfold Kb at h
  have hk : ∀ n v r, Jk a0 n v = .inl r -> r = false := by
    intro n
    induction n with
    | zero => intro v r h; cases h
    | succ n ih =>
      intro v r h
      rw [Jk] at h
      revert h
      exact Zm (p := fun w => w = Sum.inl r -> r = false) (Zm (p := fun w => w = Sum.inl r -> r = false) (fun h => by cases h; rfl) (fun h => ih _ _ h)) (fun h => by cases h)
  cases hh : Jk a0 (a0.ZF.length + 1) 0 with
  | inl r => rw [hh] at h; have := hk _ _ _ hh; subst this; cases h
  | inr u =>
    rw [hh] at h
    simp only [YL, Bool.and_eq_true, decide_eq_true_eq] at h
    omega
theorem UE {n : Nat} {a0 : ZD} {a2 : List Int} (h : Sm n a0) : ∀ (m v : Nat) (l : List ZM), (∀ x ∈ l, Sm n x) -> l.length <= v -> v <= a2.length ->
    (∀ r, JV a0 a2 m v l = .inl r -> r = (YM.mk 0 0 [] 0, false)) /\ ∀ z, JV a0 a2 m v l = .inr z -> z.length <= a2.length /\ ∀ x ∈ z, Sm n x
  | 0, v, l, _, _, _ => ⟨fun r h => (by cases h), fun z h => (by cases h; exact ⟨Nat.zero_le _, fun x hx => (by cases hx)⟩)⟩
  | m + 1, v, l, hs, hl, hv => by
    rw [JV]
    let p := fun w : Sum (YM × Bool) (List ZM) => (∀ r, w = .inl r -> r = (YM.mk 0 0 [] 0, false)) /\ ∀ z, w = .inr z -> z.length <= a2.length /\ ∀ x ∈ z, Sm n x
    refine y4 (p := p) (fun hc => ?_) (fun _ => ⟨fun r h => (by cases h), fun z h => (by cases h; exact ⟨by omega, hs⟩)⟩)
    have hc : v < a2.length := by simpa using hc
    refine Zm (p := p) ⟨fun r h => (by cases h; rfl), fun z h => (by cases h)⟩ ?_
    refine UE h m (v + 1) _ (fun x hx => ?_) (by simp; omega) hc
    rcases List.mem_append.1 hx with hx | hx
    · exact hs x hx
    · have e := List.mem_singleton.1 hx
      subst e
      exact Yf (ZD.Ys h)
theorem SU {n : Nat} {a0 : ZD} {a1 a3 : Int} {a2 : List Int} (h : Sm n a0) (h2 : Sm n a2) : Sm n (Xe a0 a1 a2 a3).1 := by
  unfold Xe
  obtain ⟨k1, k2⟩ := UE (a2 := a2) h (a2.length + 1) 0 [] (fun x hx => (by cases hx)) (Nat.zero_le _) (Nat.zero_le _)
  have h0 : Sm n (YM.mk 0 0 [] 0) := by simp [XC]
  cases hh : JV a0 a2 (a2.length + 1) 0 [] with
  | inl r => rw [k1 r hh]; exact h0
  | inr z =>
    obtain ⟨q1, q2⟩ := k2 z hh
    have hz : Sm n z := ⟨by have := JA h2; omega, q2⟩
    dsimp only
    refine Zm (p := fun w : YM × Bool => Sm n w.1) h0 ?_
    simp [hz]
theorem Fm {n : Nat} {a0 : ZD} {a1 : Int} (h : Sm n a0) : Sm n (zV a0 a1).1 := by
  have hi := ZD.Ys h
  have hl := JA hi
  have key : ∀ m v l, (∀ x ∈ l, Sm n x) -> l.length <= v -> v <= a0.ZF.length -> (KW a0 a1 m v l).length <= a0.ZF.length /\ ∀ x ∈ KW a0 a1 m v l, Sm n x := by
    intro m
    induction m with
    | zero => intro v l _ _ _; exact ⟨Nat.zero_le _, fun x hx => (by cases hx)⟩
    | succ m ih =>
      intro v l hs hl hv
      rw [KW]
      let p := fun w : List ZM => w.length <= a0.ZF.length /\ ∀ x ∈ w, Sm n x
      refine y4 (p := p) (fun hc => ?_) (fun _ => ⟨by omega, hs⟩)
      have hc : v < a0.ZF.length := by simpa using hc
      refine Zm (p := p) (ih _ _ (fun x hx => ?_) (by simp; omega) hc) (ih _ _ hs (by omega) hc)
      rcases List.mem_append.1 hx with hx | hx
      · exact hs x hx
      · have e := List.mem_singleton.1 hx
        subst e
        exact Yf hi
  unfold zV
  obtain ⟨k1, k2⟩ := key (a0.ZF.length + 1) 0 [] (fun x hx => (by cases hx)) (Nat.zero_le _) (Nat.zero_le _)
  refine Zm (p := fun w : ZD × Bool => Sm n w.1) h ?_
  exact ⟨by dsimp only; omega, k2⟩
end Go.Mo
