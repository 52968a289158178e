/- Plain lemmas on the models of the helpers. No condition. -/
import Derived.Test.YthjkhlcbpfnobaaGreatM
namespace Go.Mo
open Go.Vm
set_option linter.unusedSimpArgs false
set_option linter.unusedVariables false
theorem ON (a0 : List Yq) (a1 : Int) : zG a0 a1 < (a0.length : Int) := ku (F := xv a0 a1) (c := fun J => ((nth a0 J).Number == a1)) (fun _ => rfl) (fun _ _ => rfl) _ _
theorem S5 (a0 : Z2) : ka a0 = a0 := rfl
theorem Rp (a0 : List Int) : Wm a0 = a0 := rfl
theorem VM (a0 : ZP) : xN a0 = a0 := rfl
theorem Sq (a0 : Zl) : kN a0 = a0 := rfl
theorem Tu (a0 : List Zl) : yu a0 = a0 := by
  have h := kr (F := (zR a0)) (a := a0) (g := (fun x => x)) (fun _ => rfl) (fun _ _ _ => rfl) (a0.length + 1) [] 0 (by omega) (by omega)
  simp only [List.nil_append, List.drop_zero] at h
  unfold yu
  rw [h]
theorem Ti (a0 : List ZQ) : jP a0 = a0 := rfl
theorem UJ (a0 : Za) : qL a0 = a0 := rfl
theorem Tb (a0 : Zf) : ym a0 = a0 := by
  have h := kr (F := (fun n v i => zZ a0 n i v)) (a := a0.Zn) (g := (fun x => x)) (fun _ => rfl) (fun _ _ _ => rfl) (a0.Zn.length + 1) [] 0 (by omega) (by omega)
  simp only [List.nil_append, List.drop_zero] at h
  unfold ym
  rw [h]
theorem R8 (a0 : ZS) : Wq a0 = a0 := rfl
theorem UQ (a0 : ZD) : yG a0 = a0 := by
  have h := kr (F := (fun n v i => Kv a0 n i v)) (a := a0.ZF) (g := (fun x => x)) (fun _ => rfl) (fun _ _ _ => rfl) (a0.ZF.length + 1) [] 0 (by omega) (by omega)
  simp only [List.nil_append, List.drop_zero] at h
  unfold yG
  rw [h]
theorem RI (a0 : ZE) : xu a0 = a0 := by
  have h := kr (F := (fun n v i => yH a0 n i v)) (a := a0.ZA) (g := (fun x => x)) (fun _ => rfl) (fun _ _ _ => rfl) (a0.ZA.length + 1) [] 0 (by omega) (by omega)
  simp only [List.nil_append, List.drop_zero] at h
  unfold xu
  rw [h]
theorem zJ (a0 : List Yq) (a1 : Int) : YM a0 a1 < (a0.length : Int) := ku (F := qA a0 a1) (c := fun J => ((nth a0 J).Number == a1)) (fun _ => rfl) (fun _ _ => rfl) _ _
theorem QF (a0 : ZD) (a1 : Int) : ZM a0 a1 < (a0.ZF.length : Int) := ku (F := zW a0 a1) (c := fun J => ((nth a0.ZF J).Id == a1)) (fun _ => rfl) (fun _ _ => rfl) _ _
theorem Rj (a0 : List Ym) (a1 : Int) : K2 a0 a1 < (a0.length : Int) := ku (F := yk a0 a1) (c := fun J => ((nth a0 J).YD == a1)) (fun _ => rfl) (fun _ _ => rfl) _ _
theorem Yr (a0 : List ZZ) (a1 : Int) : ZN a0 a1 < (a0.length : Int) := ku (F := KG a0 a1) (c := fun J => ((nth a0 J).Id == a1)) (fun _ => rfl) (fun _ _ => rfl) _ _
theorem TO (a0 : List YJ) (a1 : Int) : Kl a0 a1 < (a0.length : Int) := ku (F := zI a0 a1) (c := fun J => ((nth a0 J).Id == a1)) (fun _ => rfl) (fun _ _ => rfl) _ _
theorem Rn {n : Nat} {x : Ym} (h : 7 <= n) : Sm n (Kx x) := ⟨by simp [Kx]; omega, fun _ _ => trivial⟩
@[simp] theorem Hv (x : Ym) : (Kx x).length = 7 := rfl
theorem PL {n : Nat} {x : Ym} (h : 7 <= n) : Sm n (K4 x) := ⟨by simp [K4]; omega, fun _ _ => trivial⟩
@[simp] theorem H2 (x : Ym) : (K4 x).length = 7 := rfl
theorem RP {n : Nat} {x : ZQ} (h : 5 <= n) : Sm n (X5 x) := ⟨by simp [X5]; omega, fun _ _ => trivial⟩
@[simp] theorem Iy (x : ZQ) : (X5 x).length = 5 := rfl
theorem jk {n : Nat} {x : Yb} (h : 5 <= n) : Sm n (QZ x) := ⟨by simp [QZ]; omega, fun _ _ => trivial⟩
@[simp] theorem IV (x : Yb) : (QZ x).length = 5 := rfl
theorem xE {n : Nat} {x : Zr} (h : 9 <= n) : Sm n (Xk x) := ⟨by simp [Xk]; omega, fun _ _ => trivial⟩
@[simp] theorem MS (x : Zr) : (Xk x).length = 9 := rfl
theorem S8 {a : Zf} (h : Xv a = true) : 0 < a.Zp.length := by
  unfold Xv at h
  generalize (match yo a (a.Zp.length + 1) 0 with | .inl r1 => r1 | .inr _ => (match yv a (a.Zn.length + 1) 0 with | .inl r2 => r2 | .inr _ => true)) = m at h
  cases hh : ZO (a.Zp.length : Int) 1 12 with
  | false => rw [hh] at h; simp at h
  | true => simp only [ZO, Bool.and_eq_true, decide_eq_true_eq] at hh; omega
theorem UE {a : ZP} (h : Ki a = true) : a.Qr.length = a.XA.length := by
  unfold Ki at h
  generalize (match zM a (a.XA.length + 1) 0 with | .inl r1 => r1 | .inr _ => true) = m at h
  by_cases hh : a.Qr.length = a.XA.length
  · exact hh
  · rw [show ((a.Qr.length : Int) != (a.XA.length : Int)) = true by simp; omega] at h
    simp at h
theorem Qd (a0 : ZE) (a1 : Int) (h : 0 <= (ZK a0 a1).1) : (ZK a0 a1).1.toNat < a0.ZA.length /\ 0 <= (ZK a0 a1).2 /\ (ZK a0 a1).2.toNat < (nth a0.ZA (ZK a0 a1).1.toNat).ZF.length := by
  have key : ∀ n v r, zw a0 a1 n v = .inl r -> r.1.toNat < a0.ZA.length /\ 0 <= r.2 /\ r.2.toNat < (nth a0.ZA r.1.toNat).ZF.length := by
    intro n
    induction n with
    | zero => intro v r h; cases h
    | succ n ih =>
      intro v r h
      rw [zw] at h
      cases h1 : decide ((v : Int) < (a0.ZA.length : Int)) with
      | false => rw [h1] at h; cases h
      | true =>
        rw [h1] at h
        simp only [cond_true] at h
        cases h2 : decide (ZM (nth a0.ZA v) a1 >= 0) with
        | false => rw [h2] at h; exact ih _ _ h
        | true =>
          rw [h2] at h; cases h
          simp at h1 h2
          have := QF (nth a0.ZA v) a1
          simp only [Int.toNat_natCast]
          exact ⟨h1, h2, by omega⟩
  unfold ZK at h ⊢
  cases hh : zw a0 a1 (a0.ZA.length + 1) 0 with
  | inl r => rw [hh] at h; exact key _ _ r hh
  | inr u => rw [hh] at h; simp at h
@[simp] theorem GS (l : List UInt8) : (y6 l).length = l.length := by
  have key : ∀ n (acc : List Int) v, l.length < n + v -> v <= l.length -> (yS l n acc v).length = acc.length + (l.length - v) := by
    intro n
    induction n with
    | zero => intro acc v h1 h2; omega
    | succ n ih =>
      intro acc v h1 h2
      rw [yS]
      by_cases hv : v < l.length
      · rw [show decide ((v : Int) < (l.length : Int)) = true by simpa using hv, cond_true, ih _ (v + 1) (by omega) (by omega)]
        simp; omega
      · rw [show decide ((v : Int) < (l.length : Int)) = false by simpa using hv, cond_false]; omega
  have := key (l.length + 1) [] 0 (by omega) (by omega)
  simpa [y6] using this
theorem Ya (a0 : Zl) : (Xt a0 = 101 -> a0.QP.length = 7) /\ (Xt a0 = 102 -> a0.QP.length = 5) /\ (Xt a0 = 103 -> a0.QP.length = 5) /\ (Xt a0 = 104 -> a0.QP.length = 9) /\ (Xt a0 = 105 -> a0.QP.length = 6) := by
  have key : ∀ v : Int, v ≠ 0 -> Xt a0 = v -> nth a0.QP 0 = v /\ (a0.QP.length : Int) = nth ([7, 5, 5, 9, 6] : List Int) (W (v - 101)).toNat := by
    intro v hv h
    unfold Xt at h
    cases c1 : ((((a0.QP.length : Int) == 0) || (!(ZO (nth a0.QP 0) 101 105))) || ((a0.QP.length : Int) != (nth ([7, 5, 5, 9, 6] : List Int) (W ((nth a0.QP 0) - 101)).toNat)))
    · rw [c1, cond_false] at h
      simp only [Bool.or_eq_false_iff, bne_eq_false_iff_eq] at c1
      exact ⟨h, by rw [<- h]; exact c1.2⟩
    · rw [c1, cond_true] at h; exact absurd h.symm hv
  refine ⟨fun h => ?_, fun h => ?_, fun h => ?_, fun h => ?_, fun h => ?_⟩ <;> (have := (key _ (by decide) h).2; simp [nth, XR] at this; omega)
theorem Kh (a0 : Int) (a1 : List Int) (h : a1.length <= 1048576) : 2 * (JH a0 a1).length = a1.length + a1.length % 2 := by
  have key : ∀ n v i, a1.length + 1 < 2 * n + i -> i <= a1.length + 1 -> i % 2 = 0 -> 2 * (Qt a0 a1 n v i).length = 2 * v.length + (a1.length + a1.length % 2 - i) := by
    intro n
    induction n with
    | zero => intro v i h1 h2; omega
    | succ n ih =>
      intro v i h1 h2 h3
      unfold Qt
      by_cases hi : i < a1.length
      · rw [show decide ((i : Int) < (a1.length : Int)) = true by simp [hi], cond_true]
        have e : ∀ x, 2 * (Qt a0 a1 n (v ++ [x]) (i + 2)).length = 2 * v.length + (a1.length + a1.length % 2 - i) := by
          intro x
          have := ih (v ++ [x]) (i + 2) (by omega) (by omega) (by omega)
          rw [this, List.length_append, List.length_singleton]; omega
        exact ZL (p := fun (r : List Int) => 2 * r.length = 2 * v.length + (a1.length + a1.length % 2 - i)) (e _) (e _)
      · rw [show decide ((i : Int) < (a1.length : Int)) = false by simp; omega, cond_false]; omega
  have := key (a1.length + 1) [] 0 (by omega) (by omega) (by omega)
  unfold JH
  rw [this]; simp
theorem xn {n : Nat} (h : 10 <= n) : Sm n J1 := ⟨h, fun _ _ => trivial⟩
theorem xR {n : Nat} {a0 : ZD} {a1 : Int} (h : Sm n a0) : Sm n (Y0 a0 a1) := by
  refine ⟨?_, fun _ _ => trivial⟩
  have e := I6 (F := yB a0 a1) (fun _ _ => rfl) (fun _ _ _ => rfl) (a0.ZF.length + 1) [] 0
  have : (Y0 a0 a1).length <= 0 + (a0.ZF.length - 0) := e
  have := XM (show Sm n a0.ZF from h)
  omega
theorem Yh (a0 : ZE) (a1 : Int) (h : (Zi a0 a1).2.2 = true) : 0 <= (Zi a0 a1).1 /\ (Zi a0 a1).1 < (a0.ZA.length : Int) /\ 0 <= (Zi a0 a1).2.1 /\ (Zi a0 a1).2.1 < (a0.Zb.length : Int) :=
  Zd (p := fun (r : Int × Int × Bool) => r.2.2 = true -> 0 <= r.1 /\ r.1 < (a0.ZA.length : Int) /\ 0 <= r.2.1 /\ r.2.1 < (a0.Zb.length : Int)) (fun _ h => by simp at h) (fun hc h => by
    simp only [Bool.or_eq_false_iff, decide_eq_false_iff_not] at hc
    have f := Qd a0 a1 (by omega)
    dsimp only at h ⊢
    rw [Bool.and_eq_true, decide_eq_true_eq] at h
    have h2 := h.2
    exact ⟨by omega, by omega, by omega, Rj _ _⟩) h
theorem kd {n : Nat} {x : Ym} (h : 7 <= n) : Sm n (Qg x) := PL h
theorem qm {n : Nat} {x : Yb} (h : 5 <= n) : Sm n (XJ x) := jk h
theorem kM {n : Nat} {x : Zr} (h : 9 <= n) : Sm n (X4 x) := xE h
theorem qz {n : Nat} {a0 : ZD} {a1 : ZS} (h : Sm n a0) (hx : Sm (n + 1) a1) : Sm (n + 1) (Z0 a0 a1).1 := by
  have h1 : Sm (n + 1) a0 := ZW (Nat.le_succ n) h
  unfold Z0
  cases ((decide ((ZM a0 a1.Id) >= 0)) || (!(Zz a0))) with
  | true => exact h1
  | false =>
    simp only [cond_false]
    generalize yN a0 a1 (a0.ZF.length + 1) 0 = z
    cases (!(Zz (ZD.mk a0.Id (((a0.ZF.take z) ++ ([a1] : List ZS)) ++ (a0.ZF.drop z))))) with
    | true => exact h1
    | false =>
      refine ⟨by have := ZD.Yc h; have := this.1; simp; omega, fun y hy => ?_⟩
      have iP : y ∈ a0.ZF.take z \/ y = a1 \/ y ∈ a0.ZF.drop z := by simpa using hy
      rcases iP with hy | rfl | hy
      · exact h1.2 y (List.mem_of_mem_take hy)
      · exact hx
      · exact h1.2 y (List.mem_of_mem_drop hy)
theorem ji {n : Nat} {a0 : ZE} {a1 a2 : Int} {a3 : ZP} {a4 a5 : Int} (h : Sm n a0) (hd : Sm n a3) (hn : 9 <= n) : ∀ (m v : Nat) (r : ZE × Bool), Y3 a0 a1 a2 a3 a4 a5 m v = .inl r -> Sm (n + 1) r.1
  | 0, v, r, e => by cases e
  | m + 1, v, r, e => by
    have h1 : Sm (n + 1) a0 := ZW (Nat.le_succ n) h
    unfold Y3 at e
    cases hc : decide ((v : Int) < (a0.Zb.length : Int)) with
    | false => rw [hc] at e; cases e
    | true =>
      rw [hc] at e
      simp only [cond_true] at e
      cases hk : ((nth a0.Zb v).Key != a2) with
      | true => rw [hk] at e; exact ji h hd hn m (v + 1) r e
      | false =>
        rw [hk] at e
        simp only [cond_false] at e
        generalize hq : (ZS.mk a0.Next a5 a3 (YU a0.Frame.Z9 (Zr.mk a2 (nth a0.Zb v).YD (ZJ a0.Frame.Methods a0.Frame.Now) (YH (ZJ a0.Frame.Methods a0.Frame.Now) a3) 1 a4 0 0 0)).1 (Zf.mk ([(X4 (YU a0.Frame.Z9 (Zr.mk a2 (nth a0.Zb v).YD (ZJ a0.Frame.Methods a0.Frame.Now) (YH (ZJ a0.Frame.Methods a0.Frame.Now) a3) 1 a4 0 0 0)).1), (Qg (nth a0.Zb v))] : List Zl) ([] : List Za))) = it at e
        have m5 : Sm (n + 1) it := by
          rw [<- hq]
          refine ⟨ZW (Nat.le_succ n) hd, ⟨by simp; omega, fun y hy => ?_⟩, zO⟩
          rcases List.mem_cons.1 hy with rfl | hy
          · exact kM (by omega)
          rcases List.mem_cons.1 hy with rfl | hy
          · exact kd (by omega)
          · cases hy
        clear hq
        cases hb : ((!(YU a0.Frame.Z9 (Zr.mk a2 (nth a0.Zb v).YD (ZJ a0.Frame.Methods a0.Frame.Now) (YH (ZJ a0.Frame.Methods a0.Frame.Now) a3) 1 a4 0 0 0)).2) || (!(Z0 (nth a0.ZA a1.toNat) it).2)) with
        | true => rw [hb] at e; cases e; exact h1
        | false =>
          rw [hb] at e
          cases e
          exact ⟨h1.1, h1.2.1, h1.2.2.1, kC h1.2.2.2.1 (qz (Yi h.2.2.2.1) m5), h1.2.2.2.2.1, h1.2.2.2.2.2.1, h1.2.2.2.2.2.2⟩
theorem QI {n : Nat} {a0 : ZE} {a1 a2 : Int} {a3 : ZP} {a4 a5 : Int} (h : Sm n a0) (hd : Sm n a3) (hn : 9 <= n) : Sm (n + 1) (YF a0 a1 a2 a3 a4 a5).1 := by
  have h1 : Sm (n + 1) a0 := ZW (Nat.le_succ n) h
  unfold YF
  cases (((!(Z1 a0 a1)) || (decide ((YM a0.Frame.Z9 a2) < 0))) || (decide ((ZJ a0.Frame.Methods a0.Frame.Now) < 0))) with
  | true => exact h1
  | false =>
    simp only [cond_false]
    cases he : Y3 a0 a1 a2 a3 a4 a5 (a0.Zb.length + 1) 0 with
    | inl r => exact ji h hd hn _ _ r he
    | inr _ => exact h1
theorem Kn (a0 : Int) : ∀ (m : Nat) (y : List Int) (x : Int) (l : List JR), (Ju a0 m y x l).length <= l.length + m
  | 0, y, x, l => Nat.zero_le _
  | m + 1, y, x, l => by
    simp only [Ju]
    cases decide ((y.length : Int) > 1) with
    | false => simp
    | true =>
      simp only [cond_true]
      cases ((Int.tmod x 2) == 1) with
      | true => refine Nat.le_trans (Kn a0 m _ _ _) ?_; simp; omega
      | false =>
        simp only [cond_false]
        cases decide ((W (x + 1)) < (y.length : Int)) with
        | true => refine Nat.le_trans (Kn a0 m _ _ _) ?_; simp; omega
        | false => refine Nat.le_trans (Kn a0 m _ _ _) ?_; omega
theorem WL {n : Nat} {a0 : Int} {a1 : List Int} {a2 : Int} (h : 17 <= n) : Sm n (QA a0 a1 a2) := by
  refine ⟨?_, fun _ _ => trivial⟩
  unfold QA
  cases hc : ((!(ZO a2 0 (W ((a1.length : Int) - 1)))) || (decide ((a1.length : Int) > 16))) with
  | true => exact Nat.zero_le _
  | false =>
    have h1 := Kn a0 (a1.length + 1) a1 a2 []
    simp only [Bool.or_eq_false_iff, decide_eq_false_iff_not] at hc
    simp only [cond_false]; simp at h1; omega
def itn (l : List ZD) : Nat := cnL (fun a => a.ZF.length) l
theorem Nk {l : List ZD} {i : Nat} (h : i < l.length) : itn (l.drop i) = (nth l i).ZF.length + itn (l.drop (i + 1)) := kx _ h
theorem kb (a0 : ZE) : XN a0 = a0.ZA.flatMap (·.ZF) := by
  unfold XN
  have := RE (as := a0.ZA) (fun a => a.ZF) (F := fun n i l => xk a0 n l i) (fun _ _ _ => rfl) (a0.ZA.length + 1) 0 [] (by omega) (Nat.zero_le _)
  simpa using this
theorem PR (a0 : ZE) : (XN a0).length = itn a0.ZA := by rw [kb, V0]; rfl
def stc (s : Zf) : Nat := cnL (fun r => r.Y7.length) s.Zn
def IX (e : Z8) : Nat := cnL stc e.Zt + cnL List.length e.J5
theorem Ny {l : List Zf} {i : Nat} (h : i < l.length) : cnL stc (l.drop i) = stc (nth l i) + cnL stc (l.drop (i + 1)) := kx _ h
theorem Vl {l : List Za} {i : Nat} (h : i < l.length) : cnL (fun r => r.Y7.length) (l.drop i) = (nth l i).Y7.length + cnL (fun r => r.Y7.length) (l.drop (i + 1)) := kx _ h
theorem SF {l : List (List ZQ)} {i : Nat} (h : i < l.length) : cnL List.length (l.drop i) = (nth l i).length + cnL List.length (l.drop (i + 1)) := kx _ h
theorem Kr (a0 : List ZQ) : ∀ (n : Nat) (i : Nat) (l : List ZQ), i <= a0.length -> (Yn a0 n i l).length <= l.length + (a0.length - i)
  | 0, i, l, _ => Nat.zero_le _
  | n + 1, i, l, hi => by
    simp only [Yn]
    by_cases h : i < a0.length
    · rw [show decide ((i : Int) < (a0.length : Int)) = true by simpa using h]
      have h1 := Kr a0 n (i + 1) (l ++ [nth a0 i]) h
      have h2 := Kr a0 n (i + 1) l h
      simp only [cond_true]
      refine ZL (p := fun (r : List ZQ) => r.length <= l.length + (a0.length - i)) ?_ ?_ <;> first | omega | (simp at h1; omega)
    · rw [show decide ((i : Int) < (a0.length : Int)) = false by simpa using h]; simp only [cond_false]; omega
theorem zT (a0 a1 : List ZQ) : (Qk a0 a1).length <= a1.length + a0.length := Kr a0 (a0.length + 1) 0 a1 (Nat.zero_le _)
def Yy (a0 : ZE) : List Zf := (a0.ZA.flatMap (·.ZF)).map (·.Zc)
theorem X1 (a0 : ZE) : JL a0 ((XN a0).length + 1) 0 [] = Yy a0 := by
  have := RE (as := XN a0) (fun a => [a.Zc]) (F := JL a0) (fun _ _ _ => rfl) ((XN a0).length + 1) 0 [] (by omega) (Nat.zero_le _)
  rw [this, Yy, <- kb, O9]
  rfl
theorem Vi {n : Nat} {a0 : ZE} (h : Sm n a0) (ht : itn a0.ZA <= 1048576) (hk : 1048576 <= n) : Sm n (Z8.mk (Yy a0) []) := by
  refine ⟨⟨?_, fun x hx => ?_⟩, ⟨Nat.zero_le _, fun x hx => by cases hx⟩⟩
  · rw [Yy, List.length_map, V0]; exact Nat.le_trans ht hk
  · simp only [Yy, List.mem_map, List.mem_flatMap] at hx
    obtain ⟨it, ⟨ar, h1, h2⟩, rfl⟩ := hx
    exact ZS.J8 ((ZD.Yc ((ZE.Yu h).2 _ h1)).2 _ h2)
theorem NF (x : Int) : 0 <= PS .i64 x 255 /\ PS .i64 x 255 <= 255 := by
  have h : (BitVec.ofInt IntKind.i64.bits x &&& BitVec.ofInt IntKind.i64.bits 255).toNat <= 255 := by
    rw [BitVec.toNat_and]; exact Nat.le_trans Nat.and_le_right (Nat.le_of_ble_eq_true rfl)
  unfold PS
  rw [XV (by omega) (by omega)]
  omega
theorem Kb (c : Zj) : 0 <= (Zu c).2 /\ (Zu c).2 <= 255 := by
  unfold Zu
  exact ZL (p := fun r : Zj × Int => 0 <= r.2 /\ r.2 <= 255) (NF _) (NF _)
theorem XI (c : Zj) (n : Int) : 0 <= (ZB c n).2 /\ (0 < n -> (ZB c n).2 < n) := by
  unfold ZB
  refine Zd (p := fun r : Zj × Int => 0 <= r.2 /\ (0 < n -> r.2 < n)) (fun h => ⟨Int.le_refl _, fun h0 => h0⟩) (fun h => ?_)
  have hn : 0 < n := by simp at h; omega
  have h1 := Kb c
  have h2 := Kb (Zu c).1
  have h3 := Kb (Zu (Zu c).1).1
  refine ZL (p := fun r : Zj × Int => 0 <= r.2 /\ (0 < n -> r.2 < n)) ⟨Int.tmod_nonneg _ h1.1, fun _ => Int.tmod_lt_of_pos _ hn⟩ ⟨Int.tmod_nonneg _ ?_, fun _ => Int.tmod_lt_of_pos _ hn⟩
  simp only [XR]
  omega
theorem VB (c : Zj) (n : Int) : (ZB c n).2 <= 16777215 := by
  unfold ZB
  have h1 := Kb c
  have h2 := Kb (Zu c).1
  have h3 := Kb (Zu (Zu c).1).1
  refine ZL (p := fun r : Zj × Int => r.2 <= 16777215) (show (0 : Int) <= 16777215 by decide) (Zd (p := fun r : Zj × Int => r.2 <= 16777215) (fun h => ?_) (fun h => ?_))
  · have : (Int.tmod (Zu c).2 n).natAbs <= (Zu c).2.natAbs := by rw [Int.natAbs_tmod]; exact Nat.mod_le _ _
    show Int.tmod _ _ <= _
    have h5 := Int.tmod_nonneg n h1.1
    omega
  · show Int.tmod _ _ <= _
    have hw : 0 <= W ((W ((W ((Zu c).2 * 65536)) + (W ((Zu (Zu c).1).2 * 256)))) + (Zu (Zu (Zu c).1).1).2) /\ W ((W ((W ((Zu c).2 * 65536)) + (W ((Zu (Zu c).1).2 * 256)))) + (Zu (Zu (Zu c).1).1).2) <= 16777215 := by
      simp only [XR]; omega
    have h4 : (Int.tmod (W ((W ((W ((Zu c).2 * 65536)) + (W ((Zu (Zu c).1).2 * 256)))) + (Zu (Zu (Zu c).1).1).2)) n).natAbs <= (W ((W ((W ((Zu c).2 * 65536)) + (W ((Zu (Zu c).1).2 * 256)))) + (Zu (Zu (Zu c).1).1).2)).natAbs := by rw [Int.natAbs_tmod]; exact Nat.mod_le _ _
    have h5 := Int.tmod_nonneg n hw.1
    omega
theorem WZ (c : Zj) : (JS c).2.size <= 11 := by
  unfold JS kv
  exact F2 (by decide) _
theorem QY (a0 : ZE) : (ZY a0).length <= a0.Frame.ZG.length := by
  have e := Ho (F := QJ a0) (fun _ _ => rfl) (fun _ _ _ => rfl) (a0.Frame.ZG.length + 1) [] 0
  have : (ZY a0).length <= 0 + (a0.Frame.ZG.length - 0) := e
  omega
theorem qC (a0 : Yg) (a1 : Int) (h : J9 a0 a1 = true) : a0.ZF.length <= 8 := by
  unfold J9 at h
  have hk : ∀ n v r, Q4 a0 n v = .inl r -> r = false := by
    intro n
    induction n with
    | zero => intro v r h; cases h
    | succ n ih =>
      intro v r h
      rw [Q4] at h
      revert h
      exact ZL (p := fun w => w = Sum.inl r -> r = false) (ZL (p := fun w => w = Sum.inl r -> r = false) (fun h => by cases h; rfl) (fun h => ih _ _ h)) (fun h => by cases h)
  cases hh : Q4 a0 (a0.ZF.length + 1) 0 with
  | inl r => rw [hh] at h; have := hk _ _ _ hh; subst this; cases h
  | inr u =>
    rw [hh] at h
    simp only [ZO, Bool.and_eq_true, decide_eq_true_eq] at h
    omega
theorem zH {n : Nat} {a0 : ZD} {a2 : List Int} (h : Sm n a0) : ∀ (m v : Nat) (l : List ZS), (∀ x ∈ l, Sm n x) -> l.length <= v -> v <= a2.length ->
    (∀ r, XX a0 a2 m v l = .inl r -> r = (Yg.mk 0 0 [] 0, false)) /\ ∀ z, XX a0 a2 m v l = .inr z -> z.length <= a2.length /\ ∀ x ∈ z, Sm n x
  | 0, v, l, _, _, _ => ⟨fun r h => (by cases h), fun z h => (by cases h; exact ⟨Nat.zero_le _, fun x hx => (by cases hx)⟩)⟩
  | m + 1, v, l, hs, hl, hv => by
    rw [XX]
    let p := fun w : Sum (Yg × Bool) (List ZS) => (∀ r, w = .inl r -> r = (Yg.mk 0 0 [] 0, false)) /\ ∀ z, w = .inr z -> z.length <= a2.length /\ ∀ x ∈ z, Sm n x
    refine Zd (p := p) (fun hc => ?_) (fun _ => ⟨fun r h => (by cases h), fun z h => (by cases h; exact ⟨by omega, hs⟩)⟩)
    have hc : v < a2.length := by simpa using hc
    refine ZL (p := p) ⟨fun r h => (by cases h; rfl), fun z h => (by cases h)⟩ ?_
    refine zH h m (v + 1) _ (fun x hx => ?_) (by simp; omega) hc
    rcases List.mem_append.1 hx with hx | hx
    · exact hs x hx
    · have e := List.mem_singleton.1 hx
      subst e
      exact Yi (ZD.Yc h)
theorem yZ {n : Nat} {a0 : ZD} {a1 a3 : Int} {a2 : List Int} (h : Sm n a0) (h2 : Sm n a2) : Sm n (YV a0 a1 a2 a3).1 := by
  unfold YV
  obtain ⟨k1, k2⟩ := zH (a2 := a2) h (a2.length + 1) 0 [] (fun x hx => (by cases hx)) (Nat.zero_le _) (Nat.zero_le _)
  have h0 : Sm n (Yg.mk 0 0 [] 0) := by simp [Xg]
  cases hh : XX a0 a2 (a2.length + 1) 0 [] with
  | inl r => rw [k1 r hh]; exact h0
  | inr z =>
    obtain ⟨q1, q2⟩ := k2 z hh
    have hz : Sm n z := ⟨by have := XM h2; omega, q2⟩
    dsimp only
    refine ZL (p := fun w : Yg × Bool => Sm n w.1) h0 ?_
    simp [hz]
theorem WY {n : Nat} {a0 : ZD} {a1 : Int} (hb : n <= 9223372036854775807) (h : Sm n a0) : Sm n (XT a0 a1).1 := by
  unfold XT
  by_cases hk : ZM a0 a1 < 0
  · rw [decide_eq_true hk]; exact h
  · rw [decide_eq_false hk]
    have hi := ZD.Yc h
    have hf := QF a0 a1
    have hl := XM hi
    refine ⟨?_, fun y hy => ?_⟩
    · have hm : (a0.ZF.take (ZM a0 a1).toNat ++ (a0.ZF.drop (W ((ZM a0 a1) + 1)).toNat)).length <= n := by
        have w : W ((ZM a0 a1) + 1) = (ZM a0 a1) + 1 := XV (by omega) (by omega)
        rw [w]; simp; omega
      exact hm
    · have iP : y ∈ a0.ZF.take (ZM a0 a1).toNat \/ y ∈ a0.ZF.drop (W ((ZM a0 a1) + 1)).toNat := List.mem_append.1 hy
      rcases iP with hy | hy
      · exact hi.2 y (List.mem_of_mem_take hy)
      · exact hi.2 y (List.mem_of_mem_drop hy)
theorem Rh {n : Nat} {a0 : ZE} {a1 : Int} (h : Sm n a0) : Sm n (QS a0 a1).1 := by
  refine ZL (p := fun w : ZE × Bool => Sm n w.1) h ?_
  exact ⟨h.1, h.2⟩
theorem TX {n : Nat} {a0 : ZE} {a1 : Int} (h : Sm n a0) : Sm n (XE a0 a1).1 := by
  refine ZL (p := fun w : ZE × Bool => Sm n w.1) h ?_
  exact ⟨h.1, h.2.1, kC h.2.2.1 trivial, h.2.2.2⟩
theorem Re {n : Nat} {a0 : ZE} {a1 a2 : Int} {a3 : ZP} {a4 a5 : Int} (h : Sm n a0) (hd : Sm n a3) (hn : 9 <= n) : Sm (n + 1) (Xu a0 a1 a2 a3 a4 a5).1 :=
  ZL (p := fun w : ZE × Bool => Sm (n + 1) w.1) (ZW (Nat.le_succ n) h) (QI h hd hn)
theorem V5 (a0 : ZE) (a1 a2 : Int) (a3 : ZP) (a4 a5 : Int) : (YF a0 a1 a2 a3 a4 a5).1.YE = a0.YE := by
  have key : ∀ m v r, Y3 a0 a1 a2 a3 a4 a5 m v = .inl r -> r.1.YE = a0.YE := by
    intro m
    induction m with
    | zero => intro v r h; cases h
    | succ m ih =>
      intro v r h
      unfold Y3 at h
      revert h
      let p := fun w : Sum (ZE × Bool) Unit => w = Sum.inl r -> r.1.YE = a0.YE
      exact ZL (p := p) (ZL (p := p) (fun h => ih _ _ h) (ZL (p := p) (fun h => by cases h; rfl) (fun h => by cases h; rfl))) (fun h => by cases h)
  unfold YF
  refine ZL (p := fun w : ZE × Bool => w.1.YE = a0.YE) rfl ?_
  cases he : Y3 a0 a1 a2 a3 a4 a5 (a0.Zb.length + 1) 0 with
  | inl r => exact key _ _ r he
  | inr _ => rfl
theorem RJ {n : Nat} {a0 : ZE} {a1 a2 : Int} {a3 : ZP} (h : Sm n a0) (hd : Sm n a3) (hn : 9 <= n) : Sm (n + 1) (X3 a0 a1 a2 a3).1 := by
  unfold X3
  have hs : Sm (n + 1) (YF a0 a1 a2 a3 0 10000).1 := QI h hd hn
  refine ZL (p := fun w : ZE × Bool => Sm (n + 1) w.1) (ZW (Nat.le_succ n) h) (ZL (p := fun w : ZE × Bool => Sm (n + 1) w.1) ?_ hs)
  refine ⟨hs.1, hs.2.1, hs.2.2.1, hs.2.2.2.1, hs.2.2.2.2.1, hs.2.2.2.2.2.1, ⟨?_, fun _ _ => trivial⟩⟩
  show (_ ++ [a0.Next]).length <= n + 1
  rw [V5]
  have := XM (ZE.UU h)
  simp; omega
theorem Rg {n : Nat} {a0 : Zf} {a1 : Zl} (h : Sm n a0) (hp : Sm (n + 1) a1) : Sm (n + 1) (X8 a0 a1).1 := by
  have h1 : Sm (n + 1) a0 := ZW (Nat.le_succ n) h
  refine ZL (p := fun w : Zf × Bool => Sm (n + 1) w.1) h1 ?_
  refine ⟨⟨?_, fun x hx => ?_⟩, h1.2⟩
  · have := h.1.1; simp; omega
  · rcases List.mem_append.1 hx with hx | hx
    · exact h1.1.2 x hx
    · have e := List.mem_singleton.1 hx; subst e; exact hp
theorem jl {n : Nat} {a0 : Zf} {a1 : Za} (h : Sm n a0) (hp : Sm (n + 1) a1) : Sm (n + 1) (YG a0 a1).1 := by
  have h1 : Sm (n + 1) a0 := ZW (Nat.le_succ n) h
  refine ZL (p := fun w : Zf × Bool => Sm (n + 1) w.1) h1 ?_
  refine ⟨h1.1, ⟨?_, fun x hx => ?_⟩⟩
  · have := h.2.1; simp; omega
  · rcases List.mem_append.1 hx with hx | hx
    · exact h1.2.2 x hx
    · have e := List.mem_singleton.1 hx; subst e; exact hp
theorem SA {n : Nat} {a0 : ZD} {a1 : Int} {a2 : Zl} (h : Sm n a0) (hp : Sm (n + 1) a2) : Sm (n + 1) (Xq a0 a1 a2).1 := by
  have h1 : Sm (n + 1) a0 := ZW (Nat.le_succ n) h
  refine ZL (p := fun w : ZD × Bool => Sm (n + 1) w.1) h1 ?_
  refine kC (ZD.Yc h1) ?_
  have hi : Sm n (nth a0.ZF (ZM a0 a1).toNat) := Yi (ZD.Yc h)
  exact ⟨(ZW (Nat.le_succ n) hi).1, Rg hi.2 hp⟩
theorem W8 {n : Nat} {a0 : ZE} {i : Nat} {x : ZD} (h : Sm n a0) (hx : Sm n x) : Sm n (ZE.mk a0.Frame a0.Zb a0.YC (a0.ZA.set i x) a0.YP a0.YN a0.Next a0.YE) :=
  ⟨h.1, h.2.1, h.2.2.1, kC h.2.2.2.1 hx, h.2.2.2.2⟩
theorem qO {n : Nat} {a0 : ZE} {a1 a2 : Int} {a3 : Yb} (h : Sm n a0) (hn : 5 <= n) : Sm (n + 1) (XU a0 a1 a2 a3).1 := by
  have h1 : Sm (n + 1) a0 := ZW (Nat.le_succ n) h
  refine ZL (p := fun w : ZE × Bool => Sm (n + 1) w.1) h1 ?_
  exact W8 h1 (SA (Yi (ZE.Yu h)) (qm (by omega)))
theorem Tn {n : Nat} {a0 : ZE} {a1 : Int} (h : Sm n a0) (hn : 5 <= n) : Sm (n + 1) (Xf a0 a1).1 := by
  have h1 : Sm (n + 1) a0 := ZW (Nat.le_succ n) h
  let p := fun w : ZE × Bool => Sm (n + 1) w.1
  exact ZL (p := p) h1 (ZL (p := p) h1 (ZL (p := p) (qO h hn) (qO h hn)))
theorem PX {n : Nat} {a0 : ZE} {a1 a2 : Int} (h : Sm n a0) (hn : 5 <= n) : Sm (n + 1) (JK a0 a1 a2).1 := by
  have h1 : Sm (n + 1) a0 := ZW (Nat.le_succ n) h
  exact ZL (p := fun w : ZE × Bool => Sm (n + 1) w.1) h1 (qO h hn)
theorem TQ {n : Nat} {a0 : ZD} {a1 : Int} (h : Sm n a0) : Sm n (Q7 a0 a1).1 := by
  have hi := ZD.Yc h
  have key : ∀ m v l, (∀ x ∈ l, Sm n x) -> l.length <= v -> v <= a0.ZF.length -> (Xc a0 a1 m v l).length <= a0.ZF.length /\ ∀ x ∈ Xc a0 a1 m v l, Sm n x := by
    intro m
    induction m with
    | zero => intro v l _ _ _; exact ⟨Nat.zero_le _, fun x hx => (by cases hx)⟩
    | succ m ih =>
      intro v l hs hl hv
      rw [Xc]
      let p := fun w : List ZS => w.length <= a0.ZF.length /\ ∀ x ∈ w, Sm n x
      refine Zd (p := p) (fun hc => ?_) (fun _ => ⟨by omega, hs⟩)
      have hc : v < a0.ZF.length := by simpa using hc
      refine ZL (p := p) (ih _ _ (fun x hx => ?_) (by simp; omega) hc) (ih _ _ hs (by omega) hc)
      rcases List.mem_append.1 hx with hx | hx
      · exact hs x hx
      · have e := List.mem_singleton.1 hx
        subst e
        exact Yi hi
  obtain ⟨k1, k2⟩ := key (a0.ZF.length + 1) 0 [] (fun x hx => (by cases hx)) (Nat.zero_le _) (Nat.zero_le _)
  have := XM hi
  exact ⟨by show (Xc a0 a1 (a0.ZF.length + 1) 0 []).length <= n; omega, k2⟩
theorem Th {n : Nat} {a0 : ZE} {a1 : Int} (h : Sm n a0) : Sm n (Xi a0 a1).1 :=
  ZL (p := fun w : ZE × Bool => Sm n w.1) h (W8 h (TQ (Yi (ZE.Yu h))))
theorem UF {n : Nat} {a0 : ZD} {a1 : Int} {a2 : List ZQ} (h : Sm n a0) (hp : Sm n a2) (hn : 17 <= n) : Sm (n + 1) (YI a0 a1 a2).1 := by
  have h1 : Sm (n + 1) a0 := ZW (Nat.le_succ n) h
  have hi := ZD.Yc h
  have key : ∀ m v l, l.length = a0.ZF.length -> (∀ x ∈ l, Sm (n + 1) x) -> (∀ r, Y9 a0 a1 a2 m v l = .inl r -> r = (a0, false)) /\ ∀ z, Y9 a0 a1 a2 m v l = .inr z -> z.length <= a0.ZF.length /\ ∀ x ∈ z, Sm (n + 1) x := by
    intro m
    induction m with
    | zero => intro v l _ _; exact ⟨fun r h => (by cases h), fun z h => (by cases h; exact ⟨Nat.zero_le _, fun x hx => (by cases hx)⟩)⟩
    | succ m ih =>
      intro v l hl hs
      rw [Y9]
      let p := fun w : Sum (ZD × Bool) (List ZS) => (∀ r, w = .inl r -> r = (a0, false)) /\ ∀ z, w = .inr z -> z.length <= a0.ZF.length /\ ∀ x ∈ z, Sm (n + 1) x
      refine ZL (p := p) (ZL (p := p) ⟨fun r h => (by cases h; rfl), fun z h => (by cases h)⟩ (ih _ _ (by rw [List.length_set]; exact hl) (fun x hx => ?_))) ⟨fun r h => (by cases h), fun z h => (by cases h; exact ⟨by omega, hs⟩)⟩
      rcases List.mem_or_eq_of_mem_set hx with hx | rfl
      · exact hs x hx
      · have fZ : Sm (n + 1) (nth l v) := by
          by_cases hv : v < l.length
          · have : nth l v = l[v] := by simp [nth, List.getD_eq_getElem?_getD, List.getElem?_eq_getElem hv]
            rw [this]; exact hs _ (List.getElem_mem hv)
          · have : nth l v = default := by simp [nth, List.getD_eq_getElem?_getD, List.getElem?_eq_none (Nat.le_of_not_lt hv)]
            rw [this]; exact Sz.zero _
        have hv : Sm n (nth a0.ZF v) := Yi hi
        refine ⟨fZ.1, jl hv.2 ?_⟩
        exact ⟨WL (by omega), ZW (Nat.le_succ n) hp⟩
  unfold YI
  refine ZL (p := fun w : ZD × Bool => Sm (n + 1) w.1) h1 ?_
  obtain ⟨k1, k2⟩ := key (a0.ZF.length + 1) 0 a0.ZF rfl (fun x hx => ZW (Nat.le_succ n) (hi.2 x hx))
  cases hh : Y9 a0 a1 a2 (a0.ZF.length + 1) 0 a0.ZF with
  | inl r => rw [k1 r hh]; exact h1
  | inr z =>
    obtain ⟨q1, q2⟩ := k2 z hh
    have := XM hi
    exact ZL (p := fun w : ZD × Bool => Sm (n + 1) w.1) h1 ⟨by show z.length <= n + 1; omega, q2⟩
theorem z4 {n : Nat} {a0 : ZE} {a1 : Int} {a2 : List Int} {a3 : Int} : ∀ (m : Nat) (l : List ZQ) (v : Nat) (q : List Int), l.length <= v -> v <= a2.length ->
    (∀ r, Ys a0 a1 a2 a3 m l v q = .inl r -> r = (a0, false)) /\ ∀ z, Ys a0 a1 a2 a3 m l v q = .inr z -> z.1.length <= a2.length /\ z.2.length <= q.length
  | 0, _, _, _, _, _ => ⟨fun r h => (by cases h), fun z h => (by cases h; exact ⟨Nat.zero_le _, Nat.zero_le _⟩)⟩
  | m + 1, l, v, q, hl, hv => by
    rw [Ys]
    let p := fun w : Sum (ZE × Bool) (List ZQ × List Int) => (∀ r, w = .inl r -> r = (a0, false)) /\ ∀ z, w = .inr z -> z.1.length <= a2.length /\ z.2.length <= q.length
    have bad : p (.inl (a0, false)) := ⟨fun r h => (by cases h; rfl), fun z h => (by cases h)⟩
    refine Zd (p := p) (fun hc => ?_) (fun _ => ⟨fun r h => (by cases h), fun z h => (by cases h; exact ⟨Nat.le_trans hl hv, Nat.le_refl _⟩)⟩)
    have hc : v < a2.length := by simpa using hc
    have step : ∀ x i y, p (Ys a0 a1 a2 a3 m (l ++ [x]) (v + 1) (q.set i y)) := fun x i y => by
      obtain ⟨k1, k2⟩ := z4 (n := n) (a0 := a0) (a1 := a1) (a2 := a2) (a3 := a3) m (l ++ [x]) (v + 1) (q.set i y) (by simp; omega) hc
      exact ⟨k1, fun z hz => by have := k2 z hz; rw [List.length_set] at this; exact this⟩
    exact ZL (p := p) bad (ZL (p := p) bad (ZL (p := p) (ZL (p := p) bad (step _ _ _)) (ZL (p := p) bad (step _ _ _))))
theorem Se {n : Nat} {a0 : ZE} {a1 : Int} {a2 : List Int} {a3 : Int} (h : Sm n a0) (h2 : Sm n a2) (hn : 17 <= n) : Sm (n + 1) (XG a0 a1 a2 a3).1 := by
  have h1 : Sm (n + 1) a0 := ZW (Nat.le_succ n) h
  unfold XG
  refine ZL (p := fun w : ZE × Bool => Sm (n + 1) w.1) h1 ?_
  obtain ⟨k1, k2⟩ := z4 (n := n) (a0 := a0) (a1 := a1) (a2 := a2) (a3 := a3) (a2.length + 1) [] 0 a0.YP (Nat.zero_le _) (Nat.zero_le _)
  cases hh : Ys a0 a1 a2 a3 (a2.length + 1) [] 0 a0.YP with
  | inl r => rw [k1 r hh]; exact h1
  | inr z =>
    obtain ⟨q1, q2⟩ := k2 z hh
    obtain ⟨z0, z1⟩ := z
    have e2 := XM h2
    have e3 := XM (ZE.Le h)
    have hs : Sm n z0 := ⟨by simp only at q1; omega, fun _ _ => trivial⟩
    refine ZL (p := fun w : ZE × Bool => Sm (n + 1) w.1) h1 ?_
    exact ⟨h1.1, h1.2.1, h1.2.2.1, kC h1.2.2.2.1 (UF (Yi (ZE.Yu h)) hs hn), ⟨by simp only at q2 ⊢; omega, fun _ _ => trivial⟩, h1.2.2.2.2.2⟩
theorem VS {n : Nat} {a0 : ZD} {a1 : Yg} {a2 : Int} (h : Sm n a0) (hp : Sm n a1) : Sm (n + a1.ZF.length) (Yd a0 a1 a2).1 := by
  have h1 : Sm (n + a1.ZF.length) a0 := ZW (Nat.le_add_right _ _) h
  have key : ∀ m v d l, Sm (n + v) (ZD.mk d l) -> v <= a1.ZF.length -> (∀ r, XP a0 a1 m v d l = .inl r -> r = (a0, false)) /\ ∀ z, XP a0 a1 m v d l = .inr z -> Sm (n + a1.ZF.length) (ZD.mk z.1 z.2) := by
    intro m
    induction m with
    | zero => intro v d l _ _; exact ⟨fun r h => (by cases h), fun z h => (by cases h; exact zO)⟩
    | succ m ih =>
      intro v d l hs hv
      rw [XP]
      let p := fun w : Sum (ZD × Bool) (Int × List ZS) => (∀ r, w = .inl r -> r = (a0, false)) /\ ∀ z, w = .inr z -> Sm (n + a1.ZF.length) (ZD.mk z.1 z.2)
      refine Zd (p := p) (fun hc => ?_) (fun _ => ⟨fun r h => (by cases h), fun z h => (by cases h; exact ZW (Nat.add_le_add_left hv n) hs)⟩)
      have hc : v < a1.ZF.length := by simpa using hc
      exact ZL (p := p) ⟨fun r h => (by cases h; rfl), fun z h => (by cases h)⟩ (ih _ _ _ (qz hs (ZW (Nat.le_succ_of_le (Nat.le_add_right n v)) (Yi (Yg.Yc hp)))) hc)
  unfold Yd
  refine ZL (p := fun w : ZD × Bool => Sm (n + a1.ZF.length) w.1) h1 ?_
  obtain ⟨k1, k2⟩ := key (a1.ZF.length + 1) 0 a0.Id a0.ZF h (Nat.zero_le _)
  cases hh : XP a0 a1 (a1.ZF.length + 1) 0 a0.Id a0.ZF with
  | inl r => rw [k1 r hh]; exact h1
  | inr z => exact k2 z hh
theorem UB {n : Nat} {a0 : ZD} {a1 : Int} {a2 : List Int} {a3 : Int} (h : Sm n a0) : (YV a0 a1 a2 a3).1.ZF.length <= a2.length := by
  unfold YV
  obtain ⟨k1, k2⟩ := zH (a2 := a2) h (a2.length + 1) 0 [] (fun x hx => (by cases hx)) (Nat.zero_le _) (Nat.zero_le _)
  cases hh : XX a0 a2 (a2.length + 1) 0 [] with
  | inl r => rw [k1 r hh]; exact Nat.zero_le _
  | inr z => exact ZL (p := fun w : Yg × Bool => w.1.ZF.length <= a2.length) (Nat.zero_le _) (k2 z hh).1
theorem SQ {n : Nat} {a0 a1 : ZD} {a2 : List Int} {a3 : Int} (hb : n <= 9223372036854775807) (h0 : Sm n a0) (h1 : Sm n a1) (h2 : Sm n a2) : Sm n (YO a0 a1 a2 a3).1 /\ Sm (n + a2.length) (YO a0 a1 a2 a3).2.1 := by
  have fa : Sm (n + a2.length) (Yd a1 (YV a0 a1.Id a2 a3).1 a3).1 :=
    ZW (Nat.add_le_add_left (UB h0) n) (VS h1 (yZ h0 h2))
  have bad : Sm n a0 /\ Sm (n + a2.length) a1 := ⟨h0, ZW (Nat.le_add_right _ _) h1⟩
  have key : ∀ m v d l, Sm n (ZD.mk d l) -> (∀ r, QH a0 a1 a2 m v d l = .inl r -> r = (a0, a1, false)) /\ ∀ z, QH a0 a1 a2 m v d l = .inr z -> Sm n (ZD.mk z.1 z.2) := by
    intro m
    induction m with
    | zero => intro v d l _; exact ⟨fun r h => (by cases h), fun z h => (by cases h; exact zO)⟩
    | succ m ih =>
      intro v d l hs
      rw [QH]
      let p := fun w : Sum (ZD × ZD × Bool) (Int × List ZS) => (∀ r, w = .inl r -> r = (a0, a1, false)) /\ ∀ z, w = .inr z -> Sm n (ZD.mk z.1 z.2)
      exact ZL (p := p) (ZL (p := p) ⟨fun r h => (by cases h; rfl), fun z h => (by cases h)⟩ (ih _ _ _ (WY hb hs))) ⟨fun r h => (by cases h), fun z h => (by cases h; exact hs)⟩
  unfold YO
  let p := fun w : ZD × ZD × Bool => Sm n w.1 /\ Sm (n + a2.length) w.2.1
  refine ZL (p := p) bad ?_
  obtain ⟨k1, k2⟩ := key (a2.length + 1) 0 a0.Id a0.ZF h0
  cases hh : QH a0 a1 a2 (a2.length + 1) 0 a0.Id a0.ZF with
  | inl r => rw [k1 r hh]; exact bad
  | inr z => exact ⟨k2 z hh, fa⟩
theorem PF {n : Nat} {a0 : ZE} {a1 a2 a3 : Int} (hb : n <= 9223372036854775807) (h : Sm n a0) (hn : 1 <= n) : Sm (n + 1) (QV a0 a1 a2 a3).1 := by
  have h1 : Sm (n + 1) a0 := ZW (Nat.le_succ n) h
  have hm := SQ (a0 := nth a0.ZA a1.toNat) (a1 := nth a0.ZA a2.toNat) (a2 := [a3]) (a3 := ZJ a0.Frame.Methods a0.Frame.Now) hb (Yi (ZE.Yu h)) (Yi (ZE.Yu h)) ⟨hn, fun _ _ => trivial⟩
  let p := fun w : ZE × Bool => Sm (n + 1) w.1
  exact ZL (p := p) h1 (ZL (p := p) ⟨h1.1, h1.2.1, h1.2.2.1, kC (kC h1.2.2.2.1 (ZW (Nat.le_succ n) hm.1)) hm.2, h1.2.2.2.2⟩ h1)
theorem Kq {a0 : ZE} {a1 a2 : Int} : ∀ (m v : Nat) (l : List ZQ), (∀ r, Yo a0 a1 a2 m v l = .inl r -> r = (a0, false)) /\ ∀ z, Yo a0 a1 a2 m v l = .inr z -> z.length <= l.length + ((ZY a0).length - v)
  | 0, v, l => ⟨fun r h => (by cases h), fun z h => (by cases h; exact Nat.zero_le _)⟩
  | m + 1, v, l => by
    rw [Yo]
    let p := fun w : Sum (ZE × Bool) (List ZQ) => (∀ r, w = .inl r -> r = (a0, false)) /\ ∀ z, w = .inr z -> z.length <= l.length + ((ZY a0).length - v)
    refine Zd (p := p) (fun hc => ?_) (fun _ => ⟨fun r h => (by cases h), fun z h => (by cases h; exact Nat.le_add_right _ _)⟩)
    have hc : v < (ZY a0).length := by simpa using hc
    refine ZL (p := p) ⟨fun r h => (by cases h; rfl), fun z h => (by cases h)⟩ ?_
    obtain ⟨k1, k2⟩ := Kq (a0 := a0) (a1 := a1) (a2 := a2) m (v + 1) (l ++ [(YW a0.Frame.Z9 a0.Frame.ZG (ZQ.mk (nth (ZY a0) v) 0 a2 (QR (nth (nth a0.ZA (ZK a0 a1).1.toNat).ZF (ZK a0 a1).2.toNat) (ZJ a0.Frame.Methods a0.Frame.Now)) 0)).1])
    exact ⟨k1, fun z hz => by have := k2 z hz; rw [List.length_append, List.length_singleton] at this; omega⟩
theorem VP {n : Nat} {a0 : ZE} {a1 a2 : Int} (h : Sm n a0) : Sm (n + 1) (Y8 a0 a1 a2).1 := by
  have h1 : Sm (n + 1) a0 := ZW (Nat.le_succ n) h
  unfold Y8
  refine ZL (p := fun w : ZE × Bool => Sm (n + 1) w.1) h1 ?_
  obtain ⟨k1, k2⟩ := Kq (a0 := a0) (a1 := a1) (a2 := a2) ((ZY a0).length + 1) 0 []
  cases hh : Yo a0 a1 a2 ((ZY a0).length + 1) 0 [] with
  | inl r => rw [k1 r hh]; exact h1
  | inr z =>
    have hz := k2 z hh
    have hf := QY a0
    have ha := XM (Z2.XZ (ZE.Xx h))
    rw [List.length_nil] at hz
    have hA : Sm n (nth a0.ZA (ZK a0 a1).1.toNat) := Yi (ZE.Yu h)
    have hI : Sm n (nth (nth a0.ZA (ZK a0 a1).1.toNat).ZF (ZK a0 a1).2.toNat) := Yi (ZD.Yc hA)
    refine W8 h1 (kC (ZD.Yc (ZW (Nat.le_succ n) hA)) ⟨(ZW (Nat.le_succ n) hI).1, jl hI.2 ?_⟩)
    exact ⟨zO, ⟨by show z.length <= n + 1; omega, fun _ _ => trivial⟩⟩
theorem jf {n : Nat} {a0 : ZE} {a1 : ZR} (hb : n <= 9223372036854775807) (h : Sm n a0) (he : Sm n a1) (hn : 17 <= n) : Sm (n + 1) (Z6 a0 a1).1 := by
  have h1 : Sm (n + 1) a0 := ZW (Nat.le_succ n) h
  have up : ∀ w : ZE, Sm n w -> Sm (n + 1) w := fun w hw => ZW (Nat.le_succ n) hw
  unfold Z6
  let p := fun w : ZE × Bool => Sm (n + 1) w.1
  exact ZL (p := p) (up _ (Rh h)) (ZL (p := p) (Re h he.1 (by omega)) (ZL (p := p) (Tn h (by omega)) (ZL (p := p) (up _ (TX h)) (ZL (p := p) (Se h he.2 hn) (ZL (p := p) (PF hb h (by omega)) (ZL (p := p) (up _ (Th h))
    (ZL (p := p) (RJ h he.1 (by omega)) (ZL (p := p) (VP h) (ZL (p := p) (PX h (by omega)) h1)))))))))
theorem Ql (c : Zj) : (ZV c).2.length = 10 := by simp [ZV]
theorem WE {n : Nat} (h : 4 <= n) : Sm n Qm := ⟨h, fun _ _ => trivial⟩
theorem Ol {n : Nat} (h : 4 <= n) : Sm n yw := ⟨h, fun _ _ => trivial⟩
theorem Og {n : Nat} (h : 3 <= n) : Sm n z5 := ⟨h, fun _ _ => trivial⟩
theorem yR (a0 : Int) (a1 : List ByteArray) (a2 : Int) : ∀ (m v : Nat) (l : List Int), (Ja a0 a1 a2 m v l).length <= l.length + m
  | 0, _, _ => Nat.zero_le _
  | m + 1, v, l => by
    rw [Ja]
    refine ZL (p := fun r : List Int => r.length <= l.length + (m + 1)) ?_ (by omega)
    have := yR a0 a1 a2 m (v + 1) (l ++ [yb 1 (zC a2 [a0, v])])
    simp only [List.length_append, List.length_singleton] at this
    omega
theorem V7 {n : Nat} {a0 : Int} {a1 : List ByteArray} {a2 : Int} (h : Sm n a1) (hn : a1.length + 1 <= n) : Sm n (Ji a0 a1 a2).1 := by
  unfold Ji
  have := yR a0 a1 a2 (a1.length + 1) 0 []
  refine ZL (p := fun r : ZP × Bool => Sm n r.1) ⟨Sz.zero n, Sz.zero n⟩ ⟨h, Nat.le_trans this (by simpa using hn), fun _ _ => trivial⟩
theorem WK : ∀ (m : Nat) (l : List ByteArray) (i : Int) (b : List UInt8) (j : Nat) (h : Int), (∀ x ∈ l, x.size <= 11) -> (zp m l i b j h).1.length <= l.length + m /\ ∀ x ∈ (zp m l i b j h).1, x.size <= 11
  | 0, _, _, _, _, _, _ => ⟨Nat.zero_le _, fun x hx => by cases hx⟩
  | m + 1, l, i, b, j, h, hl => by
    rw [zp]
    refine ZL (p := fun r : (List ByteArray) × (List UInt8) × Nat × Int => r.1.length <= l.length + (m + 1) /\ ∀ x ∈ r.1, x.size <= 11) ?_ ⟨by show l.length <= _; omega, hl⟩
    have := WK m (l ++ [(JS (Zj.mk b j h)).2]) (W (i - 1)) (JS (Zj.mk b j h)).1.b (JS (Zj.mk b j h)).1.i (JS (Zj.mk b j h)).1.h (fun x hx => by
      rcases List.mem_append.1 hx with hx | hx
      · exact hl x hx
      · rw [List.mem_singleton.1 hx]; exact WZ _)
    simp only [List.length_append, List.length_singleton] at this
    exact ⟨by omega, this.2⟩
theorem TC {n : Nat} {a0 : Zj} (h : 20 <= n) : Sm n (Yp a0).2 := by
  unfold Yp
  have := WK 5 [] (W (1 + (ZB a0 3).2)) (ZB a0 3).1.b (ZB a0 3).1.i (ZB a0 3).1.h (fun x hx => by cases hx)
  simp only [List.length_nil] at this
  exact V7 ⟨by omega, fun x hx => Nat.le_trans (this.2 x hx) (by omega)⟩ (by omega)
theorem Pa {n : Nat} {a0 : Int} (h : 20 <= n) : Sm n (Yl a0) := by
  have hw : ∀ (k : Int) (l : List Int), l.length <= 1 -> Sm n (ZE.mk (Z2.mk J1 Qm yw k 0) z5 ([(-1), (-1), (-1)] : List Int) ([(ZD.mk 0 ([] : List ZS)), (ZD.mk 1 ([] : List ZS))] : List ZD) ([0, 0, 0, 0] : List Int) l 1 ([] : List Int)) := fun k l hl => by
    have h1 := xn (n := n) (by omega)
    have h2 := WE (n := n) (by omega)
    have h3 := Ol (n := n) (by omega)
    have h4 := Og (n := n) (by omega)
    have h5 : Sm n ([(ZD.mk 0 ([] : List ZS)), (ZD.mk 1 ([] : List ZS))] : List ZD) := ⟨by simp; omega, fun y hy => by
      rcases List.mem_cons.1 hy with rfl | hy
      · exact Sz.zero (α := List ZS) _
      · rw [List.mem_singleton.1 hy]; exact Sz.zero (α := List ZS) _⟩
    have h6 : ∀ l : List Int, l.length <= 20 -> Sm n l := fun l hl => ⟨by omega, fun _ _ => trivial⟩
    simp only [ZE.xx, Z2.xx]
    simp only [h1, h2, h3, h4, h5, h6 _ (show ([(-1), (-1), (-1)] : List Int).length <= 20 by decide), h6 _ (show ([0, 0, 0, 0] : List Int).length <= 20 by decide), h6 l (by omega), h6 [] (by decide), and_self]
  unfold Yl
  exact ZL (p := fun r : ZE => Sm n r) (hw _ _ (by decide)) (hw _ _ (by decide))
theorem qX {n : Nat} {a0 : Zj} {a1 : Int} (h : 20 <= n) : Sm n (YL a0 a1).2 := by
  have hd : Sm n (ZP.mk 0 ([] : List ByteArray) ([] : List Int)) := ⟨zO, zO⟩
  have hl : ∀ l : List Int, l.length <= 20 -> Sm n l := fun l hl => ⟨by omega, fun _ _ => trivial⟩
  unfold YL
  let p := fun z : Zj × ZR => Sm n z.2
  refine ZL (p := p) (ZL (p := p) (ZL (p := p) ?_ ?_) (ZL (p := p) ?_ ?_)) (ZL (p := p) (ZL (p := p) ?_ ?_) (ZL (p := p) ?_ ?_))
  all_goals exact ⟨hd, hl _ (Nat.le_of_ble_eq_true rfl)⟩
theorem TU {n : Nat} {a0 : Zj} (h : 20 <= n) : Sm n (ZV a0).2 := by
  have hd : Sm n (ZP.mk 0 ([] : List ByteArray) ([] : List Int)) := ⟨zO, zO⟩
  have e0 : ∀ a b, Sm n (ZR.mk a b 0 0 0 (ZP.mk 0 ([] : List ByteArray) ([] : List Int)) ([] : List Int)) := fun a b => ⟨hd, zO⟩
  refine ⟨by rw [Ql]; omega, ?_⟩
  unfold ZV
  exact Vq (Vq (Vq (all_cons (e0 _ _) (all_cons ⟨TC h, zO⟩ (all_cons (e0 _ _) (all_cons (e0 _ _) all_nil)))) (all_cons (qX h) (all_cons (e0 _ _) all_nil))) (all_cons (qX h) (all_cons (e0 _ _) all_nil))) (all_cons (qX h) (all_cons (e0 _ _) all_nil))
theorem Rf {n : Nat} {a0 : Zj} (h : 20 <= n) : Sm n (Ye a0).2 := by
  have hd : Sm n (ZP.mk 0 ([] : List ByteArray) ([] : List Int)) := ⟨zO, zO⟩
  have hi : Sm n ([1, 2, 3, 4] : List Int) := ⟨Nat.le_trans (by decide) h, fun _ _ => trivial⟩
  have hx := fun c => TC (a0 := c) h
  have L : ∀ (c : Zj) (k a b e f : Int) (d : ZP) (ids : List Int), Sm n d -> Sm n ids -> Sm n ((c, ZR.mk k a b e f d ids) : Zj × ZR).2 := fun _ _ _ _ _ _ _ _ h1 h2 => ⟨h1, h2⟩
  unfold Ye
  generalize ZB a0 16 = q
  iterate 13 (refine ZL (p := fun z : Zj × ZR => Sm n z.2) ?_ ?_; (first | with_reducible exact L _ _ _ _ _ _ _ _ hd zO | with_reducible exact L _ _ _ _ _ _ _ _ (hx _) zO))
  exact L _ _ _ _ _ _ _ _ hd (Lt (Gz hi))
theorem xp {p : ZR -> Prop} (hp : ∀ c, p (Ye c).2) : ∀ (m : Nat) (l : List ZR) (k : Int) (b : List UInt8) (i : Nat) (h : Int), (∀ x ∈ l, p x) -> ∀ x ∈ (Qi m l k b i h).1, p x
  | 0, _, _, _, _, _, _ => all_nil
  | m + 1, l, k, b, i, h, hl => by
    rw [Qi]
    exact ZL (p := fun z : (List ZR) × (List UInt8) × Nat × Int => ∀ x ∈ z.1, p x) (xp hp m _ _ _ _ _ (Vq hl (all_cons (hp _) all_nil))) hl
theorem xo {p : ZR -> Prop} (hp : ∀ c, p (Ye c).2) : ∀ (m : Nat) (l : List ZR) (k : Int) (b : List UInt8) (i : Nat) (h : Int), (∀ x ∈ l, p x) -> ∀ x ∈ (Qj m l k b i h).1, p x
  | 0, _, _, _, _, _, _ => all_nil
  | m + 1, l, k, b, i, h, hl => by
    rw [Qj]
    exact ZL (p := fun z : (List ZR) × (List UInt8) × Nat × Int => ∀ x ∈ z.1, p x) (xo hp m _ _ _ _ _ (Vq hl (all_cons (hp _) all_nil))) hl
theorem xQ : ∀ (m : Nat) (l : List ZR) (k : Int) (b : List UInt8) (i : Nat) (h : Int), k <= 16777215 -> (Qi m l k b i h).1.length <= l.length + k.toNat
  | 0, _, _, _, _, _, _ => Nat.zero_le _
  | m + 1, l, k, b, i, h, hk => by
    rw [Qi]
    by_cases hc : k > 0
    · rw [decide_eq_true hc, Yf]
      have hw : W (k - 1) = k - 1 := by simp only [XR]; omega
      have := xQ m (l ++ [(Ye (Zj.mk b i h)).2]) (W (k - 1)) (Ye (Zj.mk b i h)).1.b (Ye (Zj.mk b i h)).1.i (Ye (Zj.mk b i h)).1.h (by omega)
      rw [List.length_append, List.length_singleton] at this
      omega
    · rw [decide_eq_false hc, YT]
      exact Nat.le_add_right _ _
theorem xY : ∀ (m : Nat) (l : List ZR) (k : Int) (b : List UInt8) (i : Nat) (h : Int), k <= 16777215 -> (Qj m l k b i h).1.length <= l.length + k.toNat
  | 0, _, _, _, _, _, _ => Nat.zero_le _
  | m + 1, l, k, b, i, h, hk => by
    rw [Qj]
    by_cases hc : k > 0
    · rw [decide_eq_true hc, Yf]
      have hw : W (k - 1) = k - 1 := by simp only [XR]; omega
      have := xY m (l ++ [(Ye (Zj.mk b i h)).2]) (W (k - 1)) (Ye (Zj.mk b i h)).1.b (Ye (Zj.mk b i h)).1.i (Ye (Zj.mk b i h)).1.h (by omega)
      rw [List.length_append, List.length_singleton] at this
      omega
    · rw [decide_eq_false hc, YT]
      exact Nat.le_add_right _ _
theorem SU {n : Nat} {a0 : Zj} {a1 : Int} (h : 40 <= n) (h0 : 0 < a1) (h1 : a1 <= 20) : Sm n (K6 a0 a1).2 := by
  have hp := fun c => Rf (n := n) (a0 := c) (by omega)
  have hc := TU (n := n) (a0 := (Zh a0 2).1) (by omega)
  have hl := Ql (Zh a0 2).1
  unfold K6
  generalize Zh a0 2 = q at hc hl ⊢
  generalize ZV q.1 = r at hc hl ⊢
  generalize ZB r.1 (W ((r.2.length : Int) + 1)) = t
  have z1 := XI t.1 a1
  have z2 := XI q.1 a1
  generalize ZB t.1 a1 = u at z1 ⊢
  generalize ZB q.1 a1 = v at z2 ⊢
  have k1 := xp hp (u.2.toNat + 2) (r.2.take t.2.toNat) u.2 u.1.b u.1.i u.1.h (Lt hc).2
  have k2 := xQ (u.2.toNat + 2) (r.2.take t.2.toNat) u.2 u.1.b u.1.i u.1.h (by omega)
  have k3 := xo hp (v.2.toNat + 2) [] v.2 v.1.b v.1.i v.1.h all_nil
  have k4 := xY (v.2.toNat + 2) [] v.2 v.1.b v.1.i v.1.h (by omega)
  rw [List.length_take, hl] at k2
  rw [List.length_nil] at k4
  generalize Qi (u.2.toNat + 2) (r.2.take t.2.toNat) u.2 u.1.b u.1.i u.1.h = y at k1 k2 ⊢
  generalize Qj (v.2.toNat + 2) [] v.2 v.1.b v.1.i v.1.h = z at k3 k4 ⊢
  obtain ⟨y1, y2, y3, y4⟩ := y
  obtain ⟨w1, w2, w3, w4⟩ := z
  dsimp only at k1 k2 k3 k4 ⊢
  have k5 : y1.length <= n := by omega
  have k6 : w1.length <= n := by omega
  exact ZL (p := fun z : Zj × (List ZR) => Sm n z.2) ⟨k5, k1⟩ ⟨k6, k3⟩
theorem Qn {n : Nat} {a0 : List UInt8} (h : 40 <= n) : Sm n (ZC a0).1 /\ Sm n (ZC a0).2 := by
  have k := Pa (n := n) (a0 := (ZB (yp a0) 2).2) (by omega)
  have k2 := SU (n := n) (a0 := (ZB (yp a0) 2).1) (a1 := 12) h (by decide) (by decide)
  unfold ZC
  refine ⟨?_, ?_⟩
  · with_reducible exact k
  · with_reducible exact k2
theorem xz (a1 : List ZR) (N : Nat) (hb : N + a1.length <= 9223372036854775807) (he : ∀ i, Sm N (nth a1 i)) (fY : 17 <= N) : ∀ (m v : Nat) (k : List Yq) (au : List ZZ) (me : List YJ) (li nw : Int) (c : List Ym) (en : List Int) (ar : List ZD) (sq ly : List Int) (nx : Int) (fo : List Int), a1.length < m + v -> v <= a1.length -> Sm (N + v) (ZE.mk (Z2.mk k au me li nw) c en ar sq ly nx fo) ->
    Sm (N + a1.length) (match QD a1 m v k au me li nw c en ar sq ly nx fo with | (wQ, z1_1, z1_2, z1_3, z1_4, z1_5, z1_6, z1_7, z1_8, z1_9, z1_10, z1_11) => ZE.mk (Z2.mk wQ z1_1 z1_2 z1_3 z1_4) z1_5 z1_6 z1_7 z1_8 z1_9 z1_10 z1_11)
  | 0, v, _, _, _, _, _, _, _, _, _, _, _, _, h, hv, _ => by omega
  | m + 1, v, k, au, me, li, nw, c, en, ar, sq, ly, nx, fo, h, hv, hs => by
    rw [QD]
    by_cases wO : v < a1.length
    · rw [decide_eq_true (show (v : Int) < (a1.length : Int) by omega), Yf]
      have ha := jf (by omega) hs (ZW (Nat.le_add_right N v) (he v)) (by omega)
      exact xz a1 N hb he fY m (v + 1) _ _ _ _ _ _ _ _ _ _ _ _ (by omega) wO ha
    · rw [decide_eq_false (show ¬ (v : Int) < (a1.length : Int) by omega), YT]
      exact ZW (Nat.add_le_add_left hv N) hs
theorem jd {n : Nat} {a0 : ZE} {a1 : List ZR} (h : Sm n a0) (he : Sm n a1) (hn : 17 <= n) (hb : n <= 1048576) : Sm (n + a1.length) (ZU a0 a1) :=
  xz a1 n (by have := XM he; omega) (fun _ => Yi he) hn (a1.length + 1) 0 _ _ _ _ _ _ _ _ _ _ _ _ (by omega) (Nat.zero_le _) h
theorem Ov {α : Type} {c : α -> Nat} {b : Nat} : ∀ l : List α, (∀ x ∈ l, c x <= b) -> cnL c l <= l.length * b
  | [], _ => Nat.zero_le _
  | x :: l, h => by
    have h1 := h x List.mem_cons_self
    have h2 := Ov l (fun y hy => h y (List.mem_cons_of_mem _ hy))
    simp only [cnL, List.length_cons, Nat.succ_mul]
    omega
theorem He {n : Nat} {w : ZE} (h : Sm n w) : itn w.ZA <= w.ZA.length * n :=
  Ov w.ZA (fun x hx => XM (ZD.Yc ((ZE.Yu h).2 x hx)))
theorem Lw {n : Nat} {w : ZE} (h : Sm n w) : IX (Z8.mk (Yy w) []) <= w.ZA.length * n * (n * n) := by
  have h1 : cnL stc (Yy w) <= (Yy w).length * (n * n) := by
    refine Ov _ (fun s hs => ?_)
    simp only [Yy, List.mem_map, List.mem_flatMap] at hs
    obtain ⟨it, ⟨ar, h1, h2⟩, rfl⟩ := hs
    have k := ZS.J8 ((ZD.Yc ((ZE.Yu h).2 _ h1)).2 _ h2)
    have k1 := Zf.j6 k
    refine Nat.le_trans (Ov it.Zc.Zn (b := n) (fun r hr => XM (Za.Um (k1.2 r hr)))) (Nat.mul_le_mul_right n (XM k1))
  have h2 : (Yy w).length <= w.ZA.length * n := by
    rw [Yy, List.length_map, V0]
    exact He h
  show cnL stc (Yy w) + 0 <= _
  exact Nat.le_trans h1 (Nat.mul_le_mul_right _ h2)
theorem PM (w : ZE) (e : ZR) : (Z6 w e).1.ZA.length = w.ZA.length := by
  let p := fun r : ZE × Bool => r.1.ZA.length = w.ZA.length
  have h0 : p (w, false) := rfl
  have ha : ∀ i id st, p (XU w i id st) := fun i id st => by unfold XU; exact ZL (p := p) h0 (List.length_set ..)
  have hs : ∀ i k d o t, p (YF w i k d o t) := fun i k d o t => by
    unfold YF
    refine ZL (p := p) h0 ?_
    have key : ∀ m v r, Y3 w i k d o t m v = .inl r -> p r := by
      intro m
      induction m with
      | zero => intro v r h; cases h
      | succ m ih =>
        intro v r h
        rw [Y3] at h
        revert h
        refine ZL (p := fun x : Sum (ZE × Bool) Unit => x = .inl r -> p r) ?_ (fun h => by cases h)
        refine ZL (p := fun x : Sum (ZE × Bool) Unit => x = .inl r -> p r) (ih _ _) ?_
        exact ZL (p := fun x : Sum (ZE × Bool) Unit => x = .inl r -> p r) (fun h => by cases h; rfl) (fun h => by cases h; exact List.length_set ..)
    cases hh : Y3 w i k d o t (w.Zb.length + 1) 0 with
    | inl r => exact key _ _ _ hh
    | inr _ => exact h0
  unfold Z6
  refine ZL (p := p) (by unfold QS; exact ZL (p := p) h0 rfl) ?_
  refine ZL (p := p) (by unfold Xu; exact ZL (p := p) h0 (hs _ _ _ _ _)) ?_
  refine ZL (p := p) (by unfold Xf; exact ZL (p := p) h0 (ZL (p := p) h0 (ZL (p := p) (ha _ _ _) (ha _ _ _)))) ?_
  refine ZL (p := p) (by unfold XE; exact ZL (p := p) h0 rfl) ?_
  refine ZL (p := p) ?_ ?_
  · unfold XG
    refine ZL (p := p) h0 ?_
    obtain ⟨k1, _⟩ := z4 (n := 0) (a0 := w) (a1 := e.A) (a2 := e.Ids) (a3 := e.B) (e.Ids.length + 1) [] 0 w.YP (Nat.zero_le _) (Nat.zero_le _)
    cases hh : Ys w e.A e.Ids e.B (e.Ids.length + 1) [] 0 w.YP with
    | inl r => rw [k1 r hh]
    | inr z => exact ZL (p := p) h0 (List.length_set ..)
  refine ZL (p := p) (by unfold QV; exact ZL (p := p) h0 (ZL (p := p) (by show (List.set _ _ _).length = _; rw [List.length_set, List.length_set]) rfl)) ?_
  refine ZL (p := p) (by unfold Xi; exact ZL (p := p) h0 (List.length_set ..)) ?_
  refine ZL (p := p) ?_ ?_
  · unfold X3
    refine ZL (p := p) h0 ?_
    have k := hs e.A e.B e.Doc 0 10000
    exact ZL (p := p) k k
  refine ZL (p := p) ?_ (ZL (p := p) (by unfold JK; exact ZL (p := p) h0 (ha _ _ _)) h0)
  unfold Y8
  refine ZL (p := p) h0 ?_
  obtain ⟨k1, _⟩ := Kq (a0 := w) (a1 := e.A) (a2 := e.B) ((ZY w).length + 1) 0 []
  cases hh : Yo w e.A e.B ((ZY w).length + 1) 0 [] with
  | inl r => rw [k1 r hh]
  | inr z => exact List.length_set ..
theorem yd (a1 : List ZR) : ∀ (m v : Nat) (k : List Yq) (au : List ZZ) (me : List YJ) (li nw : Int) (c : List Ym) (en : List Int) (ar : List ZD) (sq ly : List Int) (nx : Int) (fo : List Int), a1.length < m + v -> v <= a1.length ->
    (match QD a1 m v k au me li nw c en ar sq ly nx fo with | (wQ, z1_1, z1_2, z1_3, z1_4, z1_5, z1_6, z1_7, z1_8, z1_9, z1_10, z1_11) => ZE.mk (Z2.mk wQ z1_1 z1_2 z1_3 z1_4) z1_5 z1_6 z1_7 z1_8 z1_9 z1_10 z1_11).ZA.length = ar.length
  | 0, v, _, _, _, _, _, _, _, _, _, _, _, _, h, hv => by omega
  | m + 1, v, k, au, me, li, nw, c, en, ar, sq, ly, nx, fo, h, hv => by
    rw [QD]
    by_cases wO : v < a1.length
    · rw [decide_eq_true (show (v : Int) < (a1.length : Int) by omega), Yf]
      exact (yd a1 m (v + 1) _ _ _ _ _ _ _ _ _ _ _ _ (by omega) wO).trans (PM (ZE.mk (Z2.mk k au me li nw) c en ar sq ly nx fo) (nth a1 v))
    · rw [decide_eq_false (show ¬ (v : Int) < (a1.length : Int) by omega), YT]
theorem qG (w : ZE) (l : List ZR) : (ZU w l).ZA.length = w.ZA.length :=
  yd l (l.length + 1) 0 _ _ _ _ _ _ _ _ _ _ _ _ (by omega) (Nat.zero_le _)
theorem qu (x : Int) : (Yl x).ZA.length = 2 := by
  unfold Yl
  exact ZL (p := fun w : ZE => w.ZA.length = 2) rfl rfl
theorem KR (a0 : List UInt8) : Sm 80 (ZU (ZC a0).1 (ZC a0).2) /\ itn (ZU (ZC a0).1 (ZC a0).2).ZA <= 1048576 /\ IX (Z8.mk (Yy (ZU (ZC a0).1 (ZC a0).2)) []) <= 33554500 := by
  have k := Qn (n := 40) (a0 := a0) (by decide)
  have k2 := XM k.2
  have h : Sm 80 (ZU (ZC a0).1 (ZC a0).2) := ZW (by omega) (jd k.1 k.2 (by decide) (by decide))
  have ha : (ZU (ZC a0).1 (ZC a0).2).ZA.length = 2 := (qG _ _).trans (qu _)
  have h1 := He h
  have h2 := Lw h
  rw [ha] at h1 h2
  exact ⟨h, by omega, by omega⟩
theorem qg (e : Z8) (k : Nat) : ∀ (m v : Nat) (l : List ZQ), v <= (nth e.Zt k).Zn.length -> (Qe e k m v l).length <= l.length + cnL (fun r => r.Y7.length) ((nth e.Zt k).Zn.drop v)
  | 0, v, l, _ => Nat.zero_le _
  | m + 1, v, l, hv => by
    rw [Qe]
    by_cases h : v < (nth e.Zt k).Zn.length
    · rw [decide_eq_true (show (v : Int) < ((nth e.Zt k).Zn.length : Int) by omega), Yf]
      have h1 := qg e k m (v + 1) (Qk (nth (nth e.Zt k).Zn v).Y7 l) h
      have h2 := zT (nth (nth e.Zt k).Zn v).Y7 l
      have h3 := Vl h
      omega
    · rw [decide_eq_false (show ¬ (v : Int) < ((nth e.Zt k).Zn.length : Int) by omega), YT]
      omega
theorem qp (e : Z8) : ∀ (m v : Nat) (l : List ZQ), v <= e.Zt.length -> (QX e m v l).length <= l.length + cnL stc (e.Zt.drop v)
  | 0, v, l, _ => Nat.zero_le _
  | m + 1, v, l, hv => by
    rw [QX]
    by_cases h : v < e.Zt.length
    · rw [decide_eq_true (show (v : Int) < (e.Zt.length : Int) by omega), Yf]
      have h0 := qg e v ((nth e.Zt v).Zn.length + 1) 0 l (Nat.zero_le _)
      have h1 := qp e m (v + 1) (Qe e v ((nth e.Zt v).Zn.length + 1) 0 l) h
      have h3 := Ny h
      rw [List.drop_zero] at h0
      have h4 : stc (nth e.Zt v) = cnL (fun r => r.Y7.length) (nth e.Zt v).Zn := rfl
      show (QX e m (v + 1) (Qe e v ((nth e.Zt v).Zn.length + 1) 0 l)).length <= _
      omega
    · rw [decide_eq_false (show ¬ (v : Int) < (e.Zt.length : Int) by omega), YT]
      omega
theorem Ts (w : ZE) : (XB w).length <= IX (Z8.mk (Yy w) []) := by
  show (K0 (Z8.mk (JL w ((XN w).length + 1) 0 []) [])).length <= _
  rw [X1]
  have h := qp (Z8.mk (Yy w) []) ((Yy w).length + 1) 0 [] (Nat.zero_le _)
  rw [List.drop_zero, List.length_nil] at h
  dsimp only at h
  have e3 : ∀ l : List ZQ, Js (Z8.mk (Yy w) []) (([] : List (List ZQ)).length + 1) 0 l = l := fun l => by
    rw [List.length_nil, Js]; rfl
  unfold K0
  dsimp only
  rw [e3]
  show (QX (Z8.mk (Yy w) []) ((Yy w).length + 1) 0 []).length <= cnL stc (Yy w) + 0
  omega
theorem IC (a0 : List UInt8) : Sm 2097152 (XB (ZU (ZC a0).1 (ZC a0).2)) := by
  have k := Qn (n := 40) (a0 := a0) (by decide)
  have k2 := XM k.2
  have h : Sm 80 (ZU (ZC a0).1 (ZC a0).2) := ZW (by omega) (jd k.1 k.2 (by decide) (by decide))
  have ha : (ZU (ZC a0).1 (ZC a0).2).ZA.length = 2 := (qG _ _).trans (qu _)
  have h2 := Lw h
  have h3 := Ts (ZU (ZC a0).1 (ZC a0).2)
  rw [ha] at h2
  exact ⟨by omega, fun _ _ => trivial⟩
end Go.Mo
