/- Plain lemmas on the models of the helpers. No condition. -/
import Derived.Test.YtnldgbpopofnoaaGreatM
namespace Go.Mo
open Go.Vm
set_option linter.unusedSimpArgs false
set_option linter.unusedVariables false
theorem Xu (a0 : List Yj) (a1 : Int) : YK a0 a1 < (a0.length : Int) := qC (F := kQ a0 a1) (c := fun J => ((nth a0 J).Number == a1)) (fun _ => rfl) (fun _ _ => rfl) _ _
theorem MX (a0 : Ze) : T8 a0 = a0 := rfl
theorem Hq (a0 : ZV) : N5 a0 = a0 := rfl
theorem L3 (a0 : ZS) : RP a0 = a0 := rfl
theorem GD (a0 : List ZS) : SD a0 = a0 := by
  have h := jJ (F := (VE a0)) (a := a0) (g := (fun x => x)) (fun _ => rfl) (fun _ _ _ => rfl) (a0.length + 1) [] 0 (by omega) (by omega)
  simp only [List.nil_append, List.drop_zero] at h
  unfold SD
  rw [h]
theorem IP (a0 : Zi) : PE a0 = a0 := rfl
theorem Ia (a0 : ZZ) : TA a0 = a0 := by
  have h := jJ (F := (fun n v i => kN a0 n i v)) (a := a0.ZY) (g := (fun x => x)) (fun _ => rfl) (fun _ _ _ => rfl) (a0.ZY.length + 1) [] 0 (by omega) (by omega)
  simp only [List.nil_append, List.drop_zero] at h
  unfold TA
  rw [h]
theorem It (a0 : Zk) : Ru a0 = a0 := rfl
theorem Ip (a0 : ZJ) : TB a0 = a0 := by
  have h := jJ (F := (fun n v i => kV a0 n i v)) (a := a0.ZE) (g := (fun x => x)) (fun _ => rfl) (fun _ _ _ => rfl) (a0.ZE.length + 1) [] 0 (by omega) (by omega)
  simp only [List.nil_append, List.drop_zero] at h
  unfold TB
  rw [h]
theorem Ir (a0 : ZN) : U7 a0 = a0 := by
  have h := jJ (F := (fun n v i => ke a0 n i v)) (a := a0.ZB) (g := (fun x => x)) (fun _ => rfl) (fun _ _ _ => rfl) (a0.ZB.length + 1) [] 0 (by omega) (by omega)
  simp only [List.nil_append, List.drop_zero] at h
  unfold U7
  rw [h]
theorem O7 (a0 : ZN) (a1 : Int) : X8 a0 a1 < (a0.ZT.length : Int) := qC (F := x1 a0 a1) (c := fun J => ((nth a0.ZT J).Key == a1)) (fun _ => rfl) (fun _ _ => rfl) _ _
theorem WU (a0 : ZJ) (a1 : Int) : YU a0 a1 < (a0.ZE.length : Int) := qC (F := qw a0 a1) (c := fun J => ((nth a0.ZE J).Id == a1)) (fun _ => rfl) (fun _ _ => rfl) _ _
theorem Q8 (a0 : List YY) (a1 : Int) : ZQ a0 a1 < (a0.length : Int) := qC (F := qx a0 a1) (c := fun J => ((nth a0 J).ZO == a1)) (fun _ => rfl) (fun _ _ => rfl) _ _
theorem Xz (a0 : List Zg) (a1 : Int) : Zj a0 a1 < (a0.length : Int) := qC (F := K1 a0 a1) (c := fun J => ((nth a0 J).Id == a1)) (fun _ => rfl) (fun _ _ => rfl) _ _
theorem OA (a0 : List YJ) (a1 : Int) : zd a0 a1 < (a0.length : Int) := qC (F := xG a0 a1) (c := fun J => ((nth a0 J).Id == a1)) (fun _ => rfl) (fun _ _ => rfl) _ _
theorem yk (a0 : List Yj) (a1 : Int) : XE a0 a1 < (a0.length : Int) := qC (F := kM a0 a1) (c := fun J => ((nth a0 J).Number == a1)) (fun _ => rfl) (fun _ _ => rfl) _ _
theorem KM (a0 : List Zg) (a1 : Int) : YE a0 a1 < (a0.length : Int) := qC (F := Ky a0 a1) (c := fun J => ((nth a0 J).Id == a1)) (fun _ => rfl) (fun _ _ => rfl) _ _
theorem Mc (a0 : ZJ) (a1 : Int) : Qq a0 a1 < (a0.ZE.length : Int) := qC (F := zl a0 a1) (c := fun J => ((nth a0.ZE J).Id == a1)) (fun _ => rfl) (fun _ _ => rfl) _ _
theorem Ma (a0 : List Int) : T1 a0 = a0 := rfl
theorem Nj (a0 : ZS) : Uj a0 = a0 := rfl
theorem P9 (a0 : List ZS) : qm a0 = a0 := by
  have h := jJ (F := (yp a0)) (a := a0) (g := (fun x => x)) (fun _ => rfl) (fun _ _ _ => rfl) (a0.length + 1) [] 0 (by omega) (by omega)
  simp only [List.nil_append, List.drop_zero] at h
  unfold qm
  rw [h]
theorem OG (a0 : List Zr) : VH a0 = a0 := rfl
theorem R4 (a0 : Zi) : WT a0 = a0 := rfl
theorem OI (a0 : ZZ) : qv a0 = a0 := by
  have h := jJ (F := (fun n v i => y5 a0 n i v)) (a := a0.ZY) (g := (fun x => x)) (fun _ => rfl) (fun _ _ _ => rfl) (a0.ZY.length + 1) [] 0 (by omega) (by omega)
  simp only [List.nil_append, List.drop_zero] at h
  unfold qv
  rw [h]
theorem Ps (a0 : List YJ) (a1 : Int) : zo a0 a1 < (a0.length : Int) := qC (F := yz a0 a1) (c := fun J => ((nth a0 J).Id == a1)) (fun _ => rfl) (fun _ _ => rfl) _ _
theorem Tc {n : Nat} {x : YY} (h : 7 <= n) : Sm n (zE x) := ⟨by simp [zE]; omega, fun _ _ => trivial⟩
@[simp] theorem E3 (x : YY) : (zE x).length = 7 := rfl
theorem MT {n : Nat} {x : YY} (h : 7 <= n) : Sm n (yQ x) := ⟨by simp [yQ]; omega, fun _ _ => trivial⟩
@[simp] theorem EP (x : YY) : (yQ x).length = 7 := rfl
theorem Nm {n : Nat} {x : Zr} (h : 5 <= n) : Sm n (KI x) := ⟨by simp [KI]; omega, fun _ _ => trivial⟩
@[simp] theorem EC (x : Zr) : (KI x).length = 5 := rfl
theorem MF {n : Nat} {x : Zr} (h : 5 <= n) : Sm n (JC x) := ⟨by simp [JC]; omega, fun _ _ => trivial⟩
@[simp] theorem EB (x : Zr) : (JC x).length = 5 := rfl
theorem Vp {n : Nat} {x : Zh} (h : 5 <= n) : Sm n (Jg x) := ⟨by simp [Jg]; omega, fun _ _ => trivial⟩
@[simp] theorem F2 (x : Zh) : (Jg x).length = 5 := rfl
theorem jR {n : Nat} {x : Zy} (h : 9 <= n) : Sm n (QN x) := ⟨by simp [QN]; omega, fun _ _ => trivial⟩
@[simp] theorem GH (x : Zy) : (QN x).length = 9 := rfl
theorem ji {n : Nat} {x : Zy} (h : 9 <= n) : Sm n (QO x) := ⟨by simp [QO]; omega, fun _ _ => trivial⟩
@[simp] theorem GG (x : Zy) : (QO x).length = 9 := rfl
theorem R5 {n : Nat} {x : Ys} (h : 6 <= n) : Sm n (Jt x) := ⟨by simp [Jt]; omega, fun _ _ => trivial⟩
@[simp] theorem FQ (x : Ys) : (Jt x).length = 6 := rfl
theorem O6 {a : ZZ} (h : yO a = true) : 0 < a.ZH.length := by
  unfold yO at h
  split at h
  · rename_i r e
    have : ∀ n v, yj a n v ≠ .inl true := by
      intro n
      induction n with
      | zero => intro v h; cases h
      | succ n ih =>
        intro v h
        rw [yj] at h
        cases h1 : decide ((v : Int) < (a.ZH.length : Int)) with
        | false => rw [h1] at h; cases h
        | true =>
          rw [h1] at h
          cases h2 : decide (kH a (nth a.ZH v) < (v : Int)) with
          | true => rw [h2] at h; cases h
          | false => rw [h2] at h; exact ih _ h
    subst h; exact absurd e (this _ _)
  · split at h
    · rename_i r e
      have : ∀ n v, xB a n v ≠ .inl true := by
        intro n
        induction n with
        | zero => intro v h; cases h
        | succ n ih =>
          intro v h
          rw [xB] at h
          generalize decide ((v : Int) < (a.ZY.length : Int)) = c1 at h
          cases c1 with
          | false => cases h
          | true =>
            simp only [cond_true] at h
            generalize (!YA (nth a.ZY v).Count 1 (a.ZH.length : Int) || decide ((v : Int) > 0) && decide ((nth a.ZY (v - 1)).Count > (nth a.ZY v).Count)) = c2 at h
            cases c2 with
            | true => cases h
            | false => exact ih _ h
      subst h; exact absurd e (this _ _)
    · simp only [YA, Bool.and_eq_true, decide_eq_true_eq] at h; omega
theorem MG {a : ZZ} (h : jn a = true) : 0 < a.ZH.length := by
  unfold jn at h
  generalize (match qp a (a.ZH.length + 1) 0 with | .inl r1 => r1 | .inr _ => (match qe a (a.ZY.length + 1) 0 with | .inl r2 => r2 | .inr _ => true)) = m at h
  cases hh : Zd (a.ZH.length : Int) 1 12 with
  | false => rw [hh] at h; simp at h
  | true => simp only [Zd, Bool.and_eq_true, decide_eq_true_eq] at hh; omega
theorem Rc {a : ZV} (h : KR a = true) : a.QQ.length = a.Yz.length := by
  unfold KR at h
  split at h
  · rename_i r e
    have : ∀ n v, zM a n v ≠ .inl true := by
      intro n
      induction n with
      | zero => intro v h; cases h
      | succ n ih =>
        intro v h
        rw [zM] at h
        generalize decide ((v : Int) < (a.Yz.length : Int)) = c1 at h
        cases c1 with
        | false => cases h
        | true =>
          simp only [cond_true] at h
          generalize decide (((nth a.Yz v).size : Int) > 40) = c2 at h
          cases c2 with
          | true => cases h
          | false => exact ih _ h
    subst h; exact absurd e (this _ _)
  · split at h
    · rename_i r e
      have : ∀ n v, zL a n v ≠ .inl true := by
        intro n
        induction n with
        | zero => intro v h; cases h
        | succ n ih =>
          intro v h
          rw [zL] at h
          generalize decide ((v : Int) < (a.QQ.length : Int)) = c1 at h
          cases c1 with
          | false => cases h
          | true =>
            simp only [cond_true] at h
            generalize (!YA (nth a.QQ v) 1 1000000000000) = c2 at h
            cases c2 with
            | true => cases h
            | false => exact ih _ h
      subst h; exact absurd e (this _ _)
    · simp only [Bool.and_eq_true, beq_iff_eq] at h; omega
theorem Rh {a : ZV} (h : ze a = true) : a.QQ.length = a.Yz.length := by
  unfold ze at h
  generalize (match yi a (a.Yz.length + 1) 0 with | .inl r1 => r1 | .inr _ => true) = m at h
  by_cases hh : a.QQ.length = a.Yz.length
  · exact hh
  · rw [show ((a.QQ.length : Int) != (a.Yz.length : Int)) = true by simp; omega] at h
    simp at h
theorem Z8 (a0 : ZN) (a1 : Int) (h : 0 <= (ZA a0 a1).1) : (ZA a0 a1).1.toNat < a0.ZB.length /\ 0 <= (ZA a0 a1).2 /\ (ZA a0 a1).2.toNat < (nth a0.ZB (ZA a0 a1).1.toNat).ZE.length := by
  have key : ∀ n v r, xV a0 a1 n v = .inl r -> r.1.toNat < a0.ZB.length /\ 0 <= r.2 /\ r.2.toNat < (nth a0.ZB r.1.toNat).ZE.length := by
    intro n
    induction n with
    | zero => intro v r h; cases h
    | succ n ih =>
      intro v r h
      rw [xV] at h
      cases h1 : decide ((v : Int) < (a0.ZB.length : Int)) with
      | false => rw [h1] at h; cases h
      | true =>
        rw [h1] at h
        simp only [cond_true] at h
        cases h2 : decide (YU (nth a0.ZB v) a1 >= 0) with
        | false => rw [h2] at h; exact ih _ _ h
        | true =>
          rw [h2] at h; cases h
          simp at h1 h2
          have := WU (nth a0.ZB v) a1
          simp only [Int.toNat_natCast]
          exact ⟨h1, h2, by omega⟩
  unfold ZA at h ⊢
  cases hh : xV a0 a1 (a0.ZB.length + 1) 0 with
  | inl r => rw [hh] at h; exact key _ _ r hh
  | inr u => rw [hh] at h; simp at h
theorem W9 (a0 : ZN) (a1 : Int) (h : 0 <= (QI a0 a1).1) : (QI a0 a1).1.toNat < a0.ZB.length /\ 0 <= (QI a0 a1).2 /\ (QI a0 a1).2.toNat < (nth a0.ZB (QI a0 a1).1.toNat).ZE.length := by
  have key : ∀ n v r, K8 a0 a1 n v = .inl r -> r.1.toNat < a0.ZB.length /\ 0 <= r.2 /\ r.2.toNat < (nth a0.ZB r.1.toNat).ZE.length := by
    intro n
    induction n with
    | zero => intro v r h; cases h
    | succ n ih =>
      intro v r h
      rw [K8] at h
      cases h1 : decide ((v : Int) < (a0.ZB.length : Int)) with
      | false => rw [h1] at h; cases h
      | true =>
        rw [h1] at h
        simp only [cond_true] at h
        cases h2 : decide (Qq (nth a0.ZB v) a1 >= 0) with
        | false => rw [h2] at h; exact ih _ _ h
        | true =>
          rw [h2] at h; cases h
          simp at h1 h2
          have := Mc (nth a0.ZB v) a1
          simp only [Int.toNat_natCast]
          exact ⟨h1, h2, by omega⟩
  unfold QI at h ⊢
  cases hh : K8 a0 a1 (a0.ZB.length + 1) 0 with
  | inl r => rw [hh] at h; exact key _ _ r hh
  | inr u => rw [hh] at h; simp at h
theorem jx {a : Int} {n : Nat} (hn : n <= 9223372036854775807) (h : YA a 0 (W ((n : Int) - 1)) = true) : 0 <= a /\ a < n := by
  rw [N0 n hn] at h
  simp only [YA, Bool.and_eq_true, decide_eq_true_eq] at h; omega
theorem Qb {a : Int} {n : Nat} (hn : n <= 9223372036854775807) (h : Zd a 0 (W ((n : Int) - 1)) = true) : 0 <= a /\ a < n := by
  rw [N0 n hn] at h
  simp only [Zd, Bool.and_eq_true, decide_eq_true_eq] at h; omega
@[simp] theorem DG (l : List UInt8) : (jI l).length = l.length := by
  have key : ∀ n (acc : List Int) v, l.length < n + v -> v <= l.length -> (qP l n acc v).length = acc.length + (l.length - v) := by
    intro n
    induction n with
    | zero => intro acc v h1 h2; omega
    | succ n ih =>
      intro acc v h1 h2
      rw [qP]
      by_cases hv : v < l.length
      · rw [show decide ((v : Int) < (l.length : Int)) = true by simpa using hv, cond_true, ih _ (v + 1) (by omega) (by omega)]
        simp; omega
      · rw [show decide ((v : Int) < (l.length : Int)) = false by simpa using hv, cond_false]; omega
  have := key (l.length + 1) [] 0 (by omega) (by omega)
  simpa [jI] using this
theorem yI {n : Nat} {a0 : ZZ} {a1 : ZV} (h : Sm n a0) : Sm n (zY a0 a1) := by
  have key : ∀ n (acc : List Int) v, a0.ZY.length < n + v -> v <= a0.ZY.length -> (K6 a0 a1 n acc v).length = acc.length + (a0.ZY.length - v) := by
    intro n
    induction n with
    | zero => intro acc v h1 h2; omega
    | succ n ih =>
      intro acc v h1 h2
      rw [K6]
      by_cases hv : v < a0.ZY.length
      · rw [show decide ((v : Int) < (a0.ZY.length : Int)) = true by simpa using hv, cond_true, ih _ (v + 1) (by omega) (by omega)]
        simp; omega
      · rw [show decide ((v : Int) < (a0.ZY.length : Int)) = false by simpa using hv, cond_false]; omega
  have h2 := key (a0.ZY.length + 1) [] 0 (by omega) (by omega)
  have h3 := Yb (ZZ.Kl h)
  refine ⟨?_, fun _ _ => trivial⟩
  unfold zY
  simp only [List.length_nil, Nat.zero_add, Nat.sub_zero] at h2
  rw [h2]; exact h3
theorem Po {n : Nat} {a0 : ZZ} {a1 : ZV} (h : Sm n a0) : Sm n (za a0 a1) := by
  have key : ∀ n (acc : List Int) v, a0.ZY.length < n + v -> v <= a0.ZY.length -> (zB a0 a1 n acc v).length = acc.length + (a0.ZY.length - v) := by
    intro n
    induction n with
    | zero => intro acc v h1 h2; omega
    | succ n ih =>
      intro acc v h1 h2
      rw [zB]
      by_cases hv : v < a0.ZY.length
      · rw [show decide ((v : Int) < (a0.ZY.length : Int)) = true by simpa using hv, cond_true, ih _ (v + 1) (by omega) (by omega)]
        simp; omega
      · rw [show decide ((v : Int) < (a0.ZY.length : Int)) = false by simpa using hv, cond_false]; omega
  have h2 := key (a0.ZY.length + 1) [] 0 (by omega) (by omega)
  have h3 := Yb (ZZ.Kl h)
  refine ⟨?_, fun _ _ => trivial⟩
  unfold za
  simp only [List.length_nil, Nat.zero_add, Nat.sub_zero] at h2
  rw [h2]; exact h3
theorem Yv (a0 : ZS) : (QC a0 = 101 -> a0.Z4.length = 7) /\ (QC a0 = 102 -> a0.Z4.length = 5) /\ (QC a0 = 103 -> a0.Z4.length = 5) /\ (QC a0 = 104 -> a0.Z4.length = 9) /\ (QC a0 = 105 -> a0.Z4.length = 6) := by
  have key : ∀ v : Int, v ≠ 0 -> QC a0 = v -> nth a0.Z4 0 = v /\ (a0.Z4.length : Int) = nth ([7, 5, 5, 9, 6] : List Int) (W (v - 101)).toNat := by
    intro v hv h
    unfold QC at h
    cases c0 : (((a0.Z4.length : Int) == 0) || (!(YA (nth a0.Z4 0) 101 105)))
    · rw [c0, cond_false] at h
      cases c1 : ((a0.Z4.length : Int) != (nth ([7, 5, 5, 9, 6] : List Int) (W ((nth a0.Z4 0) - 101)).toNat))
      · rw [c1, cond_false] at h
        simp only [bne_eq_false_iff_eq] at c1
        exact ⟨h, by rw [<- h]; exact c1⟩
      · rw [c1, cond_true] at h; exact absurd h.symm hv
    · rw [c0, cond_true] at h; exact absurd h.symm hv
  refine ⟨fun h => ?_, fun h => ?_, fun h => ?_, fun h => ?_, fun h => ?_⟩ <;> (have := (key _ (by decide) h).2; simp [nth, XT] at this; omega)
theorem ZX (a0 : ZS) : (Yn a0 = 101 -> a0.Z4.length = 7) /\ (Yn a0 = 102 -> a0.Z4.length = 5) /\ (Yn a0 = 103 -> a0.Z4.length = 5) /\ (Yn a0 = 104 -> a0.Z4.length = 9) /\ (Yn a0 = 105 -> a0.Z4.length = 6) := by
  have key : ∀ v : Int, v ≠ 0 -> Yn a0 = v -> nth a0.Z4 0 = v /\ (a0.Z4.length : Int) = nth ([7, 5, 5, 9, 6] : List Int) (W (v - 101)).toNat := by
    intro v hv h
    unfold Yn at h
    cases c1 : ((((a0.Z4.length : Int) == 0) || (!(Zd (nth a0.Z4 0) 101 105))) || ((a0.Z4.length : Int) != (nth ([7, 5, 5, 9, 6] : List Int) (W ((nth a0.Z4 0) - 101)).toNat)))
    · rw [c1, cond_false] at h
      simp only [Bool.or_eq_false_iff, bne_eq_false_iff_eq] at c1
      exact ⟨h, by rw [<- h]; exact c1.2⟩
    · rw [c1, cond_true] at h; exact absurd h.symm hv
  refine ⟨fun h => ?_, fun h => ?_, fun h => ?_, fun h => ?_, fun h => ?_⟩ <;> (have := (key _ (by decide) h).2; simp [nth, XT] at this; omega)
theorem kX (a0 : Int) (a1 : List Int) (h : a1.length <= 1048576) : 2 * (kZ a0 a1).length = a1.length + a1.length % 2 := by
  have key : ∀ n v i, a1.length + 1 < 2 * n + i -> i <= a1.length + 1 -> i % 2 = 0 -> 2 * (xn a0 a1 n v i).length = 2 * v.length + (a1.length + a1.length % 2 - i) := by
    intro n
    induction n with
    | zero => intro v i h1 h2; omega
    | succ n ih =>
      intro v i h1 h2 h3
      unfold xn
      by_cases hi : i < a1.length
      · rw [show decide ((i : Int) < (a1.length : Int)) = true by simp [hi], cond_true]
        have e : ∀ x, 2 * (xn a0 a1 n (v ++ [x]) (i + 2)).length = 2 * v.length + (a1.length + a1.length % 2 - i) := by
          intro x
          have := ih (v ++ [x]) (i + 2) (by omega) (by omega) (by omega)
          rw [this, List.length_append, List.length_singleton]; omega
        exact ZW (p := fun (r : List Int) => 2 * r.length = 2 * v.length + (a1.length + a1.length % 2 - i)) (e _) (e _)
      · rw [show decide ((i : Int) < (a1.length : Int)) = false by simp; omega, cond_false]; omega
  have := key (a1.length + 1) [] 0 (by omega) (by omega) (by omega)
  unfold kZ
  rw [this]; simp
theorem kl {n : Nat} (h : 10 <= n) : Sm n Kj := ⟨h, fun _ _ => trivial⟩
theorem y6 {n : Nat} {a0 : ZJ} {a1 : Int} (h : Sm n a0) : Sm n (YM a0 a1) := by
  refine ⟨?_, fun _ _ => trivial⟩
  have e := ET (F := Kq a0 a1) (fun _ _ => rfl) (fun _ _ _ => rfl) (a0.ZE.length + 1) [] 0
  have : (YM a0 a1).length <= 0 + (a0.ZE.length - 0) := e
  have := Yb (show Sm n a0.ZE from h)
  omega
theorem yK (a0 : ZJ) (a1 : Int) : (YM a0 a1).length = a0.ZE.length := by
  have key : ∀ n v i, i <= a0.ZE.length -> a0.ZE.length < n + i -> (Kq a0 a1 n v i).length = v.length + (a0.ZE.length - i) := by
    intro n
    induction n with
    | zero => intro v i h0 h; omega
    | succ n ih =>
      intro v i h0 h
      rw [Kq]
      by_cases hc : (i : Int) < (a0.ZE.length : Int)
      · simp only [decide_eq_true hc, cond_true]
        rw [ih _ _ (by omega) (by omega)]
        simp
        omega
      · simp only [decide_eq_false hc, cond_false]
        omega
  have := key (a0.ZE.length + 1) [] 0 (by omega) (by omega)
  exact this.trans (by simp)
theorem N7 {n : Nat} {x : YY} (h : 7 <= n) : Sm n (kO x) := Tc h
theorem Yr {n : Nat} {x : Zh} (h : 5 <= n) : Sm n (Zm x) := Vp h
theorem Oz {n : Nat} {x : Zy} (h : 9 <= n) : Sm n (yW x) := jR h
theorem Yd {n : Nat} {x : Zy} (h : 9 <= n) : Sm n (Y8 x) := ji h
theorem ZI {a0 : List Yj} {a1 : Zh} (h : (Zf a0 a1).2 = true) : 0 <= YK a0 a1.Zq := by
  unfold Zf at h
  cases hc : ((!(VD a1)) || (decide ((YK a0 a1.Zq) < 0))) with
  | true => rw [hc] at h; simp at h
  | false => simp at hc; exact hc.2
theorem Jh {n : Nat} {a0 : ZN} {a1 : Int} {a2 : ZV} {a3 a4 : Int} (h : Sm n a2) (hn : 9 <= n) : Sm n (XI a0 a1 a2 a3 a4).1 := by
  unfold XI
  cases ((decide ((Zc a0.Frame.Methods a0.Frame.Now) < 0)) || (decide ((X8 a0 a1) < 0))) with
  | true => exact ⟨⟨Kw, Kw⟩, Kw, Kw⟩
  | false =>
    refine ⟨h, ⟨by simp; omega, fun y hy => ?_⟩, Kw⟩
    rcases List.mem_cons.1 hy with rfl | hy
    · exact Oz (by omega)
    rcases List.mem_cons.1 hy with rfl | hy
    · exact N7 (by omega)
    · cases hy
theorem j7 {n : Nat} {a0 : ZJ} {a1 : Zk} (h : Sm n a0) (hx : Sm n a1) : ∀ (m : Nat) (b : Bool) (i : Nat) (l : List Zk), l.length <= i + (bif b then 1 else 0) -> i <= a0.ZE.length -> (∀ y ∈ l, Sm n y) ->
    (Jk a0 a1 m b i l).2.length <= a0.ZE.length + (bif (Jk a0 a1 m b i l).1 then 1 else 0) /\ ∀ y ∈ (Jk a0 a1 m b i l).2, Sm n y
  | 0, b, i, l, _, _, _ => ⟨Nat.zero_le _, fun y hy => by cases hy⟩
  | m + 1, b, i, l, hl, hi, hs => by
    unfold Jk
    cases hc : decide ((i : Int) < (a0.ZE.length : Int)) with
    | false =>
      simp only [cond_false]
      refine ⟨?_, hs⟩
      have : ¬ ((i : Int) < a0.ZE.length) := by simpa using hc
      omega
    | true =>
      have wO : i < a0.ZE.length := by simpa using hc
      have hn : Sm n (nth a0.ZE i) := Zu h
      simp only [cond_true]
      cases hd : ((!b) && (decide (a1.Id < (nth a0.ZE i).Id))) with
      | true =>
        have hb : b = false := by cases b <;> simp_all
        subst hb
        simp only [cond_true]
        refine j7 h hx m true (i + 1) _ (by simp at hl ⊢; omega) wO (fun y hy => ?_)
        simp only [List.append_assoc, List.mem_append, List.mem_cons, List.not_mem_nil, or_false] at hy
        rcases hy with hy | rfl | rfl
        · exact hs y hy
        · exact hx
        · exact hn
      | false =>
        simp only [cond_false]
        refine j7 h hx m b (i + 1) _ (by simp at hl ⊢; omega) wO (fun y hy => ?_)
        simp only [List.mem_append, List.mem_cons, List.not_mem_nil, or_false] at hy
        rcases hy with hy | rfl
        · exact hs y hy
        · exact hn
theorem qj {n : Nat} {a0 : ZJ} {a1 : Zk} (h : Sm n a0) (hx : Sm n a1) : Sm (n + 1) (XY a0 a1).1 := by
  have h1 : Sm (n + 1) a0 := ZU (Nat.le_succ n) h
  unfold XY
  cases ((!(X6 a0)) || (decide ((YU a0 a1.Id) >= 0))) with
  | true => exact h1
  | false =>
    have hz := j7 h hx (a0.ZE.length + 1) false 0 [] (Nat.zero_le _) (Nat.zero_le _) (fun y hy => by cases hy)
    have hlen := (ZJ.Y4 h).1
    simp only [cond_false]
    generalize hq : Jk a0 a1 (a0.ZE.length + 1) false 0 [] = z at hz ⊢
    obtain ⟨z0, z1⟩ := z
    cases z0 with
    | false =>
      simp only [Bool.not_false, cond_true]
      cases (!(X6 (ZJ.mk a0.Id (z1 ++ ([a1] : List Zk))))) with
      | true => exact h1
      | false =>
        refine ⟨by have := hz.1; simp at this ⊢; omega, fun y hy => ?_⟩
        have fb : y ∈ z1 \/ y = a1 := by simpa using hy
        rcases fb with hy | rfl
        · exact ZU (Nat.le_succ n) (hz.2 y hy)
        · exact ZU (Nat.le_succ n) hx
    | true =>
      simp only [Bool.not_true, cond_false]
      cases (!(X6 (ZJ.mk a0.Id z1))) with
      | true => exact h1
      | false => exact ⟨by have := hz.1; simp at this ⊢; omega, fun y hy => ZU (Nat.le_succ n) (hz.2 y hy)⟩
theorem zp (a0 : Int) : ∀ (m : Nat) (x : Int) (l : List QB) (y : List Int), (KU a0 m x l y).length <= l.length + m
  | 0, x, l, y => Nat.zero_le _
  | m + 1, x, l, y => by
    simp only [KU]
    cases decide ((y.length : Int) > 1) with
    | false => simp
    | true =>
      simp only [cond_true]
      cases ((Int.tmod x 2) == 1) with
      | true => refine Nat.le_trans (zp a0 m _ _ _) ?_; simp; omega
      | false =>
        simp only [cond_false]
        cases decide ((W (x + 1)) < (y.length : Int)) with
        | true => refine Nat.le_trans (zp a0 m _ _ _) ?_; simp; omega
        | false => refine Nat.le_trans (zp a0 m _ _ _) ?_; omega
theorem TP {n : Nat} {a0 : Int} {a1 : List Int} {a2 : Int} (h : 17 <= n) : Sm n (KP a0 a1 a2) := by
  refine ⟨?_, fun _ _ => trivial⟩
  unfold KP
  cases hc : ((decide ((a1.length : Int) > 16)) || (!(YA a2 0 (W ((a1.length : Int) - 1))))) with
  | true => exact Nat.zero_le _
  | false =>
    have h1 := zp a0 (a1.length + 1) a2 [] a1
    simp only [Bool.or_eq_false_iff, decide_eq_false_iff_not] at hc
    simp only [cond_false]; simp at h1; omega
theorem TV (a0 : ZN) (a1 : List Int) : ∀ (m v : Nat), a1.length < m + v -> (match xb a0 a1 m v with | .inl r => r | .inr _ => true) = true -> ∀ j, v <= j -> j < a1.length -> 0 <= Zj a0.Frame.ZM (nth a1 j) /\ Zj a0.Frame.ZM (nth a1 j) < (a0.QA.length : Int) /\ 0 <= YK a0.Frame.Z6 (nth a0.Frame.ZM (Zj a0.Frame.ZM (nth a1 j)).toNat).Key
  | 0, v, h, _ => fun j h1 h2 => by omega
  | m + 1, v, h, e => by
    intro j h1 h2
    unfold xb at e
    have hc : decide ((v : Int) < (a1.length : Int)) = true := by simp; omega
    rw [hc] at e
    simp only [cond_true] at e
    revert e
    cases hA : (((decide ((Zj a0.Frame.ZM (nth a1 v)) < 0)) || (decide ((Zj a0.Frame.ZM (nth a1 v)) >= (a0.QA.length : Int)))) || ((decide ((v : Int) > 0)) && (decide ((nth a1 (v - 1)) >= (nth a1 v))))) with
    | true => intro e; simp at e
    | false =>
      simp only [cond_false]
      cases hB : ((decide ((YK a0.Frame.Z6 (nth a0.Frame.ZM (Zj a0.Frame.ZM (nth a1 v)).toNat).Key) < 0)) || (decide ((nth a0.Frame.Z6 (YK a0.Frame.Z6 (nth a0.Frame.ZM (Zj a0.Frame.ZM (nth a1 v)).toNat).Key).toNat).NH > a0.Frame.Now))) with
      | true => intro e; simp at e
      | false =>
        intro e
        rcases Nat.eq_or_lt_of_le h1 with rfl | h1
        · simp only [Bool.or_eq_false_iff, decide_eq_false_iff_not] at hA hB
          exact ⟨by omega, by omega, by omega⟩
        · exact TV a0 a1 m (v + 1) (by omega) e j h1 h2
theorem QL {a0 : ZN} {a1 : List Int} (h : UP a0 a1 = true) {j : Nat} (hj : j < a1.length) : 0 <= Zj a0.Frame.ZM (nth a1 j) /\ Zj a0.Frame.ZM (nth a1 j) < (a0.QA.length : Int) /\ 0 <= YK a0.Frame.Z6 (nth a0.Frame.ZM (Zj a0.Frame.ZM (nth a1 j)).toNat).Key := by
  refine TV a0 a1 (a1.length + 1) 0 (by omega) ?_ j (Nat.zero_le _) hj
  unfold UP at h
  revert h
  cases xb a0 a1 (a1.length + 1) 0 with
  | inl r => exact fun h => h
  | inr _ => exact fun _ => rfl
def itn (l : List ZJ) : Nat := cnL (fun a => a.ZE.length) l
theorem HE {l : List ZJ} {i : Nat} (h : i < l.length) : itn (l.drop i) = (nth l i).ZE.length + itn (l.drop (i + 1)) := LH _ h
theorem Us (a0 : ZN) : Z5 a0 = a0.ZB.flatMap (·.ZE) := by
  unfold Z5
  have := Nc (as := a0.ZB) (fun a => a.ZE) (F := fun n i l => ye a0 n l i) (fun _ _ _ => rfl) (a0.ZB.length + 1) 0 [] (by omega) (Nat.zero_le _)
  simpa using this
theorem Te (a0 : ZN) : (Z5 a0).length = itn a0.ZB := by rw [Us, Hi]; rfl
theorem Wv (a0 : Ze) (a1 : ZZ) (a2 : List Int) : ∀ n v, yB a0 a1 a2 n v <= v
  | 0, _ => Nat.zero_le _
  | n + 1, v => by
    simp only [yB]
    exact ZW (p := fun r => r <= v) (ZW (p := fun r => r <= v) (Nat.le_refl _) (Nat.le_trans (Wv a0 a1 a2 n (v - 1)) (Nat.sub_le _ _))) (Nat.le_refl _)
theorem OU (a0 : Ze) (a1 : ZZ) (a2 : List Int) : 0 <= zR a0 a1 a2 /\ zR a0 a1 a2 <= (a1.ZY.length : Int) := by
  have h := Wv a0 a1 a2 (a1.ZY.length + 1) a1.ZY.length
  simp only [zR]; omega
theorem qQ (a0 : List Za) : ∀ (n : Nat) (l : List Za) (i : Nat) (x y : Int), i <= a0.length -> (yY a0 n l i x y).1.length <= l.length + (a0.length - i)
  | 0, _, _, _, _, _ => Nat.zero_le _
  | n + 1, l, i, x, y, hi => by
    simp only [yY]
    by_cases h : i < a0.length
    · rw [show decide ((i : Int) < (a0.length : Int)) = true by simpa using h, cond_true]
      refine ZW (p := fun (r : List Za × Int × Int) => r.1.length <= l.length + (a0.length - i)) ?_ ?_
      · have := qQ a0 n (l ++ [nth a0 i]) (i + 1) x y h
        simp at this; omega
      · exact Nat.le_trans (qQ a0 n l (i + 1) _ _ h) (by omega)
    · rw [show decide ((i : Int) < (a0.length : Int)) = false by simpa using h, cond_false]; exact Nat.le_add_right _ _
theorem qV (a0 : List Za) : ∀ (n : Nat) (l : List Za) (i : Nat), i <= a0.length -> (yT a0 n l i).length <= l.length + (a0.length - i)
  | 0, _, _, _ => Nat.zero_le _
  | n + 1, l, i, hi => by
    simp only [yT]
    by_cases h : i < a0.length
    · rw [show decide ((i : Int) < (a0.length : Int)) = true by simpa using h, cond_true]
      refine ZW (p := fun (r : List Za) => r.length <= l.length + (a0.length - i)) (Nat.le_trans (qV a0 n l (i + 1) h) (by omega)) ?_
      have h2 := qQ l (l.length + 1) [] 0 (nth a0 i).XU (nth a0 i).To (Nat.zero_le _)
      refine Nat.le_trans (qV a0 n _ (i + 1) h) ?_
      simp at h2 ⊢
      omega
    · rw [show decide ((i : Int) < (a0.length : Int)) = false by simpa using h, cond_false]; exact Nat.le_add_right _ _
theorem zi {n : Nat} {a0 : List Za} (h : Sm n a0) : Sm n (XX a0) :=
  ⟨Nat.le_trans (qV a0 (a0.length + 1) [] 0 (Nat.zero_le _)) (by have := h.1; simp; omega), fun _ _ => trivial⟩
theorem ZG {n : Nat} {a0 a1 : Int} {a2 : List Za} (h : Sm n a2) : Sm (n + 1) (Zl a0 a1 a2) := by
  unfold Zl
  refine ZW (p := fun r : List Za => Sm (n + 1) r) ⟨?_, fun _ _ => trivial⟩ (ZU (Nat.le_succ n) h)
  have := h.1
  simp; omega
theorem M0 {n : Nat} {a0 : YY} {a1 : List Zh} (h : 3 <= n) : Sm n (xk a0 a1) := by
  have h0 : Sm 0 ([] : List Za) := ⟨Nat.zero_le _, fun _ _ => trivial⟩
  unfold xk
  refine ZW (p := fun r : List Za => Sm n r) (ZW (p := fun r : List Za => Sm n r) ?_ ?_) (ZW (p := fun r : List Za => Sm n r) ?_ ?_)
  · exact zi (ZU h (ZG (ZG (ZG h0))))
  · exact zi (ZU (by omega) (ZG (ZG h0)))
  · exact zi (ZU (by omega) (ZG (ZG h0)))
  · exact zi (ZU (by omega) (ZG h0))
theorem Gz {n : Nat} {c d : Za} (h : 1 <= n) : Sm n (U6 [c] [d]) := by
  show Sm n (XX (bif (zA c d).2 then [(zA c d).1] else []))
  exact zi (ZW (p := fun r : List Za => Sm n r) ⟨h, fun _ _ => trivial⟩ ⟨Nat.zero_le _, fun _ _ => trivial⟩)
theorem NC {n : Nat} {a0 : YY} {a1 : List Zh} (h : 1 <= n) : Sm n (yV a0 a1) := by
  unfold yV
  exact Gz h
theorem S3 {n : Nat} {a0 : List Yj} {a1 : List Ys} {a2 a3 : Int} (h : a1.length <= n) : Sm n (zK a0 a1 a2 a3) :=
  zi ⟨Nat.le_trans (SX (F := J2 a0 a1 a2 a3) (fun _ _ => rfl) (fun _ _ _ => rfl) (a1.length + 1) [] 0) (by simp; omega), fun _ _ => trivial⟩
def DV (e : Zs) : Nat := cnL (fun s => s.ZH.length) e.Zp
theorem FO {l : List ZZ} {i : Nat} (h : i < l.length) : cnL (fun s : ZZ => s.ZH.length) (l.drop i) = (nth l i).ZH.length + cnL (fun s : ZZ => s.ZH.length) (l.drop (i + 1)) := LH _ h
theorem YP {n : Nat} {a0 : List ZS} {a1 : YY} (h : Sm n a0) : Sm n (Jx a0 a1) :=
  ⟨Nat.le_trans (SX (F := Kf a0 a1) (fun _ _ => rfl) (fun _ _ _ => rfl) (a0.length + 1) [] 0) (by have := h.1; simp; omega), fun _ _ => trivial⟩
theorem YT {n : Nat} {a0 : List ZS} (h : Sm n a0) : Sm n (xI a0) :=
  ⟨Nat.le_trans (SX (F := K5 a0) (fun _ _ => rfl) (fun _ _ _ => rfl) (a0.length + 1) [] 0) (by have := h.1; simp; omega), fun _ _ => trivial⟩
theorem qI {n : Nat} (a0 : Zs) (a1 : ZV) (h : Sm n a0) : ∀ (m : Nat) (l : List (List Int)) (i : Nat), i <= a0.Zp.length -> Sm n l -> l.length + (a0.Zp.length - i) <= n -> Sm n (Jc a0 a1 m l i)
  | 0, _, _, _, _, _ => ⟨Nat.zero_le _, fun x hx => by cases hx⟩
  | m + 1, l, i, hi, hl, hk => by
    simp only [Jc]
    by_cases hv : i < a0.Zp.length
    · rw [show decide ((i : Int) < (a0.Zp.length : Int)) = true by simpa using hv, cond_true]
      refine qI a0 a1 h m _ (i + 1) hv ⟨by simp; omega, fun x hx => ?_⟩ (by simp; omega)
      rcases List.mem_append.1 hx with hx | hx
      · exact hl.2 x hx
      · rw [List.mem_singleton.1 hx]; exact Po (Zu (Zs.XR h))
    · rw [show decide ((i : Int) < (a0.Zp.length : Int)) = false by simpa using hv, cond_false]; exact hl
theorem X1 {n : Nat} {a0 : Zs} {a1 : ZV} (h : Sm n a0) : Sm n (Ja a0 a1) :=
  qI a0 a1 h _ [] 0 (Nat.zero_le _) ⟨Nat.zero_le _, fun x hx => by cases hx⟩ (by have z := Yb (Zs.XR h); simp; omega)
theorem IW {K z : Nat} {l : List ZS} {p : ZS} (hl : Sm K l) (hp : Sm K p) (hk : l.length + 1 <= K) : Sm K ((l.take z ++ [p]) ++ (l.drop z).take (l.length - z)) /\ ((l.take z ++ [p]) ++ (l.drop z).take (l.length - z)).length <= l.length + 1 := by
  have h : ((l.take z ++ [p]) ++ (l.drop z).take (l.length - z)).length <= l.length + 1 := by simp; omega
  refine ⟨⟨Nat.le_trans h hk, fun x hx => ?_⟩, h⟩
  simp only [List.mem_append, List.mem_singleton] at hx
  rcases hx with (hx | rfl) | hx
  · exact hl.2 x (List.mem_of_mem_take hx)
  · exact hp
  · exact hl.2 x (List.mem_of_mem_drop (List.mem_of_mem_take hx))
theorem zy {K : Nat} (a0 : Ze) (a1 : Zs) (a2 : List (List Int)) (v : Nat) (h : Sm K a1) : ∀ (n : Nat) (l : List ZS) (i : Nat), i <= (nth a1.Zp v).ZH.length -> Sm K l -> l.length + ((nth a1.Zp v).ZH.length - i) <= K -> Sm K (QT a0 a1 a2 v n l i) /\ (QT a0 a1 a2 v n l i).length <= l.length + ((nth a1.Zp v).ZH.length - i)
  | 0, _, _, _, _, _ => ⟨⟨Nat.zero_le _, fun x hx => by cases hx⟩, Nat.zero_le _⟩
  | n + 1, l, i, hi, hl, hk => by
    simp only [QT]
    by_cases hv : i < (nth a1.Zp v).ZH.length
    · rw [show decide ((i : Int) < ((nth a1.Zp v).ZH.length : Int)) = true by simpa using hv, cond_true]
      have hp : Sm K (nth (nth a1.Zp v).ZH i) := Zu (ZZ.XZ (Zu (Zs.XR h)))
      refine ZW (p := fun (r : List ZS) => Sm K r /\ r.length <= l.length + ((nth a1.Zp v).ZH.length - i)) ?_ ?_
      · obtain ⟨r1, r2⟩ := zy a0 a1 a2 v h n l (i + 1) hv hl (by omega)
        exact ⟨r1, by omega⟩
      · obtain ⟨q1, q2⟩ := IW (z := zg a1 v l i (l.length + 1) 0) hl hp (by omega)
        obtain ⟨r1, r2⟩ := zy a0 a1 a2 v h n _ (i + 1) hv q1 (by omega)
        exact ⟨r1, by omega⟩
    · rw [show decide ((i : Int) < ((nth a1.Zp v).ZH.length : Int)) = false by simpa using hv, cond_false]
      exact ⟨hl, Nat.le_add_right _ _⟩
theorem qc {K : Nat} (a0 : Ze) (a1 : Zs) (a2 : List (List Int)) (h : Sm K a1) : ∀ (n : Nat) (l : List ZS) (i : Nat), i <= a1.Zp.length -> Sm K l -> l.length + cnL (fun s : ZZ => s.ZH.length) (a1.Zp.drop i) <= K -> Sm K (J7 a0 a1 a2 n l i)
  | 0, _, _, _, _, _ => ⟨Nat.zero_le _, fun x hx => by cases hx⟩
  | n + 1, l, i, hi, hl, hk => by
    simp only [J7]
    by_cases hv : i < a1.Zp.length
    · rw [show decide ((i : Int) < (a1.Zp.length : Int)) = true by simpa using hv, cond_true]
      have hd := FO hv
      obtain ⟨r1, r2⟩ := zy a0 a1 a2 i h ((nth a1.Zp i).ZH.length + 1) l 0 (Nat.zero_le _) hl (by omega)
      exact qc a0 a1 a2 h n _ (i + 1) hv r1 (by omega)
    · rw [show decide ((i : Int) < (a1.Zp.length : Int)) = false by simpa using hv, cond_false]; exact hl
theorem ZR {K : Nat} {a0 : Ze} {a1 : Zs} {a2 : List (List Int)} (h : Sm K a1) (hp : DV a1 <= 2097152) (hk : 2097152 <= K) : Sm K (Zx a0 a1 a2) :=
  qc a0 a1 a2 h _ [] 0 (Nat.zero_le _) ⟨Nat.zero_le _, fun x hx => by cases hx⟩ (by rw [List.drop_zero]; simp only [List.length_nil]; exact Nat.le_trans (by rw [Nat.zero_add]; exact hp) hk)
theorem Fp {α β : Type} [Inhabited α] {as : List α} (c : α -> Bool) (g : α -> β) {F : Nat -> Nat -> List β -> List β} (h1 : ∀ n i l, F (n + 1) i l = bif decide ((i : Int) < (as.length : Int)) then (bif c (nth as i) then F n (i + 1) (l ++ [g (nth as i)]) else F n (i + 1) l) else l) (n i : Nat) (l : List β) (h : as.length < n + i) (h2 : i <= as.length) : F n i l = l ++ (as.drop i).flatMap (fun a => bif c a then [g a] else []) :=
  Nc (fun a => bif c a then [g a] else []) (F := F) (fun n i l => by rw [h1]; cases decide ((i : Int) < (as.length : Int)) <;> simp only [Kx, KS]; cases c (nth as i) <;> simp) n i l h h2
theorem Lh {α β : Type} (f : α -> List β) (h : ∀ x, (f x).length <= 1) : ∀ l : List α, (l.flatMap f).length <= l.length
  | [] => Nat.zero_le _
  | x :: l => by have := Lh f h l; have := h x; simp only [List.flatMap_cons, List.length_append, List.length_cons]; omega
theorem Ey {α : Type} (c : Bool) (x : α) : (bif c then [x] else []).length <= 1 := by cases c <;> simp
theorem Sb (a0 : ZN) : Y2 a0 = (Z5 a0).flatMap (fun x => bif (XO a0 x.Id).Code == 1 then [x.Id] else []) := by
  have := Fp (as := Z5 a0) (fun x => (XO a0 x.Id).Code == 1) (fun x => x.Id) (F := fun n i l => JN a0 n l i) (fun _ _ _ => rfl) ((Z5 a0).length + 1) 0 [] (by omega) (Nat.zero_le _)
  unfold Y2
  rw [this]; rfl
theorem R0 (a0 : ZN) : (Y2 a0).length <= itn a0.ZB := by
  rw [Sb, <- Te]; exact Lh _ (fun x => Ey _ _) _
theorem Hv (x : Int) : 0 <= M3 .i64 x 255 /\ M3 .i64 x 255 <= 255 := by
  have h : (BitVec.ofInt IntKind.i64.bits x &&& BitVec.ofInt IntKind.i64.bits 255).toNat <= 255 := by
    rw [BitVec.toNat_and]; exact Nat.le_trans Nat.and_le_right (Nat.le_of_ble_eq_true rfl)
  unfold M3
  rw [YW (by omega) (by omega)]
  omega
theorem zs (c : Z1) : 0 <= (YF c).2 /\ (YF c).2 <= 255 := by
  unfold YF
  exact ZW (p := fun r : Z1 × Int => 0 <= r.2 /\ r.2 <= 255) (Hv _) (Hv _)
theorem Xe (c : Z1) (n : Int) : 0 <= (ZF c n).2 /\ (0 < n -> (ZF c n).2 < n) := by
  unfold ZF
  refine KH (p := fun r : Z1 × Int => 0 <= r.2 /\ (0 < n -> r.2 < n)) (fun h => ⟨Int.le_refl _, fun h0 => h0⟩) (fun h => ?_)
  have hn : 0 < n := by simp at h; omega
  have h1 := zs c
  have h2 := zs (YF c).1
  have h3 := zs (YF (YF c).1).1
  refine ZW (p := fun r : Z1 × Int => 0 <= r.2 /\ (0 < n -> r.2 < n)) ⟨Int.tmod_nonneg _ h1.1, fun _ => Int.tmod_lt_of_pos _ hn⟩ ⟨Int.tmod_nonneg _ ?_, fun _ => Int.tmod_lt_of_pos _ hn⟩
  simp only [XT]
  omega
theorem RJ (c : Z1) (n : Int) : (ZF c n).2 <= 16777215 := by
  unfold ZF
  have h1 := zs c
  have h2 := zs (YF c).1
  have h3 := zs (YF (YF c).1).1
  refine ZW (p := fun r : Z1 × Int => r.2 <= 16777215) (show (0 : Int) <= 16777215 by decide) (KH (p := fun r : Z1 × Int => r.2 <= 16777215) (fun h => ?_) (fun h => ?_))
  · have : (Int.tmod (YF c).2 n).natAbs <= (YF c).2.natAbs := by rw [Int.natAbs_tmod]; exact Nat.mod_le _ _
    show Int.tmod _ _ <= _
    have h5 := Int.tmod_nonneg n h1.1
    omega
  · show Int.tmod _ _ <= _
    have hw : 0 <= W ((W ((W ((YF c).2 * 65536)) + (W ((YF (YF c).1).2 * 256)))) + (YF (YF (YF c).1).1).2) /\ W ((W ((W ((YF c).2 * 65536)) + (W ((YF (YF c).1).2 * 256)))) + (YF (YF (YF c).1).1).2) <= 16777215 := by
      simp only [XT]; omega
    have h4 : (Int.tmod (W ((W ((W ((YF c).2 * 65536)) + (W ((YF (YF c).1).2 * 256)))) + (YF (YF (YF c).1).1).2)) n).natAbs <= (W ((W ((W ((YF c).2 * 65536)) + (W ((YF (YF c).1).2 * 256)))) + (YF (YF (YF c).1).1).2)).natAbs := by rw [Int.natAbs_tmod]; exact Nat.mod_le _ _
    have h5 := Int.tmod_nonneg n hw.1
    omega
theorem Tg (c : Z1) : (KB c).2.size <= 11 := by
  unfold KB TG
  exact CR (by decide) _
theorem Q0 (a0 : ZN) : (YB a0).length <= a0.Frame.ZM.length := by
  have e := SX (F := Qf a0) (fun _ _ => rfl) (fun _ _ _ => rfl) (a0.Frame.ZM.length + 1) [] 0
  have : (YB a0).length <= 0 + (a0.Frame.ZM.length - 0) := e
  omega
theorem SY (a0 : XG) (a1 : Int) (h : JG a0 a1 = true) : a0.ZE.length <= 8 := by
  unfold JG at h
  have hk : ∀ n v r, Jb a0 n v = .inl r -> r = false := by
    intro n
    induction n with
    | zero => intro v r h; cases h
    | succ n ih =>
      intro v r h
      rw [Jb] at h
      revert h
      exact ZW (p := fun w => w = Sum.inl r -> r = false) (ZW (p := fun w => w = Sum.inl r -> r = false) (fun h => by cases h; rfl) (fun h => ih _ _ h)) (fun h => by cases h)
  cases hh : Jb a0 (a0.ZE.length + 1) 0 with
  | inl r => rw [hh] at h; have := hk _ _ _ hh; subst this; cases h
  | inr u =>
    rw [hh] at h
    simp only [YA, Bool.and_eq_true, decide_eq_true_eq] at h
    omega
theorem yl {n : Nat} {a0 : ZJ} {a2 : List Int} (h : Sm n a0) : ∀ (m v : Nat) (l : List Zk), (∀ x ∈ l, Sm n x) -> l.length <= v -> v <= a2.length ->
    (∀ r, Qj a0 a2 m v l = .inl r -> r = (XG.mk 0 0 [] 0, false)) /\ ∀ z, Qj a0 a2 m v l = .inr z -> z.length <= a2.length /\ ∀ x ∈ z, Sm n x
  | 0, v, l, _, _, _ => ⟨fun r h => (by cases h), fun z h => (by cases h; exact ⟨Nat.zero_le _, fun x hx => (by cases hx)⟩)⟩
  | m + 1, v, l, hs, hl, hv => by
    rw [Qj]
    let p := fun w : Sum (XG × Bool) (List Zk) => (∀ r, w = .inl r -> r = (XG.mk 0 0 [] 0, false)) /\ ∀ z, w = .inr z -> z.length <= a2.length /\ ∀ x ∈ z, Sm n x
    refine KH (p := p) (fun hc => ?_) (fun _ => ⟨fun r h => (by cases h), fun z h => (by cases h; exact ⟨by omega, hs⟩)⟩)
    have hc : v < a2.length := by simpa using hc
    refine ZW (p := p) ⟨fun r h => (by cases h; rfl), fun z h => (by cases h)⟩ ?_
    refine yl h m (v + 1) _ (fun x hx => ?_) (by simp; omega) hc
    rcases List.mem_append.1 hx with hx | hx
    · exact hs x hx
    · have e := List.mem_singleton.1 hx
      subst e
      exact Zu (ZJ.Y4 h)
theorem qZ {n : Nat} {a0 : ZJ} {a1 a3 : Int} {a2 : List Int} (h : Sm n a0) (h2 : Sm n a2) : Sm n (Yq a0 a1 a2 a3).1 := by
  unfold Yq
  obtain ⟨k1, k2⟩ := yl (a2 := a2) h (a2.length + 1) 0 [] (fun x hx => (by cases hx)) (Nat.zero_le _) (Nat.zero_le _)
  have h0 : Sm n (XG.mk 0 0 [] 0) := by simp [XA]
  cases hh : Qj a0 a2 (a2.length + 1) 0 [] with
  | inl r => rw [k1 r hh]; exact h0
  | inr z =>
    obtain ⟨q1, q2⟩ := k2 z hh
    have hz : Sm n z := ⟨by have := Yb h2; omega, q2⟩
    dsimp only
    refine ZW (p := fun w : XG × Bool => Sm n w.1) h0 ?_
    simp [hz]
theorem TZ {n : Nat} {a0 : ZJ} {a1 : Int} (h : Sm n a0) : Sm n (zC a0 a1).1 := by
  have hi := ZJ.Y4 h
  have hl := Yb hi
  have key : ∀ m v l, (∀ x ∈ l, Sm n x) -> l.length <= v -> v <= a0.ZE.length -> (KN a0 a1 m v l).length <= a0.ZE.length /\ ∀ x ∈ KN a0 a1 m v l, Sm n x := by
    intro m
    induction m with
    | zero => intro v l _ _ _; exact ⟨Nat.zero_le _, fun x hx => (by cases hx)⟩
    | succ m ih =>
      intro v l hs hl hv
      rw [KN]
      let p := fun w : List Zk => w.length <= a0.ZE.length /\ ∀ x ∈ w, Sm n x
      refine KH (p := p) (fun hc => ?_) (fun _ => ⟨by omega, hs⟩)
      have hc : v < a0.ZE.length := by simpa using hc
      refine ZW (p := p) (ih _ _ (fun x hx => ?_) (by simp; omega) hc) (ih _ _ hs (by omega) hc)
      rcases List.mem_append.1 hx with hx | hx
      · exact hs x hx
      · have e := List.mem_singleton.1 hx
        subst e
        exact Zu hi
  unfold zC
  obtain ⟨k1, k2⟩ := key (a0.ZE.length + 1) 0 [] (fun x hx => (by cases hx)) (Nat.zero_le _) (Nat.zero_le _)
  refine ZW (p := fun w : ZJ × Bool => Sm n w.1) h ?_
  exact ⟨by dsimp only; omega, k2⟩
theorem JK (c : Z1) : (Zo c).2.length = 10 := by simp [Zo]
theorem TN {n : Nat} (h : 4 <= n) : Sm n JH := ⟨h, fun _ _ => trivial⟩
theorem L6 {n : Nat} (h : 4 <= n) : Sm n jL := ⟨h, fun _ _ => trivial⟩
theorem IH {n : Nat} (h : 3 <= n) : Sm n jM := ⟨h, fun _ _ => trivial⟩
theorem qG (a0 : Int) (a1 : List ByteArray) (a2 : Int) : ∀ (m v : Nat) (l : List Int), (J3 a0 a1 a2 m v l).length <= l.length + m
  | 0, _, _ => Nat.zero_le _
  | m + 1, v, l => by
    rw [J3]
    refine ZW (p := fun r : List Int => r.length <= l.length + (m + 1)) ?_ (by omega)
    have := qG a0 a1 a2 m (v + 1) (l ++ [Vz 1 (yU a2 [a0, v])])
    simp only [List.length_append, List.length_singleton] at this
    omega
theorem Sv {n : Nat} {a0 : Int} {a1 : List ByteArray} {a2 : Int} (h : Sm n a1) (hn : a1.length + 1 <= n) : Sm n (J4 a0 a1 a2).1 := by
  unfold J4
  have := qG a0 a1 a2 (a1.length + 1) 0 []
  refine ZW (p := fun r : ZV × Bool => Sm n r.1) ⟨Sz.zero n, Sz.zero n⟩ ⟨h, Nat.le_trans this (by simpa using hn), fun _ _ => trivial⟩
theorem Tb : ∀ (m : Nat) (l : List ByteArray) (i : Int) (b : List UInt8) (j : Nat) (h : Int), (∀ x ∈ l, x.size <= 11) -> (xY m l i b j h).1.length <= l.length + m /\ ∀ x ∈ (xY m l i b j h).1, x.size <= 11
  | 0, _, _, _, _, _, _ => ⟨Nat.zero_le _, fun x hx => by cases hx⟩
  | m + 1, l, i, b, j, h, hl => by
    rw [xY]
    refine ZW (p := fun r : (List ByteArray) × (List UInt8) × Nat × Int => r.1.length <= l.length + (m + 1) /\ ∀ x ∈ r.1, x.size <= 11) ?_ ⟨by show l.length <= _; omega, hl⟩
    have := Tb m (l ++ [(KB (Z1.mk b j h)).2]) (W (i - 1)) (KB (Z1.mk b j h)).1.b (KB (Z1.mk b j h)).1.i (KB (Z1.mk b j h)).1.h (fun x hx => by
      rcases List.mem_append.1 hx with hx | hx
      · exact hl x hx
      · rw [List.mem_singleton.1 hx]; exact Tg _)
    simp only [List.length_append, List.length_singleton] at this
    exact ⟨by omega, this.2⟩
theorem Pe {n : Nat} {a0 : Z1} (h : 20 <= n) : Sm n (Y7 a0).2 := by
  unfold Y7
  have := Tb 5 [] (W (1 + (ZF a0 3).2)) (ZF a0 3).1.b (ZF a0 3).1.i (ZF a0 3).1.h (fun x hx => by cases hx)
  simp only [List.length_nil] at this
  exact Sv ⟨by omega, fun x hx => Nat.le_trans (this.2 x hx) (by omega)⟩ (by omega)
theorem Mu {n m : Nat} {a0 : ZZ} {a1 : ZS} (hn : n + 1 <= m) (h : Sm n a0) (hx : Sm m a1) : Sm m (KL a0 a1).1 := by
  have h1 : Sm m a0 := ZU (by omega) h
  unfold KL
  refine ZW (p := fun r : ZZ × Bool => Sm m r.1) h1 ⟨⟨?_, fun y hy => ?_⟩, h1.2⟩
  · have : a0.ZH.length <= n := h.1.1
    simp only [List.length_append, List.length_singleton]; omega
  · rcases List.mem_append.1 hy with hy | hy
    · exact h1.1.2 y hy
    · rw [List.mem_singleton.1 hy]; exact hx
theorem V1 {n m : Nat} {a0 : ZZ} {a1 : Zi} (hn : n + 1 <= m) (h : Sm n a0) (hx : Sm m a1) : Sm m (Xi a0 a1).1 := by
  have h1 : Sm m a0 := ZU (by omega) h
  unfold Xi
  refine ZW (p := fun r : ZZ × Bool => Sm m r.1) h1 ⟨h1.1, ⟨?_, fun y hy => ?_⟩⟩
  · have : a0.ZY.length <= n := h.2.1
    simp only [List.length_append, List.length_singleton]; omega
  · rcases List.mem_append.1 hy with hy | hy
    · exact h1.2.2 y hy
    · rw [List.mem_singleton.1 hy]; exact hx
theorem WG {n : Nat} {a0 : Int} (h : 20 <= n) : Sm n (yM a0) := by
  have hw : ∀ (k : Int) (l : List Int), l.length <= 1 -> Sm n (ZN.mk (Ze.mk Kj JH jL k 0) jM ([(-1), (-1), (-1)] : List Int) ([(ZJ.mk 0 ([] : List Zk)), (ZJ.mk 1 ([] : List Zk))] : List ZJ) ([0, 0, 0, 0] : List Int) l 1 ([] : List Int)) := fun k l hl => by
    have h1 := kl (n := n) (by omega)
    have h2 := TN (n := n) (by omega)
    have h3 := L6 (n := n) (by omega)
    have h4 := IH (n := n) (by omega)
    have h5 : Sm n ([(ZJ.mk 0 ([] : List Zk)), (ZJ.mk 1 ([] : List Zk))] : List ZJ) := ⟨by simp; omega, fun y hy => by
      rcases List.mem_cons.1 hy with rfl | hy
      · exact Sz.zero (α := List Zk) _
      · rw [List.mem_singleton.1 hy]; exact Sz.zero (α := List Zk) _⟩
    have h6 : ∀ l : List Int, l.length <= 20 -> Sm n l := fun l hl => ⟨by omega, fun _ _ => trivial⟩
    simp only [ZN.ki, Ze.ki]
    simp only [h1, h2, h3, h4, h5, h6 _ (show ([(-1), (-1), (-1)] : List Int).length <= 20 by decide), h6 _ (show ([0, 0, 0, 0] : List Int).length <= 20 by decide), h6 l (by omega), h6 [] (by decide), and_self]
  unfold yM
  exact ZW (p := fun r : ZN => Sm n r) (hw _ _ (by decide)) (hw _ _ (by decide))
theorem qu {n : Nat} {a0 : ZN} {i : Nat} {x : ZJ} (h : Sm n a0) (hx : Sm n x) : Sm n (ZN.mk a0.Frame a0.ZT a0.YX (a0.ZB.set i x) a0.QA a0.XK a0.Next a0.XJ) :=
  ⟨h.1, h.2.1, h.2.2.1, W1 h.2.2.2.1 hx, h.2.2.2.2⟩
theorem M9 {n : Nat} {a0 : ZN} {a1 : Int} (h : Sm n a0) : Sm n (xW a0 a1).1 := by
  refine ZW (p := fun w : ZN × Bool => Sm n w.1) h ?_
  exact ⟨h.1, h.2⟩
theorem OK {n : Nat} {a0 : ZN} {a1 : Int} (h : Sm n a0) : Sm n (zm a0 a1).1 := by
  refine ZW (p := fun w : ZN × Bool => Sm n w.1) h ?_
  exact ⟨h.1, h.2.1, W1 h.2.2.1 trivial, h.2.2.2⟩
theorem Mw {n : Nat} {a0 : ZN} {a1 a2 : Int} {a3 : ZV} {a4 a5 : Int} (h : Sm n a0) (hd : Sm n a3) (hn : 9 <= n) : Sm (n + 1) (xS a0 a1 a2 a3 a4 a5).1 := by
  have h1 : Sm (n + 1) a0 := ZU (Nat.le_succ n) h
  have ha : Sm (n + 1) (XY (nth a0.ZB a1.toNat) (XI a0 a2 a3 a4 a5).1).1 := qj (Zu (ZN.YQ h)) (Jh hd hn)
  refine ZW (p := fun w : ZN × Bool => Sm (n + 1) w.1) h1 (ZW (p := fun w : ZN × Bool => Sm (n + 1) w.1) h1 (ZW (p := fun w : ZN × Bool => Sm (n + 1) w.1) h1 ?_))
  exact ⟨h1.1, h1.2.1, h1.2.2.1, W1 h1.2.2.2.1 ha, h1.2.2.2.2⟩
theorem NZ {n : Nat} {a0 : ZN} {a1 a2 : Int} {a3 : ZV} (h : Sm n a0) (hd : Sm n a3) (hn : 9 <= n) : Sm (n + 1) (yX a0 a1 a2 a3).1 := by
  have h1 : Sm (n + 1) a0 := ZU (Nat.le_succ n) h
  have ha : Sm (n + 1) (XY (nth a0.ZB a1.toNat) (XI a0 a2 a3 0 10000).1).1 := qj (Zu (ZN.YQ h)) (Jh hd hn)
  refine ZW (p := fun w : ZN × Bool => Sm (n + 1) w.1) h1 (ZW (p := fun w : ZN × Bool => Sm (n + 1) w.1) h1 (ZW (p := fun w : ZN × Bool => Sm (n + 1) w.1) h1 ?_))
  have := Yb (ZN.FY h)
  exact ⟨h1.1, h1.2.1, h1.2.2.1, W1 h1.2.2.2.1 ha, h1.2.2.2.2.1, h1.2.2.2.2.2.1, ⟨by simp; omega, fun _ _ => trivial⟩⟩
theorem UN {n : Nat} {a0 : ZJ} {a1 : Int} {a2 : ZS} (h : Sm n a0) (hp : Sm (n + 1) a2) : Sm (n + 1) (YD a0 a1 a2).1 := by
  have h1 : Sm (n + 1) a0 := ZU (Nat.le_succ n) h
  refine ZW (p := fun w : ZJ × Bool => Sm (n + 1) w.1) h1 ?_
  refine W1 (ZJ.Y4 h1) ?_
  have hi : Sm n (nth a0.ZE (YU a0 a1).toNat) := Zu (ZJ.Y4 h)
  exact ⟨(ZU (Nat.le_succ n) hi).1, Mu (Nat.le_refl _) hi.2 hp⟩
theorem OC {n : Nat} {a0 : ZN} {a1 : Int} (h : Sm n a0) (hn : 5 <= n) : Sm (n + 1) (zc a0 a1).1 := by
  have h1 : Sm (n + 1) a0 := ZU (Nat.le_succ n) h
  let p := fun w : ZN × Bool => Sm (n + 1) w.1
  have k : ∀ i x, Sm (n + 1) (ZN.mk a0.Frame a0.ZT a0.YX (a0.ZB.set i (YD (nth a0.ZB i) a1 (Zm x)).1) a0.QA a0.XK a0.Next a0.XJ) := fun i x =>
    qu h1 (UN (Zu (ZN.YQ h)) (Yr (by omega)))
  exact ZW (p := p) h1 (ZW (p := p) h1 (ZW (p := p) (ZW (p := p) h1 (k _ _)) (ZW (p := p) h1 (k _ _))))
theorem MW {n : Nat} {a0 : ZN} {a1 a2 : Int} (h : Sm n a0) (hn : 5 <= n) : Sm (n + 1) (xd a0 a1 a2).1 := by
  have h1 : Sm (n + 1) a0 := ZU (Nat.le_succ n) h
  let p := fun w : ZN × Bool => Sm (n + 1) w.1
  have k : ∀ i x, Sm (n + 1) (ZN.mk a0.Frame a0.ZT a0.YX (a0.ZB.set i (YD (nth a0.ZB i) a1 (Zm x)).1) a0.QA a0.XK a0.Next a0.XJ) := fun i x =>
    qu h1 (UN (Zu (ZN.YQ h)) (Yr (by omega)))
  exact ZW (p := p) h1 (ZW (p := p) h1 (ZW (p := p) h1 (k _ _)))
theorem P3 {n : Nat} {a0 : ZJ} {a1 : Int} (h : Sm n a0) : Sm n (KV a0 a1).1 := by
  have hi := ZJ.Y4 h
  have key : ∀ m c v l, (∀ x ∈ l, Sm n x) -> l.length <= v -> v <= a0.ZE.length -> (Qg a0 a1 m c v l).2.length <= a0.ZE.length /\ ∀ x ∈ (Qg a0 a1 m c v l).2, Sm n x := by
    intro m
    induction m with
    | zero => intro c v l _ _ _; exact ⟨Nat.zero_le _, fun x hx => (by cases hx)⟩
    | succ m ih =>
      intro c v l hs hl hv
      rw [Qg]
      let p := fun w : Int × List Zk => w.2.length <= a0.ZE.length /\ ∀ x ∈ w.2, Sm n x
      refine KH (p := p) (fun hc => ?_) (fun _ => ⟨by show l.length <= _; omega, hs⟩)
      have hc : v < a0.ZE.length := by simpa using hc
      refine ZW (p := p) (ih _ _ _ hs (by omega) hc) (ih _ _ _ (fun x hx => ?_) (by simp; omega) hc)
      rcases List.mem_append.1 hx with hx | hx
      · exact hs x hx
      · have e := List.mem_singleton.1 hx
        subst e
        exact Zu hi
  have hk := key (a0.ZE.length + 1) 0 0 [] (fun x hx => (by cases hx)) (Nat.zero_le _) (Nat.zero_le _)
  have := Yb hi
  unfold KV
  cases hh : Qg a0 a1 (a0.ZE.length + 1) 0 0 [] with
  | mk z0 z1 => rw [hh] at hk; exact ⟨by show z1.length <= n; have := hk.1; simp only at this; omega, hk.2⟩
theorem OM {n : Nat} {a0 : ZN} {a1 : Int} (h : Sm n a0) : Sm n (zu a0 a1).1 :=
  ZW (p := fun w : ZN × Bool => Sm n w.1) h (qu h (P3 (Zu (ZN.YQ h))))
theorem R9 {n : Nat} {a0 : ZJ} {a1 : Int} {a2 : List Zr} (h : Sm n a0) (hp : Sm n a2) (hn : 17 <= n) : Sm (n + 1) (Xf a0 a1 a2).1 := by
  have h1 : Sm (n + 1) a0 := ZU (Nat.le_succ n) h
  have hi := ZJ.Y4 h
  have key : ∀ m b v l, l.length = a0.ZE.length -> (∀ x ∈ l, Sm (n + 1) x) -> (Qp a0 a1 a2 m b v l).2.length <= a0.ZE.length /\ ∀ x ∈ (Qp a0 a1 a2 m b v l).2, Sm (n + 1) x := by
    intro m
    induction m with
    | zero => intro b v l _ _; exact ⟨Nat.zero_le _, fun x hx => (by cases hx)⟩
    | succ m ih =>
      intro b v l hl hs
      rw [Qp]
      let p := fun w : Bool × List Zk => w.2.length <= a0.ZE.length /\ ∀ x ∈ w.2, Sm (n + 1) x
      refine ZW (p := p) (ih _ _ _ (by rw [List.length_set]; exact hl) (fun x hx => ?_)) ⟨by show l.length <= _; omega, hs⟩
      rcases List.mem_or_eq_of_mem_set hx with hx | rfl
      · exact hs x hx
      · have fc : Sm (n + 1) (nth l v) := by
          by_cases hv : v < l.length
          · have : nth l v = l[v] := by simp [nth, List.getD_eq_getElem?_getD, List.getElem?_eq_getElem hv]
            rw [this]; exact hs _ (List.getElem_mem hv)
          · have : nth l v = default := by simp [nth, List.getD_eq_getElem?_getD, List.getElem?_eq_none (Nat.le_of_not_lt hv)]
            rw [this]; exact Sz.zero _
        have hv : Sm n (nth a0.ZE v) := Zu hi
        refine ⟨fc.1, V1 (Nat.le_refl _) hv.2 ?_⟩
        exact ⟨TP (by omega), ZU (Nat.le_succ n) hp⟩
  have hk := key (a0.ZE.length + 1) ((X6 a0) && (decide ((a0.ZE.length : Int) > 0))) 0 a0.ZE rfl (fun x hx => ZU (Nat.le_succ n) (hi.2 x hx))
  have := Yb hi
  unfold Xf
  cases hh : Qp a0 a1 a2 (a0.ZE.length + 1) ((X6 a0) && (decide ((a0.ZE.length : Int) > 0))) 0 a0.ZE with
  | mk z0 z1 =>
    rw [hh] at hk
    exact ZW (p := fun w : ZJ × Bool => Sm (n + 1) w.1) h1 ⟨by show z1.length <= n + 1; have := hk.1; simp only at this; omega, hk.2⟩
theorem kB {a0 : ZN} {a2 : List Int} : ∀ (m v : Nat) (q : List Int), (z8 a0 a2 m v q).length <= q.length
  | 0, _, _ => Nat.zero_le _
  | m + 1, v, q => by
    rw [z8]
    refine ZW (p := fun w : List Int => w.length <= q.length) ?_ (Nat.le_refl _)
    exact Nat.le_trans (kB m (v + 1) _) (by rw [List.length_set]; exact Nat.le_refl _)
theorem Wn {a0 : ZN} {a1 : Int} {a2 : List Int} {a3 : Int} : ∀ (m : Nat) (l : List Zr) (v : Nat), l.length <= v -> v <= a2.length ->
    (∀ r, Qd a0 a1 a2 a3 m l v = .inl r -> r = (a0, false)) /\ ∀ z, Qd a0 a1 a2 a3 m l v = .inr z -> z.length <= a2.length
  | 0, _, _, _, _ => ⟨fun r h => (by cases h), fun z h => (by cases h; exact Nat.zero_le _)⟩
  | m + 1, l, v, hl, hv => by
    rw [Qd]
    let p := fun w : Sum (ZN × Bool) (List Zr) => (∀ r, w = .inl r -> r = (a0, false)) /\ ∀ z, w = .inr z -> z.length <= a2.length
    have bad : p (.inl (a0, false)) := ⟨fun r h => (by cases h; rfl), fun z h => (by cases h)⟩
    refine KH (p := p) (fun hc => ?_) (fun _ => ⟨fun r h => (by cases h), fun z h => (by cases h; exact Nat.le_trans hl hv)⟩)
    have hc : v < a2.length := by simpa using hc
    have step : ∀ x, p (Qd a0 a1 a2 a3 m (l ++ [x]) (v + 1)) := fun x =>
      Wn m (l ++ [x]) (v + 1) (by simp; omega) hc
    exact ZW (p := p) (ZW (p := p) bad (step _)) (ZW (p := p) bad (step _))
theorem Nr {n : Nat} {a0 : ZN} {a1 : Int} {a2 : List Int} {a3 : Int} (h : Sm n a0) (h2 : Sm n a2) (hn : 17 <= n) : Sm (n + 1) (zN a0 a1 a2 a3).1 := by
  have h1 : Sm (n + 1) a0 := ZU (Nat.le_succ n) h
  unfold zN
  refine ZW (p := fun w : ZN × Bool => Sm (n + 1) w.1) h1 ?_
  obtain ⟨k1, k2⟩ := Wn (a0 := a0) (a1 := a1) (a2 := a2) (a3 := a3) (a2.length + 1) [] 0 (Nat.zero_le _) (Nat.zero_le _)
  cases hh : Qd a0 a1 a2 a3 (a2.length + 1) [] 0 with
  | inl r => rw [k1 r hh]; exact h1
  | inr z =>
    have q1 := k2 z hh
    have q2 := kB (a0 := a0) (a2 := a2) (a2.length + 1) 0 a0.QA
    have e2 := Yb h2
    have e3 := Yb (ZN.De h)
    have hs : Sm n z := ⟨by omega, fun _ _ => trivial⟩
    refine ZW (p := fun w : ZN × Bool => Sm (n + 1) w.1) h1 ?_
    exact ⟨h1.1, h1.2.1, h1.2.2.1, W1 h1.2.2.2.1 (R9 (Zu (ZN.YQ h)) hs hn), ⟨Nat.le_trans q2 (Nat.le_succ_of_le e3), fun _ _ => trivial⟩, h1.2.2.2.2.2⟩
theorem S8 {n : Nat} {a0 : ZJ} {a1 : XG} {a2 : Int} (h : Sm n a0) (hp : Sm n a1) : Sm (n + a1.ZE.length) (Y9 a0 a1 a2).1 := by
  have h1 : Sm (n + a1.ZE.length) a0 := ZU (Nat.le_add_right _ _) h
  have key : ∀ m b v d l, Sm (n + v) (ZJ.mk d l) -> v <= a1.ZE.length -> Sm (n + a1.ZE.length) (ZJ.mk (QV a1 m b v d l).2.1 (QV a1 m b v d l).2.2) := by
    intro m
    induction m with
    | zero => intro b v d l _ _; exact Kw
    | succ m ih =>
      intro b v d l hs hv
      rw [QV]
      let p := fun w : Bool × Int × List Zk => Sm (n + a1.ZE.length) (ZJ.mk w.2.1 w.2.2)
      refine KH (p := p) (fun hc => ?_) (fun _ => ZU (Nat.add_le_add_left hv n) hs)
      have hc : v < a1.ZE.length := by rw [Bool.and_eq_true] at hc; simpa using hc.1
      exact ih _ _ _ _ (qj hs (ZU (Nat.le_add_right n v) (Zu (XG.Y4 hp)))) hc
  have hk := key (a1.ZE.length + 1) ((JG a1 a2) && (a1.To == a0.Id)) 0 a0.Id a0.ZE h (Nat.zero_le _)
  unfold Y9
  cases hh : QV a1 (a1.ZE.length + 1) ((JG a1 a2) && (a1.To == a0.Id)) 0 a0.Id a0.ZE with
  | mk z0 z =>
    rw [hh] at hk
    exact ZW (p := fun w : ZJ × Bool => Sm (n + a1.ZE.length) w.1) h1 hk
theorem Rf {n : Nat} {a0 : ZJ} {a1 : Int} {a2 : List Int} {a3 : Int} (h : Sm n a0) : (Yq a0 a1 a2 a3).1.ZE.length <= a2.length := by
  unfold Yq
  obtain ⟨k1, k2⟩ := yl (a2 := a2) h (a2.length + 1) 0 [] (fun x hx => (by cases hx)) (Nat.zero_le _) (Nat.zero_le _)
  cases hh : Qj a0 a2 (a2.length + 1) 0 [] with
  | inl r => rw [k1 r hh]; exact Nat.zero_le _
  | inr z => exact ZW (p := fun w : XG × Bool => w.1.ZE.length <= a2.length) (Nat.zero_le _) (k2 z hh).1
theorem Ni {n : Nat} {a0 a1 : ZJ} {a2 : List Int} {a3 : Int} (h0 : Sm n a0) (h1 : Sm n a1) (h2 : Sm n a2) : Sm n (Xb a0 a1 a2 a3).1 /\ Sm (n + a2.length) (Xb a0 a1 a2 a3).2.1 := by
  have fe : Sm (n + a2.length) (Y9 a1 (Yq a0 a1.Id a2 a3).1 a3).1 :=
    ZU (Nat.add_le_add_left (Rf h0) n) (S8 h1 (qZ h0 h2))
  have bad : Sm n a0 /\ Sm (n + a2.length) a1 := ⟨h0, ZU (Nat.le_add_right _ _) h1⟩
  have key : ∀ m b v d l, Sm n (ZJ.mk d l) -> Sm n (ZJ.mk (Jw a0 a1 a2 a3 m b v d l).2.1 (Jw a0 a1 a2 a3 m b v d l).2.2) := by
    intro m
    induction m with
    | zero => intro b v d l _; exact Kw
    | succ m ih =>
      intro b v d l hs
      rw [Jw]
      exact ZW (p := fun w : Bool × Int × List Zk => Sm n (ZJ.mk w.2.1 w.2.2)) (ih _ _ _ _ (TZ hs)) hs
  have hk := key (a2.length + 1) (Y9 a1 (Yq a0 a1.Id a2 a3).1 a3).2 0 a0.Id a0.ZE h0
  unfold Xb
  let p := fun w : ZJ × ZJ × Bool => Sm n w.1 /\ Sm (n + a2.length) w.2.1
  cases hh : Jw a0 a1 a2 a3 (a2.length + 1) (Y9 a1 (Yq a0 a1.Id a2 a3).1 a3).2 0 a0.Id a0.ZE with
  | mk z0 z => rw [hh] at hk; exact ZW (p := p) bad ⟨hk, fe⟩
theorem Mm {n : Nat} {a0 : ZN} {a1 a2 a3 : Int} (h : Sm n a0) (hn : 1 <= n) : Sm (n + 1) (xe a0 a1 a2 a3).1 := by
  have h1 : Sm (n + 1) a0 := ZU (Nat.le_succ n) h
  have hm := Ni (a0 := nth a0.ZB a1.toNat) (a1 := nth a0.ZB a2.toNat) (a2 := [a3]) (a3 := Zc a0.Frame.Methods a0.Frame.Now) (Zu (ZN.YQ h)) (Zu (ZN.YQ h)) ⟨hn, fun _ _ => trivial⟩
  let p := fun w : ZN × Bool => Sm (n + 1) w.1
  exact ZW (p := p) h1 ⟨h1.1, h1.2.1, h1.2.2.1, W1 (W1 h1.2.2.2.1 (ZU (Nat.le_succ n) hm.1)) hm.2, h1.2.2.2.2⟩
theorem qd {a0 : ZN} {a1 a2 : Int} : ∀ (m v : Nat) (l : List Zr), (∀ r, X4 a0 a1 a2 m v l = .inl r -> r = (a0, false)) /\ ∀ z, X4 a0 a1 a2 m v l = .inr z -> z.length <= l.length + ((YB a0).length - v)
  | 0, v, l => ⟨fun r h => (by cases h), fun z h => (by cases h; exact Nat.zero_le _)⟩
  | m + 1, v, l => by
    rw [X4]
    let p := fun w : Sum (ZN × Bool) (List Zr) => (∀ r, w = .inl r -> r = (a0, false)) /\ ∀ z, w = .inr z -> z.length <= l.length + ((YB a0).length - v)
    refine KH (p := p) (fun hc => ?_) (fun _ => ⟨fun r h => (by cases h), fun z h => (by cases h; exact Nat.le_add_right _ _)⟩)
    have hc : v < (YB a0).length := by simpa using hc
    have step : ∀ x, p (X4 a0 a1 a2 m (v + 1) (l ++ [x])) := fun x => by
      obtain ⟨k1, k2⟩ := qd (a0 := a0) (a1 := a1) (a2 := a2) m (v + 1) (l ++ [x])
      exact ⟨k1, fun z hz => by have := k2 z hz; rw [List.length_append, List.length_singleton] at this; omega⟩
    exact ZW (p := p) ⟨fun r h => (by cases h; rfl), fun z h => (by cases h)⟩ (step _)
theorem SZ {n : Nat} {a0 : ZN} {a1 a2 : Int} (h : Sm n a0) : Sm (n + 1) (JO a0 a1 a2).1 := by
  have h1 : Sm (n + 1) a0 := ZU (Nat.le_succ n) h
  unfold JO
  refine ZW (p := fun w : ZN × Bool => Sm (n + 1) w.1) h1 ?_
  obtain ⟨k1, k2⟩ := qd (a0 := a0) (a1 := a1) (a2 := a2) ((YB a0).length + 1) 0 []
  cases hh : X4 a0 a1 a2 ((YB a0).length + 1) 0 [] with
  | inl r => rw [k1 r hh]; exact h1
  | inr z =>
    have hz := k2 z hh
    have hf := Q0 a0
    have ha := Yb (Ze.Xc (ZN.Xj h))
    rw [List.length_nil] at hz
    have hA : Sm n (nth a0.ZB (ZA a0 a1).1.toNat) := Zu (ZN.YQ h)
    have hI : Sm n (nth (nth a0.ZB (ZA a0 a1).1.toNat).ZE (ZA a0 a1).2.toNat) := Zu (ZJ.Y4 hA)
    refine qu h1 (W1 (ZJ.Y4 (ZU (Nat.le_succ n) hA)) ⟨(ZU (Nat.le_succ n) hI).1, V1 (Nat.le_refl _) hI.2 ?_⟩)
    exact ⟨Kw, ⟨by show z.length <= n + 1; omega, fun _ _ => trivial⟩⟩
theorem Wu {n : Nat} {a0 : ZN} {a1 : Zn} (h : Sm n a0) (he : Sm n a1) (hn : 17 <= n) : Sm (n + 1) (XB a0 a1).1 := by
  have h1 : Sm (n + 1) a0 := ZU (Nat.le_succ n) h
  have up : ∀ w : ZN, Sm n w -> Sm (n + 1) w := fun w hw => ZU (Nat.le_succ n) hw
  unfold XB
  let p := fun w : ZN × Bool => Sm (n + 1) w.1
  exact ZW (p := p) (up _ (M9 h)) (ZW (p := p) (Mw h he.1 (by omega)) (ZW (p := p) (OC h (by omega)) (ZW (p := p) (up _ (OK h)) (ZW (p := p) (Nr h he.2 hn) (ZW (p := p) (Mm h (by omega)) (ZW (p := p) (up _ (OM h))
    (ZW (p := p) (NZ h he.1 (by omega)) (ZW (p := p) (SZ h) (ZW (p := p) (MW h (by omega)) h1)))))))))
theorem Wp (a1 : List Zn) (N : Nat) (he : ∀ i, Sm N (nth a1 i)) (fa : 17 <= N) : ∀ (m v : Nat) (k : List Yj) (au : List Zg) (me : List YJ) (li nw : Int) (c : List YY) (en : List Int) (ar : List ZJ) (sq ly : List Int) (nx : Int) (fo : List Int), a1.length < m + v -> v <= a1.length -> Sm (N + v) (ZN.mk (Ze.mk k au me li nw) c en ar sq ly nx fo) ->
    Sm (N + a1.length) (match z5 a1 m v k au me li nw c en ar sq ly nx fo with | (z1_0, z1_1, z1_2, z1_3, z1_4, z1_5, z1_6, z1_7, z1_8, z1_9, z1_10, z1_11) => ZN.mk (Ze.mk z1_0 z1_1 z1_2 z1_3 z1_4) z1_5 z1_6 z1_7 z1_8 z1_9 z1_10 z1_11)
  | 0, v, _, _, _, _, _, _, _, _, _, _, _, _, h, hv, _ => by omega
  | m + 1, v, k, au, me, li, nw, c, en, ar, sq, ly, nx, fo, h, hv, hs => by
    rw [z5]
    by_cases wO : v < a1.length
    · rw [decide_eq_true (show (v : Int) < (a1.length : Int) by omega), Kx]
      have ha := Wu hs (ZU (Nat.le_add_right N v) (he v)) (by omega)
      exact Wp a1 N he fa m (v + 1) _ _ _ _ _ _ _ _ _ _ _ _ (by omega) wO ha
    · rw [decide_eq_false (show ¬ (v : Int) < (a1.length : Int) by omega), KS]
      exact ZU (Nat.add_le_add_left hv N) hs
theorem NS {n : Nat} {a0 : ZN} {a1 : List Zn} (h : Sm n a0) (he : Sm n a1) (hn : 17 <= n) : Sm (n + a1.length) (kb a0 a1) :=
  Wp a1 n (fun _ => Zu he) hn (a1.length + 1) 0 _ _ _ _ _ _ _ _ _ _ _ _ (by omega) (Nat.zero_le _) h
theorem WZ {n : Nat} {a0 : Z1} {a1 : Int} (h : 20 <= n) : Sm n (Yl a0 a1).2 := by
  have hd : Sm n (ZV.mk 0 ([] : List ByteArray) ([] : List Int)) := ⟨Kw, Kw⟩
  have hl : ∀ l : List Int, l.length <= 20 -> Sm n l := fun l hl => ⟨by omega, fun _ _ => trivial⟩
  unfold Yl
  let p := fun z : Z1 × Zn => Sm n z.2
  refine ZW (p := p) (ZW (p := p) (ZW (p := p) ?_ ?_) (ZW (p := p) ?_ ?_)) (ZW (p := p) (ZW (p := p) ?_ ?_) (ZW (p := p) ?_ ?_))
  all_goals exact ⟨hd, hl _ (Nat.le_of_ble_eq_true rfl)⟩
theorem Pn {n : Nat} {a0 : Z1} (h : 20 <= n) : Sm n (Zo a0).2 := by
  have hd : Sm n (ZV.mk 0 ([] : List ByteArray) ([] : List Int)) := ⟨Kw, Kw⟩
  have e0 : ∀ a b, Sm n (Zn.mk a b 0 0 0 (ZV.mk 0 ([] : List ByteArray) ([] : List Int)) ([] : List Int)) := fun a b => ⟨hd, Kw⟩
  refine ⟨by rw [JK]; omega, ?_⟩
  unfold Zo
  exact S6 (S6 (S6 (all_cons (e0 _ _) (all_cons ⟨Pe h, Kw⟩ (all_cons (e0 _ _) (all_cons (e0 _ _) all_nil)))) (all_cons (WZ h) (all_cons (e0 _ _) all_nil))) (all_cons (WZ h) (all_cons (e0 _ _) all_nil))) (all_cons (WZ h) (all_cons (e0 _ _) all_nil))
theorem MJ {n : Nat} {a0 : Z1} (h : 20 <= n) : Sm n (Yy a0).2 := by
  have hd : Sm n (ZV.mk 0 ([] : List ByteArray) ([] : List Int)) := ⟨Kw, Kw⟩
  have hi : Sm n ([1, 2, 3, 4] : List Int) := ⟨Nat.le_trans (by decide) h, fun _ _ => trivial⟩
  have hx := fun c => Pe (a0 := c) h
  have L : ∀ (c : Z1) (k a b e f : Int) (d : ZV) (ids : List Int), Sm n d -> Sm n ids -> Sm n ((c, Zn.mk k a b e f d ids) : Z1 × Zn).2 := fun _ _ _ _ _ _ _ _ h1 h2 => ⟨h1, h2⟩
  unfold Yy
  generalize ZF a0 16 = q
  iterate 13 (refine ZW (p := fun z : Z1 × Zn => Sm n z.2) ?_ ?_; (first | with_reducible exact L _ _ _ _ _ _ _ _ hd Kw | with_reducible exact L _ _ _ _ _ _ _ _ (hx _) Kw))
  exact L _ _ _ _ _ _ _ _ hd (FD (Dc hi))
theorem kc {p : Zn -> Prop} (hp : ∀ c, p (Yy c).2) : ∀ (m : Nat) (l : List Zn) (k : Int) (b : List UInt8) (i : Nat) (h : Int), (∀ x ∈ l, p x) -> ∀ x ∈ (JA m l k b i h).1, p x
  | 0, _, _, _, _, _, _ => all_nil
  | m + 1, l, k, b, i, h, hl => by
    rw [JA]
    exact ZW (p := fun z : (List Zn) × (List UInt8) × Nat × Int => ∀ x ∈ z.1, p x) (kc hp m _ _ _ _ _ (S6 hl (all_cons (hp _) all_nil))) hl
theorem kP {p : Zn -> Prop} (hp : ∀ c, p (Yy c).2) : ∀ (m : Nat) (l : List Zn) (k : Int) (b : List UInt8) (i : Nat) (h : Int), (∀ x ∈ l, p x) -> ∀ x ∈ (JF m l k b i h).1, p x
  | 0, _, _, _, _, _, _ => all_nil
  | m + 1, l, k, b, i, h, hl => by
    rw [JF]
    exact ZW (p := fun z : (List Zn) × (List UInt8) × Nat × Int => ∀ x ∈ z.1, p x) (kP hp m _ _ _ _ _ (S6 hl (all_cons (hp _) all_nil))) hl
theorem jS : ∀ (m : Nat) (l : List Zn) (k : Int) (b : List UInt8) (i : Nat) (h : Int), k <= 16777215 -> (JA m l k b i h).1.length <= l.length + k.toNat
  | 0, _, _, _, _, _, _ => Nat.zero_le _
  | m + 1, l, k, b, i, h, hk => by
    rw [JA]
    by_cases hc : k > 0
    · rw [decide_eq_true hc, Kx]
      have hw : W (k - 1) = k - 1 := by simp only [XT]; omega
      have := jS m (l ++ [(Yy (Z1.mk b i h)).2]) (W (k - 1)) (Yy (Z1.mk b i h)).1.b (Yy (Z1.mk b i h)).1.i (Yy (Z1.mk b i h)).1.h (by omega)
      rw [List.length_append, List.length_singleton] at this
      omega
    · rw [decide_eq_false hc, KS]
      exact Nat.le_add_right _ _
theorem jd : ∀ (m : Nat) (l : List Zn) (k : Int) (b : List UInt8) (i : Nat) (h : Int), k <= 16777215 -> (JF m l k b i h).1.length <= l.length + k.toNat
  | 0, _, _, _, _, _, _ => Nat.zero_le _
  | m + 1, l, k, b, i, h, hk => by
    rw [JF]
    by_cases hc : k > 0
    · rw [decide_eq_true hc, Kx]
      have hw : W (k - 1) = k - 1 := by simp only [XT]; omega
      have := jd m (l ++ [(Yy (Z1.mk b i h)).2]) (W (k - 1)) (Yy (Z1.mk b i h)).1.b (Yy (Z1.mk b i h)).1.i (Yy (Z1.mk b i h)).1.h (by omega)
      rw [List.length_append, List.length_singleton] at this
      omega
    · rw [decide_eq_false hc, KS]
      exact Nat.le_add_right _ _
theorem jW {n : Nat} {a0 : Z1} {a1 : Int} (h : 40 <= n) (h0 : 0 < a1) (h1 : a1 <= 20) : Sm n (Jm a0 a1).2 := by
  have hp := fun c => MJ (n := n) (a0 := c) (by omega)
  have hc := Pn (n := n) (a0 := (Z3 a0 2).1) (by omega)
  have hl := JK (Z3 a0 2).1
  unfold Jm
  generalize Z3 a0 2 = q at hc hl ⊢
  generalize Zo q.1 = r at hc hl ⊢
  generalize ZF r.1 (W ((r.2.length : Int) + 1)) = t
  have z1 := Xe t.1 a1
  have z2 := Xe q.1 a1
  generalize ZF t.1 a1 = u at z1 ⊢
  generalize ZF q.1 a1 = v at z2 ⊢
  have k1 := kc hp (u.2.toNat + 2) (r.2.take t.2.toNat) u.2 u.1.b u.1.i u.1.h (FD hc).2
  have k2 := jS (u.2.toNat + 2) (r.2.take t.2.toNat) u.2 u.1.b u.1.i u.1.h (by omega)
  have k3 := kP hp (v.2.toNat + 2) [] v.2 v.1.b v.1.i v.1.h all_nil
  have k4 := jd (v.2.toNat + 2) [] v.2 v.1.b v.1.i v.1.h (by omega)
  rw [List.length_take, hl] at k2
  rw [List.length_nil] at k4
  generalize JA (u.2.toNat + 2) (r.2.take t.2.toNat) u.2 u.1.b u.1.i u.1.h = y at k1 k2 ⊢
  generalize JF (v.2.toNat + 2) [] v.2 v.1.b v.1.i v.1.h = z at k3 k4 ⊢
  obtain ⟨y1, y2, y3, y4⟩ := y
  obtain ⟨w1, w2, w3, w4⟩ := z
  dsimp only at k1 k2 k3 k4 ⊢
  have k5 : y1.length <= n := by omega
  have k6 : w1.length <= n := by omega
  exact ZW (p := fun z : Z1 × (List Zn) => Sm n z.2) ⟨k5, k1⟩ ⟨k6, k3⟩
theorem Mt {n : Nat} {a0 : Z1} (h : 100 <= n) : Sm n (Yt a0).2 := by
  have h1 := WG (n := 40) (a0 := (ZF a0 2).2) (by decide)
  have h2 := jW (n := 40) (a0 := (ZF a0 2).1) (a1 := 10) (by decide) (by decide) (by decide)
  unfold Yt
  generalize yM (ZF a0 2).2 = w at h1 ⊢
  generalize Jm (ZF a0 2).1 10 = e at h2 ⊢
  have h3 := NS h1 h2 (by decide)
  have h4 := Yb h2
  exact ZU (by omega) h3
theorem Ye {n : Nat} {a0 : List UInt8} (h : 100 <= n) : Sm n (Zv a0) := by
  have k := Mt (a0 := QH a0) h
  unfold Zv zU
  generalize Yt (QH a0) = w at k ⊢
  obtain ⟨c, ⟨f, ce, en, ar, sq, ly, nx, fo⟩⟩ := w
  dsimp only
  obtain ⟨kf, k1, k2, k3, k4, k5, k6⟩ := k
  refine ZW (p := fun z : ZN => Sm n z) ⟨kf, k1, k2, k3, k4, k5, ⟨Nat.le_trans (show 1 <= 100 by decide) h, fun _ _ => trivial⟩⟩ ?_
  exact ZW (p := fun z : ZN => Sm n z) ⟨kf, k1, k2, k3, k4, k5, k6⟩ ⟨kf, k1, k2, k3, k4, k5, k6⟩
theorem NK {n : Nat} : ∀ (l : List ZJ), (∀ a ∈ l, Sm n a) -> itn l <= l.length * n
  | [], _ => Nat.zero_le _
  | a :: l, h => by
    have h1 : a.ZE.length <= n := Yb (ZJ.Y4 (h a List.mem_cons_self))
    have h2 := NK l (fun b hb => h b (List.mem_cons_of_mem _ hb))
    show a.ZE.length + itn l <= (l.length + 1) * n
    rw [Nat.add_mul, Nat.one_mul]
    omega
theorem D8 {n : Nat} {w : ZN} (h : Sm n w) : itn w.ZB <= n * n :=
  have k := ZN.YQ h
  Nat.le_trans (NK w.ZB k.2) (Nat.mul_le_mul_right n k.1)
theorem Yi (a0 : List UInt8) : itn (Zv a0).ZB <= 1048576 := Nat.le_trans (D8 (Ye (n := 100) (Nat.le_refl _))) (by decide)
end Go.Mo
