/- Plain lemmas on the models of the helpers. No condition. -/
import Derived.Test.YthjkhlcbpfnobaaGreatM
namespace Go.Mo
open Go.Vm
set_option linter.unusedSimpArgs false
set_option linter.unusedVariables false
theorem QI (a0 : List XD) (a1 : Int) : YT a0 a1 < (a0.length : Int) := xw (F := Wl a0 a1) (c := fun J => ((nth a0 J).Number == a1)) (fun _ => rfl) (fun _ _ => rfl) _ _
theorem La (a0 : Zu) : U8 a0 = a0 := rfl
theorem IS (a0 : List Int) : RB a0 = a0 := rfl
theorem R4 (a0 : ZU) : kp a0 = a0 := rfl
theorem Mq (a0 : Ze) : Ut a0 = a0 := rfl
theorem NS (a0 : List Ze) : ju a0 = a0 := by
  have h := xP (F := (qC a0)) (a := a0) (g := (fun x => x)) (fun _ => rfl) (fun _ _ _ => rfl) (a0.length + 1) [] 0 (by omega) (by omega)
  simp only [List.nil_append, List.drop_zero] at h
  unfold ju
  rw [h]
theorem Ng (a0 : List Zp) : UH a0 = a0 := rfl
theorem PK (a0 : Zb) : Ww a0 = a0 := rfl
theorem NT (a0 : Zi) : j7 a0 = a0 := by
  have h := xP (F := (fun n v i => xn a0 n i v)) (a := a0.Zl) (g := (fun x => x)) (fun _ => rfl) (fun _ _ _ => rfl) (a0.Zl.length + 1) [] 0 (by omega) (by omega)
  simp only [List.nil_append, List.drop_zero] at h
  unfold j7
  rw [h]
theorem Ic (a0 : ZV) : Sv a0 = a0 := rfl
theorem Py (a0 : ZE) : jF a0 = a0 := by
  have h := xP (F := (fun n v i => y8 a0 n i v)) (a := a0.ZC) (g := (fun x => x)) (fun _ => rfl) (fun _ _ _ => rfl) (a0.ZC.length + 1) [] 0 (by omega) (by omega)
  simp only [List.nil_append, List.drop_zero] at h
  unfold jF
  rw [h]
theorem LS (a0 : ZG) : Wb a0 = a0 := by
  have h := xP (F := (fun n v i => jH a0 n i v)) (a := a0.ZA) (g := (fun x => x)) (fun _ => rfl) (fun _ _ _ => rfl) (a0.ZA.length + 1) [] 0 (by omega) (by omega)
  simp only [List.nil_append, List.drop_zero] at h
  unfold Wb
  rw [h]
theorem yV (a0 : List XD) (a1 : Int) : Yq a0 a1 < (a0.length : Int) := xw (F := WL a0 a1) (c := fun J => ((nth a0 J).Number == a1)) (fun _ => rfl) (fun _ _ => rfl) _ _
theorem Q8 (a0 : ZE) (a1 : Int) : Za a0 a1 < (a0.ZC.length : Int) := xw (F := xq a0 a1) (c := fun J => ((nth a0.ZC J).Id == a1)) (fun _ => rfl) (fun _ _ => rfl) _ _
theorem L2 (a0 : List Yi) (a1 : Int) : xN a0 a1 < (a0.length : Int) := xw (F := jv a0 a1) (c := fun J => ((nth a0 J).ZQ == a1)) (fun _ => rfl) (fun _ _ => rfl) _ _
theorem XR (a0 : List Zw) (a1 : Int) : Zo a0 a1 < (a0.length : Int) := xw (F := zj a0 a1) (c := fun J => ((nth a0 J).Id == a1)) (fun _ => rfl) (fun _ _ => rfl) _ _
theorem O2 (a0 : List YE) (a1 : Int) : yX a0 a1 < (a0.length : Int) := xw (F := qG a0 a1) (c := fun J => ((nth a0 J).Id == a1)) (fun _ => rfl) (fun _ _ => rfl) _ _
theorem IC (a0 : Zu) : Sl a0 = a0 := rfl
theorem FF (a0 : ZU) : MR a0 = a0 := rfl
theorem Hg (a0 : Ze) : P9 a0 = a0 := rfl
theorem Fh (a0 : List Ze) : RN a0 = a0 := by
  have h := xP (F := (Vt a0)) (a := a0) (g := (fun x => x)) (fun _ => rfl) (fun _ _ _ => rfl) (a0.length + 1) [] 0 (by omega) (by omega)
  simp only [List.nil_append, List.drop_zero] at h
  unfold RN
  rw [h]
theorem Ht (a0 : Zb) : PJ a0 = a0 := rfl
theorem HR (a0 : Zi) : Tp a0 = a0 := by
  have h := xP (F := (fun n v i => WJ a0 n i v)) (a := a0.Zl) (g := (fun x => x)) (fun _ => rfl) (fun _ _ _ => rfl) (a0.Zl.length + 1) [] 0 (by omega) (by omega)
  simp only [List.nil_append, List.drop_zero] at h
  unfold Tp
  rw [h]
theorem GB (a0 : ZV) : Pl a0 = a0 := rfl
theorem GK (a0 : ZE) : Tk a0 = a0 := by
  have h := xP (F := (fun n v i => Wr a0 n i v)) (a := a0.ZC) (g := (fun x => x)) (fun _ => rfl) (fun _ _ _ => rfl) (a0.ZC.length + 1) [] 0 (by omega) (by omega)
  simp only [List.nil_append, List.drop_zero] at h
  unfold Tk
  rw [h]
theorem HO (a0 : ZG) : Tl a0 = a0 := by
  have h := xP (F := (fun n v i => WY a0 n i v)) (a := a0.ZA) (g := (fun x => x)) (fun _ => rfl) (fun _ _ _ => rfl) (a0.ZA.length + 1) [] 0 (by omega) (by omega)
  simp only [List.nil_append, List.drop_zero] at h
  unfold Tl
  rw [h]
theorem MS (a0 : ZG) (a1 : Int) : QV a0 a1 < (a0.ZM.length : Int) := xw (F := jC a0 a1) (c := fun J => ((nth a0.ZM J).Key == a1)) (fun _ => rfl) (fun _ _ => rfl) _ _
theorem VJ (a0 : ZE) (a1 : Int) : Yf a0 a1 < (a0.ZC.length : Int) := xw (F := jx a0 a1) (c := fun J => ((nth a0.ZC J).Id == a1)) (fun _ => rfl) (fun _ _ => rfl) _ _
theorem JX (a0 : List Yi) (a1 : Int) : ZX a0 a1 < (a0.length : Int) := xw (F := jn a0 a1) (c := fun J => ((nth a0 J).ZQ == a1)) (fun _ => rfl) (fun _ _ => rfl) _ _
theorem QQ (a0 : List Zw) (a1 : Int) : Zk a0 a1 < (a0.length : Int) := xw (F := ze a0 a1) (c := fun J => ((nth a0 J).Id == a1)) (fun _ => rfl) (fun _ _ => rfl) _ _
theorem NA (a0 : List YE) (a1 : Int) : ym a0 a1 < (a0.length : Int) := xw (F := qL a0 a1) (c := fun J => ((nth a0 J).Id == a1)) (fun _ => rfl) (fun _ _ => rfl) _ _
theorem T7 {n : Nat} {x : Yi} (h : 7 <= n) : Sm n (yD x) := ⟨by simp [yD]; omega, fun _ _ => trivial⟩
@[simp] theorem CW (x : Yi) : (yD x).length = 7 := rfl
theorem T8 {n : Nat} {x : Yi} (h : 7 <= n) : Sm n (z5 x) := ⟨by simp [z5]; omega, fun _ _ => trivial⟩
@[simp] theorem C5 (x : Yi) : (z5 x).length = 7 := rfl
theorem LA {n : Nat} {x : Zp} (h : 5 <= n) : Sm n (Kv x) := ⟨by simp [Kv]; omega, fun _ _ => trivial⟩
@[simp] theorem D0 (x : Zp) : (Kv x).length = 5 := rfl
theorem LP {n : Nat} {x : Zp} (h : 5 <= n) : Sm n (KA x) := ⟨by simp [KA]; omega, fun _ _ => trivial⟩
@[simp] theorem D1 (x : Zp) : (KA x).length = 5 := rfl
theorem UW {n : Nat} {x : Zn} (h : 5 <= n) : Sm n (KM x) := ⟨by simp [KM]; omega, fun _ _ => trivial⟩
@[simp] theorem DD (x : Zn) : (KM x).length = 5 := rfl
theorem Ud {n : Nat} {x : Zn} (h : 5 <= n) : Sm n (JV x) := ⟨by simp [JV]; omega, fun _ _ => trivial⟩
@[simp] theorem DM (x : Zn) : (JV x).length = 5 := rfl
theorem WA {n : Nat} {x : Zv} (h : 9 <= n) : Sm n (Qn x) := ⟨by simp [Qn]; omega, fun _ _ => trivial⟩
@[simp] theorem Fp (x : Zv) : (Qn x).length = 9 := rfl
theorem WE {n : Nat} {x : Zv} (h : 9 <= n) : Sm n (QC x) := ⟨by simp [QC]; omega, fun _ _ => trivial⟩
@[simp] theorem Fq (x : Zv) : (QC x).length = 9 := rfl
theorem Mj {a : Zi} (h : xJ a = true) : 0 < a.ZL.length := by
  unfold xJ at h
  split at h
  · rename_i r e
    have : ∀ n v, qD a n v ≠ .inl true := by
      intro n
      induction n with
      | zero => intro v h; cases h
      | succ n ih =>
        intro v h
        rw [qD] at h
        cases h1 : decide ((v : Int) < (a.ZL.length : Int)) with
        | false => rw [h1] at h; cases h
        | true =>
          rw [h1] at h
          cases h2 : decide (WQ a (nth a.ZL v) < (v : Int)) with
          | true => rw [h2] at h; cases h
          | false => rw [h2] at h; exact ih _ h
    subst h; exact absurd e (this _ _)
  · split at h
    · rename_i r e
      have : ∀ n v, xv a n v ≠ .inl true := by
        intro n
        induction n with
        | zero => intro v h; cases h
        | succ n ih =>
          intro v h
          rw [xv] at h
          generalize decide ((v : Int) < (a.Zl.length : Int)) = c1 at h
          cases c1 with
          | false => cases h
          | true =>
            simp only [cond_true] at h
            generalize (!YJ (nth a.Zl v).Count 1 (a.ZL.length : Int) || decide ((v : Int) > 0) && decide ((nth a.Zl (v - 1)).Count > (nth a.Zl v).Count)) = c2 at h
            cases c2 with
            | true => cases h
            | false => exact ih _ h
      subst h; exact absurd e (this _ _)
    · simp only [YJ, Bool.and_eq_true, decide_eq_true_eq] at h; omega
theorem LN {a : Zi} (h : Qe a = true) : 0 < a.ZL.length := by
  unfold Qe at h
  generalize (match jq a (a.ZL.length + 1) 0 with | .inl r1 => r1 | .inr _ => (match j6 a (a.Zl.length + 1) 0 with | .inl r2 => r2 | .inr _ => true)) = m at h
  cases hh : ZZ (a.ZL.length : Int) 1 12 with
  | false => rw [hh] at h; simp at h
  | true => simp only [ZZ, Bool.and_eq_true, decide_eq_true_eq] at hh; omega
theorem Pp {a : ZU} (h : K9 a = true) : a.QL.length = a.Y3.length := by
  unfold K9 at h
  split at h
  · rename_i r e
    have : ∀ n v, yN a n v ≠ .inl true := by
      intro n
      induction n with
      | zero => intro v h; cases h
      | succ n ih =>
        intro v h
        rw [yN] at h
        generalize decide ((v : Int) < (a.Y3.length : Int)) = c1 at h
        cases c1 with
        | false => cases h
        | true =>
          simp only [cond_true] at h
          generalize decide (((nth a.Y3 v).size : Int) > 40) = c2 at h
          cases c2 with
          | true => cases h
          | false => exact ih _ h
    subst h; exact absurd e (this _ _)
  · split at h
    · rename_i r e
      have : ∀ n v, zx a n v ≠ .inl true := by
        intro n
        induction n with
        | zero => intro v h; cases h
        | succ n ih =>
          intro v h
          rw [zx] at h
          generalize decide ((v : Int) < (a.QL.length : Int)) = c1 at h
          cases c1 with
          | false => cases h
          | true =>
            simp only [cond_true] at h
            generalize (!YJ (nth a.QL v) 1 1000000000000) = c2 at h
            cases c2 with
            | true => cases h
            | false => exact ih _ h
      subst h; exact absurd e (this _ _)
    · simp only [Bool.and_eq_true, beq_iff_eq] at h; omega
theorem Pa {a : ZU} (h : yf a = true) : a.QL.length = a.Y3.length := by
  unfold yf at h
  generalize (match qE a (a.Y3.length + 1) 0 with | .inl r1 => r1 | .inr _ => true) = m at h
  by_cases hh : a.QL.length = a.Y3.length
  · exact hh
  · rw [show ((a.QL.length : Int) != (a.Y3.length : Int)) = true by simp; omega] at h
    simp at h
theorem YG (a0 : ZG) (a1 : Int) (h : 0 <= (ZB a0 a1).1) : (ZB a0 a1).1.toNat < a0.ZA.length /\ 0 <= (ZB a0 a1).2 /\ (ZB a0 a1).2.toNat < (nth a0.ZA (ZB a0 a1).1.toNat).ZC.length := by
  have key : ∀ n v r, qX a0 a1 n v = .inl r -> r.1.toNat < a0.ZA.length /\ 0 <= r.2 /\ r.2.toNat < (nth a0.ZA r.1.toNat).ZC.length := by
    intro n
    induction n with
    | zero => intro v r h; cases h
    | succ n ih =>
      intro v r h
      rw [qX] at h
      cases h1 : decide ((v : Int) < (a0.ZA.length : Int)) with
      | false => rw [h1] at h; cases h
      | true =>
        rw [h1] at h
        simp only [cond_true] at h
        cases h2 : decide (Yf (nth a0.ZA v) a1 >= 0) with
        | false => rw [h2] at h; exact ih _ _ h
        | true =>
          rw [h2] at h; cases h
          simp at h1 h2
          have := VJ (nth a0.ZA v) a1
          simp only [Int.toNat_natCast]
          exact ⟨h1, h2, by omega⟩
  unfold ZB at h ⊢
  cases hh : qX a0 a1 (a0.ZA.length + 1) 0 with
  | inl r => rw [hh] at h; exact key _ _ r hh
  | inr u => rw [hh] at h; simp at h
theorem JU (a0 : ZG) (a1 : Int) (h : 0 <= (ZW a0 a1).1) : (ZW a0 a1).1.toNat < a0.ZA.length /\ 0 <= (ZW a0 a1).2 /\ (ZW a0 a1).2.toNat < (nth a0.ZA (ZW a0 a1).1.toNat).ZC.length := by
  have key : ∀ n v r, qe a0 a1 n v = .inl r -> r.1.toNat < a0.ZA.length /\ 0 <= r.2 /\ r.2.toNat < (nth a0.ZA r.1.toNat).ZC.length := by
    intro n
    induction n with
    | zero => intro v r h; cases h
    | succ n ih =>
      intro v r h
      rw [qe] at h
      cases h1 : decide ((v : Int) < (a0.ZA.length : Int)) with
      | false => rw [h1] at h; cases h
      | true =>
        rw [h1] at h
        simp only [cond_true] at h
        cases h2 : decide (Za (nth a0.ZA v) a1 >= 0) with
        | false => rw [h2] at h; exact ih _ _ h
        | true =>
          rw [h2] at h; cases h
          simp at h1 h2
          have := Q8 (nth a0.ZA v) a1
          simp only [Int.toNat_natCast]
          exact ⟨h1, h2, by omega⟩
  unfold ZW at h ⊢
  cases hh : qe a0 a1 (a0.ZA.length + 1) 0 with
  | inl r => rw [hh] at h; exact key _ _ r hh
  | inr u => rw [hh] at h; simp at h
theorem kK {a : Int} {n : Nat} (hn : n <= 9223372036854775807) (h : YJ a 0 (W ((n : Int) - 1)) = true) : 0 <= a /\ a < n := by
  rw [Ac n hn] at h
  simp only [YJ, Bool.and_eq_true, decide_eq_true_eq] at h; omega
@[simp] theorem BE (l : List UInt8) : (j9 l).length = l.length := by
  have key : ∀ n (acc : List Int) v, l.length < n + v -> v <= l.length -> (jT l n acc v).length = acc.length + (l.length - v) := by
    intro n
    induction n with
    | zero => intro acc v h1 h2; omega
    | succ n ih =>
      intro acc v h1 h2
      rw [jT]
      by_cases hv : v < l.length
      · rw [show decide ((v : Int) < (l.length : Int)) = true by simpa using hv, cond_true, ih _ (v + 1) (by omega) (by omega)]
        simp; omega
      · rw [show decide ((v : Int) < (l.length : Int)) = false by simpa using hv, cond_false]; omega
  have := key (l.length + 1) [] 0 (by omega) (by omega)
  simpa [j9] using this
theorem y9 {n : Nat} {a0 : Zi} {a1 : ZU} (h : Sm n a0) : Sm n (ya a0 a1) := by
  have key : ∀ n (acc : List Int) v, a0.Zl.length < n + v -> v <= a0.Zl.length -> (zw a0 a1 n acc v).length = acc.length + (a0.Zl.length - v) := by
    intro n
    induction n with
    | zero => intro acc v h1 h2; omega
    | succ n ih =>
      intro acc v h1 h2
      rw [zw]
      by_cases hv : v < a0.Zl.length
      · rw [show decide ((v : Int) < (a0.Zl.length : Int)) = true by simpa using hv, cond_true, ih _ (v + 1) (by omega) (by omega)]
        simp; omega
      · rw [show decide ((v : Int) < (a0.Zl.length : Int)) = false by simpa using hv, cond_false]; omega
  have h2 := key (a0.Zl.length + 1) [] 0 (by omega) (by omega)
  have h3 := Yk (Zi.kP h)
  refine ⟨?_, fun _ _ => trivial⟩
  unfold ya
  simp only [List.length_nil, Nat.zero_add, Nat.sub_zero] at h2
  rw [h2]; exact h3
theorem XF (a0 : Ze) : (QZ a0 = 101 -> a0.XC.length = 7) /\ (QZ a0 = 102 -> a0.XC.length = 5) /\ (QZ a0 = 103 -> a0.XC.length = 5) /\ (QZ a0 = 104 -> a0.XC.length = 9) /\ (QZ a0 = 105 -> a0.XC.length = 6) := by
  have key : ∀ v : Int, v ≠ 0 -> QZ a0 = v -> nth a0.XC 0 = v /\ (a0.XC.length : Int) = nth ([7, 5, 5, 9, 6] : List Int) (W (v - 101)).toNat := by
    intro v hv h
    unfold QZ at h
    cases c0 : (((a0.XC.length : Int) == 0) || (!(YJ (nth a0.XC 0) 101 105)))
    · rw [c0, cond_false] at h
      cases c1 : ((a0.XC.length : Int) != (nth ([7, 5, 5, 9, 6] : List Int) (W ((nth a0.XC 0) - 101)).toNat))
      · rw [c1, cond_false] at h
        simp only [bne_eq_false_iff_eq] at c1
        exact ⟨h, by rw [<- h]; exact c1⟩
      · rw [c1, cond_true] at h; exact absurd h.symm hv
    · rw [c0, cond_true] at h; exact absurd h.symm hv
  refine ⟨fun h => ?_, fun h => ?_, fun h => ?_, fun h => ?_, fun h => ?_⟩ <;> (have := (key _ (by decide) h).2; simp [nth, XL] at this; omega)
theorem XG (a0 : Ze) : (Qc a0 = 101 -> a0.XC.length = 7) /\ (Qc a0 = 102 -> a0.XC.length = 5) /\ (Qc a0 = 103 -> a0.XC.length = 5) /\ (Qc a0 = 104 -> a0.XC.length = 9) /\ (Qc a0 = 105 -> a0.XC.length = 6) := by
  have key : ∀ v : Int, v ≠ 0 -> Qc a0 = v -> nth a0.XC 0 = v /\ (a0.XC.length : Int) = nth ([7, 5, 5, 9, 6] : List Int) (W (v - 101)).toNat := by
    intro v hv h
    unfold Qc at h
    cases c1 : ((((a0.XC.length : Int) == 0) || (!(ZZ (nth a0.XC 0) 101 105))) || ((a0.XC.length : Int) != (nth ([7, 5, 5, 9, 6] : List Int) (W ((nth a0.XC 0) - 101)).toNat)))
    · rw [c1, cond_false] at h
      simp only [Bool.or_eq_false_iff, bne_eq_false_iff_eq] at c1
      exact ⟨h, by rw [<- h]; exact c1.2⟩
    · rw [c1, cond_true] at h; exact absurd h.symm hv
  refine ⟨fun h => ?_, fun h => ?_, fun h => ?_, fun h => ?_, fun h => ?_⟩ <;> (have := (key _ (by decide) h).2; simp [nth, XL] at this; omega)
theorem Wq (a0 : Int) (a1 : List Int) (h : a1.length <= 1048576) : 2 * (Ws a0 a1).length = a1.length + a1.length % 2 := by
  have key : ∀ n v i, a1.length + 1 < 2 * n + i -> i <= a1.length + 1 -> i % 2 = 0 -> 2 * (qV a0 a1 n v i).length = 2 * v.length + (a1.length + a1.length % 2 - i) := by
    intro n
    induction n with
    | zero => intro v i h1 h2; omega
    | succ n ih =>
      intro v i h1 h2 h3
      unfold qV
      by_cases hi : i < a1.length
      · rw [show decide ((i : Int) < (a1.length : Int)) = true by simp [hi], cond_true]
        have e : ∀ x, 2 * (qV a0 a1 n (v ++ [x]) (i + 2)).length = 2 * v.length + (a1.length + a1.length % 2 - i) := by
          intro x
          have := ih (v ++ [x]) (i + 2) (by omega) (by omega) (by omega)
          rw [this, List.length_append, List.length_singleton]; omega
        exact ZP (p := fun (r : List Int) => 2 * r.length = 2 * v.length + (a1.length + a1.length % 2 - i)) (e _) (e _)
      · rw [show decide ((i : Int) < (a1.length : Int)) = false by simp; omega, cond_false]; omega
  have := key (a1.length + 1) [] 0 (by omega) (by omega) (by omega)
  unfold Ws
  rw [this]; simp
theorem yR (a0 : Int) (a1 : List Int) (h : a1.length <= 1048576) : 2 * (KF a0 a1).length = a1.length + a1.length % 2 := by
  have key : ∀ n v i, a1.length + 1 < 2 * n + i -> i <= a1.length + 1 -> i % 2 = 0 -> 2 * (Jm a0 a1 n v i).length = 2 * v.length + (a1.length + a1.length % 2 - i) := by
    intro n
    induction n with
    | zero => intro v i h1 h2; omega
    | succ n ih =>
      intro v i h1 h2 h3
      unfold Jm
      by_cases hi : i < a1.length
      · rw [show decide ((i : Int) < (a1.length : Int)) = true by simp [hi], cond_true]
        have e : ∀ x, 2 * (Jm a0 a1 n (v ++ [x]) (i + 2)).length = 2 * v.length + (a1.length + a1.length % 2 - i) := by
          intro x
          have := ih (v ++ [x]) (i + 2) (by omega) (by omega) (by omega)
          rw [this, List.length_append, List.length_singleton]; omega
        exact ZP (p := fun (r : List Int) => 2 * r.length = 2 * v.length + (a1.length + a1.length % 2 - i)) (e _) (e _)
      · rw [show decide ((i : Int) < (a1.length : Int)) = false by simp; omega, cond_false]; omega
  have := key (a1.length + 1) [] 0 (by omega) (by omega) (by omega)
  unfold KF
  rw [this]; simp
theorem WW {n : Nat} (h : 10 <= n) : Sm n zM := ⟨h, fun _ _ => trivial⟩
theorem qN {n : Nat} {a0 : ZE} {a1 : Int} (h : Sm n a0) : Sm n (YW a0 a1) := by
  refine ⟨?_, fun _ _ => trivial⟩
  have e := GU (F := zW a0 a1) (fun _ _ => rfl) (fun _ _ _ => rfl) (a0.ZC.length + 1) [] 0
  have : (YW a0 a1).length <= 0 + (a0.ZC.length - 0) := e
  have := Yk (show Sm n a0.ZC from h)
  omega
theorem y0 (a0 : ZE) (a1 : Int) : (YW a0 a1).length = a0.ZC.length := by
  have key : ∀ n v i, i <= a0.ZC.length -> a0.ZC.length < n + i -> (zW a0 a1 n v i).length = v.length + (a0.ZC.length - i) := by
    intro n
    induction n with
    | zero => intro v i h0 h; omega
    | succ n ih =>
      intro v i h0 h
      rw [zW]
      by_cases hc : (i : Int) < (a0.ZC.length : Int)
      · simp only [decide_eq_true hc, cond_true]
        rw [ih _ _ (by omega) (by omega)]
        simp
        omega
      · simp only [decide_eq_false hc, cond_false]
        omega
  have := key (a0.ZC.length + 1) [] 0 (by omega) (by omega)
  exact this.trans (by simp)
theorem WC {n : Nat} {a0 : ZE} {a1 : Int} (h : Sm n a0) : Sm n (XZ a0 a1) := by
  refine ⟨?_, fun _ _ => trivial⟩
  have e := GU (F := qy a0 a1) (fun _ _ => rfl) (fun _ _ _ => rfl) (a0.ZC.length + 1) [] 0
  have : (XZ a0 a1).length <= 0 + (a0.ZC.length - 0) := e
  have := Yk (show Sm n a0.ZC from h)
  omega
theorem XQ (a0 : ZG) (a1 : Int) (h : (YB a0 a1).2.2 = true) : 0 <= (YB a0 a1).1 /\ (YB a0 a1).1 < (a0.ZA.length : Int) /\ 0 <= (YB a0 a1).2.1 /\ (YB a0 a1).2.1 < (a0.ZM.length : Int) :=
  Z6 (p := fun (r : Int × Int × Bool) => r.2.2 = true -> 0 <= r.1 /\ r.1 < (a0.ZA.length : Int) /\ 0 <= r.2.1 /\ r.2.1 < (a0.ZM.length : Int)) (fun _ h => by simp at h) (fun hc h => by
    simp only [Bool.or_eq_false_iff, decide_eq_false_iff_not] at hc
    have f := JU a0 a1 (by omega)
    dsimp only at h ⊢
    rw [Bool.and_eq_true, decide_eq_true_eq] at h
    have h2 := h.2
    exact ⟨by omega, by omega, by omega, L2 _ _⟩) h
theorem LY {n : Nat} {x : Yi} (h : 7 <= n) : Sm n (Wo x) := T7 h
theorem TO {n : Nat} {x : Yi} (h : 7 <= n) : Sm n (Ja x) := T8 h
theorem Y1 {n : Nat} {x : Zn} (h : 5 <= n) : Sm n (Zr x) := UW h
theorem VS {n : Nat} {x : Zn} (h : 5 <= n) : Sm n (Xu x) := Ud h
theorem M8 {n : Nat} {x : Zv} (h : 9 <= n) : Sm n (xT x) := WA h
theorem TG {n : Nat} {x : Zv} (h : 9 <= n) : Sm n (Qo x) := WE h
theorem ZK {a0 : List XD} {a1 : Zn} (h : (Zj a0 a1).2 = true) : 0 <= YT a0 a1.Zm := by
  unfold Zj at h
  cases hc : ((!(V7 a1)) || (decide ((YT a0 a1.Zm) < 0))) with
  | true => rw [hc] at h; simp at h
  | false => simp at hc; exact hc.2
theorem KP {n : Nat} {a0 : ZG} {a1 : Int} {a2 : ZU} {a3 a4 : Int} (h : Sm n a2) (hn : 9 <= n) : Sm n (Xa a0 a1 a2 a3 a4).1 := by
  unfold Xa
  cases ((decide ((Zf a0.Frame.Methods a0.Frame.Now) < 0)) || (decide ((QV a0 a1) < 0))) with
  | true => exact ⟨⟨Jx, Jx⟩, Jx, Jx⟩
  | false =>
    refine ⟨h, ⟨by simp; omega, fun y hy => ?_⟩, Jx⟩
    rcases List.mem_cons.1 hy with rfl | hy
    · exact M8 (by omega)
    rcases List.mem_cons.1 hy with rfl | hy
    · exact LY (by omega)
    · cases hy
theorem V6 {n : Nat} {a0 : ZE} {a1 : ZV} (h : Sm n a0) (hx : Sm (n + 1) a1) : Sm (n + 1) (Yd a0 a1).1 := by
  have h1 : Sm (n + 1) a0 := ZN (Nat.le_succ n) h
  unfold Yd
  cases ((decide ((Za a0 a1.Id) >= 0)) || (!(YX a0))) with
  | true => exact h1
  | false =>
    simp only [cond_false]
    generalize jW a0 a1 (a0.ZC.length + 1) 0 = z
    cases (!(YX (ZE.mk a0.Id (((a0.ZC.take z) ++ ([a1] : List ZV)) ++ (a0.ZC.drop z))))) with
    | true => exact h1
    | false =>
      refine ⟨by have := ZE.YM h; have := this.1; simp; omega, fun y hy => ?_⟩
      have ij : y ∈ a0.ZC.take z \/ y = a1 \/ y ∈ a0.ZC.drop z := by simpa using hy
      rcases ij with hy | rfl | hy
      · exact h1.2 y (List.mem_of_mem_take hy)
      · exact hx
      · exact h1.2 y (List.mem_of_mem_drop hy)
theorem ke {n : Nat} {a0 : ZE} {a1 : ZV} (h : Sm n a0) (hx : Sm n a1) : ∀ (m : Nat) (b : Bool) (i : Nat) (l : List ZV), l.length <= i + (bif b then 1 else 0) -> i <= a0.ZC.length -> (∀ y ∈ l, Sm n y) ->
    (J5 a0 a1 m b i l).2.length <= a0.ZC.length + (bif (J5 a0 a1 m b i l).1 then 1 else 0) /\ ∀ y ∈ (J5 a0 a1 m b i l).2, Sm n y
  | 0, b, i, l, _, _, _ => ⟨Nat.zero_le _, fun y hy => by cases hy⟩
  | m + 1, b, i, l, hl, hi, hs => by
    unfold J5
    cases hc : decide ((i : Int) < (a0.ZC.length : Int)) with
    | false =>
      simp only [cond_false]
      refine ⟨?_, hs⟩
      have : ¬ ((i : Int) < a0.ZC.length) := by simpa using hc
      omega
    | true =>
      have uQ : i < a0.ZC.length := by simpa using hc
      have hn : Sm n (nth a0.ZC i) := Z3 h
      simp only [cond_true]
      cases hd : ((!b) && (decide (a1.Id < (nth a0.ZC i).Id))) with
      | true =>
        have hb : b = false := by cases b <;> simp_all
        subst hb
        simp only [cond_true]
        refine ke h hx m true (i + 1) _ (by simp at hl ⊢; omega) uQ (fun y hy => ?_)
        simp only [List.append_assoc, List.mem_append, List.mem_cons, List.not_mem_nil, or_false] at hy
        rcases hy with hy | rfl | rfl
        · exact hs y hy
        · exact hx
        · exact hn
      | false =>
        simp only [cond_false]
        refine ke h hx m b (i + 1) _ (by simp at hl ⊢; omega) uQ (fun y hy => ?_)
        simp only [List.mem_append, List.mem_cons, List.not_mem_nil, or_false] at hy
        rcases hy with hy | rfl
        · exact hs y hy
        · exact hn
theorem jo {n : Nat} {a0 : ZE} {a1 : ZV} (h : Sm n a0) (hx : Sm n a1) : Sm (n + 1) (Xo a0 a1).1 := by
  have h1 : Sm (n + 1) a0 := ZN (Nat.le_succ n) h
  unfold Xo
  cases ((!(QT a0)) || (decide ((Yf a0 a1.Id) >= 0))) with
  | true => exact h1
  | false =>
    have hz := ke h hx (a0.ZC.length + 1) false 0 [] (Nat.zero_le _) (Nat.zero_le _) (fun y hy => by cases hy)
    have hlen := (ZE.YM h).1
    simp only [cond_false]
    generalize hq : J5 a0 a1 (a0.ZC.length + 1) false 0 [] = z at hz ⊢
    obtain ⟨z0, z1⟩ := z
    cases z0 with
    | false =>
      simp only [Bool.not_false, cond_true]
      cases (!(QT (ZE.mk a0.Id (z1 ++ ([a1] : List ZV))))) with
      | true => exact h1
      | false =>
        refine ⟨by have := hz.1; simp at this ⊢; omega, fun y hy => ?_⟩
        have ij : y ∈ z1 \/ y = a1 := by simpa using hy
        rcases ij with hy | rfl
        · exact ZN (Nat.le_succ n) (hz.2 y hy)
        · exact ZN (Nat.le_succ n) hx
    | true =>
      simp only [Bool.not_true, cond_false]
      cases (!(QT (ZE.mk a0.Id z1))) with
      | true => exact h1
      | false => exact ⟨by have := hz.1; simp at this ⊢; omega, fun y hy => ZN (Nat.le_succ n) (hz.2 y hy)⟩
theorem Ue {n : Nat} {a0 : ZG} {a1 a2 : Int} {a3 : ZU} {a4 a5 : Int} (h : Sm n a0) (hd : Sm n a3) (hn : 9 <= n) : ∀ (m v : Nat) (r : ZG × Bool), QE a0 a1 a2 a3 a4 a5 m v = .inl r -> Sm (n + 1) r.1
  | 0, v, r, e => by cases e
  | m + 1, v, r, e => by
    have h1 : Sm (n + 1) a0 := ZN (Nat.le_succ n) h
    unfold QE at e
    cases hc : decide ((v : Int) < (a0.ZM.length : Int)) with
    | false => rw [hc] at e; cases e
    | true =>
      rw [hc] at e
      simp only [cond_true] at e
      cases hk : ((nth a0.ZM v).Key != a2) with
      | true => rw [hk] at e; exact Ue h hd hn m (v + 1) r e
      | false =>
        rw [hk] at e
        simp only [cond_false] at e
        generalize hq : (ZV.mk a0.Next a5 a3 (Y8 a0.Frame.Zq (Zv.mk a2 (nth a0.ZM v).ZQ (ZT a0.Frame.Methods a0.Frame.Now) (Yo (ZT a0.Frame.Methods a0.Frame.Now) a3) 1 a4 0 0 0)).1 (Zi.mk ([(Qo (Y8 a0.Frame.Zq (Zv.mk a2 (nth a0.ZM v).ZQ (ZT a0.Frame.Methods a0.Frame.Now) (Yo (ZT a0.Frame.Methods a0.Frame.Now) a3) 1 a4 0 0 0)).1), (Ja (nth a0.ZM v))] : List Ze) ([] : List Zb))) = it at e
        have gN : Sm (n + 1) it := by
          rw [<- hq]
          refine ⟨ZN (Nat.le_succ n) hd, ⟨by simp; omega, fun y hy => ?_⟩, Jx⟩
          rcases List.mem_cons.1 hy with rfl | hy
          · exact TG (by omega)
          rcases List.mem_cons.1 hy with rfl | hy
          · exact TO (by omega)
          · cases hy
        clear hq
        cases hb : ((!(Y8 a0.Frame.Zq (Zv.mk a2 (nth a0.ZM v).ZQ (ZT a0.Frame.Methods a0.Frame.Now) (Yo (ZT a0.Frame.Methods a0.Frame.Now) a3) 1 a4 0 0 0)).2) || (!(Yd (nth a0.ZA a1.toNat) it).2)) with
        | true => rw [hb] at e; cases e; exact h1
        | false =>
          rw [hb] at e
          cases e
          exact ⟨h1.1, h1.2.1, h1.2.2.1, zu h1.2.2.2.1 (V6 (Z3 h.2.2.2.1) gN), h1.2.2.2.2.1, h1.2.2.2.2.2.1, h1.2.2.2.2.2.2⟩
theorem Q6 {n : Nat} {a0 : ZG} {a1 a2 : Int} {a3 : ZU} {a4 a5 : Int} (h : Sm n a0) (hd : Sm n a3) (hn : 9 <= n) : Sm (n + 1) (Yt a0 a1 a2 a3 a4 a5).1 := by
  have h1 : Sm (n + 1) a0 := ZN (Nat.le_succ n) h
  unfold Yt
  cases (((!(Ya a0 a1)) || (decide ((Yq a0.Frame.Zq a2) < 0))) || (decide ((ZT a0.Frame.Methods a0.Frame.Now) < 0))) with
  | true => exact h1
  | false =>
    simp only [cond_false]
    cases he : QE a0 a1 a2 a3 a4 a5 (a0.ZM.length + 1) 0 with
    | inl r => exact Ue h hd hn _ _ r he
    | inr _ => exact h1
theorem yn (a0 : Int) : ∀ (m : Nat) (x : Int) (l : List XY) (y : List Int), (K2 a0 m x l y).length <= l.length + m
  | 0, x, l, y => Nat.zero_le _
  | m + 1, x, l, y => by
    simp only [K2]
    cases decide ((y.length : Int) > 1) with
    | false => simp
    | true =>
      simp only [cond_true]
      cases ((Int.tmod x 2) == 1) with
      | true => refine Nat.le_trans (yn a0 m _ _ _) ?_; simp; omega
      | false =>
        simp only [cond_false]
        cases decide ((W (x + 1)) < (y.length : Int)) with
        | true => refine Nat.le_trans (yn a0 m _ _ _) ?_; simp; omega
        | false => refine Nat.le_trans (yn a0 m _ _ _) ?_; omega
theorem Sb {n : Nat} {a0 : Int} {a1 : List Int} {a2 : Int} (h : 17 <= n) : Sm n (zA a0 a1 a2) := by
  refine ⟨?_, fun _ _ => trivial⟩
  unfold zA
  cases hc : ((decide ((a1.length : Int) > 16)) || (!(YJ a2 0 (W ((a1.length : Int) - 1))))) with
  | true => exact Nat.zero_le _
  | false =>
    have h1 := yn a0 (a1.length + 1) a2 [] a1
    simp only [Bool.or_eq_false_iff, decide_eq_false_iff_not] at hc
    simp only [cond_false]; simp at h1; omega
theorem yQ (a0 : Int) : ∀ (m : Nat) (y : List Int) (x : Int) (l : List XY), (zH a0 m y x l).length <= l.length + m
  | 0, y, x, l => Nat.zero_le _
  | m + 1, y, x, l => by
    simp only [zH]
    cases decide ((y.length : Int) > 1) with
    | false => simp
    | true =>
      simp only [cond_true]
      cases ((Int.tmod x 2) == 1) with
      | true => refine Nat.le_trans (yQ a0 m _ _ _) ?_; simp; omega
      | false =>
        simp only [cond_false]
        cases decide ((W (x + 1)) < (y.length : Int)) with
        | true => refine Nat.le_trans (yQ a0 m _ _ _) ?_; simp; omega
        | false => refine Nat.le_trans (yQ a0 m _ _ _) ?_; omega
theorem SL {n : Nat} {a0 : Int} {a1 : List Int} {a2 : Int} (h : 17 <= n) : Sm n (Qu a0 a1 a2) := by
  refine ⟨?_, fun _ _ => trivial⟩
  unfold Qu
  cases hc : ((!(ZZ a2 0 (W ((a1.length : Int) - 1)))) || (decide ((a1.length : Int) > 16))) with
  | true => exact Nat.zero_le _
  | false =>
    have h1 := yQ a0 (a1.length + 1) a1 a2 []
    simp only [Bool.or_eq_false_iff, decide_eq_false_iff_not] at hc
    simp only [cond_false]; simp at h1; omega
theorem Se (a0 : ZG) (a1 : List Int) : ∀ (m v : Nat), a1.length < m + v -> (match qm a0 a1 m v with | .inl r => r | .inr _ => true) = true -> ∀ j, v <= j -> j < a1.length -> 0 <= Zk a0.Frame.ZF (nth a1 j) /\ Zk a0.Frame.ZF (nth a1 j) < (a0.Yb.length : Int) /\ 0 <= YT a0.Frame.Zq (nth a0.Frame.ZF (Zk a0.Frame.ZF (nth a1 j)).toNat).Key
  | 0, v, h, _ => fun j h1 h2 => by omega
  | m + 1, v, h, e => by
    intro j h1 h2
    unfold qm at e
    have hc : decide ((v : Int) < (a1.length : Int)) = true := by simp; omega
    rw [hc] at e
    simp only [cond_true] at e
    revert e
    cases hA : (((decide ((Zk a0.Frame.ZF (nth a1 v)) < 0)) || (decide ((Zk a0.Frame.ZF (nth a1 v)) >= (a0.Yb.length : Int)))) || ((decide ((v : Int) > 0)) && (decide ((nth a1 (v - 1)) >= (nth a1 v))))) with
    | true => intro e; simp at e
    | false =>
      simp only [cond_false]
      cases hB : ((decide ((YT a0.Frame.Zq (nth a0.Frame.ZF (Zk a0.Frame.ZF (nth a1 v)).toNat).Key) < 0)) || (decide ((nth a0.Frame.Zq (YT a0.Frame.Zq (nth a0.Frame.ZF (Zk a0.Frame.ZF (nth a1 v)).toNat).Key).toNat).Uj > a0.Frame.Now))) with
      | true => intro e; simp at e
      | false =>
        intro e
        rcases Nat.eq_or_lt_of_le h1 with rfl | h1
        · simp only [Bool.or_eq_false_iff, decide_eq_false_iff_not] at hA hB
          exact ⟨by omega, by omega, by omega⟩
        · exact Se a0 a1 m (v + 1) (by omega) e j h1 h2
theorem Qm {a0 : ZG} {a1 : List Int} (h : U4 a0 a1 = true) {j : Nat} (hj : j < a1.length) : 0 <= Zk a0.Frame.ZF (nth a1 j) /\ Zk a0.Frame.ZF (nth a1 j) < (a0.Yb.length : Int) /\ 0 <= YT a0.Frame.Zq (nth a0.Frame.ZF (Zk a0.Frame.ZF (nth a1 j)).toNat).Key := by
  refine Se a0 a1 (a1.length + 1) 0 (by omega) ?_ j (Nat.zero_le _) hj
  unfold U4 at h
  revert h
  cases qm a0 a1 (a1.length + 1) 0 with
  | inl r => exact fun h => h
  | inr _ => exact fun _ => rfl
theorem G4 (x : Int) : 0 <= L8 .i64 x 255 /\ L8 .i64 x 255 <= 255 := by
  have h : (BitVec.ofInt IntKind.i64.bits x &&& BitVec.ofInt IntKind.i64.bits 255).toNat <= 255 := by
    rw [BitVec.toNat_and]; exact Nat.le_trans Nat.and_le_right (Nat.le_of_ble_eq_true rfl)
  unfold L8
  rw [Yg (by omega) (by omega)]
  omega
theorem yg (c : YC) : 0 <= (YP c).2 /\ (YP c).2 <= 255 := by
  unfold YP
  exact ZP (p := fun r : YC × Int => 0 <= r.2 /\ r.2 <= 255) (G4 _) (G4 _)
theorem Xv (c : YC) (n : Int) : 0 <= (ZH c n).2 /\ (0 < n -> (ZH c n).2 < n) := by
  unfold ZH
  refine Z6 (p := fun r : YC × Int => 0 <= r.2 /\ (0 < n -> r.2 < n)) (fun h => ⟨Int.le_refl _, fun h0 => h0⟩) (fun h => ?_)
  have hn : 0 < n := by simp at h; omega
  have h1 := yg c
  have h2 := yg (YP c).1
  have h3 := yg (YP (YP c).1).1
  refine ZP (p := fun r : YC × Int => 0 <= r.2 /\ (0 < n -> r.2 < n)) ⟨Int.tmod_nonneg _ h1.1, fun _ => Int.tmod_lt_of_pos _ hn⟩ ⟨Int.tmod_nonneg _ ?_, fun _ => Int.tmod_lt_of_pos _ hn⟩
  simp only [XL]
  omega
theorem Rb (c : YC) (n : Int) : (ZH c n).2 <= 16777215 := by
  unfold ZH
  have h1 := yg c
  have h2 := yg (YP c).1
  have h3 := yg (YP (YP c).1).1
  refine ZP (p := fun r : YC × Int => r.2 <= 16777215) (show (0 : Int) <= 16777215 by decide) (Z6 (p := fun r : YC × Int => r.2 <= 16777215) (fun h => ?_) (fun h => ?_))
  · have : (Int.tmod (YP c).2 n).natAbs <= (YP c).2.natAbs := by rw [Int.natAbs_tmod]; exact Nat.mod_le _ _
    show Int.tmod _ _ <= _
    have h5 := Int.tmod_nonneg n h1.1
    omega
  · show Int.tmod _ _ <= _
    have hw : 0 <= W ((W ((W ((YP c).2 * 65536)) + (W ((YP (YP c).1).2 * 256)))) + (YP (YP (YP c).1).1).2) /\ W ((W ((W ((YP c).2 * 65536)) + (W ((YP (YP c).1).2 * 256)))) + (YP (YP (YP c).1).1).2) <= 16777215 := by
      simp only [XL]; omega
    have h4 : (Int.tmod (W ((W ((W ((YP c).2 * 65536)) + (W ((YP (YP c).1).2 * 256)))) + (YP (YP (YP c).1).1).2)) n).natAbs <= (W ((W ((W ((YP c).2 * 65536)) + (W ((YP (YP c).1).2 * 256)))) + (YP (YP (YP c).1).1).2)).natAbs := by rw [Int.natAbs_tmod]; exact Nat.mod_le _ _
    have h5 := Int.tmod_nonneg n hw.1
    omega
theorem SY (c : YC) : (Ku c).2.size <= 11 := by
  unfold Ku Ti
  exact As (by decide) _
theorem JW (a0 : ZG) : (Z1 a0).length <= a0.Frame.ZF.length := by
  have e := Fg (F := JA a0) (fun _ _ => rfl) (fun _ _ _ => rfl) (a0.Frame.ZF.length + 1) [] 0
  have : (Z1 a0).length <= 0 + (a0.Frame.ZF.length - 0) := e
  omega
theorem JR (a0 : ZG) : (YK a0).length <= a0.Frame.ZF.length := by
  have e := Fg (F := JE a0) (fun _ _ => rfl) (fun _ _ _ => rfl) (a0.Frame.ZF.length + 1) [] 0
  have : (YK a0).length <= 0 + (a0.Frame.ZF.length - 0) := e
  omega
theorem Wh (a0 : YS) (a1 : Int) (h : zX a0 a1 = true) : a0.ZC.length <= 8 := by
  unfold zX at h
  have hk : ∀ n v r, Jz a0 n v = .inl r -> r = false := by
    intro n
    induction n with
    | zero => intro v r h; cases h
    | succ n ih =>
      intro v r h
      rw [Jz] at h
      revert h
      exact ZP (p := fun w => w = Sum.inl r -> r = false) (ZP (p := fun w => w = Sum.inl r -> r = false) (fun h => by cases h; rfl) (fun h => ih _ _ h)) (fun h => by cases h)
  cases hh : Jz a0 (a0.ZC.length + 1) 0 with
  | inl r => rw [hh] at h; have := hk _ _ _ hh; subst this; cases h
  | inr u =>
    rw [hh] at h
    simp only [ZZ, Bool.and_eq_true, decide_eq_true_eq] at h
    omega
theorem xj {n : Nat} {a0 : ZE} {a2 : List Int} (h : Sm n a0) : ∀ (m v : Nat) (l : List ZV), (∀ x ∈ l, Sm n x) -> l.length <= v -> v <= a2.length ->
    (∀ r, QA a0 a2 m v l = .inl r -> r = (YS.mk 0 0 [] 0, false)) /\ ∀ z, QA a0 a2 m v l = .inr z -> z.length <= a2.length /\ ∀ x ∈ z, Sm n x
  | 0, v, l, _, _, _ => ⟨fun r h => (by cases h), fun z h => (by cases h; exact ⟨Nat.zero_le _, fun x hx => (by cases hx)⟩)⟩
  | m + 1, v, l, hs, hl, hv => by
    rw [QA]
    let p := fun w : Sum (YS × Bool) (List ZV) => (∀ r, w = .inl r -> r = (YS.mk 0 0 [] 0, false)) /\ ∀ z, w = .inr z -> z.length <= a2.length /\ ∀ x ∈ z, Sm n x
    refine Z6 (p := p) (fun hc => ?_) (fun _ => ⟨fun r h => (by cases h), fun z h => (by cases h; exact ⟨by omega, hs⟩)⟩)
    have hc : v < a2.length := by simpa using hc
    refine ZP (p := p) ⟨fun r h => (by cases h; rfl), fun z h => (by cases h)⟩ ?_
    refine xj h m (v + 1) _ (fun x hx => ?_) (by simp; omega) hc
    rcases List.mem_append.1 hx with hx | hx
    · exact hs x hx
    · have e := List.mem_singleton.1 hx
      subst e
      exact Z3 (ZE.YM h)
theorem jd {n : Nat} {a0 : ZE} {a1 a3 : Int} {a2 : List Int} (h : Sm n a0) (h2 : Sm n a2) : Sm n (Y9 a0 a1 a2 a3).1 := by
  unfold Y9
  obtain ⟨k1, k2⟩ := xj (a2 := a2) h (a2.length + 1) 0 [] (fun x hx => (by cases hx)) (Nat.zero_le _) (Nat.zero_le _)
  have h0 : Sm n (YS.mk 0 0 [] 0) := by simp [Yx]
  cases hh : QA a0 a2 (a2.length + 1) 0 [] with
  | inl r => rw [k1 r hh]; exact h0
  | inr z =>
    obtain ⟨q1, q2⟩ := k2 z hh
    have hz : Sm n z := ⟨by have := Yk h2; omega, q2⟩
    dsimp only
    refine ZP (p := fun w : YS × Bool => Sm n w.1) h0 ?_
    simp [hz]
theorem SX {n : Nat} {a0 : ZE} {a1 : Int} (hb : n <= 9223372036854775807) (h : Sm n a0) : Sm n (X4 a0 a1).1 := by
  unfold X4
  by_cases hk : Za a0 a1 < 0
  · rw [decide_eq_true hk]; exact h
  · rw [decide_eq_false hk]
    have hi := ZE.YM h
    have hf := Q8 a0 a1
    have hl := Yk hi
    refine ⟨?_, fun y hy => ?_⟩
    · have hm : (a0.ZC.take (Za a0 a1).toNat ++ (a0.ZC.drop (W ((Za a0 a1) + 1)).toNat)).length <= n := by
        have w : W ((Za a0 a1) + 1) = (Za a0 a1) + 1 := Yg (by omega) (by omega)
        rw [w]; simp; omega
      exact hm
    · have ij : y ∈ a0.ZC.take (Za a0 a1).toNat \/ y ∈ a0.ZC.drop (W ((Za a0 a1) + 1)).toNat := List.mem_append.1 hy
      rcases ij with hy | hy
      · exact hi.2 y (List.mem_of_mem_take hy)
      · exact hi.2 y (List.mem_of_mem_drop hy)
theorem R6 (a0 : YS) (a1 : Int) (h : Jb a0 a1 = true) : a0.ZC.length <= 8 := by
  unfold Jb at h
  have hk : ∀ n v r, J4 a0 n v = .inl r -> r = false := by
    intro n
    induction n with
    | zero => intro v r h; cases h
    | succ n ih =>
      intro v r h
      rw [J4] at h
      revert h
      exact ZP (p := fun w => w = Sum.inl r -> r = false) (ZP (p := fun w => w = Sum.inl r -> r = false) (fun h => by cases h; rfl) (fun h => ih _ _ h)) (fun h => by cases h)
  cases hh : J4 a0 (a0.ZC.length + 1) 0 with
  | inl r => rw [hh] at h; have := hk _ _ _ hh; subst this; cases h
  | inr u =>
    rw [hh] at h
    simp only [YJ, Bool.and_eq_true, decide_eq_true_eq] at h
    omega
theorem qM {n : Nat} {a0 : ZE} {a2 : List Int} (h : Sm n a0) : ∀ (m v : Nat) (l : List ZV), (∀ x ∈ l, Sm n x) -> l.length <= v -> v <= a2.length ->
    (∀ r, JC a0 a2 m v l = .inl r -> r = (YS.mk 0 0 [] 0, false)) /\ ∀ z, JC a0 a2 m v l = .inr z -> z.length <= a2.length /\ ∀ x ∈ z, Sm n x
  | 0, v, l, _, _, _ => ⟨fun r h => (by cases h), fun z h => (by cases h; exact ⟨Nat.zero_le _, fun x hx => (by cases hx)⟩)⟩
  | m + 1, v, l, hs, hl, hv => by
    rw [JC]
    let p := fun w : Sum (YS × Bool) (List ZV) => (∀ r, w = .inl r -> r = (YS.mk 0 0 [] 0, false)) /\ ∀ z, w = .inr z -> z.length <= a2.length /\ ∀ x ∈ z, Sm n x
    refine Z6 (p := p) (fun hc => ?_) (fun _ => ⟨fun r h => (by cases h), fun z h => (by cases h; exact ⟨by omega, hs⟩)⟩)
    have hc : v < a2.length := by simpa using hc
    refine ZP (p := p) ⟨fun r h => (by cases h; rfl), fun z h => (by cases h)⟩ ?_
    refine qM h m (v + 1) _ (fun x hx => ?_) (by simp; omega) hc
    rcases List.mem_append.1 hx with hx | hx
    · exact hs x hx
    · have e := List.mem_singleton.1 hx
      subst e
      exact Z3 (ZE.YM h)
theorem jX {n : Nat} {a0 : ZE} {a1 a3 : Int} {a2 : List Int} (h : Sm n a0) (h2 : Sm n a2) : Sm n (Yz a0 a1 a2 a3).1 := by
  unfold Yz
  obtain ⟨k1, k2⟩ := qM (a2 := a2) h (a2.length + 1) 0 [] (fun x hx => (by cases hx)) (Nat.zero_le _) (Nat.zero_le _)
  have h0 : Sm n (YS.mk 0 0 [] 0) := by simp [Yx]
  cases hh : JC a0 a2 (a2.length + 1) 0 [] with
  | inl r => rw [k1 r hh]; exact h0
  | inr z =>
    obtain ⟨q1, q2⟩ := k2 z hh
    have hz : Sm n z := ⟨by have := Yk h2; omega, q2⟩
    dsimp only
    refine ZP (p := fun w : YS × Bool => Sm n w.1) h0 ?_
    simp [hz]
theorem SH {n : Nat} {a0 : ZE} {a1 : Int} (h : Sm n a0) : Sm n (yG a0 a1).1 := by
  have hi := ZE.YM h
  have hl := Yk hi
  have key : ∀ m v l, (∀ x ∈ l, Sm n x) -> l.length <= v -> v <= a0.ZC.length -> (K3 a0 a1 m v l).length <= a0.ZC.length /\ ∀ x ∈ K3 a0 a1 m v l, Sm n x := by
    intro m
    induction m with
    | zero => intro v l _ _ _; exact ⟨Nat.zero_le _, fun x hx => (by cases hx)⟩
    | succ m ih =>
      intro v l hs hl hv
      rw [K3]
      let p := fun w : List ZV => w.length <= a0.ZC.length /\ ∀ x ∈ w, Sm n x
      refine Z6 (p := p) (fun hc => ?_) (fun _ => ⟨by omega, hs⟩)
      have hc : v < a0.ZC.length := by simpa using hc
      refine ZP (p := p) (ih _ _ (fun x hx => ?_) (by simp; omega) hc) (ih _ _ hs (by omega) hc)
      rcases List.mem_append.1 hx with hx | hx
      · exact hs x hx
      · have e := List.mem_singleton.1 hx
        subst e
        exact Z3 hi
  unfold yG
  obtain ⟨k1, k2⟩ := key (a0.ZC.length + 1) 0 [] (fun x hx => (by cases hx)) (Nat.zero_le _) (Nat.zero_le _)
  refine ZP (p := fun w : ZE × Bool => Sm n w.1) h ?_
  exact ⟨by dsimp only; omega, k2⟩
theorem Li {n : Nat} {a0 : ZG} {a1 : Int} (h : Sm n a0) : Sm n (KZ a0 a1).1 := by
  refine ZP (p := fun w : ZG × Bool => Sm n w.1) h ?_
  exact ⟨h.1, h.2⟩
theorem NU {n : Nat} {a0 : ZG} {a1 : Int} (h : Sm n a0) : Sm n (X1 a0 a1).1 := by
  refine ZP (p := fun w : ZG × Bool => Sm n w.1) h ?_
  exact ⟨h.1, h.2.1, zu h.2.2.1 trivial, h.2.2.2⟩
theorem L3 {n : Nat} {a0 : ZG} {a1 a2 : Int} {a3 : ZU} {a4 a5 : Int} (h : Sm n a0) (hd : Sm n a3) (hn : 9 <= n) : Sm (n + 1) (JN a0 a1 a2 a3 a4 a5).1 :=
  ZP (p := fun w : ZG × Bool => Sm (n + 1) w.1) (ZN (Nat.le_succ n) h) (Q6 h hd hn)
theorem RV (a0 : ZG) (a1 a2 : Int) (a3 : ZU) (a4 a5 : Int) : (Yt a0 a1 a2 a3 a4 a5).1.YF = a0.YF := by
  have key : ∀ m v r, QE a0 a1 a2 a3 a4 a5 m v = .inl r -> r.1.YF = a0.YF := by
    intro m
    induction m with
    | zero => intro v r h; cases h
    | succ m ih =>
      intro v r h
      unfold QE at h
      revert h
      let p := fun w : Sum (ZG × Bool) Unit => w = Sum.inl r -> r.1.YF = a0.YF
      exact ZP (p := p) (ZP (p := p) (fun h => ih _ _ h) (ZP (p := p) (fun h => by cases h; rfl) (fun h => by cases h; rfl))) (fun h => by cases h)
  unfold Yt
  refine ZP (p := fun w : ZG × Bool => w.1.YF = a0.YF) rfl ?_
  cases he : QE a0 a1 a2 a3 a4 a5 (a0.ZM.length + 1) 0 with
  | inl r => exact key _ _ r he
  | inr _ => rfl
theorem MG {n : Nat} {a0 : ZG} {a1 a2 : Int} {a3 : ZU} (h : Sm n a0) (hd : Sm n a3) (hn : 9 <= n) : Sm (n + 1) (JI a0 a1 a2 a3).1 := by
  unfold JI
  have hs : Sm (n + 1) (Yt a0 a1 a2 a3 0 10000).1 := Q6 h hd hn
  refine ZP (p := fun w : ZG × Bool => Sm (n + 1) w.1) (ZN (Nat.le_succ n) h) (ZP (p := fun w : ZG × Bool => Sm (n + 1) w.1) ?_ hs)
  refine ⟨hs.1, hs.2.1, hs.2.2.1, hs.2.2.2.1, hs.2.2.2.2.1, hs.2.2.2.2.2.1, ⟨?_, fun _ _ => trivial⟩⟩
  show (_ ++ [a0.Next]).length <= n + 1
  rw [RV]
  have := Yk (ZG.Tu h)
  simp; omega
theorem Lm {n : Nat} {a0 : Zi} {a1 : Ze} (h : Sm n a0) (hp : Sm (n + 1) a1) : Sm (n + 1) (Qw a0 a1).1 := by
  have h1 : Sm (n + 1) a0 := ZN (Nat.le_succ n) h
  refine ZP (p := fun w : Zi × Bool => Sm (n + 1) w.1) h1 ?_
  refine ⟨⟨?_, fun x hx => ?_⟩, h1.2⟩
  · have := h.1.1; simp; omega
  · rcases List.mem_append.1 hx with hx | hx
    · exact h1.1.2 x hx
    · have e := List.mem_singleton.1 hx; subst e; exact hp
theorem UZ {n : Nat} {a0 : Zi} {a1 : Zb} (h : Sm n a0) (hp : Sm (n + 1) a1) : Sm (n + 1) (Ym a0 a1).1 := by
  have h1 : Sm (n + 1) a0 := ZN (Nat.le_succ n) h
  refine ZP (p := fun w : Zi × Bool => Sm (n + 1) w.1) h1 ?_
  refine ⟨h1.1, ⟨?_, fun x hx => ?_⟩⟩
  · have := h.2.1; simp; omega
  · rcases List.mem_append.1 hx with hx | hx
    · exact h1.2.2 x hx
    · have e := List.mem_singleton.1 hx; subst e; exact hp
theorem LB {n : Nat} {a0 : ZE} {a1 : Int} {a2 : Ze} (h : Sm n a0) (hp : Sm (n + 1) a2) : Sm (n + 1) (Qq a0 a1 a2).1 := by
  have h1 : Sm (n + 1) a0 := ZN (Nat.le_succ n) h
  refine ZP (p := fun w : ZE × Bool => Sm (n + 1) w.1) h1 ?_
  refine zu (ZE.YM h1) ?_
  have hi : Sm n (nth a0.ZC (Za a0 a1).toNat) := Z3 (ZE.YM h)
  exact ⟨(ZN (Nat.le_succ n) hi).1, Lm hi.2 hp⟩
theorem Sg {n : Nat} {a0 : ZG} {i : Nat} {x : ZE} (h : Sm n a0) (hx : Sm n x) : Sm n (ZG.mk a0.Frame a0.ZM a0.Zy (a0.ZA.set i x) a0.Yb a0.YO a0.Next a0.YF) :=
  ⟨h.1, h.2.1, h.2.2.1, zu h.2.2.2.1 hx, h.2.2.2.2⟩
theorem VI {n : Nat} {a0 : ZG} {a1 a2 : Int} {a3 : Zn} (h : Sm n a0) (hn : 5 <= n) : Sm (n + 1) (Qf a0 a1 a2 a3).1 := by
  have h1 : Sm (n + 1) a0 := ZN (Nat.le_succ n) h
  refine ZP (p := fun w : ZG × Bool => Sm (n + 1) w.1) h1 ?_
  exact Sg h1 (LB (Z3 (ZG.YA h)) (VS (by omega)))
theorem Nd {n : Nat} {a0 : ZG} {a1 : Int} (h : Sm n a0) (hn : 5 <= n) : Sm (n + 1) (Qk a0 a1).1 := by
  have h1 : Sm (n + 1) a0 := ZN (Nat.le_succ n) h
  let p := fun w : ZG × Bool => Sm (n + 1) w.1
  exact ZP (p := p) h1 (ZP (p := p) h1 (ZP (p := p) (VI h hn) (VI h hn)))
theorem IT {n : Nat} {a0 : ZG} {a1 a2 : Int} (h : Sm n a0) (hn : 5 <= n) : Sm (n + 1) (Jo a0 a1 a2).1 := by
  have h1 : Sm (n + 1) a0 := ZN (Nat.le_succ n) h
  exact ZP (p := fun w : ZG × Bool => Sm (n + 1) w.1) h1 (VI h hn)
theorem NZ {n : Nat} {a0 : ZE} {a1 : Int} (h : Sm n a0) : Sm n (KJ a0 a1).1 := by
  have hi := ZE.YM h
  have key : ∀ m v l, (∀ x ∈ l, Sm n x) -> l.length <= v -> v <= a0.ZC.length -> (X7 a0 a1 m v l).length <= a0.ZC.length /\ ∀ x ∈ X7 a0 a1 m v l, Sm n x := by
    intro m
    induction m with
    | zero => intro v l _ _ _; exact ⟨Nat.zero_le _, fun x hx => (by cases hx)⟩
    | succ m ih =>
      intro v l hs hl hv
      rw [X7]
      let p := fun w : List ZV => w.length <= a0.ZC.length /\ ∀ x ∈ w, Sm n x
      refine Z6 (p := p) (fun hc => ?_) (fun _ => ⟨by omega, hs⟩)
      have hc : v < a0.ZC.length := by simpa using hc
      refine ZP (p := p) (ih _ _ (fun x hx => ?_) (by simp; omega) hc) (ih _ _ hs (by omega) hc)
      rcases List.mem_append.1 hx with hx | hx
      · exact hs x hx
      · have e := List.mem_singleton.1 hx
        subst e
        exact Z3 hi
  obtain ⟨k1, k2⟩ := key (a0.ZC.length + 1) 0 [] (fun x hx => (by cases hx)) (Nat.zero_le _) (Nat.zero_le _)
  have := Yk hi
  exact ⟨by show (X7 a0 a1 (a0.ZC.length + 1) 0 []).length <= n; omega, k2⟩
theorem Nj {n : Nat} {a0 : ZG} {a1 : Int} (h : Sm n a0) : Sm n (Q9 a0 a1).1 :=
  ZP (p := fun w : ZG × Bool => Sm n w.1) h (Sg h (NZ (Z3 (ZG.YA h))))
theorem P8 {n : Nat} {a0 : ZE} {a1 : Int} {a2 : List Zp} (h : Sm n a0) (hp : Sm n a2) (hn : 17 <= n) : Sm (n + 1) (Yw a0 a1 a2).1 := by
  have h1 : Sm (n + 1) a0 := ZN (Nat.le_succ n) h
  have hi := ZE.YM h
  have key : ∀ m v l, l.length = a0.ZC.length -> (∀ x ∈ l, Sm (n + 1) x) -> (∀ r, Xg a0 a1 a2 m v l = .inl r -> r = (a0, false)) /\ ∀ z, Xg a0 a1 a2 m v l = .inr z -> z.length <= a0.ZC.length /\ ∀ x ∈ z, Sm (n + 1) x := by
    intro m
    induction m with
    | zero => intro v l _ _; exact ⟨fun r h => (by cases h), fun z h => (by cases h; exact ⟨Nat.zero_le _, fun x hx => (by cases hx)⟩)⟩
    | succ m ih =>
      intro v l hl hs
      rw [Xg]
      let p := fun w : Sum (ZE × Bool) (List ZV) => (∀ r, w = .inl r -> r = (a0, false)) /\ ∀ z, w = .inr z -> z.length <= a0.ZC.length /\ ∀ x ∈ z, Sm (n + 1) x
      refine ZP (p := p) (ZP (p := p) ⟨fun r h => (by cases h; rfl), fun z h => (by cases h)⟩ (ih _ _ (by rw [List.length_set]; exact hl) (fun x hx => ?_))) ⟨fun r h => (by cases h), fun z h => (by cases h; exact ⟨by omega, hs⟩)⟩
      rcases List.mem_or_eq_of_mem_set hx with hx | rfl
      · exact hs x hx
      · have fS : Sm (n + 1) (nth l v) := by
          by_cases hv : v < l.length
          · have : nth l v = l[v] := by simp [nth, List.getD_eq_getElem?_getD, List.getElem?_eq_getElem hv]
            rw [this]; exact hs _ (List.getElem_mem hv)
          · have : nth l v = default := by simp [nth, List.getD_eq_getElem?_getD, List.getElem?_eq_none (Nat.le_of_not_lt hv)]
            rw [this]; exact Sz.zero _
        have hv : Sm n (nth a0.ZC v) := Z3 hi
        refine ⟨fS.1, UZ hv.2 ?_⟩
        exact ⟨SL (by omega), ZN (Nat.le_succ n) hp⟩
  unfold Yw
  refine ZP (p := fun w : ZE × Bool => Sm (n + 1) w.1) h1 ?_
  obtain ⟨k1, k2⟩ := key (a0.ZC.length + 1) 0 a0.ZC rfl (fun x hx => ZN (Nat.le_succ n) (hi.2 x hx))
  cases hh : Xg a0 a1 a2 (a0.ZC.length + 1) 0 a0.ZC with
  | inl r => rw [k1 r hh]; exact h1
  | inr z =>
    obtain ⟨q1, q2⟩ := k2 z hh
    have := Yk hi
    exact ZP (p := fun w : ZE × Bool => Sm (n + 1) w.1) h1 ⟨by show z.length <= n + 1; omega, q2⟩
theorem VP {n : Nat} {a0 : ZG} {a1 : Int} {a2 : List Int} {a3 : Int} : ∀ (m : Nat) (l : List Zp) (v : Nat) (q : List Int), l.length <= v -> v <= a2.length ->
    (∀ r, XW a0 a1 a2 a3 m l v q = .inl r -> r = (a0, false)) /\ ∀ z, XW a0 a1 a2 a3 m l v q = .inr z -> z.1.length <= a2.length /\ z.2.length <= q.length
  | 0, _, _, _, _, _ => ⟨fun r h => (by cases h), fun z h => (by cases h; exact ⟨Nat.zero_le _, Nat.zero_le _⟩)⟩
  | m + 1, l, v, q, hl, hv => by
    rw [XW]
    let p := fun w : Sum (ZG × Bool) (List Zp × List Int) => (∀ r, w = .inl r -> r = (a0, false)) /\ ∀ z, w = .inr z -> z.1.length <= a2.length /\ z.2.length <= q.length
    have bad : p (.inl (a0, false)) := ⟨fun r h => (by cases h; rfl), fun z h => (by cases h)⟩
    refine Z6 (p := p) (fun hc => ?_) (fun _ => ⟨fun r h => (by cases h), fun z h => (by cases h; exact ⟨Nat.le_trans hl hv, Nat.le_refl _⟩)⟩)
    have hc : v < a2.length := by simpa using hc
    have step : ∀ x i y, p (XW a0 a1 a2 a3 m (l ++ [x]) (v + 1) (q.set i y)) := fun x i y => by
      obtain ⟨k1, k2⟩ := VP (n := n) (a0 := a0) (a1 := a1) (a2 := a2) (a3 := a3) m (l ++ [x]) (v + 1) (q.set i y) (by simp; omega) hc
      exact ⟨k1, fun z hz => by have := k2 z hz; rw [List.length_set] at this; exact this⟩
    exact ZP (p := p) bad (ZP (p := p) bad (ZP (p := p) (ZP (p := p) bad (step _ _ _)) (ZP (p := p) bad (step _ _ _))))
theorem MH {n : Nat} {a0 : ZG} {a1 : Int} {a2 : List Int} {a3 : Int} (h : Sm n a0) (h2 : Sm n a2) (hn : 17 <= n) : Sm (n + 1) (QS a0 a1 a2 a3).1 := by
  have h1 : Sm (n + 1) a0 := ZN (Nat.le_succ n) h
  unfold QS
  refine ZP (p := fun w : ZG × Bool => Sm (n + 1) w.1) h1 ?_
  obtain ⟨k1, k2⟩ := VP (n := n) (a0 := a0) (a1 := a1) (a2 := a2) (a3 := a3) (a2.length + 1) [] 0 a0.Yb (Nat.zero_le _) (Nat.zero_le _)
  cases hh : XW a0 a1 a2 a3 (a2.length + 1) [] 0 a0.Yb with
  | inl r => rw [k1 r hh]; exact h1
  | inr z =>
    obtain ⟨q1, q2⟩ := k2 z hh
    obtain ⟨z0, z1⟩ := z
    have e2 := Yk h2
    have e3 := Yk (ZG.HT h)
    have hs : Sm n z0 := ⟨by simp only at q1; omega, fun _ _ => trivial⟩
    refine ZP (p := fun w : ZG × Bool => Sm (n + 1) w.1) h1 ?_
    exact ⟨h1.1, h1.2.1, h1.2.2.1, zu h1.2.2.2.1 (P8 (Z3 (ZG.YA h)) hs hn), ⟨by simp only at q2 ⊢; omega, fun _ _ => trivial⟩, h1.2.2.2.2.2⟩
theorem R5 {n : Nat} {a0 : ZE} {a1 : YS} {a2 : Int} (h : Sm n a0) (hp : Sm n a1) : Sm (n + a1.ZC.length) (XH a0 a1 a2).1 := by
  have h1 : Sm (n + a1.ZC.length) a0 := ZN (Nat.le_add_right _ _) h
  have key : ∀ m v d l, Sm (n + v) (ZE.mk d l) -> v <= a1.ZC.length -> (∀ r, X0 a0 a1 m v d l = .inl r -> r = (a0, false)) /\ ∀ z, X0 a0 a1 m v d l = .inr z -> Sm (n + a1.ZC.length) (ZE.mk z.1 z.2) := by
    intro m
    induction m with
    | zero => intro v d l _ _; exact ⟨fun r h => (by cases h), fun z h => (by cases h; exact Jx)⟩
    | succ m ih =>
      intro v d l hs hv
      rw [X0]
      let p := fun w : Sum (ZE × Bool) (Int × List ZV) => (∀ r, w = .inl r -> r = (a0, false)) /\ ∀ z, w = .inr z -> Sm (n + a1.ZC.length) (ZE.mk z.1 z.2)
      refine Z6 (p := p) (fun hc => ?_) (fun _ => ⟨fun r h => (by cases h), fun z h => (by cases h; exact ZN (Nat.add_le_add_left hv n) hs)⟩)
      have hc : v < a1.ZC.length := by simpa using hc
      exact ZP (p := p) ⟨fun r h => (by cases h; rfl), fun z h => (by cases h)⟩ (ih _ _ _ (V6 hs (ZN (Nat.le_succ_of_le (Nat.le_add_right n v)) (Z3 (YS.YM hp)))) hc)
  unfold XH
  refine ZP (p := fun w : ZE × Bool => Sm (n + a1.ZC.length) w.1) h1 ?_
  obtain ⟨k1, k2⟩ := key (a1.ZC.length + 1) 0 a0.Id a0.ZC h (Nat.zero_le _)
  cases hh : X0 a0 a1 (a1.ZC.length + 1) 0 a0.Id a0.ZC with
  | inl r => rw [k1 r hh]; exact h1
  | inr z => exact k2 z hh
theorem Pe {n : Nat} {a0 : ZE} {a1 : Int} {a2 : List Int} {a3 : Int} (h : Sm n a0) : (Y9 a0 a1 a2 a3).1.ZC.length <= a2.length := by
  unfold Y9
  obtain ⟨k1, k2⟩ := xj (a2 := a2) h (a2.length + 1) 0 [] (fun x hx => (by cases hx)) (Nat.zero_le _) (Nat.zero_le _)
  cases hh : QA a0 a2 (a2.length + 1) 0 [] with
  | inl r => rw [k1 r hh]; exact Nat.zero_le _
  | inr z => exact ZP (p := fun w : YS × Bool => w.1.ZC.length <= a2.length) (Nat.zero_le _) (k2 z hh).1
theorem N8 {n : Nat} {a0 a1 : ZE} {a2 : List Int} {a3 : Int} (hb : n <= 9223372036854775807) (h0 : Sm n a0) (h1 : Sm n a1) (h2 : Sm n a2) : Sm n (Yy a0 a1 a2 a3).1 /\ Sm (n + a2.length) (Yy a0 a1 a2 a3).2.1 := by
  have fT : Sm (n + a2.length) (XH a1 (Y9 a0 a1.Id a2 a3).1 a3).1 :=
    ZN (Nat.add_le_add_left (Pe h0) n) (R5 h1 (jd h0 h2))
  have bad : Sm n a0 /\ Sm (n + a2.length) a1 := ⟨h0, ZN (Nat.le_add_right _ _) h1⟩
  have key : ∀ m v d l, Sm n (ZE.mk d l) -> (∀ r, Qz a0 a1 a2 m v d l = .inl r -> r = (a0, a1, false)) /\ ∀ z, Qz a0 a1 a2 m v d l = .inr z -> Sm n (ZE.mk z.1 z.2) := by
    intro m
    induction m with
    | zero => intro v d l _; exact ⟨fun r h => (by cases h), fun z h => (by cases h; exact Jx)⟩
    | succ m ih =>
      intro v d l hs
      rw [Qz]
      let p := fun w : Sum (ZE × ZE × Bool) (Int × List ZV) => (∀ r, w = .inl r -> r = (a0, a1, false)) /\ ∀ z, w = .inr z -> Sm n (ZE.mk z.1 z.2)
      exact ZP (p := p) (ZP (p := p) ⟨fun r h => (by cases h; rfl), fun z h => (by cases h)⟩ (ih _ _ _ (SX hb hs))) ⟨fun r h => (by cases h), fun z h => (by cases h; exact hs)⟩
  unfold Yy
  let p := fun w : ZE × ZE × Bool => Sm n w.1 /\ Sm (n + a2.length) w.2.1
  refine ZP (p := p) bad ?_
  obtain ⟨k1, k2⟩ := key (a2.length + 1) 0 a0.Id a0.ZC h0
  cases hh : Qz a0 a1 a2 (a2.length + 1) 0 a0.Id a0.ZC with
  | inl r => rw [k1 r hh]; exact bad
  | inr z => exact ⟨k2 z hh, fT⟩
theorem Lu {n : Nat} {a0 : ZG} {a1 a2 a3 : Int} (hb : n <= 9223372036854775807) (h : Sm n a0) (hn : 1 <= n) : Sm (n + 1) (Kc a0 a1 a2 a3).1 := by
  have h1 : Sm (n + 1) a0 := ZN (Nat.le_succ n) h
  have hm := N8 (a0 := nth a0.ZA a1.toNat) (a1 := nth a0.ZA a2.toNat) (a2 := [a3]) (a3 := ZT a0.Frame.Methods a0.Frame.Now) hb (Z3 (ZG.YA h)) (Z3 (ZG.YA h)) ⟨hn, fun _ _ => trivial⟩
  let p := fun w : ZG × Bool => Sm (n + 1) w.1
  exact ZP (p := p) h1 (ZP (p := p) ⟨h1.1, h1.2.1, h1.2.2.1, zu (zu h1.2.2.2.1 (ZN (Nat.le_succ n) hm.1)) hm.2, h1.2.2.2.2⟩ h1)
theorem jf {a0 : ZG} {a1 a2 : Int} : ∀ (m v : Nat) (l : List Zp), (∀ r, XV a0 a1 a2 m v l = .inl r -> r = (a0, false)) /\ ∀ z, XV a0 a1 a2 m v l = .inr z -> z.length <= l.length + ((Z1 a0).length - v)
  | 0, v, l => ⟨fun r h => (by cases h), fun z h => (by cases h; exact Nat.zero_le _)⟩
  | m + 1, v, l => by
    rw [XV]
    let p := fun w : Sum (ZG × Bool) (List Zp) => (∀ r, w = .inl r -> r = (a0, false)) /\ ∀ z, w = .inr z -> z.length <= l.length + ((Z1 a0).length - v)
    refine Z6 (p := p) (fun hc => ?_) (fun _ => ⟨fun r h => (by cases h), fun z h => (by cases h; exact Nat.le_add_right _ _)⟩)
    have hc : v < (Z1 a0).length := by simpa using hc
    refine ZP (p := p) ⟨fun r h => (by cases h; rfl), fun z h => (by cases h)⟩ ?_
    obtain ⟨k1, k2⟩ := jf (a0 := a0) (a1 := a1) (a2 := a2) m (v + 1) (l ++ [(JF a0.Frame.Zq a0.Frame.ZF (Zp.mk (nth (Z1 a0) v) 0 a2 (JL (nth (nth a0.ZA (ZW a0 a1).1.toNat).ZC (ZW a0 a1).2.toNat) (ZT a0.Frame.Methods a0.Frame.Now)) 0)).1])
    exact ⟨k1, fun z hz => by have := k2 z hz; rw [List.length_append, List.length_singleton] at this; omega⟩
theorem Rt {n : Nat} {a0 : ZG} {a1 a2 : Int} (h : Sm n a0) : Sm (n + 1) (Xr a0 a1 a2).1 := by
  have h1 : Sm (n + 1) a0 := ZN (Nat.le_succ n) h
  unfold Xr
  refine ZP (p := fun w : ZG × Bool => Sm (n + 1) w.1) h1 ?_
  obtain ⟨k1, k2⟩ := jf (a0 := a0) (a1 := a1) (a2 := a2) ((Z1 a0).length + 1) 0 []
  cases hh : XV a0 a1 a2 ((Z1 a0).length + 1) 0 [] with
  | inl r => rw [k1 r hh]; exact h1
  | inr z =>
    have hz := k2 z hh
    have hf := JW a0
    have ha := Yk (Zu.Y5 (ZG.Yp h))
    rw [List.length_nil] at hz
    have hA : Sm n (nth a0.ZA (ZW a0 a1).1.toNat) := Z3 (ZG.YA h)
    have hI : Sm n (nth (nth a0.ZA (ZW a0 a1).1.toNat).ZC (ZW a0 a1).2.toNat) := Z3 (ZE.YM hA)
    refine Sg h1 (zu (ZE.YM (ZN (Nat.le_succ n) hA)) ⟨(ZN (Nat.le_succ n) hI).1, UZ hI.2 ?_⟩)
    exact ⟨Jx, ⟨by show z.length <= n + 1; omega, fun _ _ => trivial⟩⟩
theorem Uh {n : Nat} {a0 : ZG} {a1 : Zg} (hb : n <= 9223372036854775807) (h : Sm n a0) (he : Sm n a1) (hn : 17 <= n) : Sm (n + 1) (Z4 a0 a1).1 := by
  have h1 : Sm (n + 1) a0 := ZN (Nat.le_succ n) h
  have up : ∀ w : ZG, Sm n w -> Sm (n + 1) w := fun w hw => ZN (Nat.le_succ n) hw
  unfold Z4
  let p := fun w : ZG × Bool => Sm (n + 1) w.1
  exact ZP (p := p) (up _ (Li h)) (ZP (p := p) (L3 h he.1 (by omega)) (ZP (p := p) (Nd h (by omega)) (ZP (p := p) (up _ (NU h)) (ZP (p := p) (MH h he.2 hn) (ZP (p := p) (Lu hb h (by omega)) (ZP (p := p) (up _ (Nj h))
    (ZP (p := p) (MG h he.1 (by omega)) (ZP (p := p) (Rt h) (ZP (p := p) (IT h (by omega)) h1)))))))))
theorem Ji (c : YC) : (Zt c).2.length = 10 := by simp [Zt]
theorem Ty {n : Nat} (h : 4 <= n) : Sm n Jh := ⟨h, fun _ _ => trivial⟩
theorem HN {n : Nat} (h : 4 <= n) : Sm n kB := ⟨h, fun _ _ => trivial⟩
theorem GC {n : Nat} (h : 3 <= n) : Sm n qU := ⟨h, fun _ _ => trivial⟩
theorem jJ (a0 : Int) (a1 : List ByteArray) (a2 : Int) : ∀ (m v : Nat) (l : List Int), (Kp a0 a1 a2 m v l).length <= l.length + m
  | 0, _, _ => Nat.zero_le _
  | m + 1, v, l => by
    rw [Kp]
    refine ZP (p := fun r : List Int => r.length <= l.length + (m + 1)) ?_ (by omega)
    have := jJ a0 a1 a2 m (v + 1) (l ++ [xV 1 (xS a2 [a0, v])])
    simp only [List.length_append, List.length_singleton] at this
    omega
theorem Rk {n : Nat} {a0 : Int} {a1 : List ByteArray} {a2 : Int} (h : Sm n a1) (hn : a1.length + 1 <= n) : Sm n (Kr a0 a1 a2).1 := by
  unfold Kr
  have := jJ a0 a1 a2 (a1.length + 1) 0 []
  refine ZP (p := fun r : ZU × Bool => Sm n r.1) ⟨Sz.zero n, Sz.zero n⟩ ⟨h, Nat.le_trans this (by simpa using hn), fun _ _ => trivial⟩
theorem SJ : ∀ (m : Nat) (l : List ByteArray) (i : Int) (b : List UInt8) (j : Nat) (h : Int), (∀ x ∈ l, x.size <= 11) -> (qb m l i b j h).1.length <= l.length + m /\ ∀ x ∈ (qb m l i b j h).1, x.size <= 11
  | 0, _, _, _, _, _, _ => ⟨Nat.zero_le _, fun x hx => by cases hx⟩
  | m + 1, l, i, b, j, h, hl => by
    rw [qb]
    refine ZP (p := fun r : (List ByteArray) × (List UInt8) × Nat × Int => r.1.length <= l.length + (m + 1) /\ ∀ x ∈ r.1, x.size <= 11) ?_ ⟨by show l.length <= _; omega, hl⟩
    have := SJ m (l ++ [(Ku (YC.mk b j h)).2]) (W (i - 1)) (Ku (YC.mk b j h)).1.b (Ku (YC.mk b j h)).1.i (Ku (YC.mk b j h)).1.h (fun x hx => by
      rcases List.mem_append.1 hx with hx | hx
      · exact hl x hx
      · rw [List.mem_singleton.1 hx]; exact SY _)
    simp only [List.length_append, List.length_singleton] at this
    exact ⟨by omega, this.2⟩
theorem OZ {n : Nat} {a0 : YC} (h : 20 <= n) : Sm n (XO a0).2 := by
  unfold XO
  have := SJ 5 [] (W (1 + (ZH a0 3).2)) (ZH a0 3).1.b (ZH a0 3).1.i (ZH a0 3).1.h (fun x hx => by cases hx)
  simp only [List.length_nil] at this
  exact Rk ⟨by omega, fun x hx => Nat.le_trans (this.2 x hx) (by omega)⟩ (by omega)
theorem L7 {n m : Nat} {a0 : Zi} {a1 : Ze} (hn : n + 1 <= m) (h : Sm n a0) (hx : Sm m a1) : Sm m (K8 a0 a1).1 := by
  have h1 : Sm m a0 := ZN (by omega) h
  unfold K8
  refine ZP (p := fun r : Zi × Bool => Sm m r.1) h1 ⟨⟨?_, fun y hy => ?_⟩, h1.2⟩
  · have : a0.ZL.length <= n := h.1.1
    simp only [List.length_append, List.length_singleton]; omega
  · rcases List.mem_append.1 hy with hy | hy
    · exact h1.1.2 y hy
    · rw [List.mem_singleton.1 hy]; exact hx
theorem UX {n m : Nat} {a0 : Zi} {a1 : Zb} (hn : n + 1 <= m) (h : Sm n a0) (hx : Sm m a1) : Sm m (Xz a0 a1).1 := by
  have h1 : Sm m a0 := ZN (by omega) h
  unfold Xz
  refine ZP (p := fun r : Zi × Bool => Sm m r.1) h1 ⟨h1.1, ⟨?_, fun y hy => ?_⟩⟩
  · have : a0.Zl.length <= n := h.2.1
    simp only [List.length_append, List.length_singleton]; omega
  · rcases List.mem_append.1 hy with hy | hy
    · exact h1.2.2 y hy
    · rw [List.mem_singleton.1 hy]; exact hx
theorem Wy {n : Nat} {a0 : Int} (h : 20 <= n) : Sm n (XS a0) := by
  have hw : ∀ (k : Int) (l : List Int), l.length <= 1 -> Sm n (ZG.mk (Zu.mk zM Jh kB k 0) qU ([(-1), (-1), (-1)] : List Int) ([(ZE.mk 0 ([] : List ZV)), (ZE.mk 1 ([] : List ZV))] : List ZE) ([0, 0, 0, 0] : List Int) l 1 ([] : List Int)) := fun k l hl => by
    have h1 := WW (n := n) (by omega)
    have h2 := Ty (n := n) (by omega)
    have h3 := HN (n := n) (by omega)
    have h4 := GC (n := n) (by omega)
    have h5 : Sm n ([(ZE.mk 0 ([] : List ZV)), (ZE.mk 1 ([] : List ZV))] : List ZE) := ⟨by simp; omega, fun y hy => by
      rcases List.mem_cons.1 hy with rfl | hy
      · exact Sz.zero (α := List ZV) _
      · rw [List.mem_singleton.1 hy]; exact Sz.zero (α := List ZV) _⟩
    have h6 : ∀ l : List Int, l.length <= 20 -> Sm n l := fun l hl => ⟨by omega, fun _ _ => trivial⟩
    simp only [ZG.WN, Zu.WN]
    simp only [h1, h2, h3, h4, h5, h6 _ (show ([(-1), (-1), (-1)] : List Int).length <= 20 by decide), h6 _ (show ([0, 0, 0, 0] : List Int).length <= 20 by decide), h6 l (by omega), h6 [] (by decide), and_self]
  unfold XS
  exact ZP (p := fun r : ZG => Sm n r) (hw _ _ (by decide)) (hw _ _ (by decide))
theorem jm {n : Nat} {a0 : ZG} {i : Nat} {x : ZE} (h : Sm n a0) (hx : Sm n x) : Sm n (ZG.mk a0.Frame a0.ZM a0.Zy (a0.ZA.set i x) a0.Yb a0.YO a0.Next a0.YF) :=
  ⟨h.1, h.2.1, h.2.2.1, zu h.2.2.2.1 hx, h.2.2.2.2⟩
theorem L4 {n : Nat} {a0 : ZG} {a1 : Int} (h : Sm n a0) : Sm n (qn a0 a1).1 := by
  refine ZP (p := fun w : ZG × Bool => Sm n w.1) h ?_
  exact ⟨h.1, h.2⟩
theorem Ol {n : Nat} {a0 : ZG} {a1 : Int} (h : Sm n a0) : Sm n (yl a0 a1).1 := by
  refine ZP (p := fun w : ZG × Bool => Sm n w.1) h ?_
  exact ⟨h.1, h.2.1, zu h.2.2.1 trivial, h.2.2.2⟩
theorem Lz {n : Nat} {a0 : ZG} {a1 a2 : Int} {a3 : ZU} {a4 a5 : Int} (h : Sm n a0) (hd : Sm n a3) (hn : 9 <= n) : Sm (n + 1) (qW a0 a1 a2 a3 a4 a5).1 := by
  have h1 : Sm (n + 1) a0 := ZN (Nat.le_succ n) h
  have ha : Sm (n + 1) (Xo (nth a0.ZA a1.toNat) (Xa a0 a2 a3 a4 a5).1).1 := jo (Z3 (ZG.YA h)) (KP hd hn)
  refine ZP (p := fun w : ZG × Bool => Sm (n + 1) w.1) h1 (ZP (p := fun w : ZG × Bool => Sm (n + 1) w.1) h1 (ZP (p := fun w : ZG × Bool => Sm (n + 1) w.1) h1 ?_))
  exact ⟨h1.1, h1.2.1, h1.2.2.1, zu h1.2.2.2.1 ha, h1.2.2.2.2⟩
theorem MJ {n : Nat} {a0 : ZG} {a1 a2 : Int} {a3 : ZU} (h : Sm n a0) (hd : Sm n a3) (hn : 9 <= n) : Sm (n + 1) (xX a0 a1 a2 a3).1 := by
  have h1 : Sm (n + 1) a0 := ZN (Nat.le_succ n) h
  have ha : Sm (n + 1) (Xo (nth a0.ZA a1.toNat) (Xa a0 a2 a3 0 10000).1).1 := jo (Z3 (ZG.YA h)) (KP hd hn)
  refine ZP (p := fun w : ZG × Bool => Sm (n + 1) w.1) h1 (ZP (p := fun w : ZG × Bool => Sm (n + 1) w.1) h1 (ZP (p := fun w : ZG × Bool => Sm (n + 1) w.1) h1 ?_))
  have := Yk (ZG.Tu h)
  exact ⟨h1.1, h1.2.1, h1.2.2.1, zu h1.2.2.2.1 ha, h1.2.2.2.2.1, h1.2.2.2.2.2.1, ⟨by simp; omega, fun _ _ => trivial⟩⟩
theorem Un {n : Nat} {a0 : ZE} {a1 : Int} {a2 : Ze} (h : Sm n a0) (hp : Sm (n + 1) a2) : Sm (n + 1) (YL a0 a1 a2).1 := by
  have h1 : Sm (n + 1) a0 := ZN (Nat.le_succ n) h
  refine ZP (p := fun w : ZE × Bool => Sm (n + 1) w.1) h1 ?_
  refine zu (ZE.YM h1) ?_
  have hi : Sm n (nth a0.ZC (Yf a0 a1).toNat) := Z3 (ZE.YM h)
  exact ⟨(ZN (Nat.le_succ n) hi).1, L7 (Nat.le_refl _) hi.2 hp⟩
theorem NH {n : Nat} {a0 : ZG} {a1 : Int} (h : Sm n a0) (hn : 5 <= n) : Sm (n + 1) (yU a0 a1).1 := by
  have h1 : Sm (n + 1) a0 := ZN (Nat.le_succ n) h
  let p := fun w : ZG × Bool => Sm (n + 1) w.1
  have k : ∀ i x, Sm (n + 1) (ZG.mk a0.Frame a0.ZM a0.Zy (a0.ZA.set i (YL (nth a0.ZA i) a1 (Zr x)).1) a0.Yb a0.YO a0.Next a0.YF) := fun i x =>
    jm h1 (Un (Z3 (ZG.YA h)) (Y1 (by omega)))
  exact ZP (p := p) h1 (ZP (p := p) h1 (ZP (p := p) (ZP (p := p) h1 (k _ _)) (ZP (p := p) h1 (k _ _))))
theorem Ie {n : Nat} {a0 : ZG} {a1 a2 : Int} (h : Sm n a0) (hn : 5 <= n) : Sm (n + 1) (qT a0 a1 a2).1 := by
  have h1 : Sm (n + 1) a0 := ZN (Nat.le_succ n) h
  let p := fun w : ZG × Bool => Sm (n + 1) w.1
  have k : ∀ i x, Sm (n + 1) (ZG.mk a0.Frame a0.ZM a0.Zy (a0.ZA.set i (YL (nth a0.ZA i) a1 (Zr x)).1) a0.Yb a0.YO a0.Next a0.YF) := fun i x =>
    jm h1 (Un (Z3 (ZG.YA h)) (Y1 (by omega)))
  exact ZP (p := p) h1 (ZP (p := p) h1 (ZP (p := p) h1 (k _ _)))
theorem ND {n : Nat} {a0 : ZE} {a1 : Int} (h : Sm n a0) : Sm n (zG a0 a1).1 := by
  have hi := ZE.YM h
  have key : ∀ m c v l, (∀ x ∈ l, Sm n x) -> l.length <= v -> v <= a0.ZC.length -> (JB a0 a1 m c v l).2.length <= a0.ZC.length /\ ∀ x ∈ (JB a0 a1 m c v l).2, Sm n x := by
    intro m
    induction m with
    | zero => intro c v l _ _ _; exact ⟨Nat.zero_le _, fun x hx => (by cases hx)⟩
    | succ m ih =>
      intro c v l hs hl hv
      rw [JB]
      let p := fun w : Int × List ZV => w.2.length <= a0.ZC.length /\ ∀ x ∈ w.2, Sm n x
      refine Z6 (p := p) (fun hc => ?_) (fun _ => ⟨by show l.length <= _; omega, hs⟩)
      have hc : v < a0.ZC.length := by simpa using hc
      refine ZP (p := p) (ih _ _ _ hs (by omega) hc) (ih _ _ _ (fun x hx => ?_) (by simp; omega) hc)
      rcases List.mem_append.1 hx with hx | hx
      · exact hs x hx
      · have e := List.mem_singleton.1 hx
        subst e
        exact Z3 hi
  have hk := key (a0.ZC.length + 1) 0 0 [] (fun x hx => (by cases hx)) (Nat.zero_le _) (Nat.zero_le _)
  have := Yk hi
  unfold zG
  cases hh : JB a0 a1 (a0.ZC.length + 1) 0 0 [] with
  | mk z0 z1 => rw [hh] at hk; exact ⟨by show z1.length <= n; have := hk.1; simp only at this; omega, hk.2⟩
theorem NC {n : Nat} {a0 : ZG} {a1 : Int} (h : Sm n a0) : Sm n (yb a0 a1).1 :=
  ZP (p := fun w : ZG × Bool => Sm n w.1) h (jm h (ND (Z3 (ZG.YA h))))
theorem Pr {n : Nat} {a0 : ZE} {a1 : Int} {a2 : List Zp} (h : Sm n a0) (hp : Sm n a2) (hn : 17 <= n) : Sm (n + 1) (Xw a0 a1 a2).1 := by
  have h1 : Sm (n + 1) a0 := ZN (Nat.le_succ n) h
  have hi := ZE.YM h
  have key : ∀ m b v l, l.length = a0.ZC.length -> (∀ x ∈ l, Sm (n + 1) x) -> (JM a0 a1 a2 m b v l).2.length <= a0.ZC.length /\ ∀ x ∈ (JM a0 a1 a2 m b v l).2, Sm (n + 1) x := by
    intro m
    induction m with
    | zero => intro b v l _ _; exact ⟨Nat.zero_le _, fun x hx => (by cases hx)⟩
    | succ m ih =>
      intro b v l hl hs
      rw [JM]
      let p := fun w : Bool × List ZV => w.2.length <= a0.ZC.length /\ ∀ x ∈ w.2, Sm (n + 1) x
      refine ZP (p := p) (ih _ _ _ (by rw [List.length_set]; exact hl) (fun x hx => ?_)) ⟨by show l.length <= _; omega, hs⟩
      rcases List.mem_or_eq_of_mem_set hx with hx | rfl
      · exact hs x hx
      · have fS : Sm (n + 1) (nth l v) := by
          by_cases hv : v < l.length
          · have : nth l v = l[v] := by simp [nth, List.getD_eq_getElem?_getD, List.getElem?_eq_getElem hv]
            rw [this]; exact hs _ (List.getElem_mem hv)
          · have : nth l v = default := by simp [nth, List.getD_eq_getElem?_getD, List.getElem?_eq_none (Nat.le_of_not_lt hv)]
            rw [this]; exact Sz.zero _
        have hv : Sm n (nth a0.ZC v) := Z3 hi
        refine ⟨fS.1, UX (Nat.le_refl _) hv.2 ?_⟩
        exact ⟨Sb (by omega), ZN (Nat.le_succ n) hp⟩
  have hk := key (a0.ZC.length + 1) ((QT a0) && (decide ((a0.ZC.length : Int) > 0))) 0 a0.ZC rfl (fun x hx => ZN (Nat.le_succ n) (hi.2 x hx))
  have := Yk hi
  unfold Xw
  cases hh : JM a0 a1 a2 (a0.ZC.length + 1) ((QT a0) && (decide ((a0.ZC.length : Int) > 0))) 0 a0.ZC with
  | mk z0 z1 =>
    rw [hh] at hk
    exact ZP (p := fun w : ZE × Bool => Sm (n + 1) w.1) h1 ⟨by show z1.length <= n + 1; have := hk.1; simp only at this; omega, hk.2⟩
theorem WK {a0 : ZG} {a2 : List Int} : ∀ (m v : Nat) (q : List Int), (yq a0 a2 m v q).length <= q.length
  | 0, _, _ => Nat.zero_le _
  | m + 1, v, q => by
    rw [yq]
    refine ZP (p := fun w : List Int => w.length <= q.length) ?_ (Nat.le_refl _)
    exact Nat.le_trans (WK m (v + 1) _) (by rw [List.length_set]; exact Nat.le_refl _)
theorem VZ {a0 : ZG} {a1 : Int} {a2 : List Int} {a3 : Int} : ∀ (m : Nat) (l : List Zp) (v : Nat), l.length <= v -> v <= a2.length ->
    (∀ r, Qy a0 a1 a2 a3 m l v = .inl r -> r = (a0, false)) /\ ∀ z, Qy a0 a1 a2 a3 m l v = .inr z -> z.length <= a2.length
  | 0, _, _, _, _ => ⟨fun r h => (by cases h), fun z h => (by cases h; exact Nat.zero_le _)⟩
  | m + 1, l, v, hl, hv => by
    rw [Qy]
    let p := fun w : Sum (ZG × Bool) (List Zp) => (∀ r, w = .inl r -> r = (a0, false)) /\ ∀ z, w = .inr z -> z.length <= a2.length
    have bad : p (.inl (a0, false)) := ⟨fun r h => (by cases h; rfl), fun z h => (by cases h)⟩
    refine Z6 (p := p) (fun hc => ?_) (fun _ => ⟨fun r h => (by cases h), fun z h => (by cases h; exact Nat.le_trans hl hv)⟩)
    have hc : v < a2.length := by simpa using hc
    have step : ∀ x, p (Qy a0 a1 a2 a3 m (l ++ [x]) (v + 1)) := fun x =>
      VZ m (l ++ [x]) (v + 1) (by simp; omega) hc
    exact ZP (p := p) (ZP (p := p) bad (step _)) (ZP (p := p) bad (step _))
theorem M3 {n : Nat} {a0 : ZG} {a1 : Int} {a2 : List Int} {a3 : Int} (h : Sm n a0) (h2 : Sm n a2) (hn : 17 <= n) : Sm (n + 1) (z4 a0 a1 a2 a3).1 := by
  have h1 : Sm (n + 1) a0 := ZN (Nat.le_succ n) h
  unfold z4
  refine ZP (p := fun w : ZG × Bool => Sm (n + 1) w.1) h1 ?_
  obtain ⟨k1, k2⟩ := VZ (a0 := a0) (a1 := a1) (a2 := a2) (a3 := a3) (a2.length + 1) [] 0 (Nat.zero_le _) (Nat.zero_le _)
  cases hh : Qy a0 a1 a2 a3 (a2.length + 1) [] 0 with
  | inl r => rw [k1 r hh]; exact h1
  | inr z =>
    have q1 := k2 z hh
    have q2 := WK (a0 := a0) (a2 := a2) (a2.length + 1) 0 a0.Yb
    have e2 := Yk h2
    have e3 := Yk (ZG.HT h)
    have hs : Sm n z := ⟨by omega, fun _ _ => trivial⟩
    refine ZP (p := fun w : ZG × Bool => Sm (n + 1) w.1) h1 ?_
    exact ⟨h1.1, h1.2.1, h1.2.2.1, zu h1.2.2.2.1 (Pr (Z3 (ZG.YA h)) hs hn), ⟨Nat.le_trans q2 (Nat.le_succ_of_le e3), fun _ _ => trivial⟩, h1.2.2.2.2.2⟩
theorem RM {n : Nat} {a0 : ZE} {a1 : YS} {a2 : Int} (h : Sm n a0) (hp : Sm n a1) : Sm (n + a1.ZC.length) (XP a0 a1 a2).1 := by
  have h1 : Sm (n + a1.ZC.length) a0 := ZN (Nat.le_add_right _ _) h
  have key : ∀ m b v d l, Sm (n + v) (ZE.mk d l) -> v <= a1.ZC.length -> Sm (n + a1.ZC.length) (ZE.mk (Qv a1 m b v d l).2.1 (Qv a1 m b v d l).2.2) := by
    intro m
    induction m with
    | zero => intro b v d l _ _; exact Jx
    | succ m ih =>
      intro b v d l hs hv
      rw [Qv]
      let p := fun w : Bool × Int × List ZV => Sm (n + a1.ZC.length) (ZE.mk w.2.1 w.2.2)
      refine Z6 (p := p) (fun hc => ?_) (fun _ => ZN (Nat.add_le_add_left hv n) hs)
      have hc : v < a1.ZC.length := by rw [Bool.and_eq_true] at hc; simpa using hc.1
      exact ih _ _ _ _ (jo hs (ZN (Nat.le_add_right n v) (Z3 (YS.YM hp)))) hc
  have hk := key (a1.ZC.length + 1) ((Jb a1 a2) && (a1.To == a0.Id)) 0 a0.Id a0.ZC h (Nat.zero_le _)
  unfold XP
  cases hh : Qv a1 (a1.ZC.length + 1) ((Jb a1 a2) && (a1.To == a0.Id)) 0 a0.Id a0.ZC with
  | mk z0 z =>
    rw [hh] at hk
    exact ZP (p := fun w : ZE × Bool => Sm (n + a1.ZC.length) w.1) h1 hk
theorem PR {n : Nat} {a0 : ZE} {a1 : Int} {a2 : List Int} {a3 : Int} (h : Sm n a0) : (Yz a0 a1 a2 a3).1.ZC.length <= a2.length := by
  unfold Yz
  obtain ⟨k1, k2⟩ := qM (a2 := a2) h (a2.length + 1) 0 [] (fun x hx => (by cases hx)) (Nat.zero_le _) (Nat.zero_le _)
  cases hh : JC a0 a2 (a2.length + 1) 0 [] with
  | inl r => rw [k1 r hh]; exact Nat.zero_le _
  | inr z => exact ZP (p := fun w : YS × Bool => w.1.ZC.length <= a2.length) (Nat.zero_le _) (k2 z hh).1
theorem Mb {n : Nat} {a0 a1 : ZE} {a2 : List Int} {a3 : Int} (h0 : Sm n a0) (h1 : Sm n a1) (h2 : Sm n a2) : Sm n (Xs a0 a1 a2 a3).1 /\ Sm (n + a2.length) (Xs a0 a1 a2 a3).2.1 := by
  have fT : Sm (n + a2.length) (XP a1 (Yz a0 a1.Id a2 a3).1 a3).1 :=
    ZN (Nat.add_le_add_left (PR h0) n) (RM h1 (jX h0 h2))
  have bad : Sm n a0 /\ Sm (n + a2.length) a1 := ⟨h0, ZN (Nat.le_add_right _ _) h1⟩
  have key : ∀ m b v d l, Sm n (ZE.mk d l) -> Sm n (ZE.mk (KT a0 a1 a2 a3 m b v d l).2.1 (KT a0 a1 a2 a3 m b v d l).2.2) := by
    intro m
    induction m with
    | zero => intro b v d l _; exact Jx
    | succ m ih =>
      intro b v d l hs
      rw [KT]
      exact ZP (p := fun w : Bool × Int × List ZV => Sm n (ZE.mk w.2.1 w.2.2)) (ih _ _ _ _ (SH hs)) hs
  have hk := key (a2.length + 1) (XP a1 (Yz a0 a1.Id a2 a3).1 a3).2 0 a0.Id a0.ZC h0
  unfold Xs
  let p := fun w : ZE × ZE × Bool => Sm n w.1 /\ Sm (n + a2.length) w.2.1
  cases hh : KT a0 a1 a2 a3 (a2.length + 1) (XP a1 (Yz a0 a1.Id a2 a3).1 a3).2 0 a0.Id a0.ZC with
  | mk z0 z => rw [hh] at hk; exact ZP (p := p) bad ⟨hk, fT⟩
theorem L5 {n : Nat} {a0 : ZG} {a1 a2 a3 : Int} (h : Sm n a0) (hn : 1 <= n) : Sm (n + 1) (qP a0 a1 a2 a3).1 := by
  have h1 : Sm (n + 1) a0 := ZN (Nat.le_succ n) h
  have hm := Mb (a0 := nth a0.ZA a1.toNat) (a1 := nth a0.ZA a2.toNat) (a2 := [a3]) (a3 := Zf a0.Frame.Methods a0.Frame.Now) (Z3 (ZG.YA h)) (Z3 (ZG.YA h)) ⟨hn, fun _ _ => trivial⟩
  let p := fun w : ZG × Bool => Sm (n + 1) w.1
  exact ZP (p := p) h1 ⟨h1.1, h1.2.1, h1.2.2.1, zu (zu h1.2.2.2.1 (ZN (Nat.le_succ n) hm.1)) hm.2, h1.2.2.2.2⟩
theorem jg {a0 : ZG} {a1 a2 : Int} : ∀ (m v : Nat) (l : List Zp), (∀ r, QX a0 a1 a2 m v l = .inl r -> r = (a0, false)) /\ ∀ z, QX a0 a1 a2 m v l = .inr z -> z.length <= l.length + ((YK a0).length - v)
  | 0, v, l => ⟨fun r h => (by cases h), fun z h => (by cases h; exact Nat.zero_le _)⟩
  | m + 1, v, l => by
    rw [QX]
    let p := fun w : Sum (ZG × Bool) (List Zp) => (∀ r, w = .inl r -> r = (a0, false)) /\ ∀ z, w = .inr z -> z.length <= l.length + ((YK a0).length - v)
    refine Z6 (p := p) (fun hc => ?_) (fun _ => ⟨fun r h => (by cases h), fun z h => (by cases h; exact Nat.le_add_right _ _)⟩)
    have hc : v < (YK a0).length := by simpa using hc
    have step : ∀ x, p (QX a0 a1 a2 m (v + 1) (l ++ [x])) := fun x => by
      obtain ⟨k1, k2⟩ := jg (a0 := a0) (a1 := a1) (a2 := a2) m (v + 1) (l ++ [x])
      exact ⟨k1, fun z hz => by have := k2 z hz; rw [List.length_append, List.length_singleton] at this; omega⟩
    exact ZP (p := p) ⟨fun r h => (by cases h; rfl), fun z h => (by cases h)⟩ (step _)
theorem RI {n : Nat} {a0 : ZG} {a1 a2 : Int} (h : Sm n a0) : Sm (n + 1) (Jp a0 a1 a2).1 := by
  have h1 : Sm (n + 1) a0 := ZN (Nat.le_succ n) h
  unfold Jp
  refine ZP (p := fun w : ZG × Bool => Sm (n + 1) w.1) h1 ?_
  obtain ⟨k1, k2⟩ := jg (a0 := a0) (a1 := a1) (a2 := a2) ((YK a0).length + 1) 0 []
  cases hh : QX a0 a1 a2 ((YK a0).length + 1) 0 [] with
  | inl r => rw [k1 r hh]; exact h1
  | inr z =>
    have hz := k2 z hh
    have hf := JR a0
    have ha := Yk (Zu.Y5 (ZG.Yp h))
    rw [List.length_nil] at hz
    have hA : Sm n (nth a0.ZA (ZB a0 a1).1.toNat) := Z3 (ZG.YA h)
    have hI : Sm n (nth (nth a0.ZA (ZB a0 a1).1.toNat).ZC (ZB a0 a1).2.toNat) := Z3 (ZE.YM hA)
    refine jm h1 (zu (ZE.YM (ZN (Nat.le_succ n) hA)) ⟨(ZN (Nat.le_succ n) hI).1, UX (Nat.le_refl _) hI.2 ?_⟩)
    exact ⟨Jx, ⟨by show z.length <= n + 1; omega, fun _ _ => trivial⟩⟩
theorem VR {n : Nat} {a0 : ZG} {a1 : Zg} (h : Sm n a0) (he : Sm n a1) (hn : 17 <= n) : Sm (n + 1) (XN a0 a1).1 := by
  have h1 : Sm (n + 1) a0 := ZN (Nat.le_succ n) h
  have up : ∀ w : ZG, Sm n w -> Sm (n + 1) w := fun w hw => ZN (Nat.le_succ n) hw
  unfold XN
  let p := fun w : ZG × Bool => Sm (n + 1) w.1
  exact ZP (p := p) (up _ (L4 h)) (ZP (p := p) (Lz h he.1 (by omega)) (ZP (p := p) (NH h (by omega)) (ZP (p := p) (up _ (Ol h)) (ZP (p := p) (M3 h he.2 hn) (ZP (p := p) (L5 h (by omega)) (ZP (p := p) (up _ (NC h))
    (ZP (p := p) (MJ h he.1 (by omega)) (ZP (p := p) (RI h) (ZP (p := p) (Ie h (by omega)) h1)))))))))
theorem VV (a1 : List Zg) (N : Nat) (he : ∀ i, Sm N (nth a1 i)) (fR : 17 <= N) : ∀ (m v : Nat) (k : List XD) (au : List Zw) (me : List YE) (li nw : Int) (c : List Yi) (en : List Int) (ar : List ZE) (sq ly : List Int) (nx : Int) (fo : List Int), a1.length < m + v -> v <= a1.length -> Sm (N + v) (ZG.mk (Zu.mk k au me li nw) c en ar sq ly nx fo) ->
    Sm (N + a1.length) (match yx a1 m v k au me li nw c en ar sq ly nx fo with | (z1_0, z1_1, z1_2, z1_3, z1_4, z1_5, z1_6, z1_7, z1_8, z1_9, z1_10, z1_11) => ZG.mk (Zu.mk z1_0 z1_1 z1_2 z1_3 z1_4) z1_5 z1_6 z1_7 z1_8 z1_9 z1_10 z1_11)
  | 0, v, _, _, _, _, _, _, _, _, _, _, _, _, h, hv, _ => by omega
  | m + 1, v, k, au, me, li, nw, c, en, ar, sq, ly, nx, fo, h, hv, hs => by
    rw [yx]
    by_cases uQ : v < a1.length
    · rw [decide_eq_true (show (v : Int) < (a1.length : Int) by omega), QM]
      have ha := VR hs (ZN (Nat.le_add_right N v) (he v)) (by omega)
      exact VV a1 N he fR m (v + 1) _ _ _ _ _ _ _ _ _ _ _ _ (by omega) uQ ha
    · rw [decide_eq_false (show ¬ (v : Int) < (a1.length : Int) by omega), Xq]
      exact ZN (Nat.add_le_add_left hv N) hs
theorem LV {n : Nat} {a0 : ZG} {a1 : List Zg} (h : Sm n a0) (he : Sm n a1) (hn : 17 <= n) : Sm (n + a1.length) (K1 a0 a1) :=
  VV a1 n (fun _ => Z3 he) hn (a1.length + 1) 0 _ _ _ _ _ _ _ _ _ _ _ _ (by omega) (Nat.zero_le _) h
theorem Wt {n : Nat} {a0 : YC} {a1 : Int} (h : 20 <= n) : Sm n (Yv a0 a1).2 := by
  have hd : Sm n (ZU.mk 0 ([] : List ByteArray) ([] : List Int)) := ⟨Jx, Jx⟩
  have hl : ∀ l : List Int, l.length <= 20 -> Sm n l := fun l hl => ⟨by omega, fun _ _ => trivial⟩
  unfold Yv
  let p := fun z : YC × Zg => Sm n z.2
  refine ZP (p := p) (ZP (p := p) (ZP (p := p) ?_ ?_) (ZP (p := p) ?_ ?_)) (ZP (p := p) (ZP (p := p) ?_ ?_) (ZP (p := p) ?_ ?_))
  all_goals exact ⟨hd, hl _ (Nat.le_of_ble_eq_true rfl)⟩
theorem NR {n : Nat} {a0 : YC} (h : 20 <= n) : Sm n (Zt a0).2 := by
  have hd : Sm n (ZU.mk 0 ([] : List ByteArray) ([] : List Int)) := ⟨Jx, Jx⟩
  have e0 : ∀ a b, Sm n (Zg.mk a b 0 0 0 (ZU.mk 0 ([] : List ByteArray) ([] : List Int)) ([] : List Int)) := fun a b => ⟨hd, Jx⟩
  refine ⟨by rw [Ji]; omega, ?_⟩
  unfold Zt
  exact Rw (Rw (Rw (all_cons (e0 _ _) (all_cons ⟨OZ h, Jx⟩ (all_cons (e0 _ _) (all_cons (e0 _ _) all_nil)))) (all_cons (Wt h) (all_cons (e0 _ _) all_nil))) (all_cons (Wt h) (all_cons (e0 _ _) all_nil))) (all_cons (Wt h) (all_cons (e0 _ _) all_nil))
theorem SD {n : Nat} {a0 : YC} (h : 20 <= n) : Sm n (Z0 a0).2 := by
  have hd : Sm n (ZU.mk 0 ([] : List ByteArray) ([] : List Int)) := ⟨Jx, Jx⟩
  have hi : Sm n ([1, 2, 3, 4] : List Int) := ⟨Nat.le_trans (by decide) h, fun _ _ => trivial⟩
  have hx := fun c => OZ (a0 := c) h
  have L : ∀ (c : YC) (k a b e f : Int) (d : ZU) (ids : List Int), Sm n d -> Sm n ids -> Sm n ((c, Zg.mk k a b e f d ids) : YC × Zg).2 := fun _ _ _ _ _ _ _ _ h1 h2 => ⟨h1, h2⟩
  unfold Z0
  generalize ZH a0 16 = q
  iterate 13 (refine ZP (p := fun z : YC × Zg => Sm n z.2) ?_ ?_; (first | with_reducible exact L _ _ _ _ _ _ _ _ hd Jx | with_reducible exact L _ _ _ _ _ _ _ _ (hx _) Jx))
  exact L _ _ _ _ _ _ _ _ hd (ye (xx hi))
theorem WR {p : Zg -> Prop} (hp : ∀ c, p (Z0 c).2) : ∀ (m : Nat) (l : List Zg) (k : Int) (b : List UInt8) (i : Nat) (h : Int), (∀ x ∈ l, p x) -> ∀ x ∈ (Jd m l k b i h).1, p x
  | 0, _, _, _, _, _, _ => all_nil
  | m + 1, l, k, b, i, h, hl => by
    rw [Jd]
    exact ZP (p := fun z : (List Zg) × (List UInt8) × Nat × Int => ∀ x ∈ z.1, p x) (WR hp m _ _ _ _ _ (Rw hl (all_cons (hp _) all_nil))) hl
theorem Wg {p : Zg -> Prop} (hp : ∀ c, p (Z0 c).2) : ∀ (m : Nat) (l : List Zg) (k : Int) (b : List UInt8) (i : Nat) (h : Int), (∀ x ∈ l, p x) -> ∀ x ∈ (JZ m l k b i h).1, p x
  | 0, _, _, _, _, _, _ => all_nil
  | m + 1, l, k, b, i, h, hl => by
    rw [JZ]
    exact ZP (p := fun z : (List Zg) × (List UInt8) × Nat × Int => ∀ x ∈ z.1, p x) (Wg hp m _ _ _ _ _ (Rw hl (all_cons (hp _) all_nil))) hl
theorem kS : ∀ (m : Nat) (l : List Zg) (k : Int) (b : List UInt8) (i : Nat) (h : Int), k <= 16777215 -> (Jd m l k b i h).1.length <= l.length + k.toNat
  | 0, _, _, _, _, _, _ => Nat.zero_le _
  | m + 1, l, k, b, i, h, hk => by
    rw [Jd]
    by_cases hc : k > 0
    · rw [decide_eq_true hc, QM]
      have hw : W (k - 1) = k - 1 := by simp only [XL]; omega
      have := kS m (l ++ [(Z0 (YC.mk b i h)).2]) (W (k - 1)) (Z0 (YC.mk b i h)).1.b (Z0 (YC.mk b i h)).1.i (Z0 (YC.mk b i h)).1.h (by omega)
      rw [List.length_append, List.length_singleton] at this
      omega
    · rw [decide_eq_false hc, Xq]
      exact Nat.le_add_right _ _
theorem WD : ∀ (m : Nat) (l : List Zg) (k : Int) (b : List UInt8) (i : Nat) (h : Int), k <= 16777215 -> (JZ m l k b i h).1.length <= l.length + k.toNat
  | 0, _, _, _, _, _, _ => Nat.zero_le _
  | m + 1, l, k, b, i, h, hk => by
    rw [JZ]
    by_cases hc : k > 0
    · rw [decide_eq_true hc, QM]
      have hw : W (k - 1) = k - 1 := by simp only [XL]; omega
      have := WD m (l ++ [(Z0 (YC.mk b i h)).2]) (W (k - 1)) (Z0 (YC.mk b i h)).1.b (Z0 (YC.mk b i h)).1.i (Z0 (YC.mk b i h)).1.h (by omega)
      rw [List.length_append, List.length_singleton] at this
      omega
    · rw [decide_eq_false hc, Xq]
      exact Nat.le_add_right _ _
theorem kc {n : Nat} {a0 : YC} {a1 : Int} (h : 40 <= n) (h0 : 0 < a1) (h1 : a1 <= 20) : Sm n (Z7 a0 a1).2 := by
  have hp := fun c => SD (n := n) (a0 := c) (by omega)
  have hc := NR (n := n) (a0 := (Z8 a0 2).1) (by omega)
  have hl := Ji (Z8 a0 2).1
  unfold Z7
  generalize Z8 a0 2 = q at hc hl ⊢
  generalize Zt q.1 = r at hc hl ⊢
  generalize ZH r.1 (W ((r.2.length : Int) + 1)) = t
  have z1 := Xv t.1 a1
  have z2 := Xv q.1 a1
  generalize ZH t.1 a1 = u at z1 ⊢
  generalize ZH q.1 a1 = v at z2 ⊢
  have k1 := WR hp (u.2.toNat + 2) (r.2.take t.2.toNat) u.2 u.1.b u.1.i u.1.h (ye hc).2
  have k2 := kS (u.2.toNat + 2) (r.2.take t.2.toNat) u.2 u.1.b u.1.i u.1.h (by omega)
  have k3 := Wg hp (v.2.toNat + 2) [] v.2 v.1.b v.1.i v.1.h all_nil
  have k4 := WD (v.2.toNat + 2) [] v.2 v.1.b v.1.i v.1.h (by omega)
  rw [List.length_take, hl] at k2
  rw [List.length_nil] at k4
  generalize Jd (u.2.toNat + 2) (r.2.take t.2.toNat) u.2 u.1.b u.1.i u.1.h = y at k1 k2 ⊢
  generalize JZ (v.2.toNat + 2) [] v.2 v.1.b v.1.i v.1.h = z at k3 k4 ⊢
  obtain ⟨y1, y2, y3, y4⟩ := y
  obtain ⟨w1, w2, w3, w4⟩ := z
  dsimp only at k1 k2 k3 k4 ⊢
  have k5 : y1.length <= n := by omega
  have k6 : w1.length <= n := by omega
  exact ZP (p := fun z : YC × (List Zg) => Sm n z.2) ⟨k5, k1⟩ ⟨k6, k3⟩
theorem Zc {n : Nat} {a0 : List UInt8} (h : 40 <= n) : Sm n (ZS a0).1 /\ Sm n (ZS a0).2 := by
  have k := Wy (n := n) (a0 := (ZH (YY a0) 2).2) (by omega)
  have k2 := kc (n := n) (a0 := (ZH (YY a0) 2).1) (a1 := 12) h (by decide) (by decide)
  unfold ZS
  refine ⟨?_, ?_⟩
  · with_reducible exact k
  · with_reducible exact k2
theorem Xl {n : Nat} {a0 : List UInt8} (h : 100 <= n) : Sm n (ZY a0).1 /\ Sm n (ZY a0).2 := by
  have k := Wy (n := 40) (a0 := (ZH (YY a0) 2).2) (by decide)
  have k2 := kc (n := 40) (a0 := (ZH (YY a0) 2).1) (a1 := 8) (by decide) (by decide) (by decide)
  have k3 := Yk k2
  have k4 := ZN (m := n) (by omega) (LV k k2 (by decide))
  have k5 := fun c => SD (n := n) (a0 := c) (by omega)
  unfold ZY
  generalize K1 (XS (ZH (YY a0) 2).2) (Z7 (ZH (YY a0) 2).1 8).2 = w at k4 ⊢
  have k6 := k5 (Z7 (ZH (YY a0) 2).1 8).1
  generalize Z0 (Z7 (ZH (YY a0) 2).1 8).1 = e at k6 ⊢
  obtain ⟨c, ⟨e1, e2, e3, e4, e5, e6, e7⟩⟩ := e
  obtain ⟨k7, k8⟩ := k6
  dsimp only at k7 k8 ⊢
  let p := fun z : ZG × Zg => Sm n z.1 /\ Sm n z.2
  exact ZP (p := p) ⟨k4, k7, k8⟩ (ZP (p := p) ⟨k4, k7, k8⟩ (ZP (p := p) ⟨k4, k7, k8⟩ ⟨k4, k7, k8⟩))
theorem WO (a1 : List Zg) (N : Nat) (hb : N + a1.length <= 9223372036854775807) (he : ∀ i, Sm N (nth a1 i)) (fR : 17 <= N) : ∀ (m v : Nat) (k : List XD) (au : List Zw) (me : List YE) (li nw : Int) (c : List Yi) (en : List Int) (ar : List ZE) (sq ly : List Int) (nx : Int) (fo : List Int), a1.length < m + v -> v <= a1.length -> Sm (N + v) (ZG.mk (Zu.mk k au me li nw) c en ar sq ly nx fo) ->
    Sm (N + a1.length) (match KW a1 m v k au me li nw c en ar sq ly nx fo with | (z1_0, z1_1, z1_2, z1_3, z1_4, z1_5, z1_6, z1_7, z1_8, z1_9, z1_10, z1_11) => ZG.mk (Zu.mk z1_0 z1_1 z1_2 z1_3 z1_4) z1_5 z1_6 z1_7 z1_8 z1_9 z1_10 z1_11)
  | 0, v, _, _, _, _, _, _, _, _, _, _, _, _, h, hv, _ => by omega
  | m + 1, v, k, au, me, li, nw, c, en, ar, sq, ly, nx, fo, h, hv, hs => by
    rw [KW]
    by_cases uQ : v < a1.length
    · rw [decide_eq_true (show (v : Int) < (a1.length : Int) by omega), QM]
      have ha := Uh (by omega) hs (ZN (Nat.le_add_right N v) (he v)) (by omega)
      exact WO a1 N hb he fR m (v + 1) _ _ _ _ _ _ _ _ _ _ _ _ (by omega) uQ ha
    · rw [decide_eq_false (show ¬ (v : Int) < (a1.length : Int) by omega), Xq]
      exact ZN (Nat.add_le_add_left hv N) hs
theorem jY {n : Nat} {a0 : ZG} {a1 : List Zg} (h : Sm n a0) (he : Sm n a1) (hn : 17 <= n) (hb : n <= 1048576) : Sm (n + a1.length) (Ys a0 a1) :=
  WO a1 n (by have := Yk he; omega) (fun _ => Z3 he) hn (a1.length + 1) 0 _ _ _ _ _ _ _ _ _ _ _ _ (by omega) (Nat.zero_le _) h
theorem Cy {a0 : List UInt8} {k : Int} (h : a0.length <= 1048576) (h0 : 0 <= k) (h1 : k <= 100) : 0 <= PN a0 k := by
  unfold PN
  refine ZP (p := fun x : Int => 0 <= x) ?_ ?_
  · have : (nth a0 k.toNat).toNat < 256 := UInt8.toNat_lt _
    simp only [XL]; omega
  · refine Int.tmod_nonneg _ ?_
    have e1 : W (k * 31) = k * 31 := by simp only [XL]; omega
    have e2 : W ((a0.length : Int) * 7) = a0.length * 7 := by simp only [XL]; omega
    rw [e1, e2]
    have e3 : W (k * 31 + (a0.length : Int) * 7) = k * 31 + a0.length * 7 := by simp only [XL]; omega
    rw [e3]; omega
theorem FP {a0 : List UInt8} {k m : Int} (h : a0.length <= 1048576) (h0 : 0 <= k) (h1 : k <= 100) (hm : 0 < m) : 0 <= Int.tmod (PN a0 k) m /\ Int.tmod (PN a0 k) m < m :=
  ⟨Int.tmod_nonneg _ (Cy h h0 h1), Int.tmod_lt_of_pos _ hm⟩
theorem QB {a0 : List UInt8} {i : Nat} : Sm 1048576 (Ys (ZS a0).1 ((ZS a0).2.take i)) := by
  have k := Zc (n := 40) (a0 := a0) (by decide)
  have k2 := ye (i := i) k.2
  have k3 := Yk k2
  exact ZN (by omega) (jY k.1 k2 (by decide) (by decide))
end Go.Mo
