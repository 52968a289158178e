/- Plain lemmas on the models of the helpers. No condition. -/
import Derived.Test.YthjkhlcbpfnobaaGreatM
namespace Go.Mo
open Go.Vm
set_option linter.unusedSimpArgs false
set_option linter.unusedVariables false
theorem Qb (a0 : List Yp) (a1 : Int) : YA a0 a1 < (a0.length : Int) := jR (F := q9 a0 a1) (c := fun J => ((nth a0 J).Number == a1)) (fun _ => rfl) (fun _ _ => rfl) _ _
theorem GN (a0 : ZW) : P9 a0 = a0 := rfl
theorem CD (a0 : Ze) : IU a0 = a0 := rfl
theorem Fp (a0 : ZS) : NS a0 = a0 := rfl
theorem DG (a0 : List ZS) : OH a0 = a0 := by
  have h := jK (F := (Tl a0)) (a := a0) (g := (fun x => x)) (fun _ => rfl) (fun _ _ _ => rfl) (a0.length + 1) [] 0 (by omega) (by omega)
  simp only [List.nil_append, List.drop_zero] at h
  unfold OH
  rw [h]
theorem Fq (a0 : ZV) : NU a0 = a0 := rfl
theorem EY (a0 : ZQ) : Re a0 = a0 := by
  have h := jK (F := (fun n v i => UJ a0 n i v)) (a := a0.ZR) (g := (fun x => x)) (fun _ => rfl) (fun _ _ _ => rfl) (a0.ZR.length + 1) [] 0 (by omega) (by omega)
  simp only [List.nil_append, List.drop_zero] at h
  unfold Re
  rw [h]
theorem F4 (a0 : Zj) : N8 a0 = a0 := rfl
theorem Ff (a0 : ZJ) : RW a0 = a0 := by
  have h := jK (F := (fun n v i => UB a0 n i v)) (a := a0.ZD) (g := (fun x => x)) (fun _ => rfl) (fun _ _ _ => rfl) (a0.ZD.length + 1) [] 0 (by omega) (by omega)
  simp only [List.nil_append, List.drop_zero] at h
  unfold RW
  rw [h]
theorem Fg (a0 : ZG) : RV a0 = a0 := by
  have h := jK (F := (fun n v i => UE a0 n i v)) (a := a0.ZB) (g := (fun x => x)) (fun _ => rfl) (fun _ _ _ => rfl) (a0.ZB.length + 1) [] 0 (by omega) (by omega)
  simp only [List.nil_append, List.drop_zero] at h
  unfold RV
  rw [h]
theorem I7 (a0 : ZG) (a1 : Int) : Xb a0 a1 < (a0.ZZ.length : Int) := jR (F := Js a0 a1) (c := fun J => ((nth a0.ZZ J).Key == a1)) (fun _ => rfl) (fun _ _ => rfl) _ _
theorem R3 (a0 : ZJ) (a1 : Int) : Y8 a0 a1 < (a0.ZD.length : Int) := jR (F := qG a0 a1) (c := fun J => ((nth a0.ZD J).Id == a1)) (fun _ => rfl) (fun _ _ => rfl) _ _
theorem PL (a0 : List Yb) (a1 : Int) : YP a0 a1 < (a0.length : Int) := jR (F := qD a0 a1) (c := fun J => ((nth a0 J).Zn == a1)) (fun _ => rfl) (fun _ _ => rfl) _ _
theorem qk (a0 : List Z5) (a1 : Int) : Xt a0 a1 < (a0.length : Int) := jR (F := zl a0 a1) (c := fun J => ((nth a0 J).Id == a1)) (fun _ => rfl) (fun _ _ => rfl) _ _
theorem Q8 (a0 : List Zg) (a1 : Int) : Zi a0 a1 < (a0.length : Int) := jR (F := KB a0 a1) (c := fun J => ((nth a0 J).Id == a1)) (fun _ => rfl) (fun _ _ => rfl) _ _
theorem PA (a0 : ZJ) (a1 : Int) : Zm a0 a1 < (a0.ZD.length : Int) := jR (F := Qc a0 a1) (c := fun J => ((nth a0.ZD J).Id == a1)) (fun _ => rfl) (fun _ _ => rfl) _ _
theorem GQ (a0 : List Yb) (a1 : Int) : Xn a0 a1 < (a0.length : Int) := jR (F := yP a0 a1) (c := fun J => ((nth a0 J).Zn == a1)) (fun _ => rfl) (fun _ _ => rfl) _ _
theorem jZ (a0 : List Yp) (a1 : Int) : Zu a0 a1 < (a0.length : Int) := jR (F := jC a0 a1) (c := fun J => ((nth a0 J).Number == a1)) (fun _ => rfl) (fun _ _ => rfl) _ _
theorem M6 (a0 : List Z5) (a1 : Int) : K7 a0 a1 < (a0.length : Int) := jR (F := zh a0 a1) (c := fun J => ((nth a0 J).Id == a1)) (fun _ => rfl) (fun _ _ => rfl) _ _
theorem Ib (a0 : ZW) : RL a0 = a0 := rfl
theorem GK (a0 : List Int) : P8 a0 = a0 := rfl
theorem OW (a0 : Ze) : VZ a0 = a0 := rfl
theorem HW (a0 : ZS) : Si a0 = a0 := rfl
theorem LY (a0 : List ZS) : Wj a0 = a0 := by
  have h := jK (F := (jt a0)) (a := a0) (g := (fun x => x)) (fun _ => rfl) (fun _ _ _ => rfl) (a0.length + 1) [] 0 (by omega) (by omega)
  simp only [List.nil_append, List.drop_zero] at h
  unfold Wj
  rw [h]
theorem Lb (a0 : List Zf) : Tc a0 = a0 := rfl
theorem Nf (a0 : ZV) : Uh a0 = a0 := rfl
theorem LA (a0 : ZQ) : Wg a0 = a0 := by
  have h := jK (F := (fun n v i => jj a0 n i v)) (a := a0.ZR) (g := (fun x => x)) (fun _ => rfl) (fun _ _ _ => rfl) (a0.ZR.length + 1) [] 0 (by omega) (by omega)
  simp only [List.nil_append, List.drop_zero] at h
  unfold Wg
  rw [h]
theorem Ht (a0 : Zj) : Pu a0 = a0 := rfl
theorem MP (a0 : ZJ) : kl a0 = a0 := by
  have h := jK (F := (fun n v i => qm a0 n i v)) (a := a0.ZD) (g := (fun x => x)) (fun _ => rfl) (fun _ _ _ => rfl) (a0.ZD.length + 1) [] 0 (by omega) (by omega)
  simp only [List.nil_append, List.drop_zero] at h
  unfold kl
  rw [h]
theorem I8 (a0 : ZG) : Vu a0 = a0 := by
  have h := jK (F := (fun n v i => km a0 n i v)) (a := a0.ZB) (g := (fun x => x)) (fun _ => rfl) (fun _ _ _ => rfl) (a0.ZB.length + 1) [] 0 (by omega) (by omega)
  simp only [List.nil_append, List.drop_zero] at h
  unfold Vu
  rw [h]
theorem qn (a0 : List Zg) (a1 : Int) : ZY a0 a1 < (a0.length : Int) := jR (F := JP a0 a1) (c := fun J => ((nth a0 J).Id == a1)) (fun _ => rfl) (fun _ _ => rfl) _ _
theorem PJ {n : Nat} {x : Yb} (h : 7 <= n) : Sm n (zW x) := ⟨by simp [zW]; omega, fun _ _ => trivial⟩
@[simp] theorem wC (x : Yb) : (zW x).length = 7 := rfl
theorem GH {n : Nat} {x : Yb} (h : 7 <= n) : Sm n (zd x) := ⟨by simp [zd]; omega, fun _ _ => trivial⟩
@[simp] theorem vB (x : Yb) : (zd x).length = 7 := rfl
theorem IQ {n : Nat} {x : Zf} (h : 5 <= n) : Sm n (KS x) := ⟨by simp [KS]; omega, fun _ _ => trivial⟩
@[simp] theorem Ak (x : Zf) : (KS x).length = 5 := rfl
theorem HD {n : Nat} {x : Zf} (h : 5 <= n) : Sm n (QQ x) := ⟨by simp [QQ]; omega, fun _ _ => trivial⟩
@[simp] theorem Av (x : Zf) : (QQ x).length = 5 := rfl
theorem T4 {n : Nat} {x : Zr} (h : 5 <= n) : Sm n (Jp x) := ⟨by simp [Jp]; omega, fun _ _ => trivial⟩
@[simp] theorem AP (x : Zr) : (Jp x).length = 5 := rfl
theorem Tw {n : Nat} {x : Zr} (h : 5 <= n) : Sm n (JN x) := ⟨by simp [JN]; omega, fun _ _ => trivial⟩
@[simp] theorem AS (x : Zr) : (JN x).length = 5 := rfl
theorem Vh {n : Nat} {x : Zq} (h : 9 <= n) : Sm n (QZ x) := ⟨by simp [QZ]; omega, fun _ _ => trivial⟩
@[simp] theorem Ca (x : Zq) : (QZ x).length = 9 := rfl
theorem VM {n : Nat} {x : Zq} (h : 9 <= n) : Sm n (Xu x) := ⟨by simp [Xu]; omega, fun _ _ => trivial⟩
@[simp] theorem CZ (x : Zq) : (Xu x).length = 9 := rfl
theorem NT {n : Nat} {x : XL} (h : 6 <= n) : Sm n (zV x) := ⟨by simp [zV]; omega, fun _ _ => trivial⟩
@[simp] theorem Br (x : XL) : (zV x).length = 6 := rfl
theorem Io {a : ZQ} (h : yf a = true) : 0 < a.ZM.length := by
  unfold yf at h
  split at h
  · rename_i r e
    have : ∀ n v, xu a n v ≠ .inl true := by
      intro n
      induction n with
      | zero => intro v h; cases h
      | succ n ih =>
        intro v h
        rw [xu] at h
        cases h1 : decide ((v : Int) < (a.ZM.length : Int)) with
        | false => rw [h1] at h; cases h
        | true =>
          rw [h1] at h
          cases h2 : decide (yH a (nth a.ZM v) < (v : Int)) with
          | true => rw [h2] at h; cases h
          | false => rw [h2] at h; exact ih _ h
    subst h; exact absurd e (this _ _)
  · split at h
    · rename_i r e
      have : ∀ n v, xx a n v ≠ .inl true := by
        intro n
        induction n with
        | zero => intro v h; cases h
        | succ n ih =>
          intro v h
          rw [xx] at h
          generalize decide ((v : Int) < (a.ZR.length : Int)) = c1 at h
          cases c1 with
          | false => cases h
          | true =>
            simp only [cond_true] at h
            generalize (!Yg (nth a.ZR v).Count 1 (a.ZM.length : Int) || decide ((v : Int) > 0) && decide ((nth a.ZR (v - 1)).Count > (nth a.ZR v).Count)) = c2 at h
            cases c2 with
            | true => cases h
            | false => exact ih _ h
      subst h; exact absurd e (this _ _)
    · simp only [Yg, Bool.and_eq_true, decide_eq_true_eq] at h; omega
theorem NW {a : Ze} (h : KK a = true) : a.Qs.length = a.XJ.length := by
  unfold KK at h
  split at h
  · rename_i r e
    have : ∀ n v, zx a n v ≠ .inl true := by
      intro n
      induction n with
      | zero => intro v h; cases h
      | succ n ih =>
        intro v h
        rw [zx] at h
        generalize decide ((v : Int) < (a.XJ.length : Int)) = c1 at h
        cases c1 with
        | false => cases h
        | true =>
          simp only [cond_true] at h
          generalize decide (((nth a.XJ v).size : Int) > 40) = c2 at h
          cases c2 with
          | true => cases h
          | false => exact ih _ h
    subst h; exact absurd e (this _ _)
  · split at h
    · rename_i r e
      have : ∀ n v, yE a n v ≠ .inl true := by
        intro n
        induction n with
        | zero => intro v h; cases h
        | succ n ih =>
          intro v h
          rw [yE] at h
          generalize decide ((v : Int) < (a.Qs.length : Int)) = c1 at h
          cases c1 with
          | false => cases h
          | true =>
            simp only [cond_true] at h
            generalize (!Yg (nth a.Qs v) 1 1000000000000) = c2 at h
            cases c2 with
            | true => cases h
            | false => exact ih _ h
      subst h; exact absurd e (this _ _)
    · simp only [Bool.and_eq_true, beq_iff_eq] at h; omega
theorem Np {a : Ze} (h : zF a = true) : a.Qs.length = a.XJ.length := by
  unfold zF at h
  generalize (match zk a (a.XJ.length + 1) 0 with | .inl r1 => r1 | .inr _ => true) = m at h
  by_cases hh : a.Qs.length = a.XJ.length
  · exact hh
  · rw [show ((a.Qs.length : Int) != (a.XJ.length : Int)) = true by simp; omega] at h
    simp at h
theorem Xr (a0 : ZG) (a1 : Int) (h : 0 <= (ZO a0 a1).1) : (ZO a0 a1).1.toNat < a0.ZB.length /\ 0 <= (ZO a0 a1).2 /\ (ZO a0 a1).2.toNat < (nth a0.ZB (ZO a0 a1).1.toNat).ZD.length := by
  have key : ∀ n v r, xS a0 a1 n v = .inl r -> r.1.toNat < a0.ZB.length /\ 0 <= r.2 /\ r.2.toNat < (nth a0.ZB r.1.toNat).ZD.length := by
    intro n
    induction n with
    | zero => intro v r h; cases h
    | succ n ih =>
      intro v r h
      rw [xS] at h
      cases h1 : decide ((v : Int) < (a0.ZB.length : Int)) with
      | false => rw [h1] at h; cases h
      | true =>
        rw [h1] at h
        simp only [cond_true] at h
        cases h2 : decide (Y8 (nth a0.ZB v) a1 >= 0) with
        | false => rw [h2] at h; exact ih _ _ h
        | true =>
          rw [h2] at h; cases h
          simp at h1 h2
          have := R3 (nth a0.ZB v) a1
          simp only [Int.toNat_natCast]
          exact ⟨h1, h2, by omega⟩
  unfold ZO at h ⊢
  cases hh : xS a0 a1 (a0.ZB.length + 1) 0 with
  | inl r => rw [hh] at h; exact key _ _ r hh
  | inr u => rw [hh] at h; simp at h
theorem QH (a0 : ZG) (a1 : Int) (h : 0 <= (ZF a0 a1).1) : (ZF a0 a1).1.toNat < a0.ZB.length /\ 0 <= (ZF a0 a1).2 /\ (ZF a0 a1).2.toNat < (nth a0.ZB (ZF a0 a1).1.toNat).ZD.length := by
  have key : ∀ n v r, Jl a0 a1 n v = .inl r -> r.1.toNat < a0.ZB.length /\ 0 <= r.2 /\ r.2.toNat < (nth a0.ZB r.1.toNat).ZD.length := by
    intro n
    induction n with
    | zero => intro v r h; cases h
    | succ n ih =>
      intro v r h
      rw [Jl] at h
      cases h1 : decide ((v : Int) < (a0.ZB.length : Int)) with
      | false => rw [h1] at h; cases h
      | true =>
        rw [h1] at h
        simp only [cond_true] at h
        cases h2 : decide (Zm (nth a0.ZB v) a1 >= 0) with
        | false => rw [h2] at h; exact ih _ _ h
        | true =>
          rw [h2] at h; cases h
          simp at h1 h2
          have := PA (nth a0.ZB v) a1
          simp only [Int.toNat_natCast]
          exact ⟨h1, h2, by omega⟩
  unfold ZF at h ⊢
  cases hh : Jl a0 a1 (a0.ZB.length + 1) 0 with
  | inl r => rw [hh] at h; exact key _ _ r hh
  | inr u => rw [hh] at h; simp at h
theorem VC {a : Int} {n : Nat} (hn : n <= 9223372036854775807) (h : Yg a 0 (W ((n : Int) - 1)) = true) : 0 <= a /\ a < n := by
  rw [Nu n hn] at h
  simp only [Yg, Bool.and_eq_true, decide_eq_true_eq] at h; omega
theorem qb {a : Int} {n : Nat} (hn : n <= 9223372036854775807) (h : Zc a 0 (W ((n : Int) - 1)) = true) : 0 <= a /\ a < n := by
  rw [Nu n hn] at h
  simp only [Zc, Bool.and_eq_true, decide_eq_true_eq] at h; omega
@[simp] theorem ve (l : List UInt8) : (kJ l).length = l.length := by
  have key : ∀ n (acc : List Int) v, l.length < n + v -> v <= l.length -> (xN l n acc v).length = acc.length + (l.length - v) := by
    intro n
    induction n with
    | zero => intro acc v h1 h2; omega
    | succ n ih =>
      intro acc v h1 h2
      rw [xN]
      by_cases hv : v < l.length
      · rw [show decide ((v : Int) < (l.length : Int)) = true by simpa using hv, cond_true, ih _ (v + 1) (by omega) (by omega)]
        simp; omega
      · rw [show decide ((v : Int) < (l.length : Int)) = false by simpa using hv, cond_false]; omega
  have := key (l.length + 1) [] 0 (by omega) (by omega)
  simpa [kJ] using this
theorem qd {n : Nat} {a0 : ZQ} {a1 : Ze} (h : Sm n a0) : Sm n (Qv a0 a1) := by
  have key : ∀ n (acc : List Int) v, a0.ZR.length < n + v -> v <= a0.ZR.length -> (J1 a0 a1 n acc v).length = acc.length + (a0.ZR.length - v) := by
    intro n
    induction n with
    | zero => intro acc v h1 h2; omega
    | succ n ih =>
      intro acc v h1 h2
      rw [J1]
      by_cases hv : v < a0.ZR.length
      · rw [show decide ((v : Int) < (a0.ZR.length : Int)) = true by simpa using hv, cond_true, ih _ (v + 1) (by omega) (by omega)]
        simp; omega
      · rw [show decide ((v : Int) < (a0.ZR.length : Int)) = false by simpa using hv, cond_false]; omega
  have h2 := key (a0.ZR.length + 1) [] 0 (by omega) (by omega)
  have h3 := XN (ZQ.yq h)
  refine ⟨?_, fun _ _ => trivial⟩
  unfold Qv
  simp only [List.length_nil, Nat.zero_add, Nat.sub_zero] at h2
  rw [h2]; exact h3
theorem qf {n : Nat} {a0 : ZQ} {a1 : Ze} (h : Sm n a0) : Sm n (Y3 a0 a1) := by
  have key : ∀ n (acc : List Int) v, a0.ZR.length < n + v -> v <= a0.ZR.length -> (QU a0 a1 n acc v).length = acc.length + (a0.ZR.length - v) := by
    intro n
    induction n with
    | zero => intro acc v h1 h2; omega
    | succ n ih =>
      intro acc v h1 h2
      rw [QU]
      by_cases hv : v < a0.ZR.length
      · rw [show decide ((v : Int) < (a0.ZR.length : Int)) = true by simpa using hv, cond_true, ih _ (v + 1) (by omega) (by omega)]
        simp; omega
      · rw [show decide ((v : Int) < (a0.ZR.length : Int)) = false by simpa using hv, cond_false]; omega
  have h2 := key (a0.ZR.length + 1) [] 0 (by omega) (by omega)
  have h3 := XN (ZQ.yq h)
  refine ⟨?_, fun _ _ => trivial⟩
  unfold Y3
  simp only [List.length_nil, Nat.zero_add, Nat.sub_zero] at h2
  rw [h2]; exact h3
theorem J7 (a0 : ZS) : (QX a0 = 101 -> a0.YV.length = 7) /\ (QX a0 = 102 -> a0.YV.length = 5) /\ (QX a0 = 103 -> a0.YV.length = 5) /\ (QX a0 = 104 -> a0.YV.length = 9) /\ (QX a0 = 105 -> a0.YV.length = 6) := by
  have key : ∀ v : Int, v ≠ 0 -> QX a0 = v -> nth a0.YV 0 = v /\ (a0.YV.length : Int) = nth ([7, 5, 5, 9, 6] : List Int) (W (v - 101)).toNat := by
    intro v hv h
    unfold QX at h
    cases c0 : (((a0.YV.length : Int) == 0) || (!(Yg (nth a0.YV 0) 101 105)))
    · rw [c0, cond_false] at h
      cases c1 : ((a0.YV.length : Int) != (nth ([7, 5, 5, 9, 6] : List Int) (W ((nth a0.YV 0) - 101)).toNat))
      · rw [c1, cond_false] at h
        simp only [bne_eq_false_iff_eq] at c1
        exact ⟨h, by rw [<- h]; exact c1⟩
      · rw [c1, cond_true] at h; exact absurd h.symm hv
    · rw [c0, cond_true] at h; exact absurd h.symm hv
  refine ⟨fun h => ?_, fun h => ?_, fun h => ?_, fun h => ?_, fun h => ?_⟩ <;> (have := (key _ (by decide) h).2; simp [nth, X9] at this; omega)
theorem Z8 (a0 : ZS) : (Y2 a0 = 101 -> a0.YV.length = 7) /\ (Y2 a0 = 102 -> a0.YV.length = 5) /\ (Y2 a0 = 103 -> a0.YV.length = 5) /\ (Y2 a0 = 104 -> a0.YV.length = 9) /\ (Y2 a0 = 105 -> a0.YV.length = 6) := by
  have key : ∀ v : Int, v ≠ 0 -> Y2 a0 = v -> nth a0.YV 0 = v /\ (a0.YV.length : Int) = nth ([7, 5, 5, 9, 6] : List Int) (W (v - 101)).toNat := by
    intro v hv h
    unfold Y2 at h
    cases c1 : ((((a0.YV.length : Int) == 0) || (!(Zc (nth a0.YV 0) 101 105))) || ((a0.YV.length : Int) != (nth ([7, 5, 5, 9, 6] : List Int) (W ((nth a0.YV 0) - 101)).toNat)))
    · rw [c1, cond_false] at h
      simp only [Bool.or_eq_false_iff, bne_eq_false_iff_eq] at c1
      exact ⟨h, by rw [<- h]; exact c1.2⟩
    · rw [c1, cond_true] at h; exact absurd h.symm hv
  refine ⟨fun h => ?_, fun h => ?_, fun h => ?_, fun h => ?_, fun h => ?_⟩ <;> (have := (key _ (by decide) h).2; simp [nth, X9] at this; omega)
theorem UK (a0 : Int) (a1 : List Int) (h : a1.length <= 1048576) : 2 * (kb a0 a1).length = a1.length + a1.length % 2 := by
  have key : ∀ n v i, a1.length + 1 < 2 * n + i -> i <= a1.length + 1 -> i % 2 = 0 -> 2 * (xq a0 a1 n v i).length = 2 * v.length + (a1.length + a1.length % 2 - i) := by
    intro n
    induction n with
    | zero => intro v i h1 h2; omega
    | succ n ih =>
      intro v i h1 h2 h3
      unfold xq
      by_cases hi : i < a1.length
      · rw [show decide ((i : Int) < (a1.length : Int)) = true by simp [hi], cond_true]
        have e : ∀ x, 2 * (xq a0 a1 n (v ++ [x]) (i + 2)).length = 2 * v.length + (a1.length + a1.length % 2 - i) := by
          intro x
          have := ih (v ++ [x]) (i + 2) (by omega) (by omega) (by omega)
          rw [this, List.length_append, List.length_singleton]; omega
        exact Zs (p := fun (r : List Int) => 2 * r.length = 2 * v.length + (a1.length + a1.length % 2 - i)) (e _) (e _)
      · rw [show decide ((i : Int) < (a1.length : Int)) = false by simp; omega, cond_false]; omega
  have := key (a1.length + 1) [] 0 (by omega) (by omega) (by omega)
  unfold kb
  rw [this]; simp
theorem UQ {n : Nat} (h : 10 <= n) : Sm n yD := ⟨h, fun _ _ => trivial⟩
theorem jh {n : Nat} {a0 : ZJ} {a1 : Int} (h : Sm n a0) : Sm n (YM a0 a1) := by
  refine ⟨?_, fun _ _ => trivial⟩
  have e := vK (F := Jr a0 a1) (fun _ _ => rfl) (fun _ _ _ => rfl) (a0.ZD.length + 1) [] 0
  have : (YM a0 a1).length <= 0 + (a0.ZD.length - 0) := e
  have := XN (show Sm n a0.ZD from h)
  omega
theorem qe (a0 : ZJ) (a1 : Int) : (YM a0 a1).length = a0.ZD.length := by
  have key : ∀ n v i, i <= a0.ZD.length -> a0.ZD.length < n + i -> (Jr a0 a1 n v i).length = v.length + (a0.ZD.length - i) := by
    intro n
    induction n with
    | zero => intro v i h0 h; omega
    | succ n ih =>
      intro v i h0 h
      rw [Jr]
      by_cases hc : (i : Int) < (a0.ZD.length : Int)
      · simp only [decide_eq_true hc, cond_true]
        rw [ih _ _ (by omega) (by omega)]
        simp
        omega
      · simp only [decide_eq_false hc, cond_false]
        omega
  have := key (a0.ZD.length + 1) [] 0 (by omega) (by omega)
  exact this.trans (by simp)
theorem xp (a0 : ZG) (a1 : Int) (h : (Yd a0 a1).2.2 = true) : 0 <= (Yd a0 a1).1 /\ (Yd a0 a1).1 < (a0.ZB.length : Int) /\ 0 <= (Yd a0 a1).2.1 /\ (Yd a0 a1).2.1 < (a0.ZZ.length : Int) :=
  Z7 (p := fun (r : Int × Int × Bool) => r.2.2 = true -> 0 <= r.1 /\ r.1 < (a0.ZB.length : Int) /\ 0 <= r.2.1 /\ r.2.1 < (a0.ZZ.length : Int)) (fun _ h => by simp at h) (fun hc h => by
    simp only [Bool.or_eq_false_iff, decide_eq_false_iff_not] at hc
    have f := QH a0 a1 (by omega)
    dsimp only at h ⊢
    rw [Bool.and_eq_true, decide_eq_true_eq] at h
    have h2 := h.2
    exact ⟨by omega, by omega, by omega, GQ _ _⟩) h
theorem Ls {n : Nat} {x : Yb} (h : 7 <= n) : Sm n (jM x) := PJ h
theorem kL {n : Nat} {x : Zr} (h : 5 <= n) : Sm n (Xc x) := T4 h
theorem TA {n : Nat} {x : Zr} (h : 5 <= n) : Sm n (Yl x) := Tw h
theorem HG {n : Nat} {x : Zq} (h : 9 <= n) : Sm n (yJ x) := Vh h
theorem Yy {n : Nat} {x : Zq} (h : 9 <= n) : Sm n (Y6 x) := VM h
theorem Zd {a0 : List Yp} {a1 : Zr} (h : (XB a0 a1).2 = true) : 0 <= YA a0 a1.Z6 := by
  unfold XB at h
  cases hc : ((!(kQ a1)) || (decide ((YA a0 a1.Z6) < 0))) with
  | true => rw [hc] at h; simp at h
  | false => simp at hc; exact hc.2
theorem xt {n : Nat} {a0 : ZG} {a1 : Int} {a2 : Ze} {a3 a4 : Int} (h : Sm n a2) (hn : 9 <= n) : Sm n (Xh a0 a1 a2 a3 a4).1 := by
  unfold Xh
  cases ((decide ((Zp a0.Frame.Methods a0.Frame.Now) < 0)) || (decide ((Xb a0 a1) < 0))) with
  | true => exact ⟨⟨Ph, Ph⟩, Ph, Ph⟩
  | false =>
    refine ⟨h, ⟨by simp; omega, fun y hy => ?_⟩, Ph⟩
    rcases List.mem_cons.1 hy with rfl | hy
    · exact HG (by omega)
    rcases List.mem_cons.1 hy with rfl | hy
    · exact Ls (by omega)
    · cases hy
theorem VD {n : Nat} {a0 : ZJ} {a1 : Zj} (h : Sm n a0) (hx : Sm n a1) : ∀ (m : Nat) (b : Bool) (i : Nat) (l : List Zj), l.length <= i + (bif b then 1 else 0) -> i <= a0.ZD.length -> (∀ y ∈ l, Sm n y) ->
    (QR a0 a1 m b i l).2.length <= a0.ZD.length + (bif (QR a0 a1 m b i l).1 then 1 else 0) /\ ∀ y ∈ (QR a0 a1 m b i l).2, Sm n y
  | 0, b, i, l, _, _, _ => ⟨Nat.zero_le _, fun y hy => by cases hy⟩
  | m + 1, b, i, l, hl, hi, hs => by
    unfold QR
    cases hc : decide ((i : Int) < (a0.ZD.length : Int)) with
    | false =>
      simp only [cond_false]
      refine ⟨?_, hs⟩
      have : ¬ ((i : Int) < a0.ZD.length) := by simpa using hc
      omega
    | true =>
      have pa : i < a0.ZD.length := by simpa using hc
      have hn : Sm n (nth a0.ZD i) := Z4 h
      simp only [cond_true]
      cases hd : ((!b) && (decide (a1.Id < (nth a0.ZD i).Id))) with
      | true =>
        have hb : b = false := by cases b <;> simp_all
        subst hb
        simp only [cond_true]
        refine VD h hx m true (i + 1) _ (by simp at hl ⊢; omega) pa (fun y hy => ?_)
        simp only [List.append_assoc, List.mem_append, List.mem_cons, List.not_mem_nil, or_false] at hy
        rcases hy with hy | rfl | rfl
        · exact hs y hy
        · exact hx
        · exact hn
      | false =>
        simp only [cond_false]
        refine VD h hx m b (i + 1) _ (by simp at hl ⊢; omega) pa (fun y hy => ?_)
        simp only [List.mem_append, List.mem_cons, List.not_mem_nil, or_false] at hy
        rcases hy with hy | rfl
        · exact hs y hy
        · exact hn
theorem OS {n : Nat} {a0 : ZJ} {a1 : Zj} (h : Sm n a0) (hx : Sm n a1) : Sm (n + 1) (JA a0 a1).1 := by
  have h1 : Sm (n + 1) a0 := Za (Nat.le_succ n) h
  unfold JA
  cases ((!(QW a0)) || (decide ((Y8 a0 a1.Id) >= 0))) with
  | true => exact h1
  | false =>
    have hz := VD h hx (a0.ZD.length + 1) false 0 [] (Nat.zero_le _) (Nat.zero_le _) (fun y hy => by cases hy)
    have hlen := (ZJ.XQ h).1
    simp only [cond_false]
    generalize hq : QR a0 a1 (a0.ZD.length + 1) false 0 [] = z at hz ⊢
    obtain ⟨z0, z1⟩ := z
    cases z0 with
    | false =>
      simp only [Bool.not_false, cond_true]
      cases (!(QW (ZJ.mk a0.Id (z1 ++ ([a1] : List Zj))))) with
      | true => exact h1
      | false =>
        refine ⟨by have := hz.1; simp at this ⊢; omega, fun y hy => ?_⟩
        have hy' : y ∈ z1 \/ y = a1 := by simpa using hy
        rcases hy' with hy | rfl
        · exact Za (Nat.le_succ n) (hz.2 y hy)
        · exact Za (Nat.le_succ n) hx
    | true =>
      simp only [Bool.not_true, cond_false]
      cases (!(QW (ZJ.mk a0.Id z1))) with
      | true => exact h1
      | false => exact ⟨by have := hz.1; simp at this ⊢; omega, fun y hy => Za (Nat.le_succ n) (hz.2 y hy)⟩
theorem qB (a0 : Int) : ∀ (m : Nat) (x : Int) (l : List Xq) (y : List Int), (KQ a0 m x l y).length <= l.length + m
  | 0, x, l, y => Nat.zero_le _
  | m + 1, x, l, y => by
    simp only [KQ]
    cases decide ((y.length : Int) > 1) with
    | false => simp
    | true =>
      simp only [cond_true]
      cases ((Int.tmod x 2) == 1) with
      | true => refine Nat.le_trans (qB a0 m _ _ _) ?_; simp; omega
      | false =>
        simp only [cond_false]
        cases decide ((W (x + 1)) < (y.length : Int)) with
        | true => refine Nat.le_trans (qB a0 m _ _ _) ?_; simp; omega
        | false => refine Nat.le_trans (qB a0 m _ _ _) ?_; omega
theorem PD {n : Nat} {a0 : Int} {a1 : List Int} {a2 : Int} (h : 17 <= n) : Sm n (Kf a0 a1 a2) := by
  refine ⟨?_, fun _ _ => trivial⟩
  unfold Kf
  cases hc : ((decide ((a1.length : Int) > 16)) || (!(Yg a2 0 (W ((a1.length : Int) - 1))))) with
  | true => exact Nat.zero_le _
  | false =>
    have h1 := qB a0 (a1.length + 1) a2 [] a1
    simp only [Bool.or_eq_false_iff, decide_eq_false_iff_not] at hc
    simp only [cond_false]; simp at h1; omega
theorem PE (a0 : ZG) (a1 : List Int) : ∀ (m v : Nat), a1.length < m + v -> (match xI a0 a1 m v with | .inl r => r | .inr _ => true) = true -> ∀ j, v <= j -> j < a1.length -> 0 <= Zi a0.Frame.ZC (nth a1 j) /\ Zi a0.Frame.ZC (nth a1 j) < (a0.YZ.length : Int) /\ 0 <= YA a0.Frame.Zo (nth a0.Frame.ZC (Zi a0.Frame.ZC (nth a1 j)).toNat).Key
  | 0, v, h, _ => fun j h1 h2 => by omega
  | m + 1, v, h, e => by
    intro j h1 h2
    unfold xI at e
    have hc : decide ((v : Int) < (a1.length : Int)) = true := by simp; omega
    rw [hc] at e
    simp only [cond_true] at e
    revert e
    cases hA : (((decide ((Zi a0.Frame.ZC (nth a1 v)) < 0)) || (decide ((Zi a0.Frame.ZC (nth a1 v)) >= (a0.YZ.length : Int)))) || ((decide ((v : Int) > 0)) && (decide ((nth a1 (v - 1)) >= (nth a1 v))))) with
    | true => intro e; simp at e
    | false =>
      simp only [cond_false]
      cases hB : ((decide ((YA a0.Frame.Zo (nth a0.Frame.ZC (Zi a0.Frame.ZC (nth a1 v)).toNat).Key) < 0)) || (decide ((nth a0.Frame.Zo (YA a0.Frame.Zo (nth a0.Frame.ZC (Zi a0.Frame.ZC (nth a1 v)).toNat).Key).toNat).qK > a0.Frame.Now))) with
      | true => intro e; simp at e
      | false =>
        intro e
        rcases Nat.eq_or_lt_of_le h1 with rfl | h1
        · simp only [Bool.or_eq_false_iff, decide_eq_false_iff_not] at hA hB
          exact ⟨by omega, by omega, by omega⟩
        · exact PE a0 a1 m (v + 1) (by omega) e j h1 h2
theorem JU {a0 : ZG} {a1 : List Int} (h : zC a0 a1 = true) {j : Nat} (hj : j < a1.length) : 0 <= Zi a0.Frame.ZC (nth a1 j) /\ Zi a0.Frame.ZC (nth a1 j) < (a0.YZ.length : Int) /\ 0 <= YA a0.Frame.Zo (nth a0.Frame.ZC (Zi a0.Frame.ZC (nth a1 j)).toNat).Key := by
  refine PE a0 a1 (a1.length + 1) 0 (by omega) ?_ j (Nat.zero_le _) hj
  unfold zC at h
  revert h
  cases xI a0 a1 (a1.length + 1) 0 with
  | inl r => exact fun h => h
  | inr _ => exact fun _ => rfl
theorem U1 (a0 : ZW) (a1 : ZQ) (a2 : List Int) : ∀ n v, Qq a0 a1 a2 n v <= v
  | 0, _ => Nat.zero_le _
  | n + 1, v => by
    simp only [Qq]
    exact Zs (p := fun r => r <= v) (Zs (p := fun r => r <= v) (Nat.le_refl _) (Nat.le_trans (U1 a0 a1 a2 n (v - 1)) (Nat.sub_le _ _))) (Nat.le_refl _)
theorem Lc (a0 : ZW) (a1 : ZQ) (a2 : List Int) : 0 <= Y7 a0 a1 a2 /\ Y7 a0 a1 a2 <= (a1.ZR.length : Int) := by
  have h := U1 a0 a1 a2 (a1.ZR.length + 1) a1.ZR.length
  simp only [Y7]; omega
theorem WR (a0 : List Zl) : ∀ (n : Nat) (l : List Zl) (i : Nat) (x y : Int), i <= a0.length -> (jH a0 n l i x y).1.length <= l.length + (a0.length - i)
  | 0, _, _, _, _, _ => Nat.zero_le _
  | n + 1, l, i, x, y, hi => by
    simp only [jH]
    by_cases h : i < a0.length
    · rw [show decide ((i : Int) < (a0.length : Int)) = true by simpa using h, cond_true]
      refine Zs (p := fun (r : List Zl × Int × Int) => r.1.length <= l.length + (a0.length - i)) ?_ ?_
      · have := WR a0 n (l ++ [nth a0 i]) (i + 1) x y h
        simp at this; omega
      · exact Nat.le_trans (WR a0 n l (i + 1) _ _ h) (by omega)
    · rw [show decide ((i : Int) < (a0.length : Int)) = false by simpa using h, cond_false]; exact Nat.le_add_right _ _
theorem WT (a0 : List Zl) : ∀ (n : Nat) (l : List Zl) (i : Nat), i <= a0.length -> (qz a0 n l i).length <= l.length + (a0.length - i)
  | 0, _, _, _ => Nat.zero_le _
  | n + 1, l, i, hi => by
    simp only [qz]
    by_cases h : i < a0.length
    · rw [show decide ((i : Int) < (a0.length : Int)) = true by simpa using h, cond_true]
      refine Zs (p := fun (r : List Zl) => r.length <= l.length + (a0.length - i)) (Nat.le_trans (WT a0 n l (i + 1) h) (by omega)) ?_
      have h2 := WR l (l.length + 1) [] 0 (nth a0 i).X0 (nth a0 i).To (Nat.zero_le _)
      refine Nat.le_trans (WT a0 n _ (i + 1) h) ?_
      simp at h2 ⊢
      omega
    · rw [show decide ((i : Int) < (a0.length : Int)) = false by simpa using h, cond_false]; exact Nat.le_add_right _ _
theorem xz {n : Nat} {a0 : List Zl} (h : Sm n a0) : Sm n (QM a0) :=
  ⟨Nat.le_trans (WT a0 (a0.length + 1) [] 0 (Nat.zero_le _)) (by have := h.1; simp; omega), fun _ _ => trivial⟩
theorem ZL {n : Nat} {a0 a1 : Int} {a2 : List Zl} (h : Sm n a2) : Sm (n + 1) (Zv a0 a1 a2) := by
  unfold Zv
  refine Zs (p := fun r : List Zl => Sm (n + 1) r) ⟨?_, fun _ _ => trivial⟩ (Za (Nat.le_succ n) h)
  have := h.1
  simp; omega
theorem GR {n : Nat} {a0 : Yb} {a1 : List Zr} (h : 3 <= n) : Sm n (kZ a0 a1) := by
  have h0 : Sm 0 ([] : List Zl) := ⟨Nat.zero_le _, fun _ _ => trivial⟩
  unfold kZ
  refine Zs (p := fun r : List Zl => Sm n r) (Zs (p := fun r : List Zl => Sm n r) ?_ ?_) (Zs (p := fun r : List Zl => Sm n r) ?_ ?_)
  · exact xz (Za h (ZL (ZL (ZL h0))))
  · exact xz (Za (by omega) (ZL (ZL h0)))
  · exact xz (Za (by omega) (ZL (ZL h0)))
  · exact xz (Za (by omega) (ZL h0))
theorem Cg {n : Nat} {c d : Zl} (h : 1 <= n) : Sm n (RU [c] [d]) := by
  show Sm n (QM (bif (xa c d).2 then [(xa c d).1] else []))
  exact xz (Zs (p := fun r : List Zl => Sm n r) ⟨h, fun _ _ => trivial⟩ ⟨Nat.zero_le _, fun _ _ => trivial⟩)
theorem I6 {n : Nat} {a0 : Yb} {a1 : List Zr} (h : 1 <= n) : Sm n (jB a0 a1) := by
  unfold jB
  exact Cg h
theorem ND {n : Nat} {a0 : List Yp} {a1 : List XL} {a2 a3 : Int} (h : a1.length <= n) : Sm n (xZ a0 a1 a2 a3) :=
  xz ⟨Nat.le_trans (SZ (F := yF a0 a1 a2 a3) (fun _ _ => rfl) (fun _ _ _ => rfl) (a1.length + 1) [] 0) (by simp; omega), fun _ _ => trivial⟩
def vi (e : Zz) : Nat := cnL (fun s => s.ZM.length) e.Zx
theorem Bj {l : List ZQ} {i : Nat} (h : i < l.length) : cnL (fun s : ZQ => s.ZM.length) (l.drop i) = (nth l i).ZM.length + cnL (fun s : ZQ => s.ZM.length) (l.drop (i + 1)) := AR _ h
theorem Yh {n : Nat} {a0 : List ZS} {a1 : Yb} (h : Sm n a0) : Sm n (zT a0 a1) :=
  ⟨Nat.le_trans (SZ (F := ym a0 a1) (fun _ _ => rfl) (fun _ _ _ => rfl) (a0.length + 1) [] 0) (by have := h.1; simp; omega), fun _ _ => trivial⟩
theorem Yn {n : Nat} {a0 : List ZS} (h : Sm n a0) : Sm n (jP a0) :=
  ⟨Nat.le_trans (SZ (F := xd a0) (fun _ _ => rfl) (fun _ _ _ => rfl) (a0.length + 1) [] 0) (by have := h.1; simp; omega), fun _ _ => trivial⟩
theorem kx {n : Nat} (a0 : Zz) (a1 : Ze) (h : Sm n a0) : ∀ (m : Nat) (l : List (List Int)) (i : Nat), i <= a0.Zx.length -> Sm n l -> l.length + (a0.Zx.length - i) <= n -> Sm n (J6 a0 a1 m l i)
  | 0, _, _, _, _, _ => ⟨Nat.zero_le _, fun x hx => by cases hx⟩
  | m + 1, l, i, hi, hl, hk => by
    simp only [J6]
    by_cases hv : i < a0.Zx.length
    · rw [show decide ((i : Int) < (a0.Zx.length : Int)) = true by simpa using hv, cond_true]
      refine kx a0 a1 h m _ (i + 1) hv ⟨by simp; omega, fun x hx => ?_⟩ (by simp; omega)
      rcases List.mem_append.1 hx with hx | hx
      · exact hl.2 x hx
      · rw [List.mem_singleton.1 hx]; exact qf (Z4 (Zz.QE h))
    · rw [show decide ((i : Int) < (a0.Zx.length : Int)) = false by simpa using hv, cond_false]; exact hl
theorem Q6 {n : Nat} {a0 : Zz} {a1 : Ze} (h : Sm n a0) : Sm n (Y9 a0 a1) :=
  kx a0 a1 h _ [] 0 (Nat.zero_le _) ⟨Nat.zero_le _, fun x hx => by cases hx⟩ (by have z := XN (Zz.QE h); simp; omega)
theorem Ft {K z : Nat} {l : List ZS} {p : ZS} (hl : Sm K l) (hp : Sm K p) (hk : l.length + 1 <= K) : Sm K ((l.take z ++ [p]) ++ (l.drop z).take (l.length - z)) /\ ((l.take z ++ [p]) ++ (l.drop z).take (l.length - z)).length <= l.length + 1 := by
  have h : ((l.take z ++ [p]) ++ (l.drop z).take (l.length - z)).length <= l.length + 1 := by simp; omega
  refine ⟨⟨Nat.le_trans h hk, fun x hx => ?_⟩, h⟩
  simp only [List.mem_append, List.mem_singleton] at hx
  rcases hx with (hx | rfl) | hx
  · exact hl.2 x (List.mem_of_mem_take hx)
  · exact hp
  · exact hl.2 x (List.mem_of_mem_drop (List.mem_of_mem_take hx))
theorem qO {K : Nat} (a0 : ZW) (a1 : Zz) (a2 : List (List Int)) (v : Nat) (h : Sm K a1) : ∀ (n : Nat) (l : List ZS) (i : Nat), i <= (nth a1.Zx v).ZM.length -> Sm K l -> l.length + ((nth a1.Zx v).ZM.length - i) <= K -> Sm K (XX a0 a1 a2 v n l i) /\ (XX a0 a1 a2 v n l i).length <= l.length + ((nth a1.Zx v).ZM.length - i)
  | 0, _, _, _, _, _ => ⟨⟨Nat.zero_le _, fun x hx => by cases hx⟩, Nat.zero_le _⟩
  | n + 1, l, i, hi, hl, hk => by
    simp only [XX]
    by_cases hv : i < (nth a1.Zx v).ZM.length
    · rw [show decide ((i : Int) < ((nth a1.Zx v).ZM.length : Int)) = true by simpa using hv, cond_true]
      have hp : Sm K (nth (nth a1.Zx v).ZM i) := Z4 (ZQ.QB (Z4 (Zz.QE h)))
      refine Zs (p := fun (r : List ZS) => Sm K r /\ r.length <= l.length + ((nth a1.Zx v).ZM.length - i)) ?_ ?_
      · obtain ⟨r1, r2⟩ := qO a0 a1 a2 v h n l (i + 1) hv hl (by omega)
        exact ⟨r1, by omega⟩
      · obtain ⟨q1, q2⟩ := Ft (z := JE a1 v l i (l.length + 1) 0) hl hp (by omega)
        obtain ⟨r1, r2⟩ := qO a0 a1 a2 v h n _ (i + 1) hv q1 (by omega)
        exact ⟨r1, by omega⟩
    · rw [show decide ((i : Int) < ((nth a1.Zx v).ZM.length : Int)) = false by simpa using hv, cond_false]
      exact ⟨hl, Nat.le_add_right _ _⟩
theorem Wd {K : Nat} (a0 : ZW) (a1 : Zz) (a2 : List (List Int)) (h : Sm K a1) : ∀ (n : Nat) (l : List ZS) (i : Nat), i <= a1.Zx.length -> Sm K l -> l.length + cnL (fun s : ZQ => s.ZM.length) (a1.Zx.drop i) <= K -> Sm K (Ka a0 a1 a2 n l i)
  | 0, _, _, _, _, _ => ⟨Nat.zero_le _, fun x hx => by cases hx⟩
  | n + 1, l, i, hi, hl, hk => by
    simp only [Ka]
    by_cases hv : i < a1.Zx.length
    · rw [show decide ((i : Int) < (a1.Zx.length : Int)) = true by simpa using hv, cond_true]
      have hd := Bj hv
      obtain ⟨r1, r2⟩ := qO a0 a1 a2 i h ((nth a1.Zx i).ZM.length + 1) l 0 (Nat.zero_le _) hl (by omega)
      exact Wd a0 a1 a2 h n _ (i + 1) hv r1 (by omega)
    · rw [show decide ((i : Int) < (a1.Zx.length : Int)) = false by simpa using hv, cond_false]; exact hl
theorem ZX {K : Nat} {a0 : ZW} {a1 : Zz} {a2 : List (List Int)} (h : Sm K a1) (hp : vi a1 <= 2097152) (hk : 2097152 <= K) : Sm K (Zy a0 a1 a2) :=
  Wd a0 a1 a2 h _ [] 0 (Nat.zero_le _) ⟨Nat.zero_le _, fun x hx => by cases hx⟩ (by rw [List.drop_zero]; simp only [List.length_nil]; exact Nat.le_trans (by rw [Nat.zero_add]; exact hp) hk)
theorem CE (x : Int) : 0 <= GZ .i64 x 255 /\ GZ .i64 x 255 <= 255 := by
  have h : (BitVec.ofInt IntKind.i64.bits x &&& BitVec.ofInt IntKind.i64.bits 255).toNat <= 255 := by
    rw [BitVec.toNat_and]; exact Nat.le_trans Nat.and_le_right (Nat.le_of_ble_eq_true rfl)
  unfold GZ
  rw [XA (by omega) (by omega)]
  omega
theorem TW (c : ZU) : 0 <= (QT c).2 /\ (QT c).2 <= 255 := by
  unfold QT
  exact Zs (p := fun r : ZU × Int => 0 <= r.2 /\ r.2 <= 255) (CE _) (CE _)
theorem KT (c : ZU) (n : Int) : 0 <= (ZH c n).2 /\ (0 < n -> (ZH c n).2 < n) := by
  unfold ZH
  refine Z7 (p := fun r : ZU × Int => 0 <= r.2 /\ (0 < n -> r.2 < n)) (fun h => ⟨Int.le_refl _, fun h0 => h0⟩) (fun h => ?_)
  have hn : 0 < n := by simp at h; omega
  have h1 := TW c
  have h2 := TW (QT c).1
  have h3 := TW (QT (QT c).1).1
  refine Zs (p := fun r : ZU × Int => 0 <= r.2 /\ (0 < n -> r.2 < n)) ⟨Int.tmod_nonneg _ h1.1, fun _ => Int.tmod_lt_of_pos _ hn⟩ ⟨Int.tmod_nonneg _ ?_, fun _ => Int.tmod_lt_of_pos _ hn⟩
  simp only [X9]
  omega
theorem R9 (c : ZU) : (zj c).2.size <= 11 := by
  unfold zj RT
  exact tK (by decide) _
theorem JK (a0 : ZG) : (Zh a0).length <= a0.Frame.ZC.length := by
  have e := SZ (F := Xl a0) (fun _ _ => rfl) (fun _ _ _ => rfl) (a0.Frame.ZC.length + 1) [] 0
  have : (Zh a0).length <= 0 + (a0.Frame.ZC.length - 0) := e
  omega
theorem KI (a0 : ZG) : (YJ a0).length <= a0.Frame.ZC.length := by
  have e := SZ (F := QV a0) (fun _ _ => rfl) (fun _ _ _ => rfl) (a0.Frame.ZC.length + 1) [] 0
  have : (YJ a0).length <= 0 + (a0.Frame.ZC.length - 0) := e
  omega
theorem Gd {n : Nat} {a0 : ZQ} {a1 : ZS} (h : Sm n a0) (hp : Sm (n + 1) a1) : Sm (n + 1) (Xf a0 a1).1 := by
  have h1 : Sm (n + 1) a0 := Za (Nat.le_succ n) h
  refine Zs (p := fun w : ZQ × Bool => Sm (n + 1) w.1) h1 ?_
  refine ⟨⟨?_, fun x hx => ?_⟩, h1.2⟩
  · have := h.1.1; simp; omega
  · rcases List.mem_append.1 hx with hx | hx
    · exact h1.1.2 x hx
    · have e := List.mem_singleton.1 hx; subst e; exact hp
theorem LK {n : Nat} {a0 : ZQ} {a1 : ZV} (h : Sm n a0) (hp : Sm (n + 1) a1) : Sm (n + 1) (YL a0 a1).1 := by
  have h1 : Sm (n + 1) a0 := Za (Nat.le_succ n) h
  refine Zs (p := fun w : ZQ × Bool => Sm (n + 1) w.1) h1 ?_
  refine ⟨h1.1, ⟨?_, fun x hx => ?_⟩⟩
  · have := h.2.1; simp; omega
  · rcases List.mem_append.1 hx with hx | hx
    · exact h1.2.2 x hx
    · have e := List.mem_singleton.1 hx; subst e; exact hp
theorem HQ {n : Nat} {a0 : ZJ} {a1 : Int} {a2 : ZS} (h : Sm n a0) (hp : Sm (n + 1) a2) : Sm (n + 1) (Yu a0 a1 a2).1 := by
  have h1 : Sm (n + 1) a0 := Za (Nat.le_succ n) h
  refine Zs (p := fun w : ZJ × Bool => Sm (n + 1) w.1) h1 ?_
  refine TE (ZJ.XQ h1) ?_
  have hi : Sm n (nth a0.ZD (Zm a0 a1).toNat) := Z4 (ZJ.XQ h)
  exact ⟨(Za (Nat.le_succ n) hi).1, Gd hi.2 hp⟩
theorem HM {n : Nat} {a0 : ZG} {i : Nat} {x : ZJ} (h : Sm n a0) (hx : Sm n x) : Sm n (ZG.mk a0.Frame a0.ZZ a0.YQ (a0.ZB.set i x) a0.YZ a0.YR a0.Next a0.YK) :=
  ⟨h.1, h.2.1, h.2.2.1, TE h.2.2.2.1 hx, h.2.2.2.2⟩
theorem Gc {n : Nat} {a0 : ZG} {a1 a2 : Int} {a3 : Zr} (h : Sm n a0) (hn : 5 <= n) : Sm (n + 1) (Xe a0 a1 a2 a3).1 := by
  have h1 : Sm (n + 1) a0 := Za (Nat.le_succ n) h
  refine Zs (p := fun w : ZG × Bool => Sm (n + 1) w.1) h1 ?_
  exact HM h1 (HQ (Z4 (ZG.Yq h)) (TA (by omega)))
theorem PG {n : Nat} {a0 : ZG} {a1 a2 : Int} (h : Sm n a0) (hn : 5 <= n) : Sm (n + 1) (Yj a0 a1 a2).1 := by
  have h1 : Sm (n + 1) a0 := Za (Nat.le_succ n) h
  exact Zs (p := fun w : ZG × Bool => Sm (n + 1) w.1) h1 (Gc h hn)
theorem ze {a0 : ZG} {a1 a2 : Int} : ∀ (m v : Nat) (l : List Zf), (∀ r, Ya a0 a1 a2 m v l = .inl r -> r = (a0, false)) /\ ∀ z, Ya a0 a1 a2 m v l = .inr z -> z.length <= l.length + ((Zh a0).length - v)
  | 0, v, l => ⟨fun r h => (by cases h), fun z h => (by cases h; exact Nat.zero_le _)⟩
  | m + 1, v, l => by
    rw [Ya]
    let p := fun w : Sum (ZG × Bool) (List Zf) => (∀ r, w = .inl r -> r = (a0, false)) /\ ∀ z, w = .inr z -> z.length <= l.length + ((Zh a0).length - v)
    refine Z7 (p := p) (fun hc => ?_) (fun _ => ⟨fun r h => (by cases h), fun z h => (by cases h; exact Nat.le_add_right _ _)⟩)
    have hc : v < (Zh a0).length := by simpa using hc
    refine Zs (p := p) ⟨fun r h => (by cases h; rfl), fun z h => (by cases h)⟩ ?_
    obtain ⟨k1, k2⟩ := ze (a0 := a0) (a1 := a1) (a2 := a2) m (v + 1) (l ++ [(XD a0.Frame.Zo a0.Frame.ZC (Zf.mk (nth (Zh a0) v) 0 a2 (QK (nth (nth a0.ZB (ZF a0 a1).1.toNat).ZD (ZF a0 a1).2.toNat) (Zk a0.Frame.Methods a0.Frame.Now)) 0)).1])
    exact ⟨k1, fun z hz => by have := k2 z hz; rw [List.length_append, List.length_singleton] at this; omega⟩
theorem Xj {n : Nat} {a0 : ZG} {a1 a2 : Int} (h : Sm n a0) : Sm (n + 1) (ZN a0 a1 a2).1 := by
  have h1 : Sm (n + 1) a0 := Za (Nat.le_succ n) h
  unfold ZN
  refine Zs (p := fun w : ZG × Bool => Sm (n + 1) w.1) h1 ?_
  obtain ⟨k1, k2⟩ := ze (a0 := a0) (a1 := a1) (a2 := a2) ((Zh a0).length + 1) 0 []
  cases hh : Ya a0 a1 a2 ((Zh a0).length + 1) 0 [] with
  | inl r => rw [k1 r hh]; exact h1
  | inr z =>
    have hz := k2 z hh
    have hf := JK a0
    have ha := XN (ZW.XH (ZG.Xk h))
    rw [List.length_nil] at hz
    have hA : Sm n (nth a0.ZB (ZF a0 a1).1.toNat) := Z4 (ZG.Yq h)
    have hI : Sm n (nth (nth a0.ZB (ZF a0 a1).1.toNat).ZD (ZF a0 a1).2.toNat) := Z4 (ZJ.XQ hA)
    refine HM h1 (TE (ZJ.XQ (Za (Nat.le_succ n) hA)) ⟨(Za (Nat.le_succ n) hI).1, LK hI.2 ?_⟩)
    exact ⟨Ph, ⟨by show z.length <= n + 1; omega, fun _ _ => trivial⟩⟩
theorem Rq {n : Nat} (h : 4 <= n) : Sm n Xv := ⟨h, fun _ _ => trivial⟩
theorem Eu {n : Nat} (h : 4 <= n) : Sm n kS := ⟨h, fun _ _ => trivial⟩
theorem F2 {n : Nat} (h : 3 <= n) : Sm n W3 := ⟨h, fun _ _ => trivial⟩
theorem WN (a0 : Int) (a1 : List ByteArray) (a2 : Int) : ∀ (m v : Nat) (l : List Int), (yB a0 a1 a2 m v l).length <= l.length + m
  | 0, _, _ => Nat.zero_le _
  | m + 1, v, l => by
    rw [yB]
    refine Zs (p := fun r : List Int => r.length <= l.length + (m + 1)) ?_ (by omega)
    have := WN a0 a1 a2 m (v + 1) (l ++ [KZ 1 (yG a2 [a0, v])])
    simp only [List.length_append, List.length_singleton] at this
    omega
theorem OI {n : Nat} {a0 : Int} {a1 : List ByteArray} {a2 : Int} (h : Sm n a1) (hn : a1.length + 1 <= n) : Sm n (zq a0 a1 a2).1 := by
  unfold zq
  have := WN a0 a1 a2 (a1.length + 1) 0 []
  refine Zs (p := fun r : Ze × Bool => Sm n r.1) ⟨Sz.zero n, Sz.zero n⟩ ⟨h, Nat.le_trans this (by simpa using hn), fun _ _ => trivial⟩
theorem PI : ∀ (m : Nat) (l : List ByteArray) (i : Int) (b : List UInt8) (j : Nat) (h : Int), (∀ x ∈ l, x.size <= 11) -> (kW m l i b j h).1.length <= l.length + m /\ ∀ x ∈ (kW m l i b j h).1, x.size <= 11
  | 0, _, _, _, _, _, _ => ⟨Nat.zero_le _, fun x hx => by cases hx⟩
  | m + 1, l, i, b, j, h, hl => by
    rw [kW]
    refine Zs (p := fun r : (List ByteArray) × (List UInt8) × Nat × Int => r.1.length <= l.length + (m + 1) /\ ∀ x ∈ r.1, x.size <= 11) ?_ ⟨by show l.length <= _; omega, hl⟩
    have := PI m (l ++ [(zj (ZU.mk b j h)).2]) (W (i - 1)) (zj (ZU.mk b j h)).1.b (zj (ZU.mk b j h)).1.i (zj (ZU.mk b j h)).1.h (fun x hx => by
      rcases List.mem_append.1 hx with hx | hx
      · exact hl x hx
      · rw [List.mem_singleton.1 hx]; exact R9 _)
    simp only [List.length_append, List.length_singleton] at this
    exact ⟨by omega, this.2⟩
theorem xW {n : Nat} {a0 : ZU} (h : 20 <= n) : Sm n (Zb a0).2 := by
  unfold Zb
  have := PI 5 [] (W (1 + (ZH a0 3).2)) (ZH a0 3).1.b (ZH a0 3).1.i (ZH a0 3).1.h (fun x hx => by cases hx)
  simp only [List.length_nil] at this
  exact OI ⟨by omega, fun x hx => Nat.le_trans (this.2 x hx) (by omega)⟩ (by omega)
theorem GI {n m : Nat} {a0 : ZQ} {a1 : ZS} (hn : n + 1 <= m) (h : Sm n a0) (hx : Sm m a1) : Sm m (Kl a0 a1).1 := by
  have h1 : Sm m a0 := Za (by omega) h
  unfold Kl
  refine Zs (p := fun r : ZQ × Bool => Sm m r.1) h1 ⟨⟨?_, fun y hy => ?_⟩, h1.2⟩
  · have : a0.ZM.length <= n := h.1.1
    simp only [List.length_append, List.length_singleton]; omega
  · rcases List.mem_append.1 hy with hy | hy
    · exact h1.1.2 y hy
    · rw [List.mem_singleton.1 hy]; exact hx
theorem Tp {n m : Nat} {a0 : ZQ} {a1 : ZV} (hn : n + 1 <= m) (h : Sm n a0) (hx : Sm m a1) : Sm m (X6 a0 a1).1 := by
  have h1 : Sm m a0 := Za (by omega) h
  unfold X6
  refine Zs (p := fun r : ZQ × Bool => Sm m r.1) h1 ⟨h1.1, ⟨?_, fun y hy => ?_⟩⟩
  · have : a0.ZR.length <= n := h.2.1
    simp only [List.length_append, List.length_singleton]; omega
  · rcases List.mem_append.1 hy with hy | hy
    · exact h1.2.2 y hy
    · rw [List.mem_singleton.1 hy]; exact hx
theorem ki {n : Nat} {a0 : Int} (h : 20 <= n) : Sm n (YD a0) := by
  have hw : ∀ (k : Int) (l : List Int), l.length <= 1 -> Sm n (ZG.mk (ZW.mk yD Xv kS k 0) W3 ([(-1), (-1), (-1)] : List Int) ([(ZJ.mk 0 ([] : List Zj)), (ZJ.mk 1 ([] : List Zj))] : List ZJ) ([0, 0, 0, 0] : List Int) l 1 ([] : List Int)) := fun k l hl => by
    have h1 := UQ (n := n) (by omega)
    have h2 := Rq (n := n) (by omega)
    have h3 := Eu (n := n) (by omega)
    have h4 := F2 (n := n) (by omega)
    have h5 : Sm n ([(ZJ.mk 0 ([] : List Zj)), (ZJ.mk 1 ([] : List Zj))] : List ZJ) := ⟨by simp; omega, fun y hy => by
      rcases List.mem_cons.1 hy with rfl | hy
      · exact Sz.zero (α := List Zj) _
      · rw [List.mem_singleton.1 hy]; exact Sz.zero (α := List Zj) _⟩
    have h6 : ∀ l : List Int, l.length <= 20 -> Sm n l := fun l hl => ⟨by omega, fun _ _ => trivial⟩
    simp only [ZG.Vw, ZW.Vw]
    simp only [h1, h2, h3, h4, h5, h6 _ (show ([(-1), (-1), (-1)] : List Int).length <= 20 by decide), h6 _ (show ([0, 0, 0, 0] : List Int).length <= 20 by decide), h6 l (by omega), h6 [] (by decide), and_self]
  unfold YD
  exact Zs (p := fun r : ZG => Sm n r) (hw _ _ (by decide)) (hw _ _ (by decide))
theorem NH {n : Nat} {a0 : ZG} {i : Nat} {x : ZJ} (h : Sm n a0) (hx : Sm n x) : Sm n (ZG.mk a0.Frame a0.ZZ a0.YQ (a0.ZB.set i x) a0.YZ a0.YR a0.Next a0.YK) :=
  ⟨h.1, h.2.1, h.2.2.1, TE h.2.2.2.1 hx, h.2.2.2.2⟩
theorem y9 {n : Nat} {a0 : ZG} {a1 : Int} (h : Sm n a0) : Sm n (YE a0 a1).1 := by
  refine Zs (p := fun w : ZG × Bool => Sm n w.1) h ?_
  exact ⟨h.1, h.2⟩
theorem Ge {n : Nat} {a0 : ZG} {a1 a2 : Int} {a3 : Ze} {a4 a5 : Int} (h : Sm n a0) (hd : Sm n a3) (hn : 9 <= n) : Sm (n + 1) (YG a0 a1 a2 a3 a4 a5).1 := by
  have h1 : Sm (n + 1) a0 := Za (Nat.le_succ n) h
  have ha : Sm (n + 1) (JA (nth a0.ZB a1.toNat) (Xh a0 a2 a3 a4 a5).1).1 := OS (Z4 (ZG.Yq h)) (xt hd hn)
  refine Zs (p := fun w : ZG × Bool => Sm (n + 1) w.1) h1 (Zs (p := fun w : ZG × Bool => Sm (n + 1) w.1) h1 (Zs (p := fun w : ZG × Bool => Sm (n + 1) w.1) h1 ?_))
  exact ⟨h1.1, h1.2.1, h1.2.2.1, TE h1.2.2.2.1 ha, h1.2.2.2.2⟩
theorem jX {n : Nat} {a0 : ZG} {a1 a2 : Int} {a3 : Ze} (h : Sm n a0) (hd : Sm n a3) (hn : 9 <= n) : Sm (n + 1) (JZ a0 a1 a2 a3).1 := by
  have h1 : Sm (n + 1) a0 := Za (Nat.le_succ n) h
  have ha : Sm (n + 1) (JA (nth a0.ZB a1.toNat) (Xh a0 a2 a3 0 10000).1).1 := OS (Z4 (ZG.Yq h)) (xt hd hn)
  refine Zs (p := fun w : ZG × Bool => Sm (n + 1) w.1) h1 (Zs (p := fun w : ZG × Bool => Sm (n + 1) w.1) h1 (Zs (p := fun w : ZG × Bool => Sm (n + 1) w.1) h1 ?_))
  have := XN (ZG.FI h)
  exact ⟨h1.1, h1.2.1, h1.2.2.1, TE h1.2.2.2.1 ha, h1.2.2.2.2.1, h1.2.2.2.2.2.1, ⟨by simp; omega, fun _ _ => trivial⟩⟩
theorem HT {n : Nat} {a0 : ZJ} {a1 : Int} {a2 : ZS} (h : Sm n a0) (hp : Sm (n + 1) a2) : Sm (n + 1) (QO a0 a1 a2).1 := by
  have h1 : Sm (n + 1) a0 := Za (Nat.le_succ n) h
  refine Zs (p := fun w : ZJ × Bool => Sm (n + 1) w.1) h1 ?_
  refine TE (ZJ.XQ h1) ?_
  have hi : Sm n (nth a0.ZD (Y8 a0 a1).toNat) := Z4 (ZJ.XQ h)
  exact ⟨(Za (Nat.le_succ n) hi).1, GI (Nat.le_refl _) hi.2 hp⟩
theorem LP {n : Nat} {a0 : ZG} {a1 : Int} (h : Sm n a0) (hn : 5 <= n) : Sm (n + 1) (Z0 a0 a1).1 := by
  have h1 : Sm (n + 1) a0 := Za (Nat.le_succ n) h
  let p := fun w : ZG × Bool => Sm (n + 1) w.1
  have k : ∀ i x, Sm (n + 1) (ZG.mk a0.Frame a0.ZZ a0.YQ (a0.ZB.set i (QO (nth a0.ZB i) a1 (Xc x)).1) a0.YZ a0.YR a0.Next a0.YK) := fun i x =>
    NH h1 (HT (Z4 (ZG.Yq h)) (kL (by omega)))
  exact Zs (p := p) h1 (Zs (p := p) h1 (Zs (p := p) (Zs (p := p) h1 (k _ _)) (Zs (p := p) h1 (k _ _))))
theorem Nv {n : Nat} {a0 : ZJ} {a1 : Int} {a2 : List Zf} (h : Sm n a0) (hp : Sm n a2) (hn : 17 <= n) : Sm (n + 1) (X3 a0 a1 a2).1 := by
  have h1 : Sm (n + 1) a0 := Za (Nat.le_succ n) h
  have hi := ZJ.XQ h
  have key : ∀ m b v l, l.length = a0.ZD.length -> (∀ x ∈ l, Sm (n + 1) x) -> (Xg a0 a1 a2 m b v l).2.length <= a0.ZD.length /\ ∀ x ∈ (Xg a0 a1 a2 m b v l).2, Sm (n + 1) x := by
    intro m
    induction m with
    | zero => intro b v l _ _; exact ⟨Nat.zero_le _, fun x hx => (by cases hx)⟩
    | succ m ih =>
      intro b v l hl hs
      rw [Xg]
      let p := fun w : Bool × List Zj => w.2.length <= a0.ZD.length /\ ∀ x ∈ w.2, Sm (n + 1) x
      refine Zs (p := p) (ih _ _ _ (by rw [List.length_set]; exact hl) (fun x hx => ?_)) ⟨by show l.length <= _; omega, hs⟩
      rcases List.mem_or_eq_of_mem_set hx with hx | rfl
      · exact hs x hx
      · have hx0 : Sm (n + 1) (nth l v) := by
          by_cases hv : v < l.length
          · have : nth l v = l[v] := by simp [nth, List.getD_eq_getElem?_getD, List.getElem?_eq_getElem hv]
            rw [this]; exact hs _ (List.getElem_mem hv)
          · have : nth l v = default := by simp [nth, List.getD_eq_getElem?_getD, List.getElem?_eq_none (Nat.le_of_not_lt hv)]
            rw [this]; exact Sz.zero _
        have hv : Sm n (nth a0.ZD v) := Z4 hi
        refine ⟨hx0.1, Tp (Nat.le_refl _) hv.2 ?_⟩
        exact ⟨PD (by omega), Za (Nat.le_succ n) hp⟩
  have hk := key (a0.ZD.length + 1) ((QW a0) && (decide ((a0.ZD.length : Int) > 0))) 0 a0.ZD rfl (fun x hx => Za (Nat.le_succ n) (hi.2 x hx))
  have := XN hi
  unfold X3
  cases hh : Xg a0 a1 a2 (a0.ZD.length + 1) ((QW a0) && (decide ((a0.ZD.length : Int) > 0))) 0 a0.ZD with
  | mk z0 z1 =>
    rw [hh] at hk
    exact Zs (p := fun w : ZJ × Bool => Sm (n + 1) w.1) h1 ⟨by show z1.length <= n + 1; have := hk.1; simp only at this; omega, hk.2⟩
theorem V4 {a0 : ZG} {a2 : List Int} : ∀ (m v : Nat) (q : List Int), (zS a0 a2 m v q).length <= q.length
  | 0, _, _ => Nat.zero_le _
  | m + 1, v, q => by
    rw [zS]
    refine Zs (p := fun w : List Int => w.length <= q.length) ?_ (Nat.le_refl _)
    exact Nat.le_trans (V4 m (v + 1) _) (by rw [List.length_set]; exact Nat.le_refl _)
theorem U9 {a0 : ZG} {a1 : Int} {a2 : List Int} {a3 : Int} : ∀ (m : Nat) (l : List Zf) (v : Nat), l.length <= v -> v <= a2.length ->
    (∀ r, QY a0 a1 a2 a3 m l v = .inl r -> r = (a0, false)) /\ ∀ z, QY a0 a1 a2 a3 m l v = .inr z -> z.length <= a2.length
  | 0, _, _, _, _ => ⟨fun r h => (by cases h), fun z h => (by cases h; exact Nat.zero_le _)⟩
  | m + 1, l, v, hl, hv => by
    rw [QY]
    let p := fun w : Sum (ZG × Bool) (List Zf) => (∀ r, w = .inl r -> r = (a0, false)) /\ ∀ z, w = .inr z -> z.length <= a2.length
    have bad : p (.inl (a0, false)) := ⟨fun r h => (by cases h; rfl), fun z h => (by cases h)⟩
    refine Z7 (p := p) (fun hc => ?_) (fun _ => ⟨fun r h => (by cases h), fun z h => (by cases h; exact Nat.le_trans hl hv)⟩)
    have hc : v < a2.length := by simpa using hc
    have step : ∀ x, p (QY a0 a1 a2 a3 m (l ++ [x]) (v + 1)) := fun x =>
      U9 m (l ++ [x]) (v + 1) (by simp; omega) hc
    exact Zs (p := p) (Zs (p := p) bad (step _)) (Zs (p := p) bad (step _))
theorem Lw {n : Nat} {a0 : ZG} {a1 : Int} {a2 : List Int} {a3 : Int} (h : Sm n a0) (h2 : Sm n a2) (hn : 17 <= n) : Sm (n + 1) (XF a0 a1 a2 a3).1 := by
  have h1 : Sm (n + 1) a0 := Za (Nat.le_succ n) h
  unfold XF
  refine Zs (p := fun w : ZG × Bool => Sm (n + 1) w.1) h1 ?_
  obtain ⟨k1, k2⟩ := U9 (a0 := a0) (a1 := a1) (a2 := a2) (a3 := a3) (a2.length + 1) [] 0 (Nat.zero_le _) (Nat.zero_le _)
  cases hh : QY a0 a1 a2 a3 (a2.length + 1) [] 0 with
  | inl r => rw [k1 r hh]; exact h1
  | inr z =>
    have q1 := k2 z hh
    have q2 := V4 (a0 := a0) (a2 := a2) (a2.length + 1) 0 a0.YZ
    have e2 := XN h2
    have e3 := XN (ZG.BW h)
    have hs : Sm n z := ⟨by omega, fun _ _ => trivial⟩
    refine Zs (p := fun w : ZG × Bool => Sm (n + 1) w.1) h1 ?_
    exact ⟨h1.1, h1.2.1, h1.2.2.1, TE h1.2.2.2.1 (Nv (Z4 (ZG.Yq h)) hs hn), ⟨Nat.le_trans q2 (Nat.le_succ_of_le e3), fun _ _ => trivial⟩, h1.2.2.2.2.2⟩
theorem We {a0 : ZG} {a1 a2 : Int} : ∀ (m v : Nat) (l : List Zf), (∀ r, QC a0 a1 a2 m v l = .inl r -> r = (a0, false)) /\ ∀ z, QC a0 a1 a2 m v l = .inr z -> z.length <= l.length + ((YJ a0).length - v)
  | 0, v, l => ⟨fun r h => (by cases h), fun z h => (by cases h; exact Nat.zero_le _)⟩
  | m + 1, v, l => by
    rw [QC]
    let p := fun w : Sum (ZG × Bool) (List Zf) => (∀ r, w = .inl r -> r = (a0, false)) /\ ∀ z, w = .inr z -> z.length <= l.length + ((YJ a0).length - v)
    refine Z7 (p := p) (fun hc => ?_) (fun _ => ⟨fun r h => (by cases h), fun z h => (by cases h; exact Nat.le_add_right _ _)⟩)
    have hc : v < (YJ a0).length := by simpa using hc
    have step : ∀ x, p (QC a0 a1 a2 m (v + 1) (l ++ [x])) := fun x => by
      obtain ⟨k1, k2⟩ := We (a0 := a0) (a1 := a1) (a2 := a2) m (v + 1) (l ++ [x])
      exact ⟨k1, fun z hz => by have := k2 z hz; rw [List.length_append, List.length_singleton] at this; omega⟩
    exact Zs (p := p) ⟨fun r h => (by cases h; rfl), fun z h => (by cases h)⟩ (step _)
theorem OQ {n : Nat} {a0 : ZG} {a1 a2 : Int} (h : Sm n a0) : Sm (n + 1) (Qp a0 a1 a2).1 := by
  have h1 : Sm (n + 1) a0 := Za (Nat.le_succ n) h
  unfold Qp
  refine Zs (p := fun w : ZG × Bool => Sm (n + 1) w.1) h1 ?_
  obtain ⟨k1, k2⟩ := We (a0 := a0) (a1 := a1) (a2 := a2) ((YJ a0).length + 1) 0 []
  cases hh : QC a0 a1 a2 ((YJ a0).length + 1) 0 [] with
  | inl r => rw [k1 r hh]; exact h1
  | inr z =>
    have hz := k2 z hh
    have hf := KI a0
    have ha := XN (ZW.XH (ZG.Xk h))
    rw [List.length_nil] at hz
    have hA : Sm n (nth a0.ZB (ZO a0 a1).1.toNat) := Z4 (ZG.Yq h)
    have hI : Sm n (nth (nth a0.ZB (ZO a0 a1).1.toNat).ZD (ZO a0 a1).2.toNat) := Z4 (ZJ.XQ hA)
    refine NH h1 (TE (ZJ.XQ (Za (Nat.le_succ n) hA)) ⟨(Za (Nat.le_succ n) hI).1, Tp (Nat.le_refl _) hI.2 ?_⟩)
    exact ⟨Ph, ⟨by show z.length <= n + 1; omega, fun _ _ => trivial⟩⟩
theorem zf (a0 : ZW) : ∀ (m : Nat) (l : List Int) (v : Nat), a0.ZC.length < m + v -> v <= a0.ZC.length -> l.length <= v -> (JR a0 m l v).length <= a0.ZC.length
  | 0, _, v, h, hv, _ => by omega
  | m + 1, l, v, h, hv, hl => by
    rw [JR]
    by_cases pa : v < a0.ZC.length
    · rw [decide_eq_true (show (v : Int) < (a0.ZC.length : Int) by omega), Yf]
      refine Zs (p := fun z : List Int => z.length <= a0.ZC.length) (zf a0 m _ (v + 1) (by omega) pa ?_) (zf a0 m _ (v + 1) (by omega) pa (by omega))
      rw [List.length_append, List.length_singleton]; omega
    · rw [decide_eq_false (show ¬ (v : Int) < (a0.ZC.length : Int) by omega), YW]
      exact Nat.le_trans hl hv
theorem SQ {n : Nat} {a0 : ZW} (h : Sm n a0) : Sm n (YN a0) := by
  have k := zf a0 (a0.ZC.length + 1) [] 0 (by omega) (Nat.zero_le _) (Nat.zero_le _)
  have k2 := XN (ZW.XH h)
  unfold YN
  exact ⟨Nat.le_trans k k2, fun _ _ => trivial⟩
theorem uX {n : Nat} {w : ZG} {a b k : Int} {c : ZU} (h : Sm n w) (hn : 20 <= n) : Sm (n + 1) (YG w a b (Zb c).2 0 k).1 := Ge h (xW hn) (by omega)
theorem uo {n : Nat} {w : ZG} {a b k : Int} {c : ZU} (h : Sm n w) (hn : 20 <= n) : Sm (n + 2) (Z0 (YG w a b (Zb c).2 0 k).1 1).1 := LP (uX h hn) (by omega)
theorem FN {n : Nat} {w : ZG} {a b k t : Int} {c : ZU} (h : Sm n w) (hn : 20 <= n) : Sm (n + 2) (YE (Z0 (YG w a b (Zb c).2 0 k).1 1).1 t).1 := y9 (uo h hn)
theorem Bi {n : Nat} {w : ZG} {a b k t : Int} {c : ZU} (h : Sm n w) (hn : 20 <= n) : Sm (n + 2) (YN (YE (Z0 (YG w a b (Zb c).2 0 k).1 1).1 t).1.Frame) := SQ (ZG.Xk (FN h hn))
theorem Bo {n : Nat} {w : ZG} {a b k t e : Int} {c : ZU} (h : Sm n w) (hn : 20 <= n) : Sm (n + 3) (XF (YE (Z0 (YG w a b (Zb c).2 0 k).1 1).1 t).1 0 (YN (YE (Z0 (YG w a b (Zb c).2 0 k).1 1).1 t).1.Frame) e).1 := Lw (FN h hn) (Bi h hn) (by omega)
theorem uT {n : Nat} {w : ZG} (h : Sm n w) : Sm n (ZG.mk (ZW.mk w.Frame.Zo w.Frame.ZC w.Frame.Methods w.Frame.X8 w.Frame.Now) w.ZZ w.YQ w.ZB w.YZ w.YR w.Next w.YK) := h
def L4 (w : ZG) (a b k t e : Int) (c : ZU) : ZG := (XF (YE (Z0 (YG w a b (Zb c).2 0 k).1 1).1 t).1 0 (YN (YE (Z0 (YG w a b (Zb c).2 0 k).1 1).1 t).1.Frame) e).1
theorem sG {p : ZG -> Prop} {w : ZG} (h : p w) : p (ZG.mk (ZW.mk w.Frame.Zo w.Frame.ZC w.Frame.Methods w.Frame.X8 w.Frame.Now) w.ZZ w.YQ w.ZB w.YZ w.YR w.Next w.YK) := h
theorem su {m : Nat} {q : Nat -> Prop} (h : ∃ m', m' <= m /\ q m') : ∃ m', m' <= m + 1 /\ q m' := ⟨h.choose, Nat.le_succ_of_le h.choose_spec.1, h.choose_spec.2⟩
theorem Uq {p : Nat -> ZG -> Prop} (hs : ∀ m w a b k t e c, p (m + 1) w -> p m (L4 w a b k t e c)) : ∀ (m : Nat) (k : Int) (b : List UInt8) (i : Nat) (h : Int) (f1 : List Yp) (f2 : List Zg) (f3 : List Z5) (f4 f5 : Int) (w1 : List Yb) (w2 : List Int) (w3 : List ZJ) (w4 w5 : List Int) (w6 : Int) (w7 : List Int),
    k + 1 <= (m : Int) -> 0 <= k -> m <= 100 -> p m (ZG.mk (ZW.mk f1 f2 f3 f4 f5) w1 w2 w3 w4 w5 w6 w7) ->
    ∃ m', m' <= m /\ p m' (match qI m k b i h f1 f2 f3 f4 f5 w1 w2 w3 w4 w5 w6 w7 with | (_, _, _, z1_3, z1_4, z1_5, z1_6, z1_7, z1_8, z1_9, z1_10, z1_11, z1_12, z1_13, z1_14) => ZG.mk (ZW.mk z1_3 z1_4 z1_5 z1_6 z1_7) z1_8 z1_9 z1_10 z1_11 z1_12 z1_13 z1_14)
  | 0, k, _, _, _, _, _, _, _, _, _, _, _, _, _, _, _, hk, h0, _, _ => by omega
  | m + 1, k, b, i, h, f1, f2, f3, f4, f5, w1, w2, w3, w4, w5, w6, w7, hk, h0, hm, hp => by
    rw [qI]
    have t := fun a b k t e c => sG (hs m _ a b k t e c hp)
    unfold L4 at t
    by_cases hc : k > 0
    · rw [decide_eq_true hc, Yf]
      have hw : W (k - 1) = k - 1 := by simp only [X9]; omega
      refine su (Uq hs m (W (k - 1)) _ _ _ _ _ _ _ _ _ _ _ _ _ _ _ (by omega) (by omega) (by omega) ?_)
      with_reducible exact t _ _ _ _ _ _
    · rw [decide_eq_false hc, YW]
      exact ⟨m + 1, Nat.le_refl _, hp⟩
theorem VT {p : Nat -> ZG -> Prop} (hn : ∀ x, 0 <= x -> x < 2 -> p 5 (YD x)) (hs : ∀ m w a b k t e c, p (m + 1) w -> p m (L4 w a b k t e c)) (a0 : ZU) : ∃ m, m <= 5 /\ p m (YF a0).2 := by
  have z0 := KT a0 2
  have h0 := hn (ZH a0 2).2 z0.1 (z0.2 (by decide))
  unfold YF
  generalize YD (ZH a0 2).2 = w at h0 ⊢
  generalize (ZH a0 2).1 = c
  have z := KT c 3
  have hw : W (1 + (ZH c 3).2) = 1 + (ZH c 3).2 := by simp only [X9]; omega
  have k := Uq hs 5 (W (1 + (ZH c 3).2)) (ZH c 3).1.b (ZH c 3).1.i (ZH c 3).1.h w.Frame.Zo w.Frame.ZC w.Frame.Methods w.Frame.X8 w.Frame.Now w.ZZ w.YQ w.ZB w.YZ w.YR w.Next w.YK (by rw [hw]; omega) (by rw [hw]; omega) (by decide) (sG h0)
  generalize qI 5 (W (1 + (ZH c 3).2)) (ZH c 3).1.b (ZH c 3).1.i (ZH c 3).1.h w.Frame.Zo w.Frame.ZC w.Frame.Methods w.Frame.X8 w.Frame.Now w.ZZ w.YQ w.ZB w.YZ w.YR w.Next w.YK = z at k ⊢
  obtain ⟨x1, x2, x3, x4, x5, x6, x7, x8, x9, x10, x11, x12, x13, x14, x15⟩ := z
  exact k
theorem y6 {n : Nat} {a0 : ZU} (h : 100 <= n) : Sm n (YF a0).2 := by
  obtain ⟨m, h1, h2, h3⟩ := VT (p := fun m w => m <= 5 /\ Sm (100 - 4 * m) w) (fun x _ _ => ⟨Nat.le_refl _, ki (by decide)⟩)
    (fun m w a b k t e c hp => ⟨by omega, Za (by omega) (Bo (a := a) (b := b) (k := k) (c := c) (t := t) (e := e) hp.2 (by omega))⟩) a0
  exact Za (by omega) h3
theorem Rx {n : Nat} {a0 : ZU} (h : 102 <= n) : Sm n (Xz a0).2 := by
  have k := y6 (a0 := a0) (Nat.le_refl 100)
  have k1 := fun t => y9 (a1 := t) k
  have k2 := fun t i j c => jX (a1 := i) (a2 := j) (a3 := (Zb c).2) (k1 t) (xW (by decide)) (by decide)
  have k3 := fun t i j c x s => Za (m := n) (by omega) (OQ (a1 := x) (a2 := s) (k2 t i j c))
  unfold Xz
  refine Zs (p := fun z : ZU × ZG => Sm n z.2) ?_ ?_
  · with_reducible exact k3 _ _ _ _ _ _
  · with_reducible exact Za (by omega) (k1 _)
theorem Ys {n : Nat} {a0 : List UInt8} (h : 102 <= n) : Sm n (ZA a0).1 := by
  have k := Rx (a0 := KN a0) h
  unfold ZA
  with_reducible exact k
theorem K9 {n : Nat} {a0 : List UInt8} (h : 102 <= n) : Sm n (ZE a0).1 := by
  have k := Rx (a0 := KN a0) h
  unfold ZE
  with_reducible exact k
theorem uR {a b : ZJ} (hl : a.ZD.length = b.ZD.length) (h : ∀ i, (nth a.ZD i).Id = (nth b.ZD i).Id) (x : Int) : Zm a x = Zm b x := by
  have key : ∀ n v, Qc a x n v = Qc b x n v := by
    intro n
    induction n with
    | zero => intro v; rfl
    | succ n ih => intro v; rw [Qc, Qc, hl, h, ih]
  unfold Zm
  rw [key, hl]
theorem tz {w z : ZG} {x : Int} (hl : w.ZB.length = z.ZB.length) (h : ∀ i, Zm (nth w.ZB i) x = Zm (nth z.ZB i) x) : ZF w x = ZF z x := by
  have key : ∀ n v, Jl w x n v = Jl z x n v := by
    intro n
    induction n with
    | zero => intro v; rfl
    | succ n ih => intro v; rw [Jl, Jl, hl, h, ih]
  unfold ZF
  rw [key, hl]
theorem wV {α β : Type} [Inhabited α] (g : α -> β) {l : List α} {k : Nat} {y : α} (h : g y = g (nth l k)) (i : Nat) : g (nth (l.set k y) i) = g (nth l i) := by
  simp only [nth, List.getD_eq_getElem?_getD, List.getElem?_set] at h ⊢
  by_cases e : k = i
  · subst e
    by_cases h2 : k < l.length
    · simp only [h2, if_true, Option.getD_some]; exact h
    · simp [h2]
  · simp [e]
theorem Wf (w : ZG) (id t : Int) : ZF (ZN w id t).1 id = ZF w id := by
  let P := fun r : ZG × Bool => ZF r.1 id = ZF w id
  show P (ZN w id t)
  unfold ZN
  refine Zs (p := P) rfl ?_
  obtain ⟨k1, _⟩ := ze (a0 := w) (a1 := id) (a2 := t) ((Zh w).length + 1) 0 []
  cases hh : Ya w id t ((Zh w).length + 1) 0 [] with
  | inl r => rw [k1 r hh]
  | inr z =>
    refine tz (List.length_set ..) (fun i => ?_)
    refine wV (fun a => Zm a id) ?_ i
    exact uR (List.length_set ..) (fun j => wV (fun x : Zj => x.Id) (by rfl) j) id
theorem Je {w : ZG} {id t : Int} (h : (ZN w id t).2 = true) : 0 <= (ZF (ZN w id t).1 id).1 /\ (ZF (ZN w id t).1 id).1.toNat < (ZN w id t).1.ZB.length /\ 0 <= (ZF (ZN w id t).1 id).2 /\ (ZF (ZN w id t).1 id).2.toNat < (nth (ZN w id t).1.ZB (ZF (ZN w id t).1 id).1.toNat).ZD.length := by
  have h0 : 0 <= (ZF (ZN w id t).1 id).1 := by
    rw [Wf]
    revert h
    unfold ZN
    refine Z7 (p := fun r : ZG × Bool => r.2 = true -> 0 <= (ZF w id).1) (fun _ h => by cases h) (fun hc _ => ?_)
    simp only [Bool.or_eq_false_iff, decide_eq_false_iff_not] at hc
    omega
  exact ⟨h0, QH _ _ h0⟩
theorem Yz {w : ZG} {id t : Int} (h : (Yj w id t).2 = true) : 0 <= (ZF w id).1 /\ (ZF w id).1.toNat < w.ZB.length /\ 0 <= (ZF w id).2 /\ (ZF w id).2.toNat < (nth w.ZB (ZF w id).1.toNat).ZD.length /\ (ZF w id).1.toNat < (Yj w id t).1.ZB.length /\ (ZF w id).2.toNat < (nth (Yj w id t).1.ZB (ZF w id).1.toNat).ZD.length := by
  have aY : ∀ (l : List ZJ) (k : Nat) (y : ZJ), y.ZD.length = (nth l k).ZD.length -> ∀ i, (nth (l.set k y) i).ZD.length = (nth l i).ZD.length := fun l k y h i => by
    simp only [nth, List.getD_eq_getElem?_getD, List.getElem?_set] at h ⊢
    by_cases e : k = i
    · subst e
      by_cases h2 : k < l.length
      · simp only [h2, if_true, Option.getD_some]; exact h
      · simp [h2]
    · simp [e]
  let P := fun r : ZG × Bool => r.1.ZB.length = w.ZB.length /\ ∀ i, (nth r.1.ZB i).ZD.length = (nth w.ZB i).ZD.length
  have hP : P (Yj w id t) := by
    unfold Yj Xe
    refine Zs (p := P) ⟨rfl, fun _ => rfl⟩ (Zs (p := P) ⟨rfl, fun _ => rfl⟩ ⟨List.length_set .., aY _ _ _ ?_⟩)
    exact Zs (p := fun r : ZJ × Bool => r.1.ZD.length = (nth w.ZB (Yd w id).1.toNat).ZD.length) rfl (List.length_set ..)
  have h0 : 0 <= (ZF w id).1 := by
    revert h
    unfold Yj Yd
    refine Z7 (p := fun r : ZG × Bool => r.2 = true -> 0 <= (ZF w id).1) (fun _ h => by cases h) (fun hc _ => ?_)
    simp only [Bool.or_eq_false_iff, Bool.not_eq_false'] at hc
    revert hc
    refine Z7 (p := fun r : Int × Int × Bool => r.2.2 = true /\ _ -> 0 <= (ZF w id).1) (fun _ h => by cases h.1) (fun hd _ => ?_)
    simp only [Bool.or_eq_false_iff, decide_eq_false_iff_not] at hd
    omega
  obtain ⟨k1, k2, k3⟩ := QH w id h0
  exact ⟨h0, k1, k2, k3, by rw [hP.1]; exact k1, by rw [hP.2]; exact k3⟩
theorem D7 {n : Nat} {f : ZW} {t : Int} (h : Sm n f) : Sm n (ZW.mk f.Zo f.ZC f.Methods f.X8 t) := h
end Go.Mo
