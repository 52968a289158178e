/- The plain law of FnWorlds: what is found has the number, a new world is valid, worlds are equal both ways. No condition. -/
import Derived.Test.YtgkcgbmbdaapcaaGreatL
namespace Go.Mo
open Go.Vm
set_option linter.unusedSimpArgs false
set_option linter.unusedVariables false
/-- a loop that looks whether one of the places is bad -/
theorem xh {L : Nat -> Nat -> Sum Bool Unit} {len : Nat} {c : Nat -> Bool} (h0 : ∀ v, L 0 v = .inr ()) (hs : ∀ n v, L (n + 1) v = (bif decide ((v : Int) < (len : Int)) then (bif c v then .inl false else L n (v + 1)) else .inr ())) :
    ∀ n v, len < n + v -> (L n v = .inr () /\ ∀ i, v <= i -> i < len -> c i = false) \/ (L n v = .inl false /\ ∃ i, v <= i /\ i < len /\ c i = true)
  | 0, v, h => .inl ⟨h0 v, fun i h1 h2 => by omega⟩
  | n + 1, v, h => by
    rw [hs]
    by_cases hv : v < len
    · rw [show decide ((v : Int) < (len : Int)) = true by simpa using hv]
      cases hc : c v with
      | true => exact .inr ⟨rfl, v, Nat.le_refl _, hv, hc⟩
      | false =>
        rcases xh h0 hs n (v + 1) (by omega) with ⟨e, k⟩ | ⟨e, i, k1, k2, k3⟩
        · refine .inl ⟨e, fun i h1 h2 => ?_⟩
          rcases Nat.eq_or_lt_of_le h1 with rfl | h1
          · exact hc
          · exact k i h1 h2
        · exact .inr ⟨e, i, by omega, k2, k3⟩
    · rw [show decide ((v : Int) < (len : Int)) = false by simpa using hv]
      exact .inl ⟨rfl, fun i h1 h2 => by omega⟩
/-- a loop that looks for the first place -/
theorem y0 {β : Type} {L : Nat -> Nat -> Sum β Unit} {len : Nat} {c : Nat -> Bool} {r : Nat -> β} (h0 : ∀ v, L 0 v = .inr ()) (hs : ∀ n v, L (n + 1) v = (bif decide ((v : Int) < (len : Int)) then (bif c v then .inl (r v) else L n (v + 1)) else .inr ())) :
    ∀ n v, len < n + v -> (L n v = .inr () /\ ∀ i, v <= i -> i < len -> c i = false) \/ (∃ i, L n v = .inl (r i) /\ v <= i /\ i < len /\ c i = true /\ ∀ k, v <= k -> k < i -> c k = false)
  | 0, v, h => .inl ⟨h0 v, fun i h1 h2 => by omega⟩
  | n + 1, v, h => by
    rw [hs]
    by_cases hv : v < len
    · rw [show decide ((v : Int) < (len : Int)) = true by simpa using hv]
      cases hc : c v with
      | true => exact .inr ⟨v, rfl, Nat.le_refl _, hv, hc, fun k h1 h2 => by omega⟩
      | false =>
        rcases y0 h0 hs n (v + 1) (by omega) with ⟨e, k⟩ | ⟨i, e, k1, k2, k3, k4⟩
        · refine .inl ⟨e, fun i h1 h2 => ?_⟩
          rcases Nat.eq_or_lt_of_le h1 with rfl | h1
          · exact hc
          · exact k i h1 h2
        · refine .inr ⟨i, e, by omega, k2, k3, fun k h1 h2 => ?_⟩
          rcases Nat.eq_or_lt_of_le h1 with rfl | h1
          · exact hc
          · exact k4 k h1 h2
    · rw [show decide ((v : Int) < (len : Int)) = false by simpa using hv]
      exact .inl ⟨rfl, fun i h1 h2 => by omega⟩
/-- the same, as a Boolean -/
theorem U1 {L : Nat -> Nat -> Sum Bool Unit} {len : Nat} {c : Nat -> Bool} (h0 : ∀ v, L 0 v = .inr ()) (hs : ∀ n v, L (n + 1) v = (bif decide ((v : Int) < (len : Int)) then (bif c v then .inl false else L n (v + 1)) else .inr ())) (n v : Nat) (h : len < n + v) (X : Bool) :
    (match L n v with | .inl r => r | .inr _ => X) = true ↔ (∀ i, v <= i -> i < len -> c i = false) /\ X = true := by
  rcases xh h0 hs n v h with ⟨e, k⟩ | ⟨e, i, k1, k2, k3⟩
  · rw [e]; simp only; exact ⟨fun hx => ⟨k, hx⟩, fun hx => hx.2⟩
  · rw [e]; simp only
    constructor
    · intro hx; cases hx
    · intro hx; rw [hx.1 i k1 k2] at k3; cases k3
theorem Pw {L : Nat -> Nat -> Sum Bool Unit} {len : Nat} {c : Nat -> Bool} (h0 : ∀ v, L 0 v = .inr ()) (hs : ∀ n v, L (n + 1) v = (bif decide ((v : Int) < (len : Int)) then (bif c v then .inl true else L n (v + 1)) else .inr ())) (n v : Nat) (h : len < n + v) :
    (match L n v with | .inl r => r | .inr _ => false) = true ↔ ∃ i, v <= i /\ i < len /\ c i = true := by
  rcases y0 (r := fun _ => true) h0 hs n v h with ⟨e, k⟩ | ⟨i, e, k1, k2, k3, k4⟩
  · rw [e]; simp only
    constructor
    · intro hx; cases hx
    · rintro ⟨i, h1, h2, h3⟩; rw [k i h1 h2] at h3; cases h3
  · rw [e]; exact ⟨fun _ => ⟨i, k1, k2, k3⟩, fun _ => rfl⟩
@[simp] theorem WB (a0 a1 : List Int) : QL a0 a1 = decide (a0 = a1) := Ln (F := zt a0 a1) (c := fun i => (nth a0 i) != (nth a1 i)) (fun i => by simp [bne, Bool.beq_eq_decide_eq]) (fun _ => rfl) (fun _ _ => rfl)
@[simp] theorem UT (a0 a1 : List ByteArray) : K9 a0 a1 = decide (a0 = a1) := Ln (F := KF a0 a1) (c := fun i => !decide ((nth a0 i) = (nth a1 i))) (fun i => rfl) (fun _ => rfl) (fun _ _ => rfl)
theorem qG {α : Type} [DecidableEq α] (a b : α) : (a == b) = decide (a = b) := by by_cases h : a = b <;> simp [h]
@[simp] theorem Wj (a0 a1 : ZV) : Qm a0 a1 = decide (a0 = a1) := by
  cases a0; cases a1; simp [Qm, qG, Bool.and_assoc]
@[simp] theorem TG (a0 a1 : ZS) : Xt a0 a1 = decide (a0 = a1) := by
  obtain ⟨t, p, s⟩ := a0; obtain ⟨t', p', s'⟩ := a1
  by_cases h1 : t = t' <;> by_cases h2 : p = p' <;> by_cases h3 : s = s' <;> simp_all [Xt]
theorem Lx (x y : Zf) : ((x.Authority == y.Authority) && ((x.Seq == y.Seq) && ((x.Time == y.Time) && ((x.Yn == y.Yn) && (x.Mark == y.Mark))))) = decide (x = y) := by
  cases x; cases y; simp [qG]
theorem Ip (x y : Ya) : ((x.Yn == y.Yn) && (x.Left == y.Left)) = decide (x = y) := by
  cases x; cases y; simp [qG]
@[simp] theorem Uv (a0 a1 : List Zf) : zw a0 a1 = decide (a0 = a1) := Ln (F := Kc a0 a1) (c := fun i => !((nth a0 i).Authority == (nth a1 i).Authority && ((nth a0 i).Seq == (nth a1 i).Seq && ((nth a0 i).Time == (nth a1 i).Time && ((nth a0 i).Yn == (nth a1 i).Yn && (nth a0 i).Mark == (nth a1 i).Mark))))) (fun i => by rw [Lx]) (fun _ => rfl) (fun _ _ => rfl)
theorem WH {α : Type} {a b : List α} (h : ¬ a.length = b.length) : ((a.length : Int) != (b.length : Int)) = true := by simp; omega
@[simp] theorem VS (a0 a1 : ZM) : QE a0 a1 = decide (a0 = a1) := by
  unfold QE
  by_cases hl : a0.Path.length = a1.Path.length
  · rw [yk (F := JS a0 a1) (a := a0.Path) (b := a1.Path) (c := fun i => !((nth a0.Path i).Yn == (nth a1.Path i).Yn && (nth a0.Path i).Left == (nth a1.Path i).Left)) hl (fun i => by rw [Ip]) (fun _ => rfl) (fun _ _ => rfl)]
    obtain ⟨t, p, s, u, v⟩ := a0; obtain ⟨t', p', s', u', v'⟩ := a1
    by_cases h1 : t = t' <;> by_cases h2 : p = p' <;> by_cases h3 : s = s' <;> by_cases h4 : u = u' <;> simp_all
  · have : a0 ≠ a1 := fun h => hl (by rw [h])
    simp [this, WH hl]
@[simp] theorem ke (a0 a1 : List ZS) : JU a0 a1 = decide (a0 = a1) := Ln (F := Qd a0 a1) (c := fun i => !Xt (nth a0 i) (nth a1 i)) (fun i => by simp) (fun _ => rfl) (fun _ _ => rfl)
@[simp] theorem Ue (a0 a1 : ZO) : Js a0 a1 = decide (a0 = a1) := by
  unfold Js
  by_cases hl : a0.ZN.length = a1.ZN.length
  · rw [yk (F := J2 a0 a1) (a := a0.ZN) (b := a1.ZN) (c := fun i => !QE (nth a0.ZN i) (nth a1.ZN i)) hl (fun i => by simp) (fun _ => rfl) (fun _ _ => rfl)]
    obtain ⟨t, p⟩ := a0; obtain ⟨t', p'⟩ := a1
    by_cases h1 : t = t' <;> by_cases h2 : p = p' <;> simp_all
  · have : a0 ≠ a1 := fun h => hl (by rw [h])
    simp [this, WH hl]
theorem H2 (x y : Zk) : ((x.Key == y.Key) && ((x.Z9 == y.Z9) && ((x.Method == y.Method) && ((x.Yn == y.Yn) && ((x.ye == y.ye) && ((x.Org == y.Org) && ((x.yd == y.yd) && ((x.jn == y.jn) && (x.Mark == y.Mark))))))))) = decide (x = y) := by
  cases x; cases y; simp [qG]
@[simp] theorem Tx (a0 a1 : Za) : KH a0 a1 = decide (a0 = a1) := by
  unfold KH
  rw [H2]
  obtain ⟨t, p, s, u, v⟩ := a0; obtain ⟨t', p', s', u', v'⟩ := a1
  by_cases h1 : t = t' <;> by_cases h2 : p = p' <;> by_cases h3 : s = s' <;> by_cases h4 : u = u' <;> simp_all
@[simp] theorem VI (a0 a1 : ZH) : QD a0 a1 = decide (a0 = a1) := by
  unfold QD
  by_cases hl : a0.ZK.length = a1.ZK.length
  · rw [yk (F := JW a0 a1) (a := a0.ZK) (b := a1.ZK) (c := fun i => !KH (nth a0.ZK i) (nth a1.ZK i)) hl (fun i => by simp) (fun _ => rfl) (fun _ _ => rfl)]
    obtain ⟨t, p⟩ := a0; obtain ⟨t', p'⟩ := a1
    by_cases h1 : t = t' <;> by_cases h2 : p = p' <;> simp_all
  · have : a0 ≠ a1 := fun h => hl (by rw [h])
    simp [this, WH hl]
theorem GI (x y : Z3) : ((x.Number == y.Number) && ((x.Xn == y.Xn) && ((x.Method == y.Method) && ((x.jw == y.jw) && (x.Qe == y.Qe))))) = decide (x = y) := by
  cases x; cases y; simp [qG]
theorem HW (x y : ZJ) : ((x.Id == y.Id) && ((x.Key == y.Key) && (x.Error == y.Error))) = decide (x = y) := by
  cases x; cases y; simp [qG]
theorem Is (x y : Zj) : ((x.Id == y.Id) && ((x.yF == y.yF) && ((x.Ends == y.Ends) && (x.Ju == y.Ju)))) = decide (x = y) := by
  cases x; cases y; simp [qG]
theorem He (x y : Z1) : ((x.Z9 == y.Z9) && ((x.Key == y.Key) && ((x.Xn == y.Xn) && ((x.Jz == y.Jz) && ((x.To == y.To) && ((x.YI == y.YI) && (x.Mark == y.Mark))))))) = decide (x = y) := by
  cases x; cases y; simp [qG]
@[simp] theorem qp (a0 a1 : ZY) : KM a0 a1 = decide (a0 = a1) := by
  unfold KM
  by_cases h1 : a0.YE.length = a1.YE.length
  · by_cases h2 : a0.ZF.length = a1.ZF.length
    · by_cases h3 : a0.Methods.length = a1.Methods.length
      · rw [yk (F := Kh a0 a1) (a := a0.YE) (b := a1.YE) (c := fun i => _) h1 (fun i => congrArg (! ·) (GI (nth a0.YE i) (nth a1.YE i))) (fun _ => rfl) (fun _ _ => rfl),
          yk (F := Kd a0 a1) (a := a0.ZF) (b := a1.ZF) (c := fun i => _) h2 (fun i => congrArg (! ·) (HW (nth a0.ZF i) (nth a1.ZF i))) (fun _ => rfl) (fun _ _ => rfl),
          yk (F := KX a0 a1) (a := a0.Methods) (b := a1.Methods) (c := fun i => _) h3 (fun i => congrArg (! ·) (Is (nth a0.Methods i) (nth a1.Methods i))) (fun _ => rfl) (fun _ _ => rfl)]
        obtain ⟨t, p, s, u, v⟩ := a0; obtain ⟨t', p', s', u', v'⟩ := a1
        by_cases h4 : t = t' <;> by_cases h5 : p = p' <;> by_cases h6 : s = s' <;> by_cases h7 : u = u' <;> by_cases h8 : v = v' <;> simp_all
      · have : a0 ≠ a1 := fun h => h3 (by rw [h])
        simp [this, WH h3]
    · have : a0 ≠ a1 := fun h => h2 (by rw [h])
      simp [this, WH h2]
  · have : a0 ≠ a1 := fun h => h1 (by rw [h])
    simp [this, WH h1]
@[simp] theorem KC (a0 a1 : Zw) : XO a0 a1 = decide (a0 = a1) := by
  unfold XO
  by_cases h1 : a0.YV.length = a1.YV.length
  · by_cases h2 : a0.ZL.length = a1.ZL.length
    · rw [yk (F := Ke a0 a1) (a := a0.YV) (b := a1.YV) (c := fun i => _) h1 (fun i => congrArg (! ·) (He (nth a0.YV i) (nth a1.YV i))) (fun _ => rfl) (fun _ _ => rfl),
        yk (F := Kb a0 a1) (a := a0.ZL) (b := a1.ZL) (c := fun i => !QD (nth a0.ZL i) (nth a1.ZL i)) h2 (fun i => by simp) (fun _ => rfl) (fun _ _ => rfl)]
      simp only [qp, WB]
      obtain ⟨f, c, e, a, s, l, n, g⟩ := a0; obtain ⟨f', c', e', a', s', l', n', g'⟩ := a1
      by_cases q1 : f = f'
      · by_cases q2 : c = c'
        · by_cases q3 : e = e'
          · by_cases q4 : a = a' <;> by_cases q5 : s = s' <;> by_cases q6 : l = l' <;> by_cases q7 : n = n' <;> by_cases q8 : g = g' <;> simp_all
          · simp_all
        · simp_all
      · simp_all
    · have : a0 ≠ a1 := fun h => h2 (by rw [h])
      simp [this, WH h2]
  · have : a0 ≠ a1 := fun h => h1 (by rw [h])
    simp [this, WH h1]
theorem S6 (a : ZH) (x : Int) (h : 0 <= QT a x) : (nth a.ZK (QT a x).toNat).Id = x := by
  have key : ∀ n v r, Qu a x n v = .inl r -> (nth a.ZK r.toNat).Id = x := by
    intro n
    induction n with
    | zero => intro v r h; cases h
    | succ n ih =>
      intro v r h
      rw [Qu] at h
      cases h1 : decide ((v : Int) < (a.ZK.length : Int)) with
      | false => rw [h1] at h; cases h
      | true =>
        rw [h1] at h
        simp only [cond_true] at h
        cases h2 : ((nth a.ZK v).Id == x) with
        | false => rw [h2] at h; exact ih _ _ h
        | true => rw [h2] at h; cases h; simpa using h2
  unfold QT at h ⊢
  cases hh : Qu a x (a.ZK.length + 1) 0 with
  | inl r => exact key _ _ r hh
  | inr u => rw [hh] at h; simp at h
theorem NI (w : Zw) (x : Int) (h : 0 <= (Yx w x).1) : (nth (nth w.ZL (Yx w x).1.toNat).ZK (Yx w x).2.toNat).Id = x := by
  have key : ∀ n v r, Qz w x n v = .inl r -> (nth (nth w.ZL r.1.toNat).ZK r.2.toNat).Id = x := by
    intro n
    induction n with
    | zero => intro v r h; cases h
    | succ n ih =>
      intro v r h
      rw [Qz] at h
      cases h1 : decide ((v : Int) < (w.ZL.length : Int)) with
      | false => rw [h1] at h; cases h
      | true =>
        rw [h1] at h
        simp only [cond_true] at h
        cases h2 : decide (QT (nth w.ZL v) x >= 0) with
        | false => rw [h2] at h; exact ih _ _ h
        | true =>
          rw [h2] at h; cases h
          simp only [Int.toNat_natCast]
          exact S6 _ _ (by simpa using h2)
  unfold Yx at h ⊢
  cases hh : Qz w x (w.ZL.length + 1) 0 with
  | inl r => exact key _ _ r hh
  | inr u => rw [hh] at h; simp at h
theorem On (n : Int) : Yb n = Yb 0 \/ Yb n = Yb 1 := by
  by_cases h : n < 1
  · left
    have e : (if (if n < 1 then n else 1) > 0 then (if n < 1 then n else 1) else 0) = 0 := by rw [if_pos h]; split <;> omega
    unfold Yb
    rw [e]
    rfl
  · right
    have e : (if (if n < 1 then n else 1) > 0 then (if n < 1 then n else 1) else 0) = 1 := by rw [if_neg h]; rfl
    unfold Yb
    rw [e]
    rfl
theorem Nm (n : Int) : WT (Yb n) = true := by
  rcases On n with h | h <;> rw [h] <;> decide +kernel
theorem T4 (a0 : List UInt8) : xF a0 = true := by
  unfold xF
  cases Ti a0 with
  | true => rfl
  | false =>
    have h1 : ((decide ((Yx (Zg a0).1 (Zg a0).2).1 >= 0)) && ((nth (nth (Zg a0).1.ZL (Yx (Zg a0).1 (Zg a0).2).1.toNat).ZK (Yx (Zg a0).1 (Zg a0).2).2.toNat).Id != (Zg a0).2)) = false := by
      by_cases h : 0 <= (Yx (Zg a0).1 (Zg a0).2).1
      · have := NI _ _ h
        simp [this]
      · simp only [Bool.and_eq_false_iff, decide_eq_false_iff_not]; exact .inl h
    have h2 : JN Ye = true := by decide +kernel
    have h3 : zL YT = true := by decide +kernel
    have h4 : ∀ x y : Zw, (XO x y == XO y x) = true := fun x y => by
      rw [KC, KC]
      by_cases h : x = y
      · rw [h]; simp
      · have : ¬ y = x := fun e => h e.symm
        simp [h, this]
    have h5 : ∀ x : Zw, XO x x = true := fun x => by rw [KC]; simp
    rw [h1]
    simp only [cond_false, Nm, h2, h3, h4, h5]
    rfl
end Go.Mo
