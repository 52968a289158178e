/- The models of the program and of the reference agree. No condition. -/
import Derived.Test.YtllfgbhplfhdkaaGreatL
namespace Go.Mo
open Go.Vm
set_option linter.unusedSimpArgs false
set_option linter.unusedVariables false
theorem cond_neg (x : Int) {α : Type} (a b : α) : (bif decide (x < 0) then a else b) = (bif decide (0 ≤ x) then b else a) := by
  by_cases h : x < 0
  · rw [show decide (x < 0) = true by simpa using h, show decide (0 ≤ x) = false by simpa using h]; rfl
  · rw [show decide (x < 0) = false by simpa using h, show decide (0 ≤ x) = true by simp; omega]; rfl
/-- a loop that looks whether one of the places is bad -/
theorem all_loop {L : Nat → Nat → Sum Bool Unit} {len : Nat} {c : Nat → Bool} (h0 : ∀ v, L 0 v = .inr ()) (hs : ∀ n v, L (n + 1) v = (bif decide ((v : Int) < (len : Int)) then (bif c v then .inl false else L n (v + 1)) else .inr ())) :
    ∀ n v, len < n + v → (L n v = .inr () ∧ ∀ i, v ≤ i → i < len → c i = false) ∨ (L n v = .inl false ∧ ∃ i, v ≤ i ∧ i < len ∧ c i = true)
  | 0, v, h => .inl ⟨h0 v, fun i h1 h2 => by omega⟩
  | n + 1, v, h => by
    rw [hs]
    by_cases hv : v < len
    · rw [show decide ((v : Int) < (len : Int)) = true by simpa using hv]
      cases hc : c v with
      | true => exact .inr ⟨rfl, v, Nat.le_refl _, hv, hc⟩
      | false =>
        rcases all_loop h0 hs n (v + 1) (by omega) with ⟨e, k⟩ | ⟨e, i, k1, k2, k3⟩
        · refine .inl ⟨e, fun i h1 h2 => ?_⟩
          rcases Nat.eq_or_lt_of_le h1 with rfl | h1
          · exact hc
          · exact k i h1 h2
        · exact .inr ⟨e, i, by omega, k2, k3⟩
    · rw [show decide ((v : Int) < (len : Int)) = false by simpa using hv]
      exact .inl ⟨rfl, fun i h1 h2 => by omega⟩
/-- a loop that looks for the first place -/
theorem find_loop {β : Type} {L : Nat → Nat → Sum β Unit} {len : Nat} {c : Nat → Bool} {r : Nat → β} (h0 : ∀ v, L 0 v = .inr ()) (hs : ∀ n v, L (n + 1) v = (bif decide ((v : Int) < (len : Int)) then (bif c v then .inl (r v) else L n (v + 1)) else .inr ())) :
    ∀ n v, len < n + v → (L n v = .inr () ∧ ∀ i, v ≤ i → i < len → c i = false) ∨ (∃ i, L n v = .inl (r i) ∧ v ≤ i ∧ i < len ∧ c i = true ∧ ∀ k, v ≤ k → k < i → c k = false)
  | 0, v, h => .inl ⟨h0 v, fun i h1 h2 => by omega⟩
  | n + 1, v, h => by
    rw [hs]
    by_cases hv : v < len
    · rw [show decide ((v : Int) < (len : Int)) = true by simpa using hv]
      cases hc : c v with
      | true => exact .inr ⟨v, rfl, Nat.le_refl _, hv, hc, fun k h1 h2 => by omega⟩
      | false =>
        rcases find_loop h0 hs n (v + 1) (by omega) with ⟨e, k⟩ | ⟨i, e, k1, k2, k3, k4⟩
        · refine .inl ⟨e, fun i h1 h2 => ?_⟩
          rcases Nat.eq_or_lt_of_le h1 with rfl | h1
          · exact hc
          · exact k i h1 h2
        · refine .inr ⟨i, e, by omega, k2, k3, fun k h1 h2 => ?_⟩
          rcases Nat.eq_or_lt_of_le h1 with rfl | h1
          · exact hc
          · exact k4 k h1 h2
    · rw [show decide ((v : Int) < (len : Int)) = false by simpa using hv]
      exact .inl ⟨rfl, fun i h1 h2 => by omega⟩
/-- the same, as a Boolean -/
theorem all_match {L : Nat → Nat → Sum Bool Unit} {len : Nat} {c : Nat → Bool} (h0 : ∀ v, L 0 v = .inr ()) (hs : ∀ n v, L (n + 1) v = (bif decide ((v : Int) < (len : Int)) then (bif c v then .inl false else L n (v + 1)) else .inr ())) (n v : Nat) (h : len < n + v) (X : Bool) :
    (match L n v with | .inl r => r | .inr _ => X) = true ↔ (∀ i, v ≤ i → i < len → c i = false) ∧ X = true := by
  rcases all_loop h0 hs n v h with ⟨e, k⟩ | ⟨e, i, k1, k2, k3⟩
  · rw [e]; simp only; exact ⟨fun hx => ⟨k, hx⟩, fun hx => hx.2⟩
  · rw [e]; simp only
    constructor
    · intro hx; cases hx
    · intro hx; rw [hx.1 i k1 k2] at k3; cases k3
theorem any_match {L : Nat → Nat → Sum Bool Unit} {len : Nat} {c : Nat → Bool} (h0 : ∀ v, L 0 v = .inr ()) (hs : ∀ n v, L (n + 1) v = (bif decide ((v : Int) < (len : Int)) then (bif c v then .inl true else L n (v + 1)) else .inr ())) (n v : Nat) (h : len < n + v) :
    (match L n v with | .inl r => r | .inr _ => false) = true ↔ ∃ i, v ≤ i ∧ i < len ∧ c i = true := by
  rcases find_loop (r := fun _ => true) h0 hs n v h with ⟨e, k⟩ | ⟨i, e, k1, k2, k3, k4⟩
  · rw [e]; simp only
    constructor
    · intro hx; cases hx
    · rintro ⟨i, h1, h2, h3⟩; rw [k i h1 h2] at h3; cases h3
  · rw [e]; exact ⟨fun _ => ⟨i, k1, k2, k3⟩, fun _ => rfl⟩
theorem nth_take {α : Type} [Inhabited α] {l : List α} {i n : Nat} (h : i < n) : nth (l.take n) i = nth l i := by
  unfold nth; simp [List.getD_eq_getElem?_getD, List.getElem?_take, h]
theorem i_hasInt_iff (a0 : List Int) (a1 : Int) : i_hasInt a0 a1 = true ↔ ∃ i, 0 ≤ i ∧ i < a0.length ∧ (nth a0 i == a1) = true := by
  unfold i_hasInt i_indexOf
  rcases find_loop (L := i_indexOf_1 a0 a1) (r := fun i => (i : Int)) (fun _ => rfl) (fun _ _ => rfl) (a0.length + 1) 0 (by omega) with ⟨e, p⟩ | ⟨i, e, p1, p2, p3, p4⟩
  · rw [e]
    constructor
    · intro h; simp at h
    · rintro ⟨i, h1, h2, h3⟩; have := p i h1 h2; rw [h3] at this; cases this
  · rw [e]
    exact ⟨fun _ => ⟨i, p1, p2, p3⟩, fun _ => by simp⟩
@[simp] theorem s_l7Has_eq (a0 : List Int) (a1 : Int) : s_l7Has a0 a1 = i_hasInt a0 a1 := by
  rw [Bool.eq_iff_iff, i_hasInt_iff]
  exact any_match (L := s_l7Has_1 a0 a1) (fun _ => rfl) (fun _ _ => rfl) (a0.length + 1) 0 (by omega)

@[simp] theorem s_FindKey_1_eq (a0 : List TKey) (a1 : Int) : ∀ (n : Nat) (v0 : Nat), s_FindKey_1 a0 a1 n v0 = i_FindKey_1 a0 a1 n v0 := by
  intro n
  induction n with
  | zero => intros; rfl
  | succ n ih => intros; simp [s_FindKey_1, i_FindKey_1, ih, ByteArray.append_assoc]
@[simp] theorem s_FindKey_eq (a0 : List TKey) (a1 : Int) : s_FindKey a0 a1 = i_FindKey a0 a1 := by simp [s_FindKey, i_FindKey]
@[simp] theorem s_FindMethod_1_eq (a0 : List TMethod) (a1 : Int) : ∀ (n : Nat) (v0 : Nat), s_FindMethod_1 a0 a1 n v0 = i_FindMethod_1 a0 a1 n v0 := by
  intro n
  induction n with
  | zero => intros; rfl
  | succ n ih => intros; simp [s_FindMethod_1, i_FindMethod_1, ih, ByteArray.append_assoc]
@[simp] theorem s_FindMethod_eq (a0 : List TMethod) (a1 : Int) : s_FindMethod a0 a1 = i_FindMethod a0 a1 := by simp [s_FindMethod, i_FindMethod]
@[simp] theorem s_BreakOf_eq (a0 : List TMethod) (a1 : Int) : s_BreakOf a0 a1 = i_BreakOf a0 a1 := by
  unfold s_BreakOf i_BreakOf; rw [cond_neg]; simp

@[simp] theorem s_IsStolen_eq (a0 : TFrame) (a1 : Int) : s_IsStolen a0 a1 = i_IsStolen a0 a1 := by
  unfold s_IsStolen i_IsStolen i_breakOfKey
  by_cases h : i_FindKey a0.Keys a1 < 0
  · have : ¬ 0 ≤ i_FindKey a0.Keys a1 := by omega
    simp [this]
  · simp [h]

@[simp] theorem s_FalseAuthorities_1_eq (a0 : TWorld) : ∀ (n : Nat) (v0 : List Int) (v1 : Nat), s_FalseAuthorities_1 a0 n v0 v1 = i_FalseAuthorities_1 a0 n v0 v1 := by
  intro n
  induction n with
  | zero => intros; rfl
  | succ n ih => intros; simp [s_FalseAuthorities_1, i_FalseAuthorities_1, ih, ByteArray.append_assoc]
@[simp] theorem s_FalseAuthorities_eq (a0 : TWorld) : s_FalseAuthorities a0 = i_FalseAuthorities a0 := by simp [s_FalseAuthorities, i_FalseAuthorities]
theorem i_FalseAuthorities_cn (a0 : TWorld) (h : cn a0 ≤ 33554464) : cn (i_FalseAuthorities a0) ≤ 1152921504606846976 := by
  have e := filt_len (F := i_FalseAuthorities_1 a0) (fun _ _ => rfl) (fun _ _ _ => rfl) (a0.Frame.Authorities.length + 1) [] 0
  have k := cnL_ge (c := (cn : TAuthority → Nat)) (fun _ => Nat.le_of_ble_eq_true rfl) a0.Frame.Authorities
  rw [cn_ints]
  simp only [TWorld.cn_eq, TFrame.cn_eq, cn_list] at h
  have : (i_FalseAuthorities a0).length ≤ 0 + (a0.Frame.Authorities.length - 0) := e
  omega

@[simp] theorem s_l1In_eq (a0 a1 a2 : Int) : s_l1In a0 a1 a2 = i_InRange a0 a1 a2 := rfl

@[simp] theorem s_StepRevoke_eq (a0 : TWorld) (a1 : Int) : s_StepRevoke a0 a1 = i_StepRevoke a0 a1 := by simp [s_StepRevoke, i_StepRevoke]
theorem i_StepRevoke_cn (a0 : TWorld) (a1 : Int) (h : cn a0 ≤ 33554464) : cn (i_StepRevoke a0 a1).1 ≤ 1152921504606846976 := by
  have e : cn (i_StepRevoke a0 a1).1 = cn a0 := cond_cases (p := fun (r : TWorld × Bool) => cn r.1 = cn a0) rfl (by simp [TWorld.cn_eq, cn_int, cn_ints])
  omega

@[simp] theorem s_StepTick_eq (a0 : TWorld) (a1 : Int) : s_StepTick a0 a1 = i_StepTick a0 a1 := by simp [s_StepTick, i_StepTick]
theorem i_StepTick_cn (a0 : TWorld) (a1 : Int) (h : cn a0 ≤ 33554464) : cn (i_StepTick a0 a1).1 ≤ 1152921504606846976 := by
  have e : cn (i_StepTick a0 a1).1 = cn a0 := cond_cases (p := fun (r : TWorld × Bool) => cn r.1 = cn a0) rfl rfl
  omega

end Go.Mo
