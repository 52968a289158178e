/- The models of the program and of the reference agree. No condition. -/
import Derived.Test.YtdbglcndfmdlfaaGreatL
namespace Go.Mo
open Go.Vm
set_option linter.unusedSimpArgs false
set_option linter.unusedVariables false
theorem cond_neg (x : Int) {α : Type} (a b : α) : (bif decide (x < 0) then a else b) = (bif decide (0 ≤ x) then b else a) := by
  by_cases h : x < 0
  · rw [show decide (x < 0) = true by simpa using h, show decide (0 ≤ x) = false by simpa using h]; rfl
  · rw [show decide (x < 0) = false by simpa using h, show decide (0 ≤ x) = true by simp; omega]; rfl
/-- a loop that looks whether one of the places is bad -/
theorem all_loop {L : Nat → Nat → Sum Bool Unit} {len : Nat} {c : Nat → Bool} (h0 : ∀ v, L 0 v = .inr ()) (hs : ∀ n v, L (n + 1) v = (bif decide ((v : Int) < (len : Int)) then (bif c v then .inl false else L n (v + 1)) else .inr ())) :
    ∀ n v, len < n + v → (L n v = .inr () ∧ ∀ i, v ≤ i → i < len → c i = false) ∨ (L n v = .inl false ∧ ∃ i, v ≤ i ∧ i < len ∧ c i = true)
  | 0, v, h => .inl ⟨h0 v, fun i h1 h2 => by omega⟩
  | n + 1, v, h => by
    rw [hs]
    by_cases hv : v < len
    · rw [show decide ((v : Int) < (len : Int)) = true by simpa using hv]
      cases hc : c v with
      | true => exact .inr ⟨rfl, v, Nat.le_refl _, hv, hc⟩
      | false =>
        rcases all_loop h0 hs n (v + 1) (by omega) with ⟨e, k⟩ | ⟨e, i, k1, k2, k3⟩
        · refine .inl ⟨e, fun i h1 h2 => ?_⟩
          rcases Nat.eq_or_lt_of_le h1 with rfl | h1
          · exact hc
          · exact k i h1 h2
        · exact .inr ⟨e, i, by omega, k2, k3⟩
    · rw [show decide ((v : Int) < (len : Int)) = false by simpa using hv]
      exact .inl ⟨rfl, fun i h1 h2 => by omega⟩
/-- a loop that looks for the first place -/
theorem find_loop {β : Type} {L : Nat → Nat → Sum β Unit} {len : Nat} {c : Nat → Bool} {r : Nat → β} (h0 : ∀ v, L 0 v = .inr ()) (hs : ∀ n v, L (n + 1) v = (bif decide ((v : Int) < (len : Int)) then (bif c v then .inl (r v) else L n (v + 1)) else .inr ())) :
    ∀ n v, len < n + v → (L n v = .inr () ∧ ∀ i, v ≤ i → i < len → c i = false) ∨ (∃ i, L n v = .inl (r i) ∧ v ≤ i ∧ i < len ∧ c i = true ∧ ∀ k, v ≤ k → k < i → c k = false)
  | 0, v, h => .inl ⟨h0 v, fun i h1 h2 => by omega⟩
  | n + 1, v, h => by
    rw [hs]
    by_cases hv : v < len
    · rw [show decide ((v : Int) < (len : Int)) = true by simpa using hv]
      cases hc : c v with
      | true => exact .inr ⟨v, rfl, Nat.le_refl _, hv, hc, fun k h1 h2 => by omega⟩
      | false =>
        rcases find_loop h0 hs n (v + 1) (by omega) with ⟨e, k⟩ | ⟨i, e, k1, k2, k3, k4⟩
        · refine .inl ⟨e, fun i h1 h2 => ?_⟩
          rcases Nat.eq_or_lt_of_le h1 with rfl | h1
          · exact hc
          · exact k i h1 h2
        · refine .inr ⟨i, e, by omega, k2, k3, fun k h1 h2 => ?_⟩
          rcases Nat.eq_or_lt_of_le h1 with rfl | h1
          · exact hc
          · exact k4 k h1 h2
    · rw [show decide ((v : Int) < (len : Int)) = false by simpa using hv]
      exact .inl ⟨rfl, fun i h1 h2 => by omega⟩
/-- the same, as a Boolean -/
theorem all_match {L : Nat → Nat → Sum Bool Unit} {len : Nat} {c : Nat → Bool} (h0 : ∀ v, L 0 v = .inr ()) (hs : ∀ n v, L (n + 1) v = (bif decide ((v : Int) < (len : Int)) then (bif c v then .inl false else L n (v + 1)) else .inr ())) (n v : Nat) (h : len < n + v) (X : Bool) :
    (match L n v with | .inl r => r | .inr _ => X) = true ↔ (∀ i, v ≤ i → i < len → c i = false) ∧ X = true := by
  rcases all_loop h0 hs n v h with ⟨e, k⟩ | ⟨e, i, k1, k2, k3⟩
  · rw [e]; simp only; exact ⟨fun hx => ⟨k, hx⟩, fun hx => hx.2⟩
  · rw [e]; simp only
    constructor
    · intro hx; cases hx
    · intro hx; rw [hx.1 i k1 k2] at k3; cases k3
theorem any_match {L : Nat → Nat → Sum Bool Unit} {len : Nat} {c : Nat → Bool} (h0 : ∀ v, L 0 v = .inr ()) (hs : ∀ n v, L (n + 1) v = (bif decide ((v : Int) < (len : Int)) then (bif c v then .inl true else L n (v + 1)) else .inr ())) (n v : Nat) (h : len < n + v) :
    (match L n v with | .inl r => r | .inr _ => false) = true ↔ ∃ i, v ≤ i ∧ i < len ∧ c i = true := by
  rcases find_loop (r := fun _ => true) h0 hs n v h with ⟨e, k⟩ | ⟨i, e, k1, k2, k3, k4⟩
  · rw [e]; simp only
    constructor
    · intro hx; cases hx
    · rintro ⟨i, h1, h2, h3⟩; rw [k i h1 h2] at h3; cases h3
  · rw [e]; exact ⟨fun _ => ⟨i, k1, k2, k3⟩, fun _ => rfl⟩
theorem nth_take {α : Type} [Inhabited α] {l : List α} {i n : Nat} (h : i < n) : nth (l.take n) i = nth l i := by
  unfold nth; simp [List.getD_eq_getElem?_getD, List.getElem?_take, h]
theorem st2 (a0 : TEvidence) (v : Nat) : ∀ n l i, s_StampsOf_2 a0 v n l i = i_StampsOf_2 a0 v n i l
  | 0, _, _ => rfl
  | n + 1, l, i => by simp only [s_StampsOf_2, i_StampsOf_2, l27, st2 a0 v n]
theorem st1 (a0 : TEvidence) : ∀ n l i, s_StampsOf_1 a0 n l i = i_StampsOf_1 a0 n i l
  | 0, _, _ => rfl
  | n + 1, l, i => by simp only [s_StampsOf_1, i_StampsOf_1, st2, st1 a0 n]
theorem st3 (a0 : TEvidence) : ∀ n l i, s_StampsOf_3 a0 n l i = i_StampsOf_3 a0 n i l
  | 0, _, _ => rfl
  | n + 1, l, i => by simp only [s_StampsOf_3, i_StampsOf_3, l27, st3 a0 n]
@[simp] theorem s_StampsOf_eq (a0 : TEvidence) : s_StampsOf a0 = i_StampsOf a0 := by simp only [s_StampsOf, i_StampsOf, st1, st3]
theorem s_StampsOf_2_len (a0 : TEvidence) (v : Nat) : ∀ n l i, (s_StampsOf_2 a0 v n l i).length ≤ l.length + cnL (fun r => r.Stamps.length) ((nth a0.Strands v).Chain.drop i)
  | 0, _, _ => Nat.zero_le _
  | n + 1, l, i => by
    simp only [s_StampsOf_2]
    by_cases h : i < (nth a0.Strands v).Chain.length
    · rw [show decide ((i : Int) < ((nth a0.Strands v).Chain.length : Int)) = true by simpa using h, cond_true]
      have h1 := s_StampsOf_2_len a0 v n (s_l27Add l (nth (nth a0.Strands v).Chain i).Stamps) (i + 1)
      have h2 := s_l27Add_len l (nth (nth a0.Strands v).Chain i).Stamps
      have h3 := rst_drop h
      omega
    · rw [show decide ((i : Int) < ((nth a0.Strands v).Chain.length : Int)) = false by simpa using h, cond_false]; omega
theorem s_StampsOf_3_len (a0 : TEvidence) : ∀ n l i, (s_StampsOf_3 a0 n l i).length ≤ l.length + cnL List.length (a0.Fresh.drop i)
  | 0, _, _ => Nat.zero_le _
  | n + 1, l, i => by
    simp only [s_StampsOf_3]
    by_cases h : i < a0.Fresh.length
    · rw [show decide ((i : Int) < (a0.Fresh.length : Int)) = true by simpa using h, cond_true]
      have h1 := s_StampsOf_3_len a0 n (s_l27Add l (nth a0.Fresh i)) (i + 1)
      have h2 := s_l27Add_len l (nth a0.Fresh i)
      have h3 := fsh_drop h
      omega
    · rw [show decide ((i : Int) < (a0.Fresh.length : Int)) = false by simpa using h, cond_false]; omega
theorem s_StampsOf_1_len (a0 : TEvidence) : ∀ n l i, (s_StampsOf_1 a0 n l i).length ≤ l.length + cnL stc (a0.Strands.drop i)
  | 0, _, _ => Nat.zero_le _
  | n + 1, l, i => by
    simp only [s_StampsOf_1]
    by_cases h : i < a0.Strands.length
    · rw [show decide ((i : Int) < (a0.Strands.length : Int)) = true by simpa using h, cond_true]
      have h1 := s_StampsOf_1_len a0 n (s_StampsOf_2 a0 i ((nth a0.Strands i).Chain.length + 1) l 0) (i + 1)
      have h2 := s_StampsOf_2_len a0 i ((nth a0.Strands i).Chain.length + 1) l 0
      have h3 := stc_drop h
      simp only [stc, List.drop_zero] at h2 h3
      omega
    · rw [show decide ((i : Int) < (a0.Strands.length : Int)) = false by simpa using h, cond_false]; omega
theorem s_StampsOf_len (a0 : TEvidence) : (s_StampsOf a0).length ≤ stot a0 := by
  have h1 := s_StampsOf_3_len a0 (a0.Fresh.length + 1) (s_StampsOf_1 a0 (a0.Strands.length + 1) [] 0) 0
  have h2 := s_StampsOf_1_len a0 (a0.Strands.length + 1) [] 0
  simp only [List.drop_zero, List.length_nil] at h1 h2
  show (s_StampsOf_3 a0 (a0.Fresh.length + 1) (s_StampsOf_1 a0 (a0.Strands.length + 1) [] 0) 0).length ≤ cnL stc a0.Strands + cnL List.length a0.Fresh
  omega

@[simp] theorem s_AllStamps_eq (a0 : TWorld) : s_AllStamps a0 = i_AllStamps a0 := by
  show s_StampsOf (TEvidence.mk (s_AllStamps_1 a0 (a0.Archives.length + 1) 0 []) []) = i_StampsOf (TEvidence.mk (i_AllStamps_1 a0 ((i_itemsOf a0).length + 1) 0 []) [])
  rw [s_AllStamps_strands, i_AllStamps_strands, s_StampsOf_eq]
theorem i_AllStamps_cn (a0 : TWorld) (h : cn a0 ≤ 33554464) : cn (i_AllStamps a0) ≤ 1152921504606846976 := by
  rw [← s_AllStamps_eq]
  have h1 : (s_AllStamps a0).length ≤ stot (TEvidence.mk (strandsOf a0) []) := by
    show (s_StampsOf (TEvidence.mk (s_AllStamps_1 a0 (a0.Archives.length + 1) 0 []) [])).length ≤ _
    rw [s_AllStamps_strands]; exact s_StampsOf_len _
  have h2 := strandsOf_stot a0
  have h3 : cn (s_AllStamps a0) = 5 * (s_AllStamps a0).length := cnL_same (c := (cn : TStamp → Nat)) (fun _ => rfl) _
  omega

end Go.Mo
