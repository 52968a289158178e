/- The models of the program and of the reference agree. No condition. -/
import Derived.Test.YtllfgbhplfhdkaaL
namespace Go.Mo
open Go.Vm
set_option linter.unusedSimpArgs false
set_option linter.unusedVariables false
theorem cond_neg (x : Int) {α : Type} (a b : α) : (bif decide (x < 0) then a else b) = (bif decide (0 ≤ x) then b else a) := by
  by_cases h : x < 0
  · rw [show decide (x < 0) = true by simpa using h, show decide (0 ≤ x) = false by simpa using h]; rfl
  · rw [show decide (x < 0) = false by simpa using h, show decide (0 ≤ x) = true by simp; omega]; rfl
/-- a loop that looks whether one of the places is bad -/
theorem all_loop {L : Nat → Nat → Sum Bool Unit} {len : Nat} {c : Nat → Bool} (h0 : ∀ v, L 0 v = .inr ()) (hs : ∀ n v, L (n + 1) v = (bif decide ((v : Int) < (len : Int)) then (bif c v then .inl false else L n (v + 1)) else .inr ())) :
    ∀ n v, len < n + v → (L n v = .inr () ∧ ∀ i, v ≤ i → i < len → c i = false) ∨ (L n v = .inl false ∧ ∃ i, v ≤ i ∧ i < len ∧ c i = true)
  | 0, v, h => .inl ⟨h0 v, fun i h1 h2 => by omega⟩
  | n + 1, v, h => by
    rw [hs]
    by_cases hv : v < len
    · rw [show decide ((v : Int) < (len : Int)) = true by simpa using hv]
      cases hc : c v with
      | true => exact .inr ⟨rfl, v, Nat.le_refl _, hv, hc⟩
      | false =>
        rcases all_loop h0 hs n (v + 1) (by omega) with ⟨e, k⟩ | ⟨e, i, k1, k2, k3⟩
        · refine .inl ⟨e, fun i h1 h2 => ?_⟩
          rcases Nat.eq_or_lt_of_le h1 with rfl | h1
          · exact hc
          · exact k i h1 h2
        · exact .inr ⟨e, i, by omega, k2, k3⟩
    · rw [show decide ((v : Int) < (len : Int)) = false by simpa using hv]
      exact .inl ⟨rfl, fun i h1 h2 => by omega⟩
/-- a loop that looks for the first place -/
theorem find_loop {β : Type} {L : Nat → Nat → Sum β Unit} {len : Nat} {c : Nat → Bool} {r : Nat → β} (h0 : ∀ v, L 0 v = .inr ()) (hs : ∀ n v, L (n + 1) v = (bif decide ((v : Int) < (len : Int)) then (bif c v then .inl (r v) else L n (v + 1)) else .inr ())) :
    ∀ n v, len < n + v → (L n v = .inr () ∧ ∀ i, v ≤ i → i < len → c i = false) ∨ (∃ i, L n v = .inl (r i) ∧ v ≤ i ∧ i < len ∧ c i = true ∧ ∀ k, v ≤ k → k < i → c k = false)
  | 0, v, h => .inl ⟨h0 v, fun i h1 h2 => by omega⟩
  | n + 1, v, h => by
    rw [hs]
    by_cases hv : v < len
    · rw [show decide ((v : Int) < (len : Int)) = true by simpa using hv]
      cases hc : c v with
      | true => exact .inr ⟨v, rfl, Nat.le_refl _, hv, hc, fun k h1 h2 => by omega⟩
      | false =>
        rcases find_loop h0 hs n (v + 1) (by omega) with ⟨e, k⟩ | ⟨i, e, k1, k2, k3, k4⟩
        · refine .inl ⟨e, fun i h1 h2 => ?_⟩
          rcases Nat.eq_or_lt_of_le h1 with rfl | h1
          · exact hc
          · exact k i h1 h2
        · refine .inr ⟨i, e, by omega, k2, k3, fun k h1 h2 => ?_⟩
          rcases Nat.eq_or_lt_of_le h1 with rfl | h1
          · exact hc
          · exact k4 k h1 h2
    · rw [show decide ((v : Int) < (len : Int)) = false by simpa using hv]
      exact .inl ⟨rfl, fun i h1 h2 => by omega⟩
/-- the same, as a Boolean -/
theorem all_match {L : Nat → Nat → Sum Bool Unit} {len : Nat} {c : Nat → Bool} (h0 : ∀ v, L 0 v = .inr ()) (hs : ∀ n v, L (n + 1) v = (bif decide ((v : Int) < (len : Int)) then (bif c v then .inl false else L n (v + 1)) else .inr ())) (n v : Nat) (h : len < n + v) (X : Bool) :
    (match L n v with | .inl r => r | .inr _ => X) = true ↔ (∀ i, v ≤ i → i < len → c i = false) ∧ X = true := by
  rcases all_loop h0 hs n v h with ⟨e, k⟩ | ⟨e, i, k1, k2, k3⟩
  · rw [e]; simp only; exact ⟨fun hx => ⟨k, hx⟩, fun hx => hx.2⟩
  · rw [e]; simp only
    constructor
    · intro hx; cases hx
    · intro hx; rw [hx.1 i k1 k2] at k3; cases k3
theorem any_match {L : Nat → Nat → Sum Bool Unit} {len : Nat} {c : Nat → Bool} (h0 : ∀ v, L 0 v = .inr ()) (hs : ∀ n v, L (n + 1) v = (bif decide ((v : Int) < (len : Int)) then (bif c v then .inl true else L n (v + 1)) else .inr ())) (n v : Nat) (h : len < n + v) :
    (match L n v with | .inl r => r | .inr _ => false) = true ↔ ∃ i, v ≤ i ∧ i < len ∧ c i = true := by
  rcases find_loop (r := fun _ => true) h0 hs n v h with ⟨e, k⟩ | ⟨i, e, k1, k2, k3, k4⟩
  · rw [e]; simp only
    constructor
    · intro hx; cases hx
    · rintro ⟨i, h1, h2, h3⟩; rw [k i h1 h2] at h3; cases h3
  · rw [e]; exact ⟨fun _ => ⟨i, k1, k2, k3⟩, fun _ => rfl⟩
theorem nth_take {α : Type} [Inhabited α] {l : List α} {i n : Nat} (h : i < n) : nth (l.take n) i = nth l i := by
  unfold nth; simp [List.getD_eq_getElem?_getD, List.getElem?_take, h]
@[simp] theorem s_Min_eq (a0 a1 : Int) : s_Min a0 a1 = if a1 < a0 then a1 else a0 := by
  unfold s_Min; by_cases h : a1 < a0 <;> simp [h]

theorem lastRenewal_nil {a0 : TItem} (h : a0.Strand.Chain.length = 0) : i_lastRenewal a0 = (TRenewal.mk 0 0 0 [] [], false) := by
  unfold i_lastRenewal; rw [h]; rfl
theorem lastRenewal_pos {a0 : TItem} (h : 0 < a0.Strand.Chain.length) : i_lastRenewal a0 = (nth a0.Strand.Chain (a0.Strand.Chain.length - 1), true) := by
  unfold i_lastRenewal; rw [show (((a0.Strand.Chain.length : Nat) : Int) == 0) = false by simp; intro hh; rw [hh] at h; simp at h]; rfl

@[simp] theorem s_FindMethod_1_eq (a0 : List TMethod) (a1 : Int) : ∀ (n : Nat) (v0 : Nat), s_FindMethod_1 a0 a1 n v0 = i_FindMethod_1 a0 a1 n v0 := by
  intro n
  induction n with
  | zero => intros; rfl
  | succ n ih => intros; simp [s_FindMethod_1, i_FindMethod_1, ih, ByteArray.append_assoc]
@[simp] theorem s_FindMethod_eq (a0 : List TMethod) (a1 : Int) : s_FindMethod a0 a1 = i_FindMethod a0 a1 := by simp [s_FindMethod, i_FindMethod]
@[simp] theorem s_FindAuthority_1_eq (a0 : List TAuthority) (a1 : Int) : ∀ (n : Nat) (v0 : Nat), s_FindAuthority_1 a0 a1 n v0 = i_FindAuthority_1 a0 a1 n v0 := by
  intro n
  induction n with
  | zero => intros; rfl
  | succ n ih => intros; simp [s_FindAuthority_1, i_FindAuthority_1, ih, ByteArray.append_assoc]
@[simp] theorem s_FindAuthority_eq (a0 : List TAuthority) (a1 : Int) : s_FindAuthority a0 a1 = i_FindAuthority a0 a1 := by simp [s_FindAuthority, i_FindAuthority]
@[simp] theorem s_StampKey_eq (a0 : List TAuthority) (a1 : TStamp) : s_StampKey a0 a1 = i_StampKey a0 a1 := by
  unfold s_StampKey i_StampKey; rw [cond_neg]; simp

@[simp] theorem s_FindKey_1_eq (a0 : List TKey) (a1 : Int) : ∀ (n : Nat) (v0 : Nat), s_FindKey_1 a0 a1 n v0 = i_FindKey_1 a0 a1 n v0 := by
  intro n
  induction n with
  | zero => intros; rfl
  | succ n ih => intros; simp [s_FindKey_1, i_FindKey_1, ih, ByteArray.append_assoc]
@[simp] theorem s_FindKey_eq (a0 : List TKey) (a1 : Int) : s_FindKey a0 a1 = i_FindKey a0 a1 := by simp [s_FindKey, i_FindKey]
@[simp] theorem s_l32Ends_eq (a0 : TFrame) (a1 : Int) : s_l32Ends a0.Methods a1 = i_endOf a0 a1 := by
  unfold s_l32Ends i_endOf; rw [cond_neg]; simp
@[simp] theorem s_EndsOf_1_eq (a0 : TFrame) (a1 : TRenewal) : ∀ (n : Nat) (v0 : Int) (v1 : Nat), s_EndsOf_1 a0 a1 n v0 v1 = i_EndsOf_1 a0 a1 n v0 v1 := by
  intro n
  induction n with
  | zero => intros; rfl
  | succ n ih => intros; simp [s_EndsOf_1, i_EndsOf_1, ih]
@[simp] theorem s_EndsOf_eq (a0 : TFrame) (a1 : TRenewal) : s_EndsOf a0 a1 = i_EndsOf a0 a1 := by simp [s_EndsOf, i_EndsOf]
theorem s_l32Last_eq (a0 : TFrame) (a1 : TItem) : s_l32Last a0 a1 = bif (i_lastRenewal a1).2 then i_EndsOf a0 (i_lastRenewal a1).1 else 0 := by
  unfold s_l32Last
  rcases Nat.eq_zero_or_pos a1.Strand.Chain.length with h | h
  · rw [lastRenewal_nil h, h]; simp
  · rw [lastRenewal_pos h, show (((a1.Strand.Chain.length : Nat) : Int) == 0) = false by simp; intro hh; rw [hh] at h; simp at h]; simp

@[simp] theorem s_NeedsRenewal_eq (a0 : TFrame) (a1 : TItem) (a2 : Int) : s_NeedsRenewal a0 a1 a2 = i_NeedsRenewal a0 a1 a2 := by
  unfold s_NeedsRenewal i_NeedsRenewal
  rw [s_l32Last_eq]
  rcases Nat.eq_zero_or_pos a1.Strand.Chain.length with h | h
  · rw [lastRenewal_nil h, h]; simp
  · rw [lastRenewal_pos h, show (((a1.Strand.Chain.length : Nat) : Int) == 0) = false by simp; intro hh; rw [hh] at h; simp at h]; simp

@[simp] theorem s_ItemsDue_1_eq (a0 : TFrame) (a1 : TArchive) (a2 : Int) : ∀ (n : Nat) (v0 : List Int) (v1 : Nat), s_ItemsDue_1 a0 a1 a2 n v0 v1 = i_ItemsDue_1 a0 a1 a2 n v0 v1 := by
  intro n
  induction n with
  | zero => intros; rfl
  | succ n ih => intros; simp [s_ItemsDue_1, i_ItemsDue_1, ih, ByteArray.append_assoc]
@[simp] theorem s_ItemsDue_eq (a0 : TFrame) (a1 : TArchive) (a2 : Int) : s_ItemsDue a0 a1 a2 = i_ItemsDue a0 a1 a2 := by simp [s_ItemsDue, i_ItemsDue]
theorem i_ItemsDue_cn (a0 : TFrame) (a1 : TArchive) (a2 : Int) (_ : cn a0 ≤ 33554464) (h : cn a1 ≤ 33554464) : cn (i_ItemsDue a0 a1 a2) ≤ 1152921504606846976 := by
  have e := filt_len (F := i_ItemsDue_1 a0 a1 a2) (fun _ _ => rfl) (fun _ _ _ => rfl) (a1.Items.length + 1) [] 0
  have k := cnL_ge (c := (cn : TItem → Nat)) (fun x => by rw [TItem.cn_eq, cn_int]; omega) a1.Items
  rw [cn_ints]
  simp only [TArchive.cn_eq, cn_list] at h
  have : (i_ItemsDue a0 a1 a2).length ≤ 0 + (a1.Items.length - 0) := e
  omega

end Go.Mo
