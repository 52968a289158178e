/- The models of the program and of the reference agree. No condition. -/
import Derived.Test.YtdbglcndfmdlfaaGreatL
namespace Go.Mo
open Go.Vm
set_option linter.unusedSimpArgs false
set_option linter.unusedVariables false
theorem cond_neg (x : Int) {α : Type} (a b : α) : (bif decide (x < 0) then a else b) = (bif decide (0 ≤ x) then b else a) := by
  by_cases h : x < 0
  · rw [show decide (x < 0) = true by simpa using h, show decide (0 ≤ x) = false by simpa using h]; rfl
  · rw [show decide (x < 0) = false by simpa using h, show decide (0 ≤ x) = true by simp; omega]; rfl
/-- a loop that looks whether one of the places is bad -/
theorem all_loop {L : Nat → Nat → Sum Bool Unit} {len : Nat} {c : Nat → Bool} (h0 : ∀ v, L 0 v = .inr ()) (hs : ∀ n v, L (n + 1) v = (bif decide ((v : Int) < (len : Int)) then (bif c v then .inl false else L n (v + 1)) else .inr ())) :
    ∀ n v, len < n + v → (L n v = .inr () ∧ ∀ i, v ≤ i → i < len → c i = false) ∨ (L n v = .inl false ∧ ∃ i, v ≤ i ∧ i < len ∧ c i = true)
  | 0, v, h => .inl ⟨h0 v, fun i h1 h2 => by omega⟩
  | n + 1, v, h => by
    rw [hs]
    by_cases hv : v < len
    · rw [show decide ((v : Int) < (len : Int)) = true by simpa using hv]
      cases hc : c v with
      | true => exact .inr ⟨rfl, v, Nat.le_refl _, hv, hc⟩
      | false =>
        rcases all_loop h0 hs n (v + 1) (by omega) with ⟨e, k⟩ | ⟨e, i, k1, k2, k3⟩
        · refine .inl ⟨e, fun i h1 h2 => ?_⟩
          rcases Nat.eq_or_lt_of_le h1 with rfl | h1
          · exact hc
          · exact k i h1 h2
        · exact .inr ⟨e, i, by omega, k2, k3⟩
    · rw [show decide ((v : Int) < (len : Int)) = false by simpa using hv]
      exact .inl ⟨rfl, fun i h1 h2 => by omega⟩
/-- a loop that looks for the first place -/
theorem find_loop {β : Type} {L : Nat → Nat → Sum β Unit} {len : Nat} {c : Nat → Bool} {r : Nat → β} (h0 : ∀ v, L 0 v = .inr ()) (hs : ∀ n v, L (n + 1) v = (bif decide ((v : Int) < (len : Int)) then (bif c v then .inl (r v) else L n (v + 1)) else .inr ())) :
    ∀ n v, len < n + v → (L n v = .inr () ∧ ∀ i, v ≤ i → i < len → c i = false) ∨ (∃ i, L n v = .inl (r i) ∧ v ≤ i ∧ i < len ∧ c i = true ∧ ∀ k, v ≤ k → k < i → c k = false)
  | 0, v, h => .inl ⟨h0 v, fun i h1 h2 => by omega⟩
  | n + 1, v, h => by
    rw [hs]
    by_cases hv : v < len
    · rw [show decide ((v : Int) < (len : Int)) = true by simpa using hv]
      cases hc : c v with
      | true => exact .inr ⟨v, rfl, Nat.le_refl _, hv, hc, fun k h1 h2 => by omega⟩
      | false =>
        rcases find_loop h0 hs n (v + 1) (by omega) with ⟨e, k⟩ | ⟨i, e, k1, k2, k3, k4⟩
        · refine .inl ⟨e, fun i h1 h2 => ?_⟩
          rcases Nat.eq_or_lt_of_le h1 with rfl | h1
          · exact hc
          · exact k i h1 h2
        · refine .inr ⟨i, e, by omega, k2, k3, fun k h1 h2 => ?_⟩
          rcases Nat.eq_or_lt_of_le h1 with rfl | h1
          · exact hc
          · exact k4 k h1 h2
    · rw [show decide ((v : Int) < (len : Int)) = false by simpa using hv]
      exact .inl ⟨rfl, fun i h1 h2 => by omega⟩
/-- the same, as a Boolean -/
theorem all_match {L : Nat → Nat → Sum Bool Unit} {len : Nat} {c : Nat → Bool} (h0 : ∀ v, L 0 v = .inr ()) (hs : ∀ n v, L (n + 1) v = (bif decide ((v : Int) < (len : Int)) then (bif c v then .inl false else L n (v + 1)) else .inr ())) (n v : Nat) (h : len < n + v) (X : Bool) :
    (match L n v with | .inl r => r | .inr _ => X) = true ↔ (∀ i, v ≤ i → i < len → c i = false) ∧ X = true := by
  rcases all_loop h0 hs n v h with ⟨e, k⟩ | ⟨e, i, k1, k2, k3⟩
  · rw [e]; simp only; exact ⟨fun hx => ⟨k, hx⟩, fun hx => hx.2⟩
  · rw [e]; simp only
    constructor
    · intro hx; cases hx
    · intro hx; rw [hx.1 i k1 k2] at k3; cases k3
theorem any_match {L : Nat → Nat → Sum Bool Unit} {len : Nat} {c : Nat → Bool} (h0 : ∀ v, L 0 v = .inr ()) (hs : ∀ n v, L (n + 1) v = (bif decide ((v : Int) < (len : Int)) then (bif c v then .inl true else L n (v + 1)) else .inr ())) (n v : Nat) (h : len < n + v) :
    (match L n v with | .inl r => r | .inr _ => false) = true ↔ ∃ i, v ≤ i ∧ i < len ∧ c i = true := by
  rcases find_loop (r := fun _ => true) h0 hs n v h with ⟨e, k⟩ | ⟨i, e, k1, k2, k3, k4⟩
  · rw [e]; simp only
    constructor
    · intro hx; cases hx
    · rintro ⟨i, h1, h2, h3⟩; rw [k i h1 h2] at h3; cases h3
  · rw [e]; exact ⟨fun _ => ⟨i, k1, k2, k3⟩, fun _ => rfl⟩
theorem nth_take {α : Type} [Inhabited α] {l : List α} {i n : Nat} (h : i < n) : nth (l.take n) i = nth l i := by
  unfold nth; simp [List.getD_eq_getElem?_getD, List.getElem?_take, h]
@[simp] theorem s_l1In_eq (a0 a1 a2 : Int) : s_l1In a0 a1 a2 = i_InRange a0 a1 a2 := rfl

@[simp] theorem s_Max_eq (a0 a1 : Int) : s_Max a0 a1 = if a1 > a0 then a1 else a0 := by
  unfold s_Max; by_cases h : a1 > a0 <;> simp [h]

@[simp] theorem s_Min_eq (a0 a1 : Int) : s_Min a0 a1 = if a1 < a0 then a1 else a0 := by
  unfold s_Min; by_cases h : a1 < a0 <;> simp [h]

@[simp] theorem s_FindItem_1_eq (a0 : TArchive) (a1 : Int) : ∀ (n : Nat) (v0 : Nat), s_FindItem_1 a0 a1 n v0 = i_FindItem_1 a0 a1 n v0 := by
  intro n
  induction n with
  | zero => intros; rfl
  | succ n ih => intros; simp [s_FindItem_1, i_FindItem_1, ih, ByteArray.append_assoc]
@[simp] theorem s_FindItem_eq (a0 : TArchive) (a1 : Int) : s_FindItem a0 a1 = i_FindItem a0 a1 := by simp [s_FindItem, i_FindItem]
@[simp] theorem s_FindIn_1_eq (a0 : TWorld) (a1 : Int) : ∀ (n : Nat) (v0 : Nat), s_FindIn_1 a0 a1 n v0 = i_FindIn_1 a0 a1 n v0 := by
  intro n
  induction n with
  | zero => intros; rfl
  | succ n ih => intros; simp [s_FindIn_1, i_FindIn_1, ih, ByteArray.append_assoc]
@[simp] theorem s_FindIn_eq (a0 : TWorld) (a1 : Int) : s_FindIn a0 a1 = i_FindIn a0 a1 := by simp [s_FindIn, i_FindIn]
@[simp] theorem s_IsDocument_eq (a0 : TDocument) : s_IsDocument a0 = i_IsDocument a0 := by
  rw [Bool.eq_iff_iff]
  have hs : s_IsDocument a0 = true ↔ _ := (all_match (L := s_IsDocument_1 a0) (fun _ => rfl) (fun _ _ => rfl) (a0.Parts.length + 1) 0 (by omega) _).trans (and_congr_right fun _ => all_match (L := s_IsDocument_2 a0) (fun _ => rfl) (fun _ _ => rfl) (a0.Salts.length + 1) 0 (by omega) _)
  rw [hs]
  unfold i_IsDocument
  have hi : ∀ b : Bool, (bif b then false else (match i_IsDocument_1 a0 (a0.Parts.length + 1) 0 with | .inl r1 => r1 | .inr _ => true)) = true ↔ b = false ∧ _ := fun b => by
    cases b
    · exact (all_match (L := i_IsDocument_1 a0) (fun _ => rfl) (fun _ _ => rfl) (a0.Parts.length + 1) 0 (by omega) true).trans (by simp only [true_and, and_true]; exact Iff.rfl)
    · simp
  refine Iff.trans ?_ (hi _).symm
  simp only [s_l1In_eq, Bool.or_eq_false_iff, Bool.not_eq_false', Bool.and_eq_true, beq_iff_eq, bne_eq_false_iff_eq, Bool.not_eq_eq_eq_not, Bool.not_false]
  constructor
  · rintro ⟨h1, h2, h3, h4⟩
    exact ⟨⟨h3, h4⟩, fun i _ hi => ⟨h1 i (Nat.zero_le _) hi, h2 i (Nat.zero_le _) (by omega)⟩⟩
  · rintro ⟨⟨h3, h4⟩, h⟩
    exact ⟨fun i _ hi => (h i (Nat.zero_le _) hi).1, fun i _ hi => (h i (Nat.zero_le _) (by omega)).2, h3, h4⟩

@[simp] theorem s_Mod_eq (a0 : Int) (a1 : Int) : s_Mod a0 a1 = i_Mod a0 a1 := by simp [s_Mod, i_Mod]
@[simp] theorem s_Hash_1_eq (a0 : List Int) : ∀ (n : Nat) (v0 : Int) (v1 : Nat), s_Hash_1 a0 n v0 v1 = i_Hash_1 a0 n v0 v1 := by
  intro n
  induction n with
  | zero => intros; rfl
  | succ n ih => intros; simp [s_Hash_1, i_Hash_1, ih, ByteArray.append_assoc]
@[simp] theorem s_Hash_eq (a0 : List Int) : s_Hash a0 = i_Hash a0 := by simp [s_Hash, i_Hash]
@[simp] theorem s_DigestOf_eq (a0 : Int) (a1 : List Int) : s_DigestOf a0 a1 = i_DigestOf a0 a1 := by simp [s_DigestOf, i_DigestOf]
theorem s_PartDigest_1_eq (a1 : ByteArray) : ∀ (n : Nat) (p l : List Int) (v : Nat), a1.size < n + v → v ≤ a1.size → s_PartDigest_1 a1 n (p ++ l) v = p ++ i_bytesOf_1 a1.data.toList n l v := by
  intro n
  induction n with
  | zero =>
    intro p l v h hv
    omega
  | succ n ih =>
    intro p l v h hv0
    have hs : a1.size = a1.data.toList.length := (Array.length_toList).symm
    rw [s_PartDigest_1, i_bytesOf_1, ← hs]
    by_cases hv : v < a1.size
    · rw [show decide ((v : Int) < (a1.size : Int)) = true by simpa using hv]
      simp only [cond_true]
      rw [List.append_assoc, ih p _ (v + 1) (by omega) (by omega)]
      rfl
    · rw [show decide ((v : Int) < (a1.size : Int)) = false by simpa using hv]
      rfl
@[simp] theorem s_PartDigest_eq (a0 : Int) (a1 : ByteArray) (a2 : Int) : s_PartDigest a0 a1 a2 = i_PartDigest a0 a1 a2 := by
  have := s_PartDigest_1_eq a1 (a1.size + 1) [a2] [] 0 (by omega) (by omega)
  simp only [List.append_nil] at this
  simp only [s_PartDigest, i_PartDigest, i_bytesOf, this, s_DigestOf_eq]
  rfl

@[simp] theorem s_DocDigest_1_eq (a0 : Int) (a1 : TDocument) : ∀ (n : Nat) (v0 : List Int) (v1 : Nat), s_DocDigest_1 a0 a1 n v0 v1 = i_DocDigest_1 a0 a1 n v0 v1 := by
  intro n
  induction n with
  | zero => intros; rfl
  | succ n ih => intros; simp [s_DocDigest_1, i_DocDigest_1, ih, ByteArray.append_assoc]
@[simp] theorem s_DocDigest_eq (a0 : Int) (a1 : TDocument) : s_DocDigest a0 a1 = i_DocDigest a0 a1 := by simp [s_DocDigest, i_DocDigest]
@[simp] theorem s_DocDigests_1_eq (a0 : TStrand) (a1 : TDocument) : ∀ (n : Nat) (v0 : List Int) (v1 : Nat), s_DocDigests_1 a0 a1 n v0 v1 = i_DocDigests_1 a0 a1 n v0 v1 := by
  intro n
  induction n with
  | zero => intros; rfl
  | succ n ih => intros; simp [s_DocDigests_1, i_DocDigests_1, ih, ByteArray.append_assoc]
@[simp] theorem s_DocDigests_eq (a0 : TStrand) (a1 : TDocument) : s_DocDigests a0 a1 = i_DocDigests a0 a1 := by simp [s_DocDigests, i_DocDigests]
@[simp] theorem s_FindAuthority_1_eq (a0 : List TAuthority) (a1 : Int) : ∀ (n : Nat) (v0 : Nat), s_FindAuthority_1 a0 a1 n v0 = i_FindAuthority_1 a0 a1 n v0 := by
  intro n
  induction n with
  | zero => intros; rfl
  | succ n ih => intros; simp [s_FindAuthority_1, i_FindAuthority_1, ih, ByteArray.append_assoc]
@[simp] theorem s_FindAuthority_eq (a0 : List TAuthority) (a1 : Int) : s_FindAuthority a0 a1 = i_FindAuthority a0 a1 := by simp [s_FindAuthority, i_FindAuthority]
@[simp] theorem s_l4Time_eq (a0 : Int) : s_l4Time a0 = i_isTime a0 := rfl

@[simp] theorem s_IsSpan_eq (a0 : TSpan) : s_IsSpan a0 = i_IsSpan a0 := by simp [s_IsSpan, i_IsSpan]
@[simp] theorem s_MakeSpan_eq (a0 a1 : Int) : s_MakeSpan a0 a1 = i_MakeSpan a0 a1 := by
  have e1 : s_Max 0 a0 = (if 0 > a0 then 0 else a0) := by unfold s_Max; rw [Bool.cond_decide]; split <;> split <;> omega
  have e2 : s_Min 10000 a1 = (if 10000 < a1 then 10000 else a1) := by unfold s_Min; rw [Bool.cond_decide]; split <;> split <;> omega
  unfold s_MakeSpan i_MakeSpan
  rw [e1, e2]
  have e3 : (decide (a0 > a1) || !i_IsSpan (TSpan.mk (if 0 > a0 then 0 else a0) (if 10000 < a1 then 10000 else a1))) = decide ((if 0 > a0 then 0 else a0) > (if 10000 < a1 then 10000 else a1)) := by
    rw [Bool.eq_iff_iff]
    simp only [i_IsSpan, i_isTime, i_InRange, Bool.or_eq_true, decide_eq_true_eq, Bool.not_eq_true', Bool.and_eq_false_iff, decide_eq_false_iff_not]
    split <;> split <;> omega
  rw [e3]

@[simp] theorem s_StampSpan_eq (a0 : List TAuthority) (a1 : TStamp) : s_StampSpan a0 a1 = i_StampSpan a0 a1 := by simp [s_StampSpan, i_StampSpan]
@[simp] theorem s_CountAt_1_eq (a0 : List TSpan) (a1 : Int) : ∀ (n : Nat) (v0 : Int) (v1 : Nat), s_CountAt_1 a0 a1 n v0 v1 = i_CountAt_1 a0 a1 n v0 v1 := by
  intro n
  induction n with
  | zero => intros; rfl
  | succ n ih => intros; simp [s_CountAt_1, i_CountAt_1, ih, i_InRange, Bool.and_assoc]
@[simp] theorem s_CountAt_eq (a0 : List TSpan) (a1 : Int) : s_CountAt a0 a1 = i_CountAt a0 a1 := by simp [s_CountAt, i_CountAt]

@[simp] theorem s_IsSupported_eq (a0 : List TSpan) (a1 : Int) (a2 : Int) : s_IsSupported a0 a1 a2 = i_IsSupported a0 a1 a2 := by simp [s_IsSupported, i_IsSupported]
theorem i_Agreed_spec (a0 : List TSpan) (a1 : Int) : ∀ (n : Nat) (fd : Bool) (v : Nat) (f l : Int), 10001 < n + v → v ≤ 10001 →
    (i_AgreedSpan_1 a0 a1 n fd v f l = (fd, f, l) ∧ ∀ t : Nat, v ≤ t → t ≤ 10000 → i_IsSupported a0 (t : Int) a1 = false) ∨
    ∃ x y : Nat, v ≤ x ∧ x ≤ y ∧ y ≤ 10000 ∧ i_IsSupported a0 (x : Int) a1 = true ∧ i_IsSupported a0 (y : Int) a1 = true ∧ (∀ t : Nat, v ≤ t → t < x → i_IsSupported a0 (t : Int) a1 = false) ∧ (∀ t : Nat, y < t → t ≤ 10000 → i_IsSupported a0 (t : Int) a1 = false) ∧
      i_AgreedSpan_1 a0 a1 n fd v f l = (true, (if fd then f else (x : Int)), (y : Int)) := by
  intro n
  induction n with
  | zero => intro fd v f l h h'; omega
  | succ n ih =>
    intro fd v f l h h'
    rw [i_AgreedSpan_1]
    by_cases hv : v ≤ 10000
    · rw [show decide ((v : Int) ≤ 10000) = true by simp; omega]
      simp only [cond_true]
      cases hs : i_IsSupported a0 (v : Int) a1 with
      | false =>
        simp only [cond_false]
        rcases ih fd (v + 1) f l (by omega) (by omega) with ⟨e, k⟩ | ⟨x, y, p1, p2, p3, p4, p5, p6, p7, p8⟩
        · refine .inl ⟨e, fun t h1 h2 => ?_⟩
          rcases Nat.eq_or_lt_of_le h1 with rfl | h1
          · exact hs
          · exact k t h1 h2
        · refine .inr ⟨x, y, by omega, p2, p3, p4, p5, fun t h1 h2 => ?_, p7, p8⟩
          rcases Nat.eq_or_lt_of_le h1 with rfl | h1
          · exact hs
          · exact p6 t h1 h2
      | true =>
        simp only [cond_true]
        have key : ∀ g : Int, (∃ x y : Nat, v ≤ x ∧ x ≤ y ∧ y ≤ 10000 ∧ i_IsSupported a0 (x : Int) a1 = true ∧ i_IsSupported a0 (y : Int) a1 = true ∧ (∀ t : Nat, v ≤ t → t < x → i_IsSupported a0 (t : Int) a1 = false) ∧ (∀ t : Nat, y < t → t ≤ 10000 → i_IsSupported a0 (t : Int) a1 = false) ∧
            i_AgreedSpan_1 a0 a1 n true (v + 1) g (v : Int) = (true, g, (y : Int)) ∧ x = v) := by
          intro g
          rcases ih true (v + 1) g (v : Int) (by omega) (by omega) with ⟨e, k⟩ | ⟨x, y, p1, p2, p3, p4, p5, p6, p7, p8⟩
          · exact ⟨v, v, Nat.le_refl _, Nat.le_refl _, hv, hs, hs, fun t h1 h2 => by omega, fun t h1 h2 => k t h1 h2, e, rfl⟩
          · exact ⟨v, y, Nat.le_refl _, by omega, p3, hs, p5, fun t h1 h2 => by omega, p7, by simpa using p8, rfl⟩
        cases fd with
        | false =>
          simp only [Bool.not_false, cond_true]
          obtain ⟨x, y, q1, q2, q3, q4, q5, q6, q7, q8, rfl⟩ := key (v : Int)
          exact .inr ⟨x, y, q1, q2, q3, q4, q5, q6, q7, by simpa using q8⟩
        | true =>
          simp only [Bool.not_true, cond_false]
          obtain ⟨x, y, q1, q2, q3, q4, q5, q6, q7, q8, rfl⟩ := key f
          exact .inr ⟨x, y, q1, q2, q3, q4, q5, q6, q7, by simpa using q8⟩
    · rw [show decide ((v : Int) ≤ 10000) = false by simp; omega]
      exact .inl ⟨rfl, fun t h1 h2 => by omega⟩
theorem countAt_eq (a0 : List TSpan) (t : Int) (hm : a0.length ≤ maxLen) : i_CountAt a0 t = (a0.countP (fun s => i_IsSpan s && i_InRange t s.From s.To) : Int) := by
  have key : ∀ (n : Nat) (c : Nat) (v : Nat), a0.length < n + v → v ≤ a0.length → c ≤ v → i_CountAt_1 a0 t n (c : Int) v = ((c + (a0.drop v).countP (fun s => i_IsSpan s && i_InRange t s.From s.To) : Nat) : Int) := by
    intro n
    induction n with
    | zero => intro c v h1 h2; omega
    | succ n ih =>
      intro c v h1 h2 h3
      rw [i_CountAt_1]
      by_cases hv : v < a0.length
      · rw [show decide ((v : Int) < (a0.length : Int)) = true by simpa using hv, List.drop_eq_getElem_cons hv, ← nth_lt hv]
        simp only [cond_true, List.countP_cons]
        have hw : W ((c : Int) + 1) = ((c + 1 : Nat) : Int) := by rw [show ((c + 1 : Nat) : Int) = (c : Int) + 1 by omega]; exact wrap_of (by omega) (by unfold maxLen at hm; omega)
        cases hc : (i_IsSpan (nth a0 v) && i_InRange t (nth a0 v).From (nth a0 v).To) with
        | true => rw [cond_true, hw, ih (c + 1) (v + 1) (by omega) (by omega) (by omega)]; simp; omega
        | false => rw [cond_false, ih c (v + 1) (by omega) (by omega) (by omega)]; simp
      · rw [show decide ((v : Int) < (a0.length : Int)) = false by simpa using hv, List.drop_eq_nil_of_le (by omega)]
        simp
  have := key (a0.length + 1) 0 0 (by omega) (by omega) (by omega)
  simpa [i_CountAt] using this
theorem max_of {α : Type} (p : α → Bool) (g : α → Int) : ∀ {l : List α}, (∃ x ∈ l, p x = true) → ∃ x ∈ l, p x = true ∧ ∀ y ∈ l, p y = true → g y ≤ g x
  | [], h => by obtain ⟨x, hx, _⟩ := h; cases hx
  | a :: l, h => by
    by_cases hl : ∃ x ∈ l, p x = true
    · obtain ⟨x, hx, px, hm⟩ := max_of p g hl
      by_cases hc : p a = true ∧ g x < g a
      · refine ⟨a, by simp, hc.1, fun y hy py => ?_⟩
        rcases List.mem_cons.1 hy with rfl | hy
        · exact Int.le_refl _
        · have := hm y hy py; omega
      · refine ⟨x, by simp [hx], px, fun y hy py => ?_⟩
        rcases List.mem_cons.1 hy with rfl | hy
        · rcases Int.lt_or_le (g x) (g y) with h | h
          · exact absurd ⟨py, h⟩ hc
          · exact h
        · exact hm y hy py
    · obtain ⟨x, hx, px⟩ := h
      rcases List.mem_cons.1 hx with rfl | hx
      · refine ⟨x, by simp, px, fun y hy py => ?_⟩
        rcases List.mem_cons.1 hy with rfl | hy
        · exact Int.le_refl _
        · exact absurd ⟨y, hy, py⟩ hl
      · exact absurd ⟨x, hx, px⟩ hl
theorem isSpan_iff (s : TSpan) : i_IsSpan s = true ↔ 0 ≤ s.From ∧ s.From ≤ s.To ∧ s.To ≤ 10000 := by
  simp only [i_IsSpan, i_isTime, i_InRange, Bool.and_eq_true, decide_eq_true_eq]; omega
theorem s_Agreed_spec (a0 : List TSpan) (a1 : Int) : ∀ (n : Nat) (f l : Int) (v : Nat), a0.length < n + v → v ≤ a0.length → -1 ≤ f →
    let r := s_AgreedSpan_1 a0 a1 n f l v
    (r.1 = f ∨ ∃ k, v ≤ k ∧ k < a0.length ∧ i_IsSpan (nth a0 k) = true ∧ i_IsSupported a0 (nth a0 k).From a1 = true ∧ r.1 = (nth a0 k).From) ∧
    (∀ k, v ≤ k → k < a0.length → i_IsSpan (nth a0 k) = true → i_IsSupported a0 (nth a0 k).From a1 = true → 0 ≤ r.1 ∧ r.1 ≤ (nth a0 k).From) ∧ (0 ≤ f → 0 ≤ r.1 ∧ r.1 ≤ f) ∧
    (r.2 = l ∨ ∃ k, v ≤ k ∧ k < a0.length ∧ i_IsSpan (nth a0 k) = true ∧ i_IsSupported a0 (nth a0 k).To a1 = true ∧ r.2 = (nth a0 k).To) ∧
    (∀ k, v ≤ k → k < a0.length → i_IsSpan (nth a0 k) = true → i_IsSupported a0 (nth a0 k).To a1 = true → (nth a0 k).To ≤ r.2) ∧ l ≤ r.2 := by
  intro n
  induction n with
  | zero => intro f l v h1 h2; omega
  | succ n ih =>
    intro f l v h1 h2 hf
    by_cases hv : v < a0.length
    · have step : ∃ f' l' : Int, s_AgreedSpan_1 a0 a1 (n + 1) f l v = s_AgreedSpan_1 a0 a1 n f' l' (v + 1) ∧ -1 ≤ f' ∧
          (f' = f ∨ (i_IsSpan (nth a0 v) = true ∧ i_IsSupported a0 (nth a0 v).From a1 = true ∧ f' = (nth a0 v).From)) ∧ (i_IsSpan (nth a0 v) = true → i_IsSupported a0 (nth a0 v).From a1 = true → 0 ≤ f' ∧ f' ≤ (nth a0 v).From) ∧ (0 ≤ f → 0 ≤ f' ∧ f' ≤ f) ∧
          (l' = l ∨ (i_IsSpan (nth a0 v) = true ∧ i_IsSupported a0 (nth a0 v).To a1 = true ∧ l' = (nth a0 v).To)) ∧ (i_IsSpan (nth a0 v) = true → i_IsSupported a0 (nth a0 v).To a1 = true → (nth a0 v).To ≤ l') ∧ l ≤ l' := by
        rw [s_AgreedSpan_1, show decide ((v : Int) < (a0.length : Int)) = true by simpa using hv]
        simp only [cond_true, s_IsSpan_eq, s_IsSupported_eq]
        have hx := isSpan_iff (nth a0 v)
        have hM : s_Max l (nth a0 v).To = if l < (nth a0 v).To then (nth a0 v).To else l := by unfold s_Max; rw [Bool.cond_decide]
        cases h1 : i_IsSpan (nth a0 v) with
        | false => simp only [Bool.false_and, cond_false]; exact ⟨f, l, rfl, hf, .inl rfl, by simp, fun h => ⟨h, Int.le_refl _⟩, .inl rfl, by simp, Int.le_refl _⟩
        | true =>
          have hx' := hx.1 h1
          simp only [Bool.true_and]
          have kl : ∃ l', (bif i_IsSupported a0 (nth a0 v).To a1 then s_Max l (nth a0 v).To else l) = l' ∧ (l' = l ∨ (True ∧ i_IsSupported a0 (nth a0 v).To a1 = true ∧ l' = (nth a0 v).To)) ∧ (True → i_IsSupported a0 (nth a0 v).To a1 = true → (nth a0 v).To ≤ l') ∧ l ≤ l' := by
            refine ⟨_, rfl, ?_⟩
            cases i_IsSupported a0 (nth a0 v).To a1 with
            | false => simp
            | true => simp only [cond_true, hM]; split <;> simp <;> omega
          obtain ⟨l', e1, kl⟩ := kl
          have kf : ∃ f', (bif (i_IsSupported a0 (nth a0 v).From a1 && (decide (f < 0) || decide ((nth a0 v).From < f))) then (nth a0 v).From else f) = f' ∧ -1 ≤ f' ∧ (f' = f ∨ (True ∧ i_IsSupported a0 (nth a0 v).From a1 = true ∧ f' = (nth a0 v).From)) ∧ (True → i_IsSupported a0 (nth a0 v).From a1 = true → 0 ≤ f' ∧ f' ≤ (nth a0 v).From) ∧ (0 ≤ f → 0 ≤ f' ∧ f' ≤ f) := by
            refine ⟨_, rfl, ?_⟩
            cases i_IsSupported a0 (nth a0 v).From a1 with
            | false => simp; omega
            | true =>
              by_cases hc : f < 0 ∨ (nth a0 v).From < f
              · rw [show (true && (decide (f < 0) || decide ((nth a0 v).From < f))) = true by simpa using hc]
                simp only [cond_true]; refine ⟨by omega, .inr ⟨trivial, trivial, trivial⟩, fun _ _ => ⟨by omega, Int.le_refl _⟩, fun h => by omega⟩
              · rw [show (true && (decide (f < 0) || decide ((nth a0 v).From < f))) = false by simp; omega]
                simp only [cond_false]; refine ⟨hf, .inl trivial, fun _ _ => by omega, fun h => ⟨h, Int.le_refl _⟩⟩
          obtain ⟨f', e2, kf⟩ := kf
          refine ⟨f', l', ?_, kf.1, kf.2.1, kf.2.2.1, kf.2.2.2, kl.1, kl.2.1, kl.2.2⟩
          rw [← e1, ← e2]
          cases (i_IsSupported a0 (nth a0 v).From a1 && (decide (f < 0) || decide ((nth a0 v).From < f))) <;> cases i_IsSupported a0 (nth a0 v).To a1 <;> rfl
      obtain ⟨f', l', e, g1, g2, g3, g4, g5, g6, g7⟩ := step
      rw [e]
      obtain ⟨i1, i2, i3, i4, i5, i6⟩ := ih f' l' (v + 1) (by omega) (by omega) g1
      refine ⟨?_, fun k k1 k2 k3 k4 => ?_, fun h => ?_, ?_, fun k k1 k2 k3 k4 => ?_, by omega⟩
      · rcases i1 with i1 | ⟨k, k1, k2⟩
        · rcases g2 with g2 | ⟨q1, q2, q3⟩
          · left; rw [i1, g2]
          · right; exact ⟨v, Nat.le_refl _, hv, q1, q2, by rw [i1, q3]⟩
        · right; exact ⟨k, by omega, k2⟩
      · rcases Nat.eq_or_lt_of_le k1 with rfl | k1
        · have := g3 k3 k4; have := i3 this.1; omega
        · exact i2 k k1 k2 k3 k4
      · have := g4 h; have := i3 this.1; omega
      · rcases i4 with i4 | ⟨k, k1, k2⟩
        · rcases g5 with g5 | ⟨q1, q2, q3⟩
          · left; rw [i4, g5]
          · right; exact ⟨v, Nat.le_refl _, hv, q1, q2, by rw [i4, q3]⟩
        · right; exact ⟨k, by omega, k2⟩
      · rcases Nat.eq_or_lt_of_le k1 with rfl | k1
        · have := g6 k3 k4; omega
        · exact i5 k k1 k2 k3 k4
    · rw [s_AgreedSpan_1, show decide ((v : Int) < (a0.length : Int)) = false by simpa using hv]
      exact ⟨.inl rfl, fun k h1 h2 => by omega, fun h => ⟨h, Int.le_refl _⟩, .inl rfl, fun k h1 h2 => by omega, Int.le_refl _⟩
theorem supported_iff (a0 : List TSpan) (t a1 : Int) (hm : a0.length ≤ maxLen) (h0 : 0 ≤ a1) (h1 : a1 < a0.length) : i_IsSupported a0 t a1 = true ↔ (a0.length : Int) - a1 ≤ (a0.countP (fun s => i_IsSpan s && i_InRange t s.From s.To) : Int) := by
  have e1 : W ((a0.length : Int) - 1) = (a0.length : Int) - 1 := wrap_of (by omega) (by unfold maxLen at hm; omega)
  have e2 : W ((a0.length : Int) - a1) = (a0.length : Int) - a1 := wrap_of (by omega) (by unfold maxLen at hm; omega)
  unfold i_IsSupported
  rw [countAt_eq a0 t hm, e1, e2, show i_InRange a1 0 ((a0.length : Int) - 1) = true by simp [i_InRange]; omega]
  rw [Bool.true_and, decide_eq_true_eq]
theorem supported_ends (a0 : List TSpan) (t a1 : Int) (hm : a0.length ≤ maxLen) (h0 : 0 ≤ a1) (h1 : a1 < a0.length) (hs : i_IsSupported a0 t a1 = true) :
    (∃ k, k < a0.length ∧ i_IsSpan (nth a0 k) = true ∧ (nth a0 k).From ≤ t ∧ i_IsSupported a0 (nth a0 k).From a1 = true) ∧ (∃ k, k < a0.length ∧ i_IsSpan (nth a0 k) = true ∧ t ≤ (nth a0 k).To ∧ i_IsSupported a0 (nth a0 k).To a1 = true) := by
  have hc := (supported_iff a0 t a1 hm h0 h1).1 hs
  have hex : ∃ s ∈ a0, (i_IsSpan s && i_InRange t s.From s.To) = true := by
    have : 0 < a0.countP (fun s => i_IsSpan s && i_InRange t s.From s.To) := by omega
    exact List.countP_pos_iff.1 this
  have idx : ∀ s ∈ a0, ∃ k, k < a0.length ∧ nth a0 k = s := by
    intro s hs
    obtain ⟨k, hk, rfl⟩ := List.getElem_of_mem hs
    exact ⟨k, hk, nth_lt hk⟩
  constructor
  · obtain ⟨s, hs1, hp, hmax⟩ := max_of _ (fun s : TSpan => s.From) hex
    obtain ⟨k, hk, rfl⟩ := idx s hs1
    simp only [i_InRange, Bool.and_eq_true, decide_eq_true_eq] at hp hmax
    refine ⟨k, hk, hp.1, hp.2.1, (supported_iff a0 _ a1 hm h0 h1).2 (Int.le_trans hc ?_)⟩
    refine Int.ofNat_le.2 (List.countP_mono_left (fun x hx hpx => ?_))
    simp only [i_InRange, Bool.and_eq_true, decide_eq_true_eq] at hpx ⊢
    have := hmax x hx hpx
    exact ⟨hpx.1, this, by omega⟩
  · obtain ⟨s, hs1, hp, hmax⟩ := max_of _ (fun s : TSpan => - s.To) hex
    obtain ⟨k, hk, rfl⟩ := idx s hs1
    simp only [i_InRange, Bool.and_eq_true, decide_eq_true_eq] at hp hmax
    refine ⟨k, hk, hp.1, hp.2.2, (supported_iff a0 _ a1 hm h0 h1).2 (Int.le_trans hc ?_)⟩
    refine Int.ofNat_le.2 (List.countP_mono_left (fun x hx hpx => ?_))
    simp only [i_InRange, Bool.and_eq_true, decide_eq_true_eq] at hpx ⊢
    have := hmax x hx hpx
    exact ⟨hpx.1, by omega, by omega⟩
@[simp] theorem s_AgreedSpan_eq (a0 : List TSpan) (a1 : Int) (hm : a0.length ≤ maxLen) : s_AgreedSpan a0 a1 = i_AgreedSpan a0 a1 := by
  have e1 : W ((a0.length : Int) - 1) = (a0.length : Int) - 1 := wrap_of (by omega) (by unfold maxLen at hm; omega)
  unfold s_AgreedSpan i_AgreedSpan
  rw [s_l1In_eq, e1]
  by_cases hr : 0 ≤ a1 ∧ a1 < a0.length
  · rw [show (!i_InRange a1 0 ((a0.length : Int) - 1)) = false by simp [i_InRange]; omega]
    simp only [cond_false]
    obtain ⟨s1, s2, _, s4, s5, _⟩ := s_Agreed_spec a0 a1 (a0.length + 1) (-1) (-1) 0 (by omega) (by omega) (by omega)
    generalize s_AgreedSpan_1 a0 a1 (a0.length + 1) (-1) (-1) 0 = r at s1 s2 s4 s5
    obtain ⟨f, l⟩ := r
    simp only at s1 s2 s4 s5 ⊢
    rcases i_Agreed_spec a0 a1 10002 false 0 0 0 (by omega) (by omega) with ⟨e, k⟩ | ⟨x, y, p1, p2, p3, p4, p5, p6, p7, e⟩
    · rw [e]
      simp only
      rcases s1 with s1 | ⟨j, j1, j2, j3, j4, j5⟩
      · rw [s1]; rfl
      · have hj := (isSpan_iff _).1 j3
        have := k (nth a0 j).From.toNat (by omega) (by omega)
        rw [Int.toNat_of_nonneg hj.1, j4] at this; cases this
    · rw [e]
      simp only [Bool.false_eq_true, if_false]
      obtain ⟨⟨j, j1, j2, j3, j4⟩, _⟩ := supported_ends a0 x a1 hm hr.1 hr.2 p4
      obtain ⟨_, ⟨i, i1, i2, i3, i4⟩⟩ := supported_ends a0 y a1 hm hr.1 hr.2 p5
      have hf := s2 j (by omega) j1 j2 j4
      have hl := s5 i (by omega) i1 i2 i4
      have hf2 : (x : Int) ≤ f := by
        rcases s1 with s1 | ⟨k, k1, k2, k3, k4, k5⟩
        · omega
        · have hk := (isSpan_iff _).1 k3
          rcases Int.lt_or_le f x with h | h
          · have := p6 f.toNat (by omega) (by omega)
            rw [Int.toNat_of_nonneg (by omega), k5, k4] at this; cases this
          · exact h
      have hl2 : l ≤ (y : Int) := by
        rcases s4 with s4 | ⟨k, k1, k2, k3, k4, k5⟩
        · omega
        · have hk := (isSpan_iff _).1 k3
          rcases Int.lt_or_le (y : Int) l with h | h
          · have := p7 l.toNat (by omega) (by omega)
            rw [Int.toNat_of_nonneg (by omega), k5, k4] at this; cases this
          · exact h
      have e3 : f = x := by omega
      have e4 : l = y := by omega
      rw [e3, e4, show decide ((x : Int) < 0) = false by simp]; rfl
  · rw [show (!i_InRange a1 0 ((a0.length : Int) - 1)) = true by simp [i_InRange]; omega]
    simp only [cond_true]
    have hn : ∀ t, i_IsSupported a0 t a1 = false := by
      intro t; unfold i_IsSupported; rw [e1, show i_InRange a1 0 ((a0.length : Int) - 1) = false by simp [i_InRange]; omega]; rfl
    rcases i_Agreed_spec a0 a1 10002 false 0 0 0 (by omega) (by omega) with ⟨e, k⟩ | ⟨x, y, p1, p2, p3, p4, p5, p6, p7, e⟩
    · rw [e]
    · rw [hn] at p4; cases p4

@[simp] theorem s_RenewalSpan_1_eq (a0 : List TAuthority) (a1 : TRenewal) : ∀ (n : Nat) (v0 : List TSpan) (v1 : Nat), s_RenewalSpan_1 a0 a1 n v0 v1 = i_agreedOn_1 a0 a1.Stamps n v0 v1 := by
  intro n
  induction n with
  | zero => intros; rfl
  | succ n ih => intros; simp [s_RenewalSpan_1, i_agreedOn_1, ih]
theorem i_agreedOn_1_len (a0 : List TAuthority) (a1 : List TStamp) : ∀ (n : Nat) (l : List TSpan) (v : Nat), l.length ≤ v → v ≤ a1.length → ∀ z, i_agreedOn_1 a0 a1 n l v = .inr z → z.length ≤ a1.length := by
  intro n
  induction n with
  | zero => intro l v h1 h2 z h; cases h; exact Nat.zero_le _
  | succ n ih =>
    intro l v h1 h2 z h
    rw [i_agreedOn_1] at h
    by_cases hv : v < a1.length
    · rw [show decide ((v : Int) < (a1.length : Int)) = true by simpa using hv] at h
      cases hs : (!(i_StampSpan a0 (nth a1 v)).2) with
      | true => rw [hs] at h; cases h
      | false => rw [hs] at h; exact ih _ (v + 1) (by simp; omega) (by omega) z h
    · rw [show decide ((v : Int) < (a1.length : Int)) = false by simpa using hv] at h
      cases h; omega
@[simp] theorem s_RenewalSpan_eq (a0 : List TAuthority) (a1 : TRenewal) (a2 : Int) (h : Sm maxLen a1) : s_RenewalSpan a0 a1 a2 = i_RenewalSpan a0 a1 a2 := by
  unfold s_RenewalSpan i_RenewalSpan i_agreedOn
  rw [s_RenewalSpan_1_eq]
  cases hh : i_agreedOn_1 a0 a1.Stamps (a1.Stamps.length + 1) [] 0 with
  | inl r => rfl
  | inr z =>
    simp only
    rw [s_AgreedSpan_eq _ _ (Nat.le_trans (i_agreedOn_1_len a0 a1.Stamps _ _ 0 (by simp) (by omega) z hh) (sm_len (TRenewal.sm_Stamps h)))]

@[simp] theorem s_StampInts_eq (a0 : TStamp) : s_StampInts a0 = i_StampInts a0 := by simp [s_StampInts, i_StampInts]
@[simp] theorem s_RenewalDigest_2_eq (a1 : TRenewal) : ∀ (n : Nat) (v0 : List Int) (v1 : Nat), s_RenewalDigest_2 a1 n v0 v1 = i_RenewalDigest_2 a1 n v0 v1 := by
  intro n
  induction n with
  | zero => intros; rfl
  | succ n ih => intros; simp [s_RenewalDigest_2, i_RenewalDigest_2, ih, ByteArray.append_assoc]
@[simp] theorem s_RenewalDigest_1_eq (a1 : TRenewal) : ∀ (n : Nat) (v0 : List Int) (v1 : Nat), s_RenewalDigest_1 a1 n v0 v1 = i_RenewalDigest_1 a1 n v0 v1 := by
  intro n
  induction n with
  | zero => intros; rfl
  | succ n ih => intros; simp [s_RenewalDigest_1, i_RenewalDigest_1, ih, ByteArray.append_assoc]
@[simp] theorem s_RenewalDigest_eq (a0 : Int) (a1 : TRenewal) : s_RenewalDigest a0 a1 = i_RenewalDigest a0 a1 := by simp [s_RenewalDigest, i_RenewalDigest]
@[simp] theorem s_PiecesDigest_1_eq (a0 : Int) (a1 : List TPiece) : ∀ (n : Nat) (v0 : List Int) (v1 : Nat), s_PiecesDigest_1 a0 a1 n v0 v1 = i_PiecesDigest_1 a0 a1 n v0 v1 := by
  intro n
  induction n with
  | zero => intros; rfl
  | succ n ih => intros; simp [s_PiecesDigest_1, i_PiecesDigest_1, ih, ByteArray.append_assoc]
@[simp] theorem s_PiecesDigest_eq (a0 : Int) (a1 : List TPiece) : s_PiecesDigest a0 a1 = i_PiecesDigest a0 a1 := by simp [s_PiecesDigest, i_PiecesDigest]
@[simp] theorem s_LeafOf_eq (a0 : Int) (a1 : Int) (a2 : List TPiece) (a3 : Int) : s_LeafOf a0 a1 a2 a3 = i_LeafOf a0 a1 a2 a3 := by simp [s_LeafOf, i_LeafOf]
@[simp] theorem s_LeafAt_eq (a0 : TStrand) (a1 : List Int) (a2 : Int) : s_LeafAt a0 a1 a2 = i_LeafAt a0 a1 a2 := by simp [s_LeafAt, i_LeafAt]
@[simp] theorem s_PairDigest_eq (a0 : Int) (a1 : Int) (a2 : Int) : s_PairDigest a0 a1 a2 = i_PairDigest a0 a1 a2 := by simp [s_PairDigest, i_PairDigest]
@[simp] theorem s_FollowPath_1_eq (a0 : Int) (a2 : List TStep) : ∀ (n : Nat) (v0 : Int) (v1 : Nat), s_FollowPath_1 a0 a2 n v0 v1 = i_FollowPath_1 a0 a2 n v0 v1 := by
  intro n
  induction n with
  | zero => intros; rfl
  | succ n ih => intros; simp [s_FollowPath_1, i_FollowPath_1, ih, ByteArray.append_assoc]
@[simp] theorem s_FollowPath_eq (a0 : Int) (a1 : Int) (a2 : List TStep) : s_FollowPath a0 a1 a2 = i_FollowPath a0 a1 a2 := by simp [s_FollowPath, i_FollowPath]
@[simp] theorem s_FindKey_1_eq (a0 : List TKey) (a1 : Int) : ∀ (n : Nat) (v0 : Nat), s_FindKey_1 a0 a1 n v0 = i_FindKey_1 a0 a1 n v0 := by
  intro n
  induction n with
  | zero => intros; rfl
  | succ n ih => intros; simp [s_FindKey_1, i_FindKey_1, ih, ByteArray.append_assoc]
@[simp] theorem s_FindKey_eq (a0 : List TKey) (a1 : Int) : s_FindKey a0 a1 = i_FindKey a0 a1 := by simp [s_FindKey, i_FindKey]
@[simp] theorem s_KeyedHash_eq (a0 : Int) (a1 : List Int) : s_KeyedHash a0 a1 = i_KeyedHash a0 a1 := by simp [s_KeyedHash, i_KeyedHash]
@[simp] theorem s_MarkWith_eq (a0 : TKey) (a1 : List Int) : s_MarkWith a0 a1 = i_MarkWith a0 a1 := by simp [s_MarkWith, i_MarkWith]
@[simp] theorem s_MakeStamp_eq (a0 : List TKey) (a1 : List TAuthority) (a2 : TStamp) : s_MakeStamp a0 a1 a2 = i_MakeStamp a0 a1 a2 := by
  simp [s_MakeStamp, i_MakeStamp, i_markBy]
  cases h : decide (i_FindKey a0 (nth a1 (i_FindAuthority a1 a2.Authority).toNat).Key < 0) <;> simp

@[simp] theorem s_CheckStamp_eq (a0 : List TKey) (a1 : List TAuthority) (a2 : TStamp) : s_CheckStamp a0 a1 a2 = i_CheckStamp a0 a1 a2 := by simp [s_CheckStamp, i_CheckStamp]
@[simp] theorem s_CheckRenewal_eq (a0 : List TKey) (a1 : List TAuthority) (a2 : TRenewal) (a3 : Int) : s_CheckRenewal a0 a1 a2 a3 = i_CheckRenewal a0 a1 a2 a3 := by
  rw [Bool.eq_iff_iff]
  unfold s_CheckRenewal i_CheckRenewal
  have hs : ∀ b : Bool, (bif b then false else (match s_CheckRenewal_1 a0 a1 a2 (a2.Stamps.length + 1) 0 with | .inl r1 => r1 | .inr _ => true)) = true ↔ b = false ∧ _ := fun b => by
    cases b
    · exact (all_match (L := s_CheckRenewal_1 a0 a1 a2) (fun _ => rfl) (fun _ _ => rfl) (a2.Stamps.length + 1) 0 (by omega) true).trans (by simp only [true_and, and_true]; exact Iff.rfl)
    · simp
  have hi : ∀ b : Bool, (bif b then false else (match i_CheckRenewal_1 a0 a1 a2 (a2.Stamps.length + 1) 0 with | .inl r1 => r1 | .inr _ => true)) = true ↔ b = false ∧ _ := fun b => by
    cases b
    · exact (all_match (L := i_CheckRenewal_1 a0 a1 a2) (fun _ => rfl) (fun _ _ => rfl) (a2.Stamps.length + 1) 0 (by omega) true).trans (by simp only [true_and, and_true]; exact Iff.rfl)
    · simp
  have hr : i_risingAuthorities a2.Stamps = true ↔ _ := all_match (L := i_risingAuthorities_1 a2.Stamps) (fun _ => rfl) (fun _ _ => rfl) (a2.Stamps.length + 1) 1 (by omega) true
  refine (hs _).trans (Iff.trans ?_ (hi _).symm)
  simp only [Bool.or_eq_false_iff, Bool.not_eq_false', s_l1In_eq, s_FollowPath_eq, s_CheckStamp_eq, hr]
  constructor
  · rintro ⟨h1, h2⟩
    refine ⟨⟨h1, fun i hi hl => ?_, trivial⟩, fun i hz hi => ⟨(h2 i hz hi).1.1, (h2 i hz hi).2⟩⟩
    have := (h2 i (Nat.zero_le _) hl).1.2
    simpa [show (0 : Nat) < i by omega] using this
  · rintro ⟨⟨h1, h2, _⟩, h3⟩
    refine ⟨h1, fun i hz hi => ⟨⟨(h3 i hz hi).1, ?_⟩, (h3 i hz hi).2⟩⟩
    by_cases h0 : 0 < i
    · have := h2 i h0 hi; simpa [h0] using this
    · simp [h0]

@[simp] theorem s_FindMethod_1_eq (a0 : List TMethod) (a1 : Int) : ∀ (n : Nat) (v0 : Nat), s_FindMethod_1 a0 a1 n v0 = i_FindMethod_1 a0 a1 n v0 := by
  intro n
  induction n with
  | zero => intros; rfl
  | succ n ih => intros; simp [s_FindMethod_1, i_FindMethod_1, ih, ByteArray.append_assoc]
@[simp] theorem s_FindMethod_eq (a0 : List TMethod) (a1 : Int) : s_FindMethod a0 a1 = i_FindMethod a0 a1 := by simp [s_FindMethod, i_FindMethod]
@[simp] theorem s_BreakOf_eq (a0 : List TMethod) (a1 : Int) : s_BreakOf a0 a1 = i_BreakOf a0 a1 := by
  unfold s_BreakOf i_BreakOf; rw [cond_neg]; simp

@[simp] theorem s_StampKey_eq (a0 : List TAuthority) (a1 : TStamp) : s_StampKey a0 a1 = i_StampKey a0 a1 := by
  unfold s_StampKey i_StampKey; rw [cond_neg]; simp

@[simp] theorem s_RenewalBreak_1_eq (a0 : List TKey) (a1 : List TAuthority) (a2 : List TMethod) (a3 : TRenewal) : ∀ (n : Nat) (v0 : Int) (v1 : Nat), s_RenewalBreak_1 a0 a1 a2 a3 n v0 v1 = i_RenewalBreak_1 a0 a1 a2 a3 n v0 v1 := by
  intro n
  induction n with
  | zero => intros; rfl
  | succ n ih => intros; simp [s_RenewalBreak_1, i_RenewalBreak_1, ih, ByteArray.append_assoc]
@[simp] theorem s_RenewalBreak_eq (a0 : List TKey) (a1 : List TAuthority) (a2 : List TMethod) (a3 : TRenewal) : s_RenewalBreak a0 a1 a2 a3 = i_RenewalBreak a0 a1 a2 a3 := by simp [s_RenewalBreak, i_RenewalBreak]
@[simp] theorem s_LinkHolds_eq (a0 : TFrame) (a1 : TStrand) (a2 : Int) (h : Sm maxLen a1) : s_LinkHolds a0 a1 a2 = i_LinkHolds a0 a1 a2 := by
  unfold s_LinkHolds i_LinkHolds i_Frame_spanOf
  rw [s_RenewalSpan_eq _ _ _ (sm_nth (TStrand.sm_Chain h))]
  simp only [s_l1In_eq, s_RenewalBreak_eq]

theorem s_FirstKept_1_eq (a0 : TFrame) (a1 : TStrand) (a2 : List Int) (hs : Sm maxLen a1) : ∀ (n v : Nat), v ≤ maxLen → s_FirstKept_1 a0 a1 a2 n v = i_FirstKept_1 a0 a1 a2 n v := by
  intro n
  induction n with
  | zero => intros; rfl
  | succ n ih =>
    intro v hv
    rw [s_FirstKept_1, i_FirstKept_1]
    by_cases h : 0 < v
    · have hw : W ((v : Int) - 1) = (v : Int) - 1 := wrap_of (by omega) (by unfold maxLen at hv; omega)
      rw [show decide ((v : Int) > 0) = true by simpa using h, ih (v - 1) (by omega)]
      unfold s_l21Kept i_Frame_spanOf
      rw [hw, show ((v : Int) - 1).toNat = v - 1 by omega]
      rw [s_RenewalSpan_eq _ _ _ (sm_nth (TStrand.sm_Chain hs)), s_LinkHolds_eq _ _ _ hs]
      simp only [cond_true, Bool.true_and, s_CheckRenewal_eq, s_LeafAt_eq]
      cases (i_RenewalSpan a0.Authorities (nth a1.Chain (v - 1)) a0.Liars).2 <;> cases i_LinkHolds a0 a1 ((v : Int) - 1) <;> cases i_CheckRenewal a0.Keys a0.Authorities (nth a1.Chain (v - 1)) (i_LeafAt a1 a2 ((v : Int) - 1)) <;> rfl
    · rw [show decide ((v : Int) > 0) = false by simpa using h]; rfl
@[simp] theorem s_FirstKept_eq (a0 : TFrame) (a1 : TStrand) (a2 : List Int) (h : Sm maxLen a1) : s_FirstKept a0 a1 a2 = i_FirstKept a0 a1 a2 := by
  unfold s_FirstKept i_FirstKept
  rw [s_FirstKept_1_eq a0 a1 a2 h _ _ (sm_len (TStrand.sm_Chain h))]

@[simp] theorem s_IsUnbroken_eq (a0 : TFrame) (a1 : TStrand) (a2 : List Int) (h : Sm maxLen a1) : s_IsUnbroken a0 a1 a2 = i_IsUnbroken a0 a1 a2 := by simp [s_IsUnbroken, i_IsUnbroken, h]

@[simp] theorem s_IsUnbrokenItem_eq (a0 : TWorld) (a1 : Int) (h : Sm maxLen a0) : s_IsUnbrokenItem a0 a1 = i_IsUnbrokenItem a0 a1 := by
  unfold s_IsUnbrokenItem i_IsUnbrokenItem
  rw [s_FindIn_eq, s_IsUnbroken_eq _ _ _ (TItem.sm_Strand (sm_nth (TArchive.sm_Items (sm_nth (TWorld.sm_Archives h)))))]
  simp

end Go.Mo
