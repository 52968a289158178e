/- The models of the program and of the reference agree. No condition. -/
import Derived.Test.YtllfgbhplfhdkaaGreatL
namespace Go.Mo
open Go.Vm
set_option linter.unusedSimpArgs false
set_option linter.unusedVariables false
theorem cond_neg (x : Int) {α : Type} (a b : α) : (bif decide (x < 0) then a else b) = (bif decide (0 ≤ x) then b else a) := by
  by_cases h : x < 0
  · rw [show decide (x < 0) = true by simpa using h, show decide (0 ≤ x) = false by simpa using h]; rfl
  · rw [show decide (x < 0) = false by simpa using h, show decide (0 ≤ x) = true by simp; omega]; rfl
/-- a loop that looks whether one of the places is bad -/
theorem all_loop {L : Nat → Nat → Sum Bool Unit} {len : Nat} {c : Nat → Bool} (h0 : ∀ v, L 0 v = .inr ()) (hs : ∀ n v, L (n + 1) v = (bif decide ((v : Int) < (len : Int)) then (bif c v then .inl false else L n (v + 1)) else .inr ())) :
    ∀ n v, len < n + v → (L n v = .inr () ∧ ∀ i, v ≤ i → i < len → c i = false) ∨ (L n v = .inl false ∧ ∃ i, v ≤ i ∧ i < len ∧ c i = true)
  | 0, v, h => .inl ⟨h0 v, fun i h1 h2 => by omega⟩
  | n + 1, v, h => by
    rw [hs]
    by_cases hv : v < len
    · rw [show decide ((v : Int) < (len : Int)) = true by simpa using hv]
      cases hc : c v with
      | true => exact .inr ⟨rfl, v, Nat.le_refl _, hv, hc⟩
      | false =>
        rcases all_loop h0 hs n (v + 1) (by omega) with ⟨e, k⟩ | ⟨e, i, k1, k2, k3⟩
        · refine .inl ⟨e, fun i h1 h2 => ?_⟩
          rcases Nat.eq_or_lt_of_le h1 with rfl | h1
          · exact hc
          · exact k i h1 h2
        · exact .inr ⟨e, i, by omega, k2, k3⟩
    · rw [show decide ((v : Int) < (len : Int)) = false by simpa using hv]
      exact .inl ⟨rfl, fun i h1 h2 => by omega⟩
/-- a loop that looks for the first place -/
theorem find_loop {β : Type} {L : Nat → Nat → Sum β Unit} {len : Nat} {c : Nat → Bool} {r : Nat → β} (h0 : ∀ v, L 0 v = .inr ()) (hs : ∀ n v, L (n + 1) v = (bif decide ((v : Int) < (len : Int)) then (bif c v then .inl (r v) else L n (v + 1)) else .inr ())) :
    ∀ n v, len < n + v → (L n v = .inr () ∧ ∀ i, v ≤ i → i < len → c i = false) ∨ (∃ i, L n v = .inl (r i) ∧ v ≤ i ∧ i < len ∧ c i = true ∧ ∀ k, v ≤ k → k < i → c k = false)
  | 0, v, h => .inl ⟨h0 v, fun i h1 h2 => by omega⟩
  | n + 1, v, h => by
    rw [hs]
    by_cases hv : v < len
    · rw [show decide ((v : Int) < (len : Int)) = true by simpa using hv]
      cases hc : c v with
      | true => exact .inr ⟨v, rfl, Nat.le_refl _, hv, hc, fun k h1 h2 => by omega⟩
      | false =>
        rcases find_loop h0 hs n (v + 1) (by omega) with ⟨e, k⟩ | ⟨i, e, k1, k2, k3, k4⟩
        · refine .inl ⟨e, fun i h1 h2 => ?_⟩
          rcases Nat.eq_or_lt_of_le h1 with rfl | h1
          · exact hc
          · exact k i h1 h2
        · refine .inr ⟨i, e, by omega, k2, k3, fun k h1 h2 => ?_⟩
          rcases Nat.eq_or_lt_of_le h1 with rfl | h1
          · exact hc
          · exact k4 k h1 h2
    · rw [show decide ((v : Int) < (len : Int)) = false by simpa using hv]
      exact .inl ⟨rfl, fun i h1 h2 => by omega⟩
/-- the same, as a Boolean -/
theorem all_match {L : Nat → Nat → Sum Bool Unit} {len : Nat} {c : Nat → Bool} (h0 : ∀ v, L 0 v = .inr ()) (hs : ∀ n v, L (n + 1) v = (bif decide ((v : Int) < (len : Int)) then (bif c v then .inl false else L n (v + 1)) else .inr ())) (n v : Nat) (h : len < n + v) (X : Bool) :
    (match L n v with | .inl r => r | .inr _ => X) = true ↔ (∀ i, v ≤ i → i < len → c i = false) ∧ X = true := by
  rcases all_loop h0 hs n v h with ⟨e, k⟩ | ⟨e, i, k1, k2, k3⟩
  · rw [e]; simp only; exact ⟨fun hx => ⟨k, hx⟩, fun hx => hx.2⟩
  · rw [e]; simp only
    constructor
    · intro hx; cases hx
    · intro hx; rw [hx.1 i k1 k2] at k3; cases k3
theorem any_match {L : Nat → Nat → Sum Bool Unit} {len : Nat} {c : Nat → Bool} (h0 : ∀ v, L 0 v = .inr ()) (hs : ∀ n v, L (n + 1) v = (bif decide ((v : Int) < (len : Int)) then (bif c v then .inl true else L n (v + 1)) else .inr ())) (n v : Nat) (h : len < n + v) :
    (match L n v with | .inl r => r | .inr _ => false) = true ↔ ∃ i, v ≤ i ∧ i < len ∧ c i = true := by
  rcases find_loop (r := fun _ => true) h0 hs n v h with ⟨e, k⟩ | ⟨i, e, k1, k2, k3, k4⟩
  · rw [e]; simp only
    constructor
    · intro hx; cases hx
    · rintro ⟨i, h1, h2, h3⟩; rw [k i h1 h2] at h3; cases h3
  · rw [e]; exact ⟨fun _ => ⟨i, k1, k2, k3⟩, fun _ => rfl⟩
theorem nth_take {α : Type} [Inhabited α] {l : List α} {i n : Nat} (h : i < n) : nth (l.take n) i = nth l i := by
  unfold nth; simp [List.getD_eq_getElem?_getD, List.getElem?_take, h]
@[simp] theorem s_l1In_eq (a0 a1 a2 : Int) : s_l1In a0 a1 a2 = i_InRange a0 a1 a2 := rfl

@[simp] theorem s_FindKey_1_eq (a0 : List TKey) (a1 : Int) : ∀ (n : Nat) (v0 : Nat), s_FindKey_1 a0 a1 n v0 = i_FindKey_1 a0 a1 n v0 := by
  intro n
  induction n with
  | zero => intros; rfl
  | succ n ih => intros; simp [s_FindKey_1, i_FindKey_1, ih, ByteArray.append_assoc]
@[simp] theorem s_FindKey_eq (a0 : List TKey) (a1 : Int) : s_FindKey a0 a1 = i_FindKey a0 a1 := by simp [s_FindKey, i_FindKey]
@[simp] theorem s_BestMethod_1_eq (a0 : List TMethod) (a1 : Int) : ∀ (n : Nat) (v0 : Int) (v1 : Nat), s_BestMethod_1 a0 a1 n v0 v1 = i_BestMethod_1 a0 a1 n v0 v1 := by
  intro n
  induction n with
  | zero => intros; rfl
  | succ n ih => intros; simp [s_BestMethod_1, i_BestMethod_1, ih, ByteArray.append_assoc]
@[simp] theorem s_BestMethod_eq (a0 : List TMethod) (a1 : Int) : s_BestMethod a0 a1 = i_BestMethod a0 a1 := by simp [s_BestMethod, i_BestMethod]
@[simp] theorem s_l34Has_eq (a0 : TWorld) (a1 : Int) : s_l34Has a0 a1 = i_isArchiveOf a0 a1 := by simp [s_l34Has, i_isArchiveOf]

@[simp] theorem s_IsDocument_eq (a0 : TDocument) : s_IsDocument a0 = i_IsDocument a0 := by
  rw [Bool.eq_iff_iff]
  have hs : s_IsDocument a0 = true ↔ _ := (all_match (L := s_IsDocument_1 a0) (fun _ => rfl) (fun _ _ => rfl) (a0.Parts.length + 1) 0 (by omega) _).trans (and_congr_right fun _ => all_match (L := s_IsDocument_2 a0) (fun _ => rfl) (fun _ _ => rfl) (a0.Salts.length + 1) 0 (by omega) _)
  rw [hs]
  unfold i_IsDocument
  have hi : ∀ b : Bool, (bif b then false else (match i_IsDocument_1 a0 (a0.Parts.length + 1) 0 with | .inl r1 => r1 | .inr _ => true)) = true ↔ b = false ∧ _ := fun b => by
    cases b
    · exact (all_match (L := i_IsDocument_1 a0) (fun _ => rfl) (fun _ _ => rfl) (a0.Parts.length + 1) 0 (by omega) true).trans (by simp only [true_and, and_true]; exact Iff.rfl)
    · simp
  refine Iff.trans ?_ (hi _).symm
  simp only [s_l1In_eq, Bool.or_eq_false_iff, Bool.not_eq_false', Bool.and_eq_true, beq_iff_eq, bne_eq_false_iff_eq, Bool.not_eq_eq_eq_not, Bool.not_false]
  constructor
  · rintro ⟨h1, h2, h3, h4⟩
    exact ⟨⟨h3, h4⟩, fun i _ hi => ⟨h1 i (Nat.zero_le _) hi, h2 i (Nat.zero_le _) (by omega)⟩⟩
  · rintro ⟨⟨h3, h4⟩, h⟩
    exact ⟨fun i _ hi => (h i (Nat.zero_le _) hi).1, fun i _ hi => (h i (Nat.zero_le _) (by omega)).2, h3, h4⟩

@[simp] theorem s_Mod_eq (a0 : Int) (a1 : Int) : s_Mod a0 a1 = i_Mod a0 a1 := by simp [s_Mod, i_Mod]
@[simp] theorem s_Hash_1_eq (a0 : List Int) : ∀ (n : Nat) (v0 : Int) (v1 : Nat), s_Hash_1 a0 n v0 v1 = i_Hash_1 a0 n v0 v1 := by
  intro n
  induction n with
  | zero => intros; rfl
  | succ n ih => intros; simp [s_Hash_1, i_Hash_1, ih, ByteArray.append_assoc]
@[simp] theorem s_Hash_eq (a0 : List Int) : s_Hash a0 = i_Hash a0 := by simp [s_Hash, i_Hash]
@[simp] theorem s_DigestOf_eq (a0 : Int) (a1 : List Int) : s_DigestOf a0 a1 = i_DigestOf a0 a1 := by simp [s_DigestOf, i_DigestOf]
theorem s_PartDigest_1_eq (a1 : ByteArray) : ∀ (n : Nat) (p l : List Int) (v : Nat), a1.size < n + v → v ≤ a1.size → s_PartDigest_1 a1 n (p ++ l) v = p ++ i_bytesOf_1 a1.data.toList n l v := by
  intro n
  induction n with
  | zero =>
    intro p l v h hv
    omega
  | succ n ih =>
    intro p l v h hv0
    have hs : a1.size = a1.data.toList.length := (Array.length_toList).symm
    rw [s_PartDigest_1, i_bytesOf_1, ← hs]
    by_cases hv : v < a1.size
    · rw [show decide ((v : Int) < (a1.size : Int)) = true by simpa using hv]
      simp only [cond_true]
      rw [List.append_assoc, ih p _ (v + 1) (by omega) (by omega)]
      rfl
    · rw [show decide ((v : Int) < (a1.size : Int)) = false by simpa using hv]
      rfl
@[simp] theorem s_PartDigest_eq (a0 : Int) (a1 : ByteArray) (a2 : Int) : s_PartDigest a0 a1 a2 = i_PartDigest a0 a1 a2 := by
  have := s_PartDigest_1_eq a1 (a1.size + 1) [a2] [] 0 (by omega) (by omega)
  simp only [List.append_nil] at this
  simp only [s_PartDigest, i_PartDigest, i_bytesOf, this, s_DigestOf_eq]
  rfl

@[simp] theorem s_DocDigest_1_eq (a0 : Int) (a1 : TDocument) : ∀ (n : Nat) (v0 : List Int) (v1 : Nat), s_DocDigest_1 a0 a1 n v0 v1 = i_DocDigest_1 a0 a1 n v0 v1 := by
  intro n
  induction n with
  | zero => intros; rfl
  | succ n ih => intros; simp [s_DocDigest_1, i_DocDigest_1, ih, ByteArray.append_assoc]
@[simp] theorem s_DocDigest_eq (a0 : Int) (a1 : TDocument) : s_DocDigest a0 a1 = i_DocDigest a0 a1 := by simp [s_DocDigest, i_DocDigest]
@[simp] theorem s_SignatureInts_eq (a0 : TSignature) : s_SignatureInts a0 = i_SignatureInts a0 := by simp [s_SignatureInts, i_SignatureInts]
@[simp] theorem s_KeyedHash_eq (a0 : Int) (a1 : List Int) : s_KeyedHash a0 a1 = i_KeyedHash a0 a1 := by simp [s_KeyedHash, i_KeyedHash]
@[simp] theorem s_MarkWith_eq (a0 : TKey) (a1 : List Int) : s_MarkWith a0 a1 = i_MarkWith a0 a1 := by simp [s_MarkWith, i_MarkWith]
@[simp] theorem s_IsSignature_eq (a0 : TSignature) : s_IsSignature a0 = i_IsSignature a0 := by simp [s_IsSignature, i_IsSignature]
@[simp] theorem s_SignDigest_eq (a0 : List TKey) (a1 : TSignature) : s_SignDigest a0 a1 = i_SignDigest a0 a1 := by
  by_cases h : i_FindKey a0 a1.Key < 0 <;> simp [s_SignDigest, i_SignDigest, i_markBy, h]

@[simp] theorem s_SignPiece_eq (a0 : TSignature) : s_SignPiece a0 = i_SignPiece a0 := by simp [s_SignPiece, i_SignPiece]
@[simp] theorem s_CertInts_eq (a0 : TCert) : s_CertInts a0 = i_CertInts a0 := by simp [s_CertInts, i_CertInts]
@[simp] theorem s_CertPiece_eq (a0 : TCert) : s_CertPiece a0 = i_CertPiece a0 := by simp [s_CertPiece, i_CertPiece]
@[simp] theorem s_FindItem_1_eq (a0 : TArchive) (a1 : Int) : ∀ (n : Nat) (v0 : Nat), s_FindItem_1 a0 a1 n v0 = i_FindItem_1 a0 a1 n v0 := by
  intro n
  induction n with
  | zero => intros; rfl
  | succ n ih => intros; simp [s_FindItem_1, i_FindItem_1, ih, ByteArray.append_assoc]
@[simp] theorem s_FindItem_eq (a0 : TArchive) (a1 : Int) : s_FindItem a0 a1 = i_FindItem a0 a1 := by simp [s_FindItem, i_FindItem]
@[simp] theorem s_l4Time_eq (a0 : Int) : s_l4Time a0 = i_isTime a0 := rfl

@[simp] theorem i_EqualInts_eq (a0 a1 : List Int) : i_EqualInts a0 a1 = decide (a0 = a1) := eq_fn (F := i_EqualInts_1 a0 a1) (c := fun i => (nth a0 i) != (nth a1 i)) (fun i => by simp [bne, Bool.beq_eq_decide_eq]) (fun _ => rfl) (fun _ _ => rfl)
@[simp] theorem s_EqualInts_eq (a0 a1 : List Int) : s_EqualInts a0 a1 = decide (a0 = a1) := eq_fn (F := s_EqualInts_1 a0 a1) (c := fun i => (nth a0 i) != (nth a1 i)) (fun i => by simp [bne, Bool.beq_eq_decide_eq]) (fun _ => rfl) (fun _ _ => rfl)

@[simp] theorem i_EqualPieces_eq (a0 a1 : TPiece) : i_EqualPieces a0 a1 = decide (a0 = a1) := by
  obtain ⟨t, p, s⟩ := a0; obtain ⟨t', p', s'⟩ := a1
  by_cases h1 : t = t' <;> by_cases h2 : p = p' <;> by_cases h3 : s = s' <;> simp_all [i_EqualPieces]
@[simp] theorem s_EqualPieces_eq (a0 a1 : TPiece) : s_EqualPieces a0 a1 = decide (a0 = a1) := by
  obtain ⟨t, p, s⟩ := a0; obtain ⟨t', p', s'⟩ := a1
  by_cases h1 : t = t' <;> by_cases h2 : p = p' <;> by_cases h3 : s = s' <;> simp_all [s_EqualPieces]

theorem s_FindPiece_has (a0 : TStrand) {k : Nat} (hk : k < a0.Pieces.length) : decide (s_FindPiece a0 (nth a0.Pieces k) < (k : Int)) = i_hasPiece (a0.Pieces.take k) (nth a0.Pieces k) := by
  rw [Bool.eq_iff_iff]
  have hi : i_hasPiece (a0.Pieces.take k) (nth a0.Pieces k) = true ↔ _ := any_match (L := i_hasPiece_1 (a0.Pieces.take k) (nth a0.Pieces k)) (fun _ => rfl) (fun _ _ => rfl) _ 0 (by omega)
  rw [hi]
  unfold s_FindPiece
  have hl : (a0.Pieces.take k).length = k := by simp; omega
  rw [hl]
  rcases find_loop (L := s_FindPiece_1 a0 (nth a0.Pieces k)) (r := fun i => (i : Int)) (fun _ => rfl) (fun _ _ => rfl) (a0.Pieces.length + 1) 0 (by omega) with ⟨e, p⟩ | ⟨i, e, p1, p2, p3, p4⟩
  · have := p k (Nat.zero_le _) hk
    simp at this
  · rw [e]
    simp only [decide_eq_true_eq]
    constructor
    · intro h
      exact ⟨i, Nat.zero_le _, by omega, by rw [nth_take (by omega)]; simpa using p3⟩
    · rintro ⟨j, _, hj, hc⟩
      rw [nth_take hj] at hc
      rcases Nat.lt_or_ge j i with h | h
      · have := p4 j (Nat.zero_le _) h; simp at this hc; exact absurd hc this
      · omega

@[simp] theorem s_IsStrand_eq (a0 : TStrand) : s_IsStrand a0 = i_IsStrand a0 := by
  rw [Bool.eq_iff_iff]
  have hs : s_IsStrand a0 = true ↔ _ := (all_match (L := s_IsStrand_1 a0) (fun _ => rfl) (fun _ _ => rfl) (a0.Pieces.length + 1) 0 (by omega) _).trans (and_congr_right fun _ => all_match (L := s_IsStrand_2 a0) (fun _ => rfl) (fun _ _ => rfl) (a0.Chain.length + 1) 0 (by omega) _)
  rw [hs]
  unfold i_IsStrand
  have hi : ∀ b : Bool, (bif b then false else (match i_IsStrand_1 a0 (a0.Pieces.length + 1) 0 with | .inl r1 => r1 | .inr _ => (match i_IsStrand_2 a0 (a0.Chain.length + 1) 0 with | .inl r2 => r2 | .inr _ => true))) = true ↔ b = false ∧ _ := fun b => by
    cases b
    · exact ((all_match (L := i_IsStrand_1 a0) (fun _ => rfl) (fun _ _ => rfl) (a0.Pieces.length + 1) 0 (by omega) _).trans (and_congr_right fun _ => all_match (L := i_IsStrand_2 a0) (fun _ => rfl) (fun _ _ => rfl) (a0.Chain.length + 1) 0 (by omega) true)).trans (by simp only [true_and, and_true]; exact Iff.rfl)
    · simp
  refine Iff.trans ?_ (hi _).symm
  simp only [s_l1In_eq, Bool.or_eq_false_iff, Bool.not_eq_false', Bool.and_eq_true, Bool.not_eq_eq_eq_not, Bool.not_false]
  constructor
  · rintro ⟨h1, h2, h3, h4⟩
    exact ⟨⟨h3, by simpa using h4⟩, fun i hz hi => by rw [← s_FindPiece_has a0 hi]; exact h1 i hz hi, fun i hz hi => by simpa using h2 i hz hi⟩
  · rintro ⟨⟨h3, h4⟩, h1, h2⟩
    exact ⟨fun i hz hi => by rw [s_FindPiece_has a0 hi]; exact h1 i hz hi, fun i hz hi => by simpa using h2 i hz hi, h3, by simpa using h4⟩

@[simp] theorem s_IsItem_eq (a0 : TItem) : s_IsItem a0 = i_IsItem a0 := by simp [s_IsItem, i_IsItem]
@[simp] theorem s_IsArchive_1_eq (a0 : TArchive) : ∀ (n : Nat) (v0 : Nat), s_IsArchive_1 a0 n v0 = i_IsArchive_1 a0 n v0 := by
  intro n
  induction n with
  | zero => intros; rfl
  | succ n ih => intros; simp [s_IsArchive_1, i_IsArchive_1, ih, ByteArray.append_assoc]
@[simp] theorem s_IsArchive_eq (a0 : TArchive) : s_IsArchive a0 = i_IsArchive a0 := by simp [s_IsArchive, i_IsArchive]
theorem drop_nth {l : List TItem} {i : Nat} (h : i < l.length) : l.drop i = nth l i :: l.drop (i + 1) := by
  rw [List.drop_eq_getElem_cons h]; simp [nth, List.getD_eq_getElem?_getD, List.getElem?_eq_getElem h]
theorem add_t (a0 : TArchive) (a1 : TItem) : ∀ (m i : Nat) (l : List TItem), a0.Items.length < m + i → i ≤ a0.Items.length → s_AddItem_1 a0 a1 m true i l = (true, l ++ a0.Items.drop i)
  | 0, i, l, h, hi => by omega
  | m + 1, i, l, h, hi => by
    simp only [s_AddItem_1]
    cases hc : decide ((↑i : Int) < (↑a0.Items.length : Int)) with
    | false =>
      have : ¬ i < a0.Items.length := by simpa using hc
      simp only [cond_false]; rw [List.drop_eq_nil_of_le (by omega)]; simp
    | true =>
      have hlt : i < a0.Items.length := by simpa using hc
      simp only [cond_true, Bool.not_true, Bool.false_and, cond_false]
      rw [add_t a0 a1 m (i + 1) _ (by omega) hlt, drop_nth hlt]; simp
theorem add_f (a0 : TArchive) (a1 : TItem) (hne : ∀ k, k < a0.Items.length → (nth a0.Items k).Id ≠ a1.Id) : ∀ (m i : Nat) (l : List TItem), a0.Items.length < m + i → i ≤ a0.Items.length →
    i ≤ i_AddItem_1 a0 a1 m i ∧ i_AddItem_1 a0 a1 m i ≤ a0.Items.length ∧
    s_AddItem_1 a0 a1 m false i l = (bif decide (i_AddItem_1 a0 a1 m i < a0.Items.length) then (true, l ++ (a0.Items.take (i_AddItem_1 a0 a1 m i)).drop i ++ [a1] ++ a0.Items.drop (i_AddItem_1 a0 a1 m i)) else (false, l ++ a0.Items.drop i))
  | 0, i, l, h, hi => by omega
  | m + 1, i, l, h, hi => by
    by_cases hlt : i < a0.Items.length
    · have hc : decide ((↑i : Int) < (↑a0.Items.length : Int)) = true := by simpa using hlt
      have hn := hne i hlt
      by_cases hid : a1.Id < (nth a0.Items i).Id
      · have e1 : i_AddItem_1 a0 a1 (m + 1) i = i := by
          simp only [i_AddItem_1, hc, show decide ((nth a0.Items i).Id < a1.Id) = false by simp; omega, Bool.true_and, cond_false]
        rw [e1]
        refine ⟨Nat.le_refl _, by omega, ?_⟩
        simp only [s_AddItem_1, hc, show decide (a1.Id < (nth a0.Items i).Id) = true by simpa using hid, Bool.not_false, Bool.true_and, cond_true]
        rw [add_t a0 a1 m (i + 1) _ (by omega) hlt, show decide (i < a0.Items.length) = true by simpa using hlt, drop_nth hlt, List.drop_eq_nil_of_le (as := a0.Items.take i) (by rw [List.length_take]; omega)]
        simp
      · have h2 : (nth a0.Items i).Id < a1.Id := by omega
        have e1 : i_AddItem_1 a0 a1 (m + 1) i = i_AddItem_1 a0 a1 m (i + 1) := by
          simp only [i_AddItem_1, hc, show decide ((nth a0.Items i).Id < a1.Id) = true by simpa using h2, Bool.true_and, cond_true]
        rw [e1]
        obtain ⟨k1, k2, k3⟩ := add_f a0 a1 hne m (i + 1) (l ++ [nth a0.Items i]) (by omega) hlt
        refine ⟨by omega, k2, ?_⟩
        simp only [s_AddItem_1, hc, show decide (a1.Id < (nth a0.Items i).Id) = false by simpa using hid, Bool.not_false, Bool.true_and, cond_true, cond_false]
        rw [k3]
        have ht : (a0.Items.take (i_AddItem_1 a0 a1 m (i + 1))).drop i = nth a0.Items i :: (a0.Items.take (i_AddItem_1 a0 a1 m (i + 1))).drop (i + 1) := by
          have hl2 : i < (a0.Items.take (i_AddItem_1 a0 a1 m (i + 1))).length := by simp; omega
          rw [drop_nth hl2]
          congr 1
          simp only [nth, List.getD_eq_getElem?_getD]
          rw [List.getElem?_take_of_lt (by omega)]
        rw [ht, drop_nth hlt]
        cases decide (i_AddItem_1 a0 a1 m (i + 1) < a0.Items.length) <;> simp
    · have hc : decide ((↑i : Int) < (↑a0.Items.length : Int)) = false := by simpa using hlt
      have e1 : i_AddItem_1 a0 a1 (m + 1) i = i := by simp only [i_AddItem_1, hc, Bool.false_and, cond_false]
      rw [e1]
      refine ⟨Nat.le_refl _, by omega, ?_⟩
      simp only [s_AddItem_1, hc, cond_false]
      rw [show decide (i < a0.Items.length) = false by simpa using hlt, List.drop_eq_nil_of_le (as := a0.Items.take i) (by rw [List.length_take]; omega)]; simp; omega
theorem i_FindItem_none {a0 : TArchive} {s : Int} (h : i_FindItem a0 s < 0) : ∀ k, k < a0.Items.length → (nth a0.Items k).Id ≠ s := by
  unfold i_FindItem at h
  intro k hk
  rcases find_loop (β := Int) (L := i_FindItem_1 a0 s) (len := a0.Items.length) (c := fun v => (nth a0.Items v).Id == s) (r := fun v => (v : Int)) (fun _ => rfl) (fun _ _ => rfl) (a0.Items.length + 1) 0 (by omega) with ⟨e, h2⟩ | ⟨i, e, _, _, hc, _⟩
  · simpa using h2 k (Nat.zero_le _) hk
  · rw [e] at h; simp at h; omega
@[simp] theorem s_AddItem_eq (a0 : TArchive) (a1 : TItem) : s_AddItem a0 a1 = i_AddItem a0 a1 := by
  simp only [s_AddItem, i_AddItem, s_IsArchive_eq, s_FindItem_eq]
  rw [Bool.or_comm]
  cases hc : (decide (i_FindItem a0 a1.Id ≥ 0) || !i_IsArchive a0) with
  | true => rfl
  | false =>
    have hf : i_FindItem a0 a1.Id < 0 := by simp at hc; exact hc.1
    obtain ⟨_, k2, k3⟩ := add_f a0 a1 (i_FindItem_none hf) (a0.Items.length + 1) 0 [] (by omega) (Nat.zero_le _)
    simp only [cond_false]
    rw [k3]
    generalize i_AddItem_1 a0 a1 (a0.Items.length + 1) 0 = z at k2 ⊢
    by_cases hz : z < a0.Items.length
    · rw [show decide (z < a0.Items.length) = true by simpa using hz]
      simp
    · rw [show decide (z < a0.Items.length) = false by simpa using hz]
      have hz' : z = a0.Items.length := by omega
      subst hz'
      simp

def sgAt (a0 : TWorld) (a2 : Int) (a3 : TDocument) (a4 : Int) (v : Nat) : TSignature × Bool := i_SignDigest a0.Frame.Keys (TSignature.mk a2 (nth a0.Certs v).Serial (i_BestMethod a0.Frame.Methods a0.Frame.Now) (i_DocDigest (i_BestMethod a0.Frame.Methods a0.Frame.Now) a3) 1 a4 0 0 0)
def itAt (a0 : TWorld) (a2 : Int) (a3 : TDocument) (a4 a5 : Int) (v : Nat) : TItem := TItem.mk a0.Next a5 a3 (sgAt a0 a2 a3 a4 v).1 (TStrand.mk ([(i_SignPiece (sgAt a0 a2 a3 a4 v).1), (i_CertPiece (nth a0.Certs v))] : List TPiece) ([] : List TRenewal))
def inWith (a0 : TWorld) (a1 : Int) (it : TItem) : TWorld := TWorld.mk a0.Frame a0.Certs a0.Ended (a0.Archives.set a1.toNat (i_AddItem (nth a0.Archives a1.toNat) it).1) a0.Seqs a0.Lying (W (a0.Next + 1)) a0.Forged
def inIf (a0 : TWorld) (a1 : Int) (b : Bool) (it : TItem) : TWorld × Bool := bif (!b) || !(i_AddItem (nth a0.Archives a1.toNat) it).2 then (a0, false) else (inWith a0 a1 it, true)
theorem cert_loop (a0 : TWorld) (a1 a2 : Int) (a3 : TDocument) (a4 a5 : Int) :
    ∀ (m v : Nat), (match i_signInto_1 a0 a1 a2 a3 a4 a5 m v with | .inl r1 => r1 | .inr _ => (a0, false)) = (match s_l34CertOf_1 a0 a2 m v with | .inl k => inIf a0 a1 (sgAt a0 a2 a3 a4 k.toNat).2 (itAt a0 a2 a3 a4 a5 k.toNat) | .inr _ => (a0, false))
  | 0, v => rfl
  | m + 1, v => by
    have ih := cert_loop a0 a1 a2 a3 a4 a5 m (v + 1)
    simp only [i_signInto_1, s_l34CertOf_1]
    cases decide ((↑v : Int) < (↑a0.Certs.length : Int)) with
    | false => rfl
    | true =>
      simp only [cond_true, bne]
      cases ((nth a0.Certs v).Key == a2) with
      | false => exact ih
      | true =>
        simp only [cond_true, cond_false, Bool.not_true]
        rw [show ((v : Int)).toNat = v from rfl]
        show (match (bif ((!(sgAt a0 a2 a3 a4 v).2) || !(i_AddItem (nth a0.Archives a1.toNat) (itAt a0 a2 a3 a4 a5 v)).2) then (Sum.inl (a0, false) : Sum (TWorld × Bool) Unit) else .inl (inWith a0 a1 (itAt a0 a2 a3 a4 a5 v), true)) with | .inl r1 => r1 | .inr _ => (a0, false)) = inIf a0 a1 (sgAt a0 a2 a3 a4 v).2 (itAt a0 a2 a3 a4 a5 v)
        unfold inIf
        cases ((!(sgAt a0 a2 a3 a4 v).2) || !(i_AddItem (nth a0.Archives a1.toNat) (itAt a0 a2 a3 a4 a5 v)).2) <;> rfl
theorem cert_at (a0 : TWorld) (a2 : Int) : ∀ (m v : Nat), s_l34CertOf_1 a0 a2 m v = .inr () ∨ ∃ k : Nat, s_l34CertOf_1 a0 a2 m v = .inl (k : Int)
  | 0, v => .inl rfl
  | m + 1, v => by
    have ih := cert_at a0 a2 m (v + 1)
    simp only [s_l34CertOf_1]
    cases decide ((↑v : Int) < (↑a0.Certs.length : Int)) with
    | false => exact .inl rfl
    | true =>
      cases ((nth a0.Certs v).Key == a2) with
      | false => exact ih
      | true => exact .inr ⟨v, rfl⟩
theorem s_l34Item_at (a0 : TWorld) (a1 : Int) (a2 : TDocument) (a3 a4 : Int) : s_l34Item a0 a1 a2 a3 a4 = bif ((decide ((i_BestMethod a0.Frame.Methods a0.Frame.Now) < 0)) || (decide ((s_l34CertOf a0 a1) < 0))) then ((TItem.mk 0 0 (TDocument.mk 0 ([] : List ByteArray) ([] : List Int)) (TSignature.mk 0 0 0 0 0 0 0 0 0) (TStrand.mk ([] : List TPiece) ([] : List TRenewal))), false) else (itAt a0 a1 a2 a3 a4 (s_l34CertOf a0 a1).toNat, (sgAt a0 a1 a2 a3 (s_l34CertOf a0 a1).toNat).2) := by
  unfold s_l34Item
  simp only [s_BestMethod_eq, s_SignDigest_eq, s_DocDigest_eq, s_SignPiece_eq, s_CertPiece_eq]
  rfl
theorem signInto_eq (a0 : TWorld) (a1 a2 : Int) (a3 : TDocument) (a4 a5 : Int) : i_signInto a0 a1 a2 a3 a4 a5 = bif ((!(i_isArchiveOf a0 a1)) || (decide ((i_FindKey a0.Frame.Keys a2) < 0))) then (a0, false) else inIf a0 a1 (s_l34Item a0 a2 a3 a4 a5).2 (s_l34Item a0 a2 a3 a4 a5).1 := by
  unfold i_signInto
  cases ((!(i_isArchiveOf a0 a1)) || (decide ((i_FindKey a0.Frame.Keys a2) < 0))) with
  | true => rfl
  | false =>
    rw [s_l34Item_at]
    simp only [Bool.false_or, cond_false]
    refine Eq.trans (congrArg (fun z => bif decide ((i_BestMethod a0.Frame.Methods a0.Frame.Now) < 0) then (a0, false) else z) (cert_loop a0 a1 a2 a3 a4 a5 (a0.Certs.length + 1) 0)) ?_
    cases decide ((i_BestMethod a0.Frame.Methods a0.Frame.Now) < 0) with
    | true => rfl
    | false =>
      simp only [Bool.false_or, cond_false]
      rcases cert_at a0 a2 (a0.Certs.length + 1) 0 with h | ⟨k, h⟩
      · rw [h, show s_l34CertOf a0 a2 = -1 by unfold s_l34CertOf; rw [h]]; rfl
      · rw [h, show s_l34CertOf a0 a2 = (k : Int) by unfold s_l34CertOf; rw [h]]
        rw [show decide ((k : Int) < 0) = false by simp only [decide_eq_false_iff_not]; omega]
        rfl
theorem inIf_eq (a0 : TWorld) (a1 : Int) (b : Bool) (it : TItem) : (bif !b then (a0, false) else (bif !(i_AddItem (nth a0.Archives a1.toNat) it).2 then (a0, false) else (inWith a0 a1 it, true))) = inIf a0 a1 b it := by
  unfold inIf
  cases b <;> rfl

theorem i_AddItem_cnb (a0 : TArchive) (a1 : TItem) : cn (i_AddItem a0 a1).1 ≤ cn a0 + cn a1 := by
  unfold i_AddItem
  refine cond_cases (p := fun (r : TArchive × Bool) => cn r.1 ≤ cn a0 + cn a1) (by show cn a0 ≤ _; omega) ?_
  simp only
  refine cond_cases (p := fun (r : TArchive × Bool) => cn r.1 ≤ cn a0 + cn a1) (by show cn a0 ≤ _; omega) ?_
  generalize i_AddItem_1 a0 a1 (a0.Items.length + 1) 0 = z
  have h := cnL_append (cn : TItem → Nat) (a0.Items.take z) (a0.Items.drop z)
  rw [List.take_append_drop] at h
  simp only [TArchive.cn_eq, cn_list, cnL_append, cnL] at h ⊢
  omega
theorem inIf_cn (a0 : TWorld) (a1 : Int) (b : Bool) (it : TItem) : cn (inIf a0 a1 b it).1 ≤ 3 * cn a0 + cn it + 1000 := by
  refine cond_cases (p := fun (r : TWorld × Bool) => cn r.1 ≤ 3 * cn a0 + cn it + 1000) (by show cn a0 ≤ _; omega) ?_
  have h1 := world_set_cn a0 a1.toNat (i_AddItem (nth a0.Archives a1.toNat) it).1 true
  have h2 := i_AddItem_cnb (nth a0.Archives a1.toNat) it
  have h3 := world_nth_cn a0 a1.toNat
  simp only [TWorld.cn_eq, cn_int, inWith] at h1 h2 h3 ⊢
  omega
theorem s_l34Item_cn (a0 : TWorld) (a1 : Int) (a2 : TDocument) (a3 a4 : Int) : cn (s_l34Item a0 a1 a2 a3 a4).1 ≤ cn a2 + 1000 := by
  rw [s_l34Item_at]
  refine cond_cases (p := fun (r : TItem × Bool) => cn r.1 ≤ cn a2 + 1000) (Nat.le_trans (Nat.le_of_ble_eq_true rfl) (Nat.le_add_left 1000 _)) ?_
  have h1 : ∀ x : TSignature, cn x = 9 := fun _ => rfl
  have h2 : ∀ x : TSignature, cn (i_SignPiece x) = 11 := fun _ => rfl
  have h3 : ∀ x : TCert, cn (i_CertPiece x) = 9 := fun _ => rfl
  simp only [itAt, TItem.cn_eq, TStrand.cn_eq, cn_list, cnL, cn_int, h1, h2, h3]
  omega
theorem i_signInto_cn (a0 : TWorld) (a1 a2 : Int) (a3 : TDocument) (a4 a5 : Int) : cn (i_signInto a0 a1 a2 a3 a4 a5).1 ≤ 3 * cn a0 + cn a3 + 2000 := by
  rw [signInto_eq]
  refine cond_cases (p := fun (r : TWorld × Bool) => cn r.1 ≤ 3 * cn a0 + cn a3 + 2000) (by show cn a0 ≤ _; omega) ?_
  have h1 := inIf_cn a0 a1 (s_l34Item a0 a2 a3 a4 a5).2 (s_l34Item a0 a2 a3 a4 a5).1
  have h2 := s_l34Item_cn a0 a2 a3 a4 a5
  exact Nat.le_trans h1 (by omega)

@[simp] theorem s_StepSign_eq (a0 : TWorld) (a1 a2 : Int) (a3 : TDocument) (a4 a5 : Int) : s_StepSign a0 a1 a2 a3 a4 a5 = i_StepSign a0 a1 a2 a3 a4 a5 := by
  unfold s_StepSign i_StepSign
  simp only [s_l34Has_eq, s_FindKey_eq, s_AddItem_eq]
  rw [signInto_eq, ← inIf_eq]
  cases decide ((i_FindKey a0.Frame.Keys a2) < 0) <;> cases (i_isArchiveOf a0 a1) <;> cases decide ((nth a0.Frame.Keys (i_FindKey a0.Frame.Keys a2).toNat).Born > a0.Frame.Now) <;> rfl

theorem i_StepSign_cn (a0 : TWorld) (a1 a2 : Int) (a3 : TDocument) (a4 a5 : Int) (h : cn a0 ≤ 33554464) (h3 : cn a3 ≤ 33554464) : cn (i_StepSign a0 a1 a2 a3 a4 a5).1 ≤ 1152921504606846976 := by
  refine cond_cases (p := fun (r : TWorld × Bool) => cn r.1 ≤ 1152921504606846976) (by show cn a0 ≤ _; omega) ?_
  have := i_signInto_cn a0 a1 a2 a3 a4 a5
  simp only; omega

@[simp] theorem s_FindMethod_1_eq (a0 : List TMethod) (a1 : Int) : ∀ (n : Nat) (v0 : Nat), s_FindMethod_1 a0 a1 n v0 = i_FindMethod_1 a0 a1 n v0 := by
  intro n
  induction n with
  | zero => intros; rfl
  | succ n ih => intros; simp [s_FindMethod_1, i_FindMethod_1, ih, ByteArray.append_assoc]
@[simp] theorem s_FindMethod_eq (a0 : List TMethod) (a1 : Int) : s_FindMethod a0 a1 = i_FindMethod a0 a1 := by simp [s_FindMethod, i_FindMethod]
@[simp] theorem s_BreakOf_eq (a0 : List TMethod) (a1 : Int) : s_BreakOf a0 a1 = i_BreakOf a0 a1 := by
  unfold s_BreakOf i_BreakOf; rw [cond_neg]; simp

@[simp] theorem s_IsStolen_eq (a0 : TFrame) (a1 : Int) : s_IsStolen a0 a1 = i_IsStolen a0 a1 := by
  unfold s_IsStolen i_IsStolen i_breakOfKey
  by_cases h : i_FindKey a0.Keys a1 < 0
  · have : ¬ 0 ≤ i_FindKey a0.Keys a1 := by omega
    simp [this]
  · simp [h]

@[simp] theorem s_StepForge_eq (a0 : TWorld) (a1 a2 : Int) (a3 : TDocument) : s_StepForge a0 a1 a2 a3 = i_StepForge a0 a1 a2 a3 := by
  unfold s_StepForge i_StepForge
  simp only [s_l34Has_eq, s_IsStolen_eq, s_AddItem_eq]
  cases hs : i_IsStolen a0.Frame a2 with
  | false => cases i_isArchiveOf a0 a1 <;> rfl
  | true =>
    have hk : decide ((i_FindKey a0.Frame.Keys a2) < 0) = false := by
      simp only [i_IsStolen, Bool.and_eq_true, decide_eq_true_eq] at hs
      simp only [decide_eq_false_iff_not]; omega
    rw [signInto_eq, hk]
    cases (i_isArchiveOf a0 a1) with
    | false => rfl
    | true =>
      simp only [Bool.not_true, Bool.or_false, Bool.false_or, cond_false, inIf]
      cases (s_l34Item a0 a2 a3 0 10000).2 with
      | false => rfl
      | true =>
        cases (i_AddItem (nth a0.Archives a1.toNat) (s_l34Item a0 a2 a3 0 10000).1).2 <;> rfl

theorem i_StepForge_cn (a0 : TWorld) (a1 a2 : Int) (a3 : TDocument) (h : cn a0 ≤ 33554464) (h3 : cn a3 ≤ 33554464) : cn (i_StepForge a0 a1 a2 a3).1 ≤ 1152921504606846976 := by
  have h4 := i_signInto_cn a0 a1 a2 a3 0 10000
  refine cond_cases (p := fun (r : TWorld × Bool) => cn r.1 ≤ 1152921504606846976) (by show cn a0 ≤ _; omega) ?_
  refine cond_cases (p := fun (r : TWorld × Bool) => cn r.1 ≤ 1152921504606846976) ?_ (by simp only; omega)
  simp only [TWorld.cn_eq, cn_list, cnL_append, cnL, cn_int] at h4 h ⊢
  omega

end Go.Mo
