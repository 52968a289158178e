/- The models of the program and of the reference agree. No condition. -/
import Derived.Test.YtdbemnnipjknfaaGreatL
namespace Go.Mo
open Go.Vm
set_option linter.unusedSimpArgs false
set_option linter.unusedVariables false
theorem cond_neg (x : Int) {α : Type} (a b : α) : (bif decide (x < 0) then a else b) = (bif decide (0 ≤ x) then b else a) := by
  by_cases h : x < 0
  · rw [show decide (x < 0) = true by simpa using h, show decide (0 ≤ x) = false by simpa using h]; rfl
  · rw [show decide (x < 0) = false by simpa using h, show decide (0 ≤ x) = true by simp; omega]; rfl
/-- a loop that looks whether one of the places is bad -/
theorem all_loop {L : Nat → Nat → Sum Bool Unit} {len : Nat} {c : Nat → Bool} (h0 : ∀ v, L 0 v = .inr ()) (hs : ∀ n v, L (n + 1) v = (bif decide ((v : Int) < (len : Int)) then (bif c v then .inl false else L n (v + 1)) else .inr ())) :
    ∀ n v, len < n + v → (L n v = .inr () ∧ ∀ i, v ≤ i → i < len → c i = false) ∨ (L n v = .inl false ∧ ∃ i, v ≤ i ∧ i < len ∧ c i = true)
  | 0, v, h => .inl ⟨h0 v, fun i h1 h2 => by omega⟩
  | n + 1, v, h => by
    rw [hs]
    by_cases hv : v < len
    · rw [show decide ((v : Int) < (len : Int)) = true by simpa using hv]
      cases hc : c v with
      | true => exact .inr ⟨rfl, v, Nat.le_refl _, hv, hc⟩
      | false =>
        rcases all_loop h0 hs n (v + 1) (by omega) with ⟨e, k⟩ | ⟨e, i, k1, k2, k3⟩
        · refine .inl ⟨e, fun i h1 h2 => ?_⟩
          rcases Nat.eq_or_lt_of_le h1 with rfl | h1
          · exact hc
          · exact k i h1 h2
        · exact .inr ⟨e, i, by omega, k2, k3⟩
    · rw [show decide ((v : Int) < (len : Int)) = false by simpa using hv]
      exact .inl ⟨rfl, fun i h1 h2 => by omega⟩
/-- a loop that looks for the first place -/
theorem find_loop {β : Type} {L : Nat → Nat → Sum β Unit} {len : Nat} {c : Nat → Bool} {r : Nat → β} (h0 : ∀ v, L 0 v = .inr ()) (hs : ∀ n v, L (n + 1) v = (bif decide ((v : Int) < (len : Int)) then (bif c v then .inl (r v) else L n (v + 1)) else .inr ())) :
    ∀ n v, len < n + v → (L n v = .inr () ∧ ∀ i, v ≤ i → i < len → c i = false) ∨ (∃ i, L n v = .inl (r i) ∧ v ≤ i ∧ i < len ∧ c i = true ∧ ∀ k, v ≤ k → k < i → c k = false)
  | 0, v, h => .inl ⟨h0 v, fun i h1 h2 => by omega⟩
  | n + 1, v, h => by
    rw [hs]
    by_cases hv : v < len
    · rw [show decide ((v : Int) < (len : Int)) = true by simpa using hv]
      cases hc : c v with
      | true => exact .inr ⟨v, rfl, Nat.le_refl _, hv, hc, fun k h1 h2 => by omega⟩
      | false =>
        rcases find_loop h0 hs n (v + 1) (by omega) with ⟨e, k⟩ | ⟨i, e, k1, k2, k3, k4⟩
        · refine .inl ⟨e, fun i h1 h2 => ?_⟩
          rcases Nat.eq_or_lt_of_le h1 with rfl | h1
          · exact hc
          · exact k i h1 h2
        · refine .inr ⟨i, e, by omega, k2, k3, fun k h1 h2 => ?_⟩
          rcases Nat.eq_or_lt_of_le h1 with rfl | h1
          · exact hc
          · exact k4 k h1 h2
    · rw [show decide ((v : Int) < (len : Int)) = false by simpa using hv]
      exact .inl ⟨rfl, fun i h1 h2 => by omega⟩
/-- the same, as a Boolean -/
theorem all_match {L : Nat → Nat → Sum Bool Unit} {len : Nat} {c : Nat → Bool} (h0 : ∀ v, L 0 v = .inr ()) (hs : ∀ n v, L (n + 1) v = (bif decide ((v : Int) < (len : Int)) then (bif c v then .inl false else L n (v + 1)) else .inr ())) (n v : Nat) (h : len < n + v) (X : Bool) :
    (match L n v with | .inl r => r | .inr _ => X) = true ↔ (∀ i, v ≤ i → i < len → c i = false) ∧ X = true := by
  rcases all_loop h0 hs n v h with ⟨e, k⟩ | ⟨e, i, k1, k2, k3⟩
  · rw [e]; simp only; exact ⟨fun hx => ⟨k, hx⟩, fun hx => hx.2⟩
  · rw [e]; simp only
    constructor
    · intro hx; cases hx
    · intro hx; rw [hx.1 i k1 k2] at k3; cases k3
theorem any_match {L : Nat → Nat → Sum Bool Unit} {len : Nat} {c : Nat → Bool} (h0 : ∀ v, L 0 v = .inr ()) (hs : ∀ n v, L (n + 1) v = (bif decide ((v : Int) < (len : Int)) then (bif c v then .inl true else L n (v + 1)) else .inr ())) (n v : Nat) (h : len < n + v) :
    (match L n v with | .inl r => r | .inr _ => false) = true ↔ ∃ i, v ≤ i ∧ i < len ∧ c i = true := by
  rcases find_loop (r := fun _ => true) h0 hs n v h with ⟨e, k⟩ | ⟨i, e, k1, k2, k3, k4⟩
  · rw [e]; simp only
    constructor
    · intro hx; cases hx
    · rintro ⟨i, h1, h2, h3⟩; rw [k i h1 h2] at h3; cases h3
  · rw [e]; exact ⟨fun _ => ⟨i, k1, k2, k3⟩, fun _ => rfl⟩
theorem nth_take {α : Type} [Inhabited α] {l : List α} {i n : Nat} (h : i < n) : nth (l.take n) i = nth l i := by
  unfold nth; simp [List.getD_eq_getElem?_getD, List.getElem?_take, h]
@[simp] theorem s_l1In_eq (a0 a1 a2 : Int) : s_l1In a0 a1 a2 = i_InRange a0 a1 a2 := rfl

@[simp] theorem s_l4Time_eq (a0 : Int) : s_l4Time a0 = i_isTime a0 := rfl

@[simp] theorem s_IsValidKey_eq (a0 : Int) : s_IsValidKey a0 = i_IsValidKey a0 := by simp [s_IsValidKey, i_IsValidKey]
@[simp] theorem s_IsKey_eq (a0 : TKey) : s_IsKey a0 = i_IsKey a0 := by simp [s_IsKey, i_IsKey]
@[simp] theorem s_AreKeys_1_eq (a0 : List TKey) : ∀ (n : Nat) (v0 : Nat), s_AreKeys_1 a0 n v0 = i_AreKeys_1 a0 n v0 := by
  intro n
  induction n with
  | zero => intros; rfl
  | succ n ih => intros; simp [s_AreKeys_1, i_AreKeys_1, ih, ByteArray.append_assoc]
@[simp] theorem s_AreKeys_eq (a0 : List TKey) : s_AreKeys a0 = i_AreKeys a0 := by simp [s_AreKeys, i_AreKeys]
@[simp] theorem s_AreAuthorities_1_eq (a0 : List TAuthority) : ∀ (n : Nat) (v0 : Nat), s_AreAuthorities_1 a0 n v0 = i_AreAuthorities_1 a0 n v0 := by
  intro n
  induction n with
  | zero => intros; rfl
  | succ n ih => intros; simp [s_AreAuthorities_1, i_AreAuthorities_1, ih, ByteArray.append_assoc]
@[simp] theorem s_AreAuthorities_eq (a0 : List TAuthority) : s_AreAuthorities a0 = i_AreAuthorities a0 := by simp [s_AreAuthorities, i_AreAuthorities]
@[simp] theorem s_IsMethod_eq (a0 : TMethod) : s_IsMethod a0 = i_IsMethod a0 := by simp [s_IsMethod, i_IsMethod]
@[simp] theorem s_AreMethods_1_eq (a0 : List TMethod) : ∀ (n : Nat) (v0 : Nat), s_AreMethods_1 a0 n v0 = i_AreMethods_1 a0 n v0 := by
  intro n
  induction n with
  | zero => intros; rfl
  | succ n ih => intros; simp [s_AreMethods_1, i_AreMethods_1, ih, ByteArray.append_assoc]
@[simp] theorem s_AreMethods_eq (a0 : List TMethod) : s_AreMethods a0 = i_AreMethods a0 := by simp [s_AreMethods, i_AreMethods]
@[simp] theorem s_IsFrame_eq (a0 : TFrame) : s_IsFrame a0 = i_IsFrame a0 := by simp [s_IsFrame, i_IsFrame]
@[simp] theorem s_CertSpan_eq (a0 : TCert) : s_CertSpan a0 = i_CertSpan a0 := by simp [s_CertSpan, i_CertSpan]
@[simp] theorem s_IsSpan_eq (a0 : TSpan) : s_IsSpan a0 = i_IsSpan a0 := by simp [s_IsSpan, i_IsSpan]
@[simp] theorem s_IsCert_eq (a0 : TCert) : s_IsCert a0 = i_IsCert a0 := by simp [s_IsCert, i_IsCert]
@[simp] theorem s_CertInts_eq (a0 : TCert) : s_CertInts a0 = i_CertInts a0 := by simp [s_CertInts, i_CertInts]
@[simp] theorem s_FindKey_1_eq (a0 : List TKey) (a1 : Int) : ∀ (n : Nat) (v0 : Nat), s_FindKey_1 a0 a1 n v0 = i_FindKey_1 a0 a1 n v0 := by
  intro n
  induction n with
  | zero => intros; rfl
  | succ n ih => intros; simp [s_FindKey_1, i_FindKey_1, ih, ByteArray.append_assoc]
@[simp] theorem s_FindKey_eq (a0 : List TKey) (a1 : Int) : s_FindKey a0 a1 = i_FindKey a0 a1 := by simp [s_FindKey, i_FindKey]
@[simp] theorem s_Mod_eq (a0 : Int) (a1 : Int) : s_Mod a0 a1 = i_Mod a0 a1 := by simp [s_Mod, i_Mod]
@[simp] theorem s_Hash_1_eq (a0 : List Int) : ∀ (n : Nat) (v0 : Int) (v1 : Nat), s_Hash_1 a0 n v0 v1 = i_Hash_1 a0 n v0 v1 := by
  intro n
  induction n with
  | zero => intros; rfl
  | succ n ih => intros; simp [s_Hash_1, i_Hash_1, ih, ByteArray.append_assoc]
@[simp] theorem s_Hash_eq (a0 : List Int) : s_Hash a0 = i_Hash a0 := by simp [s_Hash, i_Hash]
@[simp] theorem s_KeyedHash_eq (a0 : Int) (a1 : List Int) : s_KeyedHash a0 a1 = i_KeyedHash a0 a1 := by simp [s_KeyedHash, i_KeyedHash]
@[simp] theorem s_MarkWith_eq (a0 : TKey) (a1 : List Int) : s_MarkWith a0 a1 = i_MarkWith a0 a1 := by simp [s_MarkWith, i_MarkWith]
@[simp] theorem s_CheckMark_eq (a0 : List TKey) (a1 : Int) (a2 : List Int) (a3 : Int) : s_CheckMark a0 a1 a2 a3 = i_CheckMark a0 a1 a2 a3 := by
  unfold s_CheckMark i_CheckMark i_markBy
  rw [cond_neg]
  cases h : decide (0 ≤ i_FindKey a0 a1) <;> simp [h]

@[simp] theorem s_OwnerOf_eq (a0 : List TKey) (a1 : Int) : s_OwnerOf a0 a1 = i_OwnerOf a0 a1 := by simp [s_OwnerOf, i_OwnerOf, cond_neg]

@[simp] theorem s_CheckCert_eq (a0 : List TKey) (a1 : TCert) : s_CheckCert a0 a1 = i_CheckCert a0 a1 := by simp [s_CheckCert, i_CheckCert, Bool.beq_comm]

@[simp] theorem s_FindCert_1_eq (a0 : List TCert) (a1 : Int) : ∀ (n : Nat) (v0 : Nat), s_FindCert_1 a0 a1 n v0 = i_FindCert_1 a0 a1 n v0 := by
  intro n
  induction n with
  | zero => intros; rfl
  | succ n ih => intros; simp [s_FindCert_1, i_FindCert_1, ih, ByteArray.append_assoc]
@[simp] theorem s_FindCert_eq (a0 : List TCert) (a1 : Int) : s_FindCert a0 a1 = i_FindCert a0 a1 := by simp [s_FindCert, i_FindCert]
@[simp] theorem s_IsDocument_eq (a0 : TDocument) : s_IsDocument a0 = i_IsDocument a0 := by
  rw [Bool.eq_iff_iff]
  have hs : s_IsDocument a0 = true ↔ _ := (all_match (L := s_IsDocument_1 a0) (fun _ => rfl) (fun _ _ => rfl) (a0.Parts.length + 1) 0 (by omega) _).trans (and_congr_right fun _ => all_match (L := s_IsDocument_2 a0) (fun _ => rfl) (fun _ _ => rfl) (a0.Salts.length + 1) 0 (by omega) _)
  rw [hs]
  unfold i_IsDocument
  have hi : ∀ b : Bool, (bif b then false else (match i_IsDocument_1 a0 (a0.Parts.length + 1) 0 with | .inl r1 => r1 | .inr _ => true)) = true ↔ b = false ∧ _ := fun b => by
    cases b
    · exact (all_match (L := i_IsDocument_1 a0) (fun _ => rfl) (fun _ _ => rfl) (a0.Parts.length + 1) 0 (by omega) true).trans (by simp only [true_and, and_true]; exact Iff.rfl)
    · simp
  refine Iff.trans ?_ (hi _).symm
  simp only [s_l1In_eq, Bool.or_eq_false_iff, Bool.not_eq_false', Bool.and_eq_true, beq_iff_eq, bne_eq_false_iff_eq, Bool.not_eq_eq_eq_not, Bool.not_false]
  constructor
  · rintro ⟨h1, h2, h3, h4⟩
    exact ⟨⟨h3, h4⟩, fun i _ hi => ⟨h1 i (Nat.zero_le _) hi, h2 i (Nat.zero_le _) (by omega)⟩⟩
  · rintro ⟨⟨h3, h4⟩, h⟩
    exact ⟨fun i _ hi => (h i (Nat.zero_le _) hi).1, fun i _ hi => (h i (Nat.zero_le _) (by omega)).2, h3, h4⟩

@[simp] theorem i_EqualInts_eq (a0 a1 : List Int) : i_EqualInts a0 a1 = decide (a0 = a1) := eq_fn (F := i_EqualInts_1 a0 a1) (c := fun i => (nth a0 i) != (nth a1 i)) (fun i => by simp [bne, Bool.beq_eq_decide_eq]) (fun _ => rfl) (fun _ _ => rfl)
@[simp] theorem s_EqualInts_eq (a0 a1 : List Int) : s_EqualInts a0 a1 = decide (a0 = a1) := eq_fn (F := s_EqualInts_1 a0 a1) (c := fun i => (nth a0 i) != (nth a1 i)) (fun i => by simp [bne, Bool.beq_eq_decide_eq]) (fun _ => rfl) (fun _ _ => rfl)

@[simp] theorem i_EqualPieces_eq (a0 a1 : TPiece) : i_EqualPieces a0 a1 = decide (a0 = a1) := by
  obtain ⟨t, p, s⟩ := a0; obtain ⟨t', p', s'⟩ := a1
  by_cases h1 : t = t' <;> by_cases h2 : p = p' <;> by_cases h3 : s = s' <;> simp_all [i_EqualPieces]
@[simp] theorem s_EqualPieces_eq (a0 a1 : TPiece) : s_EqualPieces a0 a1 = decide (a0 = a1) := by
  obtain ⟨t, p, s⟩ := a0; obtain ⟨t', p', s'⟩ := a1
  by_cases h1 : t = t' <;> by_cases h2 : p = p' <;> by_cases h3 : s = s' <;> simp_all [s_EqualPieces]

theorem s_FindPiece_has (a0 : TStrand) {k : Nat} (hk : k < a0.Pieces.length) : decide (s_FindPiece a0 (nth a0.Pieces k) < (k : Int)) = i_hasPiece (a0.Pieces.take k) (nth a0.Pieces k) := by
  rw [Bool.eq_iff_iff]
  have hi : i_hasPiece (a0.Pieces.take k) (nth a0.Pieces k) = true ↔ _ := any_match (L := i_hasPiece_1 (a0.Pieces.take k) (nth a0.Pieces k)) (fun _ => rfl) (fun _ _ => rfl) _ 0 (by omega)
  rw [hi]
  unfold s_FindPiece
  have hl : (a0.Pieces.take k).length = k := by simp; omega
  rw [hl]
  rcases find_loop (L := s_FindPiece_1 a0 (nth a0.Pieces k)) (r := fun i => (i : Int)) (fun _ => rfl) (fun _ _ => rfl) (a0.Pieces.length + 1) 0 (by omega) with ⟨e, p⟩ | ⟨i, e, p1, p2, p3, p4⟩
  · have := p k (Nat.zero_le _) hk
    simp at this
  · rw [e]
    simp only [decide_eq_true_eq]
    constructor
    · intro h
      exact ⟨i, Nat.zero_le _, by omega, by rw [nth_take (by omega)]; simpa using p3⟩
    · rintro ⟨j, _, hj, hc⟩
      rw [nth_take hj] at hc
      rcases Nat.lt_or_ge j i with h | h
      · have := p4 j (Nat.zero_le _) h; simp at this hc; exact absurd hc this
      · omega

@[simp] theorem s_IsStrand_eq (a0 : TStrand) : s_IsStrand a0 = i_IsStrand a0 := by
  rw [Bool.eq_iff_iff]
  have hs : s_IsStrand a0 = true ↔ _ := (all_match (L := s_IsStrand_1 a0) (fun _ => rfl) (fun _ _ => rfl) (a0.Pieces.length + 1) 0 (by omega) _).trans (and_congr_right fun _ => all_match (L := s_IsStrand_2 a0) (fun _ => rfl) (fun _ _ => rfl) (a0.Chain.length + 1) 0 (by omega) _)
  rw [hs]
  unfold i_IsStrand
  have hi : ∀ b : Bool, (bif b then false else (match i_IsStrand_1 a0 (a0.Pieces.length + 1) 0 with | .inl r1 => r1 | .inr _ => (match i_IsStrand_2 a0 (a0.Chain.length + 1) 0 with | .inl r2 => r2 | .inr _ => true))) = true ↔ b = false ∧ _ := fun b => by
    cases b
    · exact ((all_match (L := i_IsStrand_1 a0) (fun _ => rfl) (fun _ _ => rfl) (a0.Pieces.length + 1) 0 (by omega) _).trans (and_congr_right fun _ => all_match (L := i_IsStrand_2 a0) (fun _ => rfl) (fun _ _ => rfl) (a0.Chain.length + 1) 0 (by omega) true)).trans (by simp only [true_and, and_true]; exact Iff.rfl)
    · simp
  refine Iff.trans ?_ (hi _).symm
  simp only [s_l1In_eq, Bool.or_eq_false_iff, Bool.not_eq_false', Bool.and_eq_true, Bool.not_eq_eq_eq_not, Bool.not_false]
  constructor
  · rintro ⟨h1, h2, h3, h4⟩
    exact ⟨⟨h3, by simpa using h4⟩, fun i hz hi => by rw [← s_FindPiece_has a0 hi]; exact h1 i hz hi, fun i hz hi => by simpa using h2 i hz hi⟩
  · rintro ⟨⟨h3, h4⟩, h1, h2⟩
    exact ⟨fun i hz hi => by rw [s_FindPiece_has a0 hi]; exact h1 i hz hi, fun i hz hi => by simpa using h2 i hz hi, h3, by simpa using h4⟩

@[simp] theorem s_SignatureInts_eq (a0 : TSignature) : s_SignatureInts a0 = i_SignatureInts a0 := by simp [s_SignatureInts, i_SignatureInts]
@[simp] theorem s_SignPiece_eq (a0 : TSignature) : s_SignPiece a0 = i_SignPiece a0 := by simp [s_SignPiece, i_SignPiece]
@[simp] theorem s_IsItem_eq (a0 : TItem) : s_IsItem a0 = i_IsItem a0 := by simp [s_IsItem, i_IsItem]
@[simp] theorem s_IsArchive_1_eq (a0 : TArchive) : ∀ (n : Nat) (v0 : Nat), s_IsArchive_1 a0 n v0 = i_IsArchive_1 a0 n v0 := by
  intro n
  induction n with
  | zero => intros; rfl
  | succ n ih => intros; simp [s_IsArchive_1, i_IsArchive_1, ih, ByteArray.append_assoc]
@[simp] theorem s_IsArchive_eq (a0 : TArchive) : s_IsArchive a0 = i_IsArchive a0 := by simp [s_IsArchive, i_IsArchive]
theorem i_hasInt_iff (a0 : List Int) (a1 : Int) : i_hasInt a0 a1 = true ↔ ∃ i, 0 ≤ i ∧ i < a0.length ∧ (nth a0 i == a1) = true := by
  unfold i_hasInt i_indexOf
  rcases find_loop (L := i_indexOf_1 a0 a1) (r := fun i => (i : Int)) (fun _ => rfl) (fun _ _ => rfl) (a0.length + 1) 0 (by omega) with ⟨e, p⟩ | ⟨i, e, p1, p2, p3, p4⟩
  · rw [e]
    constructor
    · intro h; simp at h
    · rintro ⟨i, h1, h2, h3⟩; have := p i h1 h2; rw [h3] at this; cases this
  · rw [e]
    exact ⟨fun _ => ⟨i, p1, p2, p3⟩, fun _ => by simp⟩
@[simp] theorem s_l7Has_eq (a0 : List Int) (a1 : Int) : s_l7Has a0 a1 = i_hasInt a0 a1 := by
  rw [Bool.eq_iff_iff, i_hasInt_iff]
  exact any_match (L := s_l7Has_1 a0 a1) (fun _ => rfl) (fun _ _ => rfl) (a0.length + 1) 0 (by omega)

@[simp] theorem s_FindAuthority_1_eq (a0 : List TAuthority) (a1 : Int) : ∀ (n : Nat) (v0 : Nat), s_FindAuthority_1 a0 a1 n v0 = i_FindAuthority_1 a0 a1 n v0 := by
  intro n
  induction n with
  | zero => intros; rfl
  | succ n ih => intros; simp [s_FindAuthority_1, i_FindAuthority_1, ih, ByteArray.append_assoc]
@[simp] theorem s_FindAuthority_eq (a0 : List TAuthority) (a1 : Int) : s_FindAuthority a0 a1 = i_FindAuthority a0 a1 := by simp [s_FindAuthority, i_FindAuthority]
theorem find_first {β : Type} {L : Nat → Nat → Sum Int Unit} {len : Nat} {c : Nat → Bool} (h0 : ∀ v, L 0 v = .inr ()) (hs : ∀ n v, L (n + 1) v = (bif decide ((v : Int) < (len : Int)) then (bif c v then .inl (v : Int) else L n (v + 1)) else .inr ())) {k : Nat} (hk : k < len) (hc : c k = true) :
    ∃ i : Nat, (match L (len + 1) 0 with | .inl r => r | .inr _ => (-1)) = (i : Int) ∧ i ≤ k := by
  rcases find_loop (r := fun i => (i : Int)) h0 hs (len + 1) 0 (by omega) with ⟨e, p⟩ | ⟨i, e, p1, p2, p3, p4⟩
  · have := p k (by omega) hk; rw [hc] at this; cases this
  · refine ⟨i, by rw [e], ?_⟩
    rcases Nat.lt_or_ge k i with h | h
    · have := p4 k (by omega) h; rw [hc] at this; cases this
    · exact h
theorem i_FindCert_le (l : List TCert) {k : Nat} (hk : k < l.length) : ∃ i : Nat, i_FindCert l (nth l k).Serial = (i : Int) ∧ i ≤ k :=
  find_first (β := Int) (L := i_FindCert_1 l (nth l k).Serial) (fun _ => rfl) (fun _ _ => rfl) hk (by simp)

@[simp] theorem s_l33Items_2_eq (a0 : TWorld) (k : Nat) : ∀ (n : Nat) (l : List Int) (v : Nat), s_l33Items_2 a0 k n l v = i_IsWorld_3 a0 k n l v := by
  intro n
  induction n with
  | zero => intros; rfl
  | succ n ih => intros; simp only [s_l33Items_2, i_IsWorld_3, ih, s_l7Has_eq]
@[simp] theorem s_l33Items_1_eq (a0 : TWorld) : ∀ (n : Nat) (l : List Int) (v : Nat), s_l33Items_1 a0 n l v = i_IsWorld_2 a0 n l v := by
  intro n
  induction n with
  | zero => intros; rfl
  | succ n ih => intros; simp only [s_l33Items_1, i_IsWorld_2, ih, s_IsArchive_eq, s_l33Items_2_eq]
theorem i_IsWorld_3_false (a0 : TWorld) (k : Nat) : ∀ (n : Nat) (l : List Int) (v : Nat), i_IsWorld_3 a0 k n l v ≠ .inl true := by
  intro n
  induction n with
  | zero => intro l v h; cases h
  | succ n ih =>
    intro l v h
    rw [i_IsWorld_3] at h
    generalize decide ((v : Int) < ((nth a0.Archives k).Items.length : Int)) = c at h
    cases c with
    | false => cases h
    | true =>
      simp only [cond_true] at h
      generalize (i_hasInt l (nth (nth a0.Archives k).Items v).Id || decide ((nth (nth a0.Archives k).Items v).Id ≥ a0.Next)) = c at h
      cases c with
      | true => cases h
      | false => exact ih _ _ h
theorem i_IsWorld_2_false (a0 : TWorld) : ∀ (n : Nat) (l : List Int) (v : Nat), i_IsWorld_2 a0 n l v ≠ .inl true := by
  intro n
  induction n with
  | zero => intro l v h; cases h
  | succ n ih =>
    intro l v h
    rw [i_IsWorld_2] at h
    generalize decide ((v : Int) < (a0.Archives.length : Int)) = c at h
    cases c with
    | false => cases h
    | true =>
      simp only [cond_true] at h
      generalize (!i_IsArchive (nth a0.Archives v) || (nth a0.Archives v).Id != (v : Int)) = c at h
      cases c with
      | true => cases h
      | false =>
        simp only [cond_false] at h
        cases hh : i_IsWorld_3 a0 v ((nth a0.Archives v).Items.length + 1) l 0 with
        | inl r =>
          rw [hh] at h; simp only at h
          cases h; exact i_IsWorld_3_false _ _ _ _ _ hh
        | inr z => rw [hh] at h; exact ih _ _ h
theorem sum_match (s : Sum Bool Unit) (X : Bool) : s ≠ .inl true → ((match s with | .inl r => r | .inr _ => X) = true ↔ s = .inr () ∧ X = true) := by
  intro h
  cases s with
  | inl r => cases r with
    | true => exact absurd rfl h
    | false => simp
  | inr u => simp
@[simp] theorem s_IsWorld_eq (a0 : TWorld) : s_IsWorld a0 = i_IsWorld a0 := by
  rw [Bool.eq_iff_iff]
  have hs : s_IsWorld a0 = true ↔ _ := (all_match (L := s_IsWorld_1 a0) (fun _ => rfl) (fun _ _ => rfl) (a0.Seqs.length + 1) 0 (by omega) _).trans (and_congr_right fun _ => (all_match (L := s_IsWorld_2 a0) (fun _ => rfl) (fun _ _ => rfl) (a0.Lying.length + 1) 0 (by omega) _).trans (and_congr_right fun _ => all_match (L := s_IsWorld_3 a0) (fun _ => rfl) (fun _ _ => rfl) (a0.Forged.length + 1) 1 (by omega) _))
  have hc : s_l33Certs a0 = true ↔ _ := (all_match (L := s_l33Certs_1 a0) (fun _ => rfl) (fun _ _ => rfl) (a0.Certs.length + 1) 0 (by omega) _).trans (and_congr_right fun _ => all_match (L := s_l33Certs_2 a0) (fun _ => rfl) (fun _ _ => rfl) (a0.Ended.length + 1) 0 (by omega) _)
  have hit : s_l33Items a0 = true ↔ _ := sum_match (s_l33Items_1 a0 (a0.Archives.length + 1) [] 0) _ (by rw [s_l33Items_1_eq]; exact i_IsWorld_2_false _ _ _ _)
  rw [s_l33Items_1_eq] at hit
  have hl : i_areRising a0.Lying = true ↔ _ := all_match (L := i_areRising_1 a0.Lying) (fun _ => rfl) (fun _ _ => rfl) (a0.Lying.length + 1) 1 (by omega) true
  have hg : i_areRising a0.Forged = true ↔ _ := all_match (L := i_areRising_1 a0.Forged) (fun _ => rfl) (fun _ _ => rfl) (a0.Forged.length + 1) 1 (by omega) true
  unfold i_IsWorld
  have hi : ∀ b : Bool, (bif b then false else (match i_IsWorld_1 a0 (a0.Certs.length + 1) 0 with | .inl r1 => r1 | .inr _ => (match i_IsWorld_2 a0 (a0.Archives.length + 1) ([] : List Int) 0 with | .inl r2 => r2 | .inr _ => (match i_IsWorld_4 a0 (a0.Seqs.length + 1) 0 with | .inl r4 => r4 | .inr _ => (match i_IsWorld_5 a0 (a0.Lying.length + 1) 0 with | .inl r5 => r5 | .inr _ => true))))) = true ↔ b = false ∧ _ := fun b => by
    cases b
    · exact ((all_match (L := i_IsWorld_1 a0) (fun _ => rfl) (fun _ _ => rfl) (a0.Certs.length + 1) 0 (by omega) _).trans (and_congr_right fun _ => (sum_match _ _ (i_IsWorld_2_false a0 (a0.Archives.length + 1) [] 0)).trans (and_congr_right fun _ => (all_match (L := i_IsWorld_4 a0) (fun _ => rfl) (fun _ _ => rfl) (a0.Seqs.length + 1) 0 (by omega) _).trans (and_congr_right fun _ => all_match (L := i_IsWorld_5 a0) (fun _ => rfl) (fun _ _ => rfl) (a0.Lying.length + 1) 0 (by omega) true)))).trans (by simp only [true_and, and_true]; exact Iff.rfl)
    · simp
  refine hs.trans (Iff.trans ?_ (hi _).symm)
  simp only [Bool.or_eq_false_iff, Bool.not_eq_false', Bool.and_eq_true, beq_iff_eq, bne_eq_false_iff_eq, decide_eq_true_eq, decide_eq_false_iff_not, s_l1In_eq, s_IsFrame_eq, s_CheckCert_eq, s_FindCert_eq, s_FindAuthority_eq, hc, hit, hl, hg]
  constructor
  · rintro ⟨h1, h2, h3, ⟨⟨⟨h4, h5, h6, h7⟩, h8, h9, h10⟩, h11⟩, h12⟩
    refine ⟨⟨⟨⟨⟨⟨⟨⟨h4, h7⟩, h9⟩, h11⟩, by omega⟩, by omega⟩, fun i k1 k2 => ?_, trivial⟩, h3, trivial⟩, fun i k1 k2 => ⟨⟨(h5 i k1 k2).1, ?_⟩, h6 i k1 (by omega)⟩, h8, h1, fun i k1 k2 => (h2 i k1 k2).1⟩
    · have := (h2 i (Nat.zero_le _) k2).2
      simp only [show decide ((i : Int) > 0) = true by simp; omega, Bool.true_and, decide_eq_false_iff_not] at this
      exact this
    · obtain ⟨m, e, hm⟩ := i_FindCert_le a0.Certs k2
      have := (h5 i k1 k2).2
      rw [e] at this ⊢; omega
  · rintro ⟨⟨⟨⟨⟨⟨⟨⟨h4, h7⟩, h9⟩, h11⟩, h12⟩, h10⟩, h2, _⟩, h3, _⟩, h5, h8, h1, h6⟩
    refine ⟨h1, fun i k1 k2 => ⟨h6 i k1 k2, ?_⟩, h3, ⟨⟨⟨h4, fun i k1 k2 => ⟨(h5 i k1 k2).1.1, ?_⟩, fun i k1 k2 => (h5 i k1 (by omega)).2, h7⟩, h8, h9, by omega⟩, h11⟩, by omega⟩
    · by_cases h0 : 0 < i
      · rw [show decide (nth a0.Lying (i - 1) ≥ nth a0.Lying i) = false by simpa using h2 i h0 k2]; simp
      · simp [h0]
    · rw [(h5 i k1 k2).1.2]; omega

end Go.Mo
