/- The models of the program and of the reference agree. No condition. -/
import Derived.Test.YtllfgbhplfhdkaaGreatL
namespace Go.Mo
open Go.Vm
set_option linter.unusedSimpArgs false
set_option linter.unusedVariables false
theorem cond_neg (x : Int) {α : Type} (a b : α) : (bif decide (x < 0) then a else b) = (bif decide (0 ≤ x) then b else a) := by
  by_cases h : x < 0
  · rw [show decide (x < 0) = true by simpa using h, show decide (0 ≤ x) = false by simpa using h]; rfl
  · rw [show decide (x < 0) = false by simpa using h, show decide (0 ≤ x) = true by simp; omega]; rfl
/-- a loop that looks whether one of the places is bad -/
theorem all_loop {L : Nat → Nat → Sum Bool Unit} {len : Nat} {c : Nat → Bool} (h0 : ∀ v, L 0 v = .inr ()) (hs : ∀ n v, L (n + 1) v = (bif decide ((v : Int) < (len : Int)) then (bif c v then .inl false else L n (v + 1)) else .inr ())) :
    ∀ n v, len < n + v → (L n v = .inr () ∧ ∀ i, v ≤ i → i < len → c i = false) ∨ (L n v = .inl false ∧ ∃ i, v ≤ i ∧ i < len ∧ c i = true)
  | 0, v, h => .inl ⟨h0 v, fun i h1 h2 => by omega⟩
  | n + 1, v, h => by
    rw [hs]
    by_cases hv : v < len
    · rw [show decide ((v : Int) < (len : Int)) = true by simpa using hv]
      cases hc : c v with
      | true => exact .inr ⟨rfl, v, Nat.le_refl _, hv, hc⟩
      | false =>
        rcases all_loop h0 hs n (v + 1) (by omega) with ⟨e, k⟩ | ⟨e, i, k1, k2, k3⟩
        · refine .inl ⟨e, fun i h1 h2 => ?_⟩
          rcases Nat.eq_or_lt_of_le h1 with rfl | h1
          · exact hc
          · exact k i h1 h2
        · exact .inr ⟨e, i, by omega, k2, k3⟩
    · rw [show decide ((v : Int) < (len : Int)) = false by simpa using hv]
      exact .inl ⟨rfl, fun i h1 h2 => by omega⟩
/-- a loop that looks for the first place -/
theorem find_loop {β : Type} {L : Nat → Nat → Sum β Unit} {len : Nat} {c : Nat → Bool} {r : Nat → β} (h0 : ∀ v, L 0 v = .inr ()) (hs : ∀ n v, L (n + 1) v = (bif decide ((v : Int) < (len : Int)) then (bif c v then .inl (r v) else L n (v + 1)) else .inr ())) :
    ∀ n v, len < n + v → (L n v = .inr () ∧ ∀ i, v ≤ i → i < len → c i = false) ∨ (∃ i, L n v = .inl (r i) ∧ v ≤ i ∧ i < len ∧ c i = true ∧ ∀ k, v ≤ k → k < i → c k = false)
  | 0, v, h => .inl ⟨h0 v, fun i h1 h2 => by omega⟩
  | n + 1, v, h => by
    rw [hs]
    by_cases hv : v < len
    · rw [show decide ((v : Int) < (len : Int)) = true by simpa using hv]
      cases hc : c v with
      | true => exact .inr ⟨v, rfl, Nat.le_refl _, hv, hc, fun k h1 h2 => by omega⟩
      | false =>
        rcases find_loop h0 hs n (v + 1) (by omega) with ⟨e, k⟩ | ⟨i, e, k1, k2, k3, k4⟩
        · refine .inl ⟨e, fun i h1 h2 => ?_⟩
          rcases Nat.eq_or_lt_of_le h1 with rfl | h1
          · exact hc
          · exact k i h1 h2
        · refine .inr ⟨i, e, by omega, k2, k3, fun k h1 h2 => ?_⟩
          rcases Nat.eq_or_lt_of_le h1 with rfl | h1
          · exact hc
          · exact k4 k h1 h2
    · rw [show decide ((v : Int) < (len : Int)) = false by simpa using hv]
      exact .inl ⟨rfl, fun i h1 h2 => by omega⟩
/-- the same, as a Boolean -/
theorem all_match {L : Nat → Nat → Sum Bool Unit} {len : Nat} {c : Nat → Bool} (h0 : ∀ v, L 0 v = .inr ()) (hs : ∀ n v, L (n + 1) v = (bif decide ((v : Int) < (len : Int)) then (bif c v then .inl false else L n (v + 1)) else .inr ())) (n v : Nat) (h : len < n + v) (X : Bool) :
    (match L n v with | .inl r => r | .inr _ => X) = true ↔ (∀ i, v ≤ i → i < len → c i = false) ∧ X = true := by
  rcases all_loop h0 hs n v h with ⟨e, k⟩ | ⟨e, i, k1, k2, k3⟩
  · rw [e]; simp only; exact ⟨fun hx => ⟨k, hx⟩, fun hx => hx.2⟩
  · rw [e]; simp only
    constructor
    · intro hx; cases hx
    · intro hx; rw [hx.1 i k1 k2] at k3; cases k3
theorem any_match {L : Nat → Nat → Sum Bool Unit} {len : Nat} {c : Nat → Bool} (h0 : ∀ v, L 0 v = .inr ()) (hs : ∀ n v, L (n + 1) v = (bif decide ((v : Int) < (len : Int)) then (bif c v then .inl true else L n (v + 1)) else .inr ())) (n v : Nat) (h : len < n + v) :
    (match L n v with | .inl r => r | .inr _ => false) = true ↔ ∃ i, v ≤ i ∧ i < len ∧ c i = true := by
  rcases find_loop (r := fun _ => true) h0 hs n v h with ⟨e, k⟩ | ⟨i, e, k1, k2, k3, k4⟩
  · rw [e]; simp only
    constructor
    · intro hx; cases hx
    · rintro ⟨i, h1, h2, h3⟩; rw [k i h1 h2] at h3; cases h3
  · rw [e]; exact ⟨fun _ => ⟨i, k1, k2, k3⟩, fun _ => rfl⟩
theorem nth_take {α : Type} [Inhabited α] {l : List α} {i n : Nat} (h : i < n) : nth (l.take n) i = nth l i := by
  unfold nth; simp [List.getD_eq_getElem?_getD, List.getElem?_take, h]
@[simp] theorem s_l1In_eq (a0 a1 a2 : Int) : s_l1In a0 a1 a2 = i_InRange a0 a1 a2 := rfl

@[simp] theorem s_FindItem_1_eq (a0 : TArchive) (a1 : Int) : ∀ (n : Nat) (v0 : Nat), s_FindItem_1 a0 a1 n v0 = i_FindItem_1 a0 a1 n v0 := by
  intro n
  induction n with
  | zero => intros; rfl
  | succ n ih => intros; simp [s_FindItem_1, i_FindItem_1, ih, ByteArray.append_assoc]
@[simp] theorem s_FindItem_eq (a0 : TArchive) (a1 : Int) : s_FindItem a0 a1 = i_FindItem a0 a1 := by simp [s_FindItem, i_FindItem]
@[simp] theorem s_FindIn_1_eq (a0 : TWorld) (a1 : Int) : ∀ (n : Nat) (v0 : Nat), s_FindIn_1 a0 a1 n v0 = i_FindIn_1 a0 a1 n v0 := by
  intro n
  induction n with
  | zero => intros; rfl
  | succ n ih => intros; simp [s_FindIn_1, i_FindIn_1, ih, ByteArray.append_assoc]
@[simp] theorem s_FindIn_eq (a0 : TWorld) (a1 : Int) : s_FindIn a0 a1 = i_FindIn a0 a1 := by simp [s_FindIn, i_FindIn]
@[simp] theorem s_KindOfPiece_eq (a0 : TPiece) : s_KindOfPiece a0 = i_KindOfPiece a0 := by
  simp only [s_KindOfPiece, i_KindOfPiece, s_l1In_eq]
  cases (((↑a0.Ints.length : Int) == 0) || (!(i_InRange (nth a0.Ints 0) 101 105))) <;> simp

@[simp] theorem s_PieceCert_eq (a0 : TPiece) : s_PieceCert a0 = i_PieceCert a0 := by simp [s_PieceCert, i_PieceCert]
@[simp] theorem s_FindCert_1_eq (a0 : List TCert) (a1 : Int) : ∀ (n : Nat) (v0 : Nat), s_FindCert_1 a0 a1 n v0 = i_FindCert_1 a0 a1 n v0 := by
  intro n
  induction n with
  | zero => intros; rfl
  | succ n ih => intros; simp [s_FindCert_1, i_FindCert_1, ih, ByteArray.append_assoc]
@[simp] theorem s_FindCert_eq (a0 : List TCert) (a1 : Int) : s_FindCert a0 a1 = i_FindCert a0 a1 := by simp [s_FindCert, i_FindCert]
@[simp] theorem s_FindKey_1_eq (a0 : List TKey) (a1 : Int) : ∀ (n : Nat) (v0 : Nat), s_FindKey_1 a0 a1 n v0 = i_FindKey_1 a0 a1 n v0 := by
  intro n
  induction n with
  | zero => intros; rfl
  | succ n ih => intros; simp [s_FindKey_1, i_FindKey_1, ih, ByteArray.append_assoc]
@[simp] theorem s_FindKey_eq (a0 : List TKey) (a1 : Int) : s_FindKey a0 a1 = i_FindKey a0 a1 := by simp [s_FindKey, i_FindKey]
@[simp] theorem s_FindMethod_1_eq (a0 : List TMethod) (a1 : Int) : ∀ (n : Nat) (v0 : Nat), s_FindMethod_1 a0 a1 n v0 = i_FindMethod_1 a0 a1 n v0 := by
  intro n
  induction n with
  | zero => intros; rfl
  | succ n ih => intros; simp [s_FindMethod_1, i_FindMethod_1, ih, ByteArray.append_assoc]
@[simp] theorem s_FindMethod_eq (a0 : List TMethod) (a1 : Int) : s_FindMethod a0 a1 = i_FindMethod a0 a1 := by simp [s_FindMethod, i_FindMethod]
@[simp] theorem s_BreakOf_eq (a0 : List TMethod) (a1 : Int) : s_BreakOf a0 a1 = i_BreakOf a0 a1 := by
  unfold s_BreakOf i_BreakOf; rw [cond_neg]; simp

@[simp] theorem s_IsStolen_eq (a0 : TFrame) (a1 : Int) : s_IsStolen a0 a1 = i_IsStolen a0 a1 := by
  unfold s_IsStolen i_IsStolen i_breakOfKey
  by_cases h : i_FindKey a0.Keys a1 < 0
  · have : ¬ 0 ≤ i_FindKey a0.Keys a1 := by omega
    simp [this]
  · simp [h]

@[simp] theorem s_StatusInts_eq (a0 : TStatus) : s_StatusInts a0 = i_StatusInts a0 := by simp [s_StatusInts, i_StatusInts]
@[simp] theorem s_Mod_eq (a0 : Int) (a1 : Int) : s_Mod a0 a1 = i_Mod a0 a1 := by simp [s_Mod, i_Mod]
@[simp] theorem s_Hash_1_eq (a0 : List Int) : ∀ (n : Nat) (v0 : Int) (v1 : Nat), s_Hash_1 a0 n v0 v1 = i_Hash_1 a0 n v0 v1 := by
  intro n
  induction n with
  | zero => intros; rfl
  | succ n ih => intros; simp [s_Hash_1, i_Hash_1, ih, ByteArray.append_assoc]
@[simp] theorem s_Hash_eq (a0 : List Int) : s_Hash a0 = i_Hash a0 := by simp [s_Hash, i_Hash]
@[simp] theorem s_KeyedHash_eq (a0 : Int) (a1 : List Int) : s_KeyedHash a0 a1 = i_KeyedHash a0 a1 := by simp [s_KeyedHash, i_KeyedHash]
@[simp] theorem s_MarkWith_eq (a0 : TKey) (a1 : List Int) : s_MarkWith a0 a1 = i_MarkWith a0 a1 := by simp [s_MarkWith, i_MarkWith]
@[simp] theorem s_l4Time_eq (a0 : Int) : s_l4Time a0 = i_isTime a0 := rfl

@[simp] theorem s_IsStatus_eq (a0 : TStatus) : s_IsStatus a0 = i_IsStatus a0 := by simp [s_IsStatus, i_IsStatus]
@[simp] theorem s_MakeStatus_eq (a0 : List TKey) (a1 : TStatus) : s_MakeStatus a0 a1 = i_MakeStatus a0 a1 := by
  by_cases h : i_FindKey a0 a1.Issuer < 0 <;> simp [s_MakeStatus, i_MakeStatus, i_markBy, h]
theorem i_MakeStatus_pos {a0 : List TKey} {a1 : TStatus} (h : (i_MakeStatus a0 a1).2 = true) : 0 ≤ i_FindKey a0 a1.Issuer := by
  have := s_MakeStatus_pos (a0 := a0) (a1 := a1) (by simpa using h)
  simpa using this

@[simp] theorem s_StatusPiece_eq (a0 : TStatus) : s_StatusPiece a0 = i_StatusPiece a0 := by simp [s_StatusPiece, i_StatusPiece]
@[simp] theorem i_EqualInts_eq (a0 a1 : List Int) : i_EqualInts a0 a1 = decide (a0 = a1) := eq_fn (F := i_EqualInts_1 a0 a1) (c := fun i => (nth a0 i) != (nth a1 i)) (fun i => by simp [bne, Bool.beq_eq_decide_eq]) (fun _ => rfl) (fun _ _ => rfl)
@[simp] theorem s_EqualInts_eq (a0 a1 : List Int) : s_EqualInts a0 a1 = decide (a0 = a1) := eq_fn (F := s_EqualInts_1 a0 a1) (c := fun i => (nth a0 i) != (nth a1 i)) (fun i => by simp [bne, Bool.beq_eq_decide_eq]) (fun _ => rfl) (fun _ _ => rfl)

@[simp] theorem i_EqualPieces_eq (a0 a1 : TPiece) : i_EqualPieces a0 a1 = decide (a0 = a1) := by
  obtain ⟨t, p, s⟩ := a0; obtain ⟨t', p', s'⟩ := a1
  by_cases h1 : t = t' <;> by_cases h2 : p = p' <;> by_cases h3 : s = s' <;> simp_all [i_EqualPieces]
@[simp] theorem s_EqualPieces_eq (a0 a1 : TPiece) : s_EqualPieces a0 a1 = decide (a0 = a1) := by
  obtain ⟨t, p, s⟩ := a0; obtain ⟨t', p', s'⟩ := a1
  by_cases h1 : t = t' <;> by_cases h2 : p = p' <;> by_cases h3 : s = s' <;> simp_all [s_EqualPieces]

theorem s_FindPiece_has (a0 : TStrand) {k : Nat} (hk : k < a0.Pieces.length) : decide (s_FindPiece a0 (nth a0.Pieces k) < (k : Int)) = i_hasPiece (a0.Pieces.take k) (nth a0.Pieces k) := by
  rw [Bool.eq_iff_iff]
  have hi : i_hasPiece (a0.Pieces.take k) (nth a0.Pieces k) = true ↔ _ := any_match (L := i_hasPiece_1 (a0.Pieces.take k) (nth a0.Pieces k)) (fun _ => rfl) (fun _ _ => rfl) _ 0 (by omega)
  rw [hi]
  unfold s_FindPiece
  have hl : (a0.Pieces.take k).length = k := by simp; omega
  rw [hl]
  rcases find_loop (L := s_FindPiece_1 a0 (nth a0.Pieces k)) (r := fun i => (i : Int)) (fun _ => rfl) (fun _ _ => rfl) (a0.Pieces.length + 1) 0 (by omega) with ⟨e, p⟩ | ⟨i, e, p1, p2, p3, p4⟩
  · have := p k (Nat.zero_le _) hk
    simp at this
  · rw [e]
    simp only [decide_eq_true_eq]
    constructor
    · intro h
      exact ⟨i, Nat.zero_le _, by omega, by rw [nth_take (by omega)]; simpa using p3⟩
    · rintro ⟨j, _, hj, hc⟩
      rw [nth_take hj] at hc
      rcases Nat.lt_or_ge j i with h | h
      · have := p4 j (Nat.zero_le _) h; simp at this hc; exact absurd hc this
      · omega

@[simp] theorem s_IsStrand_eq (a0 : TStrand) : s_IsStrand a0 = i_IsStrand a0 := by
  rw [Bool.eq_iff_iff]
  have hs : s_IsStrand a0 = true ↔ _ := (all_match (L := s_IsStrand_1 a0) (fun _ => rfl) (fun _ _ => rfl) (a0.Pieces.length + 1) 0 (by omega) _).trans (and_congr_right fun _ => all_match (L := s_IsStrand_2 a0) (fun _ => rfl) (fun _ _ => rfl) (a0.Chain.length + 1) 0 (by omega) _)
  rw [hs]
  unfold i_IsStrand
  have hi : ∀ b : Bool, (bif b then false else (match i_IsStrand_1 a0 (a0.Pieces.length + 1) 0 with | .inl r1 => r1 | .inr _ => (match i_IsStrand_2 a0 (a0.Chain.length + 1) 0 with | .inl r2 => r2 | .inr _ => true))) = true ↔ b = false ∧ _ := fun b => by
    cases b
    · exact ((all_match (L := i_IsStrand_1 a0) (fun _ => rfl) (fun _ _ => rfl) (a0.Pieces.length + 1) 0 (by omega) _).trans (and_congr_right fun _ => all_match (L := i_IsStrand_2 a0) (fun _ => rfl) (fun _ _ => rfl) (a0.Chain.length + 1) 0 (by omega) true)).trans (by simp only [true_and, and_true]; exact Iff.rfl)
    · simp
  refine Iff.trans ?_ (hi _).symm
  simp only [s_l1In_eq, Bool.or_eq_false_iff, Bool.not_eq_false', Bool.and_eq_true, Bool.not_eq_eq_eq_not, Bool.not_false]
  constructor
  · rintro ⟨h1, h2, h3, h4⟩
    exact ⟨⟨h3, by simpa using h4⟩, fun i hz hi => by rw [← s_FindPiece_has a0 hi]; exact h1 i hz hi, fun i hz hi => by simpa using h2 i hz hi⟩
  · rintro ⟨⟨h3, h4⟩, h1, h2⟩
    exact ⟨fun i hz hi => by rw [s_FindPiece_has a0 hi]; exact h1 i hz hi, fun i hz hi => by simpa using h2 i hz hi, h3, by simpa using h4⟩

@[simp] theorem s_AddPiece_eq (a0 : TStrand) (a1 : TPiece) : s_AddPiece a0 a1 = i_AddPiece a0 a1 := by simp [s_AddPiece, i_AddPiece]
@[simp] theorem s_AddToItem_eq (a0 : TArchive) (a1 : Int) (a2 : TPiece) : s_AddToItem a0 a1 a2 = i_AddToItem a0 a1 a2 := by simp [s_AddToItem, i_AddToItem]
theorem set_nth {α : Type} [Inhabited α] (l : List α) (i : Nat) : l.set i (nth l i) = l := by
  rcases Nat.lt_or_ge i l.length with h | h
  · simp [nth, List.getD_eq_getElem?_getD, List.getElem?_eq_getElem h]
  · exact List.set_eq_of_length_le h
theorem i_AddToItem_no {a0 : TArchive} {a1 : Int} {a2 : TPiece} (h : (i_AddToItem a0 a1 a2).2 = false) : (i_AddToItem a0 a1 a2).1 = a0 := by
  unfold i_AddToItem at h ⊢
  cases hf : decide (i_FindItem a0 a1 < 0) with
  | true => rfl
  | false =>
    rw [hf] at h
    simp only [cond_false] at h ⊢
    have hp : (i_AddPiece (nth a0.Items (i_FindItem a0 a1).toNat).Strand a2).1 = (nth a0.Items (i_FindItem a0 a1).toNat).Strand := by
      unfold i_AddPiece at h ⊢
      cases hs : (!(i_IsStrand (TStrand.mk ((nth a0.Items (i_FindItem a0 a1).toNat).Strand.Pieces ++ ([a2] : List TPiece)) (nth a0.Items (i_FindItem a0 a1).toNat).Strand.Chain))) with
      | true => rfl
      | false => rw [hs] at h; cases h
    rw [hp, show TItem.mk (nth a0.Items (i_FindItem a0 a1).toNat).Id (nth a0.Items (i_FindItem a0 a1).toNat).Keep (nth a0.Items (i_FindItem a0 a1).toNat).Doc (nth a0.Items (i_FindItem a0 a1).toNat).Sig (nth a0.Items (i_FindItem a0 a1).toNat).Strand = nth a0.Items (i_FindItem a0 a1).toNat from rfl, set_nth]
theorem answer_eq (a0 : TWorld) (i id : Int) (st : TStatus) : (bif (i_MakeStatus a0.Frame.Keys st).2 then ((TWorld.mk a0.Frame a0.Certs a0.Ended (a0.Archives.set i.toNat (i_AddToItem (nth a0.Archives i.toNat) id (i_StatusPiece (i_MakeStatus a0.Frame.Keys st).1)).1) a0.Seqs a0.Lying a0.Next a0.Forged), (i_AddToItem (nth a0.Archives i.toNat) id (i_StatusPiece (i_MakeStatus a0.Frame.Keys st).1)).2) else (a0, false)) = i_answerTo a0 i id st := by
  unfold i_answerTo
  cases hm : (i_MakeStatus a0.Frame.Keys st).2 with
  | false => rfl
  | true =>
    cases ha : (i_AddToItem (nth a0.Archives i.toNat) id (i_StatusPiece (i_MakeStatus a0.Frame.Keys st).1)).2 with
    | true => rfl
    | false => rw [i_AddToItem_no ha, set_nth]; rfl
theorem i_FindCert_at (l : List TCert) (s : Int) (h : 0 ≤ i_FindCert l s) : (nth l (i_FindCert l s).toNat).Serial = s := by
  unfold i_FindCert at h ⊢
  rcases find_loop (β := Int) (L := i_FindCert_1 l s) (len := l.length) (c := fun v => (nth l v).Serial == s) (r := fun v => (v : Int)) (fun _ => rfl) (fun _ _ => rfl) (l.length + 1) 0 (by omega) with ⟨e, _⟩ | ⟨i, e, _, _, hc, _⟩
  · rw [e] at h; simp at h
  · rw [e]; simpa using hc
theorem bool_not_or {a b c : Bool} : ((!(a && b)) || c) = ((!a || !b) || c) := by cases a <;> cases b <;> rfl

theorem i_AddToItem_cnb (a0 : TArchive) (a1 : Int) (a2 : TPiece) : cn (i_AddToItem a0 a1 a2).1 ≤ 2 * cn a0 + cn a2 + 1000 := by
  unfold i_AddToItem
  cases decide (i_FindItem a0 a1 < 0) with
  | true => simp only [cond_true]; omega
  | false =>
    simp only [cond_false]
    have h1 := cnL_nth (cn : TItem → Nat) a0.Items (i_FindItem a0 a1).toNat
    have hd : cn (default : TItem) ≤ 900 := Nat.le_of_ble_eq_true rfl
    have h2 := cnL_set (cn : TItem → Nat) a0.Items (i_FindItem a0 a1).toNat (TItem.mk (nth a0.Items (i_FindItem a0 a1).toNat).Id (nth a0.Items (i_FindItem a0 a1).toNat).Keep (nth a0.Items (i_FindItem a0 a1).toNat).Doc (nth a0.Items (i_FindItem a0 a1).toNat).Sig (i_AddPiece (nth a0.Items (i_FindItem a0 a1).toNat).Strand a2).1)
    have h3 : cn (i_AddPiece (nth a0.Items (i_FindItem a0 a1).toNat).Strand a2).1 ≤ cn (nth a0.Items (i_FindItem a0 a1).toNat).Strand + cn a2 := by
      refine cond_cases (p := fun (r : TStrand × Bool) => cn r.1 ≤ cn (nth a0.Items (i_FindItem a0 a1).toNat).Strand + cn a2) (Nat.le_add_right _ _) ?_
      simp only [TStrand.cn_eq, cn_list, cnL_append, cnL]; omega
    simp only [TArchive.cn_eq, TItem.cn_eq, cn_list, cn_int] at h1 h2 hd ⊢
    omega
theorem i_answerTo_cnb (a0 : TWorld) (a1 a2 : Int) (a3 : TStatus) : cn (i_answerTo a0 a1 a2 a3).1 ≤ 3 * cn a0 + 2000 := by
  refine cond_cases (p := fun (r : TWorld × Bool) => cn r.1 ≤ 3 * cn a0 + 2000) (by show cn a0 ≤ _; omega) ?_
  have h1 := world_set_cn a0 a1.toNat (i_AddToItem (nth a0.Archives a1.toNat) a2 (i_StatusPiece (i_MakeStatus a0.Frame.Keys a3).1)).1 true
  have h2 := i_AddToItem_cnb (nth a0.Archives a1.toNat) a2 (i_StatusPiece (i_MakeStatus a0.Frame.Keys a3).1)
  have h3 := world_nth_cn a0 a1.toNat
  have h4 : cn (i_StatusPiece (i_MakeStatus a0.Frame.Keys a3).1) = 7 := rfl
  simp only at h1 ⊢
  omega

@[simp] theorem s_StepFake_eq (a0 : TWorld) (a1 a2 : Int) : s_StepFake a0 a1 a2 = i_StepFake a0 a1 a2 := by
  unfold s_StepFake i_StepFake i_certOf
  simp only [s_FindIn_eq, s_PieceCert_eq, s_FindCert_eq, s_IsStolen_eq, s_MakeStatus_eq, s_AddToItem_eq, s_StatusPiece_eq]
  cases h1 : ((decide ((i_FindIn a0 a1).1 < 0)) || (decide ((↑(nth (nth a0.Archives (i_FindIn a0 a1).1.toNat).Items (i_FindIn a0 a1).2.toNat).Strand.Pieces.length : Int) < 2))) with
  | true => rfl
  | false =>
    simp only [cond_false]
    generalize i_PieceCert (nth (nth (nth a0.Archives (i_FindIn a0 a1).1.toNat).Items (i_FindIn a0 a1).2.toNat).Strand.Pieces 1) = p
    rw [bool_not_or, show (!(decide (i_FindCert a0.Certs p.1.Serial ≥ 0))) = decide (i_FindCert a0.Certs p.1.Serial < 0) by rw [← decide_not]; simp]
    cases h2 : ((!p.2 || decide (i_FindCert a0.Certs p.1.Serial < 0)) || (!(i_IsStolen a0.Frame (nth a0.Certs (i_FindCert a0.Certs p.1.Serial).toNat).Issuer))) with
    | true => rfl
    | false =>
      simp only [cond_false]
      have hn : 0 ≤ i_FindCert a0.Certs p.1.Serial := by simp at h2; exact h2.1.2
      rw [i_FindCert_at _ _ hn, ← answer_eq]
      generalize (TStatus.mk p.1.Serial a2 (-1) (nth a0.Certs (i_FindCert a0.Certs p.1.Serial).toNat).Issuer 0) = st
      cases (i_MakeStatus a0.Frame.Keys st).2 <;> rfl

theorem i_StepFake_cn (a0 : TWorld) (a1 a2 : Int) (h : cn a0 ≤ 33554464) : cn (i_StepFake a0 a1 a2).1 ≤ 1152921504606846976 := by
  refine cond_cases (p := fun (r : TWorld × Bool) => cn r.1 ≤ 1152921504606846976) (by show cn a0 ≤ _; omega) ?_
  exact Nat.le_trans (i_answerTo_cnb _ _ _ _) (by omega)

end Go.Mo
