/- The models of the program and of the reference agree. No condition. -/
import Derived.Test.YtejeomggohkclaaL
namespace Go.Mo
open Go.Vm
set_option linter.unusedSimpArgs false
set_option linter.unusedVariables false
theorem cond_neg (x : Int) {α : Type} (a b : α) : (bif decide (x < 0) then a else b) = (bif decide (0 ≤ x) then b else a) := by
  by_cases h : x < 0
  · rw [show decide (x < 0) = true by simpa using h, show decide (0 ≤ x) = false by simpa using h]; rfl
  · rw [show decide (x < 0) = false by simpa using h, show decide (0 ≤ x) = true by simp; omega]; rfl
@[simp] theorem s_l1In_eq (a0 a1 a2 : Int) : s_l1In a0 a1 a2 = i_InRange a0 a1 a2 := rfl

@[simp] theorem s_IsHonest_1_eq (a0 : List TEvent) : ∀ (n : Nat) (v0 : Nat), s_IsHonest_1 a0 n v0 = i_IsHonest_1 a0 n v0 := by
  intro n
  induction n with
  | zero => intros; rfl
  | succ n ih => intros; simp [s_IsHonest_1, i_IsHonest_1, ih, ByteArray.append_assoc]
@[simp] theorem s_IsHonest_eq (a0 : List TEvent) : s_IsHonest a0 = i_IsHonest a0 := by simp [s_IsHonest, i_IsHonest]
theorem ba_cons (b : UInt8) (l : List UInt8) : (ByteArray.mk [b].toArray) ++ (ByteArray.mk l.toArray) = ByteArray.mk ((b :: l).toArray) := by
  apply ByteArray.ext
  simp
theorem fmt_loop : ∀ (n : Nat) (x : Int) (l : List UInt8), x ≠ 0 → (n = 21 ∨ x.natAbs < 10 ^ n) → s_FormatInt_1 (n + 1) ⟨l.toArray⟩ x = ⟨(i_FormatInt_1 n x l).toArray⟩
  | 0, x, l, hx, h => by
    rcases h with h | h
    · omega
    · simp at h; exact absurd h hx
  | n + 1, x, l, hx, h => by
    have hb : (x != 0) = true := by simpa using hx
    have hn := fmt_step (x := x) (n := n) h
    have fin : ∀ w, s_FormatInt_1 (n + 1) w 0 = w := fun w => rfl
    rw [s_FormatInt_1, hb, cond_true, i_FormatInt_1]
    cases decide (x.tmod 10 < 0) <;> simp only [cond_true, cond_false]
    · by_cases hz : W (x.tdiv 10) = 0
      · rw [hz, fin, show ((0 : Int) == 0) = true from rfl, cond_true, ba_cons]; rfl
      · rw [show (W (x.tdiv 10) == 0) = false by simpa using hz, cond_false, ba_cons, fmt_loop n _ _ hz (.inr hn)]; rfl
    · by_cases hz : W (x.tdiv 10) = 0
      · rw [hz, fin, show ((0 : Int) == 0) = true from rfl, cond_true, ba_cons]; rfl
      · rw [show (W (x.tdiv 10) == 0) = false by simpa using hz, cond_false, ba_cons, fmt_loop n _ _ hz (.inr hn)]; rfl
@[simp] theorem s_FormatInt_eq (a0 : Int) : s_FormatInt a0 = i_FormatInt a0 := by
  unfold s_FormatInt
  by_cases h : a0 = 0
  · subst h; rfl
  · rw [show (a0 == 0) = false by simpa using h, cond_false]
    have := fmt_loop 21 a0 [] h (.inl rfl)
    rw [show (⟨#[]⟩ : ByteArray) = ⟨([] : List UInt8).toArray⟩ from rfl, this]
    rfl

@[simp] theorem s_FindKey_1_eq (a0 : List TKey) (a1 : Int) : ∀ (n : Nat) (v0 : Nat), s_FindKey_1 a0 a1 n v0 = i_FindKey_1 a0 a1 n v0 := by
  intro n
  induction n with
  | zero => intros; rfl
  | succ n ih => intros; simp [s_FindKey_1, i_FindKey_1, ih, ByteArray.append_assoc]
@[simp] theorem s_FindKey_eq (a0 : List TKey) (a1 : Int) : s_FindKey a0 a1 = i_FindKey a0 a1 := by simp [s_FindKey, i_FindKey]
@[simp] theorem s_FindMethod_1_eq (a0 : List TMethod) (a1 : Int) : ∀ (n : Nat) (v0 : Nat), s_FindMethod_1 a0 a1 n v0 = i_FindMethod_1 a0 a1 n v0 := by
  intro n
  induction n with
  | zero => intros; rfl
  | succ n ih => intros; simp [s_FindMethod_1, i_FindMethod_1, ih, ByteArray.append_assoc]
@[simp] theorem s_FindMethod_eq (a0 : List TMethod) (a1 : Int) : s_FindMethod a0 a1 = i_FindMethod a0 a1 := by simp [s_FindMethod, i_FindMethod]
@[simp] theorem s_BreakOf_eq (a0 : List TMethod) (a1 : Int) : s_BreakOf a0 a1 = i_BreakOf a0 a1 := by
  unfold s_BreakOf i_BreakOf; rw [cond_neg]; simp

@[simp] theorem s_IsStolen_eq (a0 : TFrame) (a1 : Int) : s_IsStolen a0 a1 = i_IsStolen a0 a1 := by
  unfold s_IsStolen i_IsStolen i_breakOfKey
  by_cases h : i_FindKey a0.Keys a1 < 0
  · have : ¬ 0 ≤ i_FindKey a0.Keys a1 := by omega
    simp [this]
  · simp [h]

@[simp] theorem s_RenewalSize_eq (a0 : TRenewal) : s_RenewalSize a0 = i_RenewalSize a0 := by simp [s_RenewalSize, i_RenewalSize]
theorem sumFrom_congr {x y : Nat → Int} (h : ∀ i, x i = y i) : ∀ k i, sumFrom x k i = sumFrom y k i
  | 0, _ => rfl
  | k + 1, i => by simp [sumFrom, h, sumFrom_congr h k]
@[simp] theorem s_StrandSize_eq (a0 : TStrand) : s_StrandSize a0 = i_StrandSize a0 := by
  unfold s_StrandSize i_StrandSize
  rw [acc_loop (F := s_StrandSize_1 a0) (L := a0.Pieces.length) (s := fun v1_0 v1_1 => (W ((W (v1_0 + 2)) + (↑(nth a0.Pieces v1_1).Ints.length : Int)))) (x := fun i => 2 + ((nth a0.Pieces i).Ints.length : Int)) (fun v i => by rw [W_add_l]; congr 1; omega) (fun _ _ _ => rfl) _ 0 0 (by omega) (by omega) (by decide),
    acc_loop (F := i_StrandSize_1 a0) (L := a0.Chain.length) (s := fun v1_0 v1_1 => (W (v1_0 + (i_RenewalSize (nth a0.Chain v1_1))))) (x := fun i => i_RenewalSize (nth a0.Chain i)) (fun v i => rfl) (fun _ _ _ => rfl) _ 0 0 (by omega) (by omega) (by decide)]
  simp only
  rw [acc_loop (F := s_StrandSize_2 a0) (L := a0.Chain.length) (s := fun v1_0 v1_1 => (W (v1_0 + (s_RenewalSize (nth a0.Chain v1_1))))) (x := fun i => i_RenewalSize (nth a0.Chain i)) (fun v i => by simp) (fun _ _ _ => rfl) _ _ 0 (by omega) (by omega) (W_W _),
    acc_loop (F := i_StrandSize_2 a0) (L := a0.Pieces.length) (s := fun v2_0 v2_1 => (W (v2_0 + (W (2 + (↑(nth a0.Pieces v2_1).Ints.length : Int)))))) (x := fun i => 2 + ((nth a0.Pieces i).Ints.length : Int)) (fun v i => by rw [W_add_r]) (fun _ _ _ => rfl) _ _ 0 (by omega) (by omega) (W_W _)]
  rw [W_add_l, W_add_l]
  congr 1
  omega

@[simp] theorem s_Max_eq (a0 a1 : Int) : s_Max a0 a1 = if a1 > a0 then a1 else a0 := by
  unfold s_Max; by_cases h : a1 > a0 <;> simp [h]

@[simp] theorem s_LongestPath_2_eq (a0 : TArchive) (v1_1 : Nat) : ∀ (n : Nat) (v0 : Int) (v1 : Nat), s_LongestPath_2 a0 v1_1 n v0 v1 = i_LongestPath_2 a0 v1_1 n v0 v1 := by
  intro n
  induction n with
  | zero => intros; rfl
  | succ n ih => intros; simp [s_LongestPath_2, i_LongestPath_2, ih, ByteArray.append_assoc]
@[simp] theorem s_LongestPath_1_eq (a0 : TArchive) : ∀ (n : Nat) (v0 : Int) (v1 : Nat), s_LongestPath_1 a0 n v0 v1 = i_LongestPath_1 a0 n v0 v1 := by
  intro n
  induction n with
  | zero => intros; rfl
  | succ n ih => intros; simp [s_LongestPath_1, i_LongestPath_1, ih, ByteArray.append_assoc]
@[simp] theorem s_LongestPath_eq (a0 : TArchive) : s_LongestPath a0 = i_LongestPath a0 := by simp [s_LongestPath, i_LongestPath]
@[simp] theorem s_ArchiveSize_1_eq (a0 : TArchive) : ∀ (n : Nat) (v0 : Int) (v1 : Nat), s_ArchiveSize_1 a0 n v0 v1 = i_ArchiveSize_1 a0 n v0 v1 := by
  intro n
  induction n with
  | zero => intros; rfl
  | succ n ih => intros; simp [s_ArchiveSize_1, i_ArchiveSize_1, ih, ByteArray.append_assoc]
@[simp] theorem s_ArchiveSize_eq (a0 : TArchive) : s_ArchiveSize a0 = i_ArchiveSize a0 := by simp [s_ArchiveSize, i_ArchiveSize]
@[simp] theorem s_Min_eq (a0 a1 : Int) : s_Min a0 a1 = if a1 < a0 then a1 else a0 := by
  unfold s_Min; by_cases h : a1 < a0 <;> simp [h]

@[simp] theorem s_FindAuthority_1_eq (a0 : List TAuthority) (a1 : Int) : ∀ (n : Nat) (v0 : Nat), s_FindAuthority_1 a0 a1 n v0 = i_FindAuthority_1 a0 a1 n v0 := by
  intro n
  induction n with
  | zero => intros; rfl
  | succ n ih => intros; simp [s_FindAuthority_1, i_FindAuthority_1, ih, ByteArray.append_assoc]
@[simp] theorem s_FindAuthority_eq (a0 : List TAuthority) (a1 : Int) : s_FindAuthority a0 a1 = i_FindAuthority a0 a1 := by simp [s_FindAuthority, i_FindAuthority]
@[simp] theorem s_StampKey_eq (a0 : List TAuthority) (a1 : TStamp) : s_StampKey a0 a1 = i_StampKey a0 a1 := by
  unfold s_StampKey i_StampKey; rw [cond_neg]; simp

@[simp] theorem s_RenewalBreak_1_eq (a0 : List TKey) (a1 : List TAuthority) (a2 : List TMethod) (a3 : TRenewal) : ∀ (n : Nat) (v0 : Int) (v1 : Nat), s_RenewalBreak_1 a0 a1 a2 a3 n v0 v1 = i_RenewalBreak_1 a0 a1 a2 a3 n v0 v1 := by
  intro n
  induction n with
  | zero => intros; rfl
  | succ n ih => intros; simp [s_RenewalBreak_1, i_RenewalBreak_1, ih, ByteArray.append_assoc]
@[simp] theorem s_RenewalBreak_eq (a0 : List TKey) (a1 : List TAuthority) (a2 : List TMethod) (a3 : TRenewal) : s_RenewalBreak a0 a1 a2 a3 = i_RenewalBreak a0 a1 a2 a3 := by simp [s_RenewalBreak, i_RenewalBreak]
theorem lastRenewal_nil {a0 : TItem} (h : a0.Strand.Chain.length = 0) : i_lastRenewal a0 = (TRenewal.mk 0 0 0 [] [], false) := by
  unfold i_lastRenewal; rw [h]; rfl
theorem lastRenewal_pos {a0 : TItem} (h : 0 < a0.Strand.Chain.length) : i_lastRenewal a0 = (nth a0.Strand.Chain (a0.Strand.Chain.length - 1), true) := by
  unfold i_lastRenewal; rw [show (((a0.Strand.Chain.length : Nat) : Int) == 0) = false by simp; intro hh; rw [hh] at h; simp at h]; rfl
@[simp] theorem s_IsSafeNow_eq (a0 : TFrame) (a1 : TItem) : s_IsSafeNow a0 a1 = i_IsSafeNow a0 a1 := by
  unfold s_IsSafeNow i_IsSafeNow
  rcases Nat.eq_zero_or_pos a1.Strand.Chain.length with h | h
  · rw [lastRenewal_nil h, h]; simp
  · rw [lastRenewal_pos h, show decide (((a1.Strand.Chain.length : Nat) : Int) > 0) = true by rw [decide_eq_true_eq]; omega]; simp

@[simp] theorem s_l32Ends_eq (a0 : TFrame) (a1 : Int) : s_l32Ends a0.Methods a1 = i_endOf a0 a1 := by
  unfold s_l32Ends i_endOf; rw [cond_neg]; simp
@[simp] theorem s_EndsOf_1_eq (a0 : TFrame) (a1 : TRenewal) : ∀ (n : Nat) (v0 : Int) (v1 : Nat), s_EndsOf_1 a0 a1 n v0 v1 = i_EndsOf_1 a0 a1 n v0 v1 := by
  intro n
  induction n with
  | zero => intros; rfl
  | succ n ih => intros; simp [s_EndsOf_1, i_EndsOf_1, ih]
@[simp] theorem s_EndsOf_eq (a0 : TFrame) (a1 : TRenewal) : s_EndsOf a0 a1 = i_EndsOf a0 a1 := by simp [s_EndsOf, i_EndsOf]
theorem s_l32Last_eq (a0 : TFrame) (a1 : TItem) : s_l32Last a0 a1 = bif (i_lastRenewal a1).2 then i_EndsOf a0 (i_lastRenewal a1).1 else 0 := by
  unfold s_l32Last
  rcases Nat.eq_zero_or_pos a1.Strand.Chain.length with h | h
  · rw [lastRenewal_nil h, h]; simp
  · rw [lastRenewal_pos h, show (((a1.Strand.Chain.length : Nat) : Int) == 0) = false by simp; intro hh; rw [hh] at h; simp at h]; simp

@[simp] theorem s_NeedsRenewal_eq (a0 : TFrame) (a1 : TItem) (a2 : Int) : s_NeedsRenewal a0 a1 a2 = i_NeedsRenewal a0 a1 a2 := by
  unfold s_NeedsRenewal i_NeedsRenewal
  rw [s_l32Last_eq]
  rcases Nat.eq_zero_or_pos a1.Strand.Chain.length with h | h
  · rw [lastRenewal_nil h, h]; simp
  · rw [lastRenewal_pos h, show (((a1.Strand.Chain.length : Nat) : Int) == 0) = false by simp; intro hh; rw [hh] at h; simp at h]; simp

@[simp] theorem s_NextDue_1_eq (a0 : TFrame) (a1 : TArchive) : ∀ (n : Nat) (v0 : Int) (v1 : Nat), s_NextDue_1 a0 a1 n v0 v1 = i_NextDue_1 a0 a1 n v0 v1 := by
  intro n
  induction n with
  | zero => intros; rfl
  | succ n ih =>
    intro v0 v1
    simp only [s_NextDue_1, i_NextDue_1, ih, s_Min_eq, s_l32Last_eq]
    cases (i_lastRenewal (nth a1.Items v1)).2 <;> rfl
@[simp] theorem s_NextDue_eq (a0 : TFrame) (a1 : TArchive) : s_NextDue a0 a1 = i_NextDue a0 a1 := by simp [s_NextDue, i_NextDue]

@[simp] theorem s_FindItem_1_eq (a0 : TArchive) (a1 : Int) : ∀ (n : Nat) (v0 : Nat), s_FindItem_1 a0 a1 n v0 = i_FindItem_1 a0 a1 n v0 := by
  intro n
  induction n with
  | zero => intros; rfl
  | succ n ih => intros; simp [s_FindItem_1, i_FindItem_1, ih, ByteArray.append_assoc]
@[simp] theorem s_FindItem_eq (a0 : TArchive) (a1 : Int) : s_FindItem a0 a1 = i_FindItem a0 a1 := by simp [s_FindItem, i_FindItem]
@[simp] theorem s_FindIn_1_eq (a0 : TWorld) (a1 : Int) : ∀ (n : Nat) (v0 : Nat), s_FindIn_1 a0 a1 n v0 = i_FindIn_1 a0 a1 n v0 := by
  intro n
  induction n with
  | zero => intros; rfl
  | succ n ih => intros; simp [s_FindIn_1, i_FindIn_1, ih, ByteArray.append_assoc]
@[simp] theorem s_FindIn_eq (a0 : TWorld) (a1 : Int) : s_FindIn a0 a1 = i_FindIn a0 a1 := by simp [s_FindIn, i_FindIn]
@[simp] theorem s_ItemsDue_1_eq (a0 : TFrame) (a1 : TArchive) (a2 : Int) : ∀ (n : Nat) (v0 : List Int) (v1 : Nat), s_ItemsDue_1 a0 a1 a2 n v0 v1 = i_ItemsDue_1 a0 a1 a2 n v0 v1 := by
  intro n
  induction n with
  | zero => intros; rfl
  | succ n ih => intros; simp [s_ItemsDue_1, i_ItemsDue_1, ih, ByteArray.append_assoc]
@[simp] theorem s_ItemsDue_eq (a0 : TFrame) (a1 : TArchive) (a2 : Int) : s_ItemsDue a0 a1 a2 = i_ItemsDue a0 a1 a2 := by simp [s_ItemsDue, i_ItemsDue]
@[simp] theorem i_EqualInts_eq (a0 a1 : List Int) : i_EqualInts a0 a1 = decide (a0 = a1) := eq_fn (F := i_EqualInts_1 a0 a1) (c := fun i => (nth a0 i) != (nth a1 i)) (fun i => by simp [bne, Bool.beq_eq_decide_eq]) (fun _ => rfl) (fun _ _ => rfl)
@[simp] theorem s_EqualInts_eq (a0 a1 : List Int) : s_EqualInts a0 a1 = decide (a0 = a1) := eq_fn (F := s_EqualInts_1 a0 a1) (c := fun i => (nth a0 i) != (nth a1 i)) (fun i => by simp [bne, Bool.beq_eq_decide_eq]) (fun _ => rfl) (fun _ _ => rfl)

@[simp] theorem i_equalStrings_eq (a0 a1 : List ByteArray) : i_equalStrings a0 a1 = decide (a0 = a1) := eq_fn (F := i_equalStrings_1 a0 a1) (c := fun i => !decide ((nth a0 i) = (nth a1 i))) (fun i => rfl) (fun _ => rfl) (fun _ _ => rfl)
theorem beq_dec {α : Type} [DecidableEq α] (a b : α) : (a == b) = decide (a = b) := by by_cases h : a = b <;> simp [h]
theorem bne_dec {α : Type} [DecidableEq α] (a b : α) : (a != b) = !decide (a = b) := by by_cases h : a = b <;> simp [h]
@[simp] theorem i_EqualDocuments_eq (a0 a1 : TDocument) : i_EqualDocuments a0 a1 = decide (a0 = a1) := by
  cases a0; cases a1; simp [i_EqualDocuments, beq_dec, Bool.and_assoc]
@[simp] theorem s_EqualDocuments_eq (a0 a1 : TDocument) : s_EqualDocuments a0 a1 = decide (a0 = a1) := by
  unfold s_EqualDocuments
  by_cases hl : a0.Parts.length = a1.Parts.length
  · rw [eq_list (F := s_EqualDocuments_1 a0 a1) (a := a0.Parts) (b := a1.Parts) (c := fun i => !decide ((nth a0.Parts i) = (nth a1.Parts i))) hl (fun i => rfl) (fun _ => rfl) (fun _ _ => rfl)]
    obtain ⟨t, p, s⟩ := a0; obtain ⟨t', p', s'⟩ := a1
    by_cases h1 : t = t' <;> by_cases h2 : p = p' <;> by_cases h3 : s = s' <;> simp_all
  · have : a0 ≠ a1 := fun h => hl (by rw [h])
    have h2 : ((a0.Parts.length : Int) != (a1.Parts.length : Int)) = true := by simp; omega
    simp [this, h2]

@[simp] theorem i_EqualPieces_eq (a0 a1 : TPiece) : i_EqualPieces a0 a1 = decide (a0 = a1) := by
  obtain ⟨t, p, s⟩ := a0; obtain ⟨t', p', s'⟩ := a1
  by_cases h1 : t = t' <;> by_cases h2 : p = p' <;> by_cases h3 : s = s' <;> simp_all [i_EqualPieces]
@[simp] theorem s_EqualPieces_eq (a0 a1 : TPiece) : s_EqualPieces a0 a1 = decide (a0 = a1) := by
  obtain ⟨t, p, s⟩ := a0; obtain ⟨t', p', s'⟩ := a1
  by_cases h1 : t = t' <;> by_cases h2 : p = p' <;> by_cases h3 : s = s' <;> simp_all [s_EqualPieces]

theorem stamp_dec (x y : TStamp) : ((x.Authority == y.Authority) && ((x.Seq == y.Seq) && ((x.Time == y.Time) && ((x.Digest == y.Digest) && (x.Mark == y.Mark))))) = decide (x = y) := by
  cases x; cases y; simp [beq_dec]
theorem step_dec (x y : TStep) : ((x.Digest == y.Digest) && (x.Left == y.Left)) = decide (x = y) := by
  cases x; cases y; simp [beq_dec]
@[simp] theorem i_equalStamps_eq (a0 a1 : List TStamp) : i_equalStamps a0 a1 = decide (a0 = a1) := eq_fn (F := i_equalStamps_1 a0 a1) (c := fun i => !((nth a0 i).Authority == (nth a1 i).Authority && ((nth a0 i).Seq == (nth a1 i).Seq && ((nth a0 i).Time == (nth a1 i).Time && ((nth a0 i).Digest == (nth a1 i).Digest && (nth a0 i).Mark == (nth a1 i).Mark))))) (fun i => by rw [stamp_dec]) (fun _ => rfl) (fun _ _ => rfl)
theorem len_ne {α : Type} {a b : List α} (h : ¬ a.length = b.length) : ((a.length : Int) != (b.length : Int)) = true := by simp; omega
@[simp] theorem i_EqualRenewals_eq (a0 a1 : TRenewal) : i_EqualRenewals a0 a1 = decide (a0 = a1) := by
  unfold i_EqualRenewals
  by_cases hl : a0.Path.length = a1.Path.length
  · rw [eq_list (F := i_EqualRenewals_1 a0 a1) (a := a0.Path) (b := a1.Path) (c := fun i => !((nth a0.Path i).Digest == (nth a1.Path i).Digest && (nth a0.Path i).Left == (nth a1.Path i).Left)) hl (fun i => by rw [step_dec]) (fun _ => rfl) (fun _ _ => rfl)]
    obtain ⟨t, p, s, u, v⟩ := a0; obtain ⟨t', p', s', u', v'⟩ := a1
    by_cases h1 : t = t' <;> by_cases h2 : p = p' <;> by_cases h3 : s = s' <;> by_cases h4 : u = u' <;> simp_all
  · have : a0 ≠ a1 := fun h => hl (by rw [h])
    simp [this, len_ne hl]
@[simp] theorem s_EqualRenewals_eq (a0 a1 : TRenewal) : s_EqualRenewals a0 a1 = decide (a0 = a1) := by
  unfold s_EqualRenewals
  by_cases hl : a0.Path.length = a1.Path.length
  · by_cases hm : a0.Stamps.length = a1.Stamps.length
    · rw [eq_list (F := s_EqualRenewals_1 a0 a1) (a := a0.Path) (b := a1.Path) (c := fun i => !((nth a0.Path i).Digest == (nth a1.Path i).Digest && (nth a0.Path i).Left == (nth a1.Path i).Left)) hl (fun i => by rw [step_dec]) (fun _ => rfl) (fun _ _ => rfl),
        eq_list (F := s_EqualRenewals_2 a0 a1) (a := a0.Stamps) (b := a1.Stamps) (c := fun i => !((nth a0.Stamps i).Authority == (nth a1.Stamps i).Authority && ((nth a0.Stamps i).Seq == (nth a1.Stamps i).Seq && ((nth a0.Stamps i).Time == (nth a1.Stamps i).Time && ((nth a0.Stamps i).Digest == (nth a1.Stamps i).Digest && (nth a0.Stamps i).Mark == (nth a1.Stamps i).Mark))))) hm (fun i => by rw [stamp_dec]) (fun _ => rfl) (fun _ _ => rfl)]
      obtain ⟨t, p, s, u, v⟩ := a0; obtain ⟨t', p', s', u', v'⟩ := a1
      by_cases h1 : t = t' <;> by_cases h2 : p = p' <;> by_cases h3 : s = s' <;> by_cases h4 : u = u' <;> by_cases h5 : v = v' <;> simp_all
    · have : a0 ≠ a1 := fun h => hm (by rw [h])
      simp [this, len_ne hm]
  · have : a0 ≠ a1 := fun h => hl (by rw [h])
    simp [this, len_ne hl]

@[simp] theorem i_equalPieceLists_eq (a0 a1 : List TPiece) : i_equalPieceLists a0 a1 = decide (a0 = a1) := eq_fn (F := i_equalPieceLists_1 a0 a1) (c := fun i => !i_EqualPieces (nth a0 i) (nth a1 i)) (fun i => by simp) (fun _ => rfl) (fun _ _ => rfl)
@[simp] theorem i_EqualStrands_eq (a0 a1 : TStrand) : i_EqualStrands a0 a1 = decide (a0 = a1) := by
  unfold i_EqualStrands
  by_cases hl : a0.Chain.length = a1.Chain.length
  · rw [eq_list (F := i_EqualStrands_1 a0 a1) (a := a0.Chain) (b := a1.Chain) (c := fun i => !i_EqualRenewals (nth a0.Chain i) (nth a1.Chain i)) hl (fun i => by simp) (fun _ => rfl) (fun _ _ => rfl)]
    obtain ⟨t, p⟩ := a0; obtain ⟨t', p'⟩ := a1
    by_cases h1 : t = t' <;> by_cases h2 : p = p' <;> simp_all
  · have : a0 ≠ a1 := fun h => hl (by rw [h])
    simp [this, len_ne hl]
@[simp] theorem s_EqualStrands_eq (a0 a1 : TStrand) : s_EqualStrands a0 a1 = decide (a0 = a1) := by
  unfold s_EqualStrands
  by_cases hl : a0.Chain.length = a1.Chain.length
  · by_cases hm : a0.Pieces.length = a1.Pieces.length
    · rw [eq_list (F := s_EqualStrands_1 a0 a1) (a := a0.Pieces) (b := a1.Pieces) (c := fun i => !s_EqualPieces (nth a0.Pieces i) (nth a1.Pieces i)) hm (fun i => by simp) (fun _ => rfl) (fun _ _ => rfl),
        eq_list (F := s_EqualStrands_2 a0 a1) (a := a0.Chain) (b := a1.Chain) (c := fun i => !s_EqualRenewals (nth a0.Chain i) (nth a1.Chain i)) hl (fun i => by simp) (fun _ => rfl) (fun _ _ => rfl)]
      obtain ⟨t, p⟩ := a0; obtain ⟨t', p'⟩ := a1
      by_cases h1 : t = t' <;> by_cases h2 : p = p' <;> simp_all
    · have : a0 ≠ a1 := fun h => hm (by rw [h])
      simp [this, len_ne hm]
  · have : a0 ≠ a1 := fun h => hl (by rw [h])
    simp [this, len_ne hl]

theorem sig_dec (x y : TSignature) : ((x.Key == y.Key) && ((x.Serial == y.Serial) && ((x.Method == y.Method) && ((x.Digest == y.Digest) && ((x.Commit == y.Commit) && ((x.Org == y.Org) && ((x.Before == y.Before) && ((x.After == y.After) && (x.Mark == y.Mark))))))))) = decide (x = y) := by
  cases x; cases y; simp [beq_dec]
@[simp] theorem i_equalItems_eq (a0 a1 : TItem) : i_equalItems a0 a1 = decide (a0 = a1) := by
  unfold i_equalItems
  rw [sig_dec]
  obtain ⟨t, p, s, u, v⟩ := a0; obtain ⟨t', p', s', u', v'⟩ := a1
  by_cases h1 : t = t' <;> by_cases h2 : p = p' <;> by_cases h3 : s = s' <;> by_cases h4 : u = u' <;> simp_all
@[simp] theorem i_EqualArchives_eq (a0 a1 : TArchive) : i_EqualArchives a0 a1 = decide (a0 = a1) := by
  unfold i_EqualArchives
  by_cases hl : a0.Items.length = a1.Items.length
  · rw [eq_list (F := i_EqualArchives_1 a0 a1) (a := a0.Items) (b := a1.Items) (c := fun i => !i_equalItems (nth a0.Items i) (nth a1.Items i)) hl (fun i => by simp) (fun _ => rfl) (fun _ _ => rfl)]
    obtain ⟨t, p⟩ := a0; obtain ⟨t', p'⟩ := a1
    by_cases h1 : t = t' <;> by_cases h2 : p = p' <;> simp_all
  · have : a0 ≠ a1 := fun h => hl (by rw [h])
    simp [this, len_ne hl]
theorem item_dec (x y : TItem) : (((((x.Id != y.Id) || (x.Keep != y.Keep)) || (!((x.Sig.Key == y.Sig.Key) && ((x.Sig.Serial == y.Sig.Serial) && ((x.Sig.Method == y.Sig.Method) && ((x.Sig.Digest == y.Sig.Digest) && ((x.Sig.Commit == y.Sig.Commit) && ((x.Sig.Org == y.Sig.Org) && ((x.Sig.Before == y.Sig.Before) && ((x.Sig.After == y.Sig.After) && (x.Sig.Mark == y.Sig.Mark))))))))))) || (!(s_EqualDocuments x.Doc y.Doc))) || (!(s_EqualStrands x.Strand y.Strand))) = !decide (x = y) := by
  rw [sig_dec]
  obtain ⟨t, p, s, u, v⟩ := x; obtain ⟨t', p', s', u', v'⟩ := y
  by_cases h1 : t = t' <;> by_cases h2 : p = p' <;> by_cases h3 : s = s' <;> by_cases h4 : u = u' <;> simp_all
@[simp] theorem s_EqualArchives_eq (a0 a1 : TArchive) : s_EqualArchives a0 a1 = decide (a0 = a1) := by
  unfold s_EqualArchives
  by_cases hl : a0.Items.length = a1.Items.length
  · rw [eq_list (F := s_EqualArchives_1 a0 a1) (a := a0.Items) (b := a1.Items) (c := fun i => _) hl (fun i => item_dec (nth a0.Items i) (nth a1.Items i)) (fun _ => rfl) (fun _ _ => rfl)]
    obtain ⟨t, p⟩ := a0; obtain ⟨t', p'⟩ := a1
    by_cases h1 : t = t' <;> by_cases h2 : p = p' <;> simp_all
  · have : a0 ≠ a1 := fun h => hl (by rw [h])
    simp [this, len_ne hl]

theorem key_dec (x y : TKey) : ((x.Number == y.Number) && ((x.Owner == y.Owner) && ((x.Method == y.Method) && ((x.Born == y.Born) && (x.Secret == y.Secret))))) = decide (x = y) := by
  cases x; cases y; simp [beq_dec]
theorem auth_dec (x y : TAuthority) : ((x.Id == y.Id) && ((x.Key == y.Key) && (x.Error == y.Error))) = decide (x = y) := by
  cases x; cases y; simp [beq_dec]
theorem meth_dec (x y : TMethod) : ((x.Id == y.Id) && ((x.Known == y.Known) && ((x.Ends == y.Ends) && (x.Broken == y.Broken)))) = decide (x = y) := by
  cases x; cases y; simp [beq_dec]
theorem cert_dec (x y : TCert) : ((x.Serial == y.Serial) && ((x.Key == y.Key) && ((x.Owner == y.Owner) && ((x.From == y.From) && ((x.To == y.To) && ((x.Issuer == y.Issuer) && (x.Mark == y.Mark))))))) = decide (x = y) := by
  cases x; cases y; simp [beq_dec]
@[simp] theorem i_equalFrames_eq (a0 a1 : TFrame) : i_equalFrames a0 a1 = decide (a0 = a1) := by
  unfold i_equalFrames
  by_cases h1 : a0.Keys.length = a1.Keys.length
  · by_cases h2 : a0.Authorities.length = a1.Authorities.length
    · by_cases h3 : a0.Methods.length = a1.Methods.length
      · rw [eq_list (F := i_equalFrames_1 a0 a1) (a := a0.Keys) (b := a1.Keys) (c := fun i => _) h1 (fun i => congrArg (! ·) (key_dec (nth a0.Keys i) (nth a1.Keys i))) (fun _ => rfl) (fun _ _ => rfl),
          eq_list (F := i_equalFrames_2 a0 a1) (a := a0.Authorities) (b := a1.Authorities) (c := fun i => _) h2 (fun i => congrArg (! ·) (auth_dec (nth a0.Authorities i) (nth a1.Authorities i))) (fun _ => rfl) (fun _ _ => rfl),
          eq_list (F := i_equalFrames_3 a0 a1) (a := a0.Methods) (b := a1.Methods) (c := fun i => _) h3 (fun i => congrArg (! ·) (meth_dec (nth a0.Methods i) (nth a1.Methods i))) (fun _ => rfl) (fun _ _ => rfl)]
        obtain ⟨t, p, s, u, v⟩ := a0; obtain ⟨t', p', s', u', v'⟩ := a1
        by_cases h4 : t = t' <;> by_cases h5 : p = p' <;> by_cases h6 : s = s' <;> by_cases h7 : u = u' <;> by_cases h8 : v = v' <;> simp_all
      · have : a0 ≠ a1 := fun h => h3 (by rw [h])
        simp [this, len_ne h3]
    · have : a0 ≠ a1 := fun h => h2 (by rw [h])
      simp [this, len_ne h2]
  · have : a0 ≠ a1 := fun h => h1 (by rw [h])
    simp [this, len_ne h1]
@[simp] theorem s_l33Frames_eq (a0 a1 : TFrame) : s_l33Frames a0 a1 = decide (a0 = a1) := by
  unfold s_l33Frames
  by_cases h1 : a0.Keys.length = a1.Keys.length
  · by_cases h2 : a0.Authorities.length = a1.Authorities.length
    · by_cases h3 : a0.Methods.length = a1.Methods.length
      · rw [eq_list (F := s_l33Frames_1 a0 a1) (a := a0.Keys) (b := a1.Keys) (c := fun i => _) h1 (fun i => congrArg (! ·) (key_dec (nth a0.Keys i) (nth a1.Keys i))) (fun _ => rfl) (fun _ _ => rfl),
          eq_list (F := s_l33Frames_2 a0 a1) (a := a0.Authorities) (b := a1.Authorities) (c := fun i => _) h2 (fun i => congrArg (! ·) (auth_dec (nth a0.Authorities i) (nth a1.Authorities i))) (fun _ => rfl) (fun _ _ => rfl),
          eq_list (F := s_l33Frames_3 a0 a1) (a := a0.Methods) (b := a1.Methods) (c := fun i => _) h3 (fun i => congrArg (! ·) (meth_dec (nth a0.Methods i) (nth a1.Methods i))) (fun _ => rfl) (fun _ _ => rfl)]
        obtain ⟨t, p, s, u, v⟩ := a0; obtain ⟨t', p', s', u', v'⟩ := a1
        by_cases h4 : t = t' <;> by_cases h5 : p = p' <;> by_cases h6 : s = s' <;> by_cases h7 : u = u' <;> by_cases h8 : v = v' <;> simp_all
      · have : a0 ≠ a1 := fun h => h3 (by rw [h])
        simp [this, len_ne h3]
    · have : a0 ≠ a1 := fun h => h2 (by rw [h])
      simp [this, len_ne h2]
  · have : a0 ≠ a1 := fun h => h1 (by rw [h])
    simp [this, len_ne h1]
@[simp] theorem i_EqualWorlds_eq (a0 a1 : TWorld) : i_EqualWorlds a0 a1 = decide (a0 = a1) := by
  unfold i_EqualWorlds
  by_cases h1 : a0.Certs.length = a1.Certs.length
  · by_cases h2 : a0.Archives.length = a1.Archives.length
    · rw [eq_list (F := i_EqualWorlds_1 a0 a1) (a := a0.Certs) (b := a1.Certs) (c := fun i => _) h1 (fun i => congrArg (! ·) (cert_dec (nth a0.Certs i) (nth a1.Certs i))) (fun _ => rfl) (fun _ _ => rfl),
        eq_list (F := i_EqualWorlds_2 a0 a1) (a := a0.Archives) (b := a1.Archives) (c := fun i => !i_EqualArchives (nth a0.Archives i) (nth a1.Archives i)) h2 (fun i => by simp) (fun _ => rfl) (fun _ _ => rfl)]
      simp only [i_equalFrames_eq, i_EqualInts_eq]
      obtain ⟨f, c, e, a, s, l, n, g⟩ := a0; obtain ⟨f', c', e', a', s', l', n', g'⟩ := a1
      by_cases q1 : f = f'
      · by_cases q2 : c = c'
        · by_cases q3 : e = e'
          · by_cases q4 : a = a' <;> by_cases q5 : s = s' <;> by_cases q6 : l = l' <;> by_cases q7 : n = n' <;> by_cases q8 : g = g' <;> simp_all
          · simp_all
        · simp_all
      · simp_all
    · have : a0 ≠ a1 := fun h => h2 (by rw [h])
      simp [this, len_ne h2]
  · have : a0 ≠ a1 := fun h => h1 (by rw [h])
    simp [this, len_ne h1]
@[simp] theorem s_EqualWorlds_eq (a0 a1 : TWorld) : s_EqualWorlds a0 a1 = decide (a0 = a1) := by
  unfold s_EqualWorlds
  by_cases h1 : a0.Certs.length = a1.Certs.length
  · by_cases h2 : a0.Archives.length = a1.Archives.length
    · rw [eq_list (F := s_EqualWorlds_1 a0 a1) (a := a0.Certs) (b := a1.Certs) (c := fun i => _) h1 (fun i => congrArg (! ·) (cert_dec (nth a0.Certs i) (nth a1.Certs i))) (fun _ => rfl) (fun _ _ => rfl),
        eq_list (F := s_EqualWorlds_2 a0 a1) (a := a0.Archives) (b := a1.Archives) (c := fun i => !s_EqualArchives (nth a0.Archives i) (nth a1.Archives i)) h2 (fun i => by simp) (fun _ => rfl) (fun _ _ => rfl)]
      simp only [s_l33Frames_eq, s_EqualInts_eq]
      obtain ⟨f, c, e, a, s, l, n, g⟩ := a0; obtain ⟨f', c', e', a', s', l', n', g'⟩ := a1
      by_cases q4 : a = a'
      · by_cases q2 : c = c'
        · by_cases q7 : n = n'
          · by_cases q1 : f = f' <;> by_cases q3 : e = e' <;> by_cases q5 : s = s' <;> by_cases q6 : l = l' <;> by_cases q8 : g = g' <;> simp_all
          · simp_all
        · simp_all
      · by_cases q2 : c = c' <;> simp_all
    · have : a0 ≠ a1 := fun h => h2 (by rw [h])
      simp [this, len_ne h2]
  · have : a0 ≠ a1 := fun h => h1 (by rw [h])
    simp [this, len_ne h1]

end Go.Mo
