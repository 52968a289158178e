/- Plain lemmas on the models of the helpers. No condition. -/
import Derived.Test.YtllfgbhplfhdkaaM
namespace Go.Mo
open Go.Vm
set_option linter.unusedSimpArgs false
set_option linter.unusedVariables false
theorem l_szKeyS_sm : SzOk l_szKeyS := sz_flat (fun _ _ => trivial) (fun _ _ => rfl)
theorem l_szKeyS_cz : CzOk l_szKeyS 0 := cz_flat (fun _ => Nat.le_of_ble_eq_true rfl) (fun _ _ => rfl)
theorem l_szAuthorityS_sm : SzOk l_szAuthorityS := sz_flat (fun _ _ => trivial) (fun _ _ => rfl)
theorem l_szAuthorityS_cz : CzOk l_szAuthorityS 0 := cz_flat (fun _ => Nat.le_of_ble_eq_true rfl) (fun _ _ => rfl)
theorem l_szMethodS_sm : SzOk l_szMethodS := sz_flat (fun _ _ => trivial) (fun _ _ => rfl)
theorem l_szMethodS_cz : CzOk l_szMethodS 0 := cz_flat (fun _ => Nat.le_of_ble_eq_true rfl) (fun _ _ => rfl)
theorem l_szFrame_sm : SzOk l_szFrame := by
  intro a0 a1 hm h0 hn h
  unfold l_szFrame at h ⊢
  by_cases c0 : (l_szKeyS a0.Keys a1) < 0
  · simp [c0] at h
  obtain ⟨s0, t0⟩ := l_szKeyS_sm a0.Keys a1 (by simp [hm]) (by omega) (by omega) c0
  by_cases c1 : (l_szAuthorityS a0.Authorities (l_szKeyS a0.Keys a1)) < 0
  · simp [c1, c0] at h
  obtain ⟨s1, t1⟩ := l_szAuthorityS_sm a0.Authorities (l_szKeyS a0.Keys a1) (by simp [hm]) (by omega) (by omega) c1
  by_cases c2 : (l_szMethodS a0.Methods (l_szAuthorityS a0.Authorities (l_szKeyS a0.Keys a1))) < 0
  · simp [c2, c0, c1] at h
  obtain ⟨s2, t2⟩ := l_szMethodS_sm a0.Methods (l_szAuthorityS a0.Authorities (l_szKeyS a0.Keys a1)) (by simp [hm]) (by omega) (by omega) c2
  simp only [c0, c1, c2, decide_false, cond_false] at h ⊢
  exact ⟨⟨s0, s1, s2⟩, t2⟩
theorem l_szFrame_cz : CzOk l_szFrame 2 := by
  intro a0 a1 hm h0 hn h
  unfold l_szFrame at h ⊢
  by_cases c0 : (l_szKeyS a0.Keys a1) < 0
  · simp [c0] at h
  obtain ⟨s0, t0⟩ := l_szKeyS_cz a0.Keys a1 (by simp [hm]) (by omega) (by omega) c0
  by_cases c1 : (l_szAuthorityS a0.Authorities (l_szKeyS a0.Keys a1)) < 0
  · simp [c1, c0] at h
  obtain ⟨s1, t1⟩ := l_szAuthorityS_cz a0.Authorities (l_szKeyS a0.Keys a1) (by simp [hm]) (by omega) (by omega) c1
  by_cases c2 : (l_szMethodS a0.Methods (l_szAuthorityS a0.Authorities (l_szKeyS a0.Keys a1))) < 0
  · simp [c2, c0, c1] at h
  obtain ⟨s2, t2⟩ := l_szMethodS_cz a0.Methods (l_szAuthorityS a0.Authorities (l_szKeyS a0.Keys a1)) (by simp [hm]) (by omega) (by omega) c2
  simp only [c0, c1, c2, decide_false, cond_false] at h ⊢
  simp only [cn_int, cn_bool, cn_str, TFrame.cn_eq]
  omega
theorem l_szStringS_sm : SzOk l_szStringS := sz_loop sz_string (G := l_szStringS_1) (fun _ _ _ _ => rfl) (fun _ _ => rfl)
theorem l_szStringS_cz : CzOk l_szStringS 0 := cz_loop cz_string (by decide) (G := l_szStringS_1) (fun _ _ _ _ => rfl) (fun _ _ => rfl)
theorem l_szIntS_sm : SzOk l_szIntS := sz_flat (fun _ _ => trivial) (fun _ _ => rfl)
theorem l_szIntS_cz : CzOk l_szIntS 0 := cz_flat (fun _ => Nat.le_of_ble_eq_true rfl) (fun _ _ => rfl)
theorem l_szDocument_sm : SzOk l_szDocument := by
  intro a0 a1 hm h0 hn h
  unfold l_szDocument at h ⊢
  by_cases c0 : (l_szStringS a0.Parts a1) < 0
  · simp [c0] at h
  obtain ⟨s0, t0⟩ := l_szStringS_sm a0.Parts a1 (by simp [hm]) (by omega) (by omega) c0
  by_cases c1 : (l_szIntS a0.Salts (l_szStringS a0.Parts a1)) < 0
  · simp [c1, c0] at h
  obtain ⟨s1, t1⟩ := l_szIntS_sm a0.Salts (l_szStringS a0.Parts a1) (by simp [hm]) (by omega) (by omega) c1
  simp only [c0, c1, decide_false, cond_false] at h ⊢
  exact ⟨⟨s0, s1⟩, t1⟩
theorem l_szDocument_cz : CzOk l_szDocument 1 := by
  intro a0 a1 hm h0 hn h
  unfold l_szDocument at h ⊢
  by_cases c0 : (l_szStringS a0.Parts a1) < 0
  · simp [c0] at h
  obtain ⟨s0, t0⟩ := l_szStringS_cz a0.Parts a1 (by simp [hm]) (by omega) (by omega) c0
  by_cases c1 : (l_szIntS a0.Salts (l_szStringS a0.Parts a1)) < 0
  · simp [c1, c0] at h
  obtain ⟨s1, t1⟩ := l_szIntS_cz a0.Salts (l_szStringS a0.Parts a1) (by simp [hm]) (by omega) (by omega) c1
  simp only [c0, c1, decide_false, cond_false] at h ⊢
  simp only [cn_int, cn_bool, cn_str, TDocument.cn_eq]
  omega
theorem l_szPiece_sm : SzOk l_szPiece := by
  intro a0 a1 hm h0 hn h
  unfold l_szPiece at h ⊢
  by_cases c0 : (l_szIntS a0.Ints a1) < 0
  · simp [c0] at h
  obtain ⟨s0, t0⟩ := l_szIntS_sm a0.Ints a1 (by simp [hm]) (by omega) (by omega) c0
  simp only [c0, decide_false, cond_false] at h ⊢
  exact ⟨s0, t0⟩
theorem l_szPiece_cz : CzOk l_szPiece 2 := by
  intro a0 a1 hm h0 hn h
  unfold l_szPiece at h ⊢
  by_cases c0 : (l_szIntS a0.Ints a1) < 0
  · simp [c0] at h
  obtain ⟨s0, t0⟩ := l_szIntS_cz a0.Ints a1 (by simp [hm]) (by omega) (by omega) c0
  simp only [c0, decide_false, cond_false] at h ⊢
  simp only [cn_int, cn_bool, cn_str, TPiece.cn_eq]
  omega
theorem l_szPieceS_sm : SzOk l_szPieceS := sz_loop l_szPiece_sm (G := l_szPieceS_1) (fun _ _ _ _ => rfl) (fun _ _ => rfl)
theorem l_szPieceS_cz : CzOk l_szPieceS 0 := cz_loop l_szPiece_cz (by decide) (G := l_szPieceS_1) (fun _ _ _ _ => rfl) (fun _ _ => rfl)
theorem l_szStepS_sm : SzOk l_szStepS := sz_flat (fun _ _ => trivial) (fun _ _ => rfl)
theorem l_szStepS_cz : CzOk l_szStepS 0 := cz_flat (fun _ => Nat.le_of_ble_eq_true rfl) (fun _ _ => rfl)
theorem l_szStampS_sm : SzOk l_szStampS := sz_flat (fun _ _ => trivial) (fun _ _ => rfl)
theorem l_szStampS_cz : CzOk l_szStampS 0 := cz_flat (fun _ => Nat.le_of_ble_eq_true rfl) (fun _ _ => rfl)
theorem l_szRenewal_sm : SzOk l_szRenewal := by
  intro a0 a1 hm h0 hn h
  unfold l_szRenewal at h ⊢
  by_cases c0 : (l_szStepS a0.Path a1) < 0
  · simp [c0] at h
  obtain ⟨s0, t0⟩ := l_szStepS_sm a0.Path a1 (by simp [hm]) (by omega) (by omega) c0
  by_cases c1 : (l_szStampS a0.Stamps (l_szStepS a0.Path a1)) < 0
  · simp [c1, c0] at h
  obtain ⟨s1, t1⟩ := l_szStampS_sm a0.Stamps (l_szStepS a0.Path a1) (by simp [hm]) (by omega) (by omega) c1
  simp only [c0, c1, decide_false, cond_false] at h ⊢
  exact ⟨⟨s0, s1⟩, t1⟩
theorem l_szRenewal_cz : CzOk l_szRenewal 3 := by
  intro a0 a1 hm h0 hn h
  unfold l_szRenewal at h ⊢
  by_cases c0 : (l_szStepS a0.Path a1) < 0
  · simp [c0] at h
  obtain ⟨s0, t0⟩ := l_szStepS_cz a0.Path a1 (by simp [hm]) (by omega) (by omega) c0
  by_cases c1 : (l_szStampS a0.Stamps (l_szStepS a0.Path a1)) < 0
  · simp [c1, c0] at h
  obtain ⟨s1, t1⟩ := l_szStampS_cz a0.Stamps (l_szStepS a0.Path a1) (by simp [hm]) (by omega) (by omega) c1
  simp only [c0, c1, decide_false, cond_false] at h ⊢
  simp only [cn_int, cn_bool, cn_str, TRenewal.cn_eq]
  omega
theorem l_szRenewalS_sm : SzOk l_szRenewalS := sz_loop l_szRenewal_sm (G := l_szRenewalS_1) (fun _ _ _ _ => rfl) (fun _ _ => rfl)
theorem l_szRenewalS_cz : CzOk l_szRenewalS 0 := cz_loop l_szRenewal_cz (by decide) (G := l_szRenewalS_1) (fun _ _ _ _ => rfl) (fun _ _ => rfl)
theorem l_szStrand_sm : SzOk l_szStrand := by
  intro a0 a1 hm h0 hn h
  unfold l_szStrand at h ⊢
  by_cases c0 : (l_szPieceS a0.Pieces a1) < 0
  · simp [c0] at h
  obtain ⟨s0, t0⟩ := l_szPieceS_sm a0.Pieces a1 (by simp [hm]) (by omega) (by omega) c0
  by_cases c1 : (l_szRenewalS a0.Chain (l_szPieceS a0.Pieces a1)) < 0
  · simp [c1, c0] at h
  obtain ⟨s1, t1⟩ := l_szRenewalS_sm a0.Chain (l_szPieceS a0.Pieces a1) (by simp [hm]) (by omega) (by omega) c1
  simp only [c0, c1, decide_false, cond_false] at h ⊢
  exact ⟨⟨s0, s1⟩, t1⟩
theorem l_szStrand_cz : CzOk l_szStrand 0 := by
  intro a0 a1 hm h0 hn h
  unfold l_szStrand at h ⊢
  by_cases c0 : (l_szPieceS a0.Pieces a1) < 0
  · simp [c0] at h
  obtain ⟨s0, t0⟩ := l_szPieceS_cz a0.Pieces a1 (by simp [hm]) (by omega) (by omega) c0
  by_cases c1 : (l_szRenewalS a0.Chain (l_szPieceS a0.Pieces a1)) < 0
  · simp [c1, c0] at h
  obtain ⟨s1, t1⟩ := l_szRenewalS_cz a0.Chain (l_szPieceS a0.Pieces a1) (by simp [hm]) (by omega) (by omega) c1
  simp only [c0, c1, decide_false, cond_false] at h ⊢
  simp only [cn_int, cn_bool, cn_str, TStrand.cn_eq]
  omega
theorem l_szItem_sm : SzOk l_szItem := by
  intro a0 a1 hm h0 hn h
  unfold l_szItem at h ⊢
  by_cases c0 : (l_szDocument a0.Doc a1) < 0
  · simp [c0] at h
  obtain ⟨s0, t0⟩ := l_szDocument_sm a0.Doc a1 (by simp [hm]) (by omega) (by omega) c0
  by_cases c1 : (l_szStrand a0.Strand (l_szDocument a0.Doc a1)) < 0
  · simp [c1, c0] at h
  obtain ⟨s1, t1⟩ := l_szStrand_sm a0.Strand (l_szDocument a0.Doc a1) (by simp [hm]) (by omega) (by omega) c1
  simp only [c0, c1, decide_false, cond_false] at h ⊢
  exact ⟨⟨s0, s1⟩, t1⟩
theorem l_szItem_cz : CzOk l_szItem 12 := by
  intro a0 a1 hm h0 hn h
  unfold l_szItem at h ⊢
  by_cases c0 : (l_szDocument a0.Doc a1) < 0
  · simp [c0] at h
  obtain ⟨s0, t0⟩ := l_szDocument_cz a0.Doc a1 (by simp [hm]) (by omega) (by omega) c0
  by_cases c1 : (l_szStrand a0.Strand (l_szDocument a0.Doc a1)) < 0
  · simp [c1, c0] at h
  obtain ⟨s1, t1⟩ := l_szStrand_cz a0.Strand (l_szDocument a0.Doc a1) (by simp [hm]) (by omega) (by omega) c1
  simp only [c0, c1, decide_false, cond_false] at h ⊢
  simp only [cn_int, cn_bool, cn_str, TItem.cn_eq, TSignature.cn_eq]
  omega
theorem l_szItemS_sm : SzOk l_szItemS := sz_loop l_szItem_sm (G := l_szItemS_1) (fun _ _ _ _ => rfl) (fun _ _ => rfl)
theorem l_szItemS_cz : CzOk l_szItemS 0 := cz_loop l_szItem_cz (by decide) (G := l_szItemS_1) (fun _ _ _ _ => rfl) (fun _ _ => rfl)
theorem l_szArchive_sm : SzOk l_szArchive := by
  intro a0 a1 hm h0 hn h
  unfold l_szArchive at h ⊢
  by_cases c0 : (l_szItemS a0.Items a1) < 0
  · simp [c0] at h
  obtain ⟨s0, t0⟩ := l_szItemS_sm a0.Items a1 (by simp [hm]) (by omega) (by omega) c0
  simp only [c0, decide_false, cond_false] at h ⊢
  exact ⟨s0, t0⟩
theorem l_szArchive_cz : CzOk l_szArchive 1 := by
  intro a0 a1 hm h0 hn h
  unfold l_szArchive at h ⊢
  by_cases c0 : (l_szItemS a0.Items a1) < 0
  · simp [c0] at h
  obtain ⟨s0, t0⟩ := l_szItemS_cz a0.Items a1 (by simp [hm]) (by omega) (by omega) c0
  simp only [c0, decide_false, cond_false] at h ⊢
  simp only [cn_int, cn_bool, cn_str, TArchive.cn_eq]
  omega
theorem l_toKey_id (a0 : TKey) : l_toKey a0 = a0 := by cases a0; simp [l_toKey]
theorem l_toKeyS_id (a0 : List TKey) : l_toKeyS a0 = a0 := to_loop (F := l_toKeyS_1 a0) (g := (fun x => x)) (fun _ => rfl) (fun _ _ _ => rfl) _ 0 _ (by simp) (by omega) (by omega) (fun j h => by omega)
theorem l_toAuthority_id (a0 : TAuthority) : l_toAuthority a0 = a0 := by cases a0; simp [l_toAuthority]
theorem l_toAuthorityS_id (a0 : List TAuthority) : l_toAuthorityS a0 = a0 := to_loop (F := l_toAuthorityS_1 a0) (g := (fun x => x)) (fun _ => rfl) (fun _ _ _ => rfl) _ 0 _ (by simp) (by omega) (by omega) (fun j h => by omega)
theorem l_toMethod_id (a0 : TMethod) : l_toMethod a0 = a0 := by cases a0; simp [l_toMethod]
theorem l_toMethodS_id (a0 : List TMethod) : l_toMethodS a0 = a0 := to_loop (F := l_toMethodS_1 a0) (g := (fun x => x)) (fun _ => rfl) (fun _ _ _ => rfl) _ 0 _ (by simp) (by omega) (by omega) (fun j h => by omega)
theorem l_toFrame_id (a0 : TFrame) : l_toFrame a0 = a0 := by cases a0; simp [l_toFrame]
theorem l_toStringS_id (a0 : List ByteArray) : l_toStringS a0 = a0 := to_loop (F := l_toStringS_1 a0) (g := (fun x => x)) (fun _ => rfl) (fun _ _ _ => rfl) _ 0 _ (by simp) (by omega) (by omega) (fun j h => by omega)
theorem l_toIntS_id (a0 : List Int) : l_toIntS a0 = a0 := to_loop (F := l_toIntS_1 a0) (g := (fun x => x)) (fun _ => rfl) (fun _ _ _ => rfl) _ 0 _ (by simp) (by omega) (by omega) (fun j h => by omega)
theorem l_toDocument_id (a0 : TDocument) : l_toDocument a0 = a0 := by cases a0; simp [l_toDocument]
theorem l_toSignature_id (a0 : TSignature) : l_toSignature a0 = a0 := by cases a0; simp [l_toSignature]
theorem l_toPiece_id (a0 : TPiece) : l_toPiece a0 = a0 := by cases a0; simp [l_toPiece]
theorem l_toPieceS_id (a0 : List TPiece) : l_toPieceS a0 = a0 := to_loop (F := l_toPieceS_1 a0) (g := (fun x => x)) (fun _ => rfl) (fun _ _ _ => rfl) _ 0 _ (by simp) (by omega) (by omega) (fun j h => by omega)
theorem l_toStep_id (a0 : TStep) : l_toStep a0 = a0 := by cases a0; simp [l_toStep]
theorem l_toStepS_id (a0 : List TStep) : l_toStepS a0 = a0 := to_loop (F := l_toStepS_1 a0) (g := (fun x => x)) (fun _ => rfl) (fun _ _ _ => rfl) _ 0 _ (by simp) (by omega) (by omega) (fun j h => by omega)
theorem l_toStamp_id (a0 : TStamp) : l_toStamp a0 = a0 := by cases a0; simp [l_toStamp]
theorem l_toStampS_id (a0 : List TStamp) : l_toStampS a0 = a0 := to_loop (F := l_toStampS_1 a0) (g := (fun x => x)) (fun _ => rfl) (fun _ _ _ => rfl) _ 0 _ (by simp) (by omega) (by omega) (fun j h => by omega)
theorem l_toRenewal_id (a0 : TRenewal) : l_toRenewal a0 = a0 := by cases a0; simp [l_toRenewal]
theorem l_toRenewalS_id (a0 : List TRenewal) : l_toRenewalS a0 = a0 := to_loop (F := l_toRenewalS_1 a0) (g := (fun x => x)) (fun _ => rfl) (fun _ _ _ => rfl) _ 0 _ (by simp) (by omega) (by omega) (fun j h => by omega)
theorem l_toStrand_id (a0 : TStrand) : l_toStrand a0 = a0 := by cases a0; simp [l_toStrand]
theorem l_toItem_id (a0 : TItem) : l_toItem a0 = a0 := by cases a0; simp [l_toItem]
theorem l_toItemS_id (a0 : List TItem) : l_toItemS a0 = a0 := to_loop (F := l_toItemS_1 a0) (g := (fun x => x)) (fun _ => rfl) (fun _ _ _ => rfl) _ 0 _ (by simp) (by omega) (by omega) (fun j h => by omega)
theorem l_toArchive_id (a0 : TArchive) : l_toArchive a0 = a0 := by cases a0; simp [l_toArchive]
theorem s_FindMethod_lt (a0 : List TMethod) (a1 : Int) : s_FindMethod a0 a1 < (a0.length : Int) := find_lt (F := s_FindMethod_1 a0 a1) (c := fun v1_0 => ((nth a0 v1_0).Id == a1)) (fun _ => rfl) (fun _ _ => rfl) _ _
theorem s_FindAuthority_lt (a0 : List TAuthority) (a1 : Int) : s_FindAuthority a0 a1 < (a0.length : Int) := find_lt (F := s_FindAuthority_1 a0 a1) (c := fun v1_0 => ((nth a0 v1_0).Id == a1)) (fun _ => rfl) (fun _ _ => rfl) _ _
theorem s_FindKey_lt (a0 : List TKey) (a1 : Int) : s_FindKey a0 a1 < (a0.length : Int) := find_lt (F := s_FindKey_1 a0 a1) (c := fun v1_0 => ((nth a0 v1_0).Number == a1)) (fun _ => rfl) (fun _ _ => rfl) _ _
theorem i_FindMethod_lt (a0 : List TMethod) (a1 : Int) : i_FindMethod a0 a1 < (a0.length : Int) := find_lt (F := i_FindMethod_1 a0 a1) (c := fun v1_0 => ((nth a0 v1_0).Id == a1)) (fun _ => rfl) (fun _ _ => rfl) _ _
theorem i_FindAuthority_lt (a0 : List TAuthority) (a1 : Int) : i_FindAuthority a0 a1 < (a0.length : Int) := find_lt (F := i_FindAuthority_1 a0 a1) (c := fun v1_0 => ((nth a0 v1_0).Id == a1)) (fun _ => rfl) (fun _ _ => rfl) _ _
theorem i_FindKey_lt (a0 : List TKey) (a1 : Int) : i_FindKey a0 a1 < (a0.length : Int) := find_lt (F := i_FindKey_1 a0 a1) (c := fun v1_0 => ((nth a0 v1_0).Number == a1)) (fun _ => rfl) (fun _ _ => rfl) _ _
theorem l_eqIntS_self (a0 : List Int) : l_eqIntS a0 a0 = true := by
  unfold l_eqIntS
  rw [eq_loop (F := l_eqIntS_1 a0 a0) (L := a0.length) (c := fun v1_0 => ((nth a0 v1_0) != (nth a0 v1_0))) (fun i => by simp) (fun _ => rfl) (fun _ _ => rfl)]
  simp
theorem l_eqKey_self (a0 : TKey) : l_eqKey a0 a0 = true := by simp [l_eqKey]
theorem l_eqKeyS_self (a0 : List TKey) : l_eqKeyS a0 a0 = true := by
  unfold l_eqKeyS
  rw [eq_loop (F := l_eqKeyS_1 a0 a0) (L := a0.length) (c := fun v1_0 => (!(l_eqKey (nth a0 v1_0) (nth a0 v1_0)))) (fun i => by simp [l_eqKey_self]) (fun _ => rfl) (fun _ _ => rfl)]
  simp
theorem l_eqAuthority_self (a0 : TAuthority) : l_eqAuthority a0 a0 = true := by simp [l_eqAuthority]
theorem l_eqAuthorityS_self (a0 : List TAuthority) : l_eqAuthorityS a0 a0 = true := by
  unfold l_eqAuthorityS
  rw [eq_loop (F := l_eqAuthorityS_1 a0 a0) (L := a0.length) (c := fun v1_0 => (!(l_eqAuthority (nth a0 v1_0) (nth a0 v1_0)))) (fun i => by simp [l_eqAuthority_self]) (fun _ => rfl) (fun _ _ => rfl)]
  simp
theorem l_eqMethod_self (a0 : TMethod) : l_eqMethod a0 a0 = true := by simp [l_eqMethod]
theorem l_eqMethodS_self (a0 : List TMethod) : l_eqMethodS a0 a0 = true := by
  unfold l_eqMethodS
  rw [eq_loop (F := l_eqMethodS_1 a0 a0) (L := a0.length) (c := fun v1_0 => (!(l_eqMethod (nth a0 v1_0) (nth a0 v1_0)))) (fun i => by simp [l_eqMethod_self]) (fun _ => rfl) (fun _ _ => rfl)]
  simp
theorem l_eqFrame_self (a0 : TFrame) : l_eqFrame a0 a0 = true := by simp [l_eqFrame, l_eqAuthorityS_self, l_eqKeyS_self, l_eqMethodS_self]
theorem l_eqStringS_self (a0 : List ByteArray) : l_eqStringS a0 a0 = true := by
  unfold l_eqStringS
  rw [eq_loop (F := l_eqStringS_1 a0 a0) (L := a0.length) (c := fun v1_0 => (!decide ((nth a0 v1_0) = (nth a0 v1_0)))) (fun i => by simp) (fun _ => rfl) (fun _ _ => rfl)]
  simp
theorem l_eqDocument_self (a0 : TDocument) : l_eqDocument a0 a0 = true := by simp [l_eqDocument, l_eqIntS_self, l_eqStringS_self]
theorem l_eqSignature_self (a0 : TSignature) : l_eqSignature a0 a0 = true := by simp [l_eqSignature]
theorem l_eqPiece_self (a0 : TPiece) : l_eqPiece a0 a0 = true := by simp [l_eqPiece, l_eqIntS_self]
theorem l_eqPieceS_self (a0 : List TPiece) : l_eqPieceS a0 a0 = true := by
  unfold l_eqPieceS
  rw [eq_loop (F := l_eqPieceS_1 a0 a0) (L := a0.length) (c := fun v1_0 => (!(l_eqPiece (nth a0 v1_0) (nth a0 v1_0)))) (fun i => by simp [l_eqPiece_self]) (fun _ => rfl) (fun _ _ => rfl)]
  simp
theorem l_eqStep_self (a0 : TStep) : l_eqStep a0 a0 = true := by simp [l_eqStep]
theorem l_eqStepS_self (a0 : List TStep) : l_eqStepS a0 a0 = true := by
  unfold l_eqStepS
  rw [eq_loop (F := l_eqStepS_1 a0 a0) (L := a0.length) (c := fun v1_0 => (!(l_eqStep (nth a0 v1_0) (nth a0 v1_0)))) (fun i => by simp [l_eqStep_self]) (fun _ => rfl) (fun _ _ => rfl)]
  simp
theorem l_eqStamp_self (a0 : TStamp) : l_eqStamp a0 a0 = true := by simp [l_eqStamp]
theorem l_eqStampS_self (a0 : List TStamp) : l_eqStampS a0 a0 = true := by
  unfold l_eqStampS
  rw [eq_loop (F := l_eqStampS_1 a0 a0) (L := a0.length) (c := fun v1_0 => (!(l_eqStamp (nth a0 v1_0) (nth a0 v1_0)))) (fun i => by simp [l_eqStamp_self]) (fun _ => rfl) (fun _ _ => rfl)]
  simp
theorem l_eqRenewal_self (a0 : TRenewal) : l_eqRenewal a0 a0 = true := by simp [l_eqRenewal, l_eqStampS_self, l_eqStepS_self]
theorem l_eqRenewalS_self (a0 : List TRenewal) : l_eqRenewalS a0 a0 = true := by
  unfold l_eqRenewalS
  rw [eq_loop (F := l_eqRenewalS_1 a0 a0) (L := a0.length) (c := fun v1_0 => (!(l_eqRenewal (nth a0 v1_0) (nth a0 v1_0)))) (fun i => by simp [l_eqRenewal_self]) (fun _ => rfl) (fun _ _ => rfl)]
  simp
theorem l_eqStrand_self (a0 : TStrand) : l_eqStrand a0 a0 = true := by simp [l_eqStrand, l_eqPieceS_self, l_eqRenewalS_self]
theorem l_eqItem_self (a0 : TItem) : l_eqItem a0 a0 = true := by simp [l_eqItem, l_eqDocument_self, l_eqSignature_self, l_eqStrand_self]
theorem l_eqItemS_self (a0 : List TItem) : l_eqItemS a0 a0 = true := by
  unfold l_eqItemS
  rw [eq_loop (F := l_eqItemS_1 a0 a0) (L := a0.length) (c := fun v1_0 => (!(l_eqItem (nth a0 v1_0) (nth a0 v1_0)))) (fun i => by simp [l_eqItem_self]) (fun _ => rfl) (fun _ _ => rfl)]
  simp
theorem l_eqArchive_self (a0 : TArchive) : l_eqArchive a0 a0 = true := by simp [l_eqArchive, l_eqItemS_self]
theorem l_markKeyS_eq (a0 : List TKey) (a1 : Int) : l_markKeyS a0 a1 = mkL (fun (x : TKey) (k : Int) => ((TKey.mk k (W (k + 1)) (W ((W (k + 1)) + 1)) (W ((W ((W (k + 1)) + 1)) + 1)) (W ((W ((W ((W (k + 1)) + 1)) + 1)) + 1))), (W ((W ((W ((W ((W (k + 1)) + 1)) + 1)) + 1)) + 1)))) a0 a1 := by
  have h := mark_loop (F := l_markKeyS_1) (f := (fun (x : TKey) (k : Int) => ((TKey.mk k (W (k + 1)) (W ((W (k + 1)) + 1)) (W ((W ((W (k + 1)) + 1)) + 1)) (W ((W ((W ((W (k + 1)) + 1)) + 1)) + 1))), (W ((W ((W ((W ((W (k + 1)) + 1)) + 1)) + 1)) + 1))))) (fun _ _ _ _ => rfl) a0 [] (a0.length + 1) a1 (by omega)
  unfold l_markKeyS
  simp only [List.length_nil, List.nil_append] at h
  rw [h]
@[simp] theorem l_markKeyS_len (a0 : List TKey) (a1 : Int) : (l_markKeyS a0 a1).1.length = a0.length := by rw [l_markKeyS_eq, mkL_len]
theorem l_markKeyS_c : ∀ (x : TKey) (k : Int), 0 ≤ k → k + (cn x : Nat) < 4611686018427387904 → ((fun (x : TKey) (k : Int) => ((TKey.mk k (W (k + 1)) (W ((W (k + 1)) + 1)) (W ((W ((W (k + 1)) + 1)) + 1)) (W ((W ((W ((W (k + 1)) + 1)) + 1)) + 1))), (W ((W ((W ((W ((W (k + 1)) + 1)) + 1)) + 1)) + 1)))) x k).2 = k + (cn x : Nat) := by
  intro x k h0 h
  simp only [cn_int, cn_bool, cn_u8, cn_str, TKey.cn_eq] at h ⊢
  have e0 : W (k + 1) = k + 1 := wrap_of (by omega) (by omega)
  have e1 : W ((W (k + 1)) + 1) = (W (k + 1)) + 1 := wrap_of (by omega) (by omega)
  have e2 : W ((W ((W (k + 1)) + 1)) + 1) = (W ((W (k + 1)) + 1)) + 1 := wrap_of (by omega) (by omega)
  have e3 : W ((W ((W ((W (k + 1)) + 1)) + 1)) + 1) = (W ((W ((W (k + 1)) + 1)) + 1)) + 1 := wrap_of (by omega) (by omega)
  have e4 : W ((W ((W ((W ((W (k + 1)) + 1)) + 1)) + 1)) + 1) = (W ((W ((W ((W (k + 1)) + 1)) + 1)) + 1)) + 1 := wrap_of (by omega) (by omega)
  omega
theorem l_markKeyS_cnt (a0 : List TKey) (a1 : Int) (h0 : 0 ≤ a1) (h : a1 + (cn a0 : Nat) < 4611686018427387904) : (l_markKeyS a0 a1).2 = a1 + (cn a0 : Nat) := by
  rw [l_markKeyS_eq]
  exact mkL_snd l_markKeyS_c a0 a1 h0 h
theorem l_markKeyS_mk (a0 : List TKey) (a1 : Int) (h0 : 0 ≤ a1) (h : a1 + (cn a0 : Nat) < 4611686018427387904) : a1 ≤ (l_markKeyS a0 a1).2 ∧ (l_markKeyS a0 a1).2 ≤ a1 + (cn a0 : Nat) := by
  have := l_markKeyS_cnt a0 a1 h0 h
  omega
theorem l_markAuthorityS_eq (a0 : List TAuthority) (a1 : Int) : l_markAuthorityS a0 a1 = mkL (fun (x : TAuthority) (k : Int) => ((TAuthority.mk k (W (k + 1)) (W ((W (k + 1)) + 1))), (W ((W ((W (k + 1)) + 1)) + 1)))) a0 a1 := by
  have h := mark_loop (F := l_markAuthorityS_1) (f := (fun (x : TAuthority) (k : Int) => ((TAuthority.mk k (W (k + 1)) (W ((W (k + 1)) + 1))), (W ((W ((W (k + 1)) + 1)) + 1))))) (fun _ _ _ _ => rfl) a0 [] (a0.length + 1) a1 (by omega)
  unfold l_markAuthorityS
  simp only [List.length_nil, List.nil_append] at h
  rw [h]
@[simp] theorem l_markAuthorityS_len (a0 : List TAuthority) (a1 : Int) : (l_markAuthorityS a0 a1).1.length = a0.length := by rw [l_markAuthorityS_eq, mkL_len]
theorem l_markAuthorityS_c : ∀ (x : TAuthority) (k : Int), 0 ≤ k → k + (cn x : Nat) < 4611686018427387904 → ((fun (x : TAuthority) (k : Int) => ((TAuthority.mk k (W (k + 1)) (W ((W (k + 1)) + 1))), (W ((W ((W (k + 1)) + 1)) + 1)))) x k).2 = k + (cn x : Nat) := by
  intro x k h0 h
  simp only [cn_int, cn_bool, cn_u8, cn_str, TAuthority.cn_eq] at h ⊢
  have e0 : W (k + 1) = k + 1 := wrap_of (by omega) (by omega)
  have e1 : W ((W (k + 1)) + 1) = (W (k + 1)) + 1 := wrap_of (by omega) (by omega)
  have e2 : W ((W ((W (k + 1)) + 1)) + 1) = (W ((W (k + 1)) + 1)) + 1 := wrap_of (by omega) (by omega)
  omega
theorem l_markAuthorityS_cnt (a0 : List TAuthority) (a1 : Int) (h0 : 0 ≤ a1) (h : a1 + (cn a0 : Nat) < 4611686018427387904) : (l_markAuthorityS a0 a1).2 = a1 + (cn a0 : Nat) := by
  rw [l_markAuthorityS_eq]
  exact mkL_snd l_markAuthorityS_c a0 a1 h0 h
theorem l_markAuthorityS_mk (a0 : List TAuthority) (a1 : Int) (h0 : 0 ≤ a1) (h : a1 + (cn a0 : Nat) < 4611686018427387904) : a1 ≤ (l_markAuthorityS a0 a1).2 ∧ (l_markAuthorityS a0 a1).2 ≤ a1 + (cn a0 : Nat) := by
  have := l_markAuthorityS_cnt a0 a1 h0 h
  omega
theorem l_markMethodS_eq (a0 : List TMethod) (a1 : Int) : l_markMethodS a0 a1 = mkL (fun (x : TMethod) (k : Int) => ((TMethod.mk k (W (k + 1)) (W ((W (k + 1)) + 1)) (W ((W ((W (k + 1)) + 1)) + 1))), (W ((W ((W ((W (k + 1)) + 1)) + 1)) + 1)))) a0 a1 := by
  have h := mark_loop (F := l_markMethodS_1) (f := (fun (x : TMethod) (k : Int) => ((TMethod.mk k (W (k + 1)) (W ((W (k + 1)) + 1)) (W ((W ((W (k + 1)) + 1)) + 1))), (W ((W ((W ((W (k + 1)) + 1)) + 1)) + 1))))) (fun _ _ _ _ => rfl) a0 [] (a0.length + 1) a1 (by omega)
  unfold l_markMethodS
  simp only [List.length_nil, List.nil_append] at h
  rw [h]
@[simp] theorem l_markMethodS_len (a0 : List TMethod) (a1 : Int) : (l_markMethodS a0 a1).1.length = a0.length := by rw [l_markMethodS_eq, mkL_len]
theorem l_markMethodS_c : ∀ (x : TMethod) (k : Int), 0 ≤ k → k + (cn x : Nat) < 4611686018427387904 → ((fun (x : TMethod) (k : Int) => ((TMethod.mk k (W (k + 1)) (W ((W (k + 1)) + 1)) (W ((W ((W (k + 1)) + 1)) + 1))), (W ((W ((W ((W (k + 1)) + 1)) + 1)) + 1)))) x k).2 = k + (cn x : Nat) := by
  intro x k h0 h
  simp only [cn_int, cn_bool, cn_u8, cn_str, TMethod.cn_eq] at h ⊢
  have e0 : W (k + 1) = k + 1 := wrap_of (by omega) (by omega)
  have e1 : W ((W (k + 1)) + 1) = (W (k + 1)) + 1 := wrap_of (by omega) (by omega)
  have e2 : W ((W ((W (k + 1)) + 1)) + 1) = (W ((W (k + 1)) + 1)) + 1 := wrap_of (by omega) (by omega)
  have e3 : W ((W ((W ((W (k + 1)) + 1)) + 1)) + 1) = (W ((W ((W (k + 1)) + 1)) + 1)) + 1 := wrap_of (by omega) (by omega)
  omega
theorem l_markMethodS_cnt (a0 : List TMethod) (a1 : Int) (h0 : 0 ≤ a1) (h : a1 + (cn a0 : Nat) < 4611686018427387904) : (l_markMethodS a0 a1).2 = a1 + (cn a0 : Nat) := by
  rw [l_markMethodS_eq]
  exact mkL_snd l_markMethodS_c a0 a1 h0 h
theorem l_markMethodS_mk (a0 : List TMethod) (a1 : Int) (h0 : 0 ≤ a1) (h : a1 + (cn a0 : Nat) < 4611686018427387904) : a1 ≤ (l_markMethodS a0 a1).2 ∧ (l_markMethodS a0 a1).2 ≤ a1 + (cn a0 : Nat) := by
  have := l_markMethodS_cnt a0 a1 h0 h
  omega
@[simp] theorem l_markFrame_Keys_len (a0 : TFrame) (a1 : Int) : (l_markFrame a0 a1).1.Keys.length = a0.Keys.length := by simp [l_markFrame]
@[simp] theorem l_markFrame_Authorities_len (a0 : TFrame) (a1 : Int) : (l_markFrame a0 a1).1.Authorities.length = a0.Authorities.length := by simp [l_markFrame]
@[simp] theorem l_markFrame_Methods_len (a0 : TFrame) (a1 : Int) : (l_markFrame a0 a1).1.Methods.length = a0.Methods.length := by simp [l_markFrame]
@[simp] theorem l_markFrame_Liars (a0 : TFrame) (a1 : Int) : (l_markFrame a0 a1).1.Liars = a0.Liars := rfl
@[simp] theorem l_markFrame_Now (a0 : TFrame) (a1 : Int) : (l_markFrame a0 a1).1.Now = a0.Now := rfl
theorem l_markFrame_mk (a0 : TFrame) (a1 : Int) (h0 : 0 ≤ a1) (h : a1 + (cn a0 : Nat) < 4611686018427387904) : a1 ≤ (l_markFrame a0 a1).2 ∧ (l_markFrame a0 a1).2 ≤ a1 + (cn a0 : Nat) := by
  simp only [cn_int, cn_bool, cn_str, TFrame.cn_eq] at h ⊢
  obtain ⟨m0, n0⟩ := l_markKeyS_mk a0.Keys a1 (by omega) (by omega)
  have q0 := l_markKeyS_cnt a0.Keys a1 (by omega) (by omega)
  have o0 : ¬ (l_markKeyS a0.Keys a1).2 < 0 := by omega
  obtain ⟨m3, n3⟩ := l_markAuthorityS_mk a0.Authorities (l_markKeyS a0.Keys a1).2 (by omega) (by omega)
  have q3 := l_markAuthorityS_cnt a0.Authorities (l_markKeyS a0.Keys a1).2 (by omega) (by omega)
  have o3 : ¬ (l_markAuthorityS a0.Authorities (l_markKeyS a0.Keys a1).2).2 < 0 := by omega
  obtain ⟨m6, n6⟩ := l_markMethodS_mk a0.Methods (l_markAuthorityS a0.Authorities (l_markKeyS a0.Keys a1).2).2 (by omega) (by omega)
  have q6 := l_markMethodS_cnt a0.Methods (l_markAuthorityS a0.Authorities (l_markKeyS a0.Keys a1).2).2 (by omega) (by omega)
  have o6 : ¬ (l_markMethodS a0.Methods (l_markAuthorityS a0.Authorities (l_markKeyS a0.Keys a1).2).2).2 < 0 := by omega
  refine ⟨by simp only [l_markFrame]; omega, by simp only [l_markFrame]; omega⟩
theorem l_markStringS_eq (a0 : List ByteArray) (a1 : Int) : l_markStringS a0 a1 = mkL (fun (x : ByteArray) (k : Int) => ((l_markText k), (W (k + 1)))) a0 a1 := by
  have h := mark_loop (F := l_markStringS_1) (f := (fun (x : ByteArray) (k : Int) => ((l_markText k), (W (k + 1))))) (fun _ _ _ _ => rfl) a0 [] (a0.length + 1) a1 (by omega)
  unfold l_markStringS
  simp only [List.length_nil, List.nil_append] at h
  rw [h]
@[simp] theorem l_markStringS_len (a0 : List ByteArray) (a1 : Int) : (l_markStringS a0 a1).1.length = a0.length := by rw [l_markStringS_eq, mkL_len]
theorem l_markStringS_c : ∀ (x : ByteArray) (k : Int), 0 ≤ k → k + (cn x : Nat) < 4611686018427387904 → ((fun (x : ByteArray) (k : Int) => ((l_markText k), (W (k + 1)))) x k).2 = k + (cn x : Nat) := by
  intro x k h0 h
  simp only [cn_int, cn_bool, cn_u8, cn_str] at h ⊢
  have e0 : W (k + 1) = k + 1 := wrap_of (by omega) (by omega)
  omega
theorem l_markStringS_cnt (a0 : List ByteArray) (a1 : Int) (h0 : 0 ≤ a1) (h : a1 + (cn a0 : Nat) < 4611686018427387904) : (l_markStringS a0 a1).2 = a1 + (cn a0 : Nat) := by
  rw [l_markStringS_eq]
  exact mkL_snd l_markStringS_c a0 a1 h0 h
theorem l_markStringS_mk (a0 : List ByteArray) (a1 : Int) (h0 : 0 ≤ a1) (h : a1 + (cn a0 : Nat) < 4611686018427387904) : a1 ≤ (l_markStringS a0 a1).2 ∧ (l_markStringS a0 a1).2 ≤ a1 + (cn a0 : Nat) := by
  have := l_markStringS_cnt a0 a1 h0 h
  omega
theorem l_markIntS_eq (a0 : List Int) (a1 : Int) : l_markIntS a0 a1 = mkL (fun (x : Int) (k : Int) => (k, (W (k + 1)))) a0 a1 := by
  have h := mark_loop (F := l_markIntS_1) (f := (fun (x : Int) (k : Int) => (k, (W (k + 1))))) (fun _ _ _ _ => rfl) a0 [] (a0.length + 1) a1 (by omega)
  unfold l_markIntS
  simp only [List.length_nil, List.nil_append] at h
  rw [h]
@[simp] theorem l_markIntS_len (a0 : List Int) (a1 : Int) : (l_markIntS a0 a1).1.length = a0.length := by rw [l_markIntS_eq, mkL_len]
theorem l_markIntS_c : ∀ (x : Int) (k : Int), 0 ≤ k → k + (cn x : Nat) < 4611686018427387904 → ((fun (x : Int) (k : Int) => (k, (W (k + 1)))) x k).2 = k + (cn x : Nat) := by
  intro x k h0 h
  simp only [cn_int, cn_bool, cn_u8, cn_str] at h ⊢
  have e0 : W (k + 1) = k + 1 := wrap_of (by omega) (by omega)
  omega
theorem l_markIntS_cnt (a0 : List Int) (a1 : Int) (h0 : 0 ≤ a1) (h : a1 + (cn a0 : Nat) < 4611686018427387904) : (l_markIntS a0 a1).2 = a1 + (cn a0 : Nat) := by
  rw [l_markIntS_eq]
  exact mkL_snd l_markIntS_c a0 a1 h0 h
theorem l_markIntS_mk (a0 : List Int) (a1 : Int) (h0 : 0 ≤ a1) (h : a1 + (cn a0 : Nat) < 4611686018427387904) : a1 ≤ (l_markIntS a0 a1).2 ∧ (l_markIntS a0 a1).2 ≤ a1 + (cn a0 : Nat) := by
  have := l_markIntS_cnt a0 a1 h0 h
  omega
theorem l_markIntS_g : ∀ (x : Int) (k : Int) (r : Int → Sum Int Int), 0 ≤ k → k + (cn x : Nat) < 4611686018427387904 → (fun (x : Int) (k : Int) (r : Int → Sum Int Int) => (bif (x != k) then (.inl (-1)) else (r (W (k + 1))))) ((fun (x : Int) (k : Int) => (k, (W (k + 1)))) x k).1 k r = r ((fun (x : Int) (k : Int) => (k, (W (k + 1)))) x k).2 := by
  intro x k r h0 h
  simp only [cn_int, cn_bool, cn_u8, cn_str] at h
  have e0 : W (k + 1) = k + 1 := wrap_of (by omega) (by omega)
  simp
theorem l_markIntS_mh (a0 : List Int) (a1 : Int) (h0 : 0 ≤ a1) (h : a1 + (cn a0 : Nat) < 4611686018427387904) : a1 ≤ (l_markIntS a0 a1).2 ∧ (l_markIntS a0 a1).2 ≤ a1 + (cn a0 : Nat) ∧ l_heldIntS (l_markIntS a0 a1).1 a1 = (l_markIntS a0 a1).2 := by
  rw [l_markIntS_eq]
  have s := mkL_snd l_markIntS_c a0 a1 h0 h
  have hh := held_loop (z := (mkL (fun (x : Int) (k : Int) => (k, (W (k + 1)))) a0 a1).1) (H := l_heldIntS_1 (mkL (fun (x : Int) (k : Int) => (k, (W (k + 1)))) a0 a1).1) (G := (fun (x : Int) (k : Int) (r : Int → Sum Int Int) => (bif (x != k) then (.inl (-1)) else (r (W (k + 1)))))) (fun _ _ _ => rfl) l_markIntS_c l_markIntS_g a0 [] ((mkL (fun (x : Int) (k : Int) => (k, (W (k + 1)))) a0 a1).1.length + 1) a1 (by simp) (by rw [mkL_len]; omega) h0 h
  simp only [List.length_nil] at hh
  rw [cn_list] at *
  refine ⟨by omega, by omega, ?_⟩
  unfold l_heldIntS
  rw [hh]
theorem l_markPieceS_eq (a0 : List TPiece) (a1 : Int) : l_markPieceS a0 a1 = mkL (fun (x : TPiece) (k : Int) => ((TPiece.mk k (l_markIntS x.Ints (W (k + 1))).1 (l_markIntS x.Ints (W (k + 1))).2), (W ((l_markIntS x.Ints (W (k + 1))).2 + 1)))) a0 a1 := by
  have h := mark_loop (F := l_markPieceS_1) (f := (fun (x : TPiece) (k : Int) => ((TPiece.mk k (l_markIntS x.Ints (W (k + 1))).1 (l_markIntS x.Ints (W (k + 1))).2), (W ((l_markIntS x.Ints (W (k + 1))).2 + 1))))) (fun _ _ _ _ => rfl) a0 [] (a0.length + 1) a1 (by omega)
  unfold l_markPieceS
  simp only [List.length_nil, List.nil_append] at h
  rw [h]
@[simp] theorem l_markPieceS_len (a0 : List TPiece) (a1 : Int) : (l_markPieceS a0 a1).1.length = a0.length := by rw [l_markPieceS_eq, mkL_len]
theorem l_markPieceS_c : ∀ (x : TPiece) (k : Int), 0 ≤ k → k + (cn x : Nat) < 4611686018427387904 → ((fun (x : TPiece) (k : Int) => ((TPiece.mk k (l_markIntS x.Ints (W (k + 1))).1 (l_markIntS x.Ints (W (k + 1))).2), (W ((l_markIntS x.Ints (W (k + 1))).2 + 1)))) x k).2 = k + (cn x : Nat) := by
  intro x k h0 h
  simp only [cn_int, cn_bool, cn_u8, cn_str, TPiece.cn_eq] at h ⊢
  have e0 : W (k + 1) = k + 1 := wrap_of (by omega) (by omega)
  obtain ⟨m1, n1⟩ := l_markIntS_mk x.Ints (W (k + 1)) (by omega) (by omega)
  have q1 := l_markIntS_cnt x.Ints (W (k + 1)) (by omega) (by omega)
  have o1 : ¬ (l_markIntS x.Ints (W (k + 1))).2 < 0 := by omega
  have e4 : W ((l_markIntS x.Ints (W (k + 1))).2 + 1) = (l_markIntS x.Ints (W (k + 1))).2 + 1 := wrap_of (by omega) (by omega)
  omega
theorem l_markPieceS_cnt (a0 : List TPiece) (a1 : Int) (h0 : 0 ≤ a1) (h : a1 + (cn a0 : Nat) < 4611686018427387904) : (l_markPieceS a0 a1).2 = a1 + (cn a0 : Nat) := by
  rw [l_markPieceS_eq]
  exact mkL_snd l_markPieceS_c a0 a1 h0 h
theorem l_markPieceS_mk (a0 : List TPiece) (a1 : Int) (h0 : 0 ≤ a1) (h : a1 + (cn a0 : Nat) < 4611686018427387904) : a1 ≤ (l_markPieceS a0 a1).2 ∧ (l_markPieceS a0 a1).2 ≤ a1 + (cn a0 : Nat) := by
  have := l_markPieceS_cnt a0 a1 h0 h
  omega
theorem l_markStepS_eq (a0 : List TStep) (a1 : Int) : l_markStepS a0 a1 = mkL (fun (x : TStep) (k : Int) => ((TStep.mk k ((Int.tmod (W (k + 1)) 3) == 0)), (W ((W (k + 1)) + 1)))) a0 a1 := by
  have h := mark_loop (F := l_markStepS_1) (f := (fun (x : TStep) (k : Int) => ((TStep.mk k ((Int.tmod (W (k + 1)) 3) == 0)), (W ((W (k + 1)) + 1))))) (fun _ _ _ _ => rfl) a0 [] (a0.length + 1) a1 (by omega)
  unfold l_markStepS
  simp only [List.length_nil, List.nil_append] at h
  rw [h]
@[simp] theorem l_markStepS_len (a0 : List TStep) (a1 : Int) : (l_markStepS a0 a1).1.length = a0.length := by rw [l_markStepS_eq, mkL_len]
theorem l_markStepS_c : ∀ (x : TStep) (k : Int), 0 ≤ k → k + (cn x : Nat) < 4611686018427387904 → ((fun (x : TStep) (k : Int) => ((TStep.mk k ((Int.tmod (W (k + 1)) 3) == 0)), (W ((W (k + 1)) + 1)))) x k).2 = k + (cn x : Nat) := by
  intro x k h0 h
  simp only [cn_int, cn_bool, cn_u8, cn_str, TStep.cn_eq] at h ⊢
  have e0 : W (k + 1) = k + 1 := wrap_of (by omega) (by omega)
  have e1 : W ((W (k + 1)) + 1) = (W (k + 1)) + 1 := wrap_of (by omega) (by omega)
  omega
theorem l_markStepS_cnt (a0 : List TStep) (a1 : Int) (h0 : 0 ≤ a1) (h : a1 + (cn a0 : Nat) < 4611686018427387904) : (l_markStepS a0 a1).2 = a1 + (cn a0 : Nat) := by
  rw [l_markStepS_eq]
  exact mkL_snd l_markStepS_c a0 a1 h0 h
theorem l_markStepS_mk (a0 : List TStep) (a1 : Int) (h0 : 0 ≤ a1) (h : a1 + (cn a0 : Nat) < 4611686018427387904) : a1 ≤ (l_markStepS a0 a1).2 ∧ (l_markStepS a0 a1).2 ≤ a1 + (cn a0 : Nat) := by
  have := l_markStepS_cnt a0 a1 h0 h
  omega
theorem l_markStampS_eq (a0 : List TStamp) (a1 : Int) : l_markStampS a0 a1 = mkL (fun (x : TStamp) (k : Int) => ((TStamp.mk k (W (k + 1)) (W ((W (k + 1)) + 1)) (W ((W ((W (k + 1)) + 1)) + 1)) (W ((W ((W ((W (k + 1)) + 1)) + 1)) + 1))), (W ((W ((W ((W ((W (k + 1)) + 1)) + 1)) + 1)) + 1)))) a0 a1 := by
  have h := mark_loop (F := l_markStampS_1) (f := (fun (x : TStamp) (k : Int) => ((TStamp.mk k (W (k + 1)) (W ((W (k + 1)) + 1)) (W ((W ((W (k + 1)) + 1)) + 1)) (W ((W ((W ((W (k + 1)) + 1)) + 1)) + 1))), (W ((W ((W ((W ((W (k + 1)) + 1)) + 1)) + 1)) + 1))))) (fun _ _ _ _ => rfl) a0 [] (a0.length + 1) a1 (by omega)
  unfold l_markStampS
  simp only [List.length_nil, List.nil_append] at h
  rw [h]
@[simp] theorem l_markStampS_len (a0 : List TStamp) (a1 : Int) : (l_markStampS a0 a1).1.length = a0.length := by rw [l_markStampS_eq, mkL_len]
theorem l_markStampS_c : ∀ (x : TStamp) (k : Int), 0 ≤ k → k + (cn x : Nat) < 4611686018427387904 → ((fun (x : TStamp) (k : Int) => ((TStamp.mk k (W (k + 1)) (W ((W (k + 1)) + 1)) (W ((W ((W (k + 1)) + 1)) + 1)) (W ((W ((W ((W (k + 1)) + 1)) + 1)) + 1))), (W ((W ((W ((W ((W (k + 1)) + 1)) + 1)) + 1)) + 1)))) x k).2 = k + (cn x : Nat) := by
  intro x k h0 h
  simp only [cn_int, cn_bool, cn_u8, cn_str, TStamp.cn_eq] at h ⊢
  have e0 : W (k + 1) = k + 1 := wrap_of (by omega) (by omega)
  have e1 : W ((W (k + 1)) + 1) = (W (k + 1)) + 1 := wrap_of (by omega) (by omega)
  have e2 : W ((W ((W (k + 1)) + 1)) + 1) = (W ((W (k + 1)) + 1)) + 1 := wrap_of (by omega) (by omega)
  have e3 : W ((W ((W ((W (k + 1)) + 1)) + 1)) + 1) = (W ((W ((W (k + 1)) + 1)) + 1)) + 1 := wrap_of (by omega) (by omega)
  have e4 : W ((W ((W ((W ((W (k + 1)) + 1)) + 1)) + 1)) + 1) = (W ((W ((W ((W (k + 1)) + 1)) + 1)) + 1)) + 1 := wrap_of (by omega) (by omega)
  omega
theorem l_markStampS_cnt (a0 : List TStamp) (a1 : Int) (h0 : 0 ≤ a1) (h : a1 + (cn a0 : Nat) < 4611686018427387904) : (l_markStampS a0 a1).2 = a1 + (cn a0 : Nat) := by
  rw [l_markStampS_eq]
  exact mkL_snd l_markStampS_c a0 a1 h0 h
theorem l_markStampS_mk (a0 : List TStamp) (a1 : Int) (h0 : 0 ≤ a1) (h : a1 + (cn a0 : Nat) < 4611686018427387904) : a1 ≤ (l_markStampS a0 a1).2 ∧ (l_markStampS a0 a1).2 ≤ a1 + (cn a0 : Nat) := by
  have := l_markStampS_cnt a0 a1 h0 h
  omega
theorem l_markRenewalS_eq (a0 : List TRenewal) (a1 : Int) : l_markRenewalS a0 a1 = mkL (fun (x : TRenewal) (k : Int) => ((TRenewal.mk k (W (k + 1)) (W ((W (k + 1)) + 1)) (l_markStepS x.Path (W ((W ((W (k + 1)) + 1)) + 1))).1 (l_markStampS x.Stamps (l_markStepS x.Path (W ((W ((W (k + 1)) + 1)) + 1))).2).1), (l_markStampS x.Stamps (l_markStepS x.Path (W ((W ((W (k + 1)) + 1)) + 1))).2).2)) a0 a1 := by
  have h := mark_loop (F := l_markRenewalS_1) (f := (fun (x : TRenewal) (k : Int) => ((TRenewal.mk k (W (k + 1)) (W ((W (k + 1)) + 1)) (l_markStepS x.Path (W ((W ((W (k + 1)) + 1)) + 1))).1 (l_markStampS x.Stamps (l_markStepS x.Path (W ((W ((W (k + 1)) + 1)) + 1))).2).1), (l_markStampS x.Stamps (l_markStepS x.Path (W ((W ((W (k + 1)) + 1)) + 1))).2).2))) (fun _ _ _ _ => rfl) a0 [] (a0.length + 1) a1 (by omega)
  unfold l_markRenewalS
  simp only [List.length_nil, List.nil_append] at h
  rw [h]
@[simp] theorem l_markRenewalS_len (a0 : List TRenewal) (a1 : Int) : (l_markRenewalS a0 a1).1.length = a0.length := by rw [l_markRenewalS_eq, mkL_len]
theorem l_markRenewalS_c : ∀ (x : TRenewal) (k : Int), 0 ≤ k → k + (cn x : Nat) < 4611686018427387904 → ((fun (x : TRenewal) (k : Int) => ((TRenewal.mk k (W (k + 1)) (W ((W (k + 1)) + 1)) (l_markStepS x.Path (W ((W ((W (k + 1)) + 1)) + 1))).1 (l_markStampS x.Stamps (l_markStepS x.Path (W ((W ((W (k + 1)) + 1)) + 1))).2).1), (l_markStampS x.Stamps (l_markStepS x.Path (W ((W ((W (k + 1)) + 1)) + 1))).2).2)) x k).2 = k + (cn x : Nat) := by
  intro x k h0 h
  simp only [cn_int, cn_bool, cn_u8, cn_str, TRenewal.cn_eq] at h ⊢
  have e0 : W (k + 1) = k + 1 := wrap_of (by omega) (by omega)
  have e1 : W ((W (k + 1)) + 1) = (W (k + 1)) + 1 := wrap_of (by omega) (by omega)
  have e2 : W ((W ((W (k + 1)) + 1)) + 1) = (W ((W (k + 1)) + 1)) + 1 := wrap_of (by omega) (by omega)
  obtain ⟨m3, n3⟩ := l_markStepS_mk x.Path (W ((W ((W (k + 1)) + 1)) + 1)) (by omega) (by omega)
  have q3 := l_markStepS_cnt x.Path (W ((W ((W (k + 1)) + 1)) + 1)) (by omega) (by omega)
  have o3 : ¬ (l_markStepS x.Path (W ((W ((W (k + 1)) + 1)) + 1))).2 < 0 := by omega
  obtain ⟨m6, n6⟩ := l_markStampS_mk x.Stamps (l_markStepS x.Path (W ((W ((W (k + 1)) + 1)) + 1))).2 (by omega) (by omega)
  have q6 := l_markStampS_cnt x.Stamps (l_markStepS x.Path (W ((W ((W (k + 1)) + 1)) + 1))).2 (by omega) (by omega)
  have o6 : ¬ (l_markStampS x.Stamps (l_markStepS x.Path (W ((W ((W (k + 1)) + 1)) + 1))).2).2 < 0 := by omega
  omega
theorem l_markRenewalS_cnt (a0 : List TRenewal) (a1 : Int) (h0 : 0 ≤ a1) (h : a1 + (cn a0 : Nat) < 4611686018427387904) : (l_markRenewalS a0 a1).2 = a1 + (cn a0 : Nat) := by
  rw [l_markRenewalS_eq]
  exact mkL_snd l_markRenewalS_c a0 a1 h0 h
theorem l_markRenewalS_mk (a0 : List TRenewal) (a1 : Int) (h0 : 0 ≤ a1) (h : a1 + (cn a0 : Nat) < 4611686018427387904) : a1 ≤ (l_markRenewalS a0 a1).2 ∧ (l_markRenewalS a0 a1).2 ≤ a1 + (cn a0 : Nat) := by
  have := l_markRenewalS_cnt a0 a1 h0 h
  omega
theorem l_markItemS_eq (a0 : List TItem) (a1 : Int) : l_markItemS a0 a1 = mkL (fun (x : TItem) (k : Int) => ((TItem.mk k (W (k + 1)) (TDocument.mk (W ((W (k + 1)) + 1)) (l_markStringS x.Doc.Parts (W ((W ((W (k + 1)) + 1)) + 1))).1 (l_markIntS x.Doc.Salts (l_markStringS x.Doc.Parts (W ((W ((W (k + 1)) + 1)) + 1))).2).1) (TSignature.mk (l_markIntS x.Doc.Salts (l_markStringS x.Doc.Parts (W ((W ((W (k + 1)) + 1)) + 1))).2).2 (W ((l_markIntS x.Doc.Salts (l_markStringS x.Doc.Parts (W ((W ((W (k + 1)) + 1)) + 1))).2).2 + 1)) (W ((W ((l_markIntS x.Doc.Salts (l_markStringS x.Doc.Parts (W ((W ((W (k + 1)) + 1)) + 1))).2).2 + 1)) + 1)) (W ((W ((W ((l_markIntS x.Doc.Salts (l_markStringS x.Doc.Parts (W ((W ((W (k + 1)) + 1)) + 1))).2).2 + 1)) + 1)) + 1)) (W ((W ((W ((W ((l_markIntS x.Doc.Salts (l_markStringS x.Doc.Parts (W ((W ((W (k + 1)) + 1)) + 1))).2).2 + 1)) + 1)) + 1)) + 1)) (W ((W ((W ((W ((W ((l_markIntS x.Doc.Salts (l_markStringS x.Doc.Parts (W ((W ((W (k + 1)) + 1)) + 1))).2).2 + 1)) + 1)) + 1)) + 1)) + 1)) (W ((W ((W ((W ((W ((W ((l_markIntS x.Doc.Salts (l_markStringS x.Doc.Parts (W ((W ((W (k + 1)) + 1)) + 1))).2).2 + 1)) + 1)) + 1)) + 1)) + 1)) + 1)) (W ((W ((W ((W ((W ((W ((W ((l_markIntS x.Doc.Salts (l_markStringS x.Doc.Parts (W ((W ((W (k + 1)) + 1)) + 1))).2).2 + 1)) + 1)) + 1)) + 1)) + 1)) + 1)) + 1)) (W ((W ((W ((W ((W ((W ((W ((W ((l_markIntS x.Doc.Salts (l_markStringS x.Doc.Parts (W ((W ((W (k + 1)) + 1)) + 1))).2).2 + 1)) + 1)) + 1)) + 1)) + 1)) + 1)) + 1)) + 1))) (TStrand.mk (l_markPieceS x.Strand.Pieces (W ((W ((W ((W ((W ((W ((W ((W ((W ((l_markIntS x.Doc.Salts (l_markStringS x.Doc.Parts (W ((W ((W (k + 1)) + 1)) + 1))).2).2 + 1)) + 1)) + 1)) + 1)) + 1)) + 1)) + 1)) + 1)) + 1))).1 (l_markRenewalS x.Strand.Chain (l_markPieceS x.Strand.Pieces (W ((W ((W ((W ((W ((W ((W ((W ((W ((l_markIntS x.Doc.Salts (l_markStringS x.Doc.Parts (W ((W ((W (k + 1)) + 1)) + 1))).2).2 + 1)) + 1)) + 1)) + 1)) + 1)) + 1)) + 1)) + 1)) + 1))).2).1)), (l_markRenewalS x.Strand.Chain (l_markPieceS x.Strand.Pieces (W ((W ((W ((W ((W ((W ((W ((W ((W ((l_markIntS x.Doc.Salts (l_markStringS x.Doc.Parts (W ((W ((W (k + 1)) + 1)) + 1))).2).2 + 1)) + 1)) + 1)) + 1)) + 1)) + 1)) + 1)) + 1)) + 1))).2).2)) a0 a1 := by
  have h := mark_loop (F := l_markItemS_1) (f := (fun (x : TItem) (k : Int) => ((TItem.mk k (W (k + 1)) (TDocument.mk (W ((W (k + 1)) + 1)) (l_markStringS x.Doc.Parts (W ((W ((W (k + 1)) + 1)) + 1))).1 (l_markIntS x.Doc.Salts (l_markStringS x.Doc.Parts (W ((W ((W (k + 1)) + 1)) + 1))).2).1) (TSignature.mk (l_markIntS x.Doc.Salts (l_markStringS x.Doc.Parts (W ((W ((W (k + 1)) + 1)) + 1))).2).2 (W ((l_markIntS x.Doc.Salts (l_markStringS x.Doc.Parts (W ((W ((W (k + 1)) + 1)) + 1))).2).2 + 1)) (W ((W ((l_markIntS x.Doc.Salts (l_markStringS x.Doc.Parts (W ((W ((W (k + 1)) + 1)) + 1))).2).2 + 1)) + 1)) (W ((W ((W ((l_markIntS x.Doc.Salts (l_markStringS x.Doc.Parts (W ((W ((W (k + 1)) + 1)) + 1))).2).2 + 1)) + 1)) + 1)) (W ((W ((W ((W ((l_markIntS x.Doc.Salts (l_markStringS x.Doc.Parts (W ((W ((W (k + 1)) + 1)) + 1))).2).2 + 1)) + 1)) + 1)) + 1)) (W ((W ((W ((W ((W ((l_markIntS x.Doc.Salts (l_markStringS x.Doc.Parts (W ((W ((W (k + 1)) + 1)) + 1))).2).2 + 1)) + 1)) + 1)) + 1)) + 1)) (W ((W ((W ((W ((W ((W ((l_markIntS x.Doc.Salts (l_markStringS x.Doc.Parts (W ((W ((W (k + 1)) + 1)) + 1))).2).2 + 1)) + 1)) + 1)) + 1)) + 1)) + 1)) (W ((W ((W ((W ((W ((W ((W ((l_markIntS x.Doc.Salts (l_markStringS x.Doc.Parts (W ((W ((W (k + 1)) + 1)) + 1))).2).2 + 1)) + 1)) + 1)) + 1)) + 1)) + 1)) + 1)) (W ((W ((W ((W ((W ((W ((W ((W ((l_markIntS x.Doc.Salts (l_markStringS x.Doc.Parts (W ((W ((W (k + 1)) + 1)) + 1))).2).2 + 1)) + 1)) + 1)) + 1)) + 1)) + 1)) + 1)) + 1))) (TStrand.mk (l_markPieceS x.Strand.Pieces (W ((W ((W ((W ((W ((W ((W ((W ((W ((l_markIntS x.Doc.Salts (l_markStringS x.Doc.Parts (W ((W ((W (k + 1)) + 1)) + 1))).2).2 + 1)) + 1)) + 1)) + 1)) + 1)) + 1)) + 1)) + 1)) + 1))).1 (l_markRenewalS x.Strand.Chain (l_markPieceS x.Strand.Pieces (W ((W ((W ((W ((W ((W ((W ((W ((W ((l_markIntS x.Doc.Salts (l_markStringS x.Doc.Parts (W ((W ((W (k + 1)) + 1)) + 1))).2).2 + 1)) + 1)) + 1)) + 1)) + 1)) + 1)) + 1)) + 1)) + 1))).2).1)), (l_markRenewalS x.Strand.Chain (l_markPieceS x.Strand.Pieces (W ((W ((W ((W ((W ((W ((W ((W ((W ((l_markIntS x.Doc.Salts (l_markStringS x.Doc.Parts (W ((W ((W (k + 1)) + 1)) + 1))).2).2 + 1)) + 1)) + 1)) + 1)) + 1)) + 1)) + 1)) + 1)) + 1))).2).2))) (fun _ _ _ _ => rfl) a0 [] (a0.length + 1) a1 (by omega)
  unfold l_markItemS
  simp only [List.length_nil, List.nil_append] at h
  rw [h]
@[simp] theorem l_markItemS_len (a0 : List TItem) (a1 : Int) : (l_markItemS a0 a1).1.length = a0.length := by rw [l_markItemS_eq, mkL_len]
theorem l_markItemS_c : ∀ (x : TItem) (k : Int), 0 ≤ k → k + (cn x : Nat) < 4611686018427387904 → ((fun (x : TItem) (k : Int) => ((TItem.mk k (W (k + 1)) (TDocument.mk (W ((W (k + 1)) + 1)) (l_markStringS x.Doc.Parts (W ((W ((W (k + 1)) + 1)) + 1))).1 (l_markIntS x.Doc.Salts (l_markStringS x.Doc.Parts (W ((W ((W (k + 1)) + 1)) + 1))).2).1) (TSignature.mk (l_markIntS x.Doc.Salts (l_markStringS x.Doc.Parts (W ((W ((W (k + 1)) + 1)) + 1))).2).2 (W ((l_markIntS x.Doc.Salts (l_markStringS x.Doc.Parts (W ((W ((W (k + 1)) + 1)) + 1))).2).2 + 1)) (W ((W ((l_markIntS x.Doc.Salts (l_markStringS x.Doc.Parts (W ((W ((W (k + 1)) + 1)) + 1))).2).2 + 1)) + 1)) (W ((W ((W ((l_markIntS x.Doc.Salts (l_markStringS x.Doc.Parts (W ((W ((W (k + 1)) + 1)) + 1))).2).2 + 1)) + 1)) + 1)) (W ((W ((W ((W ((l_markIntS x.Doc.Salts (l_markStringS x.Doc.Parts (W ((W ((W (k + 1)) + 1)) + 1))).2).2 + 1)) + 1)) + 1)) + 1)) (W ((W ((W ((W ((W ((l_markIntS x.Doc.Salts (l_markStringS x.Doc.Parts (W ((W ((W (k + 1)) + 1)) + 1))).2).2 + 1)) + 1)) + 1)) + 1)) + 1)) (W ((W ((W ((W ((W ((W ((l_markIntS x.Doc.Salts (l_markStringS x.Doc.Parts (W ((W ((W (k + 1)) + 1)) + 1))).2).2 + 1)) + 1)) + 1)) + 1)) + 1)) + 1)) (W ((W ((W ((W ((W ((W ((W ((l_markIntS x.Doc.Salts (l_markStringS x.Doc.Parts (W ((W ((W (k + 1)) + 1)) + 1))).2).2 + 1)) + 1)) + 1)) + 1)) + 1)) + 1)) + 1)) (W ((W ((W ((W ((W ((W ((W ((W ((l_markIntS x.Doc.Salts (l_markStringS x.Doc.Parts (W ((W ((W (k + 1)) + 1)) + 1))).2).2 + 1)) + 1)) + 1)) + 1)) + 1)) + 1)) + 1)) + 1))) (TStrand.mk (l_markPieceS x.Strand.Pieces (W ((W ((W ((W ((W ((W ((W ((W ((W ((l_markIntS x.Doc.Salts (l_markStringS x.Doc.Parts (W ((W ((W (k + 1)) + 1)) + 1))).2).2 + 1)) + 1)) + 1)) + 1)) + 1)) + 1)) + 1)) + 1)) + 1))).1 (l_markRenewalS x.Strand.Chain (l_markPieceS x.Strand.Pieces (W ((W ((W ((W ((W ((W ((W ((W ((W ((l_markIntS x.Doc.Salts (l_markStringS x.Doc.Parts (W ((W ((W (k + 1)) + 1)) + 1))).2).2 + 1)) + 1)) + 1)) + 1)) + 1)) + 1)) + 1)) + 1)) + 1))).2).1)), (l_markRenewalS x.Strand.Chain (l_markPieceS x.Strand.Pieces (W ((W ((W ((W ((W ((W ((W ((W ((W ((l_markIntS x.Doc.Salts (l_markStringS x.Doc.Parts (W ((W ((W (k + 1)) + 1)) + 1))).2).2 + 1)) + 1)) + 1)) + 1)) + 1)) + 1)) + 1)) + 1)) + 1))).2).2)) x k).2 = k + (cn x : Nat) := by
  intro x k h0 h
  simp only [cn_int, cn_bool, cn_u8, cn_str, TItem.cn_eq, TDocument.cn_eq, TStrand.cn_eq, TSignature.cn_eq] at h ⊢
  have e0 : W (k + 1) = k + 1 := wrap_of (by omega) (by omega)
  have e1 : W ((W (k + 1)) + 1) = (W (k + 1)) + 1 := wrap_of (by omega) (by omega)
  have e2 : W ((W ((W (k + 1)) + 1)) + 1) = (W ((W (k + 1)) + 1)) + 1 := wrap_of (by omega) (by omega)
  obtain ⟨m3, n3⟩ := l_markStringS_mk x.Doc.Parts (W ((W ((W (k + 1)) + 1)) + 1)) (by omega) (by omega)
  have q3 := l_markStringS_cnt x.Doc.Parts (W ((W ((W (k + 1)) + 1)) + 1)) (by omega) (by omega)
  have o3 : ¬ (l_markStringS x.Doc.Parts (W ((W ((W (k + 1)) + 1)) + 1))).2 < 0 := by omega
  obtain ⟨m6, n6⟩ := l_markIntS_mk x.Doc.Salts (l_markStringS x.Doc.Parts (W ((W ((W (k + 1)) + 1)) + 1))).2 (by omega) (by omega)
  have q6 := l_markIntS_cnt x.Doc.Salts (l_markStringS x.Doc.Parts (W ((W ((W (k + 1)) + 1)) + 1))).2 (by omega) (by omega)
  have o6 : ¬ (l_markIntS x.Doc.Salts (l_markStringS x.Doc.Parts (W ((W ((W (k + 1)) + 1)) + 1))).2).2 < 0 := by omega
  have e9 : W ((l_markIntS x.Doc.Salts (l_markStringS x.Doc.Parts (W ((W ((W (k + 1)) + 1)) + 1))).2).2 + 1) = (l_markIntS x.Doc.Salts (l_markStringS x.Doc.Parts (W ((W ((W (k + 1)) + 1)) + 1))).2).2 + 1 := wrap_of (by omega) (by omega)
  have e10 : W ((W ((l_markIntS x.Doc.Salts (l_markStringS x.Doc.Parts (W ((W ((W (k + 1)) + 1)) + 1))).2).2 + 1)) + 1) = (W ((l_markIntS x.Doc.Salts (l_markStringS x.Doc.Parts (W ((W ((W (k + 1)) + 1)) + 1))).2).2 + 1)) + 1 := wrap_of (by omega) (by omega)
  have e11 : W ((W ((W ((l_markIntS x.Doc.Salts (l_markStringS x.Doc.Parts (W ((W ((W (k + 1)) + 1)) + 1))).2).2 + 1)) + 1)) + 1) = (W ((W ((l_markIntS x.Doc.Salts (l_markStringS x.Doc.Parts (W ((W ((W (k + 1)) + 1)) + 1))).2).2 + 1)) + 1)) + 1 := wrap_of (by omega) (by omega)
  have e12 : W ((W ((W ((W ((l_markIntS x.Doc.Salts (l_markStringS x.Doc.Parts (W ((W ((W (k + 1)) + 1)) + 1))).2).2 + 1)) + 1)) + 1)) + 1) = (W ((W ((W ((l_markIntS x.Doc.Salts (l_markStringS x.Doc.Parts (W ((W ((W (k + 1)) + 1)) + 1))).2).2 + 1)) + 1)) + 1)) + 1 := wrap_of (by omega) (by omega)
  have e13 : W ((W ((W ((W ((W ((l_markIntS x.Doc.Salts (l_markStringS x.Doc.Parts (W ((W ((W (k + 1)) + 1)) + 1))).2).2 + 1)) + 1)) + 1)) + 1)) + 1) = (W ((W ((W ((W ((l_markIntS x.Doc.Salts (l_markStringS x.Doc.Parts (W ((W ((W (k + 1)) + 1)) + 1))).2).2 + 1)) + 1)) + 1)) + 1)) + 1 := wrap_of (by omega) (by omega)
  have e14 : W ((W ((W ((W ((W ((W ((l_markIntS x.Doc.Salts (l_markStringS x.Doc.Parts (W ((W ((W (k + 1)) + 1)) + 1))).2).2 + 1)) + 1)) + 1)) + 1)) + 1)) + 1) = (W ((W ((W ((W ((W ((l_markIntS x.Doc.Salts (l_markStringS x.Doc.Parts (W ((W ((W (k + 1)) + 1)) + 1))).2).2 + 1)) + 1)) + 1)) + 1)) + 1)) + 1 := wrap_of (by omega) (by omega)
  have e15 : W ((W ((W ((W ((W ((W ((W ((l_markIntS x.Doc.Salts (l_markStringS x.Doc.Parts (W ((W ((W (k + 1)) + 1)) + 1))).2).2 + 1)) + 1)) + 1)) + 1)) + 1)) + 1)) + 1) = (W ((W ((W ((W ((W ((W ((l_markIntS x.Doc.Salts (l_markStringS x.Doc.Parts (W ((W ((W (k + 1)) + 1)) + 1))).2).2 + 1)) + 1)) + 1)) + 1)) + 1)) + 1)) + 1 := wrap_of (by omega) (by omega)
  have e16 : W ((W ((W ((W ((W ((W ((W ((W ((l_markIntS x.Doc.Salts (l_markStringS x.Doc.Parts (W ((W ((W (k + 1)) + 1)) + 1))).2).2 + 1)) + 1)) + 1)) + 1)) + 1)) + 1)) + 1)) + 1) = (W ((W ((W ((W ((W ((W ((W ((l_markIntS x.Doc.Salts (l_markStringS x.Doc.Parts (W ((W ((W (k + 1)) + 1)) + 1))).2).2 + 1)) + 1)) + 1)) + 1)) + 1)) + 1)) + 1)) + 1 := wrap_of (by omega) (by omega)
  have e17 : W ((W ((W ((W ((W ((W ((W ((W ((W ((l_markIntS x.Doc.Salts (l_markStringS x.Doc.Parts (W ((W ((W (k + 1)) + 1)) + 1))).2).2 + 1)) + 1)) + 1)) + 1)) + 1)) + 1)) + 1)) + 1)) + 1) = (W ((W ((W ((W ((W ((W ((W ((W ((l_markIntS x.Doc.Salts (l_markStringS x.Doc.Parts (W ((W ((W (k + 1)) + 1)) + 1))).2).2 + 1)) + 1)) + 1)) + 1)) + 1)) + 1)) + 1)) + 1)) + 1 := wrap_of (by omega) (by omega)
  obtain ⟨m18, n18⟩ := l_markPieceS_mk x.Strand.Pieces (W ((W ((W ((W ((W ((W ((W ((W ((W ((l_markIntS x.Doc.Salts (l_markStringS x.Doc.Parts (W ((W ((W (k + 1)) + 1)) + 1))).2).2 + 1)) + 1)) + 1)) + 1)) + 1)) + 1)) + 1)) + 1)) + 1)) (by omega) (by omega)
  have q18 := l_markPieceS_cnt x.Strand.Pieces (W ((W ((W ((W ((W ((W ((W ((W ((W ((l_markIntS x.Doc.Salts (l_markStringS x.Doc.Parts (W ((W ((W (k + 1)) + 1)) + 1))).2).2 + 1)) + 1)) + 1)) + 1)) + 1)) + 1)) + 1)) + 1)) + 1)) (by omega) (by omega)
  have o18 : ¬ (l_markPieceS x.Strand.Pieces (W ((W ((W ((W ((W ((W ((W ((W ((W ((l_markIntS x.Doc.Salts (l_markStringS x.Doc.Parts (W ((W ((W (k + 1)) + 1)) + 1))).2).2 + 1)) + 1)) + 1)) + 1)) + 1)) + 1)) + 1)) + 1)) + 1))).2 < 0 := by omega
  obtain ⟨m21, n21⟩ := l_markRenewalS_mk x.Strand.Chain (l_markPieceS x.Strand.Pieces (W ((W ((W ((W ((W ((W ((W ((W ((W ((l_markIntS x.Doc.Salts (l_markStringS x.Doc.Parts (W ((W ((W (k + 1)) + 1)) + 1))).2).2 + 1)) + 1)) + 1)) + 1)) + 1)) + 1)) + 1)) + 1)) + 1))).2 (by omega) (by omega)
  have q21 := l_markRenewalS_cnt x.Strand.Chain (l_markPieceS x.Strand.Pieces (W ((W ((W ((W ((W ((W ((W ((W ((W ((l_markIntS x.Doc.Salts (l_markStringS x.Doc.Parts (W ((W ((W (k + 1)) + 1)) + 1))).2).2 + 1)) + 1)) + 1)) + 1)) + 1)) + 1)) + 1)) + 1)) + 1))).2 (by omega) (by omega)
  have o21 : ¬ (l_markRenewalS x.Strand.Chain (l_markPieceS x.Strand.Pieces (W ((W ((W ((W ((W ((W ((W ((W ((W ((l_markIntS x.Doc.Salts (l_markStringS x.Doc.Parts (W ((W ((W (k + 1)) + 1)) + 1))).2).2 + 1)) + 1)) + 1)) + 1)) + 1)) + 1)) + 1)) + 1)) + 1))).2).2 < 0 := by omega
  omega
theorem l_markItemS_cnt (a0 : List TItem) (a1 : Int) (h0 : 0 ≤ a1) (h : a1 + (cn a0 : Nat) < 4611686018427387904) : (l_markItemS a0 a1).2 = a1 + (cn a0 : Nat) := by
  rw [l_markItemS_eq]
  exact mkL_snd l_markItemS_c a0 a1 h0 h
theorem l_markItemS_mk (a0 : List TItem) (a1 : Int) (h0 : 0 ≤ a1) (h : a1 + (cn a0 : Nat) < 4611686018427387904) : a1 ≤ (l_markItemS a0 a1).2 ∧ (l_markItemS a0 a1).2 ≤ a1 + (cn a0 : Nat) := by
  have := l_markItemS_cnt a0 a1 h0 h
  omega
@[simp] theorem l_markArchive_Id (a0 : TArchive) (a1 : Int) : (l_markArchive a0 a1).1.Id = a0.Id := rfl
@[simp] theorem l_markArchive_Items_len (a0 : TArchive) (a1 : Int) : (l_markArchive a0 a1).1.Items.length = a0.Items.length := by simp [l_markArchive]
theorem l_markArchive_mk (a0 : TArchive) (a1 : Int) (h0 : 0 ≤ a1) (h : a1 + (cn a0 : Nat) < 4611686018427387904) : a1 ≤ (l_markArchive a0 a1).2 ∧ (l_markArchive a0 a1).2 ≤ a1 + (cn a0 : Nat) := by
  simp only [cn_int, cn_bool, cn_str, TArchive.cn_eq] at h ⊢
  obtain ⟨m0, n0⟩ := l_markItemS_mk a0.Items a1 (by omega) (by omega)
  have q0 := l_markItemS_cnt a0.Items a1 (by omega) (by omega)
  have o0 : ¬ (l_markItemS a0.Items a1).2 < 0 := by omega
  refine ⟨by simp only [l_markArchive]; omega, by simp only [l_markArchive]; omega⟩
end Go.Mo
