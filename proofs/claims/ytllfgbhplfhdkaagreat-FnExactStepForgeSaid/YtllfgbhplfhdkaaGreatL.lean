/- Plain lemmas on the models of the helpers. No condition. -/
import Derived.Test.YtllfgbhplfhdkaaGreatM
namespace Go.Mo
open Go.Vm
set_option linter.unusedSimpArgs false
set_option linter.unusedVariables false
theorem l_szKeyS_sm : SzOk l_szKeyS := sz_flat (fun _ _ => trivial) (fun _ _ => rfl)
theorem l_szKeyS_cz : CzOk l_szKeyS 0 := cz_flat (fun _ => Nat.le_of_ble_eq_true rfl) (fun _ _ => rfl)
theorem l_szAuthorityS_sm : SzOk l_szAuthorityS := sz_flat (fun _ _ => trivial) (fun _ _ => rfl)
theorem l_szAuthorityS_cz : CzOk l_szAuthorityS 0 := cz_flat (fun _ => Nat.le_of_ble_eq_true rfl) (fun _ _ => rfl)
theorem l_szMethodS_sm : SzOk l_szMethodS := sz_flat (fun _ _ => trivial) (fun _ _ => rfl)
theorem l_szMethodS_cz : CzOk l_szMethodS 0 := cz_flat (fun _ => Nat.le_of_ble_eq_true rfl) (fun _ _ => rfl)
theorem l_szFrame_sm : SzOk l_szFrame := by
  intro a0 a1 hm h0 hn h
  unfold l_szFrame at h ⊢
  by_cases c0 : (l_szKeyS a0.Keys a1) < 0
  · simp [c0] at h
  obtain ⟨s0, t0⟩ := l_szKeyS_sm a0.Keys a1 (by simp [hm]) (by omega) (by omega) c0
  by_cases c1 : (l_szAuthorityS a0.Authorities (l_szKeyS a0.Keys a1)) < 0
  · simp [c1, c0] at h
  obtain ⟨s1, t1⟩ := l_szAuthorityS_sm a0.Authorities (l_szKeyS a0.Keys a1) (by simp [hm]) (by omega) (by omega) c1
  by_cases c2 : (l_szMethodS a0.Methods (l_szAuthorityS a0.Authorities (l_szKeyS a0.Keys a1))) < 0
  · simp [c2, c0, c1] at h
  obtain ⟨s2, t2⟩ := l_szMethodS_sm a0.Methods (l_szAuthorityS a0.Authorities (l_szKeyS a0.Keys a1)) (by simp [hm]) (by omega) (by omega) c2
  simp only [c0, c1, c2, decide_false, cond_false] at h ⊢
  exact ⟨⟨s0, s1, s2⟩, t2⟩
theorem l_szFrame_cz : CzOk l_szFrame 2 := by
  intro a0 a1 hm h0 hn h
  unfold l_szFrame at h ⊢
  by_cases c0 : (l_szKeyS a0.Keys a1) < 0
  · simp [c0] at h
  obtain ⟨s0, t0⟩ := l_szKeyS_cz a0.Keys a1 (by simp [hm]) (by omega) (by omega) c0
  by_cases c1 : (l_szAuthorityS a0.Authorities (l_szKeyS a0.Keys a1)) < 0
  · simp [c1, c0] at h
  obtain ⟨s1, t1⟩ := l_szAuthorityS_cz a0.Authorities (l_szKeyS a0.Keys a1) (by simp [hm]) (by omega) (by omega) c1
  by_cases c2 : (l_szMethodS a0.Methods (l_szAuthorityS a0.Authorities (l_szKeyS a0.Keys a1))) < 0
  · simp [c2, c0, c1] at h
  obtain ⟨s2, t2⟩ := l_szMethodS_cz a0.Methods (l_szAuthorityS a0.Authorities (l_szKeyS a0.Keys a1)) (by simp [hm]) (by omega) (by omega) c2
  simp only [c0, c1, c2, decide_false, cond_false] at h ⊢
  simp only [cn_int, cn_bool, cn_str, TFrame.cn_eq]
  omega
theorem l_szCertS_sm : SzOk l_szCertS := sz_flat (fun _ _ => trivial) (fun _ _ => rfl)
theorem l_szCertS_cz : CzOk l_szCertS 0 := cz_flat (fun _ => Nat.le_of_ble_eq_true rfl) (fun _ _ => rfl)
theorem l_szIntS_sm : SzOk l_szIntS := sz_flat (fun _ _ => trivial) (fun _ _ => rfl)
theorem l_szIntS_cz : CzOk l_szIntS 0 := cz_flat (fun _ => Nat.le_of_ble_eq_true rfl) (fun _ _ => rfl)
theorem l_szStringS_sm : SzOk l_szStringS := sz_loop sz_string (G := l_szStringS_1) (fun _ _ _ _ => rfl) (fun _ _ => rfl)
theorem l_szStringS_cz : CzOk l_szStringS 0 := cz_loop cz_string (by decide) (G := l_szStringS_1) (fun _ _ _ _ => rfl) (fun _ _ => rfl)
theorem l_szDocument_sm : SzOk l_szDocument := by
  intro a0 a1 hm h0 hn h
  unfold l_szDocument at h ⊢
  by_cases c0 : (l_szStringS a0.Parts a1) < 0
  · simp [c0] at h
  obtain ⟨s0, t0⟩ := l_szStringS_sm a0.Parts a1 (by simp [hm]) (by omega) (by omega) c0
  by_cases c1 : (l_szIntS a0.Salts (l_szStringS a0.Parts a1)) < 0
  · simp [c1, c0] at h
  obtain ⟨s1, t1⟩ := l_szIntS_sm a0.Salts (l_szStringS a0.Parts a1) (by simp [hm]) (by omega) (by omega) c1
  simp only [c0, c1, decide_false, cond_false] at h ⊢
  exact ⟨⟨s0, s1⟩, t1⟩
theorem l_szDocument_cz : CzOk l_szDocument 1 := by
  intro a0 a1 hm h0 hn h
  unfold l_szDocument at h ⊢
  by_cases c0 : (l_szStringS a0.Parts a1) < 0
  · simp [c0] at h
  obtain ⟨s0, t0⟩ := l_szStringS_cz a0.Parts a1 (by simp [hm]) (by omega) (by omega) c0
  by_cases c1 : (l_szIntS a0.Salts (l_szStringS a0.Parts a1)) < 0
  · simp [c1, c0] at h
  obtain ⟨s1, t1⟩ := l_szIntS_cz a0.Salts (l_szStringS a0.Parts a1) (by simp [hm]) (by omega) (by omega) c1
  simp only [c0, c1, decide_false, cond_false] at h ⊢
  simp only [cn_int, cn_bool, cn_str, TDocument.cn_eq]
  omega
theorem l_szPiece_sm : SzOk l_szPiece := by
  intro a0 a1 hm h0 hn h
  unfold l_szPiece at h ⊢
  by_cases c0 : (l_szIntS a0.Ints a1) < 0
  · simp [c0] at h
  obtain ⟨s0, t0⟩ := l_szIntS_sm a0.Ints a1 (by simp [hm]) (by omega) (by omega) c0
  simp only [c0, decide_false, cond_false] at h ⊢
  exact ⟨s0, t0⟩
theorem l_szPiece_cz : CzOk l_szPiece 2 := by
  intro a0 a1 hm h0 hn h
  unfold l_szPiece at h ⊢
  by_cases c0 : (l_szIntS a0.Ints a1) < 0
  · simp [c0] at h
  obtain ⟨s0, t0⟩ := l_szIntS_cz a0.Ints a1 (by simp [hm]) (by omega) (by omega) c0
  simp only [c0, decide_false, cond_false] at h ⊢
  simp only [cn_int, cn_bool, cn_str, TPiece.cn_eq]
  omega
theorem l_szPieceS_sm : SzOk l_szPieceS := sz_loop l_szPiece_sm (G := l_szPieceS_1) (fun _ _ _ _ => rfl) (fun _ _ => rfl)
theorem l_szPieceS_cz : CzOk l_szPieceS 0 := cz_loop l_szPiece_cz (by decide) (G := l_szPieceS_1) (fun _ _ _ _ => rfl) (fun _ _ => rfl)
theorem l_szStepS_sm : SzOk l_szStepS := sz_flat (fun _ _ => trivial) (fun _ _ => rfl)
theorem l_szStepS_cz : CzOk l_szStepS 0 := cz_flat (fun _ => Nat.le_of_ble_eq_true rfl) (fun _ _ => rfl)
theorem l_szStampS_sm : SzOk l_szStampS := sz_flat (fun _ _ => trivial) (fun _ _ => rfl)
theorem l_szStampS_cz : CzOk l_szStampS 0 := cz_flat (fun _ => Nat.le_of_ble_eq_true rfl) (fun _ _ => rfl)
theorem l_szRenewal_sm : SzOk l_szRenewal := by
  intro a0 a1 hm h0 hn h
  unfold l_szRenewal at h ⊢
  by_cases c0 : (l_szStepS a0.Path a1) < 0
  · simp [c0] at h
  obtain ⟨s0, t0⟩ := l_szStepS_sm a0.Path a1 (by simp [hm]) (by omega) (by omega) c0
  by_cases c1 : (l_szStampS a0.Stamps (l_szStepS a0.Path a1)) < 0
  · simp [c1, c0] at h
  obtain ⟨s1, t1⟩ := l_szStampS_sm a0.Stamps (l_szStepS a0.Path a1) (by simp [hm]) (by omega) (by omega) c1
  simp only [c0, c1, decide_false, cond_false] at h ⊢
  exact ⟨⟨s0, s1⟩, t1⟩
theorem l_szRenewal_cz : CzOk l_szRenewal 3 := by
  intro a0 a1 hm h0 hn h
  unfold l_szRenewal at h ⊢
  by_cases c0 : (l_szStepS a0.Path a1) < 0
  · simp [c0] at h
  obtain ⟨s0, t0⟩ := l_szStepS_cz a0.Path a1 (by simp [hm]) (by omega) (by omega) c0
  by_cases c1 : (l_szStampS a0.Stamps (l_szStepS a0.Path a1)) < 0
  · simp [c1, c0] at h
  obtain ⟨s1, t1⟩ := l_szStampS_cz a0.Stamps (l_szStepS a0.Path a1) (by simp [hm]) (by omega) (by omega) c1
  simp only [c0, c1, decide_false, cond_false] at h ⊢
  simp only [cn_int, cn_bool, cn_str, TRenewal.cn_eq]
  omega
theorem l_szRenewalS_sm : SzOk l_szRenewalS := sz_loop l_szRenewal_sm (G := l_szRenewalS_1) (fun _ _ _ _ => rfl) (fun _ _ => rfl)
theorem l_szRenewalS_cz : CzOk l_szRenewalS 0 := cz_loop l_szRenewal_cz (by decide) (G := l_szRenewalS_1) (fun _ _ _ _ => rfl) (fun _ _ => rfl)
theorem l_szStrand_sm : SzOk l_szStrand := by
  intro a0 a1 hm h0 hn h
  unfold l_szStrand at h ⊢
  by_cases c0 : (l_szPieceS a0.Pieces a1) < 0
  · simp [c0] at h
  obtain ⟨s0, t0⟩ := l_szPieceS_sm a0.Pieces a1 (by simp [hm]) (by omega) (by omega) c0
  by_cases c1 : (l_szRenewalS a0.Chain (l_szPieceS a0.Pieces a1)) < 0
  · simp [c1, c0] at h
  obtain ⟨s1, t1⟩ := l_szRenewalS_sm a0.Chain (l_szPieceS a0.Pieces a1) (by simp [hm]) (by omega) (by omega) c1
  simp only [c0, c1, decide_false, cond_false] at h ⊢
  exact ⟨⟨s0, s1⟩, t1⟩
theorem l_szStrand_cz : CzOk l_szStrand 0 := by
  intro a0 a1 hm h0 hn h
  unfold l_szStrand at h ⊢
  by_cases c0 : (l_szPieceS a0.Pieces a1) < 0
  · simp [c0] at h
  obtain ⟨s0, t0⟩ := l_szPieceS_cz a0.Pieces a1 (by simp [hm]) (by omega) (by omega) c0
  by_cases c1 : (l_szRenewalS a0.Chain (l_szPieceS a0.Pieces a1)) < 0
  · simp [c1, c0] at h
  obtain ⟨s1, t1⟩ := l_szRenewalS_cz a0.Chain (l_szPieceS a0.Pieces a1) (by simp [hm]) (by omega) (by omega) c1
  simp only [c0, c1, decide_false, cond_false] at h ⊢
  simp only [cn_int, cn_bool, cn_str, TStrand.cn_eq]
  omega
theorem l_szItem_sm : SzOk l_szItem := by
  intro a0 a1 hm h0 hn h
  unfold l_szItem at h ⊢
  by_cases c0 : (l_szDocument a0.Doc a1) < 0
  · simp [c0] at h
  obtain ⟨s0, t0⟩ := l_szDocument_sm a0.Doc a1 (by simp [hm]) (by omega) (by omega) c0
  by_cases c1 : (l_szStrand a0.Strand (l_szDocument a0.Doc a1)) < 0
  · simp [c1, c0] at h
  obtain ⟨s1, t1⟩ := l_szStrand_sm a0.Strand (l_szDocument a0.Doc a1) (by simp [hm]) (by omega) (by omega) c1
  simp only [c0, c1, decide_false, cond_false] at h ⊢
  exact ⟨⟨s0, s1⟩, t1⟩
theorem l_szItem_cz : CzOk l_szItem 12 := by
  intro a0 a1 hm h0 hn h
  unfold l_szItem at h ⊢
  by_cases c0 : (l_szDocument a0.Doc a1) < 0
  · simp [c0] at h
  obtain ⟨s0, t0⟩ := l_szDocument_cz a0.Doc a1 (by simp [hm]) (by omega) (by omega) c0
  by_cases c1 : (l_szStrand a0.Strand (l_szDocument a0.Doc a1)) < 0
  · simp [c1, c0] at h
  obtain ⟨s1, t1⟩ := l_szStrand_cz a0.Strand (l_szDocument a0.Doc a1) (by simp [hm]) (by omega) (by omega) c1
  simp only [c0, c1, decide_false, cond_false] at h ⊢
  simp only [cn_int, cn_bool, cn_str, TItem.cn_eq, TSignature.cn_eq]
  omega
theorem l_szItemS_sm : SzOk l_szItemS := sz_loop l_szItem_sm (G := l_szItemS_1) (fun _ _ _ _ => rfl) (fun _ _ => rfl)
theorem l_szItemS_cz : CzOk l_szItemS 0 := cz_loop l_szItem_cz (by decide) (G := l_szItemS_1) (fun _ _ _ _ => rfl) (fun _ _ => rfl)
theorem l_szArchive_sm : SzOk l_szArchive := by
  intro a0 a1 hm h0 hn h
  unfold l_szArchive at h ⊢
  by_cases c0 : (l_szItemS a0.Items a1) < 0
  · simp [c0] at h
  obtain ⟨s0, t0⟩ := l_szItemS_sm a0.Items a1 (by simp [hm]) (by omega) (by omega) c0
  simp only [c0, decide_false, cond_false] at h ⊢
  exact ⟨s0, t0⟩
theorem l_szArchive_cz : CzOk l_szArchive 1 := by
  intro a0 a1 hm h0 hn h
  unfold l_szArchive at h ⊢
  by_cases c0 : (l_szItemS a0.Items a1) < 0
  · simp [c0] at h
  obtain ⟨s0, t0⟩ := l_szItemS_cz a0.Items a1 (by simp [hm]) (by omega) (by omega) c0
  simp only [c0, decide_false, cond_false] at h ⊢
  simp only [cn_int, cn_bool, cn_str, TArchive.cn_eq]
  omega
theorem l_szArchiveS_sm : SzOk l_szArchiveS := sz_loop l_szArchive_sm (G := l_szArchiveS_1) (fun _ _ _ _ => rfl) (fun _ _ => rfl)
theorem l_szArchiveS_cz : CzOk l_szArchiveS 0 := cz_loop l_szArchive_cz (by decide) (G := l_szArchiveS_1) (fun _ _ _ _ => rfl) (fun _ _ => rfl)
theorem l_szWorld_sm : SzOk l_szWorld := by
  intro a0 a1 hm h0 hn h
  unfold l_szWorld at h ⊢
  by_cases c0 : (l_szFrame a0.Frame a1) < 0
  · simp [c0] at h
  obtain ⟨s0, t0⟩ := l_szFrame_sm a0.Frame a1 (by simp [hm]) (by omega) (by omega) c0
  by_cases c1 : (l_szCertS a0.Certs (l_szFrame a0.Frame a1)) < 0
  · simp [c1, c0] at h
  obtain ⟨s1, t1⟩ := l_szCertS_sm a0.Certs (l_szFrame a0.Frame a1) (by simp [hm]) (by omega) (by omega) c1
  by_cases c2 : (l_szIntS a0.Ended (l_szCertS a0.Certs (l_szFrame a0.Frame a1))) < 0
  · simp [c2, c0, c1] at h
  obtain ⟨s2, t2⟩ := l_szIntS_sm a0.Ended (l_szCertS a0.Certs (l_szFrame a0.Frame a1)) (by simp [hm]) (by omega) (by omega) c2
  by_cases c3 : (l_szArchiveS a0.Archives (l_szIntS a0.Ended (l_szCertS a0.Certs (l_szFrame a0.Frame a1)))) < 0
  · simp [c3, c0, c1, c2] at h
  obtain ⟨s3, t3⟩ := l_szArchiveS_sm a0.Archives (l_szIntS a0.Ended (l_szCertS a0.Certs (l_szFrame a0.Frame a1))) (by simp [hm]) (by omega) (by omega) c3
  by_cases c4 : (l_szIntS a0.Seqs (l_szArchiveS a0.Archives (l_szIntS a0.Ended (l_szCertS a0.Certs (l_szFrame a0.Frame a1))))) < 0
  · simp [c4, c0, c1, c2, c3] at h
  obtain ⟨s4, t4⟩ := l_szIntS_sm a0.Seqs (l_szArchiveS a0.Archives (l_szIntS a0.Ended (l_szCertS a0.Certs (l_szFrame a0.Frame a1)))) (by simp [hm]) (by omega) (by omega) c4
  by_cases c5 : (l_szIntS a0.Lying (l_szIntS a0.Seqs (l_szArchiveS a0.Archives (l_szIntS a0.Ended (l_szCertS a0.Certs (l_szFrame a0.Frame a1)))))) < 0
  · simp [c5, c0, c1, c2, c3, c4] at h
  obtain ⟨s5, t5⟩ := l_szIntS_sm a0.Lying (l_szIntS a0.Seqs (l_szArchiveS a0.Archives (l_szIntS a0.Ended (l_szCertS a0.Certs (l_szFrame a0.Frame a1))))) (by simp [hm]) (by omega) (by omega) c5
  by_cases c6 : (l_szIntS a0.Forged (l_szIntS a0.Lying (l_szIntS a0.Seqs (l_szArchiveS a0.Archives (l_szIntS a0.Ended (l_szCertS a0.Certs (l_szFrame a0.Frame a1))))))) < 0
  · simp [c6, c0, c1, c2, c3, c4, c5] at h
  obtain ⟨s6, t6⟩ := l_szIntS_sm a0.Forged (l_szIntS a0.Lying (l_szIntS a0.Seqs (l_szArchiveS a0.Archives (l_szIntS a0.Ended (l_szCertS a0.Certs (l_szFrame a0.Frame a1)))))) (by simp [hm]) (by omega) (by omega) c6
  simp only [c0, c1, c2, c3, c4, c5, c6, decide_false, cond_false] at h ⊢
  exact ⟨⟨s0, s1, s2, s3, s4, s5, s6⟩, t6⟩
theorem l_szWorld_cz : CzOk l_szWorld 3 := by
  intro a0 a1 hm h0 hn h
  unfold l_szWorld at h ⊢
  by_cases c0 : (l_szFrame a0.Frame a1) < 0
  · simp [c0] at h
  obtain ⟨s0, t0⟩ := l_szFrame_cz a0.Frame a1 (by simp [hm]) (by omega) (by omega) c0
  by_cases c1 : (l_szCertS a0.Certs (l_szFrame a0.Frame a1)) < 0
  · simp [c1, c0] at h
  obtain ⟨s1, t1⟩ := l_szCertS_cz a0.Certs (l_szFrame a0.Frame a1) (by simp [hm]) (by omega) (by omega) c1
  by_cases c2 : (l_szIntS a0.Ended (l_szCertS a0.Certs (l_szFrame a0.Frame a1))) < 0
  · simp [c2, c0, c1] at h
  obtain ⟨s2, t2⟩ := l_szIntS_cz a0.Ended (l_szCertS a0.Certs (l_szFrame a0.Frame a1)) (by simp [hm]) (by omega) (by omega) c2
  by_cases c3 : (l_szArchiveS a0.Archives (l_szIntS a0.Ended (l_szCertS a0.Certs (l_szFrame a0.Frame a1)))) < 0
  · simp [c3, c0, c1, c2] at h
  obtain ⟨s3, t3⟩ := l_szArchiveS_cz a0.Archives (l_szIntS a0.Ended (l_szCertS a0.Certs (l_szFrame a0.Frame a1))) (by simp [hm]) (by omega) (by omega) c3
  by_cases c4 : (l_szIntS a0.Seqs (l_szArchiveS a0.Archives (l_szIntS a0.Ended (l_szCertS a0.Certs (l_szFrame a0.Frame a1))))) < 0
  · simp [c4, c0, c1, c2, c3] at h
  obtain ⟨s4, t4⟩ := l_szIntS_cz a0.Seqs (l_szArchiveS a0.Archives (l_szIntS a0.Ended (l_szCertS a0.Certs (l_szFrame a0.Frame a1)))) (by simp [hm]) (by omega) (by omega) c4
  by_cases c5 : (l_szIntS a0.Lying (l_szIntS a0.Seqs (l_szArchiveS a0.Archives (l_szIntS a0.Ended (l_szCertS a0.Certs (l_szFrame a0.Frame a1)))))) < 0
  · simp [c5, c0, c1, c2, c3, c4] at h
  obtain ⟨s5, t5⟩ := l_szIntS_cz a0.Lying (l_szIntS a0.Seqs (l_szArchiveS a0.Archives (l_szIntS a0.Ended (l_szCertS a0.Certs (l_szFrame a0.Frame a1))))) (by simp [hm]) (by omega) (by omega) c5
  by_cases c6 : (l_szIntS a0.Forged (l_szIntS a0.Lying (l_szIntS a0.Seqs (l_szArchiveS a0.Archives (l_szIntS a0.Ended (l_szCertS a0.Certs (l_szFrame a0.Frame a1))))))) < 0
  · simp [c6, c0, c1, c2, c3, c4, c5] at h
  obtain ⟨s6, t6⟩ := l_szIntS_cz a0.Forged (l_szIntS a0.Lying (l_szIntS a0.Seqs (l_szArchiveS a0.Archives (l_szIntS a0.Ended (l_szCertS a0.Certs (l_szFrame a0.Frame a1)))))) (by simp [hm]) (by omega) (by omega) c6
  simp only [c0, c1, c2, c3, c4, c5, c6, decide_false, cond_false] at h ⊢
  simp only [cn_int, cn_bool, cn_str, TWorld.cn_eq]
  omega
theorem l_toKey_id (a0 : TKey) : l_toKey a0 = a0 := by cases a0; simp [l_toKey]
theorem l_toKeyS_id (a0 : List TKey) : l_toKeyS a0 = a0 := to_loop (F := l_toKeyS_1 a0) (g := (fun x => x)) (fun _ => rfl) (fun _ _ _ => rfl) _ 0 _ (by simp) (by omega) (by omega) (fun j h => by omega)
theorem l_toAuthority_id (a0 : TAuthority) : l_toAuthority a0 = a0 := by cases a0; simp [l_toAuthority]
theorem l_toAuthorityS_id (a0 : List TAuthority) : l_toAuthorityS a0 = a0 := to_loop (F := l_toAuthorityS_1 a0) (g := (fun x => x)) (fun _ => rfl) (fun _ _ _ => rfl) _ 0 _ (by simp) (by omega) (by omega) (fun j h => by omega)
theorem l_toMethod_id (a0 : TMethod) : l_toMethod a0 = a0 := by cases a0; simp [l_toMethod]
theorem l_toMethodS_id (a0 : List TMethod) : l_toMethodS a0 = a0 := to_loop (F := l_toMethodS_1 a0) (g := (fun x => x)) (fun _ => rfl) (fun _ _ _ => rfl) _ 0 _ (by simp) (by omega) (by omega) (fun j h => by omega)
theorem l_toFrame_id (a0 : TFrame) : l_toFrame a0 = a0 := by cases a0; simp [l_toFrame]
theorem l_toCert_id (a0 : TCert) : l_toCert a0 = a0 := by cases a0; simp [l_toCert]
theorem l_toCertS_id (a0 : List TCert) : l_toCertS a0 = a0 := to_loop (F := l_toCertS_1 a0) (g := (fun x => x)) (fun _ => rfl) (fun _ _ _ => rfl) _ 0 _ (by simp) (by omega) (by omega) (fun j h => by omega)
theorem l_toIntS_id (a0 : List Int) : l_toIntS a0 = a0 := to_loop (F := l_toIntS_1 a0) (g := (fun x => x)) (fun _ => rfl) (fun _ _ _ => rfl) _ 0 _ (by simp) (by omega) (by omega) (fun j h => by omega)
theorem l_toStringS_id (a0 : List ByteArray) : l_toStringS a0 = a0 := to_loop (F := l_toStringS_1 a0) (g := (fun x => x)) (fun _ => rfl) (fun _ _ _ => rfl) _ 0 _ (by simp) (by omega) (by omega) (fun j h => by omega)
theorem l_toDocument_id (a0 : TDocument) : l_toDocument a0 = a0 := by cases a0; simp [l_toDocument]
theorem l_toSignature_id (a0 : TSignature) : l_toSignature a0 = a0 := by cases a0; simp [l_toSignature]
theorem l_toPiece_id (a0 : TPiece) : l_toPiece a0 = a0 := by cases a0; simp [l_toPiece]
theorem l_toPieceS_id (a0 : List TPiece) : l_toPieceS a0 = a0 := to_loop (F := l_toPieceS_1 a0) (g := (fun x => x)) (fun _ => rfl) (fun _ _ _ => rfl) _ 0 _ (by simp) (by omega) (by omega) (fun j h => by omega)
theorem l_toStep_id (a0 : TStep) : l_toStep a0 = a0 := by cases a0; simp [l_toStep]
theorem l_toStepS_id (a0 : List TStep) : l_toStepS a0 = a0 := to_loop (F := l_toStepS_1 a0) (g := (fun x => x)) (fun _ => rfl) (fun _ _ _ => rfl) _ 0 _ (by simp) (by omega) (by omega) (fun j h => by omega)
theorem l_toStamp_id (a0 : TStamp) : l_toStamp a0 = a0 := by cases a0; simp [l_toStamp]
theorem l_toStampS_id (a0 : List TStamp) : l_toStampS a0 = a0 := to_loop (F := l_toStampS_1 a0) (g := (fun x => x)) (fun _ => rfl) (fun _ _ _ => rfl) _ 0 _ (by simp) (by omega) (by omega) (fun j h => by omega)
theorem l_toRenewal_id (a0 : TRenewal) : l_toRenewal a0 = a0 := by cases a0; simp [l_toRenewal]
theorem l_toRenewalS_id (a0 : List TRenewal) : l_toRenewalS a0 = a0 := to_loop (F := l_toRenewalS_1 a0) (g := (fun x => x)) (fun _ => rfl) (fun _ _ _ => rfl) _ 0 _ (by simp) (by omega) (by omega) (fun j h => by omega)
theorem l_toStrand_id (a0 : TStrand) : l_toStrand a0 = a0 := by cases a0; simp [l_toStrand]
theorem l_toItem_id (a0 : TItem) : l_toItem a0 = a0 := by cases a0; simp [l_toItem]
theorem l_toItemS_id (a0 : List TItem) : l_toItemS a0 = a0 := to_loop (F := l_toItemS_1 a0) (g := (fun x => x)) (fun _ => rfl) (fun _ _ _ => rfl) _ 0 _ (by simp) (by omega) (by omega) (fun j h => by omega)
theorem l_toArchive_id (a0 : TArchive) : l_toArchive a0 = a0 := by cases a0; simp [l_toArchive]
theorem l_toArchiveS_id (a0 : List TArchive) : l_toArchiveS a0 = a0 := to_loop (F := l_toArchiveS_1 a0) (g := (fun x => x)) (fun _ => rfl) (fun _ _ _ => rfl) _ 0 _ (by simp) (by omega) (by omega) (fun j h => by omega)
theorem l_toWorld_id (a0 : TWorld) : l_toWorld a0 = a0 := by cases a0; simp [l_toWorld]
theorem s_l33Frame_id (a0 : TFrame) : s_l33Frame a0 = a0 := rfl
theorem s_l6Copy_id (a0 : TDocument) : s_l6Copy a0 = a0 := rfl
theorem s_l18Copy_id (a0 : TPiece) : s_l18Copy a0 = a0 := rfl
theorem s_l18All_id (a0 : List TPiece) : s_l18All a0 = a0 := by
  have h := copy_loop (F := (s_l18All_1 a0)) (a := a0) (g := (fun x => x)) (fun _ => rfl) (fun _ _ _ => rfl) (a0.length + 1) [] 0 (by omega) (by omega)
  simp only [List.nil_append, List.drop_zero] at h
  unfold s_l18All
  rw [h]
theorem s_l19Copy_id (a0 : TRenewal) : s_l19Copy a0 = a0 := rfl
theorem s_l20Copy_id (a0 : TStrand) : s_l20Copy a0 = a0 := by
  have h := copy_loop (F := (fun n v i => s_l20Copy_1 a0 n i v)) (a := a0.Chain) (g := (fun x => x)) (fun _ => rfl) (fun _ _ _ => rfl) (a0.Chain.length + 1) [] 0 (by omega) (by omega)
  simp only [List.nil_append, List.drop_zero] at h
  unfold s_l20Copy
  rw [h]
theorem s_l28Item_id (a0 : TItem) : s_l28Item a0 = a0 := rfl
theorem s_l28Copy_id (a0 : TArchive) : s_l28Copy a0 = a0 := by
  have h := copy_loop (F := (fun n v i => s_l28Copy_1 a0 n i v)) (a := a0.Items) (g := (fun x => x)) (fun _ => rfl) (fun _ _ _ => rfl) (a0.Items.length + 1) [] 0 (by omega) (by omega)
  simp only [List.nil_append, List.drop_zero] at h
  unfold s_l28Copy
  rw [h]
theorem s_l33Copy_id (a0 : TWorld) : s_l33Copy a0 = a0 := by
  have h := copy_loop (F := (fun n v i => s_l33Copy_1 a0 n i v)) (a := a0.Archives) (g := (fun x => x)) (fun _ => rfl) (fun _ _ _ => rfl) (a0.Archives.length + 1) [] 0 (by omega) (by omega)
  simp only [List.nil_append, List.drop_zero] at h
  unfold s_l33Copy
  rw [h]
theorem s_FindKey_lt (a0 : List TKey) (a1 : Int) : s_FindKey a0 a1 < (a0.length : Int) := find_lt (F := s_FindKey_1 a0 a1) (c := fun v1_0 => ((nth a0 v1_0).Number == a1)) (fun _ => rfl) (fun _ _ => rfl) _ _
theorem s_l34CertOf_lt (a0 : TWorld) (a1 : Int) : s_l34CertOf a0 a1 < (a0.Certs.length : Int) := find_lt (F := s_l34CertOf_1 a0 a1) (c := fun v1_0 => ((nth a0.Certs v1_0).Key == a1)) (fun _ => rfl) (fun _ _ => rfl) _ _
theorem s_FindPiece_lt (a0 : TStrand) (a1 : TPiece) : s_FindPiece a0 a1 < (a0.Pieces.length : Int) := find_lt (F := s_FindPiece_1 a0 a1) (c := fun v1_0 => (s_EqualPieces (nth a0.Pieces v1_0) a1)) (fun _ => rfl) (fun _ _ => rfl) _ _
theorem s_FindItem_lt (a0 : TArchive) (a1 : Int) : s_FindItem a0 a1 < (a0.Items.length : Int) := find_lt (F := s_FindItem_1 a0 a1) (c := fun v1_0 => ((nth a0.Items v1_0).Id == a1)) (fun _ => rfl) (fun _ _ => rfl) _ _
theorem i_FindKey_lt (a0 : List TKey) (a1 : Int) : i_FindKey a0 a1 < (a0.length : Int) := find_lt (F := i_FindKey_1 a0 a1) (c := fun v1_0 => ((nth a0 v1_0).Number == a1)) (fun _ => rfl) (fun _ _ => rfl) _ _
theorem i_copyFrame_id (a0 : TFrame) : i_copyFrame a0 = a0 := rfl
theorem i_copyInts_id (a0 : List Int) : i_copyInts a0 = a0 := rfl
theorem i_copyDocument_id (a0 : TDocument) : i_copyDocument a0 = a0 := rfl
theorem i_copyPiece_id (a0 : TPiece) : i_copyPiece a0 = a0 := rfl
theorem i_copyPieces_id (a0 : List TPiece) : i_copyPieces a0 = a0 := by
  have h := copy_loop (F := (i_copyPieces_1 a0)) (a := a0) (g := (fun x => x)) (fun _ => rfl) (fun _ _ _ => rfl) (a0.length + 1) [] 0 (by omega) (by omega)
  simp only [List.nil_append, List.drop_zero] at h
  unfold i_copyPieces
  rw [h]
theorem i_copyStamps_id (a0 : List TStamp) : i_copyStamps a0 = a0 := rfl
theorem i_copyRenewal_id (a0 : TRenewal) : i_copyRenewal a0 = a0 := rfl
theorem i_copyStrand_id (a0 : TStrand) : i_copyStrand a0 = a0 := by
  have h := copy_loop (F := (fun n v i => i_copyStrand_1 a0 n i v)) (a := a0.Chain) (g := (fun x => x)) (fun _ => rfl) (fun _ _ _ => rfl) (a0.Chain.length + 1) [] 0 (by omega) (by omega)
  simp only [List.nil_append, List.drop_zero] at h
  unfold i_copyStrand
  rw [h]
theorem i_copyItem_id (a0 : TItem) : i_copyItem a0 = a0 := rfl
theorem i_copyArchive_id (a0 : TArchive) : i_copyArchive a0 = a0 := by
  have h := copy_loop (F := (fun n v i => i_copyArchive_1 a0 n i v)) (a := a0.Items) (g := (fun x => x)) (fun _ => rfl) (fun _ _ _ => rfl) (a0.Items.length + 1) [] 0 (by omega) (by omega)
  simp only [List.nil_append, List.drop_zero] at h
  unfold i_copyArchive
  rw [h]
theorem i_copyWorld_id (a0 : TWorld) : i_copyWorld a0 = a0 := by
  have h := copy_loop (F := (fun n v i => i_copyWorld_1 a0 n i v)) (a := a0.Archives) (g := (fun x => x)) (fun _ => rfl) (fun _ _ _ => rfl) (a0.Archives.length + 1) [] 0 (by omega) (by omega)
  simp only [List.nil_append, List.drop_zero] at h
  unfold i_copyWorld
  rw [h]
theorem i_FindItem_lt (a0 : TArchive) (a1 : Int) : i_FindItem a0 a1 < (a0.Items.length : Int) := find_lt (F := i_FindItem_1 a0 a1) (c := fun v1_0 => ((nth a0.Items v1_0).Id == a1)) (fun _ => rfl) (fun _ _ => rfl) _ _
theorem l_eqKey_self (a0 : TKey) : l_eqKey a0 a0 = true := by simp [l_eqKey]
theorem l_eqKeyS_self (a0 : List TKey) : l_eqKeyS a0 a0 = true := by
  unfold l_eqKeyS
  rw [eq_loop (F := l_eqKeyS_1 a0 a0) (L := a0.length) (c := fun v1_0 => (!(l_eqKey (nth a0 v1_0) (nth a0 v1_0)))) (fun i => by simp [l_eqKey_self]) (fun _ => rfl) (fun _ _ => rfl)]
  simp
theorem l_eqAuthority_self (a0 : TAuthority) : l_eqAuthority a0 a0 = true := by simp [l_eqAuthority]
theorem l_eqAuthorityS_self (a0 : List TAuthority) : l_eqAuthorityS a0 a0 = true := by
  unfold l_eqAuthorityS
  rw [eq_loop (F := l_eqAuthorityS_1 a0 a0) (L := a0.length) (c := fun v1_0 => (!(l_eqAuthority (nth a0 v1_0) (nth a0 v1_0)))) (fun i => by simp [l_eqAuthority_self]) (fun _ => rfl) (fun _ _ => rfl)]
  simp
theorem l_eqMethod_self (a0 : TMethod) : l_eqMethod a0 a0 = true := by simp [l_eqMethod]
theorem l_eqMethodS_self (a0 : List TMethod) : l_eqMethodS a0 a0 = true := by
  unfold l_eqMethodS
  rw [eq_loop (F := l_eqMethodS_1 a0 a0) (L := a0.length) (c := fun v1_0 => (!(l_eqMethod (nth a0 v1_0) (nth a0 v1_0)))) (fun i => by simp [l_eqMethod_self]) (fun _ => rfl) (fun _ _ => rfl)]
  simp
theorem l_eqFrame_self (a0 : TFrame) : l_eqFrame a0 a0 = true := by simp [l_eqFrame, l_eqAuthorityS_self, l_eqKeyS_self, l_eqMethodS_self]
theorem l_eqCert_self (a0 : TCert) : l_eqCert a0 a0 = true := by simp [l_eqCert]
theorem l_eqCertS_self (a0 : List TCert) : l_eqCertS a0 a0 = true := by
  unfold l_eqCertS
  rw [eq_loop (F := l_eqCertS_1 a0 a0) (L := a0.length) (c := fun v1_0 => (!(l_eqCert (nth a0 v1_0) (nth a0 v1_0)))) (fun i => by simp [l_eqCert_self]) (fun _ => rfl) (fun _ _ => rfl)]
  simp
theorem l_eqIntS_self (a0 : List Int) : l_eqIntS a0 a0 = true := by
  unfold l_eqIntS
  rw [eq_loop (F := l_eqIntS_1 a0 a0) (L := a0.length) (c := fun v1_0 => ((nth a0 v1_0) != (nth a0 v1_0))) (fun i => by simp) (fun _ => rfl) (fun _ _ => rfl)]
  simp
theorem l_eqStringS_self (a0 : List ByteArray) : l_eqStringS a0 a0 = true := by
  unfold l_eqStringS
  rw [eq_loop (F := l_eqStringS_1 a0 a0) (L := a0.length) (c := fun v1_0 => (!decide ((nth a0 v1_0) = (nth a0 v1_0)))) (fun i => by simp) (fun _ => rfl) (fun _ _ => rfl)]
  simp
theorem l_eqDocument_self (a0 : TDocument) : l_eqDocument a0 a0 = true := by simp [l_eqDocument, l_eqIntS_self, l_eqStringS_self]
theorem l_eqSignature_self (a0 : TSignature) : l_eqSignature a0 a0 = true := by simp [l_eqSignature]
theorem l_eqPiece_self (a0 : TPiece) : l_eqPiece a0 a0 = true := by simp [l_eqPiece, l_eqIntS_self]
theorem l_eqPieceS_self (a0 : List TPiece) : l_eqPieceS a0 a0 = true := by
  unfold l_eqPieceS
  rw [eq_loop (F := l_eqPieceS_1 a0 a0) (L := a0.length) (c := fun v1_0 => (!(l_eqPiece (nth a0 v1_0) (nth a0 v1_0)))) (fun i => by simp [l_eqPiece_self]) (fun _ => rfl) (fun _ _ => rfl)]
  simp
theorem l_eqStep_self (a0 : TStep) : l_eqStep a0 a0 = true := by simp [l_eqStep]
theorem l_eqStepS_self (a0 : List TStep) : l_eqStepS a0 a0 = true := by
  unfold l_eqStepS
  rw [eq_loop (F := l_eqStepS_1 a0 a0) (L := a0.length) (c := fun v1_0 => (!(l_eqStep (nth a0 v1_0) (nth a0 v1_0)))) (fun i => by simp [l_eqStep_self]) (fun _ => rfl) (fun _ _ => rfl)]
  simp
theorem l_eqStamp_self (a0 : TStamp) : l_eqStamp a0 a0 = true := by simp [l_eqStamp]
theorem l_eqStampS_self (a0 : List TStamp) : l_eqStampS a0 a0 = true := by
  unfold l_eqStampS
  rw [eq_loop (F := l_eqStampS_1 a0 a0) (L := a0.length) (c := fun v1_0 => (!(l_eqStamp (nth a0 v1_0) (nth a0 v1_0)))) (fun i => by simp [l_eqStamp_self]) (fun _ => rfl) (fun _ _ => rfl)]
  simp
theorem l_eqRenewal_self (a0 : TRenewal) : l_eqRenewal a0 a0 = true := by simp [l_eqRenewal, l_eqStampS_self, l_eqStepS_self]
theorem l_eqRenewalS_self (a0 : List TRenewal) : l_eqRenewalS a0 a0 = true := by
  unfold l_eqRenewalS
  rw [eq_loop (F := l_eqRenewalS_1 a0 a0) (L := a0.length) (c := fun v1_0 => (!(l_eqRenewal (nth a0 v1_0) (nth a0 v1_0)))) (fun i => by simp [l_eqRenewal_self]) (fun _ => rfl) (fun _ _ => rfl)]
  simp
theorem l_eqStrand_self (a0 : TStrand) : l_eqStrand a0 a0 = true := by simp [l_eqStrand, l_eqPieceS_self, l_eqRenewalS_self]
theorem l_eqItem_self (a0 : TItem) : l_eqItem a0 a0 = true := by simp [l_eqItem, l_eqDocument_self, l_eqSignature_self, l_eqStrand_self]
theorem l_eqItemS_self (a0 : List TItem) : l_eqItemS a0 a0 = true := by
  unfold l_eqItemS
  rw [eq_loop (F := l_eqItemS_1 a0 a0) (L := a0.length) (c := fun v1_0 => (!(l_eqItem (nth a0 v1_0) (nth a0 v1_0)))) (fun i => by simp [l_eqItem_self]) (fun _ => rfl) (fun _ _ => rfl)]
  simp
theorem l_eqArchive_self (a0 : TArchive) : l_eqArchive a0 a0 = true := by simp [l_eqArchive, l_eqItemS_self]
theorem l_eqArchiveS_self (a0 : List TArchive) : l_eqArchiveS a0 a0 = true := by
  unfold l_eqArchiveS
  rw [eq_loop (F := l_eqArchiveS_1 a0 a0) (L := a0.length) (c := fun v1_0 => (!(l_eqArchive (nth a0 v1_0) (nth a0 v1_0)))) (fun i => by simp [l_eqArchive_self]) (fun _ => rfl) (fun _ _ => rfl)]
  simp
theorem l_eqWorld_self (a0 : TWorld) : l_eqWorld a0 a0 = true := by simp [l_eqWorld, l_eqArchiveS_self, l_eqCertS_self, l_eqFrame_self, l_eqIntS_self]
theorem l_markKeyS_eq (a0 : List TKey) (a1 : Int) : l_markKeyS a0 a1 = mkL (fun (x : TKey) (k : Int) => ((TKey.mk k (W (k + 1)) (W ((W (k + 1)) + 1)) (W ((W ((W (k + 1)) + 1)) + 1)) (W ((W ((W ((W (k + 1)) + 1)) + 1)) + 1))), (W ((W ((W ((W ((W (k + 1)) + 1)) + 1)) + 1)) + 1)))) a0 a1 := by
  have h := mark_loop (F := l_markKeyS_1) (f := (fun (x : TKey) (k : Int) => ((TKey.mk k (W (k + 1)) (W ((W (k + 1)) + 1)) (W ((W ((W (k + 1)) + 1)) + 1)) (W ((W ((W ((W (k + 1)) + 1)) + 1)) + 1))), (W ((W ((W ((W ((W (k + 1)) + 1)) + 1)) + 1)) + 1))))) (fun _ _ _ _ => rfl) a0 [] (a0.length + 1) a1 (by omega)
  unfold l_markKeyS
  simp only [List.length_nil, List.nil_append] at h
  rw [h]
@[simp] theorem l_markKeyS_len (a0 : List TKey) (a1 : Int) : (l_markKeyS a0 a1).1.length = a0.length := by rw [l_markKeyS_eq, mkL_len]
theorem l_markKeyS_c : ∀ (x : TKey) (k : Int), 0 ≤ k → k + (cn x : Nat) < 4611686018427387904 → ((fun (x : TKey) (k : Int) => ((TKey.mk k (W (k + 1)) (W ((W (k + 1)) + 1)) (W ((W ((W (k + 1)) + 1)) + 1)) (W ((W ((W ((W (k + 1)) + 1)) + 1)) + 1))), (W ((W ((W ((W ((W (k + 1)) + 1)) + 1)) + 1)) + 1)))) x k).2 = k + (cn x : Nat) := by
  intro x k h0 h
  simp only [cn_int, cn_bool, cn_u8, cn_str, TKey.cn_eq] at h ⊢
  have e0 : W (k + 1) = k + 1 := wrap_of (by omega) (by omega)
  have e1 : W ((W (k + 1)) + 1) = (W (k + 1)) + 1 := wrap_of (by omega) (by omega)
  have e2 : W ((W ((W (k + 1)) + 1)) + 1) = (W ((W (k + 1)) + 1)) + 1 := wrap_of (by omega) (by omega)
  have e3 : W ((W ((W ((W (k + 1)) + 1)) + 1)) + 1) = (W ((W ((W (k + 1)) + 1)) + 1)) + 1 := wrap_of (by omega) (by omega)
  have e4 : W ((W ((W ((W ((W (k + 1)) + 1)) + 1)) + 1)) + 1) = (W ((W ((W ((W (k + 1)) + 1)) + 1)) + 1)) + 1 := wrap_of (by omega) (by omega)
  omega
theorem l_markKeyS_cnt (a0 : List TKey) (a1 : Int) (h0 : 0 ≤ a1) (h : a1 + (cn a0 : Nat) < 4611686018427387904) : (l_markKeyS a0 a1).2 = a1 + (cn a0 : Nat) := by
  rw [l_markKeyS_eq]
  exact mkL_snd l_markKeyS_c a0 a1 h0 h
theorem l_markKeyS_mk (a0 : List TKey) (a1 : Int) (h0 : 0 ≤ a1) (h : a1 + (cn a0 : Nat) < 4611686018427387904) : a1 ≤ (l_markKeyS a0 a1).2 ∧ (l_markKeyS a0 a1).2 ≤ a1 + (cn a0 : Nat) := by
  have := l_markKeyS_cnt a0 a1 h0 h
  omega
theorem l_markKeyS_g : ∀ (x : TKey) (k : Int) (r : Int → Sum Int Int), 0 ≤ k → k + (cn x : Nat) < 4611686018427387904 → (fun (x : TKey) (k : Int) (r : Int → Sum Int Int) => (bif (x.Number != k) then (.inl (-1)) else (bif (x.Owner != (W (k + 1))) then (.inl (-1)) else (bif (x.Method != (W ((W (k + 1)) + 1))) then (.inl (-1)) else (bif (x.Born != (W ((W ((W (k + 1)) + 1)) + 1))) then (.inl (-1)) else (bif (x.Secret != (W ((W ((W ((W (k + 1)) + 1)) + 1)) + 1))) then (.inl (-1)) else (r (W ((W ((W ((W ((W (k + 1)) + 1)) + 1)) + 1)) + 1))))))))) ((fun (x : TKey) (k : Int) => ((TKey.mk k (W (k + 1)) (W ((W (k + 1)) + 1)) (W ((W ((W (k + 1)) + 1)) + 1)) (W ((W ((W ((W (k + 1)) + 1)) + 1)) + 1))), (W ((W ((W ((W ((W (k + 1)) + 1)) + 1)) + 1)) + 1)))) x k).1 k r = r ((fun (x : TKey) (k : Int) => ((TKey.mk k (W (k + 1)) (W ((W (k + 1)) + 1)) (W ((W ((W (k + 1)) + 1)) + 1)) (W ((W ((W ((W (k + 1)) + 1)) + 1)) + 1))), (W ((W ((W ((W ((W (k + 1)) + 1)) + 1)) + 1)) + 1)))) x k).2 := by
  intro x k r h0 h
  simp only [cn_int, cn_bool, cn_u8, cn_str, TKey.cn_eq] at h
  have e0 : W (k + 1) = k + 1 := wrap_of (by omega) (by omega)
  have e1 : W ((W (k + 1)) + 1) = (W (k + 1)) + 1 := wrap_of (by omega) (by omega)
  have e2 : W ((W ((W (k + 1)) + 1)) + 1) = (W ((W (k + 1)) + 1)) + 1 := wrap_of (by omega) (by omega)
  have e3 : W ((W ((W ((W (k + 1)) + 1)) + 1)) + 1) = (W ((W ((W (k + 1)) + 1)) + 1)) + 1 := wrap_of (by omega) (by omega)
  have e4 : W ((W ((W ((W ((W (k + 1)) + 1)) + 1)) + 1)) + 1) = (W ((W ((W ((W (k + 1)) + 1)) + 1)) + 1)) + 1 := wrap_of (by omega) (by omega)
  simp
theorem l_markKeyS_mh (a0 : List TKey) (a1 : Int) (h0 : 0 ≤ a1) (h : a1 + (cn a0 : Nat) < 4611686018427387904) : a1 ≤ (l_markKeyS a0 a1).2 ∧ (l_markKeyS a0 a1).2 ≤ a1 + (cn a0 : Nat) ∧ l_heldKeyS (l_markKeyS a0 a1).1 a1 = (l_markKeyS a0 a1).2 := by
  rw [l_markKeyS_eq]
  have s := mkL_snd l_markKeyS_c a0 a1 h0 h
  have hh := held_loop (z := (mkL (fun (x : TKey) (k : Int) => ((TKey.mk k (W (k + 1)) (W ((W (k + 1)) + 1)) (W ((W ((W (k + 1)) + 1)) + 1)) (W ((W ((W ((W (k + 1)) + 1)) + 1)) + 1))), (W ((W ((W ((W ((W (k + 1)) + 1)) + 1)) + 1)) + 1)))) a0 a1).1) (H := l_heldKeyS_1 (mkL (fun (x : TKey) (k : Int) => ((TKey.mk k (W (k + 1)) (W ((W (k + 1)) + 1)) (W ((W ((W (k + 1)) + 1)) + 1)) (W ((W ((W ((W (k + 1)) + 1)) + 1)) + 1))), (W ((W ((W ((W ((W (k + 1)) + 1)) + 1)) + 1)) + 1)))) a0 a1).1) (G := (fun (x : TKey) (k : Int) (r : Int → Sum Int Int) => (bif (x.Number != k) then (.inl (-1)) else (bif (x.Owner != (W (k + 1))) then (.inl (-1)) else (bif (x.Method != (W ((W (k + 1)) + 1))) then (.inl (-1)) else (bif (x.Born != (W ((W ((W (k + 1)) + 1)) + 1))) then (.inl (-1)) else (bif (x.Secret != (W ((W ((W ((W (k + 1)) + 1)) + 1)) + 1))) then (.inl (-1)) else (r (W ((W ((W ((W ((W (k + 1)) + 1)) + 1)) + 1)) + 1)))))))))) (fun _ _ _ => rfl) l_markKeyS_c l_markKeyS_g a0 [] ((mkL (fun (x : TKey) (k : Int) => ((TKey.mk k (W (k + 1)) (W ((W (k + 1)) + 1)) (W ((W ((W (k + 1)) + 1)) + 1)) (W ((W ((W ((W (k + 1)) + 1)) + 1)) + 1))), (W ((W ((W ((W ((W (k + 1)) + 1)) + 1)) + 1)) + 1)))) a0 a1).1.length + 1) a1 (by simp) (by rw [mkL_len]; omega) h0 h
  simp only [List.length_nil] at hh
  rw [cn_list] at *
  refine ⟨by omega, by omega, ?_⟩
  unfold l_heldKeyS
  rw [hh]
theorem l_markAuthorityS_eq (a0 : List TAuthority) (a1 : Int) : l_markAuthorityS a0 a1 = mkL (fun (x : TAuthority) (k : Int) => ((TAuthority.mk k (W (k + 1)) (W ((W (k + 1)) + 1))), (W ((W ((W (k + 1)) + 1)) + 1)))) a0 a1 := by
  have h := mark_loop (F := l_markAuthorityS_1) (f := (fun (x : TAuthority) (k : Int) => ((TAuthority.mk k (W (k + 1)) (W ((W (k + 1)) + 1))), (W ((W ((W (k + 1)) + 1)) + 1))))) (fun _ _ _ _ => rfl) a0 [] (a0.length + 1) a1 (by omega)
  unfold l_markAuthorityS
  simp only [List.length_nil, List.nil_append] at h
  rw [h]
@[simp] theorem l_markAuthorityS_len (a0 : List TAuthority) (a1 : Int) : (l_markAuthorityS a0 a1).1.length = a0.length := by rw [l_markAuthorityS_eq, mkL_len]
theorem l_markAuthorityS_c : ∀ (x : TAuthority) (k : Int), 0 ≤ k → k + (cn x : Nat) < 4611686018427387904 → ((fun (x : TAuthority) (k : Int) => ((TAuthority.mk k (W (k + 1)) (W ((W (k + 1)) + 1))), (W ((W ((W (k + 1)) + 1)) + 1)))) x k).2 = k + (cn x : Nat) := by
  intro x k h0 h
  simp only [cn_int, cn_bool, cn_u8, cn_str, TAuthority.cn_eq] at h ⊢
  have e0 : W (k + 1) = k + 1 := wrap_of (by omega) (by omega)
  have e1 : W ((W (k + 1)) + 1) = (W (k + 1)) + 1 := wrap_of (by omega) (by omega)
  have e2 : W ((W ((W (k + 1)) + 1)) + 1) = (W ((W (k + 1)) + 1)) + 1 := wrap_of (by omega) (by omega)
  omega
theorem l_markAuthorityS_cnt (a0 : List TAuthority) (a1 : Int) (h0 : 0 ≤ a1) (h : a1 + (cn a0 : Nat) < 4611686018427387904) : (l_markAuthorityS a0 a1).2 = a1 + (cn a0 : Nat) := by
  rw [l_markAuthorityS_eq]
  exact mkL_snd l_markAuthorityS_c a0 a1 h0 h
theorem l_markAuthorityS_mk (a0 : List TAuthority) (a1 : Int) (h0 : 0 ≤ a1) (h : a1 + (cn a0 : Nat) < 4611686018427387904) : a1 ≤ (l_markAuthorityS a0 a1).2 ∧ (l_markAuthorityS a0 a1).2 ≤ a1 + (cn a0 : Nat) := by
  have := l_markAuthorityS_cnt a0 a1 h0 h
  omega
theorem l_markAuthorityS_g : ∀ (x : TAuthority) (k : Int) (r : Int → Sum Int Int), 0 ≤ k → k + (cn x : Nat) < 4611686018427387904 → (fun (x : TAuthority) (k : Int) (r : Int → Sum Int Int) => (bif (x.Id != k) then (.inl (-1)) else (bif (x.Key != (W (k + 1))) then (.inl (-1)) else (bif (x.Error != (W ((W (k + 1)) + 1))) then (.inl (-1)) else (r (W ((W ((W (k + 1)) + 1)) + 1))))))) ((fun (x : TAuthority) (k : Int) => ((TAuthority.mk k (W (k + 1)) (W ((W (k + 1)) + 1))), (W ((W ((W (k + 1)) + 1)) + 1)))) x k).1 k r = r ((fun (x : TAuthority) (k : Int) => ((TAuthority.mk k (W (k + 1)) (W ((W (k + 1)) + 1))), (W ((W ((W (k + 1)) + 1)) + 1)))) x k).2 := by
  intro x k r h0 h
  simp only [cn_int, cn_bool, cn_u8, cn_str, TAuthority.cn_eq] at h
  have e0 : W (k + 1) = k + 1 := wrap_of (by omega) (by omega)
  have e1 : W ((W (k + 1)) + 1) = (W (k + 1)) + 1 := wrap_of (by omega) (by omega)
  have e2 : W ((W ((W (k + 1)) + 1)) + 1) = (W ((W (k + 1)) + 1)) + 1 := wrap_of (by omega) (by omega)
  simp
theorem l_markAuthorityS_mh (a0 : List TAuthority) (a1 : Int) (h0 : 0 ≤ a1) (h : a1 + (cn a0 : Nat) < 4611686018427387904) : a1 ≤ (l_markAuthorityS a0 a1).2 ∧ (l_markAuthorityS a0 a1).2 ≤ a1 + (cn a0 : Nat) ∧ l_heldAuthorityS (l_markAuthorityS a0 a1).1 a1 = (l_markAuthorityS a0 a1).2 := by
  rw [l_markAuthorityS_eq]
  have s := mkL_snd l_markAuthorityS_c a0 a1 h0 h
  have hh := held_loop (z := (mkL (fun (x : TAuthority) (k : Int) => ((TAuthority.mk k (W (k + 1)) (W ((W (k + 1)) + 1))), (W ((W ((W (k + 1)) + 1)) + 1)))) a0 a1).1) (H := l_heldAuthorityS_1 (mkL (fun (x : TAuthority) (k : Int) => ((TAuthority.mk k (W (k + 1)) (W ((W (k + 1)) + 1))), (W ((W ((W (k + 1)) + 1)) + 1)))) a0 a1).1) (G := (fun (x : TAuthority) (k : Int) (r : Int → Sum Int Int) => (bif (x.Id != k) then (.inl (-1)) else (bif (x.Key != (W (k + 1))) then (.inl (-1)) else (bif (x.Error != (W ((W (k + 1)) + 1))) then (.inl (-1)) else (r (W ((W ((W (k + 1)) + 1)) + 1)))))))) (fun _ _ _ => rfl) l_markAuthorityS_c l_markAuthorityS_g a0 [] ((mkL (fun (x : TAuthority) (k : Int) => ((TAuthority.mk k (W (k + 1)) (W ((W (k + 1)) + 1))), (W ((W ((W (k + 1)) + 1)) + 1)))) a0 a1).1.length + 1) a1 (by simp) (by rw [mkL_len]; omega) h0 h
  simp only [List.length_nil] at hh
  rw [cn_list] at *
  refine ⟨by omega, by omega, ?_⟩
  unfold l_heldAuthorityS
  rw [hh]
theorem l_markMethodS_eq (a0 : List TMethod) (a1 : Int) : l_markMethodS a0 a1 = mkL (fun (x : TMethod) (k : Int) => ((TMethod.mk k (W (k + 1)) (W ((W (k + 1)) + 1)) (W ((W ((W (k + 1)) + 1)) + 1))), (W ((W ((W ((W (k + 1)) + 1)) + 1)) + 1)))) a0 a1 := by
  have h := mark_loop (F := l_markMethodS_1) (f := (fun (x : TMethod) (k : Int) => ((TMethod.mk k (W (k + 1)) (W ((W (k + 1)) + 1)) (W ((W ((W (k + 1)) + 1)) + 1))), (W ((W ((W ((W (k + 1)) + 1)) + 1)) + 1))))) (fun _ _ _ _ => rfl) a0 [] (a0.length + 1) a1 (by omega)
  unfold l_markMethodS
  simp only [List.length_nil, List.nil_append] at h
  rw [h]
@[simp] theorem l_markMethodS_len (a0 : List TMethod) (a1 : Int) : (l_markMethodS a0 a1).1.length = a0.length := by rw [l_markMethodS_eq, mkL_len]
theorem l_markMethodS_c : ∀ (x : TMethod) (k : Int), 0 ≤ k → k + (cn x : Nat) < 4611686018427387904 → ((fun (x : TMethod) (k : Int) => ((TMethod.mk k (W (k + 1)) (W ((W (k + 1)) + 1)) (W ((W ((W (k + 1)) + 1)) + 1))), (W ((W ((W ((W (k + 1)) + 1)) + 1)) + 1)))) x k).2 = k + (cn x : Nat) := by
  intro x k h0 h
  simp only [cn_int, cn_bool, cn_u8, cn_str, TMethod.cn_eq] at h ⊢
  have e0 : W (k + 1) = k + 1 := wrap_of (by omega) (by omega)
  have e1 : W ((W (k + 1)) + 1) = (W (k + 1)) + 1 := wrap_of (by omega) (by omega)
  have e2 : W ((W ((W (k + 1)) + 1)) + 1) = (W ((W (k + 1)) + 1)) + 1 := wrap_of (by omega) (by omega)
  have e3 : W ((W ((W ((W (k + 1)) + 1)) + 1)) + 1) = (W ((W ((W (k + 1)) + 1)) + 1)) + 1 := wrap_of (by omega) (by omega)
  omega
theorem l_markMethodS_cnt (a0 : List TMethod) (a1 : Int) (h0 : 0 ≤ a1) (h : a1 + (cn a0 : Nat) < 4611686018427387904) : (l_markMethodS a0 a1).2 = a1 + (cn a0 : Nat) := by
  rw [l_markMethodS_eq]
  exact mkL_snd l_markMethodS_c a0 a1 h0 h
theorem l_markMethodS_mk (a0 : List TMethod) (a1 : Int) (h0 : 0 ≤ a1) (h : a1 + (cn a0 : Nat) < 4611686018427387904) : a1 ≤ (l_markMethodS a0 a1).2 ∧ (l_markMethodS a0 a1).2 ≤ a1 + (cn a0 : Nat) := by
  have := l_markMethodS_cnt a0 a1 h0 h
  omega
theorem l_markMethodS_g : ∀ (x : TMethod) (k : Int) (r : Int → Sum Int Int), 0 ≤ k → k + (cn x : Nat) < 4611686018427387904 → (fun (x : TMethod) (k : Int) (r : Int → Sum Int Int) => (bif (x.Id != k) then (.inl (-1)) else (bif (x.Known != (W (k + 1))) then (.inl (-1)) else (bif (x.Ends != (W ((W (k + 1)) + 1))) then (.inl (-1)) else (bif (x.Broken != (W ((W ((W (k + 1)) + 1)) + 1))) then (.inl (-1)) else (r (W ((W ((W ((W (k + 1)) + 1)) + 1)) + 1)))))))) ((fun (x : TMethod) (k : Int) => ((TMethod.mk k (W (k + 1)) (W ((W (k + 1)) + 1)) (W ((W ((W (k + 1)) + 1)) + 1))), (W ((W ((W ((W (k + 1)) + 1)) + 1)) + 1)))) x k).1 k r = r ((fun (x : TMethod) (k : Int) => ((TMethod.mk k (W (k + 1)) (W ((W (k + 1)) + 1)) (W ((W ((W (k + 1)) + 1)) + 1))), (W ((W ((W ((W (k + 1)) + 1)) + 1)) + 1)))) x k).2 := by
  intro x k r h0 h
  simp only [cn_int, cn_bool, cn_u8, cn_str, TMethod.cn_eq] at h
  have e0 : W (k + 1) = k + 1 := wrap_of (by omega) (by omega)
  have e1 : W ((W (k + 1)) + 1) = (W (k + 1)) + 1 := wrap_of (by omega) (by omega)
  have e2 : W ((W ((W (k + 1)) + 1)) + 1) = (W ((W (k + 1)) + 1)) + 1 := wrap_of (by omega) (by omega)
  have e3 : W ((W ((W ((W (k + 1)) + 1)) + 1)) + 1) = (W ((W ((W (k + 1)) + 1)) + 1)) + 1 := wrap_of (by omega) (by omega)
  simp
theorem l_markMethodS_mh (a0 : List TMethod) (a1 : Int) (h0 : 0 ≤ a1) (h : a1 + (cn a0 : Nat) < 4611686018427387904) : a1 ≤ (l_markMethodS a0 a1).2 ∧ (l_markMethodS a0 a1).2 ≤ a1 + (cn a0 : Nat) ∧ l_heldMethodS (l_markMethodS a0 a1).1 a1 = (l_markMethodS a0 a1).2 := by
  rw [l_markMethodS_eq]
  have s := mkL_snd l_markMethodS_c a0 a1 h0 h
  have hh := held_loop (z := (mkL (fun (x : TMethod) (k : Int) => ((TMethod.mk k (W (k + 1)) (W ((W (k + 1)) + 1)) (W ((W ((W (k + 1)) + 1)) + 1))), (W ((W ((W ((W (k + 1)) + 1)) + 1)) + 1)))) a0 a1).1) (H := l_heldMethodS_1 (mkL (fun (x : TMethod) (k : Int) => ((TMethod.mk k (W (k + 1)) (W ((W (k + 1)) + 1)) (W ((W ((W (k + 1)) + 1)) + 1))), (W ((W ((W ((W (k + 1)) + 1)) + 1)) + 1)))) a0 a1).1) (G := (fun (x : TMethod) (k : Int) (r : Int → Sum Int Int) => (bif (x.Id != k) then (.inl (-1)) else (bif (x.Known != (W (k + 1))) then (.inl (-1)) else (bif (x.Ends != (W ((W (k + 1)) + 1))) then (.inl (-1)) else (bif (x.Broken != (W ((W ((W (k + 1)) + 1)) + 1))) then (.inl (-1)) else (r (W ((W ((W ((W (k + 1)) + 1)) + 1)) + 1))))))))) (fun _ _ _ => rfl) l_markMethodS_c l_markMethodS_g a0 [] ((mkL (fun (x : TMethod) (k : Int) => ((TMethod.mk k (W (k + 1)) (W ((W (k + 1)) + 1)) (W ((W ((W (k + 1)) + 1)) + 1))), (W ((W ((W ((W (k + 1)) + 1)) + 1)) + 1)))) a0 a1).1.length + 1) a1 (by simp) (by rw [mkL_len]; omega) h0 h
  simp only [List.length_nil] at hh
  rw [cn_list] at *
  refine ⟨by omega, by omega, ?_⟩
  unfold l_heldMethodS
  rw [hh]
@[simp] theorem l_markFrame_Keys_len (a0 : TFrame) (a1 : Int) : (l_markFrame a0 a1).1.Keys.length = a0.Keys.length := by simp [l_markFrame]
@[simp] theorem l_markFrame_Authorities_len (a0 : TFrame) (a1 : Int) : (l_markFrame a0 a1).1.Authorities.length = a0.Authorities.length := by simp [l_markFrame]
@[simp] theorem l_markFrame_Methods_len (a0 : TFrame) (a1 : Int) : (l_markFrame a0 a1).1.Methods.length = a0.Methods.length := by simp [l_markFrame]
@[simp] theorem l_markFrame_Liars (a0 : TFrame) (a1 : Int) : (l_markFrame a0 a1).1.Liars = a0.Liars := rfl
@[simp] theorem l_markFrame_Now (a0 : TFrame) (a1 : Int) : (l_markFrame a0 a1).1.Now = a0.Now := rfl
theorem l_markFrame_mk (a0 : TFrame) (a1 : Int) (h0 : 0 ≤ a1) (h : a1 + (cn a0 : Nat) < 4611686018427387904) : a1 ≤ (l_markFrame a0 a1).2 ∧ (l_markFrame a0 a1).2 ≤ a1 + (cn a0 : Nat) := by
  simp only [cn_int, cn_bool, cn_str, TFrame.cn_eq] at h ⊢
  obtain ⟨m0, n0⟩ := l_markKeyS_mk a0.Keys a1 (by omega) (by omega)
  have q0 := l_markKeyS_cnt a0.Keys a1 (by omega) (by omega)
  have o0 : ¬ (l_markKeyS a0.Keys a1).2 < 0 := by omega
  obtain ⟨m3, n3⟩ := l_markAuthorityS_mk a0.Authorities (l_markKeyS a0.Keys a1).2 (by omega) (by omega)
  have q3 := l_markAuthorityS_cnt a0.Authorities (l_markKeyS a0.Keys a1).2 (by omega) (by omega)
  have o3 : ¬ (l_markAuthorityS a0.Authorities (l_markKeyS a0.Keys a1).2).2 < 0 := by omega
  obtain ⟨m6, n6⟩ := l_markMethodS_mk a0.Methods (l_markAuthorityS a0.Authorities (l_markKeyS a0.Keys a1).2).2 (by omega) (by omega)
  have q6 := l_markMethodS_cnt a0.Methods (l_markAuthorityS a0.Authorities (l_markKeyS a0.Keys a1).2).2 (by omega) (by omega)
  have o6 : ¬ (l_markMethodS a0.Methods (l_markAuthorityS a0.Authorities (l_markKeyS a0.Keys a1).2).2).2 < 0 := by omega
  refine ⟨by simp only [l_markFrame]; omega, by simp only [l_markFrame]; omega⟩
theorem l_markFrame_mh (a0 : TFrame) (a1 : Int) (h0 : 0 ≤ a1) (h : a1 + (cn a0 : Nat) < 4611686018427387904) : a1 ≤ (l_markFrame a0 a1).2 ∧ (l_markFrame a0 a1).2 ≤ a1 + (cn a0 : Nat) ∧ l_heldFrame (l_markFrame a0 a1).1 a1 = (l_markFrame a0 a1).2 := by
  simp only [cn_int, cn_bool, cn_str, TFrame.cn_eq] at h ⊢
  obtain ⟨m0, n0, h0⟩ := l_markKeyS_mh a0.Keys a1 (by omega) (by omega)
  have q0 := l_markKeyS_cnt a0.Keys a1 (by omega) (by omega)
  have o0 : ¬ (l_markKeyS a0.Keys a1).2 < 0 := by omega
  obtain ⟨m3, n3, h3⟩ := l_markAuthorityS_mh a0.Authorities (l_markKeyS a0.Keys a1).2 (by omega) (by omega)
  have q3 := l_markAuthorityS_cnt a0.Authorities (l_markKeyS a0.Keys a1).2 (by omega) (by omega)
  have o3 : ¬ (l_markAuthorityS a0.Authorities (l_markKeyS a0.Keys a1).2).2 < 0 := by omega
  obtain ⟨m6, n6, h6⟩ := l_markMethodS_mh a0.Methods (l_markAuthorityS a0.Authorities (l_markKeyS a0.Keys a1).2).2 (by omega) (by omega)
  have q6 := l_markMethodS_cnt a0.Methods (l_markAuthorityS a0.Authorities (l_markKeyS a0.Keys a1).2).2 (by omega) (by omega)
  have o6 : ¬ (l_markMethodS a0.Methods (l_markAuthorityS a0.Authorities (l_markKeyS a0.Keys a1).2).2).2 < 0 := by omega
  refine ⟨by simp only [l_markFrame]; omega, by simp only [l_markFrame]; omega, ?_⟩
  simp [l_markFrame, l_heldFrame, h0, h3, h6, o0, o3, o6]
theorem l_markCertS_eq (a0 : List TCert) (a1 : Int) : l_markCertS a0 a1 = mkL (fun (x : TCert) (k : Int) => ((TCert.mk k (W (k + 1)) (W ((W (k + 1)) + 1)) (W ((W ((W (k + 1)) + 1)) + 1)) (W ((W ((W ((W (k + 1)) + 1)) + 1)) + 1)) (W ((W ((W ((W ((W (k + 1)) + 1)) + 1)) + 1)) + 1)) (W ((W ((W ((W ((W ((W (k + 1)) + 1)) + 1)) + 1)) + 1)) + 1))), (W ((W ((W ((W ((W ((W ((W (k + 1)) + 1)) + 1)) + 1)) + 1)) + 1)) + 1)))) a0 a1 := by
  have h := mark_loop (F := l_markCertS_1) (f := (fun (x : TCert) (k : Int) => ((TCert.mk k (W (k + 1)) (W ((W (k + 1)) + 1)) (W ((W ((W (k + 1)) + 1)) + 1)) (W ((W ((W ((W (k + 1)) + 1)) + 1)) + 1)) (W ((W ((W ((W ((W (k + 1)) + 1)) + 1)) + 1)) + 1)) (W ((W ((W ((W ((W ((W (k + 1)) + 1)) + 1)) + 1)) + 1)) + 1))), (W ((W ((W ((W ((W ((W ((W (k + 1)) + 1)) + 1)) + 1)) + 1)) + 1)) + 1))))) (fun _ _ _ _ => rfl) a0 [] (a0.length + 1) a1 (by omega)
  unfold l_markCertS
  simp only [List.length_nil, List.nil_append] at h
  rw [h]
@[simp] theorem l_markCertS_len (a0 : List TCert) (a1 : Int) : (l_markCertS a0 a1).1.length = a0.length := by rw [l_markCertS_eq, mkL_len]
theorem l_markCertS_c : ∀ (x : TCert) (k : Int), 0 ≤ k → k + (cn x : Nat) < 4611686018427387904 → ((fun (x : TCert) (k : Int) => ((TCert.mk k (W (k + 1)) (W ((W (k + 1)) + 1)) (W ((W ((W (k + 1)) + 1)) + 1)) (W ((W ((W ((W (k + 1)) + 1)) + 1)) + 1)) (W ((W ((W ((W ((W (k + 1)) + 1)) + 1)) + 1)) + 1)) (W ((W ((W ((W ((W ((W (k + 1)) + 1)) + 1)) + 1)) + 1)) + 1))), (W ((W ((W ((W ((W ((W ((W (k + 1)) + 1)) + 1)) + 1)) + 1)) + 1)) + 1)))) x k).2 = k + (cn x : Nat) := by
  intro x k h0 h
  simp only [cn_int, cn_bool, cn_u8, cn_str, TCert.cn_eq] at h ⊢
  have e0 : W (k + 1) = k + 1 := wrap_of (by omega) (by omega)
  have e1 : W ((W (k + 1)) + 1) = (W (k + 1)) + 1 := wrap_of (by omega) (by omega)
  have e2 : W ((W ((W (k + 1)) + 1)) + 1) = (W ((W (k + 1)) + 1)) + 1 := wrap_of (by omega) (by omega)
  have e3 : W ((W ((W ((W (k + 1)) + 1)) + 1)) + 1) = (W ((W ((W (k + 1)) + 1)) + 1)) + 1 := wrap_of (by omega) (by omega)
  have e4 : W ((W ((W ((W ((W (k + 1)) + 1)) + 1)) + 1)) + 1) = (W ((W ((W ((W (k + 1)) + 1)) + 1)) + 1)) + 1 := wrap_of (by omega) (by omega)
  have e5 : W ((W ((W ((W ((W ((W (k + 1)) + 1)) + 1)) + 1)) + 1)) + 1) = (W ((W ((W ((W ((W (k + 1)) + 1)) + 1)) + 1)) + 1)) + 1 := wrap_of (by omega) (by omega)
  have e6 : W ((W ((W ((W ((W ((W ((W (k + 1)) + 1)) + 1)) + 1)) + 1)) + 1)) + 1) = (W ((W ((W ((W ((W ((W (k + 1)) + 1)) + 1)) + 1)) + 1)) + 1)) + 1 := wrap_of (by omega) (by omega)
  omega
theorem l_markCertS_cnt (a0 : List TCert) (a1 : Int) (h0 : 0 ≤ a1) (h : a1 + (cn a0 : Nat) < 4611686018427387904) : (l_markCertS a0 a1).2 = a1 + (cn a0 : Nat) := by
  rw [l_markCertS_eq]
  exact mkL_snd l_markCertS_c a0 a1 h0 h
theorem l_markCertS_mk (a0 : List TCert) (a1 : Int) (h0 : 0 ≤ a1) (h : a1 + (cn a0 : Nat) < 4611686018427387904) : a1 ≤ (l_markCertS a0 a1).2 ∧ (l_markCertS a0 a1).2 ≤ a1 + (cn a0 : Nat) := by
  have := l_markCertS_cnt a0 a1 h0 h
  omega
theorem l_markCertS_g : ∀ (x : TCert) (k : Int) (r : Int → Sum Int Int), 0 ≤ k → k + (cn x : Nat) < 4611686018427387904 → (fun (x : TCert) (k : Int) (r : Int → Sum Int Int) => (bif (x.Serial != k) then (.inl (-1)) else (bif (x.Key != (W (k + 1))) then (.inl (-1)) else (bif (x.Owner != (W ((W (k + 1)) + 1))) then (.inl (-1)) else (bif (x.From != (W ((W ((W (k + 1)) + 1)) + 1))) then (.inl (-1)) else (bif (x.To != (W ((W ((W ((W (k + 1)) + 1)) + 1)) + 1))) then (.inl (-1)) else (bif (x.Issuer != (W ((W ((W ((W ((W (k + 1)) + 1)) + 1)) + 1)) + 1))) then (.inl (-1)) else (bif (x.Mark != (W ((W ((W ((W ((W ((W (k + 1)) + 1)) + 1)) + 1)) + 1)) + 1))) then (.inl (-1)) else (r (W ((W ((W ((W ((W ((W ((W (k + 1)) + 1)) + 1)) + 1)) + 1)) + 1)) + 1))))))))))) ((fun (x : TCert) (k : Int) => ((TCert.mk k (W (k + 1)) (W ((W (k + 1)) + 1)) (W ((W ((W (k + 1)) + 1)) + 1)) (W ((W ((W ((W (k + 1)) + 1)) + 1)) + 1)) (W ((W ((W ((W ((W (k + 1)) + 1)) + 1)) + 1)) + 1)) (W ((W ((W ((W ((W ((W (k + 1)) + 1)) + 1)) + 1)) + 1)) + 1))), (W ((W ((W ((W ((W ((W ((W (k + 1)) + 1)) + 1)) + 1)) + 1)) + 1)) + 1)))) x k).1 k r = r ((fun (x : TCert) (k : Int) => ((TCert.mk k (W (k + 1)) (W ((W (k + 1)) + 1)) (W ((W ((W (k + 1)) + 1)) + 1)) (W ((W ((W ((W (k + 1)) + 1)) + 1)) + 1)) (W ((W ((W ((W ((W (k + 1)) + 1)) + 1)) + 1)) + 1)) (W ((W ((W ((W ((W ((W (k + 1)) + 1)) + 1)) + 1)) + 1)) + 1))), (W ((W ((W ((W ((W ((W ((W (k + 1)) + 1)) + 1)) + 1)) + 1)) + 1)) + 1)))) x k).2 := by
  intro x k r h0 h
  simp only [cn_int, cn_bool, cn_u8, cn_str, TCert.cn_eq] at h
  have e0 : W (k + 1) = k + 1 := wrap_of (by omega) (by omega)
  have e1 : W ((W (k + 1)) + 1) = (W (k + 1)) + 1 := wrap_of (by omega) (by omega)
  have e2 : W ((W ((W (k + 1)) + 1)) + 1) = (W ((W (k + 1)) + 1)) + 1 := wrap_of (by omega) (by omega)
  have e3 : W ((W ((W ((W (k + 1)) + 1)) + 1)) + 1) = (W ((W ((W (k + 1)) + 1)) + 1)) + 1 := wrap_of (by omega) (by omega)
  have e4 : W ((W ((W ((W ((W (k + 1)) + 1)) + 1)) + 1)) + 1) = (W ((W ((W ((W (k + 1)) + 1)) + 1)) + 1)) + 1 := wrap_of (by omega) (by omega)
  have e5 : W ((W ((W ((W ((W ((W (k + 1)) + 1)) + 1)) + 1)) + 1)) + 1) = (W ((W ((W ((W ((W (k + 1)) + 1)) + 1)) + 1)) + 1)) + 1 := wrap_of (by omega) (by omega)
  have e6 : W ((W ((W ((W ((W ((W ((W (k + 1)) + 1)) + 1)) + 1)) + 1)) + 1)) + 1) = (W ((W ((W ((W ((W ((W (k + 1)) + 1)) + 1)) + 1)) + 1)) + 1)) + 1 := wrap_of (by omega) (by omega)
  simp
theorem l_markCertS_mh (a0 : List TCert) (a1 : Int) (h0 : 0 ≤ a1) (h : a1 + (cn a0 : Nat) < 4611686018427387904) : a1 ≤ (l_markCertS a0 a1).2 ∧ (l_markCertS a0 a1).2 ≤ a1 + (cn a0 : Nat) ∧ l_heldCertS (l_markCertS a0 a1).1 a1 = (l_markCertS a0 a1).2 := by
  rw [l_markCertS_eq]
  have s := mkL_snd l_markCertS_c a0 a1 h0 h
  have hh := held_loop (z := (mkL (fun (x : TCert) (k : Int) => ((TCert.mk k (W (k + 1)) (W ((W (k + 1)) + 1)) (W ((W ((W (k + 1)) + 1)) + 1)) (W ((W ((W ((W (k + 1)) + 1)) + 1)) + 1)) (W ((W ((W ((W ((W (k + 1)) + 1)) + 1)) + 1)) + 1)) (W ((W ((W ((W ((W ((W (k + 1)) + 1)) + 1)) + 1)) + 1)) + 1))), (W ((W ((W ((W ((W ((W ((W (k + 1)) + 1)) + 1)) + 1)) + 1)) + 1)) + 1)))) a0 a1).1) (H := l_heldCertS_1 (mkL (fun (x : TCert) (k : Int) => ((TCert.mk k (W (k + 1)) (W ((W (k + 1)) + 1)) (W ((W ((W (k + 1)) + 1)) + 1)) (W ((W ((W ((W (k + 1)) + 1)) + 1)) + 1)) (W ((W ((W ((W ((W (k + 1)) + 1)) + 1)) + 1)) + 1)) (W ((W ((W ((W ((W ((W (k + 1)) + 1)) + 1)) + 1)) + 1)) + 1))), (W ((W ((W ((W ((W ((W ((W (k + 1)) + 1)) + 1)) + 1)) + 1)) + 1)) + 1)))) a0 a1).1) (G := (fun (x : TCert) (k : Int) (r : Int → Sum Int Int) => (bif (x.Serial != k) then (.inl (-1)) else (bif (x.Key != (W (k + 1))) then (.inl (-1)) else (bif (x.Owner != (W ((W (k + 1)) + 1))) then (.inl (-1)) else (bif (x.From != (W ((W ((W (k + 1)) + 1)) + 1))) then (.inl (-1)) else (bif (x.To != (W ((W ((W ((W (k + 1)) + 1)) + 1)) + 1))) then (.inl (-1)) else (bif (x.Issuer != (W ((W ((W ((W ((W (k + 1)) + 1)) + 1)) + 1)) + 1))) then (.inl (-1)) else (bif (x.Mark != (W ((W ((W ((W ((W ((W (k + 1)) + 1)) + 1)) + 1)) + 1)) + 1))) then (.inl (-1)) else (r (W ((W ((W ((W ((W ((W ((W (k + 1)) + 1)) + 1)) + 1)) + 1)) + 1)) + 1)))))))))))) (fun _ _ _ => rfl) l_markCertS_c l_markCertS_g a0 [] ((mkL (fun (x : TCert) (k : Int) => ((TCert.mk k (W (k + 1)) (W ((W (k + 1)) + 1)) (W ((W ((W (k + 1)) + 1)) + 1)) (W ((W ((W ((W (k + 1)) + 1)) + 1)) + 1)) (W ((W ((W ((W ((W (k + 1)) + 1)) + 1)) + 1)) + 1)) (W ((W ((W ((W ((W ((W (k + 1)) + 1)) + 1)) + 1)) + 1)) + 1))), (W ((W ((W ((W ((W ((W ((W (k + 1)) + 1)) + 1)) + 1)) + 1)) + 1)) + 1)))) a0 a1).1.length + 1) a1 (by simp) (by rw [mkL_len]; omega) h0 h
  simp only [List.length_nil] at hh
  rw [cn_list] at *
  refine ⟨by omega, by omega, ?_⟩
  unfold l_heldCertS
  rw [hh]
theorem l_markIntS_eq (a0 : List Int) (a1 : Int) : l_markIntS a0 a1 = mkL (fun (x : Int) (k : Int) => (k, (W (k + 1)))) a0 a1 := by
  have h := mark_loop (F := l_markIntS_1) (f := (fun (x : Int) (k : Int) => (k, (W (k + 1))))) (fun _ _ _ _ => rfl) a0 [] (a0.length + 1) a1 (by omega)
  unfold l_markIntS
  simp only [List.length_nil, List.nil_append] at h
  rw [h]
@[simp] theorem l_markIntS_len (a0 : List Int) (a1 : Int) : (l_markIntS a0 a1).1.length = a0.length := by rw [l_markIntS_eq, mkL_len]
theorem l_markIntS_c : ∀ (x : Int) (k : Int), 0 ≤ k → k + (cn x : Nat) < 4611686018427387904 → ((fun (x : Int) (k : Int) => (k, (W (k + 1)))) x k).2 = k + (cn x : Nat) := by
  intro x k h0 h
  simp only [cn_int, cn_bool, cn_u8, cn_str] at h ⊢
  have e0 : W (k + 1) = k + 1 := wrap_of (by omega) (by omega)
  omega
theorem l_markIntS_cnt (a0 : List Int) (a1 : Int) (h0 : 0 ≤ a1) (h : a1 + (cn a0 : Nat) < 4611686018427387904) : (l_markIntS a0 a1).2 = a1 + (cn a0 : Nat) := by
  rw [l_markIntS_eq]
  exact mkL_snd l_markIntS_c a0 a1 h0 h
theorem l_markIntS_mk (a0 : List Int) (a1 : Int) (h0 : 0 ≤ a1) (h : a1 + (cn a0 : Nat) < 4611686018427387904) : a1 ≤ (l_markIntS a0 a1).2 ∧ (l_markIntS a0 a1).2 ≤ a1 + (cn a0 : Nat) := by
  have := l_markIntS_cnt a0 a1 h0 h
  omega
theorem l_markIntS_g : ∀ (x : Int) (k : Int) (r : Int → Sum Int Int), 0 ≤ k → k + (cn x : Nat) < 4611686018427387904 → (fun (x : Int) (k : Int) (r : Int → Sum Int Int) => (bif (x != k) then (.inl (-1)) else (r (W (k + 1))))) ((fun (x : Int) (k : Int) => (k, (W (k + 1)))) x k).1 k r = r ((fun (x : Int) (k : Int) => (k, (W (k + 1)))) x k).2 := by
  intro x k r h0 h
  simp only [cn_int, cn_bool, cn_u8, cn_str] at h
  have e0 : W (k + 1) = k + 1 := wrap_of (by omega) (by omega)
  simp
theorem l_markIntS_mh (a0 : List Int) (a1 : Int) (h0 : 0 ≤ a1) (h : a1 + (cn a0 : Nat) < 4611686018427387904) : a1 ≤ (l_markIntS a0 a1).2 ∧ (l_markIntS a0 a1).2 ≤ a1 + (cn a0 : Nat) ∧ l_heldIntS (l_markIntS a0 a1).1 a1 = (l_markIntS a0 a1).2 := by
  rw [l_markIntS_eq]
  have s := mkL_snd l_markIntS_c a0 a1 h0 h
  have hh := held_loop (z := (mkL (fun (x : Int) (k : Int) => (k, (W (k + 1)))) a0 a1).1) (H := l_heldIntS_1 (mkL (fun (x : Int) (k : Int) => (k, (W (k + 1)))) a0 a1).1) (G := (fun (x : Int) (k : Int) (r : Int → Sum Int Int) => (bif (x != k) then (.inl (-1)) else (r (W (k + 1)))))) (fun _ _ _ => rfl) l_markIntS_c l_markIntS_g a0 [] ((mkL (fun (x : Int) (k : Int) => (k, (W (k + 1)))) a0 a1).1.length + 1) a1 (by simp) (by rw [mkL_len]; omega) h0 h
  simp only [List.length_nil] at hh
  rw [cn_list] at *
  refine ⟨by omega, by omega, ?_⟩
  unfold l_heldIntS
  rw [hh]
theorem l_markStringS_eq (a0 : List ByteArray) (a1 : Int) : l_markStringS a0 a1 = mkL (fun (x : ByteArray) (k : Int) => ((l_markText k), (W (k + 1)))) a0 a1 := by
  have h := mark_loop (F := l_markStringS_1) (f := (fun (x : ByteArray) (k : Int) => ((l_markText k), (W (k + 1))))) (fun _ _ _ _ => rfl) a0 [] (a0.length + 1) a1 (by omega)
  unfold l_markStringS
  simp only [List.length_nil, List.nil_append] at h
  rw [h]
@[simp] theorem l_markStringS_len (a0 : List ByteArray) (a1 : Int) : (l_markStringS a0 a1).1.length = a0.length := by rw [l_markStringS_eq, mkL_len]
theorem l_markStringS_c : ∀ (x : ByteArray) (k : Int), 0 ≤ k → k + (cn x : Nat) < 4611686018427387904 → ((fun (x : ByteArray) (k : Int) => ((l_markText k), (W (k + 1)))) x k).2 = k + (cn x : Nat) := by
  intro x k h0 h
  simp only [cn_int, cn_bool, cn_u8, cn_str] at h ⊢
  have e0 : W (k + 1) = k + 1 := wrap_of (by omega) (by omega)
  omega
theorem l_markStringS_cnt (a0 : List ByteArray) (a1 : Int) (h0 : 0 ≤ a1) (h : a1 + (cn a0 : Nat) < 4611686018427387904) : (l_markStringS a0 a1).2 = a1 + (cn a0 : Nat) := by
  rw [l_markStringS_eq]
  exact mkL_snd l_markStringS_c a0 a1 h0 h
theorem l_markStringS_mk (a0 : List ByteArray) (a1 : Int) (h0 : 0 ≤ a1) (h : a1 + (cn a0 : Nat) < 4611686018427387904) : a1 ≤ (l_markStringS a0 a1).2 ∧ (l_markStringS a0 a1).2 ≤ a1 + (cn a0 : Nat) := by
  have := l_markStringS_cnt a0 a1 h0 h
  omega
theorem l_markStringS_g : ∀ (x : ByteArray) (k : Int) (r : Int → Sum Int Int), 0 ≤ k → k + (cn x : Nat) < 4611686018427387904 → (fun (x : ByteArray) (k : Int) (r : Int → Sum Int Int) => (bif (!decide (x = (l_markText k))) then (.inl (-1)) else (r (W (k + 1))))) ((fun (x : ByteArray) (k : Int) => ((l_markText k), (W (k + 1)))) x k).1 k r = r ((fun (x : ByteArray) (k : Int) => ((l_markText k), (W (k + 1)))) x k).2 := by
  intro x k r h0 h
  simp only [cn_int, cn_bool, cn_u8, cn_str] at h
  have e0 : W (k + 1) = k + 1 := wrap_of (by omega) (by omega)
  simp
theorem l_markStringS_mh (a0 : List ByteArray) (a1 : Int) (h0 : 0 ≤ a1) (h : a1 + (cn a0 : Nat) < 4611686018427387904) : a1 ≤ (l_markStringS a0 a1).2 ∧ (l_markStringS a0 a1).2 ≤ a1 + (cn a0 : Nat) ∧ l_heldStringS (l_markStringS a0 a1).1 a1 = (l_markStringS a0 a1).2 := by
  rw [l_markStringS_eq]
  have s := mkL_snd l_markStringS_c a0 a1 h0 h
  have hh := held_loop (z := (mkL (fun (x : ByteArray) (k : Int) => ((l_markText k), (W (k + 1)))) a0 a1).1) (H := l_heldStringS_1 (mkL (fun (x : ByteArray) (k : Int) => ((l_markText k), (W (k + 1)))) a0 a1).1) (G := (fun (x : ByteArray) (k : Int) (r : Int → Sum Int Int) => (bif (!decide (x = (l_markText k))) then (.inl (-1)) else (r (W (k + 1)))))) (fun _ _ _ => rfl) l_markStringS_c l_markStringS_g a0 [] ((mkL (fun (x : ByteArray) (k : Int) => ((l_markText k), (W (k + 1)))) a0 a1).1.length + 1) a1 (by simp) (by rw [mkL_len]; omega) h0 h
  simp only [List.length_nil] at hh
  rw [cn_list] at *
  refine ⟨by omega, by omega, ?_⟩
  unfold l_heldStringS
  rw [hh]
theorem l_markPieceS_eq (a0 : List TPiece) (a1 : Int) : l_markPieceS a0 a1 = mkL (fun (x : TPiece) (k : Int) => ((TPiece.mk k (l_markIntS x.Ints (W (k + 1))).1 (l_markIntS x.Ints (W (k + 1))).2), (W ((l_markIntS x.Ints (W (k + 1))).2 + 1)))) a0 a1 := by
  have h := mark_loop (F := l_markPieceS_1) (f := (fun (x : TPiece) (k : Int) => ((TPiece.mk k (l_markIntS x.Ints (W (k + 1))).1 (l_markIntS x.Ints (W (k + 1))).2), (W ((l_markIntS x.Ints (W (k + 1))).2 + 1))))) (fun _ _ _ _ => rfl) a0 [] (a0.length + 1) a1 (by omega)
  unfold l_markPieceS
  simp only [List.length_nil, List.nil_append] at h
  rw [h]
@[simp] theorem l_markPieceS_len (a0 : List TPiece) (a1 : Int) : (l_markPieceS a0 a1).1.length = a0.length := by rw [l_markPieceS_eq, mkL_len]
theorem l_markPieceS_c : ∀ (x : TPiece) (k : Int), 0 ≤ k → k + (cn x : Nat) < 4611686018427387904 → ((fun (x : TPiece) (k : Int) => ((TPiece.mk k (l_markIntS x.Ints (W (k + 1))).1 (l_markIntS x.Ints (W (k + 1))).2), (W ((l_markIntS x.Ints (W (k + 1))).2 + 1)))) x k).2 = k + (cn x : Nat) := by
  intro x k h0 h
  simp only [cn_int, cn_bool, cn_u8, cn_str, TPiece.cn_eq] at h ⊢
  have e0 : W (k + 1) = k + 1 := wrap_of (by omega) (by omega)
  obtain ⟨m1, n1⟩ := l_markIntS_mk x.Ints (W (k + 1)) (by omega) (by omega)
  have q1 := l_markIntS_cnt x.Ints (W (k + 1)) (by omega) (by omega)
  have o1 : ¬ (l_markIntS x.Ints (W (k + 1))).2 < 0 := by omega
  have e4 : W ((l_markIntS x.Ints (W (k + 1))).2 + 1) = (l_markIntS x.Ints (W (k + 1))).2 + 1 := wrap_of (by omega) (by omega)
  omega
theorem l_markPieceS_cnt (a0 : List TPiece) (a1 : Int) (h0 : 0 ≤ a1) (h : a1 + (cn a0 : Nat) < 4611686018427387904) : (l_markPieceS a0 a1).2 = a1 + (cn a0 : Nat) := by
  rw [l_markPieceS_eq]
  exact mkL_snd l_markPieceS_c a0 a1 h0 h
theorem l_markPieceS_mk (a0 : List TPiece) (a1 : Int) (h0 : 0 ≤ a1) (h : a1 + (cn a0 : Nat) < 4611686018427387904) : a1 ≤ (l_markPieceS a0 a1).2 ∧ (l_markPieceS a0 a1).2 ≤ a1 + (cn a0 : Nat) := by
  have := l_markPieceS_cnt a0 a1 h0 h
  omega
theorem l_markPieceS_g : ∀ (x : TPiece) (k : Int) (r : Int → Sum Int Int), 0 ≤ k → k + (cn x : Nat) < 4611686018427387904 → (fun (x : TPiece) (k : Int) (r : Int → Sum Int Int) => (bif (x.Key != k) then (.inl (-1)) else (bif (decide ((l_heldIntS x.Ints (W (k + 1))) < 0)) then (.inl (-1)) else (bif (x.Mark != (l_heldIntS x.Ints (W (k + 1)))) then (.inl (-1)) else (r (W ((l_heldIntS x.Ints (W (k + 1))) + 1))))))) ((fun (x : TPiece) (k : Int) => ((TPiece.mk k (l_markIntS x.Ints (W (k + 1))).1 (l_markIntS x.Ints (W (k + 1))).2), (W ((l_markIntS x.Ints (W (k + 1))).2 + 1)))) x k).1 k r = r ((fun (x : TPiece) (k : Int) => ((TPiece.mk k (l_markIntS x.Ints (W (k + 1))).1 (l_markIntS x.Ints (W (k + 1))).2), (W ((l_markIntS x.Ints (W (k + 1))).2 + 1)))) x k).2 := by
  intro x k r h0 h
  simp only [cn_int, cn_bool, cn_u8, cn_str, TPiece.cn_eq] at h
  have e0 : W (k + 1) = k + 1 := wrap_of (by omega) (by omega)
  obtain ⟨m1, n1, h1⟩ := l_markIntS_mh x.Ints (W (k + 1)) (by omega) (by omega)
  have q1 := l_markIntS_cnt x.Ints (W (k + 1)) (by omega) (by omega)
  have o1 : ¬ (l_markIntS x.Ints (W (k + 1))).2 < 0 := by omega
  have e4 : W ((l_markIntS x.Ints (W (k + 1))).2 + 1) = (l_markIntS x.Ints (W (k + 1))).2 + 1 := wrap_of (by omega) (by omega)
  simp [h1, o1]
theorem l_markPieceS_mh (a0 : List TPiece) (a1 : Int) (h0 : 0 ≤ a1) (h : a1 + (cn a0 : Nat) < 4611686018427387904) : a1 ≤ (l_markPieceS a0 a1).2 ∧ (l_markPieceS a0 a1).2 ≤ a1 + (cn a0 : Nat) ∧ l_heldPieceS (l_markPieceS a0 a1).1 a1 = (l_markPieceS a0 a1).2 := by
  rw [l_markPieceS_eq]
  have s := mkL_snd l_markPieceS_c a0 a1 h0 h
  have hh := held_loop (z := (mkL (fun (x : TPiece) (k : Int) => ((TPiece.mk k (l_markIntS x.Ints (W (k + 1))).1 (l_markIntS x.Ints (W (k + 1))).2), (W ((l_markIntS x.Ints (W (k + 1))).2 + 1)))) a0 a1).1) (H := l_heldPieceS_1 (mkL (fun (x : TPiece) (k : Int) => ((TPiece.mk k (l_markIntS x.Ints (W (k + 1))).1 (l_markIntS x.Ints (W (k + 1))).2), (W ((l_markIntS x.Ints (W (k + 1))).2 + 1)))) a0 a1).1) (G := (fun (x : TPiece) (k : Int) (r : Int → Sum Int Int) => (bif (x.Key != k) then (.inl (-1)) else (bif (decide ((l_heldIntS x.Ints (W (k + 1))) < 0)) then (.inl (-1)) else (bif (x.Mark != (l_heldIntS x.Ints (W (k + 1)))) then (.inl (-1)) else (r (W ((l_heldIntS x.Ints (W (k + 1))) + 1)))))))) (fun _ _ _ => rfl) l_markPieceS_c l_markPieceS_g a0 [] ((mkL (fun (x : TPiece) (k : Int) => ((TPiece.mk k (l_markIntS x.Ints (W (k + 1))).1 (l_markIntS x.Ints (W (k + 1))).2), (W ((l_markIntS x.Ints (W (k + 1))).2 + 1)))) a0 a1).1.length + 1) a1 (by simp) (by rw [mkL_len]; omega) h0 h
  simp only [List.length_nil] at hh
  rw [cn_list] at *
  refine ⟨by omega, by omega, ?_⟩
  unfold l_heldPieceS
  rw [hh]
theorem l_markStepS_eq (a0 : List TStep) (a1 : Int) : l_markStepS a0 a1 = mkL (fun (x : TStep) (k : Int) => ((TStep.mk k ((Int.tmod (W (k + 1)) 3) == 0)), (W ((W (k + 1)) + 1)))) a0 a1 := by
  have h := mark_loop (F := l_markStepS_1) (f := (fun (x : TStep) (k : Int) => ((TStep.mk k ((Int.tmod (W (k + 1)) 3) == 0)), (W ((W (k + 1)) + 1))))) (fun _ _ _ _ => rfl) a0 [] (a0.length + 1) a1 (by omega)
  unfold l_markStepS
  simp only [List.length_nil, List.nil_append] at h
  rw [h]
@[simp] theorem l_markStepS_len (a0 : List TStep) (a1 : Int) : (l_markStepS a0 a1).1.length = a0.length := by rw [l_markStepS_eq, mkL_len]
theorem l_markStepS_c : ∀ (x : TStep) (k : Int), 0 ≤ k → k + (cn x : Nat) < 4611686018427387904 → ((fun (x : TStep) (k : Int) => ((TStep.mk k ((Int.tmod (W (k + 1)) 3) == 0)), (W ((W (k + 1)) + 1)))) x k).2 = k + (cn x : Nat) := by
  intro x k h0 h
  simp only [cn_int, cn_bool, cn_u8, cn_str, TStep.cn_eq] at h ⊢
  have e0 : W (k + 1) = k + 1 := wrap_of (by omega) (by omega)
  have e1 : W ((W (k + 1)) + 1) = (W (k + 1)) + 1 := wrap_of (by omega) (by omega)
  omega
theorem l_markStepS_cnt (a0 : List TStep) (a1 : Int) (h0 : 0 ≤ a1) (h : a1 + (cn a0 : Nat) < 4611686018427387904) : (l_markStepS a0 a1).2 = a1 + (cn a0 : Nat) := by
  rw [l_markStepS_eq]
  exact mkL_snd l_markStepS_c a0 a1 h0 h
theorem l_markStepS_mk (a0 : List TStep) (a1 : Int) (h0 : 0 ≤ a1) (h : a1 + (cn a0 : Nat) < 4611686018427387904) : a1 ≤ (l_markStepS a0 a1).2 ∧ (l_markStepS a0 a1).2 ≤ a1 + (cn a0 : Nat) := by
  have := l_markStepS_cnt a0 a1 h0 h
  omega
theorem l_markStepS_g : ∀ (x : TStep) (k : Int) (r : Int → Sum Int Int), 0 ≤ k → k + (cn x : Nat) < 4611686018427387904 → (fun (x : TStep) (k : Int) (r : Int → Sum Int Int) => (bif (x.Digest != k) then (.inl (-1)) else (bif (!(x.Left == ((Int.tmod (W (k + 1)) 3) == 0))) then (.inl (-1)) else (r (W ((W (k + 1)) + 1)))))) ((fun (x : TStep) (k : Int) => ((TStep.mk k ((Int.tmod (W (k + 1)) 3) == 0)), (W ((W (k + 1)) + 1)))) x k).1 k r = r ((fun (x : TStep) (k : Int) => ((TStep.mk k ((Int.tmod (W (k + 1)) 3) == 0)), (W ((W (k + 1)) + 1)))) x k).2 := by
  intro x k r h0 h
  simp only [cn_int, cn_bool, cn_u8, cn_str, TStep.cn_eq] at h
  have e0 : W (k + 1) = k + 1 := wrap_of (by omega) (by omega)
  have e1 : W ((W (k + 1)) + 1) = (W (k + 1)) + 1 := wrap_of (by omega) (by omega)
  simp
theorem l_markStepS_mh (a0 : List TStep) (a1 : Int) (h0 : 0 ≤ a1) (h : a1 + (cn a0 : Nat) < 4611686018427387904) : a1 ≤ (l_markStepS a0 a1).2 ∧ (l_markStepS a0 a1).2 ≤ a1 + (cn a0 : Nat) ∧ l_heldStepS (l_markStepS a0 a1).1 a1 = (l_markStepS a0 a1).2 := by
  rw [l_markStepS_eq]
  have s := mkL_snd l_markStepS_c a0 a1 h0 h
  have hh := held_loop (z := (mkL (fun (x : TStep) (k : Int) => ((TStep.mk k ((Int.tmod (W (k + 1)) 3) == 0)), (W ((W (k + 1)) + 1)))) a0 a1).1) (H := l_heldStepS_1 (mkL (fun (x : TStep) (k : Int) => ((TStep.mk k ((Int.tmod (W (k + 1)) 3) == 0)), (W ((W (k + 1)) + 1)))) a0 a1).1) (G := (fun (x : TStep) (k : Int) (r : Int → Sum Int Int) => (bif (x.Digest != k) then (.inl (-1)) else (bif (!(x.Left == ((Int.tmod (W (k + 1)) 3) == 0))) then (.inl (-1)) else (r (W ((W (k + 1)) + 1))))))) (fun _ _ _ => rfl) l_markStepS_c l_markStepS_g a0 [] ((mkL (fun (x : TStep) (k : Int) => ((TStep.mk k ((Int.tmod (W (k + 1)) 3) == 0)), (W ((W (k + 1)) + 1)))) a0 a1).1.length + 1) a1 (by simp) (by rw [mkL_len]; omega) h0 h
  simp only [List.length_nil] at hh
  rw [cn_list] at *
  refine ⟨by omega, by omega, ?_⟩
  unfold l_heldStepS
  rw [hh]
theorem l_markStampS_eq (a0 : List TStamp) (a1 : Int) : l_markStampS a0 a1 = mkL (fun (x : TStamp) (k : Int) => ((TStamp.mk k (W (k + 1)) (W ((W (k + 1)) + 1)) (W ((W ((W (k + 1)) + 1)) + 1)) (W ((W ((W ((W (k + 1)) + 1)) + 1)) + 1))), (W ((W ((W ((W ((W (k + 1)) + 1)) + 1)) + 1)) + 1)))) a0 a1 := by
  have h := mark_loop (F := l_markStampS_1) (f := (fun (x : TStamp) (k : Int) => ((TStamp.mk k (W (k + 1)) (W ((W (k + 1)) + 1)) (W ((W ((W (k + 1)) + 1)) + 1)) (W ((W ((W ((W (k + 1)) + 1)) + 1)) + 1))), (W ((W ((W ((W ((W (k + 1)) + 1)) + 1)) + 1)) + 1))))) (fun _ _ _ _ => rfl) a0 [] (a0.length + 1) a1 (by omega)
  unfold l_markStampS
  simp only [List.length_nil, List.nil_append] at h
  rw [h]
@[simp] theorem l_markStampS_len (a0 : List TStamp) (a1 : Int) : (l_markStampS a0 a1).1.length = a0.length := by rw [l_markStampS_eq, mkL_len]
theorem l_markStampS_c : ∀ (x : TStamp) (k : Int), 0 ≤ k → k + (cn x : Nat) < 4611686018427387904 → ((fun (x : TStamp) (k : Int) => ((TStamp.mk k (W (k + 1)) (W ((W (k + 1)) + 1)) (W ((W ((W (k + 1)) + 1)) + 1)) (W ((W ((W ((W (k + 1)) + 1)) + 1)) + 1))), (W ((W ((W ((W ((W (k + 1)) + 1)) + 1)) + 1)) + 1)))) x k).2 = k + (cn x : Nat) := by
  intro x k h0 h
  simp only [cn_int, cn_bool, cn_u8, cn_str, TStamp.cn_eq] at h ⊢
  have e0 : W (k + 1) = k + 1 := wrap_of (by omega) (by omega)
  have e1 : W ((W (k + 1)) + 1) = (W (k + 1)) + 1 := wrap_of (by omega) (by omega)
  have e2 : W ((W ((W (k + 1)) + 1)) + 1) = (W ((W (k + 1)) + 1)) + 1 := wrap_of (by omega) (by omega)
  have e3 : W ((W ((W ((W (k + 1)) + 1)) + 1)) + 1) = (W ((W ((W (k + 1)) + 1)) + 1)) + 1 := wrap_of (by omega) (by omega)
  have e4 : W ((W ((W ((W ((W (k + 1)) + 1)) + 1)) + 1)) + 1) = (W ((W ((W ((W (k + 1)) + 1)) + 1)) + 1)) + 1 := wrap_of (by omega) (by omega)
  omega
theorem l_markStampS_cnt (a0 : List TStamp) (a1 : Int) (h0 : 0 ≤ a1) (h : a1 + (cn a0 : Nat) < 4611686018427387904) : (l_markStampS a0 a1).2 = a1 + (cn a0 : Nat) := by
  rw [l_markStampS_eq]
  exact mkL_snd l_markStampS_c a0 a1 h0 h
theorem l_markStampS_mk (a0 : List TStamp) (a1 : Int) (h0 : 0 ≤ a1) (h : a1 + (cn a0 : Nat) < 4611686018427387904) : a1 ≤ (l_markStampS a0 a1).2 ∧ (l_markStampS a0 a1).2 ≤ a1 + (cn a0 : Nat) := by
  have := l_markStampS_cnt a0 a1 h0 h
  omega
theorem l_markStampS_g : ∀ (x : TStamp) (k : Int) (r : Int → Sum Int Int), 0 ≤ k → k + (cn x : Nat) < 4611686018427387904 → (fun (x : TStamp) (k : Int) (r : Int → Sum Int Int) => (bif (x.Authority != k) then (.inl (-1)) else (bif (x.Seq != (W (k + 1))) then (.inl (-1)) else (bif (x.Time != (W ((W (k + 1)) + 1))) then (.inl (-1)) else (bif (x.Digest != (W ((W ((W (k + 1)) + 1)) + 1))) then (.inl (-1)) else (bif (x.Mark != (W ((W ((W ((W (k + 1)) + 1)) + 1)) + 1))) then (.inl (-1)) else (r (W ((W ((W ((W ((W (k + 1)) + 1)) + 1)) + 1)) + 1))))))))) ((fun (x : TStamp) (k : Int) => ((TStamp.mk k (W (k + 1)) (W ((W (k + 1)) + 1)) (W ((W ((W (k + 1)) + 1)) + 1)) (W ((W ((W ((W (k + 1)) + 1)) + 1)) + 1))), (W ((W ((W ((W ((W (k + 1)) + 1)) + 1)) + 1)) + 1)))) x k).1 k r = r ((fun (x : TStamp) (k : Int) => ((TStamp.mk k (W (k + 1)) (W ((W (k + 1)) + 1)) (W ((W ((W (k + 1)) + 1)) + 1)) (W ((W ((W ((W (k + 1)) + 1)) + 1)) + 1))), (W ((W ((W ((W ((W (k + 1)) + 1)) + 1)) + 1)) + 1)))) x k).2 := by
  intro x k r h0 h
  simp only [cn_int, cn_bool, cn_u8, cn_str, TStamp.cn_eq] at h
  have e0 : W (k + 1) = k + 1 := wrap_of (by omega) (by omega)
  have e1 : W ((W (k + 1)) + 1) = (W (k + 1)) + 1 := wrap_of (by omega) (by omega)
  have e2 : W ((W ((W (k + 1)) + 1)) + 1) = (W ((W (k + 1)) + 1)) + 1 := wrap_of (by omega) (by omega)
  have e3 : W ((W ((W ((W (k + 1)) + 1)) + 1)) + 1) = (W ((W ((W (k + 1)) + 1)) + 1)) + 1 := wrap_of (by omega) (by omega)
  have e4 : W ((W ((W ((W ((W (k + 1)) + 1)) + 1)) + 1)) + 1) = (W ((W ((W ((W (k + 1)) + 1)) + 1)) + 1)) + 1 := wrap_of (by omega) (by omega)
  simp
theorem l_markStampS_mh (a0 : List TStamp) (a1 : Int) (h0 : 0 ≤ a1) (h : a1 + (cn a0 : Nat) < 4611686018427387904) : a1 ≤ (l_markStampS a0 a1).2 ∧ (l_markStampS a0 a1).2 ≤ a1 + (cn a0 : Nat) ∧ l_heldStampS (l_markStampS a0 a1).1 a1 = (l_markStampS a0 a1).2 := by
  rw [l_markStampS_eq]
  have s := mkL_snd l_markStampS_c a0 a1 h0 h
  have hh := held_loop (z := (mkL (fun (x : TStamp) (k : Int) => ((TStamp.mk k (W (k + 1)) (W ((W (k + 1)) + 1)) (W ((W ((W (k + 1)) + 1)) + 1)) (W ((W ((W ((W (k + 1)) + 1)) + 1)) + 1))), (W ((W ((W ((W ((W (k + 1)) + 1)) + 1)) + 1)) + 1)))) a0 a1).1) (H := l_heldStampS_1 (mkL (fun (x : TStamp) (k : Int) => ((TStamp.mk k (W (k + 1)) (W ((W (k + 1)) + 1)) (W ((W ((W (k + 1)) + 1)) + 1)) (W ((W ((W ((W (k + 1)) + 1)) + 1)) + 1))), (W ((W ((W ((W ((W (k + 1)) + 1)) + 1)) + 1)) + 1)))) a0 a1).1) (G := (fun (x : TStamp) (k : Int) (r : Int → Sum Int Int) => (bif (x.Authority != k) then (.inl (-1)) else (bif (x.Seq != (W (k + 1))) then (.inl (-1)) else (bif (x.Time != (W ((W (k + 1)) + 1))) then (.inl (-1)) else (bif (x.Digest != (W ((W ((W (k + 1)) + 1)) + 1))) then (.inl (-1)) else (bif (x.Mark != (W ((W ((W ((W (k + 1)) + 1)) + 1)) + 1))) then (.inl (-1)) else (r (W ((W ((W ((W ((W (k + 1)) + 1)) + 1)) + 1)) + 1)))))))))) (fun _ _ _ => rfl) l_markStampS_c l_markStampS_g a0 [] ((mkL (fun (x : TStamp) (k : Int) => ((TStamp.mk k (W (k + 1)) (W ((W (k + 1)) + 1)) (W ((W ((W (k + 1)) + 1)) + 1)) (W ((W ((W ((W (k + 1)) + 1)) + 1)) + 1))), (W ((W ((W ((W ((W (k + 1)) + 1)) + 1)) + 1)) + 1)))) a0 a1).1.length + 1) a1 (by simp) (by rw [mkL_len]; omega) h0 h
  simp only [List.length_nil] at hh
  rw [cn_list] at *
  refine ⟨by omega, by omega, ?_⟩
  unfold l_heldStampS
  rw [hh]
theorem l_markRenewalS_eq (a0 : List TRenewal) (a1 : Int) : l_markRenewalS a0 a1 = mkL (fun (x : TRenewal) (k : Int) => ((TRenewal.mk k (W (k + 1)) (W ((W (k + 1)) + 1)) (l_markStepS x.Path (W ((W ((W (k + 1)) + 1)) + 1))).1 (l_markStampS x.Stamps (l_markStepS x.Path (W ((W ((W (k + 1)) + 1)) + 1))).2).1), (l_markStampS x.Stamps (l_markStepS x.Path (W ((W ((W (k + 1)) + 1)) + 1))).2).2)) a0 a1 := by
  have h := mark_loop (F := l_markRenewalS_1) (f := (fun (x : TRenewal) (k : Int) => ((TRenewal.mk k (W (k + 1)) (W ((W (k + 1)) + 1)) (l_markStepS x.Path (W ((W ((W (k + 1)) + 1)) + 1))).1 (l_markStampS x.Stamps (l_markStepS x.Path (W ((W ((W (k + 1)) + 1)) + 1))).2).1), (l_markStampS x.Stamps (l_markStepS x.Path (W ((W ((W (k + 1)) + 1)) + 1))).2).2))) (fun _ _ _ _ => rfl) a0 [] (a0.length + 1) a1 (by omega)
  unfold l_markRenewalS
  simp only [List.length_nil, List.nil_append] at h
  rw [h]
@[simp] theorem l_markRenewalS_len (a0 : List TRenewal) (a1 : Int) : (l_markRenewalS a0 a1).1.length = a0.length := by rw [l_markRenewalS_eq, mkL_len]
theorem l_markRenewalS_c : ∀ (x : TRenewal) (k : Int), 0 ≤ k → k + (cn x : Nat) < 4611686018427387904 → ((fun (x : TRenewal) (k : Int) => ((TRenewal.mk k (W (k + 1)) (W ((W (k + 1)) + 1)) (l_markStepS x.Path (W ((W ((W (k + 1)) + 1)) + 1))).1 (l_markStampS x.Stamps (l_markStepS x.Path (W ((W ((W (k + 1)) + 1)) + 1))).2).1), (l_markStampS x.Stamps (l_markStepS x.Path (W ((W ((W (k + 1)) + 1)) + 1))).2).2)) x k).2 = k + (cn x : Nat) := by
  intro x k h0 h
  simp only [cn_int, cn_bool, cn_u8, cn_str, TRenewal.cn_eq] at h ⊢
  have e0 : W (k + 1) = k + 1 := wrap_of (by omega) (by omega)
  have e1 : W ((W (k + 1)) + 1) = (W (k + 1)) + 1 := wrap_of (by omega) (by omega)
  have e2 : W ((W ((W (k + 1)) + 1)) + 1) = (W ((W (k + 1)) + 1)) + 1 := wrap_of (by omega) (by omega)
  obtain ⟨m3, n3⟩ := l_markStepS_mk x.Path (W ((W ((W (k + 1)) + 1)) + 1)) (by omega) (by omega)
  have q3 := l_markStepS_cnt x.Path (W ((W ((W (k + 1)) + 1)) + 1)) (by omega) (by omega)
  have o3 : ¬ (l_markStepS x.Path (W ((W ((W (k + 1)) + 1)) + 1))).2 < 0 := by omega
  obtain ⟨m6, n6⟩ := l_markStampS_mk x.Stamps (l_markStepS x.Path (W ((W ((W (k + 1)) + 1)) + 1))).2 (by omega) (by omega)
  have q6 := l_markStampS_cnt x.Stamps (l_markStepS x.Path (W ((W ((W (k + 1)) + 1)) + 1))).2 (by omega) (by omega)
  have o6 : ¬ (l_markStampS x.Stamps (l_markStepS x.Path (W ((W ((W (k + 1)) + 1)) + 1))).2).2 < 0 := by omega
  omega
theorem l_markRenewalS_cnt (a0 : List TRenewal) (a1 : Int) (h0 : 0 ≤ a1) (h : a1 + (cn a0 : Nat) < 4611686018427387904) : (l_markRenewalS a0 a1).2 = a1 + (cn a0 : Nat) := by
  rw [l_markRenewalS_eq]
  exact mkL_snd l_markRenewalS_c a0 a1 h0 h
theorem l_markRenewalS_mk (a0 : List TRenewal) (a1 : Int) (h0 : 0 ≤ a1) (h : a1 + (cn a0 : Nat) < 4611686018427387904) : a1 ≤ (l_markRenewalS a0 a1).2 ∧ (l_markRenewalS a0 a1).2 ≤ a1 + (cn a0 : Nat) := by
  have := l_markRenewalS_cnt a0 a1 h0 h
  omega
theorem l_markRenewalS_g : ∀ (x : TRenewal) (k : Int) (r : Int → Sum Int Int), 0 ≤ k → k + (cn x : Nat) < 4611686018427387904 → (fun (x : TRenewal) (k : Int) (r : Int → Sum Int Int) => (bif (x.Count != k) then (.inl (-1)) else (bif (x.Method != (W (k + 1))) then (.inl (-1)) else (bif (x.Root != (W ((W (k + 1)) + 1))) then (.inl (-1)) else (bif (decide ((l_heldStepS x.Path (W ((W ((W (k + 1)) + 1)) + 1))) < 0)) then (.inl (-1)) else (bif (decide ((l_heldStampS x.Stamps (l_heldStepS x.Path (W ((W ((W (k + 1)) + 1)) + 1)))) < 0)) then (.inl (-1)) else (r (l_heldStampS x.Stamps (l_heldStepS x.Path (W ((W ((W (k + 1)) + 1)) + 1))))))))))) ((fun (x : TRenewal) (k : Int) => ((TRenewal.mk k (W (k + 1)) (W ((W (k + 1)) + 1)) (l_markStepS x.Path (W ((W ((W (k + 1)) + 1)) + 1))).1 (l_markStampS x.Stamps (l_markStepS x.Path (W ((W ((W (k + 1)) + 1)) + 1))).2).1), (l_markStampS x.Stamps (l_markStepS x.Path (W ((W ((W (k + 1)) + 1)) + 1))).2).2)) x k).1 k r = r ((fun (x : TRenewal) (k : Int) => ((TRenewal.mk k (W (k + 1)) (W ((W (k + 1)) + 1)) (l_markStepS x.Path (W ((W ((W (k + 1)) + 1)) + 1))).1 (l_markStampS x.Stamps (l_markStepS x.Path (W ((W ((W (k + 1)) + 1)) + 1))).2).1), (l_markStampS x.Stamps (l_markStepS x.Path (W ((W ((W (k + 1)) + 1)) + 1))).2).2)) x k).2 := by
  intro x k r h0 h
  simp only [cn_int, cn_bool, cn_u8, cn_str, TRenewal.cn_eq] at h
  have e0 : W (k + 1) = k + 1 := wrap_of (by omega) (by omega)
  have e1 : W ((W (k + 1)) + 1) = (W (k + 1)) + 1 := wrap_of (by omega) (by omega)
  have e2 : W ((W ((W (k + 1)) + 1)) + 1) = (W ((W (k + 1)) + 1)) + 1 := wrap_of (by omega) (by omega)
  obtain ⟨m3, n3, h3⟩ := l_markStepS_mh x.Path (W ((W ((W (k + 1)) + 1)) + 1)) (by omega) (by omega)
  have q3 := l_markStepS_cnt x.Path (W ((W ((W (k + 1)) + 1)) + 1)) (by omega) (by omega)
  have o3 : ¬ (l_markStepS x.Path (W ((W ((W (k + 1)) + 1)) + 1))).2 < 0 := by omega
  obtain ⟨m6, n6, h6⟩ := l_markStampS_mh x.Stamps (l_markStepS x.Path (W ((W ((W (k + 1)) + 1)) + 1))).2 (by omega) (by omega)
  have q6 := l_markStampS_cnt x.Stamps (l_markStepS x.Path (W ((W ((W (k + 1)) + 1)) + 1))).2 (by omega) (by omega)
  have o6 : ¬ (l_markStampS x.Stamps (l_markStepS x.Path (W ((W ((W (k + 1)) + 1)) + 1))).2).2 < 0 := by omega
  simp [h3, h6, o3, o6]
theorem l_markRenewalS_mh (a0 : List TRenewal) (a1 : Int) (h0 : 0 ≤ a1) (h : a1 + (cn a0 : Nat) < 4611686018427387904) : a1 ≤ (l_markRenewalS a0 a1).2 ∧ (l_markRenewalS a0 a1).2 ≤ a1 + (cn a0 : Nat) ∧ l_heldRenewalS (l_markRenewalS a0 a1).1 a1 = (l_markRenewalS a0 a1).2 := by
  rw [l_markRenewalS_eq]
  have s := mkL_snd l_markRenewalS_c a0 a1 h0 h
  have hh := held_loop (z := (mkL (fun (x : TRenewal) (k : Int) => ((TRenewal.mk k (W (k + 1)) (W ((W (k + 1)) + 1)) (l_markStepS x.Path (W ((W ((W (k + 1)) + 1)) + 1))).1 (l_markStampS x.Stamps (l_markStepS x.Path (W ((W ((W (k + 1)) + 1)) + 1))).2).1), (l_markStampS x.Stamps (l_markStepS x.Path (W ((W ((W (k + 1)) + 1)) + 1))).2).2)) a0 a1).1) (H := l_heldRenewalS_1 (mkL (fun (x : TRenewal) (k : Int) => ((TRenewal.mk k (W (k + 1)) (W ((W (k + 1)) + 1)) (l_markStepS x.Path (W ((W ((W (k + 1)) + 1)) + 1))).1 (l_markStampS x.Stamps (l_markStepS x.Path (W ((W ((W (k + 1)) + 1)) + 1))).2).1), (l_markStampS x.Stamps (l_markStepS x.Path (W ((W ((W (k + 1)) + 1)) + 1))).2).2)) a0 a1).1) (G := (fun (x : TRenewal) (k : Int) (r : Int → Sum Int Int) => (bif (x.Count != k) then (.inl (-1)) else (bif (x.Method != (W (k + 1))) then (.inl (-1)) else (bif (x.Root != (W ((W (k + 1)) + 1))) then (.inl (-1)) else (bif (decide ((l_heldStepS x.Path (W ((W ((W (k + 1)) + 1)) + 1))) < 0)) then (.inl (-1)) else (bif (decide ((l_heldStampS x.Stamps (l_heldStepS x.Path (W ((W ((W (k + 1)) + 1)) + 1)))) < 0)) then (.inl (-1)) else (r (l_heldStampS x.Stamps (l_heldStepS x.Path (W ((W ((W (k + 1)) + 1)) + 1)))))))))))) (fun _ _ _ => rfl) l_markRenewalS_c l_markRenewalS_g a0 [] ((mkL (fun (x : TRenewal) (k : Int) => ((TRenewal.mk k (W (k + 1)) (W ((W (k + 1)) + 1)) (l_markStepS x.Path (W ((W ((W (k + 1)) + 1)) + 1))).1 (l_markStampS x.Stamps (l_markStepS x.Path (W ((W ((W (k + 1)) + 1)) + 1))).2).1), (l_markStampS x.Stamps (l_markStepS x.Path (W ((W ((W (k + 1)) + 1)) + 1))).2).2)) a0 a1).1.length + 1) a1 (by simp) (by rw [mkL_len]; omega) h0 h
  simp only [List.length_nil] at hh
  rw [cn_list] at *
  refine ⟨by omega, by omega, ?_⟩
  unfold l_heldRenewalS
  rw [hh]
theorem l_markItemS_eq (a0 : List TItem) (a1 : Int) : l_markItemS a0 a1 = mkL (fun (x : TItem) (k : Int) => ((TItem.mk k (W (k + 1)) (TDocument.mk (W ((W (k + 1)) + 1)) (l_markStringS x.Doc.Parts (W ((W ((W (k + 1)) + 1)) + 1))).1 (l_markIntS x.Doc.Salts (l_markStringS x.Doc.Parts (W ((W ((W (k + 1)) + 1)) + 1))).2).1) (TSignature.mk (l_markIntS x.Doc.Salts (l_markStringS x.Doc.Parts (W ((W ((W (k + 1)) + 1)) + 1))).2).2 (W ((l_markIntS x.Doc.Salts (l_markStringS x.Doc.Parts (W ((W ((W (k + 1)) + 1)) + 1))).2).2 + 1)) (W ((W ((l_markIntS x.Doc.Salts (l_markStringS x.Doc.Parts (W ((W ((W (k + 1)) + 1)) + 1))).2).2 + 1)) + 1)) (W ((W ((W ((l_markIntS x.Doc.Salts (l_markStringS x.Doc.Parts (W ((W ((W (k + 1)) + 1)) + 1))).2).2 + 1)) + 1)) + 1)) (W ((W ((W ((W ((l_markIntS x.Doc.Salts (l_markStringS x.Doc.Parts (W ((W ((W (k + 1)) + 1)) + 1))).2).2 + 1)) + 1)) + 1)) + 1)) (W ((W ((W ((W ((W ((l_markIntS x.Doc.Salts (l_markStringS x.Doc.Parts (W ((W ((W (k + 1)) + 1)) + 1))).2).2 + 1)) + 1)) + 1)) + 1)) + 1)) (W ((W ((W ((W ((W ((W ((l_markIntS x.Doc.Salts (l_markStringS x.Doc.Parts (W ((W ((W (k + 1)) + 1)) + 1))).2).2 + 1)) + 1)) + 1)) + 1)) + 1)) + 1)) (W ((W ((W ((W ((W ((W ((W ((l_markIntS x.Doc.Salts (l_markStringS x.Doc.Parts (W ((W ((W (k + 1)) + 1)) + 1))).2).2 + 1)) + 1)) + 1)) + 1)) + 1)) + 1)) + 1)) (W ((W ((W ((W ((W ((W ((W ((W ((l_markIntS x.Doc.Salts (l_markStringS x.Doc.Parts (W ((W ((W (k + 1)) + 1)) + 1))).2).2 + 1)) + 1)) + 1)) + 1)) + 1)) + 1)) + 1)) + 1))) (TStrand.mk (l_markPieceS x.Strand.Pieces (W ((W ((W ((W ((W ((W ((W ((W ((W ((l_markIntS x.Doc.Salts (l_markStringS x.Doc.Parts (W ((W ((W (k + 1)) + 1)) + 1))).2).2 + 1)) + 1)) + 1)) + 1)) + 1)) + 1)) + 1)) + 1)) + 1))).1 (l_markRenewalS x.Strand.Chain (l_markPieceS x.Strand.Pieces (W ((W ((W ((W ((W ((W ((W ((W ((W ((l_markIntS x.Doc.Salts (l_markStringS x.Doc.Parts (W ((W ((W (k + 1)) + 1)) + 1))).2).2 + 1)) + 1)) + 1)) + 1)) + 1)) + 1)) + 1)) + 1)) + 1))).2).1)), (l_markRenewalS x.Strand.Chain (l_markPieceS x.Strand.Pieces (W ((W ((W ((W ((W ((W ((W ((W ((W ((l_markIntS x.Doc.Salts (l_markStringS x.Doc.Parts (W ((W ((W (k + 1)) + 1)) + 1))).2).2 + 1)) + 1)) + 1)) + 1)) + 1)) + 1)) + 1)) + 1)) + 1))).2).2)) a0 a1 := by
  have h := mark_loop (F := l_markItemS_1) (f := (fun (x : TItem) (k : Int) => ((TItem.mk k (W (k + 1)) (TDocument.mk (W ((W (k + 1)) + 1)) (l_markStringS x.Doc.Parts (W ((W ((W (k + 1)) + 1)) + 1))).1 (l_markIntS x.Doc.Salts (l_markStringS x.Doc.Parts (W ((W ((W (k + 1)) + 1)) + 1))).2).1) (TSignature.mk (l_markIntS x.Doc.Salts (l_markStringS x.Doc.Parts (W ((W ((W (k + 1)) + 1)) + 1))).2).2 (W ((l_markIntS x.Doc.Salts (l_markStringS x.Doc.Parts (W ((W ((W (k + 1)) + 1)) + 1))).2).2 + 1)) (W ((W ((l_markIntS x.Doc.Salts (l_markStringS x.Doc.Parts (W ((W ((W (k + 1)) + 1)) + 1))).2).2 + 1)) + 1)) (W ((W ((W ((l_markIntS x.Doc.Salts (l_markStringS x.Doc.Parts (W ((W ((W (k + 1)) + 1)) + 1))).2).2 + 1)) + 1)) + 1)) (W ((W ((W ((W ((l_markIntS x.Doc.Salts (l_markStringS x.Doc.Parts (W ((W ((W (k + 1)) + 1)) + 1))).2).2 + 1)) + 1)) + 1)) + 1)) (W ((W ((W ((W ((W ((l_markIntS x.Doc.Salts (l_markStringS x.Doc.Parts (W ((W ((W (k + 1)) + 1)) + 1))).2).2 + 1)) + 1)) + 1)) + 1)) + 1)) (W ((W ((W ((W ((W ((W ((l_markIntS x.Doc.Salts (l_markStringS x.Doc.Parts (W ((W ((W (k + 1)) + 1)) + 1))).2).2 + 1)) + 1)) + 1)) + 1)) + 1)) + 1)) (W ((W ((W ((W ((W ((W ((W ((l_markIntS x.Doc.Salts (l_markStringS x.Doc.Parts (W ((W ((W (k + 1)) + 1)) + 1))).2).2 + 1)) + 1)) + 1)) + 1)) + 1)) + 1)) + 1)) (W ((W ((W ((W ((W ((W ((W ((W ((l_markIntS x.Doc.Salts (l_markStringS x.Doc.Parts (W ((W ((W (k + 1)) + 1)) + 1))).2).2 + 1)) + 1)) + 1)) + 1)) + 1)) + 1)) + 1)) + 1))) (TStrand.mk (l_markPieceS x.Strand.Pieces (W ((W ((W ((W ((W ((W ((W ((W ((W ((l_markIntS x.Doc.Salts (l_markStringS x.Doc.Parts (W ((W ((W (k + 1)) + 1)) + 1))).2).2 + 1)) + 1)) + 1)) + 1)) + 1)) + 1)) + 1)) + 1)) + 1))).1 (l_markRenewalS x.Strand.Chain (l_markPieceS x.Strand.Pieces (W ((W ((W ((W ((W ((W ((W ((W ((W ((l_markIntS x.Doc.Salts (l_markStringS x.Doc.Parts (W ((W ((W (k + 1)) + 1)) + 1))).2).2 + 1)) + 1)) + 1)) + 1)) + 1)) + 1)) + 1)) + 1)) + 1))).2).1)), (l_markRenewalS x.Strand.Chain (l_markPieceS x.Strand.Pieces (W ((W ((W ((W ((W ((W ((W ((W ((W ((l_markIntS x.Doc.Salts (l_markStringS x.Doc.Parts (W ((W ((W (k + 1)) + 1)) + 1))).2).2 + 1)) + 1)) + 1)) + 1)) + 1)) + 1)) + 1)) + 1)) + 1))).2).2))) (fun _ _ _ _ => rfl) a0 [] (a0.length + 1) a1 (by omega)
  unfold l_markItemS
  simp only [List.length_nil, List.nil_append] at h
  rw [h]
@[simp] theorem l_markItemS_len (a0 : List TItem) (a1 : Int) : (l_markItemS a0 a1).1.length = a0.length := by rw [l_markItemS_eq, mkL_len]
theorem l_markItemS_c : ∀ (x : TItem) (k : Int), 0 ≤ k → k + (cn x : Nat) < 4611686018427387904 → ((fun (x : TItem) (k : Int) => ((TItem.mk k (W (k + 1)) (TDocument.mk (W ((W (k + 1)) + 1)) (l_markStringS x.Doc.Parts (W ((W ((W (k + 1)) + 1)) + 1))).1 (l_markIntS x.Doc.Salts (l_markStringS x.Doc.Parts (W ((W ((W (k + 1)) + 1)) + 1))).2).1) (TSignature.mk (l_markIntS x.Doc.Salts (l_markStringS x.Doc.Parts (W ((W ((W (k + 1)) + 1)) + 1))).2).2 (W ((l_markIntS x.Doc.Salts (l_markStringS x.Doc.Parts (W ((W ((W (k + 1)) + 1)) + 1))).2).2 + 1)) (W ((W ((l_markIntS x.Doc.Salts (l_markStringS x.Doc.Parts (W ((W ((W (k + 1)) + 1)) + 1))).2).2 + 1)) + 1)) (W ((W ((W ((l_markIntS x.Doc.Salts (l_markStringS x.Doc.Parts (W ((W ((W (k + 1)) + 1)) + 1))).2).2 + 1)) + 1)) + 1)) (W ((W ((W ((W ((l_markIntS x.Doc.Salts (l_markStringS x.Doc.Parts (W ((W ((W (k + 1)) + 1)) + 1))).2).2 + 1)) + 1)) + 1)) + 1)) (W ((W ((W ((W ((W ((l_markIntS x.Doc.Salts (l_markStringS x.Doc.Parts (W ((W ((W (k + 1)) + 1)) + 1))).2).2 + 1)) + 1)) + 1)) + 1)) + 1)) (W ((W ((W ((W ((W ((W ((l_markIntS x.Doc.Salts (l_markStringS x.Doc.Parts (W ((W ((W (k + 1)) + 1)) + 1))).2).2 + 1)) + 1)) + 1)) + 1)) + 1)) + 1)) (W ((W ((W ((W ((W ((W ((W ((l_markIntS x.Doc.Salts (l_markStringS x.Doc.Parts (W ((W ((W (k + 1)) + 1)) + 1))).2).2 + 1)) + 1)) + 1)) + 1)) + 1)) + 1)) + 1)) (W ((W ((W ((W ((W ((W ((W ((W ((l_markIntS x.Doc.Salts (l_markStringS x.Doc.Parts (W ((W ((W (k + 1)) + 1)) + 1))).2).2 + 1)) + 1)) + 1)) + 1)) + 1)) + 1)) + 1)) + 1))) (TStrand.mk (l_markPieceS x.Strand.Pieces (W ((W ((W ((W ((W ((W ((W ((W ((W ((l_markIntS x.Doc.Salts (l_markStringS x.Doc.Parts (W ((W ((W (k + 1)) + 1)) + 1))).2).2 + 1)) + 1)) + 1)) + 1)) + 1)) + 1)) + 1)) + 1)) + 1))).1 (l_markRenewalS x.Strand.Chain (l_markPieceS x.Strand.Pieces (W ((W ((W ((W ((W ((W ((W ((W ((W ((l_markIntS x.Doc.Salts (l_markStringS x.Doc.Parts (W ((W ((W (k + 1)) + 1)) + 1))).2).2 + 1)) + 1)) + 1)) + 1)) + 1)) + 1)) + 1)) + 1)) + 1))).2).1)), (l_markRenewalS x.Strand.Chain (l_markPieceS x.Strand.Pieces (W ((W ((W ((W ((W ((W ((W ((W ((W ((l_markIntS x.Doc.Salts (l_markStringS x.Doc.Parts (W ((W ((W (k + 1)) + 1)) + 1))).2).2 + 1)) + 1)) + 1)) + 1)) + 1)) + 1)) + 1)) + 1)) + 1))).2).2)) x k).2 = k + (cn x : Nat) := by
  intro x k h0 h
  simp only [cn_int, cn_bool, cn_u8, cn_str, TItem.cn_eq, TDocument.cn_eq, TStrand.cn_eq, TSignature.cn_eq] at h ⊢
  have e0 : W (k + 1) = k + 1 := wrap_of (by omega) (by omega)
  have e1 : W ((W (k + 1)) + 1) = (W (k + 1)) + 1 := wrap_of (by omega) (by omega)
  have e2 : W ((W ((W (k + 1)) + 1)) + 1) = (W ((W (k + 1)) + 1)) + 1 := wrap_of (by omega) (by omega)
  obtain ⟨m3, n3⟩ := l_markStringS_mk x.Doc.Parts (W ((W ((W (k + 1)) + 1)) + 1)) (by omega) (by omega)
  have q3 := l_markStringS_cnt x.Doc.Parts (W ((W ((W (k + 1)) + 1)) + 1)) (by omega) (by omega)
  have o3 : ¬ (l_markStringS x.Doc.Parts (W ((W ((W (k + 1)) + 1)) + 1))).2 < 0 := by omega
  obtain ⟨m6, n6⟩ := l_markIntS_mk x.Doc.Salts (l_markStringS x.Doc.Parts (W ((W ((W (k + 1)) + 1)) + 1))).2 (by omega) (by omega)
  have q6 := l_markIntS_cnt x.Doc.Salts (l_markStringS x.Doc.Parts (W ((W ((W (k + 1)) + 1)) + 1))).2 (by omega) (by omega)
  have o6 : ¬ (l_markIntS x.Doc.Salts (l_markStringS x.Doc.Parts (W ((W ((W (k + 1)) + 1)) + 1))).2).2 < 0 := by omega
  have e9 : W ((l_markIntS x.Doc.Salts (l_markStringS x.Doc.Parts (W ((W ((W (k + 1)) + 1)) + 1))).2).2 + 1) = (l_markIntS x.Doc.Salts (l_markStringS x.Doc.Parts (W ((W ((W (k + 1)) + 1)) + 1))).2).2 + 1 := wrap_of (by omega) (by omega)
  have e10 : W ((W ((l_markIntS x.Doc.Salts (l_markStringS x.Doc.Parts (W ((W ((W (k + 1)) + 1)) + 1))).2).2 + 1)) + 1) = (W ((l_markIntS x.Doc.Salts (l_markStringS x.Doc.Parts (W ((W ((W (k + 1)) + 1)) + 1))).2).2 + 1)) + 1 := wrap_of (by omega) (by omega)
  have e11 : W ((W ((W ((l_markIntS x.Doc.Salts (l_markStringS x.Doc.Parts (W ((W ((W (k + 1)) + 1)) + 1))).2).2 + 1)) + 1)) + 1) = (W ((W ((l_markIntS x.Doc.Salts (l_markStringS x.Doc.Parts (W ((W ((W (k + 1)) + 1)) + 1))).2).2 + 1)) + 1)) + 1 := wrap_of (by omega) (by omega)
  have e12 : W ((W ((W ((W ((l_markIntS x.Doc.Salts (l_markStringS x.Doc.Parts (W ((W ((W (k + 1)) + 1)) + 1))).2).2 + 1)) + 1)) + 1)) + 1) = (W ((W ((W ((l_markIntS x.Doc.Salts (l_markStringS x.Doc.Parts (W ((W ((W (k + 1)) + 1)) + 1))).2).2 + 1)) + 1)) + 1)) + 1 := wrap_of (by omega) (by omega)
  have e13 : W ((W ((W ((W ((W ((l_markIntS x.Doc.Salts (l_markStringS x.Doc.Parts (W ((W ((W (k + 1)) + 1)) + 1))).2).2 + 1)) + 1)) + 1)) + 1)) + 1) = (W ((W ((W ((W ((l_markIntS x.Doc.Salts (l_markStringS x.Doc.Parts (W ((W ((W (k + 1)) + 1)) + 1))).2).2 + 1)) + 1)) + 1)) + 1)) + 1 := wrap_of (by omega) (by omega)
  have e14 : W ((W ((W ((W ((W ((W ((l_markIntS x.Doc.Salts (l_markStringS x.Doc.Parts (W ((W ((W (k + 1)) + 1)) + 1))).2).2 + 1)) + 1)) + 1)) + 1)) + 1)) + 1) = (W ((W ((W ((W ((W ((l_markIntS x.Doc.Salts (l_markStringS x.Doc.Parts (W ((W ((W (k + 1)) + 1)) + 1))).2).2 + 1)) + 1)) + 1)) + 1)) + 1)) + 1 := wrap_of (by omega) (by omega)
  have e15 : W ((W ((W ((W ((W ((W ((W ((l_markIntS x.Doc.Salts (l_markStringS x.Doc.Parts (W ((W ((W (k + 1)) + 1)) + 1))).2).2 + 1)) + 1)) + 1)) + 1)) + 1)) + 1)) + 1) = (W ((W ((W ((W ((W ((W ((l_markIntS x.Doc.Salts (l_markStringS x.Doc.Parts (W ((W ((W (k + 1)) + 1)) + 1))).2).2 + 1)) + 1)) + 1)) + 1)) + 1)) + 1)) + 1 := wrap_of (by omega) (by omega)
  have e16 : W ((W ((W ((W ((W ((W ((W ((W ((l_markIntS x.Doc.Salts (l_markStringS x.Doc.Parts (W ((W ((W (k + 1)) + 1)) + 1))).2).2 + 1)) + 1)) + 1)) + 1)) + 1)) + 1)) + 1)) + 1) = (W ((W ((W ((W ((W ((W ((W ((l_markIntS x.Doc.Salts (l_markStringS x.Doc.Parts (W ((W ((W (k + 1)) + 1)) + 1))).2).2 + 1)) + 1)) + 1)) + 1)) + 1)) + 1)) + 1)) + 1 := wrap_of (by omega) (by omega)
  have e17 : W ((W ((W ((W ((W ((W ((W ((W ((W ((l_markIntS x.Doc.Salts (l_markStringS x.Doc.Parts (W ((W ((W (k + 1)) + 1)) + 1))).2).2 + 1)) + 1)) + 1)) + 1)) + 1)) + 1)) + 1)) + 1)) + 1) = (W ((W ((W ((W ((W ((W ((W ((W ((l_markIntS x.Doc.Salts (l_markStringS x.Doc.Parts (W ((W ((W (k + 1)) + 1)) + 1))).2).2 + 1)) + 1)) + 1)) + 1)) + 1)) + 1)) + 1)) + 1)) + 1 := wrap_of (by omega) (by omega)
  obtain ⟨m18, n18⟩ := l_markPieceS_mk x.Strand.Pieces (W ((W ((W ((W ((W ((W ((W ((W ((W ((l_markIntS x.Doc.Salts (l_markStringS x.Doc.Parts (W ((W ((W (k + 1)) + 1)) + 1))).2).2 + 1)) + 1)) + 1)) + 1)) + 1)) + 1)) + 1)) + 1)) + 1)) (by omega) (by omega)
  have q18 := l_markPieceS_cnt x.Strand.Pieces (W ((W ((W ((W ((W ((W ((W ((W ((W ((l_markIntS x.Doc.Salts (l_markStringS x.Doc.Parts (W ((W ((W (k + 1)) + 1)) + 1))).2).2 + 1)) + 1)) + 1)) + 1)) + 1)) + 1)) + 1)) + 1)) + 1)) (by omega) (by omega)
  have o18 : ¬ (l_markPieceS x.Strand.Pieces (W ((W ((W ((W ((W ((W ((W ((W ((W ((l_markIntS x.Doc.Salts (l_markStringS x.Doc.Parts (W ((W ((W (k + 1)) + 1)) + 1))).2).2 + 1)) + 1)) + 1)) + 1)) + 1)) + 1)) + 1)) + 1)) + 1))).2 < 0 := by omega
  obtain ⟨m21, n21⟩ := l_markRenewalS_mk x.Strand.Chain (l_markPieceS x.Strand.Pieces (W ((W ((W ((W ((W ((W ((W ((W ((W ((l_markIntS x.Doc.Salts (l_markStringS x.Doc.Parts (W ((W ((W (k + 1)) + 1)) + 1))).2).2 + 1)) + 1)) + 1)) + 1)) + 1)) + 1)) + 1)) + 1)) + 1))).2 (by omega) (by omega)
  have q21 := l_markRenewalS_cnt x.Strand.Chain (l_markPieceS x.Strand.Pieces (W ((W ((W ((W ((W ((W ((W ((W ((W ((l_markIntS x.Doc.Salts (l_markStringS x.Doc.Parts (W ((W ((W (k + 1)) + 1)) + 1))).2).2 + 1)) + 1)) + 1)) + 1)) + 1)) + 1)) + 1)) + 1)) + 1))).2 (by omega) (by omega)
  have o21 : ¬ (l_markRenewalS x.Strand.Chain (l_markPieceS x.Strand.Pieces (W ((W ((W ((W ((W ((W ((W ((W ((W ((l_markIntS x.Doc.Salts (l_markStringS x.Doc.Parts (W ((W ((W (k + 1)) + 1)) + 1))).2).2 + 1)) + 1)) + 1)) + 1)) + 1)) + 1)) + 1)) + 1)) + 1))).2).2 < 0 := by omega
  omega
theorem l_markItemS_cnt (a0 : List TItem) (a1 : Int) (h0 : 0 ≤ a1) (h : a1 + (cn a0 : Nat) < 4611686018427387904) : (l_markItemS a0 a1).2 = a1 + (cn a0 : Nat) := by
  rw [l_markItemS_eq]
  exact mkL_snd l_markItemS_c a0 a1 h0 h
theorem l_markItemS_mk (a0 : List TItem) (a1 : Int) (h0 : 0 ≤ a1) (h : a1 + (cn a0 : Nat) < 4611686018427387904) : a1 ≤ (l_markItemS a0 a1).2 ∧ (l_markItemS a0 a1).2 ≤ a1 + (cn a0 : Nat) := by
  have := l_markItemS_cnt a0 a1 h0 h
  omega
theorem l_markItemS_g : ∀ (x : TItem) (k : Int) (r : Int → Sum Int Int), 0 ≤ k → k + (cn x : Nat) < 4611686018427387904 → (fun (x : TItem) (k : Int) (r : Int → Sum Int Int) => (bif (x.Id != k) then (.inl (-1)) else (bif (x.Keep != (W (k + 1))) then (.inl (-1)) else (bif (x.Doc.Title != (W ((W (k + 1)) + 1))) then (.inl (-1)) else (bif (decide ((l_heldStringS x.Doc.Parts (W ((W ((W (k + 1)) + 1)) + 1))) < 0)) then (.inl (-1)) else (bif (decide ((l_heldIntS x.Doc.Salts (l_heldStringS x.Doc.Parts (W ((W ((W (k + 1)) + 1)) + 1)))) < 0)) then (.inl (-1)) else (bif (x.Sig.Key != (l_heldIntS x.Doc.Salts (l_heldStringS x.Doc.Parts (W ((W ((W (k + 1)) + 1)) + 1))))) then (.inl (-1)) else (bif (x.Sig.Serial != (W ((l_heldIntS x.Doc.Salts (l_heldStringS x.Doc.Parts (W ((W ((W (k + 1)) + 1)) + 1)))) + 1))) then (.inl (-1)) else (bif (x.Sig.Method != (W ((W ((l_heldIntS x.Doc.Salts (l_heldStringS x.Doc.Parts (W ((W ((W (k + 1)) + 1)) + 1)))) + 1)) + 1))) then (.inl (-1)) else (bif (x.Sig.Digest != (W ((W ((W ((l_heldIntS x.Doc.Salts (l_heldStringS x.Doc.Parts (W ((W ((W (k + 1)) + 1)) + 1)))) + 1)) + 1)) + 1))) then (.inl (-1)) else (bif (x.Sig.Commit != (W ((W ((W ((W ((l_heldIntS x.Doc.Salts (l_heldStringS x.Doc.Parts (W ((W ((W (k + 1)) + 1)) + 1)))) + 1)) + 1)) + 1)) + 1))) then (.inl (-1)) else (bif (x.Sig.Org != (W ((W ((W ((W ((W ((l_heldIntS x.Doc.Salts (l_heldStringS x.Doc.Parts (W ((W ((W (k + 1)) + 1)) + 1)))) + 1)) + 1)) + 1)) + 1)) + 1))) then (.inl (-1)) else (bif (x.Sig.Before != (W ((W ((W ((W ((W ((W ((l_heldIntS x.Doc.Salts (l_heldStringS x.Doc.Parts (W ((W ((W (k + 1)) + 1)) + 1)))) + 1)) + 1)) + 1)) + 1)) + 1)) + 1))) then (.inl (-1)) else (bif (x.Sig.After != (W ((W ((W ((W ((W ((W ((W ((l_heldIntS x.Doc.Salts (l_heldStringS x.Doc.Parts (W ((W ((W (k + 1)) + 1)) + 1)))) + 1)) + 1)) + 1)) + 1)) + 1)) + 1)) + 1))) then (.inl (-1)) else (bif (x.Sig.Mark != (W ((W ((W ((W ((W ((W ((W ((W ((l_heldIntS x.Doc.Salts (l_heldStringS x.Doc.Parts (W ((W ((W (k + 1)) + 1)) + 1)))) + 1)) + 1)) + 1)) + 1)) + 1)) + 1)) + 1)) + 1))) then (.inl (-1)) else (bif (decide ((l_heldPieceS x.Strand.Pieces (W ((W ((W ((W ((W ((W ((W ((W ((W ((l_heldIntS x.Doc.Salts (l_heldStringS x.Doc.Parts (W ((W ((W (k + 1)) + 1)) + 1)))) + 1)) + 1)) + 1)) + 1)) + 1)) + 1)) + 1)) + 1)) + 1))) < 0)) then (.inl (-1)) else (bif (decide ((l_heldRenewalS x.Strand.Chain (l_heldPieceS x.Strand.Pieces (W ((W ((W ((W ((W ((W ((W ((W ((W ((l_heldIntS x.Doc.Salts (l_heldStringS x.Doc.Parts (W ((W ((W (k + 1)) + 1)) + 1)))) + 1)) + 1)) + 1)) + 1)) + 1)) + 1)) + 1)) + 1)) + 1)))) < 0)) then (.inl (-1)) else (r (l_heldRenewalS x.Strand.Chain (l_heldPieceS x.Strand.Pieces (W ((W ((W ((W ((W ((W ((W ((W ((W ((l_heldIntS x.Doc.Salts (l_heldStringS x.Doc.Parts (W ((W ((W (k + 1)) + 1)) + 1)))) + 1)) + 1)) + 1)) + 1)) + 1)) + 1)) + 1)) + 1)) + 1)))))))))))))))))))))) ((fun (x : TItem) (k : Int) => ((TItem.mk k (W (k + 1)) (TDocument.mk (W ((W (k + 1)) + 1)) (l_markStringS x.Doc.Parts (W ((W ((W (k + 1)) + 1)) + 1))).1 (l_markIntS x.Doc.Salts (l_markStringS x.Doc.Parts (W ((W ((W (k + 1)) + 1)) + 1))).2).1) (TSignature.mk (l_markIntS x.Doc.Salts (l_markStringS x.Doc.Parts (W ((W ((W (k + 1)) + 1)) + 1))).2).2 (W ((l_markIntS x.Doc.Salts (l_markStringS x.Doc.Parts (W ((W ((W (k + 1)) + 1)) + 1))).2).2 + 1)) (W ((W ((l_markIntS x.Doc.Salts (l_markStringS x.Doc.Parts (W ((W ((W (k + 1)) + 1)) + 1))).2).2 + 1)) + 1)) (W ((W ((W ((l_markIntS x.Doc.Salts (l_markStringS x.Doc.Parts (W ((W ((W (k + 1)) + 1)) + 1))).2).2 + 1)) + 1)) + 1)) (W ((W ((W ((W ((l_markIntS x.Doc.Salts (l_markStringS x.Doc.Parts (W ((W ((W (k + 1)) + 1)) + 1))).2).2 + 1)) + 1)) + 1)) + 1)) (W ((W ((W ((W ((W ((l_markIntS x.Doc.Salts (l_markStringS x.Doc.Parts (W ((W ((W (k + 1)) + 1)) + 1))).2).2 + 1)) + 1)) + 1)) + 1)) + 1)) (W ((W ((W ((W ((W ((W ((l_markIntS x.Doc.Salts (l_markStringS x.Doc.Parts (W ((W ((W (k + 1)) + 1)) + 1))).2).2 + 1)) + 1)) + 1)) + 1)) + 1)) + 1)) (W ((W ((W ((W ((W ((W ((W ((l_markIntS x.Doc.Salts (l_markStringS x.Doc.Parts (W ((W ((W (k + 1)) + 1)) + 1))).2).2 + 1)) + 1)) + 1)) + 1)) + 1)) + 1)) + 1)) (W ((W ((W ((W ((W ((W ((W ((W ((l_markIntS x.Doc.Salts (l_markStringS x.Doc.Parts (W ((W ((W (k + 1)) + 1)) + 1))).2).2 + 1)) + 1)) + 1)) + 1)) + 1)) + 1)) + 1)) + 1))) (TStrand.mk (l_markPieceS x.Strand.Pieces (W ((W ((W ((W ((W ((W ((W ((W ((W ((l_markIntS x.Doc.Salts (l_markStringS x.Doc.Parts (W ((W ((W (k + 1)) + 1)) + 1))).2).2 + 1)) + 1)) + 1)) + 1)) + 1)) + 1)) + 1)) + 1)) + 1))).1 (l_markRenewalS x.Strand.Chain (l_markPieceS x.Strand.Pieces (W ((W ((W ((W ((W ((W ((W ((W ((W ((l_markIntS x.Doc.Salts (l_markStringS x.Doc.Parts (W ((W ((W (k + 1)) + 1)) + 1))).2).2 + 1)) + 1)) + 1)) + 1)) + 1)) + 1)) + 1)) + 1)) + 1))).2).1)), (l_markRenewalS x.Strand.Chain (l_markPieceS x.Strand.Pieces (W ((W ((W ((W ((W ((W ((W ((W ((W ((l_markIntS x.Doc.Salts (l_markStringS x.Doc.Parts (W ((W ((W (k + 1)) + 1)) + 1))).2).2 + 1)) + 1)) + 1)) + 1)) + 1)) + 1)) + 1)) + 1)) + 1))).2).2)) x k).1 k r = r ((fun (x : TItem) (k : Int) => ((TItem.mk k (W (k + 1)) (TDocument.mk (W ((W (k + 1)) + 1)) (l_markStringS x.Doc.Parts (W ((W ((W (k + 1)) + 1)) + 1))).1 (l_markIntS x.Doc.Salts (l_markStringS x.Doc.Parts (W ((W ((W (k + 1)) + 1)) + 1))).2).1) (TSignature.mk (l_markIntS x.Doc.Salts (l_markStringS x.Doc.Parts (W ((W ((W (k + 1)) + 1)) + 1))).2).2 (W ((l_markIntS x.Doc.Salts (l_markStringS x.Doc.Parts (W ((W ((W (k + 1)) + 1)) + 1))).2).2 + 1)) (W ((W ((l_markIntS x.Doc.Salts (l_markStringS x.Doc.Parts (W ((W ((W (k + 1)) + 1)) + 1))).2).2 + 1)) + 1)) (W ((W ((W ((l_markIntS x.Doc.Salts (l_markStringS x.Doc.Parts (W ((W ((W (k + 1)) + 1)) + 1))).2).2 + 1)) + 1)) + 1)) (W ((W ((W ((W ((l_markIntS x.Doc.Salts (l_markStringS x.Doc.Parts (W ((W ((W (k + 1)) + 1)) + 1))).2).2 + 1)) + 1)) + 1)) + 1)) (W ((W ((W ((W ((W ((l_markIntS x.Doc.Salts (l_markStringS x.Doc.Parts (W ((W ((W (k + 1)) + 1)) + 1))).2).2 + 1)) + 1)) + 1)) + 1)) + 1)) (W ((W ((W ((W ((W ((W ((l_markIntS x.Doc.Salts (l_markStringS x.Doc.Parts (W ((W ((W (k + 1)) + 1)) + 1))).2).2 + 1)) + 1)) + 1)) + 1)) + 1)) + 1)) (W ((W ((W ((W ((W ((W ((W ((l_markIntS x.Doc.Salts (l_markStringS x.Doc.Parts (W ((W ((W (k + 1)) + 1)) + 1))).2).2 + 1)) + 1)) + 1)) + 1)) + 1)) + 1)) + 1)) (W ((W ((W ((W ((W ((W ((W ((W ((l_markIntS x.Doc.Salts (l_markStringS x.Doc.Parts (W ((W ((W (k + 1)) + 1)) + 1))).2).2 + 1)) + 1)) + 1)) + 1)) + 1)) + 1)) + 1)) + 1))) (TStrand.mk (l_markPieceS x.Strand.Pieces (W ((W ((W ((W ((W ((W ((W ((W ((W ((l_markIntS x.Doc.Salts (l_markStringS x.Doc.Parts (W ((W ((W (k + 1)) + 1)) + 1))).2).2 + 1)) + 1)) + 1)) + 1)) + 1)) + 1)) + 1)) + 1)) + 1))).1 (l_markRenewalS x.Strand.Chain (l_markPieceS x.Strand.Pieces (W ((W ((W ((W ((W ((W ((W ((W ((W ((l_markIntS x.Doc.Salts (l_markStringS x.Doc.Parts (W ((W ((W (k + 1)) + 1)) + 1))).2).2 + 1)) + 1)) + 1)) + 1)) + 1)) + 1)) + 1)) + 1)) + 1))).2).1)), (l_markRenewalS x.Strand.Chain (l_markPieceS x.Strand.Pieces (W ((W ((W ((W ((W ((W ((W ((W ((W ((l_markIntS x.Doc.Salts (l_markStringS x.Doc.Parts (W ((W ((W (k + 1)) + 1)) + 1))).2).2 + 1)) + 1)) + 1)) + 1)) + 1)) + 1)) + 1)) + 1)) + 1))).2).2)) x k).2 := by
  intro x k r h0 h
  simp only [cn_int, cn_bool, cn_u8, cn_str, TItem.cn_eq, TDocument.cn_eq, TStrand.cn_eq, TSignature.cn_eq] at h
  have e0 : W (k + 1) = k + 1 := wrap_of (by omega) (by omega)
  have e1 : W ((W (k + 1)) + 1) = (W (k + 1)) + 1 := wrap_of (by omega) (by omega)
  have e2 : W ((W ((W (k + 1)) + 1)) + 1) = (W ((W (k + 1)) + 1)) + 1 := wrap_of (by omega) (by omega)
  obtain ⟨m3, n3, h3⟩ := l_markStringS_mh x.Doc.Parts (W ((W ((W (k + 1)) + 1)) + 1)) (by omega) (by omega)
  have q3 := l_markStringS_cnt x.Doc.Parts (W ((W ((W (k + 1)) + 1)) + 1)) (by omega) (by omega)
  have o3 : ¬ (l_markStringS x.Doc.Parts (W ((W ((W (k + 1)) + 1)) + 1))).2 < 0 := by omega
  obtain ⟨m6, n6, h6⟩ := l_markIntS_mh x.Doc.Salts (l_markStringS x.Doc.Parts (W ((W ((W (k + 1)) + 1)) + 1))).2 (by omega) (by omega)
  have q6 := l_markIntS_cnt x.Doc.Salts (l_markStringS x.Doc.Parts (W ((W ((W (k + 1)) + 1)) + 1))).2 (by omega) (by omega)
  have o6 : ¬ (l_markIntS x.Doc.Salts (l_markStringS x.Doc.Parts (W ((W ((W (k + 1)) + 1)) + 1))).2).2 < 0 := by omega
  have e9 : W ((l_markIntS x.Doc.Salts (l_markStringS x.Doc.Parts (W ((W ((W (k + 1)) + 1)) + 1))).2).2 + 1) = (l_markIntS x.Doc.Salts (l_markStringS x.Doc.Parts (W ((W ((W (k + 1)) + 1)) + 1))).2).2 + 1 := wrap_of (by omega) (by omega)
  have e10 : W ((W ((l_markIntS x.Doc.Salts (l_markStringS x.Doc.Parts (W ((W ((W (k + 1)) + 1)) + 1))).2).2 + 1)) + 1) = (W ((l_markIntS x.Doc.Salts (l_markStringS x.Doc.Parts (W ((W ((W (k + 1)) + 1)) + 1))).2).2 + 1)) + 1 := wrap_of (by omega) (by omega)
  have e11 : W ((W ((W ((l_markIntS x.Doc.Salts (l_markStringS x.Doc.Parts (W ((W ((W (k + 1)) + 1)) + 1))).2).2 + 1)) + 1)) + 1) = (W ((W ((l_markIntS x.Doc.Salts (l_markStringS x.Doc.Parts (W ((W ((W (k + 1)) + 1)) + 1))).2).2 + 1)) + 1)) + 1 := wrap_of (by omega) (by omega)
  have e12 : W ((W ((W ((W ((l_markIntS x.Doc.Salts (l_markStringS x.Doc.Parts (W ((W ((W (k + 1)) + 1)) + 1))).2).2 + 1)) + 1)) + 1)) + 1) = (W ((W ((W ((l_markIntS x.Doc.Salts (l_markStringS x.Doc.Parts (W ((W ((W (k + 1)) + 1)) + 1))).2).2 + 1)) + 1)) + 1)) + 1 := wrap_of (by omega) (by omega)
  have e13 : W ((W ((W ((W ((W ((l_markIntS x.Doc.Salts (l_markStringS x.Doc.Parts (W ((W ((W (k + 1)) + 1)) + 1))).2).2 + 1)) + 1)) + 1)) + 1)) + 1) = (W ((W ((W ((W ((l_markIntS x.Doc.Salts (l_markStringS x.Doc.Parts (W ((W ((W (k + 1)) + 1)) + 1))).2).2 + 1)) + 1)) + 1)) + 1)) + 1 := wrap_of (by omega) (by omega)
  have e14 : W ((W ((W ((W ((W ((W ((l_markIntS x.Doc.Salts (l_markStringS x.Doc.Parts (W ((W ((W (k + 1)) + 1)) + 1))).2).2 + 1)) + 1)) + 1)) + 1)) + 1)) + 1) = (W ((W ((W ((W ((W ((l_markIntS x.Doc.Salts (l_markStringS x.Doc.Parts (W ((W ((W (k + 1)) + 1)) + 1))).2).2 + 1)) + 1)) + 1)) + 1)) + 1)) + 1 := wrap_of (by omega) (by omega)
  have e15 : W ((W ((W ((W ((W ((W ((W ((l_markIntS x.Doc.Salts (l_markStringS x.Doc.Parts (W ((W ((W (k + 1)) + 1)) + 1))).2).2 + 1)) + 1)) + 1)) + 1)) + 1)) + 1)) + 1) = (W ((W ((W ((W ((W ((W ((l_markIntS x.Doc.Salts (l_markStringS x.Doc.Parts (W ((W ((W (k + 1)) + 1)) + 1))).2).2 + 1)) + 1)) + 1)) + 1)) + 1)) + 1)) + 1 := wrap_of (by omega) (by omega)
  have e16 : W ((W ((W ((W ((W ((W ((W ((W ((l_markIntS x.Doc.Salts (l_markStringS x.Doc.Parts (W ((W ((W (k + 1)) + 1)) + 1))).2).2 + 1)) + 1)) + 1)) + 1)) + 1)) + 1)) + 1)) + 1) = (W ((W ((W ((W ((W ((W ((W ((l_markIntS x.Doc.Salts (l_markStringS x.Doc.Parts (W ((W ((W (k + 1)) + 1)) + 1))).2).2 + 1)) + 1)) + 1)) + 1)) + 1)) + 1)) + 1)) + 1 := wrap_of (by omega) (by omega)
  have e17 : W ((W ((W ((W ((W ((W ((W ((W ((W ((l_markIntS x.Doc.Salts (l_markStringS x.Doc.Parts (W ((W ((W (k + 1)) + 1)) + 1))).2).2 + 1)) + 1)) + 1)) + 1)) + 1)) + 1)) + 1)) + 1)) + 1) = (W ((W ((W ((W ((W ((W ((W ((W ((l_markIntS x.Doc.Salts (l_markStringS x.Doc.Parts (W ((W ((W (k + 1)) + 1)) + 1))).2).2 + 1)) + 1)) + 1)) + 1)) + 1)) + 1)) + 1)) + 1)) + 1 := wrap_of (by omega) (by omega)
  obtain ⟨m18, n18, h18⟩ := l_markPieceS_mh x.Strand.Pieces (W ((W ((W ((W ((W ((W ((W ((W ((W ((l_markIntS x.Doc.Salts (l_markStringS x.Doc.Parts (W ((W ((W (k + 1)) + 1)) + 1))).2).2 + 1)) + 1)) + 1)) + 1)) + 1)) + 1)) + 1)) + 1)) + 1)) (by omega) (by omega)
  have q18 := l_markPieceS_cnt x.Strand.Pieces (W ((W ((W ((W ((W ((W ((W ((W ((W ((l_markIntS x.Doc.Salts (l_markStringS x.Doc.Parts (W ((W ((W (k + 1)) + 1)) + 1))).2).2 + 1)) + 1)) + 1)) + 1)) + 1)) + 1)) + 1)) + 1)) + 1)) (by omega) (by omega)
  have o18 : ¬ (l_markPieceS x.Strand.Pieces (W ((W ((W ((W ((W ((W ((W ((W ((W ((l_markIntS x.Doc.Salts (l_markStringS x.Doc.Parts (W ((W ((W (k + 1)) + 1)) + 1))).2).2 + 1)) + 1)) + 1)) + 1)) + 1)) + 1)) + 1)) + 1)) + 1))).2 < 0 := by omega
  obtain ⟨m21, n21, h21⟩ := l_markRenewalS_mh x.Strand.Chain (l_markPieceS x.Strand.Pieces (W ((W ((W ((W ((W ((W ((W ((W ((W ((l_markIntS x.Doc.Salts (l_markStringS x.Doc.Parts (W ((W ((W (k + 1)) + 1)) + 1))).2).2 + 1)) + 1)) + 1)) + 1)) + 1)) + 1)) + 1)) + 1)) + 1))).2 (by omega) (by omega)
  have q21 := l_markRenewalS_cnt x.Strand.Chain (l_markPieceS x.Strand.Pieces (W ((W ((W ((W ((W ((W ((W ((W ((W ((l_markIntS x.Doc.Salts (l_markStringS x.Doc.Parts (W ((W ((W (k + 1)) + 1)) + 1))).2).2 + 1)) + 1)) + 1)) + 1)) + 1)) + 1)) + 1)) + 1)) + 1))).2 (by omega) (by omega)
  have o21 : ¬ (l_markRenewalS x.Strand.Chain (l_markPieceS x.Strand.Pieces (W ((W ((W ((W ((W ((W ((W ((W ((W ((l_markIntS x.Doc.Salts (l_markStringS x.Doc.Parts (W ((W ((W (k + 1)) + 1)) + 1))).2).2 + 1)) + 1)) + 1)) + 1)) + 1)) + 1)) + 1)) + 1)) + 1))).2).2 < 0 := by omega
  simp [h3, h6, h18, h21, o3, o6, o18, o21]
theorem l_markItemS_mh (a0 : List TItem) (a1 : Int) (h0 : 0 ≤ a1) (h : a1 + (cn a0 : Nat) < 4611686018427387904) : a1 ≤ (l_markItemS a0 a1).2 ∧ (l_markItemS a0 a1).2 ≤ a1 + (cn a0 : Nat) ∧ l_heldItemS (l_markItemS a0 a1).1 a1 = (l_markItemS a0 a1).2 := by
  rw [l_markItemS_eq]
  have s := mkL_snd l_markItemS_c a0 a1 h0 h
  have hh := held_loop (z := (mkL (fun (x : TItem) (k : Int) => ((TItem.mk k (W (k + 1)) (TDocument.mk (W ((W (k + 1)) + 1)) (l_markStringS x.Doc.Parts (W ((W ((W (k + 1)) + 1)) + 1))).1 (l_markIntS x.Doc.Salts (l_markStringS x.Doc.Parts (W ((W ((W (k + 1)) + 1)) + 1))).2).1) (TSignature.mk (l_markIntS x.Doc.Salts (l_markStringS x.Doc.Parts (W ((W ((W (k + 1)) + 1)) + 1))).2).2 (W ((l_markIntS x.Doc.Salts (l_markStringS x.Doc.Parts (W ((W ((W (k + 1)) + 1)) + 1))).2).2 + 1)) (W ((W ((l_markIntS x.Doc.Salts (l_markStringS x.Doc.Parts (W ((W ((W (k + 1)) + 1)) + 1))).2).2 + 1)) + 1)) (W ((W ((W ((l_markIntS x.Doc.Salts (l_markStringS x.Doc.Parts (W ((W ((W (k + 1)) + 1)) + 1))).2).2 + 1)) + 1)) + 1)) (W ((W ((W ((W ((l_markIntS x.Doc.Salts (l_markStringS x.Doc.Parts (W ((W ((W (k + 1)) + 1)) + 1))).2).2 + 1)) + 1)) + 1)) + 1)) (W ((W ((W ((W ((W ((l_markIntS x.Doc.Salts (l_markStringS x.Doc.Parts (W ((W ((W (k + 1)) + 1)) + 1))).2).2 + 1)) + 1)) + 1)) + 1)) + 1)) (W ((W ((W ((W ((W ((W ((l_markIntS x.Doc.Salts (l_markStringS x.Doc.Parts (W ((W ((W (k + 1)) + 1)) + 1))).2).2 + 1)) + 1)) + 1)) + 1)) + 1)) + 1)) (W ((W ((W ((W ((W ((W ((W ((l_markIntS x.Doc.Salts (l_markStringS x.Doc.Parts (W ((W ((W (k + 1)) + 1)) + 1))).2).2 + 1)) + 1)) + 1)) + 1)) + 1)) + 1)) + 1)) (W ((W ((W ((W ((W ((W ((W ((W ((l_markIntS x.Doc.Salts (l_markStringS x.Doc.Parts (W ((W ((W (k + 1)) + 1)) + 1))).2).2 + 1)) + 1)) + 1)) + 1)) + 1)) + 1)) + 1)) + 1))) (TStrand.mk (l_markPieceS x.Strand.Pieces (W ((W ((W ((W ((W ((W ((W ((W ((W ((l_markIntS x.Doc.Salts (l_markStringS x.Doc.Parts (W ((W ((W (k + 1)) + 1)) + 1))).2).2 + 1)) + 1)) + 1)) + 1)) + 1)) + 1)) + 1)) + 1)) + 1))).1 (l_markRenewalS x.Strand.Chain (l_markPieceS x.Strand.Pieces (W ((W ((W ((W ((W ((W ((W ((W ((W ((l_markIntS x.Doc.Salts (l_markStringS x.Doc.Parts (W ((W ((W (k + 1)) + 1)) + 1))).2).2 + 1)) + 1)) + 1)) + 1)) + 1)) + 1)) + 1)) + 1)) + 1))).2).1)), (l_markRenewalS x.Strand.Chain (l_markPieceS x.Strand.Pieces (W ((W ((W ((W ((W ((W ((W ((W ((W ((l_markIntS x.Doc.Salts (l_markStringS x.Doc.Parts (W ((W ((W (k + 1)) + 1)) + 1))).2).2 + 1)) + 1)) + 1)) + 1)) + 1)) + 1)) + 1)) + 1)) + 1))).2).2)) a0 a1).1) (H := l_heldItemS_1 (mkL (fun (x : TItem) (k : Int) => ((TItem.mk k (W (k + 1)) (TDocument.mk (W ((W (k + 1)) + 1)) (l_markStringS x.Doc.Parts (W ((W ((W (k + 1)) + 1)) + 1))).1 (l_markIntS x.Doc.Salts (l_markStringS x.Doc.Parts (W ((W ((W (k + 1)) + 1)) + 1))).2).1) (TSignature.mk (l_markIntS x.Doc.Salts (l_markStringS x.Doc.Parts (W ((W ((W (k + 1)) + 1)) + 1))).2).2 (W ((l_markIntS x.Doc.Salts (l_markStringS x.Doc.Parts (W ((W ((W (k + 1)) + 1)) + 1))).2).2 + 1)) (W ((W ((l_markIntS x.Doc.Salts (l_markStringS x.Doc.Parts (W ((W ((W (k + 1)) + 1)) + 1))).2).2 + 1)) + 1)) (W ((W ((W ((l_markIntS x.Doc.Salts (l_markStringS x.Doc.Parts (W ((W ((W (k + 1)) + 1)) + 1))).2).2 + 1)) + 1)) + 1)) (W ((W ((W ((W ((l_markIntS x.Doc.Salts (l_markStringS x.Doc.Parts (W ((W ((W (k + 1)) + 1)) + 1))).2).2 + 1)) + 1)) + 1)) + 1)) (W ((W ((W ((W ((W ((l_markIntS x.Doc.Salts (l_markStringS x.Doc.Parts (W ((W ((W (k + 1)) + 1)) + 1))).2).2 + 1)) + 1)) + 1)) + 1)) + 1)) (W ((W ((W ((W ((W ((W ((l_markIntS x.Doc.Salts (l_markStringS x.Doc.Parts (W ((W ((W (k + 1)) + 1)) + 1))).2).2 + 1)) + 1)) + 1)) + 1)) + 1)) + 1)) (W ((W ((W ((W ((W ((W ((W ((l_markIntS x.Doc.Salts (l_markStringS x.Doc.Parts (W ((W ((W (k + 1)) + 1)) + 1))).2).2 + 1)) + 1)) + 1)) + 1)) + 1)) + 1)) + 1)) (W ((W ((W ((W ((W ((W ((W ((W ((l_markIntS x.Doc.Salts (l_markStringS x.Doc.Parts (W ((W ((W (k + 1)) + 1)) + 1))).2).2 + 1)) + 1)) + 1)) + 1)) + 1)) + 1)) + 1)) + 1))) (TStrand.mk (l_markPieceS x.Strand.Pieces (W ((W ((W ((W ((W ((W ((W ((W ((W ((l_markIntS x.Doc.Salts (l_markStringS x.Doc.Parts (W ((W ((W (k + 1)) + 1)) + 1))).2).2 + 1)) + 1)) + 1)) + 1)) + 1)) + 1)) + 1)) + 1)) + 1))).1 (l_markRenewalS x.Strand.Chain (l_markPieceS x.Strand.Pieces (W ((W ((W ((W ((W ((W ((W ((W ((W ((l_markIntS x.Doc.Salts (l_markStringS x.Doc.Parts (W ((W ((W (k + 1)) + 1)) + 1))).2).2 + 1)) + 1)) + 1)) + 1)) + 1)) + 1)) + 1)) + 1)) + 1))).2).1)), (l_markRenewalS x.Strand.Chain (l_markPieceS x.Strand.Pieces (W ((W ((W ((W ((W ((W ((W ((W ((W ((l_markIntS x.Doc.Salts (l_markStringS x.Doc.Parts (W ((W ((W (k + 1)) + 1)) + 1))).2).2 + 1)) + 1)) + 1)) + 1)) + 1)) + 1)) + 1)) + 1)) + 1))).2).2)) a0 a1).1) (G := (fun (x : TItem) (k : Int) (r : Int → Sum Int Int) => (bif (x.Id != k) then (.inl (-1)) else (bif (x.Keep != (W (k + 1))) then (.inl (-1)) else (bif (x.Doc.Title != (W ((W (k + 1)) + 1))) then (.inl (-1)) else (bif (decide ((l_heldStringS x.Doc.Parts (W ((W ((W (k + 1)) + 1)) + 1))) < 0)) then (.inl (-1)) else (bif (decide ((l_heldIntS x.Doc.Salts (l_heldStringS x.Doc.Parts (W ((W ((W (k + 1)) + 1)) + 1)))) < 0)) then (.inl (-1)) else (bif (x.Sig.Key != (l_heldIntS x.Doc.Salts (l_heldStringS x.Doc.Parts (W ((W ((W (k + 1)) + 1)) + 1))))) then (.inl (-1)) else (bif (x.Sig.Serial != (W ((l_heldIntS x.Doc.Salts (l_heldStringS x.Doc.Parts (W ((W ((W (k + 1)) + 1)) + 1)))) + 1))) then (.inl (-1)) else (bif (x.Sig.Method != (W ((W ((l_heldIntS x.Doc.Salts (l_heldStringS x.Doc.Parts (W ((W ((W (k + 1)) + 1)) + 1)))) + 1)) + 1))) then (.inl (-1)) else (bif (x.Sig.Digest != (W ((W ((W ((l_heldIntS x.Doc.Salts (l_heldStringS x.Doc.Parts (W ((W ((W (k + 1)) + 1)) + 1)))) + 1)) + 1)) + 1))) then (.inl (-1)) else (bif (x.Sig.Commit != (W ((W ((W ((W ((l_heldIntS x.Doc.Salts (l_heldStringS x.Doc.Parts (W ((W ((W (k + 1)) + 1)) + 1)))) + 1)) + 1)) + 1)) + 1))) then (.inl (-1)) else (bif (x.Sig.Org != (W ((W ((W ((W ((W ((l_heldIntS x.Doc.Salts (l_heldStringS x.Doc.Parts (W ((W ((W (k + 1)) + 1)) + 1)))) + 1)) + 1)) + 1)) + 1)) + 1))) then (.inl (-1)) else (bif (x.Sig.Before != (W ((W ((W ((W ((W ((W ((l_heldIntS x.Doc.Salts (l_heldStringS x.Doc.Parts (W ((W ((W (k + 1)) + 1)) + 1)))) + 1)) + 1)) + 1)) + 1)) + 1)) + 1))) then (.inl (-1)) else (bif (x.Sig.After != (W ((W ((W ((W ((W ((W ((W ((l_heldIntS x.Doc.Salts (l_heldStringS x.Doc.Parts (W ((W ((W (k + 1)) + 1)) + 1)))) + 1)) + 1)) + 1)) + 1)) + 1)) + 1)) + 1))) then (.inl (-1)) else (bif (x.Sig.Mark != (W ((W ((W ((W ((W ((W ((W ((W ((l_heldIntS x.Doc.Salts (l_heldStringS x.Doc.Parts (W ((W ((W (k + 1)) + 1)) + 1)))) + 1)) + 1)) + 1)) + 1)) + 1)) + 1)) + 1)) + 1))) then (.inl (-1)) else (bif (decide ((l_heldPieceS x.Strand.Pieces (W ((W ((W ((W ((W ((W ((W ((W ((W ((l_heldIntS x.Doc.Salts (l_heldStringS x.Doc.Parts (W ((W ((W (k + 1)) + 1)) + 1)))) + 1)) + 1)) + 1)) + 1)) + 1)) + 1)) + 1)) + 1)) + 1))) < 0)) then (.inl (-1)) else (bif (decide ((l_heldRenewalS x.Strand.Chain (l_heldPieceS x.Strand.Pieces (W ((W ((W ((W ((W ((W ((W ((W ((W ((l_heldIntS x.Doc.Salts (l_heldStringS x.Doc.Parts (W ((W ((W (k + 1)) + 1)) + 1)))) + 1)) + 1)) + 1)) + 1)) + 1)) + 1)) + 1)) + 1)) + 1)))) < 0)) then (.inl (-1)) else (r (l_heldRenewalS x.Strand.Chain (l_heldPieceS x.Strand.Pieces (W ((W ((W ((W ((W ((W ((W ((W ((W ((l_heldIntS x.Doc.Salts (l_heldStringS x.Doc.Parts (W ((W ((W (k + 1)) + 1)) + 1)))) + 1)) + 1)) + 1)) + 1)) + 1)) + 1)) + 1)) + 1)) + 1))))))))))))))))))))))) (fun _ _ _ => rfl) l_markItemS_c l_markItemS_g a0 [] ((mkL (fun (x : TItem) (k : Int) => ((TItem.mk k (W (k + 1)) (TDocument.mk (W ((W (k + 1)) + 1)) (l_markStringS x.Doc.Parts (W ((W ((W (k + 1)) + 1)) + 1))).1 (l_markIntS x.Doc.Salts (l_markStringS x.Doc.Parts (W ((W ((W (k + 1)) + 1)) + 1))).2).1) (TSignature.mk (l_markIntS x.Doc.Salts (l_markStringS x.Doc.Parts (W ((W ((W (k + 1)) + 1)) + 1))).2).2 (W ((l_markIntS x.Doc.Salts (l_markStringS x.Doc.Parts (W ((W ((W (k + 1)) + 1)) + 1))).2).2 + 1)) (W ((W ((l_markIntS x.Doc.Salts (l_markStringS x.Doc.Parts (W ((W ((W (k + 1)) + 1)) + 1))).2).2 + 1)) + 1)) (W ((W ((W ((l_markIntS x.Doc.Salts (l_markStringS x.Doc.Parts (W ((W ((W (k + 1)) + 1)) + 1))).2).2 + 1)) + 1)) + 1)) (W ((W ((W ((W ((l_markIntS x.Doc.Salts (l_markStringS x.Doc.Parts (W ((W ((W (k + 1)) + 1)) + 1))).2).2 + 1)) + 1)) + 1)) + 1)) (W ((W ((W ((W ((W ((l_markIntS x.Doc.Salts (l_markStringS x.Doc.Parts (W ((W ((W (k + 1)) + 1)) + 1))).2).2 + 1)) + 1)) + 1)) + 1)) + 1)) (W ((W ((W ((W ((W ((W ((l_markIntS x.Doc.Salts (l_markStringS x.Doc.Parts (W ((W ((W (k + 1)) + 1)) + 1))).2).2 + 1)) + 1)) + 1)) + 1)) + 1)) + 1)) (W ((W ((W ((W ((W ((W ((W ((l_markIntS x.Doc.Salts (l_markStringS x.Doc.Parts (W ((W ((W (k + 1)) + 1)) + 1))).2).2 + 1)) + 1)) + 1)) + 1)) + 1)) + 1)) + 1)) (W ((W ((W ((W ((W ((W ((W ((W ((l_markIntS x.Doc.Salts (l_markStringS x.Doc.Parts (W ((W ((W (k + 1)) + 1)) + 1))).2).2 + 1)) + 1)) + 1)) + 1)) + 1)) + 1)) + 1)) + 1))) (TStrand.mk (l_markPieceS x.Strand.Pieces (W ((W ((W ((W ((W ((W ((W ((W ((W ((l_markIntS x.Doc.Salts (l_markStringS x.Doc.Parts (W ((W ((W (k + 1)) + 1)) + 1))).2).2 + 1)) + 1)) + 1)) + 1)) + 1)) + 1)) + 1)) + 1)) + 1))).1 (l_markRenewalS x.Strand.Chain (l_markPieceS x.Strand.Pieces (W ((W ((W ((W ((W ((W ((W ((W ((W ((l_markIntS x.Doc.Salts (l_markStringS x.Doc.Parts (W ((W ((W (k + 1)) + 1)) + 1))).2).2 + 1)) + 1)) + 1)) + 1)) + 1)) + 1)) + 1)) + 1)) + 1))).2).1)), (l_markRenewalS x.Strand.Chain (l_markPieceS x.Strand.Pieces (W ((W ((W ((W ((W ((W ((W ((W ((W ((l_markIntS x.Doc.Salts (l_markStringS x.Doc.Parts (W ((W ((W (k + 1)) + 1)) + 1))).2).2 + 1)) + 1)) + 1)) + 1)) + 1)) + 1)) + 1)) + 1)) + 1))).2).2)) a0 a1).1.length + 1) a1 (by simp) (by rw [mkL_len]; omega) h0 h
  simp only [List.length_nil] at hh
  rw [cn_list] at *
  refine ⟨by omega, by omega, ?_⟩
  unfold l_heldItemS
  rw [hh]
theorem l_markArchiveS_eq (a0 : List TArchive) (a1 : Int) : l_markArchiveS a0 a1 = mkL (fun (x : TArchive) (k : Int) => ((TArchive.mk k (l_markItemS x.Items (W (k + 1))).1), (l_markItemS x.Items (W (k + 1))).2)) a0 a1 := by
  have h := mark_loop (F := l_markArchiveS_1) (f := (fun (x : TArchive) (k : Int) => ((TArchive.mk k (l_markItemS x.Items (W (k + 1))).1), (l_markItemS x.Items (W (k + 1))).2))) (fun _ _ _ _ => rfl) a0 [] (a0.length + 1) a1 (by omega)
  unfold l_markArchiveS
  simp only [List.length_nil, List.nil_append] at h
  rw [h]
@[simp] theorem l_markArchiveS_len (a0 : List TArchive) (a1 : Int) : (l_markArchiveS a0 a1).1.length = a0.length := by rw [l_markArchiveS_eq, mkL_len]
theorem l_markArchiveS_c : ∀ (x : TArchive) (k : Int), 0 ≤ k → k + (cn x : Nat) < 4611686018427387904 → ((fun (x : TArchive) (k : Int) => ((TArchive.mk k (l_markItemS x.Items (W (k + 1))).1), (l_markItemS x.Items (W (k + 1))).2)) x k).2 = k + (cn x : Nat) := by
  intro x k h0 h
  simp only [cn_int, cn_bool, cn_u8, cn_str, TArchive.cn_eq] at h ⊢
  have e0 : W (k + 1) = k + 1 := wrap_of (by omega) (by omega)
  obtain ⟨m1, n1⟩ := l_markItemS_mk x.Items (W (k + 1)) (by omega) (by omega)
  have q1 := l_markItemS_cnt x.Items (W (k + 1)) (by omega) (by omega)
  have o1 : ¬ (l_markItemS x.Items (W (k + 1))).2 < 0 := by omega
  omega
theorem l_markArchiveS_cnt (a0 : List TArchive) (a1 : Int) (h0 : 0 ≤ a1) (h : a1 + (cn a0 : Nat) < 4611686018427387904) : (l_markArchiveS a0 a1).2 = a1 + (cn a0 : Nat) := by
  rw [l_markArchiveS_eq]
  exact mkL_snd l_markArchiveS_c a0 a1 h0 h
theorem l_markArchiveS_mk (a0 : List TArchive) (a1 : Int) (h0 : 0 ≤ a1) (h : a1 + (cn a0 : Nat) < 4611686018427387904) : a1 ≤ (l_markArchiveS a0 a1).2 ∧ (l_markArchiveS a0 a1).2 ≤ a1 + (cn a0 : Nat) := by
  have := l_markArchiveS_cnt a0 a1 h0 h
  omega
theorem l_markArchiveS_g : ∀ (x : TArchive) (k : Int) (r : Int → Sum Int Int), 0 ≤ k → k + (cn x : Nat) < 4611686018427387904 → (fun (x : TArchive) (k : Int) (r : Int → Sum Int Int) => (bif (x.Id != k) then (.inl (-1)) else (bif (decide ((l_heldItemS x.Items (W (k + 1))) < 0)) then (.inl (-1)) else (r (l_heldItemS x.Items (W (k + 1))))))) ((fun (x : TArchive) (k : Int) => ((TArchive.mk k (l_markItemS x.Items (W (k + 1))).1), (l_markItemS x.Items (W (k + 1))).2)) x k).1 k r = r ((fun (x : TArchive) (k : Int) => ((TArchive.mk k (l_markItemS x.Items (W (k + 1))).1), (l_markItemS x.Items (W (k + 1))).2)) x k).2 := by
  intro x k r h0 h
  simp only [cn_int, cn_bool, cn_u8, cn_str, TArchive.cn_eq] at h
  have e0 : W (k + 1) = k + 1 := wrap_of (by omega) (by omega)
  obtain ⟨m1, n1, h1⟩ := l_markItemS_mh x.Items (W (k + 1)) (by omega) (by omega)
  have q1 := l_markItemS_cnt x.Items (W (k + 1)) (by omega) (by omega)
  have o1 : ¬ (l_markItemS x.Items (W (k + 1))).2 < 0 := by omega
  simp [h1, o1]
theorem l_markArchiveS_mh (a0 : List TArchive) (a1 : Int) (h0 : 0 ≤ a1) (h : a1 + (cn a0 : Nat) < 4611686018427387904) : a1 ≤ (l_markArchiveS a0 a1).2 ∧ (l_markArchiveS a0 a1).2 ≤ a1 + (cn a0 : Nat) ∧ l_heldArchiveS (l_markArchiveS a0 a1).1 a1 = (l_markArchiveS a0 a1).2 := by
  rw [l_markArchiveS_eq]
  have s := mkL_snd l_markArchiveS_c a0 a1 h0 h
  have hh := held_loop (z := (mkL (fun (x : TArchive) (k : Int) => ((TArchive.mk k (l_markItemS x.Items (W (k + 1))).1), (l_markItemS x.Items (W (k + 1))).2)) a0 a1).1) (H := l_heldArchiveS_1 (mkL (fun (x : TArchive) (k : Int) => ((TArchive.mk k (l_markItemS x.Items (W (k + 1))).1), (l_markItemS x.Items (W (k + 1))).2)) a0 a1).1) (G := (fun (x : TArchive) (k : Int) (r : Int → Sum Int Int) => (bif (x.Id != k) then (.inl (-1)) else (bif (decide ((l_heldItemS x.Items (W (k + 1))) < 0)) then (.inl (-1)) else (r (l_heldItemS x.Items (W (k + 1)))))))) (fun _ _ _ => rfl) l_markArchiveS_c l_markArchiveS_g a0 [] ((mkL (fun (x : TArchive) (k : Int) => ((TArchive.mk k (l_markItemS x.Items (W (k + 1))).1), (l_markItemS x.Items (W (k + 1))).2)) a0 a1).1.length + 1) a1 (by simp) (by rw [mkL_len]; omega) h0 h
  simp only [List.length_nil] at hh
  rw [cn_list] at *
  refine ⟨by omega, by omega, ?_⟩
  unfold l_heldArchiveS
  rw [hh]
@[simp] theorem l_markWorld_Frame_Keys_len (a0 : TWorld) (a1 : Int) : (l_markWorld a0 a1).1.Frame.Keys.length = a0.Frame.Keys.length := by simp [l_markWorld]
@[simp] theorem l_markWorld_Frame_Authorities_len (a0 : TWorld) (a1 : Int) : (l_markWorld a0 a1).1.Frame.Authorities.length = a0.Frame.Authorities.length := by simp [l_markWorld]
@[simp] theorem l_markWorld_Frame_Methods_len (a0 : TWorld) (a1 : Int) : (l_markWorld a0 a1).1.Frame.Methods.length = a0.Frame.Methods.length := by simp [l_markWorld]
@[simp] theorem l_markWorld_Frame_Liars (a0 : TWorld) (a1 : Int) : (l_markWorld a0 a1).1.Frame.Liars = a0.Frame.Liars := rfl
@[simp] theorem l_markWorld_Frame_Now (a0 : TWorld) (a1 : Int) : (l_markWorld a0 a1).1.Frame.Now = a0.Frame.Now := rfl
@[simp] theorem l_markWorld_Certs_len (a0 : TWorld) (a1 : Int) : (l_markWorld a0 a1).1.Certs.length = a0.Certs.length := by simp [l_markWorld]
@[simp] theorem l_markWorld_Ended_len (a0 : TWorld) (a1 : Int) : (l_markWorld a0 a1).1.Ended.length = a0.Ended.length := by simp [l_markWorld]
@[simp] theorem l_markWorld_Archives_len (a0 : TWorld) (a1 : Int) : (l_markWorld a0 a1).1.Archives.length = a0.Archives.length := by simp [l_markWorld]
@[simp] theorem l_markWorld_Seqs_len (a0 : TWorld) (a1 : Int) : (l_markWorld a0 a1).1.Seqs.length = a0.Seqs.length := by simp [l_markWorld]
@[simp] theorem l_markWorld_Lying_len (a0 : TWorld) (a1 : Int) : (l_markWorld a0 a1).1.Lying.length = a0.Lying.length := by simp [l_markWorld]
@[simp] theorem l_markWorld_Next (a0 : TWorld) (a1 : Int) : (l_markWorld a0 a1).1.Next = a0.Next := rfl
@[simp] theorem l_markWorld_Forged_len (a0 : TWorld) (a1 : Int) : (l_markWorld a0 a1).1.Forged.length = a0.Forged.length := by simp [l_markWorld]
theorem l_markWorld_mk (a0 : TWorld) (a1 : Int) (h0 : 0 ≤ a1) (h : a1 + (cn a0 : Nat) < 4611686018427387904) : a1 ≤ (l_markWorld a0 a1).2 ∧ (l_markWorld a0 a1).2 ≤ a1 + (cn a0 : Nat) := by
  simp only [cn_int, cn_bool, cn_str, TWorld.cn_eq] at h ⊢
  obtain ⟨m0, n0⟩ := l_markFrame_mk a0.Frame a1 (by omega) (by omega)
  have o0 : ¬ (l_markFrame a0.Frame a1).2 < 0 := by omega
  obtain ⟨m2, n2⟩ := l_markCertS_mk a0.Certs (l_markFrame a0.Frame a1).2 (by omega) (by omega)
  have q2 := l_markCertS_cnt a0.Certs (l_markFrame a0.Frame a1).2 (by omega) (by omega)
  have o2 : ¬ (l_markCertS a0.Certs (l_markFrame a0.Frame a1).2).2 < 0 := by omega
  obtain ⟨m5, n5⟩ := l_markIntS_mk a0.Ended (l_markCertS a0.Certs (l_markFrame a0.Frame a1).2).2 (by omega) (by omega)
  have q5 := l_markIntS_cnt a0.Ended (l_markCertS a0.Certs (l_markFrame a0.Frame a1).2).2 (by omega) (by omega)
  have o5 : ¬ (l_markIntS a0.Ended (l_markCertS a0.Certs (l_markFrame a0.Frame a1).2).2).2 < 0 := by omega
  obtain ⟨m8, n8⟩ := l_markArchiveS_mk a0.Archives (l_markIntS a0.Ended (l_markCertS a0.Certs (l_markFrame a0.Frame a1).2).2).2 (by omega) (by omega)
  have q8 := l_markArchiveS_cnt a0.Archives (l_markIntS a0.Ended (l_markCertS a0.Certs (l_markFrame a0.Frame a1).2).2).2 (by omega) (by omega)
  have o8 : ¬ (l_markArchiveS a0.Archives (l_markIntS a0.Ended (l_markCertS a0.Certs (l_markFrame a0.Frame a1).2).2).2).2 < 0 := by omega
  obtain ⟨m11, n11⟩ := l_markIntS_mk a0.Seqs (l_markArchiveS a0.Archives (l_markIntS a0.Ended (l_markCertS a0.Certs (l_markFrame a0.Frame a1).2).2).2).2 (by omega) (by omega)
  have q11 := l_markIntS_cnt a0.Seqs (l_markArchiveS a0.Archives (l_markIntS a0.Ended (l_markCertS a0.Certs (l_markFrame a0.Frame a1).2).2).2).2 (by omega) (by omega)
  have o11 : ¬ (l_markIntS a0.Seqs (l_markArchiveS a0.Archives (l_markIntS a0.Ended (l_markCertS a0.Certs (l_markFrame a0.Frame a1).2).2).2).2).2 < 0 := by omega
  obtain ⟨m14, n14⟩ := l_markIntS_mk a0.Lying (l_markIntS a0.Seqs (l_markArchiveS a0.Archives (l_markIntS a0.Ended (l_markCertS a0.Certs (l_markFrame a0.Frame a1).2).2).2).2).2 (by omega) (by omega)
  have q14 := l_markIntS_cnt a0.Lying (l_markIntS a0.Seqs (l_markArchiveS a0.Archives (l_markIntS a0.Ended (l_markCertS a0.Certs (l_markFrame a0.Frame a1).2).2).2).2).2 (by omega) (by omega)
  have o14 : ¬ (l_markIntS a0.Lying (l_markIntS a0.Seqs (l_markArchiveS a0.Archives (l_markIntS a0.Ended (l_markCertS a0.Certs (l_markFrame a0.Frame a1).2).2).2).2).2).2 < 0 := by omega
  obtain ⟨m17, n17⟩ := l_markIntS_mk a0.Forged (l_markIntS a0.Lying (l_markIntS a0.Seqs (l_markArchiveS a0.Archives (l_markIntS a0.Ended (l_markCertS a0.Certs (l_markFrame a0.Frame a1).2).2).2).2).2).2 (by omega) (by omega)
  have q17 := l_markIntS_cnt a0.Forged (l_markIntS a0.Lying (l_markIntS a0.Seqs (l_markArchiveS a0.Archives (l_markIntS a0.Ended (l_markCertS a0.Certs (l_markFrame a0.Frame a1).2).2).2).2).2).2 (by omega) (by omega)
  have o17 : ¬ (l_markIntS a0.Forged (l_markIntS a0.Lying (l_markIntS a0.Seqs (l_markArchiveS a0.Archives (l_markIntS a0.Ended (l_markCertS a0.Certs (l_markFrame a0.Frame a1).2).2).2).2).2).2).2 < 0 := by omega
  refine ⟨by simp only [l_markWorld]; omega, by simp only [l_markWorld]; omega⟩
theorem l_markWorld_mh (a0 : TWorld) (a1 : Int) (h0 : 0 ≤ a1) (h : a1 + (cn a0 : Nat) < 4611686018427387904) : a1 ≤ (l_markWorld a0 a1).2 ∧ (l_markWorld a0 a1).2 ≤ a1 + (cn a0 : Nat) ∧ l_heldWorld (l_markWorld a0 a1).1 a1 = (l_markWorld a0 a1).2 := by
  simp only [cn_int, cn_bool, cn_str, TWorld.cn_eq] at h ⊢
  obtain ⟨m0, n0, h0⟩ := l_markFrame_mh a0.Frame a1 (by omega) (by omega)
  have o0 : ¬ (l_markFrame a0.Frame a1).2 < 0 := by omega
  obtain ⟨m2, n2, h2⟩ := l_markCertS_mh a0.Certs (l_markFrame a0.Frame a1).2 (by omega) (by omega)
  have q2 := l_markCertS_cnt a0.Certs (l_markFrame a0.Frame a1).2 (by omega) (by omega)
  have o2 : ¬ (l_markCertS a0.Certs (l_markFrame a0.Frame a1).2).2 < 0 := by omega
  obtain ⟨m5, n5, h5⟩ := l_markIntS_mh a0.Ended (l_markCertS a0.Certs (l_markFrame a0.Frame a1).2).2 (by omega) (by omega)
  have q5 := l_markIntS_cnt a0.Ended (l_markCertS a0.Certs (l_markFrame a0.Frame a1).2).2 (by omega) (by omega)
  have o5 : ¬ (l_markIntS a0.Ended (l_markCertS a0.Certs (l_markFrame a0.Frame a1).2).2).2 < 0 := by omega
  obtain ⟨m8, n8, h8⟩ := l_markArchiveS_mh a0.Archives (l_markIntS a0.Ended (l_markCertS a0.Certs (l_markFrame a0.Frame a1).2).2).2 (by omega) (by omega)
  have q8 := l_markArchiveS_cnt a0.Archives (l_markIntS a0.Ended (l_markCertS a0.Certs (l_markFrame a0.Frame a1).2).2).2 (by omega) (by omega)
  have o8 : ¬ (l_markArchiveS a0.Archives (l_markIntS a0.Ended (l_markCertS a0.Certs (l_markFrame a0.Frame a1).2).2).2).2 < 0 := by omega
  obtain ⟨m11, n11, h11⟩ := l_markIntS_mh a0.Seqs (l_markArchiveS a0.Archives (l_markIntS a0.Ended (l_markCertS a0.Certs (l_markFrame a0.Frame a1).2).2).2).2 (by omega) (by omega)
  have q11 := l_markIntS_cnt a0.Seqs (l_markArchiveS a0.Archives (l_markIntS a0.Ended (l_markCertS a0.Certs (l_markFrame a0.Frame a1).2).2).2).2 (by omega) (by omega)
  have o11 : ¬ (l_markIntS a0.Seqs (l_markArchiveS a0.Archives (l_markIntS a0.Ended (l_markCertS a0.Certs (l_markFrame a0.Frame a1).2).2).2).2).2 < 0 := by omega
  obtain ⟨m14, n14, h14⟩ := l_markIntS_mh a0.Lying (l_markIntS a0.Seqs (l_markArchiveS a0.Archives (l_markIntS a0.Ended (l_markCertS a0.Certs (l_markFrame a0.Frame a1).2).2).2).2).2 (by omega) (by omega)
  have q14 := l_markIntS_cnt a0.Lying (l_markIntS a0.Seqs (l_markArchiveS a0.Archives (l_markIntS a0.Ended (l_markCertS a0.Certs (l_markFrame a0.Frame a1).2).2).2).2).2 (by omega) (by omega)
  have o14 : ¬ (l_markIntS a0.Lying (l_markIntS a0.Seqs (l_markArchiveS a0.Archives (l_markIntS a0.Ended (l_markCertS a0.Certs (l_markFrame a0.Frame a1).2).2).2).2).2).2 < 0 := by omega
  obtain ⟨m17, n17, h17⟩ := l_markIntS_mh a0.Forged (l_markIntS a0.Lying (l_markIntS a0.Seqs (l_markArchiveS a0.Archives (l_markIntS a0.Ended (l_markCertS a0.Certs (l_markFrame a0.Frame a1).2).2).2).2).2).2 (by omega) (by omega)
  have q17 := l_markIntS_cnt a0.Forged (l_markIntS a0.Lying (l_markIntS a0.Seqs (l_markArchiveS a0.Archives (l_markIntS a0.Ended (l_markCertS a0.Certs (l_markFrame a0.Frame a1).2).2).2).2).2).2 (by omega) (by omega)
  have o17 : ¬ (l_markIntS a0.Forged (l_markIntS a0.Lying (l_markIntS a0.Seqs (l_markArchiveS a0.Archives (l_markIntS a0.Ended (l_markCertS a0.Certs (l_markFrame a0.Frame a1).2).2).2).2).2).2).2 < 0 := by omega
  refine ⟨by simp only [l_markWorld]; omega, by simp only [l_markWorld]; omega, ?_⟩
  simp [l_markWorld, l_heldWorld, h0, h2, h5, h8, h11, h14, h17, o0, o2, o5, o8, o11, o14, o17]
@[simp] theorem l_markDocument_Title (a0 : TDocument) (a1 : Int) : (l_markDocument a0 a1).1.Title = a0.Title := rfl
@[simp] theorem l_markDocument_Parts_len (a0 : TDocument) (a1 : Int) : (l_markDocument a0 a1).1.Parts.length = a0.Parts.length := by simp [l_markDocument]
@[simp] theorem l_markDocument_Salts_len (a0 : TDocument) (a1 : Int) : (l_markDocument a0 a1).1.Salts.length = a0.Salts.length := by simp [l_markDocument]
theorem l_markDocument_mk (a0 : TDocument) (a1 : Int) (h0 : 0 ≤ a1) (h : a1 + (cn a0 : Nat) < 4611686018427387904) : a1 ≤ (l_markDocument a0 a1).2 ∧ (l_markDocument a0 a1).2 ≤ a1 + (cn a0 : Nat) := by
  simp only [cn_int, cn_bool, cn_str, TDocument.cn_eq] at h ⊢
  obtain ⟨m0, n0⟩ := l_markStringS_mk a0.Parts a1 (by omega) (by omega)
  have q0 := l_markStringS_cnt a0.Parts a1 (by omega) (by omega)
  have o0 : ¬ (l_markStringS a0.Parts a1).2 < 0 := by omega
  obtain ⟨m3, n3⟩ := l_markIntS_mk a0.Salts (l_markStringS a0.Parts a1).2 (by omega) (by omega)
  have q3 := l_markIntS_cnt a0.Salts (l_markStringS a0.Parts a1).2 (by omega) (by omega)
  have o3 : ¬ (l_markIntS a0.Salts (l_markStringS a0.Parts a1).2).2 < 0 := by omega
  refine ⟨by simp only [l_markDocument]; omega, by simp only [l_markDocument]; omega⟩
theorem s_FindMethod_lt (a0 : List TMethod) (a1 : Int) : s_FindMethod a0 a1 < (a0.length : Int) := find_lt (F := s_FindMethod_1 a0 a1) (c := fun v1_0 => ((nth a0 v1_0).Id == a1)) (fun _ => rfl) (fun _ _ => rfl) _ _
theorem i_FindMethod_lt (a0 : List TMethod) (a1 : Int) : i_FindMethod a0 a1 < (a0.length : Int) := find_lt (F := i_FindMethod_1 a0 a1) (c := fun v1_0 => ((nth a0 v1_0).Id == a1)) (fun _ => rfl) (fun _ _ => rfl) _ _
theorem s_CertInts_sm {n : Nat} {x : TCert} (h : 7 ≤ n) : Sm n (s_CertInts x) := ⟨by simp [s_CertInts]; omega, fun _ _ => trivial⟩
@[simp] theorem s_CertInts_len (x : TCert) : (s_CertInts x).length = 7 := rfl
theorem i_CertInts_sm {n : Nat} {x : TCert} (h : 7 ≤ n) : Sm n (i_CertInts x) := ⟨by simp [i_CertInts]; omega, fun _ _ => trivial⟩
@[simp] theorem i_CertInts_len (x : TCert) : (i_CertInts x).length = 7 := rfl
theorem s_SignatureInts_sm {n : Nat} {x : TSignature} (h : 9 ≤ n) : Sm n (s_SignatureInts x) := ⟨by simp [s_SignatureInts]; omega, fun _ _ => trivial⟩
@[simp] theorem s_SignatureInts_len (x : TSignature) : (s_SignatureInts x).length = 9 := rfl
theorem i_SignatureInts_sm {n : Nat} {x : TSignature} (h : 9 ≤ n) : Sm n (i_SignatureInts x) := ⟨by simp [i_SignatureInts]; omega, fun _ _ => trivial⟩
@[simp] theorem i_SignatureInts_len (x : TSignature) : (i_SignatureInts x).length = 9 := rfl
theorem s_IsStrand_pos {a : TStrand} (h : s_IsStrand a = true) : 0 < a.Pieces.length := by
  unfold s_IsStrand at h
  split at h
  · rename_i r e
    have : ∀ n v, s_IsStrand_1 a n v ≠ .inl true := by
      intro n
      induction n with
      | zero => intro v h; cases h
      | succ n ih =>
        intro v h
        rw [s_IsStrand_1] at h
        cases h1 : decide ((v : Int) < (a.Pieces.length : Int)) with
        | false => rw [h1] at h; cases h
        | true =>
          rw [h1] at h
          cases h2 : decide (s_FindPiece a (nth a.Pieces v) < (v : Int)) with
          | true => rw [h2] at h; cases h
          | false => rw [h2] at h; exact ih _ h
    subst h; exact absurd e (this _ _)
  · split at h
    · rename_i r e
      have : ∀ n v, s_IsStrand_2 a n v ≠ .inl true := by
        intro n
        induction n with
        | zero => intro v h; cases h
        | succ n ih =>
          intro v h
          rw [s_IsStrand_2] at h
          generalize decide ((v : Int) < (a.Chain.length : Int)) = c1 at h
          cases c1 with
          | false => cases h
          | true =>
            simp only [cond_true] at h
            generalize (!s_l1In (nth a.Chain v).Count 1 (a.Pieces.length : Int) || decide ((v : Int) > 0) && decide ((nth a.Chain (v - 1)).Count > (nth a.Chain v).Count)) = c2 at h
            cases c2 with
            | true => cases h
            | false => exact ih _ h
      subst h; exact absurd e (this _ _)
    · simp only [s_l1In, Bool.and_eq_true, decide_eq_true_eq] at h; omega
theorem i_IsStrand_pos {a : TStrand} (h : i_IsStrand a = true) : 0 < a.Pieces.length := by
  unfold i_IsStrand at h
  generalize (match i_IsStrand_1 a (a.Pieces.length + 1) 0 with | .inl r1 => r1 | .inr _ => (match i_IsStrand_2 a (a.Chain.length + 1) 0 with | .inl r2 => r2 | .inr _ => true)) = m at h
  cases hh : i_InRange (a.Pieces.length : Int) 1 12 with
  | false => rw [hh] at h; simp at h
  | true => simp only [i_InRange, Bool.and_eq_true, decide_eq_true_eq] at hh; omega
theorem s_IsDocument_len {a : TDocument} (h : s_IsDocument a = true) : a.Salts.length = a.Parts.length := by
  unfold s_IsDocument at h
  split at h
  · rename_i r e
    have : ∀ n v, s_IsDocument_1 a n v ≠ .inl true := by
      intro n
      induction n with
      | zero => intro v h; cases h
      | succ n ih =>
        intro v h
        rw [s_IsDocument_1] at h
        generalize decide ((v : Int) < (a.Parts.length : Int)) = c1 at h
        cases c1 with
        | false => cases h
        | true =>
          simp only [cond_true] at h
          generalize decide (((nth a.Parts v).size : Int) > 40) = c2 at h
          cases c2 with
          | true => cases h
          | false => exact ih _ h
    subst h; exact absurd e (this _ _)
  · split at h
    · rename_i r e
      have : ∀ n v, s_IsDocument_2 a n v ≠ .inl true := by
        intro n
        induction n with
        | zero => intro v h; cases h
        | succ n ih =>
          intro v h
          rw [s_IsDocument_2] at h
          generalize decide ((v : Int) < (a.Salts.length : Int)) = c1 at h
          cases c1 with
          | false => cases h
          | true =>
            simp only [cond_true] at h
            generalize (!s_l1In (nth a.Salts v) 1 1000000000000) = c2 at h
            cases c2 with
            | true => cases h
            | false => exact ih _ h
      subst h; exact absurd e (this _ _)
    · simp only [Bool.and_eq_true, beq_iff_eq] at h; omega
theorem i_IsDocument_len {a : TDocument} (h : i_IsDocument a = true) : a.Salts.length = a.Parts.length := by
  unfold i_IsDocument at h
  generalize (match i_IsDocument_1 a (a.Parts.length + 1) 0 with | .inl r1 => r1 | .inr _ => true) = m at h
  by_cases hh : a.Salts.length = a.Parts.length
  · exact hh
  · rw [show ((a.Salts.length : Int) != (a.Parts.length : Int)) = true by simp; omega] at h
    simp at h
theorem s_l1In_idx {a : Int} {n : Nat} (hn : n ≤ 9223372036854775807) (h : s_l1In a 0 (W ((n : Int) - 1)) = true) : 0 ≤ a ∧ a < n := by
  rw [W_sub1 n hn] at h
  simp only [s_l1In, Bool.and_eq_true, decide_eq_true_eq] at h; omega
theorem i_InRange_idx {a : Int} {n : Nat} (hn : n ≤ 9223372036854775807) (h : i_InRange a 0 (W ((n : Int) - 1)) = true) : 0 ≤ a ∧ a < n := by
  rw [W_sub1 n hn] at h
  simp only [i_InRange, Bool.and_eq_true, decide_eq_true_eq] at h; omega
@[simp] theorem i_bytesOf_len (l : List UInt8) : (i_bytesOf l).length = l.length := by
  have key : ∀ n (acc : List Int) v, l.length < n + v → v ≤ l.length → (i_bytesOf_1 l n acc v).length = acc.length + (l.length - v) := by
    intro n
    induction n with
    | zero => intro acc v h1 h2; omega
    | succ n ih =>
      intro acc v h1 h2
      rw [i_bytesOf_1]
      by_cases hv : v < l.length
      · rw [show decide ((v : Int) < (l.length : Int)) = true by simpa using hv, cond_true, ih _ (v + 1) (by omega) (by omega)]
        simp; omega
      · rw [show decide ((v : Int) < (l.length : Int)) = false by simpa using hv, cond_false]; omega
  have := key (l.length + 1) [] 0 (by omega) (by omega)
  simpa [i_bytesOf] using this
theorem s_CertPiece_sm {n : Nat} {x : TCert} (h : 7 ≤ n) : Sm n (s_CertPiece x) := s_CertInts_sm h
theorem i_CertPiece_sm {n : Nat} {x : TCert} (h : 7 ≤ n) : Sm n (i_CertPiece x) := i_CertInts_sm h
theorem s_SignPiece_sm {n : Nat} {x : TSignature} (h : 9 ≤ n) : Sm n (s_SignPiece x) := s_SignatureInts_sm h
theorem i_SignPiece_sm {n : Nat} {x : TSignature} (h : 9 ≤ n) : Sm n (i_SignPiece x) := i_SignatureInts_sm h
theorem s_l34Item_sm {n : Nat} {a0 : TWorld} {a1 : Int} {a2 : TDocument} {a3 a4 : Int} (h : Sm n a2) (hn : 9 ≤ n) : Sm n (s_l34Item a0 a1 a2 a3 a4).1 := by
  unfold s_l34Item
  cases ((decide ((s_BestMethod a0.Frame.Methods a0.Frame.Now) < 0)) || (decide ((s_l34CertOf a0 a1) < 0))) with
  | true => exact ⟨⟨sm_nil, sm_nil⟩, sm_nil, sm_nil⟩
  | false =>
    refine ⟨h, ⟨by simp; omega, fun y hy => ?_⟩, sm_nil⟩
    rcases List.mem_cons.1 hy with rfl | hy
    · exact s_SignPiece_sm (by omega)
    rcases List.mem_cons.1 hy with rfl | hy
    · exact s_CertPiece_sm (by omega)
    · cases hy
theorem i_AddItem_sm {n : Nat} {a0 : TArchive} {a1 : TItem} (h : Sm n a0) (hx : Sm (n + 1) a1) : Sm (n + 1) (i_AddItem a0 a1).1 := by
  have h1 : Sm (n + 1) a0 := sm_mono (Nat.le_succ n) h
  unfold i_AddItem
  cases ((decide ((i_FindItem a0 a1.Id) ≥ 0)) || (!(i_IsArchive a0))) with
  | true => exact h1
  | false =>
    simp only [cond_false]
    generalize i_AddItem_1 a0 a1 (a0.Items.length + 1) 0 = z
    cases (!(i_IsArchive (TArchive.mk a0.Id (((a0.Items.take z) ++ ([a1] : List TItem)) ++ (a0.Items.drop z))))) with
    | true => exact h1
    | false =>
      refine ⟨by have := TArchive.sm_Items h; have := this.1; simp; omega, fun y hy => ?_⟩
      have hy' : y ∈ a0.Items.take z ∨ y = a1 ∨ y ∈ a0.Items.drop z := by simpa using hy
      rcases hy' with hy | rfl | hy
      · exact h1.2 y (List.mem_of_mem_take hy)
      · exact hx
      · exact h1.2 y (List.mem_of_mem_drop hy)
theorem s_AddItem_1_sm {n : Nat} {a0 : TArchive} {a1 : TItem} (h : Sm n a0) (hx : Sm n a1) : ∀ (m : Nat) (b : Bool) (i : Nat) (l : List TItem), l.length ≤ i + (bif b then 1 else 0) → i ≤ a0.Items.length → (∀ y ∈ l, Sm n y) →
    (s_AddItem_1 a0 a1 m b i l).2.length ≤ a0.Items.length + (bif (s_AddItem_1 a0 a1 m b i l).1 then 1 else 0) ∧ ∀ y ∈ (s_AddItem_1 a0 a1 m b i l).2, Sm n y
  | 0, b, i, l, _, _, _ => ⟨Nat.zero_le _, fun y hy => by cases hy⟩
  | m + 1, b, i, l, hl, hi, hs => by
    unfold s_AddItem_1
    cases hc : decide ((↑i : Int) < (↑a0.Items.length : Int)) with
    | false =>
      simp only [cond_false]
      refine ⟨?_, hs⟩
      have : ¬ ((i : Int) < a0.Items.length) := by simpa using hc
      omega
    | true =>
      have hlt : i < a0.Items.length := by simpa using hc
      have hn : Sm n (nth a0.Items i) := sm_nth h
      simp only [cond_true]
      cases hd : ((!b) && (decide (a1.Id < (nth a0.Items i).Id))) with
      | true =>
        have hb : b = false := by cases b <;> simp_all
        subst hb
        simp only [cond_true]
        refine s_AddItem_1_sm h hx m true (i + 1) _ (by simp at hl ⊢; omega) hlt (fun y hy => ?_)
        simp only [List.append_assoc, List.mem_append, List.mem_cons, List.not_mem_nil, or_false] at hy
        rcases hy with hy | rfl | rfl
        · exact hs y hy
        · exact hx
        · exact hn
      | false =>
        simp only [cond_false]
        refine s_AddItem_1_sm h hx m b (i + 1) _ (by simp at hl ⊢; omega) hlt (fun y hy => ?_)
        simp only [List.mem_append, List.mem_cons, List.not_mem_nil, or_false] at hy
        rcases hy with hy | rfl
        · exact hs y hy
        · exact hn
theorem s_AddItem_sm {n : Nat} {a0 : TArchive} {a1 : TItem} (h : Sm n a0) (hx : Sm n a1) : Sm (n + 1) (s_AddItem a0 a1).1 := by
  have h1 : Sm (n + 1) a0 := sm_mono (Nat.le_succ n) h
  unfold s_AddItem
  cases ((!(s_IsArchive a0)) || (decide ((s_FindItem a0 a1.Id) ≥ 0))) with
  | true => exact h1
  | false =>
    have hz := s_AddItem_1_sm h hx (a0.Items.length + 1) false 0 [] (Nat.zero_le _) (Nat.zero_le _) (fun y hy => by cases hy)
    have hlen := (TArchive.sm_Items h).1
    simp only [cond_false]
    generalize hq : s_AddItem_1 a0 a1 (a0.Items.length + 1) false 0 [] = z at hz ⊢
    obtain ⟨z0, z1⟩ := z
    cases z0 with
    | false =>
      simp only [Bool.not_false, cond_true]
      cases (!(s_IsArchive (TArchive.mk a0.Id (z1 ++ ([a1] : List TItem))))) with
      | true => exact h1
      | false =>
        refine ⟨by have := hz.1; simp at this ⊢; omega, fun y hy => ?_⟩
        have hy' : y ∈ z1 ∨ y = a1 := by simpa using hy
        rcases hy' with hy | rfl
        · exact sm_mono (Nat.le_succ n) (hz.2 y hy)
        · exact sm_mono (Nat.le_succ n) hx
    | true =>
      simp only [Bool.not_true, cond_false]
      cases (!(s_IsArchive (TArchive.mk a0.Id z1))) with
      | true => exact h1
      | false => exact ⟨by have := hz.1; simp at this ⊢; omega, fun y hy => sm_mono (Nat.le_succ n) (hz.2 y hy)⟩
theorem i_signInto_1_sm {n : Nat} {a0 : TWorld} {a1 a2 : Int} {a3 : TDocument} {a4 a5 : Int} (h : Sm n a0) (hd : Sm n a3) (hn : 9 ≤ n) : ∀ (m v : Nat) (r : TWorld × Bool), i_signInto_1 a0 a1 a2 a3 a4 a5 m v = .inl r → Sm (n + 1) r.1
  | 0, v, r, e => by cases e
  | m + 1, v, r, e => by
    have h1 : Sm (n + 1) a0 := sm_mono (Nat.le_succ n) h
    unfold i_signInto_1 at e
    cases hc : decide ((↑v : Int) < (↑a0.Certs.length : Int)) with
    | false => rw [hc] at e; cases e
    | true =>
      rw [hc] at e
      simp only [cond_true] at e
      cases hk : ((nth a0.Certs v).Key != a2) with
      | true => rw [hk] at e; exact i_signInto_1_sm h hd hn m (v + 1) r e
      | false =>
        rw [hk] at e
        simp only [cond_false] at e
        generalize hq : (TItem.mk a0.Next a5 a3 (i_SignDigest a0.Frame.Keys (TSignature.mk a2 (nth a0.Certs v).Serial (i_BestMethod a0.Frame.Methods a0.Frame.Now) (i_DocDigest (i_BestMethod a0.Frame.Methods a0.Frame.Now) a3) 1 a4 0 0 0)).1 (TStrand.mk ([(i_SignPiece (i_SignDigest a0.Frame.Keys (TSignature.mk a2 (nth a0.Certs v).Serial (i_BestMethod a0.Frame.Methods a0.Frame.Now) (i_DocDigest (i_BestMethod a0.Frame.Methods a0.Frame.Now) a3) 1 a4 0 0 0)).1), (i_CertPiece (nth a0.Certs v))] : List TPiece) ([] : List TRenewal))) = it at e
        have hit : Sm (n + 1) it := by
          rw [← hq]
          refine ⟨sm_mono (Nat.le_succ n) hd, ⟨by simp; omega, fun y hy => ?_⟩, sm_nil⟩
          rcases List.mem_cons.1 hy with rfl | hy
          · exact i_SignPiece_sm (by omega)
          rcases List.mem_cons.1 hy with rfl | hy
          · exact i_CertPiece_sm (by omega)
          · cases hy
        clear hq
        cases hb : ((!(i_SignDigest a0.Frame.Keys (TSignature.mk a2 (nth a0.Certs v).Serial (i_BestMethod a0.Frame.Methods a0.Frame.Now) (i_DocDigest (i_BestMethod a0.Frame.Methods a0.Frame.Now) a3) 1 a4 0 0 0)).2) || (!(i_AddItem (nth a0.Archives a1.toNat) it).2)) with
        | true => rw [hb] at e; cases e; exact h1
        | false =>
          rw [hb] at e
          cases e
          exact ⟨h1.1, h1.2.1, h1.2.2.1, sm_set h1.2.2.2.1 (i_AddItem_sm (sm_nth h.2.2.2.1) hit), h1.2.2.2.2.1, h1.2.2.2.2.2.1, h1.2.2.2.2.2.2⟩
theorem i_signInto_sm {n : Nat} {a0 : TWorld} {a1 a2 : Int} {a3 : TDocument} {a4 a5 : Int} (h : Sm n a0) (hd : Sm n a3) (hn : 9 ≤ n) : Sm (n + 1) (i_signInto a0 a1 a2 a3 a4 a5).1 := by
  have h1 : Sm (n + 1) a0 := sm_mono (Nat.le_succ n) h
  unfold i_signInto
  cases (((!(i_isArchiveOf a0 a1)) || (decide ((i_FindKey a0.Frame.Keys a2) < 0))) || (decide ((i_BestMethod a0.Frame.Methods a0.Frame.Now) < 0))) with
  | true => exact h1
  | false =>
    simp only [cond_false]
    cases he : i_signInto_1 a0 a1 a2 a3 a4 a5 (a0.Certs.length + 1) 0 with
    | inl r => exact i_signInto_1_sm h hd hn _ _ r he
    | inr _ => exact h1
end Go.Mo
