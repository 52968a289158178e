/- Plain lemmas on the models of the helpers. No condition. -/
import Derived.Test.YtdbglcndfmdlfaaGreatM
namespace Go.Mo
open Go.Vm
set_option linter.unusedSimpArgs false
set_option linter.unusedVariables false
theorem l_szKeyS_sm : SzOk l_szKeyS := sz_flat (fun _ _ => trivial) (fun _ _ => rfl)
theorem l_szKeyS_cz : CzOk l_szKeyS 0 := cz_flat (fun _ => Nat.le_of_ble_eq_true rfl) (fun _ _ => rfl)
theorem l_szAuthorityS_sm : SzOk l_szAuthorityS := sz_flat (fun _ _ => trivial) (fun _ _ => rfl)
theorem l_szAuthorityS_cz : CzOk l_szAuthorityS 0 := cz_flat (fun _ => Nat.le_of_ble_eq_true rfl) (fun _ _ => rfl)
theorem l_szMethodS_sm : SzOk l_szMethodS := sz_flat (fun _ _ => trivial) (fun _ _ => rfl)
theorem l_szMethodS_cz : CzOk l_szMethodS 0 := cz_flat (fun _ => Nat.le_of_ble_eq_true rfl) (fun _ _ => rfl)
theorem l_szFrame_sm : SzOk l_szFrame := by
  intro a0 a1 hm h0 hn h
  unfold l_szFrame at h ⊢
  by_cases c0 : (l_szKeyS a0.Keys a1) < 0
  · simp [c0] at h
  obtain ⟨s0, t0⟩ := l_szKeyS_sm a0.Keys a1 (by simp [hm]) (by omega) (by omega) c0
  by_cases c1 : (l_szAuthorityS a0.Authorities (l_szKeyS a0.Keys a1)) < 0
  · simp [c1, c0] at h
  obtain ⟨s1, t1⟩ := l_szAuthorityS_sm a0.Authorities (l_szKeyS a0.Keys a1) (by simp [hm]) (by omega) (by omega) c1
  by_cases c2 : (l_szMethodS a0.Methods (l_szAuthorityS a0.Authorities (l_szKeyS a0.Keys a1))) < 0
  · simp [c2, c0, c1] at h
  obtain ⟨s2, t2⟩ := l_szMethodS_sm a0.Methods (l_szAuthorityS a0.Authorities (l_szKeyS a0.Keys a1)) (by simp [hm]) (by omega) (by omega) c2
  simp only [c0, c1, c2, decide_false, cond_false] at h ⊢
  exact ⟨⟨s0, s1, s2⟩, t2⟩
theorem l_szFrame_cz : CzOk l_szFrame 2 := by
  intro a0 a1 hm h0 hn h
  unfold l_szFrame at h ⊢
  by_cases c0 : (l_szKeyS a0.Keys a1) < 0
  · simp [c0] at h
  obtain ⟨s0, t0⟩ := l_szKeyS_cz a0.Keys a1 (by simp [hm]) (by omega) (by omega) c0
  by_cases c1 : (l_szAuthorityS a0.Authorities (l_szKeyS a0.Keys a1)) < 0
  · simp [c1, c0] at h
  obtain ⟨s1, t1⟩ := l_szAuthorityS_cz a0.Authorities (l_szKeyS a0.Keys a1) (by simp [hm]) (by omega) (by omega) c1
  by_cases c2 : (l_szMethodS a0.Methods (l_szAuthorityS a0.Authorities (l_szKeyS a0.Keys a1))) < 0
  · simp [c2, c0, c1] at h
  obtain ⟨s2, t2⟩ := l_szMethodS_cz a0.Methods (l_szAuthorityS a0.Authorities (l_szKeyS a0.Keys a1)) (by simp [hm]) (by omega) (by omega) c2
  simp only [c0, c1, c2, decide_false, cond_false] at h ⊢
  simp only [cn_int, cn_bool, cn_str, TFrame.cn_eq]
  omega
theorem l_szCertS_sm : SzOk l_szCertS := sz_flat (fun _ _ => trivial) (fun _ _ => rfl)
theorem l_szCertS_cz : CzOk l_szCertS 0 := cz_flat (fun _ => Nat.le_of_ble_eq_true rfl) (fun _ _ => rfl)
theorem l_szIntS_sm : SzOk l_szIntS := sz_flat (fun _ _ => trivial) (fun _ _ => rfl)
theorem l_szIntS_cz : CzOk l_szIntS 0 := cz_flat (fun _ => Nat.le_of_ble_eq_true rfl) (fun _ _ => rfl)
theorem l_szStringS_sm : SzOk l_szStringS := sz_loop sz_string (G := l_szStringS_1) (fun _ _ _ _ => rfl) (fun _ _ => rfl)
theorem l_szStringS_cz : CzOk l_szStringS 0 := cz_loop cz_string (by decide) (G := l_szStringS_1) (fun _ _ _ _ => rfl) (fun _ _ => rfl)
theorem l_szDocument_sm : SzOk l_szDocument := by
  intro a0 a1 hm h0 hn h
  unfold l_szDocument at h ⊢
  by_cases c0 : (l_szStringS a0.Parts a1) < 0
  · simp [c0] at h
  obtain ⟨s0, t0⟩ := l_szStringS_sm a0.Parts a1 (by simp [hm]) (by omega) (by omega) c0
  by_cases c1 : (l_szIntS a0.Salts (l_szStringS a0.Parts a1)) < 0
  · simp [c1, c0] at h
  obtain ⟨s1, t1⟩ := l_szIntS_sm a0.Salts (l_szStringS a0.Parts a1) (by simp [hm]) (by omega) (by omega) c1
  simp only [c0, c1, decide_false, cond_false] at h ⊢
  exact ⟨⟨s0, s1⟩, t1⟩
theorem l_szDocument_cz : CzOk l_szDocument 1 := by
  intro a0 a1 hm h0 hn h
  unfold l_szDocument at h ⊢
  by_cases c0 : (l_szStringS a0.Parts a1) < 0
  · simp [c0] at h
  obtain ⟨s0, t0⟩ := l_szStringS_cz a0.Parts a1 (by simp [hm]) (by omega) (by omega) c0
  by_cases c1 : (l_szIntS a0.Salts (l_szStringS a0.Parts a1)) < 0
  · simp [c1, c0] at h
  obtain ⟨s1, t1⟩ := l_szIntS_cz a0.Salts (l_szStringS a0.Parts a1) (by simp [hm]) (by omega) (by omega) c1
  simp only [c0, c1, decide_false, cond_false] at h ⊢
  simp only [cn_int, cn_bool, cn_str, TDocument.cn_eq]
  omega
theorem l_szPiece_sm : SzOk l_szPiece := by
  intro a0 a1 hm h0 hn h
  unfold l_szPiece at h ⊢
  by_cases c0 : (l_szIntS a0.Ints a1) < 0
  · simp [c0] at h
  obtain ⟨s0, t0⟩ := l_szIntS_sm a0.Ints a1 (by simp [hm]) (by omega) (by omega) c0
  simp only [c0, decide_false, cond_false] at h ⊢
  exact ⟨s0, t0⟩
theorem l_szPiece_cz : CzOk l_szPiece 2 := by
  intro a0 a1 hm h0 hn h
  unfold l_szPiece at h ⊢
  by_cases c0 : (l_szIntS a0.Ints a1) < 0
  · simp [c0] at h
  obtain ⟨s0, t0⟩ := l_szIntS_cz a0.Ints a1 (by simp [hm]) (by omega) (by omega) c0
  simp only [c0, decide_false, cond_false] at h ⊢
  simp only [cn_int, cn_bool, cn_str, TPiece.cn_eq]
  omega
theorem l_szPieceS_sm : SzOk l_szPieceS := sz_loop l_szPiece_sm (G := l_szPieceS_1) (fun _ _ _ _ => rfl) (fun _ _ => rfl)
theorem l_szPieceS_cz : CzOk l_szPieceS 0 := cz_loop l_szPiece_cz (by decide) (G := l_szPieceS_1) (fun _ _ _ _ => rfl) (fun _ _ => rfl)
theorem l_szStepS_sm : SzOk l_szStepS := sz_flat (fun _ _ => trivial) (fun _ _ => rfl)
theorem l_szStepS_cz : CzOk l_szStepS 0 := cz_flat (fun _ => Nat.le_of_ble_eq_true rfl) (fun _ _ => rfl)
theorem l_szStampS_sm : SzOk l_szStampS := sz_flat (fun _ _ => trivial) (fun _ _ => rfl)
theorem l_szStampS_cz : CzOk l_szStampS 0 := cz_flat (fun _ => Nat.le_of_ble_eq_true rfl) (fun _ _ => rfl)
theorem l_szRenewal_sm : SzOk l_szRenewal := by
  intro a0 a1 hm h0 hn h
  unfold l_szRenewal at h ⊢
  by_cases c0 : (l_szStepS a0.Path a1) < 0
  · simp [c0] at h
  obtain ⟨s0, t0⟩ := l_szStepS_sm a0.Path a1 (by simp [hm]) (by omega) (by omega) c0
  by_cases c1 : (l_szStampS a0.Stamps (l_szStepS a0.Path a1)) < 0
  · simp [c1, c0] at h
  obtain ⟨s1, t1⟩ := l_szStampS_sm a0.Stamps (l_szStepS a0.Path a1) (by simp [hm]) (by omega) (by omega) c1
  simp only [c0, c1, decide_false, cond_false] at h ⊢
  exact ⟨⟨s0, s1⟩, t1⟩
theorem l_szRenewal_cz : CzOk l_szRenewal 3 := by
  intro a0 a1 hm h0 hn h
  unfold l_szRenewal at h ⊢
  by_cases c0 : (l_szStepS a0.Path a1) < 0
  · simp [c0] at h
  obtain ⟨s0, t0⟩ := l_szStepS_cz a0.Path a1 (by simp [hm]) (by omega) (by omega) c0
  by_cases c1 : (l_szStampS a0.Stamps (l_szStepS a0.Path a1)) < 0
  · simp [c1, c0] at h
  obtain ⟨s1, t1⟩ := l_szStampS_cz a0.Stamps (l_szStepS a0.Path a1) (by simp [hm]) (by omega) (by omega) c1
  simp only [c0, c1, decide_false, cond_false] at h ⊢
  simp only [cn_int, cn_bool, cn_str, TRenewal.cn_eq]
  omega
theorem l_szRenewalS_sm : SzOk l_szRenewalS := sz_loop l_szRenewal_sm (G := l_szRenewalS_1) (fun _ _ _ _ => rfl) (fun _ _ => rfl)
theorem l_szRenewalS_cz : CzOk l_szRenewalS 0 := cz_loop l_szRenewal_cz (by decide) (G := l_szRenewalS_1) (fun _ _ _ _ => rfl) (fun _ _ => rfl)
theorem l_szStrand_sm : SzOk l_szStrand := by
  intro a0 a1 hm h0 hn h
  unfold l_szStrand at h ⊢
  by_cases c0 : (l_szPieceS a0.Pieces a1) < 0
  · simp [c0] at h
  obtain ⟨s0, t0⟩ := l_szPieceS_sm a0.Pieces a1 (by simp [hm]) (by omega) (by omega) c0
  by_cases c1 : (l_szRenewalS a0.Chain (l_szPieceS a0.Pieces a1)) < 0
  · simp [c1, c0] at h
  obtain ⟨s1, t1⟩ := l_szRenewalS_sm a0.Chain (l_szPieceS a0.Pieces a1) (by simp [hm]) (by omega) (by omega) c1
  simp only [c0, c1, decide_false, cond_false] at h ⊢
  exact ⟨⟨s0, s1⟩, t1⟩
theorem l_szStrand_cz : CzOk l_szStrand 0 := by
  intro a0 a1 hm h0 hn h
  unfold l_szStrand at h ⊢
  by_cases c0 : (l_szPieceS a0.Pieces a1) < 0
  · simp [c0] at h
  obtain ⟨s0, t0⟩ := l_szPieceS_cz a0.Pieces a1 (by simp [hm]) (by omega) (by omega) c0
  by_cases c1 : (l_szRenewalS a0.Chain (l_szPieceS a0.Pieces a1)) < 0
  · simp [c1, c0] at h
  obtain ⟨s1, t1⟩ := l_szRenewalS_cz a0.Chain (l_szPieceS a0.Pieces a1) (by simp [hm]) (by omega) (by omega) c1
  simp only [c0, c1, decide_false, cond_false] at h ⊢
  simp only [cn_int, cn_bool, cn_str, TStrand.cn_eq]
  omega
theorem l_szItem_sm : SzOk l_szItem := by
  intro a0 a1 hm h0 hn h
  unfold l_szItem at h ⊢
  by_cases c0 : (l_szDocument a0.Doc a1) < 0
  · simp [c0] at h
  obtain ⟨s0, t0⟩ := l_szDocument_sm a0.Doc a1 (by simp [hm]) (by omega) (by omega) c0
  by_cases c1 : (l_szStrand a0.Strand (l_szDocument a0.Doc a1)) < 0
  · simp [c1, c0] at h
  obtain ⟨s1, t1⟩ := l_szStrand_sm a0.Strand (l_szDocument a0.Doc a1) (by simp [hm]) (by omega) (by omega) c1
  simp only [c0, c1, decide_false, cond_false] at h ⊢
  exact ⟨⟨s0, s1⟩, t1⟩
theorem l_szItem_cz : CzOk l_szItem 12 := by
  intro a0 a1 hm h0 hn h
  unfold l_szItem at h ⊢
  by_cases c0 : (l_szDocument a0.Doc a1) < 0
  · simp [c0] at h
  obtain ⟨s0, t0⟩ := l_szDocument_cz a0.Doc a1 (by simp [hm]) (by omega) (by omega) c0
  by_cases c1 : (l_szStrand a0.Strand (l_szDocument a0.Doc a1)) < 0
  · simp [c1, c0] at h
  obtain ⟨s1, t1⟩ := l_szStrand_cz a0.Strand (l_szDocument a0.Doc a1) (by simp [hm]) (by omega) (by omega) c1
  simp only [c0, c1, decide_false, cond_false] at h ⊢
  simp only [cn_int, cn_bool, cn_str, TItem.cn_eq, TSignature.cn_eq]
  omega
theorem l_szItemS_sm : SzOk l_szItemS := sz_loop l_szItem_sm (G := l_szItemS_1) (fun _ _ _ _ => rfl) (fun _ _ => rfl)
theorem l_szItemS_cz : CzOk l_szItemS 0 := cz_loop l_szItem_cz (by decide) (G := l_szItemS_1) (fun _ _ _ _ => rfl) (fun _ _ => rfl)
theorem l_szArchive_sm : SzOk l_szArchive := by
  intro a0 a1 hm h0 hn h
  unfold l_szArchive at h ⊢
  by_cases c0 : (l_szItemS a0.Items a1) < 0
  · simp [c0] at h
  obtain ⟨s0, t0⟩ := l_szItemS_sm a0.Items a1 (by simp [hm]) (by omega) (by omega) c0
  simp only [c0, decide_false, cond_false] at h ⊢
  exact ⟨s0, t0⟩
theorem l_szArchive_cz : CzOk l_szArchive 1 := by
  intro a0 a1 hm h0 hn h
  unfold l_szArchive at h ⊢
  by_cases c0 : (l_szItemS a0.Items a1) < 0
  · simp [c0] at h
  obtain ⟨s0, t0⟩ := l_szItemS_cz a0.Items a1 (by simp [hm]) (by omega) (by omega) c0
  simp only [c0, decide_false, cond_false] at h ⊢
  simp only [cn_int, cn_bool, cn_str, TArchive.cn_eq]
  omega
theorem l_szArchiveS_sm : SzOk l_szArchiveS := sz_loop l_szArchive_sm (G := l_szArchiveS_1) (fun _ _ _ _ => rfl) (fun _ _ => rfl)
theorem l_szArchiveS_cz : CzOk l_szArchiveS 0 := cz_loop l_szArchive_cz (by decide) (G := l_szArchiveS_1) (fun _ _ _ _ => rfl) (fun _ _ => rfl)
theorem l_szWorld_sm : SzOk l_szWorld := by
  intro a0 a1 hm h0 hn h
  unfold l_szWorld at h ⊢
  by_cases c0 : (l_szFrame a0.Frame a1) < 0
  · simp [c0] at h
  obtain ⟨s0, t0⟩ := l_szFrame_sm a0.Frame a1 (by simp [hm]) (by omega) (by omega) c0
  by_cases c1 : (l_szCertS a0.Certs (l_szFrame a0.Frame a1)) < 0
  · simp [c1, c0] at h
  obtain ⟨s1, t1⟩ := l_szCertS_sm a0.Certs (l_szFrame a0.Frame a1) (by simp [hm]) (by omega) (by omega) c1
  by_cases c2 : (l_szIntS a0.Ended (l_szCertS a0.Certs (l_szFrame a0.Frame a1))) < 0
  · simp [c2, c0, c1] at h
  obtain ⟨s2, t2⟩ := l_szIntS_sm a0.Ended (l_szCertS a0.Certs (l_szFrame a0.Frame a1)) (by simp [hm]) (by omega) (by omega) c2
  by_cases c3 : (l_szArchiveS a0.Archives (l_szIntS a0.Ended (l_szCertS a0.Certs (l_szFrame a0.Frame a1)))) < 0
  · simp [c3, c0, c1, c2] at h
  obtain ⟨s3, t3⟩ := l_szArchiveS_sm a0.Archives (l_szIntS a0.Ended (l_szCertS a0.Certs (l_szFrame a0.Frame a1))) (by simp [hm]) (by omega) (by omega) c3
  by_cases c4 : (l_szIntS a0.Seqs (l_szArchiveS a0.Archives (l_szIntS a0.Ended (l_szCertS a0.Certs (l_szFrame a0.Frame a1))))) < 0
  · simp [c4, c0, c1, c2, c3] at h
  obtain ⟨s4, t4⟩ := l_szIntS_sm a0.Seqs (l_szArchiveS a0.Archives (l_szIntS a0.Ended (l_szCertS a0.Certs (l_szFrame a0.Frame a1)))) (by simp [hm]) (by omega) (by omega) c4
  by_cases c5 : (l_szIntS a0.Lying (l_szIntS a0.Seqs (l_szArchiveS a0.Archives (l_szIntS a0.Ended (l_szCertS a0.Certs (l_szFrame a0.Frame a1)))))) < 0
  · simp [c5, c0, c1, c2, c3, c4] at h
  obtain ⟨s5, t5⟩ := l_szIntS_sm a0.Lying (l_szIntS a0.Seqs (l_szArchiveS a0.Archives (l_szIntS a0.Ended (l_szCertS a0.Certs (l_szFrame a0.Frame a1))))) (by simp [hm]) (by omega) (by omega) c5
  by_cases c6 : (l_szIntS a0.Forged (l_szIntS a0.Lying (l_szIntS a0.Seqs (l_szArchiveS a0.Archives (l_szIntS a0.Ended (l_szCertS a0.Certs (l_szFrame a0.Frame a1))))))) < 0
  · simp [c6, c0, c1, c2, c3, c4, c5] at h
  obtain ⟨s6, t6⟩ := l_szIntS_sm a0.Forged (l_szIntS a0.Lying (l_szIntS a0.Seqs (l_szArchiveS a0.Archives (l_szIntS a0.Ended (l_szCertS a0.Certs (l_szFrame a0.Frame a1)))))) (by simp [hm]) (by omega) (by omega) c6
  simp only [c0, c1, c2, c3, c4, c5, c6, decide_false, cond_false] at h ⊢
  exact ⟨⟨s0, s1, s2, s3, s4, s5, s6⟩, t6⟩
theorem l_szWorld_cz : CzOk l_szWorld 3 := by
  intro a0 a1 hm h0 hn h
  unfold l_szWorld at h ⊢
  by_cases c0 : (l_szFrame a0.Frame a1) < 0
  · simp [c0] at h
  obtain ⟨s0, t0⟩ := l_szFrame_cz a0.Frame a1 (by simp [hm]) (by omega) (by omega) c0
  by_cases c1 : (l_szCertS a0.Certs (l_szFrame a0.Frame a1)) < 0
  · simp [c1, c0] at h
  obtain ⟨s1, t1⟩ := l_szCertS_cz a0.Certs (l_szFrame a0.Frame a1) (by simp [hm]) (by omega) (by omega) c1
  by_cases c2 : (l_szIntS a0.Ended (l_szCertS a0.Certs (l_szFrame a0.Frame a1))) < 0
  · simp [c2, c0, c1] at h
  obtain ⟨s2, t2⟩ := l_szIntS_cz a0.Ended (l_szCertS a0.Certs (l_szFrame a0.Frame a1)) (by simp [hm]) (by omega) (by omega) c2
  by_cases c3 : (l_szArchiveS a0.Archives (l_szIntS a0.Ended (l_szCertS a0.Certs (l_szFrame a0.Frame a1)))) < 0
  · simp [c3, c0, c1, c2] at h
  obtain ⟨s3, t3⟩ := l_szArchiveS_cz a0.Archives (l_szIntS a0.Ended (l_szCertS a0.Certs (l_szFrame a0.Frame a1))) (by simp [hm]) (by omega) (by omega) c3
  by_cases c4 : (l_szIntS a0.Seqs (l_szArchiveS a0.Archives (l_szIntS a0.Ended (l_szCertS a0.Certs (l_szFrame a0.Frame a1))))) < 0
  · simp [c4, c0, c1, c2, c3] at h
  obtain ⟨s4, t4⟩ := l_szIntS_cz a0.Seqs (l_szArchiveS a0.Archives (l_szIntS a0.Ended (l_szCertS a0.Certs (l_szFrame a0.Frame a1)))) (by simp [hm]) (by omega) (by omega) c4
  by_cases c5 : (l_szIntS a0.Lying (l_szIntS a0.Seqs (l_szArchiveS a0.Archives (l_szIntS a0.Ended (l_szCertS a0.Certs (l_szFrame a0.Frame a1)))))) < 0
  · simp [c5, c0, c1, c2, c3, c4] at h
  obtain ⟨s5, t5⟩ := l_szIntS_cz a0.Lying (l_szIntS a0.Seqs (l_szArchiveS a0.Archives (l_szIntS a0.Ended (l_szCertS a0.Certs (l_szFrame a0.Frame a1))))) (by simp [hm]) (by omega) (by omega) c5
  by_cases c6 : (l_szIntS a0.Forged (l_szIntS a0.Lying (l_szIntS a0.Seqs (l_szArchiveS a0.Archives (l_szIntS a0.Ended (l_szCertS a0.Certs (l_szFrame a0.Frame a1))))))) < 0
  · simp [c6, c0, c1, c2, c3, c4, c5] at h
  obtain ⟨s6, t6⟩ := l_szIntS_cz a0.Forged (l_szIntS a0.Lying (l_szIntS a0.Seqs (l_szArchiveS a0.Archives (l_szIntS a0.Ended (l_szCertS a0.Certs (l_szFrame a0.Frame a1)))))) (by simp [hm]) (by omega) (by omega) c6
  simp only [c0, c1, c2, c3, c4, c5, c6, decide_false, cond_false] at h ⊢
  simp only [cn_int, cn_bool, cn_str, TWorld.cn_eq]
  omega
theorem l_toKey_id (a0 : TKey) : l_toKey a0 = a0 := by cases a0; simp [l_toKey]
theorem l_toKeyS_id (a0 : List TKey) : l_toKeyS a0 = a0 := to_loop (F := l_toKeyS_1 a0) (g := (fun x => x)) (fun _ => rfl) (fun _ _ _ => rfl) _ 0 _ (by simp) (by omega) (by omega) (fun j h => by omega)
theorem l_toAuthority_id (a0 : TAuthority) : l_toAuthority a0 = a0 := by cases a0; simp [l_toAuthority]
theorem l_toAuthorityS_id (a0 : List TAuthority) : l_toAuthorityS a0 = a0 := to_loop (F := l_toAuthorityS_1 a0) (g := (fun x => x)) (fun _ => rfl) (fun _ _ _ => rfl) _ 0 _ (by simp) (by omega) (by omega) (fun j h => by omega)
theorem l_toMethod_id (a0 : TMethod) : l_toMethod a0 = a0 := by cases a0; simp [l_toMethod]
theorem l_toMethodS_id (a0 : List TMethod) : l_toMethodS a0 = a0 := to_loop (F := l_toMethodS_1 a0) (g := (fun x => x)) (fun _ => rfl) (fun _ _ _ => rfl) _ 0 _ (by simp) (by omega) (by omega) (fun j h => by omega)
theorem l_toFrame_id (a0 : TFrame) : l_toFrame a0 = a0 := by cases a0; simp [l_toFrame]
theorem l_toCert_id (a0 : TCert) : l_toCert a0 = a0 := by cases a0; simp [l_toCert]
theorem l_toCertS_id (a0 : List TCert) : l_toCertS a0 = a0 := to_loop (F := l_toCertS_1 a0) (g := (fun x => x)) (fun _ => rfl) (fun _ _ _ => rfl) _ 0 _ (by simp) (by omega) (by omega) (fun j h => by omega)
theorem l_toIntS_id (a0 : List Int) : l_toIntS a0 = a0 := to_loop (F := l_toIntS_1 a0) (g := (fun x => x)) (fun _ => rfl) (fun _ _ _ => rfl) _ 0 _ (by simp) (by omega) (by omega) (fun j h => by omega)
theorem l_toStringS_id (a0 : List ByteArray) : l_toStringS a0 = a0 := to_loop (F := l_toStringS_1 a0) (g := (fun x => x)) (fun _ => rfl) (fun _ _ _ => rfl) _ 0 _ (by simp) (by omega) (by omega) (fun j h => by omega)
theorem l_toDocument_id (a0 : TDocument) : l_toDocument a0 = a0 := by cases a0; simp [l_toDocument]
theorem l_toSignature_id (a0 : TSignature) : l_toSignature a0 = a0 := by cases a0; simp [l_toSignature]
theorem l_toPiece_id (a0 : TPiece) : l_toPiece a0 = a0 := by cases a0; simp [l_toPiece]
theorem l_toPieceS_id (a0 : List TPiece) : l_toPieceS a0 = a0 := to_loop (F := l_toPieceS_1 a0) (g := (fun x => x)) (fun _ => rfl) (fun _ _ _ => rfl) _ 0 _ (by simp) (by omega) (by omega) (fun j h => by omega)
theorem l_toStep_id (a0 : TStep) : l_toStep a0 = a0 := by cases a0; simp [l_toStep]
theorem l_toStepS_id (a0 : List TStep) : l_toStepS a0 = a0 := to_loop (F := l_toStepS_1 a0) (g := (fun x => x)) (fun _ => rfl) (fun _ _ _ => rfl) _ 0 _ (by simp) (by omega) (by omega) (fun j h => by omega)
theorem l_toStamp_id (a0 : TStamp) : l_toStamp a0 = a0 := by cases a0; simp [l_toStamp]
theorem l_toStampS_id (a0 : List TStamp) : l_toStampS a0 = a0 := to_loop (F := l_toStampS_1 a0) (g := (fun x => x)) (fun _ => rfl) (fun _ _ _ => rfl) _ 0 _ (by simp) (by omega) (by omega) (fun j h => by omega)
theorem l_toRenewal_id (a0 : TRenewal) : l_toRenewal a0 = a0 := by cases a0; simp [l_toRenewal]
theorem l_toRenewalS_id (a0 : List TRenewal) : l_toRenewalS a0 = a0 := to_loop (F := l_toRenewalS_1 a0) (g := (fun x => x)) (fun _ => rfl) (fun _ _ _ => rfl) _ 0 _ (by simp) (by omega) (by omega) (fun j h => by omega)
theorem l_toStrand_id (a0 : TStrand) : l_toStrand a0 = a0 := by cases a0; simp [l_toStrand]
theorem l_toItem_id (a0 : TItem) : l_toItem a0 = a0 := by cases a0; simp [l_toItem]
theorem l_toItemS_id (a0 : List TItem) : l_toItemS a0 = a0 := to_loop (F := l_toItemS_1 a0) (g := (fun x => x)) (fun _ => rfl) (fun _ _ _ => rfl) _ 0 _ (by simp) (by omega) (by omega) (fun j h => by omega)
theorem l_toArchive_id (a0 : TArchive) : l_toArchive a0 = a0 := by cases a0; simp [l_toArchive]
theorem l_toArchiveS_id (a0 : List TArchive) : l_toArchiveS a0 = a0 := to_loop (F := l_toArchiveS_1 a0) (g := (fun x => x)) (fun _ => rfl) (fun _ _ _ => rfl) _ 0 _ (by simp) (by omega) (by omega) (fun j h => by omega)
theorem l_toWorld_id (a0 : TWorld) : l_toWorld a0 = a0 := by cases a0; simp [l_toWorld]
theorem s_l18Copy_id (a0 : TPiece) : s_l18Copy a0 = a0 := rfl
theorem s_l18All_id (a0 : List TPiece) : s_l18All a0 = a0 := by
  have h := copy_loop (F := (s_l18All_1 a0)) (a := a0) (g := (fun x => x)) (fun _ => rfl) (fun _ _ _ => rfl) (a0.length + 1) [] 0 (by omega) (by omega)
  simp only [List.nil_append, List.drop_zero] at h
  unfold s_l18All
  rw [h]
theorem s_l19Copy_id (a0 : TRenewal) : s_l19Copy a0 = a0 := rfl
theorem s_l20Copy_id (a0 : TStrand) : s_l20Copy a0 = a0 := by
  have h := copy_loop (F := (fun n v i => s_l20Copy_1 a0 n i v)) (a := a0.Chain) (g := (fun x => x)) (fun _ => rfl) (fun _ _ _ => rfl) (a0.Chain.length + 1) [] 0 (by omega) (by omega)
  simp only [List.nil_append, List.drop_zero] at h
  unfold s_l20Copy
  rw [h]
theorem l_eqStamp_self (a0 : TStamp) : l_eqStamp a0 a0 = true := by simp [l_eqStamp]
theorem l_eqStampS_self (a0 : List TStamp) : l_eqStampS a0 a0 = true := by
  unfold l_eqStampS
  rw [eq_loop (F := l_eqStampS_1 a0 a0) (L := a0.length) (c := fun v1_0 => (!(l_eqStamp (nth a0 v1_0) (nth a0 v1_0)))) (fun i => by simp [l_eqStamp_self]) (fun _ => rfl) (fun _ _ => rfl)]
  simp
theorem l_eqKey_self (a0 : TKey) : l_eqKey a0 a0 = true := by simp [l_eqKey]
theorem l_eqKeyS_self (a0 : List TKey) : l_eqKeyS a0 a0 = true := by
  unfold l_eqKeyS
  rw [eq_loop (F := l_eqKeyS_1 a0 a0) (L := a0.length) (c := fun v1_0 => (!(l_eqKey (nth a0 v1_0) (nth a0 v1_0)))) (fun i => by simp [l_eqKey_self]) (fun _ => rfl) (fun _ _ => rfl)]
  simp
theorem l_eqAuthority_self (a0 : TAuthority) : l_eqAuthority a0 a0 = true := by simp [l_eqAuthority]
theorem l_eqAuthorityS_self (a0 : List TAuthority) : l_eqAuthorityS a0 a0 = true := by
  unfold l_eqAuthorityS
  rw [eq_loop (F := l_eqAuthorityS_1 a0 a0) (L := a0.length) (c := fun v1_0 => (!(l_eqAuthority (nth a0 v1_0) (nth a0 v1_0)))) (fun i => by simp [l_eqAuthority_self]) (fun _ => rfl) (fun _ _ => rfl)]
  simp
theorem l_eqMethod_self (a0 : TMethod) : l_eqMethod a0 a0 = true := by simp [l_eqMethod]
theorem l_eqMethodS_self (a0 : List TMethod) : l_eqMethodS a0 a0 = true := by
  unfold l_eqMethodS
  rw [eq_loop (F := l_eqMethodS_1 a0 a0) (L := a0.length) (c := fun v1_0 => (!(l_eqMethod (nth a0 v1_0) (nth a0 v1_0)))) (fun i => by simp [l_eqMethod_self]) (fun _ => rfl) (fun _ _ => rfl)]
  simp
theorem l_eqFrame_self (a0 : TFrame) : l_eqFrame a0 a0 = true := by simp [l_eqFrame, l_eqAuthorityS_self, l_eqKeyS_self, l_eqMethodS_self]
theorem l_eqCert_self (a0 : TCert) : l_eqCert a0 a0 = true := by simp [l_eqCert]
theorem l_eqCertS_self (a0 : List TCert) : l_eqCertS a0 a0 = true := by
  unfold l_eqCertS
  rw [eq_loop (F := l_eqCertS_1 a0 a0) (L := a0.length) (c := fun v1_0 => (!(l_eqCert (nth a0 v1_0) (nth a0 v1_0)))) (fun i => by simp [l_eqCert_self]) (fun _ => rfl) (fun _ _ => rfl)]
  simp
theorem l_eqIntS_self (a0 : List Int) : l_eqIntS a0 a0 = true := by
  unfold l_eqIntS
  rw [eq_loop (F := l_eqIntS_1 a0 a0) (L := a0.length) (c := fun v1_0 => ((nth a0 v1_0) != (nth a0 v1_0))) (fun i => by simp) (fun _ => rfl) (fun _ _ => rfl)]
  simp
theorem l_eqStringS_self (a0 : List ByteArray) : l_eqStringS a0 a0 = true := by
  unfold l_eqStringS
  rw [eq_loop (F := l_eqStringS_1 a0 a0) (L := a0.length) (c := fun v1_0 => (!decide ((nth a0 v1_0) = (nth a0 v1_0)))) (fun i => by simp) (fun _ => rfl) (fun _ _ => rfl)]
  simp
theorem l_eqDocument_self (a0 : TDocument) : l_eqDocument a0 a0 = true := by simp [l_eqDocument, l_eqIntS_self, l_eqStringS_self]
theorem l_eqSignature_self (a0 : TSignature) : l_eqSignature a0 a0 = true := by simp [l_eqSignature]
theorem l_eqPiece_self (a0 : TPiece) : l_eqPiece a0 a0 = true := by simp [l_eqPiece, l_eqIntS_self]
theorem l_eqPieceS_self (a0 : List TPiece) : l_eqPieceS a0 a0 = true := by
  unfold l_eqPieceS
  rw [eq_loop (F := l_eqPieceS_1 a0 a0) (L := a0.length) (c := fun v1_0 => (!(l_eqPiece (nth a0 v1_0) (nth a0 v1_0)))) (fun i => by simp [l_eqPiece_self]) (fun _ => rfl) (fun _ _ => rfl)]
  simp
theorem l_eqStep_self (a0 : TStep) : l_eqStep a0 a0 = true := by simp [l_eqStep]
theorem l_eqStepS_self (a0 : List TStep) : l_eqStepS a0 a0 = true := by
  unfold l_eqStepS
  rw [eq_loop (F := l_eqStepS_1 a0 a0) (L := a0.length) (c := fun v1_0 => (!(l_eqStep (nth a0 v1_0) (nth a0 v1_0)))) (fun i => by simp [l_eqStep_self]) (fun _ => rfl) (fun _ _ => rfl)]
  simp
theorem l_eqRenewal_self (a0 : TRenewal) : l_eqRenewal a0 a0 = true := by simp [l_eqRenewal, l_eqStampS_self, l_eqStepS_self]
theorem l_eqRenewalS_self (a0 : List TRenewal) : l_eqRenewalS a0 a0 = true := by
  unfold l_eqRenewalS
  rw [eq_loop (F := l_eqRenewalS_1 a0 a0) (L := a0.length) (c := fun v1_0 => (!(l_eqRenewal (nth a0 v1_0) (nth a0 v1_0)))) (fun i => by simp [l_eqRenewal_self]) (fun _ => rfl) (fun _ _ => rfl)]
  simp
theorem l_eqStrand_self (a0 : TStrand) : l_eqStrand a0 a0 = true := by simp [l_eqStrand, l_eqPieceS_self, l_eqRenewalS_self]
theorem l_eqItem_self (a0 : TItem) : l_eqItem a0 a0 = true := by simp [l_eqItem, l_eqDocument_self, l_eqSignature_self, l_eqStrand_self]
theorem l_eqItemS_self (a0 : List TItem) : l_eqItemS a0 a0 = true := by
  unfold l_eqItemS
  rw [eq_loop (F := l_eqItemS_1 a0 a0) (L := a0.length) (c := fun v1_0 => (!(l_eqItem (nth a0 v1_0) (nth a0 v1_0)))) (fun i => by simp [l_eqItem_self]) (fun _ => rfl) (fun _ _ => rfl)]
  simp
theorem l_eqArchive_self (a0 : TArchive) : l_eqArchive a0 a0 = true := by simp [l_eqArchive, l_eqItemS_self]
theorem l_eqArchiveS_self (a0 : List TArchive) : l_eqArchiveS a0 a0 = true := by
  unfold l_eqArchiveS
  rw [eq_loop (F := l_eqArchiveS_1 a0 a0) (L := a0.length) (c := fun v1_0 => (!(l_eqArchive (nth a0 v1_0) (nth a0 v1_0)))) (fun i => by simp [l_eqArchive_self]) (fun _ => rfl) (fun _ _ => rfl)]
  simp
theorem l_eqWorld_self (a0 : TWorld) : l_eqWorld a0 a0 = true := by simp [l_eqWorld, l_eqArchiveS_self, l_eqCertS_self, l_eqFrame_self, l_eqIntS_self]
theorem l_markKeyS_eq (a0 : List TKey) (a1 : Int) : l_markKeyS a0 a1 = mkL (fun (x : TKey) (k : Int) => ((TKey.mk k (W (k + 1)) (W ((W (k + 1)) + 1)) (W ((W ((W (k + 1)) + 1)) + 1)) (W ((W ((W ((W (k + 1)) + 1)) + 1)) + 1))), (W ((W ((W ((W ((W (k + 1)) + 1)) + 1)) + 1)) + 1)))) a0 a1 := by
  have h := mark_loop (F := l_markKeyS_1) (f := (fun (x : TKey) (k : Int) => ((TKey.mk k (W (k + 1)) (W ((W (k + 1)) + 1)) (W ((W ((W (k + 1)) + 1)) + 1)) (W ((W ((W ((W (k + 1)) + 1)) + 1)) + 1))), (W ((W ((W ((W ((W (k + 1)) + 1)) + 1)) + 1)) + 1))))) (fun _ _ _ _ => rfl) a0 [] (a0.length + 1) a1 (by omega)
  unfold l_markKeyS
  simp only [List.length_nil, List.nil_append] at h
  rw [h]
@[simp] theorem l_markKeyS_len (a0 : List TKey) (a1 : Int) : (l_markKeyS a0 a1).1.length = a0.length := by rw [l_markKeyS_eq, mkL_len]
theorem l_markKeyS_c : ∀ (x : TKey) (k : Int), 0 ≤ k → k + (cn x : Nat) < 4611686018427387904 → ((fun (x : TKey) (k : Int) => ((TKey.mk k (W (k + 1)) (W ((W (k + 1)) + 1)) (W ((W ((W (k + 1)) + 1)) + 1)) (W ((W ((W ((W (k + 1)) + 1)) + 1)) + 1))), (W ((W ((W ((W ((W (k + 1)) + 1)) + 1)) + 1)) + 1)))) x k).2 = k + (cn x : Nat) := by
  intro x k h0 h
  simp only [cn_int, cn_bool, cn_u8, cn_str, TKey.cn_eq] at h ⊢
  have e0 : W (k + 1) = k + 1 := wrap_of (by omega) (by omega)
  have e1 : W ((W (k + 1)) + 1) = (W (k + 1)) + 1 := wrap_of (by omega) (by omega)
  have e2 : W ((W ((W (k + 1)) + 1)) + 1) = (W ((W (k + 1)) + 1)) + 1 := wrap_of (by omega) (by omega)
  have e3 : W ((W ((W ((W (k + 1)) + 1)) + 1)) + 1) = (W ((W ((W (k + 1)) + 1)) + 1)) + 1 := wrap_of (by omega) (by omega)
  have e4 : W ((W ((W ((W ((W (k + 1)) + 1)) + 1)) + 1)) + 1) = (W ((W ((W ((W (k + 1)) + 1)) + 1)) + 1)) + 1 := wrap_of (by omega) (by omega)
  omega
theorem l_markKeyS_cnt (a0 : List TKey) (a1 : Int) (h0 : 0 ≤ a1) (h : a1 + (cn a0 : Nat) < 4611686018427387904) : (l_markKeyS a0 a1).2 = a1 + (cn a0 : Nat) := by
  rw [l_markKeyS_eq]
  exact mkL_snd l_markKeyS_c a0 a1 h0 h
theorem l_markKeyS_mk (a0 : List TKey) (a1 : Int) (h0 : 0 ≤ a1) (h : a1 + (cn a0 : Nat) < 4611686018427387904) : a1 ≤ (l_markKeyS a0 a1).2 ∧ (l_markKeyS a0 a1).2 ≤ a1 + (cn a0 : Nat) := by
  have := l_markKeyS_cnt a0 a1 h0 h
  omega
theorem l_markAuthorityS_eq (a0 : List TAuthority) (a1 : Int) : l_markAuthorityS a0 a1 = mkL (fun (x : TAuthority) (k : Int) => ((TAuthority.mk k (W (k + 1)) (W ((W (k + 1)) + 1))), (W ((W ((W (k + 1)) + 1)) + 1)))) a0 a1 := by
  have h := mark_loop (F := l_markAuthorityS_1) (f := (fun (x : TAuthority) (k : Int) => ((TAuthority.mk k (W (k + 1)) (W ((W (k + 1)) + 1))), (W ((W ((W (k + 1)) + 1)) + 1))))) (fun _ _ _ _ => rfl) a0 [] (a0.length + 1) a1 (by omega)
  unfold l_markAuthorityS
  simp only [List.length_nil, List.nil_append] at h
  rw [h]
@[simp] theorem l_markAuthorityS_len (a0 : List TAuthority) (a1 : Int) : (l_markAuthorityS a0 a1).1.length = a0.length := by rw [l_markAuthorityS_eq, mkL_len]
theorem l_markAuthorityS_c : ∀ (x : TAuthority) (k : Int), 0 ≤ k → k + (cn x : Nat) < 4611686018427387904 → ((fun (x : TAuthority) (k : Int) => ((TAuthority.mk k (W (k + 1)) (W ((W (k + 1)) + 1))), (W ((W ((W (k + 1)) + 1)) + 1)))) x k).2 = k + (cn x : Nat) := by
  intro x k h0 h
  simp only [cn_int, cn_bool, cn_u8, cn_str, TAuthority.cn_eq] at h ⊢
  have e0 : W (k + 1) = k + 1 := wrap_of (by omega) (by omega)
  have e1 : W ((W (k + 1)) + 1) = (W (k + 1)) + 1 := wrap_of (by omega) (by omega)
  have e2 : W ((W ((W (k + 1)) + 1)) + 1) = (W ((W (k + 1)) + 1)) + 1 := wrap_of (by omega) (by omega)
  omega
theorem l_markAuthorityS_cnt (a0 : List TAuthority) (a1 : Int) (h0 : 0 ≤ a1) (h : a1 + (cn a0 : Nat) < 4611686018427387904) : (l_markAuthorityS a0 a1).2 = a1 + (cn a0 : Nat) := by
  rw [l_markAuthorityS_eq]
  exact mkL_snd l_markAuthorityS_c a0 a1 h0 h
theorem l_markAuthorityS_mk (a0 : List TAuthority) (a1 : Int) (h0 : 0 ≤ a1) (h : a1 + (cn a0 : Nat) < 4611686018427387904) : a1 ≤ (l_markAuthorityS a0 a1).2 ∧ (l_markAuthorityS a0 a1).2 ≤ a1 + (cn a0 : Nat) := by
  have := l_markAuthorityS_cnt a0 a1 h0 h
  omega
theorem l_markMethodS_eq (a0 : List TMethod) (a1 : Int) : l_markMethodS a0 a1 = mkL (fun (x : TMethod) (k : Int) => ((TMethod.mk k (W (k + 1)) (W ((W (k + 1)) + 1)) (W ((W ((W (k + 1)) + 1)) + 1))), (W ((W ((W ((W (k + 1)) + 1)) + 1)) + 1)))) a0 a1 := by
  have h := mark_loop (F := l_markMethodS_1) (f := (fun (x : TMethod) (k : Int) => ((TMethod.mk k (W (k + 1)) (W ((W (k + 1)) + 1)) (W ((W ((W (k + 1)) + 1)) + 1))), (W ((W ((W ((W (k + 1)) + 1)) + 1)) + 1))))) (fun _ _ _ _ => rfl) a0 [] (a0.length + 1) a1 (by omega)
  unfold l_markMethodS
  simp only [List.length_nil, List.nil_append] at h
  rw [h]
@[simp] theorem l_markMethodS_len (a0 : List TMethod) (a1 : Int) : (l_markMethodS a0 a1).1.length = a0.length := by rw [l_markMethodS_eq, mkL_len]
theorem l_markMethodS_c : ∀ (x : TMethod) (k : Int), 0 ≤ k → k + (cn x : Nat) < 4611686018427387904 → ((fun (x : TMethod) (k : Int) => ((TMethod.mk k (W (k + 1)) (W ((W (k + 1)) + 1)) (W ((W ((W (k + 1)) + 1)) + 1))), (W ((W ((W ((W (k + 1)) + 1)) + 1)) + 1)))) x k).2 = k + (cn x : Nat) := by
  intro x k h0 h
  simp only [cn_int, cn_bool, cn_u8, cn_str, TMethod.cn_eq] at h ⊢
  have e0 : W (k + 1) = k + 1 := wrap_of (by omega) (by omega)
  have e1 : W ((W (k + 1)) + 1) = (W (k + 1)) + 1 := wrap_of (by omega) (by omega)
  have e2 : W ((W ((W (k + 1)) + 1)) + 1) = (W ((W (k + 1)) + 1)) + 1 := wrap_of (by omega) (by omega)
  have e3 : W ((W ((W ((W (k + 1)) + 1)) + 1)) + 1) = (W ((W ((W (k + 1)) + 1)) + 1)) + 1 := wrap_of (by omega) (by omega)
  omega
theorem l_markMethodS_cnt (a0 : List TMethod) (a1 : Int) (h0 : 0 ≤ a1) (h : a1 + (cn a0 : Nat) < 4611686018427387904) : (l_markMethodS a0 a1).2 = a1 + (cn a0 : Nat) := by
  rw [l_markMethodS_eq]
  exact mkL_snd l_markMethodS_c a0 a1 h0 h
theorem l_markMethodS_mk (a0 : List TMethod) (a1 : Int) (h0 : 0 ≤ a1) (h : a1 + (cn a0 : Nat) < 4611686018427387904) : a1 ≤ (l_markMethodS a0 a1).2 ∧ (l_markMethodS a0 a1).2 ≤ a1 + (cn a0 : Nat) := by
  have := l_markMethodS_cnt a0 a1 h0 h
  omega
@[simp] theorem l_markFrame_Keys_len (a0 : TFrame) (a1 : Int) : (l_markFrame a0 a1).1.Keys.length = a0.Keys.length := by simp [l_markFrame]
@[simp] theorem l_markFrame_Authorities_len (a0 : TFrame) (a1 : Int) : (l_markFrame a0 a1).1.Authorities.length = a0.Authorities.length := by simp [l_markFrame]
@[simp] theorem l_markFrame_Methods_len (a0 : TFrame) (a1 : Int) : (l_markFrame a0 a1).1.Methods.length = a0.Methods.length := by simp [l_markFrame]
@[simp] theorem l_markFrame_Liars (a0 : TFrame) (a1 : Int) : (l_markFrame a0 a1).1.Liars = a0.Liars := rfl
@[simp] theorem l_markFrame_Now (a0 : TFrame) (a1 : Int) : (l_markFrame a0 a1).1.Now = a0.Now := rfl
theorem l_markFrame_mk (a0 : TFrame) (a1 : Int) (h0 : 0 ≤ a1) (h : a1 + (cn a0 : Nat) < 4611686018427387904) : a1 ≤ (l_markFrame a0 a1).2 ∧ (l_markFrame a0 a1).2 ≤ a1 + (cn a0 : Nat) := by
  simp only [cn_int, cn_bool, cn_str, TFrame.cn_eq] at h ⊢
  obtain ⟨m0, n0⟩ := l_markKeyS_mk a0.Keys a1 (by omega) (by omega)
  have q0 := l_markKeyS_cnt a0.Keys a1 (by omega) (by omega)
  have o0 : ¬ (l_markKeyS a0.Keys a1).2 < 0 := by omega
  obtain ⟨m3, n3⟩ := l_markAuthorityS_mk a0.Authorities (l_markKeyS a0.Keys a1).2 (by omega) (by omega)
  have q3 := l_markAuthorityS_cnt a0.Authorities (l_markKeyS a0.Keys a1).2 (by omega) (by omega)
  have o3 : ¬ (l_markAuthorityS a0.Authorities (l_markKeyS a0.Keys a1).2).2 < 0 := by omega
  obtain ⟨m6, n6⟩ := l_markMethodS_mk a0.Methods (l_markAuthorityS a0.Authorities (l_markKeyS a0.Keys a1).2).2 (by omega) (by omega)
  have q6 := l_markMethodS_cnt a0.Methods (l_markAuthorityS a0.Authorities (l_markKeyS a0.Keys a1).2).2 (by omega) (by omega)
  have o6 : ¬ (l_markMethodS a0.Methods (l_markAuthorityS a0.Authorities (l_markKeyS a0.Keys a1).2).2).2 < 0 := by omega
  refine ⟨by simp only [l_markFrame]; omega, by simp only [l_markFrame]; omega⟩
theorem l_markCertS_eq (a0 : List TCert) (a1 : Int) : l_markCertS a0 a1 = mkL (fun (x : TCert) (k : Int) => ((TCert.mk k (W (k + 1)) (W ((W (k + 1)) + 1)) (W ((W ((W (k + 1)) + 1)) + 1)) (W ((W ((W ((W (k + 1)) + 1)) + 1)) + 1)) (W ((W ((W ((W ((W (k + 1)) + 1)) + 1)) + 1)) + 1)) (W ((W ((W ((W ((W ((W (k + 1)) + 1)) + 1)) + 1)) + 1)) + 1))), (W ((W ((W ((W ((W ((W ((W (k + 1)) + 1)) + 1)) + 1)) + 1)) + 1)) + 1)))) a0 a1 := by
  have h := mark_loop (F := l_markCertS_1) (f := (fun (x : TCert) (k : Int) => ((TCert.mk k (W (k + 1)) (W ((W (k + 1)) + 1)) (W ((W ((W (k + 1)) + 1)) + 1)) (W ((W ((W ((W (k + 1)) + 1)) + 1)) + 1)) (W ((W ((W ((W ((W (k + 1)) + 1)) + 1)) + 1)) + 1)) (W ((W ((W ((W ((W ((W (k + 1)) + 1)) + 1)) + 1)) + 1)) + 1))), (W ((W ((W ((W ((W ((W ((W (k + 1)) + 1)) + 1)) + 1)) + 1)) + 1)) + 1))))) (fun _ _ _ _ => rfl) a0 [] (a0.length + 1) a1 (by omega)
  unfold l_markCertS
  simp only [List.length_nil, List.nil_append] at h
  rw [h]
@[simp] theorem l_markCertS_len (a0 : List TCert) (a1 : Int) : (l_markCertS a0 a1).1.length = a0.length := by rw [l_markCertS_eq, mkL_len]
theorem l_markCertS_c : ∀ (x : TCert) (k : Int), 0 ≤ k → k + (cn x : Nat) < 4611686018427387904 → ((fun (x : TCert) (k : Int) => ((TCert.mk k (W (k + 1)) (W ((W (k + 1)) + 1)) (W ((W ((W (k + 1)) + 1)) + 1)) (W ((W ((W ((W (k + 1)) + 1)) + 1)) + 1)) (W ((W ((W ((W ((W (k + 1)) + 1)) + 1)) + 1)) + 1)) (W ((W ((W ((W ((W ((W (k + 1)) + 1)) + 1)) + 1)) + 1)) + 1))), (W ((W ((W ((W ((W ((W ((W (k + 1)) + 1)) + 1)) + 1)) + 1)) + 1)) + 1)))) x k).2 = k + (cn x : Nat) := by
  intro x k h0 h
  simp only [cn_int, cn_bool, cn_u8, cn_str, TCert.cn_eq] at h ⊢
  have e0 : W (k + 1) = k + 1 := wrap_of (by omega) (by omega)
  have e1 : W ((W (k + 1)) + 1) = (W (k + 1)) + 1 := wrap_of (by omega) (by omega)
  have e2 : W ((W ((W (k + 1)) + 1)) + 1) = (W ((W (k + 1)) + 1)) + 1 := wrap_of (by omega) (by omega)
  have e3 : W ((W ((W ((W (k + 1)) + 1)) + 1)) + 1) = (W ((W ((W (k + 1)) + 1)) + 1)) + 1 := wrap_of (by omega) (by omega)
  have e4 : W ((W ((W ((W ((W (k + 1)) + 1)) + 1)) + 1)) + 1) = (W ((W ((W ((W (k + 1)) + 1)) + 1)) + 1)) + 1 := wrap_of (by omega) (by omega)
  have e5 : W ((W ((W ((W ((W ((W (k + 1)) + 1)) + 1)) + 1)) + 1)) + 1) = (W ((W ((W ((W ((W (k + 1)) + 1)) + 1)) + 1)) + 1)) + 1 := wrap_of (by omega) (by omega)
  have e6 : W ((W ((W ((W ((W ((W ((W (k + 1)) + 1)) + 1)) + 1)) + 1)) + 1)) + 1) = (W ((W ((W ((W ((W ((W (k + 1)) + 1)) + 1)) + 1)) + 1)) + 1)) + 1 := wrap_of (by omega) (by omega)
  omega
theorem l_markCertS_cnt (a0 : List TCert) (a1 : Int) (h0 : 0 ≤ a1) (h : a1 + (cn a0 : Nat) < 4611686018427387904) : (l_markCertS a0 a1).2 = a1 + (cn a0 : Nat) := by
  rw [l_markCertS_eq]
  exact mkL_snd l_markCertS_c a0 a1 h0 h
theorem l_markCertS_mk (a0 : List TCert) (a1 : Int) (h0 : 0 ≤ a1) (h : a1 + (cn a0 : Nat) < 4611686018427387904) : a1 ≤ (l_markCertS a0 a1).2 ∧ (l_markCertS a0 a1).2 ≤ a1 + (cn a0 : Nat) := by
  have := l_markCertS_cnt a0 a1 h0 h
  omega
theorem l_markIntS_eq (a0 : List Int) (a1 : Int) : l_markIntS a0 a1 = mkL (fun (x : Int) (k : Int) => (k, (W (k + 1)))) a0 a1 := by
  have h := mark_loop (F := l_markIntS_1) (f := (fun (x : Int) (k : Int) => (k, (W (k + 1))))) (fun _ _ _ _ => rfl) a0 [] (a0.length + 1) a1 (by omega)
  unfold l_markIntS
  simp only [List.length_nil, List.nil_append] at h
  rw [h]
@[simp] theorem l_markIntS_len (a0 : List Int) (a1 : Int) : (l_markIntS a0 a1).1.length = a0.length := by rw [l_markIntS_eq, mkL_len]
theorem l_markIntS_c : ∀ (x : Int) (k : Int), 0 ≤ k → k + (cn x : Nat) < 4611686018427387904 → ((fun (x : Int) (k : Int) => (k, (W (k + 1)))) x k).2 = k + (cn x : Nat) := by
  intro x k h0 h
  simp only [cn_int, cn_bool, cn_u8, cn_str] at h ⊢
  have e0 : W (k + 1) = k + 1 := wrap_of (by omega) (by omega)
  omega
theorem l_markIntS_cnt (a0 : List Int) (a1 : Int) (h0 : 0 ≤ a1) (h : a1 + (cn a0 : Nat) < 4611686018427387904) : (l_markIntS a0 a1).2 = a1 + (cn a0 : Nat) := by
  rw [l_markIntS_eq]
  exact mkL_snd l_markIntS_c a0 a1 h0 h
theorem l_markIntS_mk (a0 : List Int) (a1 : Int) (h0 : 0 ≤ a1) (h : a1 + (cn a0 : Nat) < 4611686018427387904) : a1 ≤ (l_markIntS a0 a1).2 ∧ (l_markIntS a0 a1).2 ≤ a1 + (cn a0 : Nat) := by
  have := l_markIntS_cnt a0 a1 h0 h
  omega
theorem l_markStringS_eq (a0 : List ByteArray) (a1 : Int) : l_markStringS a0 a1 = mkL (fun (x : ByteArray) (k : Int) => ((l_markText k), (W (k + 1)))) a0 a1 := by
  have h := mark_loop (F := l_markStringS_1) (f := (fun (x : ByteArray) (k : Int) => ((l_markText k), (W (k + 1))))) (fun _ _ _ _ => rfl) a0 [] (a0.length + 1) a1 (by omega)
  unfold l_markStringS
  simp only [List.length_nil, List.nil_append] at h
  rw [h]
@[simp] theorem l_markStringS_len (a0 : List ByteArray) (a1 : Int) : (l_markStringS a0 a1).1.length = a0.length := by rw [l_markStringS_eq, mkL_len]
theorem l_markStringS_c : ∀ (x : ByteArray) (k : Int), 0 ≤ k → k + (cn x : Nat) < 4611686018427387904 → ((fun (x : ByteArray) (k : Int) => ((l_markText k), (W (k + 1)))) x k).2 = k + (cn x : Nat) := by
  intro x k h0 h
  simp only [cn_int, cn_bool, cn_u8, cn_str] at h ⊢
  have e0 : W (k + 1) = k + 1 := wrap_of (by omega) (by omega)
  omega
theorem l_markStringS_cnt (a0 : List ByteArray) (a1 : Int) (h0 : 0 ≤ a1) (h : a1 + (cn a0 : Nat) < 4611686018427387904) : (l_markStringS a0 a1).2 = a1 + (cn a0 : Nat) := by
  rw [l_markStringS_eq]
  exact mkL_snd l_markStringS_c a0 a1 h0 h
theorem l_markStringS_mk (a0 : List ByteArray) (a1 : Int) (h0 : 0 ≤ a1) (h : a1 + (cn a0 : Nat) < 4611686018427387904) : a1 ≤ (l_markStringS a0 a1).2 ∧ (l_markStringS a0 a1).2 ≤ a1 + (cn a0 : Nat) := by
  have := l_markStringS_cnt a0 a1 h0 h
  omega
theorem l_markPieceS_eq (a0 : List TPiece) (a1 : Int) : l_markPieceS a0 a1 = mkL (fun (x : TPiece) (k : Int) => ((TPiece.mk k (l_markIntS x.Ints (W (k + 1))).1 (l_markIntS x.Ints (W (k + 1))).2), (W ((l_markIntS x.Ints (W (k + 1))).2 + 1)))) a0 a1 := by
  have h := mark_loop (F := l_markPieceS_1) (f := (fun (x : TPiece) (k : Int) => ((TPiece.mk k (l_markIntS x.Ints (W (k + 1))).1 (l_markIntS x.Ints (W (k + 1))).2), (W ((l_markIntS x.Ints (W (k + 1))).2 + 1))))) (fun _ _ _ _ => rfl) a0 [] (a0.length + 1) a1 (by omega)
  unfold l_markPieceS
  simp only [List.length_nil, List.nil_append] at h
  rw [h]
@[simp] theorem l_markPieceS_len (a0 : List TPiece) (a1 : Int) : (l_markPieceS a0 a1).1.length = a0.length := by rw [l_markPieceS_eq, mkL_len]
theorem l_markPieceS_c : ∀ (x : TPiece) (k : Int), 0 ≤ k → k + (cn x : Nat) < 4611686018427387904 → ((fun (x : TPiece) (k : Int) => ((TPiece.mk k (l_markIntS x.Ints (W (k + 1))).1 (l_markIntS x.Ints (W (k + 1))).2), (W ((l_markIntS x.Ints (W (k + 1))).2 + 1)))) x k).2 = k + (cn x : Nat) := by
  intro x k h0 h
  simp only [cn_int, cn_bool, cn_u8, cn_str, TPiece.cn_eq] at h ⊢
  have e0 : W (k + 1) = k + 1 := wrap_of (by omega) (by omega)
  obtain ⟨m1, n1⟩ := l_markIntS_mk x.Ints (W (k + 1)) (by omega) (by omega)
  have q1 := l_markIntS_cnt x.Ints (W (k + 1)) (by omega) (by omega)
  have o1 : ¬ (l_markIntS x.Ints (W (k + 1))).2 < 0 := by omega
  have e4 : W ((l_markIntS x.Ints (W (k + 1))).2 + 1) = (l_markIntS x.Ints (W (k + 1))).2 + 1 := wrap_of (by omega) (by omega)
  omega
theorem l_markPieceS_cnt (a0 : List TPiece) (a1 : Int) (h0 : 0 ≤ a1) (h : a1 + (cn a0 : Nat) < 4611686018427387904) : (l_markPieceS a0 a1).2 = a1 + (cn a0 : Nat) := by
  rw [l_markPieceS_eq]
  exact mkL_snd l_markPieceS_c a0 a1 h0 h
theorem l_markPieceS_mk (a0 : List TPiece) (a1 : Int) (h0 : 0 ≤ a1) (h : a1 + (cn a0 : Nat) < 4611686018427387904) : a1 ≤ (l_markPieceS a0 a1).2 ∧ (l_markPieceS a0 a1).2 ≤ a1 + (cn a0 : Nat) := by
  have := l_markPieceS_cnt a0 a1 h0 h
  omega
theorem l_markStepS_eq (a0 : List TStep) (a1 : Int) : l_markStepS a0 a1 = mkL (fun (x : TStep) (k : Int) => ((TStep.mk k ((Int.tmod (W (k + 1)) 3) == 0)), (W ((W (k + 1)) + 1)))) a0 a1 := by
  have h := mark_loop (F := l_markStepS_1) (f := (fun (x : TStep) (k : Int) => ((TStep.mk k ((Int.tmod (W (k + 1)) 3) == 0)), (W ((W (k + 1)) + 1))))) (fun _ _ _ _ => rfl) a0 [] (a0.length + 1) a1 (by omega)
  unfold l_markStepS
  simp only [List.length_nil, List.nil_append] at h
  rw [h]
@[simp] theorem l_markStepS_len (a0 : List TStep) (a1 : Int) : (l_markStepS a0 a1).1.length = a0.length := by rw [l_markStepS_eq, mkL_len]
theorem l_markStepS_c : ∀ (x : TStep) (k : Int), 0 ≤ k → k + (cn x : Nat) < 4611686018427387904 → ((fun (x : TStep) (k : Int) => ((TStep.mk k ((Int.tmod (W (k + 1)) 3) == 0)), (W ((W (k + 1)) + 1)))) x k).2 = k + (cn x : Nat) := by
  intro x k h0 h
  simp only [cn_int, cn_bool, cn_u8, cn_str, TStep.cn_eq] at h ⊢
  have e0 : W (k + 1) = k + 1 := wrap_of (by omega) (by omega)
  have e1 : W ((W (k + 1)) + 1) = (W (k + 1)) + 1 := wrap_of (by omega) (by omega)
  omega
theorem l_markStepS_cnt (a0 : List TStep) (a1 : Int) (h0 : 0 ≤ a1) (h : a1 + (cn a0 : Nat) < 4611686018427387904) : (l_markStepS a0 a1).2 = a1 + (cn a0 : Nat) := by
  rw [l_markStepS_eq]
  exact mkL_snd l_markStepS_c a0 a1 h0 h
theorem l_markStepS_mk (a0 : List TStep) (a1 : Int) (h0 : 0 ≤ a1) (h : a1 + (cn a0 : Nat) < 4611686018427387904) : a1 ≤ (l_markStepS a0 a1).2 ∧ (l_markStepS a0 a1).2 ≤ a1 + (cn a0 : Nat) := by
  have := l_markStepS_cnt a0 a1 h0 h
  omega
theorem l_markStampS_eq (a0 : List TStamp) (a1 : Int) : l_markStampS a0 a1 = mkL (fun (x : TStamp) (k : Int) => ((TStamp.mk k (W (k + 1)) (W ((W (k + 1)) + 1)) (W ((W ((W (k + 1)) + 1)) + 1)) (W ((W ((W ((W (k + 1)) + 1)) + 1)) + 1))), (W ((W ((W ((W ((W (k + 1)) + 1)) + 1)) + 1)) + 1)))) a0 a1 := by
  have h := mark_loop (F := l_markStampS_1) (f := (fun (x : TStamp) (k : Int) => ((TStamp.mk k (W (k + 1)) (W ((W (k + 1)) + 1)) (W ((W ((W (k + 1)) + 1)) + 1)) (W ((W ((W ((W (k + 1)) + 1)) + 1)) + 1))), (W ((W ((W ((W ((W (k + 1)) + 1)) + 1)) + 1)) + 1))))) (fun _ _ _ _ => rfl) a0 [] (a0.length + 1) a1 (by omega)
  unfold l_markStampS
  simp only [List.length_nil, List.nil_append] at h
  rw [h]
@[simp] theorem l_markStampS_len (a0 : List TStamp) (a1 : Int) : (l_markStampS a0 a1).1.length = a0.length := by rw [l_markStampS_eq, mkL_len]
theorem l_markStampS_c : ∀ (x : TStamp) (k : Int), 0 ≤ k → k + (cn x : Nat) < 4611686018427387904 → ((fun (x : TStamp) (k : Int) => ((TStamp.mk k (W (k + 1)) (W ((W (k + 1)) + 1)) (W ((W ((W (k + 1)) + 1)) + 1)) (W ((W ((W ((W (k + 1)) + 1)) + 1)) + 1))), (W ((W ((W ((W ((W (k + 1)) + 1)) + 1)) + 1)) + 1)))) x k).2 = k + (cn x : Nat) := by
  intro x k h0 h
  simp only [cn_int, cn_bool, cn_u8, cn_str, TStamp.cn_eq] at h ⊢
  have e0 : W (k + 1) = k + 1 := wrap_of (by omega) (by omega)
  have e1 : W ((W (k + 1)) + 1) = (W (k + 1)) + 1 := wrap_of (by omega) (by omega)
  have e2 : W ((W ((W (k + 1)) + 1)) + 1) = (W ((W (k + 1)) + 1)) + 1 := wrap_of (by omega) (by omega)
  have e3 : W ((W ((W ((W (k + 1)) + 1)) + 1)) + 1) = (W ((W ((W (k + 1)) + 1)) + 1)) + 1 := wrap_of (by omega) (by omega)
  have e4 : W ((W ((W ((W ((W (k + 1)) + 1)) + 1)) + 1)) + 1) = (W ((W ((W ((W (k + 1)) + 1)) + 1)) + 1)) + 1 := wrap_of (by omega) (by omega)
  omega
theorem l_markStampS_cnt (a0 : List TStamp) (a1 : Int) (h0 : 0 ≤ a1) (h : a1 + (cn a0 : Nat) < 4611686018427387904) : (l_markStampS a0 a1).2 = a1 + (cn a0 : Nat) := by
  rw [l_markStampS_eq]
  exact mkL_snd l_markStampS_c a0 a1 h0 h
theorem l_markStampS_mk (a0 : List TStamp) (a1 : Int) (h0 : 0 ≤ a1) (h : a1 + (cn a0 : Nat) < 4611686018427387904) : a1 ≤ (l_markStampS a0 a1).2 ∧ (l_markStampS a0 a1).2 ≤ a1 + (cn a0 : Nat) := by
  have := l_markStampS_cnt a0 a1 h0 h
  omega
theorem l_markStampS_g : ∀ (x : TStamp) (k : Int) (r : Int → Sum Int Int), 0 ≤ k → k + (cn x : Nat) < 4611686018427387904 → (fun (x : TStamp) (k : Int) (r : Int → Sum Int Int) => (bif (x.Authority != k) then (.inl (-1)) else (bif (x.Seq != (W (k + 1))) then (.inl (-1)) else (bif (x.Time != (W ((W (k + 1)) + 1))) then (.inl (-1)) else (bif (x.Digest != (W ((W ((W (k + 1)) + 1)) + 1))) then (.inl (-1)) else (bif (x.Mark != (W ((W ((W ((W (k + 1)) + 1)) + 1)) + 1))) then (.inl (-1)) else (r (W ((W ((W ((W ((W (k + 1)) + 1)) + 1)) + 1)) + 1))))))))) ((fun (x : TStamp) (k : Int) => ((TStamp.mk k (W (k + 1)) (W ((W (k + 1)) + 1)) (W ((W ((W (k + 1)) + 1)) + 1)) (W ((W ((W ((W (k + 1)) + 1)) + 1)) + 1))), (W ((W ((W ((W ((W (k + 1)) + 1)) + 1)) + 1)) + 1)))) x k).1 k r = r ((fun (x : TStamp) (k : Int) => ((TStamp.mk k (W (k + 1)) (W ((W (k + 1)) + 1)) (W ((W ((W (k + 1)) + 1)) + 1)) (W ((W ((W ((W (k + 1)) + 1)) + 1)) + 1))), (W ((W ((W ((W ((W (k + 1)) + 1)) + 1)) + 1)) + 1)))) x k).2 := by
  intro x k r h0 h
  simp only [cn_int, cn_bool, cn_u8, cn_str, TStamp.cn_eq] at h
  have e0 : W (k + 1) = k + 1 := wrap_of (by omega) (by omega)
  have e1 : W ((W (k + 1)) + 1) = (W (k + 1)) + 1 := wrap_of (by omega) (by omega)
  have e2 : W ((W ((W (k + 1)) + 1)) + 1) = (W ((W (k + 1)) + 1)) + 1 := wrap_of (by omega) (by omega)
  have e3 : W ((W ((W ((W (k + 1)) + 1)) + 1)) + 1) = (W ((W ((W (k + 1)) + 1)) + 1)) + 1 := wrap_of (by omega) (by omega)
  have e4 : W ((W ((W ((W ((W (k + 1)) + 1)) + 1)) + 1)) + 1) = (W ((W ((W ((W (k + 1)) + 1)) + 1)) + 1)) + 1 := wrap_of (by omega) (by omega)
  simp
theorem l_markStampS_mh (a0 : List TStamp) (a1 : Int) (h0 : 0 ≤ a1) (h : a1 + (cn a0 : Nat) < 4611686018427387904) : a1 ≤ (l_markStampS a0 a1).2 ∧ (l_markStampS a0 a1).2 ≤ a1 + (cn a0 : Nat) ∧ l_heldStampS (l_markStampS a0 a1).1 a1 = (l_markStampS a0 a1).2 := by
  rw [l_markStampS_eq]
  have s := mkL_snd l_markStampS_c a0 a1 h0 h
  have hh := held_loop (z := (mkL (fun (x : TStamp) (k : Int) => ((TStamp.mk k (W (k + 1)) (W ((W (k + 1)) + 1)) (W ((W ((W (k + 1)) + 1)) + 1)) (W ((W ((W ((W (k + 1)) + 1)) + 1)) + 1))), (W ((W ((W ((W ((W (k + 1)) + 1)) + 1)) + 1)) + 1)))) a0 a1).1) (H := l_heldStampS_1 (mkL (fun (x : TStamp) (k : Int) => ((TStamp.mk k (W (k + 1)) (W ((W (k + 1)) + 1)) (W ((W ((W (k + 1)) + 1)) + 1)) (W ((W ((W ((W (k + 1)) + 1)) + 1)) + 1))), (W ((W ((W ((W ((W (k + 1)) + 1)) + 1)) + 1)) + 1)))) a0 a1).1) (G := (fun (x : TStamp) (k : Int) (r : Int → Sum Int Int) => (bif (x.Authority != k) then (.inl (-1)) else (bif (x.Seq != (W (k + 1))) then (.inl (-1)) else (bif (x.Time != (W ((W (k + 1)) + 1))) then (.inl (-1)) else (bif (x.Digest != (W ((W ((W (k + 1)) + 1)) + 1))) then (.inl (-1)) else (bif (x.Mark != (W ((W ((W ((W (k + 1)) + 1)) + 1)) + 1))) then (.inl (-1)) else (r (W ((W ((W ((W ((W (k + 1)) + 1)) + 1)) + 1)) + 1)))))))))) (fun _ _ _ => rfl) l_markStampS_c l_markStampS_g a0 [] ((mkL (fun (x : TStamp) (k : Int) => ((TStamp.mk k (W (k + 1)) (W ((W (k + 1)) + 1)) (W ((W ((W (k + 1)) + 1)) + 1)) (W ((W ((W ((W (k + 1)) + 1)) + 1)) + 1))), (W ((W ((W ((W ((W (k + 1)) + 1)) + 1)) + 1)) + 1)))) a0 a1).1.length + 1) a1 (by simp) (by rw [mkL_len]; omega) h0 h
  simp only [List.length_nil] at hh
  rw [cn_list] at *
  refine ⟨by omega, by omega, ?_⟩
  unfold l_heldStampS
  rw [hh]
theorem l_markRenewalS_eq (a0 : List TRenewal) (a1 : Int) : l_markRenewalS a0 a1 = mkL (fun (x : TRenewal) (k : Int) => ((TRenewal.mk k (W (k + 1)) (W ((W (k + 1)) + 1)) (l_markStepS x.Path (W ((W ((W (k + 1)) + 1)) + 1))).1 (l_markStampS x.Stamps (l_markStepS x.Path (W ((W ((W (k + 1)) + 1)) + 1))).2).1), (l_markStampS x.Stamps (l_markStepS x.Path (W ((W ((W (k + 1)) + 1)) + 1))).2).2)) a0 a1 := by
  have h := mark_loop (F := l_markRenewalS_1) (f := (fun (x : TRenewal) (k : Int) => ((TRenewal.mk k (W (k + 1)) (W ((W (k + 1)) + 1)) (l_markStepS x.Path (W ((W ((W (k + 1)) + 1)) + 1))).1 (l_markStampS x.Stamps (l_markStepS x.Path (W ((W ((W (k + 1)) + 1)) + 1))).2).1), (l_markStampS x.Stamps (l_markStepS x.Path (W ((W ((W (k + 1)) + 1)) + 1))).2).2))) (fun _ _ _ _ => rfl) a0 [] (a0.length + 1) a1 (by omega)
  unfold l_markRenewalS
  simp only [List.length_nil, List.nil_append] at h
  rw [h]
@[simp] theorem l_markRenewalS_len (a0 : List TRenewal) (a1 : Int) : (l_markRenewalS a0 a1).1.length = a0.length := by rw [l_markRenewalS_eq, mkL_len]
theorem l_markRenewalS_c : ∀ (x : TRenewal) (k : Int), 0 ≤ k → k + (cn x : Nat) < 4611686018427387904 → ((fun (x : TRenewal) (k : Int) => ((TRenewal.mk k (W (k + 1)) (W ((W (k + 1)) + 1)) (l_markStepS x.Path (W ((W ((W (k + 1)) + 1)) + 1))).1 (l_markStampS x.Stamps (l_markStepS x.Path (W ((W ((W (k + 1)) + 1)) + 1))).2).1), (l_markStampS x.Stamps (l_markStepS x.Path (W ((W ((W (k + 1)) + 1)) + 1))).2).2)) x k).2 = k + (cn x : Nat) := by
  intro x k h0 h
  simp only [cn_int, cn_bool, cn_u8, cn_str, TRenewal.cn_eq] at h ⊢
  have e0 : W (k + 1) = k + 1 := wrap_of (by omega) (by omega)
  have e1 : W ((W (k + 1)) + 1) = (W (k + 1)) + 1 := wrap_of (by omega) (by omega)
  have e2 : W ((W ((W (k + 1)) + 1)) + 1) = (W ((W (k + 1)) + 1)) + 1 := wrap_of (by omega) (by omega)
  obtain ⟨m3, n3⟩ := l_markStepS_mk x.Path (W ((W ((W (k + 1)) + 1)) + 1)) (by omega) (by omega)
  have q3 := l_markStepS_cnt x.Path (W ((W ((W (k + 1)) + 1)) + 1)) (by omega) (by omega)
  have o3 : ¬ (l_markStepS x.Path (W ((W ((W (k + 1)) + 1)) + 1))).2 < 0 := by omega
  obtain ⟨m6, n6⟩ := l_markStampS_mk x.Stamps (l_markStepS x.Path (W ((W ((W (k + 1)) + 1)) + 1))).2 (by omega) (by omega)
  have q6 := l_markStampS_cnt x.Stamps (l_markStepS x.Path (W ((W ((W (k + 1)) + 1)) + 1))).2 (by omega) (by omega)
  have o6 : ¬ (l_markStampS x.Stamps (l_markStepS x.Path (W ((W ((W (k + 1)) + 1)) + 1))).2).2 < 0 := by omega
  omega
theorem l_markRenewalS_cnt (a0 : List TRenewal) (a1 : Int) (h0 : 0 ≤ a1) (h : a1 + (cn a0 : Nat) < 4611686018427387904) : (l_markRenewalS a0 a1).2 = a1 + (cn a0 : Nat) := by
  rw [l_markRenewalS_eq]
  exact mkL_snd l_markRenewalS_c a0 a1 h0 h
theorem l_markRenewalS_mk (a0 : List TRenewal) (a1 : Int) (h0 : 0 ≤ a1) (h : a1 + (cn a0 : Nat) < 4611686018427387904) : a1 ≤ (l_markRenewalS a0 a1).2 ∧ (l_markRenewalS a0 a1).2 ≤ a1 + (cn a0 : Nat) := by
  have := l_markRenewalS_cnt a0 a1 h0 h
  omega
theorem l_markItemS_eq (a0 : List TItem) (a1 : Int) : l_markItemS a0 a1 = mkL (fun (x : TItem) (k : Int) => ((TItem.mk k (W (k + 1)) (TDocument.mk (W ((W (k + 1)) + 1)) (l_markStringS x.Doc.Parts (W ((W ((W (k + 1)) + 1)) + 1))).1 (l_markIntS x.Doc.Salts (l_markStringS x.Doc.Parts (W ((W ((W (k + 1)) + 1)) + 1))).2).1) (TSignature.mk (l_markIntS x.Doc.Salts (l_markStringS x.Doc.Parts (W ((W ((W (k + 1)) + 1)) + 1))).2).2 (W ((l_markIntS x.Doc.Salts (l_markStringS x.Doc.Parts (W ((W ((W (k + 1)) + 1)) + 1))).2).2 + 1)) (W ((W ((l_markIntS x.Doc.Salts (l_markStringS x.Doc.Parts (W ((W ((W (k + 1)) + 1)) + 1))).2).2 + 1)) + 1)) (W ((W ((W ((l_markIntS x.Doc.Salts (l_markStringS x.Doc.Parts (W ((W ((W (k + 1)) + 1)) + 1))).2).2 + 1)) + 1)) + 1)) (W ((W ((W ((W ((l_markIntS x.Doc.Salts (l_markStringS x.Doc.Parts (W ((W ((W (k + 1)) + 1)) + 1))).2).2 + 1)) + 1)) + 1)) + 1)) (W ((W ((W ((W ((W ((l_markIntS x.Doc.Salts (l_markStringS x.Doc.Parts (W ((W ((W (k + 1)) + 1)) + 1))).2).2 + 1)) + 1)) + 1)) + 1)) + 1)) (W ((W ((W ((W ((W ((W ((l_markIntS x.Doc.Salts (l_markStringS x.Doc.Parts (W ((W ((W (k + 1)) + 1)) + 1))).2).2 + 1)) + 1)) + 1)) + 1)) + 1)) + 1)) (W ((W ((W ((W ((W ((W ((W ((l_markIntS x.Doc.Salts (l_markStringS x.Doc.Parts (W ((W ((W (k + 1)) + 1)) + 1))).2).2 + 1)) + 1)) + 1)) + 1)) + 1)) + 1)) + 1)) (W ((W ((W ((W ((W ((W ((W ((W ((l_markIntS x.Doc.Salts (l_markStringS x.Doc.Parts (W ((W ((W (k + 1)) + 1)) + 1))).2).2 + 1)) + 1)) + 1)) + 1)) + 1)) + 1)) + 1)) + 1))) (TStrand.mk (l_markPieceS x.Strand.Pieces (W ((W ((W ((W ((W ((W ((W ((W ((W ((l_markIntS x.Doc.Salts (l_markStringS x.Doc.Parts (W ((W ((W (k + 1)) + 1)) + 1))).2).2 + 1)) + 1)) + 1)) + 1)) + 1)) + 1)) + 1)) + 1)) + 1))).1 (l_markRenewalS x.Strand.Chain (l_markPieceS x.Strand.Pieces (W ((W ((W ((W ((W ((W ((W ((W ((W ((l_markIntS x.Doc.Salts (l_markStringS x.Doc.Parts (W ((W ((W (k + 1)) + 1)) + 1))).2).2 + 1)) + 1)) + 1)) + 1)) + 1)) + 1)) + 1)) + 1)) + 1))).2).1)), (l_markRenewalS x.Strand.Chain (l_markPieceS x.Strand.Pieces (W ((W ((W ((W ((W ((W ((W ((W ((W ((l_markIntS x.Doc.Salts (l_markStringS x.Doc.Parts (W ((W ((W (k + 1)) + 1)) + 1))).2).2 + 1)) + 1)) + 1)) + 1)) + 1)) + 1)) + 1)) + 1)) + 1))).2).2)) a0 a1 := by
  have h := mark_loop (F := l_markItemS_1) (f := (fun (x : TItem) (k : Int) => ((TItem.mk k (W (k + 1)) (TDocument.mk (W ((W (k + 1)) + 1)) (l_markStringS x.Doc.Parts (W ((W ((W (k + 1)) + 1)) + 1))).1 (l_markIntS x.Doc.Salts (l_markStringS x.Doc.Parts (W ((W ((W (k + 1)) + 1)) + 1))).2).1) (TSignature.mk (l_markIntS x.Doc.Salts (l_markStringS x.Doc.Parts (W ((W ((W (k + 1)) + 1)) + 1))).2).2 (W ((l_markIntS x.Doc.Salts (l_markStringS x.Doc.Parts (W ((W ((W (k + 1)) + 1)) + 1))).2).2 + 1)) (W ((W ((l_markIntS x.Doc.Salts (l_markStringS x.Doc.Parts (W ((W ((W (k + 1)) + 1)) + 1))).2).2 + 1)) + 1)) (W ((W ((W ((l_markIntS x.Doc.Salts (l_markStringS x.Doc.Parts (W ((W ((W (k + 1)) + 1)) + 1))).2).2 + 1)) + 1)) + 1)) (W ((W ((W ((W ((l_markIntS x.Doc.Salts (l_markStringS x.Doc.Parts (W ((W ((W (k + 1)) + 1)) + 1))).2).2 + 1)) + 1)) + 1)) + 1)) (W ((W ((W ((W ((W ((l_markIntS x.Doc.Salts (l_markStringS x.Doc.Parts (W ((W ((W (k + 1)) + 1)) + 1))).2).2 + 1)) + 1)) + 1)) + 1)) + 1)) (W ((W ((W ((W ((W ((W ((l_markIntS x.Doc.Salts (l_markStringS x.Doc.Parts (W ((W ((W (k + 1)) + 1)) + 1))).2).2 + 1)) + 1)) + 1)) + 1)) + 1)) + 1)) (W ((W ((W ((W ((W ((W ((W ((l_markIntS x.Doc.Salts (l_markStringS x.Doc.Parts (W ((W ((W (k + 1)) + 1)) + 1))).2).2 + 1)) + 1)) + 1)) + 1)) + 1)) + 1)) + 1)) (W ((W ((W ((W ((W ((W ((W ((W ((l_markIntS x.Doc.Salts (l_markStringS x.Doc.Parts (W ((W ((W (k + 1)) + 1)) + 1))).2).2 + 1)) + 1)) + 1)) + 1)) + 1)) + 1)) + 1)) + 1))) (TStrand.mk (l_markPieceS x.Strand.Pieces (W ((W ((W ((W ((W ((W ((W ((W ((W ((l_markIntS x.Doc.Salts (l_markStringS x.Doc.Parts (W ((W ((W (k + 1)) + 1)) + 1))).2).2 + 1)) + 1)) + 1)) + 1)) + 1)) + 1)) + 1)) + 1)) + 1))).1 (l_markRenewalS x.Strand.Chain (l_markPieceS x.Strand.Pieces (W ((W ((W ((W ((W ((W ((W ((W ((W ((l_markIntS x.Doc.Salts (l_markStringS x.Doc.Parts (W ((W ((W (k + 1)) + 1)) + 1))).2).2 + 1)) + 1)) + 1)) + 1)) + 1)) + 1)) + 1)) + 1)) + 1))).2).1)), (l_markRenewalS x.Strand.Chain (l_markPieceS x.Strand.Pieces (W ((W ((W ((W ((W ((W ((W ((W ((W ((l_markIntS x.Doc.Salts (l_markStringS x.Doc.Parts (W ((W ((W (k + 1)) + 1)) + 1))).2).2 + 1)) + 1)) + 1)) + 1)) + 1)) + 1)) + 1)) + 1)) + 1))).2).2))) (fun _ _ _ _ => rfl) a0 [] (a0.length + 1) a1 (by omega)
  unfold l_markItemS
  simp only [List.length_nil, List.nil_append] at h
  rw [h]
@[simp] theorem l_markItemS_len (a0 : List TItem) (a1 : Int) : (l_markItemS a0 a1).1.length = a0.length := by rw [l_markItemS_eq, mkL_len]
theorem l_markItemS_c : ∀ (x : TItem) (k : Int), 0 ≤ k → k + (cn x : Nat) < 4611686018427387904 → ((fun (x : TItem) (k : Int) => ((TItem.mk k (W (k + 1)) (TDocument.mk (W ((W (k + 1)) + 1)) (l_markStringS x.Doc.Parts (W ((W ((W (k + 1)) + 1)) + 1))).1 (l_markIntS x.Doc.Salts (l_markStringS x.Doc.Parts (W ((W ((W (k + 1)) + 1)) + 1))).2).1) (TSignature.mk (l_markIntS x.Doc.Salts (l_markStringS x.Doc.Parts (W ((W ((W (k + 1)) + 1)) + 1))).2).2 (W ((l_markIntS x.Doc.Salts (l_markStringS x.Doc.Parts (W ((W ((W (k + 1)) + 1)) + 1))).2).2 + 1)) (W ((W ((l_markIntS x.Doc.Salts (l_markStringS x.Doc.Parts (W ((W ((W (k + 1)) + 1)) + 1))).2).2 + 1)) + 1)) (W ((W ((W ((l_markIntS x.Doc.Salts (l_markStringS x.Doc.Parts (W ((W ((W (k + 1)) + 1)) + 1))).2).2 + 1)) + 1)) + 1)) (W ((W ((W ((W ((l_markIntS x.Doc.Salts (l_markStringS x.Doc.Parts (W ((W ((W (k + 1)) + 1)) + 1))).2).2 + 1)) + 1)) + 1)) + 1)) (W ((W ((W ((W ((W ((l_markIntS x.Doc.Salts (l_markStringS x.Doc.Parts (W ((W ((W (k + 1)) + 1)) + 1))).2).2 + 1)) + 1)) + 1)) + 1)) + 1)) (W ((W ((W ((W ((W ((W ((l_markIntS x.Doc.Salts (l_markStringS x.Doc.Parts (W ((W ((W (k + 1)) + 1)) + 1))).2).2 + 1)) + 1)) + 1)) + 1)) + 1)) + 1)) (W ((W ((W ((W ((W ((W ((W ((l_markIntS x.Doc.Salts (l_markStringS x.Doc.Parts (W ((W ((W (k + 1)) + 1)) + 1))).2).2 + 1)) + 1)) + 1)) + 1)) + 1)) + 1)) + 1)) (W ((W ((W ((W ((W ((W ((W ((W ((l_markIntS x.Doc.Salts (l_markStringS x.Doc.Parts (W ((W ((W (k + 1)) + 1)) + 1))).2).2 + 1)) + 1)) + 1)) + 1)) + 1)) + 1)) + 1)) + 1))) (TStrand.mk (l_markPieceS x.Strand.Pieces (W ((W ((W ((W ((W ((W ((W ((W ((W ((l_markIntS x.Doc.Salts (l_markStringS x.Doc.Parts (W ((W ((W (k + 1)) + 1)) + 1))).2).2 + 1)) + 1)) + 1)) + 1)) + 1)) + 1)) + 1)) + 1)) + 1))).1 (l_markRenewalS x.Strand.Chain (l_markPieceS x.Strand.Pieces (W ((W ((W ((W ((W ((W ((W ((W ((W ((l_markIntS x.Doc.Salts (l_markStringS x.Doc.Parts (W ((W ((W (k + 1)) + 1)) + 1))).2).2 + 1)) + 1)) + 1)) + 1)) + 1)) + 1)) + 1)) + 1)) + 1))).2).1)), (l_markRenewalS x.Strand.Chain (l_markPieceS x.Strand.Pieces (W ((W ((W ((W ((W ((W ((W ((W ((W ((l_markIntS x.Doc.Salts (l_markStringS x.Doc.Parts (W ((W ((W (k + 1)) + 1)) + 1))).2).2 + 1)) + 1)) + 1)) + 1)) + 1)) + 1)) + 1)) + 1)) + 1))).2).2)) x k).2 = k + (cn x : Nat) := by
  intro x k h0 h
  simp only [cn_int, cn_bool, cn_u8, cn_str, TItem.cn_eq, TDocument.cn_eq, TStrand.cn_eq, TSignature.cn_eq] at h ⊢
  have e0 : W (k + 1) = k + 1 := wrap_of (by omega) (by omega)
  have e1 : W ((W (k + 1)) + 1) = (W (k + 1)) + 1 := wrap_of (by omega) (by omega)
  have e2 : W ((W ((W (k + 1)) + 1)) + 1) = (W ((W (k + 1)) + 1)) + 1 := wrap_of (by omega) (by omega)
  obtain ⟨m3, n3⟩ := l_markStringS_mk x.Doc.Parts (W ((W ((W (k + 1)) + 1)) + 1)) (by omega) (by omega)
  have q3 := l_markStringS_cnt x.Doc.Parts (W ((W ((W (k + 1)) + 1)) + 1)) (by omega) (by omega)
  have o3 : ¬ (l_markStringS x.Doc.Parts (W ((W ((W (k + 1)) + 1)) + 1))).2 < 0 := by omega
  obtain ⟨m6, n6⟩ := l_markIntS_mk x.Doc.Salts (l_markStringS x.Doc.Parts (W ((W ((W (k + 1)) + 1)) + 1))).2 (by omega) (by omega)
  have q6 := l_markIntS_cnt x.Doc.Salts (l_markStringS x.Doc.Parts (W ((W ((W (k + 1)) + 1)) + 1))).2 (by omega) (by omega)
  have o6 : ¬ (l_markIntS x.Doc.Salts (l_markStringS x.Doc.Parts (W ((W ((W (k + 1)) + 1)) + 1))).2).2 < 0 := by omega
  have e9 : W ((l_markIntS x.Doc.Salts (l_markStringS x.Doc.Parts (W ((W ((W (k + 1)) + 1)) + 1))).2).2 + 1) = (l_markIntS x.Doc.Salts (l_markStringS x.Doc.Parts (W ((W ((W (k + 1)) + 1)) + 1))).2).2 + 1 := wrap_of (by omega) (by omega)
  have e10 : W ((W ((l_markIntS x.Doc.Salts (l_markStringS x.Doc.Parts (W ((W ((W (k + 1)) + 1)) + 1))).2).2 + 1)) + 1) = (W ((l_markIntS x.Doc.Salts (l_markStringS x.Doc.Parts (W ((W ((W (k + 1)) + 1)) + 1))).2).2 + 1)) + 1 := wrap_of (by omega) (by omega)
  have e11 : W ((W ((W ((l_markIntS x.Doc.Salts (l_markStringS x.Doc.Parts (W ((W ((W (k + 1)) + 1)) + 1))).2).2 + 1)) + 1)) + 1) = (W ((W ((l_markIntS x.Doc.Salts (l_markStringS x.Doc.Parts (W ((W ((W (k + 1)) + 1)) + 1))).2).2 + 1)) + 1)) + 1 := wrap_of (by omega) (by omega)
  have e12 : W ((W ((W ((W ((l_markIntS x.Doc.Salts (l_markStringS x.Doc.Parts (W ((W ((W (k + 1)) + 1)) + 1))).2).2 + 1)) + 1)) + 1)) + 1) = (W ((W ((W ((l_markIntS x.Doc.Salts (l_markStringS x.Doc.Parts (W ((W ((W (k + 1)) + 1)) + 1))).2).2 + 1)) + 1)) + 1)) + 1 := wrap_of (by omega) (by omega)
  have e13 : W ((W ((W ((W ((W ((l_markIntS x.Doc.Salts (l_markStringS x.Doc.Parts (W ((W ((W (k + 1)) + 1)) + 1))).2).2 + 1)) + 1)) + 1)) + 1)) + 1) = (W ((W ((W ((W ((l_markIntS x.Doc.Salts (l_markStringS x.Doc.Parts (W ((W ((W (k + 1)) + 1)) + 1))).2).2 + 1)) + 1)) + 1)) + 1)) + 1 := wrap_of (by omega) (by omega)
  have e14 : W ((W ((W ((W ((W ((W ((l_markIntS x.Doc.Salts (l_markStringS x.Doc.Parts (W ((W ((W (k + 1)) + 1)) + 1))).2).2 + 1)) + 1)) + 1)) + 1)) + 1)) + 1) = (W ((W ((W ((W ((W ((l_markIntS x.Doc.Salts (l_markStringS x.Doc.Parts (W ((W ((W (k + 1)) + 1)) + 1))).2).2 + 1)) + 1)) + 1)) + 1)) + 1)) + 1 := wrap_of (by omega) (by omega)
  have e15 : W ((W ((W ((W ((W ((W ((W ((l_markIntS x.Doc.Salts (l_markStringS x.Doc.Parts (W ((W ((W (k + 1)) + 1)) + 1))).2).2 + 1)) + 1)) + 1)) + 1)) + 1)) + 1)) + 1) = (W ((W ((W ((W ((W ((W ((l_markIntS x.Doc.Salts (l_markStringS x.Doc.Parts (W ((W ((W (k + 1)) + 1)) + 1))).2).2 + 1)) + 1)) + 1)) + 1)) + 1)) + 1)) + 1 := wrap_of (by omega) (by omega)
  have e16 : W ((W ((W ((W ((W ((W ((W ((W ((l_markIntS x.Doc.Salts (l_markStringS x.Doc.Parts (W ((W ((W (k + 1)) + 1)) + 1))).2).2 + 1)) + 1)) + 1)) + 1)) + 1)) + 1)) + 1)) + 1) = (W ((W ((W ((W ((W ((W ((W ((l_markIntS x.Doc.Salts (l_markStringS x.Doc.Parts (W ((W ((W (k + 1)) + 1)) + 1))).2).2 + 1)) + 1)) + 1)) + 1)) + 1)) + 1)) + 1)) + 1 := wrap_of (by omega) (by omega)
  have e17 : W ((W ((W ((W ((W ((W ((W ((W ((W ((l_markIntS x.Doc.Salts (l_markStringS x.Doc.Parts (W ((W ((W (k + 1)) + 1)) + 1))).2).2 + 1)) + 1)) + 1)) + 1)) + 1)) + 1)) + 1)) + 1)) + 1) = (W ((W ((W ((W ((W ((W ((W ((W ((l_markIntS x.Doc.Salts (l_markStringS x.Doc.Parts (W ((W ((W (k + 1)) + 1)) + 1))).2).2 + 1)) + 1)) + 1)) + 1)) + 1)) + 1)) + 1)) + 1)) + 1 := wrap_of (by omega) (by omega)
  obtain ⟨m18, n18⟩ := l_markPieceS_mk x.Strand.Pieces (W ((W ((W ((W ((W ((W ((W ((W ((W ((l_markIntS x.Doc.Salts (l_markStringS x.Doc.Parts (W ((W ((W (k + 1)) + 1)) + 1))).2).2 + 1)) + 1)) + 1)) + 1)) + 1)) + 1)) + 1)) + 1)) + 1)) (by omega) (by omega)
  have q18 := l_markPieceS_cnt x.Strand.Pieces (W ((W ((W ((W ((W ((W ((W ((W ((W ((l_markIntS x.Doc.Salts (l_markStringS x.Doc.Parts (W ((W ((W (k + 1)) + 1)) + 1))).2).2 + 1)) + 1)) + 1)) + 1)) + 1)) + 1)) + 1)) + 1)) + 1)) (by omega) (by omega)
  have o18 : ¬ (l_markPieceS x.Strand.Pieces (W ((W ((W ((W ((W ((W ((W ((W ((W ((l_markIntS x.Doc.Salts (l_markStringS x.Doc.Parts (W ((W ((W (k + 1)) + 1)) + 1))).2).2 + 1)) + 1)) + 1)) + 1)) + 1)) + 1)) + 1)) + 1)) + 1))).2 < 0 := by omega
  obtain ⟨m21, n21⟩ := l_markRenewalS_mk x.Strand.Chain (l_markPieceS x.Strand.Pieces (W ((W ((W ((W ((W ((W ((W ((W ((W ((l_markIntS x.Doc.Salts (l_markStringS x.Doc.Parts (W ((W ((W (k + 1)) + 1)) + 1))).2).2 + 1)) + 1)) + 1)) + 1)) + 1)) + 1)) + 1)) + 1)) + 1))).2 (by omega) (by omega)
  have q21 := l_markRenewalS_cnt x.Strand.Chain (l_markPieceS x.Strand.Pieces (W ((W ((W ((W ((W ((W ((W ((W ((W ((l_markIntS x.Doc.Salts (l_markStringS x.Doc.Parts (W ((W ((W (k + 1)) + 1)) + 1))).2).2 + 1)) + 1)) + 1)) + 1)) + 1)) + 1)) + 1)) + 1)) + 1))).2 (by omega) (by omega)
  have o21 : ¬ (l_markRenewalS x.Strand.Chain (l_markPieceS x.Strand.Pieces (W ((W ((W ((W ((W ((W ((W ((W ((W ((l_markIntS x.Doc.Salts (l_markStringS x.Doc.Parts (W ((W ((W (k + 1)) + 1)) + 1))).2).2 + 1)) + 1)) + 1)) + 1)) + 1)) + 1)) + 1)) + 1)) + 1))).2).2 < 0 := by omega
  omega
theorem l_markItemS_cnt (a0 : List TItem) (a1 : Int) (h0 : 0 ≤ a1) (h : a1 + (cn a0 : Nat) < 4611686018427387904) : (l_markItemS a0 a1).2 = a1 + (cn a0 : Nat) := by
  rw [l_markItemS_eq]
  exact mkL_snd l_markItemS_c a0 a1 h0 h
theorem l_markItemS_mk (a0 : List TItem) (a1 : Int) (h0 : 0 ≤ a1) (h : a1 + (cn a0 : Nat) < 4611686018427387904) : a1 ≤ (l_markItemS a0 a1).2 ∧ (l_markItemS a0 a1).2 ≤ a1 + (cn a0 : Nat) := by
  have := l_markItemS_cnt a0 a1 h0 h
  omega
theorem l_markArchiveS_eq (a0 : List TArchive) (a1 : Int) : l_markArchiveS a0 a1 = mkL (fun (x : TArchive) (k : Int) => ((TArchive.mk k (l_markItemS x.Items (W (k + 1))).1), (l_markItemS x.Items (W (k + 1))).2)) a0 a1 := by
  have h := mark_loop (F := l_markArchiveS_1) (f := (fun (x : TArchive) (k : Int) => ((TArchive.mk k (l_markItemS x.Items (W (k + 1))).1), (l_markItemS x.Items (W (k + 1))).2))) (fun _ _ _ _ => rfl) a0 [] (a0.length + 1) a1 (by omega)
  unfold l_markArchiveS
  simp only [List.length_nil, List.nil_append] at h
  rw [h]
@[simp] theorem l_markArchiveS_len (a0 : List TArchive) (a1 : Int) : (l_markArchiveS a0 a1).1.length = a0.length := by rw [l_markArchiveS_eq, mkL_len]
theorem l_markArchiveS_c : ∀ (x : TArchive) (k : Int), 0 ≤ k → k + (cn x : Nat) < 4611686018427387904 → ((fun (x : TArchive) (k : Int) => ((TArchive.mk k (l_markItemS x.Items (W (k + 1))).1), (l_markItemS x.Items (W (k + 1))).2)) x k).2 = k + (cn x : Nat) := by
  intro x k h0 h
  simp only [cn_int, cn_bool, cn_u8, cn_str, TArchive.cn_eq] at h ⊢
  have e0 : W (k + 1) = k + 1 := wrap_of (by omega) (by omega)
  obtain ⟨m1, n1⟩ := l_markItemS_mk x.Items (W (k + 1)) (by omega) (by omega)
  have q1 := l_markItemS_cnt x.Items (W (k + 1)) (by omega) (by omega)
  have o1 : ¬ (l_markItemS x.Items (W (k + 1))).2 < 0 := by omega
  omega
theorem l_markArchiveS_cnt (a0 : List TArchive) (a1 : Int) (h0 : 0 ≤ a1) (h : a1 + (cn a0 : Nat) < 4611686018427387904) : (l_markArchiveS a0 a1).2 = a1 + (cn a0 : Nat) := by
  rw [l_markArchiveS_eq]
  exact mkL_snd l_markArchiveS_c a0 a1 h0 h
theorem l_markArchiveS_mk (a0 : List TArchive) (a1 : Int) (h0 : 0 ≤ a1) (h : a1 + (cn a0 : Nat) < 4611686018427387904) : a1 ≤ (l_markArchiveS a0 a1).2 ∧ (l_markArchiveS a0 a1).2 ≤ a1 + (cn a0 : Nat) := by
  have := l_markArchiveS_cnt a0 a1 h0 h
  omega
@[simp] theorem l_markWorld_Frame_Keys_len (a0 : TWorld) (a1 : Int) : (l_markWorld a0 a1).1.Frame.Keys.length = a0.Frame.Keys.length := by simp [l_markWorld]
@[simp] theorem l_markWorld_Frame_Authorities_len (a0 : TWorld) (a1 : Int) : (l_markWorld a0 a1).1.Frame.Authorities.length = a0.Frame.Authorities.length := by simp [l_markWorld]
@[simp] theorem l_markWorld_Frame_Methods_len (a0 : TWorld) (a1 : Int) : (l_markWorld a0 a1).1.Frame.Methods.length = a0.Frame.Methods.length := by simp [l_markWorld]
@[simp] theorem l_markWorld_Frame_Liars (a0 : TWorld) (a1 : Int) : (l_markWorld a0 a1).1.Frame.Liars = a0.Frame.Liars := rfl
@[simp] theorem l_markWorld_Frame_Now (a0 : TWorld) (a1 : Int) : (l_markWorld a0 a1).1.Frame.Now = a0.Frame.Now := rfl
@[simp] theorem l_markWorld_Certs_len (a0 : TWorld) (a1 : Int) : (l_markWorld a0 a1).1.Certs.length = a0.Certs.length := by simp [l_markWorld]
@[simp] theorem l_markWorld_Ended_len (a0 : TWorld) (a1 : Int) : (l_markWorld a0 a1).1.Ended.length = a0.Ended.length := by simp [l_markWorld]
@[simp] theorem l_markWorld_Archives_len (a0 : TWorld) (a1 : Int) : (l_markWorld a0 a1).1.Archives.length = a0.Archives.length := by simp [l_markWorld]
@[simp] theorem l_markWorld_Seqs_len (a0 : TWorld) (a1 : Int) : (l_markWorld a0 a1).1.Seqs.length = a0.Seqs.length := by simp [l_markWorld]
@[simp] theorem l_markWorld_Lying_len (a0 : TWorld) (a1 : Int) : (l_markWorld a0 a1).1.Lying.length = a0.Lying.length := by simp [l_markWorld]
@[simp] theorem l_markWorld_Next (a0 : TWorld) (a1 : Int) : (l_markWorld a0 a1).1.Next = a0.Next := rfl
@[simp] theorem l_markWorld_Forged_len (a0 : TWorld) (a1 : Int) : (l_markWorld a0 a1).1.Forged.length = a0.Forged.length := by simp [l_markWorld]
theorem l_markWorld_mk (a0 : TWorld) (a1 : Int) (h0 : 0 ≤ a1) (h : a1 + (cn a0 : Nat) < 4611686018427387904) : a1 ≤ (l_markWorld a0 a1).2 ∧ (l_markWorld a0 a1).2 ≤ a1 + (cn a0 : Nat) := by
  simp only [cn_int, cn_bool, cn_str, TWorld.cn_eq] at h ⊢
  obtain ⟨m0, n0⟩ := l_markFrame_mk a0.Frame a1 (by omega) (by omega)
  have o0 : ¬ (l_markFrame a0.Frame a1).2 < 0 := by omega
  obtain ⟨m2, n2⟩ := l_markCertS_mk a0.Certs (l_markFrame a0.Frame a1).2 (by omega) (by omega)
  have q2 := l_markCertS_cnt a0.Certs (l_markFrame a0.Frame a1).2 (by omega) (by omega)
  have o2 : ¬ (l_markCertS a0.Certs (l_markFrame a0.Frame a1).2).2 < 0 := by omega
  obtain ⟨m5, n5⟩ := l_markIntS_mk a0.Ended (l_markCertS a0.Certs (l_markFrame a0.Frame a1).2).2 (by omega) (by omega)
  have q5 := l_markIntS_cnt a0.Ended (l_markCertS a0.Certs (l_markFrame a0.Frame a1).2).2 (by omega) (by omega)
  have o5 : ¬ (l_markIntS a0.Ended (l_markCertS a0.Certs (l_markFrame a0.Frame a1).2).2).2 < 0 := by omega
  obtain ⟨m8, n8⟩ := l_markArchiveS_mk a0.Archives (l_markIntS a0.Ended (l_markCertS a0.Certs (l_markFrame a0.Frame a1).2).2).2 (by omega) (by omega)
  have q8 := l_markArchiveS_cnt a0.Archives (l_markIntS a0.Ended (l_markCertS a0.Certs (l_markFrame a0.Frame a1).2).2).2 (by omega) (by omega)
  have o8 : ¬ (l_markArchiveS a0.Archives (l_markIntS a0.Ended (l_markCertS a0.Certs (l_markFrame a0.Frame a1).2).2).2).2 < 0 := by omega
  obtain ⟨m11, n11⟩ := l_markIntS_mk a0.Seqs (l_markArchiveS a0.Archives (l_markIntS a0.Ended (l_markCertS a0.Certs (l_markFrame a0.Frame a1).2).2).2).2 (by omega) (by omega)
  have q11 := l_markIntS_cnt a0.Seqs (l_markArchiveS a0.Archives (l_markIntS a0.Ended (l_markCertS a0.Certs (l_markFrame a0.Frame a1).2).2).2).2 (by omega) (by omega)
  have o11 : ¬ (l_markIntS a0.Seqs (l_markArchiveS a0.Archives (l_markIntS a0.Ended (l_markCertS a0.Certs (l_markFrame a0.Frame a1).2).2).2).2).2 < 0 := by omega
  obtain ⟨m14, n14⟩ := l_markIntS_mk a0.Lying (l_markIntS a0.Seqs (l_markArchiveS a0.Archives (l_markIntS a0.Ended (l_markCertS a0.Certs (l_markFrame a0.Frame a1).2).2).2).2).2 (by omega) (by omega)
  have q14 := l_markIntS_cnt a0.Lying (l_markIntS a0.Seqs (l_markArchiveS a0.Archives (l_markIntS a0.Ended (l_markCertS a0.Certs (l_markFrame a0.Frame a1).2).2).2).2).2 (by omega) (by omega)
  have o14 : ¬ (l_markIntS a0.Lying (l_markIntS a0.Seqs (l_markArchiveS a0.Archives (l_markIntS a0.Ended (l_markCertS a0.Certs (l_markFrame a0.Frame a1).2).2).2).2).2).2 < 0 := by omega
  obtain ⟨m17, n17⟩ := l_markIntS_mk a0.Forged (l_markIntS a0.Lying (l_markIntS a0.Seqs (l_markArchiveS a0.Archives (l_markIntS a0.Ended (l_markCertS a0.Certs (l_markFrame a0.Frame a1).2).2).2).2).2).2 (by omega) (by omega)
  have q17 := l_markIntS_cnt a0.Forged (l_markIntS a0.Lying (l_markIntS a0.Seqs (l_markArchiveS a0.Archives (l_markIntS a0.Ended (l_markCertS a0.Certs (l_markFrame a0.Frame a1).2).2).2).2).2).2 (by omega) (by omega)
  have o17 : ¬ (l_markIntS a0.Forged (l_markIntS a0.Lying (l_markIntS a0.Seqs (l_markArchiveS a0.Archives (l_markIntS a0.Ended (l_markCertS a0.Certs (l_markFrame a0.Frame a1).2).2).2).2).2).2).2 < 0 := by omega
  refine ⟨by simp only [l_markWorld]; omega, by simp only [l_markWorld]; omega⟩
def itn (l : List TArchive) : Nat := cnL (fun a => a.Items.length) l
theorem itn_drop {l : List TArchive} {i : Nat} (h : i < l.length) : itn (l.drop i) = (nth l i).Items.length + itn (l.drop (i + 1)) := cnL_dropG _ h
theorem i_itemsOf_flat (a0 : TWorld) : i_itemsOf a0 = a0.Archives.flatMap (·.Items) := by
  unfold i_itemsOf
  have := app_loop (as := a0.Archives) (fun a => a.Items) (F := fun n i l => i_itemsOf_1 a0 n l i) (fun _ _ _ => rfl) (a0.Archives.length + 1) 0 [] (by omega) (Nat.zero_le _)
  simpa using this
theorem i_itemsOf_len (a0 : TWorld) : (i_itemsOf a0).length = itn a0.Archives := by rw [i_itemsOf_flat, flat_len]; rfl
theorem l_szWorld_itn {a0 : TWorld} {a1 : Int} (hm : Sm maxLen a0) (h0 : 0 ≤ a1) (hn : a1 ≤ 1048576) (h : ¬ l_szWorld a0 a1 < 0) : itn a0.Archives ≤ 1048576 := by
  have hI : @CzOk TItem _ _ ⟨fun _ => 32⟩ l_szItem 32 := fun a n hm h0 hn h => ⟨by have := (l_szItem_cz a n hm h0 hn h).2; show ((32 : Nat) : Int) ≤ _; omega, (l_szItem_cz a n hm h0 hn h).2⟩
  have hIS : @CzOk (List TItem) _ _ (@instCnList TItem ⟨fun _ => 32⟩) l_szItemS 0 := @cz_loop TItem _ _ ⟨fun _ => 32⟩ l_szItem 32 hI (by decide) l_szItemS l_szItemS_1 (fun _ _ _ _ => rfl) (fun _ _ => rfl)
  have hA : @CzOk TArchive _ _ ⟨fun a => 32 * a.Items.length⟩ l_szArchive 0 := by
    intro a n hm h0 hn h
    unfold l_szArchive at h ⊢
    by_cases c0 : (l_szItemS a.Items n) < 0
    · simp [c0] at h
    obtain ⟨s0, t0⟩ := hIS a.Items n (by simp [hm]) (by omega) (by omega) c0
    simp only [c0, decide_false, cond_false] at h ⊢
    refine ⟨?_, t0⟩
    have e : cnL (fun _ : TItem => 32) a.Items = 32 * a.Items.length := cnL_same (fun _ => rfl) _
    have s1 : ((cnL (fun _ : TItem => 32) a.Items : Nat) : Int) ≤ 32 * (n - l_szItemS a.Items n) + (0 : Nat) := s0
    rw [e] at s1; exact s1
  have hAS : @CzOk (List TArchive) _ _ (@instCnList TArchive ⟨fun a => 32 * a.Items.length⟩) l_szArchiveS 0 := @cz_loop TArchive _ _ ⟨fun a => 32 * a.Items.length⟩ l_szArchive 0 hA (by decide) l_szArchiveS l_szArchiveS_1 (fun _ _ _ _ => rfl) (fun _ _ => rfl)
  unfold l_szWorld at h
  by_cases c0 : (l_szFrame a0.Frame a1) < 0
  · simp [c0] at h
  obtain ⟨_, t0⟩ := l_szFrame_cz a0.Frame a1 (by simp [hm]) (by omega) (by omega) c0
  by_cases c1 : (l_szCertS a0.Certs (l_szFrame a0.Frame a1)) < 0
  · simp [c1, c0] at h
  obtain ⟨_, t1⟩ := l_szCertS_cz a0.Certs (l_szFrame a0.Frame a1) (by simp [hm]) (by omega) (by omega) c1
  by_cases c2 : (l_szIntS a0.Ended (l_szCertS a0.Certs (l_szFrame a0.Frame a1))) < 0
  · simp [c2, c0, c1] at h
  obtain ⟨_, t2⟩ := l_szIntS_cz a0.Ended (l_szCertS a0.Certs (l_szFrame a0.Frame a1)) (by simp [hm]) (by omega) (by omega) c2
  by_cases c3 : (l_szArchiveS a0.Archives (l_szIntS a0.Ended (l_szCertS a0.Certs (l_szFrame a0.Frame a1)))) < 0
  · simp [c3, c0, c1, c2] at h
  obtain ⟨s3, t3⟩ := hAS a0.Archives (l_szIntS a0.Ended (l_szCertS a0.Certs (l_szFrame a0.Frame a1))) (by simp [hm]) (by omega) (by omega) c3
  have s4 : ((cnL (fun a : TArchive => 32 * a.Items.length) a0.Archives : Nat) : Int) ≤ 32 * (l_szIntS a0.Ended (l_szCertS a0.Certs (l_szFrame a0.Frame a1)) - l_szArchiveS a0.Archives (l_szIntS a0.Ended (l_szCertS a0.Certs (l_szFrame a0.Frame a1)))) + (0 : Nat) := s3
  have e : ∀ l : List TArchive, cnL (fun a : TArchive => 32 * a.Items.length) l = 32 * itn l := by
    intro l; induction l with
    | nil => rfl
    | cons x l ih => show 32 * x.Items.length + cnL _ l = 32 * (x.Items.length + itn l); rw [ih]; omega
  rw [e] at s4
  omega
def stc (s : TStrand) : Nat := cnL (fun r => r.Stamps.length) s.Chain
def stot (e : TEvidence) : Nat := cnL stc e.Strands + cnL List.length e.Fresh
theorem stc_drop {l : List TStrand} {i : Nat} (h : i < l.length) : cnL stc (l.drop i) = stc (nth l i) + cnL stc (l.drop (i + 1)) := cnL_dropG _ h
theorem rst_drop {l : List TRenewal} {i : Nat} (h : i < l.length) : cnL (fun r => r.Stamps.length) (l.drop i) = (nth l i).Stamps.length + cnL (fun r => r.Stamps.length) (l.drop (i + 1)) := cnL_dropG _ h
theorem fsh_drop {l : List (List TStamp)} {i : Nat} (h : i < l.length) : cnL List.length (l.drop i) = (nth l i).length + cnL List.length (l.drop (i + 1)) := cnL_dropG _ h
theorem s_l27Add_1_len (a1 : List TStamp) : ∀ (n : Nat) (l : List TStamp) (i : Nat), i ≤ a1.length → (s_l27Add_1 a1 n l i).length ≤ l.length + (a1.length - i)
  | 0, l, i, _ => Nat.zero_le _
  | n + 1, l, i, hi => by
    simp only [s_l27Add_1]
    by_cases h : i < a1.length
    · rw [show decide ((i : Int) < (a1.length : Int)) = true by simpa using h]
      have h1 := s_l27Add_1_len a1 n (l ++ [nth a1 i]) (i + 1) h
      have h2 := s_l27Add_1_len a1 n l (i + 1) h
      simp only [cond_true]
      refine cond_cases (p := fun (r : List TStamp) => r.length ≤ l.length + (a1.length - i)) ?_ ?_
      · simp at h1; omega
      · omega
    · rw [show decide ((i : Int) < (a1.length : Int)) = false by simpa using h]; simp only [cond_false]; omega
theorem s_l27Add_len (a0 a1 : List TStamp) : (s_l27Add a0 a1).length ≤ a0.length + a1.length := s_l27Add_1_len a1 (a1.length + 1) a0 0 (Nat.zero_le _)
theorem l27_2 (a1 v : List TStamp) (k : Nat) : ∀ n b i, s_l27Add_2 a1 v k n b i = i_StampsOf_c1_2 a1 k v n b i
  | 0, _, _ => rfl
  | n + 1, b, i => by simp only [s_l27Add_2, i_StampsOf_c1_2, l27_2 a1 v k n]
theorem l27_1 (a1 : List TStamp) : ∀ n l i, s_l27Add_1 a1 n l i = i_StampsOf_c1_1 a1 n i l
  | 0, _, _ => rfl
  | n + 1, l, i => by simp only [s_l27Add_1, i_StampsOf_c1_1, l27_1 a1 n, l27_2]
theorem l27 (a0 a1 : List TStamp) : s_l27Add a0 a1 = i_StampsOf_c1 a1 a0 := by simp only [s_l27Add, i_StampsOf_c1, l27_1]
theorem i_StampsOf_c1_len (a0 a1 : List TStamp) : (i_StampsOf_c1 a0 a1).length ≤ a1.length + a0.length := by rw [← l27]; exact s_l27Add_len a1 a0
theorem stc_le (s : TStrand) : stc s ≤ cn s := by
  have h : stc s ≤ cnL (cn : TRenewal → Nat) s.Chain := cnL_mono (fun r => by
    have := cnL_ge (c := (cn : TStamp → Nat)) (fun x => by rw [TStamp.cn_eq]; simp only [cn_int]; omega) r.Stamps
    rw [TRenewal.cn_eq, cn_list (x := r.Stamps)]; omega) _
  rw [TStrand.cn_eq, cn_list (x := s.Chain)]; omega
def strandsOf (a0 : TWorld) : List TStrand := (a0.Archives.flatMap (·.Items)).map (·.Strand)
theorem i_AllStamps_strands (a0 : TWorld) : i_AllStamps_1 a0 ((i_itemsOf a0).length + 1) 0 [] = strandsOf a0 := by
  have := app_loop (as := i_itemsOf a0) (fun a => [a.Strand]) (F := i_AllStamps_1 a0) (fun _ _ _ => rfl) ((i_itemsOf a0).length + 1) 0 [] (by omega) (Nat.zero_le _)
  rw [this, strandsOf, ← i_itemsOf_flat, flat_one]
  rfl
theorem s_AllStamps_strands (a0 : TWorld) : s_AllStamps_1 a0 (a0.Archives.length + 1) 0 [] = strandsOf a0 := by
  have h2 : ∀ v l, s_AllStamps_2 a0 v ((nth a0.Archives v).Items.length + 1) 0 l = l ++ (nth a0.Archives v).Items.map (·.Strand) := by
    intro v l
    have := app_loop (as := (nth a0.Archives v).Items) (fun a => [a.Strand]) (F := s_AllStamps_2 a0 v) (fun _ _ _ => rfl) ((nth a0.Archives v).Items.length + 1) 0 l (by omega) (Nat.zero_le _)
    rw [this, flat_one]; rfl
  have := app_loop (as := a0.Archives) (fun a => a.Items.map (·.Strand)) (F := s_AllStamps_1 a0) (fun n i l => by simp only [s_AllStamps_1, h2]) (a0.Archives.length + 1) 0 [] (by omega) (Nat.zero_le _)
  rw [this, strandsOf]
  simp [List.map_flatMap]
theorem strandsOf_ok {n : Nat} {a0 : TWorld} (h : Sm n a0) (ht : itn a0.Archives ≤ 1048576) (hk : 1048576 ≤ n) : Sm n (TEvidence.mk (strandsOf a0) []) := by
  refine ⟨⟨?_, fun x hx => ?_⟩, ⟨Nat.zero_le _, fun x hx => by cases hx⟩⟩
  · rw [strandsOf, List.length_map, flat_len]; exact Nat.le_trans ht hk
  · simp only [strandsOf, List.mem_map, List.mem_flatMap] at hx
    obtain ⟨it, ⟨ar, h1, h2⟩, rfl⟩ := hx
    exact TItem.sm_Strand ((TArchive.sm_Items ((TWorld.sm_Archives h).2 _ h1)).2 _ h2)
theorem strandsOf_stot (a0 : TWorld) : stot (TEvidence.mk (strandsOf a0) []) ≤ cn a0 := by
  have h : cnL stc (strandsOf a0) ≤ cnL (cn : TArchive → Nat) a0.Archives := by
    rw [strandsOf, cnL_map, cnL_flat]
    refine cnL_mono (fun ar => Nat.le_trans (cnL_mono (d := (cn : TItem → Nat)) (fun it => ?_) _) ?_) _
    · have := stc_le it.Strand; rw [TItem.cn_eq]; omega
    · rw [TArchive.cn_eq, cn_list (x := ar.Items)]; omega
  show cnL stc (strandsOf a0) + 0 ≤ _
  rw [TWorld.cn_eq, cn_list (x := a0.Archives)]; omega
end Go.Mo
