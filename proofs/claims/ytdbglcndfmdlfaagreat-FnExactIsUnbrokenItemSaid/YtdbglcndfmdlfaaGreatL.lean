/- Plain lemmas on the models of the helpers. No condition. -/
import Derived.Test.YtdbglcndfmdlfaaGreatM
namespace Go.Mo
open Go.Vm
set_option linter.unusedSimpArgs false
set_option linter.unusedVariables false
theorem l_szKeyS_sm : SzOk l_szKeyS := sz_flat (fun _ _ => trivial) (fun _ _ => rfl)
theorem l_szKeyS_cz : CzOk l_szKeyS 0 := cz_flat (fun _ => Nat.le_of_ble_eq_true rfl) (fun _ _ => rfl)
theorem l_szAuthorityS_sm : SzOk l_szAuthorityS := sz_flat (fun _ _ => trivial) (fun _ _ => rfl)
theorem l_szAuthorityS_cz : CzOk l_szAuthorityS 0 := cz_flat (fun _ => Nat.le_of_ble_eq_true rfl) (fun _ _ => rfl)
theorem l_szMethodS_sm : SzOk l_szMethodS := sz_flat (fun _ _ => trivial) (fun _ _ => rfl)
theorem l_szMethodS_cz : CzOk l_szMethodS 0 := cz_flat (fun _ => Nat.le_of_ble_eq_true rfl) (fun _ _ => rfl)
theorem l_szFrame_sm : SzOk l_szFrame := by
  intro a0 a1 hm h0 hn h
  unfold l_szFrame at h ⊢
  by_cases c0 : (l_szKeyS a0.Keys a1) < 0
  · simp [c0] at h
  obtain ⟨s0, t0⟩ := l_szKeyS_sm a0.Keys a1 (by simp [hm]) (by omega) (by omega) c0
  by_cases c1 : (l_szAuthorityS a0.Authorities (l_szKeyS a0.Keys a1)) < 0
  · simp [c1, c0] at h
  obtain ⟨s1, t1⟩ := l_szAuthorityS_sm a0.Authorities (l_szKeyS a0.Keys a1) (by simp [hm]) (by omega) (by omega) c1
  by_cases c2 : (l_szMethodS a0.Methods (l_szAuthorityS a0.Authorities (l_szKeyS a0.Keys a1))) < 0
  · simp [c2, c0, c1] at h
  obtain ⟨s2, t2⟩ := l_szMethodS_sm a0.Methods (l_szAuthorityS a0.Authorities (l_szKeyS a0.Keys a1)) (by simp [hm]) (by omega) (by omega) c2
  simp only [c0, c1, c2, decide_false, cond_false] at h ⊢
  exact ⟨⟨s0, s1, s2⟩, t2⟩
theorem l_szFrame_cz : CzOk l_szFrame 2 := by
  intro a0 a1 hm h0 hn h
  unfold l_szFrame at h ⊢
  by_cases c0 : (l_szKeyS a0.Keys a1) < 0
  · simp [c0] at h
  obtain ⟨s0, t0⟩ := l_szKeyS_cz a0.Keys a1 (by simp [hm]) (by omega) (by omega) c0
  by_cases c1 : (l_szAuthorityS a0.Authorities (l_szKeyS a0.Keys a1)) < 0
  · simp [c1, c0] at h
  obtain ⟨s1, t1⟩ := l_szAuthorityS_cz a0.Authorities (l_szKeyS a0.Keys a1) (by simp [hm]) (by omega) (by omega) c1
  by_cases c2 : (l_szMethodS a0.Methods (l_szAuthorityS a0.Authorities (l_szKeyS a0.Keys a1))) < 0
  · simp [c2, c0, c1] at h
  obtain ⟨s2, t2⟩ := l_szMethodS_cz a0.Methods (l_szAuthorityS a0.Authorities (l_szKeyS a0.Keys a1)) (by simp [hm]) (by omega) (by omega) c2
  simp only [c0, c1, c2, decide_false, cond_false] at h ⊢
  simp only [cn_int, cn_bool, cn_str, TFrame.cn_eq]
  omega
theorem l_szCertS_sm : SzOk l_szCertS := sz_flat (fun _ _ => trivial) (fun _ _ => rfl)
theorem l_szCertS_cz : CzOk l_szCertS 0 := cz_flat (fun _ => Nat.le_of_ble_eq_true rfl) (fun _ _ => rfl)
theorem l_szIntS_sm : SzOk l_szIntS := sz_flat (fun _ _ => trivial) (fun _ _ => rfl)
theorem l_szIntS_cz : CzOk l_szIntS 0 := cz_flat (fun _ => Nat.le_of_ble_eq_true rfl) (fun _ _ => rfl)
theorem l_szStringS_sm : SzOk l_szStringS := sz_loop sz_string (G := l_szStringS_1) (fun _ _ _ _ => rfl) (fun _ _ => rfl)
theorem l_szStringS_cz : CzOk l_szStringS 0 := cz_loop cz_string (by decide) (G := l_szStringS_1) (fun _ _ _ _ => rfl) (fun _ _ => rfl)
theorem l_szDocument_sm : SzOk l_szDocument := by
  intro a0 a1 hm h0 hn h
  unfold l_szDocument at h ⊢
  by_cases c0 : (l_szStringS a0.Parts a1) < 0
  · simp [c0] at h
  obtain ⟨s0, t0⟩ := l_szStringS_sm a0.Parts a1 (by simp [hm]) (by omega) (by omega) c0
  by_cases c1 : (l_szIntS a0.Salts (l_szStringS a0.Parts a1)) < 0
  · simp [c1, c0] at h
  obtain ⟨s1, t1⟩ := l_szIntS_sm a0.Salts (l_szStringS a0.Parts a1) (by simp [hm]) (by omega) (by omega) c1
  simp only [c0, c1, decide_false, cond_false] at h ⊢
  exact ⟨⟨s0, s1⟩, t1⟩
theorem l_szDocument_cz : CzOk l_szDocument 1 := by
  intro a0 a1 hm h0 hn h
  unfold l_szDocument at h ⊢
  by_cases c0 : (l_szStringS a0.Parts a1) < 0
  · simp [c0] at h
  obtain ⟨s0, t0⟩ := l_szStringS_cz a0.Parts a1 (by simp [hm]) (by omega) (by omega) c0
  by_cases c1 : (l_szIntS a0.Salts (l_szStringS a0.Parts a1)) < 0
  · simp [c1, c0] at h
  obtain ⟨s1, t1⟩ := l_szIntS_cz a0.Salts (l_szStringS a0.Parts a1) (by simp [hm]) (by omega) (by omega) c1
  simp only [c0, c1, decide_false, cond_false] at h ⊢
  simp only [cn_int, cn_bool, cn_str, TDocument.cn_eq]
  omega
theorem l_szPiece_sm : SzOk l_szPiece := by
  intro a0 a1 hm h0 hn h
  unfold l_szPiece at h ⊢
  by_cases c0 : (l_szIntS a0.Ints a1) < 0
  · simp [c0] at h
  obtain ⟨s0, t0⟩ := l_szIntS_sm a0.Ints a1 (by simp [hm]) (by omega) (by omega) c0
  simp only [c0, decide_false, cond_false] at h ⊢
  exact ⟨s0, t0⟩
theorem l_szPiece_cz : CzOk l_szPiece 2 := by
  intro a0 a1 hm h0 hn h
  unfold l_szPiece at h ⊢
  by_cases c0 : (l_szIntS a0.Ints a1) < 0
  · simp [c0] at h
  obtain ⟨s0, t0⟩ := l_szIntS_cz a0.Ints a1 (by simp [hm]) (by omega) (by omega) c0
  simp only [c0, decide_false, cond_false] at h ⊢
  simp only [cn_int, cn_bool, cn_str, TPiece.cn_eq]
  omega
theorem l_szPieceS_sm : SzOk l_szPieceS := sz_loop l_szPiece_sm (G := l_szPieceS_1) (fun _ _ _ _ => rfl) (fun _ _ => rfl)
theorem l_szPieceS_cz : CzOk l_szPieceS 0 := cz_loop l_szPiece_cz (by decide) (G := l_szPieceS_1) (fun _ _ _ _ => rfl) (fun _ _ => rfl)
theorem l_szStepS_sm : SzOk l_szStepS := sz_flat (fun _ _ => trivial) (fun _ _ => rfl)
theorem l_szStepS_cz : CzOk l_szStepS 0 := cz_flat (fun _ => Nat.le_of_ble_eq_true rfl) (fun _ _ => rfl)
theorem l_szStampS_sm : SzOk l_szStampS := sz_flat (fun _ _ => trivial) (fun _ _ => rfl)
theorem l_szStampS_cz : CzOk l_szStampS 0 := cz_flat (fun _ => Nat.le_of_ble_eq_true rfl) (fun _ _ => rfl)
theorem l_szRenewal_sm : SzOk l_szRenewal := by
  intro a0 a1 hm h0 hn h
  unfold l_szRenewal at h ⊢
  by_cases c0 : (l_szStepS a0.Path a1) < 0
  · simp [c0] at h
  obtain ⟨s0, t0⟩ := l_szStepS_sm a0.Path a1 (by simp [hm]) (by omega) (by omega) c0
  by_cases c1 : (l_szStampS a0.Stamps (l_szStepS a0.Path a1)) < 0
  · simp [c1, c0] at h
  obtain ⟨s1, t1⟩ := l_szStampS_sm a0.Stamps (l_szStepS a0.Path a1) (by simp [hm]) (by omega) (by omega) c1
  simp only [c0, c1, decide_false, cond_false] at h ⊢
  exact ⟨⟨s0, s1⟩, t1⟩
theorem l_szRenewal_cz : CzOk l_szRenewal 3 := by
  intro a0 a1 hm h0 hn h
  unfold l_szRenewal at h ⊢
  by_cases c0 : (l_szStepS a0.Path a1) < 0
  · simp [c0] at h
  obtain ⟨s0, t0⟩ := l_szStepS_cz a0.Path a1 (by simp [hm]) (by omega) (by omega) c0
  by_cases c1 : (l_szStampS a0.Stamps (l_szStepS a0.Path a1)) < 0
  · simp [c1, c0] at h
  obtain ⟨s1, t1⟩ := l_szStampS_cz a0.Stamps (l_szStepS a0.Path a1) (by simp [hm]) (by omega) (by omega) c1
  simp only [c0, c1, decide_false, cond_false] at h ⊢
  simp only [cn_int, cn_bool, cn_str, TRenewal.cn_eq]
  omega
theorem l_szRenewalS_sm : SzOk l_szRenewalS := sz_loop l_szRenewal_sm (G := l_szRenewalS_1) (fun _ _ _ _ => rfl) (fun _ _ => rfl)
theorem l_szRenewalS_cz : CzOk l_szRenewalS 0 := cz_loop l_szRenewal_cz (by decide) (G := l_szRenewalS_1) (fun _ _ _ _ => rfl) (fun _ _ => rfl)
theorem l_szStrand_sm : SzOk l_szStrand := by
  intro a0 a1 hm h0 hn h
  unfold l_szStrand at h ⊢
  by_cases c0 : (l_szPieceS a0.Pieces a1) < 0
  · simp [c0] at h
  obtain ⟨s0, t0⟩ := l_szPieceS_sm a0.Pieces a1 (by simp [hm]) (by omega) (by omega) c0
  by_cases c1 : (l_szRenewalS a0.Chain (l_szPieceS a0.Pieces a1)) < 0
  · simp [c1, c0] at h
  obtain ⟨s1, t1⟩ := l_szRenewalS_sm a0.Chain (l_szPieceS a0.Pieces a1) (by simp [hm]) (by omega) (by omega) c1
  simp only [c0, c1, decide_false, cond_false] at h ⊢
  exact ⟨⟨s0, s1⟩, t1⟩
theorem l_szStrand_cz : CzOk l_szStrand 0 := by
  intro a0 a1 hm h0 hn h
  unfold l_szStrand at h ⊢
  by_cases c0 : (l_szPieceS a0.Pieces a1) < 0
  · simp [c0] at h
  obtain ⟨s0, t0⟩ := l_szPieceS_cz a0.Pieces a1 (by simp [hm]) (by omega) (by omega) c0
  by_cases c1 : (l_szRenewalS a0.Chain (l_szPieceS a0.Pieces a1)) < 0
  · simp [c1, c0] at h
  obtain ⟨s1, t1⟩ := l_szRenewalS_cz a0.Chain (l_szPieceS a0.Pieces a1) (by simp [hm]) (by omega) (by omega) c1
  simp only [c0, c1, decide_false, cond_false] at h ⊢
  simp only [cn_int, cn_bool, cn_str, TStrand.cn_eq]
  omega
theorem l_szItem_sm : SzOk l_szItem := by
  intro a0 a1 hm h0 hn h
  unfold l_szItem at h ⊢
  by_cases c0 : (l_szDocument a0.Doc a1) < 0
  · simp [c0] at h
  obtain ⟨s0, t0⟩ := l_szDocument_sm a0.Doc a1 (by simp [hm]) (by omega) (by omega) c0
  by_cases c1 : (l_szStrand a0.Strand (l_szDocument a0.Doc a1)) < 0
  · simp [c1, c0] at h
  obtain ⟨s1, t1⟩ := l_szStrand_sm a0.Strand (l_szDocument a0.Doc a1) (by simp [hm]) (by omega) (by omega) c1
  simp only [c0, c1, decide_false, cond_false] at h ⊢
  exact ⟨⟨s0, s1⟩, t1⟩
theorem l_szItem_cz : CzOk l_szItem 12 := by
  intro a0 a1 hm h0 hn h
  unfold l_szItem at h ⊢
  by_cases c0 : (l_szDocument a0.Doc a1) < 0
  · simp [c0] at h
  obtain ⟨s0, t0⟩ := l_szDocument_cz a0.Doc a1 (by simp [hm]) (by omega) (by omega) c0
  by_cases c1 : (l_szStrand a0.Strand (l_szDocument a0.Doc a1)) < 0
  · simp [c1, c0] at h
  obtain ⟨s1, t1⟩ := l_szStrand_cz a0.Strand (l_szDocument a0.Doc a1) (by simp [hm]) (by omega) (by omega) c1
  simp only [c0, c1, decide_false, cond_false] at h ⊢
  simp only [cn_int, cn_bool, cn_str, TItem.cn_eq, TSignature.cn_eq]
  omega
theorem l_szItemS_sm : SzOk l_szItemS := sz_loop l_szItem_sm (G := l_szItemS_1) (fun _ _ _ _ => rfl) (fun _ _ => rfl)
theorem l_szItemS_cz : CzOk l_szItemS 0 := cz_loop l_szItem_cz (by decide) (G := l_szItemS_1) (fun _ _ _ _ => rfl) (fun _ _ => rfl)
theorem l_szArchive_sm : SzOk l_szArchive := by
  intro a0 a1 hm h0 hn h
  unfold l_szArchive at h ⊢
  by_cases c0 : (l_szItemS a0.Items a1) < 0
  · simp [c0] at h
  obtain ⟨s0, t0⟩ := l_szItemS_sm a0.Items a1 (by simp [hm]) (by omega) (by omega) c0
  simp only [c0, decide_false, cond_false] at h ⊢
  exact ⟨s0, t0⟩
theorem l_szArchive_cz : CzOk l_szArchive 1 := by
  intro a0 a1 hm h0 hn h
  unfold l_szArchive at h ⊢
  by_cases c0 : (l_szItemS a0.Items a1) < 0
  · simp [c0] at h
  obtain ⟨s0, t0⟩ := l_szItemS_cz a0.Items a1 (by simp [hm]) (by omega) (by omega) c0
  simp only [c0, decide_false, cond_false] at h ⊢
  simp only [cn_int, cn_bool, cn_str, TArchive.cn_eq]
  omega
theorem l_szArchiveS_sm : SzOk l_szArchiveS := sz_loop l_szArchive_sm (G := l_szArchiveS_1) (fun _ _ _ _ => rfl) (fun _ _ => rfl)
theorem l_szArchiveS_cz : CzOk l_szArchiveS 0 := cz_loop l_szArchive_cz (by decide) (G := l_szArchiveS_1) (fun _ _ _ _ => rfl) (fun _ _ => rfl)
theorem l_szWorld_sm : SzOk l_szWorld := by
  intro a0 a1 hm h0 hn h
  unfold l_szWorld at h ⊢
  by_cases c0 : (l_szFrame a0.Frame a1) < 0
  · simp [c0] at h
  obtain ⟨s0, t0⟩ := l_szFrame_sm a0.Frame a1 (by simp [hm]) (by omega) (by omega) c0
  by_cases c1 : (l_szCertS a0.Certs (l_szFrame a0.Frame a1)) < 0
  · simp [c1, c0] at h
  obtain ⟨s1, t1⟩ := l_szCertS_sm a0.Certs (l_szFrame a0.Frame a1) (by simp [hm]) (by omega) (by omega) c1
  by_cases c2 : (l_szIntS a0.Ended (l_szCertS a0.Certs (l_szFrame a0.Frame a1))) < 0
  · simp [c2, c0, c1] at h
  obtain ⟨s2, t2⟩ := l_szIntS_sm a0.Ended (l_szCertS a0.Certs (l_szFrame a0.Frame a1)) (by simp [hm]) (by omega) (by omega) c2
  by_cases c3 : (l_szArchiveS a0.Archives (l_szIntS a0.Ended (l_szCertS a0.Certs (l_szFrame a0.Frame a1)))) < 0
  · simp [c3, c0, c1, c2] at h
  obtain ⟨s3, t3⟩ := l_szArchiveS_sm a0.Archives (l_szIntS a0.Ended (l_szCertS a0.Certs (l_szFrame a0.Frame a1))) (by simp [hm]) (by omega) (by omega) c3
  by_cases c4 : (l_szIntS a0.Seqs (l_szArchiveS a0.Archives (l_szIntS a0.Ended (l_szCertS a0.Certs (l_szFrame a0.Frame a1))))) < 0
  · simp [c4, c0, c1, c2, c3] at h
  obtain ⟨s4, t4⟩ := l_szIntS_sm a0.Seqs (l_szArchiveS a0.Archives (l_szIntS a0.Ended (l_szCertS a0.Certs (l_szFrame a0.Frame a1)))) (by simp [hm]) (by omega) (by omega) c4
  by_cases c5 : (l_szIntS a0.Lying (l_szIntS a0.Seqs (l_szArchiveS a0.Archives (l_szIntS a0.Ended (l_szCertS a0.Certs (l_szFrame a0.Frame a1)))))) < 0
  · simp [c5, c0, c1, c2, c3, c4] at h
  obtain ⟨s5, t5⟩ := l_szIntS_sm a0.Lying (l_szIntS a0.Seqs (l_szArchiveS a0.Archives (l_szIntS a0.Ended (l_szCertS a0.Certs (l_szFrame a0.Frame a1))))) (by simp [hm]) (by omega) (by omega) c5
  by_cases c6 : (l_szIntS a0.Forged (l_szIntS a0.Lying (l_szIntS a0.Seqs (l_szArchiveS a0.Archives (l_szIntS a0.Ended (l_szCertS a0.Certs (l_szFrame a0.Frame a1))))))) < 0
  · simp [c6, c0, c1, c2, c3, c4, c5] at h
  obtain ⟨s6, t6⟩ := l_szIntS_sm a0.Forged (l_szIntS a0.Lying (l_szIntS a0.Seqs (l_szArchiveS a0.Archives (l_szIntS a0.Ended (l_szCertS a0.Certs (l_szFrame a0.Frame a1)))))) (by simp [hm]) (by omega) (by omega) c6
  simp only [c0, c1, c2, c3, c4, c5, c6, decide_false, cond_false] at h ⊢
  exact ⟨⟨s0, s1, s2, s3, s4, s5, s6⟩, t6⟩
theorem l_szWorld_cz : CzOk l_szWorld 3 := by
  intro a0 a1 hm h0 hn h
  unfold l_szWorld at h ⊢
  by_cases c0 : (l_szFrame a0.Frame a1) < 0
  · simp [c0] at h
  obtain ⟨s0, t0⟩ := l_szFrame_cz a0.Frame a1 (by simp [hm]) (by omega) (by omega) c0
  by_cases c1 : (l_szCertS a0.Certs (l_szFrame a0.Frame a1)) < 0
  · simp [c1, c0] at h
  obtain ⟨s1, t1⟩ := l_szCertS_cz a0.Certs (l_szFrame a0.Frame a1) (by simp [hm]) (by omega) (by omega) c1
  by_cases c2 : (l_szIntS a0.Ended (l_szCertS a0.Certs (l_szFrame a0.Frame a1))) < 0
  · simp [c2, c0, c1] at h
  obtain ⟨s2, t2⟩ := l_szIntS_cz a0.Ended (l_szCertS a0.Certs (l_szFrame a0.Frame a1)) (by simp [hm]) (by omega) (by omega) c2
  by_cases c3 : (l_szArchiveS a0.Archives (l_szIntS a0.Ended (l_szCertS a0.Certs (l_szFrame a0.Frame a1)))) < 0
  · simp [c3, c0, c1, c2] at h
  obtain ⟨s3, t3⟩ := l_szArchiveS_cz a0.Archives (l_szIntS a0.Ended (l_szCertS a0.Certs (l_szFrame a0.Frame a1))) (by simp [hm]) (by omega) (by omega) c3
  by_cases c4 : (l_szIntS a0.Seqs (l_szArchiveS a0.Archives (l_szIntS a0.Ended (l_szCertS a0.Certs (l_szFrame a0.Frame a1))))) < 0
  · simp [c4, c0, c1, c2, c3] at h
  obtain ⟨s4, t4⟩ := l_szIntS_cz a0.Seqs (l_szArchiveS a0.Archives (l_szIntS a0.Ended (l_szCertS a0.Certs (l_szFrame a0.Frame a1)))) (by simp [hm]) (by omega) (by omega) c4
  by_cases c5 : (l_szIntS a0.Lying (l_szIntS a0.Seqs (l_szArchiveS a0.Archives (l_szIntS a0.Ended (l_szCertS a0.Certs (l_szFrame a0.Frame a1)))))) < 0
  · simp [c5, c0, c1, c2, c3, c4] at h
  obtain ⟨s5, t5⟩ := l_szIntS_cz a0.Lying (l_szIntS a0.Seqs (l_szArchiveS a0.Archives (l_szIntS a0.Ended (l_szCertS a0.Certs (l_szFrame a0.Frame a1))))) (by simp [hm]) (by omega) (by omega) c5
  by_cases c6 : (l_szIntS a0.Forged (l_szIntS a0.Lying (l_szIntS a0.Seqs (l_szArchiveS a0.Archives (l_szIntS a0.Ended (l_szCertS a0.Certs (l_szFrame a0.Frame a1))))))) < 0
  · simp [c6, c0, c1, c2, c3, c4, c5] at h
  obtain ⟨s6, t6⟩ := l_szIntS_cz a0.Forged (l_szIntS a0.Lying (l_szIntS a0.Seqs (l_szArchiveS a0.Archives (l_szIntS a0.Ended (l_szCertS a0.Certs (l_szFrame a0.Frame a1)))))) (by simp [hm]) (by omega) (by omega) c6
  simp only [c0, c1, c2, c3, c4, c5, c6, decide_false, cond_false] at h ⊢
  simp only [cn_int, cn_bool, cn_str, TWorld.cn_eq]
  omega
theorem l_toKey_id (a0 : TKey) : l_toKey a0 = a0 := by cases a0; simp [l_toKey]
theorem l_toKeyS_id (a0 : List TKey) : l_toKeyS a0 = a0 := to_loop (F := l_toKeyS_1 a0) (g := (fun x => x)) (fun _ => rfl) (fun _ _ _ => rfl) _ 0 _ (by simp) (by omega) (by omega) (fun j h => by omega)
theorem l_toAuthority_id (a0 : TAuthority) : l_toAuthority a0 = a0 := by cases a0; simp [l_toAuthority]
theorem l_toAuthorityS_id (a0 : List TAuthority) : l_toAuthorityS a0 = a0 := to_loop (F := l_toAuthorityS_1 a0) (g := (fun x => x)) (fun _ => rfl) (fun _ _ _ => rfl) _ 0 _ (by simp) (by omega) (by omega) (fun j h => by omega)
theorem l_toMethod_id (a0 : TMethod) : l_toMethod a0 = a0 := by cases a0; simp [l_toMethod]
theorem l_toMethodS_id (a0 : List TMethod) : l_toMethodS a0 = a0 := to_loop (F := l_toMethodS_1 a0) (g := (fun x => x)) (fun _ => rfl) (fun _ _ _ => rfl) _ 0 _ (by simp) (by omega) (by omega) (fun j h => by omega)
theorem l_toFrame_id (a0 : TFrame) : l_toFrame a0 = a0 := by cases a0; simp [l_toFrame]
theorem l_toCert_id (a0 : TCert) : l_toCert a0 = a0 := by cases a0; simp [l_toCert]
theorem l_toCertS_id (a0 : List TCert) : l_toCertS a0 = a0 := to_loop (F := l_toCertS_1 a0) (g := (fun x => x)) (fun _ => rfl) (fun _ _ _ => rfl) _ 0 _ (by simp) (by omega) (by omega) (fun j h => by omega)
theorem l_toIntS_id (a0 : List Int) : l_toIntS a0 = a0 := to_loop (F := l_toIntS_1 a0) (g := (fun x => x)) (fun _ => rfl) (fun _ _ _ => rfl) _ 0 _ (by simp) (by omega) (by omega) (fun j h => by omega)
theorem l_toStringS_id (a0 : List ByteArray) : l_toStringS a0 = a0 := to_loop (F := l_toStringS_1 a0) (g := (fun x => x)) (fun _ => rfl) (fun _ _ _ => rfl) _ 0 _ (by simp) (by omega) (by omega) (fun j h => by omega)
theorem l_toDocument_id (a0 : TDocument) : l_toDocument a0 = a0 := by cases a0; simp [l_toDocument]
theorem l_toSignature_id (a0 : TSignature) : l_toSignature a0 = a0 := by cases a0; simp [l_toSignature]
theorem l_toPiece_id (a0 : TPiece) : l_toPiece a0 = a0 := by cases a0; simp [l_toPiece]
theorem l_toPieceS_id (a0 : List TPiece) : l_toPieceS a0 = a0 := to_loop (F := l_toPieceS_1 a0) (g := (fun x => x)) (fun _ => rfl) (fun _ _ _ => rfl) _ 0 _ (by simp) (by omega) (by omega) (fun j h => by omega)
theorem l_toStep_id (a0 : TStep) : l_toStep a0 = a0 := by cases a0; simp [l_toStep]
theorem l_toStepS_id (a0 : List TStep) : l_toStepS a0 = a0 := to_loop (F := l_toStepS_1 a0) (g := (fun x => x)) (fun _ => rfl) (fun _ _ _ => rfl) _ 0 _ (by simp) (by omega) (by omega) (fun j h => by omega)
theorem l_toStamp_id (a0 : TStamp) : l_toStamp a0 = a0 := by cases a0; simp [l_toStamp]
theorem l_toStampS_id (a0 : List TStamp) : l_toStampS a0 = a0 := to_loop (F := l_toStampS_1 a0) (g := (fun x => x)) (fun _ => rfl) (fun _ _ _ => rfl) _ 0 _ (by simp) (by omega) (by omega) (fun j h => by omega)
theorem l_toRenewal_id (a0 : TRenewal) : l_toRenewal a0 = a0 := by cases a0; simp [l_toRenewal]
theorem l_toRenewalS_id (a0 : List TRenewal) : l_toRenewalS a0 = a0 := to_loop (F := l_toRenewalS_1 a0) (g := (fun x => x)) (fun _ => rfl) (fun _ _ _ => rfl) _ 0 _ (by simp) (by omega) (by omega) (fun j h => by omega)
theorem l_toStrand_id (a0 : TStrand) : l_toStrand a0 = a0 := by cases a0; simp [l_toStrand]
theorem l_toItem_id (a0 : TItem) : l_toItem a0 = a0 := by cases a0; simp [l_toItem]
theorem l_toItemS_id (a0 : List TItem) : l_toItemS a0 = a0 := to_loop (F := l_toItemS_1 a0) (g := (fun x => x)) (fun _ => rfl) (fun _ _ _ => rfl) _ 0 _ (by simp) (by omega) (by omega) (fun j h => by omega)
theorem l_toArchive_id (a0 : TArchive) : l_toArchive a0 = a0 := by cases a0; simp [l_toArchive]
theorem l_toArchiveS_id (a0 : List TArchive) : l_toArchiveS a0 = a0 := to_loop (F := l_toArchiveS_1 a0) (g := (fun x => x)) (fun _ => rfl) (fun _ _ _ => rfl) _ 0 _ (by simp) (by omega) (by omega) (fun j h => by omega)
theorem l_toWorld_id (a0 : TWorld) : l_toWorld a0 = a0 := by cases a0; simp [l_toWorld]
theorem s_FindItem_lt (a0 : TArchive) (a1 : Int) : s_FindItem a0 a1 < (a0.Items.length : Int) := find_lt (F := s_FindItem_1 a0 a1) (c := fun v1_0 => ((nth a0.Items v1_0).Id == a1)) (fun _ => rfl) (fun _ _ => rfl) _ _
theorem s_FindAuthority_lt (a0 : List TAuthority) (a1 : Int) : s_FindAuthority a0 a1 < (a0.length : Int) := find_lt (F := s_FindAuthority_1 a0 a1) (c := fun v1_0 => ((nth a0 v1_0).Id == a1)) (fun _ => rfl) (fun _ _ => rfl) _ _
theorem s_FindMethod_lt (a0 : List TMethod) (a1 : Int) : s_FindMethod a0 a1 < (a0.length : Int) := find_lt (F := s_FindMethod_1 a0 a1) (c := fun v1_0 => ((nth a0 v1_0).Id == a1)) (fun _ => rfl) (fun _ _ => rfl) _ _
theorem s_FindKey_lt (a0 : List TKey) (a1 : Int) : s_FindKey a0 a1 < (a0.length : Int) := find_lt (F := s_FindKey_1 a0 a1) (c := fun v1_0 => ((nth a0 v1_0).Number == a1)) (fun _ => rfl) (fun _ _ => rfl) _ _
theorem i_FindItem_lt (a0 : TArchive) (a1 : Int) : i_FindItem a0 a1 < (a0.Items.length : Int) := find_lt (F := i_FindItem_1 a0 a1) (c := fun v1_0 => ((nth a0.Items v1_0).Id == a1)) (fun _ => rfl) (fun _ _ => rfl) _ _
theorem i_FindAuthority_lt (a0 : List TAuthority) (a1 : Int) : i_FindAuthority a0 a1 < (a0.length : Int) := find_lt (F := i_FindAuthority_1 a0 a1) (c := fun v1_0 => ((nth a0 v1_0).Id == a1)) (fun _ => rfl) (fun _ _ => rfl) _ _
theorem i_FindKey_lt (a0 : List TKey) (a1 : Int) : i_FindKey a0 a1 < (a0.length : Int) := find_lt (F := i_FindKey_1 a0 a1) (c := fun v1_0 => ((nth a0 v1_0).Number == a1)) (fun _ => rfl) (fun _ _ => rfl) _ _
theorem i_FindMethod_lt (a0 : List TMethod) (a1 : Int) : i_FindMethod a0 a1 < (a0.length : Int) := find_lt (F := i_FindMethod_1 a0 a1) (c := fun v1_0 => ((nth a0 v1_0).Id == a1)) (fun _ => rfl) (fun _ _ => rfl) _ _
theorem l_eqKey_self (a0 : TKey) : l_eqKey a0 a0 = true := by simp [l_eqKey]
theorem l_eqKeyS_self (a0 : List TKey) : l_eqKeyS a0 a0 = true := by
  unfold l_eqKeyS
  rw [eq_loop (F := l_eqKeyS_1 a0 a0) (L := a0.length) (c := fun v1_0 => (!(l_eqKey (nth a0 v1_0) (nth a0 v1_0)))) (fun i => by simp [l_eqKey_self]) (fun _ => rfl) (fun _ _ => rfl)]
  simp
theorem l_eqAuthority_self (a0 : TAuthority) : l_eqAuthority a0 a0 = true := by simp [l_eqAuthority]
theorem l_eqAuthorityS_self (a0 : List TAuthority) : l_eqAuthorityS a0 a0 = true := by
  unfold l_eqAuthorityS
  rw [eq_loop (F := l_eqAuthorityS_1 a0 a0) (L := a0.length) (c := fun v1_0 => (!(l_eqAuthority (nth a0 v1_0) (nth a0 v1_0)))) (fun i => by simp [l_eqAuthority_self]) (fun _ => rfl) (fun _ _ => rfl)]
  simp
theorem l_eqMethod_self (a0 : TMethod) : l_eqMethod a0 a0 = true := by simp [l_eqMethod]
theorem l_eqMethodS_self (a0 : List TMethod) : l_eqMethodS a0 a0 = true := by
  unfold l_eqMethodS
  rw [eq_loop (F := l_eqMethodS_1 a0 a0) (L := a0.length) (c := fun v1_0 => (!(l_eqMethod (nth a0 v1_0) (nth a0 v1_0)))) (fun i => by simp [l_eqMethod_self]) (fun _ => rfl) (fun _ _ => rfl)]
  simp
theorem l_eqFrame_self (a0 : TFrame) : l_eqFrame a0 a0 = true := by simp [l_eqFrame, l_eqAuthorityS_self, l_eqKeyS_self, l_eqMethodS_self]
theorem l_eqCert_self (a0 : TCert) : l_eqCert a0 a0 = true := by simp [l_eqCert]
theorem l_eqCertS_self (a0 : List TCert) : l_eqCertS a0 a0 = true := by
  unfold l_eqCertS
  rw [eq_loop (F := l_eqCertS_1 a0 a0) (L := a0.length) (c := fun v1_0 => (!(l_eqCert (nth a0 v1_0) (nth a0 v1_0)))) (fun i => by simp [l_eqCert_self]) (fun _ => rfl) (fun _ _ => rfl)]
  simp
theorem l_eqIntS_self (a0 : List Int) : l_eqIntS a0 a0 = true := by
  unfold l_eqIntS
  rw [eq_loop (F := l_eqIntS_1 a0 a0) (L := a0.length) (c := fun v1_0 => ((nth a0 v1_0) != (nth a0 v1_0))) (fun i => by simp) (fun _ => rfl) (fun _ _ => rfl)]
  simp
theorem l_eqStringS_self (a0 : List ByteArray) : l_eqStringS a0 a0 = true := by
  unfold l_eqStringS
  rw [eq_loop (F := l_eqStringS_1 a0 a0) (L := a0.length) (c := fun v1_0 => (!decide ((nth a0 v1_0) = (nth a0 v1_0)))) (fun i => by simp) (fun _ => rfl) (fun _ _ => rfl)]
  simp
theorem l_eqDocument_self (a0 : TDocument) : l_eqDocument a0 a0 = true := by simp [l_eqDocument, l_eqIntS_self, l_eqStringS_self]
theorem l_eqSignature_self (a0 : TSignature) : l_eqSignature a0 a0 = true := by simp [l_eqSignature]
theorem l_eqPiece_self (a0 : TPiece) : l_eqPiece a0 a0 = true := by simp [l_eqPiece, l_eqIntS_self]
theorem l_eqPieceS_self (a0 : List TPiece) : l_eqPieceS a0 a0 = true := by
  unfold l_eqPieceS
  rw [eq_loop (F := l_eqPieceS_1 a0 a0) (L := a0.length) (c := fun v1_0 => (!(l_eqPiece (nth a0 v1_0) (nth a0 v1_0)))) (fun i => by simp [l_eqPiece_self]) (fun _ => rfl) (fun _ _ => rfl)]
  simp
theorem l_eqStep_self (a0 : TStep) : l_eqStep a0 a0 = true := by simp [l_eqStep]
theorem l_eqStepS_self (a0 : List TStep) : l_eqStepS a0 a0 = true := by
  unfold l_eqStepS
  rw [eq_loop (F := l_eqStepS_1 a0 a0) (L := a0.length) (c := fun v1_0 => (!(l_eqStep (nth a0 v1_0) (nth a0 v1_0)))) (fun i => by simp [l_eqStep_self]) (fun _ => rfl) (fun _ _ => rfl)]
  simp
theorem l_eqStamp_self (a0 : TStamp) : l_eqStamp a0 a0 = true := by simp [l_eqStamp]
theorem l_eqStampS_self (a0 : List TStamp) : l_eqStampS a0 a0 = true := by
  unfold l_eqStampS
  rw [eq_loop (F := l_eqStampS_1 a0 a0) (L := a0.length) (c := fun v1_0 => (!(l_eqStamp (nth a0 v1_0) (nth a0 v1_0)))) (fun i => by simp [l_eqStamp_self]) (fun _ => rfl) (fun _ _ => rfl)]
  simp
theorem l_eqRenewal_self (a0 : TRenewal) : l_eqRenewal a0 a0 = true := by simp [l_eqRenewal, l_eqStampS_self, l_eqStepS_self]
theorem l_eqRenewalS_self (a0 : List TRenewal) : l_eqRenewalS a0 a0 = true := by
  unfold l_eqRenewalS
  rw [eq_loop (F := l_eqRenewalS_1 a0 a0) (L := a0.length) (c := fun v1_0 => (!(l_eqRenewal (nth a0 v1_0) (nth a0 v1_0)))) (fun i => by simp [l_eqRenewal_self]) (fun _ => rfl) (fun _ _ => rfl)]
  simp
theorem l_eqStrand_self (a0 : TStrand) : l_eqStrand a0 a0 = true := by simp [l_eqStrand, l_eqPieceS_self, l_eqRenewalS_self]
theorem l_eqItem_self (a0 : TItem) : l_eqItem a0 a0 = true := by simp [l_eqItem, l_eqDocument_self, l_eqSignature_self, l_eqStrand_self]
theorem l_eqItemS_self (a0 : List TItem) : l_eqItemS a0 a0 = true := by
  unfold l_eqItemS
  rw [eq_loop (F := l_eqItemS_1 a0 a0) (L := a0.length) (c := fun v1_0 => (!(l_eqItem (nth a0 v1_0) (nth a0 v1_0)))) (fun i => by simp [l_eqItem_self]) (fun _ => rfl) (fun _ _ => rfl)]
  simp
theorem l_eqArchive_self (a0 : TArchive) : l_eqArchive a0 a0 = true := by simp [l_eqArchive, l_eqItemS_self]
theorem l_eqArchiveS_self (a0 : List TArchive) : l_eqArchiveS a0 a0 = true := by
  unfold l_eqArchiveS
  rw [eq_loop (F := l_eqArchiveS_1 a0 a0) (L := a0.length) (c := fun v1_0 => (!(l_eqArchive (nth a0 v1_0) (nth a0 v1_0)))) (fun i => by simp [l_eqArchive_self]) (fun _ => rfl) (fun _ _ => rfl)]
  simp
theorem l_eqWorld_self (a0 : TWorld) : l_eqWorld a0 a0 = true := by simp [l_eqWorld, l_eqArchiveS_self, l_eqCertS_self, l_eqFrame_self, l_eqIntS_self]
theorem s_StampInts_sm {n : Nat} {x : TStamp} (h : 5 ≤ n) : Sm n (s_StampInts x) := ⟨by simp [s_StampInts]; omega, fun _ _ => trivial⟩
@[simp] theorem s_StampInts_len (x : TStamp) : (s_StampInts x).length = 5 := rfl
theorem i_StampInts_sm {n : Nat} {x : TStamp} (h : 5 ≤ n) : Sm n (i_StampInts x) := ⟨by simp [i_StampInts]; omega, fun _ _ => trivial⟩
@[simp] theorem i_StampInts_len (x : TStamp) : (i_StampInts x).length = 5 := rfl
theorem s_IsDocument_len {a : TDocument} (h : s_IsDocument a = true) : a.Salts.length = a.Parts.length := by
  unfold s_IsDocument at h
  split at h
  · rename_i r e
    have : ∀ n v, s_IsDocument_1 a n v ≠ .inl true := by
      intro n
      induction n with
      | zero => intro v h; cases h
      | succ n ih =>
        intro v h
        rw [s_IsDocument_1] at h
        generalize decide ((v : Int) < (a.Parts.length : Int)) = c1 at h
        cases c1 with
        | false => cases h
        | true =>
          simp only [cond_true] at h
          generalize decide (((nth a.Parts v).size : Int) > 40) = c2 at h
          cases c2 with
          | true => cases h
          | false => exact ih _ h
    subst h; exact absurd e (this _ _)
  · split at h
    · rename_i r e
      have : ∀ n v, s_IsDocument_2 a n v ≠ .inl true := by
        intro n
        induction n with
        | zero => intro v h; cases h
        | succ n ih =>
          intro v h
          rw [s_IsDocument_2] at h
          generalize decide ((v : Int) < (a.Salts.length : Int)) = c1 at h
          cases c1 with
          | false => cases h
          | true =>
            simp only [cond_true] at h
            generalize (!s_l1In (nth a.Salts v) 1 1000000000000) = c2 at h
            cases c2 with
            | true => cases h
            | false => exact ih _ h
      subst h; exact absurd e (this _ _)
    · simp only [Bool.and_eq_true, beq_iff_eq] at h; omega
theorem i_IsDocument_len {a : TDocument} (h : i_IsDocument a = true) : a.Salts.length = a.Parts.length := by
  unfold i_IsDocument at h
  generalize (match i_IsDocument_1 a (a.Parts.length + 1) 0 with | .inl r1 => r1 | .inr _ => true) = m at h
  by_cases hh : a.Salts.length = a.Parts.length
  · exact hh
  · rw [show ((a.Salts.length : Int) != (a.Parts.length : Int)) = true by simp; omega] at h
    simp at h
theorem s_FindIn_ok' (a0 : TWorld) (a1 : Int) (h : 0 ≤ (s_FindIn a0 a1).1) : (s_FindIn a0 a1).1.toNat < a0.Archives.length ∧ 0 ≤ (s_FindIn a0 a1).2 ∧ (s_FindIn a0 a1).2.toNat < (nth a0.Archives (s_FindIn a0 a1).1.toNat).Items.length := by
  have key : ∀ n v r, s_FindIn_1 a0 a1 n v = .inl r → r.1.toNat < a0.Archives.length ∧ 0 ≤ r.2 ∧ r.2.toNat < (nth a0.Archives r.1.toNat).Items.length := by
    intro n
    induction n with
    | zero => intro v r h; cases h
    | succ n ih =>
      intro v r h
      rw [s_FindIn_1] at h
      cases h1 : decide ((v : Int) < (a0.Archives.length : Int)) with
      | false => rw [h1] at h; cases h
      | true =>
        rw [h1] at h
        simp only [cond_true] at h
        cases h2 : decide (s_FindItem (nth a0.Archives v) a1 ≥ 0) with
        | false => rw [h2] at h; exact ih _ _ h
        | true =>
          rw [h2] at h; cases h
          simp at h1 h2
          have := s_FindItem_lt (nth a0.Archives v) a1
          simp only [Int.toNat_natCast]
          exact ⟨h1, h2, by omega⟩
  unfold s_FindIn at h ⊢
  cases hh : s_FindIn_1 a0 a1 (a0.Archives.length + 1) 0 with
  | inl r => rw [hh] at h; exact key _ _ r hh
  | inr u => rw [hh] at h; simp at h
theorem i_FindIn_ok' (a0 : TWorld) (a1 : Int) (h : 0 ≤ (i_FindIn a0 a1).1) : (i_FindIn a0 a1).1.toNat < a0.Archives.length ∧ 0 ≤ (i_FindIn a0 a1).2 ∧ (i_FindIn a0 a1).2.toNat < (nth a0.Archives (i_FindIn a0 a1).1.toNat).Items.length := by
  have key : ∀ n v r, i_FindIn_1 a0 a1 n v = .inl r → r.1.toNat < a0.Archives.length ∧ 0 ≤ r.2 ∧ r.2.toNat < (nth a0.Archives r.1.toNat).Items.length := by
    intro n
    induction n with
    | zero => intro v r h; cases h
    | succ n ih =>
      intro v r h
      rw [i_FindIn_1] at h
      cases h1 : decide ((v : Int) < (a0.Archives.length : Int)) with
      | false => rw [h1] at h; cases h
      | true =>
        rw [h1] at h
        simp only [cond_true] at h
        cases h2 : decide (i_FindItem (nth a0.Archives v) a1 ≥ 0) with
        | false => rw [h2] at h; exact ih _ _ h
        | true =>
          rw [h2] at h; cases h
          simp at h1 h2
          have := i_FindItem_lt (nth a0.Archives v) a1
          simp only [Int.toNat_natCast]
          exact ⟨h1, h2, by omega⟩
  unfold i_FindIn at h ⊢
  cases hh : i_FindIn_1 a0 a1 (a0.Archives.length + 1) 0 with
  | inl r => rw [hh] at h; exact key _ _ r hh
  | inr u => rw [hh] at h; simp at h
theorem s_l1In_idx {a : Int} {n : Nat} (hn : n ≤ 9223372036854775807) (h : s_l1In a 0 (W ((n : Int) - 1)) = true) : 0 ≤ a ∧ a < n := by
  rw [W_sub1 n hn] at h
  simp only [s_l1In, Bool.and_eq_true, decide_eq_true_eq] at h; omega
theorem i_InRange_idx {a : Int} {n : Nat} (hn : n ≤ 9223372036854775807) (h : i_InRange a 0 (W ((n : Int) - 1)) = true) : 0 ≤ a ∧ a < n := by
  rw [W_sub1 n hn] at h
  simp only [i_InRange, Bool.and_eq_true, decide_eq_true_eq] at h; omega
@[simp] theorem i_bytesOf_len (l : List UInt8) : (i_bytesOf l).length = l.length := by
  have key : ∀ n (acc : List Int) v, l.length < n + v → v ≤ l.length → (i_bytesOf_1 l n acc v).length = acc.length + (l.length - v) := by
    intro n
    induction n with
    | zero => intro acc v h1 h2; omega
    | succ n ih =>
      intro acc v h1 h2
      rw [i_bytesOf_1]
      by_cases hv : v < l.length
      · rw [show decide ((v : Int) < (l.length : Int)) = true by simpa using hv, cond_true, ih _ (v + 1) (by omega) (by omega)]
        simp; omega
      · rw [show decide ((v : Int) < (l.length : Int)) = false by simpa using hv, cond_false]; omega
  have := key (l.length + 1) [] 0 (by omega) (by omega)
  simpa [i_bytesOf] using this
theorem s_DocDigests_sm {n : Nat} {a0 : TStrand} {a1 : TDocument} (h : Sm n a0) : Sm n (s_DocDigests a0 a1) := by
  have key : ∀ n (acc : List Int) v, a0.Chain.length < n + v → v ≤ a0.Chain.length → (s_DocDigests_1 a0 a1 n acc v).length = acc.length + (a0.Chain.length - v) := by
    intro n
    induction n with
    | zero => intro acc v h1 h2; omega
    | succ n ih =>
      intro acc v h1 h2
      rw [s_DocDigests_1]
      by_cases hv : v < a0.Chain.length
      · rw [show decide ((v : Int) < (a0.Chain.length : Int)) = true by simpa using hv, cond_true, ih _ (v + 1) (by omega) (by omega)]
        simp; omega
      · rw [show decide ((v : Int) < (a0.Chain.length : Int)) = false by simpa using hv, cond_false]; omega
  have h2 := key (a0.Chain.length + 1) [] 0 (by omega) (by omega)
  have h3 := sm_len (TStrand.sm_Chain h)
  refine ⟨?_, fun _ _ => trivial⟩
  unfold s_DocDigests
  simp only [List.length_nil, Nat.zero_add, Nat.sub_zero] at h2
  rw [h2]; exact h3
theorem i_DocDigests_sm {n : Nat} {a0 : TStrand} {a1 : TDocument} (h : Sm n a0) : Sm n (i_DocDigests a0 a1) := by
  have key : ∀ n (acc : List Int) v, a0.Chain.length < n + v → v ≤ a0.Chain.length → (i_DocDigests_1 a0 a1 n acc v).length = acc.length + (a0.Chain.length - v) := by
    intro n
    induction n with
    | zero => intro acc v h1 h2; omega
    | succ n ih =>
      intro acc v h1 h2
      rw [i_DocDigests_1]
      by_cases hv : v < a0.Chain.length
      · rw [show decide ((v : Int) < (a0.Chain.length : Int)) = true by simpa using hv, cond_true, ih _ (v + 1) (by omega) (by omega)]
        simp; omega
      · rw [show decide ((v : Int) < (a0.Chain.length : Int)) = false by simpa using hv, cond_false]; omega
  have h2 := key (a0.Chain.length + 1) [] 0 (by omega) (by omega)
  have h3 := sm_len (TStrand.sm_Chain h)
  refine ⟨?_, fun _ _ => trivial⟩
  unfold i_DocDigests
  simp only [List.length_nil, Nat.zero_add, Nat.sub_zero] at h2
  rw [h2]; exact h3
end Go.Mo
