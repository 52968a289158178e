/- Plain lemmas on the models of the helpers. No condition. -/
import Derived.Test.YtdbemnnipjknfaaGreatM
namespace Go.Mo
open Go.Vm
set_option linter.unusedSimpArgs false
set_option linter.unusedVariables false
theorem l_szKeyS_sm : SzOk l_szKeyS := sz_flat (fun _ _ => trivial) (fun _ _ => rfl)
theorem l_szAuthorityS_sm : SzOk l_szAuthorityS := sz_flat (fun _ _ => trivial) (fun _ _ => rfl)
theorem l_szMethodS_sm : SzOk l_szMethodS := sz_flat (fun _ _ => trivial) (fun _ _ => rfl)
theorem l_szFrame_sm : SzOk l_szFrame := by
  intro a0 a1 hm h0 hn h
  unfold l_szFrame at h ⊢
  by_cases c0 : (l_szKeyS a0.Keys a1) < 0
  · simp [c0] at h
  obtain ⟨s0, t0⟩ := l_szKeyS_sm a0.Keys a1 (by simp [hm]) (by omega) (by omega) c0
  by_cases c1 : (l_szAuthorityS a0.Authorities (l_szKeyS a0.Keys a1)) < 0
  · simp [c1, c0] at h
  obtain ⟨s1, t1⟩ := l_szAuthorityS_sm a0.Authorities (l_szKeyS a0.Keys a1) (by simp [hm]) (by omega) (by omega) c1
  by_cases c2 : (l_szMethodS a0.Methods (l_szAuthorityS a0.Authorities (l_szKeyS a0.Keys a1))) < 0
  · simp [c2, c0, c1] at h
  obtain ⟨s2, t2⟩ := l_szMethodS_sm a0.Methods (l_szAuthorityS a0.Authorities (l_szKeyS a0.Keys a1)) (by simp [hm]) (by omega) (by omega) c2
  simp only [c0, c1, c2, decide_false, cond_false] at h ⊢
  exact ⟨⟨s0, s1, s2⟩, t2⟩
theorem l_szCertS_sm : SzOk l_szCertS := sz_flat (fun _ _ => trivial) (fun _ _ => rfl)
theorem l_szIntS_sm : SzOk l_szIntS := sz_flat (fun _ _ => trivial) (fun _ _ => rfl)
theorem l_szStringS_sm : SzOk l_szStringS := sz_loop sz_string (G := l_szStringS_1) (fun _ _ _ _ => rfl) (fun _ _ => rfl)
theorem l_szDocument_sm : SzOk l_szDocument := by
  intro a0 a1 hm h0 hn h
  unfold l_szDocument at h ⊢
  by_cases c0 : (l_szStringS a0.Parts a1) < 0
  · simp [c0] at h
  obtain ⟨s0, t0⟩ := l_szStringS_sm a0.Parts a1 (by simp [hm]) (by omega) (by omega) c0
  by_cases c1 : (l_szIntS a0.Salts (l_szStringS a0.Parts a1)) < 0
  · simp [c1, c0] at h
  obtain ⟨s1, t1⟩ := l_szIntS_sm a0.Salts (l_szStringS a0.Parts a1) (by simp [hm]) (by omega) (by omega) c1
  simp only [c0, c1, decide_false, cond_false] at h ⊢
  exact ⟨⟨s0, s1⟩, t1⟩
theorem l_szPiece_sm : SzOk l_szPiece := by
  intro a0 a1 hm h0 hn h
  unfold l_szPiece at h ⊢
  by_cases c0 : (l_szIntS a0.Ints a1) < 0
  · simp [c0] at h
  obtain ⟨s0, t0⟩ := l_szIntS_sm a0.Ints a1 (by simp [hm]) (by omega) (by omega) c0
  simp only [c0, decide_false, cond_false] at h ⊢
  exact ⟨s0, t0⟩
theorem l_szPieceS_sm : SzOk l_szPieceS := sz_loop l_szPiece_sm (G := l_szPieceS_1) (fun _ _ _ _ => rfl) (fun _ _ => rfl)
theorem l_szStepS_sm : SzOk l_szStepS := sz_flat (fun _ _ => trivial) (fun _ _ => rfl)
theorem l_szStampS_sm : SzOk l_szStampS := sz_flat (fun _ _ => trivial) (fun _ _ => rfl)
theorem l_szRenewal_sm : SzOk l_szRenewal := by
  intro a0 a1 hm h0 hn h
  unfold l_szRenewal at h ⊢
  by_cases c0 : (l_szStepS a0.Path a1) < 0
  · simp [c0] at h
  obtain ⟨s0, t0⟩ := l_szStepS_sm a0.Path a1 (by simp [hm]) (by omega) (by omega) c0
  by_cases c1 : (l_szStampS a0.Stamps (l_szStepS a0.Path a1)) < 0
  · simp [c1, c0] at h
  obtain ⟨s1, t1⟩ := l_szStampS_sm a0.Stamps (l_szStepS a0.Path a1) (by simp [hm]) (by omega) (by omega) c1
  simp only [c0, c1, decide_false, cond_false] at h ⊢
  exact ⟨⟨s0, s1⟩, t1⟩
theorem l_szRenewalS_sm : SzOk l_szRenewalS := sz_loop l_szRenewal_sm (G := l_szRenewalS_1) (fun _ _ _ _ => rfl) (fun _ _ => rfl)
theorem l_szStrand_sm : SzOk l_szStrand := by
  intro a0 a1 hm h0 hn h
  unfold l_szStrand at h ⊢
  by_cases c0 : (l_szPieceS a0.Pieces a1) < 0
  · simp [c0] at h
  obtain ⟨s0, t0⟩ := l_szPieceS_sm a0.Pieces a1 (by simp [hm]) (by omega) (by omega) c0
  by_cases c1 : (l_szRenewalS a0.Chain (l_szPieceS a0.Pieces a1)) < 0
  · simp [c1, c0] at h
  obtain ⟨s1, t1⟩ := l_szRenewalS_sm a0.Chain (l_szPieceS a0.Pieces a1) (by simp [hm]) (by omega) (by omega) c1
  simp only [c0, c1, decide_false, cond_false] at h ⊢
  exact ⟨⟨s0, s1⟩, t1⟩
theorem l_szItem_sm : SzOk l_szItem := by
  intro a0 a1 hm h0 hn h
  unfold l_szItem at h ⊢
  by_cases c0 : (l_szDocument a0.Doc a1) < 0
  · simp [c0] at h
  obtain ⟨s0, t0⟩ := l_szDocument_sm a0.Doc a1 (by simp [hm]) (by omega) (by omega) c0
  by_cases c1 : (l_szStrand a0.Strand (l_szDocument a0.Doc a1)) < 0
  · simp [c1, c0] at h
  obtain ⟨s1, t1⟩ := l_szStrand_sm a0.Strand (l_szDocument a0.Doc a1) (by simp [hm]) (by omega) (by omega) c1
  simp only [c0, c1, decide_false, cond_false] at h ⊢
  exact ⟨⟨s0, s1⟩, t1⟩
theorem l_szItemS_sm : SzOk l_szItemS := sz_loop l_szItem_sm (G := l_szItemS_1) (fun _ _ _ _ => rfl) (fun _ _ => rfl)
theorem l_szArchive_sm : SzOk l_szArchive := by
  intro a0 a1 hm h0 hn h
  unfold l_szArchive at h ⊢
  by_cases c0 : (l_szItemS a0.Items a1) < 0
  · simp [c0] at h
  obtain ⟨s0, t0⟩ := l_szItemS_sm a0.Items a1 (by simp [hm]) (by omega) (by omega) c0
  simp only [c0, decide_false, cond_false] at h ⊢
  exact ⟨s0, t0⟩
theorem l_szArchiveS_sm : SzOk l_szArchiveS := sz_loop l_szArchive_sm (G := l_szArchiveS_1) (fun _ _ _ _ => rfl) (fun _ _ => rfl)
theorem l_szWorld_sm : SzOk l_szWorld := by
  intro a0 a1 hm h0 hn h
  unfold l_szWorld at h ⊢
  by_cases c0 : (l_szFrame a0.Frame a1) < 0
  · simp [c0] at h
  obtain ⟨s0, t0⟩ := l_szFrame_sm a0.Frame a1 (by simp [hm]) (by omega) (by omega) c0
  by_cases c1 : (l_szCertS a0.Certs (l_szFrame a0.Frame a1)) < 0
  · simp [c1, c0] at h
  obtain ⟨s1, t1⟩ := l_szCertS_sm a0.Certs (l_szFrame a0.Frame a1) (by simp [hm]) (by omega) (by omega) c1
  by_cases c2 : (l_szIntS a0.Ended (l_szCertS a0.Certs (l_szFrame a0.Frame a1))) < 0
  · simp [c2, c0, c1] at h
  obtain ⟨s2, t2⟩ := l_szIntS_sm a0.Ended (l_szCertS a0.Certs (l_szFrame a0.Frame a1)) (by simp [hm]) (by omega) (by omega) c2
  by_cases c3 : (l_szArchiveS a0.Archives (l_szIntS a0.Ended (l_szCertS a0.Certs (l_szFrame a0.Frame a1)))) < 0
  · simp [c3, c0, c1, c2] at h
  obtain ⟨s3, t3⟩ := l_szArchiveS_sm a0.Archives (l_szIntS a0.Ended (l_szCertS a0.Certs (l_szFrame a0.Frame a1))) (by simp [hm]) (by omega) (by omega) c3
  by_cases c4 : (l_szIntS a0.Seqs (l_szArchiveS a0.Archives (l_szIntS a0.Ended (l_szCertS a0.Certs (l_szFrame a0.Frame a1))))) < 0
  · simp [c4, c0, c1, c2, c3] at h
  obtain ⟨s4, t4⟩ := l_szIntS_sm a0.Seqs (l_szArchiveS a0.Archives (l_szIntS a0.Ended (l_szCertS a0.Certs (l_szFrame a0.Frame a1)))) (by simp [hm]) (by omega) (by omega) c4
  by_cases c5 : (l_szIntS a0.Lying (l_szIntS a0.Seqs (l_szArchiveS a0.Archives (l_szIntS a0.Ended (l_szCertS a0.Certs (l_szFrame a0.Frame a1)))))) < 0
  · simp [c5, c0, c1, c2, c3, c4] at h
  obtain ⟨s5, t5⟩ := l_szIntS_sm a0.Lying (l_szIntS a0.Seqs (l_szArchiveS a0.Archives (l_szIntS a0.Ended (l_szCertS a0.Certs (l_szFrame a0.Frame a1))))) (by simp [hm]) (by omega) (by omega) c5
  by_cases c6 : (l_szIntS a0.Forged (l_szIntS a0.Lying (l_szIntS a0.Seqs (l_szArchiveS a0.Archives (l_szIntS a0.Ended (l_szCertS a0.Certs (l_szFrame a0.Frame a1))))))) < 0
  · simp [c6, c0, c1, c2, c3, c4, c5] at h
  obtain ⟨s6, t6⟩ := l_szIntS_sm a0.Forged (l_szIntS a0.Lying (l_szIntS a0.Seqs (l_szArchiveS a0.Archives (l_szIntS a0.Ended (l_szCertS a0.Certs (l_szFrame a0.Frame a1)))))) (by simp [hm]) (by omega) (by omega) c6
  simp only [c0, c1, c2, c3, c4, c5, c6, decide_false, cond_false] at h ⊢
  exact ⟨⟨s0, s1, s2, s3, s4, s5, s6⟩, t6⟩
theorem l_toKey_id (a0 : TKey) : l_toKey a0 = a0 := by cases a0; simp [l_toKey]
theorem l_toKeyS_id (a0 : List TKey) : l_toKeyS a0 = a0 := to_loop (F := l_toKeyS_1 a0) (g := l_toKey) l_toKey_id (fun _ _ _ => rfl) _ 0 _ (by simp) (by omega) (by omega) (fun j h => by omega)
theorem l_toAuthority_id (a0 : TAuthority) : l_toAuthority a0 = a0 := by cases a0; simp [l_toAuthority]
theorem l_toAuthorityS_id (a0 : List TAuthority) : l_toAuthorityS a0 = a0 := to_loop (F := l_toAuthorityS_1 a0) (g := l_toAuthority) l_toAuthority_id (fun _ _ _ => rfl) _ 0 _ (by simp) (by omega) (by omega) (fun j h => by omega)
theorem l_toMethod_id (a0 : TMethod) : l_toMethod a0 = a0 := by cases a0; simp [l_toMethod]
theorem l_toMethodS_id (a0 : List TMethod) : l_toMethodS a0 = a0 := to_loop (F := l_toMethodS_1 a0) (g := l_toMethod) l_toMethod_id (fun _ _ _ => rfl) _ 0 _ (by simp) (by omega) (by omega) (fun j h => by omega)
theorem l_toFrame_id (a0 : TFrame) : l_toFrame a0 = a0 := by cases a0; simp [l_toFrame, l_toAuthorityS_id, l_toKeyS_id, l_toMethodS_id]
theorem l_toCert_id (a0 : TCert) : l_toCert a0 = a0 := by cases a0; simp [l_toCert]
theorem l_toCertS_id (a0 : List TCert) : l_toCertS a0 = a0 := to_loop (F := l_toCertS_1 a0) (g := l_toCert) l_toCert_id (fun _ _ _ => rfl) _ 0 _ (by simp) (by omega) (by omega) (fun j h => by omega)
theorem l_toIntS_id (a0 : List Int) : l_toIntS a0 = a0 := to_loop (F := l_toIntS_1 a0) (g := (fun x => x)) (fun _ => rfl) (fun _ _ _ => rfl) _ 0 _ (by simp) (by omega) (by omega) (fun j h => by omega)
theorem l_toStringS_id (a0 : List ByteArray) : l_toStringS a0 = a0 := to_loop (F := l_toStringS_1 a0) (g := (fun x => x)) (fun _ => rfl) (fun _ _ _ => rfl) _ 0 _ (by simp) (by omega) (by omega) (fun j h => by omega)
theorem l_toDocument_id (a0 : TDocument) : l_toDocument a0 = a0 := by cases a0; simp [l_toDocument, l_toIntS_id, l_toStringS_id]
theorem l_toSignature_id (a0 : TSignature) : l_toSignature a0 = a0 := by cases a0; simp [l_toSignature]
theorem l_toPiece_id (a0 : TPiece) : l_toPiece a0 = a0 := by cases a0; simp [l_toPiece, l_toIntS_id]
theorem l_toPieceS_id (a0 : List TPiece) : l_toPieceS a0 = a0 := to_loop (F := l_toPieceS_1 a0) (g := l_toPiece) l_toPiece_id (fun _ _ _ => rfl) _ 0 _ (by simp) (by omega) (by omega) (fun j h => by omega)
theorem l_toStep_id (a0 : TStep) : l_toStep a0 = a0 := by cases a0; simp [l_toStep]
theorem l_toStepS_id (a0 : List TStep) : l_toStepS a0 = a0 := to_loop (F := l_toStepS_1 a0) (g := l_toStep) l_toStep_id (fun _ _ _ => rfl) _ 0 _ (by simp) (by omega) (by omega) (fun j h => by omega)
theorem l_toStamp_id (a0 : TStamp) : l_toStamp a0 = a0 := by cases a0; simp [l_toStamp]
theorem l_toStampS_id (a0 : List TStamp) : l_toStampS a0 = a0 := to_loop (F := l_toStampS_1 a0) (g := l_toStamp) l_toStamp_id (fun _ _ _ => rfl) _ 0 _ (by simp) (by omega) (by omega) (fun j h => by omega)
theorem l_toRenewal_id (a0 : TRenewal) : l_toRenewal a0 = a0 := by cases a0; simp [l_toRenewal, l_toStampS_id, l_toStepS_id]
theorem l_toRenewalS_id (a0 : List TRenewal) : l_toRenewalS a0 = a0 := to_loop (F := l_toRenewalS_1 a0) (g := l_toRenewal) l_toRenewal_id (fun _ _ _ => rfl) _ 0 _ (by simp) (by omega) (by omega) (fun j h => by omega)
theorem l_toStrand_id (a0 : TStrand) : l_toStrand a0 = a0 := by cases a0; simp [l_toStrand, l_toPieceS_id, l_toRenewalS_id]
theorem l_toItem_id (a0 : TItem) : l_toItem a0 = a0 := by cases a0; simp [l_toItem, l_toDocument_id, l_toSignature_id, l_toStrand_id]
theorem l_toItemS_id (a0 : List TItem) : l_toItemS a0 = a0 := to_loop (F := l_toItemS_1 a0) (g := l_toItem) l_toItem_id (fun _ _ _ => rfl) _ 0 _ (by simp) (by omega) (by omega) (fun j h => by omega)
theorem l_toArchive_id (a0 : TArchive) : l_toArchive a0 = a0 := by cases a0; simp [l_toArchive, l_toItemS_id]
theorem l_toArchiveS_id (a0 : List TArchive) : l_toArchiveS a0 = a0 := to_loop (F := l_toArchiveS_1 a0) (g := l_toArchive) l_toArchive_id (fun _ _ _ => rfl) _ 0 _ (by simp) (by omega) (by omega) (fun j h => by omega)
theorem l_toWorld_id (a0 : TWorld) : l_toWorld a0 = a0 := by cases a0; simp [l_toWorld, l_toArchiveS_id, l_toCertS_id, l_toFrame_id, l_toIntS_id]
theorem s_FindAuthority_lt (a0 : List TAuthority) (a1 : Int) : s_FindAuthority a0 a1 < (a0.length : Int) := find_lt (F := s_FindAuthority_1 a0 a1) (c := fun v1_0 => ((nth a0 v1_0).Id == a1)) (fun _ => rfl) (fun _ _ => rfl) _ _
theorem s_FindKey_lt (a0 : List TKey) (a1 : Int) : s_FindKey a0 a1 < (a0.length : Int) := find_lt (F := s_FindKey_1 a0 a1) (c := fun v1_0 => ((nth a0 v1_0).Number == a1)) (fun _ => rfl) (fun _ _ => rfl) _ _
theorem s_FindCert_lt (a0 : List TCert) (a1 : Int) : s_FindCert a0 a1 < (a0.length : Int) := find_lt (F := s_FindCert_1 a0 a1) (c := fun v1_0 => ((nth a0 v1_0).Serial == a1)) (fun _ => rfl) (fun _ _ => rfl) _ _
theorem s_FindPiece_lt (a0 : TStrand) (a1 : TPiece) : s_FindPiece a0 a1 < (a0.Pieces.length : Int) := find_lt (F := s_FindPiece_1 a0 a1) (c := fun v1_0 => (s_EqualPieces (nth a0.Pieces v1_0) a1)) (fun _ => rfl) (fun _ _ => rfl) _ _
theorem i_FindKey_lt (a0 : List TKey) (a1 : Int) : i_FindKey a0 a1 < (a0.length : Int) := find_lt (F := i_FindKey_1 a0 a1) (c := fun v1_0 => ((nth a0 v1_0).Number == a1)) (fun _ => rfl) (fun _ _ => rfl) _ _
theorem i_FindCert_lt (a0 : List TCert) (a1 : Int) : i_FindCert a0 a1 < (a0.length : Int) := find_lt (F := i_FindCert_1 a0 a1) (c := fun v1_0 => ((nth a0 v1_0).Serial == a1)) (fun _ => rfl) (fun _ _ => rfl) _ _
theorem i_indexOf_lt (a0 : List Int) (a1 : Int) : i_indexOf a0 a1 < (a0.length : Int) := find_lt (F := i_indexOf_1 a0 a1) (c := fun v1_0 => ((nth a0 v1_0) == a1)) (fun _ => rfl) (fun _ _ => rfl) _ _
theorem i_FindAuthority_lt (a0 : List TAuthority) (a1 : Int) : i_FindAuthority a0 a1 < (a0.length : Int) := find_lt (F := i_FindAuthority_1 a0 a1) (c := fun v1_0 => ((nth a0 v1_0).Id == a1)) (fun _ => rfl) (fun _ _ => rfl) _ _
theorem l_eqKey_self (a0 : TKey) : l_eqKey a0 a0 = true := by simp [l_eqKey]
theorem l_eqKeyS_self (a0 : List TKey) : l_eqKeyS a0 a0 = true := by
  unfold l_eqKeyS
  rw [eq_loop (F := l_eqKeyS_1 a0 a0) (L := a0.length) (c := fun v1_0 => (!(l_eqKey (nth a0 v1_0) (nth a0 v1_0)))) (fun i => by simp [l_eqKey_self]) (fun _ => rfl) (fun _ _ => rfl)]
  simp
theorem l_eqAuthority_self (a0 : TAuthority) : l_eqAuthority a0 a0 = true := by simp [l_eqAuthority]
theorem l_eqAuthorityS_self (a0 : List TAuthority) : l_eqAuthorityS a0 a0 = true := by
  unfold l_eqAuthorityS
  rw [eq_loop (F := l_eqAuthorityS_1 a0 a0) (L := a0.length) (c := fun v1_0 => (!(l_eqAuthority (nth a0 v1_0) (nth a0 v1_0)))) (fun i => by simp [l_eqAuthority_self]) (fun _ => rfl) (fun _ _ => rfl)]
  simp
theorem l_eqMethod_self (a0 : TMethod) : l_eqMethod a0 a0 = true := by simp [l_eqMethod]
theorem l_eqMethodS_self (a0 : List TMethod) : l_eqMethodS a0 a0 = true := by
  unfold l_eqMethodS
  rw [eq_loop (F := l_eqMethodS_1 a0 a0) (L := a0.length) (c := fun v1_0 => (!(l_eqMethod (nth a0 v1_0) (nth a0 v1_0)))) (fun i => by simp [l_eqMethod_self]) (fun _ => rfl) (fun _ _ => rfl)]
  simp
theorem l_eqFrame_self (a0 : TFrame) : l_eqFrame a0 a0 = true := by simp [l_eqFrame, l_eqAuthorityS_self, l_eqKeyS_self, l_eqMethodS_self]
theorem l_eqCert_self (a0 : TCert) : l_eqCert a0 a0 = true := by simp [l_eqCert]
theorem l_eqCertS_self (a0 : List TCert) : l_eqCertS a0 a0 = true := by
  unfold l_eqCertS
  rw [eq_loop (F := l_eqCertS_1 a0 a0) (L := a0.length) (c := fun v1_0 => (!(l_eqCert (nth a0 v1_0) (nth a0 v1_0)))) (fun i => by simp [l_eqCert_self]) (fun _ => rfl) (fun _ _ => rfl)]
  simp
theorem l_eqIntS_self (a0 : List Int) : l_eqIntS a0 a0 = true := by
  unfold l_eqIntS
  rw [eq_loop (F := l_eqIntS_1 a0 a0) (L := a0.length) (c := fun v1_0 => ((nth a0 v1_0) != (nth a0 v1_0))) (fun i => by simp) (fun _ => rfl) (fun _ _ => rfl)]
  simp
theorem l_eqStringS_self (a0 : List ByteArray) : l_eqStringS a0 a0 = true := by
  unfold l_eqStringS
  rw [eq_loop (F := l_eqStringS_1 a0 a0) (L := a0.length) (c := fun v1_0 => (!decide ((nth a0 v1_0) = (nth a0 v1_0)))) (fun i => by simp) (fun _ => rfl) (fun _ _ => rfl)]
  simp
theorem l_eqDocument_self (a0 : TDocument) : l_eqDocument a0 a0 = true := by simp [l_eqDocument, l_eqIntS_self, l_eqStringS_self]
theorem l_eqSignature_self (a0 : TSignature) : l_eqSignature a0 a0 = true := by simp [l_eqSignature]
theorem l_eqPiece_self (a0 : TPiece) : l_eqPiece a0 a0 = true := by simp [l_eqPiece, l_eqIntS_self]
theorem l_eqPieceS_self (a0 : List TPiece) : l_eqPieceS a0 a0 = true := by
  unfold l_eqPieceS
  rw [eq_loop (F := l_eqPieceS_1 a0 a0) (L := a0.length) (c := fun v1_0 => (!(l_eqPiece (nth a0 v1_0) (nth a0 v1_0)))) (fun i => by simp [l_eqPiece_self]) (fun _ => rfl) (fun _ _ => rfl)]
  simp
theorem l_eqStep_self (a0 : TStep) : l_eqStep a0 a0 = true := by simp [l_eqStep]
theorem l_eqStepS_self (a0 : List TStep) : l_eqStepS a0 a0 = true := by
  unfold l_eqStepS
  rw [eq_loop (F := l_eqStepS_1 a0 a0) (L := a0.length) (c := fun v1_0 => (!(l_eqStep (nth a0 v1_0) (nth a0 v1_0)))) (fun i => by simp [l_eqStep_self]) (fun _ => rfl) (fun _ _ => rfl)]
  simp
theorem l_eqStamp_self (a0 : TStamp) : l_eqStamp a0 a0 = true := by simp [l_eqStamp]
theorem l_eqStampS_self (a0 : List TStamp) : l_eqStampS a0 a0 = true := by
  unfold l_eqStampS
  rw [eq_loop (F := l_eqStampS_1 a0 a0) (L := a0.length) (c := fun v1_0 => (!(l_eqStamp (nth a0 v1_0) (nth a0 v1_0)))) (fun i => by simp [l_eqStamp_self]) (fun _ => rfl) (fun _ _ => rfl)]
  simp
theorem l_eqRenewal_self (a0 : TRenewal) : l_eqRenewal a0 a0 = true := by simp [l_eqRenewal, l_eqStampS_self, l_eqStepS_self]
theorem l_eqRenewalS_self (a0 : List TRenewal) : l_eqRenewalS a0 a0 = true := by
  unfold l_eqRenewalS
  rw [eq_loop (F := l_eqRenewalS_1 a0 a0) (L := a0.length) (c := fun v1_0 => (!(l_eqRenewal (nth a0 v1_0) (nth a0 v1_0)))) (fun i => by simp [l_eqRenewal_self]) (fun _ => rfl) (fun _ _ => rfl)]
  simp
theorem l_eqStrand_self (a0 : TStrand) : l_eqStrand a0 a0 = true := by simp [l_eqStrand, l_eqPieceS_self, l_eqRenewalS_self]
theorem l_eqItem_self (a0 : TItem) : l_eqItem a0 a0 = true := by simp [l_eqItem, l_eqDocument_self, l_eqSignature_self, l_eqStrand_self]
theorem l_eqItemS_self (a0 : List TItem) : l_eqItemS a0 a0 = true := by
  unfold l_eqItemS
  rw [eq_loop (F := l_eqItemS_1 a0 a0) (L := a0.length) (c := fun v1_0 => (!(l_eqItem (nth a0 v1_0) (nth a0 v1_0)))) (fun i => by simp [l_eqItem_self]) (fun _ => rfl) (fun _ _ => rfl)]
  simp
theorem l_eqArchive_self (a0 : TArchive) : l_eqArchive a0 a0 = true := by simp [l_eqArchive, l_eqItemS_self]
theorem l_eqArchiveS_self (a0 : List TArchive) : l_eqArchiveS a0 a0 = true := by
  unfold l_eqArchiveS
  rw [eq_loop (F := l_eqArchiveS_1 a0 a0) (L := a0.length) (c := fun v1_0 => (!(l_eqArchive (nth a0 v1_0) (nth a0 v1_0)))) (fun i => by simp [l_eqArchive_self]) (fun _ => rfl) (fun _ _ => rfl)]
  simp
theorem l_eqWorld_self (a0 : TWorld) : l_eqWorld a0 a0 = true := by simp [l_eqWorld, l_eqArchiveS_self, l_eqCertS_self, l_eqFrame_self, l_eqIntS_self]
theorem s_CertInts_sm {n : Nat} {x : TCert} (h : 7 ≤ n) : Sm n (s_CertInts x) := ⟨by simp [s_CertInts]; omega, fun _ _ => trivial⟩
theorem i_CertInts_sm {n : Nat} {x : TCert} (h : 7 ≤ n) : Sm n (i_CertInts x) := ⟨by simp [i_CertInts]; omega, fun _ _ => trivial⟩
theorem s_SignatureInts_sm {n : Nat} {x : TSignature} (h : 9 ≤ n) : Sm n (s_SignatureInts x) := ⟨by simp [s_SignatureInts]; omega, fun _ _ => trivial⟩
theorem i_SignatureInts_sm {n : Nat} {x : TSignature} (h : 9 ≤ n) : Sm n (i_SignatureInts x) := ⟨by simp [i_SignatureInts]; omega, fun _ _ => trivial⟩
theorem s_IsStrand_pos {a : TStrand} (h : s_IsStrand a = true) : 0 < a.Pieces.length := by
  unfold s_IsStrand at h
  split at h
  · rename_i r e
    have : ∀ n v, s_IsStrand_1 a n v ≠ .inl true := by
      intro n
      induction n with
      | zero => intro v h; cases h
      | succ n ih =>
        intro v h
        rw [s_IsStrand_1] at h
        cases h1 : decide ((v : Int) < (a.Pieces.length : Int)) with
        | false => rw [h1] at h; cases h
        | true =>
          rw [h1] at h
          cases h2 : decide (s_FindPiece a (nth a.Pieces v) < (v : Int)) with
          | true => rw [h2] at h; cases h
          | false => rw [h2] at h; exact ih _ h
    subst h; exact absurd e (this _ _)
  · split at h
    · rename_i r e
      have : ∀ n v, s_IsStrand_2 a n v ≠ .inl true := by
        intro n
        induction n with
        | zero => intro v h; cases h
        | succ n ih =>
          intro v h
          rw [s_IsStrand_2] at h
          generalize decide ((v : Int) < (a.Chain.length : Int)) = c1 at h
          cases c1 with
          | false => cases h
          | true =>
            simp only [cond_true] at h
            generalize (!s_l1In (nth a.Chain v).Count 1 (a.Pieces.length : Int) || decide ((v : Int) > 0) && decide ((nth a.Chain (v - 1)).Count > (nth a.Chain v).Count)) = c2 at h
            cases c2 with
            | true => cases h
            | false => exact ih _ h
      subst h; exact absurd e (this _ _)
    · simp only [s_l1In, Bool.and_eq_true, decide_eq_true_eq] at h; omega
theorem i_IsStrand_pos {a : TStrand} (h : i_IsStrand a = true) : 0 < a.Pieces.length := by
  unfold i_IsStrand at h
  generalize (match i_IsStrand_1 a (a.Pieces.length + 1) 0 with | .inl r1 => r1 | .inr _ => (match i_IsStrand_2 a (a.Chain.length + 1) 0 with | .inl r2 => r2 | .inr _ => true)) = m at h
  cases hh : i_InRange (a.Pieces.length : Int) 1 12 with
  | false => rw [hh] at h; simp at h
  | true => simp only [i_InRange, Bool.and_eq_true, decide_eq_true_eq] at hh; omega
theorem s_IsDocument_len {a : TDocument} (h : s_IsDocument a = true) : a.Salts.length = a.Parts.length := by
  unfold s_IsDocument at h
  split at h
  · rename_i r e
    have : ∀ n v, s_IsDocument_1 a n v ≠ .inl true := by
      intro n
      induction n with
      | zero => intro v h; cases h
      | succ n ih =>
        intro v h
        rw [s_IsDocument_1] at h
        generalize decide ((v : Int) < (a.Parts.length : Int)) = c1 at h
        cases c1 with
        | false => cases h
        | true =>
          simp only [cond_true] at h
          generalize decide (((nth a.Parts v).size : Int) > 40) = c2 at h
          cases c2 with
          | true => cases h
          | false => exact ih _ h
    subst h; exact absurd e (this _ _)
  · split at h
    · rename_i r e
      have : ∀ n v, s_IsDocument_2 a n v ≠ .inl true := by
        intro n
        induction n with
        | zero => intro v h; cases h
        | succ n ih =>
          intro v h
          rw [s_IsDocument_2] at h
          generalize decide ((v : Int) < (a.Salts.length : Int)) = c1 at h
          cases c1 with
          | false => cases h
          | true =>
            simp only [cond_true] at h
            generalize (!s_l1In (nth a.Salts v) 1 1000000000000) = c2 at h
            cases c2 with
            | true => cases h
            | false => exact ih _ h
      subst h; exact absurd e (this _ _)
    · simp only [Bool.and_eq_true, beq_iff_eq] at h; omega
theorem i_IsDocument_len {a : TDocument} (h : i_IsDocument a = true) : a.Salts.length = a.Parts.length := by
  unfold i_IsDocument at h
  generalize (match i_IsDocument_1 a (a.Parts.length + 1) 0 with | .inl r1 => r1 | .inr _ => true) = m at h
  by_cases hh : a.Salts.length = a.Parts.length
  · exact hh
  · rw [show ((a.Salts.length : Int) != (a.Parts.length : Int)) = true by simp; omega] at h
    simp at h
end Go.Mo
