/- Contracts of the functions over the abstract machine, part 2. No condition. -/
import Derived.Test.YtllfgbhplfhdkaaGreatC1
namespace Go.Proofs.YtllfgbhplfhdkaaGreat
open Go.Vm Go.Mo
set_option maxHeartbeats 1000000
set_option maxRecDepth 100000
set_option linter.unusedSimpArgs false
set_option linter.unusedVariables false
theorem l_markArchiveS_ok (a0 : List TArchive) (a1 : Int) : SoundM Tryz.prog 62 [.sl 2 (a0.map TArchive.row)] [[.int .i64 a1]] [.sl 2 ((l_markArchiveS a0 a1).1.map TArchive.row)] (.int .i64 (l_markArchiveS a0 a1).2) := by
  refine sound_ofM Tryz.func62 rfl (by kernel_rfl) (fun v => ?_)
  simp [Tryz.ntmps62]
  refine okL fun k1 => ?_
  refine loopI (ι := { s : Nat × Int × Nat × (List TArchive) // l_markArchiveS_1 s.1 s.2.1 s.2.2.1 s.2.2.2 = l_markArchiveS_1 (a0.length + 1) a1 0 a0 ∧ (1 ≤ s.1 ∧ s.2.2.2.length < s.1 + s.2.2.1) }) (fun s => stOf 27 [(0, .fix v (.one (.sref 0 0 0 s.1.2.2.2.length)), [.arr true 2 (s.1.2.2.2.map TArchive.row)]), (1, .one (.d (.int .i64 s.1.2.1)), []), (5, .one (.d (.int .i64 (↑s.1.2.2.1 : Int))), [])]) (fun s => s.1.1) ⟨((a0.length + 1), a1, 0, a0), rfl, by first | omega | (dsimp only; omega) | simp⟩ (wk_keep (by simp)) ?_
  rintro ⟨⟨n1, v1_0, v1_1, v1_2⟩, e1, j1⟩
  try dsimp only at e1 j1
  obtain ⟨p1, rfl⟩ : ∃ p, n1 = p + 1 := ⟨n1 - 1, by omega⟩
  simp
  refine condR (c := (decide ((↑v1_1 : Int) < (↑v1_2.length : Int)))) (by simp) (fun k2 h1 => ?_) (fun k2 h1 => ?_)
  · have q1 := h1; try simp at q1
    have i1 : v1_1 < v1_2.length := by simpa using h1
    have m2 : v1_2.length ≤ 9223372036854775807 := by simpa using k2 0 _ rfl
    have w1 : IntKind.i64.wrap ((v1_1 : Int) + 1) = (v1_1 : Int) + 1 := wrap_of (by omega) (by omega)
    simp [i1, rowAt_map, set_map (x := (TArchive.mk v1_0 (nth v1_2 v1_1).Items)) rfl, rowAt_set_self]
    repeat ((with_reducible refine And.intro ?_ ?_); focus (intros; omega))
    refine callMT (t := 0) (j := 0) (i := v1_1) (c := 1) (size := 2) (rows := ((v1_2.set v1_1 (TArchive.mk v1_0 (nth v1_2 v1_1).Items)).map TArchive.row)) rfl rfl rfl rfl rfl rfl rfl (l_markItemS_ok (nth v1_2 v1_1).Items (W (v1_0 + 1))) (by simp) (by simp) (by simp [m2, i1]) (by simp [rowAt_map, rowAt_set_self, m2, i1]) (by simp) (by simp) (by simp) ?_
    simp [List.set_set, set_map (x := (TArchive.mk v1_0 (l_markItemS (nth v1_2 v1_1).Items (W (v1_0 + 1))).1)) rfl, rowAt_map, rowAt_set_self, m2, i1]
    repeat ((with_reducible refine And.intro ?_ ?_); focus (intros; omega))
    refine nxtI ⟨(p1, (l_markItemS (nth v1_2 v1_1).Items (W (v1_0 + 1))).2, (v1_1 + 1), (v1_2.set v1_1 (TArchive.mk v1_0 (l_markItemS (nth v1_2 v1_1).Items (W (v1_0 + 1))).1))), ?_, ?_⟩ (by simp) (wk_keep (by simp [w1]))
    · rw [← e1]; simp only [l_markArchiveS_1, h1, cond_true, cond_false]
    · (simp; omega)
  · have q1 := h1; try simp at q1
    have x1 : l_markArchiveS_1 (a0.length + 1) a1 0 a0 = (v1_0, v1_2) := by rw [← e1]; simp only [l_markArchiveS_1, h1, cond_true, cond_false]
    simp
    refine retM (rv := [.tmp 4]) rfl ?_
    have f1 := l_markArchiveS.eq_1 a0 a1
    simp only [x1, cond_true, cond_false] at f1
    simp [f1]
theorem l_markWorld_ok (a0 : TWorld) (a1 : Int) : SoundM Tryz.prog 19 a0.row [[.int .i64 a1]] (l_markWorld a0 a1).1.row (.int .i64 (l_markWorld a0 a1).2) := by
  refine sound_ofM Tryz.func19 rfl (by kernel_rfl) (fun v => ?_)
  simp [Tryz.ntmps19]
  refine callMO (ats := [.sref 0 0 0 a0.Frame.Keys.length, .sref 0 1 0 a0.Frame.Authorities.length, .sref 0 2 0 a0.Frame.Methods.length, .d (.int .i64 a0.Frame.Liars), .d (.int .i64 a0.Frame.Now)]) rfl rfl rfl rfl rfl rfl rfl (l_markFrame_ok a0.Frame a1) (by simp) (by simp) (by simp) (by simp) (by simp) (by simp) (by simp) (by simp) (by simp) ?_
  simp
  refine callMO (ats := [.sref 0 5 0 a0.Certs.length]) rfl rfl rfl rfl rfl rfl rfl (l_markCertS_ok a0.Certs (l_markFrame a0.Frame a1).2) (by simp) (by simp) (by simp) (by simp) (by simp) (by simp) (by simp) (by simp) (by simp) ?_
  simp
  refine callMO (ats := [.sref 0 6 0 a0.Ended.length]) rfl rfl rfl rfl rfl rfl rfl (l_markIntS_ok a0.Ended (l_markCertS a0.Certs (l_markFrame a0.Frame a1).2).2) (by simp) (by simp) (by simp) (by simp) (by simp) (by simp) (by simp) (by simp) (by simp) ?_
  simp
  refine callMO (ats := [.sref 0 7 0 a0.Archives.length]) rfl rfl rfl rfl rfl rfl rfl (l_markArchiveS_ok a0.Archives (l_markIntS a0.Ended (l_markCertS a0.Certs (l_markFrame a0.Frame a1).2).2).2) (by simp) (by simp) (by simp) (by simp) (by simp) (by simp) (by simp) (by simp) (by simp) ?_
  simp
  refine callMO (ats := [.sref 0 8 0 a0.Seqs.length]) rfl rfl rfl rfl rfl rfl rfl (l_markIntS_ok a0.Seqs (l_markArchiveS a0.Archives (l_markIntS a0.Ended (l_markCertS a0.Certs (l_markFrame a0.Frame a1).2).2).2).2) (by simp) (by simp) (by simp) (by simp) (by simp) (by simp) (by simp) (by simp) (by simp) ?_
  simp
  refine callMO (ats := [.sref 0 9 0 a0.Lying.length]) rfl rfl rfl rfl rfl rfl rfl (l_markIntS_ok a0.Lying (l_markIntS a0.Seqs (l_markArchiveS a0.Archives (l_markIntS a0.Ended (l_markCertS a0.Certs (l_markFrame a0.Frame a1).2).2).2).2).2) (by simp) (by simp) (by simp) (by simp) (by simp) (by simp) (by simp) (by simp) (by simp) ?_
  simp
  refine callMO (ats := [.sref 0 11 0 a0.Forged.length]) rfl rfl rfl rfl rfl rfl rfl (l_markIntS_ok a0.Forged (l_markIntS a0.Lying (l_markIntS a0.Seqs (l_markArchiveS a0.Archives (l_markIntS a0.Ended (l_markCertS a0.Certs (l_markFrame a0.Frame a1).2).2).2).2).2).2) (by simp) (by simp) (by simp) (by simp) (by simp) (by simp) (by simp) (by simp) (by simp) ?_
  simp
  refine retM (rv := [.tmp 4]) rfl ?_
  have f1 := l_markWorld.eq_1 a0 a1
  simp [f1]
theorem l_heldIntS_ok (a0 : List Int) (a1 : Int) : SoundAt Tryz.prog 21 false [[.sl 1 (a0.map iR)], [.int .i64 a1]] [[.int .i64 (l_heldIntS a0 a1)]] := by
  refine sound_of Tryz.func21 rfl (by kernel_rfl) ?_
  simp [Tryz.ntmps21]
  refine okL fun k1 => ?_
  refine loopI (ι := { s : Nat × Int × Nat // l_heldIntS_1 a0 s.1 s.2.1 s.2.2 = l_heldIntS_1 a0 (a0.length + 1) a1 0 ∧ (1 ≤ s.1 ∧ a0.length < s.1 + s.2.2 ∧ s.2.2 ≤ a0.length) }) (fun s => stOf 21 [(0, .one (.d (.sl 1 (a0.map iR))), []), (1, .one (.d (.int .i64 s.1.2.1)), []), (5, .one (.d (.int .i64 (↑s.1.2.2 : Int))), [])]) (fun s => s.1.1) ⟨((a0.length + 1), a1, 0), rfl, by first | omega | (dsimp only; omega) | simp⟩ (wk_keep (by simp)) ?_
  rintro ⟨⟨n1, v1_0, v1_1⟩, e1, j1⟩
  try dsimp only at e1 j1
  obtain ⟨p1, rfl⟩ : ∃ p, n1 = p + 1 := ⟨n1 - 1, by omega⟩
  simp
  refine condR (c := (decide ((↑v1_1 : Int) < (↑a0.length : Int)))) (by simp) (fun k2 h1 => ?_) (fun k2 h1 => ?_)
  · have q1 := h1; try simp at q1
    have i1 : v1_1 < a0.length := by simpa using h1
    have m2 : a0.length ≤ 9223372036854775807 := by simpa using k2 0 _ rfl
    have w1 : IntKind.i64.wrap ((v1_1 : Int) + 1) = (v1_1 : Int) + 1 := wrap_of (by omega) (by omega)
    simp [i1, rowAt_map]
    repeat ((with_reducible refine And.intro ?_ ?_); focus (intros; omega))
    refine condR (c := ((nth a0 v1_1) != v1_0)) (by simp) (fun k3 h2 => ?_) (fun k3 h2 => ?_)
    · have q2 := h2; try simp at q2
      have x1 : l_heldIntS_1 a0 (a0.length + 1) a1 0 = .inl (-1) := by rw [← e1]; simp only [l_heldIntS_1, h1, h2, cond_true, cond_false]
      simp
      refine retRd (rv := [.tmp 4]) rfl ?_
      have f1 := l_heldIntS.eq_1 a0 a1
      simp only [x1, cond_true, cond_false] at f1
      simp [f1]
    · have q2 := h2; try simp at q2
      simp
      refine nxtI ⟨(p1, (W (v1_0 + 1)), (v1_1 + 1)), ?_, ?_⟩ (by simp) (wk_keep (by simp [w1]))
      · rw [← e1]; simp only [l_heldIntS_1, h1, h2, cond_true, cond_false]
      · first | omega | (simp at *; omega)
  · have q1 := h1; try simp at q1
    have x2 : l_heldIntS_1 a0 (a0.length + 1) a1 0 = .inr v1_0 := by rw [← e1]; simp only [l_heldIntS_1, h1, cond_true, cond_false]
    simp
    refine retRd (rv := [.tmp 4]) rfl ?_
    have f2 := l_heldIntS.eq_1 a0 a1
    simp only [x2, cond_true, cond_false] at f2
    simp [f2]
theorem l_FnExactFalseAuthorities_ok (a0 : TWorld) (t0 : Sm maxLen a0) : SoundAt Tryz.prog 3 false [a0.row] [[.bool (l_FnExactFalseAuthorities a0)]] := by
  refine sound_of Tryz.func3 rfl (by kernel_rfl) ?_
  simp [Tryz.ntmps3]
  refine callRd rfl rfl rfl rfl (l_szWorld_ok a0 1048576) (by simp) (by simp) (by simp) ?_
  simp
  refine condR (c := (decide ((l_szWorld a0 1048576) < 0))) (by simp) (fun k1 h1 => ?_) (fun k1 h1 => ?_)
  · have q1 := h1; try simp at q1
    simp
    refine retRd (rv := [.tmp 2]) rfl ?_
    have f1 := l_FnExactFalseAuthorities.eq_1 a0
    simp only [h1, cond_true, cond_false] at f1
    simp [f1]
  · have q1 := h1; try simp at q1
    obtain ⟨u0, y0⟩ := l_szWorld_sm a0 1048576 t0 (by omega) (by omega) (by simpa using h1)
    simp
    refine callRd rfl rfl rfl rfl (SoundD.rd (l_toWorld_okI a0 (sm_mono (n := 1048576) (by decide) (by simp (maxDischargeDepth := 12) [u0, l_toArchive_id, l_toArchiveS_id, l_toAuthority_id, l_toAuthorityS_id, l_toCert_id, l_toCertS_id, l_toDocument_id, l_toFrame_id, l_toIntS_id, l_toItem_id, l_toItemS_id, l_toKey_id, l_toKeyS_id, l_toMethod_id, l_toMethodS_id, l_toPiece_id, l_toPieceS_id, l_toRenewal_id, l_toRenewalS_id, l_toSignature_id, l_toStamp_id, l_toStampS_id, l_toStep_id, l_toStepS_id, l_toStrand_id, l_toStringS_id, l_toWorld_id])))) (by simp) (by simp) (by simp) ?_
    simp
    refine callRd rfl rfl rfl rfl (SoundD.rd (s_FalseAuthorities_ok a0 (sm_mono (n := 1048576) (by decide) (by simp (maxDischargeDepth := 12) [u0, l_toArchive_id, l_toArchiveS_id, l_toAuthority_id, l_toAuthorityS_id, l_toCert_id, l_toCertS_id, l_toDocument_id, l_toFrame_id, l_toIntS_id, l_toItem_id, l_toItemS_id, l_toKey_id, l_toKeyS_id, l_toMethod_id, l_toMethodS_id, l_toPiece_id, l_toPieceS_id, l_toRenewal_id, l_toRenewalS_id, l_toSignature_id, l_toStamp_id, l_toStampS_id, l_toStep_id, l_toStepS_id, l_toStrand_id, l_toStringS_id, l_toWorld_id])))) (by simp) (by simp) (by simp) ?_
    simp
    refine callD [] rfl rfl rfl rfl (l_toWorld_okI a0 (sm_mono (n := 1048576) (by decide) (by simp (maxDischargeDepth := 12) [u0, l_toArchive_id, l_toArchiveS_id, l_toAuthority_id, l_toAuthorityS_id, l_toCert_id, l_toCertS_id, l_toDocument_id, l_toFrame_id, l_toIntS_id, l_toItem_id, l_toItemS_id, l_toKey_id, l_toKeyS_id, l_toMethod_id, l_toMethodS_id, l_toPiece_id, l_toPieceS_id, l_toRenewal_id, l_toRenewalS_id, l_toSignature_id, l_toStamp_id, l_toStampS_id, l_toStep_id, l_toStepS_id, l_toStrand_id, l_toStringS_id, l_toWorld_id]))) (by simp) (by simp) (by simp) (by simp) ?_
    simp
    refine callD [] rfl rfl rfl rfl (i_FalseAuthorities_ok a0 (sm_mono (n := 1048576) (by decide) (by simp (maxDischargeDepth := 12) [u0, l_toArchive_id, l_toArchiveS_id, l_toAuthority_id, l_toAuthorityS_id, l_toCert_id, l_toCertS_id, l_toDocument_id, l_toFrame_id, l_toIntS_id, l_toItem_id, l_toItemS_id, l_toKey_id, l_toKeyS_id, l_toMethod_id, l_toMethodS_id, l_toPiece_id, l_toPieceS_id, l_toRenewal_id, l_toRenewalS_id, l_toSignature_id, l_toStamp_id, l_toStampS_id, l_toStep_id, l_toStepS_id, l_toStrand_id, l_toStringS_id, l_toWorld_id]))) (by simp) (by simp) (by simp) (by simp) ?_
    simp
    refine callRd rfl rfl rfl rfl (l_eqIntS_ok (i_FalseAuthorities a0) (s_FalseAuthorities a0)) (by simp) (by simp) (by simp) ?_
    simp
    refine condR (c := (!(l_eqIntS (i_FalseAuthorities a0) (s_FalseAuthorities a0)))) (by simp) (fun k2 h2 => ?_) (fun k2 h2 => ?_)
    · have q2 := h2; try simp at q2
      simp
      refine retRd (rv := [.tmp 2]) rfl ?_
      have f2 := l_FnExactFalseAuthorities.eq_1 a0
      simp only [h1, h2, cond_true, cond_false] at f2
      simp [f2]
    · have q2 := h2; try simp at q2
      simp
      refine okD fun k3 => ?_
      refine drawI mixed (by kernel_rfl) (by kernel_rfl) ?_
      simp
      refine callRd rfl rfl rfl rfl (SoundD.rd (l_toWorld_okI a0 (sm_mono (n := 1048576) (by decide) (by simp (maxDischargeDepth := 12) [u0, l_toArchive_id, l_toArchiveS_id, l_toAuthority_id, l_toAuthorityS_id, l_toCert_id, l_toCertS_id, l_toDocument_id, l_toFrame_id, l_toIntS_id, l_toItem_id, l_toItemS_id, l_toKey_id, l_toKeyS_id, l_toMethod_id, l_toMethodS_id, l_toPiece_id, l_toPieceS_id, l_toRenewal_id, l_toRenewalS_id, l_toSignature_id, l_toStamp_id, l_toStampS_id, l_toStep_id, l_toStepS_id, l_toStrand_id, l_toStringS_id, l_toWorld_id])))) (by simp) (by simp) (by simp) ?_
      simp
      refine callRd rfl rfl rfl rfl (l_eqWorld_ok a0 a0) (by simp) (by simp) (by simp) ?_
      simp
      refine condR (c := (!(l_eqWorld a0 a0))) (by simp) (fun k4 h3 => ?_) (fun k4 h3 => ?_)
      · have q3 := h3; try simp at q3
        simp
        refine retRd (rv := [.tmp 2]) rfl ?_
        have f3 := l_FnExactFalseAuthorities.eq_1 a0
        simp only [h1, h2, h3, cond_true, cond_false] at f3
        simp [f3]
      · have q3 := h3; try simp at q3
        simp
        refine callMO (ats := [.sref 20 0 0 a0.Frame.Keys.length, .sref 20 1 0 a0.Frame.Authorities.length, .sref 20 2 0 a0.Frame.Methods.length, .d (.int .i64 a0.Frame.Liars), .d (.int .i64 a0.Frame.Now), .sref 20 5 0 a0.Certs.length, .sref 20 6 0 a0.Ended.length, .sref 20 7 0 a0.Archives.length, .sref 20 8 0 a0.Seqs.length, .sref 20 9 0 a0.Lying.length, .d (.int .i64 a0.Next), .sref 20 11 0 a0.Forged.length]) rfl rfl rfl rfl rfl rfl rfl (l_markWorld_ok a0 1) (by simp) (by simp) (by simp) (by simp) (by simp) (by simp) (by simp) (by simp) (by simp) ?_
        simp
        refine callG rfl rfl rfl rfl rfl rfl (fun gg => (l_eqIntS_ok (i_FalseAuthorities a0) (s_FalseAuthorities a0))) (by simp) (by simp) (by simp) (by simp) ?_
        simp
        refine condR (c := ((decide ((l_markWorld a0 1).2 < 0)) || (!(l_eqIntS (i_FalseAuthorities a0) (s_FalseAuthorities a0))))) (by simp) (fun k5 h4 => ?_) (fun k5 h4 => ?_)
        · have q4 := h4; try simp at q4
          have h4s := h4; try simp only [h2] at h4s
          simp
          refine retRd (rv := [.tmp 2]) rfl ?_
          have f4 := l_FnExactFalseAuthorities.eq_1 a0
          simp only [h1, h2, h3, h4, h4s, cond_true, cond_false] at f4
          simp [f4]
        · have q4 := h4; try simp at q4
          have h4s := h4; try simp only [h2] at h4s
          simp
          refine callMO (ats := [.sref 22 0 0 (i_FalseAuthorities a0).length]) rfl rfl rfl rfl rfl rfl rfl (l_markIntS_ok (i_FalseAuthorities a0) 1) (by simp) (by simp) (by simp) (by simp) (by simp) (by simp) (by simp) (by simp) (by simp) ?_
          simp
          refine callRd rfl rfl rfl rfl (l_heldIntS_ok (l_markIntS (i_FalseAuthorities a0) 1).1 1) (by simp) (by simp) (by simp) ?_
          simp
          refine condR (c := (decide ((l_heldIntS (l_markIntS (i_FalseAuthorities a0) 1).1 1) < 0))) (by simp) (fun k6 h5 => ?_) (fun k6 h5 => ?_)
          · have q5 := h5; try simp at q5
            simp
            refine retRd (rv := [.tmp 2]) rfl ?_
            have f5 := l_FnExactFalseAuthorities.eq_1 a0
            simp only [h1, h2, h3, h4, h4s, h5, cond_true, cond_false] at f5
            simp [f5]
          · have q5 := h5; try simp at q5
            simp
            refine condR (c := ((l_heldIntS (l_markIntS (i_FalseAuthorities a0) 1).1 1) != (l_markIntS (i_FalseAuthorities a0) 1).2)) (by simp) (fun k7 h6 => ?_) (fun k7 h6 => ?_)
            · have q6 := h6; try simp at q6
              simp
              refine retRd (rv := [.tmp 2]) rfl ?_
              have f6 := l_FnExactFalseAuthorities.eq_1 a0
              simp only [h1, h2, h3, h4, h4s, h5, h6, cond_true, cond_false] at f6
              simp [f6]
            · have q6 := h6; try simp at q6
              simp
              refine callRd rfl rfl rfl rfl (SoundD.rd (l_toWorld_okI a0 (sm_mono (n := 1048576) (by decide) (by simp (maxDischargeDepth := 12) [u0, l_toArchive_id, l_toArchiveS_id, l_toAuthority_id, l_toAuthorityS_id, l_toCert_id, l_toCertS_id, l_toDocument_id, l_toFrame_id, l_toIntS_id, l_toItem_id, l_toItemS_id, l_toKey_id, l_toKeyS_id, l_toMethod_id, l_toMethodS_id, l_toPiece_id, l_toPieceS_id, l_toRenewal_id, l_toRenewalS_id, l_toSignature_id, l_toStamp_id, l_toStampS_id, l_toStep_id, l_toStepS_id, l_toStrand_id, l_toStringS_id, l_toWorld_id])))) (by simp) (by simp) (by simp) ?_
              simp
              refine callRd rfl rfl rfl rfl (SoundD.rd (i_FalseAuthorities_ok a0 (sm_mono (n := 1048576) (by decide) (by simp (maxDischargeDepth := 12) [u0, l_toArchive_id, l_toArchiveS_id, l_toAuthority_id, l_toAuthorityS_id, l_toCert_id, l_toCertS_id, l_toDocument_id, l_toFrame_id, l_toIntS_id, l_toItem_id, l_toItemS_id, l_toKey_id, l_toKeyS_id, l_toMethod_id, l_toMethodS_id, l_toPiece_id, l_toPieceS_id, l_toRenewal_id, l_toRenewalS_id, l_toSignature_id, l_toStamp_id, l_toStampS_id, l_toStep_id, l_toStepS_id, l_toStrand_id, l_toStringS_id, l_toWorld_id])))) (by simp) (by simp) (by simp) ?_
              simp
              refine callRd rfl rfl rfl rfl (l_eqIntS_ok (i_FalseAuthorities a0) (s_FalseAuthorities a0)) (by simp) (by simp) (by simp) ?_
              simp
              refine condR (c := (!(l_eqIntS (i_FalseAuthorities a0) (s_FalseAuthorities a0)))) (by simp) (fun k8 h7 => ?_) (fun k8 h7 => ?_)
              · have q7 := h7; try simp at q7
                exact absurd (h2.symm.trans h7) (by decide)
              · have q7 := h7; try simp at q7
                simp
                refine callRd rfl rfl rfl rfl (l_heldIntS_ok (l_markIntS (i_FalseAuthorities a0) 1).1 1) (by simp) (by simp) (by simp) ?_
                simp
                refine condR (c := (decide ((l_heldIntS (l_markIntS (i_FalseAuthorities a0) 1).1 1) < 0))) (by simp) (fun k9 h8 => ?_) (fun k9 h8 => ?_)
                · have q8 := h8; try simp at q8
                  exact absurd (h5.symm.trans h8) (by decide)
                · have q8 := h8; try simp at q8
                  simp
                  refine condR (c := ((l_heldIntS (l_markIntS (i_FalseAuthorities a0) 1).1 1) != (l_markIntS (i_FalseAuthorities a0) 1).2)) (by simp) (fun k10 h9 => ?_) (fun k10 h9 => ?_)
                  · have q9 := h9; try simp at q9
                    exact absurd (h6.symm.trans h9) (by decide)
                  · have q9 := h9; try simp at q9
                    simp
                    refine retRd (rv := [.tmp 2]) rfl ?_
                    have f10 := l_FnExactFalseAuthorities.eq_1 a0
                    simp only [h1, h2, h3, h4, h4s, h5, h6, h7, h8, h9, cond_true, cond_false] at f10
                    simp [f10]
theorem s_l33Frame_ok (a0 : TFrame) (u0 : Sm 2342912 a0) : SoundD Tryz.prog 128 [a0.row] [(s_l33Frame a0).row] := by
  refine sound_ofD Tryz.func128 rfl (by kernel_rfl) ?_
  have c1 : a0.Keys.length ≤ 2342912 := sm_len (by simp (maxDischargeDepth := 12) [u0])
  have c2 : a0.Authorities.length ≤ 2342912 := sm_len (by simp (maxDischargeDepth := 12) [u0])
  have c3 : a0.Methods.length ≤ 2342912 := sm_len (by simp (maxDischargeDepth := 12) [u0])
  simp [Tryz.ntmps128]
  repeat ((with_reducible refine And.intro ?_ ?_); focus (intros; omega))
  refine retD (rv := [.cell 2 38]) rfl ?_
  have f1 := s_l33Frame.eq_1 a0
  simp [f1]
theorem s_l33Frame_okI (a0 : TFrame) (u0 : Sm 2342912 a0) : SoundD Tryz.prog 128 [a0.row] [a0.row] := by
  have h := s_l33Frame_ok a0 u0
  rwa [s_l33Frame_id] at h
theorem s_l6Copy_ok (a0 : TDocument) (u0 : Sm 2342912 a0) : SoundD Tryz.prog 154 [a0.row] [(s_l6Copy a0).row] := by
  refine sound_ofD Tryz.func154 rfl (by kernel_rfl) ?_
  simp [Tryz.ntmps154]
  refine okD fun k1 => ?_
  refine drawP [2, 3, 4, 5, 6, 7, 8, 9, 0, 1, 10, 11] mixed (by kernel_rfl) (by kernel_rfl) (by kernel_rfl) ?_
  have c1 : a0.Parts.length ≤ 2342912 := sm_len (by simp (maxDischargeDepth := 12) [u0])
  have c2 : a0.Salts.length ≤ 2342912 := sm_len (by simp (maxDischargeDepth := 12) [u0])
  simp
  repeat ((with_reducible refine And.intro ?_ ?_); focus (intros; omega))
  refine retD (rv := [.cell 2 59]) rfl ?_
  have f1 := s_l6Copy.eq_1 a0
  simp [f1]
theorem s_l6Copy_okI (a0 : TDocument) (u0 : Sm 2342912 a0) : SoundD Tryz.prog 154 [a0.row] [a0.row] := by
  have h := s_l6Copy_ok a0 u0
  rwa [s_l6Copy_id] at h
theorem s_l18Copy_ok (a0 : TPiece) (u0 : Sm 2342912 a0) : SoundD Tryz.prog 204 [a0.row] [(s_l18Copy a0).row] := by
  refine sound_ofD Tryz.func204 rfl (by kernel_rfl) ?_
  simp [Tryz.ntmps204]
  refine okD fun k1 => ?_
  refine drawP [2, 3, 4, 5, 0, 1, 6, 7, 8, 9] mixed (by kernel_rfl) (by kernel_rfl) (by kernel_rfl) ?_
  have c1 : a0.Ints.length ≤ 2342912 := sm_len (by simp (maxDischargeDepth := 12) [u0])
  simp
  repeat ((with_reducible refine And.intro ?_ ?_); focus (intros; omega))
  refine retD (rv := [.cell 2 110]) rfl ?_
  have f1 := s_l18Copy.eq_1 a0
  simp [f1]
theorem s_l18Copy_okI (a0 : TPiece) (u0 : Sm 2342912 a0) : SoundD Tryz.prog 204 [a0.row] [a0.row] := by
  have h := s_l18Copy_ok a0 u0
  rwa [s_l18Copy_id] at h
theorem s_l18All_ok (a0 : List TPiece) (u0 : Sm 2338816 a0) : SoundAt Tryz.prog 246 true [[.sl 3 (a0.map TPiece.row)]] [[.sl 3 ((s_l18All a0).map TPiece.row)]] := by
  refine sound_of Tryz.func246 rfl (by kernel_rfl) ?_
  simp [Tryz.ntmps246]
  refine evI rfl rfl rfl ?_
  simp
  refine okL fun k1 => ?_
  refine loopI (ι := { s : Nat × (List TPiece) × Nat // s_l18All_1 a0 s.1 s.2.1 s.2.2 = s_l18All_1 a0 (a0.length + 1) ([] : List TPiece) 0 ∧ (1 ≤ s.1 ∧ a0.length < s.1 + s.2.2 ∧ s.2.2 ≤ a0.length ∧ s.2.1.length ≤ 0 + 1 * s.2.2) }) (fun s => stOf 21 [(0, .one (.d (.sl 3 (a0.map TPiece.row))), []), (3, .one (.sref 3 0 0 s.1.2.1.length), [.arr false 3 (s.1.2.1.map TPiece.row)]), (4, .one (.d (.int .i64 (↑s.1.2.2 : Int))), [])]) (fun s => s.1.1) ⟨((a0.length + 1), ([] : List TPiece), 0), rfl, by first | omega | (dsimp only; omega) | simp⟩ (wk_of [((3, 0), some (5, 0))] [] rfl (by simp)) ?_
  rintro ⟨⟨n1, v1_0, v1_1⟩, e1, j1⟩
  try dsimp only at e1 j1
  obtain ⟨p1, rfl⟩ : ∃ p, n1 = p + 1 := ⟨n1 - 1, by omega⟩
  simp
  refine condR (c := (decide ((↑v1_1 : Int) < (↑a0.length : Int)))) (by simp) (fun k2 h1 => ?_) (fun k2 h1 => ?_)
  · have q1 := h1; try simp at q1
    have i1 : v1_1 < a0.length := by simpa using h1
    have m2 : a0.length ≤ 9223372036854775807 := by simpa using k2 0 _ rfl
    have c1 : a0.length ≤ 2338816 := sm_len (by simp (maxDischargeDepth := 12) [u0])
    have w1 : IntKind.i64.wrap ((v1_1 : Int) + 1) = (v1_1 : Int) + 1 := wrap_of (by omega) (by omega)
    simp [i1, rowAt_map]
    repeat ((with_reducible refine And.intro ?_ ?_); focus (intros; omega))
    refine callRd rfl rfl rfl rfl (SoundD.rd (s_l18Copy_okI (nth a0 v1_1) (sm_mono (n := 2338816) (by decide) (by simp (maxDischargeDepth := 12) [u0])))) (by simp) (by simp) (by simp) ?_
    simp
    refine evI rfl rfl rfl ?_
    simp
    refine evI rfl rfl rfl ?_
    simp
    repeat ((with_reducible refine And.intro ?_ ?_); focus (intros; omega))
    refine nxtI ⟨(p1, (v1_0 ++ ([(nth a0 v1_1)] : List TPiece)), (v1_1 + 1)), ?_, ?_⟩ (by simp) (wk_of [((3, 0), some (19, 0))] [] rfl (by simp [w1]))
    · rw [← e1]; simp only [s_l18All_1, h1, cond_true, cond_false]
    · first | omega | (simp at *; omega)
  · have q1 := h1; try simp at q1
    have c2 : a0.length ≤ 2338816 := sm_len (by simp (maxDischargeDepth := 12) [u0])
    have x1 : s_l18All_1 a0 (a0.length + 1) ([] : List TPiece) 0 = v1_0 := by rw [← e1]; simp only [s_l18All_1, h1, cond_true, cond_false]
    simp
    refine retOwn (rv := [.tmp 2]) rfl ?_
    have f1 := s_l18All.eq_1 a0
    simp only [x1, cond_true, cond_false] at f1
    simp [f1]
theorem s_l18All_okI (a0 : List TPiece) (u0 : Sm 2338816 a0) : SoundAt Tryz.prog 246 true [[.sl 3 (a0.map TPiece.row)]] [[.sl 3 (a0.map TPiece.row)]] := by
  have h := s_l18All_ok a0 u0
  rwa [s_l18All_id] at h
theorem s_l19Copy_ok (a0 : TRenewal) (u0 : Sm 2342912 a0) : SoundD Tryz.prog 231 [a0.row] [(s_l19Copy a0).row] := by
  refine sound_ofD Tryz.func231 rfl (by kernel_rfl) ?_
  have c1 : a0.Path.length ≤ 2342912 := sm_len (by simp (maxDischargeDepth := 12) [u0])
  have c2 : a0.Stamps.length ≤ 2342912 := sm_len (by simp (maxDischargeDepth := 12) [u0])
  simp [Tryz.ntmps231]
  repeat ((with_reducible refine And.intro ?_ ?_); focus (intros; omega))
  refine retD (rv := [.cell 2 196]) rfl ?_
  have f1 := s_l19Copy.eq_1 a0
  simp [f1]
theorem s_l19Copy_okI (a0 : TRenewal) (u0 : Sm 2342912 a0) : SoundD Tryz.prog 231 [a0.row] [a0.row] := by
  have h := s_l19Copy_ok a0 u0
  rwa [s_l19Copy_id] at h
theorem s_l20Copy_ok (a0 : TStrand) (u0 : Sm 2334720 a0) : SoundAt Tryz.prog 200 true [a0.row] [(s_l20Copy a0).row] := by
  refine sound_of Tryz.func200 rfl (by kernel_rfl) ?_
  simp [Tryz.ntmps200]
  refine callOwn rfl rfl rfl rfl (s_l18All_okI a0.Pieces (sm_mono (n := 2334720) (by decide) (by simp (maxDischargeDepth := 12) [u0]))) (by simp) (by simp) (by simp) (by simp) ?_
  simp
  refine okL fun k1 => ?_
  refine loopI (ι := { s : Nat × Nat × (List TRenewal) // s_l20Copy_1 a0 s.1 s.2.1 s.2.2 = s_l20Copy_1 a0 (a0.Chain.length + 1) 0 ([] : List TRenewal) ∧ (1 ≤ s.1 ∧ a0.Chain.length < s.1 + s.2.1 ∧ s.2.1 ≤ a0.Chain.length ∧ s.2.2.length ≤ 0 + 1 * s.2.1) }) (fun s => stOf 28 [(1, .one (.bptr 1 0), [.box [.d (.sl 3 (a0.Pieces.map TPiece.row)), .d (.sl 5 (a0.Chain.map TRenewal.row))]]), (2, .one (.bptr 2 0), [.box [.nil 3, .nil 5]]), (3, .one (.bptr 3 0), [.box [.sref 7 0 0 a0.Pieces.length, .sref 3 2 0 s.1.2.2.length], .none, .arr false 5 (s.1.2.2.map TRenewal.row)]), (4, .one (.d (.int .i64 (↑s.1.2.1 : Int))), []), (7, .any, [.arr false 3 (a0.Pieces.map TPiece.row)])]) (fun s => s.1.1) ⟨((a0.Chain.length + 1), 0, ([] : List TRenewal)), rfl, by first | omega | (dsimp only; omega) | simp⟩ (wk_of [((3, 2), none)] [] rfl (by simp)) ?_
  rintro ⟨⟨n1, v1_0, v1_1⟩, e1, j1⟩
  try dsimp only at e1 j1
  obtain ⟨p1, rfl⟩ : ∃ p, n1 = p + 1 := ⟨n1 - 1, by omega⟩
  simp
  refine condR (c := (decide ((↑v1_0 : Int) < (↑a0.Chain.length : Int)))) (by simp) (fun k2 h1 => ?_) (fun k2 h1 => ?_)
  · have q1 := h1; try simp at q1
    have i1 : v1_0 < a0.Chain.length := by simpa using h1
    have m2 : a0.Chain.length ≤ 9223372036854775807 := by simpa using k2 11 _ rfl
    have c1 : a0.Chain.length ≤ 2334720 := sm_len (by simp (maxDischargeDepth := 12) [u0])
    have w1 : IntKind.i64.wrap ((v1_0 : Int) + 1) = (v1_0 : Int) + 1 := wrap_of (by omega) (by omega)
    simp
    refine okD fun k3 => ?_
    refine drawI mixed (by kernel_rfl) (by kernel_rfl) ?_
    simp [i1, rowAt_map]
    repeat ((with_reducible refine And.intro ?_ ?_); focus (intros; omega))
    refine callRd rfl rfl rfl rfl (SoundD.rd (s_l19Copy_okI (nth a0.Chain v1_0) (sm_mono (n := 2334720) (by decide) (by simp (maxDischargeDepth := 12) [u0])))) (by simp) (by simp) (by simp) ?_
    simp
    refine evI rfl rfl rfl ?_
    simp
    refine evI rfl rfl rfl ?_
    simp
    repeat ((with_reducible refine And.intro ?_ ?_); focus (intros; omega))
    refine nxtI ⟨(p1, (v1_0 + 1), (v1_1 ++ ([(nth a0.Chain v1_0)] : List TRenewal))), ?_, ?_⟩ (by simp) (wk_of [((3, 2), some (25, 0))] [] rfl (by simp [w1]))
    · rw [← e1]; simp only [s_l20Copy_1, h1, cond_true, cond_false]
    · first | omega | (simp at *; omega)
  · have q1 := h1; try simp at q1
    have c2 : a0.Chain.length ≤ 2334720 := sm_len (by simp (maxDischargeDepth := 12) [u0])
    have x1 : s_l20Copy_1 a0 (a0.Chain.length + 1) 0 ([] : List TRenewal) = v1_1 := by rw [← e1]; simp only [s_l20Copy_1, h1, cond_true, cond_false]
    simp
    refine retOwn (rv := [.cell 2 100]) rfl ?_
    have f1 := s_l20Copy.eq_1 a0
    simp only [x1, cond_true, cond_false] at f1
    simp [f1]
theorem s_l20Copy_okI (a0 : TStrand) (u0 : Sm 2334720 a0) : SoundAt Tryz.prog 200 true [a0.row] [a0.row] := by
  have h := s_l20Copy_ok a0 u0
  rwa [s_l20Copy_id] at h
theorem s_l28Item_ok (a0 : TItem) (u0 : Sm 2330624 a0) : SoundAt Tryz.prog 137 true [a0.row] [(s_l28Item a0).row] := by
  refine sound_of Tryz.func137 rfl (by kernel_rfl) ?_
  simp [Tryz.ntmps137]
  refine callD [true, false, false] rfl rfl rfl rfl (s_l6Copy_okI a0.Doc (sm_mono (n := 2330624) (by decide) (by simp (maxDischargeDepth := 12) [u0]))) (by simp) (by simp) (by simp) (by simp) ?_
  simp
  refine callOwn rfl rfl rfl rfl (s_l20Copy_okI a0.Strand (sm_mono (n := 2330624) (by decide) (by simp (maxDischargeDepth := 12) [u0]))) (by simp) (by simp) (by simp) (by simp) ?_
  simp
  refine retOwn (rv := [.cell 2 104]) rfl ?_
  have f1 := s_l28Item.eq_1 a0
  simp [f1]
theorem s_l28Item_okI (a0 : TItem) (u0 : Sm 2330624 a0) : SoundAt Tryz.prog 137 true [a0.row] [a0.row] := by
  have h := s_l28Item_ok a0 u0
  rwa [s_l28Item_id] at h
theorem s_l28Copy_ok (a0 : TArchive) (u0 : Sm 2326528 a0) : SoundAt Tryz.prog 129 true [a0.row] [(s_l28Copy a0).row] := by
  refine sound_of Tryz.func129 rfl (by kernel_rfl) ?_
  simp [Tryz.ntmps129]
  refine okL fun k1 => ?_
  refine loopI (ι := { s : Nat × Nat × (List TItem) // s_l28Copy_1 a0 s.1 s.2.1 s.2.2 = s_l28Copy_1 a0 (a0.Items.length + 1) 0 ([] : List TItem) ∧ (1 ≤ s.1 ∧ a0.Items.length < s.1 + s.2.1 ∧ s.2.1 ≤ a0.Items.length ∧ s.2.2.length ≤ 0 + 1 * s.2.1) }) (fun s => stOf 27 [(1, .one (.bptr 1 0), [.box [.d (.int .i64 a0.Id), .d (.sl 16 (a0.Items.map TItem.row))]]), (2, .one (.bptr 2 0), [.box [.d (.int .i64 0), .nil 16]]), (3, .one (.bptr 3 0), [.box [.d (.int .i64 a0.Id), .sref 3 2 0 s.1.2.2.length], .none, .arr false 16 (s.1.2.2.map TItem.row)]), (4, .one (.d (.int .i64 (↑s.1.2.1 : Int))), [])]) (fun s => s.1.1) ⟨((a0.Items.length + 1), 0, ([] : List TItem)), rfl, by first | omega | (dsimp only; omega) | simp⟩ (wk_of [((3, 2), none)] [] rfl (by simp)) ?_
  rintro ⟨⟨n1, v1_0, v1_1⟩, e1, j1⟩
  try dsimp only at e1 j1
  obtain ⟨p1, rfl⟩ : ∃ p, n1 = p + 1 := ⟨n1 - 1, by omega⟩
  simp
  refine condR (c := (decide ((↑v1_0 : Int) < (↑a0.Items.length : Int)))) (by simp) (fun k2 h1 => ?_) (fun k2 h1 => ?_)
  · have q1 := h1; try simp at q1
    have i1 : v1_0 < a0.Items.length := by simpa using h1
    have m2 : a0.Items.length ≤ 9223372036854775807 := by simpa using k2 10 _ rfl
    have c1 : a0.Items.length ≤ 2326528 := sm_len (by simp (maxDischargeDepth := 12) [u0])
    have w1 : IntKind.i64.wrap ((v1_0 : Int) + 1) = (v1_0 : Int) + 1 := wrap_of (by omega) (by omega)
    simp
    refine okD fun k3 => ?_
    refine drawI mixed (by kernel_rfl) (by kernel_rfl) ?_
    simp [i1, rowAt_map]
    repeat ((with_reducible refine And.intro ?_ ?_); focus (intros; omega))
    refine callRd rfl rfl rfl rfl (s_l28Item_okI (nth a0.Items v1_0) (sm_mono (n := 2326528) (by decide) (by simp (maxDischargeDepth := 12) [u0]))) (by simp) (by simp) (by simp) ?_
    simp
    refine evI rfl rfl rfl ?_
    simp
    refine evI rfl rfl rfl ?_
    simp
    repeat ((with_reducible refine And.intro ?_ ?_); focus (intros; omega))
    refine nxtI ⟨(p1, (v1_0 + 1), (v1_1 ++ ([(nth a0.Items v1_0)] : List TItem))), ?_, ?_⟩ (by simp) (wk_of [((3, 2), some (24, 0))] [] rfl (by simp [w1]))
    · rw [← e1]; simp only [s_l28Copy_1, h1, cond_true, cond_false]
    · first | omega | (simp at *; omega)
  · have q1 := h1; try simp at q1
    have c2 : a0.Items.length ≤ 2326528 := sm_len (by simp (maxDischargeDepth := 12) [u0])
    have x1 : s_l28Copy_1 a0 (a0.Items.length + 1) 0 ([] : List TItem) = v1_1 := by rw [← e1]; simp only [s_l28Copy_1, h1, cond_true, cond_false]
    simp
    refine retOwn (rv := [.cell 2 92]) rfl ?_
    have f1 := s_l28Copy.eq_1 a0
    simp only [x1, cond_true, cond_false] at f1
    simp [f1]
theorem s_l28Copy_okI (a0 : TArchive) (u0 : Sm 2326528 a0) : SoundAt Tryz.prog 129 true [a0.row] [a0.row] := by
  have h := s_l28Copy_ok a0 u0
  rwa [s_l28Copy_id] at h
theorem s_l33Copy_ok (a0 : TWorld) (u0 : Sm 2322432 a0) : SoundAt Tryz.prog 63 true [a0.row] [(s_l33Copy a0).row] := by
  refine sound_of Tryz.func63 rfl (by kernel_rfl) ?_
  simp [Tryz.ntmps63]
  refine okD fun k1 => ?_
  refine drawP [0, 1, 2, 3, 4, 5, 6, 7, 8, 9, 10, 11, 12, 13, 14, 15, 16, 17, 18, 21, 22, 23, 24, 19, 20, 25, 26, 27] mixed (by kernel_rfl) (by kernel_rfl) (by kernel_rfl) ?_
  simp
  refine callD [false, false, false] rfl rfl rfl rfl (s_l33Frame_okI a0.Frame (sm_mono (n := 2322432) (by decide) (by simp (maxDischargeDepth := 12) [u0]))) (by simp) (by simp) (by simp) (by simp) ?_
  have c1 : a0.Certs.length ≤ 2322432 := sm_len (by simp (maxDischargeDepth := 12) [u0])
  have c2 : a0.Ended.length ≤ 2322432 := sm_len (by simp (maxDischargeDepth := 12) [u0])
  have c3 : a0.Seqs.length ≤ 2322432 := sm_len (by simp (maxDischargeDepth := 12) [u0])
  have c4 : a0.Lying.length ≤ 2322432 := sm_len (by simp (maxDischargeDepth := 12) [u0])
  have c5 : a0.Forged.length ≤ 2322432 := sm_len (by simp (maxDischargeDepth := 12) [u0])
  simp
  repeat ((with_reducible refine And.intro ?_ ?_); focus (intros; omega))
  refine okL fun k2 => ?_
  refine loopI (ι := { s : Nat × Nat × (List TArchive) // s_l33Copy_1 a0 s.1 s.2.1 s.2.2 = s_l33Copy_1 a0 (a0.Archives.length + 1) 0 ([] : List TArchive) ∧ (1 ≤ s.1 ∧ a0.Archives.length < s.1 + s.2.1 ∧ s.2.1 ≤ a0.Archives.length ∧ s.2.2.length ≤ 0 + 1 * s.2.1) }) (fun s => stOf 50 [(1, .one (.bptr 1 0), [.box [.d (.sl 5 (a0.Frame.Keys.map TKey.row)), .d (.sl 3 (a0.Frame.Authorities.map TAuthority.row)), .d (.sl 4 (a0.Frame.Methods.map TMethod.row)), .d (.int .i64 a0.Frame.Liars), .d (.int .i64 a0.Frame.Now), .d (.sl 7 (a0.Certs.map TCert.row)), .d (.sl 1 (a0.Ended.map iR)), .d (.sl 2 (a0.Archives.map TArchive.row)), .d (.sl 1 (a0.Seqs.map iR)), .d (.sl 1 (a0.Lying.map iR)), .d (.int .i64 a0.Next), .d (.sl 1 (a0.Forged.map iR))]]), (2, .one (.bptr 2 0), [.box [.nil 5, .nil 3, .nil 4, .d (.int .i64 0), .d (.int .i64 0), .nil 7, .nil 1, .nil 2, .nil 1, .nil 1, .d (.int .i64 0), .nil 1]]), (3, .one (.bptr 3 0), [.box [.sref 7 0 0 a0.Frame.Keys.length, .sref 7 1 0 a0.Frame.Authorities.length, .sref 7 2 0 a0.Frame.Methods.length, .d (.int .i64 a0.Frame.Liars), .d (.int .i64 a0.Frame.Now), .sref 11 0 0 a0.Certs.length, .sref 15 0 0 a0.Ended.length, .sref 3 8 0 s.1.2.2.length, .sref 19 0 0 a0.Seqs.length, .sref 23 0 0 a0.Lying.length, .d (.int .i64 a0.Next), .sref 29 0 0 a0.Forged.length], .none, .none, .none, .none, .none, .none, .none, .arr false 2 (s.1.2.2.map TArchive.row)]), (4, .one (.d (.int .i64 (↑s.1.2.1 : Int))), []), (7, .any, [.arr false 5 (a0.Frame.Keys.map TKey.row), .arr false 3 (a0.Frame.Authorities.map TAuthority.row), .arr false 4 (a0.Frame.Methods.map TMethod.row)]), (11, .any, [.arr false 7 (a0.Certs.map TCert.row)]), (15, .any, [.arr false 1 (a0.Ended.map iR)]), (19, .any, [.arr false 1 (a0.Seqs.map iR)]), (23, .any, [.arr false 1 (a0.Lying.map iR)]), (29, .any, [.arr false 1 (a0.Forged.map iR)])]) (fun s => s.1.1) ⟨((a0.Archives.length + 1), 0, ([] : List TArchive)), rfl, by first | omega | (dsimp only; omega) | simp⟩ (wk_of [((3, 8), none)] [] rfl (by simp)) ?_
  rintro ⟨⟨n1, v1_0, v1_1⟩, e1, j1⟩
  try dsimp only at e1 j1
  obtain ⟨p1, rfl⟩ : ∃ p, n1 = p + 1 := ⟨n1 - 1, by omega⟩
  simp
  refine condR (c := (decide ((↑v1_0 : Int) < (↑a0.Archives.length : Int)))) (by simp) (fun k3 h1 => ?_) (fun k3 h1 => ?_)
  · have q1 := h1; try simp at q1
    have i1 : v1_0 < a0.Archives.length := by simpa using h1
    have m2 : a0.Archives.length ≤ 9223372036854775807 := by simpa using k3 33 _ rfl
    have c6 : a0.Archives.length ≤ 2322432 := sm_len (by simp (maxDischargeDepth := 12) [u0])
    have w1 : IntKind.i64.wrap ((v1_0 : Int) + 1) = (v1_0 : Int) + 1 := wrap_of (by omega) (by omega)
    simp
    refine okD fun k4 => ?_
    refine drawI mixed (by kernel_rfl) (by kernel_rfl) ?_
    simp [i1, rowAt_map]
    repeat ((with_reducible refine And.intro ?_ ?_); focus (intros; omega))
    refine callRd rfl rfl rfl rfl (s_l28Copy_okI (nth a0.Archives v1_0) (sm_mono (n := 2322432) (by decide) (by simp (maxDischargeDepth := 12) [u0]))) (by simp) (by simp) (by simp) ?_
    simp
    refine evI rfl rfl rfl ?_
    simp
    refine evI rfl rfl rfl ?_
    simp
    repeat ((with_reducible refine And.intro ?_ ?_); focus (intros; omega))
    refine nxtI ⟨(p1, (v1_0 + 1), (v1_1 ++ ([(nth a0.Archives v1_0)] : List TArchive))), ?_, ?_⟩ (by simp) (wk_of [((3, 8), some (47, 0))] [] rfl (by simp [w1]))
    · rw [← e1]; simp only [s_l33Copy_1, h1, cond_true, cond_false]
    · first | omega | (simp at *; omega)
  · have q1 := h1; try simp at q1
    have c7 : a0.Archives.length ≤ 2322432 := sm_len (by simp (maxDischargeDepth := 12) [u0])
    have x1 : s_l33Copy_1 a0 (a0.Archives.length + 1) 0 ([] : List TArchive) = v1_1 := by rw [← e1]; simp only [s_l33Copy_1, h1, cond_true, cond_false]
    simp
    refine retOwn (rv := [.cell 2 42]) rfl ?_
    have f1 := s_l33Copy.eq_1 a0
    simp only [x1, cond_true, cond_false] at f1
    simp [f1]
theorem s_l33Copy_okI (a0 : TWorld) (u0 : Sm 2322432 a0) : SoundAt Tryz.prog 63 true [a0.row] [a0.row] := by
  have h := s_l33Copy_ok a0 u0
  rwa [s_l33Copy_id] at h
theorem s_l1In_ok (a0 : Int) (a1 : Int) (a2 : Int) : SoundAt Tryz.prog 64 false [[.int .i64 a0], [.int .i64 a1], [.int .i64 a2]] [[.bool (s_l1In a0 a1 a2)]] := by
  refine sound_of Tryz.func64 rfl (by kernel_rfl) ?_
  simp [Tryz.ntmps64]
  refine retRd (rv := [.tmp 6]) rfl ?_
  have f1 := s_l1In.eq_1 a0 a1 a2
  simp [f1]
theorem s_StepRevoke_ok (a0 : TWorld) (a1 : Int) (u0 : Sm 2318336 a0) : SoundAt Tryz.prog 22 true [a0.row, [.int .i64 a1]] [(s_StepRevoke a0 a1).1.row, [.bool (s_StepRevoke a0 a1).2]] := by
  refine sound_of Tryz.func22 rfl (by kernel_rfl) ?_
  simp [Tryz.ntmps22]
  refine callOwn rfl rfl rfl rfl (s_l33Copy_okI a0 (sm_mono (n := 2318336) (by decide) (by simp (maxDischargeDepth := 12) [u0]))) (by simp) (by simp) (by simp) (by simp) ?_
  simp
  refine callRd rfl rfl rfl rfl (s_l1In_ok a1 0 (W ((↑a0.Ended.length : Int) - 1))) (by simp) (by simp) (by simp) ?_
  simp
  refine guardI rfl rfl rfl rfl rfl (by simp) (fun g1 => ?_) (fun g1 => ?_)
  · have g1x := g1; try simp only [beq_true, beq_false, Bool.not_eq_true', Bool.not_eq_false', Bool.true_and, Bool.and_true] at g1x
    have c1 : a0.Ended.length ≤ 2318336 := sm_len (by simp (maxDischargeDepth := 12) [u0])
    have w1 : IntKind.i64.wrap ((a0.Ended.length : Int) - 1) = (a0.Ended.length : Int) - 1 := wrap_of (by omega) (by omega)
    try simp [s_l1In, w1] at g1
    have i1 : a1.toNat < a0.Ended.length := by omega
    simp [i1, rowAt_map, g1x]
    repeat ((with_reducible refine And.intro ?_ ?_); focus (intros; first | omega | (simp_all; done) | (simp_all; omega) | grind))
    refine condR (c := ((!(s_l1In a1 0 (W ((↑a0.Ended.length : Int) - 1)))) || ((nth a0.Ended a1.toNat) != (-1)))) (by first | (simp [g1x]; done) | grind) (fun k1 h1 => ?_) (fun k1 h1 => ?_)
    · try (have z := h1; simp [g1x] at z; done)
      all_goals
        have q1 := h1; try simp [s_l1In, w1] at q1
        simp [g1x]
        repeat ((with_reducible refine And.intro ?_ ?_); focus (intros; first | omega | (simp_all; done) | (simp_all; omega) | grind))
        refine retOwn (rv := [.cell 4 42, .tmp 5]) rfl ?_
        have f1 := s_StepRevoke.eq_1 a0 a1
        simp only [h1, cond_true, cond_false] at f1
        simp [f1, g1x]
    · try (have z := h1; simp [g1x] at z; done)
      all_goals
        have q1 := h1; try simp [s_l1In, w1] at q1
        simp [i1, rowAt_map, set_map (x := (W (a0.Frame.Now + 1))) rfl, g1x]
        repeat ((with_reducible refine And.intro ?_ ?_); focus (intros; first | omega | (simp_all; done) | (simp_all; omega) | grind))
        refine retOwn (rv := [.cell 4 42, .tmp 5]) rfl ?_
        have f2 := s_StepRevoke.eq_1 a0 a1
        simp only [h1, cond_true, cond_false] at f2
        simp [f2, g1x]
  · have g1x := g1; try simp only [beq_true, beq_false, Bool.not_eq_true', Bool.not_eq_false', Bool.true_and, Bool.and_true] at g1x
    simp [g1x]
    repeat ((with_reducible refine And.intro ?_ ?_); focus (intros; first | omega | (simp_all; done) | (simp_all; omega) | grind))
    have c2 : a0.Ended.length ≤ 2318336 := sm_len (by simp (maxDischargeDepth := 12) [u0])
    have w2 : IntKind.i64.wrap ((a0.Ended.length : Int) - 1) = (a0.Ended.length : Int) - 1 := wrap_of (by omega) (by omega)
    refine condR (c := ((!(s_l1In a1 0 (W ((↑a0.Ended.length : Int) - 1)))) || ((nth a0.Ended a1.toNat) != (-1)))) (by first | (simp [g1x]; done) | grind) (fun k2 h2 => ?_) (fun k2 h2 => ?_)
    · try (have z := h2; simp [g1x] at z; done)
      all_goals
        have q2 := h2; try simp [s_l1In, w2] at q2
        simp [g1x]
        repeat ((with_reducible refine And.intro ?_ ?_); focus (intros; first | omega | (simp_all; done) | (simp_all; omega) | grind))
        refine retOwn (rv := [.cell 4 42, .tmp 5]) rfl ?_
        have f3 := s_StepRevoke.eq_1 a0 a1
        simp only [h2, cond_true, cond_false] at f3
        simp [f3, g1x]
    · try (have z := h2; simp [g1x] at z; done)
      all_goals
        have q2 := h2; try simp [s_l1In, w2] at q2
        have i3 : a1.toNat < a0.Ended.length := by omega
        simp [i3, rowAt_map, set_map (x := (W (a0.Frame.Now + 1))) rfl, g1x]
        repeat ((with_reducible refine And.intro ?_ ?_); focus (intros; first | omega | (simp_all; done) | (simp_all; omega) | grind))
        refine retOwn (rv := [.cell 4 42, .tmp 5]) rfl ?_
        have f4 := s_StepRevoke.eq_1 a0 a1
        simp only [h2, cond_true, cond_false] at f4
        simp [f4, g1x]
theorem i_copyFrame_ok (a0 : TFrame) (u0 : Sm 2342912 a0) : SoundD Tryz.prog 130 [a0.row] [(i_copyFrame a0).row] := by
  refine sound_ofD Tryz.func130 rfl (by kernel_rfl) ?_
  have c1 : a0.Keys.length ≤ 2342912 := sm_len (by simp (maxDischargeDepth := 12) [u0])
  have c2 : a0.Authorities.length ≤ 2342912 := sm_len (by simp (maxDischargeDepth := 12) [u0])
  have c3 : a0.Methods.length ≤ 2342912 := sm_len (by simp (maxDischargeDepth := 12) [u0])
  simp [Tryz.ntmps130]
  repeat ((with_reducible refine And.intro ?_ ?_); focus (intros; omega))
  refine retD (rv := [.cell 2 38]) rfl ?_
  have f1 := i_copyFrame.eq_1 a0
  simp [f1]
theorem i_copyFrame_okI (a0 : TFrame) (u0 : Sm 2342912 a0) : SoundD Tryz.prog 130 [a0.row] [a0.row] := by
  have h := i_copyFrame_ok a0 u0
  rwa [i_copyFrame_id] at h
theorem i_copyInts_ok (a0 : List Int) (u0 : Sm 2342912 a0) : SoundD Tryz.prog 131 [[.sl 1 (a0.map iR)]] [[.sl 1 ((i_copyInts a0).map iR)]] := by
  refine sound_ofD Tryz.func131 rfl (by kernel_rfl) ?_
  have c1 : a0.length ≤ 2342912 := sm_len (by simp (maxDischargeDepth := 12) [u0])
  simp [Tryz.ntmps131]
  repeat ((with_reducible refine And.intro ?_ ?_); focus (intros; omega))
  refine retD (rv := [.tmp 2]) rfl ?_
  have f1 := i_copyInts.eq_1 a0
  simp [f1]
theorem i_copyInts_okI (a0 : List Int) (u0 : Sm 2342912 a0) : SoundD Tryz.prog 131 [[.sl 1 (a0.map iR)]] [[.sl 1 (a0.map iR)]] := by
  have h := i_copyInts_ok a0 u0
  rwa [i_copyInts_id] at h
theorem i_copyDocument_ok (a0 : TDocument) (u0 : Sm 2338816 a0) : SoundD Tryz.prog 201 [a0.row] [(i_copyDocument a0).row] := by
  refine sound_ofD Tryz.func201 rfl (by kernel_rfl) ?_
  simp [Tryz.ntmps201]
  refine okD fun k1 => ?_
  refine drawP [2, 3, 4, 5, 0, 1, 6, 7, 8, 9, 10] mixed (by kernel_rfl) (by kernel_rfl) (by kernel_rfl) ?_
  have c1 : a0.Parts.length ≤ 2338816 := sm_len (by simp (maxDischargeDepth := 12) [u0])
  simp
  repeat ((with_reducible refine And.intro ?_ ?_); focus (intros; omega))
  refine callD [false] rfl rfl rfl rfl (i_copyInts_okI a0.Salts (sm_mono (n := 2338816) (by decide) (by simp (maxDischargeDepth := 12) [u0]))) (by simp) (by simp) (by simp) (by simp) ?_
  simp
  refine retD (rv := [.cell 2 59]) rfl ?_
  have f1 := i_copyDocument.eq_1 a0
  simp [f1]
theorem i_copyDocument_okI (a0 : TDocument) (u0 : Sm 2338816 a0) : SoundD Tryz.prog 201 [a0.row] [a0.row] := by
  have h := i_copyDocument_ok a0 u0
  rwa [i_copyDocument_id] at h
theorem i_copyPiece_ok (a0 : TPiece) (u0 : Sm 2338816 a0) : SoundD Tryz.prog 250 [a0.row] [(i_copyPiece a0).row] := by
  refine sound_ofD Tryz.func250 rfl (by kernel_rfl) ?_
  simp [Tryz.ntmps250]
  refine callD [false] rfl rfl rfl rfl (i_copyInts_okI a0.Ints (sm_mono (n := 2338816) (by decide) (by simp (maxDischargeDepth := 12) [u0]))) (by simp) (by simp) (by simp) (by simp) ?_
  simp
  refine retD (rv := [.cell 2 110]) rfl ?_
  have f1 := i_copyPiece.eq_1 a0
  simp [f1]
theorem i_copyPiece_okI (a0 : TPiece) (u0 : Sm 2338816 a0) : SoundD Tryz.prog 250 [a0.row] [a0.row] := by
  have h := i_copyPiece_ok a0 u0
  rwa [i_copyPiece_id] at h
theorem i_copyPieces_ok (a0 : List TPiece) (u0 : Sm 2334720 a0) : SoundD Tryz.prog 247 [[.sl 3 (a0.map TPiece.row)]] [[.sl 3 ((i_copyPieces a0).map TPiece.row)]] := by
  refine sound_ofD Tryz.func247 rfl (by kernel_rfl) ?_
  simp [Tryz.ntmps247]
  refine okL fun k1 => ?_
  refine loopI (ι := { s : Nat × (List TPiece) × Nat // i_copyPieces_1 a0 s.1 s.2.1 s.2.2 = i_copyPieces_1 a0 (a0.length + 1) ([] : List TPiece) 0 ∧ (1 ≤ s.1 ∧ a0.length < s.1 + s.2.2 ∧ s.2.2 ≤ a0.length ∧ s.2.1.length ≤ 0 + 1 * s.2.2) }) (fun s => stOf 19 [(3, .one (.sref 3 0 0 s.1.2.1.length), [.arr true 3 (s.1.2.1.map TPiece.row)]), (6, .one (.d (.sl 3 (a0.map TPiece.row))), []), (7, .one (.d (.int .i64 (↑a0.length : Int))), []), (8, .one (.d (.int .i64 (↑s.1.2.2 : Int))), [])]) (fun s => s.1.1) ⟨((a0.length + 1), ([] : List TPiece), 0), rfl, by first | omega | (dsimp only; omega) | simp⟩ (wk_of [((3, 0), none)] [] rfl (by simp)) ?_
  rintro ⟨⟨n1, v1_0, v1_1⟩, e1, j1⟩
  try dsimp only at e1 j1
  obtain ⟨p1, rfl⟩ : ∃ p, n1 = p + 1 := ⟨n1 - 1, by omega⟩
  simp
  refine condR (c := (decide ((↑v1_1 : Int) < (↑a0.length : Int)))) (by simp) (fun k2 h1 => ?_) (fun k2 h1 => ?_)
  · have q1 := h1; try simp at q1
    have i1 : v1_1 < a0.length := by simpa using h1
    have m2 : a0.length ≤ 9223372036854775807 := by simpa using k2 6 _ rfl
    have c1 : a0.length ≤ 2334720 := sm_len (by simp (maxDischargeDepth := 12) [u0])
    have w1 : IntKind.i64.wrap ((v1_1 : Int) + 1) = (v1_1 : Int) + 1 := wrap_of (by omega) (by omega)
    simp [i1, rowAt_map]
    repeat ((with_reducible refine And.intro ?_ ?_); focus (intros; omega))
    refine callD [true, false] rfl rfl rfl rfl (i_copyPiece_okI (nth a0 v1_1) (sm_mono (n := 2334720) (by decide) (by simp (maxDischargeDepth := 12) [u0]))) (by simp) (by simp) (by simp) (by simp) ?_
    simp
    refine litI rfl rfl rfl (by simp) (by simp) (by simp) ?_
    simp
    refine apDI (olds := (v1_0.map TPiece.row)) (news := (([(nth a0 v1_1)] : List TPiece).map TPiece.row)) (l1 := [(3, 0)]) (l2 := [(14, 1)]) (size := 3) rfl rfl rfl rfl (by simp) (by simp) (by simp) (by simp) (by simp) (by simp; omega) ?_
    simp
    refine nxtI ⟨(p1, (v1_0 ++ ([(nth a0 v1_1)] : List TPiece)), (v1_1 + 1)), ?_, ?_⟩ (by simp) (wk_of [((3, 0), some (16, 0))] [] rfl (by simp [w1]))
    · rw [← e1]; simp only [i_copyPieces_1, h1, cond_true, cond_false]
    · first | omega | (simp at *; omega)
  · have q1 := h1; try simp at q1
    have c2 : a0.length ≤ 2334720 := sm_len (by simp (maxDischargeDepth := 12) [u0])
    have x1 : i_copyPieces_1 a0 (a0.length + 1) ([] : List TPiece) 0 = v1_0 := by rw [← e1]; simp only [i_copyPieces_1, h1, cond_true, cond_false]
    simp
    refine retD (rv := [.tmp 2]) rfl ?_
    have f1 := i_copyPieces.eq_1 a0
    simp only [x1, cond_true, cond_false] at f1
    simp [f1]
theorem i_copyPieces_okI (a0 : List TPiece) (u0 : Sm 2334720 a0) : SoundD Tryz.prog 247 [[.sl 3 (a0.map TPiece.row)]] [[.sl 3 (a0.map TPiece.row)]] := by
  have h := i_copyPieces_ok a0 u0
  rwa [i_copyPieces_id] at h
theorem i_copyStamps_ok (a0 : List TStamp) (u0 : Sm 2342912 a0) : SoundD Tryz.prog 264 [[.sl 5 (a0.map TStamp.row)]] [[.sl 5 ((i_copyStamps a0).map TStamp.row)]] := by
  refine sound_ofD Tryz.func264 rfl (by kernel_rfl) ?_
  have c1 : a0.length ≤ 2342912 := sm_len (by simp (maxDischargeDepth := 12) [u0])
  simp [Tryz.ntmps264]
  repeat ((with_reducible refine And.intro ?_ ?_); focus (intros; omega))
  refine retD (rv := [.tmp 2]) rfl ?_
  have f1 := i_copyStamps.eq_1 a0
  simp [f1]
theorem i_copyStamps_okI (a0 : List TStamp) (u0 : Sm 2342912 a0) : SoundD Tryz.prog 264 [[.sl 5 (a0.map TStamp.row)]] [[.sl 5 (a0.map TStamp.row)]] := by
  have h := i_copyStamps_ok a0 u0
  rwa [i_copyStamps_id] at h
theorem i_copyRenewal_ok (a0 : TRenewal) (u0 : Sm 2338816 a0) : SoundD Tryz.prog 236 [a0.row] [(i_copyRenewal a0).row] := by
  refine sound_ofD Tryz.func236 rfl (by kernel_rfl) ?_
  have c1 : a0.Path.length ≤ 2338816 := sm_len (by simp (maxDischargeDepth := 12) [u0])
  simp [Tryz.ntmps236]
  repeat ((with_reducible refine And.intro ?_ ?_); focus (intros; omega))
  refine callD [false] rfl rfl rfl rfl (i_copyStamps_okI a0.Stamps (sm_mono (n := 2338816) (by decide) (by simp (maxDischargeDepth := 12) [u0]))) (by simp) (by simp) (by simp) (by simp) ?_
  simp
  refine retD (rv := [.cell 2 196]) rfl ?_
  have f1 := i_copyRenewal.eq_1 a0
  simp [f1]
theorem i_copyRenewal_okI (a0 : TRenewal) (u0 : Sm 2338816 a0) : SoundD Tryz.prog 236 [a0.row] [a0.row] := by
  have h := i_copyRenewal_ok a0 u0
  rwa [i_copyRenewal_id] at h
theorem i_copyStrand_ok (a0 : TStrand) (u0 : Sm 2330624 a0) : SoundD Tryz.prog 202 [a0.row] [(i_copyStrand a0).row] := by
  refine sound_ofD Tryz.func202 rfl (by kernel_rfl) ?_
  simp [Tryz.ntmps202]
  refine callD [] rfl rfl rfl rfl (i_copyPieces_okI a0.Pieces (sm_mono (n := 2330624) (by decide) (by simp (maxDischargeDepth := 12) [u0]))) (by simp) (by simp) (by simp) (by simp) ?_
  simp
  refine okL fun k1 => ?_
  refine loopI (ι := { s : Nat × Nat × (List TRenewal) // i_copyStrand_1 a0 s.1 s.2.1 s.2.2 = i_copyStrand_1 a0 (a0.Chain.length + 1) 0 ([] : List TRenewal) ∧ (1 ≤ s.1 ∧ a0.Chain.length < s.1 + s.2.1 ∧ s.2.1 ≤ a0.Chain.length ∧ s.2.2.length ≤ 0 + 1 * s.2.1) }) (fun s => stOf 26 [(2, .one (.bptr 2 0), [.box [.nil 3, .nil 5]]), (3, .one (.bptr 3 0), [.box [.sref 8 0 0 a0.Pieces.length, .sref 3 2 0 s.1.2.2.length], .none, .arr true 5 (s.1.2.2.map TRenewal.row)]), (8, .any, [.arr true 3 (a0.Pieces.map TPiece.row)]), (11, .one (.d (.sl 5 (a0.Chain.map TRenewal.row))), []), (12, .one (.d (.int .i64 (↑a0.Chain.length : Int))), []), (13, .one (.d (.int .i64 (↑s.1.2.1 : Int))), [])]) (fun s => s.1.1) ⟨((a0.Chain.length + 1), 0, ([] : List TRenewal)), rfl, by first | omega | (dsimp only; omega) | simp⟩ (wk_of [((3, 2), none)] [] rfl (by simp)) ?_
  rintro ⟨⟨n1, v1_0, v1_1⟩, e1, j1⟩
  try dsimp only at e1 j1
  obtain ⟨p1, rfl⟩ : ∃ p, n1 = p + 1 := ⟨n1 - 1, by omega⟩
  simp
  refine condR (c := (decide ((↑v1_0 : Int) < (↑a0.Chain.length : Int)))) (by simp) (fun k2 h1 => ?_) (fun k2 h1 => ?_)
  · have q1 := h1; try simp at q1
    have i1 : v1_0 < a0.Chain.length := by simpa using h1
    have m2 : a0.Chain.length ≤ 9223372036854775807 := by simpa using k2 11 _ rfl
    have c1 : a0.Chain.length ≤ 2330624 := sm_len (by simp (maxDischargeDepth := 12) [u0])
    have w1 : IntKind.i64.wrap ((v1_0 : Int) + 1) = (v1_0 : Int) + 1 := wrap_of (by omega) (by omega)
    simp [i1, rowAt_map]
    repeat ((with_reducible refine And.intro ?_ ?_); focus (intros; omega))
    refine okD fun k3 => ?_
    refine drawJ [22] mixed (by kernel_rfl) (by kernel_rfl) ?_
    simp
    refine callD [true, true, true, false, false] rfl rfl rfl rfl (i_copyRenewal_okI (nth a0.Chain v1_0) (sm_mono (n := 2330624) (by decide) (by simp (maxDischargeDepth := 12) [u0]))) (by simp) (by simp) (by simp) (by simp) ?_
    simp
    refine litI rfl rfl rfl (by simp) (by simp) (by simp) ?_
    simp
    refine apDI (olds := (v1_1.map TRenewal.row)) (news := (([(nth a0.Chain v1_0)] : List TRenewal).map TRenewal.row)) (l1 := [(3, 2)]) (l2 := [(20, 3), (20, 4)]) (size := 5) rfl rfl rfl rfl (by simp) (by simp) (by simp) (by simp) (by simp) (by simp; omega) ?_
    simp
    refine nxtI ⟨(p1, (v1_0 + 1), (v1_1 ++ ([(nth a0.Chain v1_0)] : List TRenewal))), ?_, ?_⟩ (by simp) (wk_of [((3, 2), some (22, 0))] [] rfl (by simp [w1]))
    · rw [← e1]; simp only [i_copyStrand_1, h1, cond_true, cond_false]
    · first | omega | (simp at *; omega)
  · have q1 := h1; try simp at q1
    have c2 : a0.Chain.length ≤ 2330624 := sm_len (by simp (maxDischargeDepth := 12) [u0])
    have x1 : i_copyStrand_1 a0 (a0.Chain.length + 1) 0 ([] : List TRenewal) = v1_1 := by rw [← e1]; simp only [i_copyStrand_1, h1, cond_true, cond_false]
    simp
    refine retD (rv := [.cell 2 100]) rfl ?_
    have f1 := i_copyStrand.eq_1 a0
    simp only [x1, cond_true, cond_false] at f1
    simp [f1]
theorem i_copyStrand_okI (a0 : TStrand) (u0 : Sm 2330624 a0) : SoundD Tryz.prog 202 [a0.row] [a0.row] := by
  have h := i_copyStrand_ok a0 u0
  rwa [i_copyStrand_id] at h
theorem i_copyItem_ok (a0 : TItem) (u0 : Sm 2326528 a0) : SoundD Tryz.prog 138 [a0.row] [(i_copyItem a0).row] := by
  refine sound_ofD Tryz.func138 rfl (by kernel_rfl) ?_
  simp [Tryz.ntmps138]
  refine callD [true, false, false] rfl rfl rfl rfl (i_copyDocument_okI a0.Doc (sm_mono (n := 2326528) (by decide) (by simp (maxDischargeDepth := 12) [u0]))) (by simp) (by simp) (by simp) (by simp) ?_
  simp
  refine callD [] rfl rfl rfl rfl (i_copyStrand_okI a0.Strand (sm_mono (n := 2326528) (by decide) (by simp (maxDischargeDepth := 12) [u0]))) (by simp) (by simp) (by simp) (by simp) ?_
  simp
  refine retD (rv := [.cell 2 104]) rfl ?_
  have f1 := i_copyItem.eq_1 a0
  simp [f1]
theorem i_copyItem_okI (a0 : TItem) (u0 : Sm 2326528 a0) : SoundD Tryz.prog 138 [a0.row] [a0.row] := by
  have h := i_copyItem_ok a0 u0
  rwa [i_copyItem_id] at h
theorem i_copyArchive_ok (a0 : TArchive) (u0 : Sm 2322432 a0) : SoundD Tryz.prog 132 [a0.row] [(i_copyArchive a0).row] := by
  refine sound_ofD Tryz.func132 rfl (by kernel_rfl) ?_
  simp [Tryz.ntmps132]
  refine okL fun k1 => ?_
  refine loopI (ι := { s : Nat × Nat × (List TItem) // i_copyArchive_1 a0 s.1 s.2.1 s.2.2 = i_copyArchive_1 a0 (a0.Items.length + 1) 0 ([] : List TItem) ∧ (1 ≤ s.1 ∧ a0.Items.length < s.1 + s.2.1 ∧ s.2.1 ≤ a0.Items.length ∧ s.2.2.length ≤ 0 + 1 * s.2.1) }) (fun s => stOf 25 [(2, .one (.bptr 2 0), [.box [.d (.int .i64 0), .nil 16]]), (3, .one (.bptr 3 0), [.box [.d (.int .i64 a0.Id), .sref 3 2 0 s.1.2.2.length], .none, .arr true 16 (s.1.2.2.map TItem.row)]), (10, .one (.d (.sl 16 (a0.Items.map TItem.row))), []), (11, .one (.d (.int .i64 (↑a0.Items.length : Int))), []), (12, .one (.d (.int .i64 (↑s.1.2.1 : Int))), [])]) (fun s => s.1.1) ⟨((a0.Items.length + 1), 0, ([] : List TItem)), rfl, by first | omega | (dsimp only; omega) | simp⟩ (wk_of [((3, 2), none)] [] rfl (by simp)) ?_
  rintro ⟨⟨n1, v1_0, v1_1⟩, e1, j1⟩
  try dsimp only at e1 j1
  obtain ⟨p1, rfl⟩ : ∃ p, n1 = p + 1 := ⟨n1 - 1, by omega⟩
  simp
  refine condR (c := (decide ((↑v1_0 : Int) < (↑a0.Items.length : Int)))) (by simp) (fun k2 h1 => ?_) (fun k2 h1 => ?_)
  · have q1 := h1; try simp at q1
    have i1 : v1_0 < a0.Items.length := by simpa using h1
    have m2 : a0.Items.length ≤ 9223372036854775807 := by simpa using k2 10 _ rfl
    have c1 : a0.Items.length ≤ 2322432 := sm_len (by simp (maxDischargeDepth := 12) [u0])
    have w1 : IntKind.i64.wrap ((v1_0 : Int) + 1) = (v1_0 : Int) + 1 := wrap_of (by omega) (by omega)
    simp [i1, rowAt_map]
    repeat ((with_reducible refine And.intro ?_ ?_); focus (intros; omega))
    refine okD fun k3 => ?_
    refine drawJ [21] mixed (by kernel_rfl) (by kernel_rfl) ?_
    simp
    refine callD [true, true, true, false, false] rfl rfl rfl rfl (i_copyItem_okI (nth a0.Items v1_0) (sm_mono (n := 2322432) (by decide) (by simp (maxDischargeDepth := 12) [u0]))) (by simp) (by simp) (by simp) (by simp) ?_
    simp
    refine litI rfl rfl rfl (by simp) (by simp) (by simp) ?_
    simp
    refine apDI (olds := (v1_1.map TItem.row)) (news := (([(nth a0.Items v1_0)] : List TItem).map TItem.row)) (l1 := [(3, 2)]) (l2 := [(19, 3), (19, 4), (19, 14), (19, 15)]) (size := 16) rfl rfl rfl rfl (by simp) (by simp) (by simp) (by simp) (by simp) (by simp; omega) ?_
    simp
    refine nxtI ⟨(p1, (v1_0 + 1), (v1_1 ++ ([(nth a0.Items v1_0)] : List TItem))), ?_, ?_⟩ (by simp) (wk_of [((3, 2), some (21, 0))] [] rfl (by simp [w1]))
    · rw [← e1]; simp only [i_copyArchive_1, h1, cond_true, cond_false]
    · first | omega | (simp at *; omega)
  · have q1 := h1; try simp at q1
    have c2 : a0.Items.length ≤ 2322432 := sm_len (by simp (maxDischargeDepth := 12) [u0])
    have x1 : i_copyArchive_1 a0 (a0.Items.length + 1) 0 ([] : List TItem) = v1_1 := by rw [← e1]; simp only [i_copyArchive_1, h1, cond_true, cond_false]
    simp
    refine retD (rv := [.cell 2 92]) rfl ?_
    have f1 := i_copyArchive.eq_1 a0
    simp only [x1, cond_true, cond_false] at f1
    simp [f1]
theorem i_copyArchive_okI (a0 : TArchive) (u0 : Sm 2322432 a0) : SoundD Tryz.prog 132 [a0.row] [a0.row] := by
  have h := i_copyArchive_ok a0 u0
  rwa [i_copyArchive_id] at h
theorem i_copyWorld_ok (a0 : TWorld) (u0 : Sm 2318336 a0) : SoundD Tryz.prog 65 [a0.row] [(i_copyWorld a0).row] := by
  refine sound_ofD Tryz.func65 rfl (by kernel_rfl) ?_
  simp [Tryz.ntmps65]
  refine okD fun k1 => ?_
  refine drawI mixed (by kernel_rfl) (by kernel_rfl) ?_
  simp
  refine callD [false, false, false] rfl rfl rfl rfl (i_copyFrame_okI a0.Frame (sm_mono (n := 2318336) (by decide) (by simp (maxDischargeDepth := 12) [u0]))) (by simp) (by simp) (by simp) (by simp) ?_
  have c1 : a0.Certs.length ≤ 2318336 := sm_len (by simp (maxDischargeDepth := 12) [u0])
  simp
  repeat ((with_reducible refine And.intro ?_ ?_); focus (intros; omega))
  refine callD [false] rfl rfl rfl rfl (i_copyInts_okI a0.Ended (sm_mono (n := 2318336) (by decide) (by simp (maxDischargeDepth := 12) [u0]))) (by simp) (by simp) (by simp) (by simp) ?_
  simp
  refine callD [false] rfl rfl rfl rfl (i_copyInts_okI a0.Seqs (sm_mono (n := 2318336) (by decide) (by simp (maxDischargeDepth := 12) [u0]))) (by simp) (by simp) (by simp) (by simp) ?_
  simp
  refine callD [false] rfl rfl rfl rfl (i_copyInts_okI a0.Lying (sm_mono (n := 2318336) (by decide) (by simp (maxDischargeDepth := 12) [u0]))) (by simp) (by simp) (by simp) (by simp) ?_
  simp
  refine callD [false] rfl rfl rfl rfl (i_copyInts_okI a0.Forged (sm_mono (n := 2318336) (by decide) (by simp (maxDischargeDepth := 12) [u0]))) (by simp) (by simp) (by simp) (by simp) ?_
  simp
  refine okL fun k2 => ?_
  refine loopI (ι := { s : Nat × Nat × (List TArchive) // i_copyWorld_1 a0 s.1 s.2.1 s.2.2 = i_copyWorld_1 a0 (a0.Archives.length + 1) 0 ([] : List TArchive) ∧ (1 ≤ s.1 ∧ a0.Archives.length < s.1 + s.2.1 ∧ s.2.1 ≤ a0.Archives.length ∧ s.2.2.length ≤ 0 + 1 * s.2.1) }) (fun s => stOf 44 [(2, .one (.bptr 2 0), [.box [.nil 5, .nil 3, .nil 4, .d (.int .i64 0), .d (.int .i64 0), .nil 7, .nil 1, .nil 2, .nil 1, .nil 1, .d (.int .i64 0), .nil 1]]), (3, .one (.bptr 3 0), [.box [.sref 8 0 0 a0.Frame.Keys.length, .sref 8 1 0 a0.Frame.Authorities.length, .sref 8 2 0 a0.Frame.Methods.length, .d (.int .i64 a0.Frame.Liars), .d (.int .i64 a0.Frame.Now), .sref 12 0 0 a0.Certs.length, .sref 15 0 0 a0.Ended.length, .sref 3 8 0 s.1.2.2.length, .sref 18 0 0 a0.Seqs.length, .sref 21 0 0 a0.Lying.length, .d (.int .i64 a0.Next), .sref 26 0 0 a0.Forged.length], .none, .none, .none, .none, .none, .none, .none, .arr true 2 (s.1.2.2.map TArchive.row)]), (8, .any, [.arr false 5 (a0.Frame.Keys.map TKey.row), .arr false 3 (a0.Frame.Authorities.map TAuthority.row), .arr false 4 (a0.Frame.Methods.map TMethod.row)]), (12, .any, [.arr false 7 (a0.Certs.map TCert.row)]), (15, .any, [.arr false 1 (a0.Ended.map iR)]), (18, .any, [.arr false 1 (a0.Seqs.map iR)]), (21, .any, [.arr false 1 (a0.Lying.map iR)]), (26, .any, [.arr false 1 (a0.Forged.map iR)]), (29, .one (.d (.sl 2 (a0.Archives.map TArchive.row))), []), (30, .one (.d (.int .i64 (↑a0.Archives.length : Int))), []), (31, .one (.d (.int .i64 (↑s.1.2.1 : Int))), [])]) (fun s => s.1.1) ⟨((a0.Archives.length + 1), 0, ([] : List TArchive)), rfl, by first | omega | (dsimp only; omega) | simp⟩ (wk_of [((3, 8), none)] [] rfl (by simp)) ?_
  rintro ⟨⟨n1, v1_0, v1_1⟩, e1, j1⟩
  try dsimp only at e1 j1
  obtain ⟨p1, rfl⟩ : ∃ p, n1 = p + 1 := ⟨n1 - 1, by omega⟩
  simp
  refine condR (c := (decide ((↑v1_0 : Int) < (↑a0.Archives.length : Int)))) (by simp) (fun k3 h1 => ?_) (fun k3 h1 => ?_)
  · have q1 := h1; try simp at q1
    have i1 : v1_0 < a0.Archives.length := by simpa using h1
    have m2 : a0.Archives.length ≤ 9223372036854775807 := by simpa using k3 29 _ rfl
    have c2 : a0.Archives.length ≤ 2318336 := sm_len (by simp (maxDischargeDepth := 12) [u0])
    have w1 : IntKind.i64.wrap ((v1_0 : Int) + 1) = (v1_0 : Int) + 1 := wrap_of (by omega) (by omega)
    simp [i1, rowAt_map]
    repeat ((with_reducible refine And.intro ?_ ?_); focus (intros; omega))
    refine okD fun k4 => ?_
    refine drawJ [40] mixed (by kernel_rfl) (by kernel_rfl) ?_
    simp
    refine callD [] rfl rfl rfl rfl (i_copyArchive_okI (nth a0.Archives v1_0) (sm_mono (n := 2318336) (by decide) (by simp (maxDischargeDepth := 12) [u0]))) (by simp) (by simp) (by simp) (by simp) ?_
    simp
    refine litI rfl rfl rfl (by simp) (by simp) (by simp) ?_
    simp
    refine apDI (olds := (v1_1.map TArchive.row)) (news := (([(nth a0.Archives v1_0)] : List TArchive).map TArchive.row)) (l1 := [(3, 8)]) (l2 := [(38, 1)]) (size := 2) rfl rfl rfl rfl (by simp) (by simp) (by simp) (by simp) (by simp) (by simp; omega) ?_
    simp
    refine nxtI ⟨(p1, (v1_0 + 1), (v1_1 ++ ([(nth a0.Archives v1_0)] : List TArchive))), ?_, ?_⟩ (by simp) (wk_of [((3, 8), some (40, 0))] [] rfl (by simp [w1]))
    · rw [← e1]; simp only [i_copyWorld_1, h1, cond_true, cond_false]
    · first | omega | (simp at *; omega)
  · have q1 := h1; try simp at q1
    have c3 : a0.Archives.length ≤ 2318336 := sm_len (by simp (maxDischargeDepth := 12) [u0])
    have x1 : i_copyWorld_1 a0 (a0.Archives.length + 1) 0 ([] : List TArchive) = v1_1 := by rw [← e1]; simp only [i_copyWorld_1, h1, cond_true, cond_false]
    simp
    refine retD (rv := [.cell 2 42]) rfl ?_
    have f1 := i_copyWorld.eq_1 a0
    simp only [x1, cond_true, cond_false] at f1
    simp [f1]
theorem i_copyWorld_okI (a0 : TWorld) (u0 : Sm 2318336 a0) : SoundD Tryz.prog 65 [a0.row] [a0.row] := by
  have h := i_copyWorld_ok a0 u0
  rwa [i_copyWorld_id] at h
theorem i_InRange_ok (a0 : Int) (a1 : Int) (a2 : Int) : SoundAt Tryz.prog 66 false [[.int .i64 a0], [.int .i64 a1], [.int .i64 a2]] [[.bool (i_InRange a0 a1 a2)]] := by
  refine sound_of Tryz.func66 rfl (by kernel_rfl) ?_
  simp [Tryz.ntmps66]
  refine retRd (rv := [.tmp 6]) rfl ?_
  have f1 := i_InRange.eq_1 a0 a1 a2
  simp [f1]
theorem i_StepRevoke_ok (a0 : TWorld) (a1 : Int) (u0 : Sm 2314240 a0) : SoundD Tryz.prog 23 [a0.row, [.int .i64 a1]] [(i_StepRevoke a0 a1).1.row, [.bool (i_StepRevoke a0 a1).2]] := by
  refine sound_ofD Tryz.func23 rfl (by kernel_rfl) ?_
  simp [Tryz.ntmps23]
  refine callD [false, false, false, true, true, false, false, true, false, false, true, false] rfl rfl rfl rfl (i_copyWorld_okI a0 (sm_mono (n := 2314240) (by decide) (by simp (maxDischargeDepth := 12) [u0]))) (by simp) (by simp) (by simp) (by simp) ?_
  simp
  refine callRd rfl rfl rfl rfl (i_InRange_ok a1 0 (W ((↑a0.Ended.length : Int) - 1))) (by simp) (by simp) (by simp) ?_
  simp
  refine guardI rfl rfl rfl rfl rfl (by simp) (fun g1 => ?_) (fun g1 => ?_)
  · have g1x := g1; try simp only [beq_true, beq_false, Bool.not_eq_true', Bool.not_eq_false', Bool.true_and, Bool.and_true] at g1x
    have c1 : a0.Ended.length ≤ 2314240 := sm_len (by simp (maxDischargeDepth := 12) [u0])
    have w1 : IntKind.i64.wrap ((a0.Ended.length : Int) - 1) = (a0.Ended.length : Int) - 1 := wrap_of (by omega) (by omega)
    try simp [i_InRange, w1] at g1
    have i1 : a1.toNat < a0.Ended.length := by omega
    simp [i1, rowAt_map, g1x]
    repeat ((with_reducible refine And.intro ?_ ?_); focus (intros; first | omega | (simp_all; done) | (simp_all; omega) | grind))
    refine condR (c := ((!(i_InRange a1 0 (W ((↑a0.Ended.length : Int) - 1)))) || ((nth a0.Ended a1.toNat) != (-1)))) (by first | (simp [g1x]; done) | grind) (fun k1 h1 => ?_) (fun k1 h1 => ?_)
    · try (have z := h1; simp [g1x] at z; done)
      all_goals
        have q1 := h1; try simp [i_InRange, w1] at q1
        simp [g1x]
        repeat ((with_reducible refine And.intro ?_ ?_); focus (intros; first | omega | (simp_all; done) | (simp_all; omega) | grind))
        refine retD (rv := [.cell 4 42, .tmp 5]) rfl ?_
        have f1 := i_StepRevoke.eq_1 a0 a1
        simp only [h1, cond_true, cond_false] at f1
        simp [f1, g1x]
    · try (have z := h1; simp [g1x] at z; done)
      all_goals
        have q1 := h1; try simp [i_InRange, w1] at q1
        simp [i1, rowAt_map, set_map (x := (W (a0.Frame.Now + 1))) rfl, g1x]
        repeat ((with_reducible refine And.intro ?_ ?_); focus (intros; first | omega | (simp_all; done) | (simp_all; omega) | grind))
        refine retD (rv := [.cell 4 42, .tmp 5]) rfl ?_
        have f2 := i_StepRevoke.eq_1 a0 a1
        simp only [h1, cond_true, cond_false] at f2
        simp [f2, g1x]
        all_goals (repeat' (first | exact forall_set (by simp) (by simp) | refine And.intro ?_ ?_))
  · have g1x := g1; try simp only [beq_true, beq_false, Bool.not_eq_true', Bool.not_eq_false', Bool.true_and, Bool.and_true] at g1x
    simp [g1x]
    repeat ((with_reducible refine And.intro ?_ ?_); focus (intros; first | omega | (simp_all; done) | (simp_all; omega) | grind))
    have c2 : a0.Ended.length ≤ 2314240 := sm_len (by simp (maxDischargeDepth := 12) [u0])
    have w2 : IntKind.i64.wrap ((a0.Ended.length : Int) - 1) = (a0.Ended.length : Int) - 1 := wrap_of (by omega) (by omega)
    refine condR (c := ((!(i_InRange a1 0 (W ((↑a0.Ended.length : Int) - 1)))) || ((nth a0.Ended a1.toNat) != (-1)))) (by first | (simp [g1x]; done) | grind) (fun k2 h2 => ?_) (fun k2 h2 => ?_)
    · try (have z := h2; simp [g1x] at z; done)
      all_goals
        have q2 := h2; try simp [i_InRange, w2] at q2
        simp [g1x]
        repeat ((with_reducible refine And.intro ?_ ?_); focus (intros; first | omega | (simp_all; done) | (simp_all; omega) | grind))
        refine retD (rv := [.cell 4 42, .tmp 5]) rfl ?_
        have f3 := i_StepRevoke.eq_1 a0 a1
        simp only [h2, cond_true, cond_false] at f3
        simp [f3, g1x]
    · try (have z := h2; simp [g1x] at z; done)
      all_goals
        have q2 := h2; try simp [i_InRange, w2] at q2
        have i3 : a1.toNat < a0.Ended.length := by omega
        simp [i3, rowAt_map, set_map (x := (W (a0.Frame.Now + 1))) rfl, g1x]
        repeat ((with_reducible refine And.intro ?_ ?_); focus (intros; first | omega | (simp_all; done) | (simp_all; omega) | grind))
        refine retD (rv := [.cell 4 42, .tmp 5]) rfl ?_
        have f4 := i_StepRevoke.eq_1 a0 a1
        simp only [h2, cond_true, cond_false] at f4
        simp [f4, g1x]
        all_goals (repeat' (first | exact forall_set (by simp) (by simp) | refine And.intro ?_ ?_))
theorem l_heldKeyS_ok (a0 : List TKey) (a1 : Int) : SoundAt Tryz.prog 133 false [[.sl 5 (a0.map TKey.row)], [.int .i64 a1]] [[.int .i64 (l_heldKeyS a0 a1)]] := by
  refine sound_of Tryz.func133 rfl (by kernel_rfl) ?_
  simp [Tryz.ntmps133]
  refine okL fun k1 => ?_
  refine loopI (ι := { s : Nat × Int × Nat // l_heldKeyS_1 a0 s.1 s.2.1 s.2.2 = l_heldKeyS_1 a0 (a0.length + 1) a1 0 ∧ (1 ≤ s.1 ∧ a0.length < s.1 + s.2.2 ∧ s.2.2 ≤ a0.length) }) (fun s => stOf 58 [(0, .one (.d (.sl 5 (a0.map TKey.row))), []), (1, .one (.d (.int .i64 s.1.2.1)), []), (5, .one (.d (.int .i64 (↑s.1.2.2 : Int))), [])]) (fun s => s.1.1) ⟨((a0.length + 1), a1, 0), rfl, by first | omega | (dsimp only; omega) | simp⟩ (wk_keep (by simp)) ?_
  rintro ⟨⟨n1, v1_0, v1_1⟩, e1, j1⟩
  try dsimp only at e1 j1
  obtain ⟨p1, rfl⟩ : ∃ p, n1 = p + 1 := ⟨n1 - 1, by omega⟩
  simp
  refine condR (c := (decide ((↑v1_1 : Int) < (↑a0.length : Int)))) (by simp) (fun k2 h1 => ?_) (fun k2 h1 => ?_)
  · have q1 := h1; try simp at q1
    have i1 : v1_1 < a0.length := by simpa using h1
    have m2 : a0.length ≤ 9223372036854775807 := by simpa using k2 0 _ rfl
    have w1 : IntKind.i64.wrap ((v1_1 : Int) + 1) = (v1_1 : Int) + 1 := wrap_of (by omega) (by omega)
    simp [i1, rowAt_map]
    repeat ((with_reducible refine And.intro ?_ ?_); focus (intros; omega))
    refine condR (c := ((nth a0 v1_1).Number != v1_0)) (by simp) (fun k3 h2 => ?_) (fun k3 h2 => ?_)
    · have q2 := h2; try simp at q2
      have x1 : l_heldKeyS_1 a0 (a0.length + 1) a1 0 = .inl (-1) := by rw [← e1]; simp only [l_heldKeyS_1, h1, h2, cond_true, cond_false]
      simp
      refine retRd (rv := [.tmp 4]) rfl ?_
      have f1 := l_heldKeyS.eq_1 a0 a1
      simp only [x1, cond_true, cond_false] at f1
      simp [f1]
    · have q2 := h2; try simp at q2
      simp [i1, rowAt_map]
      repeat ((with_reducible refine And.intro ?_ ?_); focus (intros; omega))
      refine condR (c := ((nth a0 v1_1).Owner != (W (v1_0 + 1)))) (by simp) (fun k4 h3 => ?_) (fun k4 h3 => ?_)
      · have q3 := h3; try simp at q3
        have x2 : l_heldKeyS_1 a0 (a0.length + 1) a1 0 = .inl (-1) := by rw [← e1]; simp only [l_heldKeyS_1, h1, h2, h3, cond_true, cond_false]
        simp
        refine retRd (rv := [.tmp 4]) rfl ?_
        have f2 := l_heldKeyS.eq_1 a0 a1
        simp only [x2, cond_true, cond_false] at f2
        simp [f2]
      · have q3 := h3; try simp at q3
        simp [i1, rowAt_map]
        repeat ((with_reducible refine And.intro ?_ ?_); focus (intros; omega))
        refine condR (c := ((nth a0 v1_1).Method != (W ((W (v1_0 + 1)) + 1)))) (by simp) (fun k5 h4 => ?_) (fun k5 h4 => ?_)
        · have q4 := h4; try simp at q4
          have x3 : l_heldKeyS_1 a0 (a0.length + 1) a1 0 = .inl (-1) := by rw [← e1]; simp only [l_heldKeyS_1, h1, h2, h3, h4, cond_true, cond_false]
          simp
          refine retRd (rv := [.tmp 4]) rfl ?_
          have f3 := l_heldKeyS.eq_1 a0 a1
          simp only [x3, cond_true, cond_false] at f3
          simp [f3]
        · have q4 := h4; try simp at q4
          simp [i1, rowAt_map]
          repeat ((with_reducible refine And.intro ?_ ?_); focus (intros; omega))
          refine condR (c := ((nth a0 v1_1).Born != (W ((W ((W (v1_0 + 1)) + 1)) + 1)))) (by simp) (fun k6 h5 => ?_) (fun k6 h5 => ?_)
          · have q5 := h5; try simp at q5
            have x4 : l_heldKeyS_1 a0 (a0.length + 1) a1 0 = .inl (-1) := by rw [← e1]; simp only [l_heldKeyS_1, h1, h2, h3, h4, h5, cond_true, cond_false]
            simp
            refine retRd (rv := [.tmp 4]) rfl ?_
            have f4 := l_heldKeyS.eq_1 a0 a1
            simp only [x4, cond_true, cond_false] at f4
            simp [f4]
          · have q5 := h5; try simp at q5
            simp [i1, rowAt_map]
            repeat ((with_reducible refine And.intro ?_ ?_); focus (intros; omega))
            refine condR (c := ((nth a0 v1_1).Secret != (W ((W ((W ((W (v1_0 + 1)) + 1)) + 1)) + 1)))) (by simp) (fun k7 h6 => ?_) (fun k7 h6 => ?_)
            · have q6 := h6; try simp at q6
              have x5 : l_heldKeyS_1 a0 (a0.length + 1) a1 0 = .inl (-1) := by rw [← e1]; simp only [l_heldKeyS_1, h1, h2, h3, h4, h5, h6, cond_true, cond_false]
              simp
              refine retRd (rv := [.tmp 4]) rfl ?_
              have f5 := l_heldKeyS.eq_1 a0 a1
              simp only [x5, cond_true, cond_false] at f5
              simp [f5]
            · have q6 := h6; try simp at q6
              simp
              refine nxtI ⟨(p1, (W ((W ((W ((W ((W (v1_0 + 1)) + 1)) + 1)) + 1)) + 1)), (v1_1 + 1)), ?_, ?_⟩ (by simp) (wk_keep (by simp [w1]))
              · rw [← e1]; simp only [l_heldKeyS_1, h1, h2, h3, h4, h5, h6, cond_true, cond_false]
              · first | omega | (simp at *; omega)
  · have q1 := h1; try simp at q1
    have x6 : l_heldKeyS_1 a0 (a0.length + 1) a1 0 = .inr v1_0 := by rw [← e1]; simp only [l_heldKeyS_1, h1, cond_true, cond_false]
    simp
    refine retRd (rv := [.tmp 4]) rfl ?_
    have f6 := l_heldKeyS.eq_1 a0 a1
    simp only [x6, cond_true, cond_false] at f6
    simp [f6]
theorem l_heldAuthorityS_ok (a0 : List TAuthority) (a1 : Int) : SoundAt Tryz.prog 134 false [[.sl 3 (a0.map TAuthority.row)], [.int .i64 a1]] [[.int .i64 (l_heldAuthorityS a0 a1)]] := by
  refine sound_of Tryz.func134 rfl (by kernel_rfl) ?_
  simp [Tryz.ntmps134]
  refine okL fun k1 => ?_
  refine loopI (ι := { s : Nat × Int × Nat // l_heldAuthorityS_1 a0 s.1 s.2.1 s.2.2 = l_heldAuthorityS_1 a0 (a0.length + 1) a1 0 ∧ (1 ≤ s.1 ∧ a0.length < s.1 + s.2.2 ∧ s.2.2 ≤ a0.length) }) (fun s => stOf 40 [(0, .one (.d (.sl 3 (a0.map TAuthority.row))), []), (1, .one (.d (.int .i64 s.1.2.1)), []), (5, .one (.d (.int .i64 (↑s.1.2.2 : Int))), [])]) (fun s => s.1.1) ⟨((a0.length + 1), a1, 0), rfl, by first | omega | (dsimp only; omega) | simp⟩ (wk_keep (by simp)) ?_
  rintro ⟨⟨n1, v1_0, v1_1⟩, e1, j1⟩
  try dsimp only at e1 j1
  obtain ⟨p1, rfl⟩ : ∃ p, n1 = p + 1 := ⟨n1 - 1, by omega⟩
  simp
  refine condR (c := (decide ((↑v1_1 : Int) < (↑a0.length : Int)))) (by simp) (fun k2 h1 => ?_) (fun k2 h1 => ?_)
  · have q1 := h1; try simp at q1
    have i1 : v1_1 < a0.length := by simpa using h1
    have m2 : a0.length ≤ 9223372036854775807 := by simpa using k2 0 _ rfl
    have w1 : IntKind.i64.wrap ((v1_1 : Int) + 1) = (v1_1 : Int) + 1 := wrap_of (by omega) (by omega)
    simp [i1, rowAt_map]
    repeat ((with_reducible refine And.intro ?_ ?_); focus (intros; omega))
    refine condR (c := ((nth a0 v1_1).Id != v1_0)) (by simp) (fun k3 h2 => ?_) (fun k3 h2 => ?_)
    · have q2 := h2; try simp at q2
      have x1 : l_heldAuthorityS_1 a0 (a0.length + 1) a1 0 = .inl (-1) := by rw [← e1]; simp only [l_heldAuthorityS_1, h1, h2, cond_true, cond_false]
      simp
      refine retRd (rv := [.tmp 4]) rfl ?_
      have f1 := l_heldAuthorityS.eq_1 a0 a1
      simp only [x1, cond_true, cond_false] at f1
      simp [f1]
    · have q2 := h2; try simp at q2
      simp [i1, rowAt_map]
      repeat ((with_reducible refine And.intro ?_ ?_); focus (intros; omega))
      refine condR (c := ((nth a0 v1_1).Key != (W (v1_0 + 1)))) (by simp) (fun k4 h3 => ?_) (fun k4 h3 => ?_)
      · have q3 := h3; try simp at q3
        have x2 : l_heldAuthorityS_1 a0 (a0.length + 1) a1 0 = .inl (-1) := by rw [← e1]; simp only [l_heldAuthorityS_1, h1, h2, h3, cond_true, cond_false]
        simp
        refine retRd (rv := [.tmp 4]) rfl ?_
        have f2 := l_heldAuthorityS.eq_1 a0 a1
        simp only [x2, cond_true, cond_false] at f2
        simp [f2]
      · have q3 := h3; try simp at q3
        simp [i1, rowAt_map]
        repeat ((with_reducible refine And.intro ?_ ?_); focus (intros; omega))
        refine condR (c := ((nth a0 v1_1).Error != (W ((W (v1_0 + 1)) + 1)))) (by simp) (fun k5 h4 => ?_) (fun k5 h4 => ?_)
        · have q4 := h4; try simp at q4
          have x3 : l_heldAuthorityS_1 a0 (a0.length + 1) a1 0 = .inl (-1) := by rw [← e1]; simp only [l_heldAuthorityS_1, h1, h2, h3, h4, cond_true, cond_false]
          simp
          refine retRd (rv := [.tmp 4]) rfl ?_
          have f3 := l_heldAuthorityS.eq_1 a0 a1
          simp only [x3, cond_true, cond_false] at f3
          simp [f3]
        · have q4 := h4; try simp at q4
          simp
          refine nxtI ⟨(p1, (W ((W ((W (v1_0 + 1)) + 1)) + 1)), (v1_1 + 1)), ?_, ?_⟩ (by simp) (wk_keep (by simp [w1]))
          · rw [← e1]; simp only [l_heldAuthorityS_1, h1, h2, h3, h4, cond_true, cond_false]
          · first | omega | (simp at *; omega)
  · have q1 := h1; try simp at q1
    have x4 : l_heldAuthorityS_1 a0 (a0.length + 1) a1 0 = .inr v1_0 := by rw [← e1]; simp only [l_heldAuthorityS_1, h1, cond_true, cond_false]
    simp
    refine retRd (rv := [.tmp 4]) rfl ?_
    have f4 := l_heldAuthorityS.eq_1 a0 a1
    simp only [x4, cond_true, cond_false] at f4
    simp [f4]
theorem l_heldMethodS_ok (a0 : List TMethod) (a1 : Int) : SoundAt Tryz.prog 135 false [[.sl 4 (a0.map TMethod.row)], [.int .i64 a1]] [[.int .i64 (l_heldMethodS a0 a1)]] := by
  refine sound_of Tryz.func135 rfl (by kernel_rfl) ?_
  simp [Tryz.ntmps135]
  refine okL fun k1 => ?_
  refine loopI (ι := { s : Nat × Int × Nat // l_heldMethodS_1 a0 s.1 s.2.1 s.2.2 = l_heldMethodS_1 a0 (a0.length + 1) a1 0 ∧ (1 ≤ s.1 ∧ a0.length < s.1 + s.2.2 ∧ s.2.2 ≤ a0.length) }) (fun s => stOf 49 [(0, .one (.d (.sl 4 (a0.map TMethod.row))), []), (1, .one (.d (.int .i64 s.1.2.1)), []), (5, .one (.d (.int .i64 (↑s.1.2.2 : Int))), [])]) (fun s => s.1.1) ⟨((a0.length + 1), a1, 0), rfl, by first | omega | (dsimp only; omega) | simp⟩ (wk_keep (by simp)) ?_
  rintro ⟨⟨n1, v1_0, v1_1⟩, e1, j1⟩
  try dsimp only at e1 j1
  obtain ⟨p1, rfl⟩ : ∃ p, n1 = p + 1 := ⟨n1 - 1, by omega⟩
  simp
  refine condR (c := (decide ((↑v1_1 : Int) < (↑a0.length : Int)))) (by simp) (fun k2 h1 => ?_) (fun k2 h1 => ?_)
  · have q1 := h1; try simp at q1
    have i1 : v1_1 < a0.length := by simpa using h1
    have m2 : a0.length ≤ 9223372036854775807 := by simpa using k2 0 _ rfl
    have w1 : IntKind.i64.wrap ((v1_1 : Int) + 1) = (v1_1 : Int) + 1 := wrap_of (by omega) (by omega)
    simp [i1, rowAt_map]
    repeat ((with_reducible refine And.intro ?_ ?_); focus (intros; omega))
    refine condR (c := ((nth a0 v1_1).Id != v1_0)) (by simp) (fun k3 h2 => ?_) (fun k3 h2 => ?_)
    · have q2 := h2; try simp at q2
      have x1 : l_heldMethodS_1 a0 (a0.length + 1) a1 0 = .inl (-1) := by rw [← e1]; simp only [l_heldMethodS_1, h1, h2, cond_true, cond_false]
      simp
      refine retRd (rv := [.tmp 4]) rfl ?_
      have f1 := l_heldMethodS.eq_1 a0 a1
      simp only [x1, cond_true, cond_false] at f1
      simp [f1]
    · have q2 := h2; try simp at q2
      simp [i1, rowAt_map]
      repeat ((with_reducible refine And.intro ?_ ?_); focus (intros; omega))
      refine condR (c := ((nth a0 v1_1).Known != (W (v1_0 + 1)))) (by simp) (fun k4 h3 => ?_) (fun k4 h3 => ?_)
      · have q3 := h3; try simp at q3
        have x2 : l_heldMethodS_1 a0 (a0.length + 1) a1 0 = .inl (-1) := by rw [← e1]; simp only [l_heldMethodS_1, h1, h2, h3, cond_true, cond_false]
        simp
        refine retRd (rv := [.tmp 4]) rfl ?_
        have f2 := l_heldMethodS.eq_1 a0 a1
        simp only [x2, cond_true, cond_false] at f2
        simp [f2]
      · have q3 := h3; try simp at q3
        simp [i1, rowAt_map]
        repeat ((with_reducible refine And.intro ?_ ?_); focus (intros; omega))
        refine condR (c := ((nth a0 v1_1).Ends != (W ((W (v1_0 + 1)) + 1)))) (by simp) (fun k5 h4 => ?_) (fun k5 h4 => ?_)
        · have q4 := h4; try simp at q4
          have x3 : l_heldMethodS_1 a0 (a0.length + 1) a1 0 = .inl (-1) := by rw [← e1]; simp only [l_heldMethodS_1, h1, h2, h3, h4, cond_true, cond_false]
          simp
          refine retRd (rv := [.tmp 4]) rfl ?_
          have f3 := l_heldMethodS.eq_1 a0 a1
          simp only [x3, cond_true, cond_false] at f3
          simp [f3]
        · have q4 := h4; try simp at q4
          simp [i1, rowAt_map]
          repeat ((with_reducible refine And.intro ?_ ?_); focus (intros; omega))
          refine condR (c := ((nth a0 v1_1).Broken != (W ((W ((W (v1_0 + 1)) + 1)) + 1)))) (by simp) (fun k6 h5 => ?_) (fun k6 h5 => ?_)
          · have q5 := h5; try simp at q5
            have x4 : l_heldMethodS_1 a0 (a0.length + 1) a1 0 = .inl (-1) := by rw [← e1]; simp only [l_heldMethodS_1, h1, h2, h3, h4, h5, cond_true, cond_false]
            simp
            refine retRd (rv := [.tmp 4]) rfl ?_
            have f4 := l_heldMethodS.eq_1 a0 a1
            simp only [x4, cond_true, cond_false] at f4
            simp [f4]
          · have q5 := h5; try simp at q5
            simp
            refine nxtI ⟨(p1, (W ((W ((W ((W (v1_0 + 1)) + 1)) + 1)) + 1)), (v1_1 + 1)), ?_, ?_⟩ (by simp) (wk_keep (by simp [w1]))
            · rw [← e1]; simp only [l_heldMethodS_1, h1, h2, h3, h4, h5, cond_true, cond_false]
            · first | omega | (simp at *; omega)
  · have q1 := h1; try simp at q1
    have x5 : l_heldMethodS_1 a0 (a0.length + 1) a1 0 = .inr v1_0 := by rw [← e1]; simp only [l_heldMethodS_1, h1, cond_true, cond_false]
    simp
    refine retRd (rv := [.tmp 4]) rfl ?_
    have f5 := l_heldMethodS.eq_1 a0 a1
    simp only [x5, cond_true, cond_false] at f5
    simp [f5]
theorem l_heldFrame_ok (a0 : TFrame) (a1 : Int) : SoundAt Tryz.prog 67 false [a0.row, [.int .i64 a1]] [[.int .i64 (l_heldFrame a0 a1)]] := by
  refine sound_of Tryz.func67 rfl (by kernel_rfl) ?_
  simp [Tryz.ntmps67]
  refine callRd rfl rfl rfl rfl (l_heldKeyS_ok a0.Keys a1) (by simp) (by simp) (by simp) ?_
  simp
  refine condR (c := (decide ((l_heldKeyS a0.Keys a1) < 0))) (by simp) (fun k1 h1 => ?_) (fun k1 h1 => ?_)
  · have q1 := h1; try simp at q1
    simp
    refine retRd (rv := [.tmp 4]) rfl ?_
    have f1 := l_heldFrame.eq_1 a0 a1
    simp only [h1, cond_true, cond_false] at f1
    simp [f1]
  · have q1 := h1; try simp at q1
    simp
    refine callRd rfl rfl rfl rfl (l_heldAuthorityS_ok a0.Authorities (l_heldKeyS a0.Keys a1)) (by simp) (by simp) (by simp) ?_
    simp
    refine condR (c := (decide ((l_heldAuthorityS a0.Authorities (l_heldKeyS a0.Keys a1)) < 0))) (by simp) (fun k2 h2 => ?_) (fun k2 h2 => ?_)
    · have q2 := h2; try simp at q2
      simp
      refine retRd (rv := [.tmp 4]) rfl ?_
      have f2 := l_heldFrame.eq_1 a0 a1
      simp only [h1, h2, cond_true, cond_false] at f2
      simp [f2]
    · have q2 := h2; try simp at q2
      simp
      refine callRd rfl rfl rfl rfl (l_heldMethodS_ok a0.Methods (l_heldAuthorityS a0.Authorities (l_heldKeyS a0.Keys a1))) (by simp) (by simp) (by simp) ?_
      simp
      refine condR (c := (decide ((l_heldMethodS a0.Methods (l_heldAuthorityS a0.Authorities (l_heldKeyS a0.Keys a1))) < 0))) (by simp) (fun k3 h3 => ?_) (fun k3 h3 => ?_)
      · have q3 := h3; try simp at q3
        simp
        refine retRd (rv := [.tmp 4]) rfl ?_
        have f3 := l_heldFrame.eq_1 a0 a1
        simp only [h1, h2, h3, cond_true, cond_false] at f3
        simp [f3]
      · have q3 := h3; try simp at q3
        simp
        refine retRd (rv := [.tmp 4]) rfl ?_
        have f4 := l_heldFrame.eq_1 a0 a1
        simp only [h1, h2, h3, cond_true, cond_false] at f4
        simp [f4]
theorem l_heldCertS_ok (a0 : List TCert) (a1 : Int) : SoundAt Tryz.prog 68 false [[.sl 7 (a0.map TCert.row)], [.int .i64 a1]] [[.int .i64 (l_heldCertS a0 a1)]] := by
  refine sound_of Tryz.func68 rfl (by kernel_rfl) ?_
  simp [Tryz.ntmps68]
  refine okL fun k1 => ?_
  refine loopI (ι := { s : Nat × Int × Nat // l_heldCertS_1 a0 s.1 s.2.1 s.2.2 = l_heldCertS_1 a0 (a0.length + 1) a1 0 ∧ (1 ≤ s.1 ∧ a0.length < s.1 + s.2.2 ∧ s.2.2 ≤ a0.length) }) (fun s => stOf 76 [(0, .one (.d (.sl 7 (a0.map TCert.row))), []), (1, .one (.d (.int .i64 s.1.2.1)), []), (5, .one (.d (.int .i64 (↑s.1.2.2 : Int))), [])]) (fun s => s.1.1) ⟨((a0.length + 1), a1, 0), rfl, by first | omega | (dsimp only; omega) | simp⟩ (wk_keep (by simp)) ?_
  rintro ⟨⟨n1, v1_0, v1_1⟩, e1, j1⟩
  try dsimp only at e1 j1
  obtain ⟨p1, rfl⟩ : ∃ p, n1 = p + 1 := ⟨n1 - 1, by omega⟩
  simp
  refine condR (c := (decide ((↑v1_1 : Int) < (↑a0.length : Int)))) (by simp) (fun k2 h1 => ?_) (fun k2 h1 => ?_)
  · have q1 := h1; try simp at q1
    have i1 : v1_1 < a0.length := by simpa using h1
    have m2 : a0.length ≤ 9223372036854775807 := by simpa using k2 0 _ rfl
    have w1 : IntKind.i64.wrap ((v1_1 : Int) + 1) = (v1_1 : Int) + 1 := wrap_of (by omega) (by omega)
    simp [i1, rowAt_map]
    repeat ((with_reducible refine And.intro ?_ ?_); focus (intros; omega))
    refine condR (c := ((nth a0 v1_1).Serial != v1_0)) (by simp) (fun k3 h2 => ?_) (fun k3 h2 => ?_)
    · have q2 := h2; try simp at q2
      have x1 : l_heldCertS_1 a0 (a0.length + 1) a1 0 = .inl (-1) := by rw [← e1]; simp only [l_heldCertS_1, h1, h2, cond_true, cond_false]
      simp
      refine retRd (rv := [.tmp 4]) rfl ?_
      have f1 := l_heldCertS.eq_1 a0 a1
      simp only [x1, cond_true, cond_false] at f1
      simp [f1]
    · have q2 := h2; try simp at q2
      simp [i1, rowAt_map]
      repeat ((with_reducible refine And.intro ?_ ?_); focus (intros; omega))
      refine condR (c := ((nth a0 v1_1).Key != (W (v1_0 + 1)))) (by simp) (fun k4 h3 => ?_) (fun k4 h3 => ?_)
      · have q3 := h3; try simp at q3
        have x2 : l_heldCertS_1 a0 (a0.length + 1) a1 0 = .inl (-1) := by rw [← e1]; simp only [l_heldCertS_1, h1, h2, h3, cond_true, cond_false]
        simp
        refine retRd (rv := [.tmp 4]) rfl ?_
        have f2 := l_heldCertS.eq_1 a0 a1
        simp only [x2, cond_true, cond_false] at f2
        simp [f2]
      · have q3 := h3; try simp at q3
        simp [i1, rowAt_map]
        repeat ((with_reducible refine And.intro ?_ ?_); focus (intros; omega))
        refine condR (c := ((nth a0 v1_1).Owner != (W ((W (v1_0 + 1)) + 1)))) (by simp) (fun k5 h4 => ?_) (fun k5 h4 => ?_)
        · have q4 := h4; try simp at q4
          have x3 : l_heldCertS_1 a0 (a0.length + 1) a1 0 = .inl (-1) := by rw [← e1]; simp only [l_heldCertS_1, h1, h2, h3, h4, cond_true, cond_false]
          simp
          refine retRd (rv := [.tmp 4]) rfl ?_
          have f3 := l_heldCertS.eq_1 a0 a1
          simp only [x3, cond_true, cond_false] at f3
          simp [f3]
        · have q4 := h4; try simp at q4
          simp [i1, rowAt_map]
          repeat ((with_reducible refine And.intro ?_ ?_); focus (intros; omega))
          refine condR (c := ((nth a0 v1_1).From != (W ((W ((W (v1_0 + 1)) + 1)) + 1)))) (by simp) (fun k6 h5 => ?_) (fun k6 h5 => ?_)
          · have q5 := h5; try simp at q5
            have x4 : l_heldCertS_1 a0 (a0.length + 1) a1 0 = .inl (-1) := by rw [← e1]; simp only [l_heldCertS_1, h1, h2, h3, h4, h5, cond_true, cond_false]
            simp
            refine retRd (rv := [.tmp 4]) rfl ?_
            have f4 := l_heldCertS.eq_1 a0 a1
            simp only [x4, cond_true, cond_false] at f4
            simp [f4]
          · have q5 := h5; try simp at q5
            simp [i1, rowAt_map]
            repeat ((with_reducible refine And.intro ?_ ?_); focus (intros; omega))
            refine condR (c := ((nth a0 v1_1).To != (W ((W ((W ((W (v1_0 + 1)) + 1)) + 1)) + 1)))) (by simp) (fun k7 h6 => ?_) (fun k7 h6 => ?_)
            · have q6 := h6; try simp at q6
              have x5 : l_heldCertS_1 a0 (a0.length + 1) a1 0 = .inl (-1) := by rw [← e1]; simp only [l_heldCertS_1, h1, h2, h3, h4, h5, h6, cond_true, cond_false]
              simp
              refine retRd (rv := [.tmp 4]) rfl ?_
              have f5 := l_heldCertS.eq_1 a0 a1
              simp only [x5, cond_true, cond_false] at f5
              simp [f5]
            · have q6 := h6; try simp at q6
              simp [i1, rowAt_map]
              repeat ((with_reducible refine And.intro ?_ ?_); focus (intros; omega))
              refine condR (c := ((nth a0 v1_1).Issuer != (W ((W ((W ((W ((W (v1_0 + 1)) + 1)) + 1)) + 1)) + 1)))) (by simp) (fun k8 h7 => ?_) (fun k8 h7 => ?_)
              · have q7 := h7; try simp at q7
                have x6 : l_heldCertS_1 a0 (a0.length + 1) a1 0 = .inl (-1) := by rw [← e1]; simp only [l_heldCertS_1, h1, h2, h3, h4, h5, h6, h7, cond_true, cond_false]
                simp
                refine retRd (rv := [.tmp 4]) rfl ?_
                have f6 := l_heldCertS.eq_1 a0 a1
                simp only [x6, cond_true, cond_false] at f6
                simp [f6]
              · have q7 := h7; try simp at q7
                simp [i1, rowAt_map]
                repeat ((with_reducible refine And.intro ?_ ?_); focus (intros; omega))
                refine condR (c := ((nth a0 v1_1).Mark != (W ((W ((W ((W ((W ((W (v1_0 + 1)) + 1)) + 1)) + 1)) + 1)) + 1)))) (by simp) (fun k9 h8 => ?_) (fun k9 h8 => ?_)
                · have q8 := h8; try simp at q8
                  have x7 : l_heldCertS_1 a0 (a0.length + 1) a1 0 = .inl (-1) := by rw [← e1]; simp only [l_heldCertS_1, h1, h2, h3, h4, h5, h6, h7, h8, cond_true, cond_false]
                  simp
                  refine retRd (rv := [.tmp 4]) rfl ?_
                  have f7 := l_heldCertS.eq_1 a0 a1
                  simp only [x7, cond_true, cond_false] at f7
                  simp [f7]
                · have q8 := h8; try simp at q8
                  simp
                  refine nxtI ⟨(p1, (W ((W ((W ((W ((W ((W ((W (v1_0 + 1)) + 1)) + 1)) + 1)) + 1)) + 1)) + 1)), (v1_1 + 1)), ?_, ?_⟩ (by simp) (wk_keep (by simp [w1]))
                  · rw [← e1]; simp only [l_heldCertS_1, h1, h2, h3, h4, h5, h6, h7, h8, cond_true, cond_false]
                  · first | omega | (simp at *; omega)
  · have q1 := h1; try simp at q1
    have x8 : l_heldCertS_1 a0 (a0.length + 1) a1 0 = .inr v1_0 := by rw [← e1]; simp only [l_heldCertS_1, h1, cond_true, cond_false]
    simp
    refine retRd (rv := [.tmp 4]) rfl ?_
    have f8 := l_heldCertS.eq_1 a0 a1
    simp only [x8, cond_true, cond_false] at f8
    simp [f8]
theorem l_heldStringS_ok (a0 : List ByteArray) (a1 : Int) : SoundAt Tryz.prog 197 false [[.sl 1 (a0.map sR)], [.int .i64 a1]] [[.int .i64 (l_heldStringS a0 a1)]] := by
  refine sound_of Tryz.func197 rfl (by kernel_rfl) ?_
  simp [Tryz.ntmps197]
  refine okL fun k1 => ?_
  refine loopI (ι := { s : Nat × Int × Nat // l_heldStringS_1 a0 s.1 s.2.1 s.2.2 = l_heldStringS_1 a0 (a0.length + 1) a1 0 ∧ (1 ≤ s.1 ∧ a0.length < s.1 + s.2.2 ∧ s.2.2 ≤ a0.length) }) (fun s => stOf 22 [(0, .one (.d (.sl 1 (a0.map sR))), []), (1, .one (.d (.int .i64 s.1.2.1)), []), (5, .one (.d (.int .i64 (↑s.1.2.2 : Int))), [])]) (fun s => s.1.1) ⟨((a0.length + 1), a1, 0), rfl, by first | omega | (dsimp only; omega) | simp⟩ (wk_keep (by simp)) ?_
  rintro ⟨⟨n1, v1_0, v1_1⟩, e1, j1⟩
  try dsimp only at e1 j1
  obtain ⟨p1, rfl⟩ : ∃ p, n1 = p + 1 := ⟨n1 - 1, by omega⟩
  simp
  refine condR (c := (decide ((↑v1_1 : Int) < (↑a0.length : Int)))) (by simp) (fun k2 h1 => ?_) (fun k2 h1 => ?_)
  · have q1 := h1; try simp at q1
    have i1 : v1_1 < a0.length := by simpa using h1
    have m2 : a0.length ≤ 9223372036854775807 := by simpa using k2 0 _ rfl
    have w1 : IntKind.i64.wrap ((v1_1 : Int) + 1) = (v1_1 : Int) + 1 := wrap_of (by omega) (by omega)
    simp
    refine okD fun k3 => ?_
    refine drawI mixed (by kernel_rfl) (by kernel_rfl) ?_
    simp [i1, rowAt_map]
    repeat ((with_reducible refine And.intro ?_ ?_); focus (intros; omega))
    refine callRd rfl rfl rfl rfl (l_markText_ok v1_0) (by simp) (by simp) (by simp) ?_
    simp
    refine condR (c := (!decide ((nth a0 v1_1) = (l_markText v1_0)))) (by simp) (fun k4 h2 => ?_) (fun k4 h2 => ?_)
    · have q2 := h2; try simp at q2
      have x1 : l_heldStringS_1 a0 (a0.length + 1) a1 0 = .inl (-1) := by rw [← e1]; simp only [l_heldStringS_1, h1, h2, cond_true, cond_false]
      simp
      refine retRd (rv := [.tmp 4]) rfl ?_
      have f1 := l_heldStringS.eq_1 a0 a1
      simp only [x1, cond_true, cond_false] at f1
      simp [f1]
    · have q2 := h2; try simp at q2
      simp
      refine nxtI ⟨(p1, (W (v1_0 + 1)), (v1_1 + 1)), ?_, ?_⟩ (by simp) (wk_keep (by simp [w1]))
      · rw [← e1]; simp only [l_heldStringS_1, h1, h2, cond_true, cond_false]
      · first | omega | (simp at *; omega)
  · have q1 := h1; try simp at q1
    have x2 : l_heldStringS_1 a0 (a0.length + 1) a1 0 = .inr v1_0 := by rw [← e1]; simp only [l_heldStringS_1, h1, cond_true, cond_false]
    simp
    refine retRd (rv := [.tmp 4]) rfl ?_
    have f2 := l_heldStringS.eq_1 a0 a1
    simp only [x2, cond_true, cond_false] at f2
    simp [f2]
theorem l_heldPieceS_ok (a0 : List TPiece) (a1 : Int) : SoundAt Tryz.prog 198 false [[.sl 3 (a0.map TPiece.row)], [.int .i64 a1]] [[.int .i64 (l_heldPieceS a0 a1)]] := by
  refine sound_of Tryz.func198 rfl (by kernel_rfl) ?_
  simp [Tryz.ntmps198]
  refine okL fun k1 => ?_
  refine loopI (ι := { s : Nat × Int × Nat // l_heldPieceS_1 a0 s.1 s.2.1 s.2.2 = l_heldPieceS_1 a0 (a0.length + 1) a1 0 ∧ (1 ≤ s.1 ∧ a0.length < s.1 + s.2.2 ∧ s.2.2 ≤ a0.length) }) (fun s => stOf 40 [(0, .one (.d (.sl 3 (a0.map TPiece.row))), []), (1, .one (.d (.int .i64 s.1.2.1)), []), (5, .one (.d (.int .i64 (↑s.1.2.2 : Int))), [])]) (fun s => s.1.1) ⟨((a0.length + 1), a1, 0), rfl, by first | omega | (dsimp only; omega) | simp⟩ (wk_keep (by simp)) ?_
  rintro ⟨⟨n1, v1_0, v1_1⟩, e1, j1⟩
  try dsimp only at e1 j1
  obtain ⟨p1, rfl⟩ : ∃ p, n1 = p + 1 := ⟨n1 - 1, by omega⟩
  simp
  refine condR (c := (decide ((↑v1_1 : Int) < (↑a0.length : Int)))) (by simp) (fun k2 h1 => ?_) (fun k2 h1 => ?_)
  · have q1 := h1; try simp at q1
    have i1 : v1_1 < a0.length := by simpa using h1
    have m2 : a0.length ≤ 9223372036854775807 := by simpa using k2 0 _ rfl
    have w1 : IntKind.i64.wrap ((v1_1 : Int) + 1) = (v1_1 : Int) + 1 := wrap_of (by omega) (by omega)
    simp [i1, rowAt_map]
    repeat ((with_reducible refine And.intro ?_ ?_); focus (intros; omega))
    refine condR (c := ((nth a0 v1_1).Key != v1_0)) (by simp) (fun k3 h2 => ?_) (fun k3 h2 => ?_)
    · have q2 := h2; try simp at q2
      have x1 : l_heldPieceS_1 a0 (a0.length + 1) a1 0 = .inl (-1) := by rw [← e1]; simp only [l_heldPieceS_1, h1, h2, cond_true, cond_false]
      simp
      refine retRd (rv := [.tmp 4]) rfl ?_
      have f1 := l_heldPieceS.eq_1 a0 a1
      simp only [x1, cond_true, cond_false] at f1
      simp [f1]
    · have q2 := h2; try simp at q2
      simp [i1, rowAt_map]
      repeat ((with_reducible refine And.intro ?_ ?_); focus (intros; omega))
      refine callRd rfl rfl rfl rfl (l_heldIntS_ok (nth a0 v1_1).Ints (W (v1_0 + 1))) (by first | (simp; done) | (simp [W, w1]; done)) (by simp) (by simp) ?_
      simp
      refine condR (c := (decide ((l_heldIntS (nth a0 v1_1).Ints (W (v1_0 + 1))) < 0))) (by simp) (fun k4 h3 => ?_) (fun k4 h3 => ?_)
      · have q3 := h3; try simp at q3
        have x2 : l_heldPieceS_1 a0 (a0.length + 1) a1 0 = .inl (-1) := by rw [← e1]; simp only [l_heldPieceS_1, h1, h2, h3, cond_true, cond_false]
        simp
        refine retRd (rv := [.tmp 4]) rfl ?_
        have f2 := l_heldPieceS.eq_1 a0 a1
        simp only [x2, cond_true, cond_false] at f2
        simp [f2]
      · have q3 := h3; try simp at q3
        simp [i1, rowAt_map]
        repeat ((with_reducible refine And.intro ?_ ?_); focus (intros; omega))
        refine condR (c := ((nth a0 v1_1).Mark != (l_heldIntS (nth a0 v1_1).Ints (W (v1_0 + 1))))) (by simp) (fun k5 h4 => ?_) (fun k5 h4 => ?_)
        · have q4 := h4; try simp at q4
          have x3 : l_heldPieceS_1 a0 (a0.length + 1) a1 0 = .inl (-1) := by rw [← e1]; simp only [l_heldPieceS_1, h1, h2, h3, h4, cond_true, cond_false]
          simp
          refine retRd (rv := [.tmp 4]) rfl ?_
          have f3 := l_heldPieceS.eq_1 a0 a1
          simp only [x3, cond_true, cond_false] at f3
          simp [f3]
        · have q4 := h4; try simp at q4
          simp
          refine nxtI ⟨(p1, (W ((l_heldIntS (nth a0 v1_1).Ints (W (v1_0 + 1))) + 1)), (v1_1 + 1)), ?_, ?_⟩ (by simp) (wk_keep (by simp [w1]))
          · rw [← e1]; simp only [l_heldPieceS_1, h1, h2, h3, h4, cond_true, cond_false]
          · first | omega | (simp at *; omega)
  · have q1 := h1; try simp at q1
    have x4 : l_heldPieceS_1 a0 (a0.length + 1) a1 0 = .inr v1_0 := by rw [← e1]; simp only [l_heldPieceS_1, h1, cond_true, cond_false]
    simp
    refine retRd (rv := [.tmp 4]) rfl ?_
    have f4 := l_heldPieceS.eq_1 a0 a1
    simp only [x4, cond_true, cond_false] at f4
    simp [f4]
theorem l_heldStepS_ok (a0 : List TStep) (a1 : Int) : SoundAt Tryz.prog 244 false [[.sl 2 (a0.map TStep.row)], [.int .i64 a1]] [[.int .i64 (l_heldStepS a0 a1)]] := by
  refine sound_of Tryz.func244 rfl (by kernel_rfl) ?_
  simp [Tryz.ntmps244]
  refine okL fun k1 => ?_
  refine loopI (ι := { s : Nat × Int × Nat // l_heldStepS_1 a0 s.1 s.2.1 s.2.2 = l_heldStepS_1 a0 (a0.length + 1) a1 0 ∧ (1 ≤ s.1 ∧ a0.length < s.1 + s.2.2 ∧ s.2.2 ≤ a0.length) }) (fun s => stOf 33 [(0, .one (.d (.sl 2 (a0.map TStep.row))), []), (1, .one (.d (.int .i64 s.1.2.1)), []), (5, .one (.d (.int .i64 (↑s.1.2.2 : Int))), [])]) (fun s => s.1.1) ⟨((a0.length + 1), a1, 0), rfl, by first | omega | (dsimp only; omega) | simp⟩ (wk_keep (by simp)) ?_
  rintro ⟨⟨n1, v1_0, v1_1⟩, e1, j1⟩
  try dsimp only at e1 j1
  obtain ⟨p1, rfl⟩ : ∃ p, n1 = p + 1 := ⟨n1 - 1, by omega⟩
  simp
  refine condR (c := (decide ((↑v1_1 : Int) < (↑a0.length : Int)))) (by simp) (fun k2 h1 => ?_) (fun k2 h1 => ?_)
  · have q1 := h1; try simp at q1
    have i1 : v1_1 < a0.length := by simpa using h1
    have m2 : a0.length ≤ 9223372036854775807 := by simpa using k2 0 _ rfl
    have w1 : IntKind.i64.wrap ((v1_1 : Int) + 1) = (v1_1 : Int) + 1 := wrap_of (by omega) (by omega)
    simp [i1, rowAt_map]
    repeat ((with_reducible refine And.intro ?_ ?_); focus (intros; omega))
    refine condR (c := ((nth a0 v1_1).Digest != v1_0)) (by simp) (fun k3 h2 => ?_) (fun k3 h2 => ?_)
    · have q2 := h2; try simp at q2
      have x1 : l_heldStepS_1 a0 (a0.length + 1) a1 0 = .inl (-1) := by rw [← e1]; simp only [l_heldStepS_1, h1, h2, cond_true, cond_false]
      simp
      refine retRd (rv := [.tmp 4]) rfl ?_
      have f1 := l_heldStepS.eq_1 a0 a1
      simp only [x1, cond_true, cond_false] at f1
      simp [f1]
    · have q2 := h2; try simp at q2
      simp [i1, rowAt_map]
      repeat ((with_reducible refine And.intro ?_ ?_); focus (intros; omega))
      refine condR (c := (!((nth a0 v1_1).Left == ((Int.tmod (W (v1_0 + 1)) 3) == 0)))) (by simp) (fun k4 h3 => ?_) (fun k4 h3 => ?_)
      · have q3 := h3; try simp at q3
        have x2 : l_heldStepS_1 a0 (a0.length + 1) a1 0 = .inl (-1) := by rw [← e1]; simp only [l_heldStepS_1, h1, h2, h3, cond_true, cond_false]
        simp
        refine retRd (rv := [.tmp 4]) rfl ?_
        have f2 := l_heldStepS.eq_1 a0 a1
        simp only [x2, cond_true, cond_false] at f2
        simp [f2]
      · have q3 := h3; try simp at q3
        simp
        refine nxtI ⟨(p1, (W ((W (v1_0 + 1)) + 1)), (v1_1 + 1)), ?_, ?_⟩ (by simp) (wk_keep (by simp [w1]))
        · rw [← e1]; simp only [l_heldStepS_1, h1, h2, h3, cond_true, cond_false]
        · first | omega | (simp at *; omega)
  · have q1 := h1; try simp at q1
    have x3 : l_heldStepS_1 a0 (a0.length + 1) a1 0 = .inr v1_0 := by rw [← e1]; simp only [l_heldStepS_1, h1, cond_true, cond_false]
    simp
    refine retRd (rv := [.tmp 4]) rfl ?_
    have f3 := l_heldStepS.eq_1 a0 a1
    simp only [x3, cond_true, cond_false] at f3
    simp [f3]
theorem l_heldStampS_ok (a0 : List TStamp) (a1 : Int) : SoundAt Tryz.prog 245 false [[.sl 5 (a0.map TStamp.row)], [.int .i64 a1]] [[.int .i64 (l_heldStampS a0 a1)]] := by
  refine sound_of Tryz.func245 rfl (by kernel_rfl) ?_
  simp [Tryz.ntmps245]
  refine okL fun k1 => ?_
  refine loopI (ι := { s : Nat × Int × Nat // l_heldStampS_1 a0 s.1 s.2.1 s.2.2 = l_heldStampS_1 a0 (a0.length + 1) a1 0 ∧ (1 ≤ s.1 ∧ a0.length < s.1 + s.2.2 ∧ s.2.2 ≤ a0.length) }) (fun s => stOf 58 [(0, .one (.d (.sl 5 (a0.map TStamp.row))), []), (1, .one (.d (.int .i64 s.1.2.1)), []), (5, .one (.d (.int .i64 (↑s.1.2.2 : Int))), [])]) (fun s => s.1.1) ⟨((a0.length + 1), a1, 0), rfl, by first | omega | (dsimp only; omega) | simp⟩ (wk_keep (by simp)) ?_
  rintro ⟨⟨n1, v1_0, v1_1⟩, e1, j1⟩
  try dsimp only at e1 j1
  obtain ⟨p1, rfl⟩ : ∃ p, n1 = p + 1 := ⟨n1 - 1, by omega⟩
  simp
  refine condR (c := (decide ((↑v1_1 : Int) < (↑a0.length : Int)))) (by simp) (fun k2 h1 => ?_) (fun k2 h1 => ?_)
  · have q1 := h1; try simp at q1
    have i1 : v1_1 < a0.length := by simpa using h1
    have m2 : a0.length ≤ 9223372036854775807 := by simpa using k2 0 _ rfl
    have w1 : IntKind.i64.wrap ((v1_1 : Int) + 1) = (v1_1 : Int) + 1 := wrap_of (by omega) (by omega)
    simp [i1, rowAt_map]
    repeat ((with_reducible refine And.intro ?_ ?_); focus (intros; omega))
    refine condR (c := ((nth a0 v1_1).Authority != v1_0)) (by simp) (fun k3 h2 => ?_) (fun k3 h2 => ?_)
    · have q2 := h2; try simp at q2
      have x1 : l_heldStampS_1 a0 (a0.length + 1) a1 0 = .inl (-1) := by rw [← e1]; simp only [l_heldStampS_1, h1, h2, cond_true, cond_false]
      simp
      refine retRd (rv := [.tmp 4]) rfl ?_
      have f1 := l_heldStampS.eq_1 a0 a1
      simp only [x1, cond_true, cond_false] at f1
      simp [f1]
    · have q2 := h2; try simp at q2
      simp [i1, rowAt_map]
      repeat ((with_reducible refine And.intro ?_ ?_); focus (intros; omega))
      refine condR (c := ((nth a0 v1_1).Seq != (W (v1_0 + 1)))) (by simp) (fun k4 h3 => ?_) (fun k4 h3 => ?_)
      · have q3 := h3; try simp at q3
        have x2 : l_heldStampS_1 a0 (a0.length + 1) a1 0 = .inl (-1) := by rw [← e1]; simp only [l_heldStampS_1, h1, h2, h3, cond_true, cond_false]
        simp
        refine retRd (rv := [.tmp 4]) rfl ?_
        have f2 := l_heldStampS.eq_1 a0 a1
        simp only [x2, cond_true, cond_false] at f2
        simp [f2]
      · have q3 := h3; try simp at q3
        simp [i1, rowAt_map]
        repeat ((with_reducible refine And.intro ?_ ?_); focus (intros; omega))
        refine condR (c := ((nth a0 v1_1).Time != (W ((W (v1_0 + 1)) + 1)))) (by simp) (fun k5 h4 => ?_) (fun k5 h4 => ?_)
        · have q4 := h4; try simp at q4
          have x3 : l_heldStampS_1 a0 (a0.length + 1) a1 0 = .inl (-1) := by rw [← e1]; simp only [l_heldStampS_1, h1, h2, h3, h4, cond_true, cond_false]
          simp
          refine retRd (rv := [.tmp 4]) rfl ?_
          have f3 := l_heldStampS.eq_1 a0 a1
          simp only [x3, cond_true, cond_false] at f3
          simp [f3]
        · have q4 := h4; try simp at q4
          simp [i1, rowAt_map]
          repeat ((with_reducible refine And.intro ?_ ?_); focus (intros; omega))
          refine condR (c := ((nth a0 v1_1).Digest != (W ((W ((W (v1_0 + 1)) + 1)) + 1)))) (by simp) (fun k6 h5 => ?_) (fun k6 h5 => ?_)
          · have q5 := h5; try simp at q5
            have x4 : l_heldStampS_1 a0 (a0.length + 1) a1 0 = .inl (-1) := by rw [← e1]; simp only [l_heldStampS_1, h1, h2, h3, h4, h5, cond_true, cond_false]
            simp
            refine retRd (rv := [.tmp 4]) rfl ?_
            have f4 := l_heldStampS.eq_1 a0 a1
            simp only [x4, cond_true, cond_false] at f4
            simp [f4]
          · have q5 := h5; try simp at q5
            simp [i1, rowAt_map]
            repeat ((with_reducible refine And.intro ?_ ?_); focus (intros; omega))
            refine condR (c := ((nth a0 v1_1).Mark != (W ((W ((W ((W (v1_0 + 1)) + 1)) + 1)) + 1)))) (by simp) (fun k7 h6 => ?_) (fun k7 h6 => ?_)
            · have q6 := h6; try simp at q6
              have x5 : l_heldStampS_1 a0 (a0.length + 1) a1 0 = .inl (-1) := by rw [← e1]; simp only [l_heldStampS_1, h1, h2, h3, h4, h5, h6, cond_true, cond_false]
              simp
              refine retRd (rv := [.tmp 4]) rfl ?_
              have f5 := l_heldStampS.eq_1 a0 a1
              simp only [x5, cond_true, cond_false] at f5
              simp [f5]
            · have q6 := h6; try simp at q6
              simp
              refine nxtI ⟨(p1, (W ((W ((W ((W ((W (v1_0 + 1)) + 1)) + 1)) + 1)) + 1)), (v1_1 + 1)), ?_, ?_⟩ (by simp) (wk_keep (by simp [w1]))
              · rw [← e1]; simp only [l_heldStampS_1, h1, h2, h3, h4, h5, h6, cond_true, cond_false]
              · first | omega | (simp at *; omega)
  · have q1 := h1; try simp at q1
    have x6 : l_heldStampS_1 a0 (a0.length + 1) a1 0 = .inr v1_0 := by rw [← e1]; simp only [l_heldStampS_1, h1, cond_true, cond_false]
    simp
    refine retRd (rv := [.tmp 4]) rfl ?_
    have f6 := l_heldStampS.eq_1 a0 a1
    simp only [x6, cond_true, cond_false] at f6
    simp [f6]
theorem l_heldRenewalS_ok (a0 : List TRenewal) (a1 : Int) : SoundAt Tryz.prog 199 false [[.sl 5 (a0.map TRenewal.row)], [.int .i64 a1]] [[.int .i64 (l_heldRenewalS a0 a1)]] := by
  refine sound_of Tryz.func199 rfl (by kernel_rfl) ?_
  simp [Tryz.ntmps199]
  refine okL fun k1 => ?_
  refine loopI (ι := { s : Nat × Int × Nat // l_heldRenewalS_1 a0 s.1 s.2.1 s.2.2 = l_heldRenewalS_1 a0 (a0.length + 1) a1 0 ∧ (1 ≤ s.1 ∧ a0.length < s.1 + s.2.2 ∧ s.2.2 ≤ a0.length) }) (fun s => stOf 58 [(0, .one (.d (.sl 5 (a0.map TRenewal.row))), []), (1, .one (.d (.int .i64 s.1.2.1)), []), (5, .one (.d (.int .i64 (↑s.1.2.2 : Int))), [])]) (fun s => s.1.1) ⟨((a0.length + 1), a1, 0), rfl, by first | omega | (dsimp only; omega) | simp⟩ (wk_keep (by simp)) ?_
  rintro ⟨⟨n1, v1_0, v1_1⟩, e1, j1⟩
  try dsimp only at e1 j1
  obtain ⟨p1, rfl⟩ : ∃ p, n1 = p + 1 := ⟨n1 - 1, by omega⟩
  simp
  refine condR (c := (decide ((↑v1_1 : Int) < (↑a0.length : Int)))) (by simp) (fun k2 h1 => ?_) (fun k2 h1 => ?_)
  · have q1 := h1; try simp at q1
    have i1 : v1_1 < a0.length := by simpa using h1
    have m2 : a0.length ≤ 9223372036854775807 := by simpa using k2 0 _ rfl
    have w1 : IntKind.i64.wrap ((v1_1 : Int) + 1) = (v1_1 : Int) + 1 := wrap_of (by omega) (by omega)
    simp [i1, rowAt_map]
    repeat ((with_reducible refine And.intro ?_ ?_); focus (intros; omega))
    refine condR (c := ((nth a0 v1_1).Count != v1_0)) (by simp) (fun k3 h2 => ?_) (fun k3 h2 => ?_)
    · have q2 := h2; try simp at q2
      have x1 : l_heldRenewalS_1 a0 (a0.length + 1) a1 0 = .inl (-1) := by rw [← e1]; simp only [l_heldRenewalS_1, h1, h2, cond_true, cond_false]
      simp
      refine retRd (rv := [.tmp 4]) rfl ?_
      have f1 := l_heldRenewalS.eq_1 a0 a1
      simp only [x1, cond_true, cond_false] at f1
      simp [f1]
    · have q2 := h2; try simp at q2
      simp [i1, rowAt_map]
      repeat ((with_reducible refine And.intro ?_ ?_); focus (intros; omega))
      refine condR (c := ((nth a0 v1_1).Method != (W (v1_0 + 1)))) (by simp) (fun k4 h3 => ?_) (fun k4 h3 => ?_)
      · have q3 := h3; try simp at q3
        have x2 : l_heldRenewalS_1 a0 (a0.length + 1) a1 0 = .inl (-1) := by rw [← e1]; simp only [l_heldRenewalS_1, h1, h2, h3, cond_true, cond_false]
        simp
        refine retRd (rv := [.tmp 4]) rfl ?_
        have f2 := l_heldRenewalS.eq_1 a0 a1
        simp only [x2, cond_true, cond_false] at f2
        simp [f2]
      · have q3 := h3; try simp at q3
        simp [i1, rowAt_map]
        repeat ((with_reducible refine And.intro ?_ ?_); focus (intros; omega))
        refine condR (c := ((nth a0 v1_1).Root != (W ((W (v1_0 + 1)) + 1)))) (by simp) (fun k5 h4 => ?_) (fun k5 h4 => ?_)
        · have q4 := h4; try simp at q4
          have x3 : l_heldRenewalS_1 a0 (a0.length + 1) a1 0 = .inl (-1) := by rw [← e1]; simp only [l_heldRenewalS_1, h1, h2, h3, h4, cond_true, cond_false]
          simp
          refine retRd (rv := [.tmp 4]) rfl ?_
          have f3 := l_heldRenewalS.eq_1 a0 a1
          simp only [x3, cond_true, cond_false] at f3
          simp [f3]
        · have q4 := h4; try simp at q4
          simp [i1, rowAt_map]
          repeat ((with_reducible refine And.intro ?_ ?_); focus (intros; omega))
          refine callRd rfl rfl rfl rfl (l_heldStepS_ok (nth a0 v1_1).Path (W ((W ((W (v1_0 + 1)) + 1)) + 1))) (by first | (simp; done) | (simp [W, w1]; done)) (by simp) (by simp) ?_
          simp
          refine condR (c := (decide ((l_heldStepS (nth a0 v1_1).Path (W ((W ((W (v1_0 + 1)) + 1)) + 1))) < 0))) (by simp) (fun k6 h5 => ?_) (fun k6 h5 => ?_)
          · have q5 := h5; try simp at q5
            have x4 : l_heldRenewalS_1 a0 (a0.length + 1) a1 0 = .inl (-1) := by rw [← e1]; simp only [l_heldRenewalS_1, h1, h2, h3, h4, h5, cond_true, cond_false]
            simp
            refine retRd (rv := [.tmp 4]) rfl ?_
            have f4 := l_heldRenewalS.eq_1 a0 a1
            simp only [x4, cond_true, cond_false] at f4
            simp [f4]
          · have q5 := h5; try simp at q5
            simp [i1, rowAt_map]
            repeat ((with_reducible refine And.intro ?_ ?_); focus (intros; omega))
            refine callRd rfl rfl rfl rfl (l_heldStampS_ok (nth a0 v1_1).Stamps (l_heldStepS (nth a0 v1_1).Path (W ((W ((W (v1_0 + 1)) + 1)) + 1)))) (by first | (simp; done) | (simp [W, w1]; done)) (by simp) (by simp) ?_
            simp
            refine condR (c := (decide ((l_heldStampS (nth a0 v1_1).Stamps (l_heldStepS (nth a0 v1_1).Path (W ((W ((W (v1_0 + 1)) + 1)) + 1)))) < 0))) (by simp) (fun k7 h6 => ?_) (fun k7 h6 => ?_)
            · have q6 := h6; try simp at q6
              have x5 : l_heldRenewalS_1 a0 (a0.length + 1) a1 0 = .inl (-1) := by rw [← e1]; simp only [l_heldRenewalS_1, h1, h2, h3, h4, h5, h6, cond_true, cond_false]
              simp
              refine retRd (rv := [.tmp 4]) rfl ?_
              have f5 := l_heldRenewalS.eq_1 a0 a1
              simp only [x5, cond_true, cond_false] at f5
              simp [f5]
            · have q6 := h6; try simp at q6
              simp
              refine nxtI ⟨(p1, (l_heldStampS (nth a0 v1_1).Stamps (l_heldStepS (nth a0 v1_1).Path (W ((W ((W (v1_0 + 1)) + 1)) + 1)))), (v1_1 + 1)), ?_, ?_⟩ (by simp) (wk_keep (by simp [w1]))
              · rw [← e1]; simp only [l_heldRenewalS_1, h1, h2, h3, h4, h5, h6, cond_true, cond_false]
              · first | omega | (simp at *; omega)
  · have q1 := h1; try simp at q1
    have x6 : l_heldRenewalS_1 a0 (a0.length + 1) a1 0 = .inr v1_0 := by rw [← e1]; simp only [l_heldRenewalS_1, h1, cond_true, cond_false]
    simp
    refine retRd (rv := [.tmp 4]) rfl ?_
    have f6 := l_heldRenewalS.eq_1 a0 a1
    simp only [x6, cond_true, cond_false] at f6
    simp [f6]
theorem l_heldItemS_ok (a0 : List TItem) (a1 : Int) : SoundAt Tryz.prog 136 false [[.sl 16 (a0.map TItem.row)], [.int .i64 a1]] [[.int .i64 (l_heldItemS a0 a1)]] := by
  refine sound_of Tryz.func136 rfl (by kernel_rfl) ?_
  simp [Tryz.ntmps136]
  refine okL fun k1 => ?_
  refine loopI (ι := { s : Nat × Int × Nat // l_heldItemS_1 a0 s.1 s.2.1 s.2.2 = l_heldItemS_1 a0 (a0.length + 1) a1 0 ∧ (1 ≤ s.1 ∧ a0.length < s.1 + s.2.2 ∧ s.2.2 ≤ a0.length) }) (fun s => stOf 171 [(0, .one (.d (.sl 16 (a0.map TItem.row))), []), (1, .one (.d (.int .i64 s.1.2.1)), []), (5, .one (.d (.int .i64 (↑s.1.2.2 : Int))), [])]) (fun s => s.1.1) ⟨((a0.length + 1), a1, 0), rfl, by first | omega | (dsimp only; omega) | simp⟩ (wk_keep (by simp)) ?_
  rintro ⟨⟨n1, v1_0, v1_1⟩, e1, j1⟩
  try dsimp only at e1 j1
  obtain ⟨p1, rfl⟩ : ∃ p, n1 = p + 1 := ⟨n1 - 1, by omega⟩
  simp
  refine condR (c := (decide ((↑v1_1 : Int) < (↑a0.length : Int)))) (by simp) (fun k2 h1 => ?_) (fun k2 h1 => ?_)
  · have q1 := h1; try simp at q1
    have i1 : v1_1 < a0.length := by simpa using h1
    have m2 : a0.length ≤ 9223372036854775807 := by simpa using k2 0 _ rfl
    have w1 : IntKind.i64.wrap ((v1_1 : Int) + 1) = (v1_1 : Int) + 1 := wrap_of (by omega) (by omega)
    simp [i1, rowAt_map]
    repeat ((with_reducible refine And.intro ?_ ?_); focus (intros; omega))
    refine condR (c := ((nth a0 v1_1).Id != v1_0)) (by simp) (fun k3 h2 => ?_) (fun k3 h2 => ?_)
    · have q2 := h2; try simp at q2
      have x1 : l_heldItemS_1 a0 (a0.length + 1) a1 0 = .inl (-1) := by rw [← e1]; simp only [l_heldItemS_1, h1, h2, cond_true, cond_false]
      simp
      refine retRd (rv := [.tmp 4]) rfl ?_
      have f1 := l_heldItemS.eq_1 a0 a1
      simp only [x1, cond_true, cond_false] at f1
      simp [f1]
    · have q2 := h2; try simp at q2
      simp [i1, rowAt_map]
      repeat ((with_reducible refine And.intro ?_ ?_); focus (intros; omega))
      refine condR (c := ((nth a0 v1_1).Keep != (W (v1_0 + 1)))) (by simp) (fun k4 h3 => ?_) (fun k4 h3 => ?_)
      · have q3 := h3; try simp at q3
        have x2 : l_heldItemS_1 a0 (a0.length + 1) a1 0 = .inl (-1) := by rw [← e1]; simp only [l_heldItemS_1, h1, h2, h3, cond_true, cond_false]
        simp
        refine retRd (rv := [.tmp 4]) rfl ?_
        have f2 := l_heldItemS.eq_1 a0 a1
        simp only [x2, cond_true, cond_false] at f2
        simp [f2]
      · have q3 := h3; try simp at q3
        simp [i1, rowAt_map]
        repeat ((with_reducible refine And.intro ?_ ?_); focus (intros; omega))
        refine condR (c := ((nth a0 v1_1).Doc.Title != (W ((W (v1_0 + 1)) + 1)))) (by simp) (fun k5 h4 => ?_) (fun k5 h4 => ?_)
        · have q4 := h4; try simp at q4
          have x3 : l_heldItemS_1 a0 (a0.length + 1) a1 0 = .inl (-1) := by rw [← e1]; simp only [l_heldItemS_1, h1, h2, h3, h4, cond_true, cond_false]
          simp
          refine retRd (rv := [.tmp 4]) rfl ?_
          have f3 := l_heldItemS.eq_1 a0 a1
          simp only [x3, cond_true, cond_false] at f3
          simp [f3]
        · have q4 := h4; try simp at q4
          simp [i1, rowAt_map]
          repeat ((with_reducible refine And.intro ?_ ?_); focus (intros; omega))
          refine callRd rfl rfl rfl rfl (l_heldStringS_ok (nth a0 v1_1).Doc.Parts (W ((W ((W (v1_0 + 1)) + 1)) + 1))) (by first | (simp; done) | (simp [W, w1]; done)) (by simp) (by simp) ?_
          simp
          refine condR (c := (decide ((l_heldStringS (nth a0 v1_1).Doc.Parts (W ((W ((W (v1_0 + 1)) + 1)) + 1))) < 0))) (by simp) (fun k6 h5 => ?_) (fun k6 h5 => ?_)
          · have q5 := h5; try simp at q5
            have x4 : l_heldItemS_1 a0 (a0.length + 1) a1 0 = .inl (-1) := by rw [← e1]; simp only [l_heldItemS_1, h1, h2, h3, h4, h5, cond_true, cond_false]
            simp
            refine retRd (rv := [.tmp 4]) rfl ?_
            have f4 := l_heldItemS.eq_1 a0 a1
            simp only [x4, cond_true, cond_false] at f4
            simp [f4]
          · have q5 := h5; try simp at q5
            simp [i1, rowAt_map]
            repeat ((with_reducible refine And.intro ?_ ?_); focus (intros; omega))
            refine callRd rfl rfl rfl rfl (l_heldIntS_ok (nth a0 v1_1).Doc.Salts (l_heldStringS (nth a0 v1_1).Doc.Parts (W ((W ((W (v1_0 + 1)) + 1)) + 1)))) (by first | (simp; done) | (simp [W, w1]; done)) (by simp) (by simp) ?_
            simp
            refine condR (c := (decide ((l_heldIntS (nth a0 v1_1).Doc.Salts (l_heldStringS (nth a0 v1_1).Doc.Parts (W ((W ((W (v1_0 + 1)) + 1)) + 1)))) < 0))) (by simp) (fun k7 h6 => ?_) (fun k7 h6 => ?_)
            · have q6 := h6; try simp at q6
              have x5 : l_heldItemS_1 a0 (a0.length + 1) a1 0 = .inl (-1) := by rw [← e1]; simp only [l_heldItemS_1, h1, h2, h3, h4, h5, h6, cond_true, cond_false]
              simp
              refine retRd (rv := [.tmp 4]) rfl ?_
              have f5 := l_heldItemS.eq_1 a0 a1
              simp only [x5, cond_true, cond_false] at f5
              simp [f5]
            · have q6 := h6; try simp at q6
              simp [i1, rowAt_map]
              repeat ((with_reducible refine And.intro ?_ ?_); focus (intros; omega))
              refine condR (c := ((nth a0 v1_1).Sig.Key != (l_heldIntS (nth a0 v1_1).Doc.Salts (l_heldStringS (nth a0 v1_1).Doc.Parts (W ((W ((W (v1_0 + 1)) + 1)) + 1)))))) (by simp) (fun k8 h7 => ?_) (fun k8 h7 => ?_)
              · have q7 := h7; try simp at q7
                have x6 : l_heldItemS_1 a0 (a0.length + 1) a1 0 = .inl (-1) := by rw [← e1]; simp only [l_heldItemS_1, h1, h2, h3, h4, h5, h6, h7, cond_true, cond_false]
                simp
                refine retRd (rv := [.tmp 4]) rfl ?_
                have f6 := l_heldItemS.eq_1 a0 a1
                simp only [x6, cond_true, cond_false] at f6
                simp [f6]
              · have q7 := h7; try simp at q7
                simp [i1, rowAt_map]
                repeat ((with_reducible refine And.intro ?_ ?_); focus (intros; omega))
                refine condR (c := ((nth a0 v1_1).Sig.Serial != (W ((l_heldIntS (nth a0 v1_1).Doc.Salts (l_heldStringS (nth a0 v1_1).Doc.Parts (W ((W ((W (v1_0 + 1)) + 1)) + 1)))) + 1)))) (by simp) (fun k9 h8 => ?_) (fun k9 h8 => ?_)
                · have q8 := h8; try simp at q8
                  have x7 : l_heldItemS_1 a0 (a0.length + 1) a1 0 = .inl (-1) := by rw [← e1]; simp only [l_heldItemS_1, h1, h2, h3, h4, h5, h6, h7, h8, cond_true, cond_false]
                  simp
                  refine retRd (rv := [.tmp 4]) rfl ?_
                  have f7 := l_heldItemS.eq_1 a0 a1
                  simp only [x7, cond_true, cond_false] at f7
                  simp [f7]
                · have q8 := h8; try simp at q8
                  simp [i1, rowAt_map]
                  repeat ((with_reducible refine And.intro ?_ ?_); focus (intros; omega))
                  refine condR (c := ((nth a0 v1_1).Sig.Method != (W ((W ((l_heldIntS (nth a0 v1_1).Doc.Salts (l_heldStringS (nth a0 v1_1).Doc.Parts (W ((W ((W (v1_0 + 1)) + 1)) + 1)))) + 1)) + 1)))) (by simp) (fun k10 h9 => ?_) (fun k10 h9 => ?_)
                  · have q9 := h9; try simp at q9
                    have x8 : l_heldItemS_1 a0 (a0.length + 1) a1 0 = .inl (-1) := by rw [← e1]; simp only [l_heldItemS_1, h1, h2, h3, h4, h5, h6, h7, h8, h9, cond_true, cond_false]
                    simp
                    refine retRd (rv := [.tmp 4]) rfl ?_
                    have f8 := l_heldItemS.eq_1 a0 a1
                    simp only [x8, cond_true, cond_false] at f8
                    simp [f8]
                  · have q9 := h9; try simp at q9
                    simp [i1, rowAt_map]
                    repeat ((with_reducible refine And.intro ?_ ?_); focus (intros; omega))
                    refine condR (c := ((nth a0 v1_1).Sig.Digest != (W ((W ((W ((l_heldIntS (nth a0 v1_1).Doc.Salts (l_heldStringS (nth a0 v1_1).Doc.Parts (W ((W ((W (v1_0 + 1)) + 1)) + 1)))) + 1)) + 1)) + 1)))) (by simp) (fun k11 h10 => ?_) (fun k11 h10 => ?_)
                    · have q10 := h10; try simp at q10
                      have x9 : l_heldItemS_1 a0 (a0.length + 1) a1 0 = .inl (-1) := by rw [← e1]; simp only [l_heldItemS_1, h1, h2, h3, h4, h5, h6, h7, h8, h9, h10, cond_true, cond_false]
                      simp
                      refine retRd (rv := [.tmp 4]) rfl ?_
                      have f9 := l_heldItemS.eq_1 a0 a1
                      simp only [x9, cond_true, cond_false] at f9
                      simp [f9]
                    · have q10 := h10; try simp at q10
                      simp [i1, rowAt_map]
                      repeat ((with_reducible refine And.intro ?_ ?_); focus (intros; omega))
                      refine condR (c := ((nth a0 v1_1).Sig.Commit != (W ((W ((W ((W ((l_heldIntS (nth a0 v1_1).Doc.Salts (l_heldStringS (nth a0 v1_1).Doc.Parts (W ((W ((W (v1_0 + 1)) + 1)) + 1)))) + 1)) + 1)) + 1)) + 1)))) (by simp) (fun k12 h11 => ?_) (fun k12 h11 => ?_)
                      · have q11 := h11; try simp at q11
                        have x10 : l_heldItemS_1 a0 (a0.length + 1) a1 0 = .inl (-1) := by rw [← e1]; simp only [l_heldItemS_1, h1, h2, h3, h4, h5, h6, h7, h8, h9, h10, h11, cond_true, cond_false]
                        simp
                        refine retRd (rv := [.tmp 4]) rfl ?_
                        have f10 := l_heldItemS.eq_1 a0 a1
                        simp only [x10, cond_true, cond_false] at f10
                        simp [f10]
                      · have q11 := h11; try simp at q11
                        simp [i1, rowAt_map]
                        repeat ((with_reducible refine And.intro ?_ ?_); focus (intros; omega))
                        refine condR (c := ((nth a0 v1_1).Sig.Org != (W ((W ((W ((W ((W ((l_heldIntS (nth a0 v1_1).Doc.Salts (l_heldStringS (nth a0 v1_1).Doc.Parts (W ((W ((W (v1_0 + 1)) + 1)) + 1)))) + 1)) + 1)) + 1)) + 1)) + 1)))) (by simp) (fun k13 h12 => ?_) (fun k13 h12 => ?_)
                        · have q12 := h12; try simp at q12
                          have x11 : l_heldItemS_1 a0 (a0.length + 1) a1 0 = .inl (-1) := by rw [← e1]; simp only [l_heldItemS_1, h1, h2, h3, h4, h5, h6, h7, h8, h9, h10, h11, h12, cond_true, cond_false]
                          simp
                          refine retRd (rv := [.tmp 4]) rfl ?_
                          have f11 := l_heldItemS.eq_1 a0 a1
                          simp only [x11, cond_true, cond_false] at f11
                          simp [f11]
                        · have q12 := h12; try simp at q12
                          simp [i1, rowAt_map]
                          repeat ((with_reducible refine And.intro ?_ ?_); focus (intros; omega))
                          refine condR (c := ((nth a0 v1_1).Sig.Before != (W ((W ((W ((W ((W ((W ((l_heldIntS (nth a0 v1_1).Doc.Salts (l_heldStringS (nth a0 v1_1).Doc.Parts (W ((W ((W (v1_0 + 1)) + 1)) + 1)))) + 1)) + 1)) + 1)) + 1)) + 1)) + 1)))) (by simp) (fun k14 h13 => ?_) (fun k14 h13 => ?_)
                          · have q13 := h13; try simp at q13
                            have x12 : l_heldItemS_1 a0 (a0.length + 1) a1 0 = .inl (-1) := by rw [← e1]; simp only [l_heldItemS_1, h1, h2, h3, h4, h5, h6, h7, h8, h9, h10, h11, h12, h13, cond_true, cond_false]
                            simp
                            refine retRd (rv := [.tmp 4]) rfl ?_
                            have f12 := l_heldItemS.eq_1 a0 a1
                            simp only [x12, cond_true, cond_false] at f12
                            simp [f12]
                          · have q13 := h13; try simp at q13
                            simp [i1, rowAt_map]
                            repeat ((with_reducible refine And.intro ?_ ?_); focus (intros; omega))
                            refine condR (c := ((nth a0 v1_1).Sig.After != (W ((W ((W ((W ((W ((W ((W ((l_heldIntS (nth a0 v1_1).Doc.Salts (l_heldStringS (nth a0 v1_1).Doc.Parts (W ((W ((W (v1_0 + 1)) + 1)) + 1)))) + 1)) + 1)) + 1)) + 1)) + 1)) + 1)) + 1)))) (by simp) (fun k15 h14 => ?_) (fun k15 h14 => ?_)
                            · have q14 := h14; try simp at q14
                              have x13 : l_heldItemS_1 a0 (a0.length + 1) a1 0 = .inl (-1) := by rw [← e1]; simp only [l_heldItemS_1, h1, h2, h3, h4, h5, h6, h7, h8, h9, h10, h11, h12, h13, h14, cond_true, cond_false]
                              simp
                              refine retRd (rv := [.tmp 4]) rfl ?_
                              have f13 := l_heldItemS.eq_1 a0 a1
                              simp only [x13, cond_true, cond_false] at f13
                              simp [f13]
                            · have q14 := h14; try simp at q14
                              simp [i1, rowAt_map]
                              repeat ((with_reducible refine And.intro ?_ ?_); focus (intros; omega))
                              refine condR (c := ((nth a0 v1_1).Sig.Mark != (W ((W ((W ((W ((W ((W ((W ((W ((l_heldIntS (nth a0 v1_1).Doc.Salts (l_heldStringS (nth a0 v1_1).Doc.Parts (W ((W ((W (v1_0 + 1)) + 1)) + 1)))) + 1)) + 1)) + 1)) + 1)) + 1)) + 1)) + 1)) + 1)))) (by simp) (fun k16 h15 => ?_) (fun k16 h15 => ?_)
                              · have q15 := h15; try simp at q15
                                have x14 : l_heldItemS_1 a0 (a0.length + 1) a1 0 = .inl (-1) := by rw [← e1]; simp only [l_heldItemS_1, h1, h2, h3, h4, h5, h6, h7, h8, h9, h10, h11, h12, h13, h14, h15, cond_true, cond_false]
                                simp
                                refine retRd (rv := [.tmp 4]) rfl ?_
                                have f14 := l_heldItemS.eq_1 a0 a1
                                simp only [x14, cond_true, cond_false] at f14
                                simp [f14]
                              · have q15 := h15; try simp at q15
                                simp [i1, rowAt_map]
                                repeat ((with_reducible refine And.intro ?_ ?_); focus (intros; omega))
                                refine callRd rfl rfl rfl rfl (l_heldPieceS_ok (nth a0 v1_1).Strand.Pieces (W ((W ((W ((W ((W ((W ((W ((W ((W ((l_heldIntS (nth a0 v1_1).Doc.Salts (l_heldStringS (nth a0 v1_1).Doc.Parts (W ((W ((W (v1_0 + 1)) + 1)) + 1)))) + 1)) + 1)) + 1)) + 1)) + 1)) + 1)) + 1)) + 1)) + 1))) (by first | (simp; done) | (simp [W, w1]; done)) (by simp) (by simp) ?_
                                simp
                                refine condR (c := (decide ((l_heldPieceS (nth a0 v1_1).Strand.Pieces (W ((W ((W ((W ((W ((W ((W ((W ((W ((l_heldIntS (nth a0 v1_1).Doc.Salts (l_heldStringS (nth a0 v1_1).Doc.Parts (W ((W ((W (v1_0 + 1)) + 1)) + 1)))) + 1)) + 1)) + 1)) + 1)) + 1)) + 1)) + 1)) + 1)) + 1))) < 0))) (by simp) (fun k17 h16 => ?_) (fun k17 h16 => ?_)
                                · have q16 := h16; try simp at q16
                                  have x15 : l_heldItemS_1 a0 (a0.length + 1) a1 0 = .inl (-1) := by rw [← e1]; simp only [l_heldItemS_1, h1, h2, h3, h4, h5, h6, h7, h8, h9, h10, h11, h12, h13, h14, h15, h16, cond_true, cond_false]
                                  simp
                                  refine retRd (rv := [.tmp 4]) rfl ?_
                                  have f15 := l_heldItemS.eq_1 a0 a1
                                  simp only [x15, cond_true, cond_false] at f15
                                  simp [f15]
                                · have q16 := h16; try simp at q16
                                  simp [i1, rowAt_map]
                                  repeat ((with_reducible refine And.intro ?_ ?_); focus (intros; omega))
                                  refine callRd rfl rfl rfl rfl (l_heldRenewalS_ok (nth a0 v1_1).Strand.Chain (l_heldPieceS (nth a0 v1_1).Strand.Pieces (W ((W ((W ((W ((W ((W ((W ((W ((W ((l_heldIntS (nth a0 v1_1).Doc.Salts (l_heldStringS (nth a0 v1_1).Doc.Parts (W ((W ((W (v1_0 + 1)) + 1)) + 1)))) + 1)) + 1)) + 1)) + 1)) + 1)) + 1)) + 1)) + 1)) + 1)))) (by first | (simp; done) | (simp [W, w1]; done)) (by simp) (by simp) ?_
                                  simp
                                  refine condR (c := (decide ((l_heldRenewalS (nth a0 v1_1).Strand.Chain (l_heldPieceS (nth a0 v1_1).Strand.Pieces (W ((W ((W ((W ((W ((W ((W ((W ((W ((l_heldIntS (nth a0 v1_1).Doc.Salts (l_heldStringS (nth a0 v1_1).Doc.Parts (W ((W ((W (v1_0 + 1)) + 1)) + 1)))) + 1)) + 1)) + 1)) + 1)) + 1)) + 1)) + 1)) + 1)) + 1)))) < 0))) (by simp) (fun k18 h17 => ?_) (fun k18 h17 => ?_)
                                  · have q17 := h17; try simp at q17
                                    have x16 : l_heldItemS_1 a0 (a0.length + 1) a1 0 = .inl (-1) := by rw [← e1]; simp only [l_heldItemS_1, h1, h2, h3, h4, h5, h6, h7, h8, h9, h10, h11, h12, h13, h14, h15, h16, h17, cond_true, cond_false]
                                    simp
                                    refine retRd (rv := [.tmp 4]) rfl ?_
                                    have f16 := l_heldItemS.eq_1 a0 a1
                                    simp only [x16, cond_true, cond_false] at f16
                                    simp [f16]
                                  · have q17 := h17; try simp at q17
                                    simp
                                    refine nxtI ⟨(p1, (l_heldRenewalS (nth a0 v1_1).Strand.Chain (l_heldPieceS (nth a0 v1_1).Strand.Pieces (W ((W ((W ((W ((W ((W ((W ((W ((W ((l_heldIntS (nth a0 v1_1).Doc.Salts (l_heldStringS (nth a0 v1_1).Doc.Parts (W ((W ((W (v1_0 + 1)) + 1)) + 1)))) + 1)) + 1)) + 1)) + 1)) + 1)) + 1)) + 1)) + 1)) + 1)))), (v1_1 + 1)), ?_, ?_⟩ (by simp) (wk_keep (by simp [w1]))
                                    · rw [← e1]; simp only [l_heldItemS_1, h1, h2, h3, h4, h5, h6, h7, h8, h9, h10, h11, h12, h13, h14, h15, h16, h17, cond_true, cond_false]
                                    · first | omega | (simp at *; omega)
  · have q1 := h1; try simp at q1
    have x17 : l_heldItemS_1 a0 (a0.length + 1) a1 0 = .inr v1_0 := by rw [← e1]; simp only [l_heldItemS_1, h1, cond_true, cond_false]
    simp
    refine retRd (rv := [.tmp 4]) rfl ?_
    have f17 := l_heldItemS.eq_1 a0 a1
    simp only [x17, cond_true, cond_false] at f17
    simp [f17]
theorem l_heldArchiveS_ok (a0 : List TArchive) (a1 : Int) : SoundAt Tryz.prog 69 false [[.sl 2 (a0.map TArchive.row)], [.int .i64 a1]] [[.int .i64 (l_heldArchiveS a0 a1)]] := by
  refine sound_of Tryz.func69 rfl (by kernel_rfl) ?_
  simp [Tryz.ntmps69]
  refine okL fun k1 => ?_
  refine loopI (ι := { s : Nat × Int × Nat // l_heldArchiveS_1 a0 s.1 s.2.1 s.2.2 = l_heldArchiveS_1 a0 (a0.length + 1) a1 0 ∧ (1 ≤ s.1 ∧ a0.length < s.1 + s.2.2 ∧ s.2.2 ≤ a0.length) }) (fun s => stOf 31 [(0, .one (.d (.sl 2 (a0.map TArchive.row))), []), (1, .one (.d (.int .i64 s.1.2.1)), []), (5, .one (.d (.int .i64 (↑s.1.2.2 : Int))), [])]) (fun s => s.1.1) ⟨((a0.length + 1), a1, 0), rfl, by first | omega | (dsimp only; omega) | simp⟩ (wk_keep (by simp)) ?_
  rintro ⟨⟨n1, v1_0, v1_1⟩, e1, j1⟩
  try dsimp only at e1 j1
  obtain ⟨p1, rfl⟩ : ∃ p, n1 = p + 1 := ⟨n1 - 1, by omega⟩
  simp
  refine condR (c := (decide ((↑v1_1 : Int) < (↑a0.length : Int)))) (by simp) (fun k2 h1 => ?_) (fun k2 h1 => ?_)
  · have q1 := h1; try simp at q1
    have i1 : v1_1 < a0.length := by simpa using h1
    have m2 : a0.length ≤ 9223372036854775807 := by simpa using k2 0 _ rfl
    have w1 : IntKind.i64.wrap ((v1_1 : Int) + 1) = (v1_1 : Int) + 1 := wrap_of (by omega) (by omega)
    simp [i1, rowAt_map]
    repeat ((with_reducible refine And.intro ?_ ?_); focus (intros; omega))
    refine condR (c := ((nth a0 v1_1).Id != v1_0)) (by simp) (fun k3 h2 => ?_) (fun k3 h2 => ?_)
    · have q2 := h2; try simp at q2
      have x1 : l_heldArchiveS_1 a0 (a0.length + 1) a1 0 = .inl (-1) := by rw [← e1]; simp only [l_heldArchiveS_1, h1, h2, cond_true, cond_false]
      simp
      refine retRd (rv := [.tmp 4]) rfl ?_
      have f1 := l_heldArchiveS.eq_1 a0 a1
      simp only [x1, cond_true, cond_false] at f1
      simp [f1]
    · have q2 := h2; try simp at q2
      simp [i1, rowAt_map]
      repeat ((with_reducible refine And.intro ?_ ?_); focus (intros; omega))
      refine callRd rfl rfl rfl rfl (l_heldItemS_ok (nth a0 v1_1).Items (W (v1_0 + 1))) (by first | (simp; done) | (simp [W, w1]; done)) (by simp) (by simp) ?_
      simp
      refine condR (c := (decide ((l_heldItemS (nth a0 v1_1).Items (W (v1_0 + 1))) < 0))) (by simp) (fun k4 h3 => ?_) (fun k4 h3 => ?_)
      · have q3 := h3; try simp at q3
        have x2 : l_heldArchiveS_1 a0 (a0.length + 1) a1 0 = .inl (-1) := by rw [← e1]; simp only [l_heldArchiveS_1, h1, h2, h3, cond_true, cond_false]
        simp
        refine retRd (rv := [.tmp 4]) rfl ?_
        have f2 := l_heldArchiveS.eq_1 a0 a1
        simp only [x2, cond_true, cond_false] at f2
        simp [f2]
      · have q3 := h3; try simp at q3
        simp
        refine nxtI ⟨(p1, (l_heldItemS (nth a0 v1_1).Items (W (v1_0 + 1))), (v1_1 + 1)), ?_, ?_⟩ (by simp) (wk_keep (by simp [w1]))
        · rw [← e1]; simp only [l_heldArchiveS_1, h1, h2, h3, cond_true, cond_false]
        · first | omega | (simp at *; omega)
  · have q1 := h1; try simp at q1
    have x3 : l_heldArchiveS_1 a0 (a0.length + 1) a1 0 = .inr v1_0 := by rw [← e1]; simp only [l_heldArchiveS_1, h1, cond_true, cond_false]
    simp
    refine retRd (rv := [.tmp 4]) rfl ?_
    have f3 := l_heldArchiveS.eq_1 a0 a1
    simp only [x3, cond_true, cond_false] at f3
    simp [f3]
theorem l_heldWorld_ok (a0 : TWorld) (a1 : Int) : SoundAt Tryz.prog 24 false [a0.row, [.int .i64 a1]] [[.int .i64 (l_heldWorld a0 a1)]] := by
  refine sound_of Tryz.func24 rfl (by kernel_rfl) ?_
  simp [Tryz.ntmps24]
  refine callRd rfl rfl rfl rfl (l_heldFrame_ok a0.Frame a1) (by simp) (by simp) (by simp) ?_
  simp
  refine condR (c := (decide ((l_heldFrame a0.Frame a1) < 0))) (by simp) (fun k1 h1 => ?_) (fun k1 h1 => ?_)
  · have q1 := h1; try simp at q1
    simp
    refine retRd (rv := [.tmp 4]) rfl ?_
    have f1 := l_heldWorld.eq_1 a0 a1
    simp only [h1, cond_true, cond_false] at f1
    simp [f1]
  · have q1 := h1; try simp at q1
    simp
    refine callRd rfl rfl rfl rfl (l_heldCertS_ok a0.Certs (l_heldFrame a0.Frame a1)) (by simp) (by simp) (by simp) ?_
    simp
    refine condR (c := (decide ((l_heldCertS a0.Certs (l_heldFrame a0.Frame a1)) < 0))) (by simp) (fun k2 h2 => ?_) (fun k2 h2 => ?_)
    · have q2 := h2; try simp at q2
      simp
      refine retRd (rv := [.tmp 4]) rfl ?_
      have f2 := l_heldWorld.eq_1 a0 a1
      simp only [h1, h2, cond_true, cond_false] at f2
      simp [f2]
    · have q2 := h2; try simp at q2
      simp
      refine callRd rfl rfl rfl rfl (l_heldIntS_ok a0.Ended (l_heldCertS a0.Certs (l_heldFrame a0.Frame a1))) (by simp) (by simp) (by simp) ?_
      simp
      refine condR (c := (decide ((l_heldIntS a0.Ended (l_heldCertS a0.Certs (l_heldFrame a0.Frame a1))) < 0))) (by simp) (fun k3 h3 => ?_) (fun k3 h3 => ?_)
      · have q3 := h3; try simp at q3
        simp
        refine retRd (rv := [.tmp 4]) rfl ?_
        have f3 := l_heldWorld.eq_1 a0 a1
        simp only [h1, h2, h3, cond_true, cond_false] at f3
        simp [f3]
      · have q3 := h3; try simp at q3
        simp
        refine callRd rfl rfl rfl rfl (l_heldArchiveS_ok a0.Archives (l_heldIntS a0.Ended (l_heldCertS a0.Certs (l_heldFrame a0.Frame a1)))) (by simp) (by simp) (by simp) ?_
        simp
        refine condR (c := (decide ((l_heldArchiveS a0.Archives (l_heldIntS a0.Ended (l_heldCertS a0.Certs (l_heldFrame a0.Frame a1)))) < 0))) (by simp) (fun k4 h4 => ?_) (fun k4 h4 => ?_)
        · have q4 := h4; try simp at q4
          simp
          refine retRd (rv := [.tmp 4]) rfl ?_
          have f4 := l_heldWorld.eq_1 a0 a1
          simp only [h1, h2, h3, h4, cond_true, cond_false] at f4
          simp [f4]
        · have q4 := h4; try simp at q4
          simp
          refine callRd rfl rfl rfl rfl (l_heldIntS_ok a0.Seqs (l_heldArchiveS a0.Archives (l_heldIntS a0.Ended (l_heldCertS a0.Certs (l_heldFrame a0.Frame a1))))) (by simp) (by simp) (by simp) ?_
          simp
          refine condR (c := (decide ((l_heldIntS a0.Seqs (l_heldArchiveS a0.Archives (l_heldIntS a0.Ended (l_heldCertS a0.Certs (l_heldFrame a0.Frame a1))))) < 0))) (by simp) (fun k5 h5 => ?_) (fun k5 h5 => ?_)
          · have q5 := h5; try simp at q5
            simp
            refine retRd (rv := [.tmp 4]) rfl ?_
            have f5 := l_heldWorld.eq_1 a0 a1
            simp only [h1, h2, h3, h4, h5, cond_true, cond_false] at f5
            simp [f5]
          · have q5 := h5; try simp at q5
            simp
            refine callRd rfl rfl rfl rfl (l_heldIntS_ok a0.Lying (l_heldIntS a0.Seqs (l_heldArchiveS a0.Archives (l_heldIntS a0.Ended (l_heldCertS a0.Certs (l_heldFrame a0.Frame a1)))))) (by simp) (by simp) (by simp) ?_
            simp
            refine condR (c := (decide ((l_heldIntS a0.Lying (l_heldIntS a0.Seqs (l_heldArchiveS a0.Archives (l_heldIntS a0.Ended (l_heldCertS a0.Certs (l_heldFrame a0.Frame a1)))))) < 0))) (by simp) (fun k6 h6 => ?_) (fun k6 h6 => ?_)
            · have q6 := h6; try simp at q6
              simp
              refine retRd (rv := [.tmp 4]) rfl ?_
              have f6 := l_heldWorld.eq_1 a0 a1
              simp only [h1, h2, h3, h4, h5, h6, cond_true, cond_false] at f6
              simp [f6]
            · have q6 := h6; try simp at q6
              simp
              refine callRd rfl rfl rfl rfl (l_heldIntS_ok a0.Forged (l_heldIntS a0.Lying (l_heldIntS a0.Seqs (l_heldArchiveS a0.Archives (l_heldIntS a0.Ended (l_heldCertS a0.Certs (l_heldFrame a0.Frame a1))))))) (by simp) (by simp) (by simp) ?_
              simp
              refine condR (c := (decide ((l_heldIntS a0.Forged (l_heldIntS a0.Lying (l_heldIntS a0.Seqs (l_heldArchiveS a0.Archives (l_heldIntS a0.Ended (l_heldCertS a0.Certs (l_heldFrame a0.Frame a1))))))) < 0))) (by simp) (fun k7 h7 => ?_) (fun k7 h7 => ?_)
              · have q7 := h7; try simp at q7
                simp
                refine retRd (rv := [.tmp 4]) rfl ?_
                have f7 := l_heldWorld.eq_1 a0 a1
                simp only [h1, h2, h3, h4, h5, h6, h7, cond_true, cond_false] at f7
                simp [f7]
              · have q7 := h7; try simp at q7
                simp
                refine retRd (rv := [.tmp 4]) rfl ?_
                have f8 := l_heldWorld.eq_1 a0 a1
                simp only [h1, h2, h3, h4, h5, h6, h7, cond_true, cond_false] at f8
                simp [f8]
theorem l_FnExactStepRevoke_ok (a0 : TWorld) (a1 : Int) (t0 : Sm maxLen a0) : SoundAt Tryz.prog 4 false [a0.row, [.int .i64 a1]] [[.bool (l_FnExactStepRevoke a0 a1)]] := by
  refine sound_of Tryz.func4 rfl (by kernel_rfl) ?_
  simp [Tryz.ntmps4]
  refine callRd rfl rfl rfl rfl (l_szWorld_ok a0 1048576) (by simp) (by simp) (by simp) ?_
  simp
  refine condR (c := (decide ((l_szWorld a0 1048576) < 0))) (by simp) (fun k1 h1 => ?_) (fun k1 h1 => ?_)
  · have q1 := h1; try simp at q1
    simp
    refine retRd (rv := [.tmp 4]) rfl ?_
    have f1 := l_FnExactStepRevoke.eq_1 a0 a1
    simp only [h1, cond_true, cond_false] at f1
    simp [f1]
  · have q1 := h1; try simp at q1
    obtain ⟨u0, y0⟩ := l_szWorld_sm a0 1048576 t0 (by omega) (by omega) (by simpa using h1)
    simp
    refine callRd rfl rfl rfl rfl (SoundD.rd (l_toWorld_okI a0 (sm_mono (n := 1048576) (by decide) (by simp (maxDischargeDepth := 12) [u0, l_toArchive_id, l_toArchiveS_id, l_toAuthority_id, l_toAuthorityS_id, l_toCert_id, l_toCertS_id, l_toDocument_id, l_toFrame_id, l_toIntS_id, l_toItem_id, l_toItemS_id, l_toKey_id, l_toKeyS_id, l_toMethod_id, l_toMethodS_id, l_toPiece_id, l_toPieceS_id, l_toRenewal_id, l_toRenewalS_id, l_toSignature_id, l_toStamp_id, l_toStampS_id, l_toStep_id, l_toStepS_id, l_toStrand_id, l_toStringS_id, l_toWorld_id])))) (by simp) (by simp) (by simp) ?_
    simp
    refine callRd rfl rfl rfl rfl (s_StepRevoke_ok a0 a1 (sm_mono (n := 1048576) (by decide) (by simp (maxDischargeDepth := 12) [u0, l_toArchive_id, l_toArchiveS_id, l_toAuthority_id, l_toAuthorityS_id, l_toCert_id, l_toCertS_id, l_toDocument_id, l_toFrame_id, l_toIntS_id, l_toItem_id, l_toItemS_id, l_toKey_id, l_toKeyS_id, l_toMethod_id, l_toMethodS_id, l_toPiece_id, l_toPieceS_id, l_toRenewal_id, l_toRenewalS_id, l_toSignature_id, l_toStamp_id, l_toStampS_id, l_toStep_id, l_toStepS_id, l_toStrand_id, l_toStringS_id, l_toWorld_id]))) (by simp) (by simp) (by simp) ?_
    simp
    refine callD [] rfl rfl rfl rfl (l_toWorld_okI a0 (sm_mono (n := 1048576) (by decide) (by simp (maxDischargeDepth := 12) [u0, l_toArchive_id, l_toArchiveS_id, l_toAuthority_id, l_toAuthorityS_id, l_toCert_id, l_toCertS_id, l_toDocument_id, l_toFrame_id, l_toIntS_id, l_toItem_id, l_toItemS_id, l_toKey_id, l_toKeyS_id, l_toMethod_id, l_toMethodS_id, l_toPiece_id, l_toPieceS_id, l_toRenewal_id, l_toRenewalS_id, l_toSignature_id, l_toStamp_id, l_toStampS_id, l_toStep_id, l_toStepS_id, l_toStrand_id, l_toStringS_id, l_toWorld_id]))) (by simp) (by simp) (by simp) (by simp) ?_
    simp
    refine callD [] rfl rfl rfl rfl (i_StepRevoke_ok a0 a1 (sm_mono (n := 1048576) (by decide) (by simp (maxDischargeDepth := 12) [u0, l_toArchive_id, l_toArchiveS_id, l_toAuthority_id, l_toAuthorityS_id, l_toCert_id, l_toCertS_id, l_toDocument_id, l_toFrame_id, l_toIntS_id, l_toItem_id, l_toItemS_id, l_toKey_id, l_toKeyS_id, l_toMethod_id, l_toMethodS_id, l_toPiece_id, l_toPieceS_id, l_toRenewal_id, l_toRenewalS_id, l_toSignature_id, l_toStamp_id, l_toStampS_id, l_toStep_id, l_toStepS_id, l_toStrand_id, l_toStringS_id, l_toWorld_id]))) (by simp) (by simp) (by simp) (by simp) ?_
    simp
    refine callRd rfl rfl rfl rfl (l_eqWorld_ok (i_StepRevoke a0 a1).1 (s_StepRevoke a0 a1).1) (by simp) (by simp) (by simp) ?_
    simp
    refine condR (c := ((!(l_eqWorld (i_StepRevoke a0 a1).1 (s_StepRevoke a0 a1).1)) || (!((i_StepRevoke a0 a1).2 == (s_StepRevoke a0 a1).2)))) (by simp) (fun k2 h2 => ?_) (fun k2 h2 => ?_)
    · have q2 := h2; try simp at q2
      simp
      refine retRd (rv := [.tmp 4]) rfl ?_
      have f2 := l_FnExactStepRevoke.eq_1 a0 a1
      simp only [h1, h2, cond_true, cond_false] at f2
      simp [f2]
    · have q2 := h2; try simp at q2
      simp
      refine okD fun k3 => ?_
      refine drawI mixed (by kernel_rfl) (by kernel_rfl) ?_
      simp
      refine callRd rfl rfl rfl rfl (SoundD.rd (l_toWorld_okI a0 (sm_mono (n := 1048576) (by decide) (by simp (maxDischargeDepth := 12) [u0, l_toArchive_id, l_toArchiveS_id, l_toAuthority_id, l_toAuthorityS_id, l_toCert_id, l_toCertS_id, l_toDocument_id, l_toFrame_id, l_toIntS_id, l_toItem_id, l_toItemS_id, l_toKey_id, l_toKeyS_id, l_toMethod_id, l_toMethodS_id, l_toPiece_id, l_toPieceS_id, l_toRenewal_id, l_toRenewalS_id, l_toSignature_id, l_toStamp_id, l_toStampS_id, l_toStep_id, l_toStepS_id, l_toStrand_id, l_toStringS_id, l_toWorld_id])))) (by simp) (by simp) (by simp) ?_
      simp
      refine callRd rfl rfl rfl rfl (l_eqWorld_ok a0 a0) (by simp) (by simp) (by simp) ?_
      simp
      refine condR (c := (!(l_eqWorld a0 a0))) (by simp) (fun k4 h3 => ?_) (fun k4 h3 => ?_)
      · have q3 := h3; try simp at q3
        simp
        refine retRd (rv := [.tmp 4]) rfl ?_
        have f3 := l_FnExactStepRevoke.eq_1 a0 a1
        simp only [h1, h2, h3, cond_true, cond_false] at f3
        simp [f3]
      · have q3 := h3; try simp at q3
        simp
        refine callMO (ats := [.sref 29 0 0 a0.Frame.Keys.length, .sref 29 1 0 a0.Frame.Authorities.length, .sref 29 2 0 a0.Frame.Methods.length, .d (.int .i64 a0.Frame.Liars), .d (.int .i64 a0.Frame.Now), .sref 29 5 0 a0.Certs.length, .sref 29 6 0 a0.Ended.length, .sref 29 7 0 a0.Archives.length, .sref 29 8 0 a0.Seqs.length, .sref 29 9 0 a0.Lying.length, .d (.int .i64 a0.Next), .sref 29 11 0 a0.Forged.length]) rfl rfl rfl rfl rfl rfl rfl (l_markWorld_ok a0 1) (by simp) (by simp) (by simp) (by simp) (by simp) (by simp) (by simp) (by simp) (by simp) ?_
        simp
        refine callG rfl rfl rfl rfl rfl rfl (fun gg => (l_eqWorld_ok (i_StepRevoke a0 a1).1 (s_StepRevoke a0 a1).1)) (by simp) (by simp) (by simp) (by simp) ?_
        simp
        refine condR (c := (((decide ((l_markWorld a0 1).2 < 0)) || (!(l_eqWorld (i_StepRevoke a0 a1).1 (s_StepRevoke a0 a1).1))) || (!((i_StepRevoke a0 a1).2 == (s_StepRevoke a0 a1).2)))) (by simp) (fun k5 h4 => ?_) (fun k5 h4 => ?_)
        · have q4 := h4; try simp at q4
          simp
          refine retRd (rv := [.tmp 4]) rfl ?_
          have f4 := l_FnExactStepRevoke.eq_1 a0 a1
          simp only [h1, h2, h3, h4, cond_true, cond_false] at f4
          simp [f4]
        · have q4 := h4; try simp at q4
          simp
          refine callMO (ats := [.sref 33 0 0 (i_StepRevoke a0 a1).1.Frame.Keys.length, .sref 33 1 0 (i_StepRevoke a0 a1).1.Frame.Authorities.length, .sref 33 2 0 (i_StepRevoke a0 a1).1.Frame.Methods.length, .d (.int .i64 (i_StepRevoke a0 a1).1.Frame.Liars), .d (.int .i64 (i_StepRevoke a0 a1).1.Frame.Now), .sref 33 5 0 (i_StepRevoke a0 a1).1.Certs.length, .sref 33 6 0 (i_StepRevoke a0 a1).1.Ended.length, .sref 33 7 0 (i_StepRevoke a0 a1).1.Archives.length, .sref 33 8 0 (i_StepRevoke a0 a1).1.Seqs.length, .sref 33 9 0 (i_StepRevoke a0 a1).1.Lying.length, .d (.int .i64 (i_StepRevoke a0 a1).1.Next), .sref 33 11 0 (i_StepRevoke a0 a1).1.Forged.length]) rfl rfl rfl rfl rfl rfl rfl (l_markWorld_ok (i_StepRevoke a0 a1).1 1) (by simp) (by simp) (by simp) (by simp) (by simp) (by simp) (by simp) (by simp) (by simp) ?_
          simp
          refine callRd rfl rfl rfl rfl (l_heldWorld_ok (l_markWorld (i_StepRevoke a0 a1).1 1).1 1) (by simp) (by simp) (by simp) ?_
          simp
          refine condR (c := (decide ((l_heldWorld (l_markWorld (i_StepRevoke a0 a1).1 1).1 1) < 0))) (by simp) (fun k6 h5 => ?_) (fun k6 h5 => ?_)
          · have q5 := h5; try simp at q5
            simp
            refine retRd (rv := [.tmp 4]) rfl ?_
            have f5 := l_FnExactStepRevoke.eq_1 a0 a1
            simp only [h1, h2, h3, h4, h5, cond_true, cond_false] at f5
            simp [f5]
          · have q5 := h5; try simp at q5
            simp
            refine condR (c := ((l_heldWorld (l_markWorld (i_StepRevoke a0 a1).1 1).1 1) != (l_markWorld (i_StepRevoke a0 a1).1 1).2)) (by simp) (fun k7 h6 => ?_) (fun k7 h6 => ?_)
            · have q6 := h6; try simp at q6
              simp
              refine retRd (rv := [.tmp 4]) rfl ?_
              have f6 := l_FnExactStepRevoke.eq_1 a0 a1
              simp only [h1, h2, h3, h4, h5, h6, cond_true, cond_false] at f6
              simp [f6]
            · have q6 := h6; try simp at q6
              simp
              refine callRd rfl rfl rfl rfl (SoundD.rd (l_toWorld_okI a0 (sm_mono (n := 1048576) (by decide) (by simp (maxDischargeDepth := 12) [u0, l_toArchive_id, l_toArchiveS_id, l_toAuthority_id, l_toAuthorityS_id, l_toCert_id, l_toCertS_id, l_toDocument_id, l_toFrame_id, l_toIntS_id, l_toItem_id, l_toItemS_id, l_toKey_id, l_toKeyS_id, l_toMethod_id, l_toMethodS_id, l_toPiece_id, l_toPieceS_id, l_toRenewal_id, l_toRenewalS_id, l_toSignature_id, l_toStamp_id, l_toStampS_id, l_toStep_id, l_toStepS_id, l_toStrand_id, l_toStringS_id, l_toWorld_id])))) (by simp) (by simp) (by simp) ?_
              simp
              refine callRd rfl rfl rfl rfl (SoundD.rd (i_StepRevoke_ok a0 a1 (sm_mono (n := 1048576) (by decide) (by simp (maxDischargeDepth := 12) [u0, l_toArchive_id, l_toArchiveS_id, l_toAuthority_id, l_toAuthorityS_id, l_toCert_id, l_toCertS_id, l_toDocument_id, l_toFrame_id, l_toIntS_id, l_toItem_id, l_toItemS_id, l_toKey_id, l_toKeyS_id, l_toMethod_id, l_toMethodS_id, l_toPiece_id, l_toPieceS_id, l_toRenewal_id, l_toRenewalS_id, l_toSignature_id, l_toStamp_id, l_toStampS_id, l_toStep_id, l_toStepS_id, l_toStrand_id, l_toStringS_id, l_toWorld_id])))) (by simp) (by simp) (by simp) ?_
              simp
              refine callRd rfl rfl rfl rfl (l_eqWorld_ok (i_StepRevoke a0 a1).1 (s_StepRevoke a0 a1).1) (by simp) (by simp) (by simp) ?_
              simp
              refine condR (c := ((!(l_eqWorld (i_StepRevoke a0 a1).1 (s_StepRevoke a0 a1).1)) || (!((i_StepRevoke a0 a1).2 == (s_StepRevoke a0 a1).2)))) (by simp) (fun k8 h7 => ?_) (fun k8 h7 => ?_)
              · have q7 := h7; try simp at q7
                exact absurd (h2.symm.trans h7) (by decide)
              · have q7 := h7; try simp at q7
                simp
                refine callRd rfl rfl rfl rfl (l_heldWorld_ok (l_markWorld (i_StepRevoke a0 a1).1 1).1 1) (by simp) (by simp) (by simp) ?_
                simp
                refine condR (c := (decide ((l_heldWorld (l_markWorld (i_StepRevoke a0 a1).1 1).1 1) < 0))) (by simp) (fun k9 h8 => ?_) (fun k9 h8 => ?_)
                · have q8 := h8; try simp at q8
                  exact absurd (h5.symm.trans h8) (by decide)
                · have q8 := h8; try simp at q8
                  simp
                  refine condR (c := ((l_heldWorld (l_markWorld (i_StepRevoke a0 a1).1 1).1 1) != (l_markWorld (i_StepRevoke a0 a1).1 1).2)) (by simp) (fun k10 h9 => ?_) (fun k10 h9 => ?_)
                  · have q9 := h9; try simp at q9
                    exact absurd (h6.symm.trans h9) (by decide)
                  · have q9 := h9; try simp at q9
                    simp
                    refine retRd (rv := [.tmp 4]) rfl ?_
                    have f10 := l_FnExactStepRevoke.eq_1 a0 a1
                    simp only [h1, h2, h3, h4, h5, h6, h7, h8, h9, cond_true, cond_false] at f10
                    simp [f10]
theorem s_StepTick_ok (a0 : TWorld) (a1 : Int) (u0 : Sm 2318336 a0) : SoundAt Tryz.prog 25 true [a0.row, [.int .i64 a1]] [(s_StepTick a0 a1).1.row, [.bool (s_StepTick a0 a1).2]] := by
  refine sound_of Tryz.func25 rfl (by kernel_rfl) ?_
  simp [Tryz.ntmps25]
  refine callOwn rfl rfl rfl rfl (s_l33Copy_okI a0 (sm_mono (n := 2318336) (by decide) (by simp (maxDischargeDepth := 12) [u0]))) (by simp) (by simp) (by simp) (by simp) ?_
  simp
  refine callRd rfl rfl rfl rfl (s_l1In_ok a1 0 100) (by simp) (by simp) (by simp) ?_
  simp
  refine condR (c := ((!(s_l1In a1 0 100)) || (decide ((W (a0.Frame.Now + a1)) > 10000)))) (by simp) (fun k1 h1 => ?_) (fun k1 h1 => ?_)
  · have q1 := h1; try simp [s_l1In] at q1
    simp
    refine retOwn (rv := [.cell 4 42, .tmp 5]) rfl ?_
    have f1 := s_StepTick.eq_1 a0 a1
    simp only [h1, cond_true, cond_false] at f1
    simp [f1]
  · have q1 := h1; try simp [s_l1In] at q1
    simp
    refine retOwn (rv := [.cell 4 42, .tmp 5]) rfl ?_
    have f2 := s_StepTick.eq_1 a0 a1
    simp only [h1, cond_true, cond_false] at f2
    simp [f2]
theorem i_StepTick_ok (a0 : TWorld) (a1 : Int) (u0 : Sm 2314240 a0) : SoundD Tryz.prog 26 [a0.row, [.int .i64 a1]] [(i_StepTick a0 a1).1.row, [.bool (i_StepTick a0 a1).2]] := by
  refine sound_ofD Tryz.func26 rfl (by kernel_rfl) ?_
  simp [Tryz.ntmps26]
  refine callD [false, false, false, true, true, false, false, true, false, false, true, false] rfl rfl rfl rfl (i_copyWorld_okI a0 (sm_mono (n := 2314240) (by decide) (by simp (maxDischargeDepth := 12) [u0]))) (by simp) (by simp) (by simp) (by simp) ?_
  simp
  refine callRd rfl rfl rfl rfl (i_InRange_ok a1 0 100) (by simp) (by simp) (by simp) ?_
  simp
  refine condR (c := ((!(i_InRange a1 0 100)) || (decide ((W (a0.Frame.Now + a1)) > 10000)))) (by simp) (fun k1 h1 => ?_) (fun k1 h1 => ?_)
  · have q1 := h1; try simp [i_InRange] at q1
    simp
    refine retD (rv := [.cell 4 42, .tmp 5]) rfl ?_
    have f1 := i_StepTick.eq_1 a0 a1
    simp only [h1, cond_true, cond_false] at f1
    simp [f1]
  · have q1 := h1; try simp [i_InRange] at q1
    simp
    refine retD (rv := [.cell 4 42, .tmp 5]) rfl ?_
    have f2 := i_StepTick.eq_1 a0 a1
    simp only [h1, cond_true, cond_false] at f2
    simp [f2]
theorem l_FnExactStepTick_ok (a0 : TWorld) (a1 : Int) (t0 : Sm maxLen a0) : SoundAt Tryz.prog 5 false [a0.row, [.int .i64 a1]] [[.bool (l_FnExactStepTick a0 a1)]] := by
  refine sound_of Tryz.func5 rfl (by kernel_rfl) ?_
  simp [Tryz.ntmps5]
  refine callRd rfl rfl rfl rfl (l_szWorld_ok a0 1048576) (by simp) (by simp) (by simp) ?_
  simp
  refine condR (c := (decide ((l_szWorld a0 1048576) < 0))) (by simp) (fun k1 h1 => ?_) (fun k1 h1 => ?_)
  · have q1 := h1; try simp at q1
    simp
    refine retRd (rv := [.tmp 4]) rfl ?_
    have f1 := l_FnExactStepTick.eq_1 a0 a1
    simp only [h1, cond_true, cond_false] at f1
    simp [f1]
  · have q1 := h1; try simp at q1
    obtain ⟨u0, y0⟩ := l_szWorld_sm a0 1048576 t0 (by omega) (by omega) (by simpa using h1)
    simp
    refine callRd rfl rfl rfl rfl (SoundD.rd (l_toWorld_okI a0 (sm_mono (n := 1048576) (by decide) (by simp (maxDischargeDepth := 12) [u0, l_toArchive_id, l_toArchiveS_id, l_toAuthority_id, l_toAuthorityS_id, l_toCert_id, l_toCertS_id, l_toDocument_id, l_toFrame_id, l_toIntS_id, l_toItem_id, l_toItemS_id, l_toKey_id, l_toKeyS_id, l_toMethod_id, l_toMethodS_id, l_toPiece_id, l_toPieceS_id, l_toRenewal_id, l_toRenewalS_id, l_toSignature_id, l_toStamp_id, l_toStampS_id, l_toStep_id, l_toStepS_id, l_toStrand_id, l_toStringS_id, l_toWorld_id])))) (by simp) (by simp) (by simp) ?_
    simp
    refine callRd rfl rfl rfl rfl (s_StepTick_ok a0 a1 (sm_mono (n := 1048576) (by decide) (by simp (maxDischargeDepth := 12) [u0, l_toArchive_id, l_toArchiveS_id, l_toAuthority_id, l_toAuthorityS_id, l_toCert_id, l_toCertS_id, l_toDocument_id, l_toFrame_id, l_toIntS_id, l_toItem_id, l_toItemS_id, l_toKey_id, l_toKeyS_id, l_toMethod_id, l_toMethodS_id, l_toPiece_id, l_toPieceS_id, l_toRenewal_id, l_toRenewalS_id, l_toSignature_id, l_toStamp_id, l_toStampS_id, l_toStep_id, l_toStepS_id, l_toStrand_id, l_toStringS_id, l_toWorld_id]))) (by simp) (by simp) (by simp) ?_
    simp
    refine callD [] rfl rfl rfl rfl (l_toWorld_okI a0 (sm_mono (n := 1048576) (by decide) (by simp (maxDischargeDepth := 12) [u0, l_toArchive_id, l_toArchiveS_id, l_toAuthority_id, l_toAuthorityS_id, l_toCert_id, l_toCertS_id, l_toDocument_id, l_toFrame_id, l_toIntS_id, l_toItem_id, l_toItemS_id, l_toKey_id, l_toKeyS_id, l_toMethod_id, l_toMethodS_id, l_toPiece_id, l_toPieceS_id, l_toRenewal_id, l_toRenewalS_id, l_toSignature_id, l_toStamp_id, l_toStampS_id, l_toStep_id, l_toStepS_id, l_toStrand_id, l_toStringS_id, l_toWorld_id]))) (by simp) (by simp) (by simp) (by simp) ?_
    simp
    refine callD [] rfl rfl rfl rfl (i_StepTick_ok a0 a1 (sm_mono (n := 1048576) (by decide) (by simp (maxDischargeDepth := 12) [u0, l_toArchive_id, l_toArchiveS_id, l_toAuthority_id, l_toAuthorityS_id, l_toCert_id, l_toCertS_id, l_toDocument_id, l_toFrame_id, l_toIntS_id, l_toItem_id, l_toItemS_id, l_toKey_id, l_toKeyS_id, l_toMethod_id, l_toMethodS_id, l_toPiece_id, l_toPieceS_id, l_toRenewal_id, l_toRenewalS_id, l_toSignature_id, l_toStamp_id, l_toStampS_id, l_toStep_id, l_toStepS_id, l_toStrand_id, l_toStringS_id, l_toWorld_id]))) (by simp) (by simp) (by simp) (by simp) ?_
    simp
    refine callRd rfl rfl rfl rfl (l_eqWorld_ok (i_StepTick a0 a1).1 (s_StepTick a0 a1).1) (by simp) (by simp) (by simp) ?_
    simp
    refine condR (c := ((!(l_eqWorld (i_StepTick a0 a1).1 (s_StepTick a0 a1).1)) || (!((i_StepTick a0 a1).2 == (s_StepTick a0 a1).2)))) (by simp) (fun k2 h2 => ?_) (fun k2 h2 => ?_)
    · have q2 := h2; try simp at q2
      simp
      refine retRd (rv := [.tmp 4]) rfl ?_
      have f2 := l_FnExactStepTick.eq_1 a0 a1
      simp only [h1, h2, cond_true, cond_false] at f2
      simp [f2]
    · have q2 := h2; try simp at q2
      simp
      refine okD fun k3 => ?_
      refine drawI mixed (by kernel_rfl) (by kernel_rfl) ?_
      simp
      refine callRd rfl rfl rfl rfl (SoundD.rd (l_toWorld_okI a0 (sm_mono (n := 1048576) (by decide) (by simp (maxDischargeDepth := 12) [u0, l_toArchive_id, l_toArchiveS_id, l_toAuthority_id, l_toAuthorityS_id, l_toCert_id, l_toCertS_id, l_toDocument_id, l_toFrame_id, l_toIntS_id, l_toItem_id, l_toItemS_id, l_toKey_id, l_toKeyS_id, l_toMethod_id, l_toMethodS_id, l_toPiece_id, l_toPieceS_id, l_toRenewal_id, l_toRenewalS_id, l_toSignature_id, l_toStamp_id, l_toStampS_id, l_toStep_id, l_toStepS_id, l_toStrand_id, l_toStringS_id, l_toWorld_id])))) (by simp) (by simp) (by simp) ?_
      simp
      refine callRd rfl rfl rfl rfl (l_eqWorld_ok a0 a0) (by simp) (by simp) (by simp) ?_
      simp
      refine condR (c := (!(l_eqWorld a0 a0))) (by simp) (fun k4 h3 => ?_) (fun k4 h3 => ?_)
      · have q3 := h3; try simp at q3
        simp
        refine retRd (rv := [.tmp 4]) rfl ?_
        have f3 := l_FnExactStepTick.eq_1 a0 a1
        simp only [h1, h2, h3, cond_true, cond_false] at f3
        simp [f3]
      · have q3 := h3; try simp at q3
        simp
        refine callMO (ats := [.sref 29 0 0 a0.Frame.Keys.length, .sref 29 1 0 a0.Frame.Authorities.length, .sref 29 2 0 a0.Frame.Methods.length, .d (.int .i64 a0.Frame.Liars), .d (.int .i64 a0.Frame.Now), .sref 29 5 0 a0.Certs.length, .sref 29 6 0 a0.Ended.length, .sref 29 7 0 a0.Archives.length, .sref 29 8 0 a0.Seqs.length, .sref 29 9 0 a0.Lying.length, .d (.int .i64 a0.Next), .sref 29 11 0 a0.Forged.length]) rfl rfl rfl rfl rfl rfl rfl (l_markWorld_ok a0 1) (by simp) (by simp) (by simp) (by simp) (by simp) (by simp) (by simp) (by simp) (by simp) ?_
        simp
        refine callG rfl rfl rfl rfl rfl rfl (fun gg => (l_eqWorld_ok (i_StepTick a0 a1).1 (s_StepTick a0 a1).1)) (by simp) (by simp) (by simp) (by simp) ?_
        simp
        refine condR (c := (((decide ((l_markWorld a0 1).2 < 0)) || (!(l_eqWorld (i_StepTick a0 a1).1 (s_StepTick a0 a1).1))) || (!((i_StepTick a0 a1).2 == (s_StepTick a0 a1).2)))) (by simp) (fun k5 h4 => ?_) (fun k5 h4 => ?_)
        · have q4 := h4; try simp at q4
          simp
          refine retRd (rv := [.tmp 4]) rfl ?_
          have f4 := l_FnExactStepTick.eq_1 a0 a1
          simp only [h1, h2, h3, h4, cond_true, cond_false] at f4
          simp [f4]
        · have q4 := h4; try simp at q4
          simp
          refine callMO (ats := [.sref 33 0 0 (i_StepTick a0 a1).1.Frame.Keys.length, .sref 33 1 0 (i_StepTick a0 a1).1.Frame.Authorities.length, .sref 33 2 0 (i_StepTick a0 a1).1.Frame.Methods.length, .d (.int .i64 (i_StepTick a0 a1).1.Frame.Liars), .d (.int .i64 (i_StepTick a0 a1).1.Frame.Now), .sref 33 5 0 (i_StepTick a0 a1).1.Certs.length, .sref 33 6 0 (i_StepTick a0 a1).1.Ended.length, .sref 33 7 0 (i_StepTick a0 a1).1.Archives.length, .sref 33 8 0 (i_StepTick a0 a1).1.Seqs.length, .sref 33 9 0 (i_StepTick a0 a1).1.Lying.length, .d (.int .i64 (i_StepTick a0 a1).1.Next), .sref 33 11 0 (i_StepTick a0 a1).1.Forged.length]) rfl rfl rfl rfl rfl rfl rfl (l_markWorld_ok (i_StepTick a0 a1).1 1) (by simp) (by simp) (by simp) (by simp) (by simp) (by simp) (by simp) (by simp) (by simp) ?_
          simp
          refine callRd rfl rfl rfl rfl (l_heldWorld_ok (l_markWorld (i_StepTick a0 a1).1 1).1 1) (by simp) (by simp) (by simp) ?_
          simp
          refine condR (c := (decide ((l_heldWorld (l_markWorld (i_StepTick a0 a1).1 1).1 1) < 0))) (by simp) (fun k6 h5 => ?_) (fun k6 h5 => ?_)
          · have q5 := h5; try simp at q5
            simp
            refine retRd (rv := [.tmp 4]) rfl ?_
            have f5 := l_FnExactStepTick.eq_1 a0 a1
            simp only [h1, h2, h3, h4, h5, cond_true, cond_false] at f5
            simp [f5]
          · have q5 := h5; try simp at q5
            simp
            refine condR (c := ((l_heldWorld (l_markWorld (i_StepTick a0 a1).1 1).1 1) != (l_markWorld (i_StepTick a0 a1).1 1).2)) (by simp) (fun k7 h6 => ?_) (fun k7 h6 => ?_)
            · have q6 := h6; try simp at q6
              simp
              refine retRd (rv := [.tmp 4]) rfl ?_
              have f6 := l_FnExactStepTick.eq_1 a0 a1
              simp only [h1, h2, h3, h4, h5, h6, cond_true, cond_false] at f6
              simp [f6]
            · have q6 := h6; try simp at q6
              simp
              refine callRd rfl rfl rfl rfl (SoundD.rd (l_toWorld_okI a0 (sm_mono (n := 1048576) (by decide) (by simp (maxDischargeDepth := 12) [u0, l_toArchive_id, l_toArchiveS_id, l_toAuthority_id, l_toAuthorityS_id, l_toCert_id, l_toCertS_id, l_toDocument_id, l_toFrame_id, l_toIntS_id, l_toItem_id, l_toItemS_id, l_toKey_id, l_toKeyS_id, l_toMethod_id, l_toMethodS_id, l_toPiece_id, l_toPieceS_id, l_toRenewal_id, l_toRenewalS_id, l_toSignature_id, l_toStamp_id, l_toStampS_id, l_toStep_id, l_toStepS_id, l_toStrand_id, l_toStringS_id, l_toWorld_id])))) (by simp) (by simp) (by simp) ?_
              simp
              refine callRd rfl rfl rfl rfl (SoundD.rd (i_StepTick_ok a0 a1 (sm_mono (n := 1048576) (by decide) (by simp (maxDischargeDepth := 12) [u0, l_toArchive_id, l_toArchiveS_id, l_toAuthority_id, l_toAuthorityS_id, l_toCert_id, l_toCertS_id, l_toDocument_id, l_toFrame_id, l_toIntS_id, l_toItem_id, l_toItemS_id, l_toKey_id, l_toKeyS_id, l_toMethod_id, l_toMethodS_id, l_toPiece_id, l_toPieceS_id, l_toRenewal_id, l_toRenewalS_id, l_toSignature_id, l_toStamp_id, l_toStampS_id, l_toStep_id, l_toStepS_id, l_toStrand_id, l_toStringS_id, l_toWorld_id])))) (by simp) (by simp) (by simp) ?_
              simp
              refine callRd rfl rfl rfl rfl (l_eqWorld_ok (i_StepTick a0 a1).1 (s_StepTick a0 a1).1) (by simp) (by simp) (by simp) ?_
              simp
              refine condR (c := ((!(l_eqWorld (i_StepTick a0 a1).1 (s_StepTick a0 a1).1)) || (!((i_StepTick a0 a1).2 == (s_StepTick a0 a1).2)))) (by simp) (fun k8 h7 => ?_) (fun k8 h7 => ?_)
              · have q7 := h7; try simp at q7
                exact absurd (h2.symm.trans h7) (by decide)
              · have q7 := h7; try simp at q7
                simp
                refine callRd rfl rfl rfl rfl (l_heldWorld_ok (l_markWorld (i_StepTick a0 a1).1 1).1 1) (by simp) (by simp) (by simp) ?_
                simp
                refine condR (c := (decide ((l_heldWorld (l_markWorld (i_StepTick a0 a1).1 1).1 1) < 0))) (by simp) (fun k9 h8 => ?_) (fun k9 h8 => ?_)
                · have q8 := h8; try simp at q8
                  exact absurd (h5.symm.trans h8) (by decide)
                · have q8 := h8; try simp at q8
                  simp
                  refine condR (c := ((l_heldWorld (l_markWorld (i_StepTick a0 a1).1 1).1 1) != (l_markWorld (i_StepTick a0 a1).1 1).2)) (by simp) (fun k10 h9 => ?_) (fun k10 h9 => ?_)
                  · have q9 := h9; try simp at q9
                    exact absurd (h6.symm.trans h9) (by decide)
                  · have q9 := h9; try simp at q9
                    simp
                    refine retRd (rv := [.tmp 4]) rfl ?_
                    have f10 := l_FnExactStepTick.eq_1 a0 a1
                    simp only [h1, h2, h3, h4, h5, h6, h7, h8, h9, cond_true, cond_false] at f10
                    simp [f10]
end Go.Proofs.YtllfgbhplfhdkaaGreat
