/- Contracts of the functions over the abstract machine, part 2. No condition. -/
import Derived.Test.YtllfgbhplfhdkaaC1
namespace Go.Proofs.Ytllfgbhplfhdkaa
open Go.Vm Go.Mo
set_option maxHeartbeats 1000000
set_option maxRecDepth 100000
set_option linter.unusedSimpArgs false
set_option linter.unusedVariables false
theorem l_FnExactItemsDue_ok (a0 : TFrame) (a1 : TArchive) (a2 : Int) (t0 : Sm maxLen a0) (t1 : Sm maxLen a1) : SoundAt Try.prog 3 false [a0.row, a1.row, [.int .i64 a2]] [[.bool (l_FnExactItemsDue a0 a1 a2)]] := by
  refine sound_of Try.func3 rfl (by kernel_rfl) ?_
  simp [Try.ntmps3]
  refine callRd rfl rfl rfl rfl (l_szFrame_ok a0 1048576) (by simp) (by simp) (by simp) ?_
  simp
  refine condR (c := (decide ((l_szFrame a0 1048576) < 0))) (by simp) (fun k1 h1 => ?_) (fun k1 h1 => ?_)
  · have q1 := h1; try simp at q1
    simp
    refine retRd (rv := [.tmp 6]) rfl ?_
    have f1 := l_FnExactItemsDue.eq_1 a0 a1 a2
    simp only [h1, cond_true, cond_false] at f1
    simp [f1]
  · have q1 := h1; try simp at q1
    obtain ⟨u0, y0⟩ := l_szFrame_sm a0 1048576 t0 (by omega) (by omega) (by simpa using h1)
    simp
    refine callRd rfl rfl rfl rfl (l_szArchive_ok a1 (l_szFrame a0 1048576)) (by simp) (by simp) (by simp) ?_
    simp
    refine condR (c := (decide ((l_szArchive a1 (l_szFrame a0 1048576)) < 0))) (by simp) (fun k2 h2 => ?_) (fun k2 h2 => ?_)
    · have q2 := h2; try simp at q2
      simp
      refine retRd (rv := [.tmp 6]) rfl ?_
      have f2 := l_FnExactItemsDue.eq_1 a0 a1 a2
      simp only [h1, h2, cond_true, cond_false] at f2
      simp [f2]
    · have q2 := h2; try simp at q2
      obtain ⟨u1, y1⟩ := l_szArchive_sm a1 (l_szFrame a0 1048576) t1 (by omega) (by omega) (by simpa using h2)
      simp
      refine okD fun k3 => ?_
      refine drawI mixed (by kernel_rfl) (by kernel_rfl) ?_
      simp
      refine callRd rfl rfl rfl rfl (SoundD.rd (l_toFrame_okI a0 (sm_mono (n := 1048576) (by decide) (by simp (maxDischargeDepth := 12) [u0, u1, l_toArchive_id, l_toAuthority_id, l_toAuthorityS_id, l_toDocument_id, l_toFrame_id, l_toIntS_id, l_toItem_id, l_toItemS_id, l_toKey_id, l_toKeyS_id, l_toMethod_id, l_toMethodS_id, l_toPiece_id, l_toPieceS_id, l_toRenewal_id, l_toRenewalS_id, l_toSignature_id, l_toStamp_id, l_toStampS_id, l_toStep_id, l_toStepS_id, l_toStrand_id, l_toStringS_id])))) (by simp) (by simp) (by simp) ?_
      simp
      refine callRd rfl rfl rfl rfl (SoundD.rd (l_toArchive_okI a1 (sm_mono (n := 1048576) (by decide) (by simp (maxDischargeDepth := 12) [u0, u1, l_toArchive_id, l_toAuthority_id, l_toAuthorityS_id, l_toDocument_id, l_toFrame_id, l_toIntS_id, l_toItem_id, l_toItemS_id, l_toKey_id, l_toKeyS_id, l_toMethod_id, l_toMethodS_id, l_toPiece_id, l_toPieceS_id, l_toRenewal_id, l_toRenewalS_id, l_toSignature_id, l_toStamp_id, l_toStampS_id, l_toStep_id, l_toStepS_id, l_toStrand_id, l_toStringS_id])))) (by simp) (by simp) (by simp) ?_
      simp
      refine callRd rfl rfl rfl rfl (SoundD.rd (s_ItemsDue_ok a0 a1 a2 (sm_mono (n := 1048576) (by decide) (by simp (maxDischargeDepth := 12) [u0, u1, l_toArchive_id, l_toAuthority_id, l_toAuthorityS_id, l_toDocument_id, l_toFrame_id, l_toIntS_id, l_toItem_id, l_toItemS_id, l_toKey_id, l_toKeyS_id, l_toMethod_id, l_toMethodS_id, l_toPiece_id, l_toPieceS_id, l_toRenewal_id, l_toRenewalS_id, l_toSignature_id, l_toStamp_id, l_toStampS_id, l_toStep_id, l_toStepS_id, l_toStrand_id, l_toStringS_id])) (sm_mono (n := 1048576) (by decide) (by simp (maxDischargeDepth := 12) [u0, u1, l_toArchive_id, l_toAuthority_id, l_toAuthorityS_id, l_toDocument_id, l_toFrame_id, l_toIntS_id, l_toItem_id, l_toItemS_id, l_toKey_id, l_toKeyS_id, l_toMethod_id, l_toMethodS_id, l_toPiece_id, l_toPieceS_id, l_toRenewal_id, l_toRenewalS_id, l_toSignature_id, l_toStamp_id, l_toStampS_id, l_toStep_id, l_toStepS_id, l_toStrand_id, l_toStringS_id])))) (by simp) (by simp) (by simp) ?_
      simp
      refine callD [] rfl rfl rfl rfl (l_toFrame_okI a0 (sm_mono (n := 1048576) (by decide) (by simp (maxDischargeDepth := 12) [u0, u1, l_toArchive_id, l_toAuthority_id, l_toAuthorityS_id, l_toDocument_id, l_toFrame_id, l_toIntS_id, l_toItem_id, l_toItemS_id, l_toKey_id, l_toKeyS_id, l_toMethod_id, l_toMethodS_id, l_toPiece_id, l_toPieceS_id, l_toRenewal_id, l_toRenewalS_id, l_toSignature_id, l_toStamp_id, l_toStampS_id, l_toStep_id, l_toStepS_id, l_toStrand_id, l_toStringS_id]))) (by simp) (by simp) (by simp) (by simp) ?_
      simp
      refine callD [] rfl rfl rfl rfl (l_toArchive_okI a1 (sm_mono (n := 1048576) (by decide) (by simp (maxDischargeDepth := 12) [u0, u1, l_toArchive_id, l_toAuthority_id, l_toAuthorityS_id, l_toDocument_id, l_toFrame_id, l_toIntS_id, l_toItem_id, l_toItemS_id, l_toKey_id, l_toKeyS_id, l_toMethod_id, l_toMethodS_id, l_toPiece_id, l_toPieceS_id, l_toRenewal_id, l_toRenewalS_id, l_toSignature_id, l_toStamp_id, l_toStampS_id, l_toStep_id, l_toStepS_id, l_toStrand_id, l_toStringS_id]))) (by simp) (by simp) (by simp) (by simp) ?_
      simp
      refine callD [] rfl rfl rfl rfl (i_ItemsDue_ok a0 a1 a2 (sm_mono (n := 1048576) (by decide) (by simp (maxDischargeDepth := 12) [u0, u1, l_toArchive_id, l_toAuthority_id, l_toAuthorityS_id, l_toDocument_id, l_toFrame_id, l_toIntS_id, l_toItem_id, l_toItemS_id, l_toKey_id, l_toKeyS_id, l_toMethod_id, l_toMethodS_id, l_toPiece_id, l_toPieceS_id, l_toRenewal_id, l_toRenewalS_id, l_toSignature_id, l_toStamp_id, l_toStampS_id, l_toStep_id, l_toStepS_id, l_toStrand_id, l_toStringS_id])) (sm_mono (n := 1048576) (by decide) (by simp (maxDischargeDepth := 12) [u0, u1, l_toArchive_id, l_toAuthority_id, l_toAuthorityS_id, l_toDocument_id, l_toFrame_id, l_toIntS_id, l_toItem_id, l_toItemS_id, l_toKey_id, l_toKeyS_id, l_toMethod_id, l_toMethodS_id, l_toPiece_id, l_toPieceS_id, l_toRenewal_id, l_toRenewalS_id, l_toSignature_id, l_toStamp_id, l_toStampS_id, l_toStep_id, l_toStepS_id, l_toStrand_id, l_toStringS_id]))) (by simp) (by simp) (by simp) (by simp) ?_
      simp
      refine callRd rfl rfl rfl rfl (l_eqIntS_ok (i_ItemsDue a0 a1 a2) (s_ItemsDue a0 a1 a2)) (by simp) (by simp) (by simp) ?_
      simp
      refine condR (c := (!(l_eqIntS (i_ItemsDue a0 a1 a2) (s_ItemsDue a0 a1 a2)))) (by simp) (fun k4 h3 => ?_) (fun k4 h3 => ?_)
      · have q3 := h3; try simp at q3
        simp
        refine retRd (rv := [.tmp 6]) rfl ?_
        have f3 := l_FnExactItemsDue.eq_1 a0 a1 a2
        simp only [h1, h2, h3, cond_true, cond_false] at f3
        simp [f3]
      · have q3 := h3; try simp at q3
        simp
        refine okD fun k5 => ?_
        refine drawI mixed (by kernel_rfl) (by kernel_rfl) ?_
        simp
        refine callRd rfl rfl rfl rfl (SoundD.rd (l_toFrame_okI a0 (sm_mono (n := 1048576) (by decide) (by simp (maxDischargeDepth := 12) [u0, u1, l_toArchive_id, l_toAuthority_id, l_toAuthorityS_id, l_toDocument_id, l_toFrame_id, l_toIntS_id, l_toItem_id, l_toItemS_id, l_toKey_id, l_toKeyS_id, l_toMethod_id, l_toMethodS_id, l_toPiece_id, l_toPieceS_id, l_toRenewal_id, l_toRenewalS_id, l_toSignature_id, l_toStamp_id, l_toStampS_id, l_toStep_id, l_toStepS_id, l_toStrand_id, l_toStringS_id])))) (by simp) (by simp) (by simp) ?_
        simp
        refine callRd rfl rfl rfl rfl (l_eqFrame_ok a0 a0) (by simp) (by simp) (by simp) ?_
        simp
        refine condR (c := (!(l_eqFrame a0 a0))) (by simp) (fun k6 h4 => ?_) (fun k6 h4 => ?_)
        · have q4 := h4; try simp at q4
          simp
          refine retRd (rv := [.tmp 6]) rfl ?_
          have f4 := l_FnExactItemsDue.eq_1 a0 a1 a2
          simp only [h1, h2, h3, h4, cond_true, cond_false] at f4
          simp [f4]
        · have q4 := h4; try simp at q4
          simp
          refine okD fun k7 => ?_
          refine drawI mixed (by kernel_rfl) (by kernel_rfl) ?_
          simp
          refine callRd rfl rfl rfl rfl (SoundD.rd (l_toArchive_okI a1 (sm_mono (n := 1048576) (by decide) (by simp (maxDischargeDepth := 12) [u0, u1, l_toArchive_id, l_toAuthority_id, l_toAuthorityS_id, l_toDocument_id, l_toFrame_id, l_toIntS_id, l_toItem_id, l_toItemS_id, l_toKey_id, l_toKeyS_id, l_toMethod_id, l_toMethodS_id, l_toPiece_id, l_toPieceS_id, l_toRenewal_id, l_toRenewalS_id, l_toSignature_id, l_toStamp_id, l_toStampS_id, l_toStep_id, l_toStepS_id, l_toStrand_id, l_toStringS_id])))) (by simp) (by simp) (by simp) ?_
          simp
          refine callRd rfl rfl rfl rfl (l_eqArchive_ok a1 a1) (by simp) (by simp) (by simp) ?_
          simp
          refine condR (c := (!(l_eqArchive a1 a1))) (by simp) (fun k8 h5 => ?_) (fun k8 h5 => ?_)
          · have q5 := h5; try simp at q5
            simp
            refine retRd (rv := [.tmp 6]) rfl ?_
            have f5 := l_FnExactItemsDue.eq_1 a0 a1 a2
            simp only [h1, h2, h3, h4, h5, cond_true, cond_false] at f5
            simp [f5]
          · have q5 := h5; try simp at q5
            simp
            refine callMO (ats := [.sref 33 0 0 a0.Keys.length, .sref 33 1 0 a0.Authorities.length, .sref 33 2 0 a0.Methods.length, .d (.int .i64 a0.Liars), .d (.int .i64 a0.Now)]) rfl rfl rfl rfl rfl rfl rfl (l_markFrame_ok a0 1) (by simp) (by simp) (by simp) (by simp) (by simp) (by simp) (by simp) (by simp) (by simp) ?_
            simp
            refine callMO (ats := [.d (.int .i64 a1.Id), .sref 35 1 0 a1.Items.length]) rfl rfl rfl rfl rfl rfl rfl (l_markArchive_ok a1 (l_markFrame a0 1).2) (by simp) (by simp) (by simp) (by simp) (by simp) (by simp) (by simp) (by simp) (by simp) ?_
            simp
            refine callG rfl rfl rfl rfl rfl rfl (fun gg => (l_eqIntS_ok (i_ItemsDue a0 a1 a2) (s_ItemsDue a0 a1 a2))) (by simp) (by simp) (by simp) (by simp) ?_
            simp
            refine condR (c := ((decide ((l_markArchive a1 (l_markFrame a0 1).2).2 < 0)) || (!(l_eqIntS (i_ItemsDue a0 a1 a2) (s_ItemsDue a0 a1 a2))))) (by simp) (fun k9 h6 => ?_) (fun k9 h6 => ?_)
            · have q6 := h6; try simp at q6
              have h6s := h6; try simp only [h3] at h6s
              simp
              refine retRd (rv := [.tmp 6]) rfl ?_
              have f6 := l_FnExactItemsDue.eq_1 a0 a1 a2
              simp only [h1, h2, h3, h4, h5, h6, h6s, cond_true, cond_false] at f6
              simp [f6]
            · have q6 := h6; try simp at q6
              have h6s := h6; try simp only [h3] at h6s
              simp
              refine callMO (ats := [.sref 39 0 0 (i_ItemsDue a0 a1 a2).length]) rfl rfl rfl rfl rfl rfl rfl (l_markIntS_ok (i_ItemsDue a0 a1 a2) 1) (by simp) (by simp) (by simp) (by simp) (by simp) (by simp) (by simp) (by simp) (by simp) ?_
              simp
              refine callRd rfl rfl rfl rfl (l_heldIntS_ok (l_markIntS (i_ItemsDue a0 a1 a2) 1).1 1) (by simp) (by simp) (by simp) ?_
              simp
              refine condR (c := (decide ((l_heldIntS (l_markIntS (i_ItemsDue a0 a1 a2) 1).1 1) < 0))) (by simp) (fun k10 h7 => ?_) (fun k10 h7 => ?_)
              · have q7 := h7; try simp at q7
                simp
                refine retRd (rv := [.tmp 6]) rfl ?_
                have f7 := l_FnExactItemsDue.eq_1 a0 a1 a2
                simp only [h1, h2, h3, h4, h5, h6, h6s, h7, cond_true, cond_false] at f7
                simp [f7]
              · have q7 := h7; try simp at q7
                simp
                refine condR (c := ((l_heldIntS (l_markIntS (i_ItemsDue a0 a1 a2) 1).1 1) != (l_markIntS (i_ItemsDue a0 a1 a2) 1).2)) (by simp) (fun k11 h8 => ?_) (fun k11 h8 => ?_)
                · have q8 := h8; try simp at q8
                  simp
                  refine retRd (rv := [.tmp 6]) rfl ?_
                  have f8 := l_FnExactItemsDue.eq_1 a0 a1 a2
                  simp only [h1, h2, h3, h4, h5, h6, h6s, h7, h8, cond_true, cond_false] at f8
                  simp [f8]
                · have q8 := h8; try simp at q8
                  simp
                  refine okD fun k12 => ?_
                  refine drawI mixed (by kernel_rfl) (by kernel_rfl) ?_
                  simp
                  refine callRd rfl rfl rfl rfl (SoundD.rd (l_toFrame_okI a0 (sm_mono (n := 1048576) (by decide) (by simp (maxDischargeDepth := 12) [u0, u1, l_toArchive_id, l_toAuthority_id, l_toAuthorityS_id, l_toDocument_id, l_toFrame_id, l_toIntS_id, l_toItem_id, l_toItemS_id, l_toKey_id, l_toKeyS_id, l_toMethod_id, l_toMethodS_id, l_toPiece_id, l_toPieceS_id, l_toRenewal_id, l_toRenewalS_id, l_toSignature_id, l_toStamp_id, l_toStampS_id, l_toStep_id, l_toStepS_id, l_toStrand_id, l_toStringS_id])))) (by simp) (by simp) (by simp) ?_
                  simp
                  refine callRd rfl rfl rfl rfl (SoundD.rd (l_toArchive_okI a1 (sm_mono (n := 1048576) (by decide) (by simp (maxDischargeDepth := 12) [u0, u1, l_toArchive_id, l_toAuthority_id, l_toAuthorityS_id, l_toDocument_id, l_toFrame_id, l_toIntS_id, l_toItem_id, l_toItemS_id, l_toKey_id, l_toKeyS_id, l_toMethod_id, l_toMethodS_id, l_toPiece_id, l_toPieceS_id, l_toRenewal_id, l_toRenewalS_id, l_toSignature_id, l_toStamp_id, l_toStampS_id, l_toStep_id, l_toStepS_id, l_toStrand_id, l_toStringS_id])))) (by simp) (by simp) (by simp) ?_
                  simp
                  refine callRd rfl rfl rfl rfl (SoundD.rd (i_ItemsDue_ok a0 a1 a2 (sm_mono (n := 1048576) (by decide) (by simp (maxDischargeDepth := 12) [u0, u1, l_toArchive_id, l_toAuthority_id, l_toAuthorityS_id, l_toDocument_id, l_toFrame_id, l_toIntS_id, l_toItem_id, l_toItemS_id, l_toKey_id, l_toKeyS_id, l_toMethod_id, l_toMethodS_id, l_toPiece_id, l_toPieceS_id, l_toRenewal_id, l_toRenewalS_id, l_toSignature_id, l_toStamp_id, l_toStampS_id, l_toStep_id, l_toStepS_id, l_toStrand_id, l_toStringS_id])) (sm_mono (n := 1048576) (by decide) (by simp (maxDischargeDepth := 12) [u0, u1, l_toArchive_id, l_toAuthority_id, l_toAuthorityS_id, l_toDocument_id, l_toFrame_id, l_toIntS_id, l_toItem_id, l_toItemS_id, l_toKey_id, l_toKeyS_id, l_toMethod_id, l_toMethodS_id, l_toPiece_id, l_toPieceS_id, l_toRenewal_id, l_toRenewalS_id, l_toSignature_id, l_toStamp_id, l_toStampS_id, l_toStep_id, l_toStepS_id, l_toStrand_id, l_toStringS_id])))) (by simp) (by simp) (by simp) ?_
                  simp
                  refine callRd rfl rfl rfl rfl (l_eqIntS_ok (i_ItemsDue a0 a1 a2) (s_ItemsDue a0 a1 a2)) (by simp) (by simp) (by simp) ?_
                  simp
                  refine condR (c := (!(l_eqIntS (i_ItemsDue a0 a1 a2) (s_ItemsDue a0 a1 a2)))) (by simp) (fun k13 h9 => ?_) (fun k13 h9 => ?_)
                  · have q9 := h9; try simp at q9
                    exact absurd (h3.symm.trans h9) (by decide)
                  · have q9 := h9; try simp at q9
                    simp
                    refine callRd rfl rfl rfl rfl (l_heldIntS_ok (l_markIntS (i_ItemsDue a0 a1 a2) 1).1 1) (by simp) (by simp) (by simp) ?_
                    simp
                    refine condR (c := (decide ((l_heldIntS (l_markIntS (i_ItemsDue a0 a1 a2) 1).1 1) < 0))) (by simp) (fun k14 h10 => ?_) (fun k14 h10 => ?_)
                    · have q10 := h10; try simp at q10
                      exact absurd (h7.symm.trans h10) (by decide)
                    · have q10 := h10; try simp at q10
                      simp
                      refine condR (c := ((l_heldIntS (l_markIntS (i_ItemsDue a0 a1 a2) 1).1 1) != (l_markIntS (i_ItemsDue a0 a1 a2) 1).2)) (by simp) (fun k15 h11 => ?_) (fun k15 h11 => ?_)
                      · have q11 := h11; try simp at q11
                        exact absurd (h8.symm.trans h11) (by decide)
                      · have q11 := h11; try simp at q11
                        simp
                        refine retRd (rv := [.tmp 6]) rfl ?_
                        have f12 := l_FnExactItemsDue.eq_1 a0 a1 a2
                        simp only [h1, h2, h3, h4, h5, h6, h6s, h7, h8, h9, h10, h11, cond_true, cond_false] at f12
                        simp [f12]
theorem s_Max_ok (a0 : Int) (a1 : Int) : SoundAt Try.prog 42 false [[.int .i64 a0], [.int .i64 a1]] [[.int .i64 (s_Max a0 a1)]] := by
  refine sound_of Try.func42 rfl (by kernel_rfl) ?_
  simp [Try.ntmps42]
  refine condR (c := (decide (a1 > a0))) (by simp) (fun k1 h1 => ?_) (fun k1 h1 => ?_)
  · have q1 := h1; try simp at q1
    simp
    refine retRd (rv := [.tmp 4]) rfl ?_
    have f1 := s_Max.eq_1 a0 a1
    simp only [h1, cond_true, cond_false] at f1
    simp [f1]
  · have q1 := h1; try simp at q1
    simp
    refine retRd (rv := [.tmp 4]) rfl ?_
    have f2 := s_Max.eq_1 a0 a1
    simp only [h1, cond_true, cond_false] at f2
    simp [f2]
theorem s_l8Keys_ok : SoundD Try.prog 43 [] [[.sl 5 (s_l8Keys.map TKey.row)]] := by
  refine sound_ofD Try.func43 rfl (by kernel_rfl) ?_
  simp [Try.ntmps43]
  refine retD (rv := [.tmp 0]) rfl ?_
  have f1 := s_l8Keys.eq_1
  simp [f1]
theorem s_l11Authorities_ok : SoundD Try.prog 44 [] [[.sl 3 (s_l11Authorities.map TAuthority.row)]] := by
  refine sound_ofD Try.func44 rfl (by kernel_rfl) ?_
  simp [Try.ntmps44]
  refine retD (rv := [.tmp 0]) rfl ?_
  have f1 := s_l11Authorities.eq_1
  simp [f1]
theorem s_l5Table_ok : SoundD Try.prog 45 [] [[.sl 4 (s_l5Table.map TMethod.row)]] := by
  refine sound_ofD Try.func45 rfl (by kernel_rfl) ?_
  simp [Try.ntmps45]
  refine retD (rv := [.tmp 0]) rfl ?_
  have f1 := s_l5Table.eq_1
  simp [f1]
theorem s_l1In_ok (a0 : Int) (a1 : Int) (a2 : Int) : SoundAt Try.prog 122 false [[.int .i64 a0], [.int .i64 a1], [.int .i64 a2]] [[.bool (s_l1In a0 a1 a2)]] := by
  refine sound_of Try.func122 rfl (by kernel_rfl) ?_
  simp [Try.ntmps122]
  refine retRd (rv := [.tmp 6]) rfl ?_
  have f1 := s_l1In.eq_1 a0 a1 a2
  simp [f1]
theorem s_CertSpan_ok (a0 : TCert) : SoundAt Try.prog 124 false [a0.row] [(s_CertSpan a0).row] := by
  refine sound_of Try.func124 rfl (by kernel_rfl) ?_
  simp [Try.ntmps124]
  refine retRd (rv := [.cell 2 162]) rfl ?_
  have f1 := s_CertSpan.eq_1 a0
  simp [f1]
theorem s_l4Time_ok (a0 : Int) : SoundAt Try.prog 138 false [[.int .i64 a0]] [[.bool (s_l4Time a0)]] := by
  refine sound_of Try.func138 rfl (by kernel_rfl) ?_
  simp [Try.ntmps138]
  refine callRd rfl rfl rfl rfl (s_l1In_ok a0 0 10000) (by simp) (by simp) (by simp) ?_
  simp
  refine retRd (rv := [.tmp 2]) rfl ?_
  have f1 := s_l4Time.eq_1 a0
  simp [f1]
theorem s_IsSpan_ok (a0 : TSpan) : SoundAt Try.prog 123 false [a0.row] [[.bool (s_IsSpan a0)]] := by
  refine sound_of Try.func123 rfl (by kernel_rfl) ?_
  simp [Try.ntmps123]
  refine callRd rfl rfl rfl rfl (s_l4Time_ok a0.From) (by simp) (by simp) (by simp) ?_
  simp
  refine callG rfl rfl rfl rfl rfl rfl (fun gg => (s_l4Time_ok a0.To)) (by simp) (by simp) (by simp) (by simp) ?_
  simp
  refine retRd (rv := [.tmp 2]) rfl ?_
  have f1 := s_IsSpan.eq_1 a0
  simp [f1]
theorem s_IsCert_ok (a0 : TCert) : SoundAt Try.prog 97 false [a0.row] [[.bool (s_IsCert a0)]] := by
  refine sound_of Try.func97 rfl (by kernel_rfl) ?_
  simp [Try.ntmps97]
  refine callRd rfl rfl rfl rfl (s_l1In_ok a0.Serial 1 999) (by simp) (by simp) (by simp) ?_
  simp
  refine callG rfl rfl rfl rfl rfl rfl (fun gg => (s_l1In_ok a0.Key 1 99)) (by simp) (by simp) (by simp) (by simp) ?_
  simp
  refine callG rfl rfl rfl rfl rfl rfl (fun gg => (s_l1In_ok a0.Issuer 1 99)) (by simp) (by simp) (by simp) (by simp) ?_
  simp
  refine callG rfl rfl rfl rfl rfl rfl (fun gg => (s_l1In_ok a0.Owner 0 99)) (by simp) (by simp) (by simp) (by simp) ?_
  simp
  refine callG rfl rfl rfl rfl rfl rfl (fun gg => (s_CertSpan_ok a0)) (by simp) (by simp) (by simp) (by simp) ?_
  simp
  refine callG rfl rfl rfl rfl rfl rfl (fun gg => (s_IsSpan_ok (s_CertSpan a0))) (by simp) (by simp) (by simp) (by simp) ?_
  simp
  refine retRd (rv := [.tmp 2]) rfl ?_
  have f1 := s_IsCert.eq_1 a0
  simp [f1]
theorem s_CertInts_ok (a0 : TCert) : SoundD Try.prog 99 [a0.row] [[.sl 1 ((s_CertInts a0).map iR)]] := by
  refine sound_ofD Try.func99 rfl (by kernel_rfl) ?_
  simp [Try.ntmps99]
  refine retD (rv := [.tmp 2]) rfl ?_
  have f1 := s_CertInts.eq_1 a0
  simp [f1]
theorem s_Mod_ok (a0 : Int) (a1 : Int) : SoundAt Try.prog 147 false [[.int .i64 a0], [.int .i64 a1]] [[.int .i64 (s_Mod a0 a1)]] := by
  refine sound_of Try.func147 rfl (by kernel_rfl) ?_
  simp [Try.ntmps147]
  refine callRd rfl rfl rfl rfl (s_l1In_ok a1 1 1000000000000) (by simp) (by simp) (by simp) ?_
  simp
  refine condR (c := (!(s_l1In a1 1 1000000000000))) (by simp) (fun k1 h1 => ?_) (fun k1 h1 => ?_)
  · have q1 := h1; try simp [s_l1In] at q1
    simp
    refine retRd (rv := [.tmp 4]) rfl ?_
    have f1 := s_Mod.eq_1 a0 a1
    simp only [h1, cond_true, cond_false] at f1
    simp [f1]
  · have q1 := h1; try simp [s_l1In] at q1
    simp
    repeat ((with_reducible refine And.intro ?_ ?_); focus (intros; first | omega | ((try simp only [W_def, show ∀ x, IntKind.i64.wrap x = W x from fun _ => rfl] at *); omega)))
    refine retRd (rv := [.tmp 4]) rfl ?_
    have f2 := s_Mod.eq_1 a0 a1
    simp only [h1, cond_true, cond_false] at f2
    simp [f2]
theorem s_Hash_ok (a0 : List Int) : SoundAt Try.prog 139 false [[.sl 1 (a0.map iR)]] [[.int .i64 (s_Hash a0)]] := by
  refine sound_of Try.func139 rfl (by kernel_rfl) ?_
  simp [Try.ntmps139]
  refine okL fun k1 => ?_
  refine loopI (ι := { s : Nat × Int × Nat // s_Hash_1 a0 s.1 s.2.1 s.2.2 = s_Hash_1 a0 (a0.length + 1) 11 0 ∧ (1 ≤ s.1 ∧ a0.length < s.1 + s.2.2 ∧ s.2.2 ≤ a0.length) }) (fun s => stOf 22 [(0, .one (.d (.sl 1 (a0.map iR))), []), (3, .one (.d (.int .i64 s.1.2.1)), []), (4, .one (.d (.int .i64 (↑s.1.2.2 : Int))), [])]) (fun s => s.1.1) ⟨((a0.length + 1), 11, 0), rfl, by first | omega | (dsimp only; omega) | simp⟩ (wk_keep (by simp)) ?_
  rintro ⟨⟨n1, v1_0, v1_1⟩, e1, j1⟩
  try dsimp only at e1 j1
  obtain ⟨p1, rfl⟩ : ∃ p, n1 = p + 1 := ⟨n1 - 1, by omega⟩
  simp
  refine condR (c := (decide ((↑v1_1 : Int) < (↑a0.length : Int)))) (by simp) (fun k2 h1 => ?_) (fun k2 h1 => ?_)
  · have q1 := h1; try simp at q1
    have i1 : v1_1 < a0.length := by simpa using h1
    have m2 : a0.length ≤ 9223372036854775807 := by simpa using k2 0 _ rfl
    have w1 : IntKind.i64.wrap ((v1_1 : Int) + 1) = (v1_1 : Int) + 1 := wrap_of (by omega) (by omega)
    simp [i1, rowAt_map]
    repeat ((with_reducible refine And.intro ?_ ?_); focus (intros; first | omega | ((try simp only [W_def, show ∀ x, IntKind.i64.wrap x = W x from fun _ => rfl] at *); omega)))
    refine callRd rfl rfl rfl rfl (s_Mod_ok (nth a0 v1_1) 2147483647) (by simp) (by simp) (by simp) ?_
    simp
    refine nxtI ⟨(p1, (Int.tmod (W ((W ((W (v1_0 * 1000003)) + (s_Mod (nth a0 v1_1) 2147483647))) + 13)) 2147483647), (v1_1 + 1)), ?_, ?_⟩ (by simp) (wk_keep (by simp [w1]))
    · rw [← e1]; simp only [s_Hash_1, h1, cond_true, cond_false]
    · first | omega | (simp at *; omega)
  · have q1 := h1; try simp at q1
    have x1 : s_Hash_1 a0 (a0.length + 1) 11 0 = v1_0 := by rw [← e1]; simp only [s_Hash_1, h1, cond_true, cond_false]
    simp
    refine retRd (rv := [.tmp 2]) rfl ?_
    have f1 := s_Hash.eq_1 a0
    simp only [x1, cond_true, cond_false] at f1
    simp [f1]
theorem s_KeyedHash_ok (a0 : Int) (a1 : List Int) (u0 : Sm 2330624 a1) : SoundAt Try.prog 125 false [[.int .i64 a0], [.sl 1 (a1.map iR)]] [[.int .i64 (s_KeyedHash a0 a1)]] := by
  refine sound_of Try.func125 rfl (by kernel_rfl) ?_
  have c1 : a1.length ≤ 2330624 := sm_len (by simp (maxDischargeDepth := 12) [u0])
  simp [Try.ntmps125]
  repeat ((with_reducible refine And.intro ?_ ?_); focus (intros; first | omega | ((try simp only [W_def, show ∀ x, IntKind.i64.wrap x = W x from fun _ => rfl] at *); omega)))
  refine callRd rfl rfl rfl rfl (s_Hash_ok ((([a0] : List Int) ++ a1) ++ ([a0] : List Int))) (by simp) (by simp) (by simp) ?_
  simp
  refine retRd (rv := [.tmp 4]) rfl ?_
  have f1 := s_KeyedHash.eq_1 a0 a1
  simp [f1]
theorem s_MarkWith_ok (a0 : TKey) (a1 : List Int) (u0 : Sm 2326528 a1) : SoundAt Try.prog 98 false [a0.row, [.sl 1 (a1.map iR)]] [[.int .i64 (s_MarkWith a0 a1)]] := by
  refine sound_of Try.func98 rfl (by kernel_rfl) ?_
  simp [Try.ntmps98]
  refine okD fun k1 => ?_
  refine drawP [2, 3, 4, 5, 6, 0, 1, 7, 8] mixed (by kernel_rfl) (by kernel_rfl) (by kernel_rfl) ?_
  have c1 : a1.length ≤ 2326528 := sm_len (by simp (maxDischargeDepth := 12) [u0])
  simp
  repeat ((with_reducible refine And.intro ?_ ?_); focus (intros; first | omega | ((try simp only [W_def, show ∀ x, IntKind.i64.wrap x = W x from fun _ => rfl] at *); omega)))
  refine callRd rfl rfl rfl rfl (s_KeyedHash_ok a0.Secret (([a0.Method] : List Int) ++ a1) (by simp (maxDischargeDepth := 12) [sm_append, sm_list, sm_mono (m := 2330624) (by decide) u0]; try omega)) (by simp) (by simp) (by simp) ?_
  simp
  refine retRd (rv := [.tmp 4]) rfl ?_
  have f1 := s_MarkWith.eq_1 a0 a1
  simp [f1]
theorem s_IssueCert_ok (a0 : List TKey) (a1 : TCert) (u0 : Sm 2322432 a0) : SoundAt Try.prog 72 false [[.sl 5 (a0.map TKey.row)], a1.row] [(s_IssueCert a0 a1).1.row, [.bool (s_IssueCert a0 a1).2]] := by
  refine sound_of Try.func72 rfl (by kernel_rfl) ?_
  simp [Try.ntmps72]
  refine callRd rfl rfl rfl rfl (s_FindKey_ok a0 a1.Issuer) (by simp) (by simp) (by simp) ?_
  simp
  refine callRd rfl rfl rfl rfl (s_IsCert_ok a1) (by simp) (by simp) (by simp) ?_
  simp
  refine callG rfl rfl rfl rfl rfl rfl (fun gg => (s_FindKey_ok a0 a1.Key)) (by simp) (by simp) (by simp) (by simp) ?_
  simp
  refine condR (c := (((!(s_IsCert a1)) || (decide ((s_FindKey a0 a1.Issuer) < 0))) || (decide ((s_FindKey a0 a1.Key) < 0)))) (by simp) (fun k1 h1 => ?_) (fun k1 h1 => ?_)
  · have q1 := h1; try simp at q1
    simp
    refine retRd (rv := [.cell 4 95, .tmp 5]) rfl ?_
    have f1 := s_IssueCert.eq_1 a0 a1
    simp only [h1, cond_true, cond_false] at f1
    simp [f1]
  · have q1 := h1; try simp at q1
    simp
    refine okD fun k2 => ?_
    refine drawI mixed (by kernel_rfl) (by kernel_rfl) ?_
    have i1 : (s_FindKey a0 a1.Issuer).toNat < a0.length := by have := s_FindKey_lt a0 a1.Issuer; first | omega | (have hz := @List.length_pos_iff _ a0; simp_all; done) | ((try simp only [W_def, show ∀ x, IntKind.i64.wrap x = W x from fun _ => rfl] at *); omega)
    simp [i1, rowAt_map]
    repeat ((with_reducible refine And.intro ?_ ?_); focus (intros; first | omega | ((try simp only [W_def, show ∀ x, IntKind.i64.wrap x = W x from fun _ => rfl] at *); omega)))
    refine callRd rfl rfl rfl rfl (SoundD.rd (s_CertInts_ok a1)) (by simp) (by simp) (by simp) ?_
    simp
    refine callRd rfl rfl rfl rfl (s_MarkWith_ok (nth a0 (s_FindKey a0 a1.Issuer).toNat) (s_CertInts a1) (by simp (maxDischargeDepth := 12) [s_CertInts_sm, sm_mono (m := 2326528) (by decide) u0]; try omega)) (by simp) (by simp) (by simp) ?_
    simp
    refine retRd (rv := [.cell 4 95, .tmp 5]) rfl ?_
    have f2 := s_IssueCert.eq_1 a0 a1
    simp only [h1, cond_true, cond_false] at f2
    simp [f2]
theorem s_l9Certs_ok : SoundD Try.prog 46 [] [[.sl 7 (s_l9Certs.map TCert.row)]] := by
  refine sound_ofD Try.func46 rfl (by kernel_rfl) ?_
  simp [Try.ntmps46]
  refine callRd rfl rfl rfl rfl (SoundD.rd (s_l8Keys_ok)) (by simp) (by simp) (by simp) ?_
  simp
  refine callRd rfl rfl rfl rfl (s_IssueCert_ok s_l8Keys (TCert.mk 1 11 1 0 60 1 0) (by simp (maxDischargeDepth := 12) [s_l8Keys_sm]; try omega)) (by simp) (by simp) (by simp) ?_
  simp
  refine callRd rfl rfl rfl rfl (SoundD.rd (s_l8Keys_ok)) (by simp) (by simp) (by simp) ?_
  simp
  refine callRd rfl rfl rfl rfl (s_IssueCert_ok s_l8Keys (TCert.mk 2 12 1 20 100 1 0) (by simp (maxDischargeDepth := 12) [s_l8Keys_sm]; try omega)) (by simp) (by simp) (by simp) ?_
  simp
  refine callRd rfl rfl rfl rfl (SoundD.rd (s_l8Keys_ok)) (by simp) (by simp) (by simp) ?_
  simp
  refine callRd rfl rfl rfl rfl (s_IssueCert_ok s_l8Keys (TCert.mk 3 13 2 40 150 2 0) (by simp (maxDischargeDepth := 12) [s_l8Keys_sm]; try omega)) (by simp) (by simp) (by simp) ?_
  simp
  refine retD (rv := [.tmp 0]) rfl ?_
  have f1 := s_l9Certs.eq_1
  simp [f1]
theorem s_NewWorld_ok (a0 : Int) : SoundAt Try.prog 18 true [[.int .i64 a0]] [(s_NewWorld a0).row] := by
  refine sound_of Try.func18 rfl (by kernel_rfl) ?_
  simp [Try.ntmps18]
  refine callRd rfl rfl rfl rfl (s_Max_ok 0 a0) (by simp) (by simp) (by simp) ?_
  simp
  refine callRd rfl rfl rfl rfl (s_Min_ok 1 (s_Max 0 a0)) (by simp) (by simp) (by simp) ?_
  simp
  refine callD [false] rfl rfl rfl rfl (s_l8Keys_ok) (by simp) (by simp) (by simp) (by simp) ?_
  simp
  refine callD [false] rfl rfl rfl rfl (s_l11Authorities_ok) (by simp) (by simp) (by simp) (by simp) ?_
  simp
  refine callD [false] rfl rfl rfl rfl (s_l5Table_ok) (by simp) (by simp) (by simp) (by simp) ?_
  simp
  refine callD [false] rfl rfl rfl rfl (s_l9Certs_ok) (by simp) (by simp) (by simp) (by simp) ?_
  simp
  refine evI rfl rfl rfl ?_
  simp
  refine condR (c := ((s_Min 1 (s_Max 0 a0)) == 1)) (by simp) (fun k1 h1 => ?_) (fun k1 h1 => ?_)
  · have q1 := h1; try simp at q1
    simp
    refine retOwn (rv := [.cell 2 54]) rfl ?_
    have f1 := s_NewWorld.eq_1 a0
    simp only [h1, cond_true, cond_false] at f1
    simp [f1]
  · have q1 := h1; try simp at q1
    simp
    refine retOwn (rv := [.cell 2 54]) rfl ?_
    have f2 := s_NewWorld.eq_1 a0
    simp only [h1, cond_true, cond_false] at f2
    simp [f2]
theorem i_WorldKeys_ok : SoundD Try.prog 47 [] [[.sl 5 (i_WorldKeys.map TKey.row)]] := by
  refine sound_ofD Try.func47 rfl (by kernel_rfl) ?_
  simp [Try.ntmps47]
  refine retD (rv := [.tmp 0]) rfl ?_
  have f1 := i_WorldKeys.eq_1
  simp [f1]
theorem i_WorldMethods_ok : SoundD Try.prog 48 [] [[.sl 4 (i_WorldMethods.map TMethod.row)]] := by
  refine sound_ofD Try.func48 rfl (by kernel_rfl) ?_
  simp [Try.ntmps48]
  refine retD (rv := [.tmp 0]) rfl ?_
  have f1 := i_WorldMethods.eq_1
  simp [f1]
theorem i_CertInts_ok (a0 : TCert) : SoundD Try.prog 74 [a0.row] [[.sl 1 ((i_CertInts a0).map iR)]] := by
  refine sound_ofD Try.func74 rfl (by kernel_rfl) ?_
  simp [Try.ntmps74]
  refine retD (rv := [.tmp 2]) rfl ?_
  have f1 := i_CertInts.eq_1 a0
  simp [f1]
theorem i_InRange_ok (a0 : Int) (a1 : Int) (a2 : Int) : SoundAt Try.prog 101 false [[.int .i64 a0], [.int .i64 a1], [.int .i64 a2]] [[.bool (i_InRange a0 a1 a2)]] := by
  refine sound_of Try.func101 rfl (by kernel_rfl) ?_
  simp [Try.ntmps101]
  refine retRd (rv := [.tmp 6]) rfl ?_
  have f1 := i_InRange.eq_1 a0 a1 a2
  simp [f1]
theorem i_Mod_ok (a0 : Int) (a1 : Int) : SoundAt Try.prog 148 false [[.int .i64 a0], [.int .i64 a1]] [[.int .i64 (i_Mod a0 a1)]] := by
  refine sound_of Try.func148 rfl (by kernel_rfl) ?_
  simp [Try.ntmps148]
  refine callRd rfl rfl rfl rfl (i_InRange_ok a1 1 1000000000000) (by simp) (by simp) (by simp) ?_
  simp
  refine condR (c := (!(i_InRange a1 1 1000000000000))) (by simp) (fun k1 h1 => ?_) (fun k1 h1 => ?_)
  · have q1 := h1; try simp [i_InRange] at q1
    simp
    refine retRd (rv := [.tmp 4]) rfl ?_
    have f1 := i_Mod.eq_1 a0 a1
    simp only [h1, cond_true, cond_false] at f1
    simp [f1]
  · have q1 := h1; try simp [i_InRange] at q1
    simp
    repeat ((with_reducible refine And.intro ?_ ?_); focus (intros; first | omega | ((try simp only [W_def, show ∀ x, IntKind.i64.wrap x = W x from fun _ => rfl] at *); omega)))
    refine retRd (rv := [.tmp 4]) rfl ?_
    have f2 := i_Mod.eq_1 a0 a1
    simp only [h1, cond_true, cond_false] at f2
    simp [f2]
theorem i_Hash_ok (a0 : List Int) : SoundAt Try.prog 140 false [[.sl 1 (a0.map iR)]] [[.int .i64 (i_Hash a0)]] := by
  refine sound_of Try.func140 rfl (by kernel_rfl) ?_
  simp [Try.ntmps140]
  refine okL fun k1 => ?_
  refine loopI (ι := { s : Nat × Int × Nat // i_Hash_1 a0 s.1 s.2.1 s.2.2 = i_Hash_1 a0 (a0.length + 1) 11 0 ∧ (1 ≤ s.1 ∧ a0.length < s.1 + s.2.2 ∧ s.2.2 ≤ a0.length) }) (fun s => stOf 21 [(3, .one (.d (.int .i64 s.1.2.1)), []), (6, .one (.d (.sl 1 (a0.map iR))), []), (7, .one (.d (.int .i64 (↑a0.length : Int))), []), (8, .one (.d (.int .i64 (↑s.1.2.2 : Int))), [])]) (fun s => s.1.1) ⟨((a0.length + 1), 11, 0), rfl, by first | omega | (dsimp only; omega) | simp⟩ (wk_keep (by simp)) ?_
  rintro ⟨⟨n1, v1_0, v1_1⟩, e1, j1⟩
  try dsimp only at e1 j1
  obtain ⟨p1, rfl⟩ : ∃ p, n1 = p + 1 := ⟨n1 - 1, by omega⟩
  simp
  refine condR (c := (decide ((↑v1_1 : Int) < (↑a0.length : Int)))) (by simp) (fun k2 h1 => ?_) (fun k2 h1 => ?_)
  · have q1 := h1; try simp at q1
    have i1 : v1_1 < a0.length := by simpa using h1
    have m2 : a0.length ≤ 9223372036854775807 := by simpa using k2 6 _ rfl
    have w1 : IntKind.i64.wrap ((v1_1 : Int) + 1) = (v1_1 : Int) + 1 := wrap_of (by omega) (by omega)
    simp [i1, rowAt_map]
    repeat ((with_reducible refine And.intro ?_ ?_); focus (intros; first | omega | ((try simp only [W_def, show ∀ x, IntKind.i64.wrap x = W x from fun _ => rfl] at *); omega)))
    refine callRd rfl rfl rfl rfl (i_Mod_ok (nth a0 v1_1) 2147483647) (by simp) (by simp) (by simp) ?_
    simp
    refine nxtI ⟨(p1, (Int.tmod (W ((W ((W (v1_0 * 1000003)) + (i_Mod (nth a0 v1_1) 2147483647))) + 13)) 2147483647), (v1_1 + 1)), ?_, ?_⟩ (by simp) (wk_keep (by simp [w1]))
    · rw [← e1]; simp only [i_Hash_1, h1, cond_true, cond_false]
    · first | omega | (simp at *; omega)
  · have q1 := h1; try simp at q1
    have x1 : i_Hash_1 a0 (a0.length + 1) 11 0 = v1_0 := by rw [← e1]; simp only [i_Hash_1, h1, cond_true, cond_false]
    simp
    refine retRd (rv := [.tmp 2]) rfl ?_
    have f1 := i_Hash.eq_1 a0
    simp only [x1, cond_true, cond_false] at f1
    simp [f1]
theorem i_KeyedHash_ok (a0 : Int) (a1 : List Int) (u0 : Sm 2330624 a1) : SoundAt Try.prog 126 false [[.int .i64 a0], [.sl 1 (a1.map iR)]] [[.int .i64 (i_KeyedHash a0 a1)]] := by
  refine sound_of Try.func126 rfl (by kernel_rfl) ?_
  have c1 : a1.length ≤ 2330624 := sm_len (by simp (maxDischargeDepth := 12) [u0])
  simp [Try.ntmps126]
  repeat ((with_reducible refine And.intro ?_ ?_); focus (intros; first | omega | ((try simp only [W_def, show ∀ x, IntKind.i64.wrap x = W x from fun _ => rfl] at *); omega)))
  refine callRd rfl rfl rfl rfl (i_Hash_ok ((([a0] : List Int) ++ a1) ++ ([a0] : List Int))) (by simp) (by simp) (by simp) ?_
  simp
  refine retRd (rv := [.tmp 4]) rfl ?_
  have f1 := i_KeyedHash.eq_1 a0 a1
  simp [f1]
theorem i_MarkWith_ok (a0 : TKey) (a1 : List Int) (u0 : Sm 2326528 a1) : SoundAt Try.prog 100 false [a0.row, [.sl 1 (a1.map iR)]] [[.int .i64 (i_MarkWith a0 a1)]] := by
  refine sound_of Try.func100 rfl (by kernel_rfl) ?_
  simp [Try.ntmps100]
  refine okD fun k1 => ?_
  refine drawP [2, 3, 4, 5, 6, 0, 1, 7, 8] mixed (by kernel_rfl) (by kernel_rfl) (by kernel_rfl) ?_
  have c1 : a1.length ≤ 2326528 := sm_len (by simp (maxDischargeDepth := 12) [u0])
  simp
  repeat ((with_reducible refine And.intro ?_ ?_); focus (intros; first | omega | ((try simp only [W_def, show ∀ x, IntKind.i64.wrap x = W x from fun _ => rfl] at *); omega)))
  refine callRd rfl rfl rfl rfl (i_KeyedHash_ok a0.Secret (([a0.Method] : List Int) ++ a1) (by simp (maxDischargeDepth := 12) [sm_append, sm_list, sm_mono (m := 2330624) (by decide) u0]; try omega)) (by simp) (by simp) (by simp) ?_
  simp
  refine retRd (rv := [.tmp 4]) rfl ?_
  have f1 := i_MarkWith.eq_1 a0 a1
  simp [f1]
theorem i_markBy_ok (a0 : List TKey) (a1 : Int) (a2 : List Int) (u0 : Sm 2322432 a0) (u1 : Sm 2322432 a2) : SoundAt Try.prog 73 false [[.sl 5 (a0.map TKey.row)], [.int .i64 a1], [.sl 1 (a2.map iR)]] [[.int .i64 (i_markBy a0 a1 a2).1], [.bool (i_markBy a0 a1 a2).2]] := by
  refine sound_of Try.func73 rfl (by kernel_rfl) ?_
  simp [Try.ntmps73]
  refine callRd rfl rfl rfl rfl (i_FindKey_ok a0 a1) (by simp) (by simp) (by simp) ?_
  simp
  refine condR (c := (decide ((i_FindKey a0 a1) < 0))) (by simp) (fun k1 h1 => ?_) (fun k1 h1 => ?_)
  · have q1 := h1; try simp at q1
    simp
    refine retRd (rv := [.tmp 6, .tmp 7]) rfl ?_
    have f1 := i_markBy.eq_1 a0 a1 a2
    simp only [h1, cond_true, cond_false] at f1
    simp [f1]
  · have q1 := h1; try simp at q1
    have i1 : (i_FindKey a0 a1).toNat < a0.length := by have := i_FindKey_lt a0 a1; first | omega | (have hz := @List.length_pos_iff _ a0; simp_all; done) | ((try simp only [W_def, show ∀ x, IntKind.i64.wrap x = W x from fun _ => rfl] at *); omega)
    simp [i1, rowAt_map]
    repeat ((with_reducible refine And.intro ?_ ?_); focus (intros; first | omega | ((try simp only [W_def, show ∀ x, IntKind.i64.wrap x = W x from fun _ => rfl] at *); omega)))
    refine callRd rfl rfl rfl rfl (i_MarkWith_ok (nth a0 (i_FindKey a0 a1).toNat) a2 (sm_mono (n := 2322432) (by decide) (by simp (maxDischargeDepth := 12) [u0, u1]))) (by simp) (by simp) (by simp) ?_
    simp
    refine retRd (rv := [.tmp 6, .tmp 7]) rfl ?_
    have f2 := i_markBy.eq_1 a0 a1 a2
    simp only [h1, cond_true, cond_false] at f2
    simp [f2]
theorem i_CertSpan_ok (a0 : TCert) : SoundAt Try.prog 103 false [a0.row] [(i_CertSpan a0).row] := by
  refine sound_of Try.func103 rfl (by kernel_rfl) ?_
  simp [Try.ntmps103]
  refine retRd (rv := [.cell 2 162]) rfl ?_
  have f1 := i_CertSpan.eq_1 a0
  simp [f1]
theorem i_isTime_ok (a0 : Int) : SoundAt Try.prog 127 false [[.int .i64 a0]] [[.bool (i_isTime a0)]] := by
  refine sound_of Try.func127 rfl (by kernel_rfl) ?_
  simp [Try.ntmps127]
  refine callRd rfl rfl rfl rfl (i_InRange_ok a0 0 10000) (by simp) (by simp) (by simp) ?_
  simp
  refine retRd (rv := [.tmp 2]) rfl ?_
  have f1 := i_isTime.eq_1 a0
  simp [f1]
theorem i_IsSpan_ok (a0 : TSpan) : SoundAt Try.prog 102 false [a0.row] [[.bool (i_IsSpan a0)]] := by
  refine sound_of Try.func102 rfl (by kernel_rfl) ?_
  simp [Try.ntmps102]
  refine callRd rfl rfl rfl rfl (i_isTime_ok a0.From) (by simp) (by simp) (by simp) ?_
  simp
  refine callG rfl rfl rfl rfl rfl rfl (fun gg => (i_isTime_ok a0.To)) (by simp) (by simp) (by simp) (by simp) ?_
  simp
  refine retRd (rv := [.tmp 2]) rfl ?_
  have f1 := i_IsSpan.eq_1 a0
  simp [f1]
theorem i_IsCert_ok (a0 : TCert) : SoundAt Try.prog 75 false [a0.row] [[.bool (i_IsCert a0)]] := by
  refine sound_of Try.func75 rfl (by kernel_rfl) ?_
  simp [Try.ntmps75]
  refine callRd rfl rfl rfl rfl (i_InRange_ok a0.Serial 1 999) (by simp) (by simp) (by simp) ?_
  simp
  refine callG rfl rfl rfl rfl rfl rfl (fun gg => (i_InRange_ok a0.Key 1 99)) (by simp) (by simp) (by simp) (by simp) ?_
  simp
  refine callG rfl rfl rfl rfl rfl rfl (fun gg => (i_InRange_ok a0.Issuer 1 99)) (by simp) (by simp) (by simp) (by simp) ?_
  simp
  refine callG rfl rfl rfl rfl rfl rfl (fun gg => (i_InRange_ok a0.Owner 0 99)) (by simp) (by simp) (by simp) (by simp) ?_
  simp
  refine callG rfl rfl rfl rfl rfl rfl (fun gg => (i_CertSpan_ok a0)) (by simp) (by simp) (by simp) (by simp) ?_
  simp
  refine callG rfl rfl rfl rfl rfl rfl (fun gg => (i_IsSpan_ok (i_CertSpan a0))) (by simp) (by simp) (by simp) (by simp) ?_
  simp
  refine retRd (rv := [.tmp 2]) rfl ?_
  have f1 := i_IsCert.eq_1 a0
  simp [f1]
theorem i_IssueCert_ok (a0 : List TKey) (a1 : TCert) (u0 : Sm 2318336 a0) : SoundAt Try.prog 49 false [[.sl 5 (a0.map TKey.row)], a1.row] [(i_IssueCert a0 a1).1.row, [.bool (i_IssueCert a0 a1).2]] := by
  refine sound_of Try.func49 rfl (by kernel_rfl) ?_
  simp [Try.ntmps49]
  refine okD fun k1 => ?_
  refine drawI mixed (by kernel_rfl) (by kernel_rfl) ?_
  simp
  refine callRd rfl rfl rfl rfl (SoundD.rd (i_CertInts_ok a1)) (by simp) (by simp) (by simp) ?_
  simp
  refine callRd rfl rfl rfl rfl (i_markBy_ok a0 a1.Issuer (i_CertInts a1) (sm_mono (n := 2318336) (by decide) (by simp (maxDischargeDepth := 12) [u0])) (by simp (maxDischargeDepth := 12) [i_CertInts_sm, sm_mono (m := 2322432) (by decide) u0]; try omega)) (by simp) (by simp) (by simp) ?_
  simp
  refine callRd rfl rfl rfl rfl (i_IsCert_ok a1) (by simp) (by simp) (by simp) ?_
  simp
  refine callG rfl rfl rfl rfl rfl rfl (fun gg => (i_FindKey_ok a0 a1.Key)) (by simp) (by simp) (by simp) (by simp) ?_
  simp
  refine condR (c := (((!(i_IsCert a1)) || (!(i_markBy a0 a1.Issuer (i_CertInts a1)).2)) || (decide ((i_FindKey a0 a1.Key) < 0)))) (by simp) (fun k2 h1 => ?_) (fun k2 h1 => ?_)
  · have q1 := h1; try simp at q1
    simp
    refine retRd (rv := [.cell 4 95, .tmp 5]) rfl ?_
    have f1 := i_IssueCert.eq_1 a0 a1
    simp only [h1, cond_true, cond_false] at f1
    simp [f1]
  · have q1 := h1; try simp at q1
    simp
    refine retRd (rv := [.cell 4 95, .tmp 5]) rfl ?_
    have f2 := i_IssueCert.eq_1 a0 a1
    simp only [h1, cond_true, cond_false] at f2
    simp [f2]
theorem i_NewWorld_ok (a0 : Int) : SoundD Try.prog 19 [[.int .i64 a0]] [(i_NewWorld a0).row] := by
  refine sound_ofD Try.func19 rfl (by kernel_rfl) ?_
  simp [Try.ntmps19]
  refine okD fun k1 => ?_
  refine drawI mixed (by kernel_rfl) (by kernel_rfl) ?_
  simp
  refine callD [false] rfl rfl rfl rfl (i_WorldKeys_ok) (by simp) (by simp) (by simp) (by simp) ?_
  simp
  refine callD [false] rfl rfl rfl rfl (i_WorldMethods_ok) (by simp) (by simp) (by simp) (by simp) ?_
  simp
  repeat ((with_reducible refine And.intro ?_ ?_); focus (intros; first | omega | ((try simp only [W_def, show ∀ x, IntKind.i64.wrap x = W x from fun _ => rfl] at *); omega)))
  refine litI rfl rfl rfl (by simp) (by simp) (by simp) ?_
  simp
  refine okL fun k2 => ?_
  refine loopI (ι := { s : Nat × Nat × (List TAuthority) // i_NewWorld_1 s.1 s.2.1 s.2.2 = i_NewWorld_1 5 0 ([] : List TAuthority) ∧ (1 ≤ s.1 ∧ 4 < s.1 + s.2.1 ∧ s.2.2.length ≤ 0 + 1 * s.2.1) }) (fun s => stOf 73 [(0, .one (.d (.int .i64 (if (if a0 < 1 then a0 else 1) > 0 then (if a0 < 1 then a0 else 1) else 0))), []), (2, .one (.bptr 2 0), [.box [.nil 5, .nil 3, .nil 4, .d (.int .i64 0), .d (.int .i64 0), .nil 7, .nil 1, .nil 2, .nil 1, .nil 1, .d (.int .i64 0), .nil 1]]), (3, .one (.bptr 3 0), [.box [.sref 13 0 0 i_WorldKeys.length, .sref 3 2 0 s.1.2.2.length, .sref 14 0 0 i_WorldMethods.length, .d (.int .i64 (if (if a0 < 1 then a0 else 1) > 0 then (if a0 < 1 then a0 else 1) else 0)), .d (.int .i64 0), .nil 7, .sref 18 0 0 3, .sref 21 0 0 2, .sref 17 0 0 4, .nil 1, .d (.int .i64 1), .nil 1], .none, .arr false 3 (s.1.2.2.map TAuthority.row)]), (13, .any, [.arr false 5 (i_WorldKeys.map TKey.row)]), (14, .any, [.arr false 4 (i_WorldMethods.map TMethod.row)]), (17, .any, [.arr false 1 ((List.replicate 4 0).map iR)]), (18, .any, [.arr false 1 (([(-1), (-1), (-1)] : List Int).map iR)]), (21, .any, [.arr true 2 (([(TArchive.mk 0 ([] : List TItem)), (TArchive.mk 1 ([] : List TItem))] : List TArchive).map TArchive.row)]), (23, .one (.sref 23 0 0 4), [.arr false 1 (([1, 2, 1, 0] : List Int).map iR)]), (24, .one (.d (.int .i64 4)), []), (25, .one (.d (.int .i64 (↑s.1.2.1 : Int))), [])]) (fun s => s.1.1) ⟨(5, 0, ([] : List TAuthority)), rfl, by first | omega | (dsimp only; omega) | simp⟩ (wkLit (t := 21) (size := 2) (rows := [[.d (.int .i64 0), .nil 16], [.d (.int .i64 1), .nil 16]]) (news := (([(TArchive.mk 0 ([] : List TItem)), (TArchive.mk 1 ([] : List TItem))] : List TArchive).map TArchive.row)) (L := []) (by simp) (by simp) (by simp) (by simp) (by simp) (by simp) (wk_of [((3, 2), none)] [] rfl (by simp))) ?_
  rintro ⟨⟨n1, v1_0, v1_1⟩, e1, j1⟩
  try dsimp only at e1 j1
  obtain ⟨p1, rfl⟩ : ∃ p, n1 = p + 1 := ⟨n1 - 1, by omega⟩
  simp
  refine condR (c := (decide ((↑v1_0 : Int) < 4))) (by simp) (fun k3 h1 => ?_) (fun k3 h1 => ?_)
  · have q1 := h1; try simp at q1
    have w1 : IntKind.i64.wrap ((v1_0 : Int) + 1) = (v1_0 : Int) + 1 := wrap_of (by omega) (by omega)
    have i2 : v1_0 < ([1, 2, 1, 0] : List Int).length := by first | (simp; omega) | (simp; ((try simp only [W_def, show ∀ x, IntKind.i64.wrap x = W x from fun _ => rfl] at *); omega))
    have r1 := rowAt_map (f := iR) i2; try simp at r1
    simp [i2, r1, rowAt_map]
    repeat ((with_reducible refine And.intro ?_ ?_); focus (intros; first | omega | ((try simp only [W_def, show ∀ x, IntKind.i64.wrap x = W x from fun _ => rfl] at *); omega)))
    refine nxtI ⟨(p1, (v1_0 + 1), (v1_1 ++ ([(TAuthority.mk (W ((↑v1_0 : Int) + 1)) (W (31 + (↑v1_0 : Int))) (nth ([1, 2, 1, 0] : List Int) v1_0))] : List TAuthority))), ?_, ?_⟩ (by simp) (wk_of [((3, 2), some (40, 0))] [] rfl (by simp [w1]))
    · rw [← e1]; simp only [i_NewWorld_1, h1, cond_true, cond_false]
    · first | omega | (simp at *; omega)
  · have q1 := h1; try simp at q1
    have x1 : i_NewWorld_1 5 0 ([] : List TAuthority) = v1_1 := by rw [← e1]; simp only [i_NewWorld_1, h1, cond_true, cond_false]
    simp
    refine okL fun k4 => ?_
    refine loopI (ι := { s : Nat × Nat × (List TCert) // i_NewWorld_2 s.1 s.2.1 s.2.2 = i_NewWorld_2 4 0 ([] : List TCert) ∧ (1 ≤ s.1 ∧ 3 < s.1 + s.2.1 ∧ s.2.2.length ≤ 0 + 1 * s.2.1) }) (fun s => stOf 73 [(0, .one (.d (.int .i64 (if (if a0 < 1 then a0 else 1) > 0 then (if a0 < 1 then a0 else 1) else 0))), []), (2, .one (.bptr 2 0), [.box [.nil 5, .nil 3, .nil 4, .d (.int .i64 0), .d (.int .i64 0), .nil 7, .nil 1, .nil 2, .nil 1, .nil 1, .d (.int .i64 0), .nil 1]]), (3, .one (.bptr 3 0), [.box [.sref 13 0 0 i_WorldKeys.length, .sref 3 2 0 v1_1.length, .sref 14 0 0 i_WorldMethods.length, .d (.int .i64 (if (if a0 < 1 then a0 else 1) > 0 then (if a0 < 1 then a0 else 1) else 0)), .d (.int .i64 0), .sref 3 6 0 s.1.2.2.length, .sref 18 0 0 3, .sref 21 0 0 2, .sref 17 0 0 4, .nil 1, .d (.int .i64 1), .nil 1], .none, .arr false 3 (v1_1.map TAuthority.row), .none, .none, .none, .arr false 7 (s.1.2.2.map TCert.row)]), (13, .any, [.arr false 5 (i_WorldKeys.map TKey.row)]), (14, .any, [.arr false 4 (i_WorldMethods.map TMethod.row)]), (17, .any, [.arr false 1 ((List.replicate 4 0).map iR)]), (18, .any, [.arr false 1 (([(-1), (-1), (-1)] : List Int).map iR)]), (21, .any, [.arr true 2 (([(TArchive.mk 0 ([] : List TItem)), (TArchive.mk 1 ([] : List TItem))] : List TArchive).map TArchive.row)]), (47, .one (.sref 47 0 0 3), [.arr false 7 (([(TCert.mk 1 11 1 0 60 1 0), (TCert.mk 2 12 1 20 100 1 0), (TCert.mk 3 13 2 40 150 2 0)] : List TCert).map TCert.row)]), (48, .one (.d (.int .i64 3)), []), (49, .one (.d (.int .i64 (↑s.1.2.1 : Int))), [])]) (fun s => s.1.1) ⟨(4, 0, ([] : List TCert)), rfl, by first | omega | (dsimp only; omega) | simp⟩ (wk_of [((3, 6), none)] [] rfl (by simp)) ?_
    rintro ⟨⟨n2, v2_0, v2_1⟩, e2, j2⟩
    try dsimp only at e2 j2
    obtain ⟨p2, rfl⟩ : ∃ p, n2 = p + 1 := ⟨n2 - 1, by omega⟩
    simp
    refine condR (c := (decide ((↑v2_0 : Int) < 3))) (by simp) (fun k5 h2 => ?_) (fun k5 h2 => ?_)
    · have q2 := h2; try simp at q2
      have w2 : IntKind.i64.wrap ((v2_0 : Int) + 1) = (v2_0 : Int) + 1 := wrap_of (by omega) (by omega)
      have i4 : v2_0 < ([(TCert.mk 1 11 1 0 60 1 0), (TCert.mk 2 12 1 20 100 1 0), (TCert.mk 3 13 2 40 150 2 0)] : List TCert).length := by first | (simp; omega) | (simp; ((try simp only [W_def, show ∀ x, IntKind.i64.wrap x = W x from fun _ => rfl] at *); omega))
      have r2 := rowAt_map (f := TCert.row) i4; try simp at r2
      simp [i4, r2, rowAt_map]
      repeat ((with_reducible refine And.intro ?_ ?_); focus (intros; first | omega | ((try simp only [W_def, show ∀ x, IntKind.i64.wrap x = W x from fun _ => rfl] at *); omega)))
      refine callRd rfl rfl rfl rfl (i_IssueCert_ok i_WorldKeys (nth ([(TCert.mk 1 11 1 0 60 1 0), (TCert.mk 2 12 1 20 100 1 0), (TCert.mk 3 13 2 40 150 2 0)] : List TCert) v2_0) (by simp (maxDischargeDepth := 12) [i_WorldKeys_sm]; try omega)) (by simp) (by simp) (by simp) ?_
      simp
      repeat ((with_reducible refine And.intro ?_ ?_); focus (intros; first | omega | ((try simp only [W_def, show ∀ x, IntKind.i64.wrap x = W x from fun _ => rfl] at *); omega)))
      refine nxtI ⟨(p2, (v2_0 + 1), (v2_1 ++ ([(i_IssueCert i_WorldKeys (nth ([(TCert.mk 1 11 1 0 60 1 0), (TCert.mk 2 12 1 20 100 1 0), (TCert.mk 3 13 2 40 150 2 0)] : List TCert) v2_0)).1] : List TCert))), ?_, ?_⟩ (by simp) (wk_of [((3, 6), some (65, 0))] [] rfl (by simp [w2]))
      · rw [← e2]; simp only [i_NewWorld_2, h2, cond_true, cond_false]
      · first | omega | (simp at *; omega)
    · have q2 := h2; try simp at q2
      have x2 : i_NewWorld_2 4 0 ([] : List TCert) = v2_1 := by rw [← e2]; simp only [i_NewWorld_2, h2, cond_true, cond_false]
      simp
      refine condR (c := (decide ((if (if a0 < 1 then a0 else 1) > 0 then (if a0 < 1 then a0 else 1) else 0) > 0))) (by simp) (fun k6 h3 => ?_) (fun k6 h3 => ?_)
      · have q3 := h3; try simp at q3
        simp
        refine retD (rv := [.cell 2 54]) rfl ?_
        have f1 := i_NewWorld.eq_1 a0
        simp only [x1, x2, h3, cond_true, cond_false] at f1
        simp [f1]
      · have q3 := h3; try simp at q3
        simp
        refine retD (rv := [.cell 2 54]) rfl ?_
        have f2 := i_NewWorld.eq_1 a0
        simp only [x1, x2, h3, cond_true, cond_false] at f2
        simp [f2]
theorem l_eqCert_ok (a0 : TCert) (a1 : TCert) : SoundAt Try.prog 77 false [a0.row, a1.row] [[.bool (l_eqCert a0 a1)]] := by
  refine sound_of Try.func77 rfl (by kernel_rfl) ?_
  simp [Try.ntmps77]
  refine condR (c := (a0.Serial != a1.Serial)) (by simp) (fun k1 h1 => ?_) (fun k1 h1 => ?_)
  · have q1 := h1; try simp at q1
    simp
    refine retRd (rv := [.tmp 4]) rfl ?_
    have f1 := l_eqCert.eq_1 a0 a1
    simp only [h1, cond_true, cond_false] at f1
    simp [f1]
  · have q1 := h1; try simp at q1
    simp
    refine condR (c := (a0.Key != a1.Key)) (by simp) (fun k2 h2 => ?_) (fun k2 h2 => ?_)
    · have q2 := h2; try simp at q2
      simp
      refine retRd (rv := [.tmp 4]) rfl ?_
      have f2 := l_eqCert.eq_1 a0 a1
      simp only [h1, h2, cond_true, cond_false] at f2
      simp [f2]
    · have q2 := h2; try simp at q2
      simp
      refine condR (c := (a0.Owner != a1.Owner)) (by simp) (fun k3 h3 => ?_) (fun k3 h3 => ?_)
      · have q3 := h3; try simp at q3
        simp
        refine retRd (rv := [.tmp 4]) rfl ?_
        have f3 := l_eqCert.eq_1 a0 a1
        simp only [h1, h2, h3, cond_true, cond_false] at f3
        simp [f3]
      · have q3 := h3; try simp at q3
        simp
        refine condR (c := (a0.From != a1.From)) (by simp) (fun k4 h4 => ?_) (fun k4 h4 => ?_)
        · have q4 := h4; try simp at q4
          simp
          refine retRd (rv := [.tmp 4]) rfl ?_
          have f4 := l_eqCert.eq_1 a0 a1
          simp only [h1, h2, h3, h4, cond_true, cond_false] at f4
          simp [f4]
        · have q4 := h4; try simp at q4
          simp
          refine condR (c := (a0.To != a1.To)) (by simp) (fun k5 h5 => ?_) (fun k5 h5 => ?_)
          · have q5 := h5; try simp at q5
            simp
            refine retRd (rv := [.tmp 4]) rfl ?_
            have f5 := l_eqCert.eq_1 a0 a1
            simp only [h1, h2, h3, h4, h5, cond_true, cond_false] at f5
            simp [f5]
          · have q5 := h5; try simp at q5
            simp
            refine condR (c := (a0.Issuer != a1.Issuer)) (by simp) (fun k6 h6 => ?_) (fun k6 h6 => ?_)
            · have q6 := h6; try simp at q6
              simp
              refine retRd (rv := [.tmp 4]) rfl ?_
              have f6 := l_eqCert.eq_1 a0 a1
              simp only [h1, h2, h3, h4, h5, h6, cond_true, cond_false] at f6
              simp [f6]
            · have q6 := h6; try simp at q6
              simp
              refine condR (c := (a0.Mark != a1.Mark)) (by simp) (fun k7 h7 => ?_) (fun k7 h7 => ?_)
              · have q7 := h7; try simp at q7
                simp
                refine retRd (rv := [.tmp 4]) rfl ?_
                have f7 := l_eqCert.eq_1 a0 a1
                simp only [h1, h2, h3, h4, h5, h6, h7, cond_true, cond_false] at f7
                simp [f7]
              · have q7 := h7; try simp at q7
                simp
                refine retRd (rv := [.tmp 4]) rfl ?_
                have f8 := l_eqCert.eq_1 a0 a1
                simp only [h1, h2, h3, h4, h5, h6, h7, cond_true, cond_false] at f8
                simp [f8]
theorem l_eqCertS_ok (a0 : List TCert) (a1 : List TCert) : SoundAt Try.prog 50 false [[.sl 7 (a0.map TCert.row)], [.sl 7 (a1.map TCert.row)]] [[.bool (l_eqCertS a0 a1)]] := by
  refine sound_of Try.func50 rfl (by kernel_rfl) ?_
  simp [Try.ntmps50]
  refine condR (c := ((↑a0.length : Int) != (↑a1.length : Int))) (by simp) (fun k1 h1 => ?_) (fun k1 h1 => ?_)
  · have q1 := h1; try simp at q1
    simp
    refine retRd (rv := [.tmp 4]) rfl ?_
    have f1 := l_eqCertS.eq_1 a0 a1
    simp only [h1, cond_true, cond_false] at f1
    simp [f1]
  · have q1 := h1; try simp at q1
    simp
    refine okL fun k2 => ?_
    refine loopI (ι := { s : Nat × Nat // l_eqCertS_1 a0 a1 s.1 s.2 = l_eqCertS_1 a0 a1 (a0.length + 1) 0 ∧ (1 ≤ s.1 ∧ a0.length < s.1 + s.2 ∧ s.2 ≤ a0.length) }) (fun s => stOf 27 [(0, .one (.d (.sl 7 (a0.map TCert.row))), []), (1, .one (.d (.sl 7 (a1.map TCert.row))), []), (5, .one (.d (.int .i64 (↑s.1.2 : Int))), [])]) (fun s => s.1.1) ⟨((a0.length + 1), 0), rfl, by first | omega | (dsimp only; omega) | simp⟩ (wk_keep (by simp)) ?_
    rintro ⟨⟨n1, v1_0⟩, e1, j1⟩
    try dsimp only at e1 j1
    obtain ⟨p1, rfl⟩ : ∃ p, n1 = p + 1 := ⟨n1 - 1, by omega⟩
    simp
    refine condR (c := (decide ((↑v1_0 : Int) < (↑a0.length : Int)))) (by simp) (fun k3 h2 => ?_) (fun k3 h2 => ?_)
    · have q2 := h2; try simp at q2
      have i1 : v1_0 < a0.length := by simpa using h2
      have m2 : a0.length ≤ 9223372036854775807 := by simpa using k3 0 _ rfl
      have w1 : IntKind.i64.wrap ((v1_0 : Int) + 1) = (v1_0 : Int) + 1 := wrap_of (by omega) (by omega)
      simp
      refine okD fun k4 => ?_
      refine drawI mixed (by kernel_rfl) (by kernel_rfl) ?_
      have i2 : v1_0 < a1.length := by first | omega | (have hz := @List.length_pos_iff _ a1; simp_all; done) | ((try simp only [W_def, show ∀ x, IntKind.i64.wrap x = W x from fun _ => rfl] at *); omega)
      simp [i1, rowAt_map, i2]
      repeat ((with_reducible refine And.intro ?_ ?_); focus (intros; first | omega | ((try simp only [W_def, show ∀ x, IntKind.i64.wrap x = W x from fun _ => rfl] at *); omega)))
      refine callRd rfl rfl rfl rfl (l_eqCert_ok (nth a0 v1_0) (nth a1 v1_0)) (by simp) (by simp) (by simp) ?_
      simp
      refine condR (c := (!(l_eqCert (nth a0 v1_0) (nth a1 v1_0)))) (by simp) (fun k5 h3 => ?_) (fun k5 h3 => ?_)
      · have q3 := h3; try simp at q3
        have x1 : l_eqCertS_1 a0 a1 (a0.length + 1) 0 = .inl false := by rw [← e1]; simp only [l_eqCertS_1, h2, h3, cond_true, cond_false]
        simp
        refine retRd (rv := [.tmp 4]) rfl ?_
        have f2 := l_eqCertS.eq_1 a0 a1
        simp only [h1, x1, cond_true, cond_false] at f2
        simp [f2]
      · have q3 := h3; try simp at q3
        simp
        refine nxtI ⟨(p1, (v1_0 + 1)), ?_, ?_⟩ (by simp) (wk_keep (by simp [w1]))
        · rw [← e1]; simp only [l_eqCertS_1, h2, h3, cond_true, cond_false]
        · first | omega | (simp at *; omega)
    · have q2 := h2; try simp at q2
      have x2 : l_eqCertS_1 a0 a1 (a0.length + 1) 0 = .inr () := by rw [← e1]; simp only [l_eqCertS_1, h2, cond_true, cond_false]
      simp
      refine retRd (rv := [.tmp 4]) rfl ?_
      have f3 := l_eqCertS.eq_1 a0 a1
      simp only [h1, x2, cond_true, cond_false] at f3
      simp [f3]
theorem l_eqArchiveS_ok (a0 : List TArchive) (a1 : List TArchive) : SoundAt Try.prog 51 false [[.sl 2 (a0.map TArchive.row)], [.sl 2 (a1.map TArchive.row)]] [[.bool (l_eqArchiveS a0 a1)]] := by
  refine sound_of Try.func51 rfl (by kernel_rfl) ?_
  simp [Try.ntmps51]
  refine condR (c := ((↑a0.length : Int) != (↑a1.length : Int))) (by simp) (fun k1 h1 => ?_) (fun k1 h1 => ?_)
  · have q1 := h1; try simp at q1
    simp
    refine retRd (rv := [.tmp 4]) rfl ?_
    have f1 := l_eqArchiveS.eq_1 a0 a1
    simp only [h1, cond_true, cond_false] at f1
    simp [f1]
  · have q1 := h1; try simp at q1
    simp
    refine okL fun k2 => ?_
    refine loopI (ι := { s : Nat × Nat // l_eqArchiveS_1 a0 a1 s.1 s.2 = l_eqArchiveS_1 a0 a1 (a0.length + 1) 0 ∧ (1 ≤ s.1 ∧ a0.length < s.1 + s.2 ∧ s.2 ≤ a0.length) }) (fun s => stOf 27 [(0, .one (.d (.sl 2 (a0.map TArchive.row))), []), (1, .one (.d (.sl 2 (a1.map TArchive.row))), []), (5, .one (.d (.int .i64 (↑s.1.2 : Int))), [])]) (fun s => s.1.1) ⟨((a0.length + 1), 0), rfl, by first | omega | (dsimp only; omega) | simp⟩ (wk_keep (by simp)) ?_
    rintro ⟨⟨n1, v1_0⟩, e1, j1⟩
    try dsimp only at e1 j1
    obtain ⟨p1, rfl⟩ : ∃ p, n1 = p + 1 := ⟨n1 - 1, by omega⟩
    simp
    refine condR (c := (decide ((↑v1_0 : Int) < (↑a0.length : Int)))) (by simp) (fun k3 h2 => ?_) (fun k3 h2 => ?_)
    · have q2 := h2; try simp at q2
      have i1 : v1_0 < a0.length := by simpa using h2
      have m2 : a0.length ≤ 9223372036854775807 := by simpa using k3 0 _ rfl
      have w1 : IntKind.i64.wrap ((v1_0 : Int) + 1) = (v1_0 : Int) + 1 := wrap_of (by omega) (by omega)
      simp
      refine okD fun k4 => ?_
      refine drawI mixed (by kernel_rfl) (by kernel_rfl) ?_
      have i2 : v1_0 < a1.length := by first | omega | (have hz := @List.length_pos_iff _ a1; simp_all; done) | ((try simp only [W_def, show ∀ x, IntKind.i64.wrap x = W x from fun _ => rfl] at *); omega)
      simp [i1, rowAt_map, i2]
      repeat ((with_reducible refine And.intro ?_ ?_); focus (intros; first | omega | ((try simp only [W_def, show ∀ x, IntKind.i64.wrap x = W x from fun _ => rfl] at *); omega)))
      refine callRd rfl rfl rfl rfl (l_eqArchive_ok (nth a0 v1_0) (nth a1 v1_0)) (by simp) (by simp) (by simp) ?_
      simp
      refine condR (c := (!(l_eqArchive (nth a0 v1_0) (nth a1 v1_0)))) (by simp) (fun k5 h3 => ?_) (fun k5 h3 => ?_)
      · have q3 := h3; try simp at q3
        have x1 : l_eqArchiveS_1 a0 a1 (a0.length + 1) 0 = .inl false := by rw [← e1]; simp only [l_eqArchiveS_1, h2, h3, cond_true, cond_false]
        simp
        refine retRd (rv := [.tmp 4]) rfl ?_
        have f2 := l_eqArchiveS.eq_1 a0 a1
        simp only [h1, x1, cond_true, cond_false] at f2
        simp [f2]
      · have q3 := h3; try simp at q3
        simp
        refine nxtI ⟨(p1, (v1_0 + 1)), ?_, ?_⟩ (by simp) (wk_keep (by simp [w1]))
        · rw [← e1]; simp only [l_eqArchiveS_1, h2, h3, cond_true, cond_false]
        · first | omega | (simp at *; omega)
    · have q2 := h2; try simp at q2
      have x2 : l_eqArchiveS_1 a0 a1 (a0.length + 1) 0 = .inr () := by rw [← e1]; simp only [l_eqArchiveS_1, h2, cond_true, cond_false]
      simp
      refine retRd (rv := [.tmp 4]) rfl ?_
      have f3 := l_eqArchiveS.eq_1 a0 a1
      simp only [h1, x2, cond_true, cond_false] at f3
      simp [f3]
theorem l_eqWorld_ok (a0 : TWorld) (a1 : TWorld) : SoundAt Try.prog 20 false [a0.row, a1.row] [[.bool (l_eqWorld a0 a1)]] := by
  refine sound_of Try.func20 rfl (by kernel_rfl) ?_
  simp [Try.ntmps20]
  refine callRd rfl rfl rfl rfl (l_eqFrame_ok a0.Frame a1.Frame) (by simp) (by simp) (by simp) ?_
  simp
  refine condR (c := (!(l_eqFrame a0.Frame a1.Frame))) (by simp) (fun k1 h1 => ?_) (fun k1 h1 => ?_)
  · have q1 := h1; try simp at q1
    simp
    refine retRd (rv := [.tmp 4]) rfl ?_
    have f1 := l_eqWorld.eq_1 a0 a1
    simp only [h1, cond_true, cond_false] at f1
    simp [f1]
  · have q1 := h1; try simp at q1
    simp
    refine callRd rfl rfl rfl rfl (l_eqCertS_ok a0.Certs a1.Certs) (by simp) (by simp) (by simp) ?_
    simp
    refine condR (c := (!(l_eqCertS a0.Certs a1.Certs))) (by simp) (fun k2 h2 => ?_) (fun k2 h2 => ?_)
    · have q2 := h2; try simp at q2
      simp
      refine retRd (rv := [.tmp 4]) rfl ?_
      have f2 := l_eqWorld.eq_1 a0 a1
      simp only [h1, h2, cond_true, cond_false] at f2
      simp [f2]
    · have q2 := h2; try simp at q2
      simp
      refine callRd rfl rfl rfl rfl (l_eqIntS_ok a0.Ended a1.Ended) (by simp) (by simp) (by simp) ?_
      simp
      refine condR (c := (!(l_eqIntS a0.Ended a1.Ended))) (by simp) (fun k3 h3 => ?_) (fun k3 h3 => ?_)
      · have q3 := h3; try simp at q3
        simp
        refine retRd (rv := [.tmp 4]) rfl ?_
        have f3 := l_eqWorld.eq_1 a0 a1
        simp only [h1, h2, h3, cond_true, cond_false] at f3
        simp [f3]
      · have q3 := h3; try simp at q3
        simp
        refine callRd rfl rfl rfl rfl (l_eqArchiveS_ok a0.Archives a1.Archives) (by simp) (by simp) (by simp) ?_
        simp
        refine condR (c := (!(l_eqArchiveS a0.Archives a1.Archives))) (by simp) (fun k4 h4 => ?_) (fun k4 h4 => ?_)
        · have q4 := h4; try simp at q4
          simp
          refine retRd (rv := [.tmp 4]) rfl ?_
          have f4 := l_eqWorld.eq_1 a0 a1
          simp only [h1, h2, h3, h4, cond_true, cond_false] at f4
          simp [f4]
        · have q4 := h4; try simp at q4
          simp
          refine callRd rfl rfl rfl rfl (l_eqIntS_ok a0.Seqs a1.Seqs) (by simp) (by simp) (by simp) ?_
          simp
          refine condR (c := (!(l_eqIntS a0.Seqs a1.Seqs))) (by simp) (fun k5 h5 => ?_) (fun k5 h5 => ?_)
          · have q5 := h5; try simp at q5
            simp
            refine retRd (rv := [.tmp 4]) rfl ?_
            have f5 := l_eqWorld.eq_1 a0 a1
            simp only [h1, h2, h3, h4, h5, cond_true, cond_false] at f5
            simp [f5]
          · have q5 := h5; try simp at q5
            simp
            refine callRd rfl rfl rfl rfl (l_eqIntS_ok a0.Lying a1.Lying) (by simp) (by simp) (by simp) ?_
            simp
            refine condR (c := (!(l_eqIntS a0.Lying a1.Lying))) (by simp) (fun k6 h6 => ?_) (fun k6 h6 => ?_)
            · have q6 := h6; try simp at q6
              simp
              refine retRd (rv := [.tmp 4]) rfl ?_
              have f6 := l_eqWorld.eq_1 a0 a1
              simp only [h1, h2, h3, h4, h5, h6, cond_true, cond_false] at f6
              simp [f6]
            · have q6 := h6; try simp at q6
              simp
              refine condR (c := (a0.Next != a1.Next)) (by simp) (fun k7 h7 => ?_) (fun k7 h7 => ?_)
              · have q7 := h7; try simp at q7
                simp
                refine retRd (rv := [.tmp 4]) rfl ?_
                have f7 := l_eqWorld.eq_1 a0 a1
                simp only [h1, h2, h3, h4, h5, h6, h7, cond_true, cond_false] at f7
                simp [f7]
              · have q7 := h7; try simp at q7
                simp
                refine callRd rfl rfl rfl rfl (l_eqIntS_ok a0.Forged a1.Forged) (by simp) (by simp) (by simp) ?_
                simp
                refine condR (c := (!(l_eqIntS a0.Forged a1.Forged))) (by simp) (fun k8 h8 => ?_) (fun k8 h8 => ?_)
                · have q8 := h8; try simp at q8
                  simp
                  refine retRd (rv := [.tmp 4]) rfl ?_
                  have f8 := l_eqWorld.eq_1 a0 a1
                  simp only [h1, h2, h3, h4, h5, h6, h7, h8, cond_true, cond_false] at f8
                  simp [f8]
                · have q8 := h8; try simp at q8
                  simp
                  refine retRd (rv := [.tmp 4]) rfl ?_
                  have f9 := l_eqWorld.eq_1 a0 a1
                  simp only [h1, h2, h3, h4, h5, h6, h7, h8, cond_true, cond_false] at f9
                  simp [f9]
theorem l_markCertS_ok (a0 : List TCert) (a1 : Int) : SoundM Try.prog 52 [.sl 7 (a0.map TCert.row)] [[.int .i64 a1]] [.sl 7 ((l_markCertS a0 a1).1.map TCert.row)] (.int .i64 (l_markCertS a0 a1).2) := by
  refine sound_ofM Try.func52 rfl (by kernel_rfl) (fun v => ?_)
  simp [Try.ntmps52]
  refine okL fun k1 => ?_
  refine loopI (ι := { s : Nat × Int × Nat × (List TCert) // l_markCertS_1 s.1 s.2.1 s.2.2.1 s.2.2.2 = l_markCertS_1 (a0.length + 1) a1 0 a0 ∧ (1 ≤ s.1 ∧ s.2.2.2.length < s.1 + s.2.2.1) }) (fun s => stOf 62 [(0, .fix v (.one (.sref 0 0 0 s.1.2.2.2.length)), [.arr true 7 (s.1.2.2.2.map TCert.row)]), (1, .one (.d (.int .i64 s.1.2.1)), []), (5, .one (.d (.int .i64 (↑s.1.2.2.1 : Int))), [])]) (fun s => s.1.1) ⟨((a0.length + 1), a1, 0, a0), rfl, by first | omega | (dsimp only; omega) | simp⟩ (wk_keep (by simp)) ?_
  rintro ⟨⟨n1, v1_0, v1_1, v1_2⟩, e1, j1⟩
  try dsimp only at e1 j1
  obtain ⟨p1, rfl⟩ : ∃ p, n1 = p + 1 := ⟨n1 - 1, by omega⟩
  simp
  refine condR (c := (decide ((↑v1_1 : Int) < (↑v1_2.length : Int)))) (by simp) (fun k2 h1 => ?_) (fun k2 h1 => ?_)
  · have q1 := h1; try simp at q1
    have i1 : v1_1 < v1_2.length := by simpa using h1
    have m2 : v1_2.length ≤ 9223372036854775807 := by simpa using k2 0 _ rfl
    have w1 : IntKind.i64.wrap ((v1_1 : Int) + 1) = (v1_1 : Int) + 1 := wrap_of (by omega) (by omega)
    simp [i1, rowAt_map, set_map (x := (TCert.mk v1_0 (nth v1_2 v1_1).Key (nth v1_2 v1_1).Owner (nth v1_2 v1_1).From (nth v1_2 v1_1).To (nth v1_2 v1_1).Issuer (nth v1_2 v1_1).Mark)) rfl, rowAt_set_self, List.set_set, set_map (x := (TCert.mk v1_0 (W (v1_0 + 1)) (nth v1_2 v1_1).Owner (nth v1_2 v1_1).From (nth v1_2 v1_1).To (nth v1_2 v1_1).Issuer (nth v1_2 v1_1).Mark)) rfl, set_map (x := (TCert.mk v1_0 (W (v1_0 + 1)) (W ((W (v1_0 + 1)) + 1)) (nth v1_2 v1_1).From (nth v1_2 v1_1).To (nth v1_2 v1_1).Issuer (nth v1_2 v1_1).Mark)) rfl, set_map (x := (TCert.mk v1_0 (W (v1_0 + 1)) (W ((W (v1_0 + 1)) + 1)) (W ((W ((W (v1_0 + 1)) + 1)) + 1)) (nth v1_2 v1_1).To (nth v1_2 v1_1).Issuer (nth v1_2 v1_1).Mark)) rfl, set_map (x := (TCert.mk v1_0 (W (v1_0 + 1)) (W ((W (v1_0 + 1)) + 1)) (W ((W ((W (v1_0 + 1)) + 1)) + 1)) (W ((W ((W ((W (v1_0 + 1)) + 1)) + 1)) + 1)) (nth v1_2 v1_1).Issuer (nth v1_2 v1_1).Mark)) rfl, set_map (x := (TCert.mk v1_0 (W (v1_0 + 1)) (W ((W (v1_0 + 1)) + 1)) (W ((W ((W (v1_0 + 1)) + 1)) + 1)) (W ((W ((W ((W (v1_0 + 1)) + 1)) + 1)) + 1)) (W ((W ((W ((W ((W (v1_0 + 1)) + 1)) + 1)) + 1)) + 1)) (nth v1_2 v1_1).Mark)) rfl, set_map (x := (TCert.mk v1_0 (W (v1_0 + 1)) (W ((W (v1_0 + 1)) + 1)) (W ((W ((W (v1_0 + 1)) + 1)) + 1)) (W ((W ((W ((W (v1_0 + 1)) + 1)) + 1)) + 1)) (W ((W ((W ((W ((W (v1_0 + 1)) + 1)) + 1)) + 1)) + 1)) (W ((W ((W ((W ((W ((W (v1_0 + 1)) + 1)) + 1)) + 1)) + 1)) + 1)))) rfl]
    repeat ((with_reducible refine And.intro ?_ ?_); focus (intros; first | omega | ((try simp only [W_def, show ∀ x, IntKind.i64.wrap x = W x from fun _ => rfl] at *); omega)))
    refine nxtI ⟨(p1, (W ((W ((W ((W ((W ((W ((W (v1_0 + 1)) + 1)) + 1)) + 1)) + 1)) + 1)) + 1)), (v1_1 + 1), (v1_2.set v1_1 (TCert.mk v1_0 (W (v1_0 + 1)) (W ((W (v1_0 + 1)) + 1)) (W ((W ((W (v1_0 + 1)) + 1)) + 1)) (W ((W ((W ((W (v1_0 + 1)) + 1)) + 1)) + 1)) (W ((W ((W ((W ((W (v1_0 + 1)) + 1)) + 1)) + 1)) + 1)) (W ((W ((W ((W ((W ((W (v1_0 + 1)) + 1)) + 1)) + 1)) + 1)) + 1))))), ?_, ?_⟩ (by simp) (wk_keep (by simp [w1]))
    · rw [← e1]; simp only [l_markCertS_1, h1, cond_true, cond_false]
    · (simp; omega)
  · have q1 := h1; try simp at q1
    have x1 : l_markCertS_1 (a0.length + 1) a1 0 a0 = (v1_0, v1_2) := by rw [← e1]; simp only [l_markCertS_1, h1, cond_true, cond_false]
    simp
    refine retM (rv := [.tmp 4]) rfl ?_
    have f1 := l_markCertS.eq_1 a0 a1
    simp only [x1, cond_true, cond_false] at f1
    simp [f1]
theorem l_markArchiveS_ok (a0 : List TArchive) (a1 : Int) : SoundM Try.prog 53 [.sl 2 (a0.map TArchive.row)] [[.int .i64 a1]] [.sl 2 ((l_markArchiveS a0 a1).1.map TArchive.row)] (.int .i64 (l_markArchiveS a0 a1).2) := by
  refine sound_ofM Try.func53 rfl (by kernel_rfl) (fun v => ?_)
  simp [Try.ntmps53]
  refine okL fun k1 => ?_
  refine loopI (ι := { s : Nat × Int × Nat × (List TArchive) // l_markArchiveS_1 s.1 s.2.1 s.2.2.1 s.2.2.2 = l_markArchiveS_1 (a0.length + 1) a1 0 a0 ∧ (1 ≤ s.1 ∧ s.2.2.2.length < s.1 + s.2.2.1) }) (fun s => stOf 27 [(0, .fix v (.one (.sref 0 0 0 s.1.2.2.2.length)), [.arr true 2 (s.1.2.2.2.map TArchive.row)]), (1, .one (.d (.int .i64 s.1.2.1)), []), (5, .one (.d (.int .i64 (↑s.1.2.2.1 : Int))), [])]) (fun s => s.1.1) ⟨((a0.length + 1), a1, 0, a0), rfl, by first | omega | (dsimp only; omega) | simp⟩ (wk_keep (by simp)) ?_
  rintro ⟨⟨n1, v1_0, v1_1, v1_2⟩, e1, j1⟩
  try dsimp only at e1 j1
  obtain ⟨p1, rfl⟩ : ∃ p, n1 = p + 1 := ⟨n1 - 1, by omega⟩
  simp
  refine condR (c := (decide ((↑v1_1 : Int) < (↑v1_2.length : Int)))) (by simp) (fun k2 h1 => ?_) (fun k2 h1 => ?_)
  · have q1 := h1; try simp at q1
    have i1 : v1_1 < v1_2.length := by simpa using h1
    have m2 : v1_2.length ≤ 9223372036854775807 := by simpa using k2 0 _ rfl
    have w1 : IntKind.i64.wrap ((v1_1 : Int) + 1) = (v1_1 : Int) + 1 := wrap_of (by omega) (by omega)
    simp [i1, rowAt_map, set_map (x := (TArchive.mk v1_0 (nth v1_2 v1_1).Items)) rfl, rowAt_set_self]
    repeat ((with_reducible refine And.intro ?_ ?_); focus (intros; first | omega | ((try simp only [W_def, show ∀ x, IntKind.i64.wrap x = W x from fun _ => rfl] at *); omega)))
    refine callMT (t := 0) (j := 0) (i := v1_1) (c := 1) (size := 2) (rows := ((v1_2.set v1_1 (TArchive.mk v1_0 (nth v1_2 v1_1).Items)).map TArchive.row)) rfl rfl rfl rfl rfl rfl rfl (l_markItemS_ok (nth v1_2 v1_1).Items (W (v1_0 + 1))) (by simp) (by simp) (by simp [m2, i1]) (by simp [rowAt_map, rowAt_set_self, m2, i1]) (by simp) (by simp) (by simp) ?_
    simp [List.set_set, set_map (x := (TArchive.mk v1_0 (l_markItemS (nth v1_2 v1_1).Items (W (v1_0 + 1))).1)) rfl, rowAt_map, rowAt_set_self, m2, i1]
    repeat ((with_reducible refine And.intro ?_ ?_); focus (intros; first | omega | ((try simp only [W_def, show ∀ x, IntKind.i64.wrap x = W x from fun _ => rfl] at *); omega)))
    refine nxtI ⟨(p1, (l_markItemS (nth v1_2 v1_1).Items (W (v1_0 + 1))).2, (v1_1 + 1), (v1_2.set v1_1 (TArchive.mk v1_0 (l_markItemS (nth v1_2 v1_1).Items (W (v1_0 + 1))).1))), ?_, ?_⟩ (by simp) (wk_keep (by simp [w1]))
    · rw [← e1]; simp only [l_markArchiveS_1, h1, cond_true, cond_false]
    · (simp; omega)
  · have q1 := h1; try simp at q1
    have x1 : l_markArchiveS_1 (a0.length + 1) a1 0 a0 = (v1_0, v1_2) := by rw [← e1]; simp only [l_markArchiveS_1, h1, cond_true, cond_false]
    simp
    refine retM (rv := [.tmp 4]) rfl ?_
    have f1 := l_markArchiveS.eq_1 a0 a1
    simp only [x1, cond_true, cond_false] at f1
    simp [f1]
theorem l_markWorld_ok (a0 : TWorld) (a1 : Int) : SoundM Try.prog 21 a0.row [[.int .i64 a1]] (l_markWorld a0 a1).1.row (.int .i64 (l_markWorld a0 a1).2) := by
  refine sound_ofM Try.func21 rfl (by kernel_rfl) (fun v => ?_)
  simp [Try.ntmps21]
  refine callMO (ats := [.sref 0 0 0 a0.Frame.Keys.length, .sref 0 1 0 a0.Frame.Authorities.length, .sref 0 2 0 a0.Frame.Methods.length, .d (.int .i64 a0.Frame.Liars), .d (.int .i64 a0.Frame.Now)]) rfl rfl rfl rfl rfl rfl rfl (l_markFrame_ok a0.Frame a1) (by simp) (by simp) (by simp) (by simp) (by simp) (by simp) (by simp) (by simp) (by simp) ?_
  simp
  refine callMO (ats := [.sref 0 5 0 a0.Certs.length]) rfl rfl rfl rfl rfl rfl rfl (l_markCertS_ok a0.Certs (l_markFrame a0.Frame a1).2) (by simp) (by simp) (by simp) (by simp) (by simp) (by simp) (by simp) (by simp) (by simp) ?_
  simp
  refine callMO (ats := [.sref 0 6 0 a0.Ended.length]) rfl rfl rfl rfl rfl rfl rfl (l_markIntS_ok a0.Ended (l_markCertS a0.Certs (l_markFrame a0.Frame a1).2).2) (by simp) (by simp) (by simp) (by simp) (by simp) (by simp) (by simp) (by simp) (by simp) ?_
  simp
  refine callMO (ats := [.sref 0 7 0 a0.Archives.length]) rfl rfl rfl rfl rfl rfl rfl (l_markArchiveS_ok a0.Archives (l_markIntS a0.Ended (l_markCertS a0.Certs (l_markFrame a0.Frame a1).2).2).2) (by simp) (by simp) (by simp) (by simp) (by simp) (by simp) (by simp) (by simp) (by simp) ?_
  simp
  refine callMO (ats := [.sref 0 8 0 a0.Seqs.length]) rfl rfl rfl rfl rfl rfl rfl (l_markIntS_ok a0.Seqs (l_markArchiveS a0.Archives (l_markIntS a0.Ended (l_markCertS a0.Certs (l_markFrame a0.Frame a1).2).2).2).2) (by simp) (by simp) (by simp) (by simp) (by simp) (by simp) (by simp) (by simp) (by simp) ?_
  simp
  refine callMO (ats := [.sref 0 9 0 a0.Lying.length]) rfl rfl rfl rfl rfl rfl rfl (l_markIntS_ok a0.Lying (l_markIntS a0.Seqs (l_markArchiveS a0.Archives (l_markIntS a0.Ended (l_markCertS a0.Certs (l_markFrame a0.Frame a1).2).2).2).2).2) (by simp) (by simp) (by simp) (by simp) (by simp) (by simp) (by simp) (by simp) (by simp) ?_
  simp
  refine callMO (ats := [.sref 0 11 0 a0.Forged.length]) rfl rfl rfl rfl rfl rfl rfl (l_markIntS_ok a0.Forged (l_markIntS a0.Lying (l_markIntS a0.Seqs (l_markArchiveS a0.Archives (l_markIntS a0.Ended (l_markCertS a0.Certs (l_markFrame a0.Frame a1).2).2).2).2).2).2) (by simp) (by simp) (by simp) (by simp) (by simp) (by simp) (by simp) (by simp) (by simp) ?_
  simp
  refine retM (rv := [.tmp 4]) rfl ?_
  have f1 := l_markWorld.eq_1 a0 a1
  simp [f1]
theorem l_heldKeyS_ok (a0 : List TKey) (a1 : Int) : SoundAt Try.prog 78 false [[.sl 5 (a0.map TKey.row)], [.int .i64 a1]] [[.int .i64 (l_heldKeyS a0 a1)]] := by
  refine sound_of Try.func78 rfl (by kernel_rfl) ?_
  simp [Try.ntmps78]
  refine okL fun k1 => ?_
  refine loopI (ι := { s : Nat × Int × Nat // l_heldKeyS_1 a0 s.1 s.2.1 s.2.2 = l_heldKeyS_1 a0 (a0.length + 1) a1 0 ∧ (1 ≤ s.1 ∧ a0.length < s.1 + s.2.2 ∧ s.2.2 ≤ a0.length) }) (fun s => stOf 58 [(0, .one (.d (.sl 5 (a0.map TKey.row))), []), (1, .one (.d (.int .i64 s.1.2.1)), []), (5, .one (.d (.int .i64 (↑s.1.2.2 : Int))), [])]) (fun s => s.1.1) ⟨((a0.length + 1), a1, 0), rfl, by first | omega | (dsimp only; omega) | simp⟩ (wk_keep (by simp)) ?_
  rintro ⟨⟨n1, v1_0, v1_1⟩, e1, j1⟩
  try dsimp only at e1 j1
  obtain ⟨p1, rfl⟩ : ∃ p, n1 = p + 1 := ⟨n1 - 1, by omega⟩
  simp
  refine condR (c := (decide ((↑v1_1 : Int) < (↑a0.length : Int)))) (by simp) (fun k2 h1 => ?_) (fun k2 h1 => ?_)
  · have q1 := h1; try simp at q1
    have i1 : v1_1 < a0.length := by simpa using h1
    have m2 : a0.length ≤ 9223372036854775807 := by simpa using k2 0 _ rfl
    have w1 : IntKind.i64.wrap ((v1_1 : Int) + 1) = (v1_1 : Int) + 1 := wrap_of (by omega) (by omega)
    simp [i1, rowAt_map]
    repeat ((with_reducible refine And.intro ?_ ?_); focus (intros; first | omega | ((try simp only [W_def, show ∀ x, IntKind.i64.wrap x = W x from fun _ => rfl] at *); omega)))
    refine condR (c := ((nth a0 v1_1).Number != v1_0)) (by simp) (fun k3 h2 => ?_) (fun k3 h2 => ?_)
    · have q2 := h2; try simp at q2
      have x1 : l_heldKeyS_1 a0 (a0.length + 1) a1 0 = .inl (-1) := by rw [← e1]; simp only [l_heldKeyS_1, h1, h2, cond_true, cond_false]
      simp
      refine retRd (rv := [.tmp 4]) rfl ?_
      have f1 := l_heldKeyS.eq_1 a0 a1
      simp only [x1, cond_true, cond_false] at f1
      simp [f1]
    · have q2 := h2; try simp at q2
      simp [i1, rowAt_map]
      repeat ((with_reducible refine And.intro ?_ ?_); focus (intros; first | omega | ((try simp only [W_def, show ∀ x, IntKind.i64.wrap x = W x from fun _ => rfl] at *); omega)))
      refine condR (c := ((nth a0 v1_1).Owner != (W (v1_0 + 1)))) (by simp) (fun k4 h3 => ?_) (fun k4 h3 => ?_)
      · have q3 := h3; try simp at q3
        have x2 : l_heldKeyS_1 a0 (a0.length + 1) a1 0 = .inl (-1) := by rw [← e1]; simp only [l_heldKeyS_1, h1, h2, h3, cond_true, cond_false]
        simp
        refine retRd (rv := [.tmp 4]) rfl ?_
        have f2 := l_heldKeyS.eq_1 a0 a1
        simp only [x2, cond_true, cond_false] at f2
        simp [f2]
      · have q3 := h3; try simp at q3
        simp [i1, rowAt_map]
        repeat ((with_reducible refine And.intro ?_ ?_); focus (intros; first | omega | ((try simp only [W_def, show ∀ x, IntKind.i64.wrap x = W x from fun _ => rfl] at *); omega)))
        refine condR (c := ((nth a0 v1_1).Method != (W ((W (v1_0 + 1)) + 1)))) (by simp) (fun k5 h4 => ?_) (fun k5 h4 => ?_)
        · have q4 := h4; try simp at q4
          have x3 : l_heldKeyS_1 a0 (a0.length + 1) a1 0 = .inl (-1) := by rw [← e1]; simp only [l_heldKeyS_1, h1, h2, h3, h4, cond_true, cond_false]
          simp
          refine retRd (rv := [.tmp 4]) rfl ?_
          have f3 := l_heldKeyS.eq_1 a0 a1
          simp only [x3, cond_true, cond_false] at f3
          simp [f3]
        · have q4 := h4; try simp at q4
          simp [i1, rowAt_map]
          repeat ((with_reducible refine And.intro ?_ ?_); focus (intros; first | omega | ((try simp only [W_def, show ∀ x, IntKind.i64.wrap x = W x from fun _ => rfl] at *); omega)))
          refine condR (c := ((nth a0 v1_1).Born != (W ((W ((W (v1_0 + 1)) + 1)) + 1)))) (by simp) (fun k6 h5 => ?_) (fun k6 h5 => ?_)
          · have q5 := h5; try simp at q5
            have x4 : l_heldKeyS_1 a0 (a0.length + 1) a1 0 = .inl (-1) := by rw [← e1]; simp only [l_heldKeyS_1, h1, h2, h3, h4, h5, cond_true, cond_false]
            simp
            refine retRd (rv := [.tmp 4]) rfl ?_
            have f4 := l_heldKeyS.eq_1 a0 a1
            simp only [x4, cond_true, cond_false] at f4
            simp [f4]
          · have q5 := h5; try simp at q5
            simp [i1, rowAt_map]
            repeat ((with_reducible refine And.intro ?_ ?_); focus (intros; first | omega | ((try simp only [W_def, show ∀ x, IntKind.i64.wrap x = W x from fun _ => rfl] at *); omega)))
            refine condR (c := ((nth a0 v1_1).Secret != (W ((W ((W ((W (v1_0 + 1)) + 1)) + 1)) + 1)))) (by simp) (fun k7 h6 => ?_) (fun k7 h6 => ?_)
            · have q6 := h6; try simp at q6
              have x5 : l_heldKeyS_1 a0 (a0.length + 1) a1 0 = .inl (-1) := by rw [← e1]; simp only [l_heldKeyS_1, h1, h2, h3, h4, h5, h6, cond_true, cond_false]
              simp
              refine retRd (rv := [.tmp 4]) rfl ?_
              have f5 := l_heldKeyS.eq_1 a0 a1
              simp only [x5, cond_true, cond_false] at f5
              simp [f5]
            · have q6 := h6; try simp at q6
              simp
              refine nxtI ⟨(p1, (W ((W ((W ((W ((W (v1_0 + 1)) + 1)) + 1)) + 1)) + 1)), (v1_1 + 1)), ?_, ?_⟩ (by simp) (wk_keep (by simp [w1]))
              · rw [← e1]; simp only [l_heldKeyS_1, h1, h2, h3, h4, h5, h6, cond_true, cond_false]
              · first | omega | (simp at *; omega)
  · have q1 := h1; try simp at q1
    have x6 : l_heldKeyS_1 a0 (a0.length + 1) a1 0 = .inr v1_0 := by rw [← e1]; simp only [l_heldKeyS_1, h1, cond_true, cond_false]
    simp
    refine retRd (rv := [.tmp 4]) rfl ?_
    have f6 := l_heldKeyS.eq_1 a0 a1
    simp only [x6, cond_true, cond_false] at f6
    simp [f6]
theorem l_heldAuthorityS_ok (a0 : List TAuthority) (a1 : Int) : SoundAt Try.prog 79 false [[.sl 3 (a0.map TAuthority.row)], [.int .i64 a1]] [[.int .i64 (l_heldAuthorityS a0 a1)]] := by
  refine sound_of Try.func79 rfl (by kernel_rfl) ?_
  simp [Try.ntmps79]
  refine okL fun k1 => ?_
  refine loopI (ι := { s : Nat × Int × Nat // l_heldAuthorityS_1 a0 s.1 s.2.1 s.2.2 = l_heldAuthorityS_1 a0 (a0.length + 1) a1 0 ∧ (1 ≤ s.1 ∧ a0.length < s.1 + s.2.2 ∧ s.2.2 ≤ a0.length) }) (fun s => stOf 40 [(0, .one (.d (.sl 3 (a0.map TAuthority.row))), []), (1, .one (.d (.int .i64 s.1.2.1)), []), (5, .one (.d (.int .i64 (↑s.1.2.2 : Int))), [])]) (fun s => s.1.1) ⟨((a0.length + 1), a1, 0), rfl, by first | omega | (dsimp only; omega) | simp⟩ (wk_keep (by simp)) ?_
  rintro ⟨⟨n1, v1_0, v1_1⟩, e1, j1⟩
  try dsimp only at e1 j1
  obtain ⟨p1, rfl⟩ : ∃ p, n1 = p + 1 := ⟨n1 - 1, by omega⟩
  simp
  refine condR (c := (decide ((↑v1_1 : Int) < (↑a0.length : Int)))) (by simp) (fun k2 h1 => ?_) (fun k2 h1 => ?_)
  · have q1 := h1; try simp at q1
    have i1 : v1_1 < a0.length := by simpa using h1
    have m2 : a0.length ≤ 9223372036854775807 := by simpa using k2 0 _ rfl
    have w1 : IntKind.i64.wrap ((v1_1 : Int) + 1) = (v1_1 : Int) + 1 := wrap_of (by omega) (by omega)
    simp [i1, rowAt_map]
    repeat ((with_reducible refine And.intro ?_ ?_); focus (intros; first | omega | ((try simp only [W_def, show ∀ x, IntKind.i64.wrap x = W x from fun _ => rfl] at *); omega)))
    refine condR (c := ((nth a0 v1_1).Id != v1_0)) (by simp) (fun k3 h2 => ?_) (fun k3 h2 => ?_)
    · have q2 := h2; try simp at q2
      have x1 : l_heldAuthorityS_1 a0 (a0.length + 1) a1 0 = .inl (-1) := by rw [← e1]; simp only [l_heldAuthorityS_1, h1, h2, cond_true, cond_false]
      simp
      refine retRd (rv := [.tmp 4]) rfl ?_
      have f1 := l_heldAuthorityS.eq_1 a0 a1
      simp only [x1, cond_true, cond_false] at f1
      simp [f1]
    · have q2 := h2; try simp at q2
      simp [i1, rowAt_map]
      repeat ((with_reducible refine And.intro ?_ ?_); focus (intros; first | omega | ((try simp only [W_def, show ∀ x, IntKind.i64.wrap x = W x from fun _ => rfl] at *); omega)))
      refine condR (c := ((nth a0 v1_1).Key != (W (v1_0 + 1)))) (by simp) (fun k4 h3 => ?_) (fun k4 h3 => ?_)
      · have q3 := h3; try simp at q3
        have x2 : l_heldAuthorityS_1 a0 (a0.length + 1) a1 0 = .inl (-1) := by rw [← e1]; simp only [l_heldAuthorityS_1, h1, h2, h3, cond_true, cond_false]
        simp
        refine retRd (rv := [.tmp 4]) rfl ?_
        have f2 := l_heldAuthorityS.eq_1 a0 a1
        simp only [x2, cond_true, cond_false] at f2
        simp [f2]
      · have q3 := h3; try simp at q3
        simp [i1, rowAt_map]
        repeat ((with_reducible refine And.intro ?_ ?_); focus (intros; first | omega | ((try simp only [W_def, show ∀ x, IntKind.i64.wrap x = W x from fun _ => rfl] at *); omega)))
        refine condR (c := ((nth a0 v1_1).Error != (W ((W (v1_0 + 1)) + 1)))) (by simp) (fun k5 h4 => ?_) (fun k5 h4 => ?_)
        · have q4 := h4; try simp at q4
          have x3 : l_heldAuthorityS_1 a0 (a0.length + 1) a1 0 = .inl (-1) := by rw [← e1]; simp only [l_heldAuthorityS_1, h1, h2, h3, h4, cond_true, cond_false]
          simp
          refine retRd (rv := [.tmp 4]) rfl ?_
          have f3 := l_heldAuthorityS.eq_1 a0 a1
          simp only [x3, cond_true, cond_false] at f3
          simp [f3]
        · have q4 := h4; try simp at q4
          simp
          refine nxtI ⟨(p1, (W ((W ((W (v1_0 + 1)) + 1)) + 1)), (v1_1 + 1)), ?_, ?_⟩ (by simp) (wk_keep (by simp [w1]))
          · rw [← e1]; simp only [l_heldAuthorityS_1, h1, h2, h3, h4, cond_true, cond_false]
          · first | omega | (simp at *; omega)
  · have q1 := h1; try simp at q1
    have x4 : l_heldAuthorityS_1 a0 (a0.length + 1) a1 0 = .inr v1_0 := by rw [← e1]; simp only [l_heldAuthorityS_1, h1, cond_true, cond_false]
    simp
    refine retRd (rv := [.tmp 4]) rfl ?_
    have f4 := l_heldAuthorityS.eq_1 a0 a1
    simp only [x4, cond_true, cond_false] at f4
    simp [f4]
theorem l_heldMethodS_ok (a0 : List TMethod) (a1 : Int) : SoundAt Try.prog 80 false [[.sl 4 (a0.map TMethod.row)], [.int .i64 a1]] [[.int .i64 (l_heldMethodS a0 a1)]] := by
  refine sound_of Try.func80 rfl (by kernel_rfl) ?_
  simp [Try.ntmps80]
  refine okL fun k1 => ?_
  refine loopI (ι := { s : Nat × Int × Nat // l_heldMethodS_1 a0 s.1 s.2.1 s.2.2 = l_heldMethodS_1 a0 (a0.length + 1) a1 0 ∧ (1 ≤ s.1 ∧ a0.length < s.1 + s.2.2 ∧ s.2.2 ≤ a0.length) }) (fun s => stOf 49 [(0, .one (.d (.sl 4 (a0.map TMethod.row))), []), (1, .one (.d (.int .i64 s.1.2.1)), []), (5, .one (.d (.int .i64 (↑s.1.2.2 : Int))), [])]) (fun s => s.1.1) ⟨((a0.length + 1), a1, 0), rfl, by first | omega | (dsimp only; omega) | simp⟩ (wk_keep (by simp)) ?_
  rintro ⟨⟨n1, v1_0, v1_1⟩, e1, j1⟩
  try dsimp only at e1 j1
  obtain ⟨p1, rfl⟩ : ∃ p, n1 = p + 1 := ⟨n1 - 1, by omega⟩
  simp
  refine condR (c := (decide ((↑v1_1 : Int) < (↑a0.length : Int)))) (by simp) (fun k2 h1 => ?_) (fun k2 h1 => ?_)
  · have q1 := h1; try simp at q1
    have i1 : v1_1 < a0.length := by simpa using h1
    have m2 : a0.length ≤ 9223372036854775807 := by simpa using k2 0 _ rfl
    have w1 : IntKind.i64.wrap ((v1_1 : Int) + 1) = (v1_1 : Int) + 1 := wrap_of (by omega) (by omega)
    simp [i1, rowAt_map]
    repeat ((with_reducible refine And.intro ?_ ?_); focus (intros; first | omega | ((try simp only [W_def, show ∀ x, IntKind.i64.wrap x = W x from fun _ => rfl] at *); omega)))
    refine condR (c := ((nth a0 v1_1).Id != v1_0)) (by simp) (fun k3 h2 => ?_) (fun k3 h2 => ?_)
    · have q2 := h2; try simp at q2
      have x1 : l_heldMethodS_1 a0 (a0.length + 1) a1 0 = .inl (-1) := by rw [← e1]; simp only [l_heldMethodS_1, h1, h2, cond_true, cond_false]
      simp
      refine retRd (rv := [.tmp 4]) rfl ?_
      have f1 := l_heldMethodS.eq_1 a0 a1
      simp only [x1, cond_true, cond_false] at f1
      simp [f1]
    · have q2 := h2; try simp at q2
      simp [i1, rowAt_map]
      repeat ((with_reducible refine And.intro ?_ ?_); focus (intros; first | omega | ((try simp only [W_def, show ∀ x, IntKind.i64.wrap x = W x from fun _ => rfl] at *); omega)))
      refine condR (c := ((nth a0 v1_1).Known != (W (v1_0 + 1)))) (by simp) (fun k4 h3 => ?_) (fun k4 h3 => ?_)
      · have q3 := h3; try simp at q3
        have x2 : l_heldMethodS_1 a0 (a0.length + 1) a1 0 = .inl (-1) := by rw [← e1]; simp only [l_heldMethodS_1, h1, h2, h3, cond_true, cond_false]
        simp
        refine retRd (rv := [.tmp 4]) rfl ?_
        have f2 := l_heldMethodS.eq_1 a0 a1
        simp only [x2, cond_true, cond_false] at f2
        simp [f2]
      · have q3 := h3; try simp at q3
        simp [i1, rowAt_map]
        repeat ((with_reducible refine And.intro ?_ ?_); focus (intros; first | omega | ((try simp only [W_def, show ∀ x, IntKind.i64.wrap x = W x from fun _ => rfl] at *); omega)))
        refine condR (c := ((nth a0 v1_1).Ends != (W ((W (v1_0 + 1)) + 1)))) (by simp) (fun k5 h4 => ?_) (fun k5 h4 => ?_)
        · have q4 := h4; try simp at q4
          have x3 : l_heldMethodS_1 a0 (a0.length + 1) a1 0 = .inl (-1) := by rw [← e1]; simp only [l_heldMethodS_1, h1, h2, h3, h4, cond_true, cond_false]
          simp
          refine retRd (rv := [.tmp 4]) rfl ?_
          have f3 := l_heldMethodS.eq_1 a0 a1
          simp only [x3, cond_true, cond_false] at f3
          simp [f3]
        · have q4 := h4; try simp at q4
          simp [i1, rowAt_map]
          repeat ((with_reducible refine And.intro ?_ ?_); focus (intros; first | omega | ((try simp only [W_def, show ∀ x, IntKind.i64.wrap x = W x from fun _ => rfl] at *); omega)))
          refine condR (c := ((nth a0 v1_1).Broken != (W ((W ((W (v1_0 + 1)) + 1)) + 1)))) (by simp) (fun k6 h5 => ?_) (fun k6 h5 => ?_)
          · have q5 := h5; try simp at q5
            have x4 : l_heldMethodS_1 a0 (a0.length + 1) a1 0 = .inl (-1) := by rw [← e1]; simp only [l_heldMethodS_1, h1, h2, h3, h4, h5, cond_true, cond_false]
            simp
            refine retRd (rv := [.tmp 4]) rfl ?_
            have f4 := l_heldMethodS.eq_1 a0 a1
            simp only [x4, cond_true, cond_false] at f4
            simp [f4]
          · have q5 := h5; try simp at q5
            simp
            refine nxtI ⟨(p1, (W ((W ((W ((W (v1_0 + 1)) + 1)) + 1)) + 1)), (v1_1 + 1)), ?_, ?_⟩ (by simp) (wk_keep (by simp [w1]))
            · rw [← e1]; simp only [l_heldMethodS_1, h1, h2, h3, h4, h5, cond_true, cond_false]
            · first | omega | (simp at *; omega)
  · have q1 := h1; try simp at q1
    have x5 : l_heldMethodS_1 a0 (a0.length + 1) a1 0 = .inr v1_0 := by rw [← e1]; simp only [l_heldMethodS_1, h1, cond_true, cond_false]
    simp
    refine retRd (rv := [.tmp 4]) rfl ?_
    have f5 := l_heldMethodS.eq_1 a0 a1
    simp only [x5, cond_true, cond_false] at f5
    simp [f5]
theorem l_heldFrame_ok (a0 : TFrame) (a1 : Int) : SoundAt Try.prog 54 false [a0.row, [.int .i64 a1]] [[.int .i64 (l_heldFrame a0 a1)]] := by
  refine sound_of Try.func54 rfl (by kernel_rfl) ?_
  simp [Try.ntmps54]
  refine callRd rfl rfl rfl rfl (l_heldKeyS_ok a0.Keys a1) (by simp) (by simp) (by simp) ?_
  simp
  refine condR (c := (decide ((l_heldKeyS a0.Keys a1) < 0))) (by simp) (fun k1 h1 => ?_) (fun k1 h1 => ?_)
  · have q1 := h1; try simp at q1
    simp
    refine retRd (rv := [.tmp 4]) rfl ?_
    have f1 := l_heldFrame.eq_1 a0 a1
    simp only [h1, cond_true, cond_false] at f1
    simp [f1]
  · have q1 := h1; try simp at q1
    simp
    refine callRd rfl rfl rfl rfl (l_heldAuthorityS_ok a0.Authorities (l_heldKeyS a0.Keys a1)) (by simp) (by simp) (by simp) ?_
    simp
    refine condR (c := (decide ((l_heldAuthorityS a0.Authorities (l_heldKeyS a0.Keys a1)) < 0))) (by simp) (fun k2 h2 => ?_) (fun k2 h2 => ?_)
    · have q2 := h2; try simp at q2
      simp
      refine retRd (rv := [.tmp 4]) rfl ?_
      have f2 := l_heldFrame.eq_1 a0 a1
      simp only [h1, h2, cond_true, cond_false] at f2
      simp [f2]
    · have q2 := h2; try simp at q2
      simp
      refine callRd rfl rfl rfl rfl (l_heldMethodS_ok a0.Methods (l_heldAuthorityS a0.Authorities (l_heldKeyS a0.Keys a1))) (by simp) (by simp) (by simp) ?_
      simp
      refine condR (c := (decide ((l_heldMethodS a0.Methods (l_heldAuthorityS a0.Authorities (l_heldKeyS a0.Keys a1))) < 0))) (by simp) (fun k3 h3 => ?_) (fun k3 h3 => ?_)
      · have q3 := h3; try simp at q3
        simp
        refine retRd (rv := [.tmp 4]) rfl ?_
        have f3 := l_heldFrame.eq_1 a0 a1
        simp only [h1, h2, h3, cond_true, cond_false] at f3
        simp [f3]
      · have q3 := h3; try simp at q3
        simp
        refine retRd (rv := [.tmp 4]) rfl ?_
        have f4 := l_heldFrame.eq_1 a0 a1
        simp only [h1, h2, h3, cond_true, cond_false] at f4
        simp [f4]
theorem l_heldCertS_ok (a0 : List TCert) (a1 : Int) : SoundAt Try.prog 55 false [[.sl 7 (a0.map TCert.row)], [.int .i64 a1]] [[.int .i64 (l_heldCertS a0 a1)]] := by
  refine sound_of Try.func55 rfl (by kernel_rfl) ?_
  simp [Try.ntmps55]
  refine okL fun k1 => ?_
  refine loopI (ι := { s : Nat × Int × Nat // l_heldCertS_1 a0 s.1 s.2.1 s.2.2 = l_heldCertS_1 a0 (a0.length + 1) a1 0 ∧ (1 ≤ s.1 ∧ a0.length < s.1 + s.2.2 ∧ s.2.2 ≤ a0.length) }) (fun s => stOf 76 [(0, .one (.d (.sl 7 (a0.map TCert.row))), []), (1, .one (.d (.int .i64 s.1.2.1)), []), (5, .one (.d (.int .i64 (↑s.1.2.2 : Int))), [])]) (fun s => s.1.1) ⟨((a0.length + 1), a1, 0), rfl, by first | omega | (dsimp only; omega) | simp⟩ (wk_keep (by simp)) ?_
  rintro ⟨⟨n1, v1_0, v1_1⟩, e1, j1⟩
  try dsimp only at e1 j1
  obtain ⟨p1, rfl⟩ : ∃ p, n1 = p + 1 := ⟨n1 - 1, by omega⟩
  simp
  refine condR (c := (decide ((↑v1_1 : Int) < (↑a0.length : Int)))) (by simp) (fun k2 h1 => ?_) (fun k2 h1 => ?_)
  · have q1 := h1; try simp at q1
    have i1 : v1_1 < a0.length := by simpa using h1
    have m2 : a0.length ≤ 9223372036854775807 := by simpa using k2 0 _ rfl
    have w1 : IntKind.i64.wrap ((v1_1 : Int) + 1) = (v1_1 : Int) + 1 := wrap_of (by omega) (by omega)
    simp [i1, rowAt_map]
    repeat ((with_reducible refine And.intro ?_ ?_); focus (intros; first | omega | ((try simp only [W_def, show ∀ x, IntKind.i64.wrap x = W x from fun _ => rfl] at *); omega)))
    refine condR (c := ((nth a0 v1_1).Serial != v1_0)) (by simp) (fun k3 h2 => ?_) (fun k3 h2 => ?_)
    · have q2 := h2; try simp at q2
      have x1 : l_heldCertS_1 a0 (a0.length + 1) a1 0 = .inl (-1) := by rw [← e1]; simp only [l_heldCertS_1, h1, h2, cond_true, cond_false]
      simp
      refine retRd (rv := [.tmp 4]) rfl ?_
      have f1 := l_heldCertS.eq_1 a0 a1
      simp only [x1, cond_true, cond_false] at f1
      simp [f1]
    · have q2 := h2; try simp at q2
      simp [i1, rowAt_map]
      repeat ((with_reducible refine And.intro ?_ ?_); focus (intros; first | omega | ((try simp only [W_def, show ∀ x, IntKind.i64.wrap x = W x from fun _ => rfl] at *); omega)))
      refine condR (c := ((nth a0 v1_1).Key != (W (v1_0 + 1)))) (by simp) (fun k4 h3 => ?_) (fun k4 h3 => ?_)
      · have q3 := h3; try simp at q3
        have x2 : l_heldCertS_1 a0 (a0.length + 1) a1 0 = .inl (-1) := by rw [← e1]; simp only [l_heldCertS_1, h1, h2, h3, cond_true, cond_false]
        simp
        refine retRd (rv := [.tmp 4]) rfl ?_
        have f2 := l_heldCertS.eq_1 a0 a1
        simp only [x2, cond_true, cond_false] at f2
        simp [f2]
      · have q3 := h3; try simp at q3
        simp [i1, rowAt_map]
        repeat ((with_reducible refine And.intro ?_ ?_); focus (intros; first | omega | ((try simp only [W_def, show ∀ x, IntKind.i64.wrap x = W x from fun _ => rfl] at *); omega)))
        refine condR (c := ((nth a0 v1_1).Owner != (W ((W (v1_0 + 1)) + 1)))) (by simp) (fun k5 h4 => ?_) (fun k5 h4 => ?_)
        · have q4 := h4; try simp at q4
          have x3 : l_heldCertS_1 a0 (a0.length + 1) a1 0 = .inl (-1) := by rw [← e1]; simp only [l_heldCertS_1, h1, h2, h3, h4, cond_true, cond_false]
          simp
          refine retRd (rv := [.tmp 4]) rfl ?_
          have f3 := l_heldCertS.eq_1 a0 a1
          simp only [x3, cond_true, cond_false] at f3
          simp [f3]
        · have q4 := h4; try simp at q4
          simp [i1, rowAt_map]
          repeat ((with_reducible refine And.intro ?_ ?_); focus (intros; first | omega | ((try simp only [W_def, show ∀ x, IntKind.i64.wrap x = W x from fun _ => rfl] at *); omega)))
          refine condR (c := ((nth a0 v1_1).From != (W ((W ((W (v1_0 + 1)) + 1)) + 1)))) (by simp) (fun k6 h5 => ?_) (fun k6 h5 => ?_)
          · have q5 := h5; try simp at q5
            have x4 : l_heldCertS_1 a0 (a0.length + 1) a1 0 = .inl (-1) := by rw [← e1]; simp only [l_heldCertS_1, h1, h2, h3, h4, h5, cond_true, cond_false]
            simp
            refine retRd (rv := [.tmp 4]) rfl ?_
            have f4 := l_heldCertS.eq_1 a0 a1
            simp only [x4, cond_true, cond_false] at f4
            simp [f4]
          · have q5 := h5; try simp at q5
            simp [i1, rowAt_map]
            repeat ((with_reducible refine And.intro ?_ ?_); focus (intros; first | omega | ((try simp only [W_def, show ∀ x, IntKind.i64.wrap x = W x from fun _ => rfl] at *); omega)))
            refine condR (c := ((nth a0 v1_1).To != (W ((W ((W ((W (v1_0 + 1)) + 1)) + 1)) + 1)))) (by simp) (fun k7 h6 => ?_) (fun k7 h6 => ?_)
            · have q6 := h6; try simp at q6
              have x5 : l_heldCertS_1 a0 (a0.length + 1) a1 0 = .inl (-1) := by rw [← e1]; simp only [l_heldCertS_1, h1, h2, h3, h4, h5, h6, cond_true, cond_false]
              simp
              refine retRd (rv := [.tmp 4]) rfl ?_
              have f5 := l_heldCertS.eq_1 a0 a1
              simp only [x5, cond_true, cond_false] at f5
              simp [f5]
            · have q6 := h6; try simp at q6
              simp [i1, rowAt_map]
              repeat ((with_reducible refine And.intro ?_ ?_); focus (intros; first | omega | ((try simp only [W_def, show ∀ x, IntKind.i64.wrap x = W x from fun _ => rfl] at *); omega)))
              refine condR (c := ((nth a0 v1_1).Issuer != (W ((W ((W ((W ((W (v1_0 + 1)) + 1)) + 1)) + 1)) + 1)))) (by simp) (fun k8 h7 => ?_) (fun k8 h7 => ?_)
              · have q7 := h7; try simp at q7
                have x6 : l_heldCertS_1 a0 (a0.length + 1) a1 0 = .inl (-1) := by rw [← e1]; simp only [l_heldCertS_1, h1, h2, h3, h4, h5, h6, h7, cond_true, cond_false]
                simp
                refine retRd (rv := [.tmp 4]) rfl ?_
                have f6 := l_heldCertS.eq_1 a0 a1
                simp only [x6, cond_true, cond_false] at f6
                simp [f6]
              · have q7 := h7; try simp at q7
                simp [i1, rowAt_map]
                repeat ((with_reducible refine And.intro ?_ ?_); focus (intros; first | omega | ((try simp only [W_def, show ∀ x, IntKind.i64.wrap x = W x from fun _ => rfl] at *); omega)))
                refine condR (c := ((nth a0 v1_1).Mark != (W ((W ((W ((W ((W ((W (v1_0 + 1)) + 1)) + 1)) + 1)) + 1)) + 1)))) (by simp) (fun k9 h8 => ?_) (fun k9 h8 => ?_)
                · have q8 := h8; try simp at q8
                  have x7 : l_heldCertS_1 a0 (a0.length + 1) a1 0 = .inl (-1) := by rw [← e1]; simp only [l_heldCertS_1, h1, h2, h3, h4, h5, h6, h7, h8, cond_true, cond_false]
                  simp
                  refine retRd (rv := [.tmp 4]) rfl ?_
                  have f7 := l_heldCertS.eq_1 a0 a1
                  simp only [x7, cond_true, cond_false] at f7
                  simp [f7]
                · have q8 := h8; try simp at q8
                  simp
                  refine nxtI ⟨(p1, (W ((W ((W ((W ((W ((W ((W (v1_0 + 1)) + 1)) + 1)) + 1)) + 1)) + 1)) + 1)), (v1_1 + 1)), ?_, ?_⟩ (by simp) (wk_keep (by simp [w1]))
                  · rw [← e1]; simp only [l_heldCertS_1, h1, h2, h3, h4, h5, h6, h7, h8, cond_true, cond_false]
                  · first | omega | (simp at *; omega)
  · have q1 := h1; try simp at q1
    have x8 : l_heldCertS_1 a0 (a0.length + 1) a1 0 = .inr v1_0 := by rw [← e1]; simp only [l_heldCertS_1, h1, cond_true, cond_false]
    simp
    refine retRd (rv := [.tmp 4]) rfl ?_
    have f8 := l_heldCertS.eq_1 a0 a1
    simp only [x8, cond_true, cond_false] at f8
    simp [f8]
theorem l_heldStringS_ok (a0 : List ByteArray) (a1 : Int) : SoundAt Try.prog 104 false [[.sl 1 (a0.map sR)], [.int .i64 a1]] [[.int .i64 (l_heldStringS a0 a1)]] := by
  refine sound_of Try.func104 rfl (by kernel_rfl) ?_
  simp [Try.ntmps104]
  refine okL fun k1 => ?_
  refine loopI (ι := { s : Nat × Int × Nat // l_heldStringS_1 a0 s.1 s.2.1 s.2.2 = l_heldStringS_1 a0 (a0.length + 1) a1 0 ∧ (1 ≤ s.1 ∧ a0.length < s.1 + s.2.2 ∧ s.2.2 ≤ a0.length) }) (fun s => stOf 22 [(0, .one (.d (.sl 1 (a0.map sR))), []), (1, .one (.d (.int .i64 s.1.2.1)), []), (5, .one (.d (.int .i64 (↑s.1.2.2 : Int))), [])]) (fun s => s.1.1) ⟨((a0.length + 1), a1, 0), rfl, by first | omega | (dsimp only; omega) | simp⟩ (wk_keep (by simp)) ?_
  rintro ⟨⟨n1, v1_0, v1_1⟩, e1, j1⟩
  try dsimp only at e1 j1
  obtain ⟨p1, rfl⟩ : ∃ p, n1 = p + 1 := ⟨n1 - 1, by omega⟩
  simp
  refine condR (c := (decide ((↑v1_1 : Int) < (↑a0.length : Int)))) (by simp) (fun k2 h1 => ?_) (fun k2 h1 => ?_)
  · have q1 := h1; try simp at q1
    have i1 : v1_1 < a0.length := by simpa using h1
    have m2 : a0.length ≤ 9223372036854775807 := by simpa using k2 0 _ rfl
    have w1 : IntKind.i64.wrap ((v1_1 : Int) + 1) = (v1_1 : Int) + 1 := wrap_of (by omega) (by omega)
    simp
    refine okD fun k3 => ?_
    refine drawI mixed (by kernel_rfl) (by kernel_rfl) ?_
    simp [i1, rowAt_map]
    repeat ((with_reducible refine And.intro ?_ ?_); focus (intros; first | omega | ((try simp only [W_def, show ∀ x, IntKind.i64.wrap x = W x from fun _ => rfl] at *); omega)))
    refine callRd rfl rfl rfl rfl (l_markText_ok v1_0) (by simp) (by simp) (by simp) ?_
    simp
    refine condR (c := (!decide ((nth a0 v1_1) = (l_markText v1_0)))) (by simp) (fun k4 h2 => ?_) (fun k4 h2 => ?_)
    · have q2 := h2; try simp at q2
      have x1 : l_heldStringS_1 a0 (a0.length + 1) a1 0 = .inl (-1) := by rw [← e1]; simp only [l_heldStringS_1, h1, h2, cond_true, cond_false]
      simp
      refine retRd (rv := [.tmp 4]) rfl ?_
      have f1 := l_heldStringS.eq_1 a0 a1
      simp only [x1, cond_true, cond_false] at f1
      simp [f1]
    · have q2 := h2; try simp at q2
      simp
      refine nxtI ⟨(p1, (W (v1_0 + 1)), (v1_1 + 1)), ?_, ?_⟩ (by simp) (wk_keep (by simp [w1]))
      · rw [← e1]; simp only [l_heldStringS_1, h1, h2, cond_true, cond_false]
      · first | omega | (simp at *; omega)
  · have q1 := h1; try simp at q1
    have x2 : l_heldStringS_1 a0 (a0.length + 1) a1 0 = .inr v1_0 := by rw [← e1]; simp only [l_heldStringS_1, h1, cond_true, cond_false]
    simp
    refine retRd (rv := [.tmp 4]) rfl ?_
    have f2 := l_heldStringS.eq_1 a0 a1
    simp only [x2, cond_true, cond_false] at f2
    simp [f2]
theorem l_heldPieceS_ok (a0 : List TPiece) (a1 : Int) : SoundAt Try.prog 105 false [[.sl 3 (a0.map TPiece.row)], [.int .i64 a1]] [[.int .i64 (l_heldPieceS a0 a1)]] := by
  refine sound_of Try.func105 rfl (by kernel_rfl) ?_
  simp [Try.ntmps105]
  refine okL fun k1 => ?_
  refine loopI (ι := { s : Nat × Int × Nat // l_heldPieceS_1 a0 s.1 s.2.1 s.2.2 = l_heldPieceS_1 a0 (a0.length + 1) a1 0 ∧ (1 ≤ s.1 ∧ a0.length < s.1 + s.2.2 ∧ s.2.2 ≤ a0.length) }) (fun s => stOf 40 [(0, .one (.d (.sl 3 (a0.map TPiece.row))), []), (1, .one (.d (.int .i64 s.1.2.1)), []), (5, .one (.d (.int .i64 (↑s.1.2.2 : Int))), [])]) (fun s => s.1.1) ⟨((a0.length + 1), a1, 0), rfl, by first | omega | (dsimp only; omega) | simp⟩ (wk_keep (by simp)) ?_
  rintro ⟨⟨n1, v1_0, v1_1⟩, e1, j1⟩
  try dsimp only at e1 j1
  obtain ⟨p1, rfl⟩ : ∃ p, n1 = p + 1 := ⟨n1 - 1, by omega⟩
  simp
  refine condR (c := (decide ((↑v1_1 : Int) < (↑a0.length : Int)))) (by simp) (fun k2 h1 => ?_) (fun k2 h1 => ?_)
  · have q1 := h1; try simp at q1
    have i1 : v1_1 < a0.length := by simpa using h1
    have m2 : a0.length ≤ 9223372036854775807 := by simpa using k2 0 _ rfl
    have w1 : IntKind.i64.wrap ((v1_1 : Int) + 1) = (v1_1 : Int) + 1 := wrap_of (by omega) (by omega)
    simp [i1, rowAt_map]
    repeat ((with_reducible refine And.intro ?_ ?_); focus (intros; first | omega | ((try simp only [W_def, show ∀ x, IntKind.i64.wrap x = W x from fun _ => rfl] at *); omega)))
    refine condR (c := ((nth a0 v1_1).Key != v1_0)) (by simp) (fun k3 h2 => ?_) (fun k3 h2 => ?_)
    · have q2 := h2; try simp at q2
      have x1 : l_heldPieceS_1 a0 (a0.length + 1) a1 0 = .inl (-1) := by rw [← e1]; simp only [l_heldPieceS_1, h1, h2, cond_true, cond_false]
      simp
      refine retRd (rv := [.tmp 4]) rfl ?_
      have f1 := l_heldPieceS.eq_1 a0 a1
      simp only [x1, cond_true, cond_false] at f1
      simp [f1]
    · have q2 := h2; try simp at q2
      simp [i1, rowAt_map]
      repeat ((with_reducible refine And.intro ?_ ?_); focus (intros; first | omega | ((try simp only [W_def, show ∀ x, IntKind.i64.wrap x = W x from fun _ => rfl] at *); omega)))
      refine callRd rfl rfl rfl rfl (l_heldIntS_ok (nth a0 v1_1).Ints (W (v1_0 + 1))) (by first | (simp; done) | (simp [W, w1]; done)) (by simp) (by simp) ?_
      simp
      refine condR (c := (decide ((l_heldIntS (nth a0 v1_1).Ints (W (v1_0 + 1))) < 0))) (by simp) (fun k4 h3 => ?_) (fun k4 h3 => ?_)
      · have q3 := h3; try simp at q3
        have x2 : l_heldPieceS_1 a0 (a0.length + 1) a1 0 = .inl (-1) := by rw [← e1]; simp only [l_heldPieceS_1, h1, h2, h3, cond_true, cond_false]
        simp
        refine retRd (rv := [.tmp 4]) rfl ?_
        have f2 := l_heldPieceS.eq_1 a0 a1
        simp only [x2, cond_true, cond_false] at f2
        simp [f2]
      · have q3 := h3; try simp at q3
        simp [i1, rowAt_map]
        repeat ((with_reducible refine And.intro ?_ ?_); focus (intros; first | omega | ((try simp only [W_def, show ∀ x, IntKind.i64.wrap x = W x from fun _ => rfl] at *); omega)))
        refine condR (c := ((nth a0 v1_1).Mark != (l_heldIntS (nth a0 v1_1).Ints (W (v1_0 + 1))))) (by simp) (fun k5 h4 => ?_) (fun k5 h4 => ?_)
        · have q4 := h4; try simp at q4
          have x3 : l_heldPieceS_1 a0 (a0.length + 1) a1 0 = .inl (-1) := by rw [← e1]; simp only [l_heldPieceS_1, h1, h2, h3, h4, cond_true, cond_false]
          simp
          refine retRd (rv := [.tmp 4]) rfl ?_
          have f3 := l_heldPieceS.eq_1 a0 a1
          simp only [x3, cond_true, cond_false] at f3
          simp [f3]
        · have q4 := h4; try simp at q4
          simp
          refine nxtI ⟨(p1, (W ((l_heldIntS (nth a0 v1_1).Ints (W (v1_0 + 1))) + 1)), (v1_1 + 1)), ?_, ?_⟩ (by simp) (wk_keep (by simp [w1]))
          · rw [← e1]; simp only [l_heldPieceS_1, h1, h2, h3, h4, cond_true, cond_false]
          · first | omega | (simp at *; omega)
  · have q1 := h1; try simp at q1
    have x4 : l_heldPieceS_1 a0 (a0.length + 1) a1 0 = .inr v1_0 := by rw [← e1]; simp only [l_heldPieceS_1, h1, cond_true, cond_false]
    simp
    refine retRd (rv := [.tmp 4]) rfl ?_
    have f4 := l_heldPieceS.eq_1 a0 a1
    simp only [x4, cond_true, cond_false] at f4
    simp [f4]
theorem l_heldStepS_ok (a0 : List TStep) (a1 : Int) : SoundAt Try.prog 128 false [[.sl 2 (a0.map TStep.row)], [.int .i64 a1]] [[.int .i64 (l_heldStepS a0 a1)]] := by
  refine sound_of Try.func128 rfl (by kernel_rfl) ?_
  simp [Try.ntmps128]
  refine okL fun k1 => ?_
  refine loopI (ι := { s : Nat × Int × Nat // l_heldStepS_1 a0 s.1 s.2.1 s.2.2 = l_heldStepS_1 a0 (a0.length + 1) a1 0 ∧ (1 ≤ s.1 ∧ a0.length < s.1 + s.2.2 ∧ s.2.2 ≤ a0.length) }) (fun s => stOf 33 [(0, .one (.d (.sl 2 (a0.map TStep.row))), []), (1, .one (.d (.int .i64 s.1.2.1)), []), (5, .one (.d (.int .i64 (↑s.1.2.2 : Int))), [])]) (fun s => s.1.1) ⟨((a0.length + 1), a1, 0), rfl, by first | omega | (dsimp only; omega) | simp⟩ (wk_keep (by simp)) ?_
  rintro ⟨⟨n1, v1_0, v1_1⟩, e1, j1⟩
  try dsimp only at e1 j1
  obtain ⟨p1, rfl⟩ : ∃ p, n1 = p + 1 := ⟨n1 - 1, by omega⟩
  simp
  refine condR (c := (decide ((↑v1_1 : Int) < (↑a0.length : Int)))) (by simp) (fun k2 h1 => ?_) (fun k2 h1 => ?_)
  · have q1 := h1; try simp at q1
    have i1 : v1_1 < a0.length := by simpa using h1
    have m2 : a0.length ≤ 9223372036854775807 := by simpa using k2 0 _ rfl
    have w1 : IntKind.i64.wrap ((v1_1 : Int) + 1) = (v1_1 : Int) + 1 := wrap_of (by omega) (by omega)
    simp [i1, rowAt_map]
    repeat ((with_reducible refine And.intro ?_ ?_); focus (intros; first | omega | ((try simp only [W_def, show ∀ x, IntKind.i64.wrap x = W x from fun _ => rfl] at *); omega)))
    refine condR (c := ((nth a0 v1_1).Digest != v1_0)) (by simp) (fun k3 h2 => ?_) (fun k3 h2 => ?_)
    · have q2 := h2; try simp at q2
      have x1 : l_heldStepS_1 a0 (a0.length + 1) a1 0 = .inl (-1) := by rw [← e1]; simp only [l_heldStepS_1, h1, h2, cond_true, cond_false]
      simp
      refine retRd (rv := [.tmp 4]) rfl ?_
      have f1 := l_heldStepS.eq_1 a0 a1
      simp only [x1, cond_true, cond_false] at f1
      simp [f1]
    · have q2 := h2; try simp at q2
      simp [i1, rowAt_map]
      repeat ((with_reducible refine And.intro ?_ ?_); focus (intros; first | omega | ((try simp only [W_def, show ∀ x, IntKind.i64.wrap x = W x from fun _ => rfl] at *); omega)))
      refine condR (c := (!((nth a0 v1_1).Left == ((Int.tmod (W (v1_0 + 1)) 3) == 0)))) (by simp) (fun k4 h3 => ?_) (fun k4 h3 => ?_)
      · have q3 := h3; try simp at q3
        have x2 : l_heldStepS_1 a0 (a0.length + 1) a1 0 = .inl (-1) := by rw [← e1]; simp only [l_heldStepS_1, h1, h2, h3, cond_true, cond_false]
        simp
        refine retRd (rv := [.tmp 4]) rfl ?_
        have f2 := l_heldStepS.eq_1 a0 a1
        simp only [x2, cond_true, cond_false] at f2
        simp [f2]
      · have q3 := h3; try simp at q3
        simp
        refine nxtI ⟨(p1, (W ((W (v1_0 + 1)) + 1)), (v1_1 + 1)), ?_, ?_⟩ (by simp) (wk_keep (by simp [w1]))
        · rw [← e1]; simp only [l_heldStepS_1, h1, h2, h3, cond_true, cond_false]
        · first | omega | (simp at *; omega)
  · have q1 := h1; try simp at q1
    have x3 : l_heldStepS_1 a0 (a0.length + 1) a1 0 = .inr v1_0 := by rw [← e1]; simp only [l_heldStepS_1, h1, cond_true, cond_false]
    simp
    refine retRd (rv := [.tmp 4]) rfl ?_
    have f3 := l_heldStepS.eq_1 a0 a1
    simp only [x3, cond_true, cond_false] at f3
    simp [f3]
theorem l_heldStampS_ok (a0 : List TStamp) (a1 : Int) : SoundAt Try.prog 129 false [[.sl 5 (a0.map TStamp.row)], [.int .i64 a1]] [[.int .i64 (l_heldStampS a0 a1)]] := by
  refine sound_of Try.func129 rfl (by kernel_rfl) ?_
  simp [Try.ntmps129]
  refine okL fun k1 => ?_
  refine loopI (ι := { s : Nat × Int × Nat // l_heldStampS_1 a0 s.1 s.2.1 s.2.2 = l_heldStampS_1 a0 (a0.length + 1) a1 0 ∧ (1 ≤ s.1 ∧ a0.length < s.1 + s.2.2 ∧ s.2.2 ≤ a0.length) }) (fun s => stOf 58 [(0, .one (.d (.sl 5 (a0.map TStamp.row))), []), (1, .one (.d (.int .i64 s.1.2.1)), []), (5, .one (.d (.int .i64 (↑s.1.2.2 : Int))), [])]) (fun s => s.1.1) ⟨((a0.length + 1), a1, 0), rfl, by first | omega | (dsimp only; omega) | simp⟩ (wk_keep (by simp)) ?_
  rintro ⟨⟨n1, v1_0, v1_1⟩, e1, j1⟩
  try dsimp only at e1 j1
  obtain ⟨p1, rfl⟩ : ∃ p, n1 = p + 1 := ⟨n1 - 1, by omega⟩
  simp
  refine condR (c := (decide ((↑v1_1 : Int) < (↑a0.length : Int)))) (by simp) (fun k2 h1 => ?_) (fun k2 h1 => ?_)
  · have q1 := h1; try simp at q1
    have i1 : v1_1 < a0.length := by simpa using h1
    have m2 : a0.length ≤ 9223372036854775807 := by simpa using k2 0 _ rfl
    have w1 : IntKind.i64.wrap ((v1_1 : Int) + 1) = (v1_1 : Int) + 1 := wrap_of (by omega) (by omega)
    simp [i1, rowAt_map]
    repeat ((with_reducible refine And.intro ?_ ?_); focus (intros; first | omega | ((try simp only [W_def, show ∀ x, IntKind.i64.wrap x = W x from fun _ => rfl] at *); omega)))
    refine condR (c := ((nth a0 v1_1).Authority != v1_0)) (by simp) (fun k3 h2 => ?_) (fun k3 h2 => ?_)
    · have q2 := h2; try simp at q2
      have x1 : l_heldStampS_1 a0 (a0.length + 1) a1 0 = .inl (-1) := by rw [← e1]; simp only [l_heldStampS_1, h1, h2, cond_true, cond_false]
      simp
      refine retRd (rv := [.tmp 4]) rfl ?_
      have f1 := l_heldStampS.eq_1 a0 a1
      simp only [x1, cond_true, cond_false] at f1
      simp [f1]
    · have q2 := h2; try simp at q2
      simp [i1, rowAt_map]
      repeat ((with_reducible refine And.intro ?_ ?_); focus (intros; first | omega | ((try simp only [W_def, show ∀ x, IntKind.i64.wrap x = W x from fun _ => rfl] at *); omega)))
      refine condR (c := ((nth a0 v1_1).Seq != (W (v1_0 + 1)))) (by simp) (fun k4 h3 => ?_) (fun k4 h3 => ?_)
      · have q3 := h3; try simp at q3
        have x2 : l_heldStampS_1 a0 (a0.length + 1) a1 0 = .inl (-1) := by rw [← e1]; simp only [l_heldStampS_1, h1, h2, h3, cond_true, cond_false]
        simp
        refine retRd (rv := [.tmp 4]) rfl ?_
        have f2 := l_heldStampS.eq_1 a0 a1
        simp only [x2, cond_true, cond_false] at f2
        simp [f2]
      · have q3 := h3; try simp at q3
        simp [i1, rowAt_map]
        repeat ((with_reducible refine And.intro ?_ ?_); focus (intros; first | omega | ((try simp only [W_def, show ∀ x, IntKind.i64.wrap x = W x from fun _ => rfl] at *); omega)))
        refine condR (c := ((nth a0 v1_1).Time != (W ((W (v1_0 + 1)) + 1)))) (by simp) (fun k5 h4 => ?_) (fun k5 h4 => ?_)
        · have q4 := h4; try simp at q4
          have x3 : l_heldStampS_1 a0 (a0.length + 1) a1 0 = .inl (-1) := by rw [← e1]; simp only [l_heldStampS_1, h1, h2, h3, h4, cond_true, cond_false]
          simp
          refine retRd (rv := [.tmp 4]) rfl ?_
          have f3 := l_heldStampS.eq_1 a0 a1
          simp only [x3, cond_true, cond_false] at f3
          simp [f3]
        · have q4 := h4; try simp at q4
          simp [i1, rowAt_map]
          repeat ((with_reducible refine And.intro ?_ ?_); focus (intros; first | omega | ((try simp only [W_def, show ∀ x, IntKind.i64.wrap x = W x from fun _ => rfl] at *); omega)))
          refine condR (c := ((nth a0 v1_1).Digest != (W ((W ((W (v1_0 + 1)) + 1)) + 1)))) (by simp) (fun k6 h5 => ?_) (fun k6 h5 => ?_)
          · have q5 := h5; try simp at q5
            have x4 : l_heldStampS_1 a0 (a0.length + 1) a1 0 = .inl (-1) := by rw [← e1]; simp only [l_heldStampS_1, h1, h2, h3, h4, h5, cond_true, cond_false]
            simp
            refine retRd (rv := [.tmp 4]) rfl ?_
            have f4 := l_heldStampS.eq_1 a0 a1
            simp only [x4, cond_true, cond_false] at f4
            simp [f4]
          · have q5 := h5; try simp at q5
            simp [i1, rowAt_map]
            repeat ((with_reducible refine And.intro ?_ ?_); focus (intros; first | omega | ((try simp only [W_def, show ∀ x, IntKind.i64.wrap x = W x from fun _ => rfl] at *); omega)))
            refine condR (c := ((nth a0 v1_1).Mark != (W ((W ((W ((W (v1_0 + 1)) + 1)) + 1)) + 1)))) (by simp) (fun k7 h6 => ?_) (fun k7 h6 => ?_)
            · have q6 := h6; try simp at q6
              have x5 : l_heldStampS_1 a0 (a0.length + 1) a1 0 = .inl (-1) := by rw [← e1]; simp only [l_heldStampS_1, h1, h2, h3, h4, h5, h6, cond_true, cond_false]
              simp
              refine retRd (rv := [.tmp 4]) rfl ?_
              have f5 := l_heldStampS.eq_1 a0 a1
              simp only [x5, cond_true, cond_false] at f5
              simp [f5]
            · have q6 := h6; try simp at q6
              simp
              refine nxtI ⟨(p1, (W ((W ((W ((W ((W (v1_0 + 1)) + 1)) + 1)) + 1)) + 1)), (v1_1 + 1)), ?_, ?_⟩ (by simp) (wk_keep (by simp [w1]))
              · rw [← e1]; simp only [l_heldStampS_1, h1, h2, h3, h4, h5, h6, cond_true, cond_false]
              · first | omega | (simp at *; omega)
  · have q1 := h1; try simp at q1
    have x6 : l_heldStampS_1 a0 (a0.length + 1) a1 0 = .inr v1_0 := by rw [← e1]; simp only [l_heldStampS_1, h1, cond_true, cond_false]
    simp
    refine retRd (rv := [.tmp 4]) rfl ?_
    have f6 := l_heldStampS.eq_1 a0 a1
    simp only [x6, cond_true, cond_false] at f6
    simp [f6]
theorem l_heldRenewalS_ok (a0 : List TRenewal) (a1 : Int) : SoundAt Try.prog 106 false [[.sl 5 (a0.map TRenewal.row)], [.int .i64 a1]] [[.int .i64 (l_heldRenewalS a0 a1)]] := by
  refine sound_of Try.func106 rfl (by kernel_rfl) ?_
  simp [Try.ntmps106]
  refine okL fun k1 => ?_
  refine loopI (ι := { s : Nat × Int × Nat // l_heldRenewalS_1 a0 s.1 s.2.1 s.2.2 = l_heldRenewalS_1 a0 (a0.length + 1) a1 0 ∧ (1 ≤ s.1 ∧ a0.length < s.1 + s.2.2 ∧ s.2.2 ≤ a0.length) }) (fun s => stOf 58 [(0, .one (.d (.sl 5 (a0.map TRenewal.row))), []), (1, .one (.d (.int .i64 s.1.2.1)), []), (5, .one (.d (.int .i64 (↑s.1.2.2 : Int))), [])]) (fun s => s.1.1) ⟨((a0.length + 1), a1, 0), rfl, by first | omega | (dsimp only; omega) | simp⟩ (wk_keep (by simp)) ?_
  rintro ⟨⟨n1, v1_0, v1_1⟩, e1, j1⟩
  try dsimp only at e1 j1
  obtain ⟨p1, rfl⟩ : ∃ p, n1 = p + 1 := ⟨n1 - 1, by omega⟩
  simp
  refine condR (c := (decide ((↑v1_1 : Int) < (↑a0.length : Int)))) (by simp) (fun k2 h1 => ?_) (fun k2 h1 => ?_)
  · have q1 := h1; try simp at q1
    have i1 : v1_1 < a0.length := by simpa using h1
    have m2 : a0.length ≤ 9223372036854775807 := by simpa using k2 0 _ rfl
    have w1 : IntKind.i64.wrap ((v1_1 : Int) + 1) = (v1_1 : Int) + 1 := wrap_of (by omega) (by omega)
    simp [i1, rowAt_map]
    repeat ((with_reducible refine And.intro ?_ ?_); focus (intros; first | omega | ((try simp only [W_def, show ∀ x, IntKind.i64.wrap x = W x from fun _ => rfl] at *); omega)))
    refine condR (c := ((nth a0 v1_1).Count != v1_0)) (by simp) (fun k3 h2 => ?_) (fun k3 h2 => ?_)
    · have q2 := h2; try simp at q2
      have x1 : l_heldRenewalS_1 a0 (a0.length + 1) a1 0 = .inl (-1) := by rw [← e1]; simp only [l_heldRenewalS_1, h1, h2, cond_true, cond_false]
      simp
      refine retRd (rv := [.tmp 4]) rfl ?_
      have f1 := l_heldRenewalS.eq_1 a0 a1
      simp only [x1, cond_true, cond_false] at f1
      simp [f1]
    · have q2 := h2; try simp at q2
      simp [i1, rowAt_map]
      repeat ((with_reducible refine And.intro ?_ ?_); focus (intros; first | omega | ((try simp only [W_def, show ∀ x, IntKind.i64.wrap x = W x from fun _ => rfl] at *); omega)))
      refine condR (c := ((nth a0 v1_1).Method != (W (v1_0 + 1)))) (by simp) (fun k4 h3 => ?_) (fun k4 h3 => ?_)
      · have q3 := h3; try simp at q3
        have x2 : l_heldRenewalS_1 a0 (a0.length + 1) a1 0 = .inl (-1) := by rw [← e1]; simp only [l_heldRenewalS_1, h1, h2, h3, cond_true, cond_false]
        simp
        refine retRd (rv := [.tmp 4]) rfl ?_
        have f2 := l_heldRenewalS.eq_1 a0 a1
        simp only [x2, cond_true, cond_false] at f2
        simp [f2]
      · have q3 := h3; try simp at q3
        simp [i1, rowAt_map]
        repeat ((with_reducible refine And.intro ?_ ?_); focus (intros; first | omega | ((try simp only [W_def, show ∀ x, IntKind.i64.wrap x = W x from fun _ => rfl] at *); omega)))
        refine condR (c := ((nth a0 v1_1).Root != (W ((W (v1_0 + 1)) + 1)))) (by simp) (fun k5 h4 => ?_) (fun k5 h4 => ?_)
        · have q4 := h4; try simp at q4
          have x3 : l_heldRenewalS_1 a0 (a0.length + 1) a1 0 = .inl (-1) := by rw [← e1]; simp only [l_heldRenewalS_1, h1, h2, h3, h4, cond_true, cond_false]
          simp
          refine retRd (rv := [.tmp 4]) rfl ?_
          have f3 := l_heldRenewalS.eq_1 a0 a1
          simp only [x3, cond_true, cond_false] at f3
          simp [f3]
        · have q4 := h4; try simp at q4
          simp [i1, rowAt_map]
          repeat ((with_reducible refine And.intro ?_ ?_); focus (intros; first | omega | ((try simp only [W_def, show ∀ x, IntKind.i64.wrap x = W x from fun _ => rfl] at *); omega)))
          refine callRd rfl rfl rfl rfl (l_heldStepS_ok (nth a0 v1_1).Path (W ((W ((W (v1_0 + 1)) + 1)) + 1))) (by first | (simp; done) | (simp [W, w1]; done)) (by simp) (by simp) ?_
          simp
          refine condR (c := (decide ((l_heldStepS (nth a0 v1_1).Path (W ((W ((W (v1_0 + 1)) + 1)) + 1))) < 0))) (by simp) (fun k6 h5 => ?_) (fun k6 h5 => ?_)
          · have q5 := h5; try simp at q5
            have x4 : l_heldRenewalS_1 a0 (a0.length + 1) a1 0 = .inl (-1) := by rw [← e1]; simp only [l_heldRenewalS_1, h1, h2, h3, h4, h5, cond_true, cond_false]
            simp
            refine retRd (rv := [.tmp 4]) rfl ?_
            have f4 := l_heldRenewalS.eq_1 a0 a1
            simp only [x4, cond_true, cond_false] at f4
            simp [f4]
          · have q5 := h5; try simp at q5
            simp [i1, rowAt_map]
            repeat ((with_reducible refine And.intro ?_ ?_); focus (intros; first | omega | ((try simp only [W_def, show ∀ x, IntKind.i64.wrap x = W x from fun _ => rfl] at *); omega)))
            refine callRd rfl rfl rfl rfl (l_heldStampS_ok (nth a0 v1_1).Stamps (l_heldStepS (nth a0 v1_1).Path (W ((W ((W (v1_0 + 1)) + 1)) + 1)))) (by first | (simp; done) | (simp [W, w1]; done)) (by simp) (by simp) ?_
            simp
            refine condR (c := (decide ((l_heldStampS (nth a0 v1_1).Stamps (l_heldStepS (nth a0 v1_1).Path (W ((W ((W (v1_0 + 1)) + 1)) + 1)))) < 0))) (by simp) (fun k7 h6 => ?_) (fun k7 h6 => ?_)
            · have q6 := h6; try simp at q6
              have x5 : l_heldRenewalS_1 a0 (a0.length + 1) a1 0 = .inl (-1) := by rw [← e1]; simp only [l_heldRenewalS_1, h1, h2, h3, h4, h5, h6, cond_true, cond_false]
              simp
              refine retRd (rv := [.tmp 4]) rfl ?_
              have f5 := l_heldRenewalS.eq_1 a0 a1
              simp only [x5, cond_true, cond_false] at f5
              simp [f5]
            · have q6 := h6; try simp at q6
              simp
              refine nxtI ⟨(p1, (l_heldStampS (nth a0 v1_1).Stamps (l_heldStepS (nth a0 v1_1).Path (W ((W ((W (v1_0 + 1)) + 1)) + 1)))), (v1_1 + 1)), ?_, ?_⟩ (by simp) (wk_keep (by simp [w1]))
              · rw [← e1]; simp only [l_heldRenewalS_1, h1, h2, h3, h4, h5, h6, cond_true, cond_false]
              · first | omega | (simp at *; omega)
  · have q1 := h1; try simp at q1
    have x6 : l_heldRenewalS_1 a0 (a0.length + 1) a1 0 = .inr v1_0 := by rw [← e1]; simp only [l_heldRenewalS_1, h1, cond_true, cond_false]
    simp
    refine retRd (rv := [.tmp 4]) rfl ?_
    have f6 := l_heldRenewalS.eq_1 a0 a1
    simp only [x6, cond_true, cond_false] at f6
    simp [f6]
theorem l_heldItemS_ok (a0 : List TItem) (a1 : Int) : SoundAt Try.prog 81 false [[.sl 16 (a0.map TItem.row)], [.int .i64 a1]] [[.int .i64 (l_heldItemS a0 a1)]] := by
  refine sound_of Try.func81 rfl (by kernel_rfl) ?_
  simp [Try.ntmps81]
  refine okL fun k1 => ?_
  refine loopI (ι := { s : Nat × Int × Nat // l_heldItemS_1 a0 s.1 s.2.1 s.2.2 = l_heldItemS_1 a0 (a0.length + 1) a1 0 ∧ (1 ≤ s.1 ∧ a0.length < s.1 + s.2.2 ∧ s.2.2 ≤ a0.length) }) (fun s => stOf 171 [(0, .one (.d (.sl 16 (a0.map TItem.row))), []), (1, .one (.d (.int .i64 s.1.2.1)), []), (5, .one (.d (.int .i64 (↑s.1.2.2 : Int))), [])]) (fun s => s.1.1) ⟨((a0.length + 1), a1, 0), rfl, by first | omega | (dsimp only; omega) | simp⟩ (wk_keep (by simp)) ?_
  rintro ⟨⟨n1, v1_0, v1_1⟩, e1, j1⟩
  try dsimp only at e1 j1
  obtain ⟨p1, rfl⟩ : ∃ p, n1 = p + 1 := ⟨n1 - 1, by omega⟩
  simp
  refine condR (c := (decide ((↑v1_1 : Int) < (↑a0.length : Int)))) (by simp) (fun k2 h1 => ?_) (fun k2 h1 => ?_)
  · have q1 := h1; try simp at q1
    have i1 : v1_1 < a0.length := by simpa using h1
    have m2 : a0.length ≤ 9223372036854775807 := by simpa using k2 0 _ rfl
    have w1 : IntKind.i64.wrap ((v1_1 : Int) + 1) = (v1_1 : Int) + 1 := wrap_of (by omega) (by omega)
    simp [i1, rowAt_map]
    repeat ((with_reducible refine And.intro ?_ ?_); focus (intros; first | omega | ((try simp only [W_def, show ∀ x, IntKind.i64.wrap x = W x from fun _ => rfl] at *); omega)))
    refine condR (c := ((nth a0 v1_1).Id != v1_0)) (by simp) (fun k3 h2 => ?_) (fun k3 h2 => ?_)
    · have q2 := h2; try simp at q2
      have x1 : l_heldItemS_1 a0 (a0.length + 1) a1 0 = .inl (-1) := by rw [← e1]; simp only [l_heldItemS_1, h1, h2, cond_true, cond_false]
      simp
      refine retRd (rv := [.tmp 4]) rfl ?_
      have f1 := l_heldItemS.eq_1 a0 a1
      simp only [x1, cond_true, cond_false] at f1
      simp [f1]
    · have q2 := h2; try simp at q2
      simp [i1, rowAt_map]
      repeat ((with_reducible refine And.intro ?_ ?_); focus (intros; first | omega | ((try simp only [W_def, show ∀ x, IntKind.i64.wrap x = W x from fun _ => rfl] at *); omega)))
      refine condR (c := ((nth a0 v1_1).Keep != (W (v1_0 + 1)))) (by simp) (fun k4 h3 => ?_) (fun k4 h3 => ?_)
      · have q3 := h3; try simp at q3
        have x2 : l_heldItemS_1 a0 (a0.length + 1) a1 0 = .inl (-1) := by rw [← e1]; simp only [l_heldItemS_1, h1, h2, h3, cond_true, cond_false]
        simp
        refine retRd (rv := [.tmp 4]) rfl ?_
        have f2 := l_heldItemS.eq_1 a0 a1
        simp only [x2, cond_true, cond_false] at f2
        simp [f2]
      · have q3 := h3; try simp at q3
        simp [i1, rowAt_map]
        repeat ((with_reducible refine And.intro ?_ ?_); focus (intros; first | omega | ((try simp only [W_def, show ∀ x, IntKind.i64.wrap x = W x from fun _ => rfl] at *); omega)))
        refine condR (c := ((nth a0 v1_1).Doc.Title != (W ((W (v1_0 + 1)) + 1)))) (by simp) (fun k5 h4 => ?_) (fun k5 h4 => ?_)
        · have q4 := h4; try simp at q4
          have x3 : l_heldItemS_1 a0 (a0.length + 1) a1 0 = .inl (-1) := by rw [← e1]; simp only [l_heldItemS_1, h1, h2, h3, h4, cond_true, cond_false]
          simp
          refine retRd (rv := [.tmp 4]) rfl ?_
          have f3 := l_heldItemS.eq_1 a0 a1
          simp only [x3, cond_true, cond_false] at f3
          simp [f3]
        · have q4 := h4; try simp at q4
          simp [i1, rowAt_map]
          repeat ((with_reducible refine And.intro ?_ ?_); focus (intros; first | omega | ((try simp only [W_def, show ∀ x, IntKind.i64.wrap x = W x from fun _ => rfl] at *); omega)))
          refine callRd rfl rfl rfl rfl (l_heldStringS_ok (nth a0 v1_1).Doc.Parts (W ((W ((W (v1_0 + 1)) + 1)) + 1))) (by first | (simp; done) | (simp [W, w1]; done)) (by simp) (by simp) ?_
          simp
          refine condR (c := (decide ((l_heldStringS (nth a0 v1_1).Doc.Parts (W ((W ((W (v1_0 + 1)) + 1)) + 1))) < 0))) (by simp) (fun k6 h5 => ?_) (fun k6 h5 => ?_)
          · have q5 := h5; try simp at q5
            have x4 : l_heldItemS_1 a0 (a0.length + 1) a1 0 = .inl (-1) := by rw [← e1]; simp only [l_heldItemS_1, h1, h2, h3, h4, h5, cond_true, cond_false]
            simp
            refine retRd (rv := [.tmp 4]) rfl ?_
            have f4 := l_heldItemS.eq_1 a0 a1
            simp only [x4, cond_true, cond_false] at f4
            simp [f4]
          · have q5 := h5; try simp at q5
            simp [i1, rowAt_map]
            repeat ((with_reducible refine And.intro ?_ ?_); focus (intros; first | omega | ((try simp only [W_def, show ∀ x, IntKind.i64.wrap x = W x from fun _ => rfl] at *); omega)))
            refine callRd rfl rfl rfl rfl (l_heldIntS_ok (nth a0 v1_1).Doc.Salts (l_heldStringS (nth a0 v1_1).Doc.Parts (W ((W ((W (v1_0 + 1)) + 1)) + 1)))) (by first | (simp; done) | (simp [W, w1]; done)) (by simp) (by simp) ?_
            simp
            refine condR (c := (decide ((l_heldIntS (nth a0 v1_1).Doc.Salts (l_heldStringS (nth a0 v1_1).Doc.Parts (W ((W ((W (v1_0 + 1)) + 1)) + 1)))) < 0))) (by simp) (fun k7 h6 => ?_) (fun k7 h6 => ?_)
            · have q6 := h6; try simp at q6
              have x5 : l_heldItemS_1 a0 (a0.length + 1) a1 0 = .inl (-1) := by rw [← e1]; simp only [l_heldItemS_1, h1, h2, h3, h4, h5, h6, cond_true, cond_false]
              simp
              refine retRd (rv := [.tmp 4]) rfl ?_
              have f5 := l_heldItemS.eq_1 a0 a1
              simp only [x5, cond_true, cond_false] at f5
              simp [f5]
            · have q6 := h6; try simp at q6
              simp [i1, rowAt_map]
              repeat ((with_reducible refine And.intro ?_ ?_); focus (intros; first | omega | ((try simp only [W_def, show ∀ x, IntKind.i64.wrap x = W x from fun _ => rfl] at *); omega)))
              refine condR (c := ((nth a0 v1_1).Sig.Key != (l_heldIntS (nth a0 v1_1).Doc.Salts (l_heldStringS (nth a0 v1_1).Doc.Parts (W ((W ((W (v1_0 + 1)) + 1)) + 1)))))) (by simp) (fun k8 h7 => ?_) (fun k8 h7 => ?_)
              · have q7 := h7; try simp at q7
                have x6 : l_heldItemS_1 a0 (a0.length + 1) a1 0 = .inl (-1) := by rw [← e1]; simp only [l_heldItemS_1, h1, h2, h3, h4, h5, h6, h7, cond_true, cond_false]
                simp
                refine retRd (rv := [.tmp 4]) rfl ?_
                have f6 := l_heldItemS.eq_1 a0 a1
                simp only [x6, cond_true, cond_false] at f6
                simp [f6]
              · have q7 := h7; try simp at q7
                simp [i1, rowAt_map]
                repeat ((with_reducible refine And.intro ?_ ?_); focus (intros; first | omega | ((try simp only [W_def, show ∀ x, IntKind.i64.wrap x = W x from fun _ => rfl] at *); omega)))
                refine condR (c := ((nth a0 v1_1).Sig.Serial != (W ((l_heldIntS (nth a0 v1_1).Doc.Salts (l_heldStringS (nth a0 v1_1).Doc.Parts (W ((W ((W (v1_0 + 1)) + 1)) + 1)))) + 1)))) (by simp) (fun k9 h8 => ?_) (fun k9 h8 => ?_)
                · have q8 := h8; try simp at q8
                  have x7 : l_heldItemS_1 a0 (a0.length + 1) a1 0 = .inl (-1) := by rw [← e1]; simp only [l_heldItemS_1, h1, h2, h3, h4, h5, h6, h7, h8, cond_true, cond_false]
                  simp
                  refine retRd (rv := [.tmp 4]) rfl ?_
                  have f7 := l_heldItemS.eq_1 a0 a1
                  simp only [x7, cond_true, cond_false] at f7
                  simp [f7]
                · have q8 := h8; try simp at q8
                  simp [i1, rowAt_map]
                  repeat ((with_reducible refine And.intro ?_ ?_); focus (intros; first | omega | ((try simp only [W_def, show ∀ x, IntKind.i64.wrap x = W x from fun _ => rfl] at *); omega)))
                  refine condR (c := ((nth a0 v1_1).Sig.Method != (W ((W ((l_heldIntS (nth a0 v1_1).Doc.Salts (l_heldStringS (nth a0 v1_1).Doc.Parts (W ((W ((W (v1_0 + 1)) + 1)) + 1)))) + 1)) + 1)))) (by simp) (fun k10 h9 => ?_) (fun k10 h9 => ?_)
                  · have q9 := h9; try simp at q9
                    have x8 : l_heldItemS_1 a0 (a0.length + 1) a1 0 = .inl (-1) := by rw [← e1]; simp only [l_heldItemS_1, h1, h2, h3, h4, h5, h6, h7, h8, h9, cond_true, cond_false]
                    simp
                    refine retRd (rv := [.tmp 4]) rfl ?_
                    have f8 := l_heldItemS.eq_1 a0 a1
                    simp only [x8, cond_true, cond_false] at f8
                    simp [f8]
                  · have q9 := h9; try simp at q9
                    simp [i1, rowAt_map]
                    repeat ((with_reducible refine And.intro ?_ ?_); focus (intros; first | omega | ((try simp only [W_def, show ∀ x, IntKind.i64.wrap x = W x from fun _ => rfl] at *); omega)))
                    refine condR (c := ((nth a0 v1_1).Sig.Digest != (W ((W ((W ((l_heldIntS (nth a0 v1_1).Doc.Salts (l_heldStringS (nth a0 v1_1).Doc.Parts (W ((W ((W (v1_0 + 1)) + 1)) + 1)))) + 1)) + 1)) + 1)))) (by simp) (fun k11 h10 => ?_) (fun k11 h10 => ?_)
                    · have q10 := h10; try simp at q10
                      have x9 : l_heldItemS_1 a0 (a0.length + 1) a1 0 = .inl (-1) := by rw [← e1]; simp only [l_heldItemS_1, h1, h2, h3, h4, h5, h6, h7, h8, h9, h10, cond_true, cond_false]
                      simp
                      refine retRd (rv := [.tmp 4]) rfl ?_
                      have f9 := l_heldItemS.eq_1 a0 a1
                      simp only [x9, cond_true, cond_false] at f9
                      simp [f9]
                    · have q10 := h10; try simp at q10
                      simp [i1, rowAt_map]
                      repeat ((with_reducible refine And.intro ?_ ?_); focus (intros; first | omega | ((try simp only [W_def, show ∀ x, IntKind.i64.wrap x = W x from fun _ => rfl] at *); omega)))
                      refine condR (c := ((nth a0 v1_1).Sig.Commit != (W ((W ((W ((W ((l_heldIntS (nth a0 v1_1).Doc.Salts (l_heldStringS (nth a0 v1_1).Doc.Parts (W ((W ((W (v1_0 + 1)) + 1)) + 1)))) + 1)) + 1)) + 1)) + 1)))) (by simp) (fun k12 h11 => ?_) (fun k12 h11 => ?_)
                      · have q11 := h11; try simp at q11
                        have x10 : l_heldItemS_1 a0 (a0.length + 1) a1 0 = .inl (-1) := by rw [← e1]; simp only [l_heldItemS_1, h1, h2, h3, h4, h5, h6, h7, h8, h9, h10, h11, cond_true, cond_false]
                        simp
                        refine retRd (rv := [.tmp 4]) rfl ?_
                        have f10 := l_heldItemS.eq_1 a0 a1
                        simp only [x10, cond_true, cond_false] at f10
                        simp [f10]
                      · have q11 := h11; try simp at q11
                        simp [i1, rowAt_map]
                        repeat ((with_reducible refine And.intro ?_ ?_); focus (intros; first | omega | ((try simp only [W_def, show ∀ x, IntKind.i64.wrap x = W x from fun _ => rfl] at *); omega)))
                        refine condR (c := ((nth a0 v1_1).Sig.Org != (W ((W ((W ((W ((W ((l_heldIntS (nth a0 v1_1).Doc.Salts (l_heldStringS (nth a0 v1_1).Doc.Parts (W ((W ((W (v1_0 + 1)) + 1)) + 1)))) + 1)) + 1)) + 1)) + 1)) + 1)))) (by simp) (fun k13 h12 => ?_) (fun k13 h12 => ?_)
                        · have q12 := h12; try simp at q12
                          have x11 : l_heldItemS_1 a0 (a0.length + 1) a1 0 = .inl (-1) := by rw [← e1]; simp only [l_heldItemS_1, h1, h2, h3, h4, h5, h6, h7, h8, h9, h10, h11, h12, cond_true, cond_false]
                          simp
                          refine retRd (rv := [.tmp 4]) rfl ?_
                          have f11 := l_heldItemS.eq_1 a0 a1
                          simp only [x11, cond_true, cond_false] at f11
                          simp [f11]
                        · have q12 := h12; try simp at q12
                          simp [i1, rowAt_map]
                          repeat ((with_reducible refine And.intro ?_ ?_); focus (intros; first | omega | ((try simp only [W_def, show ∀ x, IntKind.i64.wrap x = W x from fun _ => rfl] at *); omega)))
                          refine condR (c := ((nth a0 v1_1).Sig.Before != (W ((W ((W ((W ((W ((W ((l_heldIntS (nth a0 v1_1).Doc.Salts (l_heldStringS (nth a0 v1_1).Doc.Parts (W ((W ((W (v1_0 + 1)) + 1)) + 1)))) + 1)) + 1)) + 1)) + 1)) + 1)) + 1)))) (by simp) (fun k14 h13 => ?_) (fun k14 h13 => ?_)
                          · have q13 := h13; try simp at q13
                            have x12 : l_heldItemS_1 a0 (a0.length + 1) a1 0 = .inl (-1) := by rw [← e1]; simp only [l_heldItemS_1, h1, h2, h3, h4, h5, h6, h7, h8, h9, h10, h11, h12, h13, cond_true, cond_false]
                            simp
                            refine retRd (rv := [.tmp 4]) rfl ?_
                            have f12 := l_heldItemS.eq_1 a0 a1
                            simp only [x12, cond_true, cond_false] at f12
                            simp [f12]
                          · have q13 := h13; try simp at q13
                            simp [i1, rowAt_map]
                            repeat ((with_reducible refine And.intro ?_ ?_); focus (intros; first | omega | ((try simp only [W_def, show ∀ x, IntKind.i64.wrap x = W x from fun _ => rfl] at *); omega)))
                            refine condR (c := ((nth a0 v1_1).Sig.After != (W ((W ((W ((W ((W ((W ((W ((l_heldIntS (nth a0 v1_1).Doc.Salts (l_heldStringS (nth a0 v1_1).Doc.Parts (W ((W ((W (v1_0 + 1)) + 1)) + 1)))) + 1)) + 1)) + 1)) + 1)) + 1)) + 1)) + 1)))) (by simp) (fun k15 h14 => ?_) (fun k15 h14 => ?_)
                            · have q14 := h14; try simp at q14
                              have x13 : l_heldItemS_1 a0 (a0.length + 1) a1 0 = .inl (-1) := by rw [← e1]; simp only [l_heldItemS_1, h1, h2, h3, h4, h5, h6, h7, h8, h9, h10, h11, h12, h13, h14, cond_true, cond_false]
                              simp
                              refine retRd (rv := [.tmp 4]) rfl ?_
                              have f13 := l_heldItemS.eq_1 a0 a1
                              simp only [x13, cond_true, cond_false] at f13
                              simp [f13]
                            · have q14 := h14; try simp at q14
                              simp [i1, rowAt_map]
                              repeat ((with_reducible refine And.intro ?_ ?_); focus (intros; first | omega | ((try simp only [W_def, show ∀ x, IntKind.i64.wrap x = W x from fun _ => rfl] at *); omega)))
                              refine condR (c := ((nth a0 v1_1).Sig.Mark != (W ((W ((W ((W ((W ((W ((W ((W ((l_heldIntS (nth a0 v1_1).Doc.Salts (l_heldStringS (nth a0 v1_1).Doc.Parts (W ((W ((W (v1_0 + 1)) + 1)) + 1)))) + 1)) + 1)) + 1)) + 1)) + 1)) + 1)) + 1)) + 1)))) (by simp) (fun k16 h15 => ?_) (fun k16 h15 => ?_)
                              · have q15 := h15; try simp at q15
                                have x14 : l_heldItemS_1 a0 (a0.length + 1) a1 0 = .inl (-1) := by rw [← e1]; simp only [l_heldItemS_1, h1, h2, h3, h4, h5, h6, h7, h8, h9, h10, h11, h12, h13, h14, h15, cond_true, cond_false]
                                simp
                                refine retRd (rv := [.tmp 4]) rfl ?_
                                have f14 := l_heldItemS.eq_1 a0 a1
                                simp only [x14, cond_true, cond_false] at f14
                                simp [f14]
                              · have q15 := h15; try simp at q15
                                simp [i1, rowAt_map]
                                repeat ((with_reducible refine And.intro ?_ ?_); focus (intros; first | omega | ((try simp only [W_def, show ∀ x, IntKind.i64.wrap x = W x from fun _ => rfl] at *); omega)))
                                refine callRd rfl rfl rfl rfl (l_heldPieceS_ok (nth a0 v1_1).Strand.Pieces (W ((W ((W ((W ((W ((W ((W ((W ((W ((l_heldIntS (nth a0 v1_1).Doc.Salts (l_heldStringS (nth a0 v1_1).Doc.Parts (W ((W ((W (v1_0 + 1)) + 1)) + 1)))) + 1)) + 1)) + 1)) + 1)) + 1)) + 1)) + 1)) + 1)) + 1))) (by first | (simp; done) | (simp [W, w1]; done)) (by simp) (by simp) ?_
                                simp
                                refine condR (c := (decide ((l_heldPieceS (nth a0 v1_1).Strand.Pieces (W ((W ((W ((W ((W ((W ((W ((W ((W ((l_heldIntS (nth a0 v1_1).Doc.Salts (l_heldStringS (nth a0 v1_1).Doc.Parts (W ((W ((W (v1_0 + 1)) + 1)) + 1)))) + 1)) + 1)) + 1)) + 1)) + 1)) + 1)) + 1)) + 1)) + 1))) < 0))) (by simp) (fun k17 h16 => ?_) (fun k17 h16 => ?_)
                                · have q16 := h16; try simp at q16
                                  have x15 : l_heldItemS_1 a0 (a0.length + 1) a1 0 = .inl (-1) := by rw [← e1]; simp only [l_heldItemS_1, h1, h2, h3, h4, h5, h6, h7, h8, h9, h10, h11, h12, h13, h14, h15, h16, cond_true, cond_false]
                                  simp
                                  refine retRd (rv := [.tmp 4]) rfl ?_
                                  have f15 := l_heldItemS.eq_1 a0 a1
                                  simp only [x15, cond_true, cond_false] at f15
                                  simp [f15]
                                · have q16 := h16; try simp at q16
                                  simp [i1, rowAt_map]
                                  repeat ((with_reducible refine And.intro ?_ ?_); focus (intros; first | omega | ((try simp only [W_def, show ∀ x, IntKind.i64.wrap x = W x from fun _ => rfl] at *); omega)))
                                  refine callRd rfl rfl rfl rfl (l_heldRenewalS_ok (nth a0 v1_1).Strand.Chain (l_heldPieceS (nth a0 v1_1).Strand.Pieces (W ((W ((W ((W ((W ((W ((W ((W ((W ((l_heldIntS (nth a0 v1_1).Doc.Salts (l_heldStringS (nth a0 v1_1).Doc.Parts (W ((W ((W (v1_0 + 1)) + 1)) + 1)))) + 1)) + 1)) + 1)) + 1)) + 1)) + 1)) + 1)) + 1)) + 1)))) (by first | (simp; done) | (simp [W, w1]; done)) (by simp) (by simp) ?_
                                  simp
                                  refine condR (c := (decide ((l_heldRenewalS (nth a0 v1_1).Strand.Chain (l_heldPieceS (nth a0 v1_1).Strand.Pieces (W ((W ((W ((W ((W ((W ((W ((W ((W ((l_heldIntS (nth a0 v1_1).Doc.Salts (l_heldStringS (nth a0 v1_1).Doc.Parts (W ((W ((W (v1_0 + 1)) + 1)) + 1)))) + 1)) + 1)) + 1)) + 1)) + 1)) + 1)) + 1)) + 1)) + 1)))) < 0))) (by simp) (fun k18 h17 => ?_) (fun k18 h17 => ?_)
                                  · have q17 := h17; try simp at q17
                                    have x16 : l_heldItemS_1 a0 (a0.length + 1) a1 0 = .inl (-1) := by rw [← e1]; simp only [l_heldItemS_1, h1, h2, h3, h4, h5, h6, h7, h8, h9, h10, h11, h12, h13, h14, h15, h16, h17, cond_true, cond_false]
                                    simp
                                    refine retRd (rv := [.tmp 4]) rfl ?_
                                    have f16 := l_heldItemS.eq_1 a0 a1
                                    simp only [x16, cond_true, cond_false] at f16
                                    simp [f16]
                                  · have q17 := h17; try simp at q17
                                    simp
                                    refine nxtI ⟨(p1, (l_heldRenewalS (nth a0 v1_1).Strand.Chain (l_heldPieceS (nth a0 v1_1).Strand.Pieces (W ((W ((W ((W ((W ((W ((W ((W ((W ((l_heldIntS (nth a0 v1_1).Doc.Salts (l_heldStringS (nth a0 v1_1).Doc.Parts (W ((W ((W (v1_0 + 1)) + 1)) + 1)))) + 1)) + 1)) + 1)) + 1)) + 1)) + 1)) + 1)) + 1)) + 1)))), (v1_1 + 1)), ?_, ?_⟩ (by simp) (wk_keep (by simp [w1]))
                                    · rw [← e1]; simp only [l_heldItemS_1, h1, h2, h3, h4, h5, h6, h7, h8, h9, h10, h11, h12, h13, h14, h15, h16, h17, cond_true, cond_false]
                                    · first | omega | (simp at *; omega)
  · have q1 := h1; try simp at q1
    have x17 : l_heldItemS_1 a0 (a0.length + 1) a1 0 = .inr v1_0 := by rw [← e1]; simp only [l_heldItemS_1, h1, cond_true, cond_false]
    simp
    refine retRd (rv := [.tmp 4]) rfl ?_
    have f17 := l_heldItemS.eq_1 a0 a1
    simp only [x17, cond_true, cond_false] at f17
    simp [f17]
theorem l_heldArchiveS_ok (a0 : List TArchive) (a1 : Int) : SoundAt Try.prog 56 false [[.sl 2 (a0.map TArchive.row)], [.int .i64 a1]] [[.int .i64 (l_heldArchiveS a0 a1)]] := by
  refine sound_of Try.func56 rfl (by kernel_rfl) ?_
  simp [Try.ntmps56]
  refine okL fun k1 => ?_
  refine loopI (ι := { s : Nat × Int × Nat // l_heldArchiveS_1 a0 s.1 s.2.1 s.2.2 = l_heldArchiveS_1 a0 (a0.length + 1) a1 0 ∧ (1 ≤ s.1 ∧ a0.length < s.1 + s.2.2 ∧ s.2.2 ≤ a0.length) }) (fun s => stOf 31 [(0, .one (.d (.sl 2 (a0.map TArchive.row))), []), (1, .one (.d (.int .i64 s.1.2.1)), []), (5, .one (.d (.int .i64 (↑s.1.2.2 : Int))), [])]) (fun s => s.1.1) ⟨((a0.length + 1), a1, 0), rfl, by first | omega | (dsimp only; omega) | simp⟩ (wk_keep (by simp)) ?_
  rintro ⟨⟨n1, v1_0, v1_1⟩, e1, j1⟩
  try dsimp only at e1 j1
  obtain ⟨p1, rfl⟩ : ∃ p, n1 = p + 1 := ⟨n1 - 1, by omega⟩
  simp
  refine condR (c := (decide ((↑v1_1 : Int) < (↑a0.length : Int)))) (by simp) (fun k2 h1 => ?_) (fun k2 h1 => ?_)
  · have q1 := h1; try simp at q1
    have i1 : v1_1 < a0.length := by simpa using h1
    have m2 : a0.length ≤ 9223372036854775807 := by simpa using k2 0 _ rfl
    have w1 : IntKind.i64.wrap ((v1_1 : Int) + 1) = (v1_1 : Int) + 1 := wrap_of (by omega) (by omega)
    simp [i1, rowAt_map]
    repeat ((with_reducible refine And.intro ?_ ?_); focus (intros; first | omega | ((try simp only [W_def, show ∀ x, IntKind.i64.wrap x = W x from fun _ => rfl] at *); omega)))
    refine condR (c := ((nth a0 v1_1).Id != v1_0)) (by simp) (fun k3 h2 => ?_) (fun k3 h2 => ?_)
    · have q2 := h2; try simp at q2
      have x1 : l_heldArchiveS_1 a0 (a0.length + 1) a1 0 = .inl (-1) := by rw [← e1]; simp only [l_heldArchiveS_1, h1, h2, cond_true, cond_false]
      simp
      refine retRd (rv := [.tmp 4]) rfl ?_
      have f1 := l_heldArchiveS.eq_1 a0 a1
      simp only [x1, cond_true, cond_false] at f1
      simp [f1]
    · have q2 := h2; try simp at q2
      simp [i1, rowAt_map]
      repeat ((with_reducible refine And.intro ?_ ?_); focus (intros; first | omega | ((try simp only [W_def, show ∀ x, IntKind.i64.wrap x = W x from fun _ => rfl] at *); omega)))
      refine callRd rfl rfl rfl rfl (l_heldItemS_ok (nth a0 v1_1).Items (W (v1_0 + 1))) (by first | (simp; done) | (simp [W, w1]; done)) (by simp) (by simp) ?_
      simp
      refine condR (c := (decide ((l_heldItemS (nth a0 v1_1).Items (W (v1_0 + 1))) < 0))) (by simp) (fun k4 h3 => ?_) (fun k4 h3 => ?_)
      · have q3 := h3; try simp at q3
        have x2 : l_heldArchiveS_1 a0 (a0.length + 1) a1 0 = .inl (-1) := by rw [← e1]; simp only [l_heldArchiveS_1, h1, h2, h3, cond_true, cond_false]
        simp
        refine retRd (rv := [.tmp 4]) rfl ?_
        have f2 := l_heldArchiveS.eq_1 a0 a1
        simp only [x2, cond_true, cond_false] at f2
        simp [f2]
      · have q3 := h3; try simp at q3
        simp
        refine nxtI ⟨(p1, (l_heldItemS (nth a0 v1_1).Items (W (v1_0 + 1))), (v1_1 + 1)), ?_, ?_⟩ (by simp) (wk_keep (by simp [w1]))
        · rw [← e1]; simp only [l_heldArchiveS_1, h1, h2, h3, cond_true, cond_false]
        · first | omega | (simp at *; omega)
  · have q1 := h1; try simp at q1
    have x3 : l_heldArchiveS_1 a0 (a0.length + 1) a1 0 = .inr v1_0 := by rw [← e1]; simp only [l_heldArchiveS_1, h1, cond_true, cond_false]
    simp
    refine retRd (rv := [.tmp 4]) rfl ?_
    have f3 := l_heldArchiveS.eq_1 a0 a1
    simp only [x3, cond_true, cond_false] at f3
    simp [f3]
theorem l_heldWorld_ok (a0 : TWorld) (a1 : Int) : SoundAt Try.prog 22 false [a0.row, [.int .i64 a1]] [[.int .i64 (l_heldWorld a0 a1)]] := by
  refine sound_of Try.func22 rfl (by kernel_rfl) ?_
  simp [Try.ntmps22]
  refine callRd rfl rfl rfl rfl (l_heldFrame_ok a0.Frame a1) (by simp) (by simp) (by simp) ?_
  simp
  refine condR (c := (decide ((l_heldFrame a0.Frame a1) < 0))) (by simp) (fun k1 h1 => ?_) (fun k1 h1 => ?_)
  · have q1 := h1; try simp at q1
    simp
    refine retRd (rv := [.tmp 4]) rfl ?_
    have f1 := l_heldWorld.eq_1 a0 a1
    simp only [h1, cond_true, cond_false] at f1
    simp [f1]
  · have q1 := h1; try simp at q1
    simp
    refine callRd rfl rfl rfl rfl (l_heldCertS_ok a0.Certs (l_heldFrame a0.Frame a1)) (by simp) (by simp) (by simp) ?_
    simp
    refine condR (c := (decide ((l_heldCertS a0.Certs (l_heldFrame a0.Frame a1)) < 0))) (by simp) (fun k2 h2 => ?_) (fun k2 h2 => ?_)
    · have q2 := h2; try simp at q2
      simp
      refine retRd (rv := [.tmp 4]) rfl ?_
      have f2 := l_heldWorld.eq_1 a0 a1
      simp only [h1, h2, cond_true, cond_false] at f2
      simp [f2]
    · have q2 := h2; try simp at q2
      simp
      refine callRd rfl rfl rfl rfl (l_heldIntS_ok a0.Ended (l_heldCertS a0.Certs (l_heldFrame a0.Frame a1))) (by simp) (by simp) (by simp) ?_
      simp
      refine condR (c := (decide ((l_heldIntS a0.Ended (l_heldCertS a0.Certs (l_heldFrame a0.Frame a1))) < 0))) (by simp) (fun k3 h3 => ?_) (fun k3 h3 => ?_)
      · have q3 := h3; try simp at q3
        simp
        refine retRd (rv := [.tmp 4]) rfl ?_
        have f3 := l_heldWorld.eq_1 a0 a1
        simp only [h1, h2, h3, cond_true, cond_false] at f3
        simp [f3]
      · have q3 := h3; try simp at q3
        simp
        refine callRd rfl rfl rfl rfl (l_heldArchiveS_ok a0.Archives (l_heldIntS a0.Ended (l_heldCertS a0.Certs (l_heldFrame a0.Frame a1)))) (by simp) (by simp) (by simp) ?_
        simp
        refine condR (c := (decide ((l_heldArchiveS a0.Archives (l_heldIntS a0.Ended (l_heldCertS a0.Certs (l_heldFrame a0.Frame a1)))) < 0))) (by simp) (fun k4 h4 => ?_) (fun k4 h4 => ?_)
        · have q4 := h4; try simp at q4
          simp
          refine retRd (rv := [.tmp 4]) rfl ?_
          have f4 := l_heldWorld.eq_1 a0 a1
          simp only [h1, h2, h3, h4, cond_true, cond_false] at f4
          simp [f4]
        · have q4 := h4; try simp at q4
          simp
          refine callRd rfl rfl rfl rfl (l_heldIntS_ok a0.Seqs (l_heldArchiveS a0.Archives (l_heldIntS a0.Ended (l_heldCertS a0.Certs (l_heldFrame a0.Frame a1))))) (by simp) (by simp) (by simp) ?_
          simp
          refine condR (c := (decide ((l_heldIntS a0.Seqs (l_heldArchiveS a0.Archives (l_heldIntS a0.Ended (l_heldCertS a0.Certs (l_heldFrame a0.Frame a1))))) < 0))) (by simp) (fun k5 h5 => ?_) (fun k5 h5 => ?_)
          · have q5 := h5; try simp at q5
            simp
            refine retRd (rv := [.tmp 4]) rfl ?_
            have f5 := l_heldWorld.eq_1 a0 a1
            simp only [h1, h2, h3, h4, h5, cond_true, cond_false] at f5
            simp [f5]
          · have q5 := h5; try simp at q5
            simp
            refine callRd rfl rfl rfl rfl (l_heldIntS_ok a0.Lying (l_heldIntS a0.Seqs (l_heldArchiveS a0.Archives (l_heldIntS a0.Ended (l_heldCertS a0.Certs (l_heldFrame a0.Frame a1)))))) (by simp) (by simp) (by simp) ?_
            simp
            refine condR (c := (decide ((l_heldIntS a0.Lying (l_heldIntS a0.Seqs (l_heldArchiveS a0.Archives (l_heldIntS a0.Ended (l_heldCertS a0.Certs (l_heldFrame a0.Frame a1)))))) < 0))) (by simp) (fun k6 h6 => ?_) (fun k6 h6 => ?_)
            · have q6 := h6; try simp at q6
              simp
              refine retRd (rv := [.tmp 4]) rfl ?_
              have f6 := l_heldWorld.eq_1 a0 a1
              simp only [h1, h2, h3, h4, h5, h6, cond_true, cond_false] at f6
              simp [f6]
            · have q6 := h6; try simp at q6
              simp
              refine callRd rfl rfl rfl rfl (l_heldIntS_ok a0.Forged (l_heldIntS a0.Lying (l_heldIntS a0.Seqs (l_heldArchiveS a0.Archives (l_heldIntS a0.Ended (l_heldCertS a0.Certs (l_heldFrame a0.Frame a1))))))) (by simp) (by simp) (by simp) ?_
              simp
              refine condR (c := (decide ((l_heldIntS a0.Forged (l_heldIntS a0.Lying (l_heldIntS a0.Seqs (l_heldArchiveS a0.Archives (l_heldIntS a0.Ended (l_heldCertS a0.Certs (l_heldFrame a0.Frame a1))))))) < 0))) (by simp) (fun k7 h7 => ?_) (fun k7 h7 => ?_)
              · have q7 := h7; try simp at q7
                simp
                refine retRd (rv := [.tmp 4]) rfl ?_
                have f7 := l_heldWorld.eq_1 a0 a1
                simp only [h1, h2, h3, h4, h5, h6, h7, cond_true, cond_false] at f7
                simp [f7]
              · have q7 := h7; try simp at q7
                simp
                refine retRd (rv := [.tmp 4]) rfl ?_
                have f8 := l_heldWorld.eq_1 a0 a1
                simp only [h1, h2, h3, h4, h5, h6, h7, cond_true, cond_false] at f8
                simp [f8]
theorem l_FnExactNewWorld_ok (a0 : Int) : SoundAt Try.prog 4 false [[.int .i64 a0]] [[.bool (l_FnExactNewWorld a0)]] := by
  refine sound_of Try.func4 rfl (by kernel_rfl) ?_
  simp [Try.ntmps4]
  refine callRd rfl rfl rfl rfl (s_NewWorld_ok a0) (by simp) (by simp) (by simp) ?_
  simp
  refine callD [] rfl rfl rfl rfl (i_NewWorld_ok a0) (by simp) (by simp) (by simp) (by simp) ?_
  simp
  refine callRd rfl rfl rfl rfl (l_eqWorld_ok (i_NewWorld a0) (s_NewWorld a0)) (by simp) (by simp) (by simp) ?_
  simp
  refine condR (c := (!(l_eqWorld (i_NewWorld a0) (s_NewWorld a0)))) (by simp) (fun k1 h1 => ?_) (fun k1 h1 => ?_)
  · have q1 := h1; try simp at q1
    simp
    refine retRd (rv := [.tmp 2]) rfl ?_
    have f1 := l_FnExactNewWorld.eq_1 a0
    simp only [h1, cond_true, cond_false] at f1
    simp [f1]
  · have q1 := h1; try simp at q1
    simp
    refine callMO (ats := [.sref 11 0 0 (i_NewWorld a0).Frame.Keys.length, .sref 11 1 0 (i_NewWorld a0).Frame.Authorities.length, .sref 11 2 0 (i_NewWorld a0).Frame.Methods.length, .d (.int .i64 (i_NewWorld a0).Frame.Liars), .d (.int .i64 (i_NewWorld a0).Frame.Now), .sref 11 5 0 (i_NewWorld a0).Certs.length, .sref 11 6 0 (i_NewWorld a0).Ended.length, .sref 11 7 0 (i_NewWorld a0).Archives.length, .sref 11 8 0 (i_NewWorld a0).Seqs.length, .sref 11 9 0 (i_NewWorld a0).Lying.length, .d (.int .i64 (i_NewWorld a0).Next), .sref 11 11 0 (i_NewWorld a0).Forged.length]) rfl rfl rfl rfl rfl rfl rfl (l_markWorld_ok (i_NewWorld a0) 1) (by simp) (by simp) (by simp) (by simp) (by simp) (by simp) (by simp) (by simp) (by simp) ?_
    simp
    refine callRd rfl rfl rfl rfl (l_heldWorld_ok (l_markWorld (i_NewWorld a0) 1).1 1) (by simp) (by simp) (by simp) ?_
    simp
    refine condR (c := (decide ((l_heldWorld (l_markWorld (i_NewWorld a0) 1).1 1) < 0))) (by simp) (fun k2 h2 => ?_) (fun k2 h2 => ?_)
    · have q2 := h2; try simp at q2
      simp
      refine retRd (rv := [.tmp 2]) rfl ?_
      have f2 := l_FnExactNewWorld.eq_1 a0
      simp only [h1, h2, cond_true, cond_false] at f2
      simp [f2]
    · have q2 := h2; try simp at q2
      simp
      refine condR (c := ((l_heldWorld (l_markWorld (i_NewWorld a0) 1).1 1) != (l_markWorld (i_NewWorld a0) 1).2)) (by simp) (fun k3 h3 => ?_) (fun k3 h3 => ?_)
      · have q3 := h3; try simp at q3
        simp
        refine retRd (rv := [.tmp 2]) rfl ?_
        have f3 := l_FnExactNewWorld.eq_1 a0
        simp only [h1, h2, h3, cond_true, cond_false] at f3
        simp [f3]
      · have q3 := h3; try simp at q3
        simp
        refine callRd rfl rfl rfl rfl (SoundD.rd (i_NewWorld_ok a0)) (by simp) (by simp) (by simp) ?_
        simp
        refine callRd rfl rfl rfl rfl (l_eqWorld_ok (i_NewWorld a0) (s_NewWorld a0)) (by simp) (by simp) (by simp) ?_
        simp
        refine condR (c := (!(l_eqWorld (i_NewWorld a0) (s_NewWorld a0)))) (by simp) (fun k4 h4 => ?_) (fun k4 h4 => ?_)
        · have q4 := h4; try simp at q4
          exact absurd (h1.symm.trans h4) (by decide)
        · have q4 := h4; try simp at q4
          simp
          refine callRd rfl rfl rfl rfl (l_heldWorld_ok (l_markWorld (i_NewWorld a0) 1).1 1) (by simp) (by simp) (by simp) ?_
          simp
          refine condR (c := (decide ((l_heldWorld (l_markWorld (i_NewWorld a0) 1).1 1) < 0))) (by simp) (fun k5 h5 => ?_) (fun k5 h5 => ?_)
          · have q5 := h5; try simp at q5
            exact absurd (h2.symm.trans h5) (by decide)
          · have q5 := h5; try simp at q5
            simp
            refine condR (c := ((l_heldWorld (l_markWorld (i_NewWorld a0) 1).1 1) != (l_markWorld (i_NewWorld a0) 1).2)) (by simp) (fun k6 h6 => ?_) (fun k6 h6 => ?_)
            · have q6 := h6; try simp at q6
              exact absurd (h3.symm.trans h6) (by decide)
            · have q6 := h6; try simp at q6
              simp
              refine retRd (rv := [.tmp 2]) rfl ?_
              have f7 := l_FnExactNewWorld.eq_1 a0
              simp only [h1, h2, h3, h4, h5, h6, cond_true, cond_false] at f7
              simp [f7]
end Go.Proofs.Ytllfgbhplfhdkaa
