/- Contracts of the functions over the abstract machine, part 2. No condition. -/
import Derived.Test.YtllfgbhplfhdkaaC1
namespace Go.Proofs.Ytllfgbhplfhdkaa
open Go.Vm Go.Mo
set_option maxHeartbeats 1000000
set_option maxRecDepth 100000
set_option linter.unusedSimpArgs false
set_option linter.unusedVariables false
theorem l_FnExactItemsDue_ok (a0 : TFrame) (a1 : TArchive) (a2 : Int) (t0 : Sm maxLen a0) (t1 : Sm maxLen a1) : SoundAt Try.prog 3 false [a0.row, a1.row, [.int .i64 a2]] [[.bool (l_FnExactItemsDue a0 a1 a2)]] := by
  refine sound_of Try.func3 rfl (by kernel_rfl) ?_
  simp [Try.ntmps3]
  refine callRd rfl rfl rfl rfl (l_szFrame_ok a0 1048576) (by simp) (by simp) (by simp) ?_
  simp
  refine condR (c := (decide ((l_szFrame a0 1048576) < 0))) (by simp) (fun k1 h1 => ?_) (fun k1 h1 => ?_)
  · have q1 := h1; try simp at q1
    simp
    refine retRd (rv := [.tmp 6]) rfl ?_
    have f1 := l_FnExactItemsDue.eq_1 a0 a1 a2
    simp only [h1, cond_true, cond_false] at f1
    simp [f1]
  · have q1 := h1; try simp at q1
    obtain ⟨u0, y0⟩ := l_szFrame_sm a0 1048576 t0 (by omega) (by omega) (by simpa using h1)
    simp
    refine callRd rfl rfl rfl rfl (l_szArchive_ok a1 (l_szFrame a0 1048576)) (by simp) (by simp) (by simp) ?_
    simp
    refine condR (c := (decide ((l_szArchive a1 (l_szFrame a0 1048576)) < 0))) (by simp) (fun k2 h2 => ?_) (fun k2 h2 => ?_)
    · have q2 := h2; try simp at q2
      simp
      refine retRd (rv := [.tmp 6]) rfl ?_
      have f2 := l_FnExactItemsDue.eq_1 a0 a1 a2
      simp only [h1, h2, cond_true, cond_false] at f2
      simp [f2]
    · have q2 := h2; try simp at q2
      obtain ⟨u1, y1⟩ := l_szArchive_sm a1 (l_szFrame a0 1048576) t1 (by omega) (by omega) (by simpa using h2)
      simp
      refine okD fun k3 => ?_
      refine drawI mixed (by kernel_rfl) (by kernel_rfl) ?_
      simp
      refine callRd rfl rfl rfl rfl (SoundD.rd (l_toFrame_okI a0 (sm_mono (n := 1048576) (by decide) (by simp (maxDischargeDepth := 12) [u0, u1, l_toArchive_id, l_toAuthority_id, l_toAuthorityS_id, l_toDocument_id, l_toFrame_id, l_toIntS_id, l_toItem_id, l_toItemS_id, l_toKey_id, l_toKeyS_id, l_toMethod_id, l_toMethodS_id, l_toPiece_id, l_toPieceS_id, l_toRenewal_id, l_toRenewalS_id, l_toSignature_id, l_toStamp_id, l_toStampS_id, l_toStep_id, l_toStepS_id, l_toStrand_id, l_toStringS_id])))) (by simp) (by simp) (by simp) ?_
      simp
      refine callRd rfl rfl rfl rfl (SoundD.rd (l_toArchive_okI a1 (sm_mono (n := 1048576) (by decide) (by simp (maxDischargeDepth := 12) [u0, u1, l_toArchive_id, l_toAuthority_id, l_toAuthorityS_id, l_toDocument_id, l_toFrame_id, l_toIntS_id, l_toItem_id, l_toItemS_id, l_toKey_id, l_toKeyS_id, l_toMethod_id, l_toMethodS_id, l_toPiece_id, l_toPieceS_id, l_toRenewal_id, l_toRenewalS_id, l_toSignature_id, l_toStamp_id, l_toStampS_id, l_toStep_id, l_toStepS_id, l_toStrand_id, l_toStringS_id])))) (by simp) (by simp) (by simp) ?_
      simp
      refine callRd rfl rfl rfl rfl (SoundD.rd (s_ItemsDue_ok a0 a1 a2 (sm_mono (n := 1048576) (by decide) (by simp (maxDischargeDepth := 12) [u0, u1, l_toArchive_id, l_toAuthority_id, l_toAuthorityS_id, l_toDocument_id, l_toFrame_id, l_toIntS_id, l_toItem_id, l_toItemS_id, l_toKey_id, l_toKeyS_id, l_toMethod_id, l_toMethodS_id, l_toPiece_id, l_toPieceS_id, l_toRenewal_id, l_toRenewalS_id, l_toSignature_id, l_toStamp_id, l_toStampS_id, l_toStep_id, l_toStepS_id, l_toStrand_id, l_toStringS_id])) (sm_mono (n := 1048576) (by decide) (by simp (maxDischargeDepth := 12) [u0, u1, l_toArchive_id, l_toAuthority_id, l_toAuthorityS_id, l_toDocument_id, l_toFrame_id, l_toIntS_id, l_toItem_id, l_toItemS_id, l_toKey_id, l_toKeyS_id, l_toMethod_id, l_toMethodS_id, l_toPiece_id, l_toPieceS_id, l_toRenewal_id, l_toRenewalS_id, l_toSignature_id, l_toStamp_id, l_toStampS_id, l_toStep_id, l_toStepS_id, l_toStrand_id, l_toStringS_id])))) (by simp) (by simp) (by simp) ?_
      simp
      refine callD [] rfl rfl rfl rfl (l_toFrame_okI a0 (sm_mono (n := 1048576) (by decide) (by simp (maxDischargeDepth := 12) [u0, u1, l_toArchive_id, l_toAuthority_id, l_toAuthorityS_id, l_toDocument_id, l_toFrame_id, l_toIntS_id, l_toItem_id, l_toItemS_id, l_toKey_id, l_toKeyS_id, l_toMethod_id, l_toMethodS_id, l_toPiece_id, l_toPieceS_id, l_toRenewal_id, l_toRenewalS_id, l_toSignature_id, l_toStamp_id, l_toStampS_id, l_toStep_id, l_toStepS_id, l_toStrand_id, l_toStringS_id]))) (by simp) (by simp) (by simp) (by simp) ?_
      simp
      refine callD [] rfl rfl rfl rfl (l_toArchive_okI a1 (sm_mono (n := 1048576) (by decide) (by simp (maxDischargeDepth := 12) [u0, u1, l_toArchive_id, l_toAuthority_id, l_toAuthorityS_id, l_toDocument_id, l_toFrame_id, l_toIntS_id, l_toItem_id, l_toItemS_id, l_toKey_id, l_toKeyS_id, l_toMethod_id, l_toMethodS_id, l_toPiece_id, l_toPieceS_id, l_toRenewal_id, l_toRenewalS_id, l_toSignature_id, l_toStamp_id, l_toStampS_id, l_toStep_id, l_toStepS_id, l_toStrand_id, l_toStringS_id]))) (by simp) (by simp) (by simp) (by simp) ?_
      simp
      refine callD [] rfl rfl rfl rfl (i_ItemsDue_ok a0 a1 a2 (sm_mono (n := 1048576) (by decide) (by simp (maxDischargeDepth := 12) [u0, u1, l_toArchive_id, l_toAuthority_id, l_toAuthorityS_id, l_toDocument_id, l_toFrame_id, l_toIntS_id, l_toItem_id, l_toItemS_id, l_toKey_id, l_toKeyS_id, l_toMethod_id, l_toMethodS_id, l_toPiece_id, l_toPieceS_id, l_toRenewal_id, l_toRenewalS_id, l_toSignature_id, l_toStamp_id, l_toStampS_id, l_toStep_id, l_toStepS_id, l_toStrand_id, l_toStringS_id])) (sm_mono (n := 1048576) (by decide) (by simp (maxDischargeDepth := 12) [u0, u1, l_toArchive_id, l_toAuthority_id, l_toAuthorityS_id, l_toDocument_id, l_toFrame_id, l_toIntS_id, l_toItem_id, l_toItemS_id, l_toKey_id, l_toKeyS_id, l_toMethod_id, l_toMethodS_id, l_toPiece_id, l_toPieceS_id, l_toRenewal_id, l_toRenewalS_id, l_toSignature_id, l_toStamp_id, l_toStampS_id, l_toStep_id, l_toStepS_id, l_toStrand_id, l_toStringS_id]))) (by simp) (by simp) (by simp) (by simp) ?_
      simp
      refine callRd rfl rfl rfl rfl (l_eqIntS_ok (i_ItemsDue a0 a1 a2) (s_ItemsDue a0 a1 a2)) (by simp) (by simp) (by simp) ?_
      simp
      refine condR (c := (!(l_eqIntS (i_ItemsDue a0 a1 a2) (s_ItemsDue a0 a1 a2)))) (by simp) (fun k4 h3 => ?_) (fun k4 h3 => ?_)
      · have q3 := h3; try simp at q3
        simp
        refine retRd (rv := [.tmp 6]) rfl ?_
        have f3 := l_FnExactItemsDue.eq_1 a0 a1 a2
        simp only [h1, h2, h3, cond_true, cond_false] at f3
        simp [f3]
      · have q3 := h3; try simp at q3
        simp
        refine okD fun k5 => ?_
        refine drawI mixed (by kernel_rfl) (by kernel_rfl) ?_
        simp
        refine callRd rfl rfl rfl rfl (SoundD.rd (l_toFrame_okI a0 (sm_mono (n := 1048576) (by decide) (by simp (maxDischargeDepth := 12) [u0, u1, l_toArchive_id, l_toAuthority_id, l_toAuthorityS_id, l_toDocument_id, l_toFrame_id, l_toIntS_id, l_toItem_id, l_toItemS_id, l_toKey_id, l_toKeyS_id, l_toMethod_id, l_toMethodS_id, l_toPiece_id, l_toPieceS_id, l_toRenewal_id, l_toRenewalS_id, l_toSignature_id, l_toStamp_id, l_toStampS_id, l_toStep_id, l_toStepS_id, l_toStrand_id, l_toStringS_id])))) (by simp) (by simp) (by simp) ?_
        simp
        refine callRd rfl rfl rfl rfl (l_eqFrame_ok a0 a0) (by simp) (by simp) (by simp) ?_
        simp
        refine condR (c := (!(l_eqFrame a0 a0))) (by simp) (fun k6 h4 => ?_) (fun k6 h4 => ?_)
        · have q4 := h4; try simp at q4
          simp
          refine retRd (rv := [.tmp 6]) rfl ?_
          have f4 := l_FnExactItemsDue.eq_1 a0 a1 a2
          simp only [h1, h2, h3, h4, cond_true, cond_false] at f4
          simp [f4]
        · have q4 := h4; try simp at q4
          simp
          refine okD fun k7 => ?_
          refine drawI mixed (by kernel_rfl) (by kernel_rfl) ?_
          simp
          refine callRd rfl rfl rfl rfl (SoundD.rd (l_toArchive_okI a1 (sm_mono (n := 1048576) (by decide) (by simp (maxDischargeDepth := 12) [u0, u1, l_toArchive_id, l_toAuthority_id, l_toAuthorityS_id, l_toDocument_id, l_toFrame_id, l_toIntS_id, l_toItem_id, l_toItemS_id, l_toKey_id, l_toKeyS_id, l_toMethod_id, l_toMethodS_id, l_toPiece_id, l_toPieceS_id, l_toRenewal_id, l_toRenewalS_id, l_toSignature_id, l_toStamp_id, l_toStampS_id, l_toStep_id, l_toStepS_id, l_toStrand_id, l_toStringS_id])))) (by simp) (by simp) (by simp) ?_
          simp
          refine callRd rfl rfl rfl rfl (l_eqArchive_ok a1 a1) (by simp) (by simp) (by simp) ?_
          simp
          refine condR (c := (!(l_eqArchive a1 a1))) (by simp) (fun k8 h5 => ?_) (fun k8 h5 => ?_)
          · have q5 := h5; try simp at q5
            simp
            refine retRd (rv := [.tmp 6]) rfl ?_
            have f5 := l_FnExactItemsDue.eq_1 a0 a1 a2
            simp only [h1, h2, h3, h4, h5, cond_true, cond_false] at f5
            simp [f5]
          · have q5 := h5; try simp at q5
            simp
            refine callMO (ats := [.sref 33 0 0 a0.Keys.length, .sref 33 1 0 a0.Authorities.length, .sref 33 2 0 a0.Methods.length, .d (.int .i64 a0.Liars), .d (.int .i64 a0.Now)]) rfl rfl rfl rfl rfl rfl rfl (l_markFrame_ok a0 1) (by simp) (by simp) (by simp) (by simp) (by simp) (by simp) (by simp) (by simp) (by simp) ?_
            simp
            refine callMO (ats := [.d (.int .i64 a1.Id), .sref 35 1 0 a1.Items.length]) rfl rfl rfl rfl rfl rfl rfl (l_markArchive_ok a1 (l_markFrame a0 1).2) (by simp) (by simp) (by simp) (by simp) (by simp) (by simp) (by simp) (by simp) (by simp) ?_
            simp
            refine callG rfl rfl rfl rfl rfl rfl (fun gg => (l_eqIntS_ok (i_ItemsDue a0 a1 a2) (s_ItemsDue a0 a1 a2))) (by simp) (by simp) (by simp) (by simp) ?_
            simp
            refine condR (c := ((decide ((l_markArchive a1 (l_markFrame a0 1).2).2 < 0)) || (!(l_eqIntS (i_ItemsDue a0 a1 a2) (s_ItemsDue a0 a1 a2))))) (by simp) (fun k9 h6 => ?_) (fun k9 h6 => ?_)
            · have q6 := h6; try simp at q6
              have h6s := h6; try simp only [h3] at h6s
              simp
              refine retRd (rv := [.tmp 6]) rfl ?_
              have f6 := l_FnExactItemsDue.eq_1 a0 a1 a2
              simp only [h1, h2, h3, h4, h5, h6, h6s, cond_true, cond_false] at f6
              simp [f6]
            · have q6 := h6; try simp at q6
              have h6s := h6; try simp only [h3] at h6s
              simp
              refine callMO (ats := [.sref 39 0 0 (i_ItemsDue a0 a1 a2).length]) rfl rfl rfl rfl rfl rfl rfl (l_markIntS_ok (i_ItemsDue a0 a1 a2) 1) (by simp) (by simp) (by simp) (by simp) (by simp) (by simp) (by simp) (by simp) (by simp) ?_
              simp
              refine callRd rfl rfl rfl rfl (l_heldIntS_ok (l_markIntS (i_ItemsDue a0 a1 a2) 1).1 1) (by simp) (by simp) (by simp) ?_
              simp
              refine condR (c := (decide ((l_heldIntS (l_markIntS (i_ItemsDue a0 a1 a2) 1).1 1) < 0))) (by simp) (fun k10 h7 => ?_) (fun k10 h7 => ?_)
              · have q7 := h7; try simp at q7
                simp
                refine retRd (rv := [.tmp 6]) rfl ?_
                have f7 := l_FnExactItemsDue.eq_1 a0 a1 a2
                simp only [h1, h2, h3, h4, h5, h6, h6s, h7, cond_true, cond_false] at f7
                simp [f7]
              · have q7 := h7; try simp at q7
                simp
                refine condR (c := ((l_heldIntS (l_markIntS (i_ItemsDue a0 a1 a2) 1).1 1) != (l_markIntS (i_ItemsDue a0 a1 a2) 1).2)) (by simp) (fun k11 h8 => ?_) (fun k11 h8 => ?_)
                · have q8 := h8; try simp at q8
                  simp
                  refine retRd (rv := [.tmp 6]) rfl ?_
                  have f8 := l_FnExactItemsDue.eq_1 a0 a1 a2
                  simp only [h1, h2, h3, h4, h5, h6, h6s, h7, h8, cond_true, cond_false] at f8
                  simp [f8]
                · have q8 := h8; try simp at q8
                  simp
                  refine okD fun k12 => ?_
                  refine drawI mixed (by kernel_rfl) (by kernel_rfl) ?_
                  simp
                  refine callRd rfl rfl rfl rfl (SoundD.rd (l_toFrame_okI a0 (sm_mono (n := 1048576) (by decide) (by simp (maxDischargeDepth := 12) [u0, u1, l_toArchive_id, l_toAuthority_id, l_toAuthorityS_id, l_toDocument_id, l_toFrame_id, l_toIntS_id, l_toItem_id, l_toItemS_id, l_toKey_id, l_toKeyS_id, l_toMethod_id, l_toMethodS_id, l_toPiece_id, l_toPieceS_id, l_toRenewal_id, l_toRenewalS_id, l_toSignature_id, l_toStamp_id, l_toStampS_id, l_toStep_id, l_toStepS_id, l_toStrand_id, l_toStringS_id])))) (by simp) (by simp) (by simp) ?_
                  simp
                  refine callRd rfl rfl rfl rfl (SoundD.rd (l_toArchive_okI a1 (sm_mono (n := 1048576) (by decide) (by simp (maxDischargeDepth := 12) [u0, u1, l_toArchive_id, l_toAuthority_id, l_toAuthorityS_id, l_toDocument_id, l_toFrame_id, l_toIntS_id, l_toItem_id, l_toItemS_id, l_toKey_id, l_toKeyS_id, l_toMethod_id, l_toMethodS_id, l_toPiece_id, l_toPieceS_id, l_toRenewal_id, l_toRenewalS_id, l_toSignature_id, l_toStamp_id, l_toStampS_id, l_toStep_id, l_toStepS_id, l_toStrand_id, l_toStringS_id])))) (by simp) (by simp) (by simp) ?_
                  simp
                  refine callRd rfl rfl rfl rfl (SoundD.rd (i_ItemsDue_ok a0 a1 a2 (sm_mono (n := 1048576) (by decide) (by simp (maxDischargeDepth := 12) [u0, u1, l_toArchive_id, l_toAuthority_id, l_toAuthorityS_id, l_toDocument_id, l_toFrame_id, l_toIntS_id, l_toItem_id, l_toItemS_id, l_toKey_id, l_toKeyS_id, l_toMethod_id, l_toMethodS_id, l_toPiece_id, l_toPieceS_id, l_toRenewal_id, l_toRenewalS_id, l_toSignature_id, l_toStamp_id, l_toStampS_id, l_toStep_id, l_toStepS_id, l_toStrand_id, l_toStringS_id])) (sm_mono (n := 1048576) (by decide) (by simp (maxDischargeDepth := 12) [u0, u1, l_toArchive_id, l_toAuthority_id, l_toAuthorityS_id, l_toDocument_id, l_toFrame_id, l_toIntS_id, l_toItem_id, l_toItemS_id, l_toKey_id, l_toKeyS_id, l_toMethod_id, l_toMethodS_id, l_toPiece_id, l_toPieceS_id, l_toRenewal_id, l_toRenewalS_id, l_toSignature_id, l_toStamp_id, l_toStampS_id, l_toStep_id, l_toStepS_id, l_toStrand_id, l_toStringS_id])))) (by simp) (by simp) (by simp) ?_
                  simp
                  refine callRd rfl rfl rfl rfl (l_eqIntS_ok (i_ItemsDue a0 a1 a2) (s_ItemsDue a0 a1 a2)) (by simp) (by simp) (by simp) ?_
                  simp
                  refine condR (c := (!(l_eqIntS (i_ItemsDue a0 a1 a2) (s_ItemsDue a0 a1 a2)))) (by simp) (fun k13 h9 => ?_) (fun k13 h9 => ?_)
                  · have q9 := h9; try simp at q9
                    exact absurd (h3.symm.trans h9) (by decide)
                  · have q9 := h9; try simp at q9
                    simp
                    refine callRd rfl rfl rfl rfl (l_heldIntS_ok (l_markIntS (i_ItemsDue a0 a1 a2) 1).1 1) (by simp) (by simp) (by simp) ?_
                    simp
                    refine condR (c := (decide ((l_heldIntS (l_markIntS (i_ItemsDue a0 a1 a2) 1).1 1) < 0))) (by simp) (fun k14 h10 => ?_) (fun k14 h10 => ?_)
                    · have q10 := h10; try simp at q10
                      exact absurd (h7.symm.trans h10) (by decide)
                    · have q10 := h10; try simp at q10
                      simp
                      refine condR (c := ((l_heldIntS (l_markIntS (i_ItemsDue a0 a1 a2) 1).1 1) != (l_markIntS (i_ItemsDue a0 a1 a2) 1).2)) (by simp) (fun k15 h11 => ?_) (fun k15 h11 => ?_)
                      · have q11 := h11; try simp at q11
                        exact absurd (h8.symm.trans h11) (by decide)
                      · have q11 := h11; try simp at q11
                        simp
                        refine retRd (rv := [.tmp 6]) rfl ?_
                        have f12 := l_FnExactItemsDue.eq_1 a0 a1 a2
                        simp only [h1, h2, h3, h4, h5, h6, h6s, h7, h8, h9, h10, h11, cond_true, cond_false] at f12
                        simp [f12]
end Go.Proofs.Ytllfgbhplfhdkaa
