/- Contracts of the functions over the abstract machine, part 2. No condition. -/
import Derived.Test.YtdbglcndfmdlfaaGreatC1
namespace Go.Proofs.YtdbglcndfmdlfaaGreat
open Go.Vm Go.Mo
set_option maxHeartbeats 1000000
set_option maxRecDepth 100000
set_option linter.unusedSimpArgs false
set_option linter.unusedVariables false
theorem l_FnExactAllStamps_ok (a0 : TWorld) (t0 : Sm maxLen a0) : SoundAt Tryz.prog 3 false [a0.row] [[.bool (l_FnExactAllStamps a0)]] := by
 refine sound_of Tryz.func3 rfl (by kernel_rfl) ?_
 simp [Tryz.ntmps3]
 refine cR (l_szWorld_ok a0 1048576) ?_
 simp
 refine cC (decide ((l_szWorld a0 1048576) < 0)) (fun k1 h1 => ?_) (fun k1 h1 => ?_)
 ·have q1 := h1; try simp at q1
  simp
  refine retRd (rv := [.tmp 2]) rfl ?_
  have f1 := l_FnExactAllStamps.eq_1 a0; simp only [h1, cond_t, cond_f] at f1; simp [f1]
 ·have q1 := h1; try simp at q1
  obtain ⟨u0, y0⟩ := l_szWorld_sm a0 1048576 t0 (by omega) (by omega) (by simpa using h1)
  simp
  refine cR (SoundD.rd (l_toWorld_okI a0 (sm_mono (n := 1048576) (by decide) (by simp (maxDischargeDepth := 12) [u0, l_toArchive_id, l_toArchiveS_id, l_toAuthority_id, l_toAuthorityS_id, l_toCert_id, l_toCertS_id, l_toDocument_id, l_toFrame_id, l_toIntS_id, l_toItem_id, l_toItemS_id, l_toKey_id, l_toKeyS_id, l_toMethod_id, l_toMethodS_id, l_toPiece_id, l_toPieceS_id, l_toRenewal_id, l_toRenewalS_id, l_toSignature_id, l_toStamp_id, l_toStampS_id, l_toStep_id, l_toStepS_id, l_toStrand_id, l_toStringS_id, l_toWorld_id])))) ?_
  simp
  refine cR (SoundD.rd (s_AllStamps_ok a0 (sm_mono (n := 1048576) (by decide) (by simp (maxDischargeDepth := 12) [u0, l_toArchive_id, l_toArchiveS_id, l_toAuthority_id, l_toAuthorityS_id, l_toCert_id, l_toCertS_id, l_toDocument_id, l_toFrame_id, l_toIntS_id, l_toItem_id, l_toItemS_id, l_toKey_id, l_toKeyS_id, l_toMethod_id, l_toMethodS_id, l_toPiece_id, l_toPieceS_id, l_toRenewal_id, l_toRenewalS_id, l_toSignature_id, l_toStamp_id, l_toStampS_id, l_toStep_id, l_toStepS_id, l_toStrand_id, l_toStringS_id, l_toWorld_id])) (by (have z2 : ¬ l_szWorld a0 1048576 < 0 := (by simpa using h1); first | exact l_szWorld_itn t0 (by omega) (by omega) z2 | (have z := (l_szWorld_cz a0 1048576 t0 (by omega) (by omega) z2).1; omega))) (by (have z2 : ¬ l_szWorld a0 1048576 < 0 := (by simpa using h1); first | exact l_szWorld_itn t0 (by omega) (by omega) z2 | (have z := (l_szWorld_cz a0 1048576 t0 (by omega) (by omega) z2).1; omega))))) ?_
  simp
  refine cD [] (l_toWorld_okI a0 (sm_mono (n := 1048576) (by decide) (by simp (maxDischargeDepth := 12) [u0, l_toArchive_id, l_toArchiveS_id, l_toAuthority_id, l_toAuthorityS_id, l_toCert_id, l_toCertS_id, l_toDocument_id, l_toFrame_id, l_toIntS_id, l_toItem_id, l_toItemS_id, l_toKey_id, l_toKeyS_id, l_toMethod_id, l_toMethodS_id, l_toPiece_id, l_toPieceS_id, l_toRenewal_id, l_toRenewalS_id, l_toSignature_id, l_toStamp_id, l_toStampS_id, l_toStep_id, l_toStepS_id, l_toStrand_id, l_toStringS_id, l_toWorld_id]))) ?_
  simp
  refine cD [] (i_AllStamps_ok a0 (sm_mono (n := 1048576) (by decide) (by simp (maxDischargeDepth := 12) [u0, l_toArchive_id, l_toArchiveS_id, l_toAuthority_id, l_toAuthorityS_id, l_toCert_id, l_toCertS_id, l_toDocument_id, l_toFrame_id, l_toIntS_id, l_toItem_id, l_toItemS_id, l_toKey_id, l_toKeyS_id, l_toMethod_id, l_toMethodS_id, l_toPiece_id, l_toPieceS_id, l_toRenewal_id, l_toRenewalS_id, l_toSignature_id, l_toStamp_id, l_toStampS_id, l_toStep_id, l_toStepS_id, l_toStrand_id, l_toStringS_id, l_toWorld_id])) (by (have z2 : ¬ l_szWorld a0 1048576 < 0 := (by simpa using h1); first | exact l_szWorld_itn t0 (by omega) (by omega) z2 | (have z := (l_szWorld_cz a0 1048576 t0 (by omega) (by omega) z2).1; omega))) (by (have z2 : ¬ l_szWorld a0 1048576 < 0 := (by simpa using h1); first | exact l_szWorld_itn t0 (by omega) (by omega) z2 | (have z := (l_szWorld_cz a0 1048576 t0 (by omega) (by omega) z2).1; omega)))) ?_
  simp
  refine cR (l_eqStampS_ok (i_AllStamps a0) (s_AllStamps a0)) ?_
  simp
  refine cC (!(l_eqStampS (i_AllStamps a0) (s_AllStamps a0))) (fun k2 h2 => ?_) (fun k2 h2 => ?_)
  ·have q2 := h2; try simp at q2
   simp
   refine retRd (rv := [.tmp 2]) rfl ?_
   have f2 := l_FnExactAllStamps.eq_1 a0; simp only [h1, h2, cond_t, cond_f] at f2; simp [f2]
  ·have q2 := h2; try simp at q2
   simp
   refine okD fun k3 => ?_
   refine drawI mixed (by kernel_rfl) (by kernel_rfl) ?_
   simp
   refine cR (SoundD.rd (l_toWorld_okI a0 (sm_mono (n := 1048576) (by decide) (by simp (maxDischargeDepth := 12) [u0, l_toArchive_id, l_toArchiveS_id, l_toAuthority_id, l_toAuthorityS_id, l_toCert_id, l_toCertS_id, l_toDocument_id, l_toFrame_id, l_toIntS_id, l_toItem_id, l_toItemS_id, l_toKey_id, l_toKeyS_id, l_toMethod_id, l_toMethodS_id, l_toPiece_id, l_toPieceS_id, l_toRenewal_id, l_toRenewalS_id, l_toSignature_id, l_toStamp_id, l_toStampS_id, l_toStep_id, l_toStepS_id, l_toStrand_id, l_toStringS_id, l_toWorld_id])))) ?_
   simp
   refine cR (l_eqWorld_ok a0 a0) ?_
   simp
   refine cC (!(l_eqWorld a0 a0)) (fun k4 h3 => ?_) (fun k4 h3 => ?_)
   ·have q3 := h3; try simp at q3
    simp
    refine retRd (rv := [.tmp 2]) rfl ?_
    have f3 := l_FnExactAllStamps.eq_1 a0; simp only [h1, h2, h3, cond_t, cond_f] at f3; simp [f3]
   ·have q3 := h3; try simp at q3
    simp
    refine callMO (ats := [.sref 20 0 0 a0.Frame.Keys.length, .sref 20 1 0 a0.Frame.Authorities.length, .sref 20 2 0 a0.Frame.Methods.length, .d (.int .i64 a0.Frame.Liars), .d (.int .i64 a0.Frame.Now), .sref 20 5 0 a0.Certs.length, .sref 20 6 0 a0.Ended.length, .sref 20 7 0 a0.Archives.length, .sref 20 8 0 a0.Seqs.length, .sref 20 9 0 a0.Lying.length, .d (.int .i64 a0.Next), .sref 20 11 0 a0.Forged.length]) rfl rfl rfl rfl rfl rfl rfl (l_markWorld_ok a0 1) (by simp) (by simp) (by simp) (by simp) (by simp) (by simp) (by simp) (by simp) (by simp) ?_
    simp
    refine cG (fun gg => (l_eqStampS_ok (i_AllStamps a0) (s_AllStamps a0))) ?_
    simp
    refine cC ((decide ((l_markWorld a0 1).2 < 0)) || (!(l_eqStampS (i_AllStamps a0) (s_AllStamps a0)))) (fun k5 h4 => ?_) (fun k5 h4 => ?_)
    ·have q4 := h4; try simp at q4
     have h4s := h4; try simp only [h2] at h4s
     simp
     refine retRd (rv := [.tmp 2]) rfl ?_
     have f4 := l_FnExactAllStamps.eq_1 a0; simp only [h1, h2, h3, h4, h4s, cond_t, cond_f] at f4; simp [f4]
    ·have q4 := h4; try simp at q4
     have h4s := h4; try simp only [h2] at h4s
     simp
     refine callMO (ats := [.sref 22 0 0 (i_AllStamps a0).length]) rfl rfl rfl rfl rfl rfl rfl (l_markStampS_ok (i_AllStamps a0) 1) (by simp) (by simp) (by simp) (by simp) (by simp) (by simp) (by simp) (by simp) (by simp) ?_
     simp
     refine cR (l_heldStampS_ok (l_markStampS (i_AllStamps a0) 1).1 1) ?_
     simp
     refine cC (decide ((l_heldStampS (l_markStampS (i_AllStamps a0) 1).1 1) < 0)) (fun k6 h5 => ?_) (fun k6 h5 => ?_)
     ·have q5 := h5; try simp at q5
      simp
      refine retRd (rv := [.tmp 2]) rfl ?_
      have f5 := l_FnExactAllStamps.eq_1 a0; simp only [h1, h2, h3, h4, h4s, h5, cond_t, cond_f] at f5; simp [f5]
     ·have q5 := h5; try simp at q5
      simp
      refine cC ((l_heldStampS (l_markStampS (i_AllStamps a0) 1).1 1) != (l_markStampS (i_AllStamps a0) 1).2) (fun k7 h6 => ?_) (fun k7 h6 => ?_)
      ·have q6 := h6; try simp at q6
       simp
       refine retRd (rv := [.tmp 2]) rfl ?_
       have f6 := l_FnExactAllStamps.eq_1 a0; simp only [h1, h2, h3, h4, h4s, h5, h6, cond_t, cond_f] at f6; simp [f6]
      ·have q6 := h6; try simp at q6
       simp
       refine cR (SoundD.rd (l_toWorld_okI a0 (sm_mono (n := 1048576) (by decide) (by simp (maxDischargeDepth := 12) [u0, l_toArchive_id, l_toArchiveS_id, l_toAuthority_id, l_toAuthorityS_id, l_toCert_id, l_toCertS_id, l_toDocument_id, l_toFrame_id, l_toIntS_id, l_toItem_id, l_toItemS_id, l_toKey_id, l_toKeyS_id, l_toMethod_id, l_toMethodS_id, l_toPiece_id, l_toPieceS_id, l_toRenewal_id, l_toRenewalS_id, l_toSignature_id, l_toStamp_id, l_toStampS_id, l_toStep_id, l_toStepS_id, l_toStrand_id, l_toStringS_id, l_toWorld_id])))) ?_
       simp
       refine cR (SoundD.rd (i_AllStamps_ok a0 (sm_mono (n := 1048576) (by decide) (by simp (maxDischargeDepth := 12) [u0, l_toArchive_id, l_toArchiveS_id, l_toAuthority_id, l_toAuthorityS_id, l_toCert_id, l_toCertS_id, l_toDocument_id, l_toFrame_id, l_toIntS_id, l_toItem_id, l_toItemS_id, l_toKey_id, l_toKeyS_id, l_toMethod_id, l_toMethodS_id, l_toPiece_id, l_toPieceS_id, l_toRenewal_id, l_toRenewalS_id, l_toSignature_id, l_toStamp_id, l_toStampS_id, l_toStep_id, l_toStepS_id, l_toStrand_id, l_toStringS_id, l_toWorld_id])) (by (have z2 : ¬ l_szWorld a0 1048576 < 0 := (by simpa using h1); first | exact l_szWorld_itn t0 (by omega) (by omega) z2 | (have z := (l_szWorld_cz a0 1048576 t0 (by omega) (by omega) z2).1; omega))) (by (have z2 : ¬ l_szWorld a0 1048576 < 0 := (by simpa using h1); first | exact l_szWorld_itn t0 (by omega) (by omega) z2 | (have z := (l_szWorld_cz a0 1048576 t0 (by omega) (by omega) z2).1; omega))))) ?_
       simp
       refine cR (l_eqStampS_ok (i_AllStamps a0) (s_AllStamps a0)) ?_
       simp
       refine cC (!(l_eqStampS (i_AllStamps a0) (s_AllStamps a0))) (fun k8 h7 => ?_) (fun k8 h7 => ?_)
       ·have q7 := h7; try simp at q7
        exact absurd (h2.symm.trans h7) (by decide)
       ·have q7 := h7; try simp at q7
        simp
        refine cR (l_heldStampS_ok (l_markStampS (i_AllStamps a0) 1).1 1) ?_
        simp
        refine cC (decide ((l_heldStampS (l_markStampS (i_AllStamps a0) 1).1 1) < 0)) (fun k9 h8 => ?_) (fun k9 h8 => ?_)
        ·have q8 := h8; try simp at q8
         exact absurd (h5.symm.trans h8) (by decide)
        ·have q8 := h8; try simp at q8
         simp
         refine cC ((l_heldStampS (l_markStampS (i_AllStamps a0) 1).1 1) != (l_markStampS (i_AllStamps a0) 1).2) (fun k10 h9 => ?_) (fun k10 h9 => ?_)
         ·have q9 := h9; try simp at q9
          exact absurd (h6.symm.trans h9) (by decide)
         ·have q9 := h9; try simp at q9
          simp
          refine retRd (rv := [.tmp 2]) rfl ?_
          have f10 := l_FnExactAllStamps.eq_1 a0; simp only [h1, h2, h3, h4, h4s, h5, h6, h7, h8, h9, cond_t, cond_f] at f10; simp [f10]
end Go.Proofs.YtdbglcndfmdlfaaGreat
