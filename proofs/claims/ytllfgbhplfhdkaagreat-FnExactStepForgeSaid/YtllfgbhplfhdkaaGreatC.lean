/- Contracts of the functions over the abstract machine, part 2. No condition. -/
import Derived.Test.YtllfgbhplfhdkaaGreatC1
namespace Go.Proofs.YtllfgbhplfhdkaaGreat
open Go.Vm Go.Mo
set_option maxHeartbeats 1000000
set_option maxRecDepth 100000
set_option linter.unusedSimpArgs false
set_option linter.unusedVariables false
theorem i_signInto_ok (a0 : TWorld) (a1 : Int) (a2 : Int) (a3 : TDocument) (a4 : Int) (a5 : Int) (u0 : Sm 2314240 a0) (u1 : Sm 2314240 a3) : SoundAt Tryz.prog 88 false [a0.row, [.int .i64 a1], [.int .i64 a2], a3.row, [.int .i64 a4], [.int .i64 a5]] [(i_signInto a0 a1 a2 a3 a4 a5).1.row, [.bool (i_signInto a0 a1 a2 a3 a4 a5).2]] := by
 refine sound_of Tryz.func88 rfl (by kernel_rfl) ?_
 simp [Tryz.ntmps88]
 refine cR (i_BestMethod_ok a0.Frame.Methods a0.Frame.Now) ?_
 simp
 refine cR (i_isArchiveOf_ok a0 a1) ?_
 simp
 refine cG (fun gg => (i_FindKey_ok a0.Frame.Keys a2)) ?_
 simp
 have c1 : a0.Archives.length ≤ 2314240 := sm_len (by simp (maxDischargeDepth := 12) [u0, u1])
 have w1 : IntKind.i64.wrap ((a0.Archives.length : Int) - 1) = (a0.Archives.length : Int) - 1 := wrap_of (by omega) (by omega)
 refine cC (((!(i_isArchiveOf a0 a1)) || (decide ((i_FindKey a0.Frame.Keys a2) < 0))) || (decide ((i_BestMethod a0.Frame.Methods a0.Frame.Now) < 0))) (fun k1 h1 => ?_) (fun k1 h1 => ?_)
 ·have q1 := h1; try simp [w1, i_isArchiveOf, i_InRange] at q1
  simp
  refine retRd (rv := [.cell 12 42, .tmp 13]) rfl ?_
  have f1 := i_signInto.eq_1 a0 a1 a2 a3 a4 a5; simp only [h1, cond_t, cond_f] at f1; simp [f1]
 ·have q1 := h1; try simp [w1, i_isArchiveOf, i_InRange] at q1
  simp
  refine okL fun k2 => ?_
  refine loopI (ι := { s : Nat × Nat // i_signInto_1 a0 a1 a2 a3 a4 a5 s.1 s.2 = i_signInto_1 a0 a1 a2 a3 a4 a5 (a0.Certs.length + 1) 0 ∧ (1 ≤ s.1 ∧ a0.Certs.length < s.1 + s.2 ∧ s.2 ≤ a0.Certs.length) }) (fun s => stOf 116 [eI 1 a1, eI 2 a2, eI 4 a4, eI 5 a5, eX 6 (a0.row.map .d), eX 9 (a3.row.map .d), (12, .one (.bptr 12 0), [.box [.nil 5, .nil 3, .nil 4, .d (.int .i64 0), .d (.int .i64 0), .nil 7, .nil 1, .nil 2, .nil 1, .nil 1, .d (.int .i64 0), .nil 1]]), eX 14 (a0.Frame.row.map .d), eI 15 (i_BestMethod a0.Frame.Methods a0.Frame.Now), eL 48 7 a0.Certs TCert.row, eI 49 (↑a0.Certs.length : Int), eI 50 (↑s.1.2 : Int)]) (fun s => s.1.1) ⟨((a0.Certs.length + 1), 0), rfl, by first | omega | (dsimp only; omega) | simp⟩ (wk_keep (by simp)) ?_
  rintro ⟨⟨n1, v1_0⟩, e1, j1⟩
  try dsimp only at e1 j1
  obtain ⟨p1, rfl⟩ : ∃ p, n1 = p + 1 := ⟨n1 - 1, by omega⟩
  simp
  refine cC (decide ((↑v1_0 : Int) < (↑a0.Certs.length : Int))) (fun k3 h2 => ?_) (fun k3 h2 => ?_)
  ·have q2 := h2; try simp at q2
   have i1 : v1_0 < a0.Certs.length := by simpa using h2
   have m2 : a0.Certs.length ≤ 9223372036854775807 := by simpa using k3 48 _ rfl
   have c2 : a0.Certs.length ≤ 2314240 := sm_len (by simp (maxDischargeDepth := 12) [u0, u1])
   have w2 : IntKind.i64.wrap ((v1_0 : Int) + 1) = (v1_0 : Int) + 1 := wrap_of (by omega) (by omega)
   simp [i1, rowAt_map]
   repeat with_reducible refine sd ?_
   refine cC ((nth a0.Certs v1_0).Key != a2) (fun k4 h3 => ?_) (fun k4 h3 => ?_)
   ·have q3 := h3; try simp at q3
    simp
    refine nxtI ⟨(p1, (v1_0 + 1)), ?_, ?_⟩ (by simp) (wk_keep (by simp [w1, w2]))
    · rw [← e1]; simp only [i_signInto_1, h2, h3, cond_t, cond_f]
    · first | omega | (simp at *; omega)
   ·have q3 := h3; try simp at q3
    simp
    refine okD fun k5 => ?_
    refine drawI mixed (by kernel_rfl) (by kernel_rfl) ?_
    simp
    refine cR (i_DocDigest_ok (i_BestMethod a0.Frame.Methods a0.Frame.Now) a3 (sg u1)) ?_
    simp
    refine cR (i_SignDigest_ok a0.Frame.Keys (TSignature.mk a2 (nth a0.Certs v1_0).Serial (i_BestMethod a0.Frame.Methods a0.Frame.Now) (i_DocDigest (i_BestMethod a0.Frame.Methods a0.Frame.Now) a3) 1 a4 0 0 0) (sg (TFrame.sm_Keys (TWorld.sm_Frame u0)))) ?_
    simp
    refine okD fun k6 => ?_
    refine drawI mixed (by kernel_rfl) (by kernel_rfl) ?_
    simp
    refine cR (SoundD.rd (i_SignPiece_ok (i_SignDigest a0.Frame.Keys (TSignature.mk a2 (nth a0.Certs v1_0).Serial (i_BestMethod a0.Frame.Methods a0.Frame.Now) (i_DocDigest (i_BestMethod a0.Frame.Methods a0.Frame.Now) a3) 1 a4 0 0 0)).1)) ?_
    simp
    refine cR (SoundD.rd (i_CertPiece_ok (nth a0.Certs v1_0))) ?_
    simp
    refine evI rfl rfl rfl ?_
    simp
    refine okD fun k7 => ?_
    refine frzD [(82, 0)] (by simp) ?_
    simp
    refine drawI mixed (by kernel_rfl) (by kernel_rfl) ?_
    have i2 : a1.toNat < a0.Archives.length := il
    simp [i2, rowAt_map]
    repeat with_reducible refine sd ?_
    refine cR (i_AddItem_ok (nth a0.Archives a1.toNat) (TItem.mk a0.Next a5 a3 (i_SignDigest a0.Frame.Keys (TSignature.mk a2 (nth a0.Certs v1_0).Serial (i_BestMethod a0.Frame.Methods a0.Frame.Now) (i_DocDigest (i_BestMethod a0.Frame.Methods a0.Frame.Now) a3) 1 a4 0 0 0)).1 (TStrand.mk ([(i_SignPiece (i_SignDigest a0.Frame.Keys (TSignature.mk a2 (nth a0.Certs v1_0).Serial (i_BestMethod a0.Frame.Methods a0.Frame.Now) (i_DocDigest (i_BestMethod a0.Frame.Methods a0.Frame.Now) a3) 1 a4 0 0 0)).1), (i_CertPiece (nth a0.Certs v1_0))] : List TPiece) ([] : List TRenewal))) (sg (sm_nth (TWorld.sm_Archives u0))) (by simp (maxDischargeDepth := 12) [sm_append, sm_list, i_CertPiece_sm, i_SignPiece_sm, sm_mono (m := 2318336) (by decide) u0, sm_mono (m := 2318336) (by decide) u1]; try omega)) ?_
    simp
    refine cC ((!(i_SignDigest a0.Frame.Keys (TSignature.mk a2 (nth a0.Certs v1_0).Serial (i_BestMethod a0.Frame.Methods a0.Frame.Now) (i_DocDigest (i_BestMethod a0.Frame.Methods a0.Frame.Now) a3) 1 a4 0 0 0)).2) || (!(i_AddItem (nth a0.Archives a1.toNat) (TItem.mk a0.Next a5 a3 (i_SignDigest a0.Frame.Keys (TSignature.mk a2 (nth a0.Certs v1_0).Serial (i_BestMethod a0.Frame.Methods a0.Frame.Now) (i_DocDigest (i_BestMethod a0.Frame.Methods a0.Frame.Now) a3) 1 a4 0 0 0)).1 (TStrand.mk ([(i_SignPiece (i_SignDigest a0.Frame.Keys (TSignature.mk a2 (nth a0.Certs v1_0).Serial (i_BestMethod a0.Frame.Methods a0.Frame.Now) (i_DocDigest (i_BestMethod a0.Frame.Methods a0.Frame.Now) a3) 1 a4 0 0 0)).1), (i_CertPiece (nth a0.Certs v1_0))] : List TPiece) ([] : List TRenewal)))).2)) (fun k8 h4 => ?_) (fun k8 h4 => ?_)
    ·have q4 := h4; try simp at q4
     have x1 : i_signInto_1 a0 a1 a2 a3 a4 a5 (a0.Certs.length + 1) 0 = .inl (a0, false) := by rw [← e1]; simp only [i_signInto_1, h2, h3, h4, cond_t, cond_f]
     simp
     refine retRd (rv := [.cell 12 42, .tmp 13]) rfl ?_
     have f2 := i_signInto.eq_1 a0 a1 a2 a3 a4 a5; simp only [h1, x1, cond_t, cond_f] at f2; simp [f2]
    ·have q4 := h4; try simp at q4
     simp
     refine cO (SoundD.own (i_copyWorld_okI a0 (sg u0))) ?_
     have x2 : i_signInto_1 a0 a1 a2 a3 a4 a5 (a0.Certs.length + 1) 0 = .inl ((TWorld.mk a0.Frame a0.Certs a0.Ended (a0.Archives.set a1.toNat (i_AddItem (nth a0.Archives a1.toNat) (TItem.mk a0.Next a5 a3 (i_SignDigest a0.Frame.Keys (TSignature.mk a2 (nth a0.Certs v1_0).Serial (i_BestMethod a0.Frame.Methods a0.Frame.Now) (i_DocDigest (i_BestMethod a0.Frame.Methods a0.Frame.Now) a3) 1 a4 0 0 0)).1 (TStrand.mk ([(i_SignPiece (i_SignDigest a0.Frame.Keys (TSignature.mk a2 (nth a0.Certs v1_0).Serial (i_BestMethod a0.Frame.Methods a0.Frame.Now) (i_DocDigest (i_BestMethod a0.Frame.Methods a0.Frame.Now) a3) 1 a4 0 0 0)).1), (i_CertPiece (nth a0.Certs v1_0))] : List TPiece) ([] : List TRenewal)))).1) a0.Seqs a0.Lying (W (a0.Next + 1)) a0.Forged), true) := by rw [← e1]; simp only [i_signInto_1, h2, h3, h4, cond_t, cond_f]
     simp [i2, rowAt_map, set_map (x := (i_AddItem (nth a0.Archives a1.toNat) (TItem.mk a0.Next a5 a3 (i_SignDigest a0.Frame.Keys (TSignature.mk a2 (nth a0.Certs v1_0).Serial (i_BestMethod a0.Frame.Methods a0.Frame.Now) (i_DocDigest (i_BestMethod a0.Frame.Methods a0.Frame.Now) a3) 1 a4 0 0 0)).1 (TStrand.mk ([(i_SignPiece (i_SignDigest a0.Frame.Keys (TSignature.mk a2 (nth a0.Certs v1_0).Serial (i_BestMethod a0.Frame.Methods a0.Frame.Now) (i_DocDigest (i_BestMethod a0.Frame.Methods a0.Frame.Now) a3) 1 a4 0 0 0)).1), (i_CertPiece (nth a0.Certs v1_0))] : List TPiece) ([] : List TRenewal)))).1) rfl]
     repeat with_reducible refine sd ?_
     refine retRd (rv := [.cell 12 42, .tmp 13]) rfl ?_
     have f3 := i_signInto.eq_1 a0 a1 a2 a3 a4 a5; simp only [h1, x2, cond_t, cond_f] at f3; simp [f3]
  ·have q2 := h2; try simp at q2
   have c3 : a0.Certs.length ≤ 2314240 := sm_len (by simp (maxDischargeDepth := 12) [u0, u1])
   have x3 : i_signInto_1 a0 a1 a2 a3 a4 a5 (a0.Certs.length + 1) 0 = .inr () := by rw [← e1]; simp only [i_signInto_1, h2, cond_t, cond_f]
   simp
   refine retRd (rv := [.cell 12 42, .tmp 13]) rfl ?_
   have f4 := i_signInto.eq_1 a0 a1 a2 a3 a4 a5; simp only [h1, x3, cond_t, cond_f] at f4; simp [f4]
theorem i_StepSign_ok (a0 : TWorld) (a1 : Int) (a2 : Int) (a3 : TDocument) (a4 : Int) (a5 : Int) (u0 : Sm 2310144 a0) (u1 : Sm 2310144 a3) : SoundD Tryz.prog 36 [a0.row, [.int .i64 a1], [.int .i64 a2], a3.row, [.int .i64 a4], [.int .i64 a5]] [(i_StepSign a0 a1 a2 a3 a4 a5).1.row, [.bool (i_StepSign a0 a1 a2 a3 a4 a5).2]] := by
 refine sound_ofD Tryz.func36 rfl (by kernel_rfl) ?_
 simp [Tryz.ntmps36]
 refine cR (i_FindKey_ok a0.Frame.Keys a2) ?_
 simp
 refine okD fun k1 => ?_
 refine drawI mixed (by kernel_rfl) (by kernel_rfl) ?_
 simp
 refine guardI rfl rfl rfl rfl rfl (by simp) (fun g1 => ?_) (fun g1 => ?_)
 ·have g1x := g1; try simp only [beq_true, beq_false, Bool.not_eq_true', Bool.not_eq_false', Bool.true_and, Bool.and_true] at g1x
  try simp at g1
  have i1 : (i_FindKey a0.Frame.Keys a2).toNat < a0.Frame.Keys.length := by have := i_FindKey_lt a0.Frame.Keys a2; exact il
  simp [i1, rowAt_map, g1x]
  repeat with_reducible refine sdg ?_
  refine condR (c := ((decide ((i_FindKey a0.Frame.Keys a2) < 0)) || (decide ((nth a0.Frame.Keys (i_FindKey a0.Frame.Keys a2).toNat).Born > a0.Frame.Now)))) (by first | (simp [g1x]; done) | grind) (fun k2 h1 => ?_) (fun k2 h1 => ?_)
  ·try (have z := h1; simp [g1x] at z; done)
   all_goals
    have q1 := h1; try simp at q1
    simp [g1x]
    repeat with_reducible refine sdg ?_
    refine cD [false, false, false, true, true, false, false, true, false, false, true, false] (i_copyWorld_okI a0 (by first | (exact sm_mono (n := 2310144) (by decide) (by simp (maxDischargeDepth := 12) [u0, u1])) | (exact sm_mono (n := 2310144 + 1) (by decide) (i_signInto_sm (n := 2310144) (by simp (maxDischargeDepth := 12) [u0, u1]) (by simp (maxDischargeDepth := 12) [u0, u1]) (by decide))))) ?_
    simp [g1x]
    repeat with_reducible refine sdg ?_
    refine retD (rv := [.cell 12 42, .tmp 13]) rfl ?_
    have f1 := i_StepSign.eq_1 a0 a1 a2 a3 a4 a5; simp only [h1, cond_t, cond_f] at f1; simp [f1, g1x]
  ·try (have z := h1; simp [g1x] at z; done)
   all_goals
    have q1 := h1; try simp at q1
    simp [g1x]
    repeat with_reducible refine sdg ?_
    refine cR (i_signInto_ok a0 a1 a2 a3 a4 a5 (sg u0) (sg u1)) ?_
    simp [g1x]
    repeat with_reducible refine sdg ?_
    refine cD [false, false, false, true, true, false, false, true, false, false, true, false] (i_copyWorld_okI (i_signInto a0 a1 a2 a3 a4 a5).1 (by first | (exact sm_mono (n := 2310144) (by decide) (by simp (maxDischargeDepth := 12) [u0, u1])) | (exact sm_mono (n := 2310144 + 1) (by decide) (i_signInto_sm (n := 2310144) (by simp (maxDischargeDepth := 12) [u0, u1]) (by simp (maxDischargeDepth := 12) [u0, u1]) (by decide))))) ?_
    simp [g1x]
    repeat with_reducible refine sdg ?_
    refine retD (rv := [.cell 12 42, .tmp 13]) rfl ?_
    have f2 := i_StepSign.eq_1 a0 a1 a2 a3 a4 a5; simp only [h1, cond_t, cond_f] at f2; simp [f2, g1x]
 ·have g1x := g1; try simp only [beq_true, beq_false, Bool.not_eq_true', Bool.not_eq_false', Bool.true_and, Bool.and_true] at g1x
  simp [g1x]
  repeat with_reducible refine sdg ?_
  refine condR (c := ((decide ((i_FindKey a0.Frame.Keys a2) < 0)) || (decide ((nth a0.Frame.Keys (i_FindKey a0.Frame.Keys a2).toNat).Born > a0.Frame.Now)))) (by first | (simp [g1x]; done) | grind) (fun k3 h2 => ?_) (fun k3 h2 => ?_)
  ·try (have z := h2; simp [g1x] at z; done)
   all_goals
    have q2 := h2; try simp at q2
    simp [g1x]
    repeat with_reducible refine sdg ?_
    refine cD [false, false, false, true, true, false, false, true, false, false, true, false] (i_copyWorld_okI a0 (by first | (exact sm_mono (n := 2310144) (by decide) (by simp (maxDischargeDepth := 12) [u0, u1])) | (exact sm_mono (n := 2310144 + 1) (by decide) (i_signInto_sm (n := 2310144) (by simp (maxDischargeDepth := 12) [u0, u1]) (by simp (maxDischargeDepth := 12) [u0, u1]) (by decide))))) ?_
    simp [g1x]
    repeat with_reducible refine sdg ?_
    refine retD (rv := [.cell 12 42, .tmp 13]) rfl ?_
    have f3 := i_StepSign.eq_1 a0 a1 a2 a3 a4 a5; simp only [h2, cond_t, cond_f] at f3; simp [f3, g1x]
  ·try (have z := h2; simp [g1x] at z; done)
   all_goals
    have q2 := h2; try simp at q2
    simp [g1x]
    repeat with_reducible refine sdg ?_
    refine cR (i_signInto_ok a0 a1 a2 a3 a4 a5 (sg u0) (sg u1)) ?_
    simp [g1x]
    repeat with_reducible refine sdg ?_
    refine cD [false, false, false, true, true, false, false, true, false, false, true, false] (i_copyWorld_okI (i_signInto a0 a1 a2 a3 a4 a5).1 (by first | (exact sm_mono (n := 2310144) (by decide) (by simp (maxDischargeDepth := 12) [u0, u1])) | (exact sm_mono (n := 2310144 + 1) (by decide) (i_signInto_sm (n := 2310144) (by simp (maxDischargeDepth := 12) [u0, u1]) (by simp (maxDischargeDepth := 12) [u0, u1]) (by decide))))) ?_
    simp [g1x]
    repeat with_reducible refine sdg ?_
    refine retD (rv := [.cell 12 42, .tmp 13]) rfl ?_
    have f4 := i_StepSign.eq_1 a0 a1 a2 a3 a4 a5; simp only [h2, cond_t, cond_f] at f4; simp [f4, g1x]
theorem l_eqKey_ok (a0 : TKey) (a1 : TKey) : SoundAt Tryz.prog 191 false [a0.row, a1.row] [[.bool (l_eqKey a0 a1)]] := by
 refine sound_of Tryz.func191 rfl (by kernel_rfl) ?_
 simp [Tryz.ntmps191]
 refine cC (a0.Number != a1.Number) (fun k1 h1 => ?_) (fun k1 h1 => ?_)
 ·have q1 := h1; try simp at q1
  simp
  refine retRd (rv := [.tmp 4]) rfl ?_
  have f1 := l_eqKey.eq_1 a0 a1; simp only [h1, cond_t, cond_f] at f1; simp [f1]
 ·have q1 := h1; try simp at q1
  simp
  refine cC (a0.Owner != a1.Owner) (fun k2 h2 => ?_) (fun k2 h2 => ?_)
  ·have q2 := h2; try simp at q2
   simp
   refine retRd (rv := [.tmp 4]) rfl ?_
   have f2 := l_eqKey.eq_1 a0 a1; simp only [h1, h2, cond_t, cond_f] at f2; simp [f2]
  ·have q2 := h2; try simp at q2
   simp
   refine cC (a0.Method != a1.Method) (fun k3 h3 => ?_) (fun k3 h3 => ?_)
   ·have q3 := h3; try simp at q3
    simp
    refine retRd (rv := [.tmp 4]) rfl ?_
    have f3 := l_eqKey.eq_1 a0 a1; simp only [h1, h2, h3, cond_t, cond_f] at f3; simp [f3]
   ·have q3 := h3; try simp at q3
    simp
    refine cC (a0.Born != a1.Born) (fun k4 h4 => ?_) (fun k4 h4 => ?_)
    ·have q4 := h4; try simp at q4
     simp
     refine retRd (rv := [.tmp 4]) rfl ?_
     have f4 := l_eqKey.eq_1 a0 a1; simp only [h1, h2, h3, h4, cond_t, cond_f] at f4; simp [f4]
    ·have q4 := h4; try simp at q4
     simp
     refine cC (a0.Secret != a1.Secret) (fun k5 h5 => ?_) (fun k5 h5 => ?_)
     ·have q5 := h5; try simp at q5
      simp
      refine retRd (rv := [.tmp 4]) rfl ?_
      have f5 := l_eqKey.eq_1 a0 a1; simp only [h1, h2, h3, h4, h5, cond_t, cond_f] at f5; simp [f5]
     ·have q5 := h5; try simp at q5
      simp
      refine retRd (rv := [.tmp 4]) rfl ?_
      have f6 := l_eqKey.eq_1 a0 a1; simp only [h1, h2, h3, h4, h5, cond_t, cond_f] at f6; simp [f6]
theorem l_eqKeyS_ok (a0 : List TKey) (a1 : List TKey) : SoundAt Tryz.prog 119 false [[.sl 5 (a0.map TKey.row)], [.sl 5 (a1.map TKey.row)]] [[.bool (l_eqKeyS a0 a1)]] := by
 refine sound_of Tryz.func119 rfl (by kernel_rfl) ?_
 simp [Tryz.ntmps119]
 refine cC ((↑a0.length : Int) != (↑a1.length : Int)) (fun k1 h1 => ?_) (fun k1 h1 => ?_)
 ·have q1 := h1; try simp at q1
  simp
  refine retRd (rv := [.tmp 4]) rfl ?_
  have f1 := l_eqKeyS.eq_1 a0 a1; simp only [h1, cond_t, cond_f] at f1; simp [f1]
 ·have q1 := h1; try simp at q1
  simp
  refine okL fun k2 => ?_
  refine loopI (ι := { s : Nat × Nat // l_eqKeyS_1 a0 a1 s.1 s.2 = l_eqKeyS_1 a0 a1 (a0.length + 1) 0 ∧ (1 ≤ s.1 ∧ a0.length < s.1 + s.2 ∧ s.2 ≤ a0.length) }) (fun s => stOf 27 [eL 0 5 a0 TKey.row, eL 1 5 a1 TKey.row, eI 5 (↑s.1.2 : Int)]) (fun s => s.1.1) ⟨((a0.length + 1), 0), rfl, by first | omega | (dsimp only; omega) | simp⟩ (wk_keep (by simp)) ?_
  rintro ⟨⟨n1, v1_0⟩, e1, j1⟩
  try dsimp only at e1 j1
  obtain ⟨p1, rfl⟩ : ∃ p, n1 = p + 1 := ⟨n1 - 1, by omega⟩
  simp
  refine cC (decide ((↑v1_0 : Int) < (↑a0.length : Int))) (fun k3 h2 => ?_) (fun k3 h2 => ?_)
  ·have q2 := h2; try simp at q2
   have i1 : v1_0 < a0.length := by simpa using h2
   have m2 : a0.length ≤ 9223372036854775807 := by simpa using k3 0 _ rfl
   have w1 : IntKind.i64.wrap ((v1_0 : Int) + 1) = (v1_0 : Int) + 1 := wrap_of (by omega) (by omega)
   simp
   refine okD fun k4 => ?_
   refine drawI mixed (by kernel_rfl) (by kernel_rfl) ?_
   have i2 : v1_0 < a1.length := il
   simp [i1, rowAt_map, i2]
   repeat with_reducible refine sd ?_
   refine cR (l_eqKey_ok (nth a0 v1_0) (nth a1 v1_0)) ?_
   simp
   refine cC (!(l_eqKey (nth a0 v1_0) (nth a1 v1_0))) (fun k5 h3 => ?_) (fun k5 h3 => ?_)
   ·have q3 := h3; try simp at q3
    have x1 : l_eqKeyS_1 a0 a1 (a0.length + 1) 0 = .inl false := by rw [← e1]; simp only [l_eqKeyS_1, h2, h3, cond_t, cond_f]
    simp
    refine retRd (rv := [.tmp 4]) rfl ?_
    have f2 := l_eqKeyS.eq_1 a0 a1; simp only [h1, x1, cond_t, cond_f] at f2; simp [f2]
   ·have q3 := h3; try simp at q3
    simp
    refine nxtI ⟨(p1, (v1_0 + 1)), ?_, ?_⟩ (by simp) (wk_keep (by simp [w1]))
    · rw [← e1]; simp only [l_eqKeyS_1, h2, h3, cond_t, cond_f]
    · first | omega | (simp at *; omega)
  ·have q2 := h2; try simp at q2
   have x2 : l_eqKeyS_1 a0 a1 (a0.length + 1) 0 = .inr () := by rw [← e1]; simp only [l_eqKeyS_1, h2, cond_t, cond_f]
   simp
   refine retRd (rv := [.tmp 4]) rfl ?_
   have f3 := l_eqKeyS.eq_1 a0 a1; simp only [h1, x2, cond_t, cond_f] at f3; simp [f3]
theorem l_eqAuthority_ok (a0 : TAuthority) (a1 : TAuthority) : SoundAt Tryz.prog 192 false [a0.row, a1.row] [[.bool (l_eqAuthority a0 a1)]] := by
 refine sound_of Tryz.func192 rfl (by kernel_rfl) ?_
 simp [Tryz.ntmps192]
 refine cC (a0.Id != a1.Id) (fun k1 h1 => ?_) (fun k1 h1 => ?_)
 ·have q1 := h1; try simp at q1
  simp
  refine retRd (rv := [.tmp 4]) rfl ?_
  have f1 := l_eqAuthority.eq_1 a0 a1; simp only [h1, cond_t, cond_f] at f1; simp [f1]
 ·have q1 := h1; try simp at q1
  simp
  refine cC (a0.Key != a1.Key) (fun k2 h2 => ?_) (fun k2 h2 => ?_)
  ·have q2 := h2; try simp at q2
   simp
   refine retRd (rv := [.tmp 4]) rfl ?_
   have f2 := l_eqAuthority.eq_1 a0 a1; simp only [h1, h2, cond_t, cond_f] at f2; simp [f2]
  ·have q2 := h2; try simp at q2
   simp
   refine cC (a0.Error != a1.Error) (fun k3 h3 => ?_) (fun k3 h3 => ?_)
   ·have q3 := h3; try simp at q3
    simp
    refine retRd (rv := [.tmp 4]) rfl ?_
    have f3 := l_eqAuthority.eq_1 a0 a1; simp only [h1, h2, h3, cond_t, cond_f] at f3; simp [f3]
   ·have q3 := h3; try simp at q3
    simp
    refine retRd (rv := [.tmp 4]) rfl ?_
    have f4 := l_eqAuthority.eq_1 a0 a1; simp only [h1, h2, h3, cond_t, cond_f] at f4; simp [f4]
theorem l_eqAuthorityS_ok (a0 : List TAuthority) (a1 : List TAuthority) : SoundAt Tryz.prog 120 false [[.sl 3 (a0.map TAuthority.row)], [.sl 3 (a1.map TAuthority.row)]] [[.bool (l_eqAuthorityS a0 a1)]] := by
 refine sound_of Tryz.func120 rfl (by kernel_rfl) ?_
 simp [Tryz.ntmps120]
 refine cC ((↑a0.length : Int) != (↑a1.length : Int)) (fun k1 h1 => ?_) (fun k1 h1 => ?_)
 ·have q1 := h1; try simp at q1
  simp
  refine retRd (rv := [.tmp 4]) rfl ?_
  have f1 := l_eqAuthorityS.eq_1 a0 a1; simp only [h1, cond_t, cond_f] at f1; simp [f1]
 ·have q1 := h1; try simp at q1
  simp
  refine okL fun k2 => ?_
  refine loopI (ι := { s : Nat × Nat // l_eqAuthorityS_1 a0 a1 s.1 s.2 = l_eqAuthorityS_1 a0 a1 (a0.length + 1) 0 ∧ (1 ≤ s.1 ∧ a0.length < s.1 + s.2 ∧ s.2 ≤ a0.length) }) (fun s => stOf 27 [eL 0 3 a0 TAuthority.row, eL 1 3 a1 TAuthority.row, eI 5 (↑s.1.2 : Int)]) (fun s => s.1.1) ⟨((a0.length + 1), 0), rfl, by first | omega | (dsimp only; omega) | simp⟩ (wk_keep (by simp)) ?_
  rintro ⟨⟨n1, v1_0⟩, e1, j1⟩
  try dsimp only at e1 j1
  obtain ⟨p1, rfl⟩ : ∃ p, n1 = p + 1 := ⟨n1 - 1, by omega⟩
  simp
  refine cC (decide ((↑v1_0 : Int) < (↑a0.length : Int))) (fun k3 h2 => ?_) (fun k3 h2 => ?_)
  ·have q2 := h2; try simp at q2
   have i1 : v1_0 < a0.length := by simpa using h2
   have m2 : a0.length ≤ 9223372036854775807 := by simpa using k3 0 _ rfl
   have w1 : IntKind.i64.wrap ((v1_0 : Int) + 1) = (v1_0 : Int) + 1 := wrap_of (by omega) (by omega)
   simp
   refine okD fun k4 => ?_
   refine drawI mixed (by kernel_rfl) (by kernel_rfl) ?_
   have i2 : v1_0 < a1.length := il
   simp [i1, rowAt_map, i2]
   repeat with_reducible refine sd ?_
   refine cR (l_eqAuthority_ok (nth a0 v1_0) (nth a1 v1_0)) ?_
   simp
   refine cC (!(l_eqAuthority (nth a0 v1_0) (nth a1 v1_0))) (fun k5 h3 => ?_) (fun k5 h3 => ?_)
   ·have q3 := h3; try simp at q3
    have x1 : l_eqAuthorityS_1 a0 a1 (a0.length + 1) 0 = .inl false := by rw [← e1]; simp only [l_eqAuthorityS_1, h2, h3, cond_t, cond_f]
    simp
    refine retRd (rv := [.tmp 4]) rfl ?_
    have f2 := l_eqAuthorityS.eq_1 a0 a1; simp only [h1, x1, cond_t, cond_f] at f2; simp [f2]
   ·have q3 := h3; try simp at q3
    simp
    refine nxtI ⟨(p1, (v1_0 + 1)), ?_, ?_⟩ (by simp) (wk_keep (by simp [w1]))
    · rw [← e1]; simp only [l_eqAuthorityS_1, h2, h3, cond_t, cond_f]
    · first | omega | (simp at *; omega)
  ·have q2 := h2; try simp at q2
   have x2 : l_eqAuthorityS_1 a0 a1 (a0.length + 1) 0 = .inr () := by rw [← e1]; simp only [l_eqAuthorityS_1, h2, cond_t, cond_f]
   simp
   refine retRd (rv := [.tmp 4]) rfl ?_
   have f3 := l_eqAuthorityS.eq_1 a0 a1; simp only [h1, x2, cond_t, cond_f] at f3; simp [f3]
theorem l_eqMethod_ok (a0 : TMethod) (a1 : TMethod) : SoundAt Tryz.prog 193 false [a0.row, a1.row] [[.bool (l_eqMethod a0 a1)]] := by
 refine sound_of Tryz.func193 rfl (by kernel_rfl) ?_
 simp [Tryz.ntmps193]
 refine cC (a0.Id != a1.Id) (fun k1 h1 => ?_) (fun k1 h1 => ?_)
 ·have q1 := h1; try simp at q1
  simp
  refine retRd (rv := [.tmp 4]) rfl ?_
  have f1 := l_eqMethod.eq_1 a0 a1; simp only [h1, cond_t, cond_f] at f1; simp [f1]
 ·have q1 := h1; try simp at q1
  simp
  refine cC (a0.Known != a1.Known) (fun k2 h2 => ?_) (fun k2 h2 => ?_)
  ·have q2 := h2; try simp at q2
   simp
   refine retRd (rv := [.tmp 4]) rfl ?_
   have f2 := l_eqMethod.eq_1 a0 a1; simp only [h1, h2, cond_t, cond_f] at f2; simp [f2]
  ·have q2 := h2; try simp at q2
   simp
   refine cC (a0.Ends != a1.Ends) (fun k3 h3 => ?_) (fun k3 h3 => ?_)
   ·have q3 := h3; try simp at q3
    simp
    refine retRd (rv := [.tmp 4]) rfl ?_
    have f3 := l_eqMethod.eq_1 a0 a1; simp only [h1, h2, h3, cond_t, cond_f] at f3; simp [f3]
   ·have q3 := h3; try simp at q3
    simp
    refine cC (a0.Broken != a1.Broken) (fun k4 h4 => ?_) (fun k4 h4 => ?_)
    ·have q4 := h4; try simp at q4
     simp
     refine retRd (rv := [.tmp 4]) rfl ?_
     have f4 := l_eqMethod.eq_1 a0 a1; simp only [h1, h2, h3, h4, cond_t, cond_f] at f4; simp [f4]
    ·have q4 := h4; try simp at q4
     simp
     refine retRd (rv := [.tmp 4]) rfl ?_
     have f5 := l_eqMethod.eq_1 a0 a1; simp only [h1, h2, h3, h4, cond_t, cond_f] at f5; simp [f5]
theorem l_eqMethodS_ok (a0 : List TMethod) (a1 : List TMethod) : SoundAt Tryz.prog 121 false [[.sl 4 (a0.map TMethod.row)], [.sl 4 (a1.map TMethod.row)]] [[.bool (l_eqMethodS a0 a1)]] := by
 refine sound_of Tryz.func121 rfl (by kernel_rfl) ?_
 simp [Tryz.ntmps121]
 refine cC ((↑a0.length : Int) != (↑a1.length : Int)) (fun k1 h1 => ?_) (fun k1 h1 => ?_)
 ·have q1 := h1; try simp at q1
  simp
  refine retRd (rv := [.tmp 4]) rfl ?_
  have f1 := l_eqMethodS.eq_1 a0 a1; simp only [h1, cond_t, cond_f] at f1; simp [f1]
 ·have q1 := h1; try simp at q1
  simp
  refine okL fun k2 => ?_
  refine loopI (ι := { s : Nat × Nat // l_eqMethodS_1 a0 a1 s.1 s.2 = l_eqMethodS_1 a0 a1 (a0.length + 1) 0 ∧ (1 ≤ s.1 ∧ a0.length < s.1 + s.2 ∧ s.2 ≤ a0.length) }) (fun s => stOf 27 [eL 0 4 a0 TMethod.row, eL 1 4 a1 TMethod.row, eI 5 (↑s.1.2 : Int)]) (fun s => s.1.1) ⟨((a0.length + 1), 0), rfl, by first | omega | (dsimp only; omega) | simp⟩ (wk_keep (by simp)) ?_
  rintro ⟨⟨n1, v1_0⟩, e1, j1⟩
  try dsimp only at e1 j1
  obtain ⟨p1, rfl⟩ : ∃ p, n1 = p + 1 := ⟨n1 - 1, by omega⟩
  simp
  refine cC (decide ((↑v1_0 : Int) < (↑a0.length : Int))) (fun k3 h2 => ?_) (fun k3 h2 => ?_)
  ·have q2 := h2; try simp at q2
   have i1 : v1_0 < a0.length := by simpa using h2
   have m2 : a0.length ≤ 9223372036854775807 := by simpa using k3 0 _ rfl
   have w1 : IntKind.i64.wrap ((v1_0 : Int) + 1) = (v1_0 : Int) + 1 := wrap_of (by omega) (by omega)
   simp
   refine okD fun k4 => ?_
   refine drawI mixed (by kernel_rfl) (by kernel_rfl) ?_
   have i2 : v1_0 < a1.length := il
   simp [i1, rowAt_map, i2]
   repeat with_reducible refine sd ?_
   refine cR (l_eqMethod_ok (nth a0 v1_0) (nth a1 v1_0)) ?_
   simp
   refine cC (!(l_eqMethod (nth a0 v1_0) (nth a1 v1_0))) (fun k5 h3 => ?_) (fun k5 h3 => ?_)
   ·have q3 := h3; try simp at q3
    have x1 : l_eqMethodS_1 a0 a1 (a0.length + 1) 0 = .inl false := by rw [← e1]; simp only [l_eqMethodS_1, h2, h3, cond_t, cond_f]
    simp
    refine retRd (rv := [.tmp 4]) rfl ?_
    have f2 := l_eqMethodS.eq_1 a0 a1; simp only [h1, x1, cond_t, cond_f] at f2; simp [f2]
   ·have q3 := h3; try simp at q3
    simp
    refine nxtI ⟨(p1, (v1_0 + 1)), ?_, ?_⟩ (by simp) (wk_keep (by simp [w1]))
    · rw [← e1]; simp only [l_eqMethodS_1, h2, h3, cond_t, cond_f]
    · first | omega | (simp at *; omega)
  ·have q2 := h2; try simp at q2
   have x2 : l_eqMethodS_1 a0 a1 (a0.length + 1) 0 = .inr () := by rw [← e1]; simp only [l_eqMethodS_1, h2, cond_t, cond_f]
   simp
   refine retRd (rv := [.tmp 4]) rfl ?_
   have f3 := l_eqMethodS.eq_1 a0 a1; simp only [h1, x2, cond_t, cond_f] at f3; simp [f3]
theorem l_eqFrame_ok (a0 : TFrame) (a1 : TFrame) : SoundAt Tryz.prog 57 false [a0.row, a1.row] [[.bool (l_eqFrame a0 a1)]] := by
 refine sound_of Tryz.func57 rfl (by kernel_rfl) ?_
 simp [Tryz.ntmps57]
 refine cR (l_eqKeyS_ok a0.Keys a1.Keys) ?_
 simp
 refine cC (!(l_eqKeyS a0.Keys a1.Keys)) (fun k1 h1 => ?_) (fun k1 h1 => ?_)
 ·have q1 := h1; try simp at q1
  simp
  refine retRd (rv := [.tmp 4]) rfl ?_
  have f1 := l_eqFrame.eq_1 a0 a1; simp only [h1, cond_t, cond_f] at f1; simp [f1]
 ·have q1 := h1; try simp at q1
  simp
  refine cR (l_eqAuthorityS_ok a0.Authorities a1.Authorities) ?_
  simp
  refine cC (!(l_eqAuthorityS a0.Authorities a1.Authorities)) (fun k2 h2 => ?_) (fun k2 h2 => ?_)
  ·have q2 := h2; try simp at q2
   simp
   refine retRd (rv := [.tmp 4]) rfl ?_
   have f2 := l_eqFrame.eq_1 a0 a1; simp only [h1, h2, cond_t, cond_f] at f2; simp [f2]
  ·have q2 := h2; try simp at q2
   simp
   refine cR (l_eqMethodS_ok a0.Methods a1.Methods) ?_
   simp
   refine cC (!(l_eqMethodS a0.Methods a1.Methods)) (fun k3 h3 => ?_) (fun k3 h3 => ?_)
   ·have q3 := h3; try simp at q3
    simp
    refine retRd (rv := [.tmp 4]) rfl ?_
    have f3 := l_eqFrame.eq_1 a0 a1; simp only [h1, h2, h3, cond_t, cond_f] at f3; simp [f3]
   ·have q3 := h3; try simp at q3
    simp
    refine cC (a0.Liars != a1.Liars) (fun k4 h4 => ?_) (fun k4 h4 => ?_)
    ·have q4 := h4; try simp at q4
     simp
     refine retRd (rv := [.tmp 4]) rfl ?_
     have f4 := l_eqFrame.eq_1 a0 a1; simp only [h1, h2, h3, h4, cond_t, cond_f] at f4; simp [f4]
    ·have q4 := h4; try simp at q4
     simp
     refine cC (a0.Now != a1.Now) (fun k5 h5 => ?_) (fun k5 h5 => ?_)
     ·have q5 := h5; try simp at q5
      simp
      refine retRd (rv := [.tmp 4]) rfl ?_
      have f5 := l_eqFrame.eq_1 a0 a1; simp only [h1, h2, h3, h4, h5, cond_t, cond_f] at f5; simp [f5]
     ·have q5 := h5; try simp at q5
      simp
      refine retRd (rv := [.tmp 4]) rfl ?_
      have f6 := l_eqFrame.eq_1 a0 a1; simp only [h1, h2, h3, h4, h5, cond_t, cond_f] at f6; simp [f6]
theorem l_eqCert_ok (a0 : TCert) (a1 : TCert) : SoundAt Tryz.prog 122 false [a0.row, a1.row] [[.bool (l_eqCert a0 a1)]] := by
 refine sound_of Tryz.func122 rfl (by kernel_rfl) ?_
 simp [Tryz.ntmps122]
 refine cC (a0.Serial != a1.Serial) (fun k1 h1 => ?_) (fun k1 h1 => ?_)
 ·have q1 := h1; try simp at q1
  simp
  refine retRd (rv := [.tmp 4]) rfl ?_
  have f1 := l_eqCert.eq_1 a0 a1; simp only [h1, cond_t, cond_f] at f1; simp [f1]
 ·have q1 := h1; try simp at q1
  simp
  refine cC (a0.Key != a1.Key) (fun k2 h2 => ?_) (fun k2 h2 => ?_)
  ·have q2 := h2; try simp at q2
   simp
   refine retRd (rv := [.tmp 4]) rfl ?_
   have f2 := l_eqCert.eq_1 a0 a1; simp only [h1, h2, cond_t, cond_f] at f2; simp [f2]
  ·have q2 := h2; try simp at q2
   simp
   refine cC (a0.Owner != a1.Owner) (fun k3 h3 => ?_) (fun k3 h3 => ?_)
   ·have q3 := h3; try simp at q3
    simp
    refine retRd (rv := [.tmp 4]) rfl ?_
    have f3 := l_eqCert.eq_1 a0 a1; simp only [h1, h2, h3, cond_t, cond_f] at f3; simp [f3]
   ·have q3 := h3; try simp at q3
    simp
    refine cC (a0.From != a1.From) (fun k4 h4 => ?_) (fun k4 h4 => ?_)
    ·have q4 := h4; try simp at q4
     simp
     refine retRd (rv := [.tmp 4]) rfl ?_
     have f4 := l_eqCert.eq_1 a0 a1; simp only [h1, h2, h3, h4, cond_t, cond_f] at f4; simp [f4]
    ·have q4 := h4; try simp at q4
     simp
     refine cC (a0.To != a1.To) (fun k5 h5 => ?_) (fun k5 h5 => ?_)
     ·have q5 := h5; try simp at q5
      simp
      refine retRd (rv := [.tmp 4]) rfl ?_
      have f5 := l_eqCert.eq_1 a0 a1; simp only [h1, h2, h3, h4, h5, cond_t, cond_f] at f5; simp [f5]
     ·have q5 := h5; try simp at q5
      simp
      refine cC (a0.Issuer != a1.Issuer) (fun k6 h6 => ?_) (fun k6 h6 => ?_)
      ·have q6 := h6; try simp at q6
       simp
       refine retRd (rv := [.tmp 4]) rfl ?_
       have f6 := l_eqCert.eq_1 a0 a1; simp only [h1, h2, h3, h4, h5, h6, cond_t, cond_f] at f6; simp [f6]
      ·have q6 := h6; try simp at q6
       simp
       refine cC (a0.Mark != a1.Mark) (fun k7 h7 => ?_) (fun k7 h7 => ?_)
       ·have q7 := h7; try simp at q7
        simp
        refine retRd (rv := [.tmp 4]) rfl ?_
        have f7 := l_eqCert.eq_1 a0 a1; simp only [h1, h2, h3, h4, h5, h6, h7, cond_t, cond_f] at f7; simp [f7]
       ·have q7 := h7; try simp at q7
        simp
        refine retRd (rv := [.tmp 4]) rfl ?_
        have f8 := l_eqCert.eq_1 a0 a1; simp only [h1, h2, h3, h4, h5, h6, h7, cond_t, cond_f] at f8; simp [f8]
theorem l_eqCertS_ok (a0 : List TCert) (a1 : List TCert) : SoundAt Tryz.prog 58 false [[.sl 7 (a0.map TCert.row)], [.sl 7 (a1.map TCert.row)]] [[.bool (l_eqCertS a0 a1)]] := by
 refine sound_of Tryz.func58 rfl (by kernel_rfl) ?_
 simp [Tryz.ntmps58]
 refine cC ((↑a0.length : Int) != (↑a1.length : Int)) (fun k1 h1 => ?_) (fun k1 h1 => ?_)
 ·have q1 := h1; try simp at q1
  simp
  refine retRd (rv := [.tmp 4]) rfl ?_
  have f1 := l_eqCertS.eq_1 a0 a1; simp only [h1, cond_t, cond_f] at f1; simp [f1]
 ·have q1 := h1; try simp at q1
  simp
  refine okL fun k2 => ?_
  refine loopI (ι := { s : Nat × Nat // l_eqCertS_1 a0 a1 s.1 s.2 = l_eqCertS_1 a0 a1 (a0.length + 1) 0 ∧ (1 ≤ s.1 ∧ a0.length < s.1 + s.2 ∧ s.2 ≤ a0.length) }) (fun s => stOf 27 [eL 0 7 a0 TCert.row, eL 1 7 a1 TCert.row, eI 5 (↑s.1.2 : Int)]) (fun s => s.1.1) ⟨((a0.length + 1), 0), rfl, by first | omega | (dsimp only; omega) | simp⟩ (wk_keep (by simp)) ?_
  rintro ⟨⟨n1, v1_0⟩, e1, j1⟩
  try dsimp only at e1 j1
  obtain ⟨p1, rfl⟩ : ∃ p, n1 = p + 1 := ⟨n1 - 1, by omega⟩
  simp
  refine cC (decide ((↑v1_0 : Int) < (↑a0.length : Int))) (fun k3 h2 => ?_) (fun k3 h2 => ?_)
  ·have q2 := h2; try simp at q2
   have i1 : v1_0 < a0.length := by simpa using h2
   have m2 : a0.length ≤ 9223372036854775807 := by simpa using k3 0 _ rfl
   have w1 : IntKind.i64.wrap ((v1_0 : Int) + 1) = (v1_0 : Int) + 1 := wrap_of (by omega) (by omega)
   simp
   refine okD fun k4 => ?_
   refine drawI mixed (by kernel_rfl) (by kernel_rfl) ?_
   have i2 : v1_0 < a1.length := il
   simp [i1, rowAt_map, i2]
   repeat with_reducible refine sd ?_
   refine cR (l_eqCert_ok (nth a0 v1_0) (nth a1 v1_0)) ?_
   simp
   refine cC (!(l_eqCert (nth a0 v1_0) (nth a1 v1_0))) (fun k5 h3 => ?_) (fun k5 h3 => ?_)
   ·have q3 := h3; try simp at q3
    have x1 : l_eqCertS_1 a0 a1 (a0.length + 1) 0 = .inl false := by rw [← e1]; simp only [l_eqCertS_1, h2, h3, cond_t, cond_f]
    simp
    refine retRd (rv := [.tmp 4]) rfl ?_
    have f2 := l_eqCertS.eq_1 a0 a1; simp only [h1, x1, cond_t, cond_f] at f2; simp [f2]
   ·have q3 := h3; try simp at q3
    simp
    refine nxtI ⟨(p1, (v1_0 + 1)), ?_, ?_⟩ (by simp) (wk_keep (by simp [w1]))
    · rw [← e1]; simp only [l_eqCertS_1, h2, h3, cond_t, cond_f]
    · first | omega | (simp at *; omega)
  ·have q2 := h2; try simp at q2
   have x2 : l_eqCertS_1 a0 a1 (a0.length + 1) 0 = .inr () := by rw [← e1]; simp only [l_eqCertS_1, h2, cond_t, cond_f]
   simp
   refine retRd (rv := [.tmp 4]) rfl ?_
   have f3 := l_eqCertS.eq_1 a0 a1; simp only [h1, x2, cond_t, cond_f] at f3; simp [f3]
theorem l_eqIntS_ok (a0 : List Int) (a1 : List Int) : SoundAt Tryz.prog 17 false [[.sl 1 (a0.map iR)], [.sl 1 (a1.map iR)]] [[.bool (l_eqIntS a0 a1)]] := by
 refine sound_of Tryz.func17 rfl (by kernel_rfl) ?_
 simp [Tryz.ntmps17]
 refine cC ((↑a0.length : Int) != (↑a1.length : Int)) (fun k1 h1 => ?_) (fun k1 h1 => ?_)
 ·have q1 := h1; try simp at q1
  simp
  refine retRd (rv := [.tmp 4]) rfl ?_
  have f1 := l_eqIntS.eq_1 a0 a1; simp only [h1, cond_t, cond_f] at f1; simp [f1]
 ·have q1 := h1; try simp at q1
  simp
  refine okL fun k2 => ?_
  refine loopI (ι := { s : Nat × Nat // l_eqIntS_1 a0 a1 s.1 s.2 = l_eqIntS_1 a0 a1 (a0.length + 1) 0 ∧ (1 ≤ s.1 ∧ a0.length < s.1 + s.2 ∧ s.2 ≤ a0.length) }) (fun s => stOf 26 [eL 0 1 a0 iR, eL 1 1 a1 iR, eI 5 (↑s.1.2 : Int)]) (fun s => s.1.1) ⟨((a0.length + 1), 0), rfl, by first | omega | (dsimp only; omega) | simp⟩ (wk_keep (by simp)) ?_
  rintro ⟨⟨n1, v1_0⟩, e1, j1⟩
  try dsimp only at e1 j1
  obtain ⟨p1, rfl⟩ : ∃ p, n1 = p + 1 := ⟨n1 - 1, by omega⟩
  simp
  refine cC (decide ((↑v1_0 : Int) < (↑a0.length : Int))) (fun k3 h2 => ?_) (fun k3 h2 => ?_)
  ·have q2 := h2; try simp at q2
   have i1 : v1_0 < a0.length := by simpa using h2
   have m2 : a0.length ≤ 9223372036854775807 := by simpa using k3 0 _ rfl
   have w1 : IntKind.i64.wrap ((v1_0 : Int) + 1) = (v1_0 : Int) + 1 := wrap_of (by omega) (by omega)
   simp
   refine okD fun k4 => ?_
   refine drawI mixed (by kernel_rfl) (by kernel_rfl) ?_
   have i2 : v1_0 < a1.length := il
   simp [i1, rowAt_map, i2]
   repeat with_reducible refine sd ?_
   refine cC ((nth a0 v1_0) != (nth a1 v1_0)) (fun k5 h3 => ?_) (fun k5 h3 => ?_)
   ·have q3 := h3; try simp at q3
    have x1 : l_eqIntS_1 a0 a1 (a0.length + 1) 0 = .inl false := by rw [← e1]; simp only [l_eqIntS_1, h2, h3, cond_t, cond_f]
    simp
    refine retRd (rv := [.tmp 4]) rfl ?_
    have f2 := l_eqIntS.eq_1 a0 a1; simp only [h1, x1, cond_t, cond_f] at f2; simp [f2]
   ·have q3 := h3; try simp at q3
    simp
    refine nxtI ⟨(p1, (v1_0 + 1)), ?_, ?_⟩ (by simp) (wk_keep (by simp [w1]))
    · rw [← e1]; simp only [l_eqIntS_1, h2, h3, cond_t, cond_f]
    · first | omega | (simp at *; omega)
  ·have q2 := h2; try simp at q2
   have x2 : l_eqIntS_1 a0 a1 (a0.length + 1) 0 = .inr () := by rw [← e1]; simp only [l_eqIntS_1, h2, cond_t, cond_f]
   simp
   refine retRd (rv := [.tmp 4]) rfl ?_
   have f3 := l_eqIntS.eq_1 a0 a1; simp only [h1, x2, cond_t, cond_f] at f3; simp [f3]
theorem l_eqStringS_ok (a0 : List ByteArray) (a1 : List ByteArray) : SoundAt Tryz.prog 89 false [[.sl 1 (a0.map sR)], [.sl 1 (a1.map sR)]] [[.bool (l_eqStringS a0 a1)]] := by
 refine sound_of Tryz.func89 rfl (by kernel_rfl) ?_
 simp [Tryz.ntmps89]
 refine cC ((↑a0.length : Int) != (↑a1.length : Int)) (fun k1 h1 => ?_) (fun k1 h1 => ?_)
 ·have q1 := h1; try simp at q1
  simp
  refine retRd (rv := [.tmp 4]) rfl ?_
  have f1 := l_eqStringS.eq_1 a0 a1; simp only [h1, cond_t, cond_f] at f1; simp [f1]
 ·have q1 := h1; try simp at q1
  simp
  refine okL fun k2 => ?_
  refine loopI (ι := { s : Nat × Nat // l_eqStringS_1 a0 a1 s.1 s.2 = l_eqStringS_1 a0 a1 (a0.length + 1) 0 ∧ (1 ≤ s.1 ∧ a0.length < s.1 + s.2 ∧ s.2 ≤ a0.length) }) (fun s => stOf 26 [eL 0 1 a0 sR, eL 1 1 a1 sR, eI 5 (↑s.1.2 : Int)]) (fun s => s.1.1) ⟨((a0.length + 1), 0), rfl, by first | omega | (dsimp only; omega) | simp⟩ (wk_keep (by simp)) ?_
  rintro ⟨⟨n1, v1_0⟩, e1, j1⟩
  try dsimp only at e1 j1
  obtain ⟨p1, rfl⟩ : ∃ p, n1 = p + 1 := ⟨n1 - 1, by omega⟩
  simp
  refine cC (decide ((↑v1_0 : Int) < (↑a0.length : Int))) (fun k3 h2 => ?_) (fun k3 h2 => ?_)
  ·have q2 := h2; try simp at q2
   have i1 : v1_0 < a0.length := by simpa using h2
   have m2 : a0.length ≤ 9223372036854775807 := by simpa using k3 0 _ rfl
   have w1 : IntKind.i64.wrap ((v1_0 : Int) + 1) = (v1_0 : Int) + 1 := wrap_of (by omega) (by omega)
   simp
   refine okD fun k4 => ?_
   refine drawI mixed (by kernel_rfl) (by kernel_rfl) ?_
   have i2 : v1_0 < a1.length := il
   simp [i1, rowAt_map, i2]
   repeat with_reducible refine sd ?_
   refine cC (!decide ((nth a0 v1_0) = (nth a1 v1_0))) (fun k5 h3 => ?_) (fun k5 h3 => ?_)
   ·have q3 := h3; try simp at q3
    have x1 : l_eqStringS_1 a0 a1 (a0.length + 1) 0 = .inl false := by rw [← e1]; simp only [l_eqStringS_1, h2, h3, cond_t, cond_f]
    simp
    refine retRd (rv := [.tmp 4]) rfl ?_
    have f2 := l_eqStringS.eq_1 a0 a1; simp only [h1, x1, cond_t, cond_f] at f2; simp [f2]
   ·have q3 := h3; try simp at q3
    simp
    refine nxtI ⟨(p1, (v1_0 + 1)), ?_, ?_⟩ (by simp) (wk_keep (by simp [w1]))
    · rw [← e1]; simp only [l_eqStringS_1, h2, h3, cond_t, cond_f]
    · first | omega | (simp at *; omega)
  ·have q2 := h2; try simp at q2
   have x2 : l_eqStringS_1 a0 a1 (a0.length + 1) 0 = .inr () := by rw [← e1]; simp only [l_eqStringS_1, h2, cond_t, cond_f]
   simp
   refine retRd (rv := [.tmp 4]) rfl ?_
   have f3 := l_eqStringS.eq_1 a0 a1; simp only [h1, x2, cond_t, cond_f] at f3; simp [f3]
theorem l_eqDocument_ok (a0 : TDocument) (a1 : TDocument) : SoundAt Tryz.prog 37 false [a0.row, a1.row] [[.bool (l_eqDocument a0 a1)]] := by
 refine sound_of Tryz.func37 rfl (by kernel_rfl) ?_
 simp [Tryz.ntmps37]
 refine cC (a0.Title != a1.Title) (fun k1 h1 => ?_) (fun k1 h1 => ?_)
 ·have q1 := h1; try simp at q1
  simp
  refine retRd (rv := [.tmp 4]) rfl ?_
  have f1 := l_eqDocument.eq_1 a0 a1; simp only [h1, cond_t, cond_f] at f1; simp [f1]
 ·have q1 := h1; try simp at q1
  simp
  refine cR (l_eqStringS_ok a0.Parts a1.Parts) ?_
  simp
  refine cC (!(l_eqStringS a0.Parts a1.Parts)) (fun k2 h2 => ?_) (fun k2 h2 => ?_)
  ·have q2 := h2; try simp at q2
   simp
   refine retRd (rv := [.tmp 4]) rfl ?_
   have f2 := l_eqDocument.eq_1 a0 a1; simp only [h1, h2, cond_t, cond_f] at f2; simp [f2]
  ·have q2 := h2; try simp at q2
   simp
   refine cR (l_eqIntS_ok a0.Salts a1.Salts) ?_
   simp
   refine cC (!(l_eqIntS a0.Salts a1.Salts)) (fun k3 h3 => ?_) (fun k3 h3 => ?_)
   ·have q3 := h3; try simp at q3
    simp
    refine retRd (rv := [.tmp 4]) rfl ?_
    have f3 := l_eqDocument.eq_1 a0 a1; simp only [h1, h2, h3, cond_t, cond_f] at f3; simp [f3]
   ·have q3 := h3; try simp at q3
    simp
    refine retRd (rv := [.tmp 4]) rfl ?_
    have f4 := l_eqDocument.eq_1 a0 a1; simp only [h1, h2, h3, cond_t, cond_f] at f4; simp [f4]
theorem l_eqSignature_ok (a0 : TSignature) (a1 : TSignature) : SoundAt Tryz.prog 269 false [a0.row, a1.row] [[.bool (l_eqSignature a0 a1)]] := by
 refine sound_of Tryz.func269 rfl (by kernel_rfl) ?_
 simp [Tryz.ntmps269]
 refine cC (a0.Key != a1.Key) (fun k1 h1 => ?_) (fun k1 h1 => ?_)
 ·have q1 := h1; try simp at q1
  simp
  refine retRd (rv := [.tmp 4]) rfl ?_
  have f1 := l_eqSignature.eq_1 a0 a1; simp only [h1, cond_t, cond_f] at f1; simp [f1]
 ·have q1 := h1; try simp at q1
  simp
  refine cC (a0.Serial != a1.Serial) (fun k2 h2 => ?_) (fun k2 h2 => ?_)
  ·have q2 := h2; try simp at q2
   simp
   refine retRd (rv := [.tmp 4]) rfl ?_
   have f2 := l_eqSignature.eq_1 a0 a1; simp only [h1, h2, cond_t, cond_f] at f2; simp [f2]
  ·have q2 := h2; try simp at q2
   simp
   refine cC (a0.Method != a1.Method) (fun k3 h3 => ?_) (fun k3 h3 => ?_)
   ·have q3 := h3; try simp at q3
    simp
    refine retRd (rv := [.tmp 4]) rfl ?_
    have f3 := l_eqSignature.eq_1 a0 a1; simp only [h1, h2, h3, cond_t, cond_f] at f3; simp [f3]
   ·have q3 := h3; try simp at q3
    simp
    refine cC (a0.Digest != a1.Digest) (fun k4 h4 => ?_) (fun k4 h4 => ?_)
    ·have q4 := h4; try simp at q4
     simp
     refine retRd (rv := [.tmp 4]) rfl ?_
     have f4 := l_eqSignature.eq_1 a0 a1; simp only [h1, h2, h3, h4, cond_t, cond_f] at f4; simp [f4]
    ·have q4 := h4; try simp at q4
     simp
     refine cC (a0.Commit != a1.Commit) (fun k5 h5 => ?_) (fun k5 h5 => ?_)
     ·have q5 := h5; try simp at q5
      simp
      refine retRd (rv := [.tmp 4]) rfl ?_
      have f5 := l_eqSignature.eq_1 a0 a1; simp only [h1, h2, h3, h4, h5, cond_t, cond_f] at f5; simp [f5]
     ·have q5 := h5; try simp at q5
      simp
      refine cC (a0.Org != a1.Org) (fun k6 h6 => ?_) (fun k6 h6 => ?_)
      ·have q6 := h6; try simp at q6
       simp
       refine retRd (rv := [.tmp 4]) rfl ?_
       have f6 := l_eqSignature.eq_1 a0 a1; simp only [h1, h2, h3, h4, h5, h6, cond_t, cond_f] at f6; simp [f6]
      ·have q6 := h6; try simp at q6
       simp
       refine cC (a0.Before != a1.Before) (fun k7 h7 => ?_) (fun k7 h7 => ?_)
       ·have q7 := h7; try simp at q7
        simp
        refine retRd (rv := [.tmp 4]) rfl ?_
        have f7 := l_eqSignature.eq_1 a0 a1; simp only [h1, h2, h3, h4, h5, h6, h7, cond_t, cond_f] at f7; simp [f7]
       ·have q7 := h7; try simp at q7
        simp
        refine cC (a0.After != a1.After) (fun k8 h8 => ?_) (fun k8 h8 => ?_)
        ·have q8 := h8; try simp at q8
         simp
         refine retRd (rv := [.tmp 4]) rfl ?_
         have f8 := l_eqSignature.eq_1 a0 a1; simp only [h1, h2, h3, h4, h5, h6, h7, h8, cond_t, cond_f] at f8; simp [f8]
        ·have q8 := h8; try simp at q8
         simp
         refine cC (a0.Mark != a1.Mark) (fun k9 h9 => ?_) (fun k9 h9 => ?_)
         ·have q9 := h9; try simp at q9
          simp
          refine retRd (rv := [.tmp 4]) rfl ?_
          have f9 := l_eqSignature.eq_1 a0 a1; simp only [h1, h2, h3, h4, h5, h6, h7, h8, h9, cond_t, cond_f] at f9; simp [f9]
         ·have q9 := h9; try simp at q9
          simp
          refine retRd (rv := [.tmp 4]) rfl ?_
          have f10 := l_eqSignature.eq_1 a0 a1; simp only [h1, h2, h3, h4, h5, h6, h7, h8, h9, cond_t, cond_f] at f10; simp [f10]
theorem l_eqPiece_ok (a0 : TPiece) (a1 : TPiece) : SoundAt Tryz.prog 287 false [a0.row, a1.row] [[.bool (l_eqPiece a0 a1)]] := by
 refine sound_of Tryz.func287 rfl (by kernel_rfl) ?_
 simp [Tryz.ntmps287]
 refine cC (a0.Key != a1.Key) (fun k1 h1 => ?_) (fun k1 h1 => ?_)
 ·have q1 := h1; try simp at q1
  simp
  refine retRd (rv := [.tmp 4]) rfl ?_
  have f1 := l_eqPiece.eq_1 a0 a1; simp only [h1, cond_t, cond_f] at f1; simp [f1]
 ·have q1 := h1; try simp at q1
  simp
  refine cR (l_eqIntS_ok a0.Ints a1.Ints) ?_
  simp
  refine cC (!(l_eqIntS a0.Ints a1.Ints)) (fun k2 h2 => ?_) (fun k2 h2 => ?_)
  ·have q2 := h2; try simp at q2
   simp
   refine retRd (rv := [.tmp 4]) rfl ?_
   have f2 := l_eqPiece.eq_1 a0 a1; simp only [h1, h2, cond_t, cond_f] at f2; simp [f2]
  ·have q2 := h2; try simp at q2
   simp
   refine cC (a0.Mark != a1.Mark) (fun k3 h3 => ?_) (fun k3 h3 => ?_)
   ·have q3 := h3; try simp at q3
    simp
    refine retRd (rv := [.tmp 4]) rfl ?_
    have f3 := l_eqPiece.eq_1 a0 a1; simp only [h1, h2, h3, cond_t, cond_f] at f3; simp [f3]
   ·have q3 := h3; try simp at q3
    simp
    refine retRd (rv := [.tmp 4]) rfl ?_
    have f4 := l_eqPiece.eq_1 a0 a1; simp only [h1, h2, h3, cond_t, cond_f] at f4; simp [f4]
theorem l_eqPieceS_ok (a0 : List TPiece) (a1 : List TPiece) : SoundAt Tryz.prog 281 false [[.sl 3 (a0.map TPiece.row)], [.sl 3 (a1.map TPiece.row)]] [[.bool (l_eqPieceS a0 a1)]] := by
 refine sound_of Tryz.func281 rfl (by kernel_rfl) ?_
 simp [Tryz.ntmps281]
 refine cC ((↑a0.length : Int) != (↑a1.length : Int)) (fun k1 h1 => ?_) (fun k1 h1 => ?_)
 ·have q1 := h1; try simp at q1
  simp
  refine retRd (rv := [.tmp 4]) rfl ?_
  have f1 := l_eqPieceS.eq_1 a0 a1; simp only [h1, cond_t, cond_f] at f1; simp [f1]
 ·have q1 := h1; try simp at q1
  simp
  refine okL fun k2 => ?_
  refine loopI (ι := { s : Nat × Nat // l_eqPieceS_1 a0 a1 s.1 s.2 = l_eqPieceS_1 a0 a1 (a0.length + 1) 0 ∧ (1 ≤ s.1 ∧ a0.length < s.1 + s.2 ∧ s.2 ≤ a0.length) }) (fun s => stOf 27 [eL 0 3 a0 TPiece.row, eL 1 3 a1 TPiece.row, eI 5 (↑s.1.2 : Int)]) (fun s => s.1.1) ⟨((a0.length + 1), 0), rfl, by first | omega | (dsimp only; omega) | simp⟩ (wk_keep (by simp)) ?_
  rintro ⟨⟨n1, v1_0⟩, e1, j1⟩
  try dsimp only at e1 j1
  obtain ⟨p1, rfl⟩ : ∃ p, n1 = p + 1 := ⟨n1 - 1, by omega⟩
  simp
  refine cC (decide ((↑v1_0 : Int) < (↑a0.length : Int))) (fun k3 h2 => ?_) (fun k3 h2 => ?_)
  ·have q2 := h2; try simp at q2
   have i1 : v1_0 < a0.length := by simpa using h2
   have m2 : a0.length ≤ 9223372036854775807 := by simpa using k3 0 _ rfl
   have w1 : IntKind.i64.wrap ((v1_0 : Int) + 1) = (v1_0 : Int) + 1 := wrap_of (by omega) (by omega)
   simp
   refine okD fun k4 => ?_
   refine drawI mixed (by kernel_rfl) (by kernel_rfl) ?_
   have i2 : v1_0 < a1.length := il
   simp [i1, rowAt_map, i2]
   repeat with_reducible refine sd ?_
   refine cR (l_eqPiece_ok (nth a0 v1_0) (nth a1 v1_0)) ?_
   simp
   refine cC (!(l_eqPiece (nth a0 v1_0) (nth a1 v1_0))) (fun k5 h3 => ?_) (fun k5 h3 => ?_)
   ·have q3 := h3; try simp at q3
    have x1 : l_eqPieceS_1 a0 a1 (a0.length + 1) 0 = .inl false := by rw [← e1]; simp only [l_eqPieceS_1, h2, h3, cond_t, cond_f]
    simp
    refine retRd (rv := [.tmp 4]) rfl ?_
    have f2 := l_eqPieceS.eq_1 a0 a1; simp only [h1, x1, cond_t, cond_f] at f2; simp [f2]
   ·have q3 := h3; try simp at q3
    simp
    refine nxtI ⟨(p1, (v1_0 + 1)), ?_, ?_⟩ (by simp) (wk_keep (by simp [w1]))
    · rw [← e1]; simp only [l_eqPieceS_1, h2, h3, cond_t, cond_f]
    · first | omega | (simp at *; omega)
  ·have q2 := h2; try simp at q2
   have x2 : l_eqPieceS_1 a0 a1 (a0.length + 1) 0 = .inr () := by rw [← e1]; simp only [l_eqPieceS_1, h2, cond_t, cond_f]
   simp
   refine retRd (rv := [.tmp 4]) rfl ?_
   have f3 := l_eqPieceS.eq_1 a0 a1; simp only [h1, x2, cond_t, cond_f] at f3; simp [f3]
theorem l_eqStep_ok (a0 : TStep) (a1 : TStep) : SoundAt Tryz.prog 297 false [a0.row, a1.row] [[.bool (l_eqStep a0 a1)]] := by
 refine sound_of Tryz.func297 rfl (by kernel_rfl) ?_
 simp [Tryz.ntmps297]
 refine cC (a0.Digest != a1.Digest) (fun k1 h1 => ?_) (fun k1 h1 => ?_)
 ·have q1 := h1; try simp at q1
  simp
  refine retRd (rv := [.tmp 4]) rfl ?_
  have f1 := l_eqStep.eq_1 a0 a1; simp only [h1, cond_t, cond_f] at f1; simp [f1]
 ·have q1 := h1; try simp at q1
  simp
  refine cC (!(a0.Left == a1.Left)) (fun k2 h2 => ?_) (fun k2 h2 => ?_)
  ·have q2 := h2; try simp at q2
   simp
   refine retRd (rv := [.tmp 4]) rfl ?_
   have f2 := l_eqStep.eq_1 a0 a1; simp only [h1, h2, cond_t, cond_f] at f2; simp [f2]
  ·have q2 := h2; try simp at q2
   simp
   refine retRd (rv := [.tmp 4]) rfl ?_
   have f3 := l_eqStep.eq_1 a0 a1; simp only [h1, h2, cond_t, cond_f] at f3; simp [f3]
theorem l_eqStepS_ok (a0 : List TStep) (a1 : List TStep) : SoundAt Tryz.prog 293 false [[.sl 2 (a0.map TStep.row)], [.sl 2 (a1.map TStep.row)]] [[.bool (l_eqStepS a0 a1)]] := by
 refine sound_of Tryz.func293 rfl (by kernel_rfl) ?_
 simp [Tryz.ntmps293]
 refine cC ((↑a0.length : Int) != (↑a1.length : Int)) (fun k1 h1 => ?_) (fun k1 h1 => ?_)
 ·have q1 := h1; try simp at q1
  simp
  refine retRd (rv := [.tmp 4]) rfl ?_
  have f1 := l_eqStepS.eq_1 a0 a1; simp only [h1, cond_t, cond_f] at f1; simp [f1]
 ·have q1 := h1; try simp at q1
  simp
  refine okL fun k2 => ?_
  refine loopI (ι := { s : Nat × Nat // l_eqStepS_1 a0 a1 s.1 s.2 = l_eqStepS_1 a0 a1 (a0.length + 1) 0 ∧ (1 ≤ s.1 ∧ a0.length < s.1 + s.2 ∧ s.2 ≤ a0.length) }) (fun s => stOf 27 [eL 0 2 a0 TStep.row, eL 1 2 a1 TStep.row, eI 5 (↑s.1.2 : Int)]) (fun s => s.1.1) ⟨((a0.length + 1), 0), rfl, by first | omega | (dsimp only; omega) | simp⟩ (wk_keep (by simp)) ?_
  rintro ⟨⟨n1, v1_0⟩, e1, j1⟩
  try dsimp only at e1 j1
  obtain ⟨p1, rfl⟩ : ∃ p, n1 = p + 1 := ⟨n1 - 1, by omega⟩
  simp
  refine cC (decide ((↑v1_0 : Int) < (↑a0.length : Int))) (fun k3 h2 => ?_) (fun k3 h2 => ?_)
  ·have q2 := h2; try simp at q2
   have i1 : v1_0 < a0.length := by simpa using h2
   have m2 : a0.length ≤ 9223372036854775807 := by simpa using k3 0 _ rfl
   have w1 : IntKind.i64.wrap ((v1_0 : Int) + 1) = (v1_0 : Int) + 1 := wrap_of (by omega) (by omega)
   simp
   refine okD fun k4 => ?_
   refine drawI mixed (by kernel_rfl) (by kernel_rfl) ?_
   have i2 : v1_0 < a1.length := il
   simp [i1, rowAt_map, i2]
   repeat with_reducible refine sd ?_
   refine cR (l_eqStep_ok (nth a0 v1_0) (nth a1 v1_0)) ?_
   simp
   refine cC (!(l_eqStep (nth a0 v1_0) (nth a1 v1_0))) (fun k5 h3 => ?_) (fun k5 h3 => ?_)
   ·have q3 := h3; try simp at q3
    have x1 : l_eqStepS_1 a0 a1 (a0.length + 1) 0 = .inl false := by rw [← e1]; simp only [l_eqStepS_1, h2, h3, cond_t, cond_f]
    simp
    refine retRd (rv := [.tmp 4]) rfl ?_
    have f2 := l_eqStepS.eq_1 a0 a1; simp only [h1, x1, cond_t, cond_f] at f2; simp [f2]
   ·have q3 := h3; try simp at q3
    simp
    refine nxtI ⟨(p1, (v1_0 + 1)), ?_, ?_⟩ (by simp) (wk_keep (by simp [w1]))
    · rw [← e1]; simp only [l_eqStepS_1, h2, h3, cond_t, cond_f]
    · first | omega | (simp at *; omega)
  ·have q2 := h2; try simp at q2
   have x2 : l_eqStepS_1 a0 a1 (a0.length + 1) 0 = .inr () := by rw [← e1]; simp only [l_eqStepS_1, h2, cond_t, cond_f]
   simp
   refine retRd (rv := [.tmp 4]) rfl ?_
   have f3 := l_eqStepS.eq_1 a0 a1; simp only [h1, x2, cond_t, cond_f] at f3; simp [f3]
theorem l_eqStamp_ok (a0 : TStamp) (a1 : TStamp) : SoundAt Tryz.prog 298 false [a0.row, a1.row] [[.bool (l_eqStamp a0 a1)]] := by
 refine sound_of Tryz.func298 rfl (by kernel_rfl) ?_
 simp [Tryz.ntmps298]
 refine cC (a0.Authority != a1.Authority) (fun k1 h1 => ?_) (fun k1 h1 => ?_)
 ·have q1 := h1; try simp at q1
  simp
  refine retRd (rv := [.tmp 4]) rfl ?_
  have f1 := l_eqStamp.eq_1 a0 a1; simp only [h1, cond_t, cond_f] at f1; simp [f1]
 ·have q1 := h1; try simp at q1
  simp
  refine cC (a0.Seq != a1.Seq) (fun k2 h2 => ?_) (fun k2 h2 => ?_)
  ·have q2 := h2; try simp at q2
   simp
   refine retRd (rv := [.tmp 4]) rfl ?_
   have f2 := l_eqStamp.eq_1 a0 a1; simp only [h1, h2, cond_t, cond_f] at f2; simp [f2]
  ·have q2 := h2; try simp at q2
   simp
   refine cC (a0.Time != a1.Time) (fun k3 h3 => ?_) (fun k3 h3 => ?_)
   ·have q3 := h3; try simp at q3
    simp
    refine retRd (rv := [.tmp 4]) rfl ?_
    have f3 := l_eqStamp.eq_1 a0 a1; simp only [h1, h2, h3, cond_t, cond_f] at f3; simp [f3]
   ·have q3 := h3; try simp at q3
    simp
    refine cC (a0.Digest != a1.Digest) (fun k4 h4 => ?_) (fun k4 h4 => ?_)
    ·have q4 := h4; try simp at q4
     simp
     refine retRd (rv := [.tmp 4]) rfl ?_
     have f4 := l_eqStamp.eq_1 a0 a1; simp only [h1, h2, h3, h4, cond_t, cond_f] at f4; simp [f4]
    ·have q4 := h4; try simp at q4
     simp
     refine cC (a0.Mark != a1.Mark) (fun k5 h5 => ?_) (fun k5 h5 => ?_)
     ·have q5 := h5; try simp at q5
      simp
      refine retRd (rv := [.tmp 4]) rfl ?_
      have f5 := l_eqStamp.eq_1 a0 a1; simp only [h1, h2, h3, h4, h5, cond_t, cond_f] at f5; simp [f5]
     ·have q5 := h5; try simp at q5
      simp
      refine retRd (rv := [.tmp 4]) rfl ?_
      have f6 := l_eqStamp.eq_1 a0 a1; simp only [h1, h2, h3, h4, h5, cond_t, cond_f] at f6; simp [f6]
theorem l_eqStampS_ok (a0 : List TStamp) (a1 : List TStamp) : SoundAt Tryz.prog 294 false [[.sl 5 (a0.map TStamp.row)], [.sl 5 (a1.map TStamp.row)]] [[.bool (l_eqStampS a0 a1)]] := by
 refine sound_of Tryz.func294 rfl (by kernel_rfl) ?_
 simp [Tryz.ntmps294]
 refine cC ((↑a0.length : Int) != (↑a1.length : Int)) (fun k1 h1 => ?_) (fun k1 h1 => ?_)
 ·have q1 := h1; try simp at q1
  simp
  refine retRd (rv := [.tmp 4]) rfl ?_
  have f1 := l_eqStampS.eq_1 a0 a1; simp only [h1, cond_t, cond_f] at f1; simp [f1]
 ·have q1 := h1; try simp at q1
  simp
  refine okL fun k2 => ?_
  refine loopI (ι := { s : Nat × Nat // l_eqStampS_1 a0 a1 s.1 s.2 = l_eqStampS_1 a0 a1 (a0.length + 1) 0 ∧ (1 ≤ s.1 ∧ a0.length < s.1 + s.2 ∧ s.2 ≤ a0.length) }) (fun s => stOf 27 [eL 0 5 a0 TStamp.row, eL 1 5 a1 TStamp.row, eI 5 (↑s.1.2 : Int)]) (fun s => s.1.1) ⟨((a0.length + 1), 0), rfl, by first | omega | (dsimp only; omega) | simp⟩ (wk_keep (by simp)) ?_
  rintro ⟨⟨n1, v1_0⟩, e1, j1⟩
  try dsimp only at e1 j1
  obtain ⟨p1, rfl⟩ : ∃ p, n1 = p + 1 := ⟨n1 - 1, by omega⟩
  simp
  refine cC (decide ((↑v1_0 : Int) < (↑a0.length : Int))) (fun k3 h2 => ?_) (fun k3 h2 => ?_)
  ·have q2 := h2; try simp at q2
   have i1 : v1_0 < a0.length := by simpa using h2
   have m2 : a0.length ≤ 9223372036854775807 := by simpa using k3 0 _ rfl
   have w1 : IntKind.i64.wrap ((v1_0 : Int) + 1) = (v1_0 : Int) + 1 := wrap_of (by omega) (by omega)
   simp
   refine okD fun k4 => ?_
   refine drawI mixed (by kernel_rfl) (by kernel_rfl) ?_
   have i2 : v1_0 < a1.length := il
   simp [i1, rowAt_map, i2]
   repeat with_reducible refine sd ?_
   refine cR (l_eqStamp_ok (nth a0 v1_0) (nth a1 v1_0)) ?_
   simp
   refine cC (!(l_eqStamp (nth a0 v1_0) (nth a1 v1_0))) (fun k5 h3 => ?_) (fun k5 h3 => ?_)
   ·have q3 := h3; try simp at q3
    have x1 : l_eqStampS_1 a0 a1 (a0.length + 1) 0 = .inl false := by rw [← e1]; simp only [l_eqStampS_1, h2, h3, cond_t, cond_f]
    simp
    refine retRd (rv := [.tmp 4]) rfl ?_
    have f2 := l_eqStampS.eq_1 a0 a1; simp only [h1, x1, cond_t, cond_f] at f2; simp [f2]
   ·have q3 := h3; try simp at q3
    simp
    refine nxtI ⟨(p1, (v1_0 + 1)), ?_, ?_⟩ (by simp) (wk_keep (by simp [w1]))
    · rw [← e1]; simp only [l_eqStampS_1, h2, h3, cond_t, cond_f]
    · first | omega | (simp at *; omega)
  ·have q2 := h2; try simp at q2
   have x2 : l_eqStampS_1 a0 a1 (a0.length + 1) 0 = .inr () := by rw [← e1]; simp only [l_eqStampS_1, h2, cond_t, cond_f]
   simp
   refine retRd (rv := [.tmp 4]) rfl ?_
   have f3 := l_eqStampS.eq_1 a0 a1; simp only [h1, x2, cond_t, cond_f] at f3; simp [f3]
theorem l_eqRenewal_ok (a0 : TRenewal) (a1 : TRenewal) : SoundAt Tryz.prog 288 false [a0.row, a1.row] [[.bool (l_eqRenewal a0 a1)]] := by
 refine sound_of Tryz.func288 rfl (by kernel_rfl) ?_
 simp [Tryz.ntmps288]
 refine cC (a0.Count != a1.Count) (fun k1 h1 => ?_) (fun k1 h1 => ?_)
 ·have q1 := h1; try simp at q1
  simp
  refine retRd (rv := [.tmp 4]) rfl ?_
  have f1 := l_eqRenewal.eq_1 a0 a1; simp only [h1, cond_t, cond_f] at f1; simp [f1]
 ·have q1 := h1; try simp at q1
  simp
  refine cC (a0.Method != a1.Method) (fun k2 h2 => ?_) (fun k2 h2 => ?_)
  ·have q2 := h2; try simp at q2
   simp
   refine retRd (rv := [.tmp 4]) rfl ?_
   have f2 := l_eqRenewal.eq_1 a0 a1; simp only [h1, h2, cond_t, cond_f] at f2; simp [f2]
  ·have q2 := h2; try simp at q2
   simp
   refine cC (a0.Root != a1.Root) (fun k3 h3 => ?_) (fun k3 h3 => ?_)
   ·have q3 := h3; try simp at q3
    simp
    refine retRd (rv := [.tmp 4]) rfl ?_
    have f3 := l_eqRenewal.eq_1 a0 a1; simp only [h1, h2, h3, cond_t, cond_f] at f3; simp [f3]
   ·have q3 := h3; try simp at q3
    simp
    refine cR (l_eqStepS_ok a0.Path a1.Path) ?_
    simp
    refine cC (!(l_eqStepS a0.Path a1.Path)) (fun k4 h4 => ?_) (fun k4 h4 => ?_)
    ·have q4 := h4; try simp at q4
     simp
     refine retRd (rv := [.tmp 4]) rfl ?_
     have f4 := l_eqRenewal.eq_1 a0 a1; simp only [h1, h2, h3, h4, cond_t, cond_f] at f4; simp [f4]
    ·have q4 := h4; try simp at q4
     simp
     refine cR (l_eqStampS_ok a0.Stamps a1.Stamps) ?_
     simp
     refine cC (!(l_eqStampS a0.Stamps a1.Stamps)) (fun k5 h5 => ?_) (fun k5 h5 => ?_)
     ·have q5 := h5; try simp at q5
      simp
      refine retRd (rv := [.tmp 4]) rfl ?_
      have f5 := l_eqRenewal.eq_1 a0 a1; simp only [h1, h2, h3, h4, h5, cond_t, cond_f] at f5; simp [f5]
     ·have q5 := h5; try simp at q5
      simp
      refine retRd (rv := [.tmp 4]) rfl ?_
      have f6 := l_eqRenewal.eq_1 a0 a1; simp only [h1, h2, h3, h4, h5, cond_t, cond_f] at f6; simp [f6]
theorem l_eqRenewalS_ok (a0 : List TRenewal) (a1 : List TRenewal) : SoundAt Tryz.prog 282 false [[.sl 5 (a0.map TRenewal.row)], [.sl 5 (a1.map TRenewal.row)]] [[.bool (l_eqRenewalS a0 a1)]] := by
 refine sound_of Tryz.func282 rfl (by kernel_rfl) ?_
 simp [Tryz.ntmps282]
 refine cC ((↑a0.length : Int) != (↑a1.length : Int)) (fun k1 h1 => ?_) (fun k1 h1 => ?_)
 ·have q1 := h1; try simp at q1
  simp
  refine retRd (rv := [.tmp 4]) rfl ?_
  have f1 := l_eqRenewalS.eq_1 a0 a1; simp only [h1, cond_t, cond_f] at f1; simp [f1]
 ·have q1 := h1; try simp at q1
  simp
  refine okL fun k2 => ?_
  refine loopI (ι := { s : Nat × Nat // l_eqRenewalS_1 a0 a1 s.1 s.2 = l_eqRenewalS_1 a0 a1 (a0.length + 1) 0 ∧ (1 ≤ s.1 ∧ a0.length < s.1 + s.2 ∧ s.2 ≤ a0.length) }) (fun s => stOf 27 [eL 0 5 a0 TRenewal.row, eL 1 5 a1 TRenewal.row, eI 5 (↑s.1.2 : Int)]) (fun s => s.1.1) ⟨((a0.length + 1), 0), rfl, by first | omega | (dsimp only; omega) | simp⟩ (wk_keep (by simp)) ?_
  rintro ⟨⟨n1, v1_0⟩, e1, j1⟩
  try dsimp only at e1 j1
  obtain ⟨p1, rfl⟩ : ∃ p, n1 = p + 1 := ⟨n1 - 1, by omega⟩
  simp
  refine cC (decide ((↑v1_0 : Int) < (↑a0.length : Int))) (fun k3 h2 => ?_) (fun k3 h2 => ?_)
  ·have q2 := h2; try simp at q2
   have i1 : v1_0 < a0.length := by simpa using h2
   have m2 : a0.length ≤ 9223372036854775807 := by simpa using k3 0 _ rfl
   have w1 : IntKind.i64.wrap ((v1_0 : Int) + 1) = (v1_0 : Int) + 1 := wrap_of (by omega) (by omega)
   simp
   refine okD fun k4 => ?_
   refine drawI mixed (by kernel_rfl) (by kernel_rfl) ?_
   have i2 : v1_0 < a1.length := il
   simp [i1, rowAt_map, i2]
   repeat with_reducible refine sd ?_
   refine cR (l_eqRenewal_ok (nth a0 v1_0) (nth a1 v1_0)) ?_
   simp
   refine cC (!(l_eqRenewal (nth a0 v1_0) (nth a1 v1_0))) (fun k5 h3 => ?_) (fun k5 h3 => ?_)
   ·have q3 := h3; try simp at q3
    have x1 : l_eqRenewalS_1 a0 a1 (a0.length + 1) 0 = .inl false := by rw [← e1]; simp only [l_eqRenewalS_1, h2, h3, cond_t, cond_f]
    simp
    refine retRd (rv := [.tmp 4]) rfl ?_
    have f2 := l_eqRenewalS.eq_1 a0 a1; simp only [h1, x1, cond_t, cond_f] at f2; simp [f2]
   ·have q3 := h3; try simp at q3
    simp
    refine nxtI ⟨(p1, (v1_0 + 1)), ?_, ?_⟩ (by simp) (wk_keep (by simp [w1]))
    · rw [← e1]; simp only [l_eqRenewalS_1, h2, h3, cond_t, cond_f]
    · first | omega | (simp at *; omega)
  ·have q2 := h2; try simp at q2
   have x2 : l_eqRenewalS_1 a0 a1 (a0.length + 1) 0 = .inr () := by rw [← e1]; simp only [l_eqRenewalS_1, h2, cond_t, cond_f]
   simp
   refine retRd (rv := [.tmp 4]) rfl ?_
   have f3 := l_eqRenewalS.eq_1 a0 a1; simp only [h1, x2, cond_t, cond_f] at f3; simp [f3]
theorem l_eqStrand_ok (a0 : TStrand) (a1 : TStrand) : SoundAt Tryz.prog 270 false [a0.row, a1.row] [[.bool (l_eqStrand a0 a1)]] := by
 refine sound_of Tryz.func270 rfl (by kernel_rfl) ?_
 simp [Tryz.ntmps270]
 refine cR (l_eqPieceS_ok a0.Pieces a1.Pieces) ?_
 simp
 refine cC (!(l_eqPieceS a0.Pieces a1.Pieces)) (fun k1 h1 => ?_) (fun k1 h1 => ?_)
 ·have q1 := h1; try simp at q1
  simp
  refine retRd (rv := [.tmp 4]) rfl ?_
  have f1 := l_eqStrand.eq_1 a0 a1; simp only [h1, cond_t, cond_f] at f1; simp [f1]
 ·have q1 := h1; try simp at q1
  simp
  refine cR (l_eqRenewalS_ok a0.Chain a1.Chain) ?_
  simp
  refine cC (!(l_eqRenewalS a0.Chain a1.Chain)) (fun k2 h2 => ?_) (fun k2 h2 => ?_)
  ·have q2 := h2; try simp at q2
   simp
   refine retRd (rv := [.tmp 4]) rfl ?_
   have f2 := l_eqStrand.eq_1 a0 a1; simp only [h1, h2, cond_t, cond_f] at f2; simp [f2]
  ·have q2 := h2; try simp at q2
   simp
   refine retRd (rv := [.tmp 4]) rfl ?_
   have f3 := l_eqStrand.eq_1 a0 a1; simp only [h1, h2, cond_t, cond_f] at f3; simp [f3]
theorem l_eqItem_ok (a0 : TItem) (a1 : TItem) : SoundAt Tryz.prog 241 false [a0.row, a1.row] [[.bool (l_eqItem a0 a1)]] := by
 refine sound_of Tryz.func241 rfl (by kernel_rfl) ?_
 simp [Tryz.ntmps241]
 refine cC (a0.Id != a1.Id) (fun k1 h1 => ?_) (fun k1 h1 => ?_)
 ·have q1 := h1; try simp at q1
  simp
  refine retRd (rv := [.tmp 4]) rfl ?_
  have f1 := l_eqItem.eq_1 a0 a1; simp only [h1, cond_t, cond_f] at f1; simp [f1]
 ·have q1 := h1; try simp at q1
  simp
  refine cC (a0.Keep != a1.Keep) (fun k2 h2 => ?_) (fun k2 h2 => ?_)
  ·have q2 := h2; try simp at q2
   simp
   refine retRd (rv := [.tmp 4]) rfl ?_
   have f2 := l_eqItem.eq_1 a0 a1; simp only [h1, h2, cond_t, cond_f] at f2; simp [f2]
  ·have q2 := h2; try simp at q2
   simp
   refine cR (l_eqDocument_ok a0.Doc a1.Doc) ?_
   simp
   refine cC (!(l_eqDocument a0.Doc a1.Doc)) (fun k3 h3 => ?_) (fun k3 h3 => ?_)
   ·have q3 := h3; try simp at q3
    simp
    refine retRd (rv := [.tmp 4]) rfl ?_
    have f3 := l_eqItem.eq_1 a0 a1; simp only [h1, h2, h3, cond_t, cond_f] at f3; simp [f3]
   ·have q3 := h3; try simp at q3
    simp
    refine cR (l_eqSignature_ok a0.Sig a1.Sig) ?_
    simp
    refine cC (!(l_eqSignature a0.Sig a1.Sig)) (fun k4 h4 => ?_) (fun k4 h4 => ?_)
    ·have q4 := h4; try simp at q4
     simp
     refine retRd (rv := [.tmp 4]) rfl ?_
     have f4 := l_eqItem.eq_1 a0 a1; simp only [h1, h2, h3, h4, cond_t, cond_f] at f4; simp [f4]
    ·have q4 := h4; try simp at q4
     simp
     refine cR (l_eqStrand_ok a0.Strand a1.Strand) ?_
     simp
     refine cC (!(l_eqStrand a0.Strand a1.Strand)) (fun k5 h5 => ?_) (fun k5 h5 => ?_)
     ·have q5 := h5; try simp at q5
      simp
      refine retRd (rv := [.tmp 4]) rfl ?_
      have f5 := l_eqItem.eq_1 a0 a1; simp only [h1, h2, h3, h4, h5, cond_t, cond_f] at f5; simp [f5]
     ·have q5 := h5; try simp at q5
      simp
      refine retRd (rv := [.tmp 4]) rfl ?_
      have f6 := l_eqItem.eq_1 a0 a1; simp only [h1, h2, h3, h4, h5, cond_t, cond_f] at f6; simp [f6]
theorem l_eqItemS_ok (a0 : List TItem) (a1 : List TItem) : SoundAt Tryz.prog 194 false [[.sl 16 (a0.map TItem.row)], [.sl 16 (a1.map TItem.row)]] [[.bool (l_eqItemS a0 a1)]] := by
 refine sound_of Tryz.func194 rfl (by kernel_rfl) ?_
 simp [Tryz.ntmps194]
 refine cC ((↑a0.length : Int) != (↑a1.length : Int)) (fun k1 h1 => ?_) (fun k1 h1 => ?_)
 ·have q1 := h1; try simp at q1
  simp
  refine retRd (rv := [.tmp 4]) rfl ?_
  have f1 := l_eqItemS.eq_1 a0 a1; simp only [h1, cond_t, cond_f] at f1; simp [f1]
 ·have q1 := h1; try simp at q1
  simp
  refine okL fun k2 => ?_
  refine loopI (ι := { s : Nat × Nat // l_eqItemS_1 a0 a1 s.1 s.2 = l_eqItemS_1 a0 a1 (a0.length + 1) 0 ∧ (1 ≤ s.1 ∧ a0.length < s.1 + s.2 ∧ s.2 ≤ a0.length) }) (fun s => stOf 27 [eL 0 16 a0 TItem.row, eL 1 16 a1 TItem.row, eI 5 (↑s.1.2 : Int)]) (fun s => s.1.1) ⟨((a0.length + 1), 0), rfl, by first | omega | (dsimp only; omega) | simp⟩ (wk_keep (by simp)) ?_
  rintro ⟨⟨n1, v1_0⟩, e1, j1⟩
  try dsimp only at e1 j1
  obtain ⟨p1, rfl⟩ : ∃ p, n1 = p + 1 := ⟨n1 - 1, by omega⟩
  simp
  refine cC (decide ((↑v1_0 : Int) < (↑a0.length : Int))) (fun k3 h2 => ?_) (fun k3 h2 => ?_)
  ·have q2 := h2; try simp at q2
   have i1 : v1_0 < a0.length := by simpa using h2
   have m2 : a0.length ≤ 9223372036854775807 := by simpa using k3 0 _ rfl
   have w1 : IntKind.i64.wrap ((v1_0 : Int) + 1) = (v1_0 : Int) + 1 := wrap_of (by omega) (by omega)
   simp
   refine okD fun k4 => ?_
   refine drawI mixed (by kernel_rfl) (by kernel_rfl) ?_
   have i2 : v1_0 < a1.length := il
   simp [i1, rowAt_map, i2]
   repeat with_reducible refine sd ?_
   refine cR (l_eqItem_ok (nth a0 v1_0) (nth a1 v1_0)) ?_
   simp
   refine cC (!(l_eqItem (nth a0 v1_0) (nth a1 v1_0))) (fun k5 h3 => ?_) (fun k5 h3 => ?_)
   ·have q3 := h3; try simp at q3
    have x1 : l_eqItemS_1 a0 a1 (a0.length + 1) 0 = .inl false := by rw [← e1]; simp only [l_eqItemS_1, h2, h3, cond_t, cond_f]
    simp
    refine retRd (rv := [.tmp 4]) rfl ?_
    have f2 := l_eqItemS.eq_1 a0 a1; simp only [h1, x1, cond_t, cond_f] at f2; simp [f2]
   ·have q3 := h3; try simp at q3
    simp
    refine nxtI ⟨(p1, (v1_0 + 1)), ?_, ?_⟩ (by simp) (wk_keep (by simp [w1]))
    · rw [← e1]; simp only [l_eqItemS_1, h2, h3, cond_t, cond_f]
    · first | omega | (simp at *; omega)
  ·have q2 := h2; try simp at q2
   have x2 : l_eqItemS_1 a0 a1 (a0.length + 1) 0 = .inr () := by rw [← e1]; simp only [l_eqItemS_1, h2, cond_t, cond_f]
   simp
   refine retRd (rv := [.tmp 4]) rfl ?_
   have f3 := l_eqItemS.eq_1 a0 a1; simp only [h1, x2, cond_t, cond_f] at f3; simp [f3]
theorem l_eqArchive_ok (a0 : TArchive) (a1 : TArchive) : SoundAt Tryz.prog 123 false [a0.row, a1.row] [[.bool (l_eqArchive a0 a1)]] := by
 refine sound_of Tryz.func123 rfl (by kernel_rfl) ?_
 simp [Tryz.ntmps123]
 refine cC (a0.Id != a1.Id) (fun k1 h1 => ?_) (fun k1 h1 => ?_)
 ·have q1 := h1; try simp at q1
  simp
  refine retRd (rv := [.tmp 4]) rfl ?_
  have f1 := l_eqArchive.eq_1 a0 a1; simp only [h1, cond_t, cond_f] at f1; simp [f1]
 ·have q1 := h1; try simp at q1
  simp
  refine cR (l_eqItemS_ok a0.Items a1.Items) ?_
  simp
  refine cC (!(l_eqItemS a0.Items a1.Items)) (fun k2 h2 => ?_) (fun k2 h2 => ?_)
  ·have q2 := h2; try simp at q2
   simp
   refine retRd (rv := [.tmp 4]) rfl ?_
   have f2 := l_eqArchive.eq_1 a0 a1; simp only [h1, h2, cond_t, cond_f] at f2; simp [f2]
  ·have q2 := h2; try simp at q2
   simp
   refine retRd (rv := [.tmp 4]) rfl ?_
   have f3 := l_eqArchive.eq_1 a0 a1; simp only [h1, h2, cond_t, cond_f] at f3; simp [f3]
theorem l_eqArchiveS_ok (a0 : List TArchive) (a1 : List TArchive) : SoundAt Tryz.prog 59 false [[.sl 2 (a0.map TArchive.row)], [.sl 2 (a1.map TArchive.row)]] [[.bool (l_eqArchiveS a0 a1)]] := by
 refine sound_of Tryz.func59 rfl (by kernel_rfl) ?_
 simp [Tryz.ntmps59]
 refine cC ((↑a0.length : Int) != (↑a1.length : Int)) (fun k1 h1 => ?_) (fun k1 h1 => ?_)
 ·have q1 := h1; try simp at q1
  simp
  refine retRd (rv := [.tmp 4]) rfl ?_
  have f1 := l_eqArchiveS.eq_1 a0 a1; simp only [h1, cond_t, cond_f] at f1; simp [f1]
 ·have q1 := h1; try simp at q1
  simp
  refine okL fun k2 => ?_
  refine loopI (ι := { s : Nat × Nat // l_eqArchiveS_1 a0 a1 s.1 s.2 = l_eqArchiveS_1 a0 a1 (a0.length + 1) 0 ∧ (1 ≤ s.1 ∧ a0.length < s.1 + s.2 ∧ s.2 ≤ a0.length) }) (fun s => stOf 27 [eL 0 2 a0 TArchive.row, eL 1 2 a1 TArchive.row, eI 5 (↑s.1.2 : Int)]) (fun s => s.1.1) ⟨((a0.length + 1), 0), rfl, by first | omega | (dsimp only; omega) | simp⟩ (wk_keep (by simp)) ?_
  rintro ⟨⟨n1, v1_0⟩, e1, j1⟩
  try dsimp only at e1 j1
  obtain ⟨p1, rfl⟩ : ∃ p, n1 = p + 1 := ⟨n1 - 1, by omega⟩
  simp
  refine cC (decide ((↑v1_0 : Int) < (↑a0.length : Int))) (fun k3 h2 => ?_) (fun k3 h2 => ?_)
  ·have q2 := h2; try simp at q2
   have i1 : v1_0 < a0.length := by simpa using h2
   have m2 : a0.length ≤ 9223372036854775807 := by simpa using k3 0 _ rfl
   have w1 : IntKind.i64.wrap ((v1_0 : Int) + 1) = (v1_0 : Int) + 1 := wrap_of (by omega) (by omega)
   simp
   refine okD fun k4 => ?_
   refine drawI mixed (by kernel_rfl) (by kernel_rfl) ?_
   have i2 : v1_0 < a1.length := il
   simp [i1, rowAt_map, i2]
   repeat with_reducible refine sd ?_
   refine cR (l_eqArchive_ok (nth a0 v1_0) (nth a1 v1_0)) ?_
   simp
   refine cC (!(l_eqArchive (nth a0 v1_0) (nth a1 v1_0))) (fun k5 h3 => ?_) (fun k5 h3 => ?_)
   ·have q3 := h3; try simp at q3
    have x1 : l_eqArchiveS_1 a0 a1 (a0.length + 1) 0 = .inl false := by rw [← e1]; simp only [l_eqArchiveS_1, h2, h3, cond_t, cond_f]
    simp
    refine retRd (rv := [.tmp 4]) rfl ?_
    have f2 := l_eqArchiveS.eq_1 a0 a1; simp only [h1, x1, cond_t, cond_f] at f2; simp [f2]
   ·have q3 := h3; try simp at q3
    simp
    refine nxtI ⟨(p1, (v1_0 + 1)), ?_, ?_⟩ (by simp) (wk_keep (by simp [w1]))
    · rw [← e1]; simp only [l_eqArchiveS_1, h2, h3, cond_t, cond_f]
    · first | omega | (simp at *; omega)
  ·have q2 := h2; try simp at q2
   have x2 : l_eqArchiveS_1 a0 a1 (a0.length + 1) 0 = .inr () := by rw [← e1]; simp only [l_eqArchiveS_1, h2, cond_t, cond_f]
   simp
   refine retRd (rv := [.tmp 4]) rfl ?_
   have f3 := l_eqArchiveS.eq_1 a0 a1; simp only [h1, x2, cond_t, cond_f] at f3; simp [f3]
theorem l_eqWorld_ok (a0 : TWorld) (a1 : TWorld) : SoundAt Tryz.prog 18 false [a0.row, a1.row] [[.bool (l_eqWorld a0 a1)]] := by
 refine sound_of Tryz.func18 rfl (by kernel_rfl) ?_
 simp [Tryz.ntmps18]
 refine cR (l_eqFrame_ok a0.Frame a1.Frame) ?_
 simp
 refine cC (!(l_eqFrame a0.Frame a1.Frame)) (fun k1 h1 => ?_) (fun k1 h1 => ?_)
 ·have q1 := h1; try simp at q1
  simp
  refine retRd (rv := [.tmp 4]) rfl ?_
  have f1 := l_eqWorld.eq_1 a0 a1; simp only [h1, cond_t, cond_f] at f1; simp [f1]
 ·have q1 := h1; try simp at q1
  simp
  refine cR (l_eqCertS_ok a0.Certs a1.Certs) ?_
  simp
  refine cC (!(l_eqCertS a0.Certs a1.Certs)) (fun k2 h2 => ?_) (fun k2 h2 => ?_)
  ·have q2 := h2; try simp at q2
   simp
   refine retRd (rv := [.tmp 4]) rfl ?_
   have f2 := l_eqWorld.eq_1 a0 a1; simp only [h1, h2, cond_t, cond_f] at f2; simp [f2]
  ·have q2 := h2; try simp at q2
   simp
   refine cR (l_eqIntS_ok a0.Ended a1.Ended) ?_
   simp
   refine cC (!(l_eqIntS a0.Ended a1.Ended)) (fun k3 h3 => ?_) (fun k3 h3 => ?_)
   ·have q3 := h3; try simp at q3
    simp
    refine retRd (rv := [.tmp 4]) rfl ?_
    have f3 := l_eqWorld.eq_1 a0 a1; simp only [h1, h2, h3, cond_t, cond_f] at f3; simp [f3]
   ·have q3 := h3; try simp at q3
    simp
    refine cR (l_eqArchiveS_ok a0.Archives a1.Archives) ?_
    simp
    refine cC (!(l_eqArchiveS a0.Archives a1.Archives)) (fun k4 h4 => ?_) (fun k4 h4 => ?_)
    ·have q4 := h4; try simp at q4
     simp
     refine retRd (rv := [.tmp 4]) rfl ?_
     have f4 := l_eqWorld.eq_1 a0 a1; simp only [h1, h2, h3, h4, cond_t, cond_f] at f4; simp [f4]
    ·have q4 := h4; try simp at q4
     simp
     refine cR (l_eqIntS_ok a0.Seqs a1.Seqs) ?_
     simp
     refine cC (!(l_eqIntS a0.Seqs a1.Seqs)) (fun k5 h5 => ?_) (fun k5 h5 => ?_)
     ·have q5 := h5; try simp at q5
      simp
      refine retRd (rv := [.tmp 4]) rfl ?_
      have f5 := l_eqWorld.eq_1 a0 a1; simp only [h1, h2, h3, h4, h5, cond_t, cond_f] at f5; simp [f5]
     ·have q5 := h5; try simp at q5
      simp
      refine cR (l_eqIntS_ok a0.Lying a1.Lying) ?_
      simp
      refine cC (!(l_eqIntS a0.Lying a1.Lying)) (fun k6 h6 => ?_) (fun k6 h6 => ?_)
      ·have q6 := h6; try simp at q6
       simp
       refine retRd (rv := [.tmp 4]) rfl ?_
       have f6 := l_eqWorld.eq_1 a0 a1; simp only [h1, h2, h3, h4, h5, h6, cond_t, cond_f] at f6; simp [f6]
      ·have q6 := h6; try simp at q6
       simp
       refine cC (a0.Next != a1.Next) (fun k7 h7 => ?_) (fun k7 h7 => ?_)
       ·have q7 := h7; try simp at q7
        simp
        refine retRd (rv := [.tmp 4]) rfl ?_
        have f7 := l_eqWorld.eq_1 a0 a1; simp only [h1, h2, h3, h4, h5, h6, h7, cond_t, cond_f] at f7; simp [f7]
       ·have q7 := h7; try simp at q7
        simp
        refine cR (l_eqIntS_ok a0.Forged a1.Forged) ?_
        simp
        refine cC (!(l_eqIntS a0.Forged a1.Forged)) (fun k8 h8 => ?_) (fun k8 h8 => ?_)
        ·have q8 := h8; try simp at q8
         simp
         refine retRd (rv := [.tmp 4]) rfl ?_
         have f8 := l_eqWorld.eq_1 a0 a1; simp only [h1, h2, h3, h4, h5, h6, h7, h8, cond_t, cond_f] at f8; simp [f8]
        ·have q8 := h8; try simp at q8
         simp
         refine retRd (rv := [.tmp 4]) rfl ?_
         have f9 := l_eqWorld.eq_1 a0 a1; simp only [h1, h2, h3, h4, h5, h6, h7, h8, cond_t, cond_f] at f9; simp [f9]
theorem l_markKeyS_ok (a0 : List TKey) (a1 : Int) : SoundM Tryz.prog 124 [.sl 5 (a0.map TKey.row)] [[.int .i64 a1]] [.sl 5 ((l_markKeyS a0 a1).1.map TKey.row)] (.int .i64 (l_markKeyS a0 a1).2) := by
 refine sound_ofM Tryz.func124 rfl (by kernel_rfl) (fun v => ?_)
 simp [Tryz.ntmps124]
 refine okL fun k1 => ?_
 refine loopI (ι := { s : Nat × Int × Nat × (List TKey) // l_markKeyS_1 s.1 s.2.1 s.2.2.1 s.2.2.2 = l_markKeyS_1 (a0.length + 1) a1 0 a0 ∧ (1 ≤ s.1 ∧ s.2.2.2.length < s.1 + s.2.2.1) }) (fun s => stOf 48 [(0, .fix v (.one (.sref 0 0 0 s.1.2.2.2.length)), [.arr true 5 (s.1.2.2.2.map TKey.row)]), eI 1 s.1.2.1, eI 5 (↑s.1.2.2.1 : Int)]) (fun s => s.1.1) ⟨((a0.length + 1), a1, 0, a0), rfl, by first | omega | (dsimp only; omega) | simp⟩ (wk_keep (by simp)) ?_
 rintro ⟨⟨n1, v1_0, v1_1, v1_2⟩, e1, j1⟩
 try dsimp only at e1 j1
 obtain ⟨p1, rfl⟩ : ∃ p, n1 = p + 1 := ⟨n1 - 1, by omega⟩
 simp
 refine cC (decide ((↑v1_1 : Int) < (↑v1_2.length : Int))) (fun k2 h1 => ?_) (fun k2 h1 => ?_)
 ·have q1 := h1; try simp at q1
  have i1 : v1_1 < v1_2.length := by simpa using h1
  have m2 : v1_2.length ≤ 9223372036854775807 := by simpa using k2 0 _ rfl
  have w1 : IntKind.i64.wrap ((v1_1 : Int) + 1) = (v1_1 : Int) + 1 := wrap_of (by omega) (by omega)
  simp [i1, rowAt_map, set_map (x := (TKey.mk v1_0 (nth v1_2 v1_1).Owner (nth v1_2 v1_1).Method (nth v1_2 v1_1).Born (nth v1_2 v1_1).Secret)) rfl, rowAt_set_self, List.set_set, set_map (x := (TKey.mk v1_0 (W (v1_0 + 1)) (nth v1_2 v1_1).Method (nth v1_2 v1_1).Born (nth v1_2 v1_1).Secret)) rfl, set_map (x := (TKey.mk v1_0 (W (v1_0 + 1)) (W ((W (v1_0 + 1)) + 1)) (nth v1_2 v1_1).Born (nth v1_2 v1_1).Secret)) rfl, set_map (x := (TKey.mk v1_0 (W (v1_0 + 1)) (W ((W (v1_0 + 1)) + 1)) (W ((W ((W (v1_0 + 1)) + 1)) + 1)) (nth v1_2 v1_1).Secret)) rfl, set_map (x := (TKey.mk v1_0 (W (v1_0 + 1)) (W ((W (v1_0 + 1)) + 1)) (W ((W ((W (v1_0 + 1)) + 1)) + 1)) (W ((W ((W ((W (v1_0 + 1)) + 1)) + 1)) + 1)))) rfl]
  repeat with_reducible refine sd ?_
  refine nxtI ⟨(p1, (W ((W ((W ((W ((W (v1_0 + 1)) + 1)) + 1)) + 1)) + 1)), (v1_1 + 1), (v1_2.set v1_1 (TKey.mk v1_0 (W (v1_0 + 1)) (W ((W (v1_0 + 1)) + 1)) (W ((W ((W (v1_0 + 1)) + 1)) + 1)) (W ((W ((W ((W (v1_0 + 1)) + 1)) + 1)) + 1))))), ?_, ?_⟩ (by simp) (wk_keep (by simp [w1]))
  · rw [← e1]; simp only [l_markKeyS_1, h1, cond_t, cond_f]
  · (simp; omega)
 ·have q1 := h1; try simp at q1
  have x1 : l_markKeyS_1 (a0.length + 1) a1 0 a0 = (v1_0, v1_2) := by rw [← e1]; simp only [l_markKeyS_1, h1, cond_t, cond_f]
  simp
  refine retM (rv := [.tmp 4]) rfl ?_
  have f1 := l_markKeyS.eq_1 a0 a1; simp only [x1, cond_t, cond_f] at f1; simp [f1]
theorem l_markAuthorityS_ok (a0 : List TAuthority) (a1 : Int) : SoundM Tryz.prog 125 [.sl 3 (a0.map TAuthority.row)] [[.int .i64 a1]] [.sl 3 ((l_markAuthorityS a0 a1).1.map TAuthority.row)] (.int .i64 (l_markAuthorityS a0 a1).2) := by
 refine sound_ofM Tryz.func125 rfl (by kernel_rfl) (fun v => ?_)
 simp [Tryz.ntmps125]
 refine okL fun k1 => ?_
 refine loopI (ι := { s : Nat × Int × Nat × (List TAuthority) // l_markAuthorityS_1 s.1 s.2.1 s.2.2.1 s.2.2.2 = l_markAuthorityS_1 (a0.length + 1) a1 0 a0 ∧ (1 ≤ s.1 ∧ s.2.2.2.length < s.1 + s.2.2.1) }) (fun s => stOf 34 [(0, .fix v (.one (.sref 0 0 0 s.1.2.2.2.length)), [.arr true 3 (s.1.2.2.2.map TAuthority.row)]), eI 1 s.1.2.1, eI 5 (↑s.1.2.2.1 : Int)]) (fun s => s.1.1) ⟨((a0.length + 1), a1, 0, a0), rfl, by first | omega | (dsimp only; omega) | simp⟩ (wk_keep (by simp)) ?_
 rintro ⟨⟨n1, v1_0, v1_1, v1_2⟩, e1, j1⟩
 try dsimp only at e1 j1
 obtain ⟨p1, rfl⟩ : ∃ p, n1 = p + 1 := ⟨n1 - 1, by omega⟩
 simp
 refine cC (decide ((↑v1_1 : Int) < (↑v1_2.length : Int))) (fun k2 h1 => ?_) (fun k2 h1 => ?_)
 ·have q1 := h1; try simp at q1
  have i1 : v1_1 < v1_2.length := by simpa using h1
  have m2 : v1_2.length ≤ 9223372036854775807 := by simpa using k2 0 _ rfl
  have w1 : IntKind.i64.wrap ((v1_1 : Int) + 1) = (v1_1 : Int) + 1 := wrap_of (by omega) (by omega)
  simp [i1, rowAt_map, set_map (x := (TAuthority.mk v1_0 (nth v1_2 v1_1).Key (nth v1_2 v1_1).Error)) rfl, rowAt_set_self, List.set_set, set_map (x := (TAuthority.mk v1_0 (W (v1_0 + 1)) (nth v1_2 v1_1).Error)) rfl, set_map (x := (TAuthority.mk v1_0 (W (v1_0 + 1)) (W ((W (v1_0 + 1)) + 1)))) rfl]
  repeat with_reducible refine sd ?_
  refine nxtI ⟨(p1, (W ((W ((W (v1_0 + 1)) + 1)) + 1)), (v1_1 + 1), (v1_2.set v1_1 (TAuthority.mk v1_0 (W (v1_0 + 1)) (W ((W (v1_0 + 1)) + 1))))), ?_, ?_⟩ (by simp) (wk_keep (by simp [w1]))
  · rw [← e1]; simp only [l_markAuthorityS_1, h1, cond_t, cond_f]
  · (simp; omega)
 ·have q1 := h1; try simp at q1
  have x1 : l_markAuthorityS_1 (a0.length + 1) a1 0 a0 = (v1_0, v1_2) := by rw [← e1]; simp only [l_markAuthorityS_1, h1, cond_t, cond_f]
  simp
  refine retM (rv := [.tmp 4]) rfl ?_
  have f1 := l_markAuthorityS.eq_1 a0 a1; simp only [x1, cond_t, cond_f] at f1; simp [f1]
theorem l_markMethodS_ok (a0 : List TMethod) (a1 : Int) : SoundM Tryz.prog 126 [.sl 4 (a0.map TMethod.row)] [[.int .i64 a1]] [.sl 4 ((l_markMethodS a0 a1).1.map TMethod.row)] (.int .i64 (l_markMethodS a0 a1).2) := by
 refine sound_ofM Tryz.func126 rfl (by kernel_rfl) (fun v => ?_)
 simp [Tryz.ntmps126]
 refine okL fun k1 => ?_
 refine loopI (ι := { s : Nat × Int × Nat × (List TMethod) // l_markMethodS_1 s.1 s.2.1 s.2.2.1 s.2.2.2 = l_markMethodS_1 (a0.length + 1) a1 0 a0 ∧ (1 ≤ s.1 ∧ s.2.2.2.length < s.1 + s.2.2.1) }) (fun s => stOf 41 [(0, .fix v (.one (.sref 0 0 0 s.1.2.2.2.length)), [.arr true 4 (s.1.2.2.2.map TMethod.row)]), eI 1 s.1.2.1, eI 5 (↑s.1.2.2.1 : Int)]) (fun s => s.1.1) ⟨((a0.length + 1), a1, 0, a0), rfl, by first | omega | (dsimp only; omega) | simp⟩ (wk_keep (by simp)) ?_
 rintro ⟨⟨n1, v1_0, v1_1, v1_2⟩, e1, j1⟩
 try dsimp only at e1 j1
 obtain ⟨p1, rfl⟩ : ∃ p, n1 = p + 1 := ⟨n1 - 1, by omega⟩
 simp
 refine cC (decide ((↑v1_1 : Int) < (↑v1_2.length : Int))) (fun k2 h1 => ?_) (fun k2 h1 => ?_)
 ·have q1 := h1; try simp at q1
  have i1 : v1_1 < v1_2.length := by simpa using h1
  have m2 : v1_2.length ≤ 9223372036854775807 := by simpa using k2 0 _ rfl
  have w1 : IntKind.i64.wrap ((v1_1 : Int) + 1) = (v1_1 : Int) + 1 := wrap_of (by omega) (by omega)
  simp [i1, rowAt_map, set_map (x := (TMethod.mk v1_0 (nth v1_2 v1_1).Known (nth v1_2 v1_1).Ends (nth v1_2 v1_1).Broken)) rfl, rowAt_set_self, List.set_set, set_map (x := (TMethod.mk v1_0 (W (v1_0 + 1)) (nth v1_2 v1_1).Ends (nth v1_2 v1_1).Broken)) rfl, set_map (x := (TMethod.mk v1_0 (W (v1_0 + 1)) (W ((W (v1_0 + 1)) + 1)) (nth v1_2 v1_1).Broken)) rfl, set_map (x := (TMethod.mk v1_0 (W (v1_0 + 1)) (W ((W (v1_0 + 1)) + 1)) (W ((W ((W (v1_0 + 1)) + 1)) + 1)))) rfl]
  repeat with_reducible refine sd ?_
  refine nxtI ⟨(p1, (W ((W ((W ((W (v1_0 + 1)) + 1)) + 1)) + 1)), (v1_1 + 1), (v1_2.set v1_1 (TMethod.mk v1_0 (W (v1_0 + 1)) (W ((W (v1_0 + 1)) + 1)) (W ((W ((W (v1_0 + 1)) + 1)) + 1))))), ?_, ?_⟩ (by simp) (wk_keep (by simp [w1]))
  · rw [← e1]; simp only [l_markMethodS_1, h1, cond_t, cond_f]
  · (simp; omega)
 ·have q1 := h1; try simp at q1
  have x1 : l_markMethodS_1 (a0.length + 1) a1 0 a0 = (v1_0, v1_2) := by rw [← e1]; simp only [l_markMethodS_1, h1, cond_t, cond_f]
  simp
  refine retM (rv := [.tmp 4]) rfl ?_
  have f1 := l_markMethodS.eq_1 a0 a1; simp only [x1, cond_t, cond_f] at f1; simp [f1]
theorem l_markFrame_ok (a0 : TFrame) (a1 : Int) : SoundM Tryz.prog 60 a0.row [[.int .i64 a1]] (l_markFrame a0 a1).1.row (.int .i64 (l_markFrame a0 a1).2) := by
 refine sound_ofM Tryz.func60 rfl (by kernel_rfl) (fun v => ?_)
 simp [Tryz.ntmps60]
 refine callMO (ats := [.sref 0 0 0 a0.Keys.length]) rfl rfl rfl rfl rfl rfl rfl (l_markKeyS_ok a0.Keys a1) (by simp) (by simp) (by simp) (by simp) (by simp) (by simp) (by simp) (by simp) (by simp) ?_
 simp
 refine callMO (ats := [.sref 0 1 0 a0.Authorities.length]) rfl rfl rfl rfl rfl rfl rfl (l_markAuthorityS_ok a0.Authorities (l_markKeyS a0.Keys a1).2) (by simp) (by simp) (by simp) (by simp) (by simp) (by simp) (by simp) (by simp) (by simp) ?_
 simp
 refine callMO (ats := [.sref 0 2 0 a0.Methods.length]) rfl rfl rfl rfl rfl rfl rfl (l_markMethodS_ok a0.Methods (l_markAuthorityS a0.Authorities (l_markKeyS a0.Keys a1).2).2) (by simp) (by simp) (by simp) (by simp) (by simp) (by simp) (by simp) (by simp) (by simp) ?_
 simp
 refine retM (rv := [.tmp 4]) rfl ?_
 have f1 := l_markFrame.eq_1 a0 a1; simp [f1]
theorem l_markCertS_ok (a0 : List TCert) (a1 : Int) : SoundM Tryz.prog 61 [.sl 7 (a0.map TCert.row)] [[.int .i64 a1]] [.sl 7 ((l_markCertS a0 a1).1.map TCert.row)] (.int .i64 (l_markCertS a0 a1).2) := by
 refine sound_ofM Tryz.func61 rfl (by kernel_rfl) (fun v => ?_)
 simp [Tryz.ntmps61]
 refine okL fun k1 => ?_
 refine loopI (ι := { s : Nat × Int × Nat × (List TCert) // l_markCertS_1 s.1 s.2.1 s.2.2.1 s.2.2.2 = l_markCertS_1 (a0.length + 1) a1 0 a0 ∧ (1 ≤ s.1 ∧ s.2.2.2.length < s.1 + s.2.2.1) }) (fun s => stOf 62 [(0, .fix v (.one (.sref 0 0 0 s.1.2.2.2.length)), [.arr true 7 (s.1.2.2.2.map TCert.row)]), eI 1 s.1.2.1, eI 5 (↑s.1.2.2.1 : Int)]) (fun s => s.1.1) ⟨((a0.length + 1), a1, 0, a0), rfl, by first | omega | (dsimp only; omega) | simp⟩ (wk_keep (by simp)) ?_
 rintro ⟨⟨n1, v1_0, v1_1, v1_2⟩, e1, j1⟩
 try dsimp only at e1 j1
 obtain ⟨p1, rfl⟩ : ∃ p, n1 = p + 1 := ⟨n1 - 1, by omega⟩
 simp
 refine cC (decide ((↑v1_1 : Int) < (↑v1_2.length : Int))) (fun k2 h1 => ?_) (fun k2 h1 => ?_)
 ·have q1 := h1; try simp at q1
  have i1 : v1_1 < v1_2.length := by simpa using h1
  have m2 : v1_2.length ≤ 9223372036854775807 := by simpa using k2 0 _ rfl
  have w1 : IntKind.i64.wrap ((v1_1 : Int) + 1) = (v1_1 : Int) + 1 := wrap_of (by omega) (by omega)
  simp [i1, rowAt_map, set_map (x := (TCert.mk v1_0 (nth v1_2 v1_1).Key (nth v1_2 v1_1).Owner (nth v1_2 v1_1).From (nth v1_2 v1_1).To (nth v1_2 v1_1).Issuer (nth v1_2 v1_1).Mark)) rfl, rowAt_set_self, List.set_set, set_map (x := (TCert.mk v1_0 (W (v1_0 + 1)) (nth v1_2 v1_1).Owner (nth v1_2 v1_1).From (nth v1_2 v1_1).To (nth v1_2 v1_1).Issuer (nth v1_2 v1_1).Mark)) rfl, set_map (x := (TCert.mk v1_0 (W (v1_0 + 1)) (W ((W (v1_0 + 1)) + 1)) (nth v1_2 v1_1).From (nth v1_2 v1_1).To (nth v1_2 v1_1).Issuer (nth v1_2 v1_1).Mark)) rfl, set_map (x := (TCert.mk v1_0 (W (v1_0 + 1)) (W ((W (v1_0 + 1)) + 1)) (W ((W ((W (v1_0 + 1)) + 1)) + 1)) (nth v1_2 v1_1).To (nth v1_2 v1_1).Issuer (nth v1_2 v1_1).Mark)) rfl, set_map (x := (TCert.mk v1_0 (W (v1_0 + 1)) (W ((W (v1_0 + 1)) + 1)) (W ((W ((W (v1_0 + 1)) + 1)) + 1)) (W ((W ((W ((W (v1_0 + 1)) + 1)) + 1)) + 1)) (nth v1_2 v1_1).Issuer (nth v1_2 v1_1).Mark)) rfl, set_map (x := (TCert.mk v1_0 (W (v1_0 + 1)) (W ((W (v1_0 + 1)) + 1)) (W ((W ((W (v1_0 + 1)) + 1)) + 1)) (W ((W ((W ((W (v1_0 + 1)) + 1)) + 1)) + 1)) (W ((W ((W ((W ((W (v1_0 + 1)) + 1)) + 1)) + 1)) + 1)) (nth v1_2 v1_1).Mark)) rfl, set_map (x := (TCert.mk v1_0 (W (v1_0 + 1)) (W ((W (v1_0 + 1)) + 1)) (W ((W ((W (v1_0 + 1)) + 1)) + 1)) (W ((W ((W ((W (v1_0 + 1)) + 1)) + 1)) + 1)) (W ((W ((W ((W ((W (v1_0 + 1)) + 1)) + 1)) + 1)) + 1)) (W ((W ((W ((W ((W ((W (v1_0 + 1)) + 1)) + 1)) + 1)) + 1)) + 1)))) rfl]
  repeat with_reducible refine sd ?_
  refine nxtI ⟨(p1, (W ((W ((W ((W ((W ((W ((W (v1_0 + 1)) + 1)) + 1)) + 1)) + 1)) + 1)) + 1)), (v1_1 + 1), (v1_2.set v1_1 (TCert.mk v1_0 (W (v1_0 + 1)) (W ((W (v1_0 + 1)) + 1)) (W ((W ((W (v1_0 + 1)) + 1)) + 1)) (W ((W ((W ((W (v1_0 + 1)) + 1)) + 1)) + 1)) (W ((W ((W ((W ((W (v1_0 + 1)) + 1)) + 1)) + 1)) + 1)) (W ((W ((W ((W ((W ((W (v1_0 + 1)) + 1)) + 1)) + 1)) + 1)) + 1))))), ?_, ?_⟩ (by simp) (wk_keep (by simp [w1]))
  · rw [← e1]; simp only [l_markCertS_1, h1, cond_t, cond_f]
  · (simp; omega)
 ·have q1 := h1; try simp at q1
  have x1 : l_markCertS_1 (a0.length + 1) a1 0 a0 = (v1_0, v1_2) := by rw [← e1]; simp only [l_markCertS_1, h1, cond_t, cond_f]
  simp
  refine retM (rv := [.tmp 4]) rfl ?_
  have f1 := l_markCertS.eq_1 a0 a1; simp only [x1, cond_t, cond_f] at f1; simp [f1]
theorem l_markIntS_ok (a0 : List Int) (a1 : Int) : SoundM Tryz.prog 20 [.sl 1 (a0.map iR)] [[.int .i64 a1]] [.sl 1 ((l_markIntS a0 a1).1.map iR)] (.int .i64 (l_markIntS a0 a1).2) := by
 refine sound_ofM Tryz.func20 rfl (by kernel_rfl) (fun v => ?_)
 simp [Tryz.ntmps20]
 refine okL fun k1 => ?_
 refine loopI (ι := { s : Nat × Int × Nat × (List Int) // l_markIntS_1 s.1 s.2.1 s.2.2.1 s.2.2.2 = l_markIntS_1 (a0.length + 1) a1 0 a0 ∧ (1 ≤ s.1 ∧ s.2.2.2.length < s.1 + s.2.2.1) }) (fun s => stOf 19 [(0, .fix v (.one (.sref 0 0 0 s.1.2.2.2.length)), [.arr true 1 (s.1.2.2.2.map iR)]), eI 1 s.1.2.1, eI 5 (↑s.1.2.2.1 : Int)]) (fun s => s.1.1) ⟨((a0.length + 1), a1, 0, a0), rfl, by first | omega | (dsimp only; omega) | simp⟩ (wk_keep (by simp)) ?_
 rintro ⟨⟨n1, v1_0, v1_1, v1_2⟩, e1, j1⟩
 try dsimp only at e1 j1
 obtain ⟨p1, rfl⟩ : ∃ p, n1 = p + 1 := ⟨n1 - 1, by omega⟩
 simp
 refine cC (decide ((↑v1_1 : Int) < (↑v1_2.length : Int))) (fun k2 h1 => ?_) (fun k2 h1 => ?_)
 ·have q1 := h1; try simp at q1
  have i1 : v1_1 < v1_2.length := by simpa using h1
  have m2 : v1_2.length ≤ 9223372036854775807 := by simpa using k2 0 _ rfl
  have w1 : IntKind.i64.wrap ((v1_1 : Int) + 1) = (v1_1 : Int) + 1 := wrap_of (by omega) (by omega)
  simp [i1, rowAt_map, set_map (x := v1_0) rfl, rowAt_set_self]
  repeat with_reducible refine sd ?_
  refine nxtI ⟨(p1, (W (v1_0 + 1)), (v1_1 + 1), (v1_2.set v1_1 v1_0)), ?_, ?_⟩ (by simp) (wk_keep (by simp [w1]))
  · rw [← e1]; simp only [l_markIntS_1, h1, cond_t, cond_f]
  · (simp; omega)
 ·have q1 := h1; try simp at q1
  have x1 : l_markIntS_1 (a0.length + 1) a1 0 a0 = (v1_0, v1_2) := by rw [← e1]; simp only [l_markIntS_1, h1, cond_t, cond_f]
  simp
  refine retM (rv := [.tmp 4]) rfl ?_
  have f1 := l_markIntS.eq_1 a0 a1; simp only [x1, cond_t, cond_f] at f1; simp [f1]
theorem l_markText_ok (a0 : Int) : SoundAt Tryz.prog 163 false [[.int .i64 a0]] [[.str (l_markText a0)]] := by
 refine sound_of Tryz.func163 rfl (by kernel_rfl) ?_
 simp [Tryz.ntmps163]
 refine cC (decide (a0 ≤ 0)) (fun k1 h1 => ?_) (fun k1 h1 => ?_)
 ·have q1 := h1; try simp at q1
  simp
  refine retRd (rv := [.tmp 2]) rfl ?_
  have f1 := l_markText.eq_1 a0; simp only [h1, cond_t, cond_f] at f1; simp [f1]
 ·have q1 := h1; try simp at q1
  simp
  refine okL fun k2 => ?_
  refine loopI (ι := { s : Nat × Int × ByteArray // l_markText_1 s.1 s.2.1 s.2.2 = l_markText_1 22 a0 (⟨#[]⟩ : ByteArray) ∧ (1 ≤ s.1 ∧ (s.1 = 22 ∨ s.2.1.natAbs < 10 ^ (s.1 - 1)) ∧ s.2.2.size + s.1 = 22) }) (fun s => stOf 20 [eI 0 s.1.2.1, (3, .one (.d (.str s.1.2.2)), [])]) (fun s => s.1.1) ⟨(22, a0, (⟨#[]⟩ : ByteArray)), rfl, by exact ⟨by omega, .inl rfl, rfl⟩⟩ (wk_keep (by simp)) ?_
  rintro ⟨⟨n1, v1_0, v1_1⟩, e1, j1⟩
  try dsimp only at e1 j1
  obtain ⟨p1, rfl⟩ : ∃ p, n1 = p + 1 := ⟨n1 - 1, by omega⟩
  simp
  refine cC (decide (v1_0 > 0)) (fun k3 h2 => ?_) (fun k3 h2 => ?_)
  ·have q2 := h2; try simp at q2
   simp
   refine toStr (l := ([(UInt8.ofInt (W (48 + (Int.tmod v1_0 10))))] : List UInt8)) rfl rfl rfl (by simp) (by simp) (by simp) (by simp [SrcRows, bRows]) ?_
   simp
   repeat with_reducible refine sd ?_
   refine nxtI ⟨(p1, (W (Int.tdiv v1_0 10)), ((⟨([(UInt8.ofInt (W (48 + (Int.tmod v1_0 10))))] : List UInt8).toArray⟩ : ByteArray) ++ v1_1)), ?_, ?_⟩ (by simp) (wk_keep (by simp []))
   · rw [← e1]; simp only [l_markText_1, h2, cond_t, cond_f]
   · dsimp only; obtain ⟨s1, s2⟩ := fmt_s j1.2.1 (show (v1_0 != 0) = true by simp at h2 ⊢; omega); refine ⟨s1, s2, ?_⟩; have := j1.2.2; simp; omega
  ·have q2 := h2; try simp at q2
   have x1 : l_markText_1 22 a0 (⟨#[]⟩ : ByteArray) = v1_1 := by rw [← e1]; simp only [l_markText_1, h2, cond_t, cond_f]
   simp
   repeat with_reducible refine sd ?_
   refine retRd (rv := [.tmp 2]) rfl ?_
   have f2 := l_markText.eq_1 a0; simp only [h1, x1, cond_t, cond_f] at f2; simp [f2]
theorem l_markStringS_ok (a0 : List ByteArray) (a1 : Int) : SoundM Tryz.prog 90 [.sl 1 (a0.map sR)] [[.int .i64 a1]] [.sl 1 ((l_markStringS a0 a1).1.map sR)] (.int .i64 (l_markStringS a0 a1).2) := by
 refine sound_ofM Tryz.func90 rfl (by kernel_rfl) (fun v => ?_)
 simp [Tryz.ntmps90]
 refine okL fun k1 => ?_
 refine loopI (ι := { s : Nat × Int × Nat × (List ByteArray) // l_markStringS_1 s.1 s.2.1 s.2.2.1 s.2.2.2 = l_markStringS_1 (a0.length + 1) a1 0 a0 ∧ (1 ≤ s.1 ∧ s.2.2.2.length < s.1 + s.2.2.1) }) (fun s => stOf 20 [(0, .fix v (.one (.sref 0 0 0 s.1.2.2.2.length)), [.arr true 1 (s.1.2.2.2.map sR)]), eI 1 s.1.2.1, eI 5 (↑s.1.2.2.1 : Int)]) (fun s => s.1.1) ⟨((a0.length + 1), a1, 0, a0), rfl, by first | omega | (dsimp only; omega) | simp⟩ (wk_keep (by simp)) ?_
 rintro ⟨⟨n1, v1_0, v1_1, v1_2⟩, e1, j1⟩
 try dsimp only at e1 j1
 obtain ⟨p1, rfl⟩ : ∃ p, n1 = p + 1 := ⟨n1 - 1, by omega⟩
 simp
 refine cC (decide ((↑v1_1 : Int) < (↑v1_2.length : Int))) (fun k2 h1 => ?_) (fun k2 h1 => ?_)
 ·have q1 := h1; try simp at q1
  have i1 : v1_1 < v1_2.length := by simpa using h1
  have m2 : v1_2.length ≤ 9223372036854775807 := by simpa using k2 0 _ rfl
  have w1 : IntKind.i64.wrap ((v1_1 : Int) + 1) = (v1_1 : Int) + 1 := wrap_of (by omega) (by omega)
  simp
  refine cR (l_markText_ok v1_0) ?_
  simp [i1, rowAt_map, set_map (x := (l_markText v1_0)) rfl, rowAt_set_self]
  repeat with_reducible refine sd ?_
  refine nxtI ⟨(p1, (W (v1_0 + 1)), (v1_1 + 1), (v1_2.set v1_1 (l_markText v1_0))), ?_, ?_⟩ (by simp) (wk_keep (by simp [w1]))
  · rw [← e1]; simp only [l_markStringS_1, h1, cond_t, cond_f]
  · (simp; omega)
 ·have q1 := h1; try simp at q1
  have x1 : l_markStringS_1 (a0.length + 1) a1 0 a0 = (v1_0, v1_2) := by rw [← e1]; simp only [l_markStringS_1, h1, cond_t, cond_f]
  simp
  refine retM (rv := [.tmp 4]) rfl ?_
  have f1 := l_markStringS.eq_1 a0 a1; simp only [x1, cond_t, cond_f] at f1; simp [f1]
theorem l_markPieceS_ok (a0 : List TPiece) (a1 : Int) : SoundM Tryz.prog 195 [.sl 3 (a0.map TPiece.row)] [[.int .i64 a1]] [.sl 3 ((l_markPieceS a0 a1).1.map TPiece.row)] (.int .i64 (l_markPieceS a0 a1).2) := by
 refine sound_ofM Tryz.func195 rfl (by kernel_rfl) (fun v => ?_)
 simp [Tryz.ntmps195]
 refine okL fun k1 => ?_
 refine loopI (ι := { s : Nat × Int × Nat × (List TPiece) // l_markPieceS_1 s.1 s.2.1 s.2.2.1 s.2.2.2 = l_markPieceS_1 (a0.length + 1) a1 0 a0 ∧ (1 ≤ s.1 ∧ s.2.2.2.length < s.1 + s.2.2.1) }) (fun s => stOf 34 [(0, .fix v (.one (.sref 0 0 0 s.1.2.2.2.length)), [.arr true 3 (s.1.2.2.2.map TPiece.row)]), eI 1 s.1.2.1, eI 5 (↑s.1.2.2.1 : Int)]) (fun s => s.1.1) ⟨((a0.length + 1), a1, 0, a0), rfl, by first | omega | (dsimp only; omega) | simp⟩ (wk_keep (by simp)) ?_
 rintro ⟨⟨n1, v1_0, v1_1, v1_2⟩, e1, j1⟩
 try dsimp only at e1 j1
 obtain ⟨p1, rfl⟩ : ∃ p, n1 = p + 1 := ⟨n1 - 1, by omega⟩
 simp
 refine cC (decide ((↑v1_1 : Int) < (↑v1_2.length : Int))) (fun k2 h1 => ?_) (fun k2 h1 => ?_)
 ·have q1 := h1; try simp at q1
  have i1 : v1_1 < v1_2.length := by simpa using h1
  have m2 : v1_2.length ≤ 9223372036854775807 := by simpa using k2 0 _ rfl
  have w1 : IntKind.i64.wrap ((v1_1 : Int) + 1) = (v1_1 : Int) + 1 := wrap_of (by omega) (by omega)
  simp [i1, rowAt_map, set_map (x := (TPiece.mk v1_0 (nth v1_2 v1_1).Ints (nth v1_2 v1_1).Mark)) rfl, rowAt_set_self]
  repeat with_reducible refine sd ?_
  refine callMT (t := 0) (j := 0) (i := v1_1) (c := 1) (size := 3) (rows := ((v1_2.set v1_1 (TPiece.mk v1_0 (nth v1_2 v1_1).Ints (nth v1_2 v1_1).Mark)).map TPiece.row)) rfl rfl rfl rfl rfl rfl rfl (l_markIntS_ok (nth v1_2 v1_1).Ints (W (v1_0 + 1))) (by simp) (by simp) (by simp [m2, i1]) (by simp [rowAt_map, rowAt_set_self, m2, i1]) (by simp) (by simp) (by simp) ?_
  simp [List.set_set, set_map (x := (TPiece.mk v1_0 (l_markIntS (nth v1_2 v1_1).Ints (W (v1_0 + 1))).1 (nth v1_2 v1_1).Mark)) rfl, rowAt_map, rowAt_set_self, m2, i1, set_map (x := (TPiece.mk v1_0 (l_markIntS (nth v1_2 v1_1).Ints (W (v1_0 + 1))).1 (l_markIntS (nth v1_2 v1_1).Ints (W (v1_0 + 1))).2)) rfl]
  repeat with_reducible refine sd ?_
  refine nxtI ⟨(p1, (W ((l_markIntS (nth v1_2 v1_1).Ints (W (v1_0 + 1))).2 + 1)), (v1_1 + 1), (v1_2.set v1_1 (TPiece.mk v1_0 (l_markIntS (nth v1_2 v1_1).Ints (W (v1_0 + 1))).1 (l_markIntS (nth v1_2 v1_1).Ints (W (v1_0 + 1))).2))), ?_, ?_⟩ (by simp) (wk_keep (by simp [w1]))
  · rw [← e1]; simp only [l_markPieceS_1, h1, cond_t, cond_f]
  · (simp; omega)
 ·have q1 := h1; try simp at q1
  have x1 : l_markPieceS_1 (a0.length + 1) a1 0 a0 = (v1_0, v1_2) := by rw [← e1]; simp only [l_markPieceS_1, h1, cond_t, cond_f]
  simp
  refine retM (rv := [.tmp 4]) rfl ?_
  have f1 := l_markPieceS.eq_1 a0 a1; simp only [x1, cond_t, cond_f] at f1; simp [f1]
theorem l_markStepS_ok (a0 : List TStep) (a1 : Int) : SoundM Tryz.prog 242 [.sl 2 (a0.map TStep.row)] [[.int .i64 a1]] [.sl 2 ((l_markStepS a0 a1).1.map TStep.row)] (.int .i64 (l_markStepS a0 a1).2) := by
 refine sound_ofM Tryz.func242 rfl (by kernel_rfl) (fun v => ?_)
 simp [Tryz.ntmps242]
 refine okL fun k1 => ?_
 refine loopI (ι := { s : Nat × Int × Nat × (List TStep) // l_markStepS_1 s.1 s.2.1 s.2.2.1 s.2.2.2 = l_markStepS_1 (a0.length + 1) a1 0 a0 ∧ (1 ≤ s.1 ∧ s.2.2.2.length < s.1 + s.2.2.1) }) (fun s => stOf 29 [(0, .fix v (.one (.sref 0 0 0 s.1.2.2.2.length)), [.arr true 2 (s.1.2.2.2.map TStep.row)]), eI 1 s.1.2.1, eI 5 (↑s.1.2.2.1 : Int)]) (fun s => s.1.1) ⟨((a0.length + 1), a1, 0, a0), rfl, by first | omega | (dsimp only; omega) | simp⟩ (wk_keep (by simp)) ?_
 rintro ⟨⟨n1, v1_0, v1_1, v1_2⟩, e1, j1⟩
 try dsimp only at e1 j1
 obtain ⟨p1, rfl⟩ : ∃ p, n1 = p + 1 := ⟨n1 - 1, by omega⟩
 simp
 refine cC (decide ((↑v1_1 : Int) < (↑v1_2.length : Int))) (fun k2 h1 => ?_) (fun k2 h1 => ?_)
 ·have q1 := h1; try simp at q1
  have i1 : v1_1 < v1_2.length := by simpa using h1
  have m2 : v1_2.length ≤ 9223372036854775807 := by simpa using k2 0 _ rfl
  have w1 : IntKind.i64.wrap ((v1_1 : Int) + 1) = (v1_1 : Int) + 1 := wrap_of (by omega) (by omega)
  simp [i1, rowAt_map, set_map (x := (TStep.mk v1_0 (nth v1_2 v1_1).Left)) rfl, rowAt_set_self, List.set_set, set_map (x := (TStep.mk v1_0 ((Int.tmod (W (v1_0 + 1)) 3) == 0))) rfl]
  repeat with_reducible refine sd ?_
  refine nxtI ⟨(p1, (W ((W (v1_0 + 1)) + 1)), (v1_1 + 1), (v1_2.set v1_1 (TStep.mk v1_0 ((Int.tmod (W (v1_0 + 1)) 3) == 0)))), ?_, ?_⟩ (by simp) (wk_keep (by simp [w1]))
  · rw [← e1]; simp only [l_markStepS_1, h1, cond_t, cond_f]
  · (simp; omega)
 ·have q1 := h1; try simp at q1
  have x1 : l_markStepS_1 (a0.length + 1) a1 0 a0 = (v1_0, v1_2) := by rw [← e1]; simp only [l_markStepS_1, h1, cond_t, cond_f]
  simp
  refine retM (rv := [.tmp 4]) rfl ?_
  have f1 := l_markStepS.eq_1 a0 a1; simp only [x1, cond_t, cond_f] at f1; simp [f1]
theorem l_markStampS_ok (a0 : List TStamp) (a1 : Int) : SoundM Tryz.prog 243 [.sl 5 (a0.map TStamp.row)] [[.int .i64 a1]] [.sl 5 ((l_markStampS a0 a1).1.map TStamp.row)] (.int .i64 (l_markStampS a0 a1).2) := by
 refine sound_ofM Tryz.func243 rfl (by kernel_rfl) (fun v => ?_)
 simp [Tryz.ntmps243]
 refine okL fun k1 => ?_
 refine loopI (ι := { s : Nat × Int × Nat × (List TStamp) // l_markStampS_1 s.1 s.2.1 s.2.2.1 s.2.2.2 = l_markStampS_1 (a0.length + 1) a1 0 a0 ∧ (1 ≤ s.1 ∧ s.2.2.2.length < s.1 + s.2.2.1) }) (fun s => stOf 48 [(0, .fix v (.one (.sref 0 0 0 s.1.2.2.2.length)), [.arr true 5 (s.1.2.2.2.map TStamp.row)]), eI 1 s.1.2.1, eI 5 (↑s.1.2.2.1 : Int)]) (fun s => s.1.1) ⟨((a0.length + 1), a1, 0, a0), rfl, by first | omega | (dsimp only; omega) | simp⟩ (wk_keep (by simp)) ?_
 rintro ⟨⟨n1, v1_0, v1_1, v1_2⟩, e1, j1⟩
 try dsimp only at e1 j1
 obtain ⟨p1, rfl⟩ : ∃ p, n1 = p + 1 := ⟨n1 - 1, by omega⟩
 simp
 refine cC (decide ((↑v1_1 : Int) < (↑v1_2.length : Int))) (fun k2 h1 => ?_) (fun k2 h1 => ?_)
 ·have q1 := h1; try simp at q1
  have i1 : v1_1 < v1_2.length := by simpa using h1
  have m2 : v1_2.length ≤ 9223372036854775807 := by simpa using k2 0 _ rfl
  have w1 : IntKind.i64.wrap ((v1_1 : Int) + 1) = (v1_1 : Int) + 1 := wrap_of (by omega) (by omega)
  simp [i1, rowAt_map, set_map (x := (TStamp.mk v1_0 (nth v1_2 v1_1).Seq (nth v1_2 v1_1).Time (nth v1_2 v1_1).Digest (nth v1_2 v1_1).Mark)) rfl, rowAt_set_self, List.set_set, set_map (x := (TStamp.mk v1_0 (W (v1_0 + 1)) (nth v1_2 v1_1).Time (nth v1_2 v1_1).Digest (nth v1_2 v1_1).Mark)) rfl, set_map (x := (TStamp.mk v1_0 (W (v1_0 + 1)) (W ((W (v1_0 + 1)) + 1)) (nth v1_2 v1_1).Digest (nth v1_2 v1_1).Mark)) rfl, set_map (x := (TStamp.mk v1_0 (W (v1_0 + 1)) (W ((W (v1_0 + 1)) + 1)) (W ((W ((W (v1_0 + 1)) + 1)) + 1)) (nth v1_2 v1_1).Mark)) rfl, set_map (x := (TStamp.mk v1_0 (W (v1_0 + 1)) (W ((W (v1_0 + 1)) + 1)) (W ((W ((W (v1_0 + 1)) + 1)) + 1)) (W ((W ((W ((W (v1_0 + 1)) + 1)) + 1)) + 1)))) rfl]
  repeat with_reducible refine sd ?_
  refine nxtI ⟨(p1, (W ((W ((W ((W ((W (v1_0 + 1)) + 1)) + 1)) + 1)) + 1)), (v1_1 + 1), (v1_2.set v1_1 (TStamp.mk v1_0 (W (v1_0 + 1)) (W ((W (v1_0 + 1)) + 1)) (W ((W ((W (v1_0 + 1)) + 1)) + 1)) (W ((W ((W ((W (v1_0 + 1)) + 1)) + 1)) + 1))))), ?_, ?_⟩ (by simp) (wk_keep (by simp [w1]))
  · rw [← e1]; simp only [l_markStampS_1, h1, cond_t, cond_f]
  · (simp; omega)
 ·have q1 := h1; try simp at q1
  have x1 : l_markStampS_1 (a0.length + 1) a1 0 a0 = (v1_0, v1_2) := by rw [← e1]; simp only [l_markStampS_1, h1, cond_t, cond_f]
  simp
  refine retM (rv := [.tmp 4]) rfl ?_
  have f1 := l_markStampS.eq_1 a0 a1; simp only [x1, cond_t, cond_f] at f1; simp [f1]
theorem l_markRenewalS_ok (a0 : List TRenewal) (a1 : Int) : SoundM Tryz.prog 196 [.sl 5 (a0.map TRenewal.row)] [[.int .i64 a1]] [.sl 5 ((l_markRenewalS a0 a1).1.map TRenewal.row)] (.int .i64 (l_markRenewalS a0 a1).2) := by
 refine sound_ofM Tryz.func196 rfl (by kernel_rfl) (fun v => ?_)
 simp [Tryz.ntmps196]
 refine okL fun k1 => ?_
 refine loopI (ι := { s : Nat × Int × Nat × (List TRenewal) // l_markRenewalS_1 s.1 s.2.1 s.2.2.1 s.2.2.2 = l_markRenewalS_1 (a0.length + 1) a1 0 a0 ∧ (1 ≤ s.1 ∧ s.2.2.2.length < s.1 + s.2.2.1) }) (fun s => stOf 48 [(0, .fix v (.one (.sref 0 0 0 s.1.2.2.2.length)), [.arr true 5 (s.1.2.2.2.map TRenewal.row)]), eI 1 s.1.2.1, eI 5 (↑s.1.2.2.1 : Int)]) (fun s => s.1.1) ⟨((a0.length + 1), a1, 0, a0), rfl, by first | omega | (dsimp only; omega) | simp⟩ (wk_keep (by simp)) ?_
 rintro ⟨⟨n1, v1_0, v1_1, v1_2⟩, e1, j1⟩
 try dsimp only at e1 j1
 obtain ⟨p1, rfl⟩ : ∃ p, n1 = p + 1 := ⟨n1 - 1, by omega⟩
 simp
 refine cC (decide ((↑v1_1 : Int) < (↑v1_2.length : Int))) (fun k2 h1 => ?_) (fun k2 h1 => ?_)
 ·have q1 := h1; try simp at q1
  have i1 : v1_1 < v1_2.length := by simpa using h1
  have m2 : v1_2.length ≤ 9223372036854775807 := by simpa using k2 0 _ rfl
  have w1 : IntKind.i64.wrap ((v1_1 : Int) + 1) = (v1_1 : Int) + 1 := wrap_of (by omega) (by omega)
  simp [i1, rowAt_map, set_map (x := (TRenewal.mk v1_0 (nth v1_2 v1_1).Method (nth v1_2 v1_1).Root (nth v1_2 v1_1).Path (nth v1_2 v1_1).Stamps)) rfl, rowAt_set_self, List.set_set, set_map (x := (TRenewal.mk v1_0 (W (v1_0 + 1)) (nth v1_2 v1_1).Root (nth v1_2 v1_1).Path (nth v1_2 v1_1).Stamps)) rfl, set_map (x := (TRenewal.mk v1_0 (W (v1_0 + 1)) (W ((W (v1_0 + 1)) + 1)) (nth v1_2 v1_1).Path (nth v1_2 v1_1).Stamps)) rfl]
  repeat with_reducible refine sd ?_
  refine callMT (t := 0) (j := 0) (i := v1_1) (c := 3) (size := 5) (rows := ((v1_2.set v1_1 (TRenewal.mk v1_0 (W (v1_0 + 1)) (W ((W (v1_0 + 1)) + 1)) (nth v1_2 v1_1).Path (nth v1_2 v1_1).Stamps)).map TRenewal.row)) rfl rfl rfl rfl rfl rfl rfl (l_markStepS_ok (nth v1_2 v1_1).Path (W ((W ((W (v1_0 + 1)) + 1)) + 1))) (by simp) (by simp) (by simp [m2, i1]) (by simp [rowAt_map, rowAt_set_self, m2, i1]) (by simp) (by simp) (by simp) ?_
  simp [List.set_set, set_map (x := (TRenewal.mk v1_0 (W (v1_0 + 1)) (W ((W (v1_0 + 1)) + 1)) (l_markStepS (nth v1_2 v1_1).Path (W ((W ((W (v1_0 + 1)) + 1)) + 1))).1 (nth v1_2 v1_1).Stamps)) rfl, rowAt_map, rowAt_set_self, m2, i1]
  repeat with_reducible refine sd ?_
  refine callMT (t := 0) (j := 0) (i := v1_1) (c := 4) (size := 5) (rows := ((v1_2.set v1_1 (TRenewal.mk v1_0 (W (v1_0 + 1)) (W ((W (v1_0 + 1)) + 1)) (l_markStepS (nth v1_2 v1_1).Path (W ((W ((W (v1_0 + 1)) + 1)) + 1))).1 (nth v1_2 v1_1).Stamps)).map TRenewal.row)) rfl rfl rfl rfl rfl rfl rfl (l_markStampS_ok (nth v1_2 v1_1).Stamps (l_markStepS (nth v1_2 v1_1).Path (W ((W ((W (v1_0 + 1)) + 1)) + 1))).2) (by simp) (by simp) (by simp [m2, i1]) (by simp [rowAt_map, rowAt_set_self, m2, i1]) (by simp) (by simp) (by simp) ?_
  simp [List.set_set, set_map (x := (TRenewal.mk v1_0 (W (v1_0 + 1)) (W ((W (v1_0 + 1)) + 1)) (l_markStepS (nth v1_2 v1_1).Path (W ((W ((W (v1_0 + 1)) + 1)) + 1))).1 (l_markStampS (nth v1_2 v1_1).Stamps (l_markStepS (nth v1_2 v1_1).Path (W ((W ((W (v1_0 + 1)) + 1)) + 1))).2).1)) rfl, rowAt_map, rowAt_set_self, m2, i1]
  repeat with_reducible refine sd ?_
  refine nxtI ⟨(p1, (l_markStampS (nth v1_2 v1_1).Stamps (l_markStepS (nth v1_2 v1_1).Path (W ((W ((W (v1_0 + 1)) + 1)) + 1))).2).2, (v1_1 + 1), (v1_2.set v1_1 (TRenewal.mk v1_0 (W (v1_0 + 1)) (W ((W (v1_0 + 1)) + 1)) (l_markStepS (nth v1_2 v1_1).Path (W ((W ((W (v1_0 + 1)) + 1)) + 1))).1 (l_markStampS (nth v1_2 v1_1).Stamps (l_markStepS (nth v1_2 v1_1).Path (W ((W ((W (v1_0 + 1)) + 1)) + 1))).2).1))), ?_, ?_⟩ (by simp) (wk_keep (by simp [w1]))
  · rw [← e1]; simp only [l_markRenewalS_1, h1, cond_t, cond_f]
  · (simp; omega)
 ·have q1 := h1; try simp at q1
  have x1 : l_markRenewalS_1 (a0.length + 1) a1 0 a0 = (v1_0, v1_2) := by rw [← e1]; simp only [l_markRenewalS_1, h1, cond_t, cond_f]
  simp
  refine retM (rv := [.tmp 4]) rfl ?_
  have f1 := l_markRenewalS.eq_1 a0 a1; simp only [x1, cond_t, cond_f] at f1; simp [f1]
theorem l_markItemS_ok (a0 : List TItem) (a1 : Int) : SoundM Tryz.prog 127 [.sl 16 (a0.map TItem.row)] [[.int .i64 a1]] [.sl 16 ((l_markItemS a0 a1).1.map TItem.row)] (.int .i64 (l_markItemS a0 a1).2) := by
 refine sound_ofM Tryz.func127 rfl (by kernel_rfl) (fun v => ?_)
 simp [Tryz.ntmps127]
 refine okL fun k1 => ?_
 refine loopI (ι := { s : Nat × Int × Nat × (List TItem) // l_markItemS_1 s.1 s.2.1 s.2.2.1 s.2.2.2 = l_markItemS_1 (a0.length + 1) a1 0 a0 ∧ (1 ≤ s.1 ∧ s.2.2.2.length < s.1 + s.2.2.1) }) (fun s => stOf 139 [(0, .fix v (.one (.sref 0 0 0 s.1.2.2.2.length)), [.arr true 16 (s.1.2.2.2.map TItem.row)]), eI 1 s.1.2.1, eI 5 (↑s.1.2.2.1 : Int)]) (fun s => s.1.1) ⟨((a0.length + 1), a1, 0, a0), rfl, by first | omega | (dsimp only; omega) | simp⟩ (wk_keep (by simp)) ?_
 rintro ⟨⟨n1, v1_0, v1_1, v1_2⟩, e1, j1⟩
 try dsimp only at e1 j1
 obtain ⟨p1, rfl⟩ : ∃ p, n1 = p + 1 := ⟨n1 - 1, by omega⟩
 simp
 refine cC (decide ((↑v1_1 : Int) < (↑v1_2.length : Int))) (fun k2 h1 => ?_) (fun k2 h1 => ?_)
 ·have q1 := h1; try simp at q1
  have i1 : v1_1 < v1_2.length := by simpa using h1
  have m2 : v1_2.length ≤ 9223372036854775807 := by simpa using k2 0 _ rfl
  have w1 : IntKind.i64.wrap ((v1_1 : Int) + 1) = (v1_1 : Int) + 1 := wrap_of (by omega) (by omega)
  simp [i1, rowAt_map, set_map (x := (TItem.mk v1_0 (nth v1_2 v1_1).Keep (nth v1_2 v1_1).Doc (nth v1_2 v1_1).Sig (nth v1_2 v1_1).Strand)) rfl, rowAt_set_self, List.set_set, set_map (x := (TItem.mk v1_0 (W (v1_0 + 1)) (nth v1_2 v1_1).Doc (nth v1_2 v1_1).Sig (nth v1_2 v1_1).Strand)) rfl, set_map (x := (TItem.mk v1_0 (W (v1_0 + 1)) (TDocument.mk (W ((W (v1_0 + 1)) + 1)) (nth v1_2 v1_1).Doc.Parts (nth v1_2 v1_1).Doc.Salts) (nth v1_2 v1_1).Sig (nth v1_2 v1_1).Strand)) rfl]
  repeat with_reducible refine sd ?_
  refine callMT (t := 0) (j := 0) (i := v1_1) (c := 3) (size := 16) (rows := ((v1_2.set v1_1 (TItem.mk v1_0 (W (v1_0 + 1)) (TDocument.mk (W ((W (v1_0 + 1)) + 1)) (nth v1_2 v1_1).Doc.Parts (nth v1_2 v1_1).Doc.Salts) (nth v1_2 v1_1).Sig (nth v1_2 v1_1).Strand)).map TItem.row)) rfl rfl rfl rfl rfl rfl rfl (l_markStringS_ok (nth v1_2 v1_1).Doc.Parts (W ((W ((W (v1_0 + 1)) + 1)) + 1))) (by simp) (by simp) (by simp [m2, i1]) (by simp [rowAt_map, rowAt_set_self, m2, i1]) (by simp) (by simp) (by simp) ?_
  simp [List.set_set, set_map (x := (TItem.mk v1_0 (W (v1_0 + 1)) (TDocument.mk (W ((W (v1_0 + 1)) + 1)) (l_markStringS (nth v1_2 v1_1).Doc.Parts (W ((W ((W (v1_0 + 1)) + 1)) + 1))).1 (nth v1_2 v1_1).Doc.Salts) (nth v1_2 v1_1).Sig (nth v1_2 v1_1).Strand)) rfl, rowAt_map, rowAt_set_self, m2, i1]
  repeat with_reducible refine sd ?_
  refine callMT (t := 0) (j := 0) (i := v1_1) (c := 4) (size := 16) (rows := ((v1_2.set v1_1 (TItem.mk v1_0 (W (v1_0 + 1)) (TDocument.mk (W ((W (v1_0 + 1)) + 1)) (l_markStringS (nth v1_2 v1_1).Doc.Parts (W ((W ((W (v1_0 + 1)) + 1)) + 1))).1 (nth v1_2 v1_1).Doc.Salts) (nth v1_2 v1_1).Sig (nth v1_2 v1_1).Strand)).map TItem.row)) rfl rfl rfl rfl rfl rfl rfl (l_markIntS_ok (nth v1_2 v1_1).Doc.Salts (l_markStringS (nth v1_2 v1_1).Doc.Parts (W ((W ((W (v1_0 + 1)) + 1)) + 1))).2) (by simp) (by simp) (by simp [m2, i1]) (by simp [rowAt_map, rowAt_set_self, m2, i1]) (by simp) (by simp) (by simp) ?_
  simp [List.set_set, set_map (x := (TItem.mk v1_0 (W (v1_0 + 1)) (TDocument.mk (W ((W (v1_0 + 1)) + 1)) (l_markStringS (nth v1_2 v1_1).Doc.Parts (W ((W ((W (v1_0 + 1)) + 1)) + 1))).1 (l_markIntS (nth v1_2 v1_1).Doc.Salts (l_markStringS (nth v1_2 v1_1).Doc.Parts (W ((W ((W (v1_0 + 1)) + 1)) + 1))).2).1) (nth v1_2 v1_1).Sig (nth v1_2 v1_1).Strand)) rfl, rowAt_map, rowAt_set_self, m2, i1, set_map (x := (TItem.mk v1_0 (W (v1_0 + 1)) (TDocument.mk (W ((W (v1_0 + 1)) + 1)) (l_markStringS (nth v1_2 v1_1).Doc.Parts (W ((W ((W (v1_0 + 1)) + 1)) + 1))).1 (l_markIntS (nth v1_2 v1_1).Doc.Salts (l_markStringS (nth v1_2 v1_1).Doc.Parts (W ((W ((W (v1_0 + 1)) + 1)) + 1))).2).1) (TSignature.mk (l_markIntS (nth v1_2 v1_1).Doc.Salts (l_markStringS (nth v1_2 v1_1).Doc.Parts (W ((W ((W (v1_0 + 1)) + 1)) + 1))).2).2 (nth v1_2 v1_1).Sig.Serial (nth v1_2 v1_1).Sig.Method (nth v1_2 v1_1).Sig.Digest (nth v1_2 v1_1).Sig.Commit (nth v1_2 v1_1).Sig.Org (nth v1_2 v1_1).Sig.Before (nth v1_2 v1_1).Sig.After (nth v1_2 v1_1).Sig.Mark) (nth v1_2 v1_1).Strand)) rfl, set_map (x := (TItem.mk v1_0 (W (v1_0 + 1)) (TDocument.mk (W ((W (v1_0 + 1)) + 1)) (l_markStringS (nth v1_2 v1_1).Doc.Parts (W ((W ((W (v1_0 + 1)) + 1)) + 1))).1 (l_markIntS (nth v1_2 v1_1).Doc.Salts (l_markStringS (nth v1_2 v1_1).Doc.Parts (W ((W ((W (v1_0 + 1)) + 1)) + 1))).2).1) (TSignature.mk (l_markIntS (nth v1_2 v1_1).Doc.Salts (l_markStringS (nth v1_2 v1_1).Doc.Parts (W ((W ((W (v1_0 + 1)) + 1)) + 1))).2).2 (W ((l_markIntS (nth v1_2 v1_1).Doc.Salts (l_markStringS (nth v1_2 v1_1).Doc.Parts (W ((W ((W (v1_0 + 1)) + 1)) + 1))).2).2 + 1)) (nth v1_2 v1_1).Sig.Method (nth v1_2 v1_1).Sig.Digest (nth v1_2 v1_1).Sig.Commit (nth v1_2 v1_1).Sig.Org (nth v1_2 v1_1).Sig.Before (nth v1_2 v1_1).Sig.After (nth v1_2 v1_1).Sig.Mark) (nth v1_2 v1_1).Strand)) rfl, set_map (x := (TItem.mk v1_0 (W (v1_0 + 1)) (TDocument.mk (W ((W (v1_0 + 1)) + 1)) (l_markStringS (nth v1_2 v1_1).Doc.Parts (W ((W ((W (v1_0 + 1)) + 1)) + 1))).1 (l_markIntS (nth v1_2 v1_1).Doc.Salts (l_markStringS (nth v1_2 v1_1).Doc.Parts (W ((W ((W (v1_0 + 1)) + 1)) + 1))).2).1) (TSignature.mk (l_markIntS (nth v1_2 v1_1).Doc.Salts (l_markStringS (nth v1_2 v1_1).Doc.Parts (W ((W ((W (v1_0 + 1)) + 1)) + 1))).2).2 (W ((l_markIntS (nth v1_2 v1_1).Doc.Salts (l_markStringS (nth v1_2 v1_1).Doc.Parts (W ((W ((W (v1_0 + 1)) + 1)) + 1))).2).2 + 1)) (W ((W ((l_markIntS (nth v1_2 v1_1).Doc.Salts (l_markStringS (nth v1_2 v1_1).Doc.Parts (W ((W ((W (v1_0 + 1)) + 1)) + 1))).2).2 + 1)) + 1)) (nth v1_2 v1_1).Sig.Digest (nth v1_2 v1_1).Sig.Commit (nth v1_2 v1_1).Sig.Org (nth v1_2 v1_1).Sig.Before (nth v1_2 v1_1).Sig.After (nth v1_2 v1_1).Sig.Mark) (nth v1_2 v1_1).Strand)) rfl, set_map (x := (TItem.mk v1_0 (W (v1_0 + 1)) (TDocument.mk (W ((W (v1_0 + 1)) + 1)) (l_markStringS (nth v1_2 v1_1).Doc.Parts (W ((W ((W (v1_0 + 1)) + 1)) + 1))).1 (l_markIntS (nth v1_2 v1_1).Doc.Salts (l_markStringS (nth v1_2 v1_1).Doc.Parts (W ((W ((W (v1_0 + 1)) + 1)) + 1))).2).1) (TSignature.mk (l_markIntS (nth v1_2 v1_1).Doc.Salts (l_markStringS (nth v1_2 v1_1).Doc.Parts (W ((W ((W (v1_0 + 1)) + 1)) + 1))).2).2 (W ((l_markIntS (nth v1_2 v1_1).Doc.Salts (l_markStringS (nth v1_2 v1_1).Doc.Parts (W ((W ((W (v1_0 + 1)) + 1)) + 1))).2).2 + 1)) (W ((W ((l_markIntS (nth v1_2 v1_1).Doc.Salts (l_markStringS (nth v1_2 v1_1).Doc.Parts (W ((W ((W (v1_0 + 1)) + 1)) + 1))).2).2 + 1)) + 1)) (W ((W ((W ((l_markIntS (nth v1_2 v1_1).Doc.Salts (l_markStringS (nth v1_2 v1_1).Doc.Parts (W ((W ((W (v1_0 + 1)) + 1)) + 1))).2).2 + 1)) + 1)) + 1)) (nth v1_2 v1_1).Sig.Commit (nth v1_2 v1_1).Sig.Org (nth v1_2 v1_1).Sig.Before (nth v1_2 v1_1).Sig.After (nth v1_2 v1_1).Sig.Mark) (nth v1_2 v1_1).Strand)) rfl, set_map (x := (TItem.mk v1_0 (W (v1_0 + 1)) (TDocument.mk (W ((W (v1_0 + 1)) + 1)) (l_markStringS (nth v1_2 v1_1).Doc.Parts (W ((W ((W (v1_0 + 1)) + 1)) + 1))).1 (l_markIntS (nth v1_2 v1_1).Doc.Salts (l_markStringS (nth v1_2 v1_1).Doc.Parts (W ((W ((W (v1_0 + 1)) + 1)) + 1))).2).1) (TSignature.mk (l_markIntS (nth v1_2 v1_1).Doc.Salts (l_markStringS (nth v1_2 v1_1).Doc.Parts (W ((W ((W (v1_0 + 1)) + 1)) + 1))).2).2 (W ((l_markIntS (nth v1_2 v1_1).Doc.Salts (l_markStringS (nth v1_2 v1_1).Doc.Parts (W ((W ((W (v1_0 + 1)) + 1)) + 1))).2).2 + 1)) (W ((W ((l_markIntS (nth v1_2 v1_1).Doc.Salts (l_markStringS (nth v1_2 v1_1).Doc.Parts (W ((W ((W (v1_0 + 1)) + 1)) + 1))).2).2 + 1)) + 1)) (W ((W ((W ((l_markIntS (nth v1_2 v1_1).Doc.Salts (l_markStringS (nth v1_2 v1_1).Doc.Parts (W ((W ((W (v1_0 + 1)) + 1)) + 1))).2).2 + 1)) + 1)) + 1)) (W ((W ((W ((W ((l_markIntS (nth v1_2 v1_1).Doc.Salts (l_markStringS (nth v1_2 v1_1).Doc.Parts (W ((W ((W (v1_0 + 1)) + 1)) + 1))).2).2 + 1)) + 1)) + 1)) + 1)) (nth v1_2 v1_1).Sig.Org (nth v1_2 v1_1).Sig.Before (nth v1_2 v1_1).Sig.After (nth v1_2 v1_1).Sig.Mark) (nth v1_2 v1_1).Strand)) rfl, set_map (x := (TItem.mk v1_0 (W (v1_0 + 1)) (TDocument.mk (W ((W (v1_0 + 1)) + 1)) (l_markStringS (nth v1_2 v1_1).Doc.Parts (W ((W ((W (v1_0 + 1)) + 1)) + 1))).1 (l_markIntS (nth v1_2 v1_1).Doc.Salts (l_markStringS (nth v1_2 v1_1).Doc.Parts (W ((W ((W (v1_0 + 1)) + 1)) + 1))).2).1) (TSignature.mk (l_markIntS (nth v1_2 v1_1).Doc.Salts (l_markStringS (nth v1_2 v1_1).Doc.Parts (W ((W ((W (v1_0 + 1)) + 1)) + 1))).2).2 (W ((l_markIntS (nth v1_2 v1_1).Doc.Salts (l_markStringS (nth v1_2 v1_1).Doc.Parts (W ((W ((W (v1_0 + 1)) + 1)) + 1))).2).2 + 1)) (W ((W ((l_markIntS (nth v1_2 v1_1).Doc.Salts (l_markStringS (nth v1_2 v1_1).Doc.Parts (W ((W ((W (v1_0 + 1)) + 1)) + 1))).2).2 + 1)) + 1)) (W ((W ((W ((l_markIntS (nth v1_2 v1_1).Doc.Salts (l_markStringS (nth v1_2 v1_1).Doc.Parts (W ((W ((W (v1_0 + 1)) + 1)) + 1))).2).2 + 1)) + 1)) + 1)) (W ((W ((W ((W ((l_markIntS (nth v1_2 v1_1).Doc.Salts (l_markStringS (nth v1_2 v1_1).Doc.Parts (W ((W ((W (v1_0 + 1)) + 1)) + 1))).2).2 + 1)) + 1)) + 1)) + 1)) (W ((W ((W ((W ((W ((l_markIntS (nth v1_2 v1_1).Doc.Salts (l_markStringS (nth v1_2 v1_1).Doc.Parts (W ((W ((W (v1_0 + 1)) + 1)) + 1))).2).2 + 1)) + 1)) + 1)) + 1)) + 1)) (nth v1_2 v1_1).Sig.Before (nth v1_2 v1_1).Sig.After (nth v1_2 v1_1).Sig.Mark) (nth v1_2 v1_1).Strand)) rfl, set_map (x := (TItem.mk v1_0 (W (v1_0 + 1)) (TDocument.mk (W ((W (v1_0 + 1)) + 1)) (l_markStringS (nth v1_2 v1_1).Doc.Parts (W ((W ((W (v1_0 + 1)) + 1)) + 1))).1 (l_markIntS (nth v1_2 v1_1).Doc.Salts (l_markStringS (nth v1_2 v1_1).Doc.Parts (W ((W ((W (v1_0 + 1)) + 1)) + 1))).2).1) (TSignature.mk (l_markIntS (nth v1_2 v1_1).Doc.Salts (l_markStringS (nth v1_2 v1_1).Doc.Parts (W ((W ((W (v1_0 + 1)) + 1)) + 1))).2).2 (W ((l_markIntS (nth v1_2 v1_1).Doc.Salts (l_markStringS (nth v1_2 v1_1).Doc.Parts (W ((W ((W (v1_0 + 1)) + 1)) + 1))).2).2 + 1)) (W ((W ((l_markIntS (nth v1_2 v1_1).Doc.Salts (l_markStringS (nth v1_2 v1_1).Doc.Parts (W ((W ((W (v1_0 + 1)) + 1)) + 1))).2).2 + 1)) + 1)) (W ((W ((W ((l_markIntS (nth v1_2 v1_1).Doc.Salts (l_markStringS (nth v1_2 v1_1).Doc.Parts (W ((W ((W (v1_0 + 1)) + 1)) + 1))).2).2 + 1)) + 1)) + 1)) (W ((W ((W ((W ((l_markIntS (nth v1_2 v1_1).Doc.Salts (l_markStringS (nth v1_2 v1_1).Doc.Parts (W ((W ((W (v1_0 + 1)) + 1)) + 1))).2).2 + 1)) + 1)) + 1)) + 1)) (W ((W ((W ((W ((W ((l_markIntS (nth v1_2 v1_1).Doc.Salts (l_markStringS (nth v1_2 v1_1).Doc.Parts (W ((W ((W (v1_0 + 1)) + 1)) + 1))).2).2 + 1)) + 1)) + 1)) + 1)) + 1)) (W ((W ((W ((W ((W ((W ((l_markIntS (nth v1_2 v1_1).Doc.Salts (l_markStringS (nth v1_2 v1_1).Doc.Parts (W ((W ((W (v1_0 + 1)) + 1)) + 1))).2).2 + 1)) + 1)) + 1)) + 1)) + 1)) + 1)) (nth v1_2 v1_1).Sig.After (nth v1_2 v1_1).Sig.Mark) (nth v1_2 v1_1).Strand)) rfl, set_map (x := (TItem.mk v1_0 (W (v1_0 + 1)) (TDocument.mk (W ((W (v1_0 + 1)) + 1)) (l_markStringS (nth v1_2 v1_1).Doc.Parts (W ((W ((W (v1_0 + 1)) + 1)) + 1))).1 (l_markIntS (nth v1_2 v1_1).Doc.Salts (l_markStringS (nth v1_2 v1_1).Doc.Parts (W ((W ((W (v1_0 + 1)) + 1)) + 1))).2).1) (TSignature.mk (l_markIntS (nth v1_2 v1_1).Doc.Salts (l_markStringS (nth v1_2 v1_1).Doc.Parts (W ((W ((W (v1_0 + 1)) + 1)) + 1))).2).2 (W ((l_markIntS (nth v1_2 v1_1).Doc.Salts (l_markStringS (nth v1_2 v1_1).Doc.Parts (W ((W ((W (v1_0 + 1)) + 1)) + 1))).2).2 + 1)) (W ((W ((l_markIntS (nth v1_2 v1_1).Doc.Salts (l_markStringS (nth v1_2 v1_1).Doc.Parts (W ((W ((W (v1_0 + 1)) + 1)) + 1))).2).2 + 1)) + 1)) (W ((W ((W ((l_markIntS (nth v1_2 v1_1).Doc.Salts (l_markStringS (nth v1_2 v1_1).Doc.Parts (W ((W ((W (v1_0 + 1)) + 1)) + 1))).2).2 + 1)) + 1)) + 1)) (W ((W ((W ((W ((l_markIntS (nth v1_2 v1_1).Doc.Salts (l_markStringS (nth v1_2 v1_1).Doc.Parts (W ((W ((W (v1_0 + 1)) + 1)) + 1))).2).2 + 1)) + 1)) + 1)) + 1)) (W ((W ((W ((W ((W ((l_markIntS (nth v1_2 v1_1).Doc.Salts (l_markStringS (nth v1_2 v1_1).Doc.Parts (W ((W ((W (v1_0 + 1)) + 1)) + 1))).2).2 + 1)) + 1)) + 1)) + 1)) + 1)) (W ((W ((W ((W ((W ((W ((l_markIntS (nth v1_2 v1_1).Doc.Salts (l_markStringS (nth v1_2 v1_1).Doc.Parts (W ((W ((W (v1_0 + 1)) + 1)) + 1))).2).2 + 1)) + 1)) + 1)) + 1)) + 1)) + 1)) (W ((W ((W ((W ((W ((W ((W ((l_markIntS (nth v1_2 v1_1).Doc.Salts (l_markStringS (nth v1_2 v1_1).Doc.Parts (W ((W ((W (v1_0 + 1)) + 1)) + 1))).2).2 + 1)) + 1)) + 1)) + 1)) + 1)) + 1)) + 1)) (nth v1_2 v1_1).Sig.Mark) (nth v1_2 v1_1).Strand)) rfl, set_map (x := (TItem.mk v1_0 (W (v1_0 + 1)) (TDocument.mk (W ((W (v1_0 + 1)) + 1)) (l_markStringS (nth v1_2 v1_1).Doc.Parts (W ((W ((W (v1_0 + 1)) + 1)) + 1))).1 (l_markIntS (nth v1_2 v1_1).Doc.Salts (l_markStringS (nth v1_2 v1_1).Doc.Parts (W ((W ((W (v1_0 + 1)) + 1)) + 1))).2).1) (TSignature.mk (l_markIntS (nth v1_2 v1_1).Doc.Salts (l_markStringS (nth v1_2 v1_1).Doc.Parts (W ((W ((W (v1_0 + 1)) + 1)) + 1))).2).2 (W ((l_markIntS (nth v1_2 v1_1).Doc.Salts (l_markStringS (nth v1_2 v1_1).Doc.Parts (W ((W ((W (v1_0 + 1)) + 1)) + 1))).2).2 + 1)) (W ((W ((l_markIntS (nth v1_2 v1_1).Doc.Salts (l_markStringS (nth v1_2 v1_1).Doc.Parts (W ((W ((W (v1_0 + 1)) + 1)) + 1))).2).2 + 1)) + 1)) (W ((W ((W ((l_markIntS (nth v1_2 v1_1).Doc.Salts (l_markStringS (nth v1_2 v1_1).Doc.Parts (W ((W ((W (v1_0 + 1)) + 1)) + 1))).2).2 + 1)) + 1)) + 1)) (W ((W ((W ((W ((l_markIntS (nth v1_2 v1_1).Doc.Salts (l_markStringS (nth v1_2 v1_1).Doc.Parts (W ((W ((W (v1_0 + 1)) + 1)) + 1))).2).2 + 1)) + 1)) + 1)) + 1)) (W ((W ((W ((W ((W ((l_markIntS (nth v1_2 v1_1).Doc.Salts (l_markStringS (nth v1_2 v1_1).Doc.Parts (W ((W ((W (v1_0 + 1)) + 1)) + 1))).2).2 + 1)) + 1)) + 1)) + 1)) + 1)) (W ((W ((W ((W ((W ((W ((l_markIntS (nth v1_2 v1_1).Doc.Salts (l_markStringS (nth v1_2 v1_1).Doc.Parts (W ((W ((W (v1_0 + 1)) + 1)) + 1))).2).2 + 1)) + 1)) + 1)) + 1)) + 1)) + 1)) (W ((W ((W ((W ((W ((W ((W ((l_markIntS (nth v1_2 v1_1).Doc.Salts (l_markStringS (nth v1_2 v1_1).Doc.Parts (W ((W ((W (v1_0 + 1)) + 1)) + 1))).2).2 + 1)) + 1)) + 1)) + 1)) + 1)) + 1)) + 1)) (W ((W ((W ((W ((W ((W ((W ((W ((l_markIntS (nth v1_2 v1_1).Doc.Salts (l_markStringS (nth v1_2 v1_1).Doc.Parts (W ((W ((W (v1_0 + 1)) + 1)) + 1))).2).2 + 1)) + 1)) + 1)) + 1)) + 1)) + 1)) + 1)) + 1))) (nth v1_2 v1_1).Strand)) rfl]
  repeat with_reducible refine sd ?_
  refine callMT (t := 0) (j := 0) (i := v1_1) (c := 14) (size := 16) (rows := ((v1_2.set v1_1 (TItem.mk v1_0 (W (v1_0 + 1)) (TDocument.mk (W ((W (v1_0 + 1)) + 1)) (l_markStringS (nth v1_2 v1_1).Doc.Parts (W ((W ((W (v1_0 + 1)) + 1)) + 1))).1 (l_markIntS (nth v1_2 v1_1).Doc.Salts (l_markStringS (nth v1_2 v1_1).Doc.Parts (W ((W ((W (v1_0 + 1)) + 1)) + 1))).2).1) (TSignature.mk (l_markIntS (nth v1_2 v1_1).Doc.Salts (l_markStringS (nth v1_2 v1_1).Doc.Parts (W ((W ((W (v1_0 + 1)) + 1)) + 1))).2).2 (W ((l_markIntS (nth v1_2 v1_1).Doc.Salts (l_markStringS (nth v1_2 v1_1).Doc.Parts (W ((W ((W (v1_0 + 1)) + 1)) + 1))).2).2 + 1)) (W ((W ((l_markIntS (nth v1_2 v1_1).Doc.Salts (l_markStringS (nth v1_2 v1_1).Doc.Parts (W ((W ((W (v1_0 + 1)) + 1)) + 1))).2).2 + 1)) + 1)) (W ((W ((W ((l_markIntS (nth v1_2 v1_1).Doc.Salts (l_markStringS (nth v1_2 v1_1).Doc.Parts (W ((W ((W (v1_0 + 1)) + 1)) + 1))).2).2 + 1)) + 1)) + 1)) (W ((W ((W ((W ((l_markIntS (nth v1_2 v1_1).Doc.Salts (l_markStringS (nth v1_2 v1_1).Doc.Parts (W ((W ((W (v1_0 + 1)) + 1)) + 1))).2).2 + 1)) + 1)) + 1)) + 1)) (W ((W ((W ((W ((W ((l_markIntS (nth v1_2 v1_1).Doc.Salts (l_markStringS (nth v1_2 v1_1).Doc.Parts (W ((W ((W (v1_0 + 1)) + 1)) + 1))).2).2 + 1)) + 1)) + 1)) + 1)) + 1)) (W ((W ((W ((W ((W ((W ((l_markIntS (nth v1_2 v1_1).Doc.Salts (l_markStringS (nth v1_2 v1_1).Doc.Parts (W ((W ((W (v1_0 + 1)) + 1)) + 1))).2).2 + 1)) + 1)) + 1)) + 1)) + 1)) + 1)) (W ((W ((W ((W ((W ((W ((W ((l_markIntS (nth v1_2 v1_1).Doc.Salts (l_markStringS (nth v1_2 v1_1).Doc.Parts (W ((W ((W (v1_0 + 1)) + 1)) + 1))).2).2 + 1)) + 1)) + 1)) + 1)) + 1)) + 1)) + 1)) (W ((W ((W ((W ((W ((W ((W ((W ((l_markIntS (nth v1_2 v1_1).Doc.Salts (l_markStringS (nth v1_2 v1_1).Doc.Parts (W ((W ((W (v1_0 + 1)) + 1)) + 1))).2).2 + 1)) + 1)) + 1)) + 1)) + 1)) + 1)) + 1)) + 1))) (nth v1_2 v1_1).Strand)).map TItem.row)) rfl rfl rfl rfl rfl rfl rfl (l_markPieceS_ok (nth v1_2 v1_1).Strand.Pieces (W ((W ((W ((W ((W ((W ((W ((W ((W ((l_markIntS (nth v1_2 v1_1).Doc.Salts (l_markStringS (nth v1_2 v1_1).Doc.Parts (W ((W ((W (v1_0 + 1)) + 1)) + 1))).2).2 + 1)) + 1)) + 1)) + 1)) + 1)) + 1)) + 1)) + 1)) + 1))) (by simp) (by simp) (by simp [m2, i1]) (by simp [rowAt_map, rowAt_set_self, m2, i1]) (by simp) (by simp) (by simp) ?_
  simp [List.set_set, set_map (x := (TItem.mk v1_0 (W (v1_0 + 1)) (TDocument.mk (W ((W (v1_0 + 1)) + 1)) (l_markStringS (nth v1_2 v1_1).Doc.Parts (W ((W ((W (v1_0 + 1)) + 1)) + 1))).1 (l_markIntS (nth v1_2 v1_1).Doc.Salts (l_markStringS (nth v1_2 v1_1).Doc.Parts (W ((W ((W (v1_0 + 1)) + 1)) + 1))).2).1) (TSignature.mk (l_markIntS (nth v1_2 v1_1).Doc.Salts (l_markStringS (nth v1_2 v1_1).Doc.Parts (W ((W ((W (v1_0 + 1)) + 1)) + 1))).2).2 (W ((l_markIntS (nth v1_2 v1_1).Doc.Salts (l_markStringS (nth v1_2 v1_1).Doc.Parts (W ((W ((W (v1_0 + 1)) + 1)) + 1))).2).2 + 1)) (W ((W ((l_markIntS (nth v1_2 v1_1).Doc.Salts (l_markStringS (nth v1_2 v1_1).Doc.Parts (W ((W ((W (v1_0 + 1)) + 1)) + 1))).2).2 + 1)) + 1)) (W ((W ((W ((l_markIntS (nth v1_2 v1_1).Doc.Salts (l_markStringS (nth v1_2 v1_1).Doc.Parts (W ((W ((W (v1_0 + 1)) + 1)) + 1))).2).2 + 1)) + 1)) + 1)) (W ((W ((W ((W ((l_markIntS (nth v1_2 v1_1).Doc.Salts (l_markStringS (nth v1_2 v1_1).Doc.Parts (W ((W ((W (v1_0 + 1)) + 1)) + 1))).2).2 + 1)) + 1)) + 1)) + 1)) (W ((W ((W ((W ((W ((l_markIntS (nth v1_2 v1_1).Doc.Salts (l_markStringS (nth v1_2 v1_1).Doc.Parts (W ((W ((W (v1_0 + 1)) + 1)) + 1))).2).2 + 1)) + 1)) + 1)) + 1)) + 1)) (W ((W ((W ((W ((W ((W ((l_markIntS (nth v1_2 v1_1).Doc.Salts (l_markStringS (nth v1_2 v1_1).Doc.Parts (W ((W ((W (v1_0 + 1)) + 1)) + 1))).2).2 + 1)) + 1)) + 1)) + 1)) + 1)) + 1)) (W ((W ((W ((W ((W ((W ((W ((l_markIntS (nth v1_2 v1_1).Doc.Salts (l_markStringS (nth v1_2 v1_1).Doc.Parts (W ((W ((W (v1_0 + 1)) + 1)) + 1))).2).2 + 1)) + 1)) + 1)) + 1)) + 1)) + 1)) + 1)) (W ((W ((W ((W ((W ((W ((W ((W ((l_markIntS (nth v1_2 v1_1).Doc.Salts (l_markStringS (nth v1_2 v1_1).Doc.Parts (W ((W ((W (v1_0 + 1)) + 1)) + 1))).2).2 + 1)) + 1)) + 1)) + 1)) + 1)) + 1)) + 1)) + 1))) (TStrand.mk (l_markPieceS (nth v1_2 v1_1).Strand.Pieces (W ((W ((W ((W ((W ((W ((W ((W ((W ((l_markIntS (nth v1_2 v1_1).Doc.Salts (l_markStringS (nth v1_2 v1_1).Doc.Parts (W ((W ((W (v1_0 + 1)) + 1)) + 1))).2).2 + 1)) + 1)) + 1)) + 1)) + 1)) + 1)) + 1)) + 1)) + 1))).1 (nth v1_2 v1_1).Strand.Chain))) rfl, rowAt_map, rowAt_set_self, m2, i1]
  repeat with_reducible refine sd ?_
  refine callMT (t := 0) (j := 0) (i := v1_1) (c := 15) (size := 16) (rows := ((v1_2.set v1_1 (TItem.mk v1_0 (W (v1_0 + 1)) (TDocument.mk (W ((W (v1_0 + 1)) + 1)) (l_markStringS (nth v1_2 v1_1).Doc.Parts (W ((W ((W (v1_0 + 1)) + 1)) + 1))).1 (l_markIntS (nth v1_2 v1_1).Doc.Salts (l_markStringS (nth v1_2 v1_1).Doc.Parts (W ((W ((W (v1_0 + 1)) + 1)) + 1))).2).1) (TSignature.mk (l_markIntS (nth v1_2 v1_1).Doc.Salts (l_markStringS (nth v1_2 v1_1).Doc.Parts (W ((W ((W (v1_0 + 1)) + 1)) + 1))).2).2 (W ((l_markIntS (nth v1_2 v1_1).Doc.Salts (l_markStringS (nth v1_2 v1_1).Doc.Parts (W ((W ((W (v1_0 + 1)) + 1)) + 1))).2).2 + 1)) (W ((W ((l_markIntS (nth v1_2 v1_1).Doc.Salts (l_markStringS (nth v1_2 v1_1).Doc.Parts (W ((W ((W (v1_0 + 1)) + 1)) + 1))).2).2 + 1)) + 1)) (W ((W ((W ((l_markIntS (nth v1_2 v1_1).Doc.Salts (l_markStringS (nth v1_2 v1_1).Doc.Parts (W ((W ((W (v1_0 + 1)) + 1)) + 1))).2).2 + 1)) + 1)) + 1)) (W ((W ((W ((W ((l_markIntS (nth v1_2 v1_1).Doc.Salts (l_markStringS (nth v1_2 v1_1).Doc.Parts (W ((W ((W (v1_0 + 1)) + 1)) + 1))).2).2 + 1)) + 1)) + 1)) + 1)) (W ((W ((W ((W ((W ((l_markIntS (nth v1_2 v1_1).Doc.Salts (l_markStringS (nth v1_2 v1_1).Doc.Parts (W ((W ((W (v1_0 + 1)) + 1)) + 1))).2).2 + 1)) + 1)) + 1)) + 1)) + 1)) (W ((W ((W ((W ((W ((W ((l_markIntS (nth v1_2 v1_1).Doc.Salts (l_markStringS (nth v1_2 v1_1).Doc.Parts (W ((W ((W (v1_0 + 1)) + 1)) + 1))).2).2 + 1)) + 1)) + 1)) + 1)) + 1)) + 1)) (W ((W ((W ((W ((W ((W ((W ((l_markIntS (nth v1_2 v1_1).Doc.Salts (l_markStringS (nth v1_2 v1_1).Doc.Parts (W ((W ((W (v1_0 + 1)) + 1)) + 1))).2).2 + 1)) + 1)) + 1)) + 1)) + 1)) + 1)) + 1)) (W ((W ((W ((W ((W ((W ((W ((W ((l_markIntS (nth v1_2 v1_1).Doc.Salts (l_markStringS (nth v1_2 v1_1).Doc.Parts (W ((W ((W (v1_0 + 1)) + 1)) + 1))).2).2 + 1)) + 1)) + 1)) + 1)) + 1)) + 1)) + 1)) + 1))) (TStrand.mk (l_markPieceS (nth v1_2 v1_1).Strand.Pieces (W ((W ((W ((W ((W ((W ((W ((W ((W ((l_markIntS (nth v1_2 v1_1).Doc.Salts (l_markStringS (nth v1_2 v1_1).Doc.Parts (W ((W ((W (v1_0 + 1)) + 1)) + 1))).2).2 + 1)) + 1)) + 1)) + 1)) + 1)) + 1)) + 1)) + 1)) + 1))).1 (nth v1_2 v1_1).Strand.Chain))).map TItem.row)) rfl rfl rfl rfl rfl rfl rfl (l_markRenewalS_ok (nth v1_2 v1_1).Strand.Chain (l_markPieceS (nth v1_2 v1_1).Strand.Pieces (W ((W ((W ((W ((W ((W ((W ((W ((W ((l_markIntS (nth v1_2 v1_1).Doc.Salts (l_markStringS (nth v1_2 v1_1).Doc.Parts (W ((W ((W (v1_0 + 1)) + 1)) + 1))).2).2 + 1)) + 1)) + 1)) + 1)) + 1)) + 1)) + 1)) + 1)) + 1))).2) (by simp) (by simp) (by simp [m2, i1]) (by simp [rowAt_map, rowAt_set_self, m2, i1]) (by simp) (by simp) (by simp) ?_
  simp [List.set_set, set_map (x := (TItem.mk v1_0 (W (v1_0 + 1)) (TDocument.mk (W ((W (v1_0 + 1)) + 1)) (l_markStringS (nth v1_2 v1_1).Doc.Parts (W ((W ((W (v1_0 + 1)) + 1)) + 1))).1 (l_markIntS (nth v1_2 v1_1).Doc.Salts (l_markStringS (nth v1_2 v1_1).Doc.Parts (W ((W ((W (v1_0 + 1)) + 1)) + 1))).2).1) (TSignature.mk (l_markIntS (nth v1_2 v1_1).Doc.Salts (l_markStringS (nth v1_2 v1_1).Doc.Parts (W ((W ((W (v1_0 + 1)) + 1)) + 1))).2).2 (W ((l_markIntS (nth v1_2 v1_1).Doc.Salts (l_markStringS (nth v1_2 v1_1).Doc.Parts (W ((W ((W (v1_0 + 1)) + 1)) + 1))).2).2 + 1)) (W ((W ((l_markIntS (nth v1_2 v1_1).Doc.Salts (l_markStringS (nth v1_2 v1_1).Doc.Parts (W ((W ((W (v1_0 + 1)) + 1)) + 1))).2).2 + 1)) + 1)) (W ((W ((W ((l_markIntS (nth v1_2 v1_1).Doc.Salts (l_markStringS (nth v1_2 v1_1).Doc.Parts (W ((W ((W (v1_0 + 1)) + 1)) + 1))).2).2 + 1)) + 1)) + 1)) (W ((W ((W ((W ((l_markIntS (nth v1_2 v1_1).Doc.Salts (l_markStringS (nth v1_2 v1_1).Doc.Parts (W ((W ((W (v1_0 + 1)) + 1)) + 1))).2).2 + 1)) + 1)) + 1)) + 1)) (W ((W ((W ((W ((W ((l_markIntS (nth v1_2 v1_1).Doc.Salts (l_markStringS (nth v1_2 v1_1).Doc.Parts (W ((W ((W (v1_0 + 1)) + 1)) + 1))).2).2 + 1)) + 1)) + 1)) + 1)) + 1)) (W ((W ((W ((W ((W ((W ((l_markIntS (nth v1_2 v1_1).Doc.Salts (l_markStringS (nth v1_2 v1_1).Doc.Parts (W ((W ((W (v1_0 + 1)) + 1)) + 1))).2).2 + 1)) + 1)) + 1)) + 1)) + 1)) + 1)) (W ((W ((W ((W ((W ((W ((W ((l_markIntS (nth v1_2 v1_1).Doc.Salts (l_markStringS (nth v1_2 v1_1).Doc.Parts (W ((W ((W (v1_0 + 1)) + 1)) + 1))).2).2 + 1)) + 1)) + 1)) + 1)) + 1)) + 1)) + 1)) (W ((W ((W ((W ((W ((W ((W ((W ((l_markIntS (nth v1_2 v1_1).Doc.Salts (l_markStringS (nth v1_2 v1_1).Doc.Parts (W ((W ((W (v1_0 + 1)) + 1)) + 1))).2).2 + 1)) + 1)) + 1)) + 1)) + 1)) + 1)) + 1)) + 1))) (TStrand.mk (l_markPieceS (nth v1_2 v1_1).Strand.Pieces (W ((W ((W ((W ((W ((W ((W ((W ((W ((l_markIntS (nth v1_2 v1_1).Doc.Salts (l_markStringS (nth v1_2 v1_1).Doc.Parts (W ((W ((W (v1_0 + 1)) + 1)) + 1))).2).2 + 1)) + 1)) + 1)) + 1)) + 1)) + 1)) + 1)) + 1)) + 1))).1 (l_markRenewalS (nth v1_2 v1_1).Strand.Chain (l_markPieceS (nth v1_2 v1_1).Strand.Pieces (W ((W ((W ((W ((W ((W ((W ((W ((W ((l_markIntS (nth v1_2 v1_1).Doc.Salts (l_markStringS (nth v1_2 v1_1).Doc.Parts (W ((W ((W (v1_0 + 1)) + 1)) + 1))).2).2 + 1)) + 1)) + 1)) + 1)) + 1)) + 1)) + 1)) + 1)) + 1))).2).1))) rfl, rowAt_map, rowAt_set_self, m2, i1]
  repeat with_reducible refine sd ?_
  refine nxtI ⟨(p1, (l_markRenewalS (nth v1_2 v1_1).Strand.Chain (l_markPieceS (nth v1_2 v1_1).Strand.Pieces (W ((W ((W ((W ((W ((W ((W ((W ((W ((l_markIntS (nth v1_2 v1_1).Doc.Salts (l_markStringS (nth v1_2 v1_1).Doc.Parts (W ((W ((W (v1_0 + 1)) + 1)) + 1))).2).2 + 1)) + 1)) + 1)) + 1)) + 1)) + 1)) + 1)) + 1)) + 1))).2).2, (v1_1 + 1), (v1_2.set v1_1 (TItem.mk v1_0 (W (v1_0 + 1)) (TDocument.mk (W ((W (v1_0 + 1)) + 1)) (l_markStringS (nth v1_2 v1_1).Doc.Parts (W ((W ((W (v1_0 + 1)) + 1)) + 1))).1 (l_markIntS (nth v1_2 v1_1).Doc.Salts (l_markStringS (nth v1_2 v1_1).Doc.Parts (W ((W ((W (v1_0 + 1)) + 1)) + 1))).2).1) (TSignature.mk (l_markIntS (nth v1_2 v1_1).Doc.Salts (l_markStringS (nth v1_2 v1_1).Doc.Parts (W ((W ((W (v1_0 + 1)) + 1)) + 1))).2).2 (W ((l_markIntS (nth v1_2 v1_1).Doc.Salts (l_markStringS (nth v1_2 v1_1).Doc.Parts (W ((W ((W (v1_0 + 1)) + 1)) + 1))).2).2 + 1)) (W ((W ((l_markIntS (nth v1_2 v1_1).Doc.Salts (l_markStringS (nth v1_2 v1_1).Doc.Parts (W ((W ((W (v1_0 + 1)) + 1)) + 1))).2).2 + 1)) + 1)) (W ((W ((W ((l_markIntS (nth v1_2 v1_1).Doc.Salts (l_markStringS (nth v1_2 v1_1).Doc.Parts (W ((W ((W (v1_0 + 1)) + 1)) + 1))).2).2 + 1)) + 1)) + 1)) (W ((W ((W ((W ((l_markIntS (nth v1_2 v1_1).Doc.Salts (l_markStringS (nth v1_2 v1_1).Doc.Parts (W ((W ((W (v1_0 + 1)) + 1)) + 1))).2).2 + 1)) + 1)) + 1)) + 1)) (W ((W ((W ((W ((W ((l_markIntS (nth v1_2 v1_1).Doc.Salts (l_markStringS (nth v1_2 v1_1).Doc.Parts (W ((W ((W (v1_0 + 1)) + 1)) + 1))).2).2 + 1)) + 1)) + 1)) + 1)) + 1)) (W ((W ((W ((W ((W ((W ((l_markIntS (nth v1_2 v1_1).Doc.Salts (l_markStringS (nth v1_2 v1_1).Doc.Parts (W ((W ((W (v1_0 + 1)) + 1)) + 1))).2).2 + 1)) + 1)) + 1)) + 1)) + 1)) + 1)) (W ((W ((W ((W ((W ((W ((W ((l_markIntS (nth v1_2 v1_1).Doc.Salts (l_markStringS (nth v1_2 v1_1).Doc.Parts (W ((W ((W (v1_0 + 1)) + 1)) + 1))).2).2 + 1)) + 1)) + 1)) + 1)) + 1)) + 1)) + 1)) (W ((W ((W ((W ((W ((W ((W ((W ((l_markIntS (nth v1_2 v1_1).Doc.Salts (l_markStringS (nth v1_2 v1_1).Doc.Parts (W ((W ((W (v1_0 + 1)) + 1)) + 1))).2).2 + 1)) + 1)) + 1)) + 1)) + 1)) + 1)) + 1)) + 1))) (TStrand.mk (l_markPieceS (nth v1_2 v1_1).Strand.Pieces (W ((W ((W ((W ((W ((W ((W ((W ((W ((l_markIntS (nth v1_2 v1_1).Doc.Salts (l_markStringS (nth v1_2 v1_1).Doc.Parts (W ((W ((W (v1_0 + 1)) + 1)) + 1))).2).2 + 1)) + 1)) + 1)) + 1)) + 1)) + 1)) + 1)) + 1)) + 1))).1 (l_markRenewalS (nth v1_2 v1_1).Strand.Chain (l_markPieceS (nth v1_2 v1_1).Strand.Pieces (W ((W ((W ((W ((W ((W ((W ((W ((W ((l_markIntS (nth v1_2 v1_1).Doc.Salts (l_markStringS (nth v1_2 v1_1).Doc.Parts (W ((W ((W (v1_0 + 1)) + 1)) + 1))).2).2 + 1)) + 1)) + 1)) + 1)) + 1)) + 1)) + 1)) + 1)) + 1))).2).1)))), ?_, ?_⟩ (by simp) (wk_keep (by simp [w1]))
  · rw [← e1]; simp only [l_markItemS_1, h1, cond_t, cond_f]
  · (simp; omega)
 ·have q1 := h1; try simp at q1
  have x1 : l_markItemS_1 (a0.length + 1) a1 0 a0 = (v1_0, v1_2) := by rw [← e1]; simp only [l_markItemS_1, h1, cond_t, cond_f]
  simp
  refine retM (rv := [.tmp 4]) rfl ?_
  have f1 := l_markItemS.eq_1 a0 a1; simp only [x1, cond_t, cond_f] at f1; simp [f1]
theorem l_markArchiveS_ok (a0 : List TArchive) (a1 : Int) : SoundM Tryz.prog 62 [.sl 2 (a0.map TArchive.row)] [[.int .i64 a1]] [.sl 2 ((l_markArchiveS a0 a1).1.map TArchive.row)] (.int .i64 (l_markArchiveS a0 a1).2) := by
 refine sound_ofM Tryz.func62 rfl (by kernel_rfl) (fun v => ?_)
 simp [Tryz.ntmps62]
 refine okL fun k1 => ?_
 refine loopI (ι := { s : Nat × Int × Nat × (List TArchive) // l_markArchiveS_1 s.1 s.2.1 s.2.2.1 s.2.2.2 = l_markArchiveS_1 (a0.length + 1) a1 0 a0 ∧ (1 ≤ s.1 ∧ s.2.2.2.length < s.1 + s.2.2.1) }) (fun s => stOf 27 [(0, .fix v (.one (.sref 0 0 0 s.1.2.2.2.length)), [.arr true 2 (s.1.2.2.2.map TArchive.row)]), eI 1 s.1.2.1, eI 5 (↑s.1.2.2.1 : Int)]) (fun s => s.1.1) ⟨((a0.length + 1), a1, 0, a0), rfl, by first | omega | (dsimp only; omega) | simp⟩ (wk_keep (by simp)) ?_
 rintro ⟨⟨n1, v1_0, v1_1, v1_2⟩, e1, j1⟩
 try dsimp only at e1 j1
 obtain ⟨p1, rfl⟩ : ∃ p, n1 = p + 1 := ⟨n1 - 1, by omega⟩
 simp
 refine cC (decide ((↑v1_1 : Int) < (↑v1_2.length : Int))) (fun k2 h1 => ?_) (fun k2 h1 => ?_)
 ·have q1 := h1; try simp at q1
  have i1 : v1_1 < v1_2.length := by simpa using h1
  have m2 : v1_2.length ≤ 9223372036854775807 := by simpa using k2 0 _ rfl
  have w1 : IntKind.i64.wrap ((v1_1 : Int) + 1) = (v1_1 : Int) + 1 := wrap_of (by omega) (by omega)
  simp [i1, rowAt_map, set_map (x := (TArchive.mk v1_0 (nth v1_2 v1_1).Items)) rfl, rowAt_set_self]
  repeat with_reducible refine sd ?_
  refine callMT (t := 0) (j := 0) (i := v1_1) (c := 1) (size := 2) (rows := ((v1_2.set v1_1 (TArchive.mk v1_0 (nth v1_2 v1_1).Items)).map TArchive.row)) rfl rfl rfl rfl rfl rfl rfl (l_markItemS_ok (nth v1_2 v1_1).Items (W (v1_0 + 1))) (by simp) (by simp) (by simp [m2, i1]) (by simp [rowAt_map, rowAt_set_self, m2, i1]) (by simp) (by simp) (by simp) ?_
  simp [List.set_set, set_map (x := (TArchive.mk v1_0 (l_markItemS (nth v1_2 v1_1).Items (W (v1_0 + 1))).1)) rfl, rowAt_map, rowAt_set_self, m2, i1]
  repeat with_reducible refine sd ?_
  refine nxtI ⟨(p1, (l_markItemS (nth v1_2 v1_1).Items (W (v1_0 + 1))).2, (v1_1 + 1), (v1_2.set v1_1 (TArchive.mk v1_0 (l_markItemS (nth v1_2 v1_1).Items (W (v1_0 + 1))).1))), ?_, ?_⟩ (by simp) (wk_keep (by simp [w1]))
  · rw [← e1]; simp only [l_markArchiveS_1, h1, cond_t, cond_f]
  · (simp; omega)
 ·have q1 := h1; try simp at q1
  have x1 : l_markArchiveS_1 (a0.length + 1) a1 0 a0 = (v1_0, v1_2) := by rw [← e1]; simp only [l_markArchiveS_1, h1, cond_t, cond_f]
  simp
  refine retM (rv := [.tmp 4]) rfl ?_
  have f1 := l_markArchiveS.eq_1 a0 a1; simp only [x1, cond_t, cond_f] at f1; simp [f1]
theorem l_markWorld_ok (a0 : TWorld) (a1 : Int) : SoundM Tryz.prog 19 a0.row [[.int .i64 a1]] (l_markWorld a0 a1).1.row (.int .i64 (l_markWorld a0 a1).2) := by
 refine sound_ofM Tryz.func19 rfl (by kernel_rfl) (fun v => ?_)
 simp [Tryz.ntmps19]
 refine callMO (ats := [.sref 0 0 0 a0.Frame.Keys.length, .sref 0 1 0 a0.Frame.Authorities.length, .sref 0 2 0 a0.Frame.Methods.length, .d (.int .i64 a0.Frame.Liars), .d (.int .i64 a0.Frame.Now)]) rfl rfl rfl rfl rfl rfl rfl (l_markFrame_ok a0.Frame a1) (by simp) (by simp) (by simp) (by simp) (by simp) (by simp) (by simp) (by simp) (by simp) ?_
 simp
 refine callMO (ats := [.sref 0 5 0 a0.Certs.length]) rfl rfl rfl rfl rfl rfl rfl (l_markCertS_ok a0.Certs (l_markFrame a0.Frame a1).2) (by simp) (by simp) (by simp) (by simp) (by simp) (by simp) (by simp) (by simp) (by simp) ?_
 simp
 refine callMO (ats := [.sref 0 6 0 a0.Ended.length]) rfl rfl rfl rfl rfl rfl rfl (l_markIntS_ok a0.Ended (l_markCertS a0.Certs (l_markFrame a0.Frame a1).2).2) (by simp) (by simp) (by simp) (by simp) (by simp) (by simp) (by simp) (by simp) (by simp) ?_
 simp
 refine callMO (ats := [.sref 0 7 0 a0.Archives.length]) rfl rfl rfl rfl rfl rfl rfl (l_markArchiveS_ok a0.Archives (l_markIntS a0.Ended (l_markCertS a0.Certs (l_markFrame a0.Frame a1).2).2).2) (by simp) (by simp) (by simp) (by simp) (by simp) (by simp) (by simp) (by simp) (by simp) ?_
 simp
 refine callMO (ats := [.sref 0 8 0 a0.Seqs.length]) rfl rfl rfl rfl rfl rfl rfl (l_markIntS_ok a0.Seqs (l_markArchiveS a0.Archives (l_markIntS a0.Ended (l_markCertS a0.Certs (l_markFrame a0.Frame a1).2).2).2).2) (by simp) (by simp) (by simp) (by simp) (by simp) (by simp) (by simp) (by simp) (by simp) ?_
 simp
 refine callMO (ats := [.sref 0 9 0 a0.Lying.length]) rfl rfl rfl rfl rfl rfl rfl (l_markIntS_ok a0.Lying (l_markIntS a0.Seqs (l_markArchiveS a0.Archives (l_markIntS a0.Ended (l_markCertS a0.Certs (l_markFrame a0.Frame a1).2).2).2).2).2) (by simp) (by simp) (by simp) (by simp) (by simp) (by simp) (by simp) (by simp) (by simp) ?_
 simp
 refine callMO (ats := [.sref 0 11 0 a0.Forged.length]) rfl rfl rfl rfl rfl rfl rfl (l_markIntS_ok a0.Forged (l_markIntS a0.Lying (l_markIntS a0.Seqs (l_markArchiveS a0.Archives (l_markIntS a0.Ended (l_markCertS a0.Certs (l_markFrame a0.Frame a1).2).2).2).2).2).2) (by simp) (by simp) (by simp) (by simp) (by simp) (by simp) (by simp) (by simp) (by simp) ?_
 simp
 refine retM (rv := [.tmp 4]) rfl ?_
 have f1 := l_markWorld.eq_1 a0 a1; simp [f1]
theorem l_markDocument_ok (a0 : TDocument) (a1 : Int) : SoundM Tryz.prog 38 a0.row [[.int .i64 a1]] (l_markDocument a0 a1).1.row (.int .i64 (l_markDocument a0 a1).2) := by
 refine sound_ofM Tryz.func38 rfl (by kernel_rfl) (fun v => ?_)
 simp [Tryz.ntmps38]
 refine callMO (ats := [.sref 0 1 0 a0.Parts.length]) rfl rfl rfl rfl rfl rfl rfl (l_markStringS_ok a0.Parts a1) (by simp) (by simp) (by simp) (by simp) (by simp) (by simp) (by simp) (by simp) (by simp) ?_
 simp
 refine callMO (ats := [.sref 0 2 0 a0.Salts.length]) rfl rfl rfl rfl rfl rfl rfl (l_markIntS_ok a0.Salts (l_markStringS a0.Parts a1).2) (by simp) (by simp) (by simp) (by simp) (by simp) (by simp) (by simp) (by simp) (by simp) ?_
 simp
 refine retM (rv := [.tmp 4]) rfl ?_
 have f1 := l_markDocument.eq_1 a0 a1; simp [f1]
theorem l_heldKeyS_ok (a0 : List TKey) (a1 : Int) : SoundAt Tryz.prog 133 false [[.sl 5 (a0.map TKey.row)], [.int .i64 a1]] [[.int .i64 (l_heldKeyS a0 a1)]] := by
 refine sound_of Tryz.func133 rfl (by kernel_rfl) ?_
 simp [Tryz.ntmps133]
 refine okL fun k1 => ?_
 refine loopI (ι := { s : Nat × Int × Nat // l_heldKeyS_1 a0 s.1 s.2.1 s.2.2 = l_heldKeyS_1 a0 (a0.length + 1) a1 0 ∧ (1 ≤ s.1 ∧ a0.length < s.1 + s.2.2 ∧ s.2.2 ≤ a0.length) }) (fun s => stOf 58 [eL 0 5 a0 TKey.row, eI 1 s.1.2.1, eI 5 (↑s.1.2.2 : Int)]) (fun s => s.1.1) ⟨((a0.length + 1), a1, 0), rfl, by first | omega | (dsimp only; omega) | simp⟩ (wk_keep (by simp)) ?_
 rintro ⟨⟨n1, v1_0, v1_1⟩, e1, j1⟩
 try dsimp only at e1 j1
 obtain ⟨p1, rfl⟩ : ∃ p, n1 = p + 1 := ⟨n1 - 1, by omega⟩
 simp
 refine cC (decide ((↑v1_1 : Int) < (↑a0.length : Int))) (fun k2 h1 => ?_) (fun k2 h1 => ?_)
 ·have q1 := h1; try simp at q1
  have i1 : v1_1 < a0.length := by simpa using h1
  have m2 : a0.length ≤ 9223372036854775807 := by simpa using k2 0 _ rfl
  have w1 : IntKind.i64.wrap ((v1_1 : Int) + 1) = (v1_1 : Int) + 1 := wrap_of (by omega) (by omega)
  simp [i1, rowAt_map]
  repeat with_reducible refine sd ?_
  refine cC ((nth a0 v1_1).Number != v1_0) (fun k3 h2 => ?_) (fun k3 h2 => ?_)
  ·have q2 := h2; try simp at q2
   have x1 : l_heldKeyS_1 a0 (a0.length + 1) a1 0 = .inl (-1) := by rw [← e1]; simp only [l_heldKeyS_1, h1, h2, cond_t, cond_f]
   simp
   refine retRd (rv := [.tmp 4]) rfl ?_
   have f1 := l_heldKeyS.eq_1 a0 a1; simp only [x1, cond_t, cond_f] at f1; simp [f1]
  ·have q2 := h2; try simp at q2
   simp [i1, rowAt_map]
   repeat with_reducible refine sd ?_
   refine cC ((nth a0 v1_1).Owner != (W (v1_0 + 1))) (fun k4 h3 => ?_) (fun k4 h3 => ?_)
   ·have q3 := h3; try simp at q3
    have x2 : l_heldKeyS_1 a0 (a0.length + 1) a1 0 = .inl (-1) := by rw [← e1]; simp only [l_heldKeyS_1, h1, h2, h3, cond_t, cond_f]
    simp
    refine retRd (rv := [.tmp 4]) rfl ?_
    have f2 := l_heldKeyS.eq_1 a0 a1; simp only [x2, cond_t, cond_f] at f2; simp [f2]
   ·have q3 := h3; try simp at q3
    simp [i1, rowAt_map]
    repeat with_reducible refine sd ?_
    refine cC ((nth a0 v1_1).Method != (W ((W (v1_0 + 1)) + 1))) (fun k5 h4 => ?_) (fun k5 h4 => ?_)
    ·have q4 := h4; try simp at q4
     have x3 : l_heldKeyS_1 a0 (a0.length + 1) a1 0 = .inl (-1) := by rw [← e1]; simp only [l_heldKeyS_1, h1, h2, h3, h4, cond_t, cond_f]
     simp
     refine retRd (rv := [.tmp 4]) rfl ?_
     have f3 := l_heldKeyS.eq_1 a0 a1; simp only [x3, cond_t, cond_f] at f3; simp [f3]
    ·have q4 := h4; try simp at q4
     simp [i1, rowAt_map]
     repeat with_reducible refine sd ?_
     refine cC ((nth a0 v1_1).Born != (W ((W ((W (v1_0 + 1)) + 1)) + 1))) (fun k6 h5 => ?_) (fun k6 h5 => ?_)
     ·have q5 := h5; try simp at q5
      have x4 : l_heldKeyS_1 a0 (a0.length + 1) a1 0 = .inl (-1) := by rw [← e1]; simp only [l_heldKeyS_1, h1, h2, h3, h4, h5, cond_t, cond_f]
      simp
      refine retRd (rv := [.tmp 4]) rfl ?_
      have f4 := l_heldKeyS.eq_1 a0 a1; simp only [x4, cond_t, cond_f] at f4; simp [f4]
     ·have q5 := h5; try simp at q5
      simp [i1, rowAt_map]
      repeat with_reducible refine sd ?_
      refine cC ((nth a0 v1_1).Secret != (W ((W ((W ((W (v1_0 + 1)) + 1)) + 1)) + 1))) (fun k7 h6 => ?_) (fun k7 h6 => ?_)
      ·have q6 := h6; try simp at q6
       have x5 : l_heldKeyS_1 a0 (a0.length + 1) a1 0 = .inl (-1) := by rw [← e1]; simp only [l_heldKeyS_1, h1, h2, h3, h4, h5, h6, cond_t, cond_f]
       simp
       refine retRd (rv := [.tmp 4]) rfl ?_
       have f5 := l_heldKeyS.eq_1 a0 a1; simp only [x5, cond_t, cond_f] at f5; simp [f5]
      ·have q6 := h6; try simp at q6
       simp
       refine nxtI ⟨(p1, (W ((W ((W ((W ((W (v1_0 + 1)) + 1)) + 1)) + 1)) + 1)), (v1_1 + 1)), ?_, ?_⟩ (by simp) (wk_keep (by simp [w1]))
       · rw [← e1]; simp only [l_heldKeyS_1, h1, h2, h3, h4, h5, h6, cond_t, cond_f]
       · first | omega | (simp at *; omega)
 ·have q1 := h1; try simp at q1
  have x6 : l_heldKeyS_1 a0 (a0.length + 1) a1 0 = .inr v1_0 := by rw [← e1]; simp only [l_heldKeyS_1, h1, cond_t, cond_f]
  simp
  refine retRd (rv := [.tmp 4]) rfl ?_
  have f6 := l_heldKeyS.eq_1 a0 a1; simp only [x6, cond_t, cond_f] at f6; simp [f6]
theorem l_heldAuthorityS_ok (a0 : List TAuthority) (a1 : Int) : SoundAt Tryz.prog 134 false [[.sl 3 (a0.map TAuthority.row)], [.int .i64 a1]] [[.int .i64 (l_heldAuthorityS a0 a1)]] := by
 refine sound_of Tryz.func134 rfl (by kernel_rfl) ?_
 simp [Tryz.ntmps134]
 refine okL fun k1 => ?_
 refine loopI (ι := { s : Nat × Int × Nat // l_heldAuthorityS_1 a0 s.1 s.2.1 s.2.2 = l_heldAuthorityS_1 a0 (a0.length + 1) a1 0 ∧ (1 ≤ s.1 ∧ a0.length < s.1 + s.2.2 ∧ s.2.2 ≤ a0.length) }) (fun s => stOf 40 [eL 0 3 a0 TAuthority.row, eI 1 s.1.2.1, eI 5 (↑s.1.2.2 : Int)]) (fun s => s.1.1) ⟨((a0.length + 1), a1, 0), rfl, by first | omega | (dsimp only; omega) | simp⟩ (wk_keep (by simp)) ?_
 rintro ⟨⟨n1, v1_0, v1_1⟩, e1, j1⟩
 try dsimp only at e1 j1
 obtain ⟨p1, rfl⟩ : ∃ p, n1 = p + 1 := ⟨n1 - 1, by omega⟩
 simp
 refine cC (decide ((↑v1_1 : Int) < (↑a0.length : Int))) (fun k2 h1 => ?_) (fun k2 h1 => ?_)
 ·have q1 := h1; try simp at q1
  have i1 : v1_1 < a0.length := by simpa using h1
  have m2 : a0.length ≤ 9223372036854775807 := by simpa using k2 0 _ rfl
  have w1 : IntKind.i64.wrap ((v1_1 : Int) + 1) = (v1_1 : Int) + 1 := wrap_of (by omega) (by omega)
  simp [i1, rowAt_map]
  repeat with_reducible refine sd ?_
  refine cC ((nth a0 v1_1).Id != v1_0) (fun k3 h2 => ?_) (fun k3 h2 => ?_)
  ·have q2 := h2; try simp at q2
   have x1 : l_heldAuthorityS_1 a0 (a0.length + 1) a1 0 = .inl (-1) := by rw [← e1]; simp only [l_heldAuthorityS_1, h1, h2, cond_t, cond_f]
   simp
   refine retRd (rv := [.tmp 4]) rfl ?_
   have f1 := l_heldAuthorityS.eq_1 a0 a1; simp only [x1, cond_t, cond_f] at f1; simp [f1]
  ·have q2 := h2; try simp at q2
   simp [i1, rowAt_map]
   repeat with_reducible refine sd ?_
   refine cC ((nth a0 v1_1).Key != (W (v1_0 + 1))) (fun k4 h3 => ?_) (fun k4 h3 => ?_)
   ·have q3 := h3; try simp at q3
    have x2 : l_heldAuthorityS_1 a0 (a0.length + 1) a1 0 = .inl (-1) := by rw [← e1]; simp only [l_heldAuthorityS_1, h1, h2, h3, cond_t, cond_f]
    simp
    refine retRd (rv := [.tmp 4]) rfl ?_
    have f2 := l_heldAuthorityS.eq_1 a0 a1; simp only [x2, cond_t, cond_f] at f2; simp [f2]
   ·have q3 := h3; try simp at q3
    simp [i1, rowAt_map]
    repeat with_reducible refine sd ?_
    refine cC ((nth a0 v1_1).Error != (W ((W (v1_0 + 1)) + 1))) (fun k5 h4 => ?_) (fun k5 h4 => ?_)
    ·have q4 := h4; try simp at q4
     have x3 : l_heldAuthorityS_1 a0 (a0.length + 1) a1 0 = .inl (-1) := by rw [← e1]; simp only [l_heldAuthorityS_1, h1, h2, h3, h4, cond_t, cond_f]
     simp
     refine retRd (rv := [.tmp 4]) rfl ?_
     have f3 := l_heldAuthorityS.eq_1 a0 a1; simp only [x3, cond_t, cond_f] at f3; simp [f3]
    ·have q4 := h4; try simp at q4
     simp
     refine nxtI ⟨(p1, (W ((W ((W (v1_0 + 1)) + 1)) + 1)), (v1_1 + 1)), ?_, ?_⟩ (by simp) (wk_keep (by simp [w1]))
     · rw [← e1]; simp only [l_heldAuthorityS_1, h1, h2, h3, h4, cond_t, cond_f]
     · first | omega | (simp at *; omega)
 ·have q1 := h1; try simp at q1
  have x4 : l_heldAuthorityS_1 a0 (a0.length + 1) a1 0 = .inr v1_0 := by rw [← e1]; simp only [l_heldAuthorityS_1, h1, cond_t, cond_f]
  simp
  refine retRd (rv := [.tmp 4]) rfl ?_
  have f4 := l_heldAuthorityS.eq_1 a0 a1; simp only [x4, cond_t, cond_f] at f4; simp [f4]
theorem l_heldMethodS_ok (a0 : List TMethod) (a1 : Int) : SoundAt Tryz.prog 135 false [[.sl 4 (a0.map TMethod.row)], [.int .i64 a1]] [[.int .i64 (l_heldMethodS a0 a1)]] := by
 refine sound_of Tryz.func135 rfl (by kernel_rfl) ?_
 simp [Tryz.ntmps135]
 refine okL fun k1 => ?_
 refine loopI (ι := { s : Nat × Int × Nat // l_heldMethodS_1 a0 s.1 s.2.1 s.2.2 = l_heldMethodS_1 a0 (a0.length + 1) a1 0 ∧ (1 ≤ s.1 ∧ a0.length < s.1 + s.2.2 ∧ s.2.2 ≤ a0.length) }) (fun s => stOf 49 [eL 0 4 a0 TMethod.row, eI 1 s.1.2.1, eI 5 (↑s.1.2.2 : Int)]) (fun s => s.1.1) ⟨((a0.length + 1), a1, 0), rfl, by first | omega | (dsimp only; omega) | simp⟩ (wk_keep (by simp)) ?_
 rintro ⟨⟨n1, v1_0, v1_1⟩, e1, j1⟩
 try dsimp only at e1 j1
 obtain ⟨p1, rfl⟩ : ∃ p, n1 = p + 1 := ⟨n1 - 1, by omega⟩
 simp
 refine cC (decide ((↑v1_1 : Int) < (↑a0.length : Int))) (fun k2 h1 => ?_) (fun k2 h1 => ?_)
 ·have q1 := h1; try simp at q1
  have i1 : v1_1 < a0.length := by simpa using h1
  have m2 : a0.length ≤ 9223372036854775807 := by simpa using k2 0 _ rfl
  have w1 : IntKind.i64.wrap ((v1_1 : Int) + 1) = (v1_1 : Int) + 1 := wrap_of (by omega) (by omega)
  simp [i1, rowAt_map]
  repeat with_reducible refine sd ?_
  refine cC ((nth a0 v1_1).Id != v1_0) (fun k3 h2 => ?_) (fun k3 h2 => ?_)
  ·have q2 := h2; try simp at q2
   have x1 : l_heldMethodS_1 a0 (a0.length + 1) a1 0 = .inl (-1) := by rw [← e1]; simp only [l_heldMethodS_1, h1, h2, cond_t, cond_f]
   simp
   refine retRd (rv := [.tmp 4]) rfl ?_
   have f1 := l_heldMethodS.eq_1 a0 a1; simp only [x1, cond_t, cond_f] at f1; simp [f1]
  ·have q2 := h2; try simp at q2
   simp [i1, rowAt_map]
   repeat with_reducible refine sd ?_
   refine cC ((nth a0 v1_1).Known != (W (v1_0 + 1))) (fun k4 h3 => ?_) (fun k4 h3 => ?_)
   ·have q3 := h3; try simp at q3
    have x2 : l_heldMethodS_1 a0 (a0.length + 1) a1 0 = .inl (-1) := by rw [← e1]; simp only [l_heldMethodS_1, h1, h2, h3, cond_t, cond_f]
    simp
    refine retRd (rv := [.tmp 4]) rfl ?_
    have f2 := l_heldMethodS.eq_1 a0 a1; simp only [x2, cond_t, cond_f] at f2; simp [f2]
   ·have q3 := h3; try simp at q3
    simp [i1, rowAt_map]
    repeat with_reducible refine sd ?_
    refine cC ((nth a0 v1_1).Ends != (W ((W (v1_0 + 1)) + 1))) (fun k5 h4 => ?_) (fun k5 h4 => ?_)
    ·have q4 := h4; try simp at q4
     have x3 : l_heldMethodS_1 a0 (a0.length + 1) a1 0 = .inl (-1) := by rw [← e1]; simp only [l_heldMethodS_1, h1, h2, h3, h4, cond_t, cond_f]
     simp
     refine retRd (rv := [.tmp 4]) rfl ?_
     have f3 := l_heldMethodS.eq_1 a0 a1; simp only [x3, cond_t, cond_f] at f3; simp [f3]
    ·have q4 := h4; try simp at q4
     simp [i1, rowAt_map]
     repeat with_reducible refine sd ?_
     refine cC ((nth a0 v1_1).Broken != (W ((W ((W (v1_0 + 1)) + 1)) + 1))) (fun k6 h5 => ?_) (fun k6 h5 => ?_)
     ·have q5 := h5; try simp at q5
      have x4 : l_heldMethodS_1 a0 (a0.length + 1) a1 0 = .inl (-1) := by rw [← e1]; simp only [l_heldMethodS_1, h1, h2, h3, h4, h5, cond_t, cond_f]
      simp
      refine retRd (rv := [.tmp 4]) rfl ?_
      have f4 := l_heldMethodS.eq_1 a0 a1; simp only [x4, cond_t, cond_f] at f4; simp [f4]
     ·have q5 := h5; try simp at q5
      simp
      refine nxtI ⟨(p1, (W ((W ((W ((W (v1_0 + 1)) + 1)) + 1)) + 1)), (v1_1 + 1)), ?_, ?_⟩ (by simp) (wk_keep (by simp [w1]))
      · rw [← e1]; simp only [l_heldMethodS_1, h1, h2, h3, h4, h5, cond_t, cond_f]
      · first | omega | (simp at *; omega)
 ·have q1 := h1; try simp at q1
  have x5 : l_heldMethodS_1 a0 (a0.length + 1) a1 0 = .inr v1_0 := by rw [← e1]; simp only [l_heldMethodS_1, h1, cond_t, cond_f]
  simp
  refine retRd (rv := [.tmp 4]) rfl ?_
  have f5 := l_heldMethodS.eq_1 a0 a1; simp only [x5, cond_t, cond_f] at f5; simp [f5]
theorem l_heldFrame_ok (a0 : TFrame) (a1 : Int) : SoundAt Tryz.prog 67 false [a0.row, [.int .i64 a1]] [[.int .i64 (l_heldFrame a0 a1)]] := by
 refine sound_of Tryz.func67 rfl (by kernel_rfl) ?_
 simp [Tryz.ntmps67]
 refine cR (l_heldKeyS_ok a0.Keys a1) ?_
 simp
 refine cC (decide ((l_heldKeyS a0.Keys a1) < 0)) (fun k1 h1 => ?_) (fun k1 h1 => ?_)
 ·have q1 := h1; try simp at q1
  simp
  refine retRd (rv := [.tmp 4]) rfl ?_
  have f1 := l_heldFrame.eq_1 a0 a1; simp only [h1, cond_t, cond_f] at f1; simp [f1]
 ·have q1 := h1; try simp at q1
  simp
  refine cR (l_heldAuthorityS_ok a0.Authorities (l_heldKeyS a0.Keys a1)) ?_
  simp
  refine cC (decide ((l_heldAuthorityS a0.Authorities (l_heldKeyS a0.Keys a1)) < 0)) (fun k2 h2 => ?_) (fun k2 h2 => ?_)
  ·have q2 := h2; try simp at q2
   simp
   refine retRd (rv := [.tmp 4]) rfl ?_
   have f2 := l_heldFrame.eq_1 a0 a1; simp only [h1, h2, cond_t, cond_f] at f2; simp [f2]
  ·have q2 := h2; try simp at q2
   simp
   refine cR (l_heldMethodS_ok a0.Methods (l_heldAuthorityS a0.Authorities (l_heldKeyS a0.Keys a1))) ?_
   simp
   refine cC (decide ((l_heldMethodS a0.Methods (l_heldAuthorityS a0.Authorities (l_heldKeyS a0.Keys a1))) < 0)) (fun k3 h3 => ?_) (fun k3 h3 => ?_)
   ·have q3 := h3; try simp at q3
    simp
    refine retRd (rv := [.tmp 4]) rfl ?_
    have f3 := l_heldFrame.eq_1 a0 a1; simp only [h1, h2, h3, cond_t, cond_f] at f3; simp [f3]
   ·have q3 := h3; try simp at q3
    simp
    refine retRd (rv := [.tmp 4]) rfl ?_
    have f4 := l_heldFrame.eq_1 a0 a1; simp only [h1, h2, h3, cond_t, cond_f] at f4; simp [f4]
theorem l_heldCertS_ok (a0 : List TCert) (a1 : Int) : SoundAt Tryz.prog 68 false [[.sl 7 (a0.map TCert.row)], [.int .i64 a1]] [[.int .i64 (l_heldCertS a0 a1)]] := by
 refine sound_of Tryz.func68 rfl (by kernel_rfl) ?_
 simp [Tryz.ntmps68]
 refine okL fun k1 => ?_
 refine loopI (ι := { s : Nat × Int × Nat // l_heldCertS_1 a0 s.1 s.2.1 s.2.2 = l_heldCertS_1 a0 (a0.length + 1) a1 0 ∧ (1 ≤ s.1 ∧ a0.length < s.1 + s.2.2 ∧ s.2.2 ≤ a0.length) }) (fun s => stOf 76 [eL 0 7 a0 TCert.row, eI 1 s.1.2.1, eI 5 (↑s.1.2.2 : Int)]) (fun s => s.1.1) ⟨((a0.length + 1), a1, 0), rfl, by first | omega | (dsimp only; omega) | simp⟩ (wk_keep (by simp)) ?_
 rintro ⟨⟨n1, v1_0, v1_1⟩, e1, j1⟩
 try dsimp only at e1 j1
 obtain ⟨p1, rfl⟩ : ∃ p, n1 = p + 1 := ⟨n1 - 1, by omega⟩
 simp
 refine cC (decide ((↑v1_1 : Int) < (↑a0.length : Int))) (fun k2 h1 => ?_) (fun k2 h1 => ?_)
 ·have q1 := h1; try simp at q1
  have i1 : v1_1 < a0.length := by simpa using h1
  have m2 : a0.length ≤ 9223372036854775807 := by simpa using k2 0 _ rfl
  have w1 : IntKind.i64.wrap ((v1_1 : Int) + 1) = (v1_1 : Int) + 1 := wrap_of (by omega) (by omega)
  simp [i1, rowAt_map]
  repeat with_reducible refine sd ?_
  refine cC ((nth a0 v1_1).Serial != v1_0) (fun k3 h2 => ?_) (fun k3 h2 => ?_)
  ·have q2 := h2; try simp at q2
   have x1 : l_heldCertS_1 a0 (a0.length + 1) a1 0 = .inl (-1) := by rw [← e1]; simp only [l_heldCertS_1, h1, h2, cond_t, cond_f]
   simp
   refine retRd (rv := [.tmp 4]) rfl ?_
   have f1 := l_heldCertS.eq_1 a0 a1; simp only [x1, cond_t, cond_f] at f1; simp [f1]
  ·have q2 := h2; try simp at q2
   simp [i1, rowAt_map]
   repeat with_reducible refine sd ?_
   refine cC ((nth a0 v1_1).Key != (W (v1_0 + 1))) (fun k4 h3 => ?_) (fun k4 h3 => ?_)
   ·have q3 := h3; try simp at q3
    have x2 : l_heldCertS_1 a0 (a0.length + 1) a1 0 = .inl (-1) := by rw [← e1]; simp only [l_heldCertS_1, h1, h2, h3, cond_t, cond_f]
    simp
    refine retRd (rv := [.tmp 4]) rfl ?_
    have f2 := l_heldCertS.eq_1 a0 a1; simp only [x2, cond_t, cond_f] at f2; simp [f2]
   ·have q3 := h3; try simp at q3
    simp [i1, rowAt_map]
    repeat with_reducible refine sd ?_
    refine cC ((nth a0 v1_1).Owner != (W ((W (v1_0 + 1)) + 1))) (fun k5 h4 => ?_) (fun k5 h4 => ?_)
    ·have q4 := h4; try simp at q4
     have x3 : l_heldCertS_1 a0 (a0.length + 1) a1 0 = .inl (-1) := by rw [← e1]; simp only [l_heldCertS_1, h1, h2, h3, h4, cond_t, cond_f]
     simp
     refine retRd (rv := [.tmp 4]) rfl ?_
     have f3 := l_heldCertS.eq_1 a0 a1; simp only [x3, cond_t, cond_f] at f3; simp [f3]
    ·have q4 := h4; try simp at q4
     simp [i1, rowAt_map]
     repeat with_reducible refine sd ?_
     refine cC ((nth a0 v1_1).From != (W ((W ((W (v1_0 + 1)) + 1)) + 1))) (fun k6 h5 => ?_) (fun k6 h5 => ?_)
     ·have q5 := h5; try simp at q5
      have x4 : l_heldCertS_1 a0 (a0.length + 1) a1 0 = .inl (-1) := by rw [← e1]; simp only [l_heldCertS_1, h1, h2, h3, h4, h5, cond_t, cond_f]
      simp
      refine retRd (rv := [.tmp 4]) rfl ?_
      have f4 := l_heldCertS.eq_1 a0 a1; simp only [x4, cond_t, cond_f] at f4; simp [f4]
     ·have q5 := h5; try simp at q5
      simp [i1, rowAt_map]
      repeat with_reducible refine sd ?_
      refine cC ((nth a0 v1_1).To != (W ((W ((W ((W (v1_0 + 1)) + 1)) + 1)) + 1))) (fun k7 h6 => ?_) (fun k7 h6 => ?_)
      ·have q6 := h6; try simp at q6
       have x5 : l_heldCertS_1 a0 (a0.length + 1) a1 0 = .inl (-1) := by rw [← e1]; simp only [l_heldCertS_1, h1, h2, h3, h4, h5, h6, cond_t, cond_f]
       simp
       refine retRd (rv := [.tmp 4]) rfl ?_
       have f5 := l_heldCertS.eq_1 a0 a1; simp only [x5, cond_t, cond_f] at f5; simp [f5]
      ·have q6 := h6; try simp at q6
       simp [i1, rowAt_map]
       repeat with_reducible refine sd ?_
       refine cC ((nth a0 v1_1).Issuer != (W ((W ((W ((W ((W (v1_0 + 1)) + 1)) + 1)) + 1)) + 1))) (fun k8 h7 => ?_) (fun k8 h7 => ?_)
       ·have q7 := h7; try simp at q7
        have x6 : l_heldCertS_1 a0 (a0.length + 1) a1 0 = .inl (-1) := by rw [← e1]; simp only [l_heldCertS_1, h1, h2, h3, h4, h5, h6, h7, cond_t, cond_f]
        simp
        refine retRd (rv := [.tmp 4]) rfl ?_
        have f6 := l_heldCertS.eq_1 a0 a1; simp only [x6, cond_t, cond_f] at f6; simp [f6]
       ·have q7 := h7; try simp at q7
        simp [i1, rowAt_map]
        repeat with_reducible refine sd ?_
        refine cC ((nth a0 v1_1).Mark != (W ((W ((W ((W ((W ((W (v1_0 + 1)) + 1)) + 1)) + 1)) + 1)) + 1))) (fun k9 h8 => ?_) (fun k9 h8 => ?_)
        ·have q8 := h8; try simp at q8
         have x7 : l_heldCertS_1 a0 (a0.length + 1) a1 0 = .inl (-1) := by rw [← e1]; simp only [l_heldCertS_1, h1, h2, h3, h4, h5, h6, h7, h8, cond_t, cond_f]
         simp
         refine retRd (rv := [.tmp 4]) rfl ?_
         have f7 := l_heldCertS.eq_1 a0 a1; simp only [x7, cond_t, cond_f] at f7; simp [f7]
        ·have q8 := h8; try simp at q8
         simp
         refine nxtI ⟨(p1, (W ((W ((W ((W ((W ((W ((W (v1_0 + 1)) + 1)) + 1)) + 1)) + 1)) + 1)) + 1)), (v1_1 + 1)), ?_, ?_⟩ (by simp) (wk_keep (by simp [w1]))
         · rw [← e1]; simp only [l_heldCertS_1, h1, h2, h3, h4, h5, h6, h7, h8, cond_t, cond_f]
         · first | omega | (simp at *; omega)
 ·have q1 := h1; try simp at q1
  have x8 : l_heldCertS_1 a0 (a0.length + 1) a1 0 = .inr v1_0 := by rw [← e1]; simp only [l_heldCertS_1, h1, cond_t, cond_f]
  simp
  refine retRd (rv := [.tmp 4]) rfl ?_
  have f8 := l_heldCertS.eq_1 a0 a1; simp only [x8, cond_t, cond_f] at f8; simp [f8]
theorem l_heldIntS_ok (a0 : List Int) (a1 : Int) : SoundAt Tryz.prog 21 false [[.sl 1 (a0.map iR)], [.int .i64 a1]] [[.int .i64 (l_heldIntS a0 a1)]] := by
 refine sound_of Tryz.func21 rfl (by kernel_rfl) ?_
 simp [Tryz.ntmps21]
 refine okL fun k1 => ?_
 refine loopI (ι := { s : Nat × Int × Nat // l_heldIntS_1 a0 s.1 s.2.1 s.2.2 = l_heldIntS_1 a0 (a0.length + 1) a1 0 ∧ (1 ≤ s.1 ∧ a0.length < s.1 + s.2.2 ∧ s.2.2 ≤ a0.length) }) (fun s => stOf 21 [eL 0 1 a0 iR, eI 1 s.1.2.1, eI 5 (↑s.1.2.2 : Int)]) (fun s => s.1.1) ⟨((a0.length + 1), a1, 0), rfl, by first | omega | (dsimp only; omega) | simp⟩ (wk_keep (by simp)) ?_
 rintro ⟨⟨n1, v1_0, v1_1⟩, e1, j1⟩
 try dsimp only at e1 j1
 obtain ⟨p1, rfl⟩ : ∃ p, n1 = p + 1 := ⟨n1 - 1, by omega⟩
 simp
 refine cC (decide ((↑v1_1 : Int) < (↑a0.length : Int))) (fun k2 h1 => ?_) (fun k2 h1 => ?_)
 ·have q1 := h1; try simp at q1
  have i1 : v1_1 < a0.length := by simpa using h1
  have m2 : a0.length ≤ 9223372036854775807 := by simpa using k2 0 _ rfl
  have w1 : IntKind.i64.wrap ((v1_1 : Int) + 1) = (v1_1 : Int) + 1 := wrap_of (by omega) (by omega)
  simp [i1, rowAt_map]
  repeat with_reducible refine sd ?_
  refine cC ((nth a0 v1_1) != v1_0) (fun k3 h2 => ?_) (fun k3 h2 => ?_)
  ·have q2 := h2; try simp at q2
   have x1 : l_heldIntS_1 a0 (a0.length + 1) a1 0 = .inl (-1) := by rw [← e1]; simp only [l_heldIntS_1, h1, h2, cond_t, cond_f]
   simp
   refine retRd (rv := [.tmp 4]) rfl ?_
   have f1 := l_heldIntS.eq_1 a0 a1; simp only [x1, cond_t, cond_f] at f1; simp [f1]
  ·have q2 := h2; try simp at q2
   simp
   refine nxtI ⟨(p1, (W (v1_0 + 1)), (v1_1 + 1)), ?_, ?_⟩ (by simp) (wk_keep (by simp [w1]))
   · rw [← e1]; simp only [l_heldIntS_1, h1, h2, cond_t, cond_f]
   · first | omega | (simp at *; omega)
 ·have q1 := h1; try simp at q1
  have x2 : l_heldIntS_1 a0 (a0.length + 1) a1 0 = .inr v1_0 := by rw [← e1]; simp only [l_heldIntS_1, h1, cond_t, cond_f]
  simp
  refine retRd (rv := [.tmp 4]) rfl ?_
  have f2 := l_heldIntS.eq_1 a0 a1; simp only [x2, cond_t, cond_f] at f2; simp [f2]
theorem l_heldStringS_ok (a0 : List ByteArray) (a1 : Int) : SoundAt Tryz.prog 197 false [[.sl 1 (a0.map sR)], [.int .i64 a1]] [[.int .i64 (l_heldStringS a0 a1)]] := by
 refine sound_of Tryz.func197 rfl (by kernel_rfl) ?_
 simp [Tryz.ntmps197]
 refine okL fun k1 => ?_
 refine loopI (ι := { s : Nat × Int × Nat // l_heldStringS_1 a0 s.1 s.2.1 s.2.2 = l_heldStringS_1 a0 (a0.length + 1) a1 0 ∧ (1 ≤ s.1 ∧ a0.length < s.1 + s.2.2 ∧ s.2.2 ≤ a0.length) }) (fun s => stOf 22 [eL 0 1 a0 sR, eI 1 s.1.2.1, eI 5 (↑s.1.2.2 : Int)]) (fun s => s.1.1) ⟨((a0.length + 1), a1, 0), rfl, by first | omega | (dsimp only; omega) | simp⟩ (wk_keep (by simp)) ?_
 rintro ⟨⟨n1, v1_0, v1_1⟩, e1, j1⟩
 try dsimp only at e1 j1
 obtain ⟨p1, rfl⟩ : ∃ p, n1 = p + 1 := ⟨n1 - 1, by omega⟩
 simp
 refine cC (decide ((↑v1_1 : Int) < (↑a0.length : Int))) (fun k2 h1 => ?_) (fun k2 h1 => ?_)
 ·have q1 := h1; try simp at q1
  have i1 : v1_1 < a0.length := by simpa using h1
  have m2 : a0.length ≤ 9223372036854775807 := by simpa using k2 0 _ rfl
  have w1 : IntKind.i64.wrap ((v1_1 : Int) + 1) = (v1_1 : Int) + 1 := wrap_of (by omega) (by omega)
  simp
  refine okD fun k3 => ?_
  refine drawI mixed (by kernel_rfl) (by kernel_rfl) ?_
  simp [i1, rowAt_map]
  repeat with_reducible refine sd ?_
  refine cR (l_markText_ok v1_0) ?_
  simp
  refine cC (!decide ((nth a0 v1_1) = (l_markText v1_0))) (fun k4 h2 => ?_) (fun k4 h2 => ?_)
  ·have q2 := h2; try simp at q2
   have x1 : l_heldStringS_1 a0 (a0.length + 1) a1 0 = .inl (-1) := by rw [← e1]; simp only [l_heldStringS_1, h1, h2, cond_t, cond_f]
   simp
   refine retRd (rv := [.tmp 4]) rfl ?_
   have f1 := l_heldStringS.eq_1 a0 a1; simp only [x1, cond_t, cond_f] at f1; simp [f1]
  ·have q2 := h2; try simp at q2
   simp
   refine nxtI ⟨(p1, (W (v1_0 + 1)), (v1_1 + 1)), ?_, ?_⟩ (by simp) (wk_keep (by simp [w1]))
   · rw [← e1]; simp only [l_heldStringS_1, h1, h2, cond_t, cond_f]
   · first | omega | (simp at *; omega)
 ·have q1 := h1; try simp at q1
  have x2 : l_heldStringS_1 a0 (a0.length + 1) a1 0 = .inr v1_0 := by rw [← e1]; simp only [l_heldStringS_1, h1, cond_t, cond_f]
  simp
  refine retRd (rv := [.tmp 4]) rfl ?_
  have f2 := l_heldStringS.eq_1 a0 a1; simp only [x2, cond_t, cond_f] at f2; simp [f2]
theorem l_heldPieceS_ok (a0 : List TPiece) (a1 : Int) : SoundAt Tryz.prog 198 false [[.sl 3 (a0.map TPiece.row)], [.int .i64 a1]] [[.int .i64 (l_heldPieceS a0 a1)]] := by
 refine sound_of Tryz.func198 rfl (by kernel_rfl) ?_
 simp [Tryz.ntmps198]
 refine okL fun k1 => ?_
 refine loopI (ι := { s : Nat × Int × Nat // l_heldPieceS_1 a0 s.1 s.2.1 s.2.2 = l_heldPieceS_1 a0 (a0.length + 1) a1 0 ∧ (1 ≤ s.1 ∧ a0.length < s.1 + s.2.2 ∧ s.2.2 ≤ a0.length) }) (fun s => stOf 40 [eL 0 3 a0 TPiece.row, eI 1 s.1.2.1, eI 5 (↑s.1.2.2 : Int)]) (fun s => s.1.1) ⟨((a0.length + 1), a1, 0), rfl, by first | omega | (dsimp only; omega) | simp⟩ (wk_keep (by simp)) ?_
 rintro ⟨⟨n1, v1_0, v1_1⟩, e1, j1⟩
 try dsimp only at e1 j1
 obtain ⟨p1, rfl⟩ : ∃ p, n1 = p + 1 := ⟨n1 - 1, by omega⟩
 simp
 refine cC (decide ((↑v1_1 : Int) < (↑a0.length : Int))) (fun k2 h1 => ?_) (fun k2 h1 => ?_)
 ·have q1 := h1; try simp at q1
  have i1 : v1_1 < a0.length := by simpa using h1
  have m2 : a0.length ≤ 9223372036854775807 := by simpa using k2 0 _ rfl
  have w1 : IntKind.i64.wrap ((v1_1 : Int) + 1) = (v1_1 : Int) + 1 := wrap_of (by omega) (by omega)
  simp [i1, rowAt_map]
  repeat with_reducible refine sd ?_
  refine cC ((nth a0 v1_1).Key != v1_0) (fun k3 h2 => ?_) (fun k3 h2 => ?_)
  ·have q2 := h2; try simp at q2
   have x1 : l_heldPieceS_1 a0 (a0.length + 1) a1 0 = .inl (-1) := by rw [← e1]; simp only [l_heldPieceS_1, h1, h2, cond_t, cond_f]
   simp
   refine retRd (rv := [.tmp 4]) rfl ?_
   have f1 := l_heldPieceS.eq_1 a0 a1; simp only [x1, cond_t, cond_f] at f1; simp [f1]
  ·have q2 := h2; try simp at q2
   simp [i1, rowAt_map]
   repeat with_reducible refine sd ?_
   refine cR (l_heldIntS_ok (nth a0 v1_1).Ints (W (v1_0 + 1))) ?_ (hrows := by first | (simp; done) | (simp [W, w1]; done))
   simp
   refine cC (decide ((l_heldIntS (nth a0 v1_1).Ints (W (v1_0 + 1))) < 0)) (fun k4 h3 => ?_) (fun k4 h3 => ?_)
   ·have q3 := h3; try simp at q3
    have x2 : l_heldPieceS_1 a0 (a0.length + 1) a1 0 = .inl (-1) := by rw [← e1]; simp only [l_heldPieceS_1, h1, h2, h3, cond_t, cond_f]
    simp
    refine retRd (rv := [.tmp 4]) rfl ?_
    have f2 := l_heldPieceS.eq_1 a0 a1; simp only [x2, cond_t, cond_f] at f2; simp [f2]
   ·have q3 := h3; try simp at q3
    simp [i1, rowAt_map]
    repeat with_reducible refine sd ?_
    refine cC ((nth a0 v1_1).Mark != (l_heldIntS (nth a0 v1_1).Ints (W (v1_0 + 1)))) (fun k5 h4 => ?_) (fun k5 h4 => ?_)
    ·have q4 := h4; try simp at q4
     have x3 : l_heldPieceS_1 a0 (a0.length + 1) a1 0 = .inl (-1) := by rw [← e1]; simp only [l_heldPieceS_1, h1, h2, h3, h4, cond_t, cond_f]
     simp
     refine retRd (rv := [.tmp 4]) rfl ?_
     have f3 := l_heldPieceS.eq_1 a0 a1; simp only [x3, cond_t, cond_f] at f3; simp [f3]
    ·have q4 := h4; try simp at q4
     simp
     refine nxtI ⟨(p1, (W ((l_heldIntS (nth a0 v1_1).Ints (W (v1_0 + 1))) + 1)), (v1_1 + 1)), ?_, ?_⟩ (by simp) (wk_keep (by simp [w1]))
     · rw [← e1]; simp only [l_heldPieceS_1, h1, h2, h3, h4, cond_t, cond_f]
     · first | omega | (simp at *; omega)
 ·have q1 := h1; try simp at q1
  have x4 : l_heldPieceS_1 a0 (a0.length + 1) a1 0 = .inr v1_0 := by rw [← e1]; simp only [l_heldPieceS_1, h1, cond_t, cond_f]
  simp
  refine retRd (rv := [.tmp 4]) rfl ?_
  have f4 := l_heldPieceS.eq_1 a0 a1; simp only [x4, cond_t, cond_f] at f4; simp [f4]
theorem l_heldStepS_ok (a0 : List TStep) (a1 : Int) : SoundAt Tryz.prog 244 false [[.sl 2 (a0.map TStep.row)], [.int .i64 a1]] [[.int .i64 (l_heldStepS a0 a1)]] := by
 refine sound_of Tryz.func244 rfl (by kernel_rfl) ?_
 simp [Tryz.ntmps244]
 refine okL fun k1 => ?_
 refine loopI (ι := { s : Nat × Int × Nat // l_heldStepS_1 a0 s.1 s.2.1 s.2.2 = l_heldStepS_1 a0 (a0.length + 1) a1 0 ∧ (1 ≤ s.1 ∧ a0.length < s.1 + s.2.2 ∧ s.2.2 ≤ a0.length) }) (fun s => stOf 33 [eL 0 2 a0 TStep.row, eI 1 s.1.2.1, eI 5 (↑s.1.2.2 : Int)]) (fun s => s.1.1) ⟨((a0.length + 1), a1, 0), rfl, by first | omega | (dsimp only; omega) | simp⟩ (wk_keep (by simp)) ?_
 rintro ⟨⟨n1, v1_0, v1_1⟩, e1, j1⟩
 try dsimp only at e1 j1
 obtain ⟨p1, rfl⟩ : ∃ p, n1 = p + 1 := ⟨n1 - 1, by omega⟩
 simp
 refine cC (decide ((↑v1_1 : Int) < (↑a0.length : Int))) (fun k2 h1 => ?_) (fun k2 h1 => ?_)
 ·have q1 := h1; try simp at q1
  have i1 : v1_1 < a0.length := by simpa using h1
  have m2 : a0.length ≤ 9223372036854775807 := by simpa using k2 0 _ rfl
  have w1 : IntKind.i64.wrap ((v1_1 : Int) + 1) = (v1_1 : Int) + 1 := wrap_of (by omega) (by omega)
  simp [i1, rowAt_map]
  repeat with_reducible refine sd ?_
  refine cC ((nth a0 v1_1).Digest != v1_0) (fun k3 h2 => ?_) (fun k3 h2 => ?_)
  ·have q2 := h2; try simp at q2
   have x1 : l_heldStepS_1 a0 (a0.length + 1) a1 0 = .inl (-1) := by rw [← e1]; simp only [l_heldStepS_1, h1, h2, cond_t, cond_f]
   simp
   refine retRd (rv := [.tmp 4]) rfl ?_
   have f1 := l_heldStepS.eq_1 a0 a1; simp only [x1, cond_t, cond_f] at f1; simp [f1]
  ·have q2 := h2; try simp at q2
   simp [i1, rowAt_map]
   repeat with_reducible refine sd ?_
   refine cC (!((nth a0 v1_1).Left == ((Int.tmod (W (v1_0 + 1)) 3) == 0))) (fun k4 h3 => ?_) (fun k4 h3 => ?_)
   ·have q3 := h3; try simp at q3
    have x2 : l_heldStepS_1 a0 (a0.length + 1) a1 0 = .inl (-1) := by rw [← e1]; simp only [l_heldStepS_1, h1, h2, h3, cond_t, cond_f]
    simp
    refine retRd (rv := [.tmp 4]) rfl ?_
    have f2 := l_heldStepS.eq_1 a0 a1; simp only [x2, cond_t, cond_f] at f2; simp [f2]
   ·have q3 := h3; try simp at q3
    simp
    refine nxtI ⟨(p1, (W ((W (v1_0 + 1)) + 1)), (v1_1 + 1)), ?_, ?_⟩ (by simp) (wk_keep (by simp [w1]))
    · rw [← e1]; simp only [l_heldStepS_1, h1, h2, h3, cond_t, cond_f]
    · first | omega | (simp at *; omega)
 ·have q1 := h1; try simp at q1
  have x3 : l_heldStepS_1 a0 (a0.length + 1) a1 0 = .inr v1_0 := by rw [← e1]; simp only [l_heldStepS_1, h1, cond_t, cond_f]
  simp
  refine retRd (rv := [.tmp 4]) rfl ?_
  have f3 := l_heldStepS.eq_1 a0 a1; simp only [x3, cond_t, cond_f] at f3; simp [f3]
theorem l_heldStampS_ok (a0 : List TStamp) (a1 : Int) : SoundAt Tryz.prog 245 false [[.sl 5 (a0.map TStamp.row)], [.int .i64 a1]] [[.int .i64 (l_heldStampS a0 a1)]] := by
 refine sound_of Tryz.func245 rfl (by kernel_rfl) ?_
 simp [Tryz.ntmps245]
 refine okL fun k1 => ?_
 refine loopI (ι := { s : Nat × Int × Nat // l_heldStampS_1 a0 s.1 s.2.1 s.2.2 = l_heldStampS_1 a0 (a0.length + 1) a1 0 ∧ (1 ≤ s.1 ∧ a0.length < s.1 + s.2.2 ∧ s.2.2 ≤ a0.length) }) (fun s => stOf 58 [eL 0 5 a0 TStamp.row, eI 1 s.1.2.1, eI 5 (↑s.1.2.2 : Int)]) (fun s => s.1.1) ⟨((a0.length + 1), a1, 0), rfl, by first | omega | (dsimp only; omega) | simp⟩ (wk_keep (by simp)) ?_
 rintro ⟨⟨n1, v1_0, v1_1⟩, e1, j1⟩
 try dsimp only at e1 j1
 obtain ⟨p1, rfl⟩ : ∃ p, n1 = p + 1 := ⟨n1 - 1, by omega⟩
 simp
 refine cC (decide ((↑v1_1 : Int) < (↑a0.length : Int))) (fun k2 h1 => ?_) (fun k2 h1 => ?_)
 ·have q1 := h1; try simp at q1
  have i1 : v1_1 < a0.length := by simpa using h1
  have m2 : a0.length ≤ 9223372036854775807 := by simpa using k2 0 _ rfl
  have w1 : IntKind.i64.wrap ((v1_1 : Int) + 1) = (v1_1 : Int) + 1 := wrap_of (by omega) (by omega)
  simp [i1, rowAt_map]
  repeat with_reducible refine sd ?_
  refine cC ((nth a0 v1_1).Authority != v1_0) (fun k3 h2 => ?_) (fun k3 h2 => ?_)
  ·have q2 := h2; try simp at q2
   have x1 : l_heldStampS_1 a0 (a0.length + 1) a1 0 = .inl (-1) := by rw [← e1]; simp only [l_heldStampS_1, h1, h2, cond_t, cond_f]
   simp
   refine retRd (rv := [.tmp 4]) rfl ?_
   have f1 := l_heldStampS.eq_1 a0 a1; simp only [x1, cond_t, cond_f] at f1; simp [f1]
  ·have q2 := h2; try simp at q2
   simp [i1, rowAt_map]
   repeat with_reducible refine sd ?_
   refine cC ((nth a0 v1_1).Seq != (W (v1_0 + 1))) (fun k4 h3 => ?_) (fun k4 h3 => ?_)
   ·have q3 := h3; try simp at q3
    have x2 : l_heldStampS_1 a0 (a0.length + 1) a1 0 = .inl (-1) := by rw [← e1]; simp only [l_heldStampS_1, h1, h2, h3, cond_t, cond_f]
    simp
    refine retRd (rv := [.tmp 4]) rfl ?_
    have f2 := l_heldStampS.eq_1 a0 a1; simp only [x2, cond_t, cond_f] at f2; simp [f2]
   ·have q3 := h3; try simp at q3
    simp [i1, rowAt_map]
    repeat with_reducible refine sd ?_
    refine cC ((nth a0 v1_1).Time != (W ((W (v1_0 + 1)) + 1))) (fun k5 h4 => ?_) (fun k5 h4 => ?_)
    ·have q4 := h4; try simp at q4
     have x3 : l_heldStampS_1 a0 (a0.length + 1) a1 0 = .inl (-1) := by rw [← e1]; simp only [l_heldStampS_1, h1, h2, h3, h4, cond_t, cond_f]
     simp
     refine retRd (rv := [.tmp 4]) rfl ?_
     have f3 := l_heldStampS.eq_1 a0 a1; simp only [x3, cond_t, cond_f] at f3; simp [f3]
    ·have q4 := h4; try simp at q4
     simp [i1, rowAt_map]
     repeat with_reducible refine sd ?_
     refine cC ((nth a0 v1_1).Digest != (W ((W ((W (v1_0 + 1)) + 1)) + 1))) (fun k6 h5 => ?_) (fun k6 h5 => ?_)
     ·have q5 := h5; try simp at q5
      have x4 : l_heldStampS_1 a0 (a0.length + 1) a1 0 = .inl (-1) := by rw [← e1]; simp only [l_heldStampS_1, h1, h2, h3, h4, h5, cond_t, cond_f]
      simp
      refine retRd (rv := [.tmp 4]) rfl ?_
      have f4 := l_heldStampS.eq_1 a0 a1; simp only [x4, cond_t, cond_f] at f4; simp [f4]
     ·have q5 := h5; try simp at q5
      simp [i1, rowAt_map]
      repeat with_reducible refine sd ?_
      refine cC ((nth a0 v1_1).Mark != (W ((W ((W ((W (v1_0 + 1)) + 1)) + 1)) + 1))) (fun k7 h6 => ?_) (fun k7 h6 => ?_)
      ·have q6 := h6; try simp at q6
       have x5 : l_heldStampS_1 a0 (a0.length + 1) a1 0 = .inl (-1) := by rw [← e1]; simp only [l_heldStampS_1, h1, h2, h3, h4, h5, h6, cond_t, cond_f]
       simp
       refine retRd (rv := [.tmp 4]) rfl ?_
       have f5 := l_heldStampS.eq_1 a0 a1; simp only [x5, cond_t, cond_f] at f5; simp [f5]
      ·have q6 := h6; try simp at q6
       simp
       refine nxtI ⟨(p1, (W ((W ((W ((W ((W (v1_0 + 1)) + 1)) + 1)) + 1)) + 1)), (v1_1 + 1)), ?_, ?_⟩ (by simp) (wk_keep (by simp [w1]))
       · rw [← e1]; simp only [l_heldStampS_1, h1, h2, h3, h4, h5, h6, cond_t, cond_f]
       · first | omega | (simp at *; omega)
 ·have q1 := h1; try simp at q1
  have x6 : l_heldStampS_1 a0 (a0.length + 1) a1 0 = .inr v1_0 := by rw [← e1]; simp only [l_heldStampS_1, h1, cond_t, cond_f]
  simp
  refine retRd (rv := [.tmp 4]) rfl ?_
  have f6 := l_heldStampS.eq_1 a0 a1; simp only [x6, cond_t, cond_f] at f6; simp [f6]
theorem l_heldRenewalS_ok (a0 : List TRenewal) (a1 : Int) : SoundAt Tryz.prog 199 false [[.sl 5 (a0.map TRenewal.row)], [.int .i64 a1]] [[.int .i64 (l_heldRenewalS a0 a1)]] := by
 refine sound_of Tryz.func199 rfl (by kernel_rfl) ?_
 simp [Tryz.ntmps199]
 refine okL fun k1 => ?_
 refine loopI (ι := { s : Nat × Int × Nat // l_heldRenewalS_1 a0 s.1 s.2.1 s.2.2 = l_heldRenewalS_1 a0 (a0.length + 1) a1 0 ∧ (1 ≤ s.1 ∧ a0.length < s.1 + s.2.2 ∧ s.2.2 ≤ a0.length) }) (fun s => stOf 58 [eL 0 5 a0 TRenewal.row, eI 1 s.1.2.1, eI 5 (↑s.1.2.2 : Int)]) (fun s => s.1.1) ⟨((a0.length + 1), a1, 0), rfl, by first | omega | (dsimp only; omega) | simp⟩ (wk_keep (by simp)) ?_
 rintro ⟨⟨n1, v1_0, v1_1⟩, e1, j1⟩
 try dsimp only at e1 j1
 obtain ⟨p1, rfl⟩ : ∃ p, n1 = p + 1 := ⟨n1 - 1, by omega⟩
 simp
 refine cC (decide ((↑v1_1 : Int) < (↑a0.length : Int))) (fun k2 h1 => ?_) (fun k2 h1 => ?_)
 ·have q1 := h1; try simp at q1
  have i1 : v1_1 < a0.length := by simpa using h1
  have m2 : a0.length ≤ 9223372036854775807 := by simpa using k2 0 _ rfl
  have w1 : IntKind.i64.wrap ((v1_1 : Int) + 1) = (v1_1 : Int) + 1 := wrap_of (by omega) (by omega)
  simp [i1, rowAt_map]
  repeat with_reducible refine sd ?_
  refine cC ((nth a0 v1_1).Count != v1_0) (fun k3 h2 => ?_) (fun k3 h2 => ?_)
  ·have q2 := h2; try simp at q2
   have x1 : l_heldRenewalS_1 a0 (a0.length + 1) a1 0 = .inl (-1) := by rw [← e1]; simp only [l_heldRenewalS_1, h1, h2, cond_t, cond_f]
   simp
   refine retRd (rv := [.tmp 4]) rfl ?_
   have f1 := l_heldRenewalS.eq_1 a0 a1; simp only [x1, cond_t, cond_f] at f1; simp [f1]
  ·have q2 := h2; try simp at q2
   simp [i1, rowAt_map]
   repeat with_reducible refine sd ?_
   refine cC ((nth a0 v1_1).Method != (W (v1_0 + 1))) (fun k4 h3 => ?_) (fun k4 h3 => ?_)
   ·have q3 := h3; try simp at q3
    have x2 : l_heldRenewalS_1 a0 (a0.length + 1) a1 0 = .inl (-1) := by rw [← e1]; simp only [l_heldRenewalS_1, h1, h2, h3, cond_t, cond_f]
    simp
    refine retRd (rv := [.tmp 4]) rfl ?_
    have f2 := l_heldRenewalS.eq_1 a0 a1; simp only [x2, cond_t, cond_f] at f2; simp [f2]
   ·have q3 := h3; try simp at q3
    simp [i1, rowAt_map]
    repeat with_reducible refine sd ?_
    refine cC ((nth a0 v1_1).Root != (W ((W (v1_0 + 1)) + 1))) (fun k5 h4 => ?_) (fun k5 h4 => ?_)
    ·have q4 := h4; try simp at q4
     have x3 : l_heldRenewalS_1 a0 (a0.length + 1) a1 0 = .inl (-1) := by rw [← e1]; simp only [l_heldRenewalS_1, h1, h2, h3, h4, cond_t, cond_f]
     simp
     refine retRd (rv := [.tmp 4]) rfl ?_
     have f3 := l_heldRenewalS.eq_1 a0 a1; simp only [x3, cond_t, cond_f] at f3; simp [f3]
    ·have q4 := h4; try simp at q4
     simp [i1, rowAt_map]
     repeat with_reducible refine sd ?_
     refine cR (l_heldStepS_ok (nth a0 v1_1).Path (W ((W ((W (v1_0 + 1)) + 1)) + 1))) ?_ (hrows := by first | (simp; done) | (simp [W, w1]; done))
     simp
     refine cC (decide ((l_heldStepS (nth a0 v1_1).Path (W ((W ((W (v1_0 + 1)) + 1)) + 1))) < 0)) (fun k6 h5 => ?_) (fun k6 h5 => ?_)
     ·have q5 := h5; try simp at q5
      have x4 : l_heldRenewalS_1 a0 (a0.length + 1) a1 0 = .inl (-1) := by rw [← e1]; simp only [l_heldRenewalS_1, h1, h2, h3, h4, h5, cond_t, cond_f]
      simp
      refine retRd (rv := [.tmp 4]) rfl ?_
      have f4 := l_heldRenewalS.eq_1 a0 a1; simp only [x4, cond_t, cond_f] at f4; simp [f4]
     ·have q5 := h5; try simp at q5
      simp [i1, rowAt_map]
      repeat with_reducible refine sd ?_
      refine cR (l_heldStampS_ok (nth a0 v1_1).Stamps (l_heldStepS (nth a0 v1_1).Path (W ((W ((W (v1_0 + 1)) + 1)) + 1)))) ?_ (hrows := by first | (simp; done) | (simp [W, w1]; done))
      simp
      refine cC (decide ((l_heldStampS (nth a0 v1_1).Stamps (l_heldStepS (nth a0 v1_1).Path (W ((W ((W (v1_0 + 1)) + 1)) + 1)))) < 0)) (fun k7 h6 => ?_) (fun k7 h6 => ?_)
      ·have q6 := h6; try simp at q6
       have x5 : l_heldRenewalS_1 a0 (a0.length + 1) a1 0 = .inl (-1) := by rw [← e1]; simp only [l_heldRenewalS_1, h1, h2, h3, h4, h5, h6, cond_t, cond_f]
       simp
       refine retRd (rv := [.tmp 4]) rfl ?_
       have f5 := l_heldRenewalS.eq_1 a0 a1; simp only [x5, cond_t, cond_f] at f5; simp [f5]
      ·have q6 := h6; try simp at q6
       simp
       refine nxtI ⟨(p1, (l_heldStampS (nth a0 v1_1).Stamps (l_heldStepS (nth a0 v1_1).Path (W ((W ((W (v1_0 + 1)) + 1)) + 1)))), (v1_1 + 1)), ?_, ?_⟩ (by simp) (wk_keep (by simp [w1]))
       · rw [← e1]; simp only [l_heldRenewalS_1, h1, h2, h3, h4, h5, h6, cond_t, cond_f]
       · first | omega | (simp at *; omega)
 ·have q1 := h1; try simp at q1
  have x6 : l_heldRenewalS_1 a0 (a0.length + 1) a1 0 = .inr v1_0 := by rw [← e1]; simp only [l_heldRenewalS_1, h1, cond_t, cond_f]
  simp
  refine retRd (rv := [.tmp 4]) rfl ?_
  have f6 := l_heldRenewalS.eq_1 a0 a1; simp only [x6, cond_t, cond_f] at f6; simp [f6]
theorem l_heldItemS_ok (a0 : List TItem) (a1 : Int) : SoundAt Tryz.prog 136 false [[.sl 16 (a0.map TItem.row)], [.int .i64 a1]] [[.int .i64 (l_heldItemS a0 a1)]] := by
 refine sound_of Tryz.func136 rfl (by kernel_rfl) ?_
 simp [Tryz.ntmps136]
 refine okL fun k1 => ?_
 refine loopI (ι := { s : Nat × Int × Nat // l_heldItemS_1 a0 s.1 s.2.1 s.2.2 = l_heldItemS_1 a0 (a0.length + 1) a1 0 ∧ (1 ≤ s.1 ∧ a0.length < s.1 + s.2.2 ∧ s.2.2 ≤ a0.length) }) (fun s => stOf 171 [eL 0 16 a0 TItem.row, eI 1 s.1.2.1, eI 5 (↑s.1.2.2 : Int)]) (fun s => s.1.1) ⟨((a0.length + 1), a1, 0), rfl, by first | omega | (dsimp only; omega) | simp⟩ (wk_keep (by simp)) ?_
 rintro ⟨⟨n1, v1_0, v1_1⟩, e1, j1⟩
 try dsimp only at e1 j1
 obtain ⟨p1, rfl⟩ : ∃ p, n1 = p + 1 := ⟨n1 - 1, by omega⟩
 simp
 refine cC (decide ((↑v1_1 : Int) < (↑a0.length : Int))) (fun k2 h1 => ?_) (fun k2 h1 => ?_)
 ·have q1 := h1; try simp at q1
  have i1 : v1_1 < a0.length := by simpa using h1
  have m2 : a0.length ≤ 9223372036854775807 := by simpa using k2 0 _ rfl
  have w1 : IntKind.i64.wrap ((v1_1 : Int) + 1) = (v1_1 : Int) + 1 := wrap_of (by omega) (by omega)
  simp [i1, rowAt_map]
  repeat with_reducible refine sd ?_
  refine cC ((nth a0 v1_1).Id != v1_0) (fun k3 h2 => ?_) (fun k3 h2 => ?_)
  ·have q2 := h2; try simp at q2
   have x1 : l_heldItemS_1 a0 (a0.length + 1) a1 0 = .inl (-1) := by rw [← e1]; simp only [l_heldItemS_1, h1, h2, cond_t, cond_f]
   simp
   refine retRd (rv := [.tmp 4]) rfl ?_
   have f1 := l_heldItemS.eq_1 a0 a1; simp only [x1, cond_t, cond_f] at f1; simp [f1]
  ·have q2 := h2; try simp at q2
   simp [i1, rowAt_map]
   repeat with_reducible refine sd ?_
   refine cC ((nth a0 v1_1).Keep != (W (v1_0 + 1))) (fun k4 h3 => ?_) (fun k4 h3 => ?_)
   ·have q3 := h3; try simp at q3
    have x2 : l_heldItemS_1 a0 (a0.length + 1) a1 0 = .inl (-1) := by rw [← e1]; simp only [l_heldItemS_1, h1, h2, h3, cond_t, cond_f]
    simp
    refine retRd (rv := [.tmp 4]) rfl ?_
    have f2 := l_heldItemS.eq_1 a0 a1; simp only [x2, cond_t, cond_f] at f2; simp [f2]
   ·have q3 := h3; try simp at q3
    simp [i1, rowAt_map]
    repeat with_reducible refine sd ?_
    refine cC ((nth a0 v1_1).Doc.Title != (W ((W (v1_0 + 1)) + 1))) (fun k5 h4 => ?_) (fun k5 h4 => ?_)
    ·have q4 := h4; try simp at q4
     have x3 : l_heldItemS_1 a0 (a0.length + 1) a1 0 = .inl (-1) := by rw [← e1]; simp only [l_heldItemS_1, h1, h2, h3, h4, cond_t, cond_f]
     simp
     refine retRd (rv := [.tmp 4]) rfl ?_
     have f3 := l_heldItemS.eq_1 a0 a1; simp only [x3, cond_t, cond_f] at f3; simp [f3]
    ·have q4 := h4; try simp at q4
     simp [i1, rowAt_map]
     repeat with_reducible refine sd ?_
     refine cR (l_heldStringS_ok (nth a0 v1_1).Doc.Parts (W ((W ((W (v1_0 + 1)) + 1)) + 1))) ?_ (hrows := by first | (simp; done) | (simp [W, w1]; done))
     simp
     refine cC (decide ((l_heldStringS (nth a0 v1_1).Doc.Parts (W ((W ((W (v1_0 + 1)) + 1)) + 1))) < 0)) (fun k6 h5 => ?_) (fun k6 h5 => ?_)
     ·have q5 := h5; try simp at q5
      have x4 : l_heldItemS_1 a0 (a0.length + 1) a1 0 = .inl (-1) := by rw [← e1]; simp only [l_heldItemS_1, h1, h2, h3, h4, h5, cond_t, cond_f]
      simp
      refine retRd (rv := [.tmp 4]) rfl ?_
      have f4 := l_heldItemS.eq_1 a0 a1; simp only [x4, cond_t, cond_f] at f4; simp [f4]
     ·have q5 := h5; try simp at q5
      simp [i1, rowAt_map]
      repeat with_reducible refine sd ?_
      refine cR (l_heldIntS_ok (nth a0 v1_1).Doc.Salts (l_heldStringS (nth a0 v1_1).Doc.Parts (W ((W ((W (v1_0 + 1)) + 1)) + 1)))) ?_ (hrows := by first | (simp; done) | (simp [W, w1]; done))
      simp
      refine cC (decide ((l_heldIntS (nth a0 v1_1).Doc.Salts (l_heldStringS (nth a0 v1_1).Doc.Parts (W ((W ((W (v1_0 + 1)) + 1)) + 1)))) < 0)) (fun k7 h6 => ?_) (fun k7 h6 => ?_)
      ·have q6 := h6; try simp at q6
       have x5 : l_heldItemS_1 a0 (a0.length + 1) a1 0 = .inl (-1) := by rw [← e1]; simp only [l_heldItemS_1, h1, h2, h3, h4, h5, h6, cond_t, cond_f]
       simp
       refine retRd (rv := [.tmp 4]) rfl ?_
       have f5 := l_heldItemS.eq_1 a0 a1; simp only [x5, cond_t, cond_f] at f5; simp [f5]
      ·have q6 := h6; try simp at q6
       simp [i1, rowAt_map]
       repeat with_reducible refine sd ?_
       refine cC ((nth a0 v1_1).Sig.Key != (l_heldIntS (nth a0 v1_1).Doc.Salts (l_heldStringS (nth a0 v1_1).Doc.Parts (W ((W ((W (v1_0 + 1)) + 1)) + 1))))) (fun k8 h7 => ?_) (fun k8 h7 => ?_)
       ·have q7 := h7; try simp at q7
        have x6 : l_heldItemS_1 a0 (a0.length + 1) a1 0 = .inl (-1) := by rw [← e1]; simp only [l_heldItemS_1, h1, h2, h3, h4, h5, h6, h7, cond_t, cond_f]
        simp
        refine retRd (rv := [.tmp 4]) rfl ?_
        have f6 := l_heldItemS.eq_1 a0 a1; simp only [x6, cond_t, cond_f] at f6; simp [f6]
       ·have q7 := h7; try simp at q7
        simp [i1, rowAt_map]
        repeat with_reducible refine sd ?_
        refine cC ((nth a0 v1_1).Sig.Serial != (W ((l_heldIntS (nth a0 v1_1).Doc.Salts (l_heldStringS (nth a0 v1_1).Doc.Parts (W ((W ((W (v1_0 + 1)) + 1)) + 1)))) + 1))) (fun k9 h8 => ?_) (fun k9 h8 => ?_)
        ·have q8 := h8; try simp at q8
         have x7 : l_heldItemS_1 a0 (a0.length + 1) a1 0 = .inl (-1) := by rw [← e1]; simp only [l_heldItemS_1, h1, h2, h3, h4, h5, h6, h7, h8, cond_t, cond_f]
         simp
         refine retRd (rv := [.tmp 4]) rfl ?_
         have f7 := l_heldItemS.eq_1 a0 a1; simp only [x7, cond_t, cond_f] at f7; simp [f7]
        ·have q8 := h8; try simp at q8
         simp [i1, rowAt_map]
         repeat with_reducible refine sd ?_
         refine cC ((nth a0 v1_1).Sig.Method != (W ((W ((l_heldIntS (nth a0 v1_1).Doc.Salts (l_heldStringS (nth a0 v1_1).Doc.Parts (W ((W ((W (v1_0 + 1)) + 1)) + 1)))) + 1)) + 1))) (fun k10 h9 => ?_) (fun k10 h9 => ?_)
         ·have q9 := h9; try simp at q9
          have x8 : l_heldItemS_1 a0 (a0.length + 1) a1 0 = .inl (-1) := by rw [← e1]; simp only [l_heldItemS_1, h1, h2, h3, h4, h5, h6, h7, h8, h9, cond_t, cond_f]
          simp
          refine retRd (rv := [.tmp 4]) rfl ?_
          have f8 := l_heldItemS.eq_1 a0 a1; simp only [x8, cond_t, cond_f] at f8; simp [f8]
         ·have q9 := h9; try simp at q9
          simp [i1, rowAt_map]
          repeat with_reducible refine sd ?_
          refine cC ((nth a0 v1_1).Sig.Digest != (W ((W ((W ((l_heldIntS (nth a0 v1_1).Doc.Salts (l_heldStringS (nth a0 v1_1).Doc.Parts (W ((W ((W (v1_0 + 1)) + 1)) + 1)))) + 1)) + 1)) + 1))) (fun k11 h10 => ?_) (fun k11 h10 => ?_)
          ·have q10 := h10; try simp at q10
           have x9 : l_heldItemS_1 a0 (a0.length + 1) a1 0 = .inl (-1) := by rw [← e1]; simp only [l_heldItemS_1, h1, h2, h3, h4, h5, h6, h7, h8, h9, h10, cond_t, cond_f]
           simp
           refine retRd (rv := [.tmp 4]) rfl ?_
           have f9 := l_heldItemS.eq_1 a0 a1; simp only [x9, cond_t, cond_f] at f9; simp [f9]
          ·have q10 := h10; try simp at q10
           simp [i1, rowAt_map]
           repeat with_reducible refine sd ?_
           refine cC ((nth a0 v1_1).Sig.Commit != (W ((W ((W ((W ((l_heldIntS (nth a0 v1_1).Doc.Salts (l_heldStringS (nth a0 v1_1).Doc.Parts (W ((W ((W (v1_0 + 1)) + 1)) + 1)))) + 1)) + 1)) + 1)) + 1))) (fun k12 h11 => ?_) (fun k12 h11 => ?_)
           ·have q11 := h11; try simp at q11
            have x10 : l_heldItemS_1 a0 (a0.length + 1) a1 0 = .inl (-1) := by rw [← e1]; simp only [l_heldItemS_1, h1, h2, h3, h4, h5, h6, h7, h8, h9, h10, h11, cond_t, cond_f]
            simp
            refine retRd (rv := [.tmp 4]) rfl ?_
            have f10 := l_heldItemS.eq_1 a0 a1; simp only [x10, cond_t, cond_f] at f10; simp [f10]
           ·have q11 := h11; try simp at q11
            simp [i1, rowAt_map]
            repeat with_reducible refine sd ?_
            refine cC ((nth a0 v1_1).Sig.Org != (W ((W ((W ((W ((W ((l_heldIntS (nth a0 v1_1).Doc.Salts (l_heldStringS (nth a0 v1_1).Doc.Parts (W ((W ((W (v1_0 + 1)) + 1)) + 1)))) + 1)) + 1)) + 1)) + 1)) + 1))) (fun k13 h12 => ?_) (fun k13 h12 => ?_)
            ·have q12 := h12; try simp at q12
             have x11 : l_heldItemS_1 a0 (a0.length + 1) a1 0 = .inl (-1) := by rw [← e1]; simp only [l_heldItemS_1, h1, h2, h3, h4, h5, h6, h7, h8, h9, h10, h11, h12, cond_t, cond_f]
             simp
             refine retRd (rv := [.tmp 4]) rfl ?_
             have f11 := l_heldItemS.eq_1 a0 a1; simp only [x11, cond_t, cond_f] at f11; simp [f11]
            ·have q12 := h12; try simp at q12
             simp [i1, rowAt_map]
             repeat with_reducible refine sd ?_
             refine cC ((nth a0 v1_1).Sig.Before != (W ((W ((W ((W ((W ((W ((l_heldIntS (nth a0 v1_1).Doc.Salts (l_heldStringS (nth a0 v1_1).Doc.Parts (W ((W ((W (v1_0 + 1)) + 1)) + 1)))) + 1)) + 1)) + 1)) + 1)) + 1)) + 1))) (fun k14 h13 => ?_) (fun k14 h13 => ?_)
             ·have q13 := h13; try simp at q13
              have x12 : l_heldItemS_1 a0 (a0.length + 1) a1 0 = .inl (-1) := by rw [← e1]; simp only [l_heldItemS_1, h1, h2, h3, h4, h5, h6, h7, h8, h9, h10, h11, h12, h13, cond_t, cond_f]
              simp
              refine retRd (rv := [.tmp 4]) rfl ?_
              have f12 := l_heldItemS.eq_1 a0 a1; simp only [x12, cond_t, cond_f] at f12; simp [f12]
             ·have q13 := h13; try simp at q13
              simp [i1, rowAt_map]
              repeat with_reducible refine sd ?_
              refine cC ((nth a0 v1_1).Sig.After != (W ((W ((W ((W ((W ((W ((W ((l_heldIntS (nth a0 v1_1).Doc.Salts (l_heldStringS (nth a0 v1_1).Doc.Parts (W ((W ((W (v1_0 + 1)) + 1)) + 1)))) + 1)) + 1)) + 1)) + 1)) + 1)) + 1)) + 1))) (fun k15 h14 => ?_) (fun k15 h14 => ?_)
              ·have q14 := h14; try simp at q14
               have x13 : l_heldItemS_1 a0 (a0.length + 1) a1 0 = .inl (-1) := by rw [← e1]; simp only [l_heldItemS_1, h1, h2, h3, h4, h5, h6, h7, h8, h9, h10, h11, h12, h13, h14, cond_t, cond_f]
               simp
               refine retRd (rv := [.tmp 4]) rfl ?_
               have f13 := l_heldItemS.eq_1 a0 a1; simp only [x13, cond_t, cond_f] at f13; simp [f13]
              ·have q14 := h14; try simp at q14
               simp [i1, rowAt_map]
               repeat with_reducible refine sd ?_
               refine cC ((nth a0 v1_1).Sig.Mark != (W ((W ((W ((W ((W ((W ((W ((W ((l_heldIntS (nth a0 v1_1).Doc.Salts (l_heldStringS (nth a0 v1_1).Doc.Parts (W ((W ((W (v1_0 + 1)) + 1)) + 1)))) + 1)) + 1)) + 1)) + 1)) + 1)) + 1)) + 1)) + 1))) (fun k16 h15 => ?_) (fun k16 h15 => ?_)
               ·have q15 := h15; try simp at q15
                have x14 : l_heldItemS_1 a0 (a0.length + 1) a1 0 = .inl (-1) := by rw [← e1]; simp only [l_heldItemS_1, h1, h2, h3, h4, h5, h6, h7, h8, h9, h10, h11, h12, h13, h14, h15, cond_t, cond_f]
                simp
                refine retRd (rv := [.tmp 4]) rfl ?_
                have f14 := l_heldItemS.eq_1 a0 a1; simp only [x14, cond_t, cond_f] at f14; simp [f14]
               ·have q15 := h15; try simp at q15
                simp [i1, rowAt_map]
                repeat with_reducible refine sd ?_
                refine cR (l_heldPieceS_ok (nth a0 v1_1).Strand.Pieces (W ((W ((W ((W ((W ((W ((W ((W ((W ((l_heldIntS (nth a0 v1_1).Doc.Salts (l_heldStringS (nth a0 v1_1).Doc.Parts (W ((W ((W (v1_0 + 1)) + 1)) + 1)))) + 1)) + 1)) + 1)) + 1)) + 1)) + 1)) + 1)) + 1)) + 1))) ?_ (hrows := by first | (simp; done) | (simp [W, w1]; done))
                simp
                refine cC (decide ((l_heldPieceS (nth a0 v1_1).Strand.Pieces (W ((W ((W ((W ((W ((W ((W ((W ((W ((l_heldIntS (nth a0 v1_1).Doc.Salts (l_heldStringS (nth a0 v1_1).Doc.Parts (W ((W ((W (v1_0 + 1)) + 1)) + 1)))) + 1)) + 1)) + 1)) + 1)) + 1)) + 1)) + 1)) + 1)) + 1))) < 0)) (fun k17 h16 => ?_) (fun k17 h16 => ?_)
                ·have q16 := h16; try simp at q16
                 have x15 : l_heldItemS_1 a0 (a0.length + 1) a1 0 = .inl (-1) := by rw [← e1]; simp only [l_heldItemS_1, h1, h2, h3, h4, h5, h6, h7, h8, h9, h10, h11, h12, h13, h14, h15, h16, cond_t, cond_f]
                 simp
                 refine retRd (rv := [.tmp 4]) rfl ?_
                 have f15 := l_heldItemS.eq_1 a0 a1; simp only [x15, cond_t, cond_f] at f15; simp [f15]
                ·have q16 := h16; try simp at q16
                 simp [i1, rowAt_map]
                 repeat with_reducible refine sd ?_
                 refine cR (l_heldRenewalS_ok (nth a0 v1_1).Strand.Chain (l_heldPieceS (nth a0 v1_1).Strand.Pieces (W ((W ((W ((W ((W ((W ((W ((W ((W ((l_heldIntS (nth a0 v1_1).Doc.Salts (l_heldStringS (nth a0 v1_1).Doc.Parts (W ((W ((W (v1_0 + 1)) + 1)) + 1)))) + 1)) + 1)) + 1)) + 1)) + 1)) + 1)) + 1)) + 1)) + 1)))) ?_ (hrows := by first | (simp; done) | (simp [W, w1]; done))
                 simp
                 refine cC (decide ((l_heldRenewalS (nth a0 v1_1).Strand.Chain (l_heldPieceS (nth a0 v1_1).Strand.Pieces (W ((W ((W ((W ((W ((W ((W ((W ((W ((l_heldIntS (nth a0 v1_1).Doc.Salts (l_heldStringS (nth a0 v1_1).Doc.Parts (W ((W ((W (v1_0 + 1)) + 1)) + 1)))) + 1)) + 1)) + 1)) + 1)) + 1)) + 1)) + 1)) + 1)) + 1)))) < 0)) (fun k18 h17 => ?_) (fun k18 h17 => ?_)
                 ·have q17 := h17; try simp at q17
                  have x16 : l_heldItemS_1 a0 (a0.length + 1) a1 0 = .inl (-1) := by rw [← e1]; simp only [l_heldItemS_1, h1, h2, h3, h4, h5, h6, h7, h8, h9, h10, h11, h12, h13, h14, h15, h16, h17, cond_t, cond_f]
                  simp
                  refine retRd (rv := [.tmp 4]) rfl ?_
                  have f16 := l_heldItemS.eq_1 a0 a1; simp only [x16, cond_t, cond_f] at f16; simp [f16]
                 ·have q17 := h17; try simp at q17
                  simp
                  refine nxtI ⟨(p1, (l_heldRenewalS (nth a0 v1_1).Strand.Chain (l_heldPieceS (nth a0 v1_1).Strand.Pieces (W ((W ((W ((W ((W ((W ((W ((W ((W ((l_heldIntS (nth a0 v1_1).Doc.Salts (l_heldStringS (nth a0 v1_1).Doc.Parts (W ((W ((W (v1_0 + 1)) + 1)) + 1)))) + 1)) + 1)) + 1)) + 1)) + 1)) + 1)) + 1)) + 1)) + 1)))), (v1_1 + 1)), ?_, ?_⟩ (by simp) (wk_keep (by simp [w1]))
                  · rw [← e1]; simp only [l_heldItemS_1, h1, h2, h3, h4, h5, h6, h7, h8, h9, h10, h11, h12, h13, h14, h15, h16, h17, cond_t, cond_f]
                  · first | omega | (simp at *; omega)
 ·have q1 := h1; try simp at q1
  have x17 : l_heldItemS_1 a0 (a0.length + 1) a1 0 = .inr v1_0 := by rw [← e1]; simp only [l_heldItemS_1, h1, cond_t, cond_f]
  simp
  refine retRd (rv := [.tmp 4]) rfl ?_
  have f17 := l_heldItemS.eq_1 a0 a1; simp only [x17, cond_t, cond_f] at f17; simp [f17]
theorem l_heldArchiveS_ok (a0 : List TArchive) (a1 : Int) : SoundAt Tryz.prog 69 false [[.sl 2 (a0.map TArchive.row)], [.int .i64 a1]] [[.int .i64 (l_heldArchiveS a0 a1)]] := by
 refine sound_of Tryz.func69 rfl (by kernel_rfl) ?_
 simp [Tryz.ntmps69]
 refine okL fun k1 => ?_
 refine loopI (ι := { s : Nat × Int × Nat // l_heldArchiveS_1 a0 s.1 s.2.1 s.2.2 = l_heldArchiveS_1 a0 (a0.length + 1) a1 0 ∧ (1 ≤ s.1 ∧ a0.length < s.1 + s.2.2 ∧ s.2.2 ≤ a0.length) }) (fun s => stOf 31 [eL 0 2 a0 TArchive.row, eI 1 s.1.2.1, eI 5 (↑s.1.2.2 : Int)]) (fun s => s.1.1) ⟨((a0.length + 1), a1, 0), rfl, by first | omega | (dsimp only; omega) | simp⟩ (wk_keep (by simp)) ?_
 rintro ⟨⟨n1, v1_0, v1_1⟩, e1, j1⟩
 try dsimp only at e1 j1
 obtain ⟨p1, rfl⟩ : ∃ p, n1 = p + 1 := ⟨n1 - 1, by omega⟩
 simp
 refine cC (decide ((↑v1_1 : Int) < (↑a0.length : Int))) (fun k2 h1 => ?_) (fun k2 h1 => ?_)
 ·have q1 := h1; try simp at q1
  have i1 : v1_1 < a0.length := by simpa using h1
  have m2 : a0.length ≤ 9223372036854775807 := by simpa using k2 0 _ rfl
  have w1 : IntKind.i64.wrap ((v1_1 : Int) + 1) = (v1_1 : Int) + 1 := wrap_of (by omega) (by omega)
  simp [i1, rowAt_map]
  repeat with_reducible refine sd ?_
  refine cC ((nth a0 v1_1).Id != v1_0) (fun k3 h2 => ?_) (fun k3 h2 => ?_)
  ·have q2 := h2; try simp at q2
   have x1 : l_heldArchiveS_1 a0 (a0.length + 1) a1 0 = .inl (-1) := by rw [← e1]; simp only [l_heldArchiveS_1, h1, h2, cond_t, cond_f]
   simp
   refine retRd (rv := [.tmp 4]) rfl ?_
   have f1 := l_heldArchiveS.eq_1 a0 a1; simp only [x1, cond_t, cond_f] at f1; simp [f1]
  ·have q2 := h2; try simp at q2
   simp [i1, rowAt_map]
   repeat with_reducible refine sd ?_
   refine cR (l_heldItemS_ok (nth a0 v1_1).Items (W (v1_0 + 1))) ?_ (hrows := by first | (simp; done) | (simp [W, w1]; done))
   simp
   refine cC (decide ((l_heldItemS (nth a0 v1_1).Items (W (v1_0 + 1))) < 0)) (fun k4 h3 => ?_) (fun k4 h3 => ?_)
   ·have q3 := h3; try simp at q3
    have x2 : l_heldArchiveS_1 a0 (a0.length + 1) a1 0 = .inl (-1) := by rw [← e1]; simp only [l_heldArchiveS_1, h1, h2, h3, cond_t, cond_f]
    simp
    refine retRd (rv := [.tmp 4]) rfl ?_
    have f2 := l_heldArchiveS.eq_1 a0 a1; simp only [x2, cond_t, cond_f] at f2; simp [f2]
   ·have q3 := h3; try simp at q3
    simp
    refine nxtI ⟨(p1, (l_heldItemS (nth a0 v1_1).Items (W (v1_0 + 1))), (v1_1 + 1)), ?_, ?_⟩ (by simp) (wk_keep (by simp [w1]))
    · rw [← e1]; simp only [l_heldArchiveS_1, h1, h2, h3, cond_t, cond_f]
    · first | omega | (simp at *; omega)
 ·have q1 := h1; try simp at q1
  have x3 : l_heldArchiveS_1 a0 (a0.length + 1) a1 0 = .inr v1_0 := by rw [← e1]; simp only [l_heldArchiveS_1, h1, cond_t, cond_f]
  simp
  refine retRd (rv := [.tmp 4]) rfl ?_
  have f3 := l_heldArchiveS.eq_1 a0 a1; simp only [x3, cond_t, cond_f] at f3; simp [f3]
theorem l_heldWorld_ok (a0 : TWorld) (a1 : Int) : SoundAt Tryz.prog 24 false [a0.row, [.int .i64 a1]] [[.int .i64 (l_heldWorld a0 a1)]] := by
 refine sound_of Tryz.func24 rfl (by kernel_rfl) ?_
 simp [Tryz.ntmps24]
 refine cR (l_heldFrame_ok a0.Frame a1) ?_
 simp
 refine cC (decide ((l_heldFrame a0.Frame a1) < 0)) (fun k1 h1 => ?_) (fun k1 h1 => ?_)
 ·have q1 := h1; try simp at q1
  simp
  refine retRd (rv := [.tmp 4]) rfl ?_
  have f1 := l_heldWorld.eq_1 a0 a1; simp only [h1, cond_t, cond_f] at f1; simp [f1]
 ·have q1 := h1; try simp at q1
  simp
  refine cR (l_heldCertS_ok a0.Certs (l_heldFrame a0.Frame a1)) ?_
  simp
  refine cC (decide ((l_heldCertS a0.Certs (l_heldFrame a0.Frame a1)) < 0)) (fun k2 h2 => ?_) (fun k2 h2 => ?_)
  ·have q2 := h2; try simp at q2
   simp
   refine retRd (rv := [.tmp 4]) rfl ?_
   have f2 := l_heldWorld.eq_1 a0 a1; simp only [h1, h2, cond_t, cond_f] at f2; simp [f2]
  ·have q2 := h2; try simp at q2
   simp
   refine cR (l_heldIntS_ok a0.Ended (l_heldCertS a0.Certs (l_heldFrame a0.Frame a1))) ?_
   simp
   refine cC (decide ((l_heldIntS a0.Ended (l_heldCertS a0.Certs (l_heldFrame a0.Frame a1))) < 0)) (fun k3 h3 => ?_) (fun k3 h3 => ?_)
   ·have q3 := h3; try simp at q3
    simp
    refine retRd (rv := [.tmp 4]) rfl ?_
    have f3 := l_heldWorld.eq_1 a0 a1; simp only [h1, h2, h3, cond_t, cond_f] at f3; simp [f3]
   ·have q3 := h3; try simp at q3
    simp
    refine cR (l_heldArchiveS_ok a0.Archives (l_heldIntS a0.Ended (l_heldCertS a0.Certs (l_heldFrame a0.Frame a1)))) ?_
    simp
    refine cC (decide ((l_heldArchiveS a0.Archives (l_heldIntS a0.Ended (l_heldCertS a0.Certs (l_heldFrame a0.Frame a1)))) < 0)) (fun k4 h4 => ?_) (fun k4 h4 => ?_)
    ·have q4 := h4; try simp at q4
     simp
     refine retRd (rv := [.tmp 4]) rfl ?_
     have f4 := l_heldWorld.eq_1 a0 a1; simp only [h1, h2, h3, h4, cond_t, cond_f] at f4; simp [f4]
    ·have q4 := h4; try simp at q4
     simp
     refine cR (l_heldIntS_ok a0.Seqs (l_heldArchiveS a0.Archives (l_heldIntS a0.Ended (l_heldCertS a0.Certs (l_heldFrame a0.Frame a1))))) ?_
     simp
     refine cC (decide ((l_heldIntS a0.Seqs (l_heldArchiveS a0.Archives (l_heldIntS a0.Ended (l_heldCertS a0.Certs (l_heldFrame a0.Frame a1))))) < 0)) (fun k5 h5 => ?_) (fun k5 h5 => ?_)
     ·have q5 := h5; try simp at q5
      simp
      refine retRd (rv := [.tmp 4]) rfl ?_
      have f5 := l_heldWorld.eq_1 a0 a1; simp only [h1, h2, h3, h4, h5, cond_t, cond_f] at f5; simp [f5]
     ·have q5 := h5; try simp at q5
      simp
      refine cR (l_heldIntS_ok a0.Lying (l_heldIntS a0.Seqs (l_heldArchiveS a0.Archives (l_heldIntS a0.Ended (l_heldCertS a0.Certs (l_heldFrame a0.Frame a1)))))) ?_
      simp
      refine cC (decide ((l_heldIntS a0.Lying (l_heldIntS a0.Seqs (l_heldArchiveS a0.Archives (l_heldIntS a0.Ended (l_heldCertS a0.Certs (l_heldFrame a0.Frame a1)))))) < 0)) (fun k6 h6 => ?_) (fun k6 h6 => ?_)
      ·have q6 := h6; try simp at q6
       simp
       refine retRd (rv := [.tmp 4]) rfl ?_
       have f6 := l_heldWorld.eq_1 a0 a1; simp only [h1, h2, h3, h4, h5, h6, cond_t, cond_f] at f6; simp [f6]
      ·have q6 := h6; try simp at q6
       simp
       refine cR (l_heldIntS_ok a0.Forged (l_heldIntS a0.Lying (l_heldIntS a0.Seqs (l_heldArchiveS a0.Archives (l_heldIntS a0.Ended (l_heldCertS a0.Certs (l_heldFrame a0.Frame a1))))))) ?_
       simp
       refine cC (decide ((l_heldIntS a0.Forged (l_heldIntS a0.Lying (l_heldIntS a0.Seqs (l_heldArchiveS a0.Archives (l_heldIntS a0.Ended (l_heldCertS a0.Certs (l_heldFrame a0.Frame a1))))))) < 0)) (fun k7 h7 => ?_) (fun k7 h7 => ?_)
       ·have q7 := h7; try simp at q7
        simp
        refine retRd (rv := [.tmp 4]) rfl ?_
        have f7 := l_heldWorld.eq_1 a0 a1; simp only [h1, h2, h3, h4, h5, h6, h7, cond_t, cond_f] at f7; simp [f7]
       ·have q7 := h7; try simp at q7
        simp
        refine retRd (rv := [.tmp 4]) rfl ?_
        have f8 := l_heldWorld.eq_1 a0 a1; simp only [h1, h2, h3, h4, h5, h6, h7, cond_t, cond_f] at f8; simp [f8]
theorem l_FnExactStepSign_ok (a0 : TWorld) (a1 : Int) (a2 : Int) (a3 : TDocument) (a4 : Int) (a5 : Int) (t0 : Sm maxLen a0) (t3 : Sm maxLen a3) : SoundAt Tryz.prog 9 false [a0.row, [.int .i64 a1], [.int .i64 a2], a3.row, [.int .i64 a4], [.int .i64 a5]] [[.bool (l_FnExactStepSign a0 a1 a2 a3 a4 a5)]] := by
 refine sound_of Tryz.func9 rfl (by kernel_rfl) ?_
 simp [Tryz.ntmps9]
 refine cR (l_szWorld_ok a0 1048576) ?_
 simp
 refine cC (decide ((l_szWorld a0 1048576) < 0)) (fun k1 h1 => ?_) (fun k1 h1 => ?_)
 ·have q1 := h1; try simp at q1
  simp
  refine retRd (rv := [.tmp 12]) rfl ?_
  have f1 := l_FnExactStepSign.eq_1 a0 a1 a2 a3 a4 a5; simp only [h1, cond_t, cond_f] at f1; simp [f1]
 ·have q1 := h1; try simp at q1
  obtain ⟨u0, y0⟩ := l_szWorld_sm a0 1048576 t0 (by omega) (by omega) (by simpa using h1)
  simp
  refine cR (l_szDocument_ok a3 (l_szWorld a0 1048576)) ?_
  simp
  refine cC (decide ((l_szDocument a3 (l_szWorld a0 1048576)) < 0)) (fun k2 h2 => ?_) (fun k2 h2 => ?_)
  ·have q2 := h2; try simp at q2
   simp
   refine retRd (rv := [.tmp 12]) rfl ?_
   have f2 := l_FnExactStepSign.eq_1 a0 a1 a2 a3 a4 a5; simp only [h1, h2, cond_t, cond_f] at f2; simp [f2]
  ·have q2 := h2; try simp at q2
   obtain ⟨u3, y3⟩ := l_szDocument_sm a3 (l_szWorld a0 1048576) t3 (by omega) (by omega) (by simpa using h2)
   simp
   refine okD fun k3 => ?_
   refine drawI mixed (by kernel_rfl) (by kernel_rfl) ?_
   simp
   refine cR (SoundD.rd (l_toWorld_okI a0 (sm_mono (n := 1048576) (by decide) (by simp (maxDischargeDepth := 12) [u0, u3, l_toArchive_id, l_toArchiveS_id, l_toAuthority_id, l_toAuthorityS_id, l_toCert_id, l_toCertS_id, l_toDocument_id, l_toFrame_id, l_toIntS_id, l_toItem_id, l_toItemS_id, l_toKey_id, l_toKeyS_id, l_toMethod_id, l_toMethodS_id, l_toPiece_id, l_toPieceS_id, l_toRenewal_id, l_toRenewalS_id, l_toSignature_id, l_toStamp_id, l_toStampS_id, l_toStep_id, l_toStepS_id, l_toStrand_id, l_toStringS_id, l_toWorld_id])))) ?_
   simp
   refine cR (SoundD.rd (l_toDocument_okI a3 (sm_mono (n := 1048576) (by decide) (by simp (maxDischargeDepth := 12) [u0, u3, l_toArchive_id, l_toArchiveS_id, l_toAuthority_id, l_toAuthorityS_id, l_toCert_id, l_toCertS_id, l_toDocument_id, l_toFrame_id, l_toIntS_id, l_toItem_id, l_toItemS_id, l_toKey_id, l_toKeyS_id, l_toMethod_id, l_toMethodS_id, l_toPiece_id, l_toPieceS_id, l_toRenewal_id, l_toRenewalS_id, l_toSignature_id, l_toStamp_id, l_toStampS_id, l_toStep_id, l_toStepS_id, l_toStrand_id, l_toStringS_id, l_toWorld_id])))) ?_
   simp
   refine cR (s_StepSign_ok a0 a1 a2 a3 a4 a5 (sm_mono (n := 1048576) (by decide) (by simp (maxDischargeDepth := 12) [u0, u3, l_toArchive_id, l_toArchiveS_id, l_toAuthority_id, l_toAuthorityS_id, l_toCert_id, l_toCertS_id, l_toDocument_id, l_toFrame_id, l_toIntS_id, l_toItem_id, l_toItemS_id, l_toKey_id, l_toKeyS_id, l_toMethod_id, l_toMethodS_id, l_toPiece_id, l_toPieceS_id, l_toRenewal_id, l_toRenewalS_id, l_toSignature_id, l_toStamp_id, l_toStampS_id, l_toStep_id, l_toStepS_id, l_toStrand_id, l_toStringS_id, l_toWorld_id])) (sm_mono (n := 1048576) (by decide) (by simp (maxDischargeDepth := 12) [u0, u3, l_toArchive_id, l_toArchiveS_id, l_toAuthority_id, l_toAuthorityS_id, l_toCert_id, l_toCertS_id, l_toDocument_id, l_toFrame_id, l_toIntS_id, l_toItem_id, l_toItemS_id, l_toKey_id, l_toKeyS_id, l_toMethod_id, l_toMethodS_id, l_toPiece_id, l_toPieceS_id, l_toRenewal_id, l_toRenewalS_id, l_toSignature_id, l_toStamp_id, l_toStampS_id, l_toStep_id, l_toStepS_id, l_toStrand_id, l_toStringS_id, l_toWorld_id]))) ?_
   simp
   refine cD [] (l_toWorld_okI a0 (sm_mono (n := 1048576) (by decide) (by simp (maxDischargeDepth := 12) [u0, u3, l_toArchive_id, l_toArchiveS_id, l_toAuthority_id, l_toAuthorityS_id, l_toCert_id, l_toCertS_id, l_toDocument_id, l_toFrame_id, l_toIntS_id, l_toItem_id, l_toItemS_id, l_toKey_id, l_toKeyS_id, l_toMethod_id, l_toMethodS_id, l_toPiece_id, l_toPieceS_id, l_toRenewal_id, l_toRenewalS_id, l_toSignature_id, l_toStamp_id, l_toStampS_id, l_toStep_id, l_toStepS_id, l_toStrand_id, l_toStringS_id, l_toWorld_id]))) ?_
   simp
   refine cD [] (l_toDocument_okI a3 (sm_mono (n := 1048576) (by decide) (by simp (maxDischargeDepth := 12) [u0, u3, l_toArchive_id, l_toArchiveS_id, l_toAuthority_id, l_toAuthorityS_id, l_toCert_id, l_toCertS_id, l_toDocument_id, l_toFrame_id, l_toIntS_id, l_toItem_id, l_toItemS_id, l_toKey_id, l_toKeyS_id, l_toMethod_id, l_toMethodS_id, l_toPiece_id, l_toPieceS_id, l_toRenewal_id, l_toRenewalS_id, l_toSignature_id, l_toStamp_id, l_toStampS_id, l_toStep_id, l_toStepS_id, l_toStrand_id, l_toStringS_id, l_toWorld_id]))) ?_
   simp
   refine cD [] (i_StepSign_ok a0 a1 a2 a3 a4 a5 (sm_mono (n := 1048576) (by decide) (by simp (maxDischargeDepth := 12) [u0, u3, l_toArchive_id, l_toArchiveS_id, l_toAuthority_id, l_toAuthorityS_id, l_toCert_id, l_toCertS_id, l_toDocument_id, l_toFrame_id, l_toIntS_id, l_toItem_id, l_toItemS_id, l_toKey_id, l_toKeyS_id, l_toMethod_id, l_toMethodS_id, l_toPiece_id, l_toPieceS_id, l_toRenewal_id, l_toRenewalS_id, l_toSignature_id, l_toStamp_id, l_toStampS_id, l_toStep_id, l_toStepS_id, l_toStrand_id, l_toStringS_id, l_toWorld_id])) (sm_mono (n := 1048576) (by decide) (by simp (maxDischargeDepth := 12) [u0, u3, l_toArchive_id, l_toArchiveS_id, l_toAuthority_id, l_toAuthorityS_id, l_toCert_id, l_toCertS_id, l_toDocument_id, l_toFrame_id, l_toIntS_id, l_toItem_id, l_toItemS_id, l_toKey_id, l_toKeyS_id, l_toMethod_id, l_toMethodS_id, l_toPiece_id, l_toPieceS_id, l_toRenewal_id, l_toRenewalS_id, l_toSignature_id, l_toStamp_id, l_toStampS_id, l_toStep_id, l_toStepS_id, l_toStrand_id, l_toStringS_id, l_toWorld_id]))) ?_
   simp
   refine cR (l_eqWorld_ok (i_StepSign a0 a1 a2 a3 a4 a5).1 (s_StepSign a0 a1 a2 a3 a4 a5).1) ?_
   simp
   refine cC ((!(l_eqWorld (i_StepSign a0 a1 a2 a3 a4 a5).1 (s_StepSign a0 a1 a2 a3 a4 a5).1)) || (!((i_StepSign a0 a1 a2 a3 a4 a5).2 == (s_StepSign a0 a1 a2 a3 a4 a5).2))) (fun k4 h3 => ?_) (fun k4 h3 => ?_)
   ·have q3 := h3; try simp at q3
    simp
    refine retRd (rv := [.tmp 12]) rfl ?_
    have f3 := l_FnExactStepSign.eq_1 a0 a1 a2 a3 a4 a5; simp only [h1, h2, h3, cond_t, cond_f] at f3; simp [f3]
   ·have q3 := h3; try simp at q3
    simp
    refine okD fun k5 => ?_
    refine drawI mixed (by kernel_rfl) (by kernel_rfl) ?_
    simp
    refine cR (SoundD.rd (l_toWorld_okI a0 (sm_mono (n := 1048576) (by decide) (by simp (maxDischargeDepth := 12) [u0, u3, l_toArchive_id, l_toArchiveS_id, l_toAuthority_id, l_toAuthorityS_id, l_toCert_id, l_toCertS_id, l_toDocument_id, l_toFrame_id, l_toIntS_id, l_toItem_id, l_toItemS_id, l_toKey_id, l_toKeyS_id, l_toMethod_id, l_toMethodS_id, l_toPiece_id, l_toPieceS_id, l_toRenewal_id, l_toRenewalS_id, l_toSignature_id, l_toStamp_id, l_toStampS_id, l_toStep_id, l_toStepS_id, l_toStrand_id, l_toStringS_id, l_toWorld_id])))) ?_
    simp
    refine cR (l_eqWorld_ok a0 a0) ?_
    simp
    refine cC (!(l_eqWorld a0 a0)) (fun k6 h4 => ?_) (fun k6 h4 => ?_)
    ·have q4 := h4; try simp at q4
     simp
     refine retRd (rv := [.tmp 12]) rfl ?_
     have f4 := l_FnExactStepSign.eq_1 a0 a1 a2 a3 a4 a5; simp only [h1, h2, h3, h4, cond_t, cond_f] at f4; simp [f4]
    ·have q4 := h4; try simp at q4
     simp
     refine okD fun k7 => ?_
     refine drawI mixed (by kernel_rfl) (by kernel_rfl) ?_
     simp
     refine cR (SoundD.rd (l_toDocument_okI a3 (sm_mono (n := 1048576) (by decide) (by simp (maxDischargeDepth := 12) [u0, u3, l_toArchive_id, l_toArchiveS_id, l_toAuthority_id, l_toAuthorityS_id, l_toCert_id, l_toCertS_id, l_toDocument_id, l_toFrame_id, l_toIntS_id, l_toItem_id, l_toItemS_id, l_toKey_id, l_toKeyS_id, l_toMethod_id, l_toMethodS_id, l_toPiece_id, l_toPieceS_id, l_toRenewal_id, l_toRenewalS_id, l_toSignature_id, l_toStamp_id, l_toStampS_id, l_toStep_id, l_toStepS_id, l_toStrand_id, l_toStringS_id, l_toWorld_id])))) ?_
     simp
     refine cR (l_eqDocument_ok a3 a3) ?_
     simp
     refine cC (!(l_eqDocument a3 a3)) (fun k8 h5 => ?_) (fun k8 h5 => ?_)
     ·have q5 := h5; try simp at q5
      simp
      refine retRd (rv := [.tmp 12]) rfl ?_
      have f5 := l_FnExactStepSign.eq_1 a0 a1 a2 a3 a4 a5; simp only [h1, h2, h3, h4, h5, cond_t, cond_f] at f5; simp [f5]
     ·have q5 := h5; try simp at q5
      simp
      refine callMO (ats := [.sref 48 0 0 a0.Frame.Keys.length, .sref 48 1 0 a0.Frame.Authorities.length, .sref 48 2 0 a0.Frame.Methods.length, .d (.int .i64 a0.Frame.Liars), .d (.int .i64 a0.Frame.Now), .sref 48 5 0 a0.Certs.length, .sref 48 6 0 a0.Ended.length, .sref 48 7 0 a0.Archives.length, .sref 48 8 0 a0.Seqs.length, .sref 48 9 0 a0.Lying.length, .d (.int .i64 a0.Next), .sref 48 11 0 a0.Forged.length]) rfl rfl rfl rfl rfl rfl rfl (l_markWorld_ok a0 1) (by simp) (by simp) (by simp) (by simp) (by simp) (by simp) (by simp) (by simp) (by simp) ?_
      simp
      refine callMO (ats := [.d (.int .i64 a3.Title), .sref 50 1 0 a3.Parts.length, .sref 50 2 0 a3.Salts.length]) rfl rfl rfl rfl rfl rfl rfl (l_markDocument_ok a3 (l_markWorld a0 1).2) (by simp) (by simp) (by simp) (by simp) (by simp) (by simp) (by simp) (by simp) (by simp) ?_
      simp
      refine cG (fun gg => (l_eqWorld_ok (i_StepSign a0 a1 a2 a3 a4 a5).1 (s_StepSign a0 a1 a2 a3 a4 a5).1)) ?_
      simp
      refine cC (((decide ((l_markDocument a3 (l_markWorld a0 1).2).2 < 0)) || (!(l_eqWorld (i_StepSign a0 a1 a2 a3 a4 a5).1 (s_StepSign a0 a1 a2 a3 a4 a5).1))) || (!((i_StepSign a0 a1 a2 a3 a4 a5).2 == (s_StepSign a0 a1 a2 a3 a4 a5).2))) (fun k9 h6 => ?_) (fun k9 h6 => ?_)
      ·have q6 := h6; try simp at q6
       simp
       refine retRd (rv := [.tmp 12]) rfl ?_
       have f6 := l_FnExactStepSign.eq_1 a0 a1 a2 a3 a4 a5; simp only [h1, h2, h3, h4, h5, h6, cond_t, cond_f] at f6; simp [f6]
      ·have q6 := h6; try simp at q6
       simp
       refine callMO (ats := [.sref 58 0 0 (i_StepSign a0 a1 a2 a3 a4 a5).1.Frame.Keys.length, .sref 58 1 0 (i_StepSign a0 a1 a2 a3 a4 a5).1.Frame.Authorities.length, .sref 58 2 0 (i_StepSign a0 a1 a2 a3 a4 a5).1.Frame.Methods.length, .d (.int .i64 (i_StepSign a0 a1 a2 a3 a4 a5).1.Frame.Liars), .d (.int .i64 (i_StepSign a0 a1 a2 a3 a4 a5).1.Frame.Now), .sref 58 5 0 (i_StepSign a0 a1 a2 a3 a4 a5).1.Certs.length, .sref 58 6 0 (i_StepSign a0 a1 a2 a3 a4 a5).1.Ended.length, .sref 58 7 0 (i_StepSign a0 a1 a2 a3 a4 a5).1.Archives.length, .sref 58 8 0 (i_StepSign a0 a1 a2 a3 a4 a5).1.Seqs.length, .sref 58 9 0 (i_StepSign a0 a1 a2 a3 a4 a5).1.Lying.length, .d (.int .i64 (i_StepSign a0 a1 a2 a3 a4 a5).1.Next), .sref 58 11 0 (i_StepSign a0 a1 a2 a3 a4 a5).1.Forged.length]) rfl rfl rfl rfl rfl rfl rfl (l_markWorld_ok (i_StepSign a0 a1 a2 a3 a4 a5).1 1) (by simp) (by simp) (by simp) (by simp) (by simp) (by simp) (by simp) (by simp) (by simp) ?_
       simp
       refine cR (l_heldWorld_ok (l_markWorld (i_StepSign a0 a1 a2 a3 a4 a5).1 1).1 1) ?_
       simp
       refine cC (decide ((l_heldWorld (l_markWorld (i_StepSign a0 a1 a2 a3 a4 a5).1 1).1 1) < 0)) (fun k10 h7 => ?_) (fun k10 h7 => ?_)
       ·have q7 := h7; try simp at q7
        simp
        refine retRd (rv := [.tmp 12]) rfl ?_
        have f7 := l_FnExactStepSign.eq_1 a0 a1 a2 a3 a4 a5; simp only [h1, h2, h3, h4, h5, h6, h7, cond_t, cond_f] at f7; simp [f7]
       ·have q7 := h7; try simp at q7
        simp
        refine cC ((l_heldWorld (l_markWorld (i_StepSign a0 a1 a2 a3 a4 a5).1 1).1 1) != (l_markWorld (i_StepSign a0 a1 a2 a3 a4 a5).1 1).2) (fun k11 h8 => ?_) (fun k11 h8 => ?_)
        ·have q8 := h8; try simp at q8
         simp
         refine retRd (rv := [.tmp 12]) rfl ?_
         have f8 := l_FnExactStepSign.eq_1 a0 a1 a2 a3 a4 a5; simp only [h1, h2, h3, h4, h5, h6, h7, h8, cond_t, cond_f] at f8; simp [f8]
        ·have q8 := h8; try simp at q8
         simp
         refine okD fun k12 => ?_
         refine drawI mixed (by kernel_rfl) (by kernel_rfl) ?_
         simp
         refine cR (SoundD.rd (l_toWorld_okI a0 (sm_mono (n := 1048576) (by decide) (by simp (maxDischargeDepth := 12) [u0, u3, l_toArchive_id, l_toArchiveS_id, l_toAuthority_id, l_toAuthorityS_id, l_toCert_id, l_toCertS_id, l_toDocument_id, l_toFrame_id, l_toIntS_id, l_toItem_id, l_toItemS_id, l_toKey_id, l_toKeyS_id, l_toMethod_id, l_toMethodS_id, l_toPiece_id, l_toPieceS_id, l_toRenewal_id, l_toRenewalS_id, l_toSignature_id, l_toStamp_id, l_toStampS_id, l_toStep_id, l_toStepS_id, l_toStrand_id, l_toStringS_id, l_toWorld_id])))) ?_
         simp
         refine cR (SoundD.rd (l_toDocument_okI a3 (sm_mono (n := 1048576) (by decide) (by simp (maxDischargeDepth := 12) [u0, u3, l_toArchive_id, l_toArchiveS_id, l_toAuthority_id, l_toAuthorityS_id, l_toCert_id, l_toCertS_id, l_toDocument_id, l_toFrame_id, l_toIntS_id, l_toItem_id, l_toItemS_id, l_toKey_id, l_toKeyS_id, l_toMethod_id, l_toMethodS_id, l_toPiece_id, l_toPieceS_id, l_toRenewal_id, l_toRenewalS_id, l_toSignature_id, l_toStamp_id, l_toStampS_id, l_toStep_id, l_toStepS_id, l_toStrand_id, l_toStringS_id, l_toWorld_id])))) ?_
         simp
         refine cR (SoundD.rd (i_StepSign_ok a0 a1 a2 a3 a4 a5 (sm_mono (n := 1048576) (by decide) (by simp (maxDischargeDepth := 12) [u0, u3, l_toArchive_id, l_toArchiveS_id, l_toAuthority_id, l_toAuthorityS_id, l_toCert_id, l_toCertS_id, l_toDocument_id, l_toFrame_id, l_toIntS_id, l_toItem_id, l_toItemS_id, l_toKey_id, l_toKeyS_id, l_toMethod_id, l_toMethodS_id, l_toPiece_id, l_toPieceS_id, l_toRenewal_id, l_toRenewalS_id, l_toSignature_id, l_toStamp_id, l_toStampS_id, l_toStep_id, l_toStepS_id, l_toStrand_id, l_toStringS_id, l_toWorld_id])) (sm_mono (n := 1048576) (by decide) (by simp (maxDischargeDepth := 12) [u0, u3, l_toArchive_id, l_toArchiveS_id, l_toAuthority_id, l_toAuthorityS_id, l_toCert_id, l_toCertS_id, l_toDocument_id, l_toFrame_id, l_toIntS_id, l_toItem_id, l_toItemS_id, l_toKey_id, l_toKeyS_id, l_toMethod_id, l_toMethodS_id, l_toPiece_id, l_toPieceS_id, l_toRenewal_id, l_toRenewalS_id, l_toSignature_id, l_toStamp_id, l_toStampS_id, l_toStep_id, l_toStepS_id, l_toStrand_id, l_toStringS_id, l_toWorld_id])))) ?_
         simp
         refine cR (l_eqWorld_ok (i_StepSign a0 a1 a2 a3 a4 a5).1 (s_StepSign a0 a1 a2 a3 a4 a5).1) ?_
         simp
         refine cC ((!(l_eqWorld (i_StepSign a0 a1 a2 a3 a4 a5).1 (s_StepSign a0 a1 a2 a3 a4 a5).1)) || (!((i_StepSign a0 a1 a2 a3 a4 a5).2 == (s_StepSign a0 a1 a2 a3 a4 a5).2))) (fun k13 h9 => ?_) (fun k13 h9 => ?_)
         ·have q9 := h9; try simp at q9
          exact absurd (h3.symm.trans h9) (by decide)
         ·have q9 := h9; try simp at q9
          simp
          refine cR (l_heldWorld_ok (l_markWorld (i_StepSign a0 a1 a2 a3 a4 a5).1 1).1 1) ?_
          simp
          refine cC (decide ((l_heldWorld (l_markWorld (i_StepSign a0 a1 a2 a3 a4 a5).1 1).1 1) < 0)) (fun k14 h10 => ?_) (fun k14 h10 => ?_)
          ·have q10 := h10; try simp at q10
           exact absurd (h7.symm.trans h10) (by decide)
          ·have q10 := h10; try simp at q10
           simp
           refine cC ((l_heldWorld (l_markWorld (i_StepSign a0 a1 a2 a3 a4 a5).1 1).1 1) != (l_markWorld (i_StepSign a0 a1 a2 a3 a4 a5).1 1).2) (fun k15 h11 => ?_) (fun k15 h11 => ?_)
           ·have q11 := h11; try simp at q11
            exact absurd (h8.symm.trans h11) (by decide)
           ·have q11 := h11; try simp at q11
            simp
            refine retRd (rv := [.tmp 12]) rfl ?_
            have f12 := l_FnExactStepSign.eq_1 a0 a1 a2 a3 a4 a5; simp only [h1, h2, h3, h4, h5, h6, h7, h8, h9, h10, h11, cond_t, cond_f] at f12; simp [f12]
theorem s_FindMethod_ok (a0 : List TMethod) (a1 : Int) : SoundAt Tryz.prog 185 false [[.sl 4 (a0.map TMethod.row)], [.int .i64 a1]] [[.int .i64 (s_FindMethod a0 a1)]] := by
 refine sound_of Tryz.func185 rfl (by kernel_rfl) ?_
 simp [Tryz.ntmps185]
 refine okL fun k1 => ?_
 refine loopI (ι := { s : Nat × Nat // s_FindMethod_1 a0 a1 s.1 s.2 = s_FindMethod_1 a0 a1 (a0.length + 1) 0 ∧ (1 ≤ s.1 ∧ a0.length < s.1 + s.2 ∧ s.2 ≤ a0.length) }) (fun s => stOf 20 [eL 0 4 a0 TMethod.row, eI 1 a1, eI 5 (↑s.1.2 : Int)]) (fun s => s.1.1) ⟨((a0.length + 1), 0), rfl, by first | omega | (dsimp only; omega) | simp⟩ (wk_keep (by simp)) ?_
 rintro ⟨⟨n1, v1_0⟩, e1, j1⟩
 try dsimp only at e1 j1
 obtain ⟨p1, rfl⟩ : ∃ p, n1 = p + 1 := ⟨n1 - 1, by omega⟩
 simp
 refine cC (decide ((↑v1_0 : Int) < (↑a0.length : Int))) (fun k2 h1 => ?_) (fun k2 h1 => ?_)
 ·have q1 := h1; try simp at q1
  have i1 : v1_0 < a0.length := by simpa using h1
  have m2 : a0.length ≤ 9223372036854775807 := by simpa using k2 0 _ rfl
  have w1 : IntKind.i64.wrap ((v1_0 : Int) + 1) = (v1_0 : Int) + 1 := wrap_of (by omega) (by omega)
  simp [i1, rowAt_map]
  repeat with_reducible refine sd ?_
  refine cC ((nth a0 v1_0).Id == a1) (fun k3 h2 => ?_) (fun k3 h2 => ?_)
  ·have q2 := h2; try simp at q2
   have x1 : s_FindMethod_1 a0 a1 (a0.length + 1) 0 = .inl (↑v1_0 : Int) := by rw [← e1]; simp only [s_FindMethod_1, h1, h2, cond_t, cond_f]
   simp
   refine retRd (rv := [.tmp 4]) rfl ?_
   have f1 := s_FindMethod.eq_1 a0 a1; simp only [x1, cond_t, cond_f] at f1; simp [f1]
  ·have q2 := h2; try simp at q2
   simp
   refine nxtI ⟨(p1, (v1_0 + 1)), ?_, ?_⟩ (by simp) (wk_keep (by simp [w1]))
   · rw [← e1]; simp only [s_FindMethod_1, h1, h2, cond_t, cond_f]
   · first | omega | (simp at *; omega)
 ·have q1 := h1; try simp at q1
  have x2 : s_FindMethod_1 a0 a1 (a0.length + 1) 0 = .inr () := by rw [← e1]; simp only [s_FindMethod_1, h1, cond_t, cond_f]
  simp
  refine retRd (rv := [.tmp 4]) rfl ?_
  have f2 := s_FindMethod.eq_1 a0 a1; simp only [x2, cond_t, cond_f] at f2; simp [f2]
theorem s_BreakOf_ok (a0 : List TMethod) (a1 : Int) : SoundAt Tryz.prog 111 false [[.sl 4 (a0.map TMethod.row)], [.int .i64 a1]] [[.int .i64 (s_BreakOf a0 a1)]] := by
 refine sound_of Tryz.func111 rfl (by kernel_rfl) ?_
 simp [Tryz.ntmps111]
 refine cR (s_FindMethod_ok a0 a1) ?_
 simp
 refine cC (decide ((s_FindMethod a0 a1) < 0)) (fun k1 h1 => ?_) (fun k1 h1 => ?_)
 ·have q1 := h1; try simp at q1
  simp
  refine retRd (rv := [.tmp 4]) rfl ?_
  have f1 := s_BreakOf.eq_1 a0 a1; simp only [h1, cond_t, cond_f] at f1; simp [f1]
 ·have q1 := h1; try simp at q1
  have i1 : (s_FindMethod a0 a1).toNat < a0.length := by have := s_FindMethod_lt a0 a1; exact il
  simp [i1, rowAt_map]
  repeat with_reducible refine sd ?_
  refine retRd (rv := [.tmp 4]) rfl ?_
  have f2 := s_BreakOf.eq_1 a0 a1; simp only [h1, cond_t, cond_f] at f2; simp [f2]
theorem s_IsStolen_ok (a0 : TFrame) (a1 : Int) : SoundAt Tryz.prog 51 false [a0.row, [.int .i64 a1]] [[.bool (s_IsStolen a0 a1)]] := by
 refine sound_of Tryz.func51 rfl (by kernel_rfl) ?_
 simp [Tryz.ntmps51]
 refine cR (s_FindKey_ok a0.Keys a1) ?_
 simp
 refine okD fun k1 => ?_
 refine drawI mixed (by kernel_rfl) (by kernel_rfl) ?_
 simp
 refine guardI rfl rfl rfl rfl rfl (by simp) (fun g1 => ?_) (fun g1 => ?_)
 ·have g1x := g1; try simp only [beq_true, beq_false, Bool.not_eq_true', Bool.not_eq_false', Bool.true_and, Bool.and_true] at g1x
  try simp at g1
  have i1 : (s_FindKey a0.Keys a1).toNat < a0.Keys.length := by have := s_FindKey_lt a0.Keys a1; exact il
  simp [i1, rowAt_map, g1x]
  repeat with_reducible refine sdg ?_
  refine callG rfl rfl rfl rfl rfl rfl (fun gg => (s_BreakOf_ok a0.Methods (nth a0.Keys (s_FindKey a0.Keys a1).toNat).Method)) (by first | (simp; done) | (simp [g1x]; done) | (simp [g1x]; omega) | (simp_all; done)) (by first | (simp; done) | (simp [g1x]; done) | (simp [g1x]; omega) | (simp_all; done)) (by first | (simp; done) | (simp [g1x]; done) | (simp [g1x]; omega) | (simp_all; done)) (by first | (simp; done) | (simp [g1x]; done) | (simp [g1x]; omega) | (simp_all; done)) ?_
  simp [g1x]
  repeat with_reducible refine sdg ?_
  refine retRd (rv := [.tmp 4]) rfl ?_
  have f1 := s_IsStolen.eq_1 a0 a1; simp [f1, g1x]
 ·have g1x := g1; try simp only [beq_true, beq_false, Bool.not_eq_true', Bool.not_eq_false', Bool.true_and, Bool.and_true] at g1x
  simp [g1x]
  repeat with_reducible refine sdg ?_
  refine skipG rfl rfl rfl rfl (by simp) (by simp [g1x]) ?_
  simp [g1x]
  repeat with_reducible refine sdg ?_
  refine retRd (rv := [.tmp 4]) rfl ?_
  have f2 := s_IsStolen.eq_1 a0 a1; simp [f2, g1x]
theorem s_StepForge_ok (a0 : TWorld) (a1 : Int) (a2 : Int) (a3 : TDocument) (u0 : Sm 2314240 a0) (u1 : Sm 2314240 a3) : SoundAt Tryz.prog 39 true [a0.row, [.int .i64 a1], [.int .i64 a2], a3.row] [(s_StepForge a0 a1 a2 a3).1.row, [.bool (s_StepForge a0 a1 a2 a3).2]] := by
 refine sound_of Tryz.func39 rfl (by kernel_rfl) ?_
 simp [Tryz.ntmps39]
 refine cO (s_l33Copy_okI a0 (sg u0)) ?_
 simp
 refine cR (s_l34Has_ok a0 a1) ?_
 simp
 refine cG (fun gg => (s_IsStolen_ok a0.Frame a2)) ?_
 simp
 have c1 : a0.Archives.length ≤ 2314240 := sm_len (by simp (maxDischargeDepth := 12) [u0, u1])
 have w1 : IntKind.i64.wrap ((a0.Archives.length : Int) - 1) = (a0.Archives.length : Int) - 1 := wrap_of (by omega) (by omega)
 refine cC ((!(s_l34Has a0 a1)) || (!(s_IsStolen a0.Frame a2))) (fun k1 h1 => ?_) (fun k1 h1 => ?_)
 ·have q1 := h1; try simp [w1, s_l34Has, s_l1In] at q1
  simp
  refine retOwn (rv := [.cell 8 42, .tmp 9]) rfl ?_
  have f1 := s_StepForge.eq_1 a0 a1 a2 a3; simp only [h1, cond_t, cond_f] at f1; simp [f1]
 ·have q1 := h1; try simp [w1, s_l34Has, s_l1In] at q1
  simp
  refine cR (s_l34Item_ok a0 a2 a3 0 10000 (sg u0) (sg u1)) ?_
  simp
  refine cC (!(s_l34Item a0 a2 a3 0 10000).2) (fun k2 h2 => ?_) (fun k2 h2 => ?_)
  ·have q2 := h2; try simp at q2
   simp
   refine retOwn (rv := [.cell 8 42, .tmp 9]) rfl ?_
   have f2 := s_StepForge.eq_1 a0 a1 a2 a3; simp only [h1, h2, cond_t, cond_f] at f2; simp [f2]
  ·have q2 := h2; try simp at q2
   simp
   refine okD fun k3 => ?_
   refine drawI mixed (by kernel_rfl) (by kernel_rfl) ?_
   have i1 : a1.toNat < a0.Archives.length := il
   simp [i1, rowAt_map]
   repeat with_reducible refine sd ?_
   refine cR (s_AddItem_ok (nth a0.Archives a1.toNat) (s_l34Item a0 a2 a3 0 10000).1 (by first | (exact sm_mono (n := 2314240) (by decide) (by simp (maxDischargeDepth := 12) [u0, u1])) | (exact sm_mono (n := 2314240) (by decide) (s_l34Item_sm (by simp (maxDischargeDepth := 12) [u0, u1]) (by decide)))) (by first | (exact sm_mono (n := 2314240) (by decide) (by simp (maxDischargeDepth := 12) [u0, u1])) | (exact sm_mono (n := 2314240) (by decide) (s_l34Item_sm (by simp (maxDischargeDepth := 12) [u0, u1]) (by decide))))) ?_
   simp
   refine cC (!(s_AddItem (nth a0.Archives a1.toNat) (s_l34Item a0 a2 a3 0 10000).1).2) (fun k4 h3 => ?_) (fun k4 h3 => ?_)
   ·have q3 := h3; try simp at q3
    simp
    refine retOwn (rv := [.cell 8 42, .tmp 9]) rfl ?_
    have f3 := s_StepForge.eq_1 a0 a1 a2 a3; simp only [h1, h2, h3, cond_t, cond_f] at f3; simp [f3]
   ·have q3 := h3; try simp at q3
    have c2 : a0.Forged.length ≤ 2314240 := sm_len (by simp (maxDischargeDepth := 12) [u0, u1])
    simp [i1, rowAt_map, set_map (x := (s_AddItem (nth a0.Archives a1.toNat) (s_l34Item a0 a2 a3 0 10000).1).1) rfl]
    repeat with_reducible refine sd ?_
    refine retOwn (rv := [.cell 8 42, .tmp 9]) rfl ?_
    have f4 := s_StepForge.eq_1 a0 a1 a2 a3; simp only [h1, h2, h3, cond_t, cond_f] at f4; simp [f4]
theorem i_FindMethod_ok (a0 : List TMethod) (a1 : Int) : SoundAt Tryz.prog 240 false [[.sl 4 (a0.map TMethod.row)], [.int .i64 a1]] [[.int .i64 (i_FindMethod a0 a1)]] := by
 refine sound_of Tryz.func240 rfl (by kernel_rfl) ?_
 simp [Tryz.ntmps240]
 refine okL fun k1 => ?_
 refine loopI (ι := { s : Nat × Nat // i_FindMethod_1 a0 a1 s.1 s.2 = i_FindMethod_1 a0 a1 (a0.length + 1) 0 ∧ (1 ≤ s.1 ∧ a0.length < s.1 + s.2 ∧ s.2 ≤ a0.length) }) (fun s => stOf 20 [eI 1 a1, eL 7 4 a0 TMethod.row, eI 8 (↑a0.length : Int), eI 9 (↑s.1.2 : Int)]) (fun s => s.1.1) ⟨((a0.length + 1), 0), rfl, by first | omega | (dsimp only; omega) | simp⟩ (wk_keep (by simp)) ?_
 rintro ⟨⟨n1, v1_0⟩, e1, j1⟩
 try dsimp only at e1 j1
 obtain ⟨p1, rfl⟩ : ∃ p, n1 = p + 1 := ⟨n1 - 1, by omega⟩
 simp
 refine cC (decide ((↑v1_0 : Int) < (↑a0.length : Int))) (fun k2 h1 => ?_) (fun k2 h1 => ?_)
 ·have q1 := h1; try simp at q1
  have i1 : v1_0 < a0.length := by simpa using h1
  have m2 : a0.length ≤ 9223372036854775807 := by simpa using k2 7 _ rfl
  have w1 : IntKind.i64.wrap ((v1_0 : Int) + 1) = (v1_0 : Int) + 1 := wrap_of (by omega) (by omega)
  simp [i1, rowAt_map]
  repeat with_reducible refine sd ?_
  refine cC ((nth a0 v1_0).Id == a1) (fun k3 h2 => ?_) (fun k3 h2 => ?_)
  ·have q2 := h2; try simp at q2
   have x1 : i_FindMethod_1 a0 a1 (a0.length + 1) 0 = .inl (↑v1_0 : Int) := by rw [← e1]; simp only [i_FindMethod_1, h1, h2, cond_t, cond_f]
   simp
   refine retRd (rv := [.tmp 4]) rfl ?_
   have f1 := i_FindMethod.eq_1 a0 a1; simp only [x1, cond_t, cond_f] at f1; simp [f1]
  ·have q2 := h2; try simp at q2
   simp
   refine nxtI ⟨(p1, (v1_0 + 1)), ?_, ?_⟩ (by simp) (wk_keep (by simp [w1]))
   · rw [← e1]; simp only [i_FindMethod_1, h1, h2, cond_t, cond_f]
   · first | omega | (simp at *; omega)
 ·have q1 := h1; try simp at q1
  have x2 : i_FindMethod_1 a0 a1 (a0.length + 1) 0 = .inr () := by rw [← e1]; simp only [i_FindMethod_1, h1, cond_t, cond_f]
  simp
  refine retRd (rv := [.tmp 4]) rfl ?_
  have f2 := i_FindMethod.eq_1 a0 a1; simp only [x2, cond_t, cond_f] at f2; simp [f2]
theorem i_BreakOf_ok (a0 : List TMethod) (a1 : Int) : SoundAt Tryz.prog 190 false [[.sl 4 (a0.map TMethod.row)], [.int .i64 a1]] [[.int .i64 (i_BreakOf a0 a1)]] := by
 refine sound_of Tryz.func190 rfl (by kernel_rfl) ?_
 simp [Tryz.ntmps190]
 refine cR (i_FindMethod_ok a0 a1) ?_
 simp
 refine cC (decide ((i_FindMethod a0 a1) ≥ 0)) (fun k1 h1 => ?_) (fun k1 h1 => ?_)
 ·have q1 := h1; try simp at q1
  have i1 : (i_FindMethod a0 a1).toNat < a0.length := by have := i_FindMethod_lt a0 a1; exact il
  simp [i1, rowAt_map]
  repeat with_reducible refine sd ?_
  refine retRd (rv := [.tmp 4]) rfl ?_
  have f1 := i_BreakOf.eq_1 a0 a1; simp only [h1, cond_t, cond_f] at f1; simp [f1]
 ·have q1 := h1; try simp at q1
  simp
  refine retRd (rv := [.tmp 4]) rfl ?_
  have f2 := i_BreakOf.eq_1 a0 a1; simp only [h1, cond_t, cond_f] at f2; simp [f2]
theorem i_breakOfKey_ok (a0 : TFrame) (a1 : Int) : SoundAt Tryz.prog 118 false [a0.row, [.int .i64 a1]] [[.int .i64 (i_breakOfKey a0 a1)]] := by
 refine sound_of Tryz.func118 rfl (by kernel_rfl) ?_
 simp [Tryz.ntmps118]
 refine cR (i_FindKey_ok a0.Keys a1) ?_
 simp
 refine cC (decide ((i_FindKey a0.Keys a1) < 0)) (fun k1 h1 => ?_) (fun k1 h1 => ?_)
 ·have q1 := h1; try simp at q1
  simp
  refine retRd (rv := [.tmp 4]) rfl ?_
  have f1 := i_breakOfKey.eq_1 a0 a1; simp only [h1, cond_t, cond_f] at f1; simp [f1]
 ·have q1 := h1; try simp at q1
  simp
  refine okD fun k2 => ?_
  refine drawI mixed (by kernel_rfl) (by kernel_rfl) ?_
  have i1 : (i_FindKey a0.Keys a1).toNat < a0.Keys.length := by have := i_FindKey_lt a0.Keys a1; exact il
  simp [i1, rowAt_map]
  repeat with_reducible refine sd ?_
  refine cR (i_BreakOf_ok a0.Methods (nth a0.Keys (i_FindKey a0.Keys a1).toNat).Method) ?_
  simp
  refine retRd (rv := [.tmp 4]) rfl ?_
  have f2 := i_breakOfKey.eq_1 a0 a1; simp only [h1, cond_t, cond_f] at f2; simp [f2]
theorem i_IsStolen_ok (a0 : TFrame) (a1 : Int) : SoundAt Tryz.prog 56 false [a0.row, [.int .i64 a1]] [[.bool (i_IsStolen a0 a1)]] := by
 refine sound_of Tryz.func56 rfl (by kernel_rfl) ?_
 simp [Tryz.ntmps56]
 refine okD fun k1 => ?_
 refine drawI mixed (by kernel_rfl) (by kernel_rfl) ?_
 simp
 refine cR (i_FindKey_ok a0.Keys a1) ?_
 simp
 refine cG (fun gg => (i_breakOfKey_ok a0 a1)) ?_
 simp
 refine retRd (rv := [.tmp 4]) rfl ?_
 have f1 := i_IsStolen.eq_1 a0 a1; simp [f1]
theorem i_StepForge_ok (a0 : TWorld) (a1 : Int) (a2 : Int) (a3 : TDocument) (u0 : Sm 2310144 a0) (u1 : Sm 2310144 a3) : SoundD Tryz.prog 40 [a0.row, [.int .i64 a1], [.int .i64 a2], a3.row] [(i_StepForge a0 a1 a2 a3).1.row, [.bool (i_StepForge a0 a1 a2 a3).2]] := by
 refine sound_ofD Tryz.func40 rfl (by kernel_rfl) ?_
 simp [Tryz.ntmps40]
 refine cR (i_IsStolen_ok a0.Frame a2) ?_
 simp
 refine cC (!(i_IsStolen a0.Frame a2)) (fun k1 h1 => ?_) (fun k1 h1 => ?_)
 ·have q1 := h1; try simp at q1
  simp
  refine cD [false, false, false, true, true, false, false, true, false, false, true, false] (i_copyWorld_okI a0 (by first | (exact sm_mono (n := 2310144) (by decide) (by simp (maxDischargeDepth := 12) [u0, u1])) | (exact sm_mono (n := 2310144 + 1) (by decide) (i_signInto_sm (n := 2310144) (by simp (maxDischargeDepth := 12) [u0, u1]) (by simp (maxDischargeDepth := 12) [u0, u1]) (by decide))))) ?_
  simp
  refine retD (rv := [.cell 8 42, .tmp 9]) rfl ?_
  have f1 := i_StepForge.eq_1 a0 a1 a2 a3; simp only [h1, cond_t, cond_f] at f1; simp [f1]
  all_goals ((try simp only [q2, true_and]); (try (rintro r (⟨a, _, rfl⟩ | rfl) x hx <;> simp at hx <;> subst hx <;> rfl)))
 ·have q1 := h1; try simp at q1
  simp
  refine cR (i_signInto_ok a0 a1 a2 a3 0 10000 (sg u0) (sg u1)) ?_
  simp
  refine cD [false, false, false, true, true, false, false, true, false, false, true, false] (i_copyWorld_okI (i_signInto a0 a1 a2 a3 0 10000).1 (by first | (exact sm_mono (n := 2310144) (by decide) (by simp (maxDischargeDepth := 12) [u0, u1])) | (exact sm_mono (n := 2310144 + 1) (by decide) (i_signInto_sm (n := 2310144) (by simp (maxDischargeDepth := 12) [u0, u1]) (by simp (maxDischargeDepth := 12) [u0, u1]) (by decide))))) ?_
  simp
  refine cC (i_signInto a0 a1 a2 a3 0 10000).2 (fun k2 h2 => ?_) (fun k2 h2 => ?_)
  ·have q2 := h2; try simp at q2
   simp
   repeat ((with_reducible refine And.intro ?_ ?_); focus (intros; first | first | omega | (have o := sm_len (TWorld.sm_Forged (i_signInto_sm (n := 2310144) (a1 := a1) (a2 := a2) (a4 := 0) (a5 := 10000) u0 u1 (by decide))); (try simp); omega) | ((try simp only [W_def, show ∀ x, IntKind.i64.wrap x = W x from fun _ => rfl] at *); omega)))
   refine retD (rv := [.cell 8 42, .tmp 9]) rfl ?_
   have f2 := i_StepForge.eq_1 a0 a1 a2 a3; simp only [h1, h2, cond_t, cond_f] at f2; simp [f2]
   all_goals ((try simp only [q2, true_and]); (try (rintro r (⟨a, _, rfl⟩ | rfl) x hx <;> simp at hx <;> subst hx <;> rfl)))
  ·have q2 := h2; try simp at q2
   simp
   refine retD (rv := [.cell 8 42, .tmp 9]) rfl ?_
   have f3 := i_StepForge.eq_1 a0 a1 a2 a3; simp only [h1, h2, cond_t, cond_f] at f3; simp [f3]
   all_goals ((try simp only [q2, true_and]); (try (rintro r (⟨a, _, rfl⟩ | rfl) x hx <;> simp at hx <;> subst hx <;> rfl)))
theorem l_FnExactStepForge_ok (a0 : TWorld) (a1 : Int) (a2 : Int) (a3 : TDocument) (t0 : Sm maxLen a0) (t3 : Sm maxLen a3) : SoundAt Tryz.prog 10 false [a0.row, [.int .i64 a1], [.int .i64 a2], a3.row] [[.bool (l_FnExactStepForge a0 a1 a2 a3)]] := by
 refine sound_of Tryz.func10 rfl (by kernel_rfl) ?_
 simp [Tryz.ntmps10]
 refine cR (l_szWorld_ok a0 1048576) ?_
 simp
 refine cC (decide ((l_szWorld a0 1048576) < 0)) (fun k1 h1 => ?_) (fun k1 h1 => ?_)
 ·have q1 := h1; try simp at q1
  simp
  refine retRd (rv := [.tmp 8]) rfl ?_
  have f1 := l_FnExactStepForge.eq_1 a0 a1 a2 a3; simp only [h1, cond_t, cond_f] at f1; simp [f1]
 ·have q1 := h1; try simp at q1
  obtain ⟨u0, y0⟩ := l_szWorld_sm a0 1048576 t0 (by omega) (by omega) (by simpa using h1)
  simp
  refine cR (l_szDocument_ok a3 (l_szWorld a0 1048576)) ?_
  simp
  refine cC (decide ((l_szDocument a3 (l_szWorld a0 1048576)) < 0)) (fun k2 h2 => ?_) (fun k2 h2 => ?_)
  ·have q2 := h2; try simp at q2
   simp
   refine retRd (rv := [.tmp 8]) rfl ?_
   have f2 := l_FnExactStepForge.eq_1 a0 a1 a2 a3; simp only [h1, h2, cond_t, cond_f] at f2; simp [f2]
  ·have q2 := h2; try simp at q2
   obtain ⟨u3, y3⟩ := l_szDocument_sm a3 (l_szWorld a0 1048576) t3 (by omega) (by omega) (by simpa using h2)
   simp
   refine okD fun k3 => ?_
   refine drawI mixed (by kernel_rfl) (by kernel_rfl) ?_
   simp
   refine cR (SoundD.rd (l_toWorld_okI a0 (sm_mono (n := 1048576) (by decide) (by simp (maxDischargeDepth := 12) [u0, u3, l_toArchive_id, l_toArchiveS_id, l_toAuthority_id, l_toAuthorityS_id, l_toCert_id, l_toCertS_id, l_toDocument_id, l_toFrame_id, l_toIntS_id, l_toItem_id, l_toItemS_id, l_toKey_id, l_toKeyS_id, l_toMethod_id, l_toMethodS_id, l_toPiece_id, l_toPieceS_id, l_toRenewal_id, l_toRenewalS_id, l_toSignature_id, l_toStamp_id, l_toStampS_id, l_toStep_id, l_toStepS_id, l_toStrand_id, l_toStringS_id, l_toWorld_id])))) ?_
   simp
   refine cR (SoundD.rd (l_toDocument_okI a3 (sm_mono (n := 1048576) (by decide) (by simp (maxDischargeDepth := 12) [u0, u3, l_toArchive_id, l_toArchiveS_id, l_toAuthority_id, l_toAuthorityS_id, l_toCert_id, l_toCertS_id, l_toDocument_id, l_toFrame_id, l_toIntS_id, l_toItem_id, l_toItemS_id, l_toKey_id, l_toKeyS_id, l_toMethod_id, l_toMethodS_id, l_toPiece_id, l_toPieceS_id, l_toRenewal_id, l_toRenewalS_id, l_toSignature_id, l_toStamp_id, l_toStampS_id, l_toStep_id, l_toStepS_id, l_toStrand_id, l_toStringS_id, l_toWorld_id])))) ?_
   simp
   refine cR (s_StepForge_ok a0 a1 a2 a3 (sm_mono (n := 1048576) (by decide) (by simp (maxDischargeDepth := 12) [u0, u3, l_toArchive_id, l_toArchiveS_id, l_toAuthority_id, l_toAuthorityS_id, l_toCert_id, l_toCertS_id, l_toDocument_id, l_toFrame_id, l_toIntS_id, l_toItem_id, l_toItemS_id, l_toKey_id, l_toKeyS_id, l_toMethod_id, l_toMethodS_id, l_toPiece_id, l_toPieceS_id, l_toRenewal_id, l_toRenewalS_id, l_toSignature_id, l_toStamp_id, l_toStampS_id, l_toStep_id, l_toStepS_id, l_toStrand_id, l_toStringS_id, l_toWorld_id])) (sm_mono (n := 1048576) (by decide) (by simp (maxDischargeDepth := 12) [u0, u3, l_toArchive_id, l_toArchiveS_id, l_toAuthority_id, l_toAuthorityS_id, l_toCert_id, l_toCertS_id, l_toDocument_id, l_toFrame_id, l_toIntS_id, l_toItem_id, l_toItemS_id, l_toKey_id, l_toKeyS_id, l_toMethod_id, l_toMethodS_id, l_toPiece_id, l_toPieceS_id, l_toRenewal_id, l_toRenewalS_id, l_toSignature_id, l_toStamp_id, l_toStampS_id, l_toStep_id, l_toStepS_id, l_toStrand_id, l_toStringS_id, l_toWorld_id]))) ?_
   simp
   refine cD [] (l_toWorld_okI a0 (sm_mono (n := 1048576) (by decide) (by simp (maxDischargeDepth := 12) [u0, u3, l_toArchive_id, l_toArchiveS_id, l_toAuthority_id, l_toAuthorityS_id, l_toCert_id, l_toCertS_id, l_toDocument_id, l_toFrame_id, l_toIntS_id, l_toItem_id, l_toItemS_id, l_toKey_id, l_toKeyS_id, l_toMethod_id, l_toMethodS_id, l_toPiece_id, l_toPieceS_id, l_toRenewal_id, l_toRenewalS_id, l_toSignature_id, l_toStamp_id, l_toStampS_id, l_toStep_id, l_toStepS_id, l_toStrand_id, l_toStringS_id, l_toWorld_id]))) ?_
   simp
   refine cD [] (l_toDocument_okI a3 (sm_mono (n := 1048576) (by decide) (by simp (maxDischargeDepth := 12) [u0, u3, l_toArchive_id, l_toArchiveS_id, l_toAuthority_id, l_toAuthorityS_id, l_toCert_id, l_toCertS_id, l_toDocument_id, l_toFrame_id, l_toIntS_id, l_toItem_id, l_toItemS_id, l_toKey_id, l_toKeyS_id, l_toMethod_id, l_toMethodS_id, l_toPiece_id, l_toPieceS_id, l_toRenewal_id, l_toRenewalS_id, l_toSignature_id, l_toStamp_id, l_toStampS_id, l_toStep_id, l_toStepS_id, l_toStrand_id, l_toStringS_id, l_toWorld_id]))) ?_
   simp
   refine cD [] (i_StepForge_ok a0 a1 a2 a3 (sm_mono (n := 1048576) (by decide) (by simp (maxDischargeDepth := 12) [u0, u3, l_toArchive_id, l_toArchiveS_id, l_toAuthority_id, l_toAuthorityS_id, l_toCert_id, l_toCertS_id, l_toDocument_id, l_toFrame_id, l_toIntS_id, l_toItem_id, l_toItemS_id, l_toKey_id, l_toKeyS_id, l_toMethod_id, l_toMethodS_id, l_toPiece_id, l_toPieceS_id, l_toRenewal_id, l_toRenewalS_id, l_toSignature_id, l_toStamp_id, l_toStampS_id, l_toStep_id, l_toStepS_id, l_toStrand_id, l_toStringS_id, l_toWorld_id])) (sm_mono (n := 1048576) (by decide) (by simp (maxDischargeDepth := 12) [u0, u3, l_toArchive_id, l_toArchiveS_id, l_toAuthority_id, l_toAuthorityS_id, l_toCert_id, l_toCertS_id, l_toDocument_id, l_toFrame_id, l_toIntS_id, l_toItem_id, l_toItemS_id, l_toKey_id, l_toKeyS_id, l_toMethod_id, l_toMethodS_id, l_toPiece_id, l_toPieceS_id, l_toRenewal_id, l_toRenewalS_id, l_toSignature_id, l_toStamp_id, l_toStampS_id, l_toStep_id, l_toStepS_id, l_toStrand_id, l_toStringS_id, l_toWorld_id]))) ?_
   simp
   refine cR (l_eqWorld_ok (i_StepForge a0 a1 a2 a3).1 (s_StepForge a0 a1 a2 a3).1) ?_
   simp
   refine cC ((!(l_eqWorld (i_StepForge a0 a1 a2 a3).1 (s_StepForge a0 a1 a2 a3).1)) || (!((i_StepForge a0 a1 a2 a3).2 == (s_StepForge a0 a1 a2 a3).2))) (fun k4 h3 => ?_) (fun k4 h3 => ?_)
   ·have q3 := h3; try simp at q3
    simp
    refine retRd (rv := [.tmp 8]) rfl ?_
    have f3 := l_FnExactStepForge.eq_1 a0 a1 a2 a3; simp only [h1, h2, h3, cond_t, cond_f] at f3; simp [f3]
   ·have q3 := h3; try simp at q3
    simp
    refine okD fun k5 => ?_
    refine drawI mixed (by kernel_rfl) (by kernel_rfl) ?_
    simp
    refine cR (SoundD.rd (l_toWorld_okI a0 (sm_mono (n := 1048576) (by decide) (by simp (maxDischargeDepth := 12) [u0, u3, l_toArchive_id, l_toArchiveS_id, l_toAuthority_id, l_toAuthorityS_id, l_toCert_id, l_toCertS_id, l_toDocument_id, l_toFrame_id, l_toIntS_id, l_toItem_id, l_toItemS_id, l_toKey_id, l_toKeyS_id, l_toMethod_id, l_toMethodS_id, l_toPiece_id, l_toPieceS_id, l_toRenewal_id, l_toRenewalS_id, l_toSignature_id, l_toStamp_id, l_toStampS_id, l_toStep_id, l_toStepS_id, l_toStrand_id, l_toStringS_id, l_toWorld_id])))) ?_
    simp
    refine cR (l_eqWorld_ok a0 a0) ?_
    simp
    refine cC (!(l_eqWorld a0 a0)) (fun k6 h4 => ?_) (fun k6 h4 => ?_)
    ·have q4 := h4; try simp at q4
     simp
     refine retRd (rv := [.tmp 8]) rfl ?_
     have f4 := l_FnExactStepForge.eq_1 a0 a1 a2 a3; simp only [h1, h2, h3, h4, cond_t, cond_f] at f4; simp [f4]
    ·have q4 := h4; try simp at q4
     simp
     refine okD fun k7 => ?_
     refine drawI mixed (by kernel_rfl) (by kernel_rfl) ?_
     simp
     refine cR (SoundD.rd (l_toDocument_okI a3 (sm_mono (n := 1048576) (by decide) (by simp (maxDischargeDepth := 12) [u0, u3, l_toArchive_id, l_toArchiveS_id, l_toAuthority_id, l_toAuthorityS_id, l_toCert_id, l_toCertS_id, l_toDocument_id, l_toFrame_id, l_toIntS_id, l_toItem_id, l_toItemS_id, l_toKey_id, l_toKeyS_id, l_toMethod_id, l_toMethodS_id, l_toPiece_id, l_toPieceS_id, l_toRenewal_id, l_toRenewalS_id, l_toSignature_id, l_toStamp_id, l_toStampS_id, l_toStep_id, l_toStepS_id, l_toStrand_id, l_toStringS_id, l_toWorld_id])))) ?_
     simp
     refine cR (l_eqDocument_ok a3 a3) ?_
     simp
     refine cC (!(l_eqDocument a3 a3)) (fun k8 h5 => ?_) (fun k8 h5 => ?_)
     ·have q5 := h5; try simp at q5
      simp
      refine retRd (rv := [.tmp 8]) rfl ?_
      have f5 := l_FnExactStepForge.eq_1 a0 a1 a2 a3; simp only [h1, h2, h3, h4, h5, cond_t, cond_f] at f5; simp [f5]
     ·have q5 := h5; try simp at q5
      simp
      refine callMO (ats := [.sref 42 0 0 a0.Frame.Keys.length, .sref 42 1 0 a0.Frame.Authorities.length, .sref 42 2 0 a0.Frame.Methods.length, .d (.int .i64 a0.Frame.Liars), .d (.int .i64 a0.Frame.Now), .sref 42 5 0 a0.Certs.length, .sref 42 6 0 a0.Ended.length, .sref 42 7 0 a0.Archives.length, .sref 42 8 0 a0.Seqs.length, .sref 42 9 0 a0.Lying.length, .d (.int .i64 a0.Next), .sref 42 11 0 a0.Forged.length]) rfl rfl rfl rfl rfl rfl rfl (l_markWorld_ok a0 1) (by simp) (by simp) (by simp) (by simp) (by simp) (by simp) (by simp) (by simp) (by simp) ?_
      simp
      refine callMO (ats := [.d (.int .i64 a3.Title), .sref 44 1 0 a3.Parts.length, .sref 44 2 0 a3.Salts.length]) rfl rfl rfl rfl rfl rfl rfl (l_markDocument_ok a3 (l_markWorld a0 1).2) (by simp) (by simp) (by simp) (by simp) (by simp) (by simp) (by simp) (by simp) (by simp) ?_
      simp
      refine cG (fun gg => (l_eqWorld_ok (i_StepForge a0 a1 a2 a3).1 (s_StepForge a0 a1 a2 a3).1)) ?_
      simp
      refine cC (((decide ((l_markDocument a3 (l_markWorld a0 1).2).2 < 0)) || (!(l_eqWorld (i_StepForge a0 a1 a2 a3).1 (s_StepForge a0 a1 a2 a3).1))) || (!((i_StepForge a0 a1 a2 a3).2 == (s_StepForge a0 a1 a2 a3).2))) (fun k9 h6 => ?_) (fun k9 h6 => ?_)
      ·have q6 := h6; try simp at q6
       simp
       refine retRd (rv := [.tmp 8]) rfl ?_
       have f6 := l_FnExactStepForge.eq_1 a0 a1 a2 a3; simp only [h1, h2, h3, h4, h5, h6, cond_t, cond_f] at f6; simp [f6]
      ·have q6 := h6; try simp at q6
       simp
       refine callMO (ats := [.sref 50 0 0 (i_StepForge a0 a1 a2 a3).1.Frame.Keys.length, .sref 50 1 0 (i_StepForge a0 a1 a2 a3).1.Frame.Authorities.length, .sref 50 2 0 (i_StepForge a0 a1 a2 a3).1.Frame.Methods.length, .d (.int .i64 (i_StepForge a0 a1 a2 a3).1.Frame.Liars), .d (.int .i64 (i_StepForge a0 a1 a2 a3).1.Frame.Now), .sref 50 5 0 (i_StepForge a0 a1 a2 a3).1.Certs.length, .sref 50 6 0 (i_StepForge a0 a1 a2 a3).1.Ended.length, .sref 50 7 0 (i_StepForge a0 a1 a2 a3).1.Archives.length, .sref 50 8 0 (i_StepForge a0 a1 a2 a3).1.Seqs.length, .sref 50 9 0 (i_StepForge a0 a1 a2 a3).1.Lying.length, .d (.int .i64 (i_StepForge a0 a1 a2 a3).1.Next), .sref 50 11 0 (i_StepForge a0 a1 a2 a3).1.Forged.length]) rfl rfl rfl rfl rfl rfl rfl (l_markWorld_ok (i_StepForge a0 a1 a2 a3).1 1) (by simp) (by simp) (by simp) (by simp) (by simp) (by simp) (by simp) (by simp) (by simp) ?_
       simp
       refine cR (l_heldWorld_ok (l_markWorld (i_StepForge a0 a1 a2 a3).1 1).1 1) ?_
       simp
       refine cC (decide ((l_heldWorld (l_markWorld (i_StepForge a0 a1 a2 a3).1 1).1 1) < 0)) (fun k10 h7 => ?_) (fun k10 h7 => ?_)
       ·have q7 := h7; try simp at q7
        simp
        refine retRd (rv := [.tmp 8]) rfl ?_
        have f7 := l_FnExactStepForge.eq_1 a0 a1 a2 a3; simp only [h1, h2, h3, h4, h5, h6, h7, cond_t, cond_f] at f7; simp [f7]
       ·have q7 := h7; try simp at q7
        simp
        refine cC ((l_heldWorld (l_markWorld (i_StepForge a0 a1 a2 a3).1 1).1 1) != (l_markWorld (i_StepForge a0 a1 a2 a3).1 1).2) (fun k11 h8 => ?_) (fun k11 h8 => ?_)
        ·have q8 := h8; try simp at q8
         simp
         refine retRd (rv := [.tmp 8]) rfl ?_
         have f8 := l_FnExactStepForge.eq_1 a0 a1 a2 a3; simp only [h1, h2, h3, h4, h5, h6, h7, h8, cond_t, cond_f] at f8; simp [f8]
        ·have q8 := h8; try simp at q8
         simp
         refine okD fun k12 => ?_
         refine drawI mixed (by kernel_rfl) (by kernel_rfl) ?_
         simp
         refine cR (SoundD.rd (l_toWorld_okI a0 (sm_mono (n := 1048576) (by decide) (by simp (maxDischargeDepth := 12) [u0, u3, l_toArchive_id, l_toArchiveS_id, l_toAuthority_id, l_toAuthorityS_id, l_toCert_id, l_toCertS_id, l_toDocument_id, l_toFrame_id, l_toIntS_id, l_toItem_id, l_toItemS_id, l_toKey_id, l_toKeyS_id, l_toMethod_id, l_toMethodS_id, l_toPiece_id, l_toPieceS_id, l_toRenewal_id, l_toRenewalS_id, l_toSignature_id, l_toStamp_id, l_toStampS_id, l_toStep_id, l_toStepS_id, l_toStrand_id, l_toStringS_id, l_toWorld_id])))) ?_
         simp
         refine cR (SoundD.rd (l_toDocument_okI a3 (sm_mono (n := 1048576) (by decide) (by simp (maxDischargeDepth := 12) [u0, u3, l_toArchive_id, l_toArchiveS_id, l_toAuthority_id, l_toAuthorityS_id, l_toCert_id, l_toCertS_id, l_toDocument_id, l_toFrame_id, l_toIntS_id, l_toItem_id, l_toItemS_id, l_toKey_id, l_toKeyS_id, l_toMethod_id, l_toMethodS_id, l_toPiece_id, l_toPieceS_id, l_toRenewal_id, l_toRenewalS_id, l_toSignature_id, l_toStamp_id, l_toStampS_id, l_toStep_id, l_toStepS_id, l_toStrand_id, l_toStringS_id, l_toWorld_id])))) ?_
         simp
         refine cR (SoundD.rd (i_StepForge_ok a0 a1 a2 a3 (sm_mono (n := 1048576) (by decide) (by simp (maxDischargeDepth := 12) [u0, u3, l_toArchive_id, l_toArchiveS_id, l_toAuthority_id, l_toAuthorityS_id, l_toCert_id, l_toCertS_id, l_toDocument_id, l_toFrame_id, l_toIntS_id, l_toItem_id, l_toItemS_id, l_toKey_id, l_toKeyS_id, l_toMethod_id, l_toMethodS_id, l_toPiece_id, l_toPieceS_id, l_toRenewal_id, l_toRenewalS_id, l_toSignature_id, l_toStamp_id, l_toStampS_id, l_toStep_id, l_toStepS_id, l_toStrand_id, l_toStringS_id, l_toWorld_id])) (sm_mono (n := 1048576) (by decide) (by simp (maxDischargeDepth := 12) [u0, u3, l_toArchive_id, l_toArchiveS_id, l_toAuthority_id, l_toAuthorityS_id, l_toCert_id, l_toCertS_id, l_toDocument_id, l_toFrame_id, l_toIntS_id, l_toItem_id, l_toItemS_id, l_toKey_id, l_toKeyS_id, l_toMethod_id, l_toMethodS_id, l_toPiece_id, l_toPieceS_id, l_toRenewal_id, l_toRenewalS_id, l_toSignature_id, l_toStamp_id, l_toStampS_id, l_toStep_id, l_toStepS_id, l_toStrand_id, l_toStringS_id, l_toWorld_id])))) ?_
         simp
         refine cR (l_eqWorld_ok (i_StepForge a0 a1 a2 a3).1 (s_StepForge a0 a1 a2 a3).1) ?_
         simp
         refine cC ((!(l_eqWorld (i_StepForge a0 a1 a2 a3).1 (s_StepForge a0 a1 a2 a3).1)) || (!((i_StepForge a0 a1 a2 a3).2 == (s_StepForge a0 a1 a2 a3).2))) (fun k13 h9 => ?_) (fun k13 h9 => ?_)
         ·have q9 := h9; try simp at q9
          exact absurd (h3.symm.trans h9) (by decide)
         ·have q9 := h9; try simp at q9
          simp
          refine cR (l_heldWorld_ok (l_markWorld (i_StepForge a0 a1 a2 a3).1 1).1 1) ?_
          simp
          refine cC (decide ((l_heldWorld (l_markWorld (i_StepForge a0 a1 a2 a3).1 1).1 1) < 0)) (fun k14 h10 => ?_) (fun k14 h10 => ?_)
          ·have q10 := h10; try simp at q10
           exact absurd (h7.symm.trans h10) (by decide)
          ·have q10 := h10; try simp at q10
           simp
           refine cC ((l_heldWorld (l_markWorld (i_StepForge a0 a1 a2 a3).1 1).1 1) != (l_markWorld (i_StepForge a0 a1 a2 a3).1 1).2) (fun k15 h11 => ?_) (fun k15 h11 => ?_)
           ·have q11 := h11; try simp at q11
            exact absurd (h8.symm.trans h11) (by decide)
           ·have q11 := h11; try simp at q11
            simp
            refine retRd (rv := [.tmp 8]) rfl ?_
            have f12 := l_FnExactStepForge.eq_1 a0 a1 a2 a3; simp only [h1, h2, h3, h4, h5, h6, h7, h8, h9, h10, h11, cond_t, cond_f] at f12; simp [f12]
end Go.Proofs.YtllfgbhplfhdkaaGreat
