/- Contracts of the functions over the abstract machine, part 2. No condition. -/
import Derived.Test.YtejeomggohkclaaC1
namespace Go.Proofs.Ytejeomggohkclaa
open Go.Vm Go.Mo
set_option maxHeartbeats 1000000
set_option linter.unusedSimpArgs false
set_option linter.unusedVariables false
theorem s_FindAuthority_ok (a0 : List TAuthority) (a1 : Int) : SoundAt Try.prog 170 false [[.sl 3 (a0.map TAuthority.row)], [.int .i64 a1]] [[.int .i64 (s_FindAuthority a0 a1)]] := by
  refine sound_of Try.func170 rfl (by kernel_rfl) ?_
  simp [Try.ntmps170]
  refine okL fun k1 => ?_
  refine loopI (ι := { s : Nat × Nat // s_FindAuthority_1 a0 a1 s.1 s.2 = s_FindAuthority_1 a0 a1 (a0.length + 1) 0 ∧ (1 ≤ s.1 ∧ a0.length < s.1 + s.2) }) (fun s => stOf 20 [(0, .one (.d (.sl 3 (a0.map TAuthority.row))), []), (1, .one (.d (.int .i64 a1)), []), (5, .one (.d (.int .i64 (↑s.1.2 : Int))), [])]) (fun s => s.1.1) ⟨((a0.length + 1), 0), rfl, by first | omega | (dsimp only; omega) | simp⟩ (wk_keep (by simp)) ?_
  rintro ⟨⟨n1, v1_0⟩, e1, j1⟩
  try dsimp only at e1 j1
  obtain ⟨p1, rfl⟩ : ∃ p, n1 = p + 1 := ⟨n1 - 1, by omega⟩
  simp
  refine condB (fun k2 q1 => ?_) (fun k2 q1 => ?_)
  · have h1 : (decide ((↑v1_0 : Int) < (↑a0.length : Int))) = true := by simpa using q1
    have i1 : v1_0 < a0.length := by simpa using q1
    have m2 : a0.length ≤ 9223372036854775807 := by simpa using k2 0 _ rfl
    have w1 : IntKind.i64.wrap ((v1_0 : Int) + 1) = (v1_0 : Int) + 1 := wrap_of (by omega) (by omega)
    try simp at q1
    simp [i1, rowAt_map]
    repeat (refine ⟨by intros; omega, ?_⟩)
    refine condB (fun k3 q2 => ?_) (fun k3 q2 => ?_)
    · have h2 : ((nth a0 v1_0).Id == a1) = true := by simpa using q2
      try simp at q2
      have x1 : s_FindAuthority_1 a0 a1 (a0.length + 1) 0 = .inl (↑v1_0 : Int) := by rw [← e1]; simp only [s_FindAuthority_1, h1, h2, cond_true, cond_false]
      simp
      refine retRd (rv := [.tmp 4]) rfl ?_
      have f1 : s_FindAuthority a0 a1 = (↑v1_0 : Int) := by simp only [s_FindAuthority, x1, cond_true, cond_false]
      simp [f1]
    · have h2 : ((nth a0 v1_0).Id == a1) = false := by simpa using q2
      try simp at q2
      simp
      refine nxtI ⟨(p1, (v1_0 + 1)), ?_, ?_⟩ (by simp) (wk_keep (by simp [w1]))
      · rw [← e1]; simp only [s_FindAuthority_1, h1, h2, cond_true, cond_false]
      · first | omega | (simp at *; omega)
  · have h1 : (decide ((↑v1_0 : Int) < (↑a0.length : Int))) = false := by simpa using q1
    try simp at q1
    have x2 : s_FindAuthority_1 a0 a1 (a0.length + 1) 0 = .inr () := by rw [← e1]; simp only [s_FindAuthority_1, h1, cond_true, cond_false]
    simp
    refine retRd (rv := [.tmp 4]) rfl ?_
    have f2 : s_FindAuthority a0 a1 = (-1) := by simp only [s_FindAuthority, x2, cond_true, cond_false]
    simp [f2]
theorem s_StampKey_ok (a0 : List TAuthority) (a1 : TStamp) : SoundAt Try.prog 151 false [[.sl 3 (a0.map TAuthority.row)], a1.row] [[.int .i64 (s_StampKey a0 a1)]] := by
  refine sound_of Try.func151 rfl (by kernel_rfl) ?_
  simp [Try.ntmps151]
  refine callRd rfl rfl rfl rfl (s_FindAuthority_ok a0 a1.Authority) (by simp) (by simp) (by simp) ?_
  simp
  refine condB (fun k1 q1 => ?_) (fun k1 q1 => ?_)
  · have h1 : (decide ((s_FindAuthority a0 a1.Authority) < 0)) = true := by simpa using q1
    try simp at q1
    simp
    refine retRd (rv := [.tmp 4]) rfl ?_
    have f1 : s_StampKey a0 a1 = 0 := by simp only [s_StampKey, h1, cond_true, cond_false]
    simp [f1]
  · have h1 : (decide ((s_FindAuthority a0 a1.Authority) < 0)) = false := by simpa using q1
    try simp at q1
    have i1 : (s_FindAuthority a0 a1.Authority).toNat < a0.length := by have := s_FindAuthority_lt a0 a1.Authority; omega
    simp [i1, rowAt_map]
    repeat (refine ⟨by intros; omega, ?_⟩)
    refine retRd (rv := [.tmp 4]) rfl ?_
    have f2 : s_StampKey a0 a1 = (nth a0 (s_FindAuthority a0 a1.Authority).toNat).Key := by simp only [s_StampKey, h1, cond_true, cond_false]
    simp [f2]
theorem s_Min_ok (a0 : Int) (a1 : Int) : SoundAt Try.prog 118 false [[.int .i64 a0], [.int .i64 a1]] [[.int .i64 (s_Min a0 a1)]] := by
  refine sound_of Try.func118 rfl (by kernel_rfl) ?_
  simp [Try.ntmps118]
  refine condB (fun k1 q1 => ?_) (fun k1 q1 => ?_)
  · have h1 : (decide (a1 < a0)) = true := by simpa using q1
    try simp at q1
    simp
    refine retRd (rv := [.tmp 4]) rfl ?_
    have f1 : s_Min a0 a1 = a1 := by simp only [s_Min, h1, cond_true, cond_false]
    simp [f1]
  · have h1 : (decide (a1 < a0)) = false := by simpa using q1
    try simp at q1
    simp
    refine retRd (rv := [.tmp 4]) rfl ?_
    have f2 : s_Min a0 a1 = a0 := by simp only [s_Min, h1, cond_true, cond_false]
    simp [f2]
theorem s_RenewalBreak_ok (a0 : List TKey) (a1 : List TAuthority) (a2 : List TMethod) (a3 : TRenewal) : SoundAt Try.prog 109 false [[.sl 5 (a0.map TKey.row)], [.sl 3 (a1.map TAuthority.row)], [.sl 4 (a2.map TMethod.row)], a3.row] [[.int .i64 (s_RenewalBreak a0 a1 a2 a3)]] := by
  refine sound_of Try.func109 rfl (by kernel_rfl) ?_
  simp [Try.ntmps109]
  refine callRd rfl rfl rfl rfl (s_BreakOf_ok a2 a3.Method) (by simp) (by simp) (by simp) ?_
  simp
  refine okL fun k1 => ?_
  refine loopI (ι := { s : Nat × Int × Nat // s_RenewalBreak_1 a0 a1 a2 a3 s.1 s.2.1 s.2.2 = s_RenewalBreak_1 a0 a1 a2 a3 (a3.Stamps.length + 1) (s_BreakOf a2 a3.Method) 0 ∧ (1 ≤ s.1 ∧ a3.Stamps.length < s.1 + s.2.2) }) (fun s => stOf 44 [(0, .one (.d (.sl 5 (a0.map TKey.row))), []), (1, .one (.d (.sl 3 (a1.map TAuthority.row))), []), (2, .one (.d (.sl 4 (a2.map TMethod.row))), []), (7, .one (.bptr 7 0), [.box [.d (.int .i64 a3.Count), .d (.int .i64 a3.Method), .d (.int .i64 a3.Root), .d (.sl 2 (a3.Path.map TStep.row)), .d (.sl 5 (a3.Stamps.map TStamp.row))]]), (9, .one (.d (.int .i64 s.1.2.1)), []), (10, .one (.d (.int .i64 (↑s.1.2.2 : Int))), [])]) (fun s => s.1.1) ⟨((a3.Stamps.length + 1), (s_BreakOf a2 a3.Method), 0), rfl, by first | omega | (dsimp only; omega) | simp⟩ (wk_keep (by simp)) ?_
  rintro ⟨⟨n1, v1_0, v1_1⟩, e1, j1⟩
  try dsimp only at e1 j1
  obtain ⟨p1, rfl⟩ : ∃ p, n1 = p + 1 := ⟨n1 - 1, by omega⟩
  simp
  refine condB (fun k2 q1 => ?_) (fun k2 q1 => ?_)
  · have h1 : (decide ((↑v1_1 : Int) < (↑a3.Stamps.length : Int))) = true := by simpa using q1
    have i1 : v1_1 < a3.Stamps.length := by simpa using q1
    have m2 : a3.Stamps.length ≤ 9223372036854775807 := by simpa using k2 18 _ rfl
    have w1 : IntKind.i64.wrap ((v1_1 : Int) + 1) = (v1_1 : Int) + 1 := wrap_of (by omega) (by omega)
    try simp at q1
    simp [i1, rowAt_map]
    repeat (refine ⟨by intros; omega, ?_⟩)
    refine callRd rfl rfl rfl rfl (s_StampKey_ok a1 (nth a3.Stamps v1_1)) (by simp) (by simp) (by simp) ?_
    simp
    refine callRd rfl rfl rfl rfl (s_FindKey_ok a0 (s_StampKey a1 (nth a3.Stamps v1_1))) (by simp) (by simp) (by simp) ?_
    simp
    refine condB (fun k3 q2 => ?_) (fun k3 q2 => ?_)
    · have h2 : (decide ((s_FindKey a0 (s_StampKey a1 (nth a3.Stamps v1_1))) < 0)) = true := by simpa using q2
      try simp at q2
      have x1 : s_RenewalBreak_1 a0 a1 a2 a3 (a3.Stamps.length + 1) (s_BreakOf a2 a3.Method) 0 = .inl 0 := by rw [← e1]; simp only [s_RenewalBreak_1, h1, h2, cond_true, cond_false]
      simp
      refine retRd (rv := [.tmp 8]) rfl ?_
      have f1 : s_RenewalBreak a0 a1 a2 a3 = 0 := by simp only [s_RenewalBreak, x1, cond_true, cond_false]
      simp [f1]
    · have h2 : (decide ((s_FindKey a0 (s_StampKey a1 (nth a3.Stamps v1_1))) < 0)) = false := by simpa using q2
      try simp at q2
      have i2 : (s_FindKey a0 (s_StampKey a1 (nth a3.Stamps v1_1))).toNat < a0.length := by have := s_FindKey_lt a0 (s_StampKey a1 (nth a3.Stamps v1_1)); omega
      simp [i2, rowAt_map]
      repeat (refine ⟨by intros; omega, ?_⟩)
      refine callRd rfl rfl rfl rfl (s_BreakOf_ok a2 (nth a0 (s_FindKey a0 (s_StampKey a1 (nth a3.Stamps v1_1))).toNat).Method) (by simp) (by simp) (by simp) ?_
      simp
      refine callRd rfl rfl rfl rfl (s_Min_ok v1_0 (s_BreakOf a2 (nth a0 (s_FindKey a0 (s_StampKey a1 (nth a3.Stamps v1_1))).toNat).Method)) (by simp) (by simp) (by simp) ?_
      simp
      refine nxtI ⟨(p1, (s_Min v1_0 (s_BreakOf a2 (nth a0 (s_FindKey a0 (s_StampKey a1 (nth a3.Stamps v1_1))).toNat).Method)), (v1_1 + 1)), ?_, ?_⟩ (by simp) (wk_keep (by simp [w1]))
      · rw [← e1]; simp only [s_RenewalBreak_1, h1, h2, cond_true, cond_false]
      · first | omega | (simp at *; omega)
  · have h1 : (decide ((↑v1_1 : Int) < (↑a3.Stamps.length : Int))) = false := by simpa using q1
    try simp at q1
    have x2 : s_RenewalBreak_1 a0 a1 a2 a3 (a3.Stamps.length + 1) (s_BreakOf a2 a3.Method) 0 = .inr v1_0 := by rw [← e1]; simp only [s_RenewalBreak_1, h1, cond_true, cond_false]
    simp
    refine retRd (rv := [.tmp 8]) rfl ?_
    have f2 : s_RenewalBreak a0 a1 a2 a3 = v1_0 := by simp only [s_RenewalBreak, x2, cond_true, cond_false]
    simp [f2]
theorem s_IsSafeNow_ok (a0 : TFrame) (a1 : TItem) : SoundAt Try.prog 43 false [a0.row, a1.row] [[.bool (s_IsSafeNow a0 a1)]] := by
  refine sound_of Try.func43 rfl (by kernel_rfl) ?_
  simp [Try.ntmps43]
  refine okD fun k1 => ?_
  refine drawI mixed (by kernel_rfl) (by kernel_rfl) ?_
  simp
  refine guardI rfl rfl rfl rfl rfl (by simp) (fun g1 => ?_) (fun g1 => ?_)
  · have g1x := g1; try simp only [beq_true, beq_false, Bool.not_eq_true', Bool.not_eq_false', Bool.true_and, Bool.and_true] at g1x
    try simp at g1
    have i1 : (a1.Strand.Chain.length - 1) < a1.Strand.Chain.length := by first | omega | ((have hz := List.length_pos_iff.mpr; omega))
    have m1 : a1.Strand.Chain.length ≤ 9223372036854775807 := by simpa using k1 8 _ rfl
    have w1 : IntKind.i64.wrap ((a1.Strand.Chain.length : Int) - 1) = (a1.Strand.Chain.length : Int) - 1 := wrap_of (by omega) (by omega)
    simp [i1, rowAt_map, w1, toNat_pred, g1x]
    repeat (refine ⟨by intros; omega, ?_⟩)
    refine callG rfl rfl rfl rfl rfl rfl (fun _ => (s_RenewalBreak_ok a0.Keys a0.Authorities a0.Methods (nth a1.Strand.Chain (a1.Strand.Chain.length - 1)))) (by simp) (by simp) (by simp) (by simp) ?_
    simp [g1x]
    refine retRd (rv := [.tmp 4]) rfl ?_
    have f1 : s_IsSafeNow a0 a1 = ((decide ((↑a1.Strand.Chain.length : Int) > 0)) && (decide (a0.Now < (s_RenewalBreak a0.Keys a0.Authorities a0.Methods (nth a1.Strand.Chain (a1.Strand.Chain.length - 1)))))) := by simp only [s_IsSafeNow, cond_true, cond_false]
    simp [f1, g1x]
  · have g1x := g1; try simp only [beq_true, beq_false, Bool.not_eq_true', Bool.not_eq_false', Bool.true_and, Bool.and_true] at g1x
    simp [g1x]
    refine skipG rfl rfl rfl rfl (by simp) (by simp [g1x]) ?_
    simp [g1x]
    refine retRd (rv := [.tmp 4]) rfl ?_
    have f2 : s_IsSafeNow a0 a1 = ((decide ((↑a1.Strand.Chain.length : Int) > 0)) && (decide (a0.Now < (s_RenewalBreak a0.Keys a0.Authorities a0.Methods (nth a1.Strand.Chain (a1.Strand.Chain.length - 1)))))) := by simp only [s_IsSafeNow, cond_true, cond_false]
    simp [f2, g1x]
theorem i_lastRenewal_ok (a0 : TItem) : SoundAt Try.prog 112 false [a0.row] [(i_lastRenewal a0).1.row, [.bool (i_lastRenewal a0).2]] := by
  refine sound_of Try.func112 rfl (by kernel_rfl) ?_
  simp [Try.ntmps112]
  refine condB (fun k1 q1 => ?_) (fun k1 q1 => ?_)
  · have h1 : ((↑a0.Strand.Chain.length : Int) == 0) = true := by simpa using q1
    try simp at q1
    simp
    refine retRd (rv := [.cell 2 160, .tmp 3]) rfl ?_
    have f1 : i_lastRenewal a0 = ((TRenewal.mk 0 0 0 ([] : List TStep) ([] : List TStamp)), false) := by simp only [i_lastRenewal, h1, cond_true, cond_false]
    simp [f1]
  · have h1 : ((↑a0.Strand.Chain.length : Int) == 0) = false := by simpa using q1
    try simp at q1
    have i1 : (a0.Strand.Chain.length - 1) < a0.Strand.Chain.length := by first | omega | (try simp only [decide_eq_true_eq, decide_eq_false_iff_not, beq_iff_eq, beq_eq_false_iff_ne, bne_iff_ne, ne_eq, Bool.or_eq_false_iff, Bool.not_eq_true', Bool.not_eq_false'] at h1; omega)
    have m1 : a0.Strand.Chain.length ≤ 9223372036854775807 := by simpa using k1 7 _ rfl
    have w1 : IntKind.i64.wrap ((a0.Strand.Chain.length : Int) - 1) = (a0.Strand.Chain.length : Int) - 1 := wrap_of (by omega) (by omega)
    simp [i1, rowAt_map, w1, toNat_pred]
    repeat (refine ⟨by intros; omega, ?_⟩)
    refine retRd (rv := [.cell 2 160, .tmp 3]) rfl ?_
    have f2 : i_lastRenewal a0 = ((nth a0.Strand.Chain (a0.Strand.Chain.length - 1)), true) := by simp only [i_lastRenewal, h1, cond_true, cond_false]
    simp [f2]
theorem i_FindAuthority_ok (a0 : List TAuthority) (a1 : Int) : SoundAt Try.prog 171 false [[.sl 3 (a0.map TAuthority.row)], [.int .i64 a1]] [[.int .i64 (i_FindAuthority a0 a1)]] := by
  refine sound_of Try.func171 rfl (by kernel_rfl) ?_
  simp [Try.ntmps171]
  refine okL fun k1 => ?_
  refine loopI (ι := { s : Nat × Nat // i_FindAuthority_1 a0 a1 s.1 s.2 = i_FindAuthority_1 a0 a1 (a0.length + 1) 0 ∧ (1 ≤ s.1 ∧ a0.length < s.1 + s.2) }) (fun s => stOf 20 [(1, .one (.d (.int .i64 a1)), []), (7, .one (.d (.sl 3 (a0.map TAuthority.row))), []), (8, .one (.d (.int .i64 (↑a0.length : Int))), []), (9, .one (.d (.int .i64 (↑s.1.2 : Int))), [])]) (fun s => s.1.1) ⟨((a0.length + 1), 0), rfl, by first | omega | (dsimp only; omega) | simp⟩ (wk_keep (by simp)) ?_
  rintro ⟨⟨n1, v1_0⟩, e1, j1⟩
  try dsimp only at e1 j1
  obtain ⟨p1, rfl⟩ : ∃ p, n1 = p + 1 := ⟨n1 - 1, by omega⟩
  simp
  refine condB (fun k2 q1 => ?_) (fun k2 q1 => ?_)
  · have h1 : (decide ((↑v1_0 : Int) < (↑a0.length : Int))) = true := by simpa using q1
    have i1 : v1_0 < a0.length := by simpa using q1
    have m2 : a0.length ≤ 9223372036854775807 := by simpa using k2 7 _ rfl
    have w1 : IntKind.i64.wrap ((v1_0 : Int) + 1) = (v1_0 : Int) + 1 := wrap_of (by omega) (by omega)
    try simp at q1
    simp [i1, rowAt_map]
    repeat (refine ⟨by intros; omega, ?_⟩)
    refine condB (fun k3 q2 => ?_) (fun k3 q2 => ?_)
    · have h2 : ((nth a0 v1_0).Id == a1) = true := by simpa using q2
      try simp at q2
      have x1 : i_FindAuthority_1 a0 a1 (a0.length + 1) 0 = .inl (↑v1_0 : Int) := by rw [← e1]; simp only [i_FindAuthority_1, h1, h2, cond_true, cond_false]
      simp
      refine retRd (rv := [.tmp 4]) rfl ?_
      have f1 : i_FindAuthority a0 a1 = (↑v1_0 : Int) := by simp only [i_FindAuthority, x1, cond_true, cond_false]
      simp [f1]
    · have h2 : ((nth a0 v1_0).Id == a1) = false := by simpa using q2
      try simp at q2
      simp
      refine nxtI ⟨(p1, (v1_0 + 1)), ?_, ?_⟩ (by simp) (wk_keep (by simp [w1]))
      · rw [← e1]; simp only [i_FindAuthority_1, h1, h2, cond_true, cond_false]
      · first | omega | (simp at *; omega)
  · have h1 : (decide ((↑v1_0 : Int) < (↑a0.length : Int))) = false := by simpa using q1
    try simp at q1
    have x2 : i_FindAuthority_1 a0 a1 (a0.length + 1) 0 = .inr () := by rw [← e1]; simp only [i_FindAuthority_1, h1, cond_true, cond_false]
    simp
    refine retRd (rv := [.tmp 4]) rfl ?_
    have f2 : i_FindAuthority a0 a1 = (-1) := by simp only [i_FindAuthority, x2, cond_true, cond_false]
    simp [f2]
theorem i_StampKey_ok (a0 : List TAuthority) (a1 : TStamp) : SoundAt Try.prog 152 false [[.sl 3 (a0.map TAuthority.row)], a1.row] [[.int .i64 (i_StampKey a0 a1)]] := by
  refine sound_of Try.func152 rfl (by kernel_rfl) ?_
  simp [Try.ntmps152]
  refine callRd rfl rfl rfl rfl (i_FindAuthority_ok a0 a1.Authority) (by simp) (by simp) (by simp) ?_
  simp
  refine condB (fun k1 q1 => ?_) (fun k1 q1 => ?_)
  · have h1 : (decide ((i_FindAuthority a0 a1.Authority) ≥ 0)) = true := by simpa using q1
    try simp at q1
    have i1 : (i_FindAuthority a0 a1.Authority).toNat < a0.length := by have := i_FindAuthority_lt a0 a1.Authority; omega
    simp [i1, rowAt_map]
    repeat (refine ⟨by intros; omega, ?_⟩)
    refine retRd (rv := [.tmp 4]) rfl ?_
    have f1 : i_StampKey a0 a1 = (nth a0 (i_FindAuthority a0 a1.Authority).toNat).Key := by simp only [i_StampKey, h1, cond_true, cond_false]
    simp [f1]
  · have h1 : (decide ((i_FindAuthority a0 a1.Authority) ≥ 0)) = false := by simpa using q1
    try simp at q1
    simp
    refine retRd (rv := [.tmp 4]) rfl ?_
    have f2 : i_StampKey a0 a1 = 0 := by simp only [i_StampKey, h1, cond_true, cond_false]
    simp [f2]
theorem i_RenewalBreak_ok (a0 : List TKey) (a1 : List TAuthority) (a2 : List TMethod) (a3 : TRenewal) : SoundAt Try.prog 113 false [[.sl 5 (a0.map TKey.row)], [.sl 3 (a1.map TAuthority.row)], [.sl 4 (a2.map TMethod.row)], a3.row] [[.int .i64 (i_RenewalBreak a0 a1 a2 a3)]] := by
  refine sound_of Try.func113 rfl (by kernel_rfl) ?_
  simp [Try.ntmps113]
  refine callRd rfl rfl rfl rfl (i_BreakOf_ok a2 a3.Method) (by simp) (by simp) (by simp) ?_
  simp
  refine okL fun k1 => ?_
  refine loopI (ι := { s : Nat × Int × Nat // i_RenewalBreak_1 a0 a1 a2 a3 s.1 s.2.1 s.2.2 = i_RenewalBreak_1 a0 a1 a2 a3 (a3.Stamps.length + 1) (i_BreakOf a2 a3.Method) 0 ∧ (1 ≤ s.1 ∧ a3.Stamps.length < s.1 + s.2.2) }) (fun s => stOf 42 [(0, .one (.d (.sl 5 (a0.map TKey.row))), []), (1, .one (.d (.sl 3 (a1.map TAuthority.row))), []), (2, .one (.d (.sl 4 (a2.map TMethod.row))), []), (9, .one (.d (.int .i64 s.1.2.1)), []), (18, .one (.d (.sl 5 (a3.Stamps.map TStamp.row))), []), (19, .one (.d (.int .i64 (↑a3.Stamps.length : Int))), []), (20, .one (.d (.int .i64 (↑s.1.2.2 : Int))), [])]) (fun s => s.1.1) ⟨((a3.Stamps.length + 1), (i_BreakOf a2 a3.Method), 0), rfl, by first | omega | (dsimp only; omega) | simp⟩ (wk_keep (by simp)) ?_
  rintro ⟨⟨n1, v1_0, v1_1⟩, e1, j1⟩
  try dsimp only at e1 j1
  obtain ⟨p1, rfl⟩ : ∃ p, n1 = p + 1 := ⟨n1 - 1, by omega⟩
  simp
  refine condB (fun k2 q1 => ?_) (fun k2 q1 => ?_)
  · have h1 : (decide ((↑v1_1 : Int) < (↑a3.Stamps.length : Int))) = true := by simpa using q1
    have i1 : v1_1 < a3.Stamps.length := by simpa using q1
    have m2 : a3.Stamps.length ≤ 9223372036854775807 := by simpa using k2 18 _ rfl
    have w1 : IntKind.i64.wrap ((v1_1 : Int) + 1) = (v1_1 : Int) + 1 := wrap_of (by omega) (by omega)
    try simp at q1
    simp [i1, rowAt_map]
    repeat (refine ⟨by intros; omega, ?_⟩)
    refine callRd rfl rfl rfl rfl (i_StampKey_ok a1 (nth a3.Stamps v1_1)) (by simp) (by simp) (by simp) ?_
    simp
    refine callRd rfl rfl rfl rfl (i_FindKey_ok a0 (i_StampKey a1 (nth a3.Stamps v1_1))) (by simp) (by simp) (by simp) ?_
    simp
    refine condB (fun k3 q2 => ?_) (fun k3 q2 => ?_)
    · have h2 : (decide ((i_FindKey a0 (i_StampKey a1 (nth a3.Stamps v1_1))) < 0)) = true := by simpa using q2
      try simp at q2
      have x1 : i_RenewalBreak_1 a0 a1 a2 a3 (a3.Stamps.length + 1) (i_BreakOf a2 a3.Method) 0 = .inl 0 := by rw [← e1]; simp only [i_RenewalBreak_1, h1, h2, cond_true, cond_false]
      simp
      refine retRd (rv := [.tmp 8]) rfl ?_
      have f1 : i_RenewalBreak a0 a1 a2 a3 = 0 := by simp only [i_RenewalBreak, x1, cond_true, cond_false]
      simp [f1]
    · have h2 : (decide ((i_FindKey a0 (i_StampKey a1 (nth a3.Stamps v1_1))) < 0)) = false := by simpa using q2
      try simp at q2
      have i2 : (i_FindKey a0 (i_StampKey a1 (nth a3.Stamps v1_1))).toNat < a0.length := by have := i_FindKey_lt a0 (i_StampKey a1 (nth a3.Stamps v1_1)); omega
      simp [i2, rowAt_map]
      repeat (refine ⟨by intros; omega, ?_⟩)
      refine callRd rfl rfl rfl rfl (i_BreakOf_ok a2 (nth a0 (i_FindKey a0 (i_StampKey a1 (nth a3.Stamps v1_1))).toNat).Method) (by simp) (by simp) (by simp) ?_
      simp
      refine nxtI ⟨(p1, (if (i_BreakOf a2 (nth a0 (i_FindKey a0 (i_StampKey a1 (nth a3.Stamps v1_1))).toNat).Method) < v1_0 then (i_BreakOf a2 (nth a0 (i_FindKey a0 (i_StampKey a1 (nth a3.Stamps v1_1))).toNat).Method) else v1_0), (v1_1 + 1)), ?_, ?_⟩ (by simp) (wk_keep (by simp [w1]))
      · rw [← e1]; simp only [i_RenewalBreak_1, h1, h2, cond_true, cond_false]
      · first | omega | (simp at *; omega)
  · have h1 : (decide ((↑v1_1 : Int) < (↑a3.Stamps.length : Int))) = false := by simpa using q1
    try simp at q1
    have x2 : i_RenewalBreak_1 a0 a1 a2 a3 (a3.Stamps.length + 1) (i_BreakOf a2 a3.Method) 0 = .inr v1_0 := by rw [← e1]; simp only [i_RenewalBreak_1, h1, cond_true, cond_false]
    simp
    refine retRd (rv := [.tmp 8]) rfl ?_
    have f2 : i_RenewalBreak a0 a1 a2 a3 = v1_0 := by simp only [i_RenewalBreak, x2, cond_true, cond_false]
    simp [f2]
theorem i_IsSafeNow_ok (a0 : TFrame) (a1 : TItem) : SoundAt Try.prog 45 false [a0.row, a1.row] [[.bool (i_IsSafeNow a0 a1)]] := by
  refine sound_of Try.func45 rfl (by kernel_rfl) ?_
  simp [Try.ntmps45]
  refine callRd rfl rfl rfl rfl (i_lastRenewal_ok a1) (by simp) (by simp) (by simp) ?_
  simp
  refine okD fun k1 => ?_
  refine drawI mixed (by kernel_rfl) (by kernel_rfl) ?_
  simp
  refine callG rfl rfl rfl rfl rfl rfl (fun _ => (i_RenewalBreak_ok a0.Keys a0.Authorities a0.Methods (i_lastRenewal a1).1)) (by simp) (by simp) (by simp) (by simp) ?_
  simp
  refine retRd (rv := [.tmp 4]) rfl ?_
  have f1 : i_IsSafeNow a0 a1 = ((i_lastRenewal a1).2 && (decide (a0.Now < (i_RenewalBreak a0.Keys a0.Authorities a0.Methods (i_lastRenewal a1).1)))) := by simp only [i_IsSafeNow, cond_true, cond_false]
  simp [f1]
theorem l_FnExactIsSafeNow_ok (a0 : TFrame) (a1 : TItem) (t0 : Sm maxLen a0) (t1 : Sm maxLen a1) : SoundAt Try.prog 9 false [a0.row, a1.row] [[.bool (l_FnExactIsSafeNow a0 a1)]] := by
  refine sound_of Try.func9 rfl (by kernel_rfl) ?_
  simp [Try.ntmps9]
  refine callRd rfl rfl rfl rfl (l_szFrame_ok a0 1048576) (by simp) (by simp) (by simp) ?_
  simp
  refine condB (fun k1 q1 => ?_) (fun k1 q1 => ?_)
  · have h1 : (decide ((l_szFrame a0 1048576) < 0)) = true := by simpa using q1
    try simp at q1
    simp
    refine retRd (rv := [.tmp 4]) rfl ?_
    have f1 : l_FnExactIsSafeNow a0 a1 = true := by simp only [l_FnExactIsSafeNow, h1, cond_true, cond_false]
    simp [f1]
  · have h1 : (decide ((l_szFrame a0 1048576) < 0)) = false := by simpa using q1
    try simp at q1
    obtain ⟨u0, y0⟩ := l_szFrame_sm a0 1048576 t0 (by omega) (by omega) (by simpa using h1)
    simp
    refine callRd rfl rfl rfl rfl (l_szItem_ok a1 (l_szFrame a0 1048576)) (by simp) (by simp) (by simp) ?_
    simp
    refine condB (fun k2 q2 => ?_) (fun k2 q2 => ?_)
    · have h2 : (decide ((l_szItem a1 (l_szFrame a0 1048576)) < 0)) = true := by simpa using q2
      try simp at q2
      simp
      refine retRd (rv := [.tmp 4]) rfl ?_
      have f2 : l_FnExactIsSafeNow a0 a1 = true := by simp only [l_FnExactIsSafeNow, h1, h2, cond_true, cond_false]
      simp [f2]
    · have h2 : (decide ((l_szItem a1 (l_szFrame a0 1048576)) < 0)) = false := by simpa using q2
      try simp at q2
      obtain ⟨u1, y1⟩ := l_szItem_sm a1 (l_szFrame a0 1048576) t1 (by omega) (by omega) (by simpa using h2)
      simp
      refine okD fun k3 => ?_
      refine drawI mixed (by kernel_rfl) (by kernel_rfl) ?_
      simp
      refine callRd rfl rfl rfl rfl (l_toFrame_ok a0 (sm_mono (n := 1048576) (by decide) (by simp [u0, u1, l_toArchive_id, l_toArchiveS_id, l_toAuthority_id, l_toAuthorityS_id, l_toBoolS_id, l_toCert_id, l_toCertS_id, l_toDocument_id, l_toEvent_id, l_toEventS_id, l_toFrame_id, l_toIntS_id, l_toIntSS_id, l_toItem_id, l_toItemS_id, l_toKey_id, l_toKeyS_id, l_toMethod_id, l_toMethodS_id, l_toPiece_id, l_toPieceS_id, l_toRedacted_id, l_toRenewal_id, l_toRenewalS_id, l_toSignature_id, l_toStamp_id, l_toStampS_id, l_toStep_id, l_toStepS_id, l_toStrand_id, l_toStringS_id, l_toWorld_id]))) (by simp) (by simp) (by simp) ?_
      simp
      refine callRd rfl rfl rfl rfl (l_toItem_ok a1 (sm_mono (n := 1048576) (by decide) (by simp [u0, u1, l_toArchive_id, l_toArchiveS_id, l_toAuthority_id, l_toAuthorityS_id, l_toBoolS_id, l_toCert_id, l_toCertS_id, l_toDocument_id, l_toEvent_id, l_toEventS_id, l_toFrame_id, l_toIntS_id, l_toIntSS_id, l_toItem_id, l_toItemS_id, l_toKey_id, l_toKeyS_id, l_toMethod_id, l_toMethodS_id, l_toPiece_id, l_toPieceS_id, l_toRedacted_id, l_toRenewal_id, l_toRenewalS_id, l_toSignature_id, l_toStamp_id, l_toStampS_id, l_toStep_id, l_toStepS_id, l_toStrand_id, l_toStringS_id, l_toWorld_id]))) (by simp) (by simp) (by simp) ?_
      simp
      refine callRd rfl rfl rfl rfl (s_IsSafeNow_ok (l_toFrame a0) (l_toItem a1)) (by simp) (by simp) (by simp) ?_
      simp
      refine callRd rfl rfl rfl rfl (l_toFrame_ok a0 (sm_mono (n := 1048576) (by decide) (by simp [u0, u1, l_toArchive_id, l_toArchiveS_id, l_toAuthority_id, l_toAuthorityS_id, l_toBoolS_id, l_toCert_id, l_toCertS_id, l_toDocument_id, l_toEvent_id, l_toEventS_id, l_toFrame_id, l_toIntS_id, l_toIntSS_id, l_toItem_id, l_toItemS_id, l_toKey_id, l_toKeyS_id, l_toMethod_id, l_toMethodS_id, l_toPiece_id, l_toPieceS_id, l_toRedacted_id, l_toRenewal_id, l_toRenewalS_id, l_toSignature_id, l_toStamp_id, l_toStampS_id, l_toStep_id, l_toStepS_id, l_toStrand_id, l_toStringS_id, l_toWorld_id]))) (by simp) (by simp) (by simp) ?_
      simp
      refine callRd rfl rfl rfl rfl (l_toItem_ok a1 (sm_mono (n := 1048576) (by decide) (by simp [u0, u1, l_toArchive_id, l_toArchiveS_id, l_toAuthority_id, l_toAuthorityS_id, l_toBoolS_id, l_toCert_id, l_toCertS_id, l_toDocument_id, l_toEvent_id, l_toEventS_id, l_toFrame_id, l_toIntS_id, l_toIntSS_id, l_toItem_id, l_toItemS_id, l_toKey_id, l_toKeyS_id, l_toMethod_id, l_toMethodS_id, l_toPiece_id, l_toPieceS_id, l_toRedacted_id, l_toRenewal_id, l_toRenewalS_id, l_toSignature_id, l_toStamp_id, l_toStampS_id, l_toStep_id, l_toStepS_id, l_toStrand_id, l_toStringS_id, l_toWorld_id]))) (by simp) (by simp) (by simp) ?_
      simp
      refine callRd rfl rfl rfl rfl (i_IsSafeNow_ok (l_toFrame a0) (l_toItem a1)) (by simp) (by simp) (by simp) ?_
      simp
      refine condB (fun k4 q3 => ?_) (fun k4 q3 => ?_)
      · have h3 : (!((i_IsSafeNow (l_toFrame a0) (l_toItem a1)) == (s_IsSafeNow (l_toFrame a0) (l_toItem a1)))) = true := by simpa using q3
        try simp at q3
        simp
        refine retRd (rv := [.tmp 4]) rfl ?_
        have f3 : l_FnExactIsSafeNow a0 a1 = false := by simp only [l_FnExactIsSafeNow, h1, h2, h3, cond_true, cond_false]
        simp [f3]
      · have h3 : (!((i_IsSafeNow (l_toFrame a0) (l_toItem a1)) == (s_IsSafeNow (l_toFrame a0) (l_toItem a1)))) = false := by simpa using q3
        try simp at q3
        simp
        refine okD fun k5 => ?_
        refine drawI mixed (by kernel_rfl) (by kernel_rfl) ?_
        simp
        refine callRd rfl rfl rfl rfl (l_toFrame_ok a0 (sm_mono (n := 1048576) (by decide) (by simp [u0, u1, l_toArchive_id, l_toArchiveS_id, l_toAuthority_id, l_toAuthorityS_id, l_toBoolS_id, l_toCert_id, l_toCertS_id, l_toDocument_id, l_toEvent_id, l_toEventS_id, l_toFrame_id, l_toIntS_id, l_toIntSS_id, l_toItem_id, l_toItemS_id, l_toKey_id, l_toKeyS_id, l_toMethod_id, l_toMethodS_id, l_toPiece_id, l_toPieceS_id, l_toRedacted_id, l_toRenewal_id, l_toRenewalS_id, l_toSignature_id, l_toStamp_id, l_toStampS_id, l_toStep_id, l_toStepS_id, l_toStrand_id, l_toStringS_id, l_toWorld_id]))) (by simp) (by simp) (by simp) ?_
        simp
        refine callRd rfl rfl rfl rfl (l_eqFrame_ok (l_toFrame a0) (l_toFrame a0)) (by simp) (by simp) (by simp) ?_
        simp
        refine condB (fun k6 q4 => ?_) (fun k6 q4 => ?_)
        · have h4 : (!(l_eqFrame (l_toFrame a0) (l_toFrame a0))) = true := by simpa using q4
          try simp at q4
          simp
          refine retRd (rv := [.tmp 4]) rfl ?_
          have f4 : l_FnExactIsSafeNow a0 a1 = false := by simp only [l_FnExactIsSafeNow, h1, h2, h3, h4, cond_true, cond_false]
          simp [f4]
        · have h4 : (!(l_eqFrame (l_toFrame a0) (l_toFrame a0))) = false := by simpa using q4
          try simp at q4
          simp
          refine okD fun k7 => ?_
          refine drawI mixed (by kernel_rfl) (by kernel_rfl) ?_
          simp
          refine callRd rfl rfl rfl rfl (l_toItem_ok a1 (sm_mono (n := 1048576) (by decide) (by simp [u0, u1, l_toArchive_id, l_toArchiveS_id, l_toAuthority_id, l_toAuthorityS_id, l_toBoolS_id, l_toCert_id, l_toCertS_id, l_toDocument_id, l_toEvent_id, l_toEventS_id, l_toFrame_id, l_toIntS_id, l_toIntSS_id, l_toItem_id, l_toItemS_id, l_toKey_id, l_toKeyS_id, l_toMethod_id, l_toMethodS_id, l_toPiece_id, l_toPieceS_id, l_toRedacted_id, l_toRenewal_id, l_toRenewalS_id, l_toSignature_id, l_toStamp_id, l_toStampS_id, l_toStep_id, l_toStepS_id, l_toStrand_id, l_toStringS_id, l_toWorld_id]))) (by simp) (by simp) (by simp) ?_
          simp
          refine callRd rfl rfl rfl rfl (l_eqItem_ok (l_toItem a1) (l_toItem a1)) (by simp) (by simp) (by simp) ?_
          simp
          refine condB (fun k8 q5 => ?_) (fun k8 q5 => ?_)
          · have h5 : (!(l_eqItem (l_toItem a1) (l_toItem a1))) = true := by simpa using q5
            try simp at q5
            simp
            refine retRd (rv := [.tmp 4]) rfl ?_
            have f5 : l_FnExactIsSafeNow a0 a1 = false := by simp only [l_FnExactIsSafeNow, h1, h2, h3, h4, h5, cond_true, cond_false]
            simp [f5]
          · have h5 : (!(l_eqItem (l_toItem a1) (l_toItem a1))) = false := by simpa using q5
            try simp at q5
            simp
            refine retRd (rv := [.tmp 4]) rfl ?_
            have f6 : l_FnExactIsSafeNow a0 a1 = true := by simp only [l_FnExactIsSafeNow, h1, h2, h3, h4, h5, cond_true, cond_false]
            simp [f6]
theorem s_l32Ends_ok (a0 : List TMethod) (a1 : Int) : SoundAt Try.prog 172 false [[.sl 4 (a0.map TMethod.row)], [.int .i64 a1]] [[.int .i64 (s_l32Ends a0 a1)]] := by
  refine sound_of Try.func172 rfl (by kernel_rfl) ?_
  simp [Try.ntmps172]
  refine callRd rfl rfl rfl rfl (s_FindMethod_ok a0 a1) (by simp) (by simp) (by simp) ?_
  simp
  refine condB (fun k1 q1 => ?_) (fun k1 q1 => ?_)
  · have h1 : (decide ((s_FindMethod a0 a1) < 0)) = true := by simpa using q1
    try simp at q1
    simp
    refine retRd (rv := [.tmp 4]) rfl ?_
    have f1 : s_l32Ends a0 a1 = 0 := by simp only [s_l32Ends, h1, cond_true, cond_false]
    simp [f1]
  · have h1 : (decide ((s_FindMethod a0 a1) < 0)) = false := by simpa using q1
    try simp at q1
    have i1 : (s_FindMethod a0 a1).toNat < a0.length := by have := s_FindMethod_lt a0 a1; omega
    simp [i1, rowAt_map]
    repeat (refine ⟨by intros; omega, ?_⟩)
    refine retRd (rv := [.tmp 4]) rfl ?_
    have f2 : s_l32Ends a0 a1 = (nth a0 (s_FindMethod a0 a1).toNat).Ends := by simp only [s_l32Ends, h1, cond_true, cond_false]
    simp [f2]
theorem s_EndsOf_ok (a0 : TFrame) (a1 : TRenewal) : SoundAt Try.prog 153 false [a0.row, a1.row] [[.int .i64 (s_EndsOf a0 a1)]] := by
  refine sound_of Try.func153 rfl (by kernel_rfl) ?_
  simp [Try.ntmps153]
  refine callRd rfl rfl rfl rfl (s_l32Ends_ok a0.Methods a1.Method) (by simp) (by simp) (by simp) ?_
  simp
  refine okL fun k1 => ?_
  refine loopI (ι := { s : Nat × Int × Nat // s_EndsOf_1 a0 a1 s.1 s.2.1 s.2.2 = s_EndsOf_1 a0 a1 (a1.Stamps.length + 1) (s_l32Ends a0.Methods a1.Method) 0 ∧ (1 ≤ s.1 ∧ a1.Stamps.length < s.1 + s.2.2) }) (fun s => stOf 45 [(2, .one (.bptr 2 0), [.box [.d (.sl 5 (a0.Keys.map TKey.row)), .d (.sl 3 (a0.Authorities.map TAuthority.row)), .d (.sl 4 (a0.Methods.map TMethod.row)), .d (.int .i64 a0.Liars), .d (.int .i64 a0.Now)]]), (3, .one (.bptr 3 0), [.box [.d (.int .i64 a1.Count), .d (.int .i64 a1.Method), .d (.int .i64 a1.Root), .d (.sl 2 (a1.Path.map TStep.row)), .d (.sl 5 (a1.Stamps.map TStamp.row))]]), (5, .one (.d (.int .i64 s.1.2.1)), []), (6, .one (.d (.int .i64 (↑s.1.2.2 : Int))), [])]) (fun s => s.1.1) ⟨((a1.Stamps.length + 1), (s_l32Ends a0.Methods a1.Method), 0), rfl, by first | omega | (dsimp only; omega) | simp⟩ (wk_keep (by simp)) ?_
  rintro ⟨⟨n1, v1_0, v1_1⟩, e1, j1⟩
  try dsimp only at e1 j1
  obtain ⟨p1, rfl⟩ : ∃ p, n1 = p + 1 := ⟨n1 - 1, by omega⟩
  simp
  refine condB (fun k2 q1 => ?_) (fun k2 q1 => ?_)
  · have h1 : (decide ((↑v1_1 : Int) < (↑a1.Stamps.length : Int))) = true := by simpa using q1
    have i1 : v1_1 < a1.Stamps.length := by simpa using q1
    have m2 : a1.Stamps.length ≤ 9223372036854775807 := by simpa using k2 15 _ rfl
    have w1 : IntKind.i64.wrap ((v1_1 : Int) + 1) = (v1_1 : Int) + 1 := wrap_of (by omega) (by omega)
    try simp at q1
    simp
    refine okD fun k3 => ?_
    refine drawI mixed (by kernel_rfl) (by kernel_rfl) ?_
    simp [i1, rowAt_map]
    repeat (refine ⟨by intros; omega, ?_⟩)
    refine callRd rfl rfl rfl rfl (s_StampKey_ok a0.Authorities (nth a1.Stamps v1_1)) (by simp) (by simp) (by simp) ?_
    simp
    refine callRd rfl rfl rfl rfl (s_FindKey_ok a0.Keys (s_StampKey a0.Authorities (nth a1.Stamps v1_1))) (by simp) (by simp) (by simp) ?_
    simp
    refine condB (fun k4 q2 => ?_) (fun k4 q2 => ?_)
    · have h2 : (decide ((s_FindKey a0.Keys (s_StampKey a0.Authorities (nth a1.Stamps v1_1))) < 0)) = true := by simpa using q2
      try simp at q2
      have x1 : s_EndsOf_1 a0 a1 (a1.Stamps.length + 1) (s_l32Ends a0.Methods a1.Method) 0 = .inl 0 := by rw [← e1]; simp only [s_EndsOf_1, h1, h2, cond_true, cond_false]
      simp
      refine retRd (rv := [.tmp 4]) rfl ?_
      have f1 : s_EndsOf a0 a1 = 0 := by simp only [s_EndsOf, x1, cond_true, cond_false]
      simp [f1]
    · have h2 : (decide ((s_FindKey a0.Keys (s_StampKey a0.Authorities (nth a1.Stamps v1_1))) < 0)) = false := by simpa using q2
      try simp at q2
      simp
      refine okD fun k5 => ?_
      refine drawI mixed (by kernel_rfl) (by kernel_rfl) ?_
      have i2 : (s_FindKey a0.Keys (s_StampKey a0.Authorities (nth a1.Stamps v1_1))).toNat < a0.Keys.length := by have := s_FindKey_lt a0.Keys (s_StampKey a0.Authorities (nth a1.Stamps v1_1)); omega
      simp [i2, rowAt_map]
      repeat (refine ⟨by intros; omega, ?_⟩)
      refine callRd rfl rfl rfl rfl (s_l32Ends_ok a0.Methods (nth a0.Keys (s_FindKey a0.Keys (s_StampKey a0.Authorities (nth a1.Stamps v1_1))).toNat).Method) (by simp) (by simp) (by simp) ?_
      simp
      refine callRd rfl rfl rfl rfl (s_Min_ok v1_0 (s_l32Ends a0.Methods (nth a0.Keys (s_FindKey a0.Keys (s_StampKey a0.Authorities (nth a1.Stamps v1_1))).toNat).Method)) (by simp) (by simp) (by simp) ?_
      simp
      refine nxtI ⟨(p1, (s_Min v1_0 (s_l32Ends a0.Methods (nth a0.Keys (s_FindKey a0.Keys (s_StampKey a0.Authorities (nth a1.Stamps v1_1))).toNat).Method)), (v1_1 + 1)), ?_, ?_⟩ (by simp) (wk_keep (by simp [w1]))
      · rw [← e1]; simp only [s_EndsOf_1, h1, h2, cond_true, cond_false]
      · first | omega | (simp at *; omega)
  · have h1 : (decide ((↑v1_1 : Int) < (↑a1.Stamps.length : Int))) = false := by simpa using q1
    try simp at q1
    have x2 : s_EndsOf_1 a0 a1 (a1.Stamps.length + 1) (s_l32Ends a0.Methods a1.Method) 0 = .inr v1_0 := by rw [← e1]; simp only [s_EndsOf_1, h1, cond_true, cond_false]
    simp
    refine retRd (rv := [.tmp 4]) rfl ?_
    have f2 : s_EndsOf a0 a1 = v1_0 := by simp only [s_EndsOf, x2, cond_true, cond_false]
    simp [f2]
theorem s_l32Last_ok (a0 : TFrame) (a1 : TItem) : SoundAt Try.prog 116 false [a0.row, a1.row] [[.int .i64 (s_l32Last a0 a1)]] := by
  refine sound_of Try.func116 rfl (by kernel_rfl) ?_
  simp [Try.ntmps116]
  refine condB (fun k1 q1 => ?_) (fun k1 q1 => ?_)
  · have h1 : ((↑a1.Strand.Chain.length : Int) == 0) = true := by simpa using q1
    try simp at q1
    simp
    refine retRd (rv := [.tmp 4]) rfl ?_
    have f1 : s_l32Last a0 a1 = 0 := by simp only [s_l32Last, h1, cond_true, cond_false]
    simp [f1]
  · have h1 : ((↑a1.Strand.Chain.length : Int) == 0) = false := by simpa using q1
    try simp at q1
    simp
    refine okD fun k2 => ?_
    refine drawI mixed (by kernel_rfl) (by kernel_rfl) ?_
    have i1 : (a1.Strand.Chain.length - 1) < a1.Strand.Chain.length := by first | omega | (try simp only [decide_eq_true_eq, decide_eq_false_iff_not, beq_iff_eq, beq_eq_false_iff_ne, bne_iff_ne, ne_eq, Bool.or_eq_false_iff, Bool.not_eq_true', Bool.not_eq_false'] at h1; omega)
    have m1 : a1.Strand.Chain.length ≤ 9223372036854775807 := by simpa using k2 8 _ rfl
    have w1 : IntKind.i64.wrap ((a1.Strand.Chain.length : Int) - 1) = (a1.Strand.Chain.length : Int) - 1 := wrap_of (by omega) (by omega)
    simp [i1, rowAt_map, w1, toNat_pred]
    repeat (refine ⟨by intros; omega, ?_⟩)
    refine callRd rfl rfl rfl rfl (s_EndsOf_ok a0 (nth a1.Strand.Chain (a1.Strand.Chain.length - 1))) (by simp) (by simp) (by simp) ?_
    simp
    refine retRd (rv := [.tmp 4]) rfl ?_
    have f2 : s_l32Last a0 a1 = (s_EndsOf a0 (nth a1.Strand.Chain (a1.Strand.Chain.length - 1))) := by simp only [s_l32Last, h1, cond_true, cond_false]
    simp [f2]
theorem s_NeedsRenewal_ok (a0 : TFrame) (a1 : TItem) (a2 : Int) : SoundAt Try.prog 47 false [a0.row, a1.row, [.int .i64 a2]] [[.bool (s_NeedsRenewal a0 a1 a2)]] := by
  refine sound_of Try.func47 rfl (by kernel_rfl) ?_
  simp [Try.ntmps47]
  refine okD fun k1 => ?_
  refine drawI mixed (by kernel_rfl) (by kernel_rfl) ?_
  simp
  refine callG rfl rfl rfl rfl rfl rfl (fun _ => (s_l32Last_ok a0 a1)) (by simp) (by simp) (by simp) (by simp) ?_
  simp
  refine retRd (rv := [.tmp 6]) rfl ?_
  have f1 : s_NeedsRenewal a0 a1 a2 = (((↑a1.Strand.Chain.length : Int) == 0) || (decide ((W ((s_l32Last a0 a1) - a0.Now)) ≤ a2))) := by simp only [s_NeedsRenewal, cond_true, cond_false]
  simp [f1]
theorem i_endOf_ok (a0 : TFrame) (a1 : Int) : SoundAt Try.prog 154 false [a0.row, [.int .i64 a1]] [[.int .i64 (i_endOf a0 a1)]] := by
  refine sound_of Try.func154 rfl (by kernel_rfl) ?_
  simp [Try.ntmps154]
  refine callRd rfl rfl rfl rfl (i_FindMethod_ok a0.Methods a1) (by simp) (by simp) (by simp) ?_
  simp
  refine condB (fun k1 q1 => ?_) (fun k1 q1 => ?_)
  · have h1 : (decide ((i_FindMethod a0.Methods a1) ≥ 0)) = true := by simpa using q1
    try simp at q1
    have i1 : (i_FindMethod a0.Methods a1).toNat < a0.Methods.length := by have := i_FindMethod_lt a0.Methods a1; omega
    simp [i1, rowAt_map]
    repeat (refine ⟨by intros; omega, ?_⟩)
    refine retRd (rv := [.tmp 4]) rfl ?_
    have f1 : i_endOf a0 a1 = (nth a0.Methods (i_FindMethod a0.Methods a1).toNat).Ends := by simp only [i_endOf, h1, cond_true, cond_false]
    simp [f1]
  · have h1 : (decide ((i_FindMethod a0.Methods a1) ≥ 0)) = false := by simpa using q1
    try simp at q1
    simp
    refine retRd (rv := [.tmp 4]) rfl ?_
    have f2 : i_endOf a0 a1 = 0 := by simp only [i_endOf, h1, cond_true, cond_false]
    simp [f2]
theorem i_EndsOf_ok (a0 : TFrame) (a1 : TRenewal) : SoundAt Try.prog 117 false [a0.row, a1.row] [[.int .i64 (i_EndsOf a0 a1)]] := by
  refine sound_of Try.func117 rfl (by kernel_rfl) ?_
  simp [Try.ntmps117]
  refine callRd rfl rfl rfl rfl (i_endOf_ok a0 a1.Method) (by simp) (by simp) (by simp) ?_
  simp
  refine okL fun k1 => ?_
  refine loopI (ι := { s : Nat × Int × Nat // i_EndsOf_1 a0 a1 s.1 s.2.1 s.2.2 = i_EndsOf_1 a0 a1 (a1.Stamps.length + 1) (i_endOf a0 a1.Method) 0 ∧ (1 ≤ s.1 ∧ a1.Stamps.length < s.1 + s.2.2) }) (fun s => stOf 41 [(2, .one (.bptr 2 0), [.box [.d (.sl 5 (a0.Keys.map TKey.row)), .d (.sl 3 (a0.Authorities.map TAuthority.row)), .d (.sl 4 (a0.Methods.map TMethod.row)), .d (.int .i64 a0.Liars), .d (.int .i64 a0.Now)]]), (5, .one (.d (.int .i64 s.1.2.1)), []), (14, .one (.d (.sl 5 (a1.Stamps.map TStamp.row))), []), (15, .one (.d (.int .i64 (↑a1.Stamps.length : Int))), []), (16, .one (.d (.int .i64 (↑s.1.2.2 : Int))), [])]) (fun s => s.1.1) ⟨((a1.Stamps.length + 1), (i_endOf a0 a1.Method), 0), rfl, by first | omega | (dsimp only; omega) | simp⟩ (wk_keep (by simp)) ?_
  rintro ⟨⟨n1, v1_0, v1_1⟩, e1, j1⟩
  try dsimp only at e1 j1
  obtain ⟨p1, rfl⟩ : ∃ p, n1 = p + 1 := ⟨n1 - 1, by omega⟩
  simp
  refine condB (fun k2 q1 => ?_) (fun k2 q1 => ?_)
  · have h1 : (decide ((↑v1_1 : Int) < (↑a1.Stamps.length : Int))) = true := by simpa using q1
    have i1 : v1_1 < a1.Stamps.length := by simpa using q1
    have m2 : a1.Stamps.length ≤ 9223372036854775807 := by simpa using k2 14 _ rfl
    have w1 : IntKind.i64.wrap ((v1_1 : Int) + 1) = (v1_1 : Int) + 1 := wrap_of (by omega) (by omega)
    try simp at q1
    simp [i1, rowAt_map]
    repeat (refine ⟨by intros; omega, ?_⟩)
    refine okD fun k3 => ?_
    refine drawI mixed (by kernel_rfl) (by kernel_rfl) ?_
    simp
    refine callRd rfl rfl rfl rfl (i_StampKey_ok a0.Authorities (nth a1.Stamps v1_1)) (by simp) (by simp) (by simp) ?_
    simp
    refine callRd rfl rfl rfl rfl (i_FindKey_ok a0.Keys (i_StampKey a0.Authorities (nth a1.Stamps v1_1))) (by simp) (by simp) (by simp) ?_
    simp
    refine condB (fun k4 q2 => ?_) (fun k4 q2 => ?_)
    · have h2 : (decide ((i_FindKey a0.Keys (i_StampKey a0.Authorities (nth a1.Stamps v1_1))) < 0)) = true := by simpa using q2
      try simp at q2
      have x1 : i_EndsOf_1 a0 a1 (a1.Stamps.length + 1) (i_endOf a0 a1.Method) 0 = .inl 0 := by rw [← e1]; simp only [i_EndsOf_1, h1, h2, cond_true, cond_false]
      simp
      refine retRd (rv := [.tmp 4]) rfl ?_
      have f1 : i_EndsOf a0 a1 = 0 := by simp only [i_EndsOf, x1, cond_true, cond_false]
      simp [f1]
    · have h2 : (decide ((i_FindKey a0.Keys (i_StampKey a0.Authorities (nth a1.Stamps v1_1))) < 0)) = false := by simpa using q2
      try simp at q2
      simp
      refine okD fun k5 => ?_
      refine drawI mixed (by kernel_rfl) (by kernel_rfl) ?_
      have i2 : (i_FindKey a0.Keys (i_StampKey a0.Authorities (nth a1.Stamps v1_1))).toNat < a0.Keys.length := by have := i_FindKey_lt a0.Keys (i_StampKey a0.Authorities (nth a1.Stamps v1_1)); omega
      simp [i2, rowAt_map]
      repeat (refine ⟨by intros; omega, ?_⟩)
      refine callRd rfl rfl rfl rfl (i_endOf_ok a0 (nth a0.Keys (i_FindKey a0.Keys (i_StampKey a0.Authorities (nth a1.Stamps v1_1))).toNat).Method) (by simp) (by simp) (by simp) ?_
      simp
      refine nxtI ⟨(p1, (if (i_endOf a0 (nth a0.Keys (i_FindKey a0.Keys (i_StampKey a0.Authorities (nth a1.Stamps v1_1))).toNat).Method) < v1_0 then (i_endOf a0 (nth a0.Keys (i_FindKey a0.Keys (i_StampKey a0.Authorities (nth a1.Stamps v1_1))).toNat).Method) else v1_0), (v1_1 + 1)), ?_, ?_⟩ (by simp) (wk_keep (by simp [w1]))
      · rw [← e1]; simp only [i_EndsOf_1, h1, h2, cond_true, cond_false]
      · first | omega | (simp at *; omega)
  · have h1 : (decide ((↑v1_1 : Int) < (↑a1.Stamps.length : Int))) = false := by simpa using q1
    try simp at q1
    have x2 : i_EndsOf_1 a0 a1 (a1.Stamps.length + 1) (i_endOf a0 a1.Method) 0 = .inr v1_0 := by rw [← e1]; simp only [i_EndsOf_1, h1, cond_true, cond_false]
    simp
    refine retRd (rv := [.tmp 4]) rfl ?_
    have f2 : i_EndsOf a0 a1 = v1_0 := by simp only [i_EndsOf, x2, cond_true, cond_false]
    simp [f2]
theorem i_NeedsRenewal_ok (a0 : TFrame) (a1 : TItem) (a2 : Int) : SoundAt Try.prog 48 false [a0.row, a1.row, [.int .i64 a2]] [[.bool (i_NeedsRenewal a0 a1 a2)]] := by
  refine sound_of Try.func48 rfl (by kernel_rfl) ?_
  simp [Try.ntmps48]
  refine callRd rfl rfl rfl rfl (i_lastRenewal_ok a1) (by simp) (by simp) (by simp) ?_
  simp
  refine okD fun k1 => ?_
  refine drawI mixed (by kernel_rfl) (by kernel_rfl) ?_
  simp
  refine callG rfl rfl rfl rfl rfl rfl (fun _ => (i_EndsOf_ok a0 (i_lastRenewal a1).1)) (by simp) (by simp) (by simp) (by simp) ?_
  simp
  refine retRd (rv := [.tmp 6]) rfl ?_
  have f1 : i_NeedsRenewal a0 a1 a2 = ((!(i_lastRenewal a1).2) || (decide ((W ((i_EndsOf a0 (i_lastRenewal a1).1) - a0.Now)) ≤ a2))) := by simp only [i_NeedsRenewal, cond_true, cond_false]
  simp [f1]
theorem l_FnExactNeedsRenewal_ok (a0 : TFrame) (a1 : TItem) (a2 : Int) (t0 : Sm maxLen a0) (t1 : Sm maxLen a1) : SoundAt Try.prog 10 false [a0.row, a1.row, [.int .i64 a2]] [[.bool (l_FnExactNeedsRenewal a0 a1 a2)]] := by
  refine sound_of Try.func10 rfl (by kernel_rfl) ?_
  simp [Try.ntmps10]
  refine callRd rfl rfl rfl rfl (l_szFrame_ok a0 1048576) (by simp) (by simp) (by simp) ?_
  simp
  refine condB (fun k1 q1 => ?_) (fun k1 q1 => ?_)
  · have h1 : (decide ((l_szFrame a0 1048576) < 0)) = true := by simpa using q1
    try simp at q1
    simp
    refine retRd (rv := [.tmp 6]) rfl ?_
    have f1 : l_FnExactNeedsRenewal a0 a1 a2 = true := by simp only [l_FnExactNeedsRenewal, h1, cond_true, cond_false]
    simp [f1]
  · have h1 : (decide ((l_szFrame a0 1048576) < 0)) = false := by simpa using q1
    try simp at q1
    obtain ⟨u0, y0⟩ := l_szFrame_sm a0 1048576 t0 (by omega) (by omega) (by simpa using h1)
    simp
    refine callRd rfl rfl rfl rfl (l_szItem_ok a1 (l_szFrame a0 1048576)) (by simp) (by simp) (by simp) ?_
    simp
    refine condB (fun k2 q2 => ?_) (fun k2 q2 => ?_)
    · have h2 : (decide ((l_szItem a1 (l_szFrame a0 1048576)) < 0)) = true := by simpa using q2
      try simp at q2
      simp
      refine retRd (rv := [.tmp 6]) rfl ?_
      have f2 : l_FnExactNeedsRenewal a0 a1 a2 = true := by simp only [l_FnExactNeedsRenewal, h1, h2, cond_true, cond_false]
      simp [f2]
    · have h2 : (decide ((l_szItem a1 (l_szFrame a0 1048576)) < 0)) = false := by simpa using q2
      try simp at q2
      obtain ⟨u1, y1⟩ := l_szItem_sm a1 (l_szFrame a0 1048576) t1 (by omega) (by omega) (by simpa using h2)
      simp
      refine okD fun k3 => ?_
      refine drawI mixed (by kernel_rfl) (by kernel_rfl) ?_
      simp
      refine callRd rfl rfl rfl rfl (l_toFrame_ok a0 (sm_mono (n := 1048576) (by decide) (by simp [u0, u1, l_toArchive_id, l_toArchiveS_id, l_toAuthority_id, l_toAuthorityS_id, l_toBoolS_id, l_toCert_id, l_toCertS_id, l_toDocument_id, l_toEvent_id, l_toEventS_id, l_toFrame_id, l_toIntS_id, l_toIntSS_id, l_toItem_id, l_toItemS_id, l_toKey_id, l_toKeyS_id, l_toMethod_id, l_toMethodS_id, l_toPiece_id, l_toPieceS_id, l_toRedacted_id, l_toRenewal_id, l_toRenewalS_id, l_toSignature_id, l_toStamp_id, l_toStampS_id, l_toStep_id, l_toStepS_id, l_toStrand_id, l_toStringS_id, l_toWorld_id]))) (by simp) (by simp) (by simp) ?_
      simp
      refine callRd rfl rfl rfl rfl (l_toItem_ok a1 (sm_mono (n := 1048576) (by decide) (by simp [u0, u1, l_toArchive_id, l_toArchiveS_id, l_toAuthority_id, l_toAuthorityS_id, l_toBoolS_id, l_toCert_id, l_toCertS_id, l_toDocument_id, l_toEvent_id, l_toEventS_id, l_toFrame_id, l_toIntS_id, l_toIntSS_id, l_toItem_id, l_toItemS_id, l_toKey_id, l_toKeyS_id, l_toMethod_id, l_toMethodS_id, l_toPiece_id, l_toPieceS_id, l_toRedacted_id, l_toRenewal_id, l_toRenewalS_id, l_toSignature_id, l_toStamp_id, l_toStampS_id, l_toStep_id, l_toStepS_id, l_toStrand_id, l_toStringS_id, l_toWorld_id]))) (by simp) (by simp) (by simp) ?_
      simp
      refine callRd rfl rfl rfl rfl (s_NeedsRenewal_ok (l_toFrame a0) (l_toItem a1) a2) (by simp) (by simp) (by simp) ?_
      simp
      refine callRd rfl rfl rfl rfl (l_toFrame_ok a0 (sm_mono (n := 1048576) (by decide) (by simp [u0, u1, l_toArchive_id, l_toArchiveS_id, l_toAuthority_id, l_toAuthorityS_id, l_toBoolS_id, l_toCert_id, l_toCertS_id, l_toDocument_id, l_toEvent_id, l_toEventS_id, l_toFrame_id, l_toIntS_id, l_toIntSS_id, l_toItem_id, l_toItemS_id, l_toKey_id, l_toKeyS_id, l_toMethod_id, l_toMethodS_id, l_toPiece_id, l_toPieceS_id, l_toRedacted_id, l_toRenewal_id, l_toRenewalS_id, l_toSignature_id, l_toStamp_id, l_toStampS_id, l_toStep_id, l_toStepS_id, l_toStrand_id, l_toStringS_id, l_toWorld_id]))) (by simp) (by simp) (by simp) ?_
      simp
      refine callRd rfl rfl rfl rfl (l_toItem_ok a1 (sm_mono (n := 1048576) (by decide) (by simp [u0, u1, l_toArchive_id, l_toArchiveS_id, l_toAuthority_id, l_toAuthorityS_id, l_toBoolS_id, l_toCert_id, l_toCertS_id, l_toDocument_id, l_toEvent_id, l_toEventS_id, l_toFrame_id, l_toIntS_id, l_toIntSS_id, l_toItem_id, l_toItemS_id, l_toKey_id, l_toKeyS_id, l_toMethod_id, l_toMethodS_id, l_toPiece_id, l_toPieceS_id, l_toRedacted_id, l_toRenewal_id, l_toRenewalS_id, l_toSignature_id, l_toStamp_id, l_toStampS_id, l_toStep_id, l_toStepS_id, l_toStrand_id, l_toStringS_id, l_toWorld_id]))) (by simp) (by simp) (by simp) ?_
      simp
      refine callRd rfl rfl rfl rfl (i_NeedsRenewal_ok (l_toFrame a0) (l_toItem a1) a2) (by simp) (by simp) (by simp) ?_
      simp
      refine condB (fun k4 q3 => ?_) (fun k4 q3 => ?_)
      · have h3 : (!((i_NeedsRenewal (l_toFrame a0) (l_toItem a1) a2) == (s_NeedsRenewal (l_toFrame a0) (l_toItem a1) a2))) = true := by simpa using q3
        try simp at q3
        simp
        refine retRd (rv := [.tmp 6]) rfl ?_
        have f3 : l_FnExactNeedsRenewal a0 a1 a2 = false := by simp only [l_FnExactNeedsRenewal, h1, h2, h3, cond_true, cond_false]
        simp [f3]
      · have h3 : (!((i_NeedsRenewal (l_toFrame a0) (l_toItem a1) a2) == (s_NeedsRenewal (l_toFrame a0) (l_toItem a1) a2))) = false := by simpa using q3
        try simp at q3
        simp
        refine okD fun k5 => ?_
        refine drawI mixed (by kernel_rfl) (by kernel_rfl) ?_
        simp
        refine callRd rfl rfl rfl rfl (l_toFrame_ok a0 (sm_mono (n := 1048576) (by decide) (by simp [u0, u1, l_toArchive_id, l_toArchiveS_id, l_toAuthority_id, l_toAuthorityS_id, l_toBoolS_id, l_toCert_id, l_toCertS_id, l_toDocument_id, l_toEvent_id, l_toEventS_id, l_toFrame_id, l_toIntS_id, l_toIntSS_id, l_toItem_id, l_toItemS_id, l_toKey_id, l_toKeyS_id, l_toMethod_id, l_toMethodS_id, l_toPiece_id, l_toPieceS_id, l_toRedacted_id, l_toRenewal_id, l_toRenewalS_id, l_toSignature_id, l_toStamp_id, l_toStampS_id, l_toStep_id, l_toStepS_id, l_toStrand_id, l_toStringS_id, l_toWorld_id]))) (by simp) (by simp) (by simp) ?_
        simp
        refine callRd rfl rfl rfl rfl (l_eqFrame_ok (l_toFrame a0) (l_toFrame a0)) (by simp) (by simp) (by simp) ?_
        simp
        refine condB (fun k6 q4 => ?_) (fun k6 q4 => ?_)
        · have h4 : (!(l_eqFrame (l_toFrame a0) (l_toFrame a0))) = true := by simpa using q4
          try simp at q4
          simp
          refine retRd (rv := [.tmp 6]) rfl ?_
          have f4 : l_FnExactNeedsRenewal a0 a1 a2 = false := by simp only [l_FnExactNeedsRenewal, h1, h2, h3, h4, cond_true, cond_false]
          simp [f4]
        · have h4 : (!(l_eqFrame (l_toFrame a0) (l_toFrame a0))) = false := by simpa using q4
          try simp at q4
          simp
          refine okD fun k7 => ?_
          refine drawI mixed (by kernel_rfl) (by kernel_rfl) ?_
          simp
          refine callRd rfl rfl rfl rfl (l_toItem_ok a1 (sm_mono (n := 1048576) (by decide) (by simp [u0, u1, l_toArchive_id, l_toArchiveS_id, l_toAuthority_id, l_toAuthorityS_id, l_toBoolS_id, l_toCert_id, l_toCertS_id, l_toDocument_id, l_toEvent_id, l_toEventS_id, l_toFrame_id, l_toIntS_id, l_toIntSS_id, l_toItem_id, l_toItemS_id, l_toKey_id, l_toKeyS_id, l_toMethod_id, l_toMethodS_id, l_toPiece_id, l_toPieceS_id, l_toRedacted_id, l_toRenewal_id, l_toRenewalS_id, l_toSignature_id, l_toStamp_id, l_toStampS_id, l_toStep_id, l_toStepS_id, l_toStrand_id, l_toStringS_id, l_toWorld_id]))) (by simp) (by simp) (by simp) ?_
          simp
          refine callRd rfl rfl rfl rfl (l_eqItem_ok (l_toItem a1) (l_toItem a1)) (by simp) (by simp) (by simp) ?_
          simp
          refine condB (fun k8 q5 => ?_) (fun k8 q5 => ?_)
          · have h5 : (!(l_eqItem (l_toItem a1) (l_toItem a1))) = true := by simpa using q5
            try simp at q5
            simp
            refine retRd (rv := [.tmp 6]) rfl ?_
            have f5 : l_FnExactNeedsRenewal a0 a1 a2 = false := by simp only [l_FnExactNeedsRenewal, h1, h2, h3, h4, h5, cond_true, cond_false]
            simp [f5]
          · have h5 : (!(l_eqItem (l_toItem a1) (l_toItem a1))) = false := by simpa using q5
            try simp at q5
            simp
            refine retRd (rv := [.tmp 6]) rfl ?_
            have f6 : l_FnExactNeedsRenewal a0 a1 a2 = true := by simp only [l_FnExactNeedsRenewal, h1, h2, h3, h4, h5, cond_true, cond_false]
            simp [f6]
theorem s_NextDue_ok (a0 : TFrame) (a1 : TArchive) : SoundAt Try.prog 49 false [a0.row, a1.row] [[.int .i64 (s_NextDue a0 a1)]] := by
  refine sound_of Try.func49 rfl (by kernel_rfl) ?_
  simp [Try.ntmps49]
  refine okL fun k1 => ?_
  refine loopI (ι := { s : Nat × Int × Nat // s_NextDue_1 a0 a1 s.1 s.2.1 s.2.2 = s_NextDue_1 a0 a1 (a1.Items.length + 1) 10001 0 ∧ (1 ≤ s.1 ∧ a1.Items.length < s.1 + s.2.2) }) (fun s => stOf 24 [(2, .one (.bptr 2 0), [.box [.d (.sl 5 (a0.Keys.map TKey.row)), .d (.sl 3 (a0.Authorities.map TAuthority.row)), .d (.sl 4 (a0.Methods.map TMethod.row)), .d (.int .i64 a0.Liars), .d (.int .i64 a0.Now)]]), (3, .one (.bptr 3 0), [.box [.d (.int .i64 a1.Id), .d (.sl 16 (a1.Items.map TItem.row))]]), (5, .one (.d (.int .i64 s.1.2.1)), []), (6, .one (.d (.int .i64 (↑s.1.2.2 : Int))), [])]) (fun s => s.1.1) ⟨((a1.Items.length + 1), 10001, 0), rfl, by first | omega | (dsimp only; omega) | simp⟩ (wk_keep (by simp)) ?_
  rintro ⟨⟨n1, v1_0, v1_1⟩, e1, j1⟩
  try dsimp only at e1 j1
  obtain ⟨p1, rfl⟩ : ∃ p, n1 = p + 1 := ⟨n1 - 1, by omega⟩
  simp
  refine condB (fun k2 q1 => ?_) (fun k2 q1 => ?_)
  · have h1 : (decide ((↑v1_1 : Int) < (↑a1.Items.length : Int))) = true := by simpa using q1
    have i1 : v1_1 < a1.Items.length := by simpa using q1
    have m2 : a1.Items.length ≤ 9223372036854775807 := by simpa using k2 9 _ rfl
    have w1 : IntKind.i64.wrap ((v1_1 : Int) + 1) = (v1_1 : Int) + 1 := wrap_of (by omega) (by omega)
    try simp at q1
    simp
    refine okD fun k3 => ?_
    refine drawI mixed (by kernel_rfl) (by kernel_rfl) ?_
    simp [i1, rowAt_map]
    repeat (refine ⟨by intros; omega, ?_⟩)
    refine callRd rfl rfl rfl rfl (s_l32Last_ok a0 (nth a1.Items v1_1)) (by simp) (by simp) (by simp) ?_
    simp
    refine callRd rfl rfl rfl rfl (s_Min_ok v1_0 (s_l32Last a0 (nth a1.Items v1_1))) (by simp) (by simp) (by simp) ?_
    simp
    refine nxtI ⟨(p1, (s_Min v1_0 (s_l32Last a0 (nth a1.Items v1_1))), (v1_1 + 1)), ?_, ?_⟩ (by simp) (wk_keep (by simp [w1]))
    · rw [← e1]; simp only [s_NextDue_1, h1, cond_true, cond_false]
    · first | omega | (simp at *; omega)
  · have h1 : (decide ((↑v1_1 : Int) < (↑a1.Items.length : Int))) = false := by simpa using q1
    try simp at q1
    have x1 : s_NextDue_1 a0 a1 (a1.Items.length + 1) 10001 0 = v1_0 := by rw [← e1]; simp only [s_NextDue_1, h1, cond_true, cond_false]
    simp
    refine retRd (rv := [.tmp 4]) rfl ?_
    have f1 : s_NextDue a0 a1 = v1_0 := by simp only [s_NextDue, x1, cond_true, cond_false]
    simp [f1]
theorem i_NextDue_ok (a0 : TFrame) (a1 : TArchive) : SoundAt Try.prog 50 false [a0.row, a1.row] [[.int .i64 (i_NextDue a0 a1)]] := by
  refine sound_of Try.func50 rfl (by kernel_rfl) ?_
  simp [Try.ntmps50]
  refine okL fun k1 => ?_
  refine loopI (ι := { s : Nat × Int × Nat // i_NextDue_1 a0 a1 s.1 s.2.1 s.2.2 = i_NextDue_1 a0 a1 (a1.Items.length + 1) 10001 0 ∧ (1 ≤ s.1 ∧ a1.Items.length < s.1 + s.2.2) }) (fun s => stOf 32 [(2, .one (.bptr 2 0), [.box [.d (.sl 5 (a0.Keys.map TKey.row)), .d (.sl 3 (a0.Authorities.map TAuthority.row)), .d (.sl 4 (a0.Methods.map TMethod.row)), .d (.int .i64 a0.Liars), .d (.int .i64 a0.Now)]]), (5, .one (.d (.int .i64 s.1.2.1)), []), (12, .one (.d (.sl 16 (a1.Items.map TItem.row))), []), (13, .one (.d (.int .i64 (↑a1.Items.length : Int))), []), (14, .one (.d (.int .i64 (↑s.1.2.2 : Int))), [])]) (fun s => s.1.1) ⟨((a1.Items.length + 1), 10001, 0), rfl, by first | omega | (dsimp only; omega) | simp⟩ (wk_keep (by simp)) ?_
  rintro ⟨⟨n1, v1_0, v1_1⟩, e1, j1⟩
  try dsimp only at e1 j1
  obtain ⟨p1, rfl⟩ : ∃ p, n1 = p + 1 := ⟨n1 - 1, by omega⟩
  simp
  refine condB (fun k2 q1 => ?_) (fun k2 q1 => ?_)
  · have h1 : (decide ((↑v1_1 : Int) < (↑a1.Items.length : Int))) = true := by simpa using q1
    have i1 : v1_1 < a1.Items.length := by simpa using q1
    have m2 : a1.Items.length ≤ 9223372036854775807 := by simpa using k2 12 _ rfl
    have w1 : IntKind.i64.wrap ((v1_1 : Int) + 1) = (v1_1 : Int) + 1 := wrap_of (by omega) (by omega)
    try simp at q1
    simp [i1, rowAt_map]
    repeat (refine ⟨by intros; omega, ?_⟩)
    refine callRd rfl rfl rfl rfl (i_lastRenewal_ok (nth a1.Items v1_1)) (by simp) (by simp) (by simp) ?_
    simp
    refine condB (fun k3 q2 => ?_) (fun k3 q2 => ?_)
    · have h2 : (i_lastRenewal (nth a1.Items v1_1)).2 = true := by simpa using q2
      try simp at q2
      simp
      refine callRd rfl rfl rfl rfl (i_EndsOf_ok a0 (i_lastRenewal (nth a1.Items v1_1)).1) (by simp) (by simp) (by simp) ?_
      simp
      refine nxtI ⟨(p1, (if (i_EndsOf a0 (i_lastRenewal (nth a1.Items v1_1)).1) < v1_0 then (i_EndsOf a0 (i_lastRenewal (nth a1.Items v1_1)).1) else v1_0), (v1_1 + 1)), ?_, ?_⟩ (by simp) (wk_keep (by simp [w1]))
      · rw [← e1]; simp only [i_NextDue_1, h1, h2, cond_true, cond_false]
      · first | omega | (simp at *; omega)
    · have h2 : (i_lastRenewal (nth a1.Items v1_1)).2 = false := by simpa using q2
      try simp at q2
      simp
      refine nxtI ⟨(p1, (if 0 < v1_0 then 0 else v1_0), (v1_1 + 1)), ?_, ?_⟩ (by simp) (wk_keep (by simp [w1]))
      · rw [← e1]; simp only [i_NextDue_1, h1, h2, cond_true, cond_false]
      · first | omega | (simp at *; omega)
  · have h1 : (decide ((↑v1_1 : Int) < (↑a1.Items.length : Int))) = false := by simpa using q1
    try simp at q1
    have x1 : i_NextDue_1 a0 a1 (a1.Items.length + 1) 10001 0 = v1_0 := by rw [← e1]; simp only [i_NextDue_1, h1, cond_true, cond_false]
    simp
    refine retRd (rv := [.tmp 4]) rfl ?_
    have f1 : i_NextDue a0 a1 = v1_0 := by simp only [i_NextDue, x1, cond_true, cond_false]
    simp [f1]
theorem l_FnExactNextDue_ok (a0 : TFrame) (a1 : TArchive) (t0 : Sm maxLen a0) (t1 : Sm maxLen a1) : SoundAt Try.prog 11 false [a0.row, a1.row] [[.bool (l_FnExactNextDue a0 a1)]] := by
  refine sound_of Try.func11 rfl (by kernel_rfl) ?_
  simp [Try.ntmps11]
  refine callRd rfl rfl rfl rfl (l_szFrame_ok a0 1048576) (by simp) (by simp) (by simp) ?_
  simp
  refine condB (fun k1 q1 => ?_) (fun k1 q1 => ?_)
  · have h1 : (decide ((l_szFrame a0 1048576) < 0)) = true := by simpa using q1
    try simp at q1
    simp
    refine retRd (rv := [.tmp 4]) rfl ?_
    have f1 : l_FnExactNextDue a0 a1 = true := by simp only [l_FnExactNextDue, h1, cond_true, cond_false]
    simp [f1]
  · have h1 : (decide ((l_szFrame a0 1048576) < 0)) = false := by simpa using q1
    try simp at q1
    obtain ⟨u0, y0⟩ := l_szFrame_sm a0 1048576 t0 (by omega) (by omega) (by simpa using h1)
    simp
    refine callRd rfl rfl rfl rfl (l_szArchive_ok a1 (l_szFrame a0 1048576)) (by simp) (by simp) (by simp) ?_
    simp
    refine condB (fun k2 q2 => ?_) (fun k2 q2 => ?_)
    · have h2 : (decide ((l_szArchive a1 (l_szFrame a0 1048576)) < 0)) = true := by simpa using q2
      try simp at q2
      simp
      refine retRd (rv := [.tmp 4]) rfl ?_
      have f2 : l_FnExactNextDue a0 a1 = true := by simp only [l_FnExactNextDue, h1, h2, cond_true, cond_false]
      simp [f2]
    · have h2 : (decide ((l_szArchive a1 (l_szFrame a0 1048576)) < 0)) = false := by simpa using q2
      try simp at q2
      obtain ⟨u1, y1⟩ := l_szArchive_sm a1 (l_szFrame a0 1048576) t1 (by omega) (by omega) (by simpa using h2)
      simp
      refine okD fun k3 => ?_
      refine drawI mixed (by kernel_rfl) (by kernel_rfl) ?_
      simp
      refine callRd rfl rfl rfl rfl (l_toFrame_ok a0 (sm_mono (n := 1048576) (by decide) (by simp [u0, u1, l_toArchive_id, l_toArchiveS_id, l_toAuthority_id, l_toAuthorityS_id, l_toBoolS_id, l_toCert_id, l_toCertS_id, l_toDocument_id, l_toEvent_id, l_toEventS_id, l_toFrame_id, l_toIntS_id, l_toIntSS_id, l_toItem_id, l_toItemS_id, l_toKey_id, l_toKeyS_id, l_toMethod_id, l_toMethodS_id, l_toPiece_id, l_toPieceS_id, l_toRedacted_id, l_toRenewal_id, l_toRenewalS_id, l_toSignature_id, l_toStamp_id, l_toStampS_id, l_toStep_id, l_toStepS_id, l_toStrand_id, l_toStringS_id, l_toWorld_id]))) (by simp) (by simp) (by simp) ?_
      simp
      refine callRd rfl rfl rfl rfl (l_toArchive_ok a1 (sm_mono (n := 1048576) (by decide) (by simp [u0, u1, l_toArchive_id, l_toArchiveS_id, l_toAuthority_id, l_toAuthorityS_id, l_toBoolS_id, l_toCert_id, l_toCertS_id, l_toDocument_id, l_toEvent_id, l_toEventS_id, l_toFrame_id, l_toIntS_id, l_toIntSS_id, l_toItem_id, l_toItemS_id, l_toKey_id, l_toKeyS_id, l_toMethod_id, l_toMethodS_id, l_toPiece_id, l_toPieceS_id, l_toRedacted_id, l_toRenewal_id, l_toRenewalS_id, l_toSignature_id, l_toStamp_id, l_toStampS_id, l_toStep_id, l_toStepS_id, l_toStrand_id, l_toStringS_id, l_toWorld_id]))) (by simp) (by simp) (by simp) ?_
      simp
      refine callRd rfl rfl rfl rfl (s_NextDue_ok (l_toFrame a0) (l_toArchive a1)) (by simp) (by simp) (by simp) ?_
      simp
      refine callRd rfl rfl rfl rfl (l_toFrame_ok a0 (sm_mono (n := 1048576) (by decide) (by simp [u0, u1, l_toArchive_id, l_toArchiveS_id, l_toAuthority_id, l_toAuthorityS_id, l_toBoolS_id, l_toCert_id, l_toCertS_id, l_toDocument_id, l_toEvent_id, l_toEventS_id, l_toFrame_id, l_toIntS_id, l_toIntSS_id, l_toItem_id, l_toItemS_id, l_toKey_id, l_toKeyS_id, l_toMethod_id, l_toMethodS_id, l_toPiece_id, l_toPieceS_id, l_toRedacted_id, l_toRenewal_id, l_toRenewalS_id, l_toSignature_id, l_toStamp_id, l_toStampS_id, l_toStep_id, l_toStepS_id, l_toStrand_id, l_toStringS_id, l_toWorld_id]))) (by simp) (by simp) (by simp) ?_
      simp
      refine callRd rfl rfl rfl rfl (l_toArchive_ok a1 (sm_mono (n := 1048576) (by decide) (by simp [u0, u1, l_toArchive_id, l_toArchiveS_id, l_toAuthority_id, l_toAuthorityS_id, l_toBoolS_id, l_toCert_id, l_toCertS_id, l_toDocument_id, l_toEvent_id, l_toEventS_id, l_toFrame_id, l_toIntS_id, l_toIntSS_id, l_toItem_id, l_toItemS_id, l_toKey_id, l_toKeyS_id, l_toMethod_id, l_toMethodS_id, l_toPiece_id, l_toPieceS_id, l_toRedacted_id, l_toRenewal_id, l_toRenewalS_id, l_toSignature_id, l_toStamp_id, l_toStampS_id, l_toStep_id, l_toStepS_id, l_toStrand_id, l_toStringS_id, l_toWorld_id]))) (by simp) (by simp) (by simp) ?_
      simp
      refine callRd rfl rfl rfl rfl (i_NextDue_ok (l_toFrame a0) (l_toArchive a1)) (by simp) (by simp) (by simp) ?_
      simp
      refine condB (fun k4 q3 => ?_) (fun k4 q3 => ?_)
      · have h3 : ((i_NextDue (l_toFrame a0) (l_toArchive a1)) != (s_NextDue (l_toFrame a0) (l_toArchive a1))) = true := by simpa using q3
        try simp at q3
        simp
        refine retRd (rv := [.tmp 4]) rfl ?_
        have f3 : l_FnExactNextDue a0 a1 = false := by simp only [l_FnExactNextDue, h1, h2, h3, cond_true, cond_false]
        simp [f3]
      · have h3 : ((i_NextDue (l_toFrame a0) (l_toArchive a1)) != (s_NextDue (l_toFrame a0) (l_toArchive a1))) = false := by simpa using q3
        try simp at q3
        simp
        refine okD fun k5 => ?_
        refine drawI mixed (by kernel_rfl) (by kernel_rfl) ?_
        simp
        refine callRd rfl rfl rfl rfl (l_toFrame_ok a0 (sm_mono (n := 1048576) (by decide) (by simp [u0, u1, l_toArchive_id, l_toArchiveS_id, l_toAuthority_id, l_toAuthorityS_id, l_toBoolS_id, l_toCert_id, l_toCertS_id, l_toDocument_id, l_toEvent_id, l_toEventS_id, l_toFrame_id, l_toIntS_id, l_toIntSS_id, l_toItem_id, l_toItemS_id, l_toKey_id, l_toKeyS_id, l_toMethod_id, l_toMethodS_id, l_toPiece_id, l_toPieceS_id, l_toRedacted_id, l_toRenewal_id, l_toRenewalS_id, l_toSignature_id, l_toStamp_id, l_toStampS_id, l_toStep_id, l_toStepS_id, l_toStrand_id, l_toStringS_id, l_toWorld_id]))) (by simp) (by simp) (by simp) ?_
        simp
        refine callRd rfl rfl rfl rfl (l_eqFrame_ok (l_toFrame a0) (l_toFrame a0)) (by simp) (by simp) (by simp) ?_
        simp
        refine condB (fun k6 q4 => ?_) (fun k6 q4 => ?_)
        · have h4 : (!(l_eqFrame (l_toFrame a0) (l_toFrame a0))) = true := by simpa using q4
          try simp at q4
          simp
          refine retRd (rv := [.tmp 4]) rfl ?_
          have f4 : l_FnExactNextDue a0 a1 = false := by simp only [l_FnExactNextDue, h1, h2, h3, h4, cond_true, cond_false]
          simp [f4]
        · have h4 : (!(l_eqFrame (l_toFrame a0) (l_toFrame a0))) = false := by simpa using q4
          try simp at q4
          simp
          refine okD fun k7 => ?_
          refine drawI mixed (by kernel_rfl) (by kernel_rfl) ?_
          simp
          refine callRd rfl rfl rfl rfl (l_toArchive_ok a1 (sm_mono (n := 1048576) (by decide) (by simp [u0, u1, l_toArchive_id, l_toArchiveS_id, l_toAuthority_id, l_toAuthorityS_id, l_toBoolS_id, l_toCert_id, l_toCertS_id, l_toDocument_id, l_toEvent_id, l_toEventS_id, l_toFrame_id, l_toIntS_id, l_toIntSS_id, l_toItem_id, l_toItemS_id, l_toKey_id, l_toKeyS_id, l_toMethod_id, l_toMethodS_id, l_toPiece_id, l_toPieceS_id, l_toRedacted_id, l_toRenewal_id, l_toRenewalS_id, l_toSignature_id, l_toStamp_id, l_toStampS_id, l_toStep_id, l_toStepS_id, l_toStrand_id, l_toStringS_id, l_toWorld_id]))) (by simp) (by simp) (by simp) ?_
          simp
          refine callRd rfl rfl rfl rfl (l_eqArchive_ok (l_toArchive a1) (l_toArchive a1)) (by simp) (by simp) (by simp) ?_
          simp
          refine condB (fun k8 q5 => ?_) (fun k8 q5 => ?_)
          · have h5 : (!(l_eqArchive (l_toArchive a1) (l_toArchive a1))) = true := by simpa using q5
            try simp at q5
            simp
            refine retRd (rv := [.tmp 4]) rfl ?_
            have f5 : l_FnExactNextDue a0 a1 = false := by simp only [l_FnExactNextDue, h1, h2, h3, h4, h5, cond_true, cond_false]
            simp [f5]
          · have h5 : (!(l_eqArchive (l_toArchive a1) (l_toArchive a1))) = false := by simpa using q5
            try simp at q5
            simp
            refine retRd (rv := [.tmp 4]) rfl ?_
            have f6 : l_FnExactNextDue a0 a1 = true := by simp only [l_FnExactNextDue, h1, h2, h3, h4, h5, cond_true, cond_false]
            simp [f6]
theorem l_szCertS_ok (a0 : List TCert) (a1 : Int) : SoundAt Try.prog 119 false [[.sl 7 (a0.map TCert.row)], [.int .i64 a1]] [[.int .i64 (l_szCertS a0 a1)]] := by
  refine sound_of Try.func119 rfl (by kernel_rfl) ?_
  simp [Try.ntmps119]
  refine condB (fun k1 q1 => ?_) (fun k1 q1 => ?_)
  · have h1 : (decide ((W (a1 - (↑a0.length : Int))) < 0)) = true := by simpa using q1
    try simp at q1
    simp
    refine retRd (rv := [.tmp 4]) rfl ?_
    have f1 : l_szCertS a0 a1 = (-1) := by simp only [l_szCertS, h1, cond_true, cond_false]
    simp [f1]
  · have h1 : (decide ((W (a1 - (↑a0.length : Int))) < 0)) = false := by simpa using q1
    try simp at q1
    simp
    refine retRd (rv := [.tmp 4]) rfl ?_
    have f2 : l_szCertS a0 a1 = (W (a1 - (↑a0.length : Int))) := by simp only [l_szCertS, h1, cond_true, cond_false]
    simp [f2]
theorem l_szArchiveS_ok (a0 : List TArchive) (a1 : Int) : SoundAt Try.prog 120 false [[.sl 2 (a0.map TArchive.row)], [.int .i64 a1]] [[.int .i64 (l_szArchiveS a0 a1)]] := by
  refine sound_of Try.func120 rfl (by kernel_rfl) ?_
  simp [Try.ntmps120]
  refine condB (fun k1 q1 => ?_) (fun k1 q1 => ?_)
  · have h1 : (decide ((W (a1 - (↑a0.length : Int))) < 0)) = true := by simpa using q1
    try simp at q1
    simp
    refine retRd (rv := [.tmp 4]) rfl ?_
    have f1 : l_szArchiveS a0 a1 = (-1) := by simp only [l_szArchiveS, h1, cond_true, cond_false]
    simp [f1]
  · have h1 : (decide ((W (a1 - (↑a0.length : Int))) < 0)) = false := by simpa using q1
    try simp at q1
    simp
    refine okL fun k2 => ?_
    refine loopI (ι := { s : Nat × Int × Nat // l_szArchiveS_1 a0 s.1 s.2.1 s.2.2 = l_szArchiveS_1 a0 (a0.length + 1) (W (a1 - (↑a0.length : Int))) 0 ∧ (1 ≤ s.1 ∧ a0.length < s.1 + s.2.2) }) (fun s => stOf 27 [(0, .one (.d (.sl 2 (a0.map TArchive.row))), []), (1, .one (.d (.int .i64 s.1.2.1)), []), (5, .one (.d (.int .i64 (↑s.1.2.2 : Int))), [])]) (fun s => s.1.1) ⟨((a0.length + 1), (W (a1 - (↑a0.length : Int))), 0), rfl, by first | omega | (dsimp only; omega) | simp⟩ (wk_keep (by simp)) ?_
    rintro ⟨⟨n1, v1_0, v1_1⟩, e1, j1⟩
    try dsimp only at e1 j1
    obtain ⟨p1, rfl⟩ : ∃ p, n1 = p + 1 := ⟨n1 - 1, by omega⟩
    simp
    refine condB (fun k3 q2 => ?_) (fun k3 q2 => ?_)
    · have h2 : (decide ((↑v1_1 : Int) < (↑a0.length : Int))) = true := by simpa using q2
      have i1 : v1_1 < a0.length := by simpa using q2
      have m2 : a0.length ≤ 9223372036854775807 := by simpa using k3 0 _ rfl
      have w1 : IntKind.i64.wrap ((v1_1 : Int) + 1) = (v1_1 : Int) + 1 := wrap_of (by omega) (by omega)
      try simp at q2
      simp [i1, rowAt_map]
      repeat (refine ⟨by intros; omega, ?_⟩)
      refine callRd rfl rfl rfl rfl (l_szArchive_ok (nth a0 v1_1) v1_0) (by simp) (by simp) (by simp) ?_
      simp
      refine condB (fun k4 q3 => ?_) (fun k4 q3 => ?_)
      · have h3 : (decide ((l_szArchive (nth a0 v1_1) v1_0) < 0)) = true := by simpa using q3
        try simp at q3
        have x1 : l_szArchiveS_1 a0 (a0.length + 1) (W (a1 - (↑a0.length : Int))) 0 = .inl (-1) := by rw [← e1]; simp only [l_szArchiveS_1, h2, h3, cond_true, cond_false]
        simp
        refine retRd (rv := [.tmp 4]) rfl ?_
        have f2 : l_szArchiveS a0 a1 = (-1) := by simp only [l_szArchiveS, h1, x1, cond_true, cond_false]
        simp [f2]
      · have h3 : (decide ((l_szArchive (nth a0 v1_1) v1_0) < 0)) = false := by simpa using q3
        try simp at q3
        simp
        refine nxtI ⟨(p1, (l_szArchive (nth a0 v1_1) v1_0), (v1_1 + 1)), ?_, ?_⟩ (by simp) (wk_keep (by simp [w1]))
        · rw [← e1]; simp only [l_szArchiveS_1, h2, h3, cond_true, cond_false]
        · first | omega | (simp at *; omega)
    · have h2 : (decide ((↑v1_1 : Int) < (↑a0.length : Int))) = false := by simpa using q2
      try simp at q2
      have x2 : l_szArchiveS_1 a0 (a0.length + 1) (W (a1 - (↑a0.length : Int))) 0 = .inr v1_0 := by rw [← e1]; simp only [l_szArchiveS_1, h2, cond_true, cond_false]
      simp
      refine retRd (rv := [.tmp 4]) rfl ?_
      have f3 : l_szArchiveS a0 a1 = v1_0 := by simp only [l_szArchiveS, h1, x2, cond_true, cond_false]
      simp [f3]
theorem l_szWorld_ok (a0 : TWorld) (a1 : Int) : SoundAt Try.prog 51 false [a0.row, [.int .i64 a1]] [[.int .i64 (l_szWorld a0 a1)]] := by
  refine sound_of Try.func51 rfl (by kernel_rfl) ?_
  simp [Try.ntmps51]
  refine callRd rfl rfl rfl rfl (l_szFrame_ok a0.Frame a1) (by simp) (by simp) (by simp) ?_
  simp
  refine condB (fun k1 q1 => ?_) (fun k1 q1 => ?_)
  · have h1 : (decide ((l_szFrame a0.Frame a1) < 0)) = true := by simpa using q1
    try simp at q1
    simp
    refine retRd (rv := [.tmp 4]) rfl ?_
    have f1 : l_szWorld a0 a1 = (-1) := by simp only [l_szWorld, h1, cond_true, cond_false]
    simp [f1]
  · have h1 : (decide ((l_szFrame a0.Frame a1) < 0)) = false := by simpa using q1
    try simp at q1
    simp
    refine callRd rfl rfl rfl rfl (l_szCertS_ok a0.Certs (l_szFrame a0.Frame a1)) (by simp) (by simp) (by simp) ?_
    simp
    refine condB (fun k2 q2 => ?_) (fun k2 q2 => ?_)
    · have h2 : (decide ((l_szCertS a0.Certs (l_szFrame a0.Frame a1)) < 0)) = true := by simpa using q2
      try simp at q2
      simp
      refine retRd (rv := [.tmp 4]) rfl ?_
      have f2 : l_szWorld a0 a1 = (-1) := by simp only [l_szWorld, h1, h2, cond_true, cond_false]
      simp [f2]
    · have h2 : (decide ((l_szCertS a0.Certs (l_szFrame a0.Frame a1)) < 0)) = false := by simpa using q2
      try simp at q2
      simp
      refine callRd rfl rfl rfl rfl (l_szIntS_ok a0.Ended (l_szCertS a0.Certs (l_szFrame a0.Frame a1))) (by simp) (by simp) (by simp) ?_
      simp
      refine condB (fun k3 q3 => ?_) (fun k3 q3 => ?_)
      · have h3 : (decide ((l_szIntS a0.Ended (l_szCertS a0.Certs (l_szFrame a0.Frame a1))) < 0)) = true := by simpa using q3
        try simp at q3
        simp
        refine retRd (rv := [.tmp 4]) rfl ?_
        have f3 : l_szWorld a0 a1 = (-1) := by simp only [l_szWorld, h1, h2, h3, cond_true, cond_false]
        simp [f3]
      · have h3 : (decide ((l_szIntS a0.Ended (l_szCertS a0.Certs (l_szFrame a0.Frame a1))) < 0)) = false := by simpa using q3
        try simp at q3
        simp
        refine callRd rfl rfl rfl rfl (l_szArchiveS_ok a0.Archives (l_szIntS a0.Ended (l_szCertS a0.Certs (l_szFrame a0.Frame a1)))) (by simp) (by simp) (by simp) ?_
        simp
        refine condB (fun k4 q4 => ?_) (fun k4 q4 => ?_)
        · have h4 : (decide ((l_szArchiveS a0.Archives (l_szIntS a0.Ended (l_szCertS a0.Certs (l_szFrame a0.Frame a1)))) < 0)) = true := by simpa using q4
          try simp at q4
          simp
          refine retRd (rv := [.tmp 4]) rfl ?_
          have f4 : l_szWorld a0 a1 = (-1) := by simp only [l_szWorld, h1, h2, h3, h4, cond_true, cond_false]
          simp [f4]
        · have h4 : (decide ((l_szArchiveS a0.Archives (l_szIntS a0.Ended (l_szCertS a0.Certs (l_szFrame a0.Frame a1)))) < 0)) = false := by simpa using q4
          try simp at q4
          simp
          refine callRd rfl rfl rfl rfl (l_szIntS_ok a0.Seqs (l_szArchiveS a0.Archives (l_szIntS a0.Ended (l_szCertS a0.Certs (l_szFrame a0.Frame a1))))) (by simp) (by simp) (by simp) ?_
          simp
          refine condB (fun k5 q5 => ?_) (fun k5 q5 => ?_)
          · have h5 : (decide ((l_szIntS a0.Seqs (l_szArchiveS a0.Archives (l_szIntS a0.Ended (l_szCertS a0.Certs (l_szFrame a0.Frame a1))))) < 0)) = true := by simpa using q5
            try simp at q5
            simp
            refine retRd (rv := [.tmp 4]) rfl ?_
            have f5 : l_szWorld a0 a1 = (-1) := by simp only [l_szWorld, h1, h2, h3, h4, h5, cond_true, cond_false]
            simp [f5]
          · have h5 : (decide ((l_szIntS a0.Seqs (l_szArchiveS a0.Archives (l_szIntS a0.Ended (l_szCertS a0.Certs (l_szFrame a0.Frame a1))))) < 0)) = false := by simpa using q5
            try simp at q5
            simp
            refine callRd rfl rfl rfl rfl (l_szIntS_ok a0.Lying (l_szIntS a0.Seqs (l_szArchiveS a0.Archives (l_szIntS a0.Ended (l_szCertS a0.Certs (l_szFrame a0.Frame a1)))))) (by simp) (by simp) (by simp) ?_
            simp
            refine condB (fun k6 q6 => ?_) (fun k6 q6 => ?_)
            · have h6 : (decide ((l_szIntS a0.Lying (l_szIntS a0.Seqs (l_szArchiveS a0.Archives (l_szIntS a0.Ended (l_szCertS a0.Certs (l_szFrame a0.Frame a1)))))) < 0)) = true := by simpa using q6
              try simp at q6
              simp
              refine retRd (rv := [.tmp 4]) rfl ?_
              have f6 : l_szWorld a0 a1 = (-1) := by simp only [l_szWorld, h1, h2, h3, h4, h5, h6, cond_true, cond_false]
              simp [f6]
            · have h6 : (decide ((l_szIntS a0.Lying (l_szIntS a0.Seqs (l_szArchiveS a0.Archives (l_szIntS a0.Ended (l_szCertS a0.Certs (l_szFrame a0.Frame a1)))))) < 0)) = false := by simpa using q6
              try simp at q6
              simp
              refine callRd rfl rfl rfl rfl (l_szIntS_ok a0.Forged (l_szIntS a0.Lying (l_szIntS a0.Seqs (l_szArchiveS a0.Archives (l_szIntS a0.Ended (l_szCertS a0.Certs (l_szFrame a0.Frame a1))))))) (by simp) (by simp) (by simp) ?_
              simp
              refine condB (fun k7 q7 => ?_) (fun k7 q7 => ?_)
              · have h7 : (decide ((l_szIntS a0.Forged (l_szIntS a0.Lying (l_szIntS a0.Seqs (l_szArchiveS a0.Archives (l_szIntS a0.Ended (l_szCertS a0.Certs (l_szFrame a0.Frame a1))))))) < 0)) = true := by simpa using q7
                try simp at q7
                simp
                refine retRd (rv := [.tmp 4]) rfl ?_
                have f7 : l_szWorld a0 a1 = (-1) := by simp only [l_szWorld, h1, h2, h3, h4, h5, h6, h7, cond_true, cond_false]
                simp [f7]
              · have h7 : (decide ((l_szIntS a0.Forged (l_szIntS a0.Lying (l_szIntS a0.Seqs (l_szArchiveS a0.Archives (l_szIntS a0.Ended (l_szCertS a0.Certs (l_szFrame a0.Frame a1))))))) < 0)) = false := by simpa using q7
                try simp at q7
                simp
                refine retRd (rv := [.tmp 4]) rfl ?_
                have f8 : l_szWorld a0 a1 = (l_szIntS a0.Forged (l_szIntS a0.Lying (l_szIntS a0.Seqs (l_szArchiveS a0.Archives (l_szIntS a0.Ended (l_szCertS a0.Certs (l_szFrame a0.Frame a1))))))) := by simp only [l_szWorld, h1, h2, h3, h4, h5, h6, h7, cond_true, cond_false]
                simp [f8]
theorem l_toCert_ok (a0 : TCert) : SoundAt Try.prog 155 false [a0.row] [(l_toCert a0).row] := by
  refine sound_of Try.func155 rfl (by kernel_rfl) ?_
  simp [Try.ntmps155]
  refine retRd (rv := [.cell 2 188]) rfl ?_
  have f1 : l_toCert a0 = a0 := by simp only [l_toCert, cond_true, cond_false]
  simp [f1]
theorem l_toCertS_ok (a0 : List TCert) (u0 : Sm 68719476736 a0) : SoundAt Try.prog 122 true [[.sl 7 (a0.map TCert.row)]] [[.sl 7 ((l_toCertS a0).map TCert.row)]] := by
  refine sound_of Try.func122 rfl (by kernel_rfl) ?_
  have c1 : a0.length ≤ 68719476736 := sm_len (by simp [u0])
  simp [Try.ntmps122]
  repeat (refine ⟨by intros; omega, ?_⟩)
  refine okL fun k1 => ?_
  refine loopI (ι := { s : Nat × Nat × (List TCert) // l_toCertS_1 a0 s.1 s.2.1 s.2.2 = l_toCertS_1 a0 (a0.length + 1) 0 (List.replicate a0.length (TCert.mk 0 0 0 0 0 0 0)) ∧ (1 ≤ s.1 ∧ a0.length < s.1 + s.2.1 ∧ s.2.2.length = a0.length) }) (fun s => stOf 23 [(0, .one (.d (.sl 7 (a0.map TCert.row))), []), (3, .one (.sref 7 0 0 s.1.2.2.length), []), (4, .one (.d (.int .i64 (↑s.1.2.1 : Int))), []), (7, .any, [.arr 7 (s.1.2.2.map TCert.row)])]) (fun s => s.1.1) ⟨((a0.length + 1), 0, (List.replicate a0.length (TCert.mk 0 0 0 0 0 0 0))), rfl, by first | omega | (dsimp only; omega) | simp⟩ (wk_keep (by simp)) ?_
  rintro ⟨⟨n1, v1_0, v1_1⟩, e1, j1⟩
  try dsimp only at e1 j1
  obtain ⟨p1, rfl⟩ : ∃ p, n1 = p + 1 := ⟨n1 - 1, by omega⟩
  simp
  refine condB (fun k2 q1 => ?_) (fun k2 q1 => ?_)
  · have h1 : (decide ((↑v1_0 : Int) < (↑a0.length : Int))) = true := by simpa using q1
    have i1 : v1_0 < a0.length := by simpa using q1
    have m2 : a0.length ≤ 9223372036854775807 := by simpa using k2 0 _ rfl
    have w1 : IntKind.i64.wrap ((v1_0 : Int) + 1) = (v1_0 : Int) + 1 := wrap_of (by omega) (by omega)
    try simp at q1
    simp [i1, rowAt_map]
    repeat (refine ⟨by intros; omega, ?_⟩)
    refine callRd rfl rfl rfl rfl (l_toCert_ok (nth a0 v1_0)) (by simp) (by simp) (by simp) ?_
    have i2 : v1_0 < v1_1.length := by omega
    simp [i2, rowAt_map, set_map (x := (l_toCert (nth a0 v1_0))) rfl]
    repeat (refine ⟨by intros; omega, ?_⟩)
    refine nxtI ⟨(p1, (v1_0 + 1), (v1_1.set v1_0 (l_toCert (nth a0 v1_0)))), ?_, ?_⟩ (by simp) (wk_keep (by simp [w1]))
    · rw [← e1]; simp only [l_toCertS_1, h1, cond_true, cond_false]
    · first | omega | (simp at *; omega)
  · have h1 : (decide ((↑v1_0 : Int) < (↑a0.length : Int))) = false := by simpa using q1
    try simp at q1
    have x1 : l_toCertS_1 a0 (a0.length + 1) 0 (List.replicate a0.length (TCert.mk 0 0 0 0 0 0 0)) = v1_1 := by rw [← e1]; simp only [l_toCertS_1, h1, cond_true, cond_false]
    simp
    refine retOwn (rv := [.tmp 2]) rfl ?_
    have f1 : l_toCertS a0 = v1_1 := by simp only [l_toCertS, x1, cond_true, cond_false]
    simp [f1]
theorem l_toArchiveS_ok (a0 : List TArchive) (u0 : Sm 68719476736 a0) : SoundAt Try.prog 123 true [[.sl 2 (a0.map TArchive.row)]] [[.sl 2 ((l_toArchiveS a0).map TArchive.row)]] := by
  refine sound_of Try.func123 rfl (by kernel_rfl) ?_
  have c1 : a0.length ≤ 68719476736 := sm_len (by simp [u0])
  simp [Try.ntmps123]
  repeat (refine ⟨by intros; omega, ?_⟩)
  refine okL fun k1 => ?_
  refine loopI (ι := { s : Nat × Nat × (List TArchive) // l_toArchiveS_1 a0 s.1 s.2.1 s.2.2 = l_toArchiveS_1 a0 (a0.length + 1) 0 (List.replicate a0.length (TArchive.mk 0 ([] : List TItem))) ∧ (1 ≤ s.1 ∧ a0.length < s.1 + s.2.1 ∧ s.2.2.length = a0.length) }) (fun s => stOf 23 [(0, .one (.d (.sl 2 (a0.map TArchive.row))), []), (3, .one (.sref 7 0 0 s.1.2.2.length), []), (4, .one (.d (.int .i64 (↑s.1.2.1 : Int))), []), (7, .any, [.arr 2 (s.1.2.2.map TArchive.row)])]) (fun s => s.1.1) ⟨((a0.length + 1), 0, (List.replicate a0.length (TArchive.mk 0 ([] : List TItem)))), rfl, by first | omega | (dsimp only; omega) | simp⟩ (wk_keep (by simp)) ?_
  rintro ⟨⟨n1, v1_0, v1_1⟩, e1, j1⟩
  try dsimp only at e1 j1
  obtain ⟨p1, rfl⟩ : ∃ p, n1 = p + 1 := ⟨n1 - 1, by omega⟩
  simp
  refine condB (fun k2 q1 => ?_) (fun k2 q1 => ?_)
  · have h1 : (decide ((↑v1_0 : Int) < (↑a0.length : Int))) = true := by simpa using q1
    have i1 : v1_0 < a0.length := by simpa using q1
    have m2 : a0.length ≤ 9223372036854775807 := by simpa using k2 0 _ rfl
    have w1 : IntKind.i64.wrap ((v1_0 : Int) + 1) = (v1_0 : Int) + 1 := wrap_of (by omega) (by omega)
    try simp at q1
    simp [i1, rowAt_map]
    repeat (refine ⟨by intros; omega, ?_⟩)
    refine callRd rfl rfl rfl rfl (l_toArchive_ok (nth a0 v1_0) (by simp [u0])) (by simp) (by simp) (by simp) ?_
    have i2 : v1_0 < v1_1.length := by omega
    simp [i2, rowAt_map, set_map (x := (l_toArchive (nth a0 v1_0))) rfl]
    repeat (refine ⟨by intros; omega, ?_⟩)
    refine nxtI ⟨(p1, (v1_0 + 1), (v1_1.set v1_0 (l_toArchive (nth a0 v1_0)))), ?_, ?_⟩ (by simp) (wk_keep (by simp [w1]))
    · rw [← e1]; simp only [l_toArchiveS_1, h1, cond_true, cond_false]
    · first | omega | (simp at *; omega)
  · have h1 : (decide ((↑v1_0 : Int) < (↑a0.length : Int))) = false := by simpa using q1
    try simp at q1
    have x1 : l_toArchiveS_1 a0 (a0.length + 1) 0 (List.replicate a0.length (TArchive.mk 0 ([] : List TItem))) = v1_1 := by rw [← e1]; simp only [l_toArchiveS_1, h1, cond_true, cond_false]
    simp
    refine retOwn (rv := [.tmp 2]) rfl ?_
    have f1 : l_toArchiveS a0 = v1_1 := by simp only [l_toArchiveS, x1, cond_true, cond_false]
    simp [f1]
theorem l_toWorld_ok (a0 : TWorld) (u0 : Sm 68719476736 a0) : SoundAt Try.prog 53 true [a0.row] [(l_toWorld a0).row] := by
  refine sound_of Try.func53 rfl (by kernel_rfl) ?_
  simp [Try.ntmps53]
  refine callOwn rfl rfl rfl rfl (l_toFrame_ok a0.Frame (by simp [u0])) (by simp) (by simp) (by simp) (by simp) ?_
  simp
  refine callOwn rfl rfl rfl rfl (l_toCertS_ok a0.Certs (by simp [u0])) (by simp) (by simp) (by simp) (by simp) ?_
  simp
  refine callOwn rfl rfl rfl rfl (l_toIntS_ok a0.Ended (by simp [u0])) (by simp) (by simp) (by simp) (by simp) ?_
  simp
  refine callOwn rfl rfl rfl rfl (l_toArchiveS_ok a0.Archives (by simp [u0])) (by simp) (by simp) (by simp) (by simp) ?_
  simp
  refine callOwn rfl rfl rfl rfl (l_toIntS_ok a0.Seqs (by simp [u0])) (by simp) (by simp) (by simp) (by simp) ?_
  simp
  refine callOwn rfl rfl rfl rfl (l_toIntS_ok a0.Lying (by simp [u0])) (by simp) (by simp) (by simp) (by simp) ?_
  simp
  refine callOwn rfl rfl rfl rfl (l_toIntS_ok a0.Forged (by simp [u0])) (by simp) (by simp) (by simp) (by simp) ?_
  simp
  refine retOwn (rv := [.cell 2 109]) rfl ?_
  have f1 : l_toWorld a0 = (TWorld.mk (TFrame.mk (l_toFrame a0.Frame).Keys (l_toFrame a0.Frame).Authorities (l_toFrame a0.Frame).Methods (l_toFrame a0.Frame).Liars (l_toFrame a0.Frame).Now) (l_toCertS a0.Certs) (l_toIntS a0.Ended) (l_toArchiveS a0.Archives) (l_toIntS a0.Seqs) (l_toIntS a0.Lying) a0.Next (l_toIntS a0.Forged)) := by simp only [l_toWorld, cond_true, cond_false]
  simp [f1]
theorem s_FindItem_ok (a0 : TArchive) (a1 : Int) : SoundAt Try.prog 121 false [a0.row, [.int .i64 a1]] [[.int .i64 (s_FindItem a0 a1)]] := by
  refine sound_of Try.func121 rfl (by kernel_rfl) ?_
  simp [Try.ntmps121]
  refine okL fun k1 => ?_
  refine loopI (ι := { s : Nat × Nat // s_FindItem_1 a0 a1 s.1 s.2 = s_FindItem_1 a0 a1 (a0.Items.length + 1) 0 ∧ (1 ≤ s.1 ∧ a0.Items.length < s.1 + s.2) }) (fun s => stOf 22 [(1, .one (.d (.int .i64 a1)), []), (2, .one (.bptr 2 0), [.box [.d (.int .i64 a0.Id), .d (.sl 16 (a0.Items.map TItem.row))]]), (5, .one (.d (.int .i64 (↑s.1.2 : Int))), [])]) (fun s => s.1.1) ⟨((a0.Items.length + 1), 0), rfl, by first | omega | (dsimp only; omega) | simp⟩ (wk_keep (by simp)) ?_
  rintro ⟨⟨n1, v1_0⟩, e1, j1⟩
  try dsimp only at e1 j1
  obtain ⟨p1, rfl⟩ : ∃ p, n1 = p + 1 := ⟨n1 - 1, by omega⟩
  simp
  refine condB (fun k2 q1 => ?_) (fun k2 q1 => ?_)
  · have h1 : (decide ((↑v1_0 : Int) < (↑a0.Items.length : Int))) = true := by simpa using q1
    have i1 : v1_0 < a0.Items.length := by simpa using q1
    have m2 : a0.Items.length ≤ 9223372036854775807 := by simpa using k2 8 _ rfl
    have w1 : IntKind.i64.wrap ((v1_0 : Int) + 1) = (v1_0 : Int) + 1 := wrap_of (by omega) (by omega)
    try simp at q1
    simp [i1, rowAt_map]
    repeat (refine ⟨by intros; omega, ?_⟩)
    refine condB (fun k3 q2 => ?_) (fun k3 q2 => ?_)
    · have h2 : ((nth a0.Items v1_0).Id == a1) = true := by simpa using q2
      try simp at q2
      have x1 : s_FindItem_1 a0 a1 (a0.Items.length + 1) 0 = .inl (↑v1_0 : Int) := by rw [← e1]; simp only [s_FindItem_1, h1, h2, cond_true, cond_false]
      simp
      refine retRd (rv := [.tmp 4]) rfl ?_
      have f1 : s_FindItem a0 a1 = (↑v1_0 : Int) := by simp only [s_FindItem, x1, cond_true, cond_false]
      simp [f1]
    · have h2 : ((nth a0.Items v1_0).Id == a1) = false := by simpa using q2
      try simp at q2
      simp
      refine nxtI ⟨(p1, (v1_0 + 1)), ?_, ?_⟩ (by simp) (wk_keep (by simp [w1]))
      · rw [← e1]; simp only [s_FindItem_1, h1, h2, cond_true, cond_false]
      · first | omega | (simp at *; omega)
  · have h1 : (decide ((↑v1_0 : Int) < (↑a0.Items.length : Int))) = false := by simpa using q1
    try simp at q1
    have x2 : s_FindItem_1 a0 a1 (a0.Items.length + 1) 0 = .inr () := by rw [← e1]; simp only [s_FindItem_1, h1, cond_true, cond_false]
    simp
    refine retRd (rv := [.tmp 4]) rfl ?_
    have f2 : s_FindItem a0 a1 = (-1) := by simp only [s_FindItem, x2, cond_true, cond_false]
    simp [f2]
theorem s_FindIn_ok (a0 : TWorld) (a1 : Int) : SoundAt Try.prog 52 false [a0.row, [.int .i64 a1]] [[.int .i64 (s_FindIn a0 a1).1], [.int .i64 (s_FindIn a0 a1).2]] := by
  refine sound_of Try.func52 rfl (by kernel_rfl) ?_
  simp [Try.ntmps52]
  refine okL fun k1 => ?_
  refine loopI (ι := { s : Nat × Nat // s_FindIn_1 a0 a1 s.1 s.2 = s_FindIn_1 a0 a1 (a0.Archives.length + 1) 0 ∧ (1 ≤ s.1 ∧ a0.Archives.length < s.1 + s.2) }) (fun s => stOf 26 [(1, .one (.d (.int .i64 a1)), []), (2, .one (.bptr 2 0), [.box [.d (.sl 5 (a0.Frame.Keys.map TKey.row)), .d (.sl 3 (a0.Frame.Authorities.map TAuthority.row)), .d (.sl 4 (a0.Frame.Methods.map TMethod.row)), .d (.int .i64 a0.Frame.Liars), .d (.int .i64 a0.Frame.Now), .d (.sl 7 (a0.Certs.map TCert.row)), .d (.sl 1 (a0.Ended.map iR)), .d (.sl 2 (a0.Archives.map TArchive.row)), .d (.sl 1 (a0.Seqs.map iR)), .d (.sl 1 (a0.Lying.map iR)), .d (.int .i64 a0.Next), .d (.sl 1 (a0.Forged.map iR))]]), (6, .one (.d (.int .i64 (↑s.1.2 : Int))), [])]) (fun s => s.1.1) ⟨((a0.Archives.length + 1), 0), rfl, by first | omega | (dsimp only; omega) | simp⟩ (wk_keep (by simp)) ?_
  rintro ⟨⟨n1, v1_0⟩, e1, j1⟩
  try dsimp only at e1 j1
  obtain ⟨p1, rfl⟩ : ∃ p, n1 = p + 1 := ⟨n1 - 1, by omega⟩
  simp
  refine condB (fun k2 q1 => ?_) (fun k2 q1 => ?_)
  · have h1 : (decide ((↑v1_0 : Int) < (↑a0.Archives.length : Int))) = true := by simpa using q1
    have i1 : v1_0 < a0.Archives.length := by simpa using q1
    have m2 : a0.Archives.length ≤ 9223372036854775807 := by simpa using k2 10 _ rfl
    have w1 : IntKind.i64.wrap ((v1_0 : Int) + 1) = (v1_0 : Int) + 1 := wrap_of (by omega) (by omega)
    try simp at q1
    simp [i1, rowAt_map]
    repeat (refine ⟨by intros; omega, ?_⟩)
    refine callRd rfl rfl rfl rfl (s_FindItem_ok (nth a0.Archives v1_0) a1) (by simp) (by simp) (by simp) ?_
    simp
    refine condB (fun k3 q2 => ?_) (fun k3 q2 => ?_)
    · have h2 : (decide ((s_FindItem (nth a0.Archives v1_0) a1) ≥ 0)) = true := by simpa using q2
      try simp at q2
      have x1 : s_FindIn_1 a0 a1 (a0.Archives.length + 1) 0 = .inl ((↑v1_0 : Int), (s_FindItem (nth a0.Archives v1_0) a1)) := by rw [← e1]; simp only [s_FindIn_1, h1, h2, cond_true, cond_false]
      simp
      refine retRd (rv := [.tmp 4, .tmp 5]) rfl ?_
      have f1 : s_FindIn a0 a1 = ((↑v1_0 : Int), (s_FindItem (nth a0.Archives v1_0) a1)) := by simp only [s_FindIn, x1, cond_true, cond_false]
      simp [f1]
    · have h2 : (decide ((s_FindItem (nth a0.Archives v1_0) a1) ≥ 0)) = false := by simpa using q2
      try simp at q2
      simp
      refine nxtI ⟨(p1, (v1_0 + 1)), ?_, ?_⟩ (by simp) (wk_keep (by simp [w1]))
      · rw [← e1]; simp only [s_FindIn_1, h1, h2, cond_true, cond_false]
      · first | omega | (simp at *; omega)
  · have h1 : (decide ((↑v1_0 : Int) < (↑a0.Archives.length : Int))) = false := by simpa using q1
    try simp at q1
    have x2 : s_FindIn_1 a0 a1 (a0.Archives.length + 1) 0 = .inr () := by rw [← e1]; simp only [s_FindIn_1, h1, cond_true, cond_false]
    simp
    refine retRd (rv := [.tmp 4, .tmp 5]) rfl ?_
    have f2 : s_FindIn a0 a1 = ((-1), (-1)) := by simp only [s_FindIn, x2, cond_true, cond_false]
    simp [f2]
theorem i_FindItem_ok (a0 : TArchive) (a1 : Int) : SoundAt Try.prog 124 false [a0.row, [.int .i64 a1]] [[.int .i64 (i_FindItem a0 a1)]] := by
  refine sound_of Try.func124 rfl (by kernel_rfl) ?_
  simp [Try.ntmps124]
  refine okL fun k1 => ?_
  refine loopI (ι := { s : Nat × Nat // i_FindItem_1 a0 a1 s.1 s.2 = i_FindItem_1 a0 a1 (a0.Items.length + 1) 0 ∧ (1 ≤ s.1 ∧ a0.Items.length < s.1 + s.2) }) (fun s => stOf 21 [(1, .one (.d (.int .i64 a1)), []), (8, .one (.d (.sl 16 (a0.Items.map TItem.row))), []), (9, .one (.d (.int .i64 (↑a0.Items.length : Int))), []), (10, .one (.d (.int .i64 (↑s.1.2 : Int))), [])]) (fun s => s.1.1) ⟨((a0.Items.length + 1), 0), rfl, by first | omega | (dsimp only; omega) | simp⟩ (wk_keep (by simp)) ?_
  rintro ⟨⟨n1, v1_0⟩, e1, j1⟩
  try dsimp only at e1 j1
  obtain ⟨p1, rfl⟩ : ∃ p, n1 = p + 1 := ⟨n1 - 1, by omega⟩
  simp
  refine condB (fun k2 q1 => ?_) (fun k2 q1 => ?_)
  · have h1 : (decide ((↑v1_0 : Int) < (↑a0.Items.length : Int))) = true := by simpa using q1
    have i1 : v1_0 < a0.Items.length := by simpa using q1
    have m2 : a0.Items.length ≤ 9223372036854775807 := by simpa using k2 8 _ rfl
    have w1 : IntKind.i64.wrap ((v1_0 : Int) + 1) = (v1_0 : Int) + 1 := wrap_of (by omega) (by omega)
    try simp at q1
    simp [i1, rowAt_map]
    repeat (refine ⟨by intros; omega, ?_⟩)
    refine condB (fun k3 q2 => ?_) (fun k3 q2 => ?_)
    · have h2 : ((nth a0.Items v1_0).Id == a1) = true := by simpa using q2
      try simp at q2
      have x1 : i_FindItem_1 a0 a1 (a0.Items.length + 1) 0 = .inl (↑v1_0 : Int) := by rw [← e1]; simp only [i_FindItem_1, h1, h2, cond_true, cond_false]
      simp
      refine retRd (rv := [.tmp 4]) rfl ?_
      have f1 : i_FindItem a0 a1 = (↑v1_0 : Int) := by simp only [i_FindItem, x1, cond_true, cond_false]
      simp [f1]
    · have h2 : ((nth a0.Items v1_0).Id == a1) = false := by simpa using q2
      try simp at q2
      simp
      refine nxtI ⟨(p1, (v1_0 + 1)), ?_, ?_⟩ (by simp) (wk_keep (by simp [w1]))
      · rw [← e1]; simp only [i_FindItem_1, h1, h2, cond_true, cond_false]
      · first | omega | (simp at *; omega)
  · have h1 : (decide ((↑v1_0 : Int) < (↑a0.Items.length : Int))) = false := by simpa using q1
    try simp at q1
    have x2 : i_FindItem_1 a0 a1 (a0.Items.length + 1) 0 = .inr () := by rw [← e1]; simp only [i_FindItem_1, h1, cond_true, cond_false]
    simp
    refine retRd (rv := [.tmp 4]) rfl ?_
    have f2 : i_FindItem a0 a1 = (-1) := by simp only [i_FindItem, x2, cond_true, cond_false]
    simp [f2]
theorem i_FindIn_ok (a0 : TWorld) (a1 : Int) : SoundAt Try.prog 54 false [a0.row, [.int .i64 a1]] [[.int .i64 (i_FindIn a0 a1).1], [.int .i64 (i_FindIn a0 a1).2]] := by
  refine sound_of Try.func54 rfl (by kernel_rfl) ?_
  simp [Try.ntmps54]
  refine okL fun k1 => ?_
  refine loopI (ι := { s : Nat × Nat // i_FindIn_1 a0 a1 s.1 s.2 = i_FindIn_1 a0 a1 (a0.Archives.length + 1) 0 ∧ (1 ≤ s.1 ∧ a0.Archives.length < s.1 + s.2) }) (fun s => stOf 25 [(1, .one (.d (.int .i64 a1)), []), (10, .one (.d (.sl 2 (a0.Archives.map TArchive.row))), []), (11, .one (.d (.int .i64 (↑a0.Archives.length : Int))), []), (12, .one (.d (.int .i64 (↑s.1.2 : Int))), [])]) (fun s => s.1.1) ⟨((a0.Archives.length + 1), 0), rfl, by first | omega | (dsimp only; omega) | simp⟩ (wk_keep (by simp)) ?_
  rintro ⟨⟨n1, v1_0⟩, e1, j1⟩
  try dsimp only at e1 j1
  obtain ⟨p1, rfl⟩ : ∃ p, n1 = p + 1 := ⟨n1 - 1, by omega⟩
  simp
  refine condB (fun k2 q1 => ?_) (fun k2 q1 => ?_)
  · have h1 : (decide ((↑v1_0 : Int) < (↑a0.Archives.length : Int))) = true := by simpa using q1
    have i1 : v1_0 < a0.Archives.length := by simpa using q1
    have m2 : a0.Archives.length ≤ 9223372036854775807 := by simpa using k2 10 _ rfl
    have w1 : IntKind.i64.wrap ((v1_0 : Int) + 1) = (v1_0 : Int) + 1 := wrap_of (by omega) (by omega)
    try simp at q1
    simp [i1, rowAt_map]
    repeat (refine ⟨by intros; omega, ?_⟩)
    refine callRd rfl rfl rfl rfl (i_FindItem_ok (nth a0.Archives v1_0) a1) (by simp) (by simp) (by simp) ?_
    simp
    refine condB (fun k3 q2 => ?_) (fun k3 q2 => ?_)
    · have h2 : (decide ((i_FindItem (nth a0.Archives v1_0) a1) ≥ 0)) = true := by simpa using q2
      try simp at q2
      have x1 : i_FindIn_1 a0 a1 (a0.Archives.length + 1) 0 = .inl ((↑v1_0 : Int), (i_FindItem (nth a0.Archives v1_0) a1)) := by rw [← e1]; simp only [i_FindIn_1, h1, h2, cond_true, cond_false]
      simp
      refine retRd (rv := [.tmp 4, .tmp 5]) rfl ?_
      have f1 : i_FindIn a0 a1 = ((↑v1_0 : Int), (i_FindItem (nth a0.Archives v1_0) a1)) := by simp only [i_FindIn, x1, cond_true, cond_false]
      simp [f1]
    · have h2 : (decide ((i_FindItem (nth a0.Archives v1_0) a1) ≥ 0)) = false := by simpa using q2
      try simp at q2
      simp
      refine nxtI ⟨(p1, (v1_0 + 1)), ?_, ?_⟩ (by simp) (wk_keep (by simp [w1]))
      · rw [← e1]; simp only [i_FindIn_1, h1, h2, cond_true, cond_false]
      · first | omega | (simp at *; omega)
  · have h1 : (decide ((↑v1_0 : Int) < (↑a0.Archives.length : Int))) = false := by simpa using q1
    try simp at q1
    have x2 : i_FindIn_1 a0 a1 (a0.Archives.length + 1) 0 = .inr () := by rw [← e1]; simp only [i_FindIn_1, h1, cond_true, cond_false]
    simp
    refine retRd (rv := [.tmp 4, .tmp 5]) rfl ?_
    have f2 : i_FindIn a0 a1 = ((-1), (-1)) := by simp only [i_FindIn, x2, cond_true, cond_false]
    simp [f2]
theorem l_eqCert_ok (a0 : TCert) (a1 : TCert) : SoundAt Try.prog 156 false [a0.row, a1.row] [[.bool (l_eqCert a0 a1)]] := by
  refine sound_of Try.func156 rfl (by kernel_rfl) ?_
  simp [Try.ntmps156]
  refine condB (fun k1 q1 => ?_) (fun k1 q1 => ?_)
  · have h1 : (a0.Serial != a1.Serial) = true := by simpa using q1
    try simp at q1
    simp
    refine retRd (rv := [.tmp 4]) rfl ?_
    have f1 : l_eqCert a0 a1 = false := by simp only [l_eqCert, h1, cond_true, cond_false]
    simp [f1]
  · have h1 : (a0.Serial != a1.Serial) = false := by simpa using q1
    try simp at q1
    simp
    refine condB (fun k2 q2 => ?_) (fun k2 q2 => ?_)
    · have h2 : (a0.Key != a1.Key) = true := by simpa using q2
      try simp at q2
      simp
      refine retRd (rv := [.tmp 4]) rfl ?_
      have f2 : l_eqCert a0 a1 = false := by simp only [l_eqCert, h1, h2, cond_true, cond_false]
      simp [f2]
    · have h2 : (a0.Key != a1.Key) = false := by simpa using q2
      try simp at q2
      simp
      refine condB (fun k3 q3 => ?_) (fun k3 q3 => ?_)
      · have h3 : (a0.Owner != a1.Owner) = true := by simpa using q3
        try simp at q3
        simp
        refine retRd (rv := [.tmp 4]) rfl ?_
        have f3 : l_eqCert a0 a1 = false := by simp only [l_eqCert, h1, h2, h3, cond_true, cond_false]
        simp [f3]
      · have h3 : (a0.Owner != a1.Owner) = false := by simpa using q3
        try simp at q3
        simp
        refine condB (fun k4 q4 => ?_) (fun k4 q4 => ?_)
        · have h4 : (a0.From != a1.From) = true := by simpa using q4
          try simp at q4
          simp
          refine retRd (rv := [.tmp 4]) rfl ?_
          have f4 : l_eqCert a0 a1 = false := by simp only [l_eqCert, h1, h2, h3, h4, cond_true, cond_false]
          simp [f4]
        · have h4 : (a0.From != a1.From) = false := by simpa using q4
          try simp at q4
          simp
          refine condB (fun k5 q5 => ?_) (fun k5 q5 => ?_)
          · have h5 : (a0.To != a1.To) = true := by simpa using q5
            try simp at q5
            simp
            refine retRd (rv := [.tmp 4]) rfl ?_
            have f5 : l_eqCert a0 a1 = false := by simp only [l_eqCert, h1, h2, h3, h4, h5, cond_true, cond_false]
            simp [f5]
          · have h5 : (a0.To != a1.To) = false := by simpa using q5
            try simp at q5
            simp
            refine condB (fun k6 q6 => ?_) (fun k6 q6 => ?_)
            · have h6 : (a0.Issuer != a1.Issuer) = true := by simpa using q6
              try simp at q6
              simp
              refine retRd (rv := [.tmp 4]) rfl ?_
              have f6 : l_eqCert a0 a1 = false := by simp only [l_eqCert, h1, h2, h3, h4, h5, h6, cond_true, cond_false]
              simp [f6]
            · have h6 : (a0.Issuer != a1.Issuer) = false := by simpa using q6
              try simp at q6
              simp
              refine condB (fun k7 q7 => ?_) (fun k7 q7 => ?_)
              · have h7 : (a0.Mark != a1.Mark) = true := by simpa using q7
                try simp at q7
                simp
                refine retRd (rv := [.tmp 4]) rfl ?_
                have f7 : l_eqCert a0 a1 = false := by simp only [l_eqCert, h1, h2, h3, h4, h5, h6, h7, cond_true, cond_false]
                simp [f7]
              · have h7 : (a0.Mark != a1.Mark) = false := by simpa using q7
                try simp at q7
                simp
                refine retRd (rv := [.tmp 4]) rfl ?_
                have f8 : l_eqCert a0 a1 = true := by simp only [l_eqCert, h1, h2, h3, h4, h5, h6, h7, cond_true, cond_false]
                simp [f8]
theorem l_eqCertS_ok (a0 : List TCert) (a1 : List TCert) : SoundAt Try.prog 125 false [[.sl 7 (a0.map TCert.row)], [.sl 7 (a1.map TCert.row)]] [[.bool (l_eqCertS a0 a1)]] := by
  refine sound_of Try.func125 rfl (by kernel_rfl) ?_
  simp [Try.ntmps125]
  refine condB (fun k1 q1 => ?_) (fun k1 q1 => ?_)
  · have h1 : ((↑a0.length : Int) != (↑a1.length : Int)) = true := by simpa using q1
    try simp at q1
    simp
    refine retRd (rv := [.tmp 4]) rfl ?_
    have f1 : l_eqCertS a0 a1 = false := by simp only [l_eqCertS, h1, cond_true, cond_false]
    simp [f1]
  · have h1 : ((↑a0.length : Int) != (↑a1.length : Int)) = false := by simpa using q1
    try simp at q1
    simp
    refine okL fun k2 => ?_
    refine loopI (ι := { s : Nat × Nat // l_eqCertS_1 a0 a1 s.1 s.2 = l_eqCertS_1 a0 a1 (a0.length + 1) 0 ∧ (1 ≤ s.1 ∧ a0.length < s.1 + s.2) }) (fun s => stOf 27 [(0, .one (.d (.sl 7 (a0.map TCert.row))), []), (1, .one (.d (.sl 7 (a1.map TCert.row))), []), (5, .one (.d (.int .i64 (↑s.1.2 : Int))), [])]) (fun s => s.1.1) ⟨((a0.length + 1), 0), rfl, by first | omega | (dsimp only; omega) | simp⟩ (wk_keep (by simp)) ?_
    rintro ⟨⟨n1, v1_0⟩, e1, j1⟩
    try dsimp only at e1 j1
    obtain ⟨p1, rfl⟩ : ∃ p, n1 = p + 1 := ⟨n1 - 1, by omega⟩
    simp
    refine condB (fun k3 q2 => ?_) (fun k3 q2 => ?_)
    · have h2 : (decide ((↑v1_0 : Int) < (↑a0.length : Int))) = true := by simpa using q2
      have i1 : v1_0 < a0.length := by simpa using q2
      have m2 : a0.length ≤ 9223372036854775807 := by simpa using k3 0 _ rfl
      have w1 : IntKind.i64.wrap ((v1_0 : Int) + 1) = (v1_0 : Int) + 1 := wrap_of (by omega) (by omega)
      try simp at q2
      simp
      refine okD fun k4 => ?_
      refine drawI mixed (by kernel_rfl) (by kernel_rfl) ?_
      have i2 : v1_0 < a1.length := by omega
      simp [i1, rowAt_map, i2]
      repeat (refine ⟨by intros; omega, ?_⟩)
      refine callRd rfl rfl rfl rfl (l_eqCert_ok (nth a0 v1_0) (nth a1 v1_0)) (by simp) (by simp) (by simp) ?_
      simp
      refine condB (fun k5 q3 => ?_) (fun k5 q3 => ?_)
      · have h3 : (!(l_eqCert (nth a0 v1_0) (nth a1 v1_0))) = true := by simpa using q3
        try simp at q3
        have x1 : l_eqCertS_1 a0 a1 (a0.length + 1) 0 = .inl false := by rw [← e1]; simp only [l_eqCertS_1, h2, h3, cond_true, cond_false]
        simp
        refine retRd (rv := [.tmp 4]) rfl ?_
        have f2 : l_eqCertS a0 a1 = false := by simp only [l_eqCertS, h1, x1, cond_true, cond_false]
        simp [f2]
      · have h3 : (!(l_eqCert (nth a0 v1_0) (nth a1 v1_0))) = false := by simpa using q3
        try simp at q3
        simp
        refine nxtI ⟨(p1, (v1_0 + 1)), ?_, ?_⟩ (by simp) (wk_keep (by simp [w1]))
        · rw [← e1]; simp only [l_eqCertS_1, h2, h3, cond_true, cond_false]
        · first | omega | (simp at *; omega)
    · have h2 : (decide ((↑v1_0 : Int) < (↑a0.length : Int))) = false := by simpa using q2
      try simp at q2
      have x2 : l_eqCertS_1 a0 a1 (a0.length + 1) 0 = .inr () := by rw [← e1]; simp only [l_eqCertS_1, h2, cond_true, cond_false]
      simp
      refine retRd (rv := [.tmp 4]) rfl ?_
      have f3 : l_eqCertS a0 a1 = true := by simp only [l_eqCertS, h1, x2, cond_true, cond_false]
      simp [f3]
theorem l_eqArchiveS_ok (a0 : List TArchive) (a1 : List TArchive) : SoundAt Try.prog 126 false [[.sl 2 (a0.map TArchive.row)], [.sl 2 (a1.map TArchive.row)]] [[.bool (l_eqArchiveS a0 a1)]] := by
  refine sound_of Try.func126 rfl (by kernel_rfl) ?_
  simp [Try.ntmps126]
  refine condB (fun k1 q1 => ?_) (fun k1 q1 => ?_)
  · have h1 : ((↑a0.length : Int) != (↑a1.length : Int)) = true := by simpa using q1
    try simp at q1
    simp
    refine retRd (rv := [.tmp 4]) rfl ?_
    have f1 : l_eqArchiveS a0 a1 = false := by simp only [l_eqArchiveS, h1, cond_true, cond_false]
    simp [f1]
  · have h1 : ((↑a0.length : Int) != (↑a1.length : Int)) = false := by simpa using q1
    try simp at q1
    simp
    refine okL fun k2 => ?_
    refine loopI (ι := { s : Nat × Nat // l_eqArchiveS_1 a0 a1 s.1 s.2 = l_eqArchiveS_1 a0 a1 (a0.length + 1) 0 ∧ (1 ≤ s.1 ∧ a0.length < s.1 + s.2) }) (fun s => stOf 27 [(0, .one (.d (.sl 2 (a0.map TArchive.row))), []), (1, .one (.d (.sl 2 (a1.map TArchive.row))), []), (5, .one (.d (.int .i64 (↑s.1.2 : Int))), [])]) (fun s => s.1.1) ⟨((a0.length + 1), 0), rfl, by first | omega | (dsimp only; omega) | simp⟩ (wk_keep (by simp)) ?_
    rintro ⟨⟨n1, v1_0⟩, e1, j1⟩
    try dsimp only at e1 j1
    obtain ⟨p1, rfl⟩ : ∃ p, n1 = p + 1 := ⟨n1 - 1, by omega⟩
    simp
    refine condB (fun k3 q2 => ?_) (fun k3 q2 => ?_)
    · have h2 : (decide ((↑v1_0 : Int) < (↑a0.length : Int))) = true := by simpa using q2
      have i1 : v1_0 < a0.length := by simpa using q2
      have m2 : a0.length ≤ 9223372036854775807 := by simpa using k3 0 _ rfl
      have w1 : IntKind.i64.wrap ((v1_0 : Int) + 1) = (v1_0 : Int) + 1 := wrap_of (by omega) (by omega)
      try simp at q2
      simp
      refine okD fun k4 => ?_
      refine drawI mixed (by kernel_rfl) (by kernel_rfl) ?_
      have i2 : v1_0 < a1.length := by omega
      simp [i1, rowAt_map, i2]
      repeat (refine ⟨by intros; omega, ?_⟩)
      refine callRd rfl rfl rfl rfl (l_eqArchive_ok (nth a0 v1_0) (nth a1 v1_0)) (by simp) (by simp) (by simp) ?_
      simp
      refine condB (fun k5 q3 => ?_) (fun k5 q3 => ?_)
      · have h3 : (!(l_eqArchive (nth a0 v1_0) (nth a1 v1_0))) = true := by simpa using q3
        try simp at q3
        have x1 : l_eqArchiveS_1 a0 a1 (a0.length + 1) 0 = .inl false := by rw [← e1]; simp only [l_eqArchiveS_1, h2, h3, cond_true, cond_false]
        simp
        refine retRd (rv := [.tmp 4]) rfl ?_
        have f2 : l_eqArchiveS a0 a1 = false := by simp only [l_eqArchiveS, h1, x1, cond_true, cond_false]
        simp [f2]
      · have h3 : (!(l_eqArchive (nth a0 v1_0) (nth a1 v1_0))) = false := by simpa using q3
        try simp at q3
        simp
        refine nxtI ⟨(p1, (v1_0 + 1)), ?_, ?_⟩ (by simp) (wk_keep (by simp [w1]))
        · rw [← e1]; simp only [l_eqArchiveS_1, h2, h3, cond_true, cond_false]
        · first | omega | (simp at *; omega)
    · have h2 : (decide ((↑v1_0 : Int) < (↑a0.length : Int))) = false := by simpa using q2
      try simp at q2
      have x2 : l_eqArchiveS_1 a0 a1 (a0.length + 1) 0 = .inr () := by rw [← e1]; simp only [l_eqArchiveS_1, h2, cond_true, cond_false]
      simp
      refine retRd (rv := [.tmp 4]) rfl ?_
      have f3 : l_eqArchiveS a0 a1 = true := by simp only [l_eqArchiveS, h1, x2, cond_true, cond_false]
      simp [f3]
theorem l_eqWorld_ok (a0 : TWorld) (a1 : TWorld) : SoundAt Try.prog 55 false [a0.row, a1.row] [[.bool (l_eqWorld a0 a1)]] := by
  refine sound_of Try.func55 rfl (by kernel_rfl) ?_
  simp [Try.ntmps55]
  refine callRd rfl rfl rfl rfl (l_eqFrame_ok a0.Frame a1.Frame) (by simp) (by simp) (by simp) ?_
  simp
  refine condB (fun k1 q1 => ?_) (fun k1 q1 => ?_)
  · have h1 : (!(l_eqFrame a0.Frame a1.Frame)) = true := by simpa using q1
    try simp at q1
    simp
    refine retRd (rv := [.tmp 4]) rfl ?_
    have f1 : l_eqWorld a0 a1 = false := by simp only [l_eqWorld, h1, cond_true, cond_false]
    simp [f1]
  · have h1 : (!(l_eqFrame a0.Frame a1.Frame)) = false := by simpa using q1
    try simp at q1
    simp
    refine callRd rfl rfl rfl rfl (l_eqCertS_ok a0.Certs a1.Certs) (by simp) (by simp) (by simp) ?_
    simp
    refine condB (fun k2 q2 => ?_) (fun k2 q2 => ?_)
    · have h2 : (!(l_eqCertS a0.Certs a1.Certs)) = true := by simpa using q2
      try simp at q2
      simp
      refine retRd (rv := [.tmp 4]) rfl ?_
      have f2 : l_eqWorld a0 a1 = false := by simp only [l_eqWorld, h1, h2, cond_true, cond_false]
      simp [f2]
    · have h2 : (!(l_eqCertS a0.Certs a1.Certs)) = false := by simpa using q2
      try simp at q2
      simp
      refine callRd rfl rfl rfl rfl (l_eqIntS_ok a0.Ended a1.Ended) (by simp) (by simp) (by simp) ?_
      simp
      refine condB (fun k3 q3 => ?_) (fun k3 q3 => ?_)
      · have h3 : (!(l_eqIntS a0.Ended a1.Ended)) = true := by simpa using q3
        try simp at q3
        simp
        refine retRd (rv := [.tmp 4]) rfl ?_
        have f3 : l_eqWorld a0 a1 = false := by simp only [l_eqWorld, h1, h2, h3, cond_true, cond_false]
        simp [f3]
      · have h3 : (!(l_eqIntS a0.Ended a1.Ended)) = false := by simpa using q3
        try simp at q3
        simp
        refine callRd rfl rfl rfl rfl (l_eqArchiveS_ok a0.Archives a1.Archives) (by simp) (by simp) (by simp) ?_
        simp
        refine condB (fun k4 q4 => ?_) (fun k4 q4 => ?_)
        · have h4 : (!(l_eqArchiveS a0.Archives a1.Archives)) = true := by simpa using q4
          try simp at q4
          simp
          refine retRd (rv := [.tmp 4]) rfl ?_
          have f4 : l_eqWorld a0 a1 = false := by simp only [l_eqWorld, h1, h2, h3, h4, cond_true, cond_false]
          simp [f4]
        · have h4 : (!(l_eqArchiveS a0.Archives a1.Archives)) = false := by simpa using q4
          try simp at q4
          simp
          refine callRd rfl rfl rfl rfl (l_eqIntS_ok a0.Seqs a1.Seqs) (by simp) (by simp) (by simp) ?_
          simp
          refine condB (fun k5 q5 => ?_) (fun k5 q5 => ?_)
          · have h5 : (!(l_eqIntS a0.Seqs a1.Seqs)) = true := by simpa using q5
            try simp at q5
            simp
            refine retRd (rv := [.tmp 4]) rfl ?_
            have f5 : l_eqWorld a0 a1 = false := by simp only [l_eqWorld, h1, h2, h3, h4, h5, cond_true, cond_false]
            simp [f5]
          · have h5 : (!(l_eqIntS a0.Seqs a1.Seqs)) = false := by simpa using q5
            try simp at q5
            simp
            refine callRd rfl rfl rfl rfl (l_eqIntS_ok a0.Lying a1.Lying) (by simp) (by simp) (by simp) ?_
            simp
            refine condB (fun k6 q6 => ?_) (fun k6 q6 => ?_)
            · have h6 : (!(l_eqIntS a0.Lying a1.Lying)) = true := by simpa using q6
              try simp at q6
              simp
              refine retRd (rv := [.tmp 4]) rfl ?_
              have f6 : l_eqWorld a0 a1 = false := by simp only [l_eqWorld, h1, h2, h3, h4, h5, h6, cond_true, cond_false]
              simp [f6]
            · have h6 : (!(l_eqIntS a0.Lying a1.Lying)) = false := by simpa using q6
              try simp at q6
              simp
              refine condB (fun k7 q7 => ?_) (fun k7 q7 => ?_)
              · have h7 : (a0.Next != a1.Next) = true := by simpa using q7
                try simp at q7
                simp
                refine retRd (rv := [.tmp 4]) rfl ?_
                have f7 : l_eqWorld a0 a1 = false := by simp only [l_eqWorld, h1, h2, h3, h4, h5, h6, h7, cond_true, cond_false]
                simp [f7]
              · have h7 : (a0.Next != a1.Next) = false := by simpa using q7
                try simp at q7
                simp
                refine callRd rfl rfl rfl rfl (l_eqIntS_ok a0.Forged a1.Forged) (by simp) (by simp) (by simp) ?_
                simp
                refine condB (fun k8 q8 => ?_) (fun k8 q8 => ?_)
                · have h8 : (!(l_eqIntS a0.Forged a1.Forged)) = true := by simpa using q8
                  try simp at q8
                  simp
                  refine retRd (rv := [.tmp 4]) rfl ?_
                  have f8 : l_eqWorld a0 a1 = false := by simp only [l_eqWorld, h1, h2, h3, h4, h5, h6, h7, h8, cond_true, cond_false]
                  simp [f8]
                · have h8 : (!(l_eqIntS a0.Forged a1.Forged)) = false := by simpa using q8
                  try simp at q8
                  simp
                  refine retRd (rv := [.tmp 4]) rfl ?_
                  have f9 : l_eqWorld a0 a1 = true := by simp only [l_eqWorld, h1, h2, h3, h4, h5, h6, h7, h8, cond_true, cond_false]
                  simp [f9]
theorem l_FnExactFindIn_ok (a0 : TWorld) (a1 : Int) (t0 : Sm maxLen a0) : SoundAt Try.prog 12 false [a0.row, [.int .i64 a1]] [[.bool (l_FnExactFindIn a0 a1)]] := by
  refine sound_of Try.func12 rfl (by kernel_rfl) ?_
  simp [Try.ntmps12]
  refine callRd rfl rfl rfl rfl (l_szWorld_ok a0 1048576) (by simp) (by simp) (by simp) ?_
  simp
  refine condB (fun k1 q1 => ?_) (fun k1 q1 => ?_)
  · have h1 : (decide ((l_szWorld a0 1048576) < 0)) = true := by simpa using q1
    try simp at q1
    simp
    refine retRd (rv := [.tmp 4]) rfl ?_
    have f1 : l_FnExactFindIn a0 a1 = true := by simp only [l_FnExactFindIn, h1, cond_true, cond_false]
    simp [f1]
  · have h1 : (decide ((l_szWorld a0 1048576) < 0)) = false := by simpa using q1
    try simp at q1
    obtain ⟨u0, y0⟩ := l_szWorld_sm a0 1048576 t0 (by omega) (by omega) (by simpa using h1)
    simp
    refine callRd rfl rfl rfl rfl (l_toWorld_ok a0 (sm_mono (n := 1048576) (by decide) (by simp [u0, l_toArchive_id, l_toArchiveS_id, l_toAuthority_id, l_toAuthorityS_id, l_toBoolS_id, l_toCert_id, l_toCertS_id, l_toDocument_id, l_toEvent_id, l_toEventS_id, l_toFrame_id, l_toIntS_id, l_toIntSS_id, l_toItem_id, l_toItemS_id, l_toKey_id, l_toKeyS_id, l_toMethod_id, l_toMethodS_id, l_toPiece_id, l_toPieceS_id, l_toRedacted_id, l_toRenewal_id, l_toRenewalS_id, l_toSignature_id, l_toStamp_id, l_toStampS_id, l_toStep_id, l_toStepS_id, l_toStrand_id, l_toStringS_id, l_toWorld_id]))) (by simp) (by simp) (by simp) ?_
    simp
    refine callRd rfl rfl rfl rfl (s_FindIn_ok (l_toWorld a0) a1) (by simp) (by simp) (by simp) ?_
    simp
    refine callRd rfl rfl rfl rfl (l_toWorld_ok a0 (sm_mono (n := 1048576) (by decide) (by simp [u0, l_toArchive_id, l_toArchiveS_id, l_toAuthority_id, l_toAuthorityS_id, l_toBoolS_id, l_toCert_id, l_toCertS_id, l_toDocument_id, l_toEvent_id, l_toEventS_id, l_toFrame_id, l_toIntS_id, l_toIntSS_id, l_toItem_id, l_toItemS_id, l_toKey_id, l_toKeyS_id, l_toMethod_id, l_toMethodS_id, l_toPiece_id, l_toPieceS_id, l_toRedacted_id, l_toRenewal_id, l_toRenewalS_id, l_toSignature_id, l_toStamp_id, l_toStampS_id, l_toStep_id, l_toStepS_id, l_toStrand_id, l_toStringS_id, l_toWorld_id]))) (by simp) (by simp) (by simp) ?_
    simp
    refine callRd rfl rfl rfl rfl (i_FindIn_ok (l_toWorld a0) a1) (by simp) (by simp) (by simp) ?_
    simp
    refine condB (fun k2 q2 => ?_) (fun k2 q2 => ?_)
    · have h2 : (((i_FindIn (l_toWorld a0) a1).1 != (s_FindIn (l_toWorld a0) a1).1) || ((i_FindIn (l_toWorld a0) a1).2 != (s_FindIn (l_toWorld a0) a1).2)) = true := by simpa using q2
      try simp at q2
      simp
      refine retRd (rv := [.tmp 4]) rfl ?_
      have f2 : l_FnExactFindIn a0 a1 = false := by simp only [l_FnExactFindIn, h1, h2, cond_true, cond_false]
      simp [f2]
    · have h2 : (((i_FindIn (l_toWorld a0) a1).1 != (s_FindIn (l_toWorld a0) a1).1) || ((i_FindIn (l_toWorld a0) a1).2 != (s_FindIn (l_toWorld a0) a1).2)) = false := by simpa using q2
      try simp at q2
      simp
      refine okD fun k3 => ?_
      refine drawI mixed (by kernel_rfl) (by kernel_rfl) ?_
      simp
      refine callRd rfl rfl rfl rfl (l_toWorld_ok a0 (sm_mono (n := 1048576) (by decide) (by simp [u0, l_toArchive_id, l_toArchiveS_id, l_toAuthority_id, l_toAuthorityS_id, l_toBoolS_id, l_toCert_id, l_toCertS_id, l_toDocument_id, l_toEvent_id, l_toEventS_id, l_toFrame_id, l_toIntS_id, l_toIntSS_id, l_toItem_id, l_toItemS_id, l_toKey_id, l_toKeyS_id, l_toMethod_id, l_toMethodS_id, l_toPiece_id, l_toPieceS_id, l_toRedacted_id, l_toRenewal_id, l_toRenewalS_id, l_toSignature_id, l_toStamp_id, l_toStampS_id, l_toStep_id, l_toStepS_id, l_toStrand_id, l_toStringS_id, l_toWorld_id]))) (by simp) (by simp) (by simp) ?_
      simp
      refine callRd rfl rfl rfl rfl (l_eqWorld_ok (l_toWorld a0) (l_toWorld a0)) (by simp) (by simp) (by simp) ?_
      simp
      refine condB (fun k4 q3 => ?_) (fun k4 q3 => ?_)
      · have h3 : (!(l_eqWorld (l_toWorld a0) (l_toWorld a0))) = true := by simpa using q3
        try simp at q3
        simp
        refine retRd (rv := [.tmp 4]) rfl ?_
        have f3 : l_FnExactFindIn a0 a1 = false := by simp only [l_FnExactFindIn, h1, h2, h3, cond_true, cond_false]
        simp [f3]
      · have h3 : (!(l_eqWorld (l_toWorld a0) (l_toWorld a0))) = false := by simpa using q3
        try simp at q3
        simp
        refine retRd (rv := [.tmp 4]) rfl ?_
        have f4 : l_FnExactFindIn a0 a1 = true := by simp only [l_FnExactFindIn, h1, h2, h3, cond_true, cond_false]
        simp [f4]
theorem s_ItemsDue_ok (a0 : TFrame) (a1 : TArchive) (a2 : Int) (u0 : Sm 68719476736 a0) (u1 : Sm 68719476736 a1) : SoundAt Try.prog 56 true [a0.row, a1.row, [.int .i64 a2]] [[.sl 1 ((s_ItemsDue a0 a1 a2).map iR)]] := by
  refine sound_of Try.func56 rfl (by kernel_rfl) ?_
  simp [Try.ntmps56]
  refine okL fun k1 => ?_
  refine loopI (ι := { s : Nat × (List Int) × Nat // s_ItemsDue_1 a0 a1 a2 s.1 s.2.1 s.2.2 = s_ItemsDue_1 a0 a1 a2 (a1.Items.length + 1) ([] : List Int) 0 ∧ (1 ≤ s.1 ∧ a1.Items.length < s.1 + s.2.2 ∧ s.2.1.length ≤ 0 + 1 * s.2.2) }) (fun s => stOf 35 [(2, .one (.d (.int .i64 a2)), []), (3, .one (.bptr 3 0), [.box [.d (.sl 5 (a0.Keys.map TKey.row)), .d (.sl 3 (a0.Authorities.map TAuthority.row)), .d (.sl 4 (a0.Methods.map TMethod.row)), .d (.int .i64 a0.Liars), .d (.int .i64 a0.Now)]]), (4, .one (.bptr 4 0), [.box [.d (.int .i64 a1.Id), .d (.sl 16 (a1.Items.map TItem.row))]]), (7, .one (.sref 7 0 0 s.1.2.1.length), [.arr 1 (s.1.2.1.map iR)]), (8, .one (.d (.int .i64 (↑s.1.2.2 : Int))), [])]) (fun s => s.1.1) ⟨((a1.Items.length + 1), ([] : List Int), 0), rfl, by first | omega | (dsimp only; omega) | simp⟩ (wk_of [((7, 0), some (9, 0))] [] rfl (by simp)) ?_
  rintro ⟨⟨n1, v1_0, v1_1⟩, e1, j1⟩
  try dsimp only at e1 j1
  obtain ⟨p1, rfl⟩ : ∃ p, n1 = p + 1 := ⟨n1 - 1, by omega⟩
  simp
  refine condB (fun k2 q1 => ?_) (fun k2 q1 => ?_)
  · have h1 : (decide ((↑v1_1 : Int) < (↑a1.Items.length : Int))) = true := by simpa using q1
    have i1 : v1_1 < a1.Items.length := by simpa using q1
    have m2 : a1.Items.length ≤ 9223372036854775807 := by simpa using k2 12 _ rfl
    have c1 : a1.Items.length ≤ 68719476736 := sm_len (by simp [u0, u1])
    have w1 : IntKind.i64.wrap ((v1_1 : Int) + 1) = (v1_1 : Int) + 1 := wrap_of (by omega) (by omega)
    try simp at q1
    simp
    refine okD fun k3 => ?_
    refine drawI mixed (by kernel_rfl) (by kernel_rfl) ?_
    simp [i1, rowAt_map]
    repeat (refine ⟨by intros; omega, ?_⟩)
    refine callRd rfl rfl rfl rfl (s_NeedsRenewal_ok a0 (nth a1.Items v1_1) a2) (by simp) (by simp) (by simp) ?_
    simp
    refine condB (fun k4 q2 => ?_) (fun k4 q2 => ?_)
    · have h2 : (s_NeedsRenewal a0 (nth a1.Items v1_1) a2) = true := by simpa using q2
      try simp at q2
      simp [i1, rowAt_map]
      repeat (refine ⟨by intros; omega, ?_⟩)
      refine nxtI ⟨(p1, (v1_0 ++ ([(nth a1.Items v1_1).Id] : List Int)), (v1_1 + 1)), ?_, ?_⟩ (by simp) (wk_of [((7, 0), some (33, 0))] [] rfl (by simp [w1]))
      · rw [← e1]; simp only [s_ItemsDue_1, h1, h2, cond_true, cond_false]
      · first | omega | (simp at *; omega)
    · have h2 : (s_NeedsRenewal a0 (nth a1.Items v1_1) a2) = false := by simpa using q2
      try simp at q2
      simp
      refine nxtI ⟨(p1, v1_0, (v1_1 + 1)), ?_, ?_⟩ (by simp) (wk_keep (by simp [w1]))
      · rw [← e1]; simp only [s_ItemsDue_1, h1, h2, cond_true, cond_false]
      · first | omega | (simp at *; omega)
  · have h1 : (decide ((↑v1_1 : Int) < (↑a1.Items.length : Int))) = false := by simpa using q1
    try simp at q1
    have x1 : s_ItemsDue_1 a0 a1 a2 (a1.Items.length + 1) ([] : List Int) 0 = v1_0 := by rw [← e1]; simp only [s_ItemsDue_1, h1, cond_true, cond_false]
    simp
    refine retOwn (rv := [.tmp 6]) rfl ?_
    have f1 : s_ItemsDue a0 a1 a2 = v1_0 := by simp only [s_ItemsDue, x1, cond_true, cond_false]
    simp [f1]
theorem i_ItemsDue_ok (a0 : TFrame) (a1 : TArchive) (a2 : Int) (u0 : Sm 68719476736 a0) (u1 : Sm 68719476736 a1) : SoundAt Try.prog 57 true [a0.row, a1.row, [.int .i64 a2]] [[.sl 1 ((i_ItemsDue a0 a1 a2).map iR)]] := by
  refine sound_of Try.func57 rfl (by kernel_rfl) ?_
  simp [Try.ntmps57]
  refine okL fun k1 => ?_
  refine loopI (ι := { s : Nat × (List Int) × Nat // i_ItemsDue_1 a0 a1 a2 s.1 s.2.1 s.2.2 = i_ItemsDue_1 a0 a1 a2 (a1.Items.length + 1) ([] : List Int) 0 ∧ (1 ≤ s.1 ∧ a1.Items.length < s.1 + s.2.2 ∧ s.2.1.length ≤ 0 + 1 * s.2.2) }) (fun s => stOf 28 [(2, .one (.d (.int .i64 a2)), []), (3, .one (.bptr 3 0), [.box [.d (.sl 5 (a0.Keys.map TKey.row)), .d (.sl 3 (a0.Authorities.map TAuthority.row)), .d (.sl 4 (a0.Methods.map TMethod.row)), .d (.int .i64 a0.Liars), .d (.int .i64 a0.Now)]]), (7, .one (.sref 7 0 0 s.1.2.1.length), [.arr 1 (s.1.2.1.map iR)]), (11, .one (.d (.sl 16 (a1.Items.map TItem.row))), []), (12, .one (.d (.int .i64 (↑a1.Items.length : Int))), []), (13, .one (.d (.int .i64 (↑s.1.2.2 : Int))), [])]) (fun s => s.1.1) ⟨((a1.Items.length + 1), ([] : List Int), 0), rfl, by first | omega | (dsimp only; omega) | simp⟩ (wk_of [((7, 0), none)] [] rfl (by simp)) ?_
  rintro ⟨⟨n1, v1_0, v1_1⟩, e1, j1⟩
  try dsimp only at e1 j1
  obtain ⟨p1, rfl⟩ : ∃ p, n1 = p + 1 := ⟨n1 - 1, by omega⟩
  simp
  refine condB (fun k2 q1 => ?_) (fun k2 q1 => ?_)
  · have h1 : (decide ((↑v1_1 : Int) < (↑a1.Items.length : Int))) = true := by simpa using q1
    have i1 : v1_1 < a1.Items.length := by simpa using q1
    have m2 : a1.Items.length ≤ 9223372036854775807 := by simpa using k2 11 _ rfl
    have c1 : a1.Items.length ≤ 68719476736 := sm_len (by simp [u0, u1])
    have w1 : IntKind.i64.wrap ((v1_1 : Int) + 1) = (v1_1 : Int) + 1 := wrap_of (by omega) (by omega)
    try simp at q1
    simp [i1, rowAt_map]
    repeat (refine ⟨by intros; omega, ?_⟩)
    refine callRd rfl rfl rfl rfl (i_NeedsRenewal_ok a0 (nth a1.Items v1_1) a2) (by simp) (by simp) (by simp) ?_
    simp
    refine condB (fun k3 q2 => ?_) (fun k3 q2 => ?_)
    · have h2 : (i_NeedsRenewal a0 (nth a1.Items v1_1) a2) = true := by simpa using q2
      try simp at q2
      simp
      repeat (refine ⟨by intros; omega, ?_⟩)
      refine nxtI ⟨(p1, (v1_0 ++ ([(nth a1.Items v1_1).Id] : List Int)), (v1_1 + 1)), ?_, ?_⟩ (by simp) (wk_of [((7, 0), some (25, 0))] [] rfl (by simp [w1]))
      · rw [← e1]; simp only [i_ItemsDue_1, h1, h2, cond_true, cond_false]
      · first | omega | (simp at *; omega)
    · have h2 : (i_NeedsRenewal a0 (nth a1.Items v1_1) a2) = false := by simpa using q2
      try simp at q2
      simp
      refine nxtI ⟨(p1, v1_0, (v1_1 + 1)), ?_, ?_⟩ (by simp) (wk_keep (by simp [w1]))
      · rw [← e1]; simp only [i_ItemsDue_1, h1, h2, cond_true, cond_false]
      · first | omega | (simp at *; omega)
  · have h1 : (decide ((↑v1_1 : Int) < (↑a1.Items.length : Int))) = false := by simpa using q1
    try simp at q1
    have x1 : i_ItemsDue_1 a0 a1 a2 (a1.Items.length + 1) ([] : List Int) 0 = v1_0 := by rw [← e1]; simp only [i_ItemsDue_1, h1, cond_true, cond_false]
    simp
    refine retOwn (rv := [.tmp 6]) rfl ?_
    have f1 : i_ItemsDue a0 a1 a2 = v1_0 := by simp only [i_ItemsDue, x1, cond_true, cond_false]
    simp [f1]
theorem l_heldIntS_ok (a0 : List Int) (a1 : Int) : SoundAt Try.prog 62 false [[.sl 1 (a0.map iR)], [.int .i64 a1]] [[.int .i64 (l_heldIntS a0 a1)]] := by
  refine sound_of Try.func62 rfl (by kernel_rfl) ?_
  simp [Try.ntmps62]
  refine okL fun k1 => ?_
  refine loopI (ι := { s : Nat × Int × Nat // l_heldIntS_1 a0 s.1 s.2.1 s.2.2 = l_heldIntS_1 a0 (a0.length + 1) a1 0 ∧ (1 ≤ s.1 ∧ a0.length < s.1 + s.2.2) }) (fun s => stOf 21 [(0, .one (.d (.sl 1 (a0.map iR))), []), (1, .one (.d (.int .i64 s.1.2.1)), []), (5, .one (.d (.int .i64 (↑s.1.2.2 : Int))), [])]) (fun s => s.1.1) ⟨((a0.length + 1), a1, 0), rfl, by first | omega | (dsimp only; omega) | simp⟩ (wk_keep (by simp)) ?_
  rintro ⟨⟨n1, v1_0, v1_1⟩, e1, j1⟩
  try dsimp only at e1 j1
  obtain ⟨p1, rfl⟩ : ∃ p, n1 = p + 1 := ⟨n1 - 1, by omega⟩
  simp
  refine condB (fun k2 q1 => ?_) (fun k2 q1 => ?_)
  · have h1 : (decide ((↑v1_1 : Int) < (↑a0.length : Int))) = true := by simpa using q1
    have i1 : v1_1 < a0.length := by simpa using q1
    have m2 : a0.length ≤ 9223372036854775807 := by simpa using k2 0 _ rfl
    have w1 : IntKind.i64.wrap ((v1_1 : Int) + 1) = (v1_1 : Int) + 1 := wrap_of (by omega) (by omega)
    try simp at q1
    simp [i1, rowAt_map]
    repeat (refine ⟨by intros; omega, ?_⟩)
    refine condB (fun k3 q2 => ?_) (fun k3 q2 => ?_)
    · have h2 : ((nth a0 v1_1) != v1_0) = true := by simpa using q2
      try simp at q2
      have x1 : l_heldIntS_1 a0 (a0.length + 1) a1 0 = .inl (-1) := by rw [← e1]; simp only [l_heldIntS_1, h1, h2, cond_true, cond_false]
      simp
      refine retRd (rv := [.tmp 4]) rfl ?_
      have f1 : l_heldIntS a0 a1 = (-1) := by simp only [l_heldIntS, x1, cond_true, cond_false]
      simp [f1]
    · have h2 : ((nth a0 v1_1) != v1_0) = false := by simpa using q2
      try simp at q2
      simp
      refine nxtI ⟨(p1, (W (v1_0 + 1)), (v1_1 + 1)), ?_, ?_⟩ (by simp) (wk_keep (by simp [w1]))
      · rw [← e1]; simp only [l_heldIntS_1, h1, h2, cond_true, cond_false]
      · first | omega | (simp at *; omega)
  · have h1 : (decide ((↑v1_1 : Int) < (↑a0.length : Int))) = false := by simpa using q1
    try simp at q1
    have x2 : l_heldIntS_1 a0 (a0.length + 1) a1 0 = .inr v1_0 := by rw [← e1]; simp only [l_heldIntS_1, h1, cond_true, cond_false]
    simp
    refine retRd (rv := [.tmp 4]) rfl ?_
    have f2 : l_heldIntS a0 a1 = v1_0 := by simp only [l_heldIntS, x2, cond_true, cond_false]
    simp [f2]
theorem s_EqualInts_ok (a0 : List Int) (a1 : List Int) : SoundAt Try.prog 133 false [[.sl 1 (a0.map iR)], [.sl 1 (a1.map iR)]] [[.bool (s_EqualInts a0 a1)]] := by
  refine sound_of Try.func133 rfl (by kernel_rfl) ?_
  simp [Try.ntmps133]
  refine condB (fun k1 q1 => ?_) (fun k1 q1 => ?_)
  · have h1 : ((↑a0.length : Int) != (↑a1.length : Int)) = true := by simpa using q1
    try simp at q1
    simp
    refine retRd (rv := [.tmp 4]) rfl ?_
    have f1 : s_EqualInts a0 a1 = false := by simp only [s_EqualInts, h1, cond_true, cond_false]
    simp [f1]
  · have h1 : ((↑a0.length : Int) != (↑a1.length : Int)) = false := by simpa using q1
    try simp at q1
    simp
    refine okL fun k2 => ?_
    refine loopI (ι := { s : Nat × Nat // s_EqualInts_1 a0 a1 s.1 s.2 = s_EqualInts_1 a0 a1 (a0.length + 1) 0 ∧ (1 ≤ s.1 ∧ a0.length < s.1 + s.2) }) (fun s => stOf 26 [(0, .one (.d (.sl 1 (a0.map iR))), []), (1, .one (.d (.sl 1 (a1.map iR))), []), (5, .one (.d (.int .i64 (↑s.1.2 : Int))), [])]) (fun s => s.1.1) ⟨((a0.length + 1), 0), rfl, by first | omega | (dsimp only; omega) | simp⟩ (wk_keep (by simp)) ?_
    rintro ⟨⟨n1, v1_0⟩, e1, j1⟩
    try dsimp only at e1 j1
    obtain ⟨p1, rfl⟩ : ∃ p, n1 = p + 1 := ⟨n1 - 1, by omega⟩
    simp
    refine condB (fun k3 q2 => ?_) (fun k3 q2 => ?_)
    · have h2 : (decide ((↑v1_0 : Int) < (↑a0.length : Int))) = true := by simpa using q2
      have i1 : v1_0 < a0.length := by simpa using q2
      have m2 : a0.length ≤ 9223372036854775807 := by simpa using k3 0 _ rfl
      have w1 : IntKind.i64.wrap ((v1_0 : Int) + 1) = (v1_0 : Int) + 1 := wrap_of (by omega) (by omega)
      try simp at q2
      simp
      refine okD fun k4 => ?_
      refine drawI mixed (by kernel_rfl) (by kernel_rfl) ?_
      have i2 : v1_0 < a1.length := by omega
      simp [i1, rowAt_map, i2]
      repeat (refine ⟨by intros; omega, ?_⟩)
      refine condB (fun k5 q3 => ?_) (fun k5 q3 => ?_)
      · have h3 : ((nth a0 v1_0) != (nth a1 v1_0)) = true := by simpa using q3
        try simp at q3
        have x1 : s_EqualInts_1 a0 a1 (a0.length + 1) 0 = .inl false := by rw [← e1]; simp only [s_EqualInts_1, h2, h3, cond_true, cond_false]
        simp
        refine retRd (rv := [.tmp 4]) rfl ?_
        have f2 : s_EqualInts a0 a1 = false := by simp only [s_EqualInts, h1, x1, cond_true, cond_false]
        simp [f2]
      · have h3 : ((nth a0 v1_0) != (nth a1 v1_0)) = false := by simpa using q3
        try simp at q3
        simp
        refine nxtI ⟨(p1, (v1_0 + 1)), ?_, ?_⟩ (by simp) (wk_keep (by simp [w1]))
        · rw [← e1]; simp only [s_EqualInts_1, h2, h3, cond_true, cond_false]
        · first | omega | (simp at *; omega)
    · have h2 : (decide ((↑v1_0 : Int) < (↑a0.length : Int))) = false := by simpa using q2
      try simp at q2
      have x2 : s_EqualInts_1 a0 a1 (a0.length + 1) 0 = .inr () := by rw [← e1]; simp only [s_EqualInts_1, h2, cond_true, cond_false]
      simp
      refine retRd (rv := [.tmp 4]) rfl ?_
      have f3 : s_EqualInts a0 a1 = true := by simp only [s_EqualInts, h1, x2, cond_true, cond_false]
      simp [f3]
theorem s_EqualDocuments_ok (a0 : TDocument) (a1 : TDocument) : SoundAt Try.prog 160 false [a0.row, a1.row] [[.bool (s_EqualDocuments a0 a1)]] := by
  refine sound_of Try.func160 rfl (by kernel_rfl) ?_
  simp [Try.ntmps160]
  refine callG rfl rfl rfl rfl rfl rfl (fun _ => (s_EqualInts_ok a0.Salts a1.Salts)) (by simp) (by simp) (by simp) (by simp) ?_
  simp
  refine condB (fun k1 q1 => ?_) (fun k1 q1 => ?_)
  · have h1 : (((a0.Title != a1.Title) || ((↑a0.Parts.length : Int) != (↑a1.Parts.length : Int))) || (!(s_EqualInts a0.Salts a1.Salts))) = true := by simpa using q1
    try simp at q1
    simp
    refine retRd (rv := [.tmp 4]) rfl ?_
    have f1 : s_EqualDocuments a0 a1 = false := by simp only [s_EqualDocuments, h1, cond_true, cond_false]
    simp [f1]
  · have h1 : (((a0.Title != a1.Title) || ((↑a0.Parts.length : Int) != (↑a1.Parts.length : Int))) || (!(s_EqualInts a0.Salts a1.Salts))) = false := by simpa using q1
    try simp at q1
    simp
    refine okL fun k2 => ?_
    refine loopI (ι := { s : Nat × Nat // s_EqualDocuments_1 a0 a1 s.1 s.2 = s_EqualDocuments_1 a0 a1 (a0.Parts.length + 1) 0 ∧ (1 ≤ s.1 ∧ a0.Parts.length < s.1 + s.2) }) (fun s => stOf 46 [(2, .one (.bptr 2 0), [.box [.d (.int .i64 a0.Title), .d (.sl 1 (a0.Parts.map sR)), .d (.sl 1 (a0.Salts.map iR))]]), (3, .one (.bptr 3 0), [.box [.d (.int .i64 a1.Title), .d (.sl 1 (a1.Parts.map sR)), .d (.sl 1 (a1.Salts.map iR))]]), (5, .one (.d (.int .i64 (↑s.1.2 : Int))), [])]) (fun s => s.1.1) ⟨((a0.Parts.length + 1), 0), rfl, by first | omega | (dsimp only; omega) | simp⟩ (wk_keep (by simp)) ?_
    rintro ⟨⟨n1, v1_0⟩, e1, j1⟩
    try dsimp only at e1 j1
    obtain ⟨p1, rfl⟩ : ∃ p, n1 = p + 1 := ⟨n1 - 1, by omega⟩
    simp
    refine condB (fun k3 q2 => ?_) (fun k3 q2 => ?_)
    · have h2 : (decide ((↑v1_0 : Int) < (↑a0.Parts.length : Int))) = true := by simpa using q2
      have i1 : v1_0 < a0.Parts.length := by simpa using q2
      have m2 : a0.Parts.length ≤ 9223372036854775807 := by simpa using k3 30 _ rfl
      have w1 : IntKind.i64.wrap ((v1_0 : Int) + 1) = (v1_0 : Int) + 1 := wrap_of (by omega) (by omega)
      try simp at q2
      simp
      refine okD fun k4 => ?_
      refine drawI mixed (by kernel_rfl) (by kernel_rfl) ?_
      have i2 : v1_0 < a1.Parts.length := by omega
      simp [i1, rowAt_map, i2]
      repeat (refine ⟨by intros; omega, ?_⟩)
      refine condB (fun k5 q3 => ?_) (fun k5 q3 => ?_)
      · have h3 : (!decide ((nth a0.Parts v1_0) = (nth a1.Parts v1_0))) = true := by simpa using q3
        try simp at q3
        have x1 : s_EqualDocuments_1 a0 a1 (a0.Parts.length + 1) 0 = .inl false := by rw [← e1]; simp only [s_EqualDocuments_1, h2, h3, cond_true, cond_false]
        simp
        refine retRd (rv := [.tmp 4]) rfl ?_
        have f2 : s_EqualDocuments a0 a1 = false := by simp only [s_EqualDocuments, h1, x1, cond_true, cond_false]
        simp [f2]
      · have h3 : (!decide ((nth a0.Parts v1_0) = (nth a1.Parts v1_0))) = false := by simpa using q3
        try simp at q3
        simp
        refine nxtI ⟨(p1, (v1_0 + 1)), ?_, ?_⟩ (by simp) (wk_keep (by simp [w1]))
        · rw [← e1]; simp only [s_EqualDocuments_1, h2, h3, cond_true, cond_false]
        · first | omega | (simp at *; omega)
    · have h2 : (decide ((↑v1_0 : Int) < (↑a0.Parts.length : Int))) = false := by simpa using q2
      try simp at q2
      have x2 : s_EqualDocuments_1 a0 a1 (a0.Parts.length + 1) 0 = .inr () := by rw [← e1]; simp only [s_EqualDocuments_1, h2, cond_true, cond_false]
      simp
      refine retRd (rv := [.tmp 4]) rfl ?_
      have f3 : s_EqualDocuments a0 a1 = true := by simp only [s_EqualDocuments, h1, x2, cond_true, cond_false]
      simp [f3]
theorem s_EqualPieces_ok (a0 : TPiece) (a1 : TPiece) : SoundAt Try.prog 176 false [a0.row, a1.row] [[.bool (s_EqualPieces a0 a1)]] := by
  refine sound_of Try.func176 rfl (by kernel_rfl) ?_
  simp [Try.ntmps176]
  refine callG rfl rfl rfl rfl rfl rfl (fun _ => (s_EqualInts_ok a0.Ints a1.Ints)) (by simp) (by simp) (by simp) (by simp) ?_
  simp
  refine retRd (rv := [.tmp 4]) rfl ?_
  have f1 : s_EqualPieces a0 a1 = (((a0.Key == a1.Key) && (a0.Mark == a1.Mark)) && (s_EqualInts a0.Ints a1.Ints)) := by simp only [s_EqualPieces, cond_true, cond_false]
  simp [f1]
theorem s_EqualRenewals_ok (a0 : TRenewal) (a1 : TRenewal) : SoundAt Try.prog 177 false [a0.row, a1.row] [[.bool (s_EqualRenewals a0 a1)]] := by
  refine sound_of Try.func177 rfl (by kernel_rfl) ?_
  simp [Try.ntmps177]
  refine condB (fun k1 q1 => ?_) (fun k1 q1 => ?_)
  · have h1 : (((((a0.Count != a1.Count) || (a0.Method != a1.Method)) || (a0.Root != a1.Root)) || ((↑a0.Path.length : Int) != (↑a1.Path.length : Int))) || ((↑a0.Stamps.length : Int) != (↑a1.Stamps.length : Int))) = true := by simpa using q1
    try simp at q1
    simp
    refine retRd (rv := [.tmp 4]) rfl ?_
    have f1 : s_EqualRenewals a0 a1 = false := by simp only [s_EqualRenewals, h1, cond_true, cond_false]
    simp [f1]
  · have h1 : (((((a0.Count != a1.Count) || (a0.Method != a1.Method)) || (a0.Root != a1.Root)) || ((↑a0.Path.length : Int) != (↑a1.Path.length : Int))) || ((↑a0.Stamps.length : Int) != (↑a1.Stamps.length : Int))) = false := by simpa using q1
    try simp at q1
    simp
    refine okL fun k2 => ?_
    refine loopI (ι := { s : Nat × Nat // s_EqualRenewals_1 a0 a1 s.1 s.2 = s_EqualRenewals_1 a0 a1 (a0.Path.length + 1) 0 ∧ (1 ≤ s.1 ∧ a0.Path.length < s.1 + s.2) }) (fun s => stOf 80 [(2, .one (.bptr 2 0), [.box [.d (.int .i64 a0.Count), .d (.int .i64 a0.Method), .d (.int .i64 a0.Root), .d (.sl 2 (a0.Path.map TStep.row)), .d (.sl 5 (a0.Stamps.map TStamp.row))]]), (3, .one (.bptr 3 0), [.box [.d (.int .i64 a1.Count), .d (.int .i64 a1.Method), .d (.int .i64 a1.Root), .d (.sl 2 (a1.Path.map TStep.row)), .d (.sl 5 (a1.Stamps.map TStamp.row))]]), (5, .one (.d (.int .i64 (↑s.1.2 : Int))), [])]) (fun s => s.1.1) ⟨((a0.Path.length + 1), 0), rfl, by first | omega | (dsimp only; omega) | simp⟩ (wk_keep (by simp)) ?_
    rintro ⟨⟨n1, v1_0⟩, e1, j1⟩
    try dsimp only at e1 j1
    obtain ⟨p1, rfl⟩ : ∃ p, n1 = p + 1 := ⟨n1 - 1, by omega⟩
    simp
    refine condB (fun k3 q2 => ?_) (fun k3 q2 => ?_)
    · have h2 : (decide ((↑v1_0 : Int) < (↑a0.Path.length : Int))) = true := by simpa using q2
      have i1 : v1_0 < a0.Path.length := by simpa using q2
      have m2 : a0.Path.length ≤ 9223372036854775807 := by simpa using k3 46 _ rfl
      have w1 : IntKind.i64.wrap ((v1_0 : Int) + 1) = (v1_0 : Int) + 1 := wrap_of (by omega) (by omega)
      try simp at q2
      simp
      refine okD fun k4 => ?_
      refine drawI mixed (by kernel_rfl) (by kernel_rfl) ?_
      have i2 : v1_0 < a1.Path.length := by omega
      simp [i1, rowAt_map, i2]
      repeat (refine ⟨by intros; omega, ?_⟩)
      refine condB (fun k5 q3 => ?_) (fun k5 q3 => ?_)
      · have h3 : (!(((nth a0.Path v1_0).Digest == (nth a1.Path v1_0).Digest) && ((nth a0.Path v1_0).Left == (nth a1.Path v1_0).Left))) = true := by simpa using q3
        try simp at q3
        have x1 : s_EqualRenewals_1 a0 a1 (a0.Path.length + 1) 0 = .inl false := by rw [← e1]; simp only [s_EqualRenewals_1, h2, h3, cond_true, cond_false]
        simp
        refine retRd (rv := [.tmp 4]) rfl ?_
        have f2 : s_EqualRenewals a0 a1 = false := by simp only [s_EqualRenewals, h1, x1, cond_true, cond_false]
        simp [f2]
      · have h3 : (!(((nth a0.Path v1_0).Digest == (nth a1.Path v1_0).Digest) && ((nth a0.Path v1_0).Left == (nth a1.Path v1_0).Left))) = false := by simpa using q3
        try simp at q3
        simp
        refine nxtI ⟨(p1, (v1_0 + 1)), ?_, ?_⟩ (by simp) (wk_keep (by simp [w1]))
        · rw [← e1]; simp only [s_EqualRenewals_1, h2, h3, cond_true, cond_false]
        · first | omega | (simp at *; omega)
    · have h2 : (decide ((↑v1_0 : Int) < (↑a0.Path.length : Int))) = false := by simpa using q2
      try simp at q2
      have x2 : s_EqualRenewals_1 a0 a1 (a0.Path.length + 1) 0 = .inr () := by rw [← e1]; simp only [s_EqualRenewals_1, h2, cond_true, cond_false]
      simp
      refine okL fun k6 => ?_
      refine loopI (ι := { s : Nat × Nat // s_EqualRenewals_2 a0 a1 s.1 s.2 = s_EqualRenewals_2 a0 a1 (a0.Stamps.length + 1) 0 ∧ (1 ≤ s.1 ∧ a0.Stamps.length < s.1 + s.2) }) (fun s => stOf 80 [(2, .one (.bptr 2 0), [.box [.d (.int .i64 a0.Count), .d (.int .i64 a0.Method), .d (.int .i64 a0.Root), .d (.sl 2 (a0.Path.map TStep.row)), .d (.sl 5 (a0.Stamps.map TStamp.row))]]), (3, .one (.bptr 3 0), [.box [.d (.int .i64 a1.Count), .d (.int .i64 a1.Method), .d (.int .i64 a1.Root), .d (.sl 2 (a1.Path.map TStep.row)), .d (.sl 5 (a1.Stamps.map TStamp.row))]]), (6, .one (.d (.int .i64 (↑s.1.2 : Int))), [])]) (fun s => s.1.1) ⟨((a0.Stamps.length + 1), 0), rfl, by first | omega | (dsimp only; omega) | simp⟩ (wk_keep (by simp)) ?_
      rintro ⟨⟨n2, v2_0⟩, e2, j2⟩
      try dsimp only at e2 j2
      obtain ⟨p2, rfl⟩ : ∃ p, n2 = p + 1 := ⟨n2 - 1, by omega⟩
      simp
      refine condB (fun k7 q4 => ?_) (fun k7 q4 => ?_)
      · have h4 : (decide ((↑v2_0 : Int) < (↑a0.Stamps.length : Int))) = true := by simpa using q4
        have i3 : v2_0 < a0.Stamps.length := by simpa using q4
        have m4 : a0.Stamps.length ≤ 9223372036854775807 := by simpa using k7 64 _ rfl
        have w2 : IntKind.i64.wrap ((v2_0 : Int) + 1) = (v2_0 : Int) + 1 := wrap_of (by omega) (by omega)
        try simp at q4
        simp
        refine okD fun k8 => ?_
        refine drawI mixed (by kernel_rfl) (by kernel_rfl) ?_
        have i4 : v2_0 < a1.Stamps.length := by omega
        simp [i3, rowAt_map, i4]
        repeat (refine ⟨by intros; omega, ?_⟩)
        refine condB (fun k9 q5 => ?_) (fun k9 q5 => ?_)
        · have h5 : (!(((nth a0.Stamps v2_0).Authority == (nth a1.Stamps v2_0).Authority) && (((nth a0.Stamps v2_0).Seq == (nth a1.Stamps v2_0).Seq) && (((nth a0.Stamps v2_0).Time == (nth a1.Stamps v2_0).Time) && (((nth a0.Stamps v2_0).Digest == (nth a1.Stamps v2_0).Digest) && ((nth a0.Stamps v2_0).Mark == (nth a1.Stamps v2_0).Mark)))))) = true := by simpa using q5
          try simp at q5
          have x3 : s_EqualRenewals_2 a0 a1 (a0.Stamps.length + 1) 0 = .inl false := by rw [← e2]; simp only [s_EqualRenewals_2, h4, h5, cond_true, cond_false]
          simp
          refine retRd (rv := [.tmp 4]) rfl ?_
          have f3 : s_EqualRenewals a0 a1 = false := by simp only [s_EqualRenewals, h1, x2, x3, cond_true, cond_false]
          simp [f3]
        · have h5 : (!(((nth a0.Stamps v2_0).Authority == (nth a1.Stamps v2_0).Authority) && (((nth a0.Stamps v2_0).Seq == (nth a1.Stamps v2_0).Seq) && (((nth a0.Stamps v2_0).Time == (nth a1.Stamps v2_0).Time) && (((nth a0.Stamps v2_0).Digest == (nth a1.Stamps v2_0).Digest) && ((nth a0.Stamps v2_0).Mark == (nth a1.Stamps v2_0).Mark)))))) = false := by simpa using q5
          try simp at q5
          simp
          refine nxtI ⟨(p2, (v2_0 + 1)), ?_, ?_⟩ (by simp) (wk_keep (by simp [w2]))
          · rw [← e2]; simp only [s_EqualRenewals_2, h4, h5, cond_true, cond_false]
          · first | omega | (simp at *; omega)
      · have h4 : (decide ((↑v2_0 : Int) < (↑a0.Stamps.length : Int))) = false := by simpa using q4
        try simp at q4
        have x4 : s_EqualRenewals_2 a0 a1 (a0.Stamps.length + 1) 0 = .inr () := by rw [← e2]; simp only [s_EqualRenewals_2, h4, cond_true, cond_false]
        simp
        refine retRd (rv := [.tmp 4]) rfl ?_
        have f4 : s_EqualRenewals a0 a1 = true := by simp only [s_EqualRenewals, h1, x2, x4, cond_true, cond_false]
        simp [f4]
theorem s_EqualStrands_ok (a0 : TStrand) (a1 : TStrand) : SoundAt Try.prog 161 false [a0.row, a1.row] [[.bool (s_EqualStrands a0 a1)]] := by
  refine sound_of Try.func161 rfl (by kernel_rfl) ?_
  simp [Try.ntmps161]
  refine condB (fun k1 q1 => ?_) (fun k1 q1 => ?_)
  · have h1 : (((↑a0.Pieces.length : Int) != (↑a1.Pieces.length : Int)) || ((↑a0.Chain.length : Int) != (↑a1.Chain.length : Int))) = true := by simpa using q1
    try simp at q1
    simp
    refine retRd (rv := [.tmp 4]) rfl ?_
    have f1 : s_EqualStrands a0 a1 = false := by simp only [s_EqualStrands, h1, cond_true, cond_false]
    simp [f1]
  · have h1 : (((↑a0.Pieces.length : Int) != (↑a1.Pieces.length : Int)) || ((↑a0.Chain.length : Int) != (↑a1.Chain.length : Int))) = false := by simpa using q1
    try simp at q1
    simp
    refine okL fun k2 => ?_
    refine loopI (ι := { s : Nat × Nat // s_EqualStrands_1 a0 a1 s.1 s.2 = s_EqualStrands_1 a0 a1 (a0.Pieces.length + 1) 0 ∧ (1 ≤ s.1 ∧ a0.Pieces.length < s.1 + s.2) }) (fun s => stOf 61 [(2, .one (.bptr 2 0), [.box [.d (.sl 3 (a0.Pieces.map TPiece.row)), .d (.sl 5 (a0.Chain.map TRenewal.row))]]), (3, .one (.bptr 3 0), [.box [.d (.sl 3 (a1.Pieces.map TPiece.row)), .d (.sl 5 (a1.Chain.map TRenewal.row))]]), (5, .one (.d (.int .i64 (↑s.1.2 : Int))), [])]) (fun s => s.1.1) ⟨((a0.Pieces.length + 1), 0), rfl, by first | omega | (dsimp only; omega) | simp⟩ (wk_keep (by simp)) ?_
    rintro ⟨⟨n1, v1_0⟩, e1, j1⟩
    try dsimp only at e1 j1
    obtain ⟨p1, rfl⟩ : ∃ p, n1 = p + 1 := ⟨n1 - 1, by omega⟩
    simp
    refine condB (fun k3 q2 => ?_) (fun k3 q2 => ?_)
    · have h2 : (decide ((↑v1_0 : Int) < (↑a0.Pieces.length : Int))) = true := by simpa using q2
      have i1 : v1_0 < a0.Pieces.length := by simpa using q2
      have m2 : a0.Pieces.length ≤ 9223372036854775807 := by simpa using k3 25 _ rfl
      have w1 : IntKind.i64.wrap ((v1_0 : Int) + 1) = (v1_0 : Int) + 1 := wrap_of (by omega) (by omega)
      try simp at q2
      simp
      refine okD fun k4 => ?_
      refine drawI mixed (by kernel_rfl) (by kernel_rfl) ?_
      have i2 : v1_0 < a1.Pieces.length := by omega
      simp [i1, rowAt_map, i2]
      repeat (refine ⟨by intros; omega, ?_⟩)
      refine callRd rfl rfl rfl rfl (s_EqualPieces_ok (nth a0.Pieces v1_0) (nth a1.Pieces v1_0)) (by simp) (by simp) (by simp) ?_
      simp
      refine condB (fun k5 q3 => ?_) (fun k5 q3 => ?_)
      · have h3 : (!(s_EqualPieces (nth a0.Pieces v1_0) (nth a1.Pieces v1_0))) = true := by simpa using q3
        try simp at q3
        have x1 : s_EqualStrands_1 a0 a1 (a0.Pieces.length + 1) 0 = .inl false := by rw [← e1]; simp only [s_EqualStrands_1, h2, h3, cond_true, cond_false]
        simp
        refine retRd (rv := [.tmp 4]) rfl ?_
        have f2 : s_EqualStrands a0 a1 = false := by simp only [s_EqualStrands, h1, x1, cond_true, cond_false]
        simp [f2]
      · have h3 : (!(s_EqualPieces (nth a0.Pieces v1_0) (nth a1.Pieces v1_0))) = false := by simpa using q3
        try simp at q3
        simp
        refine nxtI ⟨(p1, (v1_0 + 1)), ?_, ?_⟩ (by simp) (wk_keep (by simp [w1]))
        · rw [← e1]; simp only [s_EqualStrands_1, h2, h3, cond_true, cond_false]
        · first | omega | (simp at *; omega)
    · have h2 : (decide ((↑v1_0 : Int) < (↑a0.Pieces.length : Int))) = false := by simpa using q2
      try simp at q2
      have x2 : s_EqualStrands_1 a0 a1 (a0.Pieces.length + 1) 0 = .inr () := by rw [← e1]; simp only [s_EqualStrands_1, h2, cond_true, cond_false]
      simp
      refine okL fun k6 => ?_
      refine loopI (ι := { s : Nat × Nat // s_EqualStrands_2 a0 a1 s.1 s.2 = s_EqualStrands_2 a0 a1 (a0.Chain.length + 1) 0 ∧ (1 ≤ s.1 ∧ a0.Chain.length < s.1 + s.2) }) (fun s => stOf 61 [(2, .one (.bptr 2 0), [.box [.d (.sl 3 (a0.Pieces.map TPiece.row)), .d (.sl 5 (a0.Chain.map TRenewal.row))]]), (3, .one (.bptr 3 0), [.box [.d (.sl 3 (a1.Pieces.map TPiece.row)), .d (.sl 5 (a1.Chain.map TRenewal.row))]]), (6, .one (.d (.int .i64 (↑s.1.2 : Int))), [])]) (fun s => s.1.1) ⟨((a0.Chain.length + 1), 0), rfl, by first | omega | (dsimp only; omega) | simp⟩ (wk_keep (by simp)) ?_
      rintro ⟨⟨n2, v2_0⟩, e2, j2⟩
      try dsimp only at e2 j2
      obtain ⟨p2, rfl⟩ : ∃ p, n2 = p + 1 := ⟨n2 - 1, by omega⟩
      simp
      refine condB (fun k7 q4 => ?_) (fun k7 q4 => ?_)
      · have h4 : (decide ((↑v2_0 : Int) < (↑a0.Chain.length : Int))) = true := by simpa using q4
        have i3 : v2_0 < a0.Chain.length := by simpa using q4
        have m4 : a0.Chain.length ≤ 9223372036854775807 := by simpa using k7 44 _ rfl
        have w2 : IntKind.i64.wrap ((v2_0 : Int) + 1) = (v2_0 : Int) + 1 := wrap_of (by omega) (by omega)
        try simp at q4
        simp
        refine okD fun k8 => ?_
        refine drawI mixed (by kernel_rfl) (by kernel_rfl) ?_
        have i4 : v2_0 < a1.Chain.length := by omega
        simp [i3, rowAt_map, i4]
        repeat (refine ⟨by intros; omega, ?_⟩)
        refine callRd rfl rfl rfl rfl (s_EqualRenewals_ok (nth a0.Chain v2_0) (nth a1.Chain v2_0)) (by simp) (by simp) (by simp) ?_
        simp
        refine condB (fun k9 q5 => ?_) (fun k9 q5 => ?_)
        · have h5 : (!(s_EqualRenewals (nth a0.Chain v2_0) (nth a1.Chain v2_0))) = true := by simpa using q5
          try simp at q5
          have x3 : s_EqualStrands_2 a0 a1 (a0.Chain.length + 1) 0 = .inl false := by rw [← e2]; simp only [s_EqualStrands_2, h4, h5, cond_true, cond_false]
          simp
          refine retRd (rv := [.tmp 4]) rfl ?_
          have f3 : s_EqualStrands a0 a1 = false := by simp only [s_EqualStrands, h1, x2, x3, cond_true, cond_false]
          simp [f3]
        · have h5 : (!(s_EqualRenewals (nth a0.Chain v2_0) (nth a1.Chain v2_0))) = false := by simpa using q5
          try simp at q5
          simp
          refine nxtI ⟨(p2, (v2_0 + 1)), ?_, ?_⟩ (by simp) (wk_keep (by simp [w2]))
          · rw [← e2]; simp only [s_EqualStrands_2, h4, h5, cond_true, cond_false]
          · first | omega | (simp at *; omega)
      · have h4 : (decide ((↑v2_0 : Int) < (↑a0.Chain.length : Int))) = false := by simpa using q4
        try simp at q4
        have x4 : s_EqualStrands_2 a0 a1 (a0.Chain.length + 1) 0 = .inr () := by rw [← e2]; simp only [s_EqualStrands_2, h4, cond_true, cond_false]
        simp
        refine retRd (rv := [.tmp 4]) rfl ?_
        have f4 : s_EqualStrands a0 a1 = true := by simp only [s_EqualStrands, h1, x2, x4, cond_true, cond_false]
        simp [f4]
theorem s_EqualArchives_ok (a0 : TArchive) (a1 : TArchive) : SoundAt Try.prog 131 false [a0.row, a1.row] [[.bool (s_EqualArchives a0 a1)]] := by
  refine sound_of Try.func131 rfl (by kernel_rfl) ?_
  simp [Try.ntmps131]
  refine condB (fun k1 q1 => ?_) (fun k1 q1 => ?_)
  · have h1 : ((a0.Id != a1.Id) || ((↑a0.Items.length : Int) != (↑a1.Items.length : Int))) = true := by simpa using q1
    try simp at q1
    simp
    refine retRd (rv := [.tmp 4]) rfl ?_
    have f1 : s_EqualArchives a0 a1 = false := by simp only [s_EqualArchives, h1, cond_true, cond_false]
    simp [f1]
  · have h1 : ((a0.Id != a1.Id) || ((↑a0.Items.length : Int) != (↑a1.Items.length : Int))) = false := by simpa using q1
    try simp at q1
    simp
    refine okL fun k2 => ?_
    refine loopI (ι := { s : Nat × Nat // s_EqualArchives_1 a0 a1 s.1 s.2 = s_EqualArchives_1 a0 a1 (a0.Items.length + 1) 0 ∧ (1 ≤ s.1 ∧ a0.Items.length < s.1 + s.2) }) (fun s => stOf 74 [(2, .one (.bptr 2 0), [.box [.d (.int .i64 a0.Id), .d (.sl 16 (a0.Items.map TItem.row))]]), (3, .one (.bptr 3 0), [.box [.d (.int .i64 a1.Id), .d (.sl 16 (a1.Items.map TItem.row))]]), (5, .one (.d (.int .i64 (↑s.1.2 : Int))), [])]) (fun s => s.1.1) ⟨((a0.Items.length + 1), 0), rfl, by first | omega | (dsimp only; omega) | simp⟩ (wk_keep (by simp)) ?_
    rintro ⟨⟨n1, v1_0⟩, e1, j1⟩
    try dsimp only at e1 j1
    obtain ⟨p1, rfl⟩ : ∃ p, n1 = p + 1 := ⟨n1 - 1, by omega⟩
    simp
    refine condB (fun k3 q2 => ?_) (fun k3 q2 => ?_)
    · have h2 : (decide ((↑v1_0 : Int) < (↑a0.Items.length : Int))) = true := by simpa using q2
      have i1 : v1_0 < a0.Items.length := by simpa using q2
      have m2 : a0.Items.length ≤ 9223372036854775807 := by simpa using k3 24 _ rfl
      have w1 : IntKind.i64.wrap ((v1_0 : Int) + 1) = (v1_0 : Int) + 1 := wrap_of (by omega) (by omega)
      try simp at q2
      have i2 : v1_0 < a1.Items.length := by omega
      simp [i1, rowAt_map, i2]
      repeat (refine ⟨by intros; omega, ?_⟩)
      refine callG rfl rfl rfl rfl rfl rfl (fun _ => (s_EqualDocuments_ok (nth a0.Items v1_0).Doc (nth a1.Items v1_0).Doc)) (by simp) (by simp) (by simp) (by simp) ?_
      simp
      refine callG rfl rfl rfl rfl rfl rfl (fun _ => (s_EqualStrands_ok (nth a0.Items v1_0).Strand (nth a1.Items v1_0).Strand)) (by simp) (by simp) (by simp) (by simp) ?_
      simp
      refine condB (fun k4 q3 => ?_) (fun k4 q3 => ?_)
      · have h3 : ((((((nth a0.Items v1_0).Id != (nth a1.Items v1_0).Id) || ((nth a0.Items v1_0).Keep != (nth a1.Items v1_0).Keep)) || (!(((nth a0.Items v1_0).Sig.Key == (nth a1.Items v1_0).Sig.Key) && (((nth a0.Items v1_0).Sig.Serial == (nth a1.Items v1_0).Sig.Serial) && (((nth a0.Items v1_0).Sig.Method == (nth a1.Items v1_0).Sig.Method) && (((nth a0.Items v1_0).Sig.Digest == (nth a1.Items v1_0).Sig.Digest) && (((nth a0.Items v1_0).Sig.Commit == (nth a1.Items v1_0).Sig.Commit) && (((nth a0.Items v1_0).Sig.Org == (nth a1.Items v1_0).Sig.Org) && (((nth a0.Items v1_0).Sig.Before == (nth a1.Items v1_0).Sig.Before) && (((nth a0.Items v1_0).Sig.After == (nth a1.Items v1_0).Sig.After) && ((nth a0.Items v1_0).Sig.Mark == (nth a1.Items v1_0).Sig.Mark))))))))))) || (!(s_EqualDocuments (nth a0.Items v1_0).Doc (nth a1.Items v1_0).Doc))) || (!(s_EqualStrands (nth a0.Items v1_0).Strand (nth a1.Items v1_0).Strand))) = true := by simpa using q3
        try simp at q3
        have x1 : s_EqualArchives_1 a0 a1 (a0.Items.length + 1) 0 = .inl false := by rw [← e1]; simp only [s_EqualArchives_1, h2, h3, cond_true, cond_false]
        simp
        refine retRd (rv := [.tmp 4]) rfl ?_
        have f2 : s_EqualArchives a0 a1 = false := by simp only [s_EqualArchives, h1, x1, cond_true, cond_false]
        simp [f2]
      · have h3 : ((((((nth a0.Items v1_0).Id != (nth a1.Items v1_0).Id) || ((nth a0.Items v1_0).Keep != (nth a1.Items v1_0).Keep)) || (!(((nth a0.Items v1_0).Sig.Key == (nth a1.Items v1_0).Sig.Key) && (((nth a0.Items v1_0).Sig.Serial == (nth a1.Items v1_0).Sig.Serial) && (((nth a0.Items v1_0).Sig.Method == (nth a1.Items v1_0).Sig.Method) && (((nth a0.Items v1_0).Sig.Digest == (nth a1.Items v1_0).Sig.Digest) && (((nth a0.Items v1_0).Sig.Commit == (nth a1.Items v1_0).Sig.Commit) && (((nth a0.Items v1_0).Sig.Org == (nth a1.Items v1_0).Sig.Org) && (((nth a0.Items v1_0).Sig.Before == (nth a1.Items v1_0).Sig.Before) && (((nth a0.Items v1_0).Sig.After == (nth a1.Items v1_0).Sig.After) && ((nth a0.Items v1_0).Sig.Mark == (nth a1.Items v1_0).Sig.Mark))))))))))) || (!(s_EqualDocuments (nth a0.Items v1_0).Doc (nth a1.Items v1_0).Doc))) || (!(s_EqualStrands (nth a0.Items v1_0).Strand (nth a1.Items v1_0).Strand))) = false := by simpa using q3
        try simp at q3
        simp
        refine nxtI ⟨(p1, (v1_0 + 1)), ?_, ?_⟩ (by simp) (wk_keep (by simp [w1]))
        · rw [← e1]; simp only [s_EqualArchives_1, h2, h3, cond_true, cond_false]
        · first | omega | (simp at *; omega)
    · have h2 : (decide ((↑v1_0 : Int) < (↑a0.Items.length : Int))) = false := by simpa using q2
      try simp at q2
      have x2 : s_EqualArchives_1 a0 a1 (a0.Items.length + 1) 0 = .inr () := by rw [← e1]; simp only [s_EqualArchives_1, h2, cond_true, cond_false]
      simp
      refine retRd (rv := [.tmp 4]) rfl ?_
      have f3 : s_EqualArchives a0 a1 = true := by simp only [s_EqualArchives, h1, x2, cond_true, cond_false]
      simp [f3]
theorem s_l33Frames_ok (a0 : TFrame) (a1 : TFrame) : SoundAt Try.prog 132 false [a0.row, a1.row] [[.bool (s_l33Frames a0 a1)]] := by
  refine sound_of Try.func132 rfl (by kernel_rfl) ?_
  simp [Try.ntmps132]
  refine condB (fun k1 q1 => ?_) (fun k1 q1 => ?_)
  · have h1 : ((((((↑a0.Keys.length : Int) != (↑a1.Keys.length : Int)) || ((↑a0.Authorities.length : Int) != (↑a1.Authorities.length : Int))) || ((↑a0.Methods.length : Int) != (↑a1.Methods.length : Int))) || (a0.Liars != a1.Liars)) || (a0.Now != a1.Now)) = true := by simpa using q1
    try simp at q1
    simp
    refine retRd (rv := [.tmp 4]) rfl ?_
    have f1 : s_l33Frames a0 a1 = false := by simp only [s_l33Frames, h1, cond_true, cond_false]
    simp [f1]
  · have h1 : ((((((↑a0.Keys.length : Int) != (↑a1.Keys.length : Int)) || ((↑a0.Authorities.length : Int) != (↑a1.Authorities.length : Int))) || ((↑a0.Methods.length : Int) != (↑a1.Methods.length : Int))) || (a0.Liars != a1.Liars)) || (a0.Now != a1.Now)) = false := by simpa using q1
    try simp at q1
    simp
    refine okL fun k2 => ?_
    refine loopI (ι := { s : Nat × Nat // s_l33Frames_1 a0 a1 s.1 s.2 = s_l33Frames_1 a0 a1 (a0.Keys.length + 1) 0 ∧ (1 ≤ s.1 ∧ a0.Keys.length < s.1 + s.2) }) (fun s => stOf 101 [(2, .one (.bptr 2 0), [.box [.d (.sl 5 (a0.Keys.map TKey.row)), .d (.sl 3 (a0.Authorities.map TAuthority.row)), .d (.sl 4 (a0.Methods.map TMethod.row)), .d (.int .i64 a0.Liars), .d (.int .i64 a0.Now)]]), (3, .one (.bptr 3 0), [.box [.d (.sl 5 (a1.Keys.map TKey.row)), .d (.sl 3 (a1.Authorities.map TAuthority.row)), .d (.sl 4 (a1.Methods.map TMethod.row)), .d (.int .i64 a1.Liars), .d (.int .i64 a1.Now)]]), (5, .one (.d (.int .i64 (↑s.1.2 : Int))), [])]) (fun s => s.1.1) ⟨((a0.Keys.length + 1), 0), rfl, by first | omega | (dsimp only; omega) | simp⟩ (wk_keep (by simp)) ?_
    rintro ⟨⟨n1, v1_0⟩, e1, j1⟩
    try dsimp only at e1 j1
    obtain ⟨p1, rfl⟩ : ∃ p, n1 = p + 1 := ⟨n1 - 1, by omega⟩
    simp
    refine condB (fun k3 q2 => ?_) (fun k3 q2 => ?_)
    · have h2 : (decide ((↑v1_0 : Int) < (↑a0.Keys.length : Int))) = true := by simpa using q2
      have i1 : v1_0 < a0.Keys.length := by simpa using q2
      have m2 : a0.Keys.length ≤ 9223372036854775807 := by simpa using k3 49 _ rfl
      have w1 : IntKind.i64.wrap ((v1_0 : Int) + 1) = (v1_0 : Int) + 1 := wrap_of (by omega) (by omega)
      try simp at q2
      simp
      refine okD fun k4 => ?_
      refine drawI mixed (by kernel_rfl) (by kernel_rfl) ?_
      have i2 : v1_0 < a1.Keys.length := by omega
      simp [i1, rowAt_map, i2]
      repeat (refine ⟨by intros; omega, ?_⟩)
      refine condB (fun k5 q3 => ?_) (fun k5 q3 => ?_)
      · have h3 : (!(((nth a0.Keys v1_0).Number == (nth a1.Keys v1_0).Number) && (((nth a0.Keys v1_0).Owner == (nth a1.Keys v1_0).Owner) && (((nth a0.Keys v1_0).Method == (nth a1.Keys v1_0).Method) && (((nth a0.Keys v1_0).Born == (nth a1.Keys v1_0).Born) && ((nth a0.Keys v1_0).Secret == (nth a1.Keys v1_0).Secret)))))) = true := by simpa using q3
        try simp at q3
        have x1 : s_l33Frames_1 a0 a1 (a0.Keys.length + 1) 0 = .inl false := by rw [← e1]; simp only [s_l33Frames_1, h2, h3, cond_true, cond_false]
        simp
        refine retRd (rv := [.tmp 4]) rfl ?_
        have f2 : s_l33Frames a0 a1 = false := by simp only [s_l33Frames, h1, x1, cond_true, cond_false]
        simp [f2]
      · have h3 : (!(((nth a0.Keys v1_0).Number == (nth a1.Keys v1_0).Number) && (((nth a0.Keys v1_0).Owner == (nth a1.Keys v1_0).Owner) && (((nth a0.Keys v1_0).Method == (nth a1.Keys v1_0).Method) && (((nth a0.Keys v1_0).Born == (nth a1.Keys v1_0).Born) && ((nth a0.Keys v1_0).Secret == (nth a1.Keys v1_0).Secret)))))) = false := by simpa using q3
        try simp at q3
        simp
        refine nxtI ⟨(p1, (v1_0 + 1)), ?_, ?_⟩ (by simp) (wk_keep (by simp [w1]))
        · rw [← e1]; simp only [s_l33Frames_1, h2, h3, cond_true, cond_false]
        · first | omega | (simp at *; omega)
    · have h2 : (decide ((↑v1_0 : Int) < (↑a0.Keys.length : Int))) = false := by simpa using q2
      try simp at q2
      have x2 : s_l33Frames_1 a0 a1 (a0.Keys.length + 1) 0 = .inr () := by rw [← e1]; simp only [s_l33Frames_1, h2, cond_true, cond_false]
      simp
      refine okL fun k6 => ?_
      refine loopI (ι := { s : Nat × Nat // s_l33Frames_2 a0 a1 s.1 s.2 = s_l33Frames_2 a0 a1 (a0.Authorities.length + 1) 0 ∧ (1 ≤ s.1 ∧ a0.Authorities.length < s.1 + s.2) }) (fun s => stOf 101 [(2, .one (.bptr 2 0), [.box [.d (.sl 5 (a0.Keys.map TKey.row)), .d (.sl 3 (a0.Authorities.map TAuthority.row)), .d (.sl 4 (a0.Methods.map TMethod.row)), .d (.int .i64 a0.Liars), .d (.int .i64 a0.Now)]]), (3, .one (.bptr 3 0), [.box [.d (.sl 5 (a1.Keys.map TKey.row)), .d (.sl 3 (a1.Authorities.map TAuthority.row)), .d (.sl 4 (a1.Methods.map TMethod.row)), .d (.int .i64 a1.Liars), .d (.int .i64 a1.Now)]]), (6, .one (.d (.int .i64 (↑s.1.2 : Int))), [])]) (fun s => s.1.1) ⟨((a0.Authorities.length + 1), 0), rfl, by first | omega | (dsimp only; omega) | simp⟩ (wk_keep (by simp)) ?_
      rintro ⟨⟨n2, v2_0⟩, e2, j2⟩
      try dsimp only at e2 j2
      obtain ⟨p2, rfl⟩ : ∃ p, n2 = p + 1 := ⟨n2 - 1, by omega⟩
      simp
      refine condB (fun k7 q4 => ?_) (fun k7 q4 => ?_)
      · have h4 : (decide ((↑v2_0 : Int) < (↑a0.Authorities.length : Int))) = true := by simpa using q4
        have i3 : v2_0 < a0.Authorities.length := by simpa using q4
        have m4 : a0.Authorities.length ≤ 9223372036854775807 := by simpa using k7 67 _ rfl
        have w2 : IntKind.i64.wrap ((v2_0 : Int) + 1) = (v2_0 : Int) + 1 := wrap_of (by omega) (by omega)
        try simp at q4
        simp
        refine okD fun k8 => ?_
        refine drawI mixed (by kernel_rfl) (by kernel_rfl) ?_
        have i4 : v2_0 < a1.Authorities.length := by omega
        simp [i3, rowAt_map, i4]
        repeat (refine ⟨by intros; omega, ?_⟩)
        refine condB (fun k9 q5 => ?_) (fun k9 q5 => ?_)
        · have h5 : (!(((nth a0.Authorities v2_0).Id == (nth a1.Authorities v2_0).Id) && (((nth a0.Authorities v2_0).Key == (nth a1.Authorities v2_0).Key) && ((nth a0.Authorities v2_0).Error == (nth a1.Authorities v2_0).Error)))) = true := by simpa using q5
          try simp at q5
          have x3 : s_l33Frames_2 a0 a1 (a0.Authorities.length + 1) 0 = .inl false := by rw [← e2]; simp only [s_l33Frames_2, h4, h5, cond_true, cond_false]
          simp
          refine retRd (rv := [.tmp 4]) rfl ?_
          have f3 : s_l33Frames a0 a1 = false := by simp only [s_l33Frames, h1, x2, x3, cond_true, cond_false]
          simp [f3]
        · have h5 : (!(((nth a0.Authorities v2_0).Id == (nth a1.Authorities v2_0).Id) && (((nth a0.Authorities v2_0).Key == (nth a1.Authorities v2_0).Key) && ((nth a0.Authorities v2_0).Error == (nth a1.Authorities v2_0).Error)))) = false := by simpa using q5
          try simp at q5
          simp
          refine nxtI ⟨(p2, (v2_0 + 1)), ?_, ?_⟩ (by simp) (wk_keep (by simp [w2]))
          · rw [← e2]; simp only [s_l33Frames_2, h4, h5, cond_true, cond_false]
          · first | omega | (simp at *; omega)
      · have h4 : (decide ((↑v2_0 : Int) < (↑a0.Authorities.length : Int))) = false := by simpa using q4
        try simp at q4
        have x4 : s_l33Frames_2 a0 a1 (a0.Authorities.length + 1) 0 = .inr () := by rw [← e2]; simp only [s_l33Frames_2, h4, cond_true, cond_false]
        simp
        refine okL fun k10 => ?_
        refine loopI (ι := { s : Nat × Nat // s_l33Frames_3 a0 a1 s.1 s.2 = s_l33Frames_3 a0 a1 (a0.Methods.length + 1) 0 ∧ (1 ≤ s.1 ∧ a0.Methods.length < s.1 + s.2) }) (fun s => stOf 101 [(2, .one (.bptr 2 0), [.box [.d (.sl 5 (a0.Keys.map TKey.row)), .d (.sl 3 (a0.Authorities.map TAuthority.row)), .d (.sl 4 (a0.Methods.map TMethod.row)), .d (.int .i64 a0.Liars), .d (.int .i64 a0.Now)]]), (3, .one (.bptr 3 0), [.box [.d (.sl 5 (a1.Keys.map TKey.row)), .d (.sl 3 (a1.Authorities.map TAuthority.row)), .d (.sl 4 (a1.Methods.map TMethod.row)), .d (.int .i64 a1.Liars), .d (.int .i64 a1.Now)]]), (7, .one (.d (.int .i64 (↑s.1.2 : Int))), [])]) (fun s => s.1.1) ⟨((a0.Methods.length + 1), 0), rfl, by first | omega | (dsimp only; omega) | simp⟩ (wk_keep (by simp)) ?_
        rintro ⟨⟨n3, v3_0⟩, e3, j3⟩
        try dsimp only at e3 j3
        obtain ⟨p3, rfl⟩ : ∃ p, n3 = p + 1 := ⟨n3 - 1, by omega⟩
        simp
        refine condB (fun k11 q6 => ?_) (fun k11 q6 => ?_)
        · have h6 : (decide ((↑v3_0 : Int) < (↑a0.Methods.length : Int))) = true := by simpa using q6
          have i5 : v3_0 < a0.Methods.length := by simpa using q6
          have m6 : a0.Methods.length ≤ 9223372036854775807 := by simpa using k11 85 _ rfl
          have w3 : IntKind.i64.wrap ((v3_0 : Int) + 1) = (v3_0 : Int) + 1 := wrap_of (by omega) (by omega)
          try simp at q6
          simp
          refine okD fun k12 => ?_
          refine drawI mixed (by kernel_rfl) (by kernel_rfl) ?_
          have i6 : v3_0 < a1.Methods.length := by omega
          simp [i5, rowAt_map, i6]
          repeat (refine ⟨by intros; omega, ?_⟩)
          refine condB (fun k13 q7 => ?_) (fun k13 q7 => ?_)
          · have h7 : (!(((nth a0.Methods v3_0).Id == (nth a1.Methods v3_0).Id) && (((nth a0.Methods v3_0).Known == (nth a1.Methods v3_0).Known) && (((nth a0.Methods v3_0).Ends == (nth a1.Methods v3_0).Ends) && ((nth a0.Methods v3_0).Broken == (nth a1.Methods v3_0).Broken))))) = true := by simpa using q7
            try simp at q7
            have x5 : s_l33Frames_3 a0 a1 (a0.Methods.length + 1) 0 = .inl false := by rw [← e3]; simp only [s_l33Frames_3, h6, h7, cond_true, cond_false]
            simp
            refine retRd (rv := [.tmp 4]) rfl ?_
            have f4 : s_l33Frames a0 a1 = false := by simp only [s_l33Frames, h1, x2, x4, x5, cond_true, cond_false]
            simp [f4]
          · have h7 : (!(((nth a0.Methods v3_0).Id == (nth a1.Methods v3_0).Id) && (((nth a0.Methods v3_0).Known == (nth a1.Methods v3_0).Known) && (((nth a0.Methods v3_0).Ends == (nth a1.Methods v3_0).Ends) && ((nth a0.Methods v3_0).Broken == (nth a1.Methods v3_0).Broken))))) = false := by simpa using q7
            try simp at q7
            simp
            refine nxtI ⟨(p3, (v3_0 + 1)), ?_, ?_⟩ (by simp) (wk_keep (by simp [w3]))
            · rw [← e3]; simp only [s_l33Frames_3, h6, h7, cond_true, cond_false]
            · first | omega | (simp at *; omega)
        · have h6 : (decide ((↑v3_0 : Int) < (↑a0.Methods.length : Int))) = false := by simpa using q6
          try simp at q6
          have x6 : s_l33Frames_3 a0 a1 (a0.Methods.length + 1) 0 = .inr () := by rw [← e3]; simp only [s_l33Frames_3, h6, cond_true, cond_false]
          simp
          refine retRd (rv := [.tmp 4]) rfl ?_
          have f5 : s_l33Frames a0 a1 = true := by simp only [s_l33Frames, h1, x2, x4, x6, cond_true, cond_false]
          simp [f5]
theorem s_EqualWorlds_ok (a0 : TWorld) (a1 : TWorld) : SoundAt Try.prog 63 false [a0.row, a1.row] [[.bool (s_EqualWorlds a0 a1)]] := by
  refine sound_of Try.func63 rfl (by kernel_rfl) ?_
  simp [Try.ntmps63]
  refine condB (fun k1 q1 => ?_) (fun k1 q1 => ?_)
  · have h1 : ((((↑a0.Certs.length : Int) != (↑a1.Certs.length : Int)) || ((↑a0.Archives.length : Int) != (↑a1.Archives.length : Int))) || (a0.Next != a1.Next)) = true := by simpa using q1
    try simp at q1
    simp
    refine retRd (rv := [.tmp 4]) rfl ?_
    have f1 : s_EqualWorlds a0 a1 = false := by simp only [s_EqualWorlds, h1, cond_true, cond_false]
    simp [f1]
  · have h1 : ((((↑a0.Certs.length : Int) != (↑a1.Certs.length : Int)) || ((↑a0.Archives.length : Int) != (↑a1.Archives.length : Int))) || (a0.Next != a1.Next)) = false := by simpa using q1
    try simp at q1
    simp
    refine okL fun k2 => ?_
    refine loopI (ι := { s : Nat × Nat // s_EqualWorlds_1 a0 a1 s.1 s.2 = s_EqualWorlds_1 a0 a1 (a0.Certs.length + 1) 0 ∧ (1 ≤ s.1 ∧ a0.Certs.length < s.1 + s.2) }) (fun s => stOf 100 [(2, .one (.bptr 2 0), [.box [.d (.sl 5 (a0.Frame.Keys.map TKey.row)), .d (.sl 3 (a0.Frame.Authorities.map TAuthority.row)), .d (.sl 4 (a0.Frame.Methods.map TMethod.row)), .d (.int .i64 a0.Frame.Liars), .d (.int .i64 a0.Frame.Now), .d (.sl 7 (a0.Certs.map TCert.row)), .d (.sl 1 (a0.Ended.map iR)), .d (.sl 2 (a0.Archives.map TArchive.row)), .d (.sl 1 (a0.Seqs.map iR)), .d (.sl 1 (a0.Lying.map iR)), .d (.int .i64 a0.Next), .d (.sl 1 (a0.Forged.map iR))]]), (3, .one (.bptr 3 0), [.box [.d (.sl 5 (a1.Frame.Keys.map TKey.row)), .d (.sl 3 (a1.Frame.Authorities.map TAuthority.row)), .d (.sl 4 (a1.Frame.Methods.map TMethod.row)), .d (.int .i64 a1.Frame.Liars), .d (.int .i64 a1.Frame.Now), .d (.sl 7 (a1.Certs.map TCert.row)), .d (.sl 1 (a1.Ended.map iR)), .d (.sl 2 (a1.Archives.map TArchive.row)), .d (.sl 1 (a1.Seqs.map iR)), .d (.sl 1 (a1.Lying.map iR)), .d (.int .i64 a1.Next), .d (.sl 1 (a1.Forged.map iR))]]), (5, .one (.d (.int .i64 (↑s.1.2 : Int))), [])]) (fun s => s.1.1) ⟨((a0.Certs.length + 1), 0), rfl, by first | omega | (dsimp only; omega) | simp⟩ (wk_keep (by simp)) ?_
    rintro ⟨⟨n1, v1_0⟩, e1, j1⟩
    try dsimp only at e1 j1
    obtain ⟨p1, rfl⟩ : ∃ p, n1 = p + 1 := ⟨n1 - 1, by omega⟩
    simp
    refine condB (fun k3 q2 => ?_) (fun k3 q2 => ?_)
    · have h2 : (decide ((↑v1_0 : Int) < (↑a0.Certs.length : Int))) = true := by simpa using q2
      have i1 : v1_0 < a0.Certs.length := by simpa using q2
      have m2 : a0.Certs.length ≤ 9223372036854775807 := by simpa using k3 32 _ rfl
      have w1 : IntKind.i64.wrap ((v1_0 : Int) + 1) = (v1_0 : Int) + 1 := wrap_of (by omega) (by omega)
      try simp at q2
      simp
      refine okD fun k4 => ?_
      refine drawI mixed (by kernel_rfl) (by kernel_rfl) ?_
      have i2 : v1_0 < a1.Certs.length := by omega
      simp [i1, rowAt_map, i2]
      repeat (refine ⟨by intros; omega, ?_⟩)
      refine condB (fun k5 q3 => ?_) (fun k5 q3 => ?_)
      · have h3 : (!(((nth a0.Certs v1_0).Serial == (nth a1.Certs v1_0).Serial) && (((nth a0.Certs v1_0).Key == (nth a1.Certs v1_0).Key) && (((nth a0.Certs v1_0).Owner == (nth a1.Certs v1_0).Owner) && (((nth a0.Certs v1_0).From == (nth a1.Certs v1_0).From) && (((nth a0.Certs v1_0).To == (nth a1.Certs v1_0).To) && (((nth a0.Certs v1_0).Issuer == (nth a1.Certs v1_0).Issuer) && ((nth a0.Certs v1_0).Mark == (nth a1.Certs v1_0).Mark)))))))) = true := by simpa using q3
        try simp at q3
        have x1 : s_EqualWorlds_1 a0 a1 (a0.Certs.length + 1) 0 = .inl false := by rw [← e1]; simp only [s_EqualWorlds_1, h2, h3, cond_true, cond_false]
        simp
        refine retRd (rv := [.tmp 4]) rfl ?_
        have f2 : s_EqualWorlds a0 a1 = false := by simp only [s_EqualWorlds, h1, x1, cond_true, cond_false]
        simp [f2]
      · have h3 : (!(((nth a0.Certs v1_0).Serial == (nth a1.Certs v1_0).Serial) && (((nth a0.Certs v1_0).Key == (nth a1.Certs v1_0).Key) && (((nth a0.Certs v1_0).Owner == (nth a1.Certs v1_0).Owner) && (((nth a0.Certs v1_0).From == (nth a1.Certs v1_0).From) && (((nth a0.Certs v1_0).To == (nth a1.Certs v1_0).To) && (((nth a0.Certs v1_0).Issuer == (nth a1.Certs v1_0).Issuer) && ((nth a0.Certs v1_0).Mark == (nth a1.Certs v1_0).Mark)))))))) = false := by simpa using q3
        try simp at q3
        simp
        refine nxtI ⟨(p1, (v1_0 + 1)), ?_, ?_⟩ (by simp) (wk_keep (by simp [w1]))
        · rw [← e1]; simp only [s_EqualWorlds_1, h2, h3, cond_true, cond_false]
        · first | omega | (simp at *; omega)
    · have h2 : (decide ((↑v1_0 : Int) < (↑a0.Certs.length : Int))) = false := by simpa using q2
      try simp at q2
      have x2 : s_EqualWorlds_1 a0 a1 (a0.Certs.length + 1) 0 = .inr () := by rw [← e1]; simp only [s_EqualWorlds_1, h2, cond_true, cond_false]
      simp
      refine okL fun k6 => ?_
      refine loopI (ι := { s : Nat × Nat // s_EqualWorlds_2 a0 a1 s.1 s.2 = s_EqualWorlds_2 a0 a1 (a0.Archives.length + 1) 0 ∧ (1 ≤ s.1 ∧ a0.Archives.length < s.1 + s.2) }) (fun s => stOf 100 [(2, .one (.bptr 2 0), [.box [.d (.sl 5 (a0.Frame.Keys.map TKey.row)), .d (.sl 3 (a0.Frame.Authorities.map TAuthority.row)), .d (.sl 4 (a0.Frame.Methods.map TMethod.row)), .d (.int .i64 a0.Frame.Liars), .d (.int .i64 a0.Frame.Now), .d (.sl 7 (a0.Certs.map TCert.row)), .d (.sl 1 (a0.Ended.map iR)), .d (.sl 2 (a0.Archives.map TArchive.row)), .d (.sl 1 (a0.Seqs.map iR)), .d (.sl 1 (a0.Lying.map iR)), .d (.int .i64 a0.Next), .d (.sl 1 (a0.Forged.map iR))]]), (3, .one (.bptr 3 0), [.box [.d (.sl 5 (a1.Frame.Keys.map TKey.row)), .d (.sl 3 (a1.Frame.Authorities.map TAuthority.row)), .d (.sl 4 (a1.Frame.Methods.map TMethod.row)), .d (.int .i64 a1.Frame.Liars), .d (.int .i64 a1.Frame.Now), .d (.sl 7 (a1.Certs.map TCert.row)), .d (.sl 1 (a1.Ended.map iR)), .d (.sl 2 (a1.Archives.map TArchive.row)), .d (.sl 1 (a1.Seqs.map iR)), .d (.sl 1 (a1.Lying.map iR)), .d (.int .i64 a1.Next), .d (.sl 1 (a1.Forged.map iR))]]), (6, .one (.d (.int .i64 (↑s.1.2 : Int))), [])]) (fun s => s.1.1) ⟨((a0.Archives.length + 1), 0), rfl, by first | omega | (dsimp only; omega) | simp⟩ (wk_keep (by simp)) ?_
      rintro ⟨⟨n2, v2_0⟩, e2, j2⟩
      try dsimp only at e2 j2
      obtain ⟨p2, rfl⟩ : ∃ p, n2 = p + 1 := ⟨n2 - 1, by omega⟩
      simp
      refine condB (fun k7 q4 => ?_) (fun k7 q4 => ?_)
      · have h4 : (decide ((↑v2_0 : Int) < (↑a0.Archives.length : Int))) = true := by simpa using q4
        have i3 : v2_0 < a0.Archives.length := by simpa using q4
        have m4 : a0.Archives.length ≤ 9223372036854775807 := by simpa using k7 50 _ rfl
        have w2 : IntKind.i64.wrap ((v2_0 : Int) + 1) = (v2_0 : Int) + 1 := wrap_of (by omega) (by omega)
        try simp at q4
        simp
        refine okD fun k8 => ?_
        refine drawI mixed (by kernel_rfl) (by kernel_rfl) ?_
        have i4 : v2_0 < a1.Archives.length := by omega
        simp [i3, rowAt_map, i4]
        repeat (refine ⟨by intros; omega, ?_⟩)
        refine callRd rfl rfl rfl rfl (s_EqualArchives_ok (nth a0.Archives v2_0) (nth a1.Archives v2_0)) (by simp) (by simp) (by simp) ?_
        simp
        refine condB (fun k9 q5 => ?_) (fun k9 q5 => ?_)
        · have h5 : (!(s_EqualArchives (nth a0.Archives v2_0) (nth a1.Archives v2_0))) = true := by simpa using q5
          try simp at q5
          have x3 : s_EqualWorlds_2 a0 a1 (a0.Archives.length + 1) 0 = .inl false := by rw [← e2]; simp only [s_EqualWorlds_2, h4, h5, cond_true, cond_false]
          simp
          refine retRd (rv := [.tmp 4]) rfl ?_
          have f3 : s_EqualWorlds a0 a1 = false := by simp only [s_EqualWorlds, h1, x2, x3, cond_true, cond_false]
          simp [f3]
        · have h5 : (!(s_EqualArchives (nth a0.Archives v2_0) (nth a1.Archives v2_0))) = false := by simpa using q5
          try simp at q5
          simp
          refine nxtI ⟨(p2, (v2_0 + 1)), ?_, ?_⟩ (by simp) (wk_keep (by simp [w2]))
          · rw [← e2]; simp only [s_EqualWorlds_2, h4, h5, cond_true, cond_false]
          · first | omega | (simp at *; omega)
      · have h4 : (decide ((↑v2_0 : Int) < (↑a0.Archives.length : Int))) = false := by simpa using q4
        try simp at q4
        have x4 : s_EqualWorlds_2 a0 a1 (a0.Archives.length + 1) 0 = .inr () := by rw [← e2]; simp only [s_EqualWorlds_2, h4, cond_true, cond_false]
        simp
        refine callRd rfl rfl rfl rfl (s_l33Frames_ok a0.Frame a1.Frame) (by simp) (by simp) (by simp) ?_
        simp
        refine callG rfl rfl rfl rfl rfl rfl (fun _ => (s_EqualInts_ok a0.Ended a1.Ended)) (by simp) (by simp) (by simp) (by simp) ?_
        simp
        refine callG rfl rfl rfl rfl rfl rfl (fun _ => (s_EqualInts_ok a0.Seqs a1.Seqs)) (by simp) (by simp) (by simp) (by simp) ?_
        simp
        refine callG rfl rfl rfl rfl rfl rfl (fun _ => (s_EqualInts_ok a0.Lying a1.Lying)) (by simp) (by simp) (by simp) (by simp) ?_
        simp
        refine callG rfl rfl rfl rfl rfl rfl (fun _ => (s_EqualInts_ok a0.Forged a1.Forged)) (by simp) (by simp) (by simp) (by simp) ?_
        simp
        refine retRd (rv := [.tmp 4]) rfl ?_
        have f4 : s_EqualWorlds a0 a1 = (((((s_l33Frames a0.Frame a1.Frame) && (s_EqualInts a0.Ended a1.Ended)) && (s_EqualInts a0.Seqs a1.Seqs)) && (s_EqualInts a0.Lying a1.Lying)) && (s_EqualInts a0.Forged a1.Forged)) := by simp only [s_EqualWorlds, h1, x2, x4, cond_true, cond_false]
        simp [f4]
theorem i_equalFrames_ok (a0 : TFrame) (a1 : TFrame) : SoundAt Try.prog 134 false [a0.row, a1.row] [[.bool (i_equalFrames a0 a1)]] := by
  refine sound_of Try.func134 rfl (by kernel_rfl) ?_
  simp [Try.ntmps134]
  refine condB (fun k1 q1 => ?_) (fun k1 q1 => ?_)
  · have h1 : ((((((↑a0.Keys.length : Int) != (↑a1.Keys.length : Int)) || ((↑a0.Authorities.length : Int) != (↑a1.Authorities.length : Int))) || ((↑a0.Methods.length : Int) != (↑a1.Methods.length : Int))) || (a0.Liars != a1.Liars)) || (a0.Now != a1.Now)) = true := by simpa using q1
    try simp at q1
    simp
    refine retRd (rv := [.tmp 4]) rfl ?_
    have f1 : i_equalFrames a0 a1 = false := by simp only [i_equalFrames, h1, cond_true, cond_false]
    simp [f1]
  · have h1 : ((((((↑a0.Keys.length : Int) != (↑a1.Keys.length : Int)) || ((↑a0.Authorities.length : Int) != (↑a1.Authorities.length : Int))) || ((↑a0.Methods.length : Int) != (↑a1.Methods.length : Int))) || (a0.Liars != a1.Liars)) || (a0.Now != a1.Now)) = false := by simpa using q1
    try simp at q1
    simp
    refine okL fun k2 => ?_
    refine loopI (ι := { s : Nat × Nat // i_equalFrames_1 a0 a1 s.1 s.2 = i_equalFrames_1 a0 a1 (a0.Keys.length + 1) 0 ∧ (1 ≤ s.1 ∧ a0.Keys.length < s.1 + s.2) }) (fun s => stOf 101 [(2, .one (.bptr 2 0), [.box [.d (.sl 5 (a0.Keys.map TKey.row)), .d (.sl 3 (a0.Authorities.map TAuthority.row)), .d (.sl 4 (a0.Methods.map TMethod.row)), .d (.int .i64 a0.Liars), .d (.int .i64 a0.Now)]]), (3, .one (.bptr 3 0), [.box [.d (.sl 5 (a1.Keys.map TKey.row)), .d (.sl 3 (a1.Authorities.map TAuthority.row)), .d (.sl 4 (a1.Methods.map TMethod.row)), .d (.int .i64 a1.Liars), .d (.int .i64 a1.Now)]]), (49, .one (.d (.int .i64 (↑a0.Keys.length : Int))), []), (50, .one (.d (.int .i64 (↑s.1.2 : Int))), [])]) (fun s => s.1.1) ⟨((a0.Keys.length + 1), 0), rfl, by first | omega | (dsimp only; omega) | simp⟩ (wk_keep (by simp)) ?_
    rintro ⟨⟨n1, v1_0⟩, e1, j1⟩
    try dsimp only at e1 j1
    obtain ⟨p1, rfl⟩ : ∃ p, n1 = p + 1 := ⟨n1 - 1, by omega⟩
    simp
    refine condB (fun k3 q2 => ?_) (fun k3 q2 => ?_)
    · have h2 : (decide ((↑v1_0 : Int) < (↑a0.Keys.length : Int))) = true := by simpa using q2
      have i1 : v1_0 < a0.Keys.length := by simpa using q2
      have m2 : a0.Keys.length ≤ 9223372036854775807 := by simpa using k2 9 _ rfl
      have w1 : IntKind.i64.wrap ((v1_0 : Int) + 1) = (v1_0 : Int) + 1 := wrap_of (by omega) (by omega)
      try simp at q2
      simp
      refine okD fun k4 => ?_
      refine drawI mixed (by kernel_rfl) (by kernel_rfl) ?_
      have i2 : v1_0 < a1.Keys.length := by omega
      simp [i1, rowAt_map, i2]
      repeat (refine ⟨by intros; omega, ?_⟩)
      refine condB (fun k5 q3 => ?_) (fun k5 q3 => ?_)
      · have h3 : (!(((nth a0.Keys v1_0).Number == (nth a1.Keys v1_0).Number) && (((nth a0.Keys v1_0).Owner == (nth a1.Keys v1_0).Owner) && (((nth a0.Keys v1_0).Method == (nth a1.Keys v1_0).Method) && (((nth a0.Keys v1_0).Born == (nth a1.Keys v1_0).Born) && ((nth a0.Keys v1_0).Secret == (nth a1.Keys v1_0).Secret)))))) = true := by simpa using q3
        try simp at q3
        have x1 : i_equalFrames_1 a0 a1 (a0.Keys.length + 1) 0 = .inl false := by rw [← e1]; simp only [i_equalFrames_1, h2, h3, cond_true, cond_false]
        simp
        refine retRd (rv := [.tmp 4]) rfl ?_
        have f2 : i_equalFrames a0 a1 = false := by simp only [i_equalFrames, h1, x1, cond_true, cond_false]
        simp [f2]
      · have h3 : (!(((nth a0.Keys v1_0).Number == (nth a1.Keys v1_0).Number) && (((nth a0.Keys v1_0).Owner == (nth a1.Keys v1_0).Owner) && (((nth a0.Keys v1_0).Method == (nth a1.Keys v1_0).Method) && (((nth a0.Keys v1_0).Born == (nth a1.Keys v1_0).Born) && ((nth a0.Keys v1_0).Secret == (nth a1.Keys v1_0).Secret)))))) = false := by simpa using q3
        try simp at q3
        simp
        refine nxtI ⟨(p1, (v1_0 + 1)), ?_, ?_⟩ (by simp) (wk_keep (by simp [w1]))
        · rw [← e1]; simp only [i_equalFrames_1, h2, h3, cond_true, cond_false]
        · first | omega | (simp at *; omega)
    · have h2 : (decide ((↑v1_0 : Int) < (↑a0.Keys.length : Int))) = false := by simpa using q2
      try simp at q2
      have x2 : i_equalFrames_1 a0 a1 (a0.Keys.length + 1) 0 = .inr () := by rw [← e1]; simp only [i_equalFrames_1, h2, cond_true, cond_false]
      simp
      refine okL fun k6 => ?_
      refine loopI (ι := { s : Nat × Nat // i_equalFrames_2 a0 a1 s.1 s.2 = i_equalFrames_2 a0 a1 (a0.Authorities.length + 1) 0 ∧ (1 ≤ s.1 ∧ a0.Authorities.length < s.1 + s.2) }) (fun s => stOf 101 [(2, .one (.bptr 2 0), [.box [.d (.sl 5 (a0.Keys.map TKey.row)), .d (.sl 3 (a0.Authorities.map TAuthority.row)), .d (.sl 4 (a0.Methods.map TMethod.row)), .d (.int .i64 a0.Liars), .d (.int .i64 a0.Now)]]), (3, .one (.bptr 3 0), [.box [.d (.sl 5 (a1.Keys.map TKey.row)), .d (.sl 3 (a1.Authorities.map TAuthority.row)), .d (.sl 4 (a1.Methods.map TMethod.row)), .d (.int .i64 a1.Liars), .d (.int .i64 a1.Now)]]), (67, .one (.d (.int .i64 (↑a0.Authorities.length : Int))), []), (68, .one (.d (.int .i64 (↑s.1.2 : Int))), [])]) (fun s => s.1.1) ⟨((a0.Authorities.length + 1), 0), rfl, by first | omega | (dsimp only; omega) | simp⟩ (wk_keep (by simp)) ?_
      rintro ⟨⟨n2, v2_0⟩, e2, j2⟩
      try dsimp only at e2 j2
      obtain ⟨p2, rfl⟩ : ∃ p, n2 = p + 1 := ⟨n2 - 1, by omega⟩
      simp
      refine condB (fun k7 q4 => ?_) (fun k7 q4 => ?_)
      · have h4 : (decide ((↑v2_0 : Int) < (↑a0.Authorities.length : Int))) = true := by simpa using q4
        have i3 : v2_0 < a0.Authorities.length := by simpa using q4
        have m4 : a0.Authorities.length ≤ 9223372036854775807 := by simpa using k6 66 _ rfl
        have w2 : IntKind.i64.wrap ((v2_0 : Int) + 1) = (v2_0 : Int) + 1 := wrap_of (by omega) (by omega)
        try simp at q4
        simp
        refine okD fun k8 => ?_
        refine drawI mixed (by kernel_rfl) (by kernel_rfl) ?_
        have i4 : v2_0 < a1.Authorities.length := by omega
        simp [i3, rowAt_map, i4]
        repeat (refine ⟨by intros; omega, ?_⟩)
        refine condB (fun k9 q5 => ?_) (fun k9 q5 => ?_)
        · have h5 : (!(((nth a0.Authorities v2_0).Id == (nth a1.Authorities v2_0).Id) && (((nth a0.Authorities v2_0).Key == (nth a1.Authorities v2_0).Key) && ((nth a0.Authorities v2_0).Error == (nth a1.Authorities v2_0).Error)))) = true := by simpa using q5
          try simp at q5
          have x3 : i_equalFrames_2 a0 a1 (a0.Authorities.length + 1) 0 = .inl false := by rw [← e2]; simp only [i_equalFrames_2, h4, h5, cond_true, cond_false]
          simp
          refine retRd (rv := [.tmp 4]) rfl ?_
          have f3 : i_equalFrames a0 a1 = false := by simp only [i_equalFrames, h1, x2, x3, cond_true, cond_false]
          simp [f3]
        · have h5 : (!(((nth a0.Authorities v2_0).Id == (nth a1.Authorities v2_0).Id) && (((nth a0.Authorities v2_0).Key == (nth a1.Authorities v2_0).Key) && ((nth a0.Authorities v2_0).Error == (nth a1.Authorities v2_0).Error)))) = false := by simpa using q5
          try simp at q5
          simp
          refine nxtI ⟨(p2, (v2_0 + 1)), ?_, ?_⟩ (by simp) (wk_keep (by simp [w2]))
          · rw [← e2]; simp only [i_equalFrames_2, h4, h5, cond_true, cond_false]
          · first | omega | (simp at *; omega)
      · have h4 : (decide ((↑v2_0 : Int) < (↑a0.Authorities.length : Int))) = false := by simpa using q4
        try simp at q4
        have x4 : i_equalFrames_2 a0 a1 (a0.Authorities.length + 1) 0 = .inr () := by rw [← e2]; simp only [i_equalFrames_2, h4, cond_true, cond_false]
        simp
        refine okL fun k10 => ?_
        refine loopI (ι := { s : Nat × Nat // i_equalFrames_3 a0 a1 s.1 s.2 = i_equalFrames_3 a0 a1 (a0.Methods.length + 1) 0 ∧ (1 ≤ s.1 ∧ a0.Methods.length < s.1 + s.2) }) (fun s => stOf 101 [(2, .one (.bptr 2 0), [.box [.d (.sl 5 (a0.Keys.map TKey.row)), .d (.sl 3 (a0.Authorities.map TAuthority.row)), .d (.sl 4 (a0.Methods.map TMethod.row)), .d (.int .i64 a0.Liars), .d (.int .i64 a0.Now)]]), (3, .one (.bptr 3 0), [.box [.d (.sl 5 (a1.Keys.map TKey.row)), .d (.sl 3 (a1.Authorities.map TAuthority.row)), .d (.sl 4 (a1.Methods.map TMethod.row)), .d (.int .i64 a1.Liars), .d (.int .i64 a1.Now)]]), (85, .one (.d (.int .i64 (↑a0.Methods.length : Int))), []), (86, .one (.d (.int .i64 (↑s.1.2 : Int))), [])]) (fun s => s.1.1) ⟨((a0.Methods.length + 1), 0), rfl, by first | omega | (dsimp only; omega) | simp⟩ (wk_keep (by simp)) ?_
        rintro ⟨⟨n3, v3_0⟩, e3, j3⟩
        try dsimp only at e3 j3
        obtain ⟨p3, rfl⟩ : ∃ p, n3 = p + 1 := ⟨n3 - 1, by omega⟩
        simp
        refine condB (fun k11 q6 => ?_) (fun k11 q6 => ?_)
        · have h6 : (decide ((↑v3_0 : Int) < (↑a0.Methods.length : Int))) = true := by simpa using q6
          have i5 : v3_0 < a0.Methods.length := by simpa using q6
          have m6 : a0.Methods.length ≤ 9223372036854775807 := by simpa using k10 84 _ rfl
          have w3 : IntKind.i64.wrap ((v3_0 : Int) + 1) = (v3_0 : Int) + 1 := wrap_of (by omega) (by omega)
          try simp at q6
          simp
          refine okD fun k12 => ?_
          refine drawI mixed (by kernel_rfl) (by kernel_rfl) ?_
          have i6 : v3_0 < a1.Methods.length := by omega
          simp [i5, rowAt_map, i6]
          repeat (refine ⟨by intros; omega, ?_⟩)
          refine condB (fun k13 q7 => ?_) (fun k13 q7 => ?_)
          · have h7 : (!(((nth a0.Methods v3_0).Id == (nth a1.Methods v3_0).Id) && (((nth a0.Methods v3_0).Known == (nth a1.Methods v3_0).Known) && (((nth a0.Methods v3_0).Ends == (nth a1.Methods v3_0).Ends) && ((nth a0.Methods v3_0).Broken == (nth a1.Methods v3_0).Broken))))) = true := by simpa using q7
            try simp at q7
            have x5 : i_equalFrames_3 a0 a1 (a0.Methods.length + 1) 0 = .inl false := by rw [← e3]; simp only [i_equalFrames_3, h6, h7, cond_true, cond_false]
            simp
            refine retRd (rv := [.tmp 4]) rfl ?_
            have f4 : i_equalFrames a0 a1 = false := by simp only [i_equalFrames, h1, x2, x4, x5, cond_true, cond_false]
            simp [f4]
          · have h7 : (!(((nth a0.Methods v3_0).Id == (nth a1.Methods v3_0).Id) && (((nth a0.Methods v3_0).Known == (nth a1.Methods v3_0).Known) && (((nth a0.Methods v3_0).Ends == (nth a1.Methods v3_0).Ends) && ((nth a0.Methods v3_0).Broken == (nth a1.Methods v3_0).Broken))))) = false := by simpa using q7
            try simp at q7
            simp
            refine nxtI ⟨(p3, (v3_0 + 1)), ?_, ?_⟩ (by simp) (wk_keep (by simp [w3]))
            · rw [← e3]; simp only [i_equalFrames_3, h6, h7, cond_true, cond_false]
            · first | omega | (simp at *; omega)
        · have h6 : (decide ((↑v3_0 : Int) < (↑a0.Methods.length : Int))) = false := by simpa using q6
          try simp at q6
          have x6 : i_equalFrames_3 a0 a1 (a0.Methods.length + 1) 0 = .inr () := by rw [← e3]; simp only [i_equalFrames_3, h6, cond_true, cond_false]
          simp
          refine retRd (rv := [.tmp 4]) rfl ?_
          have f5 : i_equalFrames a0 a1 = true := by simp only [i_equalFrames, h1, x2, x4, x6, cond_true, cond_false]
          simp [f5]
theorem i_EqualInts_ok (a0 : List Int) (a1 : List Int) : SoundAt Try.prog 135 false [[.sl 1 (a0.map iR)], [.sl 1 (a1.map iR)]] [[.bool (i_EqualInts a0 a1)]] := by
  refine sound_of Try.func135 rfl (by kernel_rfl) ?_
  simp [Try.ntmps135]
  refine condB (fun k1 q1 => ?_) (fun k1 q1 => ?_)
  · have h1 : ((↑a0.length : Int) != (↑a1.length : Int)) = true := by simpa using q1
    try simp at q1
    simp
    refine retRd (rv := [.tmp 4]) rfl ?_
    have f1 : i_EqualInts a0 a1 = false := by simp only [i_EqualInts, h1, cond_true, cond_false]
    simp [f1]
  · have h1 : ((↑a0.length : Int) != (↑a1.length : Int)) = false := by simpa using q1
    try simp at q1
    simp
    refine okL fun k2 => ?_
    refine loopI (ι := { s : Nat × Nat // i_EqualInts_1 a0 a1 s.1 s.2 = i_EqualInts_1 a0 a1 (a0.length + 1) 0 ∧ (1 ≤ s.1 ∧ a0.length < s.1 + s.2) }) (fun s => stOf 26 [(0, .one (.d (.sl 1 (a0.map iR))), []), (1, .one (.d (.sl 1 (a1.map iR))), []), (12, .one (.d (.int .i64 (↑a0.length : Int))), []), (13, .one (.d (.int .i64 (↑s.1.2 : Int))), [])]) (fun s => s.1.1) ⟨((a0.length + 1), 0), rfl, by first | omega | (dsimp only; omega) | simp⟩ (wk_keep (by simp)) ?_
    rintro ⟨⟨n1, v1_0⟩, e1, j1⟩
    try dsimp only at e1 j1
    obtain ⟨p1, rfl⟩ : ∃ p, n1 = p + 1 := ⟨n1 - 1, by omega⟩
    simp
    refine condB (fun k3 q2 => ?_) (fun k3 q2 => ?_)
    · have h2 : (decide ((↑v1_0 : Int) < (↑a0.length : Int))) = true := by simpa using q2
      have i1 : v1_0 < a0.length := by simpa using q2
      have m2 : a0.length ≤ 9223372036854775807 := by simpa using k3 0 _ rfl
      have w1 : IntKind.i64.wrap ((v1_0 : Int) + 1) = (v1_0 : Int) + 1 := wrap_of (by omega) (by omega)
      try simp at q2
      simp
      refine okD fun k4 => ?_
      refine drawI mixed (by kernel_rfl) (by kernel_rfl) ?_
      have i2 : v1_0 < a1.length := by omega
      simp [i1, rowAt_map, i2]
      repeat (refine ⟨by intros; omega, ?_⟩)
      refine condB (fun k5 q3 => ?_) (fun k5 q3 => ?_)
      · have h3 : ((nth a0 v1_0) != (nth a1 v1_0)) = true := by simpa using q3
        try simp at q3
        have x1 : i_EqualInts_1 a0 a1 (a0.length + 1) 0 = .inl false := by rw [← e1]; simp only [i_EqualInts_1, h2, h3, cond_true, cond_false]
        simp
        refine retRd (rv := [.tmp 4]) rfl ?_
        have f2 : i_EqualInts a0 a1 = false := by simp only [i_EqualInts, h1, x1, cond_true, cond_false]
        simp [f2]
      · have h3 : ((nth a0 v1_0) != (nth a1 v1_0)) = false := by simpa using q3
        try simp at q3
        simp
        refine nxtI ⟨(p1, (v1_0 + 1)), ?_, ?_⟩ (by simp) (wk_keep (by simp [w1]))
        · rw [← e1]; simp only [i_EqualInts_1, h2, h3, cond_true, cond_false]
        · first | omega | (simp at *; omega)
    · have h2 : (decide ((↑v1_0 : Int) < (↑a0.length : Int))) = false := by simpa using q2
      try simp at q2
      have x2 : i_EqualInts_1 a0 a1 (a0.length + 1) 0 = .inr () := by rw [← e1]; simp only [i_EqualInts_1, h2, cond_true, cond_false]
      simp
      refine retRd (rv := [.tmp 4]) rfl ?_
      have f3 : i_EqualInts a0 a1 = true := by simp only [i_EqualInts, h1, x2, cond_true, cond_false]
      simp [f3]
theorem i_equalStrings_ok (a0 : List ByteArray) (a1 : List ByteArray) : SoundAt Try.prog 184 false [[.sl 1 (a0.map sR)], [.sl 1 (a1.map sR)]] [[.bool (i_equalStrings a0 a1)]] := by
  refine sound_of Try.func184 rfl (by kernel_rfl) ?_
  simp [Try.ntmps184]
  refine condB (fun k1 q1 => ?_) (fun k1 q1 => ?_)
  · have h1 : ((↑a0.length : Int) != (↑a1.length : Int)) = true := by simpa using q1
    try simp at q1
    simp
    refine retRd (rv := [.tmp 4]) rfl ?_
    have f1 : i_equalStrings a0 a1 = false := by simp only [i_equalStrings, h1, cond_true, cond_false]
    simp [f1]
  · have h1 : ((↑a0.length : Int) != (↑a1.length : Int)) = false := by simpa using q1
    try simp at q1
    simp
    refine okL fun k2 => ?_
    refine loopI (ι := { s : Nat × Nat // i_equalStrings_1 a0 a1 s.1 s.2 = i_equalStrings_1 a0 a1 (a0.length + 1) 0 ∧ (1 ≤ s.1 ∧ a0.length < s.1 + s.2) }) (fun s => stOf 26 [(0, .one (.d (.sl 1 (a0.map sR))), []), (1, .one (.d (.sl 1 (a1.map sR))), []), (12, .one (.d (.int .i64 (↑a0.length : Int))), []), (13, .one (.d (.int .i64 (↑s.1.2 : Int))), [])]) (fun s => s.1.1) ⟨((a0.length + 1), 0), rfl, by first | omega | (dsimp only; omega) | simp⟩ (wk_keep (by simp)) ?_
    rintro ⟨⟨n1, v1_0⟩, e1, j1⟩
    try dsimp only at e1 j1
    obtain ⟨p1, rfl⟩ : ∃ p, n1 = p + 1 := ⟨n1 - 1, by omega⟩
    simp
    refine condB (fun k3 q2 => ?_) (fun k3 q2 => ?_)
    · have h2 : (decide ((↑v1_0 : Int) < (↑a0.length : Int))) = true := by simpa using q2
      have i1 : v1_0 < a0.length := by simpa using q2
      have m2 : a0.length ≤ 9223372036854775807 := by simpa using k3 0 _ rfl
      have w1 : IntKind.i64.wrap ((v1_0 : Int) + 1) = (v1_0 : Int) + 1 := wrap_of (by omega) (by omega)
      try simp at q2
      simp
      refine okD fun k4 => ?_
      refine drawI mixed (by kernel_rfl) (by kernel_rfl) ?_
      have i2 : v1_0 < a1.length := by omega
      simp [i1, rowAt_map, i2]
      repeat (refine ⟨by intros; omega, ?_⟩)
      refine condB (fun k5 q3 => ?_) (fun k5 q3 => ?_)
      · have h3 : (!decide ((nth a0 v1_0) = (nth a1 v1_0))) = true := by simpa using q3
        try simp at q3
        have x1 : i_equalStrings_1 a0 a1 (a0.length + 1) 0 = .inl false := by rw [← e1]; simp only [i_equalStrings_1, h2, h3, cond_true, cond_false]
        simp
        refine retRd (rv := [.tmp 4]) rfl ?_
        have f2 : i_equalStrings a0 a1 = false := by simp only [i_equalStrings, h1, x1, cond_true, cond_false]
        simp [f2]
      · have h3 : (!decide ((nth a0 v1_0) = (nth a1 v1_0))) = false := by simpa using q3
        try simp at q3
        simp
        refine nxtI ⟨(p1, (v1_0 + 1)), ?_, ?_⟩ (by simp) (wk_keep (by simp [w1]))
        · rw [← e1]; simp only [i_equalStrings_1, h2, h3, cond_true, cond_false]
        · first | omega | (simp at *; omega)
    · have h2 : (decide ((↑v1_0 : Int) < (↑a0.length : Int))) = false := by simpa using q2
      try simp at q2
      have x2 : i_equalStrings_1 a0 a1 (a0.length + 1) 0 = .inr () := by rw [← e1]; simp only [i_equalStrings_1, h2, cond_true, cond_false]
      simp
      refine retRd (rv := [.tmp 4]) rfl ?_
      have f3 : i_equalStrings a0 a1 = true := by simp only [i_equalStrings, h1, x2, cond_true, cond_false]
      simp [f3]
theorem i_EqualDocuments_ok (a0 : TDocument) (a1 : TDocument) : SoundAt Try.prog 178 false [a0.row, a1.row] [[.bool (i_EqualDocuments a0 a1)]] := by
  refine sound_of Try.func178 rfl (by kernel_rfl) ?_
  simp [Try.ntmps178]
  refine callG rfl rfl rfl rfl rfl rfl (fun _ => (i_equalStrings_ok a0.Parts a1.Parts)) (by simp) (by simp) (by simp) (by simp) ?_
  simp
  refine callG rfl rfl rfl rfl rfl rfl (fun _ => (i_EqualInts_ok a0.Salts a1.Salts)) (by simp) (by simp) (by simp) (by simp) ?_
  simp
  refine retRd (rv := [.tmp 4]) rfl ?_
  have f1 : i_EqualDocuments a0 a1 = (((a0.Title == a1.Title) && (i_equalStrings a0.Parts a1.Parts)) && (i_EqualInts a0.Salts a1.Salts)) := by simp only [i_EqualDocuments, cond_true, cond_false]
  simp [f1]
theorem i_EqualPieces_ok (a0 : TPiece) (a1 : TPiece) : SoundAt Try.prog 187 false [a0.row, a1.row] [[.bool (i_EqualPieces a0 a1)]] := by
  refine sound_of Try.func187 rfl (by kernel_rfl) ?_
  simp [Try.ntmps187]
  refine callG rfl rfl rfl rfl rfl rfl (fun _ => (i_EqualInts_ok a0.Ints a1.Ints)) (by simp) (by simp) (by simp) (by simp) ?_
  simp
  refine retRd (rv := [.tmp 4]) rfl ?_
  have f1 : i_EqualPieces a0 a1 = (((a0.Key == a1.Key) && (a0.Mark == a1.Mark)) && (i_EqualInts a0.Ints a1.Ints)) := by simp only [i_EqualPieces, cond_true, cond_false]
  simp [f1]
theorem i_equalPieceLists_ok (a0 : List TPiece) (a1 : List TPiece) : SoundAt Try.prog 185 false [[.sl 3 (a0.map TPiece.row)], [.sl 3 (a1.map TPiece.row)]] [[.bool (i_equalPieceLists a0 a1)]] := by
  refine sound_of Try.func185 rfl (by kernel_rfl) ?_
  simp [Try.ntmps185]
  refine condB (fun k1 q1 => ?_) (fun k1 q1 => ?_)
  · have h1 : ((↑a0.length : Int) != (↑a1.length : Int)) = true := by simpa using q1
    try simp at q1
    simp
    refine retRd (rv := [.tmp 4]) rfl ?_
    have f1 : i_equalPieceLists a0 a1 = false := by simp only [i_equalPieceLists, h1, cond_true, cond_false]
    simp [f1]
  · have h1 : ((↑a0.length : Int) != (↑a1.length : Int)) = false := by simpa using q1
    try simp at q1
    simp
    refine okL fun k2 => ?_
    refine loopI (ι := { s : Nat × Nat // i_equalPieceLists_1 a0 a1 s.1 s.2 = i_equalPieceLists_1 a0 a1 (a0.length + 1) 0 ∧ (1 ≤ s.1 ∧ a0.length < s.1 + s.2) }) (fun s => stOf 27 [(0, .one (.d (.sl 3 (a0.map TPiece.row))), []), (1, .one (.d (.sl 3 (a1.map TPiece.row))), []), (12, .one (.d (.int .i64 (↑a0.length : Int))), []), (13, .one (.d (.int .i64 (↑s.1.2 : Int))), [])]) (fun s => s.1.1) ⟨((a0.length + 1), 0), rfl, by first | omega | (dsimp only; omega) | simp⟩ (wk_keep (by simp)) ?_
    rintro ⟨⟨n1, v1_0⟩, e1, j1⟩
    try dsimp only at e1 j1
    obtain ⟨p1, rfl⟩ : ∃ p, n1 = p + 1 := ⟨n1 - 1, by omega⟩
    simp
    refine condB (fun k3 q2 => ?_) (fun k3 q2 => ?_)
    · have h2 : (decide ((↑v1_0 : Int) < (↑a0.length : Int))) = true := by simpa using q2
      have i1 : v1_0 < a0.length := by simpa using q2
      have m2 : a0.length ≤ 9223372036854775807 := by simpa using k3 0 _ rfl
      have w1 : IntKind.i64.wrap ((v1_0 : Int) + 1) = (v1_0 : Int) + 1 := wrap_of (by omega) (by omega)
      try simp at q2
      simp
      refine okD fun k4 => ?_
      refine drawI mixed (by kernel_rfl) (by kernel_rfl) ?_
      have i2 : v1_0 < a1.length := by omega
      simp [i1, rowAt_map, i2]
      repeat (refine ⟨by intros; omega, ?_⟩)
      refine callRd rfl rfl rfl rfl (i_EqualPieces_ok (nth a0 v1_0) (nth a1 v1_0)) (by simp) (by simp) (by simp) ?_
      simp
      refine condB (fun k5 q3 => ?_) (fun k5 q3 => ?_)
      · have h3 : (!(i_EqualPieces (nth a0 v1_0) (nth a1 v1_0))) = true := by simpa using q3
        try simp at q3
        have x1 : i_equalPieceLists_1 a0 a1 (a0.length + 1) 0 = .inl false := by rw [← e1]; simp only [i_equalPieceLists_1, h2, h3, cond_true, cond_false]
        simp
        refine retRd (rv := [.tmp 4]) rfl ?_
        have f2 : i_equalPieceLists a0 a1 = false := by simp only [i_equalPieceLists, h1, x1, cond_true, cond_false]
        simp [f2]
      · have h3 : (!(i_EqualPieces (nth a0 v1_0) (nth a1 v1_0))) = false := by simpa using q3
        try simp at q3
        simp
        refine nxtI ⟨(p1, (v1_0 + 1)), ?_, ?_⟩ (by simp) (wk_keep (by simp [w1]))
        · rw [← e1]; simp only [i_equalPieceLists_1, h2, h3, cond_true, cond_false]
        · first | omega | (simp at *; omega)
    · have h2 : (decide ((↑v1_0 : Int) < (↑a0.length : Int))) = false := by simpa using q2
      try simp at q2
      have x2 : i_equalPieceLists_1 a0 a1 (a0.length + 1) 0 = .inr () := by rw [← e1]; simp only [i_equalPieceLists_1, h2, cond_true, cond_false]
      simp
      refine retRd (rv := [.tmp 4]) rfl ?_
      have f3 : i_equalPieceLists a0 a1 = true := by simp only [i_equalPieceLists, h1, x2, cond_true, cond_false]
      simp [f3]
theorem i_equalStamps_ok (a0 : List TStamp) (a1 : List TStamp) : SoundAt Try.prog 188 false [[.sl 5 (a0.map TStamp.row)], [.sl 5 (a1.map TStamp.row)]] [[.bool (i_equalStamps a0 a1)]] := by
  refine sound_of Try.func188 rfl (by kernel_rfl) ?_
  simp [Try.ntmps188]
  refine condB (fun k1 q1 => ?_) (fun k1 q1 => ?_)
  · have h1 : ((↑a0.length : Int) != (↑a1.length : Int)) = true := by simpa using q1
    try simp at q1
    simp
    refine retRd (rv := [.tmp 4]) rfl ?_
    have f1 : i_equalStamps a0 a1 = false := by simp only [i_equalStamps, h1, cond_true, cond_false]
    simp [f1]
  · have h1 : ((↑a0.length : Int) != (↑a1.length : Int)) = false := by simpa using q1
    try simp at q1
    simp
    refine okL fun k2 => ?_
    refine loopI (ι := { s : Nat × Nat // i_equalStamps_1 a0 a1 s.1 s.2 = i_equalStamps_1 a0 a1 (a0.length + 1) 0 ∧ (1 ≤ s.1 ∧ a0.length < s.1 + s.2) }) (fun s => stOf 26 [(0, .one (.d (.sl 5 (a0.map TStamp.row))), []), (1, .one (.d (.sl 5 (a1.map TStamp.row))), []), (12, .one (.d (.int .i64 (↑a0.length : Int))), []), (13, .one (.d (.int .i64 (↑s.1.2 : Int))), [])]) (fun s => s.1.1) ⟨((a0.length + 1), 0), rfl, by first | omega | (dsimp only; omega) | simp⟩ (wk_keep (by simp)) ?_
    rintro ⟨⟨n1, v1_0⟩, e1, j1⟩
    try dsimp only at e1 j1
    obtain ⟨p1, rfl⟩ : ∃ p, n1 = p + 1 := ⟨n1 - 1, by omega⟩
    simp
    refine condB (fun k3 q2 => ?_) (fun k3 q2 => ?_)
    · have h2 : (decide ((↑v1_0 : Int) < (↑a0.length : Int))) = true := by simpa using q2
      have i1 : v1_0 < a0.length := by simpa using q2
      have m2 : a0.length ≤ 9223372036854775807 := by simpa using k3 0 _ rfl
      have w1 : IntKind.i64.wrap ((v1_0 : Int) + 1) = (v1_0 : Int) + 1 := wrap_of (by omega) (by omega)
      try simp at q2
      simp
      refine okD fun k4 => ?_
      refine drawI mixed (by kernel_rfl) (by kernel_rfl) ?_
      have i2 : v1_0 < a1.length := by omega
      simp [i1, rowAt_map, i2]
      repeat (refine ⟨by intros; omega, ?_⟩)
      refine condB (fun k5 q3 => ?_) (fun k5 q3 => ?_)
      · have h3 : (!(((nth a0 v1_0).Authority == (nth a1 v1_0).Authority) && (((nth a0 v1_0).Seq == (nth a1 v1_0).Seq) && (((nth a0 v1_0).Time == (nth a1 v1_0).Time) && (((nth a0 v1_0).Digest == (nth a1 v1_0).Digest) && ((nth a0 v1_0).Mark == (nth a1 v1_0).Mark)))))) = true := by simpa using q3
        try simp at q3
        have x1 : i_equalStamps_1 a0 a1 (a0.length + 1) 0 = .inl false := by rw [← e1]; simp only [i_equalStamps_1, h2, h3, cond_true, cond_false]
        simp
        refine retRd (rv := [.tmp 4]) rfl ?_
        have f2 : i_equalStamps a0 a1 = false := by simp only [i_equalStamps, h1, x1, cond_true, cond_false]
        simp [f2]
      · have h3 : (!(((nth a0 v1_0).Authority == (nth a1 v1_0).Authority) && (((nth a0 v1_0).Seq == (nth a1 v1_0).Seq) && (((nth a0 v1_0).Time == (nth a1 v1_0).Time) && (((nth a0 v1_0).Digest == (nth a1 v1_0).Digest) && ((nth a0 v1_0).Mark == (nth a1 v1_0).Mark)))))) = false := by simpa using q3
        try simp at q3
        simp
        refine nxtI ⟨(p1, (v1_0 + 1)), ?_, ?_⟩ (by simp) (wk_keep (by simp [w1]))
        · rw [← e1]; simp only [i_equalStamps_1, h2, h3, cond_true, cond_false]
        · first | omega | (simp at *; omega)
    · have h2 : (decide ((↑v1_0 : Int) < (↑a0.length : Int))) = false := by simpa using q2
      try simp at q2
      have x2 : i_equalStamps_1 a0 a1 (a0.length + 1) 0 = .inr () := by rw [← e1]; simp only [i_equalStamps_1, h2, cond_true, cond_false]
      simp
      refine retRd (rv := [.tmp 4]) rfl ?_
      have f3 : i_equalStamps a0 a1 = true := by simp only [i_equalStamps, h1, x2, cond_true, cond_false]
      simp [f3]
theorem i_EqualRenewals_ok (a0 : TRenewal) (a1 : TRenewal) : SoundAt Try.prog 186 false [a0.row, a1.row] [[.bool (i_EqualRenewals a0 a1)]] := by
  refine sound_of Try.func186 rfl (by kernel_rfl) ?_
  simp [Try.ntmps186]
  refine condB (fun k1 q1 => ?_) (fun k1 q1 => ?_)
  · have h1 : ((((a0.Count != a1.Count) || (a0.Method != a1.Method)) || (a0.Root != a1.Root)) || ((↑a0.Path.length : Int) != (↑a1.Path.length : Int))) = true := by simpa using q1
    try simp at q1
    simp
    refine retRd (rv := [.tmp 4]) rfl ?_
    have f1 : i_EqualRenewals a0 a1 = false := by simp only [i_EqualRenewals, h1, cond_true, cond_false]
    simp [f1]
  · have h1 : ((((a0.Count != a1.Count) || (a0.Method != a1.Method)) || (a0.Root != a1.Root)) || ((↑a0.Path.length : Int) != (↑a1.Path.length : Int))) = false := by simpa using q1
    try simp at q1
    simp
    refine okL fun k2 => ?_
    refine loopI (ι := { s : Nat × Nat // i_EqualRenewals_1 a0 a1 s.1 s.2 = i_EqualRenewals_1 a0 a1 (a0.Path.length + 1) 0 ∧ (1 ≤ s.1 ∧ a0.Path.length < s.1 + s.2) }) (fun s => stOf 57 [(2, .one (.bptr 2 0), [.box [.d (.int .i64 a0.Count), .d (.int .i64 a0.Method), .d (.int .i64 a0.Root), .d (.sl 2 (a0.Path.map TStep.row)), .d (.sl 5 (a0.Stamps.map TStamp.row))]]), (3, .one (.bptr 3 0), [.box [.d (.int .i64 a1.Count), .d (.int .i64 a1.Method), .d (.int .i64 a1.Root), .d (.sl 2 (a1.Path.map TStep.row)), .d (.sl 5 (a1.Stamps.map TStamp.row))]]), (36, .one (.d (.int .i64 (↑a0.Path.length : Int))), []), (37, .one (.d (.int .i64 (↑s.1.2 : Int))), [])]) (fun s => s.1.1) ⟨((a0.Path.length + 1), 0), rfl, by first | omega | (dsimp only; omega) | simp⟩ (wk_keep (by simp)) ?_
    rintro ⟨⟨n1, v1_0⟩, e1, j1⟩
    try dsimp only at e1 j1
    obtain ⟨p1, rfl⟩ : ∃ p, n1 = p + 1 := ⟨n1 - 1, by omega⟩
    simp
    refine condB (fun k3 q2 => ?_) (fun k3 q2 => ?_)
    · have h2 : (decide ((↑v1_0 : Int) < (↑a0.Path.length : Int))) = true := by simpa using q2
      have i1 : v1_0 < a0.Path.length := by simpa using q2
      have m2 : a0.Path.length ≤ 9223372036854775807 := by simpa using k2 35 _ rfl
      have w1 : IntKind.i64.wrap ((v1_0 : Int) + 1) = (v1_0 : Int) + 1 := wrap_of (by omega) (by omega)
      try simp at q2
      simp
      refine okD fun k4 => ?_
      refine drawI mixed (by kernel_rfl) (by kernel_rfl) ?_
      have i2 : v1_0 < a1.Path.length := by omega
      simp [i1, rowAt_map, i2]
      repeat (refine ⟨by intros; omega, ?_⟩)
      refine condB (fun k5 q3 => ?_) (fun k5 q3 => ?_)
      · have h3 : (!(((nth a0.Path v1_0).Digest == (nth a1.Path v1_0).Digest) && ((nth a0.Path v1_0).Left == (nth a1.Path v1_0).Left))) = true := by simpa using q3
        try simp at q3
        have x1 : i_EqualRenewals_1 a0 a1 (a0.Path.length + 1) 0 = .inl false := by rw [← e1]; simp only [i_EqualRenewals_1, h2, h3, cond_true, cond_false]
        simp
        refine retRd (rv := [.tmp 4]) rfl ?_
        have f2 : i_EqualRenewals a0 a1 = false := by simp only [i_EqualRenewals, h1, x1, cond_true, cond_false]
        simp [f2]
      · have h3 : (!(((nth a0.Path v1_0).Digest == (nth a1.Path v1_0).Digest) && ((nth a0.Path v1_0).Left == (nth a1.Path v1_0).Left))) = false := by simpa using q3
        try simp at q3
        simp
        refine nxtI ⟨(p1, (v1_0 + 1)), ?_, ?_⟩ (by simp) (wk_keep (by simp [w1]))
        · rw [← e1]; simp only [i_EqualRenewals_1, h2, h3, cond_true, cond_false]
        · first | omega | (simp at *; omega)
    · have h2 : (decide ((↑v1_0 : Int) < (↑a0.Path.length : Int))) = false := by simpa using q2
      try simp at q2
      have x2 : i_EqualRenewals_1 a0 a1 (a0.Path.length + 1) 0 = .inr () := by rw [← e1]; simp only [i_EqualRenewals_1, h2, cond_true, cond_false]
      simp
      refine callRd rfl rfl rfl rfl (i_equalStamps_ok a0.Stamps a1.Stamps) (by simp) (by simp) (by simp) ?_
      simp
      refine retRd (rv := [.tmp 4]) rfl ?_
      have f3 : i_EqualRenewals a0 a1 = (i_equalStamps a0.Stamps a1.Stamps) := by simp only [i_EqualRenewals, h1, x2, cond_true, cond_false]
      simp [f3]
theorem i_EqualStrands_ok (a0 : TStrand) (a1 : TStrand) : SoundAt Try.prog 179 false [a0.row, a1.row] [[.bool (i_EqualStrands a0 a1)]] := by
  refine sound_of Try.func179 rfl (by kernel_rfl) ?_
  simp [Try.ntmps179]
  refine callRd rfl rfl rfl rfl (i_equalPieceLists_ok a0.Pieces a1.Pieces) (by simp) (by simp) (by simp) ?_
  simp
  refine condB (fun k1 q1 => ?_) (fun k1 q1 => ?_)
  · have h1 : ((!(i_equalPieceLists a0.Pieces a1.Pieces)) || ((↑a0.Chain.length : Int) != (↑a1.Chain.length : Int))) = true := by simpa using q1
    try simp at q1
    simp
    refine retRd (rv := [.tmp 4]) rfl ?_
    have f1 : i_EqualStrands a0 a1 = false := by simp only [i_EqualStrands, h1, cond_true, cond_false]
    simp [f1]
  · have h1 : ((!(i_equalPieceLists a0.Pieces a1.Pieces)) || ((↑a0.Chain.length : Int) != (↑a1.Chain.length : Int))) = false := by simpa using q1
    try simp at q1
    simp
    refine okL fun k2 => ?_
    refine loopI (ι := { s : Nat × Nat // i_EqualStrands_1 a0 a1 s.1 s.2 = i_EqualStrands_1 a0 a1 (a0.Chain.length + 1) 0 ∧ (1 ≤ s.1 ∧ a0.Chain.length < s.1 + s.2) }) (fun s => stOf 40 [(2, .one (.bptr 2 0), [.box [.d (.sl 3 (a0.Pieces.map TPiece.row)), .d (.sl 5 (a0.Chain.map TRenewal.row))]]), (3, .one (.bptr 3 0), [.box [.d (.sl 3 (a1.Pieces.map TPiece.row)), .d (.sl 5 (a1.Chain.map TRenewal.row))]]), (23, .one (.d (.int .i64 (↑a0.Chain.length : Int))), []), (24, .one (.d (.int .i64 (↑s.1.2 : Int))), [])]) (fun s => s.1.1) ⟨((a0.Chain.length + 1), 0), rfl, by first | omega | (dsimp only; omega) | simp⟩ (wk_keep (by simp)) ?_
    rintro ⟨⟨n1, v1_0⟩, e1, j1⟩
    try dsimp only at e1 j1
    obtain ⟨p1, rfl⟩ : ∃ p, n1 = p + 1 := ⟨n1 - 1, by omega⟩
    simp
    refine condB (fun k3 q2 => ?_) (fun k3 q2 => ?_)
    · have h2 : (decide ((↑v1_0 : Int) < (↑a0.Chain.length : Int))) = true := by simpa using q2
      have i1 : v1_0 < a0.Chain.length := by simpa using q2
      have m2 : a0.Chain.length ≤ 9223372036854775807 := by simpa using k2 22 _ rfl
      have w1 : IntKind.i64.wrap ((v1_0 : Int) + 1) = (v1_0 : Int) + 1 := wrap_of (by omega) (by omega)
      try simp at q2
      simp
      refine okD fun k4 => ?_
      refine drawI mixed (by kernel_rfl) (by kernel_rfl) ?_
      have i2 : v1_0 < a1.Chain.length := by omega
      simp [i1, rowAt_map, i2]
      repeat (refine ⟨by intros; omega, ?_⟩)
      refine callRd rfl rfl rfl rfl (i_EqualRenewals_ok (nth a0.Chain v1_0) (nth a1.Chain v1_0)) (by simp) (by simp) (by simp) ?_
      simp
      refine condB (fun k5 q3 => ?_) (fun k5 q3 => ?_)
      · have h3 : (!(i_EqualRenewals (nth a0.Chain v1_0) (nth a1.Chain v1_0))) = true := by simpa using q3
        try simp at q3
        have x1 : i_EqualStrands_1 a0 a1 (a0.Chain.length + 1) 0 = .inl false := by rw [← e1]; simp only [i_EqualStrands_1, h2, h3, cond_true, cond_false]
        simp
        refine retRd (rv := [.tmp 4]) rfl ?_
        have f2 : i_EqualStrands a0 a1 = false := by simp only [i_EqualStrands, h1, x1, cond_true, cond_false]
        simp [f2]
      · have h3 : (!(i_EqualRenewals (nth a0.Chain v1_0) (nth a1.Chain v1_0))) = false := by simpa using q3
        try simp at q3
        simp
        refine nxtI ⟨(p1, (v1_0 + 1)), ?_, ?_⟩ (by simp) (wk_keep (by simp [w1]))
        · rw [← e1]; simp only [i_EqualStrands_1, h2, h3, cond_true, cond_false]
        · first | omega | (simp at *; omega)
    · have h2 : (decide ((↑v1_0 : Int) < (↑a0.Chain.length : Int))) = false := by simpa using q2
      try simp at q2
      have x2 : i_EqualStrands_1 a0 a1 (a0.Chain.length + 1) 0 = .inr () := by rw [← e1]; simp only [i_EqualStrands_1, h2, cond_true, cond_false]
      simp
      refine retRd (rv := [.tmp 4]) rfl ?_
      have f3 : i_EqualStrands a0 a1 = true := by simp only [i_EqualStrands, h1, x2, cond_true, cond_false]
      simp [f3]
theorem i_equalItems_ok (a0 : TItem) (a1 : TItem) : SoundAt Try.prog 162 false [a0.row, a1.row] [[.bool (i_equalItems a0 a1)]] := by
  refine sound_of Try.func162 rfl (by kernel_rfl) ?_
  simp [Try.ntmps162]
  refine callG rfl rfl rfl rfl rfl rfl (fun _ => (i_EqualDocuments_ok a0.Doc a1.Doc)) (by simp) (by simp) (by simp) (by simp) ?_
  simp
  refine callG rfl rfl rfl rfl rfl rfl (fun _ => (i_EqualStrands_ok a0.Strand a1.Strand)) (by simp) (by simp) (by simp) (by simp) ?_
  simp
  refine retRd (rv := [.tmp 4]) rfl ?_
  have f1 : i_equalItems a0 a1 = (((((a0.Id == a1.Id) && (a0.Keep == a1.Keep)) && (i_EqualDocuments a0.Doc a1.Doc)) && ((a0.Sig.Key == a1.Sig.Key) && ((a0.Sig.Serial == a1.Sig.Serial) && ((a0.Sig.Method == a1.Sig.Method) && ((a0.Sig.Digest == a1.Sig.Digest) && ((a0.Sig.Commit == a1.Sig.Commit) && ((a0.Sig.Org == a1.Sig.Org) && ((a0.Sig.Before == a1.Sig.Before) && ((a0.Sig.After == a1.Sig.After) && (a0.Sig.Mark == a1.Sig.Mark)))))))))) && (i_EqualStrands a0.Strand a1.Strand)) := by simp only [i_equalItems, cond_true, cond_false]
  simp [f1]
theorem i_EqualArchives_ok (a0 : TArchive) (a1 : TArchive) : SoundAt Try.prog 136 false [a0.row, a1.row] [[.bool (i_EqualArchives a0 a1)]] := by
  refine sound_of Try.func136 rfl (by kernel_rfl) ?_
  simp [Try.ntmps136]
  refine condB (fun k1 q1 => ?_) (fun k1 q1 => ?_)
  · have h1 : ((a0.Id != a1.Id) || ((↑a0.Items.length : Int) != (↑a1.Items.length : Int))) = true := by simpa using q1
    try simp at q1
    simp
    refine retRd (rv := [.tmp 4]) rfl ?_
    have f1 : i_EqualArchives a0 a1 = false := by simp only [i_EqualArchives, h1, cond_true, cond_false]
    simp [f1]
  · have h1 : ((a0.Id != a1.Id) || ((↑a0.Items.length : Int) != (↑a1.Items.length : Int))) = false := by simpa using q1
    try simp at q1
    simp
    refine okL fun k2 => ?_
    refine loopI (ι := { s : Nat × Nat // i_EqualArchives_1 a0 a1 s.1 s.2 = i_EqualArchives_1 a0 a1 (a0.Items.length + 1) 0 ∧ (1 ≤ s.1 ∧ a0.Items.length < s.1 + s.2) }) (fun s => stOf 39 [(2, .one (.bptr 2 0), [.box [.d (.int .i64 a0.Id), .d (.sl 16 (a0.Items.map TItem.row))]]), (3, .one (.bptr 3 0), [.box [.d (.int .i64 a1.Id), .d (.sl 16 (a1.Items.map TItem.row))]]), (22, .one (.d (.int .i64 (↑a0.Items.length : Int))), []), (23, .one (.d (.int .i64 (↑s.1.2 : Int))), [])]) (fun s => s.1.1) ⟨((a0.Items.length + 1), 0), rfl, by first | omega | (dsimp only; omega) | simp⟩ (wk_keep (by simp)) ?_
    rintro ⟨⟨n1, v1_0⟩, e1, j1⟩
    try dsimp only at e1 j1
    obtain ⟨p1, rfl⟩ : ∃ p, n1 = p + 1 := ⟨n1 - 1, by omega⟩
    simp
    refine condB (fun k3 q2 => ?_) (fun k3 q2 => ?_)
    · have h2 : (decide ((↑v1_0 : Int) < (↑a0.Items.length : Int))) = true := by simpa using q2
      have i1 : v1_0 < a0.Items.length := by simpa using q2
      have m2 : a0.Items.length ≤ 9223372036854775807 := by simpa using k2 21 _ rfl
      have w1 : IntKind.i64.wrap ((v1_0 : Int) + 1) = (v1_0 : Int) + 1 := wrap_of (by omega) (by omega)
      try simp at q2
      simp
      refine okD fun k4 => ?_
      refine drawI mixed (by kernel_rfl) (by kernel_rfl) ?_
      have i2 : v1_0 < a1.Items.length := by omega
      simp [i1, rowAt_map, i2]
      repeat (refine ⟨by intros; omega, ?_⟩)
      refine callRd rfl rfl rfl rfl (i_equalItems_ok (nth a0.Items v1_0) (nth a1.Items v1_0)) (by simp) (by simp) (by simp) ?_
      simp
      refine condB (fun k5 q3 => ?_) (fun k5 q3 => ?_)
      · have h3 : (!(i_equalItems (nth a0.Items v1_0) (nth a1.Items v1_0))) = true := by simpa using q3
        try simp at q3
        have x1 : i_EqualArchives_1 a0 a1 (a0.Items.length + 1) 0 = .inl false := by rw [← e1]; simp only [i_EqualArchives_1, h2, h3, cond_true, cond_false]
        simp
        refine retRd (rv := [.tmp 4]) rfl ?_
        have f2 : i_EqualArchives a0 a1 = false := by simp only [i_EqualArchives, h1, x1, cond_true, cond_false]
        simp [f2]
      · have h3 : (!(i_equalItems (nth a0.Items v1_0) (nth a1.Items v1_0))) = false := by simpa using q3
        try simp at q3
        simp
        refine nxtI ⟨(p1, (v1_0 + 1)), ?_, ?_⟩ (by simp) (wk_keep (by simp [w1]))
        · rw [← e1]; simp only [i_EqualArchives_1, h2, h3, cond_true, cond_false]
        · first | omega | (simp at *; omega)
    · have h2 : (decide ((↑v1_0 : Int) < (↑a0.Items.length : Int))) = false := by simpa using q2
      try simp at q2
      have x2 : i_EqualArchives_1 a0 a1 (a0.Items.length + 1) 0 = .inr () := by rw [← e1]; simp only [i_EqualArchives_1, h2, cond_true, cond_false]
      simp
      refine retRd (rv := [.tmp 4]) rfl ?_
      have f3 : i_EqualArchives a0 a1 = true := by simp only [i_EqualArchives, h1, x2, cond_true, cond_false]
      simp [f3]
theorem i_EqualWorlds_ok (a0 : TWorld) (a1 : TWorld) : SoundAt Try.prog 64 false [a0.row, a1.row] [[.bool (i_EqualWorlds a0 a1)]] := by
  refine sound_of Try.func64 rfl (by kernel_rfl) ?_
  simp [Try.ntmps64]
  refine callRd rfl rfl rfl rfl (i_equalFrames_ok a0.Frame a1.Frame) (by simp) (by simp) (by simp) ?_
  simp
  refine callG rfl rfl rfl rfl rfl rfl (fun _ => (i_EqualInts_ok a0.Ended a1.Ended)) (by simp) (by simp) (by simp) (by simp) ?_
  simp
  refine callG rfl rfl rfl rfl rfl rfl (fun _ => (i_EqualInts_ok a0.Seqs a1.Seqs)) (by simp) (by simp) (by simp) (by simp) ?_
  simp
  refine callG rfl rfl rfl rfl rfl rfl (fun _ => (i_EqualInts_ok a0.Lying a1.Lying)) (by simp) (by simp) (by simp) (by simp) ?_
  simp
  refine callG rfl rfl rfl rfl rfl rfl (fun _ => (i_EqualInts_ok a0.Forged a1.Forged)) (by simp) (by simp) (by simp) (by simp) ?_
  simp
  refine condB (fun k1 q1 => ?_) (fun k1 q1 => ?_)
  · have h1 : ((((((((!(i_equalFrames a0.Frame a1.Frame)) || ((↑a0.Certs.length : Int) != (↑a1.Certs.length : Int))) || ((↑a0.Archives.length : Int) != (↑a1.Archives.length : Int))) || (!(i_EqualInts a0.Ended a1.Ended))) || (!(i_EqualInts a0.Seqs a1.Seqs))) || (!(i_EqualInts a0.Lying a1.Lying))) || (a0.Next != a1.Next)) || (!(i_EqualInts a0.Forged a1.Forged))) = true := by simpa using q1
    try simp at q1
    simp
    refine retRd (rv := [.tmp 4]) rfl ?_
    have f1 : i_EqualWorlds a0 a1 = false := by simp only [i_EqualWorlds, h1, cond_true, cond_false]
    simp [f1]
  · have h1 : ((((((((!(i_equalFrames a0.Frame a1.Frame)) || ((↑a0.Certs.length : Int) != (↑a1.Certs.length : Int))) || ((↑a0.Archives.length : Int) != (↑a1.Archives.length : Int))) || (!(i_EqualInts a0.Ended a1.Ended))) || (!(i_EqualInts a0.Seqs a1.Seqs))) || (!(i_EqualInts a0.Lying a1.Lying))) || (a0.Next != a1.Next)) || (!(i_EqualInts a0.Forged a1.Forged))) = false := by simpa using q1
    try simp at q1
    simp
    refine okL fun k2 => ?_
    refine loopI (ι := { s : Nat × Nat // i_EqualWorlds_1 a0 a1 s.1 s.2 = i_EqualWorlds_1 a0 a1 (a0.Certs.length + 1) 0 ∧ (1 ≤ s.1 ∧ a0.Certs.length < s.1 + s.2) }) (fun s => stOf 107 [(2, .one (.bptr 2 0), [.box [.d (.sl 5 (a0.Frame.Keys.map TKey.row)), .d (.sl 3 (a0.Frame.Authorities.map TAuthority.row)), .d (.sl 4 (a0.Frame.Methods.map TMethod.row)), .d (.int .i64 a0.Frame.Liars), .d (.int .i64 a0.Frame.Now), .d (.sl 7 (a0.Certs.map TCert.row)), .d (.sl 1 (a0.Ended.map iR)), .d (.sl 2 (a0.Archives.map TArchive.row)), .d (.sl 1 (a0.Seqs.map iR)), .d (.sl 1 (a0.Lying.map iR)), .d (.int .i64 a0.Next), .d (.sl 1 (a0.Forged.map iR))]]), (3, .one (.bptr 3 0), [.box [.d (.sl 5 (a1.Frame.Keys.map TKey.row)), .d (.sl 3 (a1.Frame.Authorities.map TAuthority.row)), .d (.sl 4 (a1.Frame.Methods.map TMethod.row)), .d (.int .i64 a1.Frame.Liars), .d (.int .i64 a1.Frame.Now), .d (.sl 7 (a1.Certs.map TCert.row)), .d (.sl 1 (a1.Ended.map iR)), .d (.sl 2 (a1.Archives.map TArchive.row)), .d (.sl 1 (a1.Seqs.map iR)), .d (.sl 1 (a1.Lying.map iR)), .d (.int .i64 a1.Next), .d (.sl 1 (a1.Forged.map iR))]]), (72, .one (.d (.int .i64 (↑a0.Certs.length : Int))), []), (73, .one (.d (.int .i64 (↑s.1.2 : Int))), [])]) (fun s => s.1.1) ⟨((a0.Certs.length + 1), 0), rfl, by first | omega | (dsimp only; omega) | simp⟩ (wk_keep (by simp)) ?_
    rintro ⟨⟨n1, v1_0⟩, e1, j1⟩
    try dsimp only at e1 j1
    obtain ⟨p1, rfl⟩ : ∃ p, n1 = p + 1 := ⟨n1 - 1, by omega⟩
    simp
    refine condB (fun k3 q2 => ?_) (fun k3 q2 => ?_)
    · have h2 : (decide ((↑v1_0 : Int) < (↑a0.Certs.length : Int))) = true := by simpa using q2
      have i1 : v1_0 < a0.Certs.length := by simpa using q2
      have m2 : a0.Certs.length ≤ 9223372036854775807 := by simpa using k2 71 _ rfl
      have w1 : IntKind.i64.wrap ((v1_0 : Int) + 1) = (v1_0 : Int) + 1 := wrap_of (by omega) (by omega)
      try simp at q2
      simp
      refine okD fun k4 => ?_
      refine drawI mixed (by kernel_rfl) (by kernel_rfl) ?_
      have i2 : v1_0 < a1.Certs.length := by omega
      simp [i1, rowAt_map, i2]
      repeat (refine ⟨by intros; omega, ?_⟩)
      refine condB (fun k5 q3 => ?_) (fun k5 q3 => ?_)
      · have h3 : (!(((nth a0.Certs v1_0).Serial == (nth a1.Certs v1_0).Serial) && (((nth a0.Certs v1_0).Key == (nth a1.Certs v1_0).Key) && (((nth a0.Certs v1_0).Owner == (nth a1.Certs v1_0).Owner) && (((nth a0.Certs v1_0).From == (nth a1.Certs v1_0).From) && (((nth a0.Certs v1_0).To == (nth a1.Certs v1_0).To) && (((nth a0.Certs v1_0).Issuer == (nth a1.Certs v1_0).Issuer) && ((nth a0.Certs v1_0).Mark == (nth a1.Certs v1_0).Mark)))))))) = true := by simpa using q3
        try simp at q3
        have x1 : i_EqualWorlds_1 a0 a1 (a0.Certs.length + 1) 0 = .inl false := by rw [← e1]; simp only [i_EqualWorlds_1, h2, h3, cond_true, cond_false]
        simp
        refine retRd (rv := [.tmp 4]) rfl ?_
        have f2 : i_EqualWorlds a0 a1 = false := by simp only [i_EqualWorlds, h1, x1, cond_true, cond_false]
        simp [f2]
      · have h3 : (!(((nth a0.Certs v1_0).Serial == (nth a1.Certs v1_0).Serial) && (((nth a0.Certs v1_0).Key == (nth a1.Certs v1_0).Key) && (((nth a0.Certs v1_0).Owner == (nth a1.Certs v1_0).Owner) && (((nth a0.Certs v1_0).From == (nth a1.Certs v1_0).From) && (((nth a0.Certs v1_0).To == (nth a1.Certs v1_0).To) && (((nth a0.Certs v1_0).Issuer == (nth a1.Certs v1_0).Issuer) && ((nth a0.Certs v1_0).Mark == (nth a1.Certs v1_0).Mark)))))))) = false := by simpa using q3
        try simp at q3
        simp
        refine nxtI ⟨(p1, (v1_0 + 1)), ?_, ?_⟩ (by simp) (wk_keep (by simp [w1]))
        · rw [← e1]; simp only [i_EqualWorlds_1, h2, h3, cond_true, cond_false]
        · first | omega | (simp at *; omega)
    · have h2 : (decide ((↑v1_0 : Int) < (↑a0.Certs.length : Int))) = false := by simpa using q2
      try simp at q2
      have x2 : i_EqualWorlds_1 a0 a1 (a0.Certs.length + 1) 0 = .inr () := by rw [← e1]; simp only [i_EqualWorlds_1, h2, cond_true, cond_false]
      simp
      refine okL fun k6 => ?_
      refine loopI (ι := { s : Nat × Nat // i_EqualWorlds_2 a0 a1 s.1 s.2 = i_EqualWorlds_2 a0 a1 (a0.Archives.length + 1) 0 ∧ (1 ≤ s.1 ∧ a0.Archives.length < s.1 + s.2) }) (fun s => stOf 107 [(2, .one (.bptr 2 0), [.box [.d (.sl 5 (a0.Frame.Keys.map TKey.row)), .d (.sl 3 (a0.Frame.Authorities.map TAuthority.row)), .d (.sl 4 (a0.Frame.Methods.map TMethod.row)), .d (.int .i64 a0.Frame.Liars), .d (.int .i64 a0.Frame.Now), .d (.sl 7 (a0.Certs.map TCert.row)), .d (.sl 1 (a0.Ended.map iR)), .d (.sl 2 (a0.Archives.map TArchive.row)), .d (.sl 1 (a0.Seqs.map iR)), .d (.sl 1 (a0.Lying.map iR)), .d (.int .i64 a0.Next), .d (.sl 1 (a0.Forged.map iR))]]), (3, .one (.bptr 3 0), [.box [.d (.sl 5 (a1.Frame.Keys.map TKey.row)), .d (.sl 3 (a1.Frame.Authorities.map TAuthority.row)), .d (.sl 4 (a1.Frame.Methods.map TMethod.row)), .d (.int .i64 a1.Frame.Liars), .d (.int .i64 a1.Frame.Now), .d (.sl 7 (a1.Certs.map TCert.row)), .d (.sl 1 (a1.Ended.map iR)), .d (.sl 2 (a1.Archives.map TArchive.row)), .d (.sl 1 (a1.Seqs.map iR)), .d (.sl 1 (a1.Lying.map iR)), .d (.int .i64 a1.Next), .d (.sl 1 (a1.Forged.map iR))]]), (90, .one (.d (.int .i64 (↑a0.Archives.length : Int))), []), (91, .one (.d (.int .i64 (↑s.1.2 : Int))), [])]) (fun s => s.1.1) ⟨((a0.Archives.length + 1), 0), rfl, by first | omega | (dsimp only; omega) | simp⟩ (wk_keep (by simp)) ?_
      rintro ⟨⟨n2, v2_0⟩, e2, j2⟩
      try dsimp only at e2 j2
      obtain ⟨p2, rfl⟩ : ∃ p, n2 = p + 1 := ⟨n2 - 1, by omega⟩
      simp
      refine condB (fun k7 q4 => ?_) (fun k7 q4 => ?_)
      · have h4 : (decide ((↑v2_0 : Int) < (↑a0.Archives.length : Int))) = true := by simpa using q4
        have i3 : v2_0 < a0.Archives.length := by simpa using q4
        have m4 : a0.Archives.length ≤ 9223372036854775807 := by simpa using k6 89 _ rfl
        have w2 : IntKind.i64.wrap ((v2_0 : Int) + 1) = (v2_0 : Int) + 1 := wrap_of (by omega) (by omega)
        try simp at q4
        simp
        refine okD fun k8 => ?_
        refine drawI mixed (by kernel_rfl) (by kernel_rfl) ?_
        have i4 : v2_0 < a1.Archives.length := by omega
        simp [i3, rowAt_map, i4]
        repeat (refine ⟨by intros; omega, ?_⟩)
        refine callRd rfl rfl rfl rfl (i_EqualArchives_ok (nth a0.Archives v2_0) (nth a1.Archives v2_0)) (by simp) (by simp) (by simp) ?_
        simp
        refine condB (fun k9 q5 => ?_) (fun k9 q5 => ?_)
        · have h5 : (!(i_EqualArchives (nth a0.Archives v2_0) (nth a1.Archives v2_0))) = true := by simpa using q5
          try simp at q5
          have x3 : i_EqualWorlds_2 a0 a1 (a0.Archives.length + 1) 0 = .inl false := by rw [← e2]; simp only [i_EqualWorlds_2, h4, h5, cond_true, cond_false]
          simp
          refine retRd (rv := [.tmp 4]) rfl ?_
          have f3 : i_EqualWorlds a0 a1 = false := by simp only [i_EqualWorlds, h1, x2, x3, cond_true, cond_false]
          simp [f3]
        · have h5 : (!(i_EqualArchives (nth a0.Archives v2_0) (nth a1.Archives v2_0))) = false := by simpa using q5
          try simp at q5
          simp
          refine nxtI ⟨(p2, (v2_0 + 1)), ?_, ?_⟩ (by simp) (wk_keep (by simp [w2]))
          · rw [← e2]; simp only [i_EqualWorlds_2, h4, h5, cond_true, cond_false]
          · first | omega | (simp at *; omega)
      · have h4 : (decide ((↑v2_0 : Int) < (↑a0.Archives.length : Int))) = false := by simpa using q4
        try simp at q4
        have x4 : i_EqualWorlds_2 a0 a1 (a0.Archives.length + 1) 0 = .inr () := by rw [← e2]; simp only [i_EqualWorlds_2, h4, cond_true, cond_false]
        simp
        refine retRd (rv := [.tmp 4]) rfl ?_
        have f4 : i_EqualWorlds a0 a1 = true := by simp only [i_EqualWorlds, h1, x2, x4, cond_true, cond_false]
        simp [f4]
theorem l_FnExactEqualWorlds_ok (a0 : TWorld) (a1 : TWorld) (t0 : Sm maxLen a0) (t1 : Sm maxLen a1) : SoundAt Try.prog 14 false [a0.row, a1.row] [[.bool (l_FnExactEqualWorlds a0 a1)]] := by
  refine sound_of Try.func14 rfl (by kernel_rfl) ?_
  simp [Try.ntmps14]
  refine callRd rfl rfl rfl rfl (l_szWorld_ok a0 1048576) (by simp) (by simp) (by simp) ?_
  simp
  refine condB (fun k1 q1 => ?_) (fun k1 q1 => ?_)
  · have h1 : (decide ((l_szWorld a0 1048576) < 0)) = true := by simpa using q1
    try simp at q1
    simp
    refine retRd (rv := [.tmp 4]) rfl ?_
    have f1 : l_FnExactEqualWorlds a0 a1 = true := by simp only [l_FnExactEqualWorlds, h1, cond_true, cond_false]
    simp [f1]
  · have h1 : (decide ((l_szWorld a0 1048576) < 0)) = false := by simpa using q1
    try simp at q1
    obtain ⟨u0, y0⟩ := l_szWorld_sm a0 1048576 t0 (by omega) (by omega) (by simpa using h1)
    simp
    refine callRd rfl rfl rfl rfl (l_szWorld_ok a1 (l_szWorld a0 1048576)) (by simp) (by simp) (by simp) ?_
    simp
    refine condB (fun k2 q2 => ?_) (fun k2 q2 => ?_)
    · have h2 : (decide ((l_szWorld a1 (l_szWorld a0 1048576)) < 0)) = true := by simpa using q2
      try simp at q2
      simp
      refine retRd (rv := [.tmp 4]) rfl ?_
      have f2 : l_FnExactEqualWorlds a0 a1 = true := by simp only [l_FnExactEqualWorlds, h1, h2, cond_true, cond_false]
      simp [f2]
    · have h2 : (decide ((l_szWorld a1 (l_szWorld a0 1048576)) < 0)) = false := by simpa using q2
      try simp at q2
      obtain ⟨u1, y1⟩ := l_szWorld_sm a1 (l_szWorld a0 1048576) t1 (by omega) (by omega) (by simpa using h2)
      simp
      refine okD fun k3 => ?_
      refine drawI mixed (by kernel_rfl) (by kernel_rfl) ?_
      simp
      refine callRd rfl rfl rfl rfl (l_toWorld_ok a0 (sm_mono (n := 1048576) (by decide) (by simp [u0, u1, l_toArchive_id, l_toArchiveS_id, l_toAuthority_id, l_toAuthorityS_id, l_toBoolS_id, l_toCert_id, l_toCertS_id, l_toDocument_id, l_toEvent_id, l_toEventS_id, l_toFrame_id, l_toIntS_id, l_toIntSS_id, l_toItem_id, l_toItemS_id, l_toKey_id, l_toKeyS_id, l_toMethod_id, l_toMethodS_id, l_toPiece_id, l_toPieceS_id, l_toRedacted_id, l_toRenewal_id, l_toRenewalS_id, l_toSignature_id, l_toStamp_id, l_toStampS_id, l_toStep_id, l_toStepS_id, l_toStrand_id, l_toStringS_id, l_toWorld_id]))) (by simp) (by simp) (by simp) ?_
      simp
      refine callRd rfl rfl rfl rfl (l_toWorld_ok a1 (sm_mono (n := 1048576) (by decide) (by simp [u0, u1, l_toArchive_id, l_toArchiveS_id, l_toAuthority_id, l_toAuthorityS_id, l_toBoolS_id, l_toCert_id, l_toCertS_id, l_toDocument_id, l_toEvent_id, l_toEventS_id, l_toFrame_id, l_toIntS_id, l_toIntSS_id, l_toItem_id, l_toItemS_id, l_toKey_id, l_toKeyS_id, l_toMethod_id, l_toMethodS_id, l_toPiece_id, l_toPieceS_id, l_toRedacted_id, l_toRenewal_id, l_toRenewalS_id, l_toSignature_id, l_toStamp_id, l_toStampS_id, l_toStep_id, l_toStepS_id, l_toStrand_id, l_toStringS_id, l_toWorld_id]))) (by simp) (by simp) (by simp) ?_
      simp
      refine callRd rfl rfl rfl rfl (s_EqualWorlds_ok (l_toWorld a0) (l_toWorld a1)) (by simp) (by simp) (by simp) ?_
      simp
      refine callRd rfl rfl rfl rfl (l_toWorld_ok a0 (sm_mono (n := 1048576) (by decide) (by simp [u0, u1, l_toArchive_id, l_toArchiveS_id, l_toAuthority_id, l_toAuthorityS_id, l_toBoolS_id, l_toCert_id, l_toCertS_id, l_toDocument_id, l_toEvent_id, l_toEventS_id, l_toFrame_id, l_toIntS_id, l_toIntSS_id, l_toItem_id, l_toItemS_id, l_toKey_id, l_toKeyS_id, l_toMethod_id, l_toMethodS_id, l_toPiece_id, l_toPieceS_id, l_toRedacted_id, l_toRenewal_id, l_toRenewalS_id, l_toSignature_id, l_toStamp_id, l_toStampS_id, l_toStep_id, l_toStepS_id, l_toStrand_id, l_toStringS_id, l_toWorld_id]))) (by simp) (by simp) (by simp) ?_
      simp
      refine callRd rfl rfl rfl rfl (l_toWorld_ok a1 (sm_mono (n := 1048576) (by decide) (by simp [u0, u1, l_toArchive_id, l_toArchiveS_id, l_toAuthority_id, l_toAuthorityS_id, l_toBoolS_id, l_toCert_id, l_toCertS_id, l_toDocument_id, l_toEvent_id, l_toEventS_id, l_toFrame_id, l_toIntS_id, l_toIntSS_id, l_toItem_id, l_toItemS_id, l_toKey_id, l_toKeyS_id, l_toMethod_id, l_toMethodS_id, l_toPiece_id, l_toPieceS_id, l_toRedacted_id, l_toRenewal_id, l_toRenewalS_id, l_toSignature_id, l_toStamp_id, l_toStampS_id, l_toStep_id, l_toStepS_id, l_toStrand_id, l_toStringS_id, l_toWorld_id]))) (by simp) (by simp) (by simp) ?_
      simp
      refine callRd rfl rfl rfl rfl (i_EqualWorlds_ok (l_toWorld a0) (l_toWorld a1)) (by simp) (by simp) (by simp) ?_
      simp
      refine condB (fun k4 q3 => ?_) (fun k4 q3 => ?_)
      · have h3 : (!((i_EqualWorlds (l_toWorld a0) (l_toWorld a1)) == (s_EqualWorlds (l_toWorld a0) (l_toWorld a1)))) = true := by simpa using q3
        try simp at q3
        simp
        refine retRd (rv := [.tmp 4]) rfl ?_
        have f3 : l_FnExactEqualWorlds a0 a1 = false := by simp only [l_FnExactEqualWorlds, h1, h2, h3, cond_true, cond_false]
        simp [f3]
      · have h3 : (!((i_EqualWorlds (l_toWorld a0) (l_toWorld a1)) == (s_EqualWorlds (l_toWorld a0) (l_toWorld a1)))) = false := by simpa using q3
        try simp at q3
        simp
        refine okD fun k5 => ?_
        refine drawI mixed (by kernel_rfl) (by kernel_rfl) ?_
        simp
        refine callRd rfl rfl rfl rfl (l_toWorld_ok a0 (sm_mono (n := 1048576) (by decide) (by simp [u0, u1, l_toArchive_id, l_toArchiveS_id, l_toAuthority_id, l_toAuthorityS_id, l_toBoolS_id, l_toCert_id, l_toCertS_id, l_toDocument_id, l_toEvent_id, l_toEventS_id, l_toFrame_id, l_toIntS_id, l_toIntSS_id, l_toItem_id, l_toItemS_id, l_toKey_id, l_toKeyS_id, l_toMethod_id, l_toMethodS_id, l_toPiece_id, l_toPieceS_id, l_toRedacted_id, l_toRenewal_id, l_toRenewalS_id, l_toSignature_id, l_toStamp_id, l_toStampS_id, l_toStep_id, l_toStepS_id, l_toStrand_id, l_toStringS_id, l_toWorld_id]))) (by simp) (by simp) (by simp) ?_
        simp
        refine callRd rfl rfl rfl rfl (l_eqWorld_ok (l_toWorld a0) (l_toWorld a0)) (by simp) (by simp) (by simp) ?_
        simp
        refine condB (fun k6 q4 => ?_) (fun k6 q4 => ?_)
        · have h4 : (!(l_eqWorld (l_toWorld a0) (l_toWorld a0))) = true := by simpa using q4
          try simp at q4
          simp
          refine retRd (rv := [.tmp 4]) rfl ?_
          have f4 : l_FnExactEqualWorlds a0 a1 = false := by simp only [l_FnExactEqualWorlds, h1, h2, h3, h4, cond_true, cond_false]
          simp [f4]
        · have h4 : (!(l_eqWorld (l_toWorld a0) (l_toWorld a0))) = false := by simpa using q4
          try simp at q4
          simp
          refine okD fun k7 => ?_
          refine drawI mixed (by kernel_rfl) (by kernel_rfl) ?_
          simp
          refine callRd rfl rfl rfl rfl (l_toWorld_ok a1 (sm_mono (n := 1048576) (by decide) (by simp [u0, u1, l_toArchive_id, l_toArchiveS_id, l_toAuthority_id, l_toAuthorityS_id, l_toBoolS_id, l_toCert_id, l_toCertS_id, l_toDocument_id, l_toEvent_id, l_toEventS_id, l_toFrame_id, l_toIntS_id, l_toIntSS_id, l_toItem_id, l_toItemS_id, l_toKey_id, l_toKeyS_id, l_toMethod_id, l_toMethodS_id, l_toPiece_id, l_toPieceS_id, l_toRedacted_id, l_toRenewal_id, l_toRenewalS_id, l_toSignature_id, l_toStamp_id, l_toStampS_id, l_toStep_id, l_toStepS_id, l_toStrand_id, l_toStringS_id, l_toWorld_id]))) (by simp) (by simp) (by simp) ?_
          simp
          refine callRd rfl rfl rfl rfl (l_eqWorld_ok (l_toWorld a1) (l_toWorld a1)) (by simp) (by simp) (by simp) ?_
          simp
          refine condB (fun k8 q5 => ?_) (fun k8 q5 => ?_)
          · have h5 : (!(l_eqWorld (l_toWorld a1) (l_toWorld a1))) = true := by simpa using q5
            try simp at q5
            simp
            refine retRd (rv := [.tmp 4]) rfl ?_
            have f5 : l_FnExactEqualWorlds a0 a1 = false := by simp only [l_FnExactEqualWorlds, h1, h2, h3, h4, h5, cond_true, cond_false]
            simp [f5]
          · have h5 : (!(l_eqWorld (l_toWorld a1) (l_toWorld a1))) = false := by simpa using q5
            try simp at q5
            simp
            refine retRd (rv := [.tmp 4]) rfl ?_
            have f6 : l_FnExactEqualWorlds a0 a1 = true := by simp only [l_FnExactEqualWorlds, h1, h2, h3, h4, h5, cond_true, cond_false]
            simp [f6]
end Go.Proofs.Ytejeomggohkclaa
