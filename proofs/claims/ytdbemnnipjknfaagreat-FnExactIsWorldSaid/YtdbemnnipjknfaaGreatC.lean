/- Contracts of the functions over the abstract machine, part 2. No condition. -/
import Derived.Test.YtdbemnnipjknfaaGreatC1
namespace Go.Proofs.YtdbemnnipjknfaaGreat
open Go.Vm Go.Mo
set_option maxHeartbeats 1000000
set_option maxRecDepth 4000
set_option linter.unusedSimpArgs false
set_option linter.unusedVariables false
theorem i_OwnerOf_ok (a0 : List TKey) (a1 : Int) : SoundAt Tryz.prog 67 false [[.sl 5 (a0.map TKey.row)], [.int .i64 a1]] [[.int .i64 (i_OwnerOf a0 a1)]] := by
  refine sound_of Tryz.func67 rfl (by kernel_rfl) ?_
  simp [Tryz.ntmps67]
  refine callRd rfl rfl rfl rfl (i_FindKey_ok a0 a1) (by simp) (by simp) (by simp) ?_
  simp
  refine condR (c := (decide ((i_FindKey a0 a1) ≥ 0))) (by simp) (fun k1 h1 => ?_) (fun k1 h1 => ?_)
  · have q1 := h1; try simp at q1
    have i1 : (i_FindKey a0 a1).toNat < a0.length := by have := i_FindKey_lt a0 a1; omega
    simp [i1, rowAt_map]
    repeat ((with_reducible refine And.intro ?_ ?_); focus (intros; omega))
    refine retRd (rv := [.tmp 4]) rfl ?_
    have f1 := i_OwnerOf.eq_1 a0 a1
    simp only [h1, cond_true, cond_false] at f1
    simp [f1]
  · have q1 := h1; try simp at q1
    simp
    refine retRd (rv := [.tmp 4]) rfl ?_
    have f2 := i_OwnerOf.eq_1 a0 a1
    simp only [h1, cond_true, cond_false] at f2
    simp [f2]
theorem i_CheckCert_ok (a0 : List TKey) (a1 : TCert) (u0 : Sm 2314240 a0) : SoundAt Tryz.prog 27 false [[.sl 5 (a0.map TKey.row)], a1.row] [[.bool (i_CheckCert a0 a1)]] := by
  refine sound_of Tryz.func27 rfl (by kernel_rfl) ?_
  simp [Tryz.ntmps27]
  refine okD fun k1 => ?_
  refine drawI mixed (by kernel_rfl) (by kernel_rfl) ?_
  simp
  refine callRd rfl rfl rfl rfl (i_IsCert_ok a1) (by simp) (by simp) (by simp) ?_
  simp
  refine callG rfl rfl rfl rfl rfl rfl (fun _ => (i_CertInts_ok a1)) (by simp) (by simp) (by simp) (by simp) ?_
  simp
  refine callG rfl rfl rfl rfl rfl rfl (fun _ => (i_CheckMark_ok a0 a1.Issuer (i_CertInts a1) a1.Mark (sm_mono (n := 2314240) (by decide) (by simp (maxDischargeDepth := 12) [u0])) (by simp (maxDischargeDepth := 12) [i_CertInts_sm, sm_mono (m := 2318336) (by decide) u0]; try omega))) (by simp) (by simp) (by simp) (by simp) ?_
  simp
  refine callG rfl rfl rfl rfl rfl rfl (fun _ => (i_OwnerOf_ok a0 a1.Key)) (by simp) (by simp) (by simp) (by simp) ?_
  simp
  refine retRd (rv := [.tmp 4]) rfl ?_
  have f1 := i_CheckCert.eq_1 a0 a1
  simp [f1]
theorem i_FindCert_ok (a0 : List TCert) (a1 : Int) : SoundAt Tryz.prog 28 false [[.sl 7 (a0.map TCert.row)], [.int .i64 a1]] [[.int .i64 (i_FindCert a0 a1)]] := by
  refine sound_of Tryz.func28 rfl (by kernel_rfl) ?_
  simp [Tryz.ntmps28]
  refine okL fun k1 => ?_
  refine loopI (ι := { s : Nat × Nat // i_FindCert_1 a0 a1 s.1 s.2 = i_FindCert_1 a0 a1 (a0.length + 1) 0 ∧ (1 ≤ s.1 ∧ a0.length < s.1 + s.2 ∧ s.2 ≤ a0.length) }) (fun s => stOf 20 [(1, .one (.d (.int .i64 a1)), []), (7, .one (.d (.sl 7 (a0.map TCert.row))), []), (8, .one (.d (.int .i64 (↑a0.length : Int))), []), (9, .one (.d (.int .i64 (↑s.1.2 : Int))), [])]) (fun s => s.1.1) ⟨((a0.length + 1), 0), rfl, by first | omega | (dsimp only; omega) | simp⟩ (wk_keep (by simp)) ?_
  rintro ⟨⟨n1, v1_0⟩, e1, j1⟩
  try dsimp only at e1 j1
  obtain ⟨p1, rfl⟩ : ∃ p, n1 = p + 1 := ⟨n1 - 1, by omega⟩
  simp
  refine condR (c := (decide ((↑v1_0 : Int) < (↑a0.length : Int)))) (by simp) (fun k2 h1 => ?_) (fun k2 h1 => ?_)
  · have q1 := h1; try simp at q1
    have i1 : v1_0 < a0.length := by simpa using h1
    have m2 : a0.length ≤ 9223372036854775807 := by simpa using k2 7 _ rfl
    have w1 : IntKind.i64.wrap ((v1_0 : Int) + 1) = (v1_0 : Int) + 1 := wrap_of (by omega) (by omega)
    simp [i1, rowAt_map]
    repeat ((with_reducible refine And.intro ?_ ?_); focus (intros; omega))
    refine condR (c := ((nth a0 v1_0).Serial == a1)) (by simp) (fun k3 h2 => ?_) (fun k3 h2 => ?_)
    · have q2 := h2; try simp at q2
      have x1 : i_FindCert_1 a0 a1 (a0.length + 1) 0 = .inl (↑v1_0 : Int) := by rw [← e1]; simp only [i_FindCert_1, h1, h2, cond_true, cond_false]
      simp
      refine retRd (rv := [.tmp 4]) rfl ?_
      have f1 := i_FindCert.eq_1 a0 a1
      simp only [x1, cond_true, cond_false] at f1
      simp [f1]
    · have q2 := h2; try simp at q2
      simp
      refine nxtI ⟨(p1, (v1_0 + 1)), ?_, ?_⟩ (by simp) (wk_keep (by simp [w1]))
      · rw [← e1]; simp only [i_FindCert_1, h1, h2, cond_true, cond_false]
      · first | omega | (simp at *; omega)
  · have q1 := h1; try simp at q1
    have x2 : i_FindCert_1 a0 a1 (a0.length + 1) 0 = .inr () := by rw [← e1]; simp only [i_FindCert_1, h1, cond_true, cond_false]
    simp
    refine retRd (rv := [.tmp 4]) rfl ?_
    have f2 := i_FindCert.eq_1 a0 a1
    simp only [x2, cond_true, cond_false] at f2
    simp [f2]
theorem i_IsDocument_ok (a0 : TDocument) : SoundAt Tryz.prog 99 false [a0.row] [[.bool (i_IsDocument a0)]] := by
  refine sound_of Tryz.func99 rfl (by kernel_rfl) ?_
  simp [Tryz.ntmps99]
  refine callRd rfl rfl rfl rfl (i_InRange_ok a0.Title 0 999) (by simp) (by simp) (by simp) ?_
  simp
  refine callG rfl rfl rfl rfl rfl rfl (fun _ => (i_InRange_ok (↑a0.Parts.length : Int) 1 6)) (by simp) (by simp) (by simp) (by simp) ?_
  simp
  refine condR (c := (((!(i_InRange a0.Title 0 999)) || (!(i_InRange (↑a0.Parts.length : Int) 1 6))) || ((↑a0.Salts.length : Int) != (↑a0.Parts.length : Int)))) (by simp) (fun k1 h1 => ?_) (fun k1 h1 => ?_)
  · have q1 := h1; try simp [i_InRange] at q1
    simp
    refine retRd (rv := [.tmp 2]) rfl ?_
    have f1 := i_IsDocument.eq_1 a0
    simp only [h1, cond_true, cond_false] at f1
    simp [f1]
  · have q1 := h1; try simp [i_InRange] at q1
    simp
    refine okL fun k2 => ?_
    refine loopI (ι := { s : Nat × Nat // i_IsDocument_1 a0 s.1 s.2 = i_IsDocument_1 a0 (a0.Parts.length + 1) 0 ∧ (1 ≤ s.1 ∧ a0.Parts.length < s.1 + s.2 ∧ s.2 ≤ a0.Parts.length) }) (fun s => stOf 46 [(1, .one (.bptr 1 0), [.box [.d (.int .i64 a0.Title), .d (.sl 1 (a0.Parts.map sR)), .d (.sl 1 (a0.Salts.map iR))]]), (26, .one (.d (.sl 1 (a0.Parts.map sR))), []), (27, .one (.d (.int .i64 (↑a0.Parts.length : Int))), []), (28, .one (.d (.int .i64 (↑s.1.2 : Int))), [])]) (fun s => s.1.1) ⟨((a0.Parts.length + 1), 0), rfl, by first | omega | (dsimp only; omega) | simp⟩ (wk_keep (by simp)) ?_
    rintro ⟨⟨n1, v1_0⟩, e1, j1⟩
    try dsimp only at e1 j1
    obtain ⟨p1, rfl⟩ : ∃ p, n1 = p + 1 := ⟨n1 - 1, by omega⟩
    simp
    refine condR (c := (decide ((↑v1_0 : Int) < (↑a0.Parts.length : Int)))) (by simp) (fun k3 h2 => ?_) (fun k3 h2 => ?_)
    · have q2 := h2; try simp at q2
      have i1 : v1_0 < a0.Parts.length := by simpa using h2
      have m2 : a0.Parts.length ≤ 9223372036854775807 := by simpa using k3 26 _ rfl
      have w1 : IntKind.i64.wrap ((v1_0 : Int) + 1) = (v1_0 : Int) + 1 := wrap_of (by omega) (by omega)
      simp [i1, rowAt_map]
      repeat ((with_reducible refine And.intro ?_ ?_); focus (intros; omega))
      refine guardI rfl rfl rfl rfl rfl (by simp) (fun g1 => ?_) (fun g1 => ?_)
      · have g1x := g1; try simp only [beq_true, beq_false, Bool.not_eq_true', Bool.not_eq_false', Bool.true_and, Bool.and_true] at g1x
        try simp at g1
        have i2 : v1_0 < a0.Salts.length := by omega
        simp [i2, rowAt_map, g1x]
        repeat ((with_reducible refine And.intro ?_ ?_); focus (intros; first | omega | (simp_all; done) | (simp_all; omega) | grind))
        refine callG rfl rfl rfl rfl rfl rfl (fun _ => (i_InRange_ok (nth a0.Salts v1_0) 1 1000000000000)) (by simp) (by simp) (by simp) (by simp) ?_
        simp [g1x]
        repeat ((with_reducible refine And.intro ?_ ?_); focus (intros; first | omega | (simp_all; done) | (simp_all; omega) | grind))
        refine condR (c := ((decide ((↑(nth a0.Parts v1_0).size : Int) > 40)) || (!(i_InRange (nth a0.Salts v1_0) 1 1000000000000)))) (by first | (simp [g1x]; done) | grind) (fun k4 h3 => ?_) (fun k4 h3 => ?_)
        · try (have z := h3; simp [g1x] at z; done)
          all_goals
            have q3 := h3; try simp [i_InRange] at q3
            have x1 : i_IsDocument_1 a0 (a0.Parts.length + 1) 0 = .inl false := by rw [← e1]; simp only [i_IsDocument_1, h2, h3, cond_true, cond_false]
            simp [g1x]
            repeat ((with_reducible refine And.intro ?_ ?_); focus (intros; first | omega | (simp_all; done) | (simp_all; omega) | grind))
            refine retRd (rv := [.tmp 2]) rfl ?_
            have f2 := i_IsDocument.eq_1 a0
            simp only [h1, x1, cond_true, cond_false] at f2
            simp [f2, g1x]
        · try (have z := h3; simp [g1x] at z; done)
          all_goals
            have q3 := h3; try simp [i_InRange] at q3
            simp [g1x]
            repeat ((with_reducible refine And.intro ?_ ?_); focus (intros; first | omega | (simp_all; done) | (simp_all; omega) | grind))
            refine nxtI ⟨(p1, (v1_0 + 1)), ?_, ?_⟩ (by simp) (wk_keep (by simp [w1]))
            · rw [← e1]; simp only [i_IsDocument_1, h2, h3, cond_true, cond_false]
            · first | omega | (simp at *; omega)
      · have g1x := g1; try simp only [beq_true, beq_false, Bool.not_eq_true', Bool.not_eq_false', Bool.true_and, Bool.and_true] at g1x
        simp [g1x]
        repeat ((with_reducible refine And.intro ?_ ?_); focus (intros; first | omega | (simp_all; done) | (simp_all; omega) | grind))
        refine skipG rfl rfl rfl rfl (by simp) (by simp [g1x]) ?_
        simp [g1x]
        repeat ((with_reducible refine And.intro ?_ ?_); focus (intros; first | omega | (simp_all; done) | (simp_all; omega) | grind))
        refine condR (c := ((decide ((↑(nth a0.Parts v1_0).size : Int) > 40)) || (!(i_InRange (nth a0.Salts v1_0) 1 1000000000000)))) (by first | (simp [g1x]; done) | grind) (fun k5 h4 => ?_) (fun k5 h4 => ?_)
        · try (have z := h4; simp [g1x] at z; done)
          all_goals
            have q4 := h4; try simp [i_InRange] at q4
            have x2 : i_IsDocument_1 a0 (a0.Parts.length + 1) 0 = .inl false := by rw [← e1]; simp only [i_IsDocument_1, h2, h4, cond_true, cond_false]
            simp [g1x]
            repeat ((with_reducible refine And.intro ?_ ?_); focus (intros; first | omega | (simp_all; done) | (simp_all; omega) | grind))
            refine retRd (rv := [.tmp 2]) rfl ?_
            have f3 := i_IsDocument.eq_1 a0
            simp only [h1, x2, cond_true, cond_false] at f3
            simp [f3, g1x]
        · try (have z := h4; simp [g1x] at z; done)
          all_goals
            have q4 := h4; try simp [i_InRange] at q4
            simp [g1x]
            repeat ((with_reducible refine And.intro ?_ ?_); focus (intros; first | omega | (simp_all; done) | (simp_all; omega) | grind))
            refine nxtI ⟨(p1, (v1_0 + 1)), ?_, ?_⟩ (by simp) (wk_keep (by simp [w1]))
            · rw [← e1]; simp only [i_IsDocument_1, h2, h4, cond_true, cond_false]
            · first | omega | (simp at *; omega)
    · have q2 := h2; try simp at q2
      have x3 : i_IsDocument_1 a0 (a0.Parts.length + 1) 0 = .inr () := by rw [← e1]; simp only [i_IsDocument_1, h2, cond_true, cond_false]
      simp
      refine retRd (rv := [.tmp 2]) rfl ?_
      have f4 := i_IsDocument.eq_1 a0
      simp only [h1, x3, cond_true, cond_false] at f4
      simp [f4]
theorem i_EqualInts_ok (a0 : List Int) (a1 : List Int) : SoundAt Tryz.prog 130 false [[.sl 1 (a0.map iR)], [.sl 1 (a1.map iR)]] [[.bool (i_EqualInts a0 a1)]] := by
  refine sound_of Tryz.func130 rfl (by kernel_rfl) ?_
  simp [Tryz.ntmps130]
  refine condR (c := ((↑a0.length : Int) != (↑a1.length : Int))) (by simp) (fun k1 h1 => ?_) (fun k1 h1 => ?_)
  · have q1 := h1; try simp at q1
    simp
    refine retRd (rv := [.tmp 4]) rfl ?_
    have f1 := i_EqualInts.eq_1 a0 a1
    simp only [h1, cond_true, cond_false] at f1
    simp [f1]
  · have q1 := h1; try simp at q1
    simp
    refine okL fun k2 => ?_
    refine loopI (ι := { s : Nat × Nat // i_EqualInts_1 a0 a1 s.1 s.2 = i_EqualInts_1 a0 a1 (a0.length + 1) 0 ∧ (1 ≤ s.1 ∧ a0.length < s.1 + s.2 ∧ s.2 ≤ a0.length) }) (fun s => stOf 26 [(0, .one (.d (.sl 1 (a0.map iR))), []), (1, .one (.d (.sl 1 (a1.map iR))), []), (12, .one (.d (.int .i64 (↑a0.length : Int))), []), (13, .one (.d (.int .i64 (↑s.1.2 : Int))), [])]) (fun s => s.1.1) ⟨((a0.length + 1), 0), rfl, by first | omega | (dsimp only; omega) | simp⟩ (wk_keep (by simp)) ?_
    rintro ⟨⟨n1, v1_0⟩, e1, j1⟩
    try dsimp only at e1 j1
    obtain ⟨p1, rfl⟩ : ∃ p, n1 = p + 1 := ⟨n1 - 1, by omega⟩
    simp
    refine condR (c := (decide ((↑v1_0 : Int) < (↑a0.length : Int)))) (by simp) (fun k3 h2 => ?_) (fun k3 h2 => ?_)
    · have q2 := h2; try simp at q2
      have i1 : v1_0 < a0.length := by simpa using h2
      have m2 : a0.length ≤ 9223372036854775807 := by simpa using k3 0 _ rfl
      have w1 : IntKind.i64.wrap ((v1_0 : Int) + 1) = (v1_0 : Int) + 1 := wrap_of (by omega) (by omega)
      simp
      refine okD fun k4 => ?_
      refine drawI mixed (by kernel_rfl) (by kernel_rfl) ?_
      have i2 : v1_0 < a1.length := by omega
      simp [i1, rowAt_map, i2]
      repeat ((with_reducible refine And.intro ?_ ?_); focus (intros; omega))
      refine condR (c := ((nth a0 v1_0) != (nth a1 v1_0))) (by simp) (fun k5 h3 => ?_) (fun k5 h3 => ?_)
      · have q3 := h3; try simp at q3
        have x1 : i_EqualInts_1 a0 a1 (a0.length + 1) 0 = .inl false := by rw [← e1]; simp only [i_EqualInts_1, h2, h3, cond_true, cond_false]
        simp
        refine retRd (rv := [.tmp 4]) rfl ?_
        have f2 := i_EqualInts.eq_1 a0 a1
        simp only [h1, x1, cond_true, cond_false] at f2
        simp [f2]
      · have q3 := h3; try simp at q3
        simp
        refine nxtI ⟨(p1, (v1_0 + 1)), ?_, ?_⟩ (by simp) (wk_keep (by simp [w1]))
        · rw [← e1]; simp only [i_EqualInts_1, h2, h3, cond_true, cond_false]
        · first | omega | (simp at *; omega)
    · have q2 := h2; try simp at q2
      have x2 : i_EqualInts_1 a0 a1 (a0.length + 1) 0 = .inr () := by rw [← e1]; simp only [i_EqualInts_1, h2, cond_true, cond_false]
      simp
      refine retRd (rv := [.tmp 4]) rfl ?_
      have f3 := i_EqualInts.eq_1 a0 a1
      simp only [h1, x2, cond_true, cond_false] at f3
      simp [f3]
theorem i_EqualPieces_ok (a0 : TPiece) (a1 : TPiece) : SoundAt Tryz.prog 101 false [a0.row, a1.row] [[.bool (i_EqualPieces a0 a1)]] := by
  refine sound_of Tryz.func101 rfl (by kernel_rfl) ?_
  simp [Tryz.ntmps101]
  refine callG rfl rfl rfl rfl rfl rfl (fun _ => (i_EqualInts_ok a0.Ints a1.Ints)) (by simp) (by simp) (by simp) (by simp) ?_
  simp
  refine retRd (rv := [.tmp 4]) rfl ?_
  have f1 := i_EqualPieces.eq_1 a0 a1
  simp [f1]
theorem i_hasPiece_ok (a0 : List TPiece) (a1 : TPiece) : SoundAt Tryz.prog 129 false [[.sl 3 (a0.map TPiece.row)], a1.row] [[.bool (i_hasPiece a0 a1)]] := by
  refine sound_of Tryz.func129 rfl (by kernel_rfl) ?_
  simp [Tryz.ntmps129]
  refine okL fun k1 => ?_
  refine loopI (ι := { s : Nat × Nat // i_hasPiece_1 a0 a1 s.1 s.2 = i_hasPiece_1 a0 a1 (a0.length + 1) 0 ∧ (1 ≤ s.1 ∧ a0.length < s.1 + s.2 ∧ s.2 ≤ a0.length) }) (fun s => stOf 17 [(3, .one (.bptr 3 0), [.box [.d (.int .i64 a1.Key), .d (.sl 1 (a1.Ints.map iR)), .d (.int .i64 a1.Mark)]]), (7, .one (.d (.sl 3 (a0.map TPiece.row))), []), (8, .one (.d (.int .i64 (↑a0.length : Int))), []), (9, .one (.d (.int .i64 (↑s.1.2 : Int))), [])]) (fun s => s.1.1) ⟨((a0.length + 1), 0), rfl, by first | omega | (dsimp only; omega) | simp⟩ (wk_keep (by simp)) ?_
  rintro ⟨⟨n1, v1_0⟩, e1, j1⟩
  try dsimp only at e1 j1
  obtain ⟨p1, rfl⟩ : ∃ p, n1 = p + 1 := ⟨n1 - 1, by omega⟩
  simp
  refine condR (c := (decide ((↑v1_0 : Int) < (↑a0.length : Int)))) (by simp) (fun k2 h1 => ?_) (fun k2 h1 => ?_)
  · have q1 := h1; try simp at q1
    have i1 : v1_0 < a0.length := by simpa using h1
    have m2 : a0.length ≤ 9223372036854775807 := by simpa using k2 7 _ rfl
    have w1 : IntKind.i64.wrap ((v1_0 : Int) + 1) = (v1_0 : Int) + 1 := wrap_of (by omega) (by omega)
    simp [i1, rowAt_map]
    repeat ((with_reducible refine And.intro ?_ ?_); focus (intros; omega))
    refine callRd rfl rfl rfl rfl (i_EqualPieces_ok (nth a0 v1_0) a1) (by simp) (by simp) (by simp) ?_
    simp
    refine condR (c := (i_EqualPieces (nth a0 v1_0) a1)) (by simp) (fun k3 h2 => ?_) (fun k3 h2 => ?_)
    · have q2 := h2; try simp at q2
      have x1 : i_hasPiece_1 a0 a1 (a0.length + 1) 0 = .inl true := by rw [← e1]; simp only [i_hasPiece_1, h1, h2, cond_true, cond_false]
      simp
      refine retRd (rv := [.tmp 4]) rfl ?_
      have f1 := i_hasPiece.eq_1 a0 a1
      simp only [x1, cond_true, cond_false] at f1
      simp [f1]
    · have q2 := h2; try simp at q2
      simp
      refine nxtI ⟨(p1, (v1_0 + 1)), ?_, ?_⟩ (by simp) (wk_keep (by simp [w1]))
      · rw [← e1]; simp only [i_hasPiece_1, h1, h2, cond_true, cond_false]
      · first | omega | (simp at *; omega)
  · have q1 := h1; try simp at q1
    have x2 : i_hasPiece_1 a0 a1 (a0.length + 1) 0 = .inr () := by rw [← e1]; simp only [i_hasPiece_1, h1, cond_true, cond_false]
    simp
    refine retRd (rv := [.tmp 4]) rfl ?_
    have f2 := i_hasPiece.eq_1 a0 a1
    simp only [x2, cond_true, cond_false] at f2
    simp [f2]
theorem i_IsStrand_ok (a0 : TStrand) : SoundAt Tryz.prog 100 false [a0.row] [[.bool (i_IsStrand a0)]] := by
  refine sound_of Tryz.func100 rfl (by kernel_rfl) ?_
  simp [Tryz.ntmps100]
  refine callRd rfl rfl rfl rfl (i_InRange_ok (↑a0.Pieces.length : Int) 1 12) (by simp) (by simp) (by simp) ?_
  simp
  refine condR (c := ((!(i_InRange (↑a0.Pieces.length : Int) 1 12)) || (decide ((↑a0.Chain.length : Int) > 8)))) (by simp) (fun k1 h1 => ?_) (fun k1 h1 => ?_)
  · have q1 := h1; try simp [i_InRange] at q1
    simp
    refine retRd (rv := [.tmp 2]) rfl ?_
    have f1 := i_IsStrand.eq_1 a0
    simp only [h1, cond_true, cond_false] at f1
    simp [f1]
  · have q1 := h1; try simp [i_InRange] at q1
    simp
    refine okL fun k2 => ?_
    refine loopI (ι := { s : Nat × Nat // i_IsStrand_1 a0 s.1 s.2 = i_IsStrand_1 a0 (a0.Pieces.length + 1) 0 ∧ (1 ≤ s.1 ∧ a0.Pieces.length < s.1 + s.2 ∧ s.2 ≤ a0.Pieces.length) }) (fun s => stOf 65 [(1, .one (.bptr 1 0), [.box [.d (.sl 3 (a0.Pieces.map TPiece.row)), .d (.sl 5 (a0.Chain.map TRenewal.row))]]), (19, .one (.d (.sl 3 (a0.Pieces.map TPiece.row))), []), (20, .one (.d (.int .i64 (↑a0.Pieces.length : Int))), []), (21, .one (.d (.int .i64 (↑s.1.2 : Int))), [])]) (fun s => s.1.1) ⟨((a0.Pieces.length + 1), 0), rfl, by first | omega | (dsimp only; omega) | simp⟩ (wk_keep (by simp)) ?_
    rintro ⟨⟨n1, v1_0⟩, e1, j1⟩
    try dsimp only at e1 j1
    obtain ⟨p1, rfl⟩ : ∃ p, n1 = p + 1 := ⟨n1 - 1, by omega⟩
    simp
    refine condR (c := (decide ((↑v1_0 : Int) < (↑a0.Pieces.length : Int)))) (by simp) (fun k3 h2 => ?_) (fun k3 h2 => ?_)
    · have q2 := h2; try simp at q2
      have i1 : v1_0 < a0.Pieces.length := by simpa using h2
      have m2 : a0.Pieces.length ≤ 9223372036854775807 := by simpa using k3 19 _ rfl
      have w1 : IntKind.i64.wrap ((v1_0 : Int) + 1) = (v1_0 : Int) + 1 := wrap_of (by omega) (by omega)
      simp [i1, rowAt_map]
      repeat ((with_reducible refine And.intro ?_ ?_); focus (intros; omega))
      refine okD fun k4 => ?_
      refine drawI mixed (by kernel_rfl) (by kernel_rfl) ?_
      simp
      repeat ((with_reducible refine And.intro ?_ ?_); focus (intros; omega))
      refine callRd rfl rfl rfl rfl (i_hasPiece_ok (a0.Pieces.take v1_0) (nth a0.Pieces v1_0)) (by simp) (by simp) (by simp) ?_
      simp
      refine condR (c := (i_hasPiece (a0.Pieces.take v1_0) (nth a0.Pieces v1_0))) (by simp) (fun k5 h3 => ?_) (fun k5 h3 => ?_)
      · have q3 := h3; try simp at q3
        have x1 : i_IsStrand_1 a0 (a0.Pieces.length + 1) 0 = .inl false := by rw [← e1]; simp only [i_IsStrand_1, h2, h3, cond_true, cond_false]
        simp
        refine retRd (rv := [.tmp 2]) rfl ?_
        have f2 := i_IsStrand.eq_1 a0
        simp only [h1, x1, cond_true, cond_false] at f2
        simp [f2]
      · have q3 := h3; try simp at q3
        simp
        refine nxtI ⟨(p1, (v1_0 + 1)), ?_, ?_⟩ (by simp) (wk_keep (by simp [w1]))
        · rw [← e1]; simp only [i_IsStrand_1, h2, h3, cond_true, cond_false]
        · first | omega | (simp at *; omega)
    · have q2 := h2; try simp at q2
      have x2 : i_IsStrand_1 a0 (a0.Pieces.length + 1) 0 = .inr () := by rw [← e1]; simp only [i_IsStrand_1, h2, cond_true, cond_false]
      simp
      refine okL fun k6 => ?_
      refine loopI (ι := { s : Nat × Nat // i_IsStrand_2 a0 s.1 s.2 = i_IsStrand_2 a0 (a0.Chain.length + 1) 0 ∧ (1 ≤ s.1 ∧ a0.Chain.length < s.1 + s.2 ∧ s.2 ≤ a0.Chain.length) }) (fun s => stOf 65 [(1, .one (.bptr 1 0), [.box [.d (.sl 3 (a0.Pieces.map TPiece.row)), .d (.sl 5 (a0.Chain.map TRenewal.row))]]), (34, .one (.d (.sl 5 (a0.Chain.map TRenewal.row))), []), (35, .one (.d (.int .i64 (↑a0.Chain.length : Int))), []), (36, .one (.d (.int .i64 (↑s.1.2 : Int))), [])]) (fun s => s.1.1) ⟨((a0.Chain.length + 1), 0), rfl, by first | omega | (dsimp only; omega) | simp⟩ (wk_keep (by simp)) ?_
      rintro ⟨⟨n2, v2_0⟩, e2, j2⟩
      try dsimp only at e2 j2
      obtain ⟨p2, rfl⟩ : ∃ p, n2 = p + 1 := ⟨n2 - 1, by omega⟩
      simp
      refine condR (c := (decide ((↑v2_0 : Int) < (↑a0.Chain.length : Int)))) (by simp) (fun k7 h4 => ?_) (fun k7 h4 => ?_)
      · have q4 := h4; try simp at q4
        have i2 : v2_0 < a0.Chain.length := by simpa using h4
        have m4 : a0.Chain.length ≤ 9223372036854775807 := by simpa using k7 34 _ rfl
        have w2 : IntKind.i64.wrap ((v2_0 : Int) + 1) = (v2_0 : Int) + 1 := wrap_of (by omega) (by omega)
        simp [i2, rowAt_map]
        repeat ((with_reducible refine And.intro ?_ ?_); focus (intros; omega))
        refine okD fun k8 => ?_
        refine drawI mixed (by kernel_rfl) (by kernel_rfl) ?_
        simp
        refine callRd rfl rfl rfl rfl (i_InRange_ok (nth a0.Chain v2_0).Count 1 (↑a0.Pieces.length : Int)) (by simp) (by simp) (by simp) ?_
        simp
        refine guardI rfl rfl rfl rfl rfl (by simp) (fun g1 => ?_) (fun g1 => ?_)
        · have g1x := g1; try simp only [beq_true, beq_false, Bool.not_eq_true', Bool.not_eq_false', Bool.true_and, Bool.and_true] at g1x
          try simp at g1
          have i3 : (v2_0 - 1) < a0.Chain.length := by omega
          have w3 : IntKind.i64.wrap ((v2_0 : Int) - 1) = (v2_0 : Int) - 1 := wrap_of (by omega) (by omega)
          simp [i3, rowAt_map, w3, toNat_pred, g1x]
          repeat ((with_reducible refine And.intro ?_ ?_); focus (intros; first | omega | (simp_all; done) | (simp_all; omega) | grind))
          refine condR (c := ((!(i_InRange (nth a0.Chain v2_0).Count 1 (↑a0.Pieces.length : Int))) || ((decide ((↑v2_0 : Int) > 0)) && (decide ((nth a0.Chain v2_0).Count < (nth a0.Chain (v2_0 - 1)).Count))))) (by first | (simp [g1x]; done) | grind) (fun k9 h5 => ?_) (fun k9 h5 => ?_)
          · try (have z := h5; simp [g1x] at z; done)
            all_goals
              have q5 := h5; try simp [i_InRange] at q5
              have x3 : i_IsStrand_2 a0 (a0.Chain.length + 1) 0 = .inl false := by rw [← e2]; simp only [i_IsStrand_2, h4, h5, cond_true, cond_false]
              simp [g1x]
              repeat ((with_reducible refine And.intro ?_ ?_); focus (intros; first | omega | (simp_all; done) | (simp_all; omega) | grind))
              refine retRd (rv := [.tmp 2]) rfl ?_
              have f3 := i_IsStrand.eq_1 a0
              simp only [h1, x2, x3, cond_true, cond_false] at f3
              simp [f3, g1x]
          · try (have z := h5; simp [g1x] at z; done)
            all_goals
              have q5 := h5; try simp [i_InRange] at q5
              simp [g1x]
              repeat ((with_reducible refine And.intro ?_ ?_); focus (intros; first | omega | (simp_all; done) | (simp_all; omega) | grind))
              refine nxtI ⟨(p2, (v2_0 + 1)), ?_, ?_⟩ (by simp) (wk_keep (by simp [w2, w3]))
              · rw [← e2]; simp only [i_IsStrand_2, h4, h5, cond_true, cond_false]
              · first | omega | (simp at *; omega)
        · have g1x := g1; try simp only [beq_true, beq_false, Bool.not_eq_true', Bool.not_eq_false', Bool.true_and, Bool.and_true] at g1x
          simp [g1x]
          repeat ((with_reducible refine And.intro ?_ ?_); focus (intros; first | omega | (simp_all; done) | (simp_all; omega) | grind))
          refine condR (c := ((!(i_InRange (nth a0.Chain v2_0).Count 1 (↑a0.Pieces.length : Int))) || ((decide ((↑v2_0 : Int) > 0)) && (decide ((nth a0.Chain v2_0).Count < (nth a0.Chain (v2_0 - 1)).Count))))) (by first | (simp [g1x]; done) | grind) (fun k10 h6 => ?_) (fun k10 h6 => ?_)
          · try (have z := h6; simp [g1x] at z; done)
            all_goals
              have q6 := h6; try simp [i_InRange] at q6
              have x4 : i_IsStrand_2 a0 (a0.Chain.length + 1) 0 = .inl false := by rw [← e2]; simp only [i_IsStrand_2, h4, h6, cond_true, cond_false]
              simp [g1x]
              repeat ((with_reducible refine And.intro ?_ ?_); focus (intros; first | omega | (simp_all; done) | (simp_all; omega) | grind))
              refine retRd (rv := [.tmp 2]) rfl ?_
              have f4 := i_IsStrand.eq_1 a0
              simp only [h1, x2, x4, cond_true, cond_false] at f4
              simp [f4, g1x]
          · try (have z := h6; simp [g1x] at z; done)
            all_goals
              have q6 := h6; try simp [i_InRange] at q6
              simp [g1x]
              repeat ((with_reducible refine And.intro ?_ ?_); focus (intros; first | omega | (simp_all; done) | (simp_all; omega) | grind))
              refine nxtI ⟨(p2, (v2_0 + 1)), ?_, ?_⟩ (by simp) (wk_keep (by simp [w2]))
              · rw [← e2]; simp only [i_IsStrand_2, h4, h6, cond_true, cond_false]
              · first | omega | (simp at *; omega)
      · have q4 := h4; try simp at q4
        have x5 : i_IsStrand_2 a0 (a0.Chain.length + 1) 0 = .inr () := by rw [← e2]; simp only [i_IsStrand_2, h4, cond_true, cond_false]
        simp
        refine retRd (rv := [.tmp 2]) rfl ?_
        have f5 := i_IsStrand.eq_1 a0
        simp only [h1, x2, x5, cond_true, cond_false] at f5
        simp [f5]
theorem i_SignatureInts_ok (a0 : TSignature) : SoundAt Tryz.prog 131 true [a0.row] [[.sl 1 ((i_SignatureInts a0).map iR)]] := by
  refine sound_of Tryz.func131 rfl (by kernel_rfl) ?_
  simp [Tryz.ntmps131]
  refine retOwn (rv := [.tmp 2]) rfl ?_
  have f1 := i_SignatureInts.eq_1 a0
  simp [f1]
theorem i_SignPiece_ok (a0 : TSignature) : SoundAt Tryz.prog 102 true [a0.row] [(i_SignPiece a0).row] := by
  refine sound_of Tryz.func102 rfl (by kernel_rfl) ?_
  simp [Tryz.ntmps102]
  refine okD fun k1 => ?_
  refine drawI mixed (by kernel_rfl) (by kernel_rfl) ?_
  simp
  refine callOwn rfl rfl rfl rfl (i_SignatureInts_ok a0) (by simp) (by simp) (by simp) (by simp) ?_
  simp
  refine retOwn (rv := [.cell 2 148]) rfl ?_
  have f1 := i_SignPiece.eq_1 a0
  simp [f1]
theorem i_IsItem_ok (a0 : TItem) : SoundAt Tryz.prog 68 false [a0.row] [[.bool (i_IsItem a0)]] := by
  refine sound_of Tryz.func68 rfl (by kernel_rfl) ?_
  simp [Tryz.ntmps68]
  refine okD fun k1 => ?_
  refine drawI mixed (by kernel_rfl) (by kernel_rfl) ?_
  simp
  refine callRd rfl rfl rfl rfl (i_InRange_ok a0.Id 1 999) (by simp) (by simp) (by simp) ?_
  simp
  refine callG rfl rfl rfl rfl rfl rfl (fun _ => (i_isTime_ok a0.Keep)) (by simp) (by simp) (by simp) (by simp) ?_
  simp
  refine callG rfl rfl rfl rfl rfl rfl (fun _ => (i_IsDocument_ok a0.Doc)) (by simp) (by simp) (by simp) (by simp) ?_
  simp
  refine callG rfl rfl rfl rfl rfl rfl (fun _ => (i_IsStrand_ok a0.Strand)) (by simp) (by simp) (by simp) (by simp) ?_
  simp
  refine guardI rfl rfl rfl rfl rfl (by simp) (fun g1 => ?_) (fun g1 => ?_)
  · have g1x := g1; try simp only [beq_true, beq_false, Bool.not_eq_true', Bool.not_eq_false', Bool.true_and, Bool.and_true] at g1x
    try simp at g1
    have i1 : 0 < a0.Strand.Pieces.length := by have := i_IsStrand_pos (a := a0.Strand); simp_all
    simp [i1, rowAt_map, g1x]
    repeat ((with_reducible refine And.intro ?_ ?_); focus (intros; first | omega | (simp_all; done) | (simp_all; omega) | grind))
    refine callG rfl rfl rfl rfl rfl rfl (fun _ => (i_SignPiece_ok a0.Sig)) (by simp) (by simp) (by simp) (by simp) ?_
    simp [g1x]
    repeat ((with_reducible refine And.intro ?_ ?_); focus (intros; first | omega | (simp_all; done) | (simp_all; omega) | grind))
    refine callG rfl rfl rfl rfl rfl rfl (fun _ => (i_EqualPieces_ok (nth a0.Strand.Pieces 0) (i_SignPiece a0.Sig))) (by simp) (by simp) (by simp) (by simp) ?_
    simp [g1x]
    repeat ((with_reducible refine And.intro ?_ ?_); focus (intros; first | omega | (simp_all; done) | (simp_all; omega) | grind))
    refine retRd (rv := [.tmp 2]) rfl ?_
    have f1 := i_IsItem.eq_1 a0
    simp [f1, g1x]
  · have g1x := g1; try simp only [beq_true, beq_false, Bool.not_eq_true', Bool.not_eq_false', Bool.true_and, Bool.and_true] at g1x
    simp [g1x]
    repeat ((with_reducible refine And.intro ?_ ?_); focus (intros; first | omega | (simp_all; done) | (simp_all; omega) | grind))
    refine skipG rfl rfl rfl rfl (by simp) (by simp [g1x]) ?_
    simp [g1x]
    repeat ((with_reducible refine And.intro ?_ ?_); focus (intros; first | omega | (simp_all; done) | (simp_all; omega) | grind))
    refine skipG rfl rfl rfl rfl (by simp) (by simp [g1x]) ?_
    simp [g1x]
    repeat ((with_reducible refine And.intro ?_ ?_); focus (intros; first | omega | (simp_all; done) | (simp_all; omega) | grind))
    refine retRd (rv := [.tmp 2]) rfl ?_
    have f2 := i_IsItem.eq_1 a0
    simp [f2, g1x]
theorem i_IsArchive_ok (a0 : TArchive) : SoundAt Tryz.prog 29 false [a0.row] [[.bool (i_IsArchive a0)]] := by
  refine sound_of Tryz.func29 rfl (by kernel_rfl) ?_
  simp [Tryz.ntmps29]
  refine okL fun k1 => ?_
  refine loopI (ι := { s : Nat × Nat // i_IsArchive_1 a0 s.1 s.2 = i_IsArchive_1 a0 (a0.Items.length + 1) 0 ∧ (1 ≤ s.1 ∧ a0.Items.length < s.1 + s.2 ∧ s.2 ≤ a0.Items.length) }) (fun s => stOf 42 [(1, .one (.bptr 1 0), [.box [.d (.int .i64 a0.Id), .d (.sl 16 (a0.Items.map TItem.row))]]), (6, .one (.d (.sl 16 (a0.Items.map TItem.row))), []), (7, .one (.d (.int .i64 (↑a0.Items.length : Int))), []), (8, .one (.d (.int .i64 (↑s.1.2 : Int))), [])]) (fun s => s.1.1) ⟨((a0.Items.length + 1), 0), rfl, by first | omega | (dsimp only; omega) | simp⟩ (wk_keep (by simp)) ?_
  rintro ⟨⟨n1, v1_0⟩, e1, j1⟩
  try dsimp only at e1 j1
  obtain ⟨p1, rfl⟩ : ∃ p, n1 = p + 1 := ⟨n1 - 1, by omega⟩
  simp
  refine condR (c := (decide ((↑v1_0 : Int) < (↑a0.Items.length : Int)))) (by simp) (fun k2 h1 => ?_) (fun k2 h1 => ?_)
  · have q1 := h1; try simp at q1
    have i1 : v1_0 < a0.Items.length := by simpa using h1
    have m2 : a0.Items.length ≤ 9223372036854775807 := by simpa using k2 6 _ rfl
    have w1 : IntKind.i64.wrap ((v1_0 : Int) + 1) = (v1_0 : Int) + 1 := wrap_of (by omega) (by omega)
    simp [i1, rowAt_map]
    repeat ((with_reducible refine And.intro ?_ ?_); focus (intros; omega))
    refine okD fun k3 => ?_
    refine drawI mixed (by kernel_rfl) (by kernel_rfl) ?_
    simp
    refine callRd rfl rfl rfl rfl (i_IsItem_ok (nth a0.Items v1_0)) (by simp) (by simp) (by simp) ?_
    simp
    refine guardI rfl rfl rfl rfl rfl (by simp) (fun g1 => ?_) (fun g1 => ?_)
    · have g1x := g1; try simp only [beq_true, beq_false, Bool.not_eq_true', Bool.not_eq_false', Bool.true_and, Bool.and_true] at g1x
      try simp at g1
      have i2 : (v1_0 - 1) < a0.Items.length := by omega
      have w2 : IntKind.i64.wrap ((v1_0 : Int) - 1) = (v1_0 : Int) - 1 := wrap_of (by omega) (by omega)
      simp [i2, rowAt_map, w2, toNat_pred, g1x]
      repeat ((with_reducible refine And.intro ?_ ?_); focus (intros; first | omega | (simp_all; done) | (simp_all; omega) | grind))
      refine condR (c := ((!(i_IsItem (nth a0.Items v1_0))) || ((decide ((↑v1_0 : Int) > 0)) && (decide ((nth a0.Items (v1_0 - 1)).Id ≥ (nth a0.Items v1_0).Id))))) (by first | (simp [g1x]; done) | grind) (fun k4 h2 => ?_) (fun k4 h2 => ?_)
      · try (have z := h2; simp [g1x] at z; done)
        all_goals
          have q2 := h2; try simp at q2
          have x1 : i_IsArchive_1 a0 (a0.Items.length + 1) 0 = .inl false := by rw [← e1]; simp only [i_IsArchive_1, h1, h2, cond_true, cond_false]
          simp [g1x]
          repeat ((with_reducible refine And.intro ?_ ?_); focus (intros; first | omega | (simp_all; done) | (simp_all; omega) | grind))
          refine retRd (rv := [.tmp 2]) rfl ?_
          have f1 := i_IsArchive.eq_1 a0
          simp only [x1, cond_true, cond_false] at f1
          simp [f1, g1x]
      · try (have z := h2; simp [g1x] at z; done)
        all_goals
          have q2 := h2; try simp at q2
          simp [g1x]
          repeat ((with_reducible refine And.intro ?_ ?_); focus (intros; first | omega | (simp_all; done) | (simp_all; omega) | grind))
          refine nxtI ⟨(p1, (v1_0 + 1)), ?_, ?_⟩ (by simp) (wk_keep (by simp [w1, w2]))
          · rw [← e1]; simp only [i_IsArchive_1, h1, h2, cond_true, cond_false]
          · first | omega | (simp at *; omega)
    · have g1x := g1; try simp only [beq_true, beq_false, Bool.not_eq_true', Bool.not_eq_false', Bool.true_and, Bool.and_true] at g1x
      simp [g1x]
      repeat ((with_reducible refine And.intro ?_ ?_); focus (intros; first | omega | (simp_all; done) | (simp_all; omega) | grind))
      refine condR (c := ((!(i_IsItem (nth a0.Items v1_0))) || ((decide ((↑v1_0 : Int) > 0)) && (decide ((nth a0.Items (v1_0 - 1)).Id ≥ (nth a0.Items v1_0).Id))))) (by first | (simp [g1x]; done) | grind) (fun k5 h3 => ?_) (fun k5 h3 => ?_)
      · try (have z := h3; simp [g1x] at z; done)
        all_goals
          have q3 := h3; try simp at q3
          have x2 : i_IsArchive_1 a0 (a0.Items.length + 1) 0 = .inl false := by rw [← e1]; simp only [i_IsArchive_1, h1, h3, cond_true, cond_false]
          simp [g1x]
          repeat ((with_reducible refine And.intro ?_ ?_); focus (intros; first | omega | (simp_all; done) | (simp_all; omega) | grind))
          refine retRd (rv := [.tmp 2]) rfl ?_
          have f2 := i_IsArchive.eq_1 a0
          simp only [x2, cond_true, cond_false] at f2
          simp [f2, g1x]
      · try (have z := h3; simp [g1x] at z; done)
        all_goals
          have q3 := h3; try simp at q3
          simp [g1x]
          repeat ((with_reducible refine And.intro ?_ ?_); focus (intros; first | omega | (simp_all; done) | (simp_all; omega) | grind))
          refine nxtI ⟨(p1, (v1_0 + 1)), ?_, ?_⟩ (by simp) (wk_keep (by simp [w1]))
          · rw [← e1]; simp only [i_IsArchive_1, h1, h3, cond_true, cond_false]
          · first | omega | (simp at *; omega)
  · have q1 := h1; try simp at q1
    have x3 : i_IsArchive_1 a0 (a0.Items.length + 1) 0 = .inr () := by rw [← e1]; simp only [i_IsArchive_1, h1, cond_true, cond_false]
    simp
    refine callRd rfl rfl rfl rfl (i_InRange_ok a0.Id 0 99) (by simp) (by simp) (by simp) ?_
    simp
    refine retRd (rv := [.tmp 2]) rfl ?_
    have f3 := i_IsArchive.eq_1 a0
    simp only [x3, cond_true, cond_false] at f3
    simp [f3]
theorem i_indexOf_ok (a0 : List Int) (a1 : Int) : SoundAt Tryz.prog 69 false [[.sl 1 (a0.map iR)], [.int .i64 a1]] [[.int .i64 (i_indexOf a0 a1)]] := by
  refine sound_of Tryz.func69 rfl (by kernel_rfl) ?_
  simp [Tryz.ntmps69]
  refine okL fun k1 => ?_
  refine loopI (ι := { s : Nat × Nat // i_indexOf_1 a0 a1 s.1 s.2 = i_indexOf_1 a0 a1 (a0.length + 1) 0 ∧ (1 ≤ s.1 ∧ a0.length < s.1 + s.2 ∧ s.2 ≤ a0.length) }) (fun s => stOf 19 [(1, .one (.d (.int .i64 a1)), []), (7, .one (.d (.sl 1 (a0.map iR))), []), (8, .one (.d (.int .i64 (↑a0.length : Int))), []), (9, .one (.d (.int .i64 (↑s.1.2 : Int))), [])]) (fun s => s.1.1) ⟨((a0.length + 1), 0), rfl, by first | omega | (dsimp only; omega) | simp⟩ (wk_keep (by simp)) ?_
  rintro ⟨⟨n1, v1_0⟩, e1, j1⟩
  try dsimp only at e1 j1
  obtain ⟨p1, rfl⟩ : ∃ p, n1 = p + 1 := ⟨n1 - 1, by omega⟩
  simp
  refine condR (c := (decide ((↑v1_0 : Int) < (↑a0.length : Int)))) (by simp) (fun k2 h1 => ?_) (fun k2 h1 => ?_)
  · have q1 := h1; try simp at q1
    have i1 : v1_0 < a0.length := by simpa using h1
    have m2 : a0.length ≤ 9223372036854775807 := by simpa using k2 7 _ rfl
    have w1 : IntKind.i64.wrap ((v1_0 : Int) + 1) = (v1_0 : Int) + 1 := wrap_of (by omega) (by omega)
    simp [i1, rowAt_map]
    repeat ((with_reducible refine And.intro ?_ ?_); focus (intros; omega))
    refine condR (c := ((nth a0 v1_0) == a1)) (by simp) (fun k3 h2 => ?_) (fun k3 h2 => ?_)
    · have q2 := h2; try simp at q2
      have x1 : i_indexOf_1 a0 a1 (a0.length + 1) 0 = .inl (↑v1_0 : Int) := by rw [← e1]; simp only [i_indexOf_1, h1, h2, cond_true, cond_false]
      simp
      refine retRd (rv := [.tmp 4]) rfl ?_
      have f1 := i_indexOf.eq_1 a0 a1
      simp only [x1, cond_true, cond_false] at f1
      simp [f1]
    · have q2 := h2; try simp at q2
      simp
      refine nxtI ⟨(p1, (v1_0 + 1)), ?_, ?_⟩ (by simp) (wk_keep (by simp [w1]))
      · rw [← e1]; simp only [i_indexOf_1, h1, h2, cond_true, cond_false]
      · first | omega | (simp at *; omega)
  · have q1 := h1; try simp at q1
    have x2 : i_indexOf_1 a0 a1 (a0.length + 1) 0 = .inr () := by rw [← e1]; simp only [i_indexOf_1, h1, cond_true, cond_false]
    simp
    refine retRd (rv := [.tmp 4]) rfl ?_
    have f2 := i_indexOf.eq_1 a0 a1
    simp only [x2, cond_true, cond_false] at f2
    simp [f2]
theorem i_hasInt_ok (a0 : List Int) (a1 : Int) : SoundAt Tryz.prog 30 false [[.sl 1 (a0.map iR)], [.int .i64 a1]] [[.bool (i_hasInt a0 a1)]] := by
  refine sound_of Tryz.func30 rfl (by kernel_rfl) ?_
  simp [Tryz.ntmps30]
  refine callRd rfl rfl rfl rfl (i_indexOf_ok a0 a1) (by simp) (by simp) (by simp) ?_
  simp
  refine retRd (rv := [.tmp 4]) rfl ?_
  have f1 := i_hasInt.eq_1 a0 a1
  simp [f1]
theorem i_FindAuthority_ok (a0 : List TAuthority) (a1 : Int) : SoundAt Tryz.prog 31 false [[.sl 3 (a0.map TAuthority.row)], [.int .i64 a1]] [[.int .i64 (i_FindAuthority a0 a1)]] := by
  refine sound_of Tryz.func31 rfl (by kernel_rfl) ?_
  simp [Tryz.ntmps31]
  refine okL fun k1 => ?_
  refine loopI (ι := { s : Nat × Nat // i_FindAuthority_1 a0 a1 s.1 s.2 = i_FindAuthority_1 a0 a1 (a0.length + 1) 0 ∧ (1 ≤ s.1 ∧ a0.length < s.1 + s.2 ∧ s.2 ≤ a0.length) }) (fun s => stOf 20 [(1, .one (.d (.int .i64 a1)), []), (7, .one (.d (.sl 3 (a0.map TAuthority.row))), []), (8, .one (.d (.int .i64 (↑a0.length : Int))), []), (9, .one (.d (.int .i64 (↑s.1.2 : Int))), [])]) (fun s => s.1.1) ⟨((a0.length + 1), 0), rfl, by first | omega | (dsimp only; omega) | simp⟩ (wk_keep (by simp)) ?_
  rintro ⟨⟨n1, v1_0⟩, e1, j1⟩
  try dsimp only at e1 j1
  obtain ⟨p1, rfl⟩ : ∃ p, n1 = p + 1 := ⟨n1 - 1, by omega⟩
  simp
  refine condR (c := (decide ((↑v1_0 : Int) < (↑a0.length : Int)))) (by simp) (fun k2 h1 => ?_) (fun k2 h1 => ?_)
  · have q1 := h1; try simp at q1
    have i1 : v1_0 < a0.length := by simpa using h1
    have m2 : a0.length ≤ 9223372036854775807 := by simpa using k2 7 _ rfl
    have w1 : IntKind.i64.wrap ((v1_0 : Int) + 1) = (v1_0 : Int) + 1 := wrap_of (by omega) (by omega)
    simp [i1, rowAt_map]
    repeat ((with_reducible refine And.intro ?_ ?_); focus (intros; omega))
    refine condR (c := ((nth a0 v1_0).Id == a1)) (by simp) (fun k3 h2 => ?_) (fun k3 h2 => ?_)
    · have q2 := h2; try simp at q2
      have x1 : i_FindAuthority_1 a0 a1 (a0.length + 1) 0 = .inl (↑v1_0 : Int) := by rw [← e1]; simp only [i_FindAuthority_1, h1, h2, cond_true, cond_false]
      simp
      refine retRd (rv := [.tmp 4]) rfl ?_
      have f1 := i_FindAuthority.eq_1 a0 a1
      simp only [x1, cond_true, cond_false] at f1
      simp [f1]
    · have q2 := h2; try simp at q2
      simp
      refine nxtI ⟨(p1, (v1_0 + 1)), ?_, ?_⟩ (by simp) (wk_keep (by simp [w1]))
      · rw [← e1]; simp only [i_FindAuthority_1, h1, h2, cond_true, cond_false]
      · first | omega | (simp at *; omega)
  · have q1 := h1; try simp at q1
    have x2 : i_FindAuthority_1 a0 a1 (a0.length + 1) 0 = .inr () := by rw [← e1]; simp only [i_FindAuthority_1, h1, cond_true, cond_false]
    simp
    refine retRd (rv := [.tmp 4]) rfl ?_
    have f2 := i_FindAuthority.eq_1 a0 a1
    simp only [x2, cond_true, cond_false] at f2
    simp [f2]
theorem i_IsWorld_ok (a0 : TWorld) (u0 : Sm 2310144 a0) : SoundAt Tryz.prog 8 false [a0.row] [[.bool (i_IsWorld a0)]] := by
  refine sound_of Tryz.func8 rfl (by kernel_rfl) ?_
  simp [Tryz.ntmps8]
  refine callRd rfl rfl rfl rfl (i_IsFrame_ok a0.Frame) (by simp) (by simp) (by simp) ?_
  simp
  refine callG rfl rfl rfl rfl rfl rfl (fun _ => (i_InRange_ok (↑a0.Archives.length : Int) 1 4)) (by simp) (by simp) (by simp) (by simp) ?_
  simp
  refine callG rfl rfl rfl rfl rfl rfl (fun _ => (i_areRising_ok a0.Lying)) (by simp) (by simp) (by simp) (by simp) ?_
  simp
  refine callG rfl rfl rfl rfl rfl rfl (fun _ => (i_areRising_ok a0.Forged)) (by simp) (by simp) (by simp) (by simp) ?_
  simp
  refine condR (c := ((((((((!(i_IsFrame a0.Frame)) || ((↑a0.Ended.length : Int) != (↑a0.Certs.length : Int))) || (!(i_InRange (↑a0.Archives.length : Int) 1 4))) || ((↑a0.Seqs.length : Int) != (↑a0.Frame.Authorities.length : Int))) || (decide ((↑a0.Lying.length : Int) > a0.Frame.Liars))) || (decide (a0.Next < 1))) || (!(i_areRising a0.Lying))) || (!(i_areRising a0.Forged)))) (by simp) (fun k1 h1 => ?_) (fun k1 h1 => ?_)
  · have q1 := h1; try simp [i_InRange] at q1
    simp
    refine retRd (rv := [.tmp 2]) rfl ?_
    have f1 := i_IsWorld.eq_1 a0
    simp only [h1, cond_true, cond_false] at f1
    simp [f1]
  · have q1 := h1; try simp [i_InRange] at q1
    simp
    refine okL fun k2 => ?_
    refine loopI (ι := { s : Nat × Nat // i_IsWorld_1 a0 s.1 s.2 = i_IsWorld_1 a0 (a0.Certs.length + 1) 0 ∧ (1 ≤ s.1 ∧ a0.Certs.length < s.1 + s.2 ∧ s.2 ≤ a0.Certs.length) }) (fun s => stOf 167 [(1, .one (.bptr 1 0), [.box [.d (.sl 5 (a0.Frame.Keys.map TKey.row)), .d (.sl 3 (a0.Frame.Authorities.map TAuthority.row)), .d (.sl 4 (a0.Frame.Methods.map TMethod.row)), .d (.int .i64 a0.Frame.Liars), .d (.int .i64 a0.Frame.Now), .d (.sl 7 (a0.Certs.map TCert.row)), .d (.sl 1 (a0.Ended.map iR)), .d (.sl 2 (a0.Archives.map TArchive.row)), .d (.sl 1 (a0.Seqs.map iR)), .d (.sl 1 (a0.Lying.map iR)), .d (.int .i64 a0.Next), .d (.sl 1 (a0.Forged.map iR))]]), (3, .one (.bptr 3 0), [.box [.d (.sl 5 (a0.Frame.Keys.map TKey.row)), .d (.sl 3 (a0.Frame.Authorities.map TAuthority.row)), .d (.sl 4 (a0.Frame.Methods.map TMethod.row)), .d (.int .i64 a0.Frame.Liars), .d (.int .i64 a0.Frame.Now)]]), (71, .one (.d (.sl 7 (a0.Certs.map TCert.row))), []), (72, .one (.d (.int .i64 (↑a0.Certs.length : Int))), []), (73, .one (.d (.int .i64 (↑s.1.2 : Int))), [])]) (fun s => s.1.1) ⟨((a0.Certs.length + 1), 0), rfl, by first | omega | (dsimp only; omega) | simp⟩ (wk_keep (by simp)) ?_
    rintro ⟨⟨n1, v1_0⟩, e1, j1⟩
    try dsimp only at e1 j1
    obtain ⟨p1, rfl⟩ : ∃ p, n1 = p + 1 := ⟨n1 - 1, by omega⟩
    simp
    refine condR (c := (decide ((↑v1_0 : Int) < (↑a0.Certs.length : Int)))) (by simp) (fun k3 h2 => ?_) (fun k3 h2 => ?_)
    · have q2 := h2; try simp at q2
      have i1 : v1_0 < a0.Certs.length := by simpa using h2
      have m2 : a0.Certs.length ≤ 9223372036854775807 := by simpa using k3 71 _ rfl
      have c1 : a0.Certs.length ≤ 2310144 := sm_len (by simp (maxDischargeDepth := 12) [u0])
      have w1 : IntKind.i64.wrap ((v1_0 : Int) + 1) = (v1_0 : Int) + 1 := wrap_of (by omega) (by omega)
      simp [i1, rowAt_map]
      repeat ((with_reducible refine And.intro ?_ ?_); focus (intros; first | omega | (have o : (nth a0.Archives v2_1).Items.length ≤ 2310144 := sm_len (by simp (maxDischargeDepth := 12) [u0]); have o2 : a0.Archives.length ≤ 2310144 := sm_len (by simp (maxDischargeDepth := 12) [u0]); omega)))
      refine callRd rfl rfl rfl rfl (i_CheckCert_ok a0.Frame.Keys (nth a0.Certs v1_0) (sm_mono (n := 2310144) (by decide) (by simp (maxDischargeDepth := 12) [u0]))) (by simp) (by simp) (by simp) ?_
      simp
      refine callG rfl rfl rfl rfl rfl rfl (fun _ => (i_FindCert_ok a0.Certs (nth a0.Certs v1_0).Serial)) (by simp) (by simp) (by simp) (by simp) ?_
      simp
      refine guardI rfl rfl rfl rfl rfl (by simp) (fun g1 => ?_) (fun g1 => ?_)
      · have g1x := g1; try simp only [beq_true, beq_false, Bool.not_eq_true', Bool.not_eq_false', Bool.true_and, Bool.and_true] at g1x
        try simp at g1
        have i2 : v1_0 < a0.Ended.length := by omega
        simp [i2, rowAt_map, g1x]
        repeat ((with_reducible refine And.intro ?_ ?_); focus (intros; first | first | omega | (have o : (nth a0.Archives v2_1).Items.length ≤ 2310144 := sm_len (by simp (maxDischargeDepth := 12) [u0]); have o2 : a0.Archives.length ≤ 2310144 := sm_len (by simp (maxDischargeDepth := 12) [u0]); omega) | (simp_all; done) | (simp_all; omega) | grind))
        refine callG rfl rfl rfl rfl rfl rfl (fun _ => (i_InRange_ok (nth a0.Ended v1_0) (-1) 10001)) (by simp) (by simp) (by simp) (by simp) ?_
        simp [g1x]
        repeat ((with_reducible refine And.intro ?_ ?_); focus (intros; first | first | omega | (have o : (nth a0.Archives v2_1).Items.length ≤ 2310144 := sm_len (by simp (maxDischargeDepth := 12) [u0]); have o2 : a0.Archives.length ≤ 2310144 := sm_len (by simp (maxDischargeDepth := 12) [u0]); omega) | (simp_all; done) | (simp_all; omega) | grind))
        refine condR (c := (((!(i_CheckCert a0.Frame.Keys (nth a0.Certs v1_0))) || ((i_FindCert a0.Certs (nth a0.Certs v1_0).Serial) != (↑v1_0 : Int))) || (!(i_InRange (nth a0.Ended v1_0) (-1) 10001)))) (by first | (simp [g1x]; done) | grind) (fun k4 h3 => ?_) (fun k4 h3 => ?_)
        · try (have z := h3; simp [g1x] at z; done)
          all_goals
            have q3 := h3; try simp [i_InRange] at q3
            have x1 : i_IsWorld_1 a0 (a0.Certs.length + 1) 0 = .inl false := by rw [← e1]; simp only [i_IsWorld_1, h2, h3, cond_true, cond_false]
            simp [g1x]
            repeat ((with_reducible refine And.intro ?_ ?_); focus (intros; first | first | omega | (have o : (nth a0.Archives v2_1).Items.length ≤ 2310144 := sm_len (by simp (maxDischargeDepth := 12) [u0]); have o2 : a0.Archives.length ≤ 2310144 := sm_len (by simp (maxDischargeDepth := 12) [u0]); omega) | (simp_all; done) | (simp_all; omega) | grind))
            refine retRd (rv := [.tmp 2]) rfl ?_
            have f2 := i_IsWorld.eq_1 a0
            simp only [h1, x1, cond_true, cond_false] at f2
            simp [f2, g1x]
        · try (have z := h3; simp [g1x] at z; done)
          all_goals
            have q3 := h3; try simp [i_InRange] at q3
            simp [g1x]
            repeat ((with_reducible refine And.intro ?_ ?_); focus (intros; first | first | omega | (have o : (nth a0.Archives v2_1).Items.length ≤ 2310144 := sm_len (by simp (maxDischargeDepth := 12) [u0]); have o2 : a0.Archives.length ≤ 2310144 := sm_len (by simp (maxDischargeDepth := 12) [u0]); omega) | (simp_all; done) | (simp_all; omega) | grind))
            refine nxtI ⟨(p1, (v1_0 + 1)), ?_, ?_⟩ (by simp) (wk_keep (by simp [w1]))
            · rw [← e1]; simp only [i_IsWorld_1, h2, h3, cond_true, cond_false]
            · first | omega | (simp at *; omega)
      · have g1x := g1; try simp only [beq_true, beq_false, Bool.not_eq_true', Bool.not_eq_false', Bool.true_and, Bool.and_true] at g1x
        simp [g1x]
        repeat ((with_reducible refine And.intro ?_ ?_); focus (intros; first | first | omega | (have o : (nth a0.Archives v2_1).Items.length ≤ 2310144 := sm_len (by simp (maxDischargeDepth := 12) [u0]); have o2 : a0.Archives.length ≤ 2310144 := sm_len (by simp (maxDischargeDepth := 12) [u0]); omega) | (simp_all; done) | (simp_all; omega) | grind))
        refine skipG rfl rfl rfl rfl (by simp) (by simp [g1x]) ?_
        simp [g1x]
        repeat ((with_reducible refine And.intro ?_ ?_); focus (intros; first | first | omega | (have o : (nth a0.Archives v2_1).Items.length ≤ 2310144 := sm_len (by simp (maxDischargeDepth := 12) [u0]); have o2 : a0.Archives.length ≤ 2310144 := sm_len (by simp (maxDischargeDepth := 12) [u0]); omega) | (simp_all; done) | (simp_all; omega) | grind))
        refine condR (c := (((!(i_CheckCert a0.Frame.Keys (nth a0.Certs v1_0))) || ((i_FindCert a0.Certs (nth a0.Certs v1_0).Serial) != (↑v1_0 : Int))) || (!(i_InRange (nth a0.Ended v1_0) (-1) 10001)))) (by first | (simp [g1x]; done) | grind) (fun k5 h4 => ?_) (fun k5 h4 => ?_)
        · try (have z := h4; simp [g1x] at z; done)
          all_goals
            have q4 := h4; try simp [i_InRange] at q4
            have x2 : i_IsWorld_1 a0 (a0.Certs.length + 1) 0 = .inl false := by rw [← e1]; simp only [i_IsWorld_1, h2, h4, cond_true, cond_false]
            simp [g1x]
            repeat ((with_reducible refine And.intro ?_ ?_); focus (intros; first | first | omega | (have o : (nth a0.Archives v2_1).Items.length ≤ 2310144 := sm_len (by simp (maxDischargeDepth := 12) [u0]); have o2 : a0.Archives.length ≤ 2310144 := sm_len (by simp (maxDischargeDepth := 12) [u0]); omega) | (simp_all; done) | (simp_all; omega) | grind))
            refine retRd (rv := [.tmp 2]) rfl ?_
            have f3 := i_IsWorld.eq_1 a0
            simp only [h1, x2, cond_true, cond_false] at f3
            simp [f3, g1x]
        · try (have z := h4; simp [g1x] at z; done)
          all_goals
            have q4 := h4; try simp [i_InRange] at q4
            simp [g1x]
            repeat ((with_reducible refine And.intro ?_ ?_); focus (intros; first | first | omega | (have o : (nth a0.Archives v2_1).Items.length ≤ 2310144 := sm_len (by simp (maxDischargeDepth := 12) [u0]); have o2 : a0.Archives.length ≤ 2310144 := sm_len (by simp (maxDischargeDepth := 12) [u0]); omega) | (simp_all; done) | (simp_all; omega) | grind))
            refine nxtI ⟨(p1, (v1_0 + 1)), ?_, ?_⟩ (by simp) (wk_keep (by simp [w1]))
            · rw [← e1]; simp only [i_IsWorld_1, h2, h4, cond_true, cond_false]
            · first | omega | (simp at *; omega)
    · have q2 := h2; try simp at q2
      have c2 : a0.Certs.length ≤ 2310144 := sm_len (by simp (maxDischargeDepth := 12) [u0])
      have x3 : i_IsWorld_1 a0 (a0.Certs.length + 1) 0 = .inr () := by rw [← e1]; simp only [i_IsWorld_1, h2, cond_true, cond_false]
      simp
      refine okL fun k6 => ?_
      refine loopI (ι := { s : Nat × (List Int) × Nat // i_IsWorld_2 a0 s.1 s.2.1 s.2.2 = i_IsWorld_2 a0 (a0.Archives.length + 1) ([] : List Int) 0 ∧ (1 ≤ s.1 ∧ a0.Archives.length < s.1 + s.2.2 ∧ s.2.1.length ≤ 2310144 * s.2.2) }) (fun s => stOf 167 [(1, .one (.bptr 1 0), [.box [.d (.sl 5 (a0.Frame.Keys.map TKey.row)), .d (.sl 3 (a0.Frame.Authorities.map TAuthority.row)), .d (.sl 4 (a0.Frame.Methods.map TMethod.row)), .d (.int .i64 a0.Frame.Liars), .d (.int .i64 a0.Frame.Now), .d (.sl 7 (a0.Certs.map TCert.row)), .d (.sl 1 (a0.Ended.map iR)), .d (.sl 2 (a0.Archives.map TArchive.row)), .d (.sl 1 (a0.Seqs.map iR)), .d (.sl 1 (a0.Lying.map iR)), .d (.int .i64 a0.Next), .d (.sl 1 (a0.Forged.map iR))]]), (3, .one (.bptr 3 0), [.box [.d (.sl 5 (a0.Frame.Keys.map TKey.row)), .d (.sl 3 (a0.Frame.Authorities.map TAuthority.row)), .d (.sl 4 (a0.Frame.Methods.map TMethod.row)), .d (.int .i64 a0.Frame.Liars), .d (.int .i64 a0.Frame.Now)]]), (6, .one (.sref 6 0 0 s.1.2.1.length), [.arr false 1 (s.1.2.1.map iR)]), (103, .one (.d (.sl 2 (a0.Archives.map TArchive.row))), []), (104, .one (.d (.int .i64 (↑a0.Archives.length : Int))), []), (105, .one (.d (.int .i64 (↑s.1.2.2 : Int))), [])]) (fun s => s.1.1) ⟨((a0.Archives.length + 1), ([] : List Int), 0), rfl, by first | omega | (dsimp only; omega) | simp⟩ (wk_of [((6, 0), none)] [] rfl (by simp)) ?_
      rintro ⟨⟨n2, v2_0, v2_1⟩, e2, j2⟩
      try dsimp only at e2 j2
      obtain ⟨p2, rfl⟩ : ∃ p, n2 = p + 1 := ⟨n2 - 1, by omega⟩
      simp
      refine condR (c := (decide ((↑v2_1 : Int) < (↑a0.Archives.length : Int)))) (by simp) (fun k7 h5 => ?_) (fun k7 h5 => ?_)
      · have q5 := h5; try simp at q5
        have i4 : v2_1 < a0.Archives.length := by simpa using h5
        have m4 : a0.Archives.length ≤ 9223372036854775807 := by simpa using k7 103 _ rfl
        have c3 : a0.Archives.length ≤ 2310144 := sm_len (by simp (maxDischargeDepth := 12) [u0])
        have w2 : IntKind.i64.wrap ((v2_1 : Int) + 1) = (v2_1 : Int) + 1 := wrap_of (by omega) (by omega)
        simp [i4, rowAt_map]
        repeat ((with_reducible refine And.intro ?_ ?_); focus (intros; first | omega | (have o : (nth a0.Archives v2_1).Items.length ≤ 2310144 := sm_len (by simp (maxDischargeDepth := 12) [u0]); have o2 : a0.Archives.length ≤ 2310144 := sm_len (by simp (maxDischargeDepth := 12) [u0]); omega)))
        refine callRd rfl rfl rfl rfl (i_IsArchive_ok (nth a0.Archives v2_1)) (by simp) (by simp) (by simp) ?_
        simp
        refine condR (c := ((!(i_IsArchive (nth a0.Archives v2_1))) || ((nth a0.Archives v2_1).Id != (↑v2_1 : Int)))) (by simp) (fun k8 h6 => ?_) (fun k8 h6 => ?_)
        · have q6 := h6; try simp at q6
          have x4 : i_IsWorld_2 a0 (a0.Archives.length + 1) ([] : List Int) 0 = .inl false := by rw [← e2]; simp only [i_IsWorld_2, h5, h6, cond_true, cond_false]
          simp
          refine retRd (rv := [.tmp 2]) rfl ?_
          have f4 := i_IsWorld.eq_1 a0
          simp only [h1, x3, x4, cond_true, cond_false] at f4
          simp [f4]
        · have q6 := h6; try simp at q6
          simp
          refine okL fun k9 => ?_
          refine loopI (ι := { s : Nat × (List Int) × Nat // i_IsWorld_3 a0 v2_1 s.1 s.2.1 s.2.2 = i_IsWorld_3 a0 v2_1 ((nth a0.Archives v2_1).Items.length + 1) v2_0 0 ∧ (1 ≤ s.1 ∧ (nth a0.Archives v2_1).Items.length < s.1 + s.2.2 ∧ s.2.2 ≤ (nth a0.Archives v2_1).Items.length ∧ s.2.1.length ≤ 2310144 * v2_1 + s.2.2) }) (fun s => stOf 167 [(1, .one (.bptr 1 0), [.box [.d (.sl 5 (a0.Frame.Keys.map TKey.row)), .d (.sl 3 (a0.Frame.Authorities.map TAuthority.row)), .d (.sl 4 (a0.Frame.Methods.map TMethod.row)), .d (.int .i64 a0.Frame.Liars), .d (.int .i64 a0.Frame.Now), .d (.sl 7 (a0.Certs.map TCert.row)), .d (.sl 1 (a0.Ended.map iR)), .d (.sl 2 (a0.Archives.map TArchive.row)), .d (.sl 1 (a0.Seqs.map iR)), .d (.sl 1 (a0.Lying.map iR)), .d (.int .i64 a0.Next), .d (.sl 1 (a0.Forged.map iR))]]), (3, .one (.bptr 3 0), [.box [.d (.sl 5 (a0.Frame.Keys.map TKey.row)), .d (.sl 3 (a0.Frame.Authorities.map TAuthority.row)), .d (.sl 4 (a0.Frame.Methods.map TMethod.row)), .d (.int .i64 a0.Frame.Liars), .d (.int .i64 a0.Frame.Now)]]), (6, .one (.sref 6 0 0 s.1.2.1.length), [.arr false 1 (s.1.2.1.map iR)]), (103, .one (.d (.sl 2 (a0.Archives.map TArchive.row))), []), (104, .one (.d (.int .i64 (↑a0.Archives.length : Int))), []), (105, .one (.d (.int .i64 (↑v2_1 : Int))), []), (120, .one (.d (.sl 16 ((nth a0.Archives v2_1).Items.map TItem.row))), []), (121, .one (.d (.int .i64 (↑(nth a0.Archives v2_1).Items.length : Int))), []), (122, .one (.d (.int .i64 (↑s.1.2.2 : Int))), [])]) (fun s => s.1.1) ⟨(((nth a0.Archives v2_1).Items.length + 1), v2_0, 0), rfl, by first | omega | (dsimp only; omega) | simp⟩ (wk_keep (by simp)) ?_
          rintro ⟨⟨n3, v3_0, v3_1⟩, e3, j3⟩
          try dsimp only at e3 j3
          obtain ⟨p3, rfl⟩ : ∃ p, n3 = p + 1 := ⟨n3 - 1, by omega⟩
          simp
          refine condR (c := (decide ((↑v3_1 : Int) < (↑(nth a0.Archives v2_1).Items.length : Int)))) (by simp) (fun k10 h7 => ?_) (fun k10 h7 => ?_)
          · have q7 := h7; try simp at q7
            have i5 : v3_1 < (nth a0.Archives v2_1).Items.length := by simpa using h7
            have m6 : (nth a0.Archives v2_1).Items.length ≤ 9223372036854775807 := by simpa using k10 120 _ rfl
            have c4 : (nth a0.Archives v2_1).Items.length ≤ 2310144 := sm_len (by simp (maxDischargeDepth := 12) [u0])
            have w3 : IntKind.i64.wrap ((v3_1 : Int) + 1) = (v3_1 : Int) + 1 := wrap_of (by omega) (by omega)
            simp [i5, rowAt_map]
            repeat ((with_reducible refine And.intro ?_ ?_); focus (intros; first | omega | (have o : (nth a0.Archives v2_1).Items.length ≤ 2310144 := sm_len (by simp (maxDischargeDepth := 12) [u0]); have o2 : a0.Archives.length ≤ 2310144 := sm_len (by simp (maxDischargeDepth := 12) [u0]); omega)))
            refine callRd rfl rfl rfl rfl (i_hasInt_ok v3_0 (nth (nth a0.Archives v2_1).Items v3_1).Id) (by simp) (by simp) (by simp) ?_
            simp
            refine condR (c := ((i_hasInt v3_0 (nth (nth a0.Archives v2_1).Items v3_1).Id) || (decide ((nth (nth a0.Archives v2_1).Items v3_1).Id ≥ a0.Next)))) (by simp) (fun k11 h8 => ?_) (fun k11 h8 => ?_)
            · have q8 := h8; try simp at q8
              have x5 : i_IsWorld_3 a0 v2_1 ((nth a0.Archives v2_1).Items.length + 1) v2_0 0 = .inl false := by rw [← e3]; simp only [i_IsWorld_3, h7, h8, cond_true, cond_false]
              have x6 : i_IsWorld_2 a0 (a0.Archives.length + 1) ([] : List Int) 0 = .inl false := by rw [← e2]; simp only [i_IsWorld_2, h5, h6, x5, cond_true, cond_false]
              simp
              refine retRd (rv := [.tmp 2]) rfl ?_
              have f5 := i_IsWorld.eq_1 a0
              simp only [h1, x3, x6, cond_true, cond_false] at f5
              simp [f5]
            · have q8 := h8; try simp at q8
              simp
              repeat ((with_reducible refine And.intro ?_ ?_); focus (intros; first | omega | (have o : (nth a0.Archives v2_1).Items.length ≤ 2310144 := sm_len (by simp (maxDischargeDepth := 12) [u0]); have o2 : a0.Archives.length ≤ 2310144 := sm_len (by simp (maxDischargeDepth := 12) [u0]); omega)))
              refine nxtI ⟨(p3, (v3_0 ++ ([(nth (nth a0.Archives v2_1).Items v3_1).Id] : List Int)), (v3_1 + 1)), ?_, ?_⟩ (by simp) (wk_of [((6, 0), some (141, 0))] [] rfl (by simp [w2, w3]))
              · rw [← e3]; simp only [i_IsWorld_3, h7, h8, cond_true, cond_false]
              · (have o : (nth a0.Archives v2_1).Items.length ≤ 2310144 := sm_len (by simp (maxDischargeDepth := 12) [u0]); first | omega | (simp at *; omega))
          · have q7 := h7; try simp at q7
            have c5 : (nth a0.Archives v2_1).Items.length ≤ 2310144 := sm_len (by simp (maxDischargeDepth := 12) [u0])
            have x7 : i_IsWorld_3 a0 v2_1 ((nth a0.Archives v2_1).Items.length + 1) v2_0 0 = .inr v3_0 := by rw [← e3]; simp only [i_IsWorld_3, h7, cond_true, cond_false]
            simp
            refine nxtI ⟨(p2, v3_0, (v2_1 + 1)), ?_, ?_⟩ (by simp) (wk_keep (by simp [w2]))
            · rw [← e2]; simp only [i_IsWorld_2, h5, h6, x7, cond_true, cond_false]
            · (have o : (nth a0.Archives v2_1).Items.length ≤ 2310144 := sm_len (by simp (maxDischargeDepth := 12) [u0]); first | omega | (simp at *; omega))
      · have q5 := h5; try simp at q5
        have c6 : a0.Archives.length ≤ 2310144 := sm_len (by simp (maxDischargeDepth := 12) [u0])
        have x8 : i_IsWorld_2 a0 (a0.Archives.length + 1) ([] : List Int) 0 = .inr () := by rw [← e2]; simp only [i_IsWorld_2, h5, cond_true, cond_false]
        simp
        refine okL fun k12 => ?_
        refine loopI (ι := { s : Nat × Nat // i_IsWorld_4 a0 s.1 s.2 = i_IsWorld_4 a0 (a0.Seqs.length + 1) 0 ∧ (1 ≤ s.1 ∧ a0.Seqs.length < s.1 + s.2 ∧ s.2 ≤ a0.Seqs.length) }) (fun s => stOf 167 [(1, .one (.bptr 1 0), [.box [.d (.sl 5 (a0.Frame.Keys.map TKey.row)), .d (.sl 3 (a0.Frame.Authorities.map TAuthority.row)), .d (.sl 4 (a0.Frame.Methods.map TMethod.row)), .d (.int .i64 a0.Frame.Liars), .d (.int .i64 a0.Frame.Now), .d (.sl 7 (a0.Certs.map TCert.row)), .d (.sl 1 (a0.Ended.map iR)), .d (.sl 2 (a0.Archives.map TArchive.row)), .d (.sl 1 (a0.Seqs.map iR)), .d (.sl 1 (a0.Lying.map iR)), .d (.int .i64 a0.Next), .d (.sl 1 (a0.Forged.map iR))]]), (3, .one (.bptr 3 0), [.box [.d (.sl 5 (a0.Frame.Keys.map TKey.row)), .d (.sl 3 (a0.Frame.Authorities.map TAuthority.row)), .d (.sl 4 (a0.Frame.Methods.map TMethod.row)), .d (.int .i64 a0.Frame.Liars), .d (.int .i64 a0.Frame.Now)]]), (145, .one (.d (.sl 1 (a0.Seqs.map iR))), []), (146, .one (.d (.int .i64 (↑a0.Seqs.length : Int))), []), (147, .one (.d (.int .i64 (↑s.1.2 : Int))), [])]) (fun s => s.1.1) ⟨((a0.Seqs.length + 1), 0), rfl, by first | omega | (dsimp only; omega) | simp⟩ (wk_keep (by simp)) ?_
        rintro ⟨⟨n4, v4_0⟩, e4, j4⟩
        try dsimp only at e4 j4
        obtain ⟨p4, rfl⟩ : ∃ p, n4 = p + 1 := ⟨n4 - 1, by omega⟩
        simp
        refine condR (c := (decide ((↑v4_0 : Int) < (↑a0.Seqs.length : Int)))) (by simp) (fun k13 h9 => ?_) (fun k13 h9 => ?_)
        · have q9 := h9; try simp at q9
          have i6 : v4_0 < a0.Seqs.length := by simpa using h9
          have m8 : a0.Seqs.length ≤ 9223372036854775807 := by simpa using k13 145 _ rfl
          have c7 : a0.Seqs.length ≤ 2310144 := sm_len (by simp (maxDischargeDepth := 12) [u0])
          have w4 : IntKind.i64.wrap ((v4_0 : Int) + 1) = (v4_0 : Int) + 1 := wrap_of (by omega) (by omega)
          simp [i6, rowAt_map]
          repeat ((with_reducible refine And.intro ?_ ?_); focus (intros; first | omega | (have o : (nth a0.Archives v2_1).Items.length ≤ 2310144 := sm_len (by simp (maxDischargeDepth := 12) [u0]); have o2 : a0.Archives.length ≤ 2310144 := sm_len (by simp (maxDischargeDepth := 12) [u0]); omega)))
          refine condR (c := (decide ((nth a0.Seqs v4_0) < 0))) (by simp) (fun k14 h10 => ?_) (fun k14 h10 => ?_)
          · have q10 := h10; try simp at q10
            have x9 : i_IsWorld_4 a0 (a0.Seqs.length + 1) 0 = .inl false := by rw [← e4]; simp only [i_IsWorld_4, h9, h10, cond_true, cond_false]
            simp
            refine retRd (rv := [.tmp 2]) rfl ?_
            have f6 := i_IsWorld.eq_1 a0
            simp only [h1, x3, x8, x9, cond_true, cond_false] at f6
            simp [f6]
          · have q10 := h10; try simp at q10
            simp
            refine nxtI ⟨(p4, (v4_0 + 1)), ?_, ?_⟩ (by simp) (wk_keep (by simp [w4]))
            · rw [← e4]; simp only [i_IsWorld_4, h9, h10, cond_true, cond_false]
            · first | omega | (simp at *; omega)
        · have q9 := h9; try simp at q9
          have c8 : a0.Seqs.length ≤ 2310144 := sm_len (by simp (maxDischargeDepth := 12) [u0])
          have x10 : i_IsWorld_4 a0 (a0.Seqs.length + 1) 0 = .inr () := by rw [← e4]; simp only [i_IsWorld_4, h9, cond_true, cond_false]
          simp
          refine okL fun k15 => ?_
          refine loopI (ι := { s : Nat × Nat // i_IsWorld_5 a0 s.1 s.2 = i_IsWorld_5 a0 (a0.Lying.length + 1) 0 ∧ (1 ≤ s.1 ∧ a0.Lying.length < s.1 + s.2 ∧ s.2 ≤ a0.Lying.length) }) (fun s => stOf 167 [(3, .one (.bptr 3 0), [.box [.d (.sl 5 (a0.Frame.Keys.map TKey.row)), .d (.sl 3 (a0.Frame.Authorities.map TAuthority.row)), .d (.sl 4 (a0.Frame.Methods.map TMethod.row)), .d (.int .i64 a0.Frame.Liars), .d (.int .i64 a0.Frame.Now)]]), (155, .one (.d (.sl 1 (a0.Lying.map iR))), []), (156, .one (.d (.int .i64 (↑a0.Lying.length : Int))), []), (157, .one (.d (.int .i64 (↑s.1.2 : Int))), [])]) (fun s => s.1.1) ⟨((a0.Lying.length + 1), 0), rfl, by first | omega | (dsimp only; omega) | simp⟩ (wk_keep (by simp)) ?_
          rintro ⟨⟨n5, v5_0⟩, e5, j5⟩
          try dsimp only at e5 j5
          obtain ⟨p5, rfl⟩ : ∃ p, n5 = p + 1 := ⟨n5 - 1, by omega⟩
          simp
          refine condR (c := (decide ((↑v5_0 : Int) < (↑a0.Lying.length : Int)))) (by simp) (fun k16 h11 => ?_) (fun k16 h11 => ?_)
          · have q11 := h11; try simp at q11
            have i7 : v5_0 < a0.Lying.length := by simpa using h11
            have m10 : a0.Lying.length ≤ 9223372036854775807 := by simpa using k16 155 _ rfl
            have c9 : a0.Lying.length ≤ 2310144 := sm_len (by simp (maxDischargeDepth := 12) [u0])
            have w5 : IntKind.i64.wrap ((v5_0 : Int) + 1) = (v5_0 : Int) + 1 := wrap_of (by omega) (by omega)
            simp [i7, rowAt_map]
            repeat ((with_reducible refine And.intro ?_ ?_); focus (intros; first | omega | (have o : (nth a0.Archives v2_1).Items.length ≤ 2310144 := sm_len (by simp (maxDischargeDepth := 12) [u0]); have o2 : a0.Archives.length ≤ 2310144 := sm_len (by simp (maxDischargeDepth := 12) [u0]); omega)))
            refine callRd rfl rfl rfl rfl (i_FindAuthority_ok a0.Frame.Authorities (nth a0.Lying v5_0)) (by simp) (by simp) (by simp) ?_
            simp
            refine condR (c := (decide ((i_FindAuthority a0.Frame.Authorities (nth a0.Lying v5_0)) < 0))) (by simp) (fun k17 h12 => ?_) (fun k17 h12 => ?_)
            · have q12 := h12; try simp at q12
              have x11 : i_IsWorld_5 a0 (a0.Lying.length + 1) 0 = .inl false := by rw [← e5]; simp only [i_IsWorld_5, h11, h12, cond_true, cond_false]
              simp
              refine retRd (rv := [.tmp 2]) rfl ?_
              have f7 := i_IsWorld.eq_1 a0
              simp only [h1, x3, x8, x10, x11, cond_true, cond_false] at f7
              simp [f7]
            · have q12 := h12; try simp at q12
              simp
              refine nxtI ⟨(p5, (v5_0 + 1)), ?_, ?_⟩ (by simp) (wk_keep (by simp [w5]))
              · rw [← e5]; simp only [i_IsWorld_5, h11, h12, cond_true, cond_false]
              · first | omega | (simp at *; omega)
          · have q11 := h11; try simp at q11
            have c10 : a0.Lying.length ≤ 2310144 := sm_len (by simp (maxDischargeDepth := 12) [u0])
            have x12 : i_IsWorld_5 a0 (a0.Lying.length + 1) 0 = .inr () := by rw [← e5]; simp only [i_IsWorld_5, h11, cond_true, cond_false]
            simp
            refine retRd (rv := [.tmp 2]) rfl ?_
            have f8 := i_IsWorld.eq_1 a0
            simp only [h1, x3, x8, x10, x12, cond_true, cond_false] at f8
            simp [f8]
theorem l_eqKey_ok (a0 : TKey) (a1 : TKey) : SoundAt Tryz.prog 103 false [a0.row, a1.row] [[.bool (l_eqKey a0 a1)]] := by
  refine sound_of Tryz.func103 rfl (by kernel_rfl) ?_
  simp [Tryz.ntmps103]
  refine condR (c := (a0.Number != a1.Number)) (by simp) (fun k1 h1 => ?_) (fun k1 h1 => ?_)
  · have q1 := h1; try simp at q1
    simp
    refine retRd (rv := [.tmp 4]) rfl ?_
    have f1 := l_eqKey.eq_1 a0 a1
    simp only [h1, cond_true, cond_false] at f1
    simp [f1]
  · have q1 := h1; try simp at q1
    simp
    refine condR (c := (a0.Owner != a1.Owner)) (by simp) (fun k2 h2 => ?_) (fun k2 h2 => ?_)
    · have q2 := h2; try simp at q2
      simp
      refine retRd (rv := [.tmp 4]) rfl ?_
      have f2 := l_eqKey.eq_1 a0 a1
      simp only [h1, h2, cond_true, cond_false] at f2
      simp [f2]
    · have q2 := h2; try simp at q2
      simp
      refine condR (c := (a0.Method != a1.Method)) (by simp) (fun k3 h3 => ?_) (fun k3 h3 => ?_)
      · have q3 := h3; try simp at q3
        simp
        refine retRd (rv := [.tmp 4]) rfl ?_
        have f3 := l_eqKey.eq_1 a0 a1
        simp only [h1, h2, h3, cond_true, cond_false] at f3
        simp [f3]
      · have q3 := h3; try simp at q3
        simp
        refine condR (c := (a0.Born != a1.Born)) (by simp) (fun k4 h4 => ?_) (fun k4 h4 => ?_)
        · have q4 := h4; try simp at q4
          simp
          refine retRd (rv := [.tmp 4]) rfl ?_
          have f4 := l_eqKey.eq_1 a0 a1
          simp only [h1, h2, h3, h4, cond_true, cond_false] at f4
          simp [f4]
        · have q4 := h4; try simp at q4
          simp
          refine condR (c := (a0.Secret != a1.Secret)) (by simp) (fun k5 h5 => ?_) (fun k5 h5 => ?_)
          · have q5 := h5; try simp at q5
            simp
            refine retRd (rv := [.tmp 4]) rfl ?_
            have f5 := l_eqKey.eq_1 a0 a1
            simp only [h1, h2, h3, h4, h5, cond_true, cond_false] at f5
            simp [f5]
          · have q5 := h5; try simp at q5
            simp
            refine retRd (rv := [.tmp 4]) rfl ?_
            have f6 := l_eqKey.eq_1 a0 a1
            simp only [h1, h2, h3, h4, h5, cond_true, cond_false] at f6
            simp [f6]
theorem l_eqKeyS_ok (a0 : List TKey) (a1 : List TKey) : SoundAt Tryz.prog 70 false [[.sl 5 (a0.map TKey.row)], [.sl 5 (a1.map TKey.row)]] [[.bool (l_eqKeyS a0 a1)]] := by
  refine sound_of Tryz.func70 rfl (by kernel_rfl) ?_
  simp [Tryz.ntmps70]
  refine condR (c := ((↑a0.length : Int) != (↑a1.length : Int))) (by simp) (fun k1 h1 => ?_) (fun k1 h1 => ?_)
  · have q1 := h1; try simp at q1
    simp
    refine retRd (rv := [.tmp 4]) rfl ?_
    have f1 := l_eqKeyS.eq_1 a0 a1
    simp only [h1, cond_true, cond_false] at f1
    simp [f1]
  · have q1 := h1; try simp at q1
    simp
    refine okL fun k2 => ?_
    refine loopI (ι := { s : Nat × Nat // l_eqKeyS_1 a0 a1 s.1 s.2 = l_eqKeyS_1 a0 a1 (a0.length + 1) 0 ∧ (1 ≤ s.1 ∧ a0.length < s.1 + s.2 ∧ s.2 ≤ a0.length) }) (fun s => stOf 27 [(0, .one (.d (.sl 5 (a0.map TKey.row))), []), (1, .one (.d (.sl 5 (a1.map TKey.row))), []), (5, .one (.d (.int .i64 (↑s.1.2 : Int))), [])]) (fun s => s.1.1) ⟨((a0.length + 1), 0), rfl, by first | omega | (dsimp only; omega) | simp⟩ (wk_keep (by simp)) ?_
    rintro ⟨⟨n1, v1_0⟩, e1, j1⟩
    try dsimp only at e1 j1
    obtain ⟨p1, rfl⟩ : ∃ p, n1 = p + 1 := ⟨n1 - 1, by omega⟩
    simp
    refine condR (c := (decide ((↑v1_0 : Int) < (↑a0.length : Int)))) (by simp) (fun k3 h2 => ?_) (fun k3 h2 => ?_)
    · have q2 := h2; try simp at q2
      have i1 : v1_0 < a0.length := by simpa using h2
      have m2 : a0.length ≤ 9223372036854775807 := by simpa using k3 0 _ rfl
      have w1 : IntKind.i64.wrap ((v1_0 : Int) + 1) = (v1_0 : Int) + 1 := wrap_of (by omega) (by omega)
      simp
      refine okD fun k4 => ?_
      refine drawI mixed (by kernel_rfl) (by kernel_rfl) ?_
      have i2 : v1_0 < a1.length := by omega
      simp [i1, rowAt_map, i2]
      repeat ((with_reducible refine And.intro ?_ ?_); focus (intros; omega))
      refine callRd rfl rfl rfl rfl (l_eqKey_ok (nth a0 v1_0) (nth a1 v1_0)) (by simp) (by simp) (by simp) ?_
      simp
      refine condR (c := (!(l_eqKey (nth a0 v1_0) (nth a1 v1_0)))) (by simp) (fun k5 h3 => ?_) (fun k5 h3 => ?_)
      · have q3 := h3; try simp at q3
        have x1 : l_eqKeyS_1 a0 a1 (a0.length + 1) 0 = .inl false := by rw [← e1]; simp only [l_eqKeyS_1, h2, h3, cond_true, cond_false]
        simp
        refine retRd (rv := [.tmp 4]) rfl ?_
        have f2 := l_eqKeyS.eq_1 a0 a1
        simp only [h1, x1, cond_true, cond_false] at f2
        simp [f2]
      · have q3 := h3; try simp at q3
        simp
        refine nxtI ⟨(p1, (v1_0 + 1)), ?_, ?_⟩ (by simp) (wk_keep (by simp [w1]))
        · rw [← e1]; simp only [l_eqKeyS_1, h2, h3, cond_true, cond_false]
        · first | omega | (simp at *; omega)
    · have q2 := h2; try simp at q2
      have x2 : l_eqKeyS_1 a0 a1 (a0.length + 1) 0 = .inr () := by rw [← e1]; simp only [l_eqKeyS_1, h2, cond_true, cond_false]
      simp
      refine retRd (rv := [.tmp 4]) rfl ?_
      have f3 := l_eqKeyS.eq_1 a0 a1
      simp only [h1, x2, cond_true, cond_false] at f3
      simp [f3]
theorem l_eqAuthority_ok (a0 : TAuthority) (a1 : TAuthority) : SoundAt Tryz.prog 104 false [a0.row, a1.row] [[.bool (l_eqAuthority a0 a1)]] := by
  refine sound_of Tryz.func104 rfl (by kernel_rfl) ?_
  simp [Tryz.ntmps104]
  refine condR (c := (a0.Id != a1.Id)) (by simp) (fun k1 h1 => ?_) (fun k1 h1 => ?_)
  · have q1 := h1; try simp at q1
    simp
    refine retRd (rv := [.tmp 4]) rfl ?_
    have f1 := l_eqAuthority.eq_1 a0 a1
    simp only [h1, cond_true, cond_false] at f1
    simp [f1]
  · have q1 := h1; try simp at q1
    simp
    refine condR (c := (a0.Key != a1.Key)) (by simp) (fun k2 h2 => ?_) (fun k2 h2 => ?_)
    · have q2 := h2; try simp at q2
      simp
      refine retRd (rv := [.tmp 4]) rfl ?_
      have f2 := l_eqAuthority.eq_1 a0 a1
      simp only [h1, h2, cond_true, cond_false] at f2
      simp [f2]
    · have q2 := h2; try simp at q2
      simp
      refine condR (c := (a0.Error != a1.Error)) (by simp) (fun k3 h3 => ?_) (fun k3 h3 => ?_)
      · have q3 := h3; try simp at q3
        simp
        refine retRd (rv := [.tmp 4]) rfl ?_
        have f3 := l_eqAuthority.eq_1 a0 a1
        simp only [h1, h2, h3, cond_true, cond_false] at f3
        simp [f3]
      · have q3 := h3; try simp at q3
        simp
        refine retRd (rv := [.tmp 4]) rfl ?_
        have f4 := l_eqAuthority.eq_1 a0 a1
        simp only [h1, h2, h3, cond_true, cond_false] at f4
        simp [f4]
theorem l_eqAuthorityS_ok (a0 : List TAuthority) (a1 : List TAuthority) : SoundAt Tryz.prog 71 false [[.sl 3 (a0.map TAuthority.row)], [.sl 3 (a1.map TAuthority.row)]] [[.bool (l_eqAuthorityS a0 a1)]] := by
  refine sound_of Tryz.func71 rfl (by kernel_rfl) ?_
  simp [Tryz.ntmps71]
  refine condR (c := ((↑a0.length : Int) != (↑a1.length : Int))) (by simp) (fun k1 h1 => ?_) (fun k1 h1 => ?_)
  · have q1 := h1; try simp at q1
    simp
    refine retRd (rv := [.tmp 4]) rfl ?_
    have f1 := l_eqAuthorityS.eq_1 a0 a1
    simp only [h1, cond_true, cond_false] at f1
    simp [f1]
  · have q1 := h1; try simp at q1
    simp
    refine okL fun k2 => ?_
    refine loopI (ι := { s : Nat × Nat // l_eqAuthorityS_1 a0 a1 s.1 s.2 = l_eqAuthorityS_1 a0 a1 (a0.length + 1) 0 ∧ (1 ≤ s.1 ∧ a0.length < s.1 + s.2 ∧ s.2 ≤ a0.length) }) (fun s => stOf 27 [(0, .one (.d (.sl 3 (a0.map TAuthority.row))), []), (1, .one (.d (.sl 3 (a1.map TAuthority.row))), []), (5, .one (.d (.int .i64 (↑s.1.2 : Int))), [])]) (fun s => s.1.1) ⟨((a0.length + 1), 0), rfl, by first | omega | (dsimp only; omega) | simp⟩ (wk_keep (by simp)) ?_
    rintro ⟨⟨n1, v1_0⟩, e1, j1⟩
    try dsimp only at e1 j1
    obtain ⟨p1, rfl⟩ : ∃ p, n1 = p + 1 := ⟨n1 - 1, by omega⟩
    simp
    refine condR (c := (decide ((↑v1_0 : Int) < (↑a0.length : Int)))) (by simp) (fun k3 h2 => ?_) (fun k3 h2 => ?_)
    · have q2 := h2; try simp at q2
      have i1 : v1_0 < a0.length := by simpa using h2
      have m2 : a0.length ≤ 9223372036854775807 := by simpa using k3 0 _ rfl
      have w1 : IntKind.i64.wrap ((v1_0 : Int) + 1) = (v1_0 : Int) + 1 := wrap_of (by omega) (by omega)
      simp
      refine okD fun k4 => ?_
      refine drawI mixed (by kernel_rfl) (by kernel_rfl) ?_
      have i2 : v1_0 < a1.length := by omega
      simp [i1, rowAt_map, i2]
      repeat ((with_reducible refine And.intro ?_ ?_); focus (intros; omega))
      refine callRd rfl rfl rfl rfl (l_eqAuthority_ok (nth a0 v1_0) (nth a1 v1_0)) (by simp) (by simp) (by simp) ?_
      simp
      refine condR (c := (!(l_eqAuthority (nth a0 v1_0) (nth a1 v1_0)))) (by simp) (fun k5 h3 => ?_) (fun k5 h3 => ?_)
      · have q3 := h3; try simp at q3
        have x1 : l_eqAuthorityS_1 a0 a1 (a0.length + 1) 0 = .inl false := by rw [← e1]; simp only [l_eqAuthorityS_1, h2, h3, cond_true, cond_false]
        simp
        refine retRd (rv := [.tmp 4]) rfl ?_
        have f2 := l_eqAuthorityS.eq_1 a0 a1
        simp only [h1, x1, cond_true, cond_false] at f2
        simp [f2]
      · have q3 := h3; try simp at q3
        simp
        refine nxtI ⟨(p1, (v1_0 + 1)), ?_, ?_⟩ (by simp) (wk_keep (by simp [w1]))
        · rw [← e1]; simp only [l_eqAuthorityS_1, h2, h3, cond_true, cond_false]
        · first | omega | (simp at *; omega)
    · have q2 := h2; try simp at q2
      have x2 : l_eqAuthorityS_1 a0 a1 (a0.length + 1) 0 = .inr () := by rw [← e1]; simp only [l_eqAuthorityS_1, h2, cond_true, cond_false]
      simp
      refine retRd (rv := [.tmp 4]) rfl ?_
      have f3 := l_eqAuthorityS.eq_1 a0 a1
      simp only [h1, x2, cond_true, cond_false] at f3
      simp [f3]
theorem l_eqMethod_ok (a0 : TMethod) (a1 : TMethod) : SoundAt Tryz.prog 105 false [a0.row, a1.row] [[.bool (l_eqMethod a0 a1)]] := by
  refine sound_of Tryz.func105 rfl (by kernel_rfl) ?_
  simp [Tryz.ntmps105]
  refine condR (c := (a0.Id != a1.Id)) (by simp) (fun k1 h1 => ?_) (fun k1 h1 => ?_)
  · have q1 := h1; try simp at q1
    simp
    refine retRd (rv := [.tmp 4]) rfl ?_
    have f1 := l_eqMethod.eq_1 a0 a1
    simp only [h1, cond_true, cond_false] at f1
    simp [f1]
  · have q1 := h1; try simp at q1
    simp
    refine condR (c := (a0.Known != a1.Known)) (by simp) (fun k2 h2 => ?_) (fun k2 h2 => ?_)
    · have q2 := h2; try simp at q2
      simp
      refine retRd (rv := [.tmp 4]) rfl ?_
      have f2 := l_eqMethod.eq_1 a0 a1
      simp only [h1, h2, cond_true, cond_false] at f2
      simp [f2]
    · have q2 := h2; try simp at q2
      simp
      refine condR (c := (a0.Ends != a1.Ends)) (by simp) (fun k3 h3 => ?_) (fun k3 h3 => ?_)
      · have q3 := h3; try simp at q3
        simp
        refine retRd (rv := [.tmp 4]) rfl ?_
        have f3 := l_eqMethod.eq_1 a0 a1
        simp only [h1, h2, h3, cond_true, cond_false] at f3
        simp [f3]
      · have q3 := h3; try simp at q3
        simp
        refine condR (c := (a0.Broken != a1.Broken)) (by simp) (fun k4 h4 => ?_) (fun k4 h4 => ?_)
        · have q4 := h4; try simp at q4
          simp
          refine retRd (rv := [.tmp 4]) rfl ?_
          have f4 := l_eqMethod.eq_1 a0 a1
          simp only [h1, h2, h3, h4, cond_true, cond_false] at f4
          simp [f4]
        · have q4 := h4; try simp at q4
          simp
          refine retRd (rv := [.tmp 4]) rfl ?_
          have f5 := l_eqMethod.eq_1 a0 a1
          simp only [h1, h2, h3, h4, cond_true, cond_false] at f5
          simp [f5]
theorem l_eqMethodS_ok (a0 : List TMethod) (a1 : List TMethod) : SoundAt Tryz.prog 72 false [[.sl 4 (a0.map TMethod.row)], [.sl 4 (a1.map TMethod.row)]] [[.bool (l_eqMethodS a0 a1)]] := by
  refine sound_of Tryz.func72 rfl (by kernel_rfl) ?_
  simp [Tryz.ntmps72]
  refine condR (c := ((↑a0.length : Int) != (↑a1.length : Int))) (by simp) (fun k1 h1 => ?_) (fun k1 h1 => ?_)
  · have q1 := h1; try simp at q1
    simp
    refine retRd (rv := [.tmp 4]) rfl ?_
    have f1 := l_eqMethodS.eq_1 a0 a1
    simp only [h1, cond_true, cond_false] at f1
    simp [f1]
  · have q1 := h1; try simp at q1
    simp
    refine okL fun k2 => ?_
    refine loopI (ι := { s : Nat × Nat // l_eqMethodS_1 a0 a1 s.1 s.2 = l_eqMethodS_1 a0 a1 (a0.length + 1) 0 ∧ (1 ≤ s.1 ∧ a0.length < s.1 + s.2 ∧ s.2 ≤ a0.length) }) (fun s => stOf 27 [(0, .one (.d (.sl 4 (a0.map TMethod.row))), []), (1, .one (.d (.sl 4 (a1.map TMethod.row))), []), (5, .one (.d (.int .i64 (↑s.1.2 : Int))), [])]) (fun s => s.1.1) ⟨((a0.length + 1), 0), rfl, by first | omega | (dsimp only; omega) | simp⟩ (wk_keep (by simp)) ?_
    rintro ⟨⟨n1, v1_0⟩, e1, j1⟩
    try dsimp only at e1 j1
    obtain ⟨p1, rfl⟩ : ∃ p, n1 = p + 1 := ⟨n1 - 1, by omega⟩
    simp
    refine condR (c := (decide ((↑v1_0 : Int) < (↑a0.length : Int)))) (by simp) (fun k3 h2 => ?_) (fun k3 h2 => ?_)
    · have q2 := h2; try simp at q2
      have i1 : v1_0 < a0.length := by simpa using h2
      have m2 : a0.length ≤ 9223372036854775807 := by simpa using k3 0 _ rfl
      have w1 : IntKind.i64.wrap ((v1_0 : Int) + 1) = (v1_0 : Int) + 1 := wrap_of (by omega) (by omega)
      simp
      refine okD fun k4 => ?_
      refine drawI mixed (by kernel_rfl) (by kernel_rfl) ?_
      have i2 : v1_0 < a1.length := by omega
      simp [i1, rowAt_map, i2]
      repeat ((with_reducible refine And.intro ?_ ?_); focus (intros; omega))
      refine callRd rfl rfl rfl rfl (l_eqMethod_ok (nth a0 v1_0) (nth a1 v1_0)) (by simp) (by simp) (by simp) ?_
      simp
      refine condR (c := (!(l_eqMethod (nth a0 v1_0) (nth a1 v1_0)))) (by simp) (fun k5 h3 => ?_) (fun k5 h3 => ?_)
      · have q3 := h3; try simp at q3
        have x1 : l_eqMethodS_1 a0 a1 (a0.length + 1) 0 = .inl false := by rw [← e1]; simp only [l_eqMethodS_1, h2, h3, cond_true, cond_false]
        simp
        refine retRd (rv := [.tmp 4]) rfl ?_
        have f2 := l_eqMethodS.eq_1 a0 a1
        simp only [h1, x1, cond_true, cond_false] at f2
        simp [f2]
      · have q3 := h3; try simp at q3
        simp
        refine nxtI ⟨(p1, (v1_0 + 1)), ?_, ?_⟩ (by simp) (wk_keep (by simp [w1]))
        · rw [← e1]; simp only [l_eqMethodS_1, h2, h3, cond_true, cond_false]
        · first | omega | (simp at *; omega)
    · have q2 := h2; try simp at q2
      have x2 : l_eqMethodS_1 a0 a1 (a0.length + 1) 0 = .inr () := by rw [← e1]; simp only [l_eqMethodS_1, h2, cond_true, cond_false]
      simp
      refine retRd (rv := [.tmp 4]) rfl ?_
      have f3 := l_eqMethodS.eq_1 a0 a1
      simp only [h1, x2, cond_true, cond_false] at f3
      simp [f3]
theorem l_eqFrame_ok (a0 : TFrame) (a1 : TFrame) : SoundAt Tryz.prog 32 false [a0.row, a1.row] [[.bool (l_eqFrame a0 a1)]] := by
  refine sound_of Tryz.func32 rfl (by kernel_rfl) ?_
  simp [Tryz.ntmps32]
  refine callRd rfl rfl rfl rfl (l_eqKeyS_ok a0.Keys a1.Keys) (by simp) (by simp) (by simp) ?_
  simp
  refine condR (c := (!(l_eqKeyS a0.Keys a1.Keys))) (by simp) (fun k1 h1 => ?_) (fun k1 h1 => ?_)
  · have q1 := h1; try simp at q1
    simp
    refine retRd (rv := [.tmp 4]) rfl ?_
    have f1 := l_eqFrame.eq_1 a0 a1
    simp only [h1, cond_true, cond_false] at f1
    simp [f1]
  · have q1 := h1; try simp at q1
    simp
    refine callRd rfl rfl rfl rfl (l_eqAuthorityS_ok a0.Authorities a1.Authorities) (by simp) (by simp) (by simp) ?_
    simp
    refine condR (c := (!(l_eqAuthorityS a0.Authorities a1.Authorities))) (by simp) (fun k2 h2 => ?_) (fun k2 h2 => ?_)
    · have q2 := h2; try simp at q2
      simp
      refine retRd (rv := [.tmp 4]) rfl ?_
      have f2 := l_eqFrame.eq_1 a0 a1
      simp only [h1, h2, cond_true, cond_false] at f2
      simp [f2]
    · have q2 := h2; try simp at q2
      simp
      refine callRd rfl rfl rfl rfl (l_eqMethodS_ok a0.Methods a1.Methods) (by simp) (by simp) (by simp) ?_
      simp
      refine condR (c := (!(l_eqMethodS a0.Methods a1.Methods))) (by simp) (fun k3 h3 => ?_) (fun k3 h3 => ?_)
      · have q3 := h3; try simp at q3
        simp
        refine retRd (rv := [.tmp 4]) rfl ?_
        have f3 := l_eqFrame.eq_1 a0 a1
        simp only [h1, h2, h3, cond_true, cond_false] at f3
        simp [f3]
      · have q3 := h3; try simp at q3
        simp
        refine condR (c := (a0.Liars != a1.Liars)) (by simp) (fun k4 h4 => ?_) (fun k4 h4 => ?_)
        · have q4 := h4; try simp at q4
          simp
          refine retRd (rv := [.tmp 4]) rfl ?_
          have f4 := l_eqFrame.eq_1 a0 a1
          simp only [h1, h2, h3, h4, cond_true, cond_false] at f4
          simp [f4]
        · have q4 := h4; try simp at q4
          simp
          refine condR (c := (a0.Now != a1.Now)) (by simp) (fun k5 h5 => ?_) (fun k5 h5 => ?_)
          · have q5 := h5; try simp at q5
            simp
            refine retRd (rv := [.tmp 4]) rfl ?_
            have f5 := l_eqFrame.eq_1 a0 a1
            simp only [h1, h2, h3, h4, h5, cond_true, cond_false] at f5
            simp [f5]
          · have q5 := h5; try simp at q5
            simp
            refine retRd (rv := [.tmp 4]) rfl ?_
            have f6 := l_eqFrame.eq_1 a0 a1
            simp only [h1, h2, h3, h4, h5, cond_true, cond_false] at f6
            simp [f6]
theorem l_eqCert_ok (a0 : TCert) (a1 : TCert) : SoundAt Tryz.prog 73 false [a0.row, a1.row] [[.bool (l_eqCert a0 a1)]] := by
  refine sound_of Tryz.func73 rfl (by kernel_rfl) ?_
  simp [Tryz.ntmps73]
  refine condR (c := (a0.Serial != a1.Serial)) (by simp) (fun k1 h1 => ?_) (fun k1 h1 => ?_)
  · have q1 := h1; try simp at q1
    simp
    refine retRd (rv := [.tmp 4]) rfl ?_
    have f1 := l_eqCert.eq_1 a0 a1
    simp only [h1, cond_true, cond_false] at f1
    simp [f1]
  · have q1 := h1; try simp at q1
    simp
    refine condR (c := (a0.Key != a1.Key)) (by simp) (fun k2 h2 => ?_) (fun k2 h2 => ?_)
    · have q2 := h2; try simp at q2
      simp
      refine retRd (rv := [.tmp 4]) rfl ?_
      have f2 := l_eqCert.eq_1 a0 a1
      simp only [h1, h2, cond_true, cond_false] at f2
      simp [f2]
    · have q2 := h2; try simp at q2
      simp
      refine condR (c := (a0.Owner != a1.Owner)) (by simp) (fun k3 h3 => ?_) (fun k3 h3 => ?_)
      · have q3 := h3; try simp at q3
        simp
        refine retRd (rv := [.tmp 4]) rfl ?_
        have f3 := l_eqCert.eq_1 a0 a1
        simp only [h1, h2, h3, cond_true, cond_false] at f3
        simp [f3]
      · have q3 := h3; try simp at q3
        simp
        refine condR (c := (a0.From != a1.From)) (by simp) (fun k4 h4 => ?_) (fun k4 h4 => ?_)
        · have q4 := h4; try simp at q4
          simp
          refine retRd (rv := [.tmp 4]) rfl ?_
          have f4 := l_eqCert.eq_1 a0 a1
          simp only [h1, h2, h3, h4, cond_true, cond_false] at f4
          simp [f4]
        · have q4 := h4; try simp at q4
          simp
          refine condR (c := (a0.To != a1.To)) (by simp) (fun k5 h5 => ?_) (fun k5 h5 => ?_)
          · have q5 := h5; try simp at q5
            simp
            refine retRd (rv := [.tmp 4]) rfl ?_
            have f5 := l_eqCert.eq_1 a0 a1
            simp only [h1, h2, h3, h4, h5, cond_true, cond_false] at f5
            simp [f5]
          · have q5 := h5; try simp at q5
            simp
            refine condR (c := (a0.Issuer != a1.Issuer)) (by simp) (fun k6 h6 => ?_) (fun k6 h6 => ?_)
            · have q6 := h6; try simp at q6
              simp
              refine retRd (rv := [.tmp 4]) rfl ?_
              have f6 := l_eqCert.eq_1 a0 a1
              simp only [h1, h2, h3, h4, h5, h6, cond_true, cond_false] at f6
              simp [f6]
            · have q6 := h6; try simp at q6
              simp
              refine condR (c := (a0.Mark != a1.Mark)) (by simp) (fun k7 h7 => ?_) (fun k7 h7 => ?_)
              · have q7 := h7; try simp at q7
                simp
                refine retRd (rv := [.tmp 4]) rfl ?_
                have f7 := l_eqCert.eq_1 a0 a1
                simp only [h1, h2, h3, h4, h5, h6, h7, cond_true, cond_false] at f7
                simp [f7]
              · have q7 := h7; try simp at q7
                simp
                refine retRd (rv := [.tmp 4]) rfl ?_
                have f8 := l_eqCert.eq_1 a0 a1
                simp only [h1, h2, h3, h4, h5, h6, h7, cond_true, cond_false] at f8
                simp [f8]
theorem l_eqCertS_ok (a0 : List TCert) (a1 : List TCert) : SoundAt Tryz.prog 33 false [[.sl 7 (a0.map TCert.row)], [.sl 7 (a1.map TCert.row)]] [[.bool (l_eqCertS a0 a1)]] := by
  refine sound_of Tryz.func33 rfl (by kernel_rfl) ?_
  simp [Tryz.ntmps33]
  refine condR (c := ((↑a0.length : Int) != (↑a1.length : Int))) (by simp) (fun k1 h1 => ?_) (fun k1 h1 => ?_)
  · have q1 := h1; try simp at q1
    simp
    refine retRd (rv := [.tmp 4]) rfl ?_
    have f1 := l_eqCertS.eq_1 a0 a1
    simp only [h1, cond_true, cond_false] at f1
    simp [f1]
  · have q1 := h1; try simp at q1
    simp
    refine okL fun k2 => ?_
    refine loopI (ι := { s : Nat × Nat // l_eqCertS_1 a0 a1 s.1 s.2 = l_eqCertS_1 a0 a1 (a0.length + 1) 0 ∧ (1 ≤ s.1 ∧ a0.length < s.1 + s.2 ∧ s.2 ≤ a0.length) }) (fun s => stOf 27 [(0, .one (.d (.sl 7 (a0.map TCert.row))), []), (1, .one (.d (.sl 7 (a1.map TCert.row))), []), (5, .one (.d (.int .i64 (↑s.1.2 : Int))), [])]) (fun s => s.1.1) ⟨((a0.length + 1), 0), rfl, by first | omega | (dsimp only; omega) | simp⟩ (wk_keep (by simp)) ?_
    rintro ⟨⟨n1, v1_0⟩, e1, j1⟩
    try dsimp only at e1 j1
    obtain ⟨p1, rfl⟩ : ∃ p, n1 = p + 1 := ⟨n1 - 1, by omega⟩
    simp
    refine condR (c := (decide ((↑v1_0 : Int) < (↑a0.length : Int)))) (by simp) (fun k3 h2 => ?_) (fun k3 h2 => ?_)
    · have q2 := h2; try simp at q2
      have i1 : v1_0 < a0.length := by simpa using h2
      have m2 : a0.length ≤ 9223372036854775807 := by simpa using k3 0 _ rfl
      have w1 : IntKind.i64.wrap ((v1_0 : Int) + 1) = (v1_0 : Int) + 1 := wrap_of (by omega) (by omega)
      simp
      refine okD fun k4 => ?_
      refine drawI mixed (by kernel_rfl) (by kernel_rfl) ?_
      have i2 : v1_0 < a1.length := by omega
      simp [i1, rowAt_map, i2]
      repeat ((with_reducible refine And.intro ?_ ?_); focus (intros; omega))
      refine callRd rfl rfl rfl rfl (l_eqCert_ok (nth a0 v1_0) (nth a1 v1_0)) (by simp) (by simp) (by simp) ?_
      simp
      refine condR (c := (!(l_eqCert (nth a0 v1_0) (nth a1 v1_0)))) (by simp) (fun k5 h3 => ?_) (fun k5 h3 => ?_)
      · have q3 := h3; try simp at q3
        have x1 : l_eqCertS_1 a0 a1 (a0.length + 1) 0 = .inl false := by rw [← e1]; simp only [l_eqCertS_1, h2, h3, cond_true, cond_false]
        simp
        refine retRd (rv := [.tmp 4]) rfl ?_
        have f2 := l_eqCertS.eq_1 a0 a1
        simp only [h1, x1, cond_true, cond_false] at f2
        simp [f2]
      · have q3 := h3; try simp at q3
        simp
        refine nxtI ⟨(p1, (v1_0 + 1)), ?_, ?_⟩ (by simp) (wk_keep (by simp [w1]))
        · rw [← e1]; simp only [l_eqCertS_1, h2, h3, cond_true, cond_false]
        · first | omega | (simp at *; omega)
    · have q2 := h2; try simp at q2
      have x2 : l_eqCertS_1 a0 a1 (a0.length + 1) 0 = .inr () := by rw [← e1]; simp only [l_eqCertS_1, h2, cond_true, cond_false]
      simp
      refine retRd (rv := [.tmp 4]) rfl ?_
      have f3 := l_eqCertS.eq_1 a0 a1
      simp only [h1, x2, cond_true, cond_false] at f3
      simp [f3]
theorem l_eqIntS_ok (a0 : List Int) (a1 : List Int) : SoundAt Tryz.prog 34 false [[.sl 1 (a0.map iR)], [.sl 1 (a1.map iR)]] [[.bool (l_eqIntS a0 a1)]] := by
  refine sound_of Tryz.func34 rfl (by kernel_rfl) ?_
  simp [Tryz.ntmps34]
  refine condR (c := ((↑a0.length : Int) != (↑a1.length : Int))) (by simp) (fun k1 h1 => ?_) (fun k1 h1 => ?_)
  · have q1 := h1; try simp at q1
    simp
    refine retRd (rv := [.tmp 4]) rfl ?_
    have f1 := l_eqIntS.eq_1 a0 a1
    simp only [h1, cond_true, cond_false] at f1
    simp [f1]
  · have q1 := h1; try simp at q1
    simp
    refine okL fun k2 => ?_
    refine loopI (ι := { s : Nat × Nat // l_eqIntS_1 a0 a1 s.1 s.2 = l_eqIntS_1 a0 a1 (a0.length + 1) 0 ∧ (1 ≤ s.1 ∧ a0.length < s.1 + s.2 ∧ s.2 ≤ a0.length) }) (fun s => stOf 26 [(0, .one (.d (.sl 1 (a0.map iR))), []), (1, .one (.d (.sl 1 (a1.map iR))), []), (5, .one (.d (.int .i64 (↑s.1.2 : Int))), [])]) (fun s => s.1.1) ⟨((a0.length + 1), 0), rfl, by first | omega | (dsimp only; omega) | simp⟩ (wk_keep (by simp)) ?_
    rintro ⟨⟨n1, v1_0⟩, e1, j1⟩
    try dsimp only at e1 j1
    obtain ⟨p1, rfl⟩ : ∃ p, n1 = p + 1 := ⟨n1 - 1, by omega⟩
    simp
    refine condR (c := (decide ((↑v1_0 : Int) < (↑a0.length : Int)))) (by simp) (fun k3 h2 => ?_) (fun k3 h2 => ?_)
    · have q2 := h2; try simp at q2
      have i1 : v1_0 < a0.length := by simpa using h2
      have m2 : a0.length ≤ 9223372036854775807 := by simpa using k3 0 _ rfl
      have w1 : IntKind.i64.wrap ((v1_0 : Int) + 1) = (v1_0 : Int) + 1 := wrap_of (by omega) (by omega)
      simp
      refine okD fun k4 => ?_
      refine drawI mixed (by kernel_rfl) (by kernel_rfl) ?_
      have i2 : v1_0 < a1.length := by omega
      simp [i1, rowAt_map, i2]
      repeat ((with_reducible refine And.intro ?_ ?_); focus (intros; omega))
      refine condR (c := ((nth a0 v1_0) != (nth a1 v1_0))) (by simp) (fun k5 h3 => ?_) (fun k5 h3 => ?_)
      · have q3 := h3; try simp at q3
        have x1 : l_eqIntS_1 a0 a1 (a0.length + 1) 0 = .inl false := by rw [← e1]; simp only [l_eqIntS_1, h2, h3, cond_true, cond_false]
        simp
        refine retRd (rv := [.tmp 4]) rfl ?_
        have f2 := l_eqIntS.eq_1 a0 a1
        simp only [h1, x1, cond_true, cond_false] at f2
        simp [f2]
      · have q3 := h3; try simp at q3
        simp
        refine nxtI ⟨(p1, (v1_0 + 1)), ?_, ?_⟩ (by simp) (wk_keep (by simp [w1]))
        · rw [← e1]; simp only [l_eqIntS_1, h2, h3, cond_true, cond_false]
        · first | omega | (simp at *; omega)
    · have q2 := h2; try simp at q2
      have x2 : l_eqIntS_1 a0 a1 (a0.length + 1) 0 = .inr () := by rw [← e1]; simp only [l_eqIntS_1, h2, cond_true, cond_false]
      simp
      refine retRd (rv := [.tmp 4]) rfl ?_
      have f3 := l_eqIntS.eq_1 a0 a1
      simp only [h1, x2, cond_true, cond_false] at f3
      simp [f3]
theorem l_eqStringS_ok (a0 : List ByteArray) (a1 : List ByteArray) : SoundAt Tryz.prog 182 false [[.sl 1 (a0.map sR)], [.sl 1 (a1.map sR)]] [[.bool (l_eqStringS a0 a1)]] := by
  refine sound_of Tryz.func182 rfl (by kernel_rfl) ?_
  simp [Tryz.ntmps182]
  refine condR (c := ((↑a0.length : Int) != (↑a1.length : Int))) (by simp) (fun k1 h1 => ?_) (fun k1 h1 => ?_)
  · have q1 := h1; try simp at q1
    simp
    refine retRd (rv := [.tmp 4]) rfl ?_
    have f1 := l_eqStringS.eq_1 a0 a1
    simp only [h1, cond_true, cond_false] at f1
    simp [f1]
  · have q1 := h1; try simp at q1
    simp
    refine okL fun k2 => ?_
    refine loopI (ι := { s : Nat × Nat // l_eqStringS_1 a0 a1 s.1 s.2 = l_eqStringS_1 a0 a1 (a0.length + 1) 0 ∧ (1 ≤ s.1 ∧ a0.length < s.1 + s.2 ∧ s.2 ≤ a0.length) }) (fun s => stOf 26 [(0, .one (.d (.sl 1 (a0.map sR))), []), (1, .one (.d (.sl 1 (a1.map sR))), []), (5, .one (.d (.int .i64 (↑s.1.2 : Int))), [])]) (fun s => s.1.1) ⟨((a0.length + 1), 0), rfl, by first | omega | (dsimp only; omega) | simp⟩ (wk_keep (by simp)) ?_
    rintro ⟨⟨n1, v1_0⟩, e1, j1⟩
    try dsimp only at e1 j1
    obtain ⟨p1, rfl⟩ : ∃ p, n1 = p + 1 := ⟨n1 - 1, by omega⟩
    simp
    refine condR (c := (decide ((↑v1_0 : Int) < (↑a0.length : Int)))) (by simp) (fun k3 h2 => ?_) (fun k3 h2 => ?_)
    · have q2 := h2; try simp at q2
      have i1 : v1_0 < a0.length := by simpa using h2
      have m2 : a0.length ≤ 9223372036854775807 := by simpa using k3 0 _ rfl
      have w1 : IntKind.i64.wrap ((v1_0 : Int) + 1) = (v1_0 : Int) + 1 := wrap_of (by omega) (by omega)
      simp
      refine okD fun k4 => ?_
      refine drawI mixed (by kernel_rfl) (by kernel_rfl) ?_
      have i2 : v1_0 < a1.length := by omega
      simp [i1, rowAt_map, i2]
      repeat ((with_reducible refine And.intro ?_ ?_); focus (intros; omega))
      refine condR (c := (!decide ((nth a0 v1_0) = (nth a1 v1_0)))) (by simp) (fun k5 h3 => ?_) (fun k5 h3 => ?_)
      · have q3 := h3; try simp at q3
        have x1 : l_eqStringS_1 a0 a1 (a0.length + 1) 0 = .inl false := by rw [← e1]; simp only [l_eqStringS_1, h2, h3, cond_true, cond_false]
        simp
        refine retRd (rv := [.tmp 4]) rfl ?_
        have f2 := l_eqStringS.eq_1 a0 a1
        simp only [h1, x1, cond_true, cond_false] at f2
        simp [f2]
      · have q3 := h3; try simp at q3
        simp
        refine nxtI ⟨(p1, (v1_0 + 1)), ?_, ?_⟩ (by simp) (wk_keep (by simp [w1]))
        · rw [← e1]; simp only [l_eqStringS_1, h2, h3, cond_true, cond_false]
        · first | omega | (simp at *; omega)
    · have q2 := h2; try simp at q2
      have x2 : l_eqStringS_1 a0 a1 (a0.length + 1) 0 = .inr () := by rw [← e1]; simp only [l_eqStringS_1, h2, cond_true, cond_false]
      simp
      refine retRd (rv := [.tmp 4]) rfl ?_
      have f3 := l_eqStringS.eq_1 a0 a1
      simp only [h1, x2, cond_true, cond_false] at f3
      simp [f3]
theorem l_eqDocument_ok (a0 : TDocument) (a1 : TDocument) : SoundAt Tryz.prog 157 false [a0.row, a1.row] [[.bool (l_eqDocument a0 a1)]] := by
  refine sound_of Tryz.func157 rfl (by kernel_rfl) ?_
  simp [Tryz.ntmps157]
  refine condR (c := (a0.Title != a1.Title)) (by simp) (fun k1 h1 => ?_) (fun k1 h1 => ?_)
  · have q1 := h1; try simp at q1
    simp
    refine retRd (rv := [.tmp 4]) rfl ?_
    have f1 := l_eqDocument.eq_1 a0 a1
    simp only [h1, cond_true, cond_false] at f1
    simp [f1]
  · have q1 := h1; try simp at q1
    simp
    refine callRd rfl rfl rfl rfl (l_eqStringS_ok a0.Parts a1.Parts) (by simp) (by simp) (by simp) ?_
    simp
    refine condR (c := (!(l_eqStringS a0.Parts a1.Parts))) (by simp) (fun k2 h2 => ?_) (fun k2 h2 => ?_)
    · have q2 := h2; try simp at q2
      simp
      refine retRd (rv := [.tmp 4]) rfl ?_
      have f2 := l_eqDocument.eq_1 a0 a1
      simp only [h1, h2, cond_true, cond_false] at f2
      simp [f2]
    · have q2 := h2; try simp at q2
      simp
      refine callRd rfl rfl rfl rfl (l_eqIntS_ok a0.Salts a1.Salts) (by simp) (by simp) (by simp) ?_
      simp
      refine condR (c := (!(l_eqIntS a0.Salts a1.Salts))) (by simp) (fun k3 h3 => ?_) (fun k3 h3 => ?_)
      · have q3 := h3; try simp at q3
        simp
        refine retRd (rv := [.tmp 4]) rfl ?_
        have f3 := l_eqDocument.eq_1 a0 a1
        simp only [h1, h2, h3, cond_true, cond_false] at f3
        simp [f3]
      · have q3 := h3; try simp at q3
        simp
        refine retRd (rv := [.tmp 4]) rfl ?_
        have f4 := l_eqDocument.eq_1 a0 a1
        simp only [h1, h2, h3, cond_true, cond_false] at f4
        simp [f4]
theorem l_eqSignature_ok (a0 : TSignature) (a1 : TSignature) : SoundAt Tryz.prog 158 false [a0.row, a1.row] [[.bool (l_eqSignature a0 a1)]] := by
  refine sound_of Tryz.func158 rfl (by kernel_rfl) ?_
  simp [Tryz.ntmps158]
  refine condR (c := (a0.Key != a1.Key)) (by simp) (fun k1 h1 => ?_) (fun k1 h1 => ?_)
  · have q1 := h1; try simp at q1
    simp
    refine retRd (rv := [.tmp 4]) rfl ?_
    have f1 := l_eqSignature.eq_1 a0 a1
    simp only [h1, cond_true, cond_false] at f1
    simp [f1]
  · have q1 := h1; try simp at q1
    simp
    refine condR (c := (a0.Serial != a1.Serial)) (by simp) (fun k2 h2 => ?_) (fun k2 h2 => ?_)
    · have q2 := h2; try simp at q2
      simp
      refine retRd (rv := [.tmp 4]) rfl ?_
      have f2 := l_eqSignature.eq_1 a0 a1
      simp only [h1, h2, cond_true, cond_false] at f2
      simp [f2]
    · have q2 := h2; try simp at q2
      simp
      refine condR (c := (a0.Method != a1.Method)) (by simp) (fun k3 h3 => ?_) (fun k3 h3 => ?_)
      · have q3 := h3; try simp at q3
        simp
        refine retRd (rv := [.tmp 4]) rfl ?_
        have f3 := l_eqSignature.eq_1 a0 a1
        simp only [h1, h2, h3, cond_true, cond_false] at f3
        simp [f3]
      · have q3 := h3; try simp at q3
        simp
        refine condR (c := (a0.Digest != a1.Digest)) (by simp) (fun k4 h4 => ?_) (fun k4 h4 => ?_)
        · have q4 := h4; try simp at q4
          simp
          refine retRd (rv := [.tmp 4]) rfl ?_
          have f4 := l_eqSignature.eq_1 a0 a1
          simp only [h1, h2, h3, h4, cond_true, cond_false] at f4
          simp [f4]
        · have q4 := h4; try simp at q4
          simp
          refine condR (c := (a0.Commit != a1.Commit)) (by simp) (fun k5 h5 => ?_) (fun k5 h5 => ?_)
          · have q5 := h5; try simp at q5
            simp
            refine retRd (rv := [.tmp 4]) rfl ?_
            have f5 := l_eqSignature.eq_1 a0 a1
            simp only [h1, h2, h3, h4, h5, cond_true, cond_false] at f5
            simp [f5]
          · have q5 := h5; try simp at q5
            simp
            refine condR (c := (a0.Org != a1.Org)) (by simp) (fun k6 h6 => ?_) (fun k6 h6 => ?_)
            · have q6 := h6; try simp at q6
              simp
              refine retRd (rv := [.tmp 4]) rfl ?_
              have f6 := l_eqSignature.eq_1 a0 a1
              simp only [h1, h2, h3, h4, h5, h6, cond_true, cond_false] at f6
              simp [f6]
            · have q6 := h6; try simp at q6
              simp
              refine condR (c := (a0.Before != a1.Before)) (by simp) (fun k7 h7 => ?_) (fun k7 h7 => ?_)
              · have q7 := h7; try simp at q7
                simp
                refine retRd (rv := [.tmp 4]) rfl ?_
                have f7 := l_eqSignature.eq_1 a0 a1
                simp only [h1, h2, h3, h4, h5, h6, h7, cond_true, cond_false] at f7
                simp [f7]
              · have q7 := h7; try simp at q7
                simp
                refine condR (c := (a0.After != a1.After)) (by simp) (fun k8 h8 => ?_) (fun k8 h8 => ?_)
                · have q8 := h8; try simp at q8
                  simp
                  refine retRd (rv := [.tmp 4]) rfl ?_
                  have f8 := l_eqSignature.eq_1 a0 a1
                  simp only [h1, h2, h3, h4, h5, h6, h7, h8, cond_true, cond_false] at f8
                  simp [f8]
                · have q8 := h8; try simp at q8
                  simp
                  refine condR (c := (a0.Mark != a1.Mark)) (by simp) (fun k9 h9 => ?_) (fun k9 h9 => ?_)
                  · have q9 := h9; try simp at q9
                    simp
                    refine retRd (rv := [.tmp 4]) rfl ?_
                    have f9 := l_eqSignature.eq_1 a0 a1
                    simp only [h1, h2, h3, h4, h5, h6, h7, h8, h9, cond_true, cond_false] at f9
                    simp [f9]
                  · have q9 := h9; try simp at q9
                    simp
                    refine retRd (rv := [.tmp 4]) rfl ?_
                    have f10 := l_eqSignature.eq_1 a0 a1
                    simp only [h1, h2, h3, h4, h5, h6, h7, h8, h9, cond_true, cond_false] at f10
                    simp [f10]
theorem l_eqPiece_ok (a0 : TPiece) (a1 : TPiece) : SoundAt Tryz.prog 202 false [a0.row, a1.row] [[.bool (l_eqPiece a0 a1)]] := by
  refine sound_of Tryz.func202 rfl (by kernel_rfl) ?_
  simp [Tryz.ntmps202]
  refine condR (c := (a0.Key != a1.Key)) (by simp) (fun k1 h1 => ?_) (fun k1 h1 => ?_)
  · have q1 := h1; try simp at q1
    simp
    refine retRd (rv := [.tmp 4]) rfl ?_
    have f1 := l_eqPiece.eq_1 a0 a1
    simp only [h1, cond_true, cond_false] at f1
    simp [f1]
  · have q1 := h1; try simp at q1
    simp
    refine callRd rfl rfl rfl rfl (l_eqIntS_ok a0.Ints a1.Ints) (by simp) (by simp) (by simp) ?_
    simp
    refine condR (c := (!(l_eqIntS a0.Ints a1.Ints))) (by simp) (fun k2 h2 => ?_) (fun k2 h2 => ?_)
    · have q2 := h2; try simp at q2
      simp
      refine retRd (rv := [.tmp 4]) rfl ?_
      have f2 := l_eqPiece.eq_1 a0 a1
      simp only [h1, h2, cond_true, cond_false] at f2
      simp [f2]
    · have q2 := h2; try simp at q2
      simp
      refine condR (c := (a0.Mark != a1.Mark)) (by simp) (fun k3 h3 => ?_) (fun k3 h3 => ?_)
      · have q3 := h3; try simp at q3
        simp
        refine retRd (rv := [.tmp 4]) rfl ?_
        have f3 := l_eqPiece.eq_1 a0 a1
        simp only [h1, h2, h3, cond_true, cond_false] at f3
        simp [f3]
      · have q3 := h3; try simp at q3
        simp
        refine retRd (rv := [.tmp 4]) rfl ?_
        have f4 := l_eqPiece.eq_1 a0 a1
        simp only [h1, h2, h3, cond_true, cond_false] at f4
        simp [f4]
theorem l_eqPieceS_ok (a0 : List TPiece) (a1 : List TPiece) : SoundAt Tryz.prog 183 false [[.sl 3 (a0.map TPiece.row)], [.sl 3 (a1.map TPiece.row)]] [[.bool (l_eqPieceS a0 a1)]] := by
  refine sound_of Tryz.func183 rfl (by kernel_rfl) ?_
  simp [Tryz.ntmps183]
  refine condR (c := ((↑a0.length : Int) != (↑a1.length : Int))) (by simp) (fun k1 h1 => ?_) (fun k1 h1 => ?_)
  · have q1 := h1; try simp at q1
    simp
    refine retRd (rv := [.tmp 4]) rfl ?_
    have f1 := l_eqPieceS.eq_1 a0 a1
    simp only [h1, cond_true, cond_false] at f1
    simp [f1]
  · have q1 := h1; try simp at q1
    simp
    refine okL fun k2 => ?_
    refine loopI (ι := { s : Nat × Nat // l_eqPieceS_1 a0 a1 s.1 s.2 = l_eqPieceS_1 a0 a1 (a0.length + 1) 0 ∧ (1 ≤ s.1 ∧ a0.length < s.1 + s.2 ∧ s.2 ≤ a0.length) }) (fun s => stOf 27 [(0, .one (.d (.sl 3 (a0.map TPiece.row))), []), (1, .one (.d (.sl 3 (a1.map TPiece.row))), []), (5, .one (.d (.int .i64 (↑s.1.2 : Int))), [])]) (fun s => s.1.1) ⟨((a0.length + 1), 0), rfl, by first | omega | (dsimp only; omega) | simp⟩ (wk_keep (by simp)) ?_
    rintro ⟨⟨n1, v1_0⟩, e1, j1⟩
    try dsimp only at e1 j1
    obtain ⟨p1, rfl⟩ : ∃ p, n1 = p + 1 := ⟨n1 - 1, by omega⟩
    simp
    refine condR (c := (decide ((↑v1_0 : Int) < (↑a0.length : Int)))) (by simp) (fun k3 h2 => ?_) (fun k3 h2 => ?_)
    · have q2 := h2; try simp at q2
      have i1 : v1_0 < a0.length := by simpa using h2
      have m2 : a0.length ≤ 9223372036854775807 := by simpa using k3 0 _ rfl
      have w1 : IntKind.i64.wrap ((v1_0 : Int) + 1) = (v1_0 : Int) + 1 := wrap_of (by omega) (by omega)
      simp
      refine okD fun k4 => ?_
      refine drawI mixed (by kernel_rfl) (by kernel_rfl) ?_
      have i2 : v1_0 < a1.length := by omega
      simp [i1, rowAt_map, i2]
      repeat ((with_reducible refine And.intro ?_ ?_); focus (intros; omega))
      refine callRd rfl rfl rfl rfl (l_eqPiece_ok (nth a0 v1_0) (nth a1 v1_0)) (by simp) (by simp) (by simp) ?_
      simp
      refine condR (c := (!(l_eqPiece (nth a0 v1_0) (nth a1 v1_0)))) (by simp) (fun k5 h3 => ?_) (fun k5 h3 => ?_)
      · have q3 := h3; try simp at q3
        have x1 : l_eqPieceS_1 a0 a1 (a0.length + 1) 0 = .inl false := by rw [← e1]; simp only [l_eqPieceS_1, h2, h3, cond_true, cond_false]
        simp
        refine retRd (rv := [.tmp 4]) rfl ?_
        have f2 := l_eqPieceS.eq_1 a0 a1
        simp only [h1, x1, cond_true, cond_false] at f2
        simp [f2]
      · have q3 := h3; try simp at q3
        simp
        refine nxtI ⟨(p1, (v1_0 + 1)), ?_, ?_⟩ (by simp) (wk_keep (by simp [w1]))
        · rw [← e1]; simp only [l_eqPieceS_1, h2, h3, cond_true, cond_false]
        · first | omega | (simp at *; omega)
    · have q2 := h2; try simp at q2
      have x2 : l_eqPieceS_1 a0 a1 (a0.length + 1) 0 = .inr () := by rw [← e1]; simp only [l_eqPieceS_1, h2, cond_true, cond_false]
      simp
      refine retRd (rv := [.tmp 4]) rfl ?_
      have f3 := l_eqPieceS.eq_1 a0 a1
      simp only [h1, x2, cond_true, cond_false] at f3
      simp [f3]
theorem l_eqStep_ok (a0 : TStep) (a1 : TStep) : SoundAt Tryz.prog 217 false [a0.row, a1.row] [[.bool (l_eqStep a0 a1)]] := by
  refine sound_of Tryz.func217 rfl (by kernel_rfl) ?_
  simp [Tryz.ntmps217]
  refine condR (c := (a0.Digest != a1.Digest)) (by simp) (fun k1 h1 => ?_) (fun k1 h1 => ?_)
  · have q1 := h1; try simp at q1
    simp
    refine retRd (rv := [.tmp 4]) rfl ?_
    have f1 := l_eqStep.eq_1 a0 a1
    simp only [h1, cond_true, cond_false] at f1
    simp [f1]
  · have q1 := h1; try simp at q1
    simp
    refine condR (c := (!(a0.Left == a1.Left))) (by simp) (fun k2 h2 => ?_) (fun k2 h2 => ?_)
    · have q2 := h2; try simp at q2
      simp
      refine retRd (rv := [.tmp 4]) rfl ?_
      have f2 := l_eqStep.eq_1 a0 a1
      simp only [h1, h2, cond_true, cond_false] at f2
      simp [f2]
    · have q2 := h2; try simp at q2
      simp
      refine retRd (rv := [.tmp 4]) rfl ?_
      have f3 := l_eqStep.eq_1 a0 a1
      simp only [h1, h2, cond_true, cond_false] at f3
      simp [f3]
theorem l_eqStepS_ok (a0 : List TStep) (a1 : List TStep) : SoundAt Tryz.prog 212 false [[.sl 2 (a0.map TStep.row)], [.sl 2 (a1.map TStep.row)]] [[.bool (l_eqStepS a0 a1)]] := by
  refine sound_of Tryz.func212 rfl (by kernel_rfl) ?_
  simp [Tryz.ntmps212]
  refine condR (c := ((↑a0.length : Int) != (↑a1.length : Int))) (by simp) (fun k1 h1 => ?_) (fun k1 h1 => ?_)
  · have q1 := h1; try simp at q1
    simp
    refine retRd (rv := [.tmp 4]) rfl ?_
    have f1 := l_eqStepS.eq_1 a0 a1
    simp only [h1, cond_true, cond_false] at f1
    simp [f1]
  · have q1 := h1; try simp at q1
    simp
    refine okL fun k2 => ?_
    refine loopI (ι := { s : Nat × Nat // l_eqStepS_1 a0 a1 s.1 s.2 = l_eqStepS_1 a0 a1 (a0.length + 1) 0 ∧ (1 ≤ s.1 ∧ a0.length < s.1 + s.2 ∧ s.2 ≤ a0.length) }) (fun s => stOf 27 [(0, .one (.d (.sl 2 (a0.map TStep.row))), []), (1, .one (.d (.sl 2 (a1.map TStep.row))), []), (5, .one (.d (.int .i64 (↑s.1.2 : Int))), [])]) (fun s => s.1.1) ⟨((a0.length + 1), 0), rfl, by first | omega | (dsimp only; omega) | simp⟩ (wk_keep (by simp)) ?_
    rintro ⟨⟨n1, v1_0⟩, e1, j1⟩
    try dsimp only at e1 j1
    obtain ⟨p1, rfl⟩ : ∃ p, n1 = p + 1 := ⟨n1 - 1, by omega⟩
    simp
    refine condR (c := (decide ((↑v1_0 : Int) < (↑a0.length : Int)))) (by simp) (fun k3 h2 => ?_) (fun k3 h2 => ?_)
    · have q2 := h2; try simp at q2
      have i1 : v1_0 < a0.length := by simpa using h2
      have m2 : a0.length ≤ 9223372036854775807 := by simpa using k3 0 _ rfl
      have w1 : IntKind.i64.wrap ((v1_0 : Int) + 1) = (v1_0 : Int) + 1 := wrap_of (by omega) (by omega)
      simp
      refine okD fun k4 => ?_
      refine drawI mixed (by kernel_rfl) (by kernel_rfl) ?_
      have i2 : v1_0 < a1.length := by omega
      simp [i1, rowAt_map, i2]
      repeat ((with_reducible refine And.intro ?_ ?_); focus (intros; omega))
      refine callRd rfl rfl rfl rfl (l_eqStep_ok (nth a0 v1_0) (nth a1 v1_0)) (by simp) (by simp) (by simp) ?_
      simp
      refine condR (c := (!(l_eqStep (nth a0 v1_0) (nth a1 v1_0)))) (by simp) (fun k5 h3 => ?_) (fun k5 h3 => ?_)
      · have q3 := h3; try simp at q3
        have x1 : l_eqStepS_1 a0 a1 (a0.length + 1) 0 = .inl false := by rw [← e1]; simp only [l_eqStepS_1, h2, h3, cond_true, cond_false]
        simp
        refine retRd (rv := [.tmp 4]) rfl ?_
        have f2 := l_eqStepS.eq_1 a0 a1
        simp only [h1, x1, cond_true, cond_false] at f2
        simp [f2]
      · have q3 := h3; try simp at q3
        simp
        refine nxtI ⟨(p1, (v1_0 + 1)), ?_, ?_⟩ (by simp) (wk_keep (by simp [w1]))
        · rw [← e1]; simp only [l_eqStepS_1, h2, h3, cond_true, cond_false]
        · first | omega | (simp at *; omega)
    · have q2 := h2; try simp at q2
      have x2 : l_eqStepS_1 a0 a1 (a0.length + 1) 0 = .inr () := by rw [← e1]; simp only [l_eqStepS_1, h2, cond_true, cond_false]
      simp
      refine retRd (rv := [.tmp 4]) rfl ?_
      have f3 := l_eqStepS.eq_1 a0 a1
      simp only [h1, x2, cond_true, cond_false] at f3
      simp [f3]
theorem l_eqStamp_ok (a0 : TStamp) (a1 : TStamp) : SoundAt Tryz.prog 218 false [a0.row, a1.row] [[.bool (l_eqStamp a0 a1)]] := by
  refine sound_of Tryz.func218 rfl (by kernel_rfl) ?_
  simp [Tryz.ntmps218]
  refine condR (c := (a0.Authority != a1.Authority)) (by simp) (fun k1 h1 => ?_) (fun k1 h1 => ?_)
  · have q1 := h1; try simp at q1
    simp
    refine retRd (rv := [.tmp 4]) rfl ?_
    have f1 := l_eqStamp.eq_1 a0 a1
    simp only [h1, cond_true, cond_false] at f1
    simp [f1]
  · have q1 := h1; try simp at q1
    simp
    refine condR (c := (a0.Seq != a1.Seq)) (by simp) (fun k2 h2 => ?_) (fun k2 h2 => ?_)
    · have q2 := h2; try simp at q2
      simp
      refine retRd (rv := [.tmp 4]) rfl ?_
      have f2 := l_eqStamp.eq_1 a0 a1
      simp only [h1, h2, cond_true, cond_false] at f2
      simp [f2]
    · have q2 := h2; try simp at q2
      simp
      refine condR (c := (a0.Time != a1.Time)) (by simp) (fun k3 h3 => ?_) (fun k3 h3 => ?_)
      · have q3 := h3; try simp at q3
        simp
        refine retRd (rv := [.tmp 4]) rfl ?_
        have f3 := l_eqStamp.eq_1 a0 a1
        simp only [h1, h2, h3, cond_true, cond_false] at f3
        simp [f3]
      · have q3 := h3; try simp at q3
        simp
        refine condR (c := (a0.Digest != a1.Digest)) (by simp) (fun k4 h4 => ?_) (fun k4 h4 => ?_)
        · have q4 := h4; try simp at q4
          simp
          refine retRd (rv := [.tmp 4]) rfl ?_
          have f4 := l_eqStamp.eq_1 a0 a1
          simp only [h1, h2, h3, h4, cond_true, cond_false] at f4
          simp [f4]
        · have q4 := h4; try simp at q4
          simp
          refine condR (c := (a0.Mark != a1.Mark)) (by simp) (fun k5 h5 => ?_) (fun k5 h5 => ?_)
          · have q5 := h5; try simp at q5
            simp
            refine retRd (rv := [.tmp 4]) rfl ?_
            have f5 := l_eqStamp.eq_1 a0 a1
            simp only [h1, h2, h3, h4, h5, cond_true, cond_false] at f5
            simp [f5]
          · have q5 := h5; try simp at q5
            simp
            refine retRd (rv := [.tmp 4]) rfl ?_
            have f6 := l_eqStamp.eq_1 a0 a1
            simp only [h1, h2, h3, h4, h5, cond_true, cond_false] at f6
            simp [f6]
theorem l_eqStampS_ok (a0 : List TStamp) (a1 : List TStamp) : SoundAt Tryz.prog 213 false [[.sl 5 (a0.map TStamp.row)], [.sl 5 (a1.map TStamp.row)]] [[.bool (l_eqStampS a0 a1)]] := by
  refine sound_of Tryz.func213 rfl (by kernel_rfl) ?_
  simp [Tryz.ntmps213]
  refine condR (c := ((↑a0.length : Int) != (↑a1.length : Int))) (by simp) (fun k1 h1 => ?_) (fun k1 h1 => ?_)
  · have q1 := h1; try simp at q1
    simp
    refine retRd (rv := [.tmp 4]) rfl ?_
    have f1 := l_eqStampS.eq_1 a0 a1
    simp only [h1, cond_true, cond_false] at f1
    simp [f1]
  · have q1 := h1; try simp at q1
    simp
    refine okL fun k2 => ?_
    refine loopI (ι := { s : Nat × Nat // l_eqStampS_1 a0 a1 s.1 s.2 = l_eqStampS_1 a0 a1 (a0.length + 1) 0 ∧ (1 ≤ s.1 ∧ a0.length < s.1 + s.2 ∧ s.2 ≤ a0.length) }) (fun s => stOf 27 [(0, .one (.d (.sl 5 (a0.map TStamp.row))), []), (1, .one (.d (.sl 5 (a1.map TStamp.row))), []), (5, .one (.d (.int .i64 (↑s.1.2 : Int))), [])]) (fun s => s.1.1) ⟨((a0.length + 1), 0), rfl, by first | omega | (dsimp only; omega) | simp⟩ (wk_keep (by simp)) ?_
    rintro ⟨⟨n1, v1_0⟩, e1, j1⟩
    try dsimp only at e1 j1
    obtain ⟨p1, rfl⟩ : ∃ p, n1 = p + 1 := ⟨n1 - 1, by omega⟩
    simp
    refine condR (c := (decide ((↑v1_0 : Int) < (↑a0.length : Int)))) (by simp) (fun k3 h2 => ?_) (fun k3 h2 => ?_)
    · have q2 := h2; try simp at q2
      have i1 : v1_0 < a0.length := by simpa using h2
      have m2 : a0.length ≤ 9223372036854775807 := by simpa using k3 0 _ rfl
      have w1 : IntKind.i64.wrap ((v1_0 : Int) + 1) = (v1_0 : Int) + 1 := wrap_of (by omega) (by omega)
      simp
      refine okD fun k4 => ?_
      refine drawI mixed (by kernel_rfl) (by kernel_rfl) ?_
      have i2 : v1_0 < a1.length := by omega
      simp [i1, rowAt_map, i2]
      repeat ((with_reducible refine And.intro ?_ ?_); focus (intros; omega))
      refine callRd rfl rfl rfl rfl (l_eqStamp_ok (nth a0 v1_0) (nth a1 v1_0)) (by simp) (by simp) (by simp) ?_
      simp
      refine condR (c := (!(l_eqStamp (nth a0 v1_0) (nth a1 v1_0)))) (by simp) (fun k5 h3 => ?_) (fun k5 h3 => ?_)
      · have q3 := h3; try simp at q3
        have x1 : l_eqStampS_1 a0 a1 (a0.length + 1) 0 = .inl false := by rw [← e1]; simp only [l_eqStampS_1, h2, h3, cond_true, cond_false]
        simp
        refine retRd (rv := [.tmp 4]) rfl ?_
        have f2 := l_eqStampS.eq_1 a0 a1
        simp only [h1, x1, cond_true, cond_false] at f2
        simp [f2]
      · have q3 := h3; try simp at q3
        simp
        refine nxtI ⟨(p1, (v1_0 + 1)), ?_, ?_⟩ (by simp) (wk_keep (by simp [w1]))
        · rw [← e1]; simp only [l_eqStampS_1, h2, h3, cond_true, cond_false]
        · first | omega | (simp at *; omega)
    · have q2 := h2; try simp at q2
      have x2 : l_eqStampS_1 a0 a1 (a0.length + 1) 0 = .inr () := by rw [← e1]; simp only [l_eqStampS_1, h2, cond_true, cond_false]
      simp
      refine retRd (rv := [.tmp 4]) rfl ?_
      have f3 := l_eqStampS.eq_1 a0 a1
      simp only [h1, x2, cond_true, cond_false] at f3
      simp [f3]
theorem l_eqRenewal_ok (a0 : TRenewal) (a1 : TRenewal) : SoundAt Tryz.prog 203 false [a0.row, a1.row] [[.bool (l_eqRenewal a0 a1)]] := by
  refine sound_of Tryz.func203 rfl (by kernel_rfl) ?_
  simp [Tryz.ntmps203]
  refine condR (c := (a0.Count != a1.Count)) (by simp) (fun k1 h1 => ?_) (fun k1 h1 => ?_)
  · have q1 := h1; try simp at q1
    simp
    refine retRd (rv := [.tmp 4]) rfl ?_
    have f1 := l_eqRenewal.eq_1 a0 a1
    simp only [h1, cond_true, cond_false] at f1
    simp [f1]
  · have q1 := h1; try simp at q1
    simp
    refine condR (c := (a0.Method != a1.Method)) (by simp) (fun k2 h2 => ?_) (fun k2 h2 => ?_)
    · have q2 := h2; try simp at q2
      simp
      refine retRd (rv := [.tmp 4]) rfl ?_
      have f2 := l_eqRenewal.eq_1 a0 a1
      simp only [h1, h2, cond_true, cond_false] at f2
      simp [f2]
    · have q2 := h2; try simp at q2
      simp
      refine condR (c := (a0.Root != a1.Root)) (by simp) (fun k3 h3 => ?_) (fun k3 h3 => ?_)
      · have q3 := h3; try simp at q3
        simp
        refine retRd (rv := [.tmp 4]) rfl ?_
        have f3 := l_eqRenewal.eq_1 a0 a1
        simp only [h1, h2, h3, cond_true, cond_false] at f3
        simp [f3]
      · have q3 := h3; try simp at q3
        simp
        refine callRd rfl rfl rfl rfl (l_eqStepS_ok a0.Path a1.Path) (by simp) (by simp) (by simp) ?_
        simp
        refine condR (c := (!(l_eqStepS a0.Path a1.Path))) (by simp) (fun k4 h4 => ?_) (fun k4 h4 => ?_)
        · have q4 := h4; try simp at q4
          simp
          refine retRd (rv := [.tmp 4]) rfl ?_
          have f4 := l_eqRenewal.eq_1 a0 a1
          simp only [h1, h2, h3, h4, cond_true, cond_false] at f4
          simp [f4]
        · have q4 := h4; try simp at q4
          simp
          refine callRd rfl rfl rfl rfl (l_eqStampS_ok a0.Stamps a1.Stamps) (by simp) (by simp) (by simp) ?_
          simp
          refine condR (c := (!(l_eqStampS a0.Stamps a1.Stamps))) (by simp) (fun k5 h5 => ?_) (fun k5 h5 => ?_)
          · have q5 := h5; try simp at q5
            simp
            refine retRd (rv := [.tmp 4]) rfl ?_
            have f5 := l_eqRenewal.eq_1 a0 a1
            simp only [h1, h2, h3, h4, h5, cond_true, cond_false] at f5
            simp [f5]
          · have q5 := h5; try simp at q5
            simp
            refine retRd (rv := [.tmp 4]) rfl ?_
            have f6 := l_eqRenewal.eq_1 a0 a1
            simp only [h1, h2, h3, h4, h5, cond_true, cond_false] at f6
            simp [f6]
theorem l_eqRenewalS_ok (a0 : List TRenewal) (a1 : List TRenewal) : SoundAt Tryz.prog 184 false [[.sl 5 (a0.map TRenewal.row)], [.sl 5 (a1.map TRenewal.row)]] [[.bool (l_eqRenewalS a0 a1)]] := by
  refine sound_of Tryz.func184 rfl (by kernel_rfl) ?_
  simp [Tryz.ntmps184]
  refine condR (c := ((↑a0.length : Int) != (↑a1.length : Int))) (by simp) (fun k1 h1 => ?_) (fun k1 h1 => ?_)
  · have q1 := h1; try simp at q1
    simp
    refine retRd (rv := [.tmp 4]) rfl ?_
    have f1 := l_eqRenewalS.eq_1 a0 a1
    simp only [h1, cond_true, cond_false] at f1
    simp [f1]
  · have q1 := h1; try simp at q1
    simp
    refine okL fun k2 => ?_
    refine loopI (ι := { s : Nat × Nat // l_eqRenewalS_1 a0 a1 s.1 s.2 = l_eqRenewalS_1 a0 a1 (a0.length + 1) 0 ∧ (1 ≤ s.1 ∧ a0.length < s.1 + s.2 ∧ s.2 ≤ a0.length) }) (fun s => stOf 27 [(0, .one (.d (.sl 5 (a0.map TRenewal.row))), []), (1, .one (.d (.sl 5 (a1.map TRenewal.row))), []), (5, .one (.d (.int .i64 (↑s.1.2 : Int))), [])]) (fun s => s.1.1) ⟨((a0.length + 1), 0), rfl, by first | omega | (dsimp only; omega) | simp⟩ (wk_keep (by simp)) ?_
    rintro ⟨⟨n1, v1_0⟩, e1, j1⟩
    try dsimp only at e1 j1
    obtain ⟨p1, rfl⟩ : ∃ p, n1 = p + 1 := ⟨n1 - 1, by omega⟩
    simp
    refine condR (c := (decide ((↑v1_0 : Int) < (↑a0.length : Int)))) (by simp) (fun k3 h2 => ?_) (fun k3 h2 => ?_)
    · have q2 := h2; try simp at q2
      have i1 : v1_0 < a0.length := by simpa using h2
      have m2 : a0.length ≤ 9223372036854775807 := by simpa using k3 0 _ rfl
      have w1 : IntKind.i64.wrap ((v1_0 : Int) + 1) = (v1_0 : Int) + 1 := wrap_of (by omega) (by omega)
      simp
      refine okD fun k4 => ?_
      refine drawI mixed (by kernel_rfl) (by kernel_rfl) ?_
      have i2 : v1_0 < a1.length := by omega
      simp [i1, rowAt_map, i2]
      repeat ((with_reducible refine And.intro ?_ ?_); focus (intros; omega))
      refine callRd rfl rfl rfl rfl (l_eqRenewal_ok (nth a0 v1_0) (nth a1 v1_0)) (by simp) (by simp) (by simp) ?_
      simp
      refine condR (c := (!(l_eqRenewal (nth a0 v1_0) (nth a1 v1_0)))) (by simp) (fun k5 h3 => ?_) (fun k5 h3 => ?_)
      · have q3 := h3; try simp at q3
        have x1 : l_eqRenewalS_1 a0 a1 (a0.length + 1) 0 = .inl false := by rw [← e1]; simp only [l_eqRenewalS_1, h2, h3, cond_true, cond_false]
        simp
        refine retRd (rv := [.tmp 4]) rfl ?_
        have f2 := l_eqRenewalS.eq_1 a0 a1
        simp only [h1, x1, cond_true, cond_false] at f2
        simp [f2]
      · have q3 := h3; try simp at q3
        simp
        refine nxtI ⟨(p1, (v1_0 + 1)), ?_, ?_⟩ (by simp) (wk_keep (by simp [w1]))
        · rw [← e1]; simp only [l_eqRenewalS_1, h2, h3, cond_true, cond_false]
        · first | omega | (simp at *; omega)
    · have q2 := h2; try simp at q2
      have x2 : l_eqRenewalS_1 a0 a1 (a0.length + 1) 0 = .inr () := by rw [← e1]; simp only [l_eqRenewalS_1, h2, cond_true, cond_false]
      simp
      refine retRd (rv := [.tmp 4]) rfl ?_
      have f3 := l_eqRenewalS.eq_1 a0 a1
      simp only [h1, x2, cond_true, cond_false] at f3
      simp [f3]
theorem l_eqStrand_ok (a0 : TStrand) (a1 : TStrand) : SoundAt Tryz.prog 159 false [a0.row, a1.row] [[.bool (l_eqStrand a0 a1)]] := by
  refine sound_of Tryz.func159 rfl (by kernel_rfl) ?_
  simp [Tryz.ntmps159]
  refine callRd rfl rfl rfl rfl (l_eqPieceS_ok a0.Pieces a1.Pieces) (by simp) (by simp) (by simp) ?_
  simp
  refine condR (c := (!(l_eqPieceS a0.Pieces a1.Pieces))) (by simp) (fun k1 h1 => ?_) (fun k1 h1 => ?_)
  · have q1 := h1; try simp at q1
    simp
    refine retRd (rv := [.tmp 4]) rfl ?_
    have f1 := l_eqStrand.eq_1 a0 a1
    simp only [h1, cond_true, cond_false] at f1
    simp [f1]
  · have q1 := h1; try simp at q1
    simp
    refine callRd rfl rfl rfl rfl (l_eqRenewalS_ok a0.Chain a1.Chain) (by simp) (by simp) (by simp) ?_
    simp
    refine condR (c := (!(l_eqRenewalS a0.Chain a1.Chain))) (by simp) (fun k2 h2 => ?_) (fun k2 h2 => ?_)
    · have q2 := h2; try simp at q2
      simp
      refine retRd (rv := [.tmp 4]) rfl ?_
      have f2 := l_eqStrand.eq_1 a0 a1
      simp only [h1, h2, cond_true, cond_false] at f2
      simp [f2]
    · have q2 := h2; try simp at q2
      simp
      refine retRd (rv := [.tmp 4]) rfl ?_
      have f3 := l_eqStrand.eq_1 a0 a1
      simp only [h1, h2, cond_true, cond_false] at f3
      simp [f3]
theorem l_eqItem_ok (a0 : TItem) (a1 : TItem) : SoundAt Tryz.prog 132 false [a0.row, a1.row] [[.bool (l_eqItem a0 a1)]] := by
  refine sound_of Tryz.func132 rfl (by kernel_rfl) ?_
  simp [Tryz.ntmps132]
  refine condR (c := (a0.Id != a1.Id)) (by simp) (fun k1 h1 => ?_) (fun k1 h1 => ?_)
  · have q1 := h1; try simp at q1
    simp
    refine retRd (rv := [.tmp 4]) rfl ?_
    have f1 := l_eqItem.eq_1 a0 a1
    simp only [h1, cond_true, cond_false] at f1
    simp [f1]
  · have q1 := h1; try simp at q1
    simp
    refine condR (c := (a0.Keep != a1.Keep)) (by simp) (fun k2 h2 => ?_) (fun k2 h2 => ?_)
    · have q2 := h2; try simp at q2
      simp
      refine retRd (rv := [.tmp 4]) rfl ?_
      have f2 := l_eqItem.eq_1 a0 a1
      simp only [h1, h2, cond_true, cond_false] at f2
      simp [f2]
    · have q2 := h2; try simp at q2
      simp
      refine callRd rfl rfl rfl rfl (l_eqDocument_ok a0.Doc a1.Doc) (by simp) (by simp) (by simp) ?_
      simp
      refine condR (c := (!(l_eqDocument a0.Doc a1.Doc))) (by simp) (fun k3 h3 => ?_) (fun k3 h3 => ?_)
      · have q3 := h3; try simp at q3
        simp
        refine retRd (rv := [.tmp 4]) rfl ?_
        have f3 := l_eqItem.eq_1 a0 a1
        simp only [h1, h2, h3, cond_true, cond_false] at f3
        simp [f3]
      · have q3 := h3; try simp at q3
        simp
        refine callRd rfl rfl rfl rfl (l_eqSignature_ok a0.Sig a1.Sig) (by simp) (by simp) (by simp) ?_
        simp
        refine condR (c := (!(l_eqSignature a0.Sig a1.Sig))) (by simp) (fun k4 h4 => ?_) (fun k4 h4 => ?_)
        · have q4 := h4; try simp at q4
          simp
          refine retRd (rv := [.tmp 4]) rfl ?_
          have f4 := l_eqItem.eq_1 a0 a1
          simp only [h1, h2, h3, h4, cond_true, cond_false] at f4
          simp [f4]
        · have q4 := h4; try simp at q4
          simp
          refine callRd rfl rfl rfl rfl (l_eqStrand_ok a0.Strand a1.Strand) (by simp) (by simp) (by simp) ?_
          simp
          refine condR (c := (!(l_eqStrand a0.Strand a1.Strand))) (by simp) (fun k5 h5 => ?_) (fun k5 h5 => ?_)
          · have q5 := h5; try simp at q5
            simp
            refine retRd (rv := [.tmp 4]) rfl ?_
            have f5 := l_eqItem.eq_1 a0 a1
            simp only [h1, h2, h3, h4, h5, cond_true, cond_false] at f5
            simp [f5]
          · have q5 := h5; try simp at q5
            simp
            refine retRd (rv := [.tmp 4]) rfl ?_
            have f6 := l_eqItem.eq_1 a0 a1
            simp only [h1, h2, h3, h4, h5, cond_true, cond_false] at f6
            simp [f6]
theorem l_eqItemS_ok (a0 : List TItem) (a1 : List TItem) : SoundAt Tryz.prog 106 false [[.sl 16 (a0.map TItem.row)], [.sl 16 (a1.map TItem.row)]] [[.bool (l_eqItemS a0 a1)]] := by
  refine sound_of Tryz.func106 rfl (by kernel_rfl) ?_
  simp [Tryz.ntmps106]
  refine condR (c := ((↑a0.length : Int) != (↑a1.length : Int))) (by simp) (fun k1 h1 => ?_) (fun k1 h1 => ?_)
  · have q1 := h1; try simp at q1
    simp
    refine retRd (rv := [.tmp 4]) rfl ?_
    have f1 := l_eqItemS.eq_1 a0 a1
    simp only [h1, cond_true, cond_false] at f1
    simp [f1]
  · have q1 := h1; try simp at q1
    simp
    refine okL fun k2 => ?_
    refine loopI (ι := { s : Nat × Nat // l_eqItemS_1 a0 a1 s.1 s.2 = l_eqItemS_1 a0 a1 (a0.length + 1) 0 ∧ (1 ≤ s.1 ∧ a0.length < s.1 + s.2 ∧ s.2 ≤ a0.length) }) (fun s => stOf 27 [(0, .one (.d (.sl 16 (a0.map TItem.row))), []), (1, .one (.d (.sl 16 (a1.map TItem.row))), []), (5, .one (.d (.int .i64 (↑s.1.2 : Int))), [])]) (fun s => s.1.1) ⟨((a0.length + 1), 0), rfl, by first | omega | (dsimp only; omega) | simp⟩ (wk_keep (by simp)) ?_
    rintro ⟨⟨n1, v1_0⟩, e1, j1⟩
    try dsimp only at e1 j1
    obtain ⟨p1, rfl⟩ : ∃ p, n1 = p + 1 := ⟨n1 - 1, by omega⟩
    simp
    refine condR (c := (decide ((↑v1_0 : Int) < (↑a0.length : Int)))) (by simp) (fun k3 h2 => ?_) (fun k3 h2 => ?_)
    · have q2 := h2; try simp at q2
      have i1 : v1_0 < a0.length := by simpa using h2
      have m2 : a0.length ≤ 9223372036854775807 := by simpa using k3 0 _ rfl
      have w1 : IntKind.i64.wrap ((v1_0 : Int) + 1) = (v1_0 : Int) + 1 := wrap_of (by omega) (by omega)
      simp
      refine okD fun k4 => ?_
      refine drawI mixed (by kernel_rfl) (by kernel_rfl) ?_
      have i2 : v1_0 < a1.length := by omega
      simp [i1, rowAt_map, i2]
      repeat ((with_reducible refine And.intro ?_ ?_); focus (intros; omega))
      refine callRd rfl rfl rfl rfl (l_eqItem_ok (nth a0 v1_0) (nth a1 v1_0)) (by simp) (by simp) (by simp) ?_
      simp
      refine condR (c := (!(l_eqItem (nth a0 v1_0) (nth a1 v1_0)))) (by simp) (fun k5 h3 => ?_) (fun k5 h3 => ?_)
      · have q3 := h3; try simp at q3
        have x1 : l_eqItemS_1 a0 a1 (a0.length + 1) 0 = .inl false := by rw [← e1]; simp only [l_eqItemS_1, h2, h3, cond_true, cond_false]
        simp
        refine retRd (rv := [.tmp 4]) rfl ?_
        have f2 := l_eqItemS.eq_1 a0 a1
        simp only [h1, x1, cond_true, cond_false] at f2
        simp [f2]
      · have q3 := h3; try simp at q3
        simp
        refine nxtI ⟨(p1, (v1_0 + 1)), ?_, ?_⟩ (by simp) (wk_keep (by simp [w1]))
        · rw [← e1]; simp only [l_eqItemS_1, h2, h3, cond_true, cond_false]
        · first | omega | (simp at *; omega)
    · have q2 := h2; try simp at q2
      have x2 : l_eqItemS_1 a0 a1 (a0.length + 1) 0 = .inr () := by rw [← e1]; simp only [l_eqItemS_1, h2, cond_true, cond_false]
      simp
      refine retRd (rv := [.tmp 4]) rfl ?_
      have f3 := l_eqItemS.eq_1 a0 a1
      simp only [h1, x2, cond_true, cond_false] at f3
      simp [f3]
theorem l_eqArchive_ok (a0 : TArchive) (a1 : TArchive) : SoundAt Tryz.prog 74 false [a0.row, a1.row] [[.bool (l_eqArchive a0 a1)]] := by
  refine sound_of Tryz.func74 rfl (by kernel_rfl) ?_
  simp [Tryz.ntmps74]
  refine condR (c := (a0.Id != a1.Id)) (by simp) (fun k1 h1 => ?_) (fun k1 h1 => ?_)
  · have q1 := h1; try simp at q1
    simp
    refine retRd (rv := [.tmp 4]) rfl ?_
    have f1 := l_eqArchive.eq_1 a0 a1
    simp only [h1, cond_true, cond_false] at f1
    simp [f1]
  · have q1 := h1; try simp at q1
    simp
    refine callRd rfl rfl rfl rfl (l_eqItemS_ok a0.Items a1.Items) (by simp) (by simp) (by simp) ?_
    simp
    refine condR (c := (!(l_eqItemS a0.Items a1.Items))) (by simp) (fun k2 h2 => ?_) (fun k2 h2 => ?_)
    · have q2 := h2; try simp at q2
      simp
      refine retRd (rv := [.tmp 4]) rfl ?_
      have f2 := l_eqArchive.eq_1 a0 a1
      simp only [h1, h2, cond_true, cond_false] at f2
      simp [f2]
    · have q2 := h2; try simp at q2
      simp
      refine retRd (rv := [.tmp 4]) rfl ?_
      have f3 := l_eqArchive.eq_1 a0 a1
      simp only [h1, h2, cond_true, cond_false] at f3
      simp [f3]
theorem l_eqArchiveS_ok (a0 : List TArchive) (a1 : List TArchive) : SoundAt Tryz.prog 35 false [[.sl 2 (a0.map TArchive.row)], [.sl 2 (a1.map TArchive.row)]] [[.bool (l_eqArchiveS a0 a1)]] := by
  refine sound_of Tryz.func35 rfl (by kernel_rfl) ?_
  simp [Tryz.ntmps35]
  refine condR (c := ((↑a0.length : Int) != (↑a1.length : Int))) (by simp) (fun k1 h1 => ?_) (fun k1 h1 => ?_)
  · have q1 := h1; try simp at q1
    simp
    refine retRd (rv := [.tmp 4]) rfl ?_
    have f1 := l_eqArchiveS.eq_1 a0 a1
    simp only [h1, cond_true, cond_false] at f1
    simp [f1]
  · have q1 := h1; try simp at q1
    simp
    refine okL fun k2 => ?_
    refine loopI (ι := { s : Nat × Nat // l_eqArchiveS_1 a0 a1 s.1 s.2 = l_eqArchiveS_1 a0 a1 (a0.length + 1) 0 ∧ (1 ≤ s.1 ∧ a0.length < s.1 + s.2 ∧ s.2 ≤ a0.length) }) (fun s => stOf 27 [(0, .one (.d (.sl 2 (a0.map TArchive.row))), []), (1, .one (.d (.sl 2 (a1.map TArchive.row))), []), (5, .one (.d (.int .i64 (↑s.1.2 : Int))), [])]) (fun s => s.1.1) ⟨((a0.length + 1), 0), rfl, by first | omega | (dsimp only; omega) | simp⟩ (wk_keep (by simp)) ?_
    rintro ⟨⟨n1, v1_0⟩, e1, j1⟩
    try dsimp only at e1 j1
    obtain ⟨p1, rfl⟩ : ∃ p, n1 = p + 1 := ⟨n1 - 1, by omega⟩
    simp
    refine condR (c := (decide ((↑v1_0 : Int) < (↑a0.length : Int)))) (by simp) (fun k3 h2 => ?_) (fun k3 h2 => ?_)
    · have q2 := h2; try simp at q2
      have i1 : v1_0 < a0.length := by simpa using h2
      have m2 : a0.length ≤ 9223372036854775807 := by simpa using k3 0 _ rfl
      have w1 : IntKind.i64.wrap ((v1_0 : Int) + 1) = (v1_0 : Int) + 1 := wrap_of (by omega) (by omega)
      simp
      refine okD fun k4 => ?_
      refine drawI mixed (by kernel_rfl) (by kernel_rfl) ?_
      have i2 : v1_0 < a1.length := by omega
      simp [i1, rowAt_map, i2]
      repeat ((with_reducible refine And.intro ?_ ?_); focus (intros; omega))
      refine callRd rfl rfl rfl rfl (l_eqArchive_ok (nth a0 v1_0) (nth a1 v1_0)) (by simp) (by simp) (by simp) ?_
      simp
      refine condR (c := (!(l_eqArchive (nth a0 v1_0) (nth a1 v1_0)))) (by simp) (fun k5 h3 => ?_) (fun k5 h3 => ?_)
      · have q3 := h3; try simp at q3
        have x1 : l_eqArchiveS_1 a0 a1 (a0.length + 1) 0 = .inl false := by rw [← e1]; simp only [l_eqArchiveS_1, h2, h3, cond_true, cond_false]
        simp
        refine retRd (rv := [.tmp 4]) rfl ?_
        have f2 := l_eqArchiveS.eq_1 a0 a1
        simp only [h1, x1, cond_true, cond_false] at f2
        simp [f2]
      · have q3 := h3; try simp at q3
        simp
        refine nxtI ⟨(p1, (v1_0 + 1)), ?_, ?_⟩ (by simp) (wk_keep (by simp [w1]))
        · rw [← e1]; simp only [l_eqArchiveS_1, h2, h3, cond_true, cond_false]
        · first | omega | (simp at *; omega)
    · have q2 := h2; try simp at q2
      have x2 : l_eqArchiveS_1 a0 a1 (a0.length + 1) 0 = .inr () := by rw [← e1]; simp only [l_eqArchiveS_1, h2, cond_true, cond_false]
      simp
      refine retRd (rv := [.tmp 4]) rfl ?_
      have f3 := l_eqArchiveS.eq_1 a0 a1
      simp only [h1, x2, cond_true, cond_false] at f3
      simp [f3]
theorem l_eqWorld_ok (a0 : TWorld) (a1 : TWorld) : SoundAt Tryz.prog 9 false [a0.row, a1.row] [[.bool (l_eqWorld a0 a1)]] := by
  refine sound_of Tryz.func9 rfl (by kernel_rfl) ?_
  simp [Tryz.ntmps9]
  refine callRd rfl rfl rfl rfl (l_eqFrame_ok a0.Frame a1.Frame) (by simp) (by simp) (by simp) ?_
  simp
  refine condR (c := (!(l_eqFrame a0.Frame a1.Frame))) (by simp) (fun k1 h1 => ?_) (fun k1 h1 => ?_)
  · have q1 := h1; try simp at q1
    simp
    refine retRd (rv := [.tmp 4]) rfl ?_
    have f1 := l_eqWorld.eq_1 a0 a1
    simp only [h1, cond_true, cond_false] at f1
    simp [f1]
  · have q1 := h1; try simp at q1
    simp
    refine callRd rfl rfl rfl rfl (l_eqCertS_ok a0.Certs a1.Certs) (by simp) (by simp) (by simp) ?_
    simp
    refine condR (c := (!(l_eqCertS a0.Certs a1.Certs))) (by simp) (fun k2 h2 => ?_) (fun k2 h2 => ?_)
    · have q2 := h2; try simp at q2
      simp
      refine retRd (rv := [.tmp 4]) rfl ?_
      have f2 := l_eqWorld.eq_1 a0 a1
      simp only [h1, h2, cond_true, cond_false] at f2
      simp [f2]
    · have q2 := h2; try simp at q2
      simp
      refine callRd rfl rfl rfl rfl (l_eqIntS_ok a0.Ended a1.Ended) (by simp) (by simp) (by simp) ?_
      simp
      refine condR (c := (!(l_eqIntS a0.Ended a1.Ended))) (by simp) (fun k3 h3 => ?_) (fun k3 h3 => ?_)
      · have q3 := h3; try simp at q3
        simp
        refine retRd (rv := [.tmp 4]) rfl ?_
        have f3 := l_eqWorld.eq_1 a0 a1
        simp only [h1, h2, h3, cond_true, cond_false] at f3
        simp [f3]
      · have q3 := h3; try simp at q3
        simp
        refine callRd rfl rfl rfl rfl (l_eqArchiveS_ok a0.Archives a1.Archives) (by simp) (by simp) (by simp) ?_
        simp
        refine condR (c := (!(l_eqArchiveS a0.Archives a1.Archives))) (by simp) (fun k4 h4 => ?_) (fun k4 h4 => ?_)
        · have q4 := h4; try simp at q4
          simp
          refine retRd (rv := [.tmp 4]) rfl ?_
          have f4 := l_eqWorld.eq_1 a0 a1
          simp only [h1, h2, h3, h4, cond_true, cond_false] at f4
          simp [f4]
        · have q4 := h4; try simp at q4
          simp
          refine callRd rfl rfl rfl rfl (l_eqIntS_ok a0.Seqs a1.Seqs) (by simp) (by simp) (by simp) ?_
          simp
          refine condR (c := (!(l_eqIntS a0.Seqs a1.Seqs))) (by simp) (fun k5 h5 => ?_) (fun k5 h5 => ?_)
          · have q5 := h5; try simp at q5
            simp
            refine retRd (rv := [.tmp 4]) rfl ?_
            have f5 := l_eqWorld.eq_1 a0 a1
            simp only [h1, h2, h3, h4, h5, cond_true, cond_false] at f5
            simp [f5]
          · have q5 := h5; try simp at q5
            simp
            refine callRd rfl rfl rfl rfl (l_eqIntS_ok a0.Lying a1.Lying) (by simp) (by simp) (by simp) ?_
            simp
            refine condR (c := (!(l_eqIntS a0.Lying a1.Lying))) (by simp) (fun k6 h6 => ?_) (fun k6 h6 => ?_)
            · have q6 := h6; try simp at q6
              simp
              refine retRd (rv := [.tmp 4]) rfl ?_
              have f6 := l_eqWorld.eq_1 a0 a1
              simp only [h1, h2, h3, h4, h5, h6, cond_true, cond_false] at f6
              simp [f6]
            · have q6 := h6; try simp at q6
              simp
              refine condR (c := (a0.Next != a1.Next)) (by simp) (fun k7 h7 => ?_) (fun k7 h7 => ?_)
              · have q7 := h7; try simp at q7
                simp
                refine retRd (rv := [.tmp 4]) rfl ?_
                have f7 := l_eqWorld.eq_1 a0 a1
                simp only [h1, h2, h3, h4, h5, h6, h7, cond_true, cond_false] at f7
                simp [f7]
              · have q7 := h7; try simp at q7
                simp
                refine callRd rfl rfl rfl rfl (l_eqIntS_ok a0.Forged a1.Forged) (by simp) (by simp) (by simp) ?_
                simp
                refine condR (c := (!(l_eqIntS a0.Forged a1.Forged))) (by simp) (fun k8 h8 => ?_) (fun k8 h8 => ?_)
                · have q8 := h8; try simp at q8
                  simp
                  refine retRd (rv := [.tmp 4]) rfl ?_
                  have f8 := l_eqWorld.eq_1 a0 a1
                  simp only [h1, h2, h3, h4, h5, h6, h7, h8, cond_true, cond_false] at f8
                  simp [f8]
                · have q8 := h8; try simp at q8
                  simp
                  refine retRd (rv := [.tmp 4]) rfl ?_
                  have f9 := l_eqWorld.eq_1 a0 a1
                  simp only [h1, h2, h3, h4, h5, h6, h7, h8, cond_true, cond_false] at f9
                  simp [f9]
theorem l_FnExactIsWorld_ok (a0 : TWorld) (t0 : Sm maxLen a0) : SoundAt Tryz.prog 3 false [a0.row] [[.bool (l_FnExactIsWorld a0)]] := by
  refine sound_of Tryz.func3 rfl (by kernel_rfl) ?_
  simp [Tryz.ntmps3]
  refine callRd rfl rfl rfl rfl (l_szWorld_ok a0 1048576) (by simp) (by simp) (by simp) ?_
  simp
  refine condR (c := (decide ((l_szWorld a0 1048576) < 0))) (by simp) (fun k1 h1 => ?_) (fun k1 h1 => ?_)
  · have q1 := h1; try simp at q1
    simp
    refine retRd (rv := [.tmp 2]) rfl ?_
    have f1 := l_FnExactIsWorld.eq_1 a0
    simp only [h1, cond_true, cond_false] at f1
    simp [f1]
  · have q1 := h1; try simp at q1
    obtain ⟨u0, y0⟩ := l_szWorld_sm a0 1048576 t0 (by omega) (by omega) (by simpa using h1)
    simp
    refine callRd rfl rfl rfl rfl (l_toWorld_ok a0 (sm_mono (n := 1048576) (by decide) (by simp (maxDischargeDepth := 12) [u0, l_toArchive_id, l_toArchiveS_id, l_toAuthority_id, l_toAuthorityS_id, l_toCert_id, l_toCertS_id, l_toDocument_id, l_toFrame_id, l_toIntS_id, l_toItem_id, l_toItemS_id, l_toKey_id, l_toKeyS_id, l_toMethod_id, l_toMethodS_id, l_toPiece_id, l_toPieceS_id, l_toRenewal_id, l_toRenewalS_id, l_toSignature_id, l_toStamp_id, l_toStampS_id, l_toStep_id, l_toStepS_id, l_toStrand_id, l_toStringS_id, l_toWorld_id]))) (by simp) (by simp) (by simp) ?_
    simp
    refine callRd rfl rfl rfl rfl (s_IsWorld_ok (l_toWorld a0) (sm_mono (n := 1048576) (by decide) (by simp (maxDischargeDepth := 12) [u0, l_toArchive_id, l_toArchiveS_id, l_toAuthority_id, l_toAuthorityS_id, l_toCert_id, l_toCertS_id, l_toDocument_id, l_toFrame_id, l_toIntS_id, l_toItem_id, l_toItemS_id, l_toKey_id, l_toKeyS_id, l_toMethod_id, l_toMethodS_id, l_toPiece_id, l_toPieceS_id, l_toRenewal_id, l_toRenewalS_id, l_toSignature_id, l_toStamp_id, l_toStampS_id, l_toStep_id, l_toStepS_id, l_toStrand_id, l_toStringS_id, l_toWorld_id]))) (by simp) (by simp) (by simp) ?_
    simp
    refine callRd rfl rfl rfl rfl (l_toWorld_ok a0 (sm_mono (n := 1048576) (by decide) (by simp (maxDischargeDepth := 12) [u0, l_toArchive_id, l_toArchiveS_id, l_toAuthority_id, l_toAuthorityS_id, l_toCert_id, l_toCertS_id, l_toDocument_id, l_toFrame_id, l_toIntS_id, l_toItem_id, l_toItemS_id, l_toKey_id, l_toKeyS_id, l_toMethod_id, l_toMethodS_id, l_toPiece_id, l_toPieceS_id, l_toRenewal_id, l_toRenewalS_id, l_toSignature_id, l_toStamp_id, l_toStampS_id, l_toStep_id, l_toStepS_id, l_toStrand_id, l_toStringS_id, l_toWorld_id]))) (by simp) (by simp) (by simp) ?_
    simp
    refine callRd rfl rfl rfl rfl (i_IsWorld_ok (l_toWorld a0) (sm_mono (n := 1048576) (by decide) (by simp (maxDischargeDepth := 12) [u0, l_toArchive_id, l_toArchiveS_id, l_toAuthority_id, l_toAuthorityS_id, l_toCert_id, l_toCertS_id, l_toDocument_id, l_toFrame_id, l_toIntS_id, l_toItem_id, l_toItemS_id, l_toKey_id, l_toKeyS_id, l_toMethod_id, l_toMethodS_id, l_toPiece_id, l_toPieceS_id, l_toRenewal_id, l_toRenewalS_id, l_toSignature_id, l_toStamp_id, l_toStampS_id, l_toStep_id, l_toStepS_id, l_toStrand_id, l_toStringS_id, l_toWorld_id]))) (by simp) (by simp) (by simp) ?_
    simp
    refine condR (c := (!((i_IsWorld (l_toWorld a0)) == (s_IsWorld (l_toWorld a0))))) (by simp) (fun k2 h2 => ?_) (fun k2 h2 => ?_)
    · have q2 := h2; try simp at q2
      simp
      refine retRd (rv := [.tmp 2]) rfl ?_
      have f2 := l_FnExactIsWorld.eq_1 a0
      simp only [h1, h2, cond_true, cond_false] at f2
      simp [f2]
    · have q2 := h2; try simp at q2
      simp
      refine okD fun k3 => ?_
      refine drawI mixed (by kernel_rfl) (by kernel_rfl) ?_
      simp
      refine callRd rfl rfl rfl rfl (l_toWorld_ok a0 (sm_mono (n := 1048576) (by decide) (by simp (maxDischargeDepth := 12) [u0, l_toArchive_id, l_toArchiveS_id, l_toAuthority_id, l_toAuthorityS_id, l_toCert_id, l_toCertS_id, l_toDocument_id, l_toFrame_id, l_toIntS_id, l_toItem_id, l_toItemS_id, l_toKey_id, l_toKeyS_id, l_toMethod_id, l_toMethodS_id, l_toPiece_id, l_toPieceS_id, l_toRenewal_id, l_toRenewalS_id, l_toSignature_id, l_toStamp_id, l_toStampS_id, l_toStep_id, l_toStepS_id, l_toStrand_id, l_toStringS_id, l_toWorld_id]))) (by simp) (by simp) (by simp) ?_
      simp
      refine callRd rfl rfl rfl rfl (l_eqWorld_ok (l_toWorld a0) (l_toWorld a0)) (by simp) (by simp) (by simp) ?_
      simp
      refine condR (c := (!(l_eqWorld (l_toWorld a0) (l_toWorld a0)))) (by simp) (fun k4 h3 => ?_) (fun k4 h3 => ?_)
      · have q3 := h3; try simp at q3
        simp
        refine retRd (rv := [.tmp 2]) rfl ?_
        have f3 := l_FnExactIsWorld.eq_1 a0
        simp only [h1, h2, h3, cond_true, cond_false] at f3
        simp [f3]
      · have q3 := h3; try simp at q3
        simp
        refine retRd (rv := [.tmp 2]) rfl ?_
        have f4 := l_FnExactIsWorld.eq_1 a0
        simp only [h1, h2, h3, cond_true, cond_false] at f4
        simp [f4]
end Go.Proofs.YtdbemnnipjknfaaGreat
