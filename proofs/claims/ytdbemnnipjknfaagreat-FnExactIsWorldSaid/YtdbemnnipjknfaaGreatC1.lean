/- Contracts of the functions over the abstract machine, part 1. No condition. -/
import Derived.Test.YtdbemnnipjknfaaGreatL
import Derived.Test.YtdbemnnipjknfaaGreatTy
namespace Go.Proofs.YtdbemnnipjknfaaGreat
open Go.Vm Go.Mo
set_option maxHeartbeats 1000000
set_option maxRecDepth 4000
set_option linter.unusedSimpArgs false
set_option linter.unusedVariables false
theorem mixed : Tryz.prog.follows .mixedOrders = true := by kernel_rfl
theorem l_szKeyS_ok (a0 : List TKey) (a1 : Int) : SoundAt Tryz.prog 42 false [[.sl 5 (a0.map TKey.row)], [.int .i64 a1]] [[.int .i64 (l_szKeyS a0 a1)]] := by
  refine sound_of Tryz.func42 rfl (by kernel_rfl) ?_
  simp [Tryz.ntmps42]
  refine condR (c := (decide ((W (a1 - (↑a0.length : Int))) < 0))) (by simp) (fun k1 h1 => ?_) (fun k1 h1 => ?_)
  · have q1 := h1; try simp at q1
    simp
    refine retRd (rv := [.tmp 4]) rfl ?_
    have f1 := l_szKeyS.eq_1 a0 a1
    simp only [h1, cond_true, cond_false] at f1
    simp [f1]
  · have q1 := h1; try simp at q1
    simp
    refine retRd (rv := [.tmp 4]) rfl ?_
    have f2 := l_szKeyS.eq_1 a0 a1
    simp only [h1, cond_true, cond_false] at f2
    simp [f2]
theorem l_szAuthorityS_ok (a0 : List TAuthority) (a1 : Int) : SoundAt Tryz.prog 43 false [[.sl 3 (a0.map TAuthority.row)], [.int .i64 a1]] [[.int .i64 (l_szAuthorityS a0 a1)]] := by
  refine sound_of Tryz.func43 rfl (by kernel_rfl) ?_
  simp [Tryz.ntmps43]
  refine condR (c := (decide ((W (a1 - (↑a0.length : Int))) < 0))) (by simp) (fun k1 h1 => ?_) (fun k1 h1 => ?_)
  · have q1 := h1; try simp at q1
    simp
    refine retRd (rv := [.tmp 4]) rfl ?_
    have f1 := l_szAuthorityS.eq_1 a0 a1
    simp only [h1, cond_true, cond_false] at f1
    simp [f1]
  · have q1 := h1; try simp at q1
    simp
    refine retRd (rv := [.tmp 4]) rfl ?_
    have f2 := l_szAuthorityS.eq_1 a0 a1
    simp only [h1, cond_true, cond_false] at f2
    simp [f2]
theorem l_szMethodS_ok (a0 : List TMethod) (a1 : Int) : SoundAt Tryz.prog 44 false [[.sl 4 (a0.map TMethod.row)], [.int .i64 a1]] [[.int .i64 (l_szMethodS a0 a1)]] := by
  refine sound_of Tryz.func44 rfl (by kernel_rfl) ?_
  simp [Tryz.ntmps44]
  refine condR (c := (decide ((W (a1 - (↑a0.length : Int))) < 0))) (by simp) (fun k1 h1 => ?_) (fun k1 h1 => ?_)
  · have q1 := h1; try simp at q1
    simp
    refine retRd (rv := [.tmp 4]) rfl ?_
    have f1 := l_szMethodS.eq_1 a0 a1
    simp only [h1, cond_true, cond_false] at f1
    simp [f1]
  · have q1 := h1; try simp at q1
    simp
    refine retRd (rv := [.tmp 4]) rfl ?_
    have f2 := l_szMethodS.eq_1 a0 a1
    simp only [h1, cond_true, cond_false] at f2
    simp [f2]
theorem l_szFrame_ok (a0 : TFrame) (a1 : Int) : SoundAt Tryz.prog 12 false [a0.row, [.int .i64 a1]] [[.int .i64 (l_szFrame a0 a1)]] := by
  refine sound_of Tryz.func12 rfl (by kernel_rfl) ?_
  simp [Tryz.ntmps12]
  refine callRd rfl rfl rfl rfl (l_szKeyS_ok a0.Keys a1) (by simp) (by simp) (by simp) ?_
  simp
  refine condR (c := (decide ((l_szKeyS a0.Keys a1) < 0))) (by simp) (fun k1 h1 => ?_) (fun k1 h1 => ?_)
  · have q1 := h1; try simp at q1
    simp
    refine retRd (rv := [.tmp 4]) rfl ?_
    have f1 := l_szFrame.eq_1 a0 a1
    simp only [h1, cond_true, cond_false] at f1
    simp [f1]
  · have q1 := h1; try simp at q1
    simp
    refine callRd rfl rfl rfl rfl (l_szAuthorityS_ok a0.Authorities (l_szKeyS a0.Keys a1)) (by simp) (by simp) (by simp) ?_
    simp
    refine condR (c := (decide ((l_szAuthorityS a0.Authorities (l_szKeyS a0.Keys a1)) < 0))) (by simp) (fun k2 h2 => ?_) (fun k2 h2 => ?_)
    · have q2 := h2; try simp at q2
      simp
      refine retRd (rv := [.tmp 4]) rfl ?_
      have f2 := l_szFrame.eq_1 a0 a1
      simp only [h1, h2, cond_true, cond_false] at f2
      simp [f2]
    · have q2 := h2; try simp at q2
      simp
      refine callRd rfl rfl rfl rfl (l_szMethodS_ok a0.Methods (l_szAuthorityS a0.Authorities (l_szKeyS a0.Keys a1))) (by simp) (by simp) (by simp) ?_
      simp
      refine condR (c := (decide ((l_szMethodS a0.Methods (l_szAuthorityS a0.Authorities (l_szKeyS a0.Keys a1))) < 0))) (by simp) (fun k3 h3 => ?_) (fun k3 h3 => ?_)
      · have q3 := h3; try simp at q3
        simp
        refine retRd (rv := [.tmp 4]) rfl ?_
        have f3 := l_szFrame.eq_1 a0 a1
        simp only [h1, h2, h3, cond_true, cond_false] at f3
        simp [f3]
      · have q3 := h3; try simp at q3
        simp
        refine retRd (rv := [.tmp 4]) rfl ?_
        have f4 := l_szFrame.eq_1 a0 a1
        simp only [h1, h2, h3, cond_true, cond_false] at f4
        simp [f4]
theorem l_szCertS_ok (a0 : List TCert) (a1 : Int) : SoundAt Tryz.prog 13 false [[.sl 7 (a0.map TCert.row)], [.int .i64 a1]] [[.int .i64 (l_szCertS a0 a1)]] := by
  refine sound_of Tryz.func13 rfl (by kernel_rfl) ?_
  simp [Tryz.ntmps13]
  refine condR (c := (decide ((W (a1 - (↑a0.length : Int))) < 0))) (by simp) (fun k1 h1 => ?_) (fun k1 h1 => ?_)
  · have q1 := h1; try simp at q1
    simp
    refine retRd (rv := [.tmp 4]) rfl ?_
    have f1 := l_szCertS.eq_1 a0 a1
    simp only [h1, cond_true, cond_false] at f1
    simp [f1]
  · have q1 := h1; try simp at q1
    simp
    refine retRd (rv := [.tmp 4]) rfl ?_
    have f2 := l_szCertS.eq_1 a0 a1
    simp only [h1, cond_true, cond_false] at f2
    simp [f2]
theorem l_szIntS_ok (a0 : List Int) (a1 : Int) : SoundAt Tryz.prog 14 false [[.sl 1 (a0.map iR)], [.int .i64 a1]] [[.int .i64 (l_szIntS a0 a1)]] := by
  refine sound_of Tryz.func14 rfl (by kernel_rfl) ?_
  simp [Tryz.ntmps14]
  refine condR (c := (decide ((W (a1 - (↑a0.length : Int))) < 0))) (by simp) (fun k1 h1 => ?_) (fun k1 h1 => ?_)
  · have q1 := h1; try simp at q1
    simp
    refine retRd (rv := [.tmp 4]) rfl ?_
    have f1 := l_szIntS.eq_1 a0 a1
    simp only [h1, cond_true, cond_false] at f1
    simp [f1]
  · have q1 := h1; try simp at q1
    simp
    refine retRd (rv := [.tmp 4]) rfl ?_
    have f2 := l_szIntS.eq_1 a0 a1
    simp only [h1, cond_true, cond_false] at f2
    simp [f2]
theorem l_szStringS_ok (a0 : List ByteArray) (a1 : Int) : SoundAt Tryz.prog 176 false [[.sl 1 (a0.map sR)], [.int .i64 a1]] [[.int .i64 (l_szStringS a0 a1)]] := by
  refine sound_of Tryz.func176 rfl (by kernel_rfl) ?_
  simp [Tryz.ntmps176]
  refine condR (c := (decide ((W (a1 - (↑a0.length : Int))) < 0))) (by simp) (fun k1 h1 => ?_) (fun k1 h1 => ?_)
  · have q1 := h1; try simp at q1
    simp
    refine retRd (rv := [.tmp 4]) rfl ?_
    have f1 := l_szStringS.eq_1 a0 a1
    simp only [h1, cond_true, cond_false] at f1
    simp [f1]
  · have q1 := h1; try simp at q1
    simp
    refine okL fun k2 => ?_
    refine loopI (ι := { s : Nat × Int × Nat // l_szStringS_1 a0 s.1 s.2.1 s.2.2 = l_szStringS_1 a0 (a0.length + 1) (W (a1 - (↑a0.length : Int))) 0 ∧ (1 ≤ s.1 ∧ a0.length < s.1 + s.2.2 ∧ s.2.2 ≤ a0.length) }) (fun s => stOf 28 [(0, .one (.d (.sl 1 (a0.map sR))), []), (1, .one (.d (.int .i64 s.1.2.1)), []), (5, .one (.d (.int .i64 (↑s.1.2.2 : Int))), [])]) (fun s => s.1.1) ⟨((a0.length + 1), (W (a1 - (↑a0.length : Int))), 0), rfl, by first | omega | (dsimp only; omega) | simp⟩ (wk_keep (by simp)) ?_
    rintro ⟨⟨n1, v1_0, v1_1⟩, e1, j1⟩
    try dsimp only at e1 j1
    obtain ⟨p1, rfl⟩ : ∃ p, n1 = p + 1 := ⟨n1 - 1, by omega⟩
    simp
    refine condR (c := (decide ((↑v1_1 : Int) < (↑a0.length : Int)))) (by simp) (fun k3 h2 => ?_) (fun k3 h2 => ?_)
    · have q2 := h2; try simp at q2
      have i1 : v1_1 < a0.length := by simpa using h2
      have m2 : a0.length ≤ 9223372036854775807 := by simpa using k3 0 _ rfl
      have w1 : IntKind.i64.wrap ((v1_1 : Int) + 1) = (v1_1 : Int) + 1 := wrap_of (by omega) (by omega)
      simp [i1, rowAt_map]
      repeat ((with_reducible refine And.intro ?_ ?_); focus (intros; omega))
      refine condR (c := (decide ((W (v1_0 - (↑(nth a0 v1_1).size : Int))) < 0))) (by simp) (fun k4 h3 => ?_) (fun k4 h3 => ?_)
      · have q3 := h3; try simp at q3
        have x1 : l_szStringS_1 a0 (a0.length + 1) (W (a1 - (↑a0.length : Int))) 0 = .inl (-1) := by rw [← e1]; simp only [l_szStringS_1, h2, h3, cond_true, cond_false]
        simp
        refine retRd (rv := [.tmp 4]) rfl ?_
        have f2 := l_szStringS.eq_1 a0 a1
        simp only [h1, x1, cond_true, cond_false] at f2
        simp [f2]
      · have q3 := h3; try simp at q3
        simp
        refine nxtI ⟨(p1, (W (v1_0 - (↑(nth a0 v1_1).size : Int))), (v1_1 + 1)), ?_, ?_⟩ (by simp) (wk_keep (by simp [w1]))
        · rw [← e1]; simp only [l_szStringS_1, h2, h3, cond_true, cond_false]
        · first | omega | (simp at *; omega)
    · have q2 := h2; try simp at q2
      have x2 : l_szStringS_1 a0 (a0.length + 1) (W (a1 - (↑a0.length : Int))) 0 = .inr v1_0 := by rw [← e1]; simp only [l_szStringS_1, h2, cond_true, cond_false]
      simp
      refine retRd (rv := [.tmp 4]) rfl ?_
      have f3 := l_szStringS.eq_1 a0 a1
      simp only [h1, x2, cond_true, cond_false] at f3
      simp [f3]
theorem l_szDocument_ok (a0 : TDocument) (a1 : Int) : SoundAt Tryz.prog 147 false [a0.row, [.int .i64 a1]] [[.int .i64 (l_szDocument a0 a1)]] := by
  refine sound_of Tryz.func147 rfl (by kernel_rfl) ?_
  simp [Tryz.ntmps147]
  refine callRd rfl rfl rfl rfl (l_szStringS_ok a0.Parts a1) (by simp) (by simp) (by simp) ?_
  simp
  refine condR (c := (decide ((l_szStringS a0.Parts a1) < 0))) (by simp) (fun k1 h1 => ?_) (fun k1 h1 => ?_)
  · have q1 := h1; try simp at q1
    simp
    refine retRd (rv := [.tmp 4]) rfl ?_
    have f1 := l_szDocument.eq_1 a0 a1
    simp only [h1, cond_true, cond_false] at f1
    simp [f1]
  · have q1 := h1; try simp at q1
    simp
    refine callRd rfl rfl rfl rfl (l_szIntS_ok a0.Salts (l_szStringS a0.Parts a1)) (by simp) (by simp) (by simp) ?_
    simp
    refine condR (c := (decide ((l_szIntS a0.Salts (l_szStringS a0.Parts a1)) < 0))) (by simp) (fun k2 h2 => ?_) (fun k2 h2 => ?_)
    · have q2 := h2; try simp at q2
      simp
      refine retRd (rv := [.tmp 4]) rfl ?_
      have f2 := l_szDocument.eq_1 a0 a1
      simp only [h1, h2, cond_true, cond_false] at f2
      simp [f2]
    · have q2 := h2; try simp at q2
      simp
      refine retRd (rv := [.tmp 4]) rfl ?_
      have f3 := l_szDocument.eq_1 a0 a1
      simp only [h1, h2, cond_true, cond_false] at f3
      simp [f3]
theorem l_szPiece_ok (a0 : TPiece) (a1 : Int) : SoundAt Tryz.prog 198 false [a0.row, [.int .i64 a1]] [[.int .i64 (l_szPiece a0 a1)]] := by
  refine sound_of Tryz.func198 rfl (by kernel_rfl) ?_
  simp [Tryz.ntmps198]
  refine callRd rfl rfl rfl rfl (l_szIntS_ok a0.Ints a1) (by simp) (by simp) (by simp) ?_
  simp
  refine condR (c := (decide ((l_szIntS a0.Ints a1) < 0))) (by simp) (fun k1 h1 => ?_) (fun k1 h1 => ?_)
  · have q1 := h1; try simp at q1
    simp
    refine retRd (rv := [.tmp 4]) rfl ?_
    have f1 := l_szPiece.eq_1 a0 a1
    simp only [h1, cond_true, cond_false] at f1
    simp [f1]
  · have q1 := h1; try simp at q1
    simp
    refine retRd (rv := [.tmp 4]) rfl ?_
    have f2 := l_szPiece.eq_1 a0 a1
    simp only [h1, cond_true, cond_false] at f2
    simp [f2]
theorem l_szPieceS_ok (a0 : List TPiece) (a1 : Int) : SoundAt Tryz.prog 177 false [[.sl 3 (a0.map TPiece.row)], [.int .i64 a1]] [[.int .i64 (l_szPieceS a0 a1)]] := by
  refine sound_of Tryz.func177 rfl (by kernel_rfl) ?_
  simp [Tryz.ntmps177]
  refine condR (c := (decide ((W (a1 - (↑a0.length : Int))) < 0))) (by simp) (fun k1 h1 => ?_) (fun k1 h1 => ?_)
  · have q1 := h1; try simp at q1
    simp
    refine retRd (rv := [.tmp 4]) rfl ?_
    have f1 := l_szPieceS.eq_1 a0 a1
    simp only [h1, cond_true, cond_false] at f1
    simp [f1]
  · have q1 := h1; try simp at q1
    simp
    refine okL fun k2 => ?_
    refine loopI (ι := { s : Nat × Int × Nat // l_szPieceS_1 a0 s.1 s.2.1 s.2.2 = l_szPieceS_1 a0 (a0.length + 1) (W (a1 - (↑a0.length : Int))) 0 ∧ (1 ≤ s.1 ∧ a0.length < s.1 + s.2.2 ∧ s.2.2 ≤ a0.length) }) (fun s => stOf 27 [(0, .one (.d (.sl 3 (a0.map TPiece.row))), []), (1, .one (.d (.int .i64 s.1.2.1)), []), (5, .one (.d (.int .i64 (↑s.1.2.2 : Int))), [])]) (fun s => s.1.1) ⟨((a0.length + 1), (W (a1 - (↑a0.length : Int))), 0), rfl, by first | omega | (dsimp only; omega) | simp⟩ (wk_keep (by simp)) ?_
    rintro ⟨⟨n1, v1_0, v1_1⟩, e1, j1⟩
    try dsimp only at e1 j1
    obtain ⟨p1, rfl⟩ : ∃ p, n1 = p + 1 := ⟨n1 - 1, by omega⟩
    simp
    refine condR (c := (decide ((↑v1_1 : Int) < (↑a0.length : Int)))) (by simp) (fun k3 h2 => ?_) (fun k3 h2 => ?_)
    · have q2 := h2; try simp at q2
      have i1 : v1_1 < a0.length := by simpa using h2
      have m2 : a0.length ≤ 9223372036854775807 := by simpa using k3 0 _ rfl
      have w1 : IntKind.i64.wrap ((v1_1 : Int) + 1) = (v1_1 : Int) + 1 := wrap_of (by omega) (by omega)
      simp [i1, rowAt_map]
      repeat ((with_reducible refine And.intro ?_ ?_); focus (intros; omega))
      refine callRd rfl rfl rfl rfl (l_szPiece_ok (nth a0 v1_1) v1_0) (by simp) (by simp) (by simp) ?_
      simp
      refine condR (c := (decide ((l_szPiece (nth a0 v1_1) v1_0) < 0))) (by simp) (fun k4 h3 => ?_) (fun k4 h3 => ?_)
      · have q3 := h3; try simp at q3
        have x1 : l_szPieceS_1 a0 (a0.length + 1) (W (a1 - (↑a0.length : Int))) 0 = .inl (-1) := by rw [← e1]; simp only [l_szPieceS_1, h2, h3, cond_true, cond_false]
        simp
        refine retRd (rv := [.tmp 4]) rfl ?_
        have f2 := l_szPieceS.eq_1 a0 a1
        simp only [h1, x1, cond_true, cond_false] at f2
        simp [f2]
      · have q3 := h3; try simp at q3
        simp
        refine nxtI ⟨(p1, (l_szPiece (nth a0 v1_1) v1_0), (v1_1 + 1)), ?_, ?_⟩ (by simp) (wk_keep (by simp [w1]))
        · rw [← e1]; simp only [l_szPieceS_1, h2, h3, cond_true, cond_false]
        · first | omega | (simp at *; omega)
    · have q2 := h2; try simp at q2
      have x2 : l_szPieceS_1 a0 (a0.length + 1) (W (a1 - (↑a0.length : Int))) 0 = .inr v1_0 := by rw [← e1]; simp only [l_szPieceS_1, h2, cond_true, cond_false]
      simp
      refine retRd (rv := [.tmp 4]) rfl ?_
      have f3 := l_szPieceS.eq_1 a0 a1
      simp only [h1, x2, cond_true, cond_false] at f3
      simp [f3]
theorem l_szStepS_ok (a0 : List TStep) (a1 : Int) : SoundAt Tryz.prog 208 false [[.sl 2 (a0.map TStep.row)], [.int .i64 a1]] [[.int .i64 (l_szStepS a0 a1)]] := by
  refine sound_of Tryz.func208 rfl (by kernel_rfl) ?_
  simp [Tryz.ntmps208]
  refine condR (c := (decide ((W (a1 - (↑a0.length : Int))) < 0))) (by simp) (fun k1 h1 => ?_) (fun k1 h1 => ?_)
  · have q1 := h1; try simp at q1
    simp
    refine retRd (rv := [.tmp 4]) rfl ?_
    have f1 := l_szStepS.eq_1 a0 a1
    simp only [h1, cond_true, cond_false] at f1
    simp [f1]
  · have q1 := h1; try simp at q1
    simp
    refine retRd (rv := [.tmp 4]) rfl ?_
    have f2 := l_szStepS.eq_1 a0 a1
    simp only [h1, cond_true, cond_false] at f2
    simp [f2]
theorem l_szStampS_ok (a0 : List TStamp) (a1 : Int) : SoundAt Tryz.prog 209 false [[.sl 5 (a0.map TStamp.row)], [.int .i64 a1]] [[.int .i64 (l_szStampS a0 a1)]] := by
  refine sound_of Tryz.func209 rfl (by kernel_rfl) ?_
  simp [Tryz.ntmps209]
  refine condR (c := (decide ((W (a1 - (↑a0.length : Int))) < 0))) (by simp) (fun k1 h1 => ?_) (fun k1 h1 => ?_)
  · have q1 := h1; try simp at q1
    simp
    refine retRd (rv := [.tmp 4]) rfl ?_
    have f1 := l_szStampS.eq_1 a0 a1
    simp only [h1, cond_true, cond_false] at f1
    simp [f1]
  · have q1 := h1; try simp at q1
    simp
    refine retRd (rv := [.tmp 4]) rfl ?_
    have f2 := l_szStampS.eq_1 a0 a1
    simp only [h1, cond_true, cond_false] at f2
    simp [f2]
theorem l_szRenewal_ok (a0 : TRenewal) (a1 : Int) : SoundAt Tryz.prog 199 false [a0.row, [.int .i64 a1]] [[.int .i64 (l_szRenewal a0 a1)]] := by
  refine sound_of Tryz.func199 rfl (by kernel_rfl) ?_
  simp [Tryz.ntmps199]
  refine callRd rfl rfl rfl rfl (l_szStepS_ok a0.Path a1) (by simp) (by simp) (by simp) ?_
  simp
  refine condR (c := (decide ((l_szStepS a0.Path a1) < 0))) (by simp) (fun k1 h1 => ?_) (fun k1 h1 => ?_)
  · have q1 := h1; try simp at q1
    simp
    refine retRd (rv := [.tmp 4]) rfl ?_
    have f1 := l_szRenewal.eq_1 a0 a1
    simp only [h1, cond_true, cond_false] at f1
    simp [f1]
  · have q1 := h1; try simp at q1
    simp
    refine callRd rfl rfl rfl rfl (l_szStampS_ok a0.Stamps (l_szStepS a0.Path a1)) (by simp) (by simp) (by simp) ?_
    simp
    refine condR (c := (decide ((l_szStampS a0.Stamps (l_szStepS a0.Path a1)) < 0))) (by simp) (fun k2 h2 => ?_) (fun k2 h2 => ?_)
    · have q2 := h2; try simp at q2
      simp
      refine retRd (rv := [.tmp 4]) rfl ?_
      have f2 := l_szRenewal.eq_1 a0 a1
      simp only [h1, h2, cond_true, cond_false] at f2
      simp [f2]
    · have q2 := h2; try simp at q2
      simp
      refine retRd (rv := [.tmp 4]) rfl ?_
      have f3 := l_szRenewal.eq_1 a0 a1
      simp only [h1, h2, cond_true, cond_false] at f3
      simp [f3]
theorem l_szRenewalS_ok (a0 : List TRenewal) (a1 : Int) : SoundAt Tryz.prog 178 false [[.sl 5 (a0.map TRenewal.row)], [.int .i64 a1]] [[.int .i64 (l_szRenewalS a0 a1)]] := by
  refine sound_of Tryz.func178 rfl (by kernel_rfl) ?_
  simp [Tryz.ntmps178]
  refine condR (c := (decide ((W (a1 - (↑a0.length : Int))) < 0))) (by simp) (fun k1 h1 => ?_) (fun k1 h1 => ?_)
  · have q1 := h1; try simp at q1
    simp
    refine retRd (rv := [.tmp 4]) rfl ?_
    have f1 := l_szRenewalS.eq_1 a0 a1
    simp only [h1, cond_true, cond_false] at f1
    simp [f1]
  · have q1 := h1; try simp at q1
    simp
    refine okL fun k2 => ?_
    refine loopI (ι := { s : Nat × Int × Nat // l_szRenewalS_1 a0 s.1 s.2.1 s.2.2 = l_szRenewalS_1 a0 (a0.length + 1) (W (a1 - (↑a0.length : Int))) 0 ∧ (1 ≤ s.1 ∧ a0.length < s.1 + s.2.2 ∧ s.2.2 ≤ a0.length) }) (fun s => stOf 27 [(0, .one (.d (.sl 5 (a0.map TRenewal.row))), []), (1, .one (.d (.int .i64 s.1.2.1)), []), (5, .one (.d (.int .i64 (↑s.1.2.2 : Int))), [])]) (fun s => s.1.1) ⟨((a0.length + 1), (W (a1 - (↑a0.length : Int))), 0), rfl, by first | omega | (dsimp only; omega) | simp⟩ (wk_keep (by simp)) ?_
    rintro ⟨⟨n1, v1_0, v1_1⟩, e1, j1⟩
    try dsimp only at e1 j1
    obtain ⟨p1, rfl⟩ : ∃ p, n1 = p + 1 := ⟨n1 - 1, by omega⟩
    simp
    refine condR (c := (decide ((↑v1_1 : Int) < (↑a0.length : Int)))) (by simp) (fun k3 h2 => ?_) (fun k3 h2 => ?_)
    · have q2 := h2; try simp at q2
      have i1 : v1_1 < a0.length := by simpa using h2
      have m2 : a0.length ≤ 9223372036854775807 := by simpa using k3 0 _ rfl
      have w1 : IntKind.i64.wrap ((v1_1 : Int) + 1) = (v1_1 : Int) + 1 := wrap_of (by omega) (by omega)
      simp [i1, rowAt_map]
      repeat ((with_reducible refine And.intro ?_ ?_); focus (intros; omega))
      refine callRd rfl rfl rfl rfl (l_szRenewal_ok (nth a0 v1_1) v1_0) (by simp) (by simp) (by simp) ?_
      simp
      refine condR (c := (decide ((l_szRenewal (nth a0 v1_1) v1_0) < 0))) (by simp) (fun k4 h3 => ?_) (fun k4 h3 => ?_)
      · have q3 := h3; try simp at q3
        have x1 : l_szRenewalS_1 a0 (a0.length + 1) (W (a1 - (↑a0.length : Int))) 0 = .inl (-1) := by rw [← e1]; simp only [l_szRenewalS_1, h2, h3, cond_true, cond_false]
        simp
        refine retRd (rv := [.tmp 4]) rfl ?_
        have f2 := l_szRenewalS.eq_1 a0 a1
        simp only [h1, x1, cond_true, cond_false] at f2
        simp [f2]
      · have q3 := h3; try simp at q3
        simp
        refine nxtI ⟨(p1, (l_szRenewal (nth a0 v1_1) v1_0), (v1_1 + 1)), ?_, ?_⟩ (by simp) (wk_keep (by simp [w1]))
        · rw [← e1]; simp only [l_szRenewalS_1, h2, h3, cond_true, cond_false]
        · first | omega | (simp at *; omega)
    · have q2 := h2; try simp at q2
      have x2 : l_szRenewalS_1 a0 (a0.length + 1) (W (a1 - (↑a0.length : Int))) 0 = .inr v1_0 := by rw [← e1]; simp only [l_szRenewalS_1, h2, cond_true, cond_false]
      simp
      refine retRd (rv := [.tmp 4]) rfl ?_
      have f3 := l_szRenewalS.eq_1 a0 a1
      simp only [h1, x2, cond_true, cond_false] at f3
      simp [f3]
theorem l_szStrand_ok (a0 : TStrand) (a1 : Int) : SoundAt Tryz.prog 148 false [a0.row, [.int .i64 a1]] [[.int .i64 (l_szStrand a0 a1)]] := by
  refine sound_of Tryz.func148 rfl (by kernel_rfl) ?_
  simp [Tryz.ntmps148]
  refine callRd rfl rfl rfl rfl (l_szPieceS_ok a0.Pieces a1) (by simp) (by simp) (by simp) ?_
  simp
  refine condR (c := (decide ((l_szPieceS a0.Pieces a1) < 0))) (by simp) (fun k1 h1 => ?_) (fun k1 h1 => ?_)
  · have q1 := h1; try simp at q1
    simp
    refine retRd (rv := [.tmp 4]) rfl ?_
    have f1 := l_szStrand.eq_1 a0 a1
    simp only [h1, cond_true, cond_false] at f1
    simp [f1]
  · have q1 := h1; try simp at q1
    simp
    refine callRd rfl rfl rfl rfl (l_szRenewalS_ok a0.Chain (l_szPieceS a0.Pieces a1)) (by simp) (by simp) (by simp) ?_
    simp
    refine condR (c := (decide ((l_szRenewalS a0.Chain (l_szPieceS a0.Pieces a1)) < 0))) (by simp) (fun k2 h2 => ?_) (fun k2 h2 => ?_)
    · have q2 := h2; try simp at q2
      simp
      refine retRd (rv := [.tmp 4]) rfl ?_
      have f2 := l_szStrand.eq_1 a0 a1
      simp only [h1, h2, cond_true, cond_false] at f2
      simp [f2]
    · have q2 := h2; try simp at q2
      simp
      refine retRd (rv := [.tmp 4]) rfl ?_
      have f3 := l_szStrand.eq_1 a0 a1
      simp only [h1, h2, cond_true, cond_false] at f3
      simp [f3]
theorem l_szItem_ok (a0 : TItem) (a1 : Int) : SoundAt Tryz.prog 117 false [a0.row, [.int .i64 a1]] [[.int .i64 (l_szItem a0 a1)]] := by
  refine sound_of Tryz.func117 rfl (by kernel_rfl) ?_
  simp [Tryz.ntmps117]
  refine callRd rfl rfl rfl rfl (l_szDocument_ok a0.Doc a1) (by simp) (by simp) (by simp) ?_
  simp
  refine condR (c := (decide ((l_szDocument a0.Doc a1) < 0))) (by simp) (fun k1 h1 => ?_) (fun k1 h1 => ?_)
  · have q1 := h1; try simp at q1
    simp
    refine retRd (rv := [.tmp 4]) rfl ?_
    have f1 := l_szItem.eq_1 a0 a1
    simp only [h1, cond_true, cond_false] at f1
    simp [f1]
  · have q1 := h1; try simp at q1
    simp
    refine callRd rfl rfl rfl rfl (l_szStrand_ok a0.Strand (l_szDocument a0.Doc a1)) (by simp) (by simp) (by simp) ?_
    simp
    refine condR (c := (decide ((l_szStrand a0.Strand (l_szDocument a0.Doc a1)) < 0))) (by simp) (fun k2 h2 => ?_) (fun k2 h2 => ?_)
    · have q2 := h2; try simp at q2
      simp
      refine retRd (rv := [.tmp 4]) rfl ?_
      have f2 := l_szItem.eq_1 a0 a1
      simp only [h1, h2, cond_true, cond_false] at f2
      simp [f2]
    · have q2 := h2; try simp at q2
      simp
      refine retRd (rv := [.tmp 4]) rfl ?_
      have f3 := l_szItem.eq_1 a0 a1
      simp only [h1, h2, cond_true, cond_false] at f3
      simp [f3]
theorem l_szItemS_ok (a0 : List TItem) (a1 : Int) : SoundAt Tryz.prog 81 false [[.sl 16 (a0.map TItem.row)], [.int .i64 a1]] [[.int .i64 (l_szItemS a0 a1)]] := by
  refine sound_of Tryz.func81 rfl (by kernel_rfl) ?_
  simp [Tryz.ntmps81]
  refine condR (c := (decide ((W (a1 - (↑a0.length : Int))) < 0))) (by simp) (fun k1 h1 => ?_) (fun k1 h1 => ?_)
  · have q1 := h1; try simp at q1
    simp
    refine retRd (rv := [.tmp 4]) rfl ?_
    have f1 := l_szItemS.eq_1 a0 a1
    simp only [h1, cond_true, cond_false] at f1
    simp [f1]
  · have q1 := h1; try simp at q1
    simp
    refine okL fun k2 => ?_
    refine loopI (ι := { s : Nat × Int × Nat // l_szItemS_1 a0 s.1 s.2.1 s.2.2 = l_szItemS_1 a0 (a0.length + 1) (W (a1 - (↑a0.length : Int))) 0 ∧ (1 ≤ s.1 ∧ a0.length < s.1 + s.2.2 ∧ s.2.2 ≤ a0.length) }) (fun s => stOf 27 [(0, .one (.d (.sl 16 (a0.map TItem.row))), []), (1, .one (.d (.int .i64 s.1.2.1)), []), (5, .one (.d (.int .i64 (↑s.1.2.2 : Int))), [])]) (fun s => s.1.1) ⟨((a0.length + 1), (W (a1 - (↑a0.length : Int))), 0), rfl, by first | omega | (dsimp only; omega) | simp⟩ (wk_keep (by simp)) ?_
    rintro ⟨⟨n1, v1_0, v1_1⟩, e1, j1⟩
    try dsimp only at e1 j1
    obtain ⟨p1, rfl⟩ : ∃ p, n1 = p + 1 := ⟨n1 - 1, by omega⟩
    simp
    refine condR (c := (decide ((↑v1_1 : Int) < (↑a0.length : Int)))) (by simp) (fun k3 h2 => ?_) (fun k3 h2 => ?_)
    · have q2 := h2; try simp at q2
      have i1 : v1_1 < a0.length := by simpa using h2
      have m2 : a0.length ≤ 9223372036854775807 := by simpa using k3 0 _ rfl
      have w1 : IntKind.i64.wrap ((v1_1 : Int) + 1) = (v1_1 : Int) + 1 := wrap_of (by omega) (by omega)
      simp [i1, rowAt_map]
      repeat ((with_reducible refine And.intro ?_ ?_); focus (intros; omega))
      refine callRd rfl rfl rfl rfl (l_szItem_ok (nth a0 v1_1) v1_0) (by simp) (by simp) (by simp) ?_
      simp
      refine condR (c := (decide ((l_szItem (nth a0 v1_1) v1_0) < 0))) (by simp) (fun k4 h3 => ?_) (fun k4 h3 => ?_)
      · have q3 := h3; try simp at q3
        have x1 : l_szItemS_1 a0 (a0.length + 1) (W (a1 - (↑a0.length : Int))) 0 = .inl (-1) := by rw [← e1]; simp only [l_szItemS_1, h2, h3, cond_true, cond_false]
        simp
        refine retRd (rv := [.tmp 4]) rfl ?_
        have f2 := l_szItemS.eq_1 a0 a1
        simp only [h1, x1, cond_true, cond_false] at f2
        simp [f2]
      · have q3 := h3; try simp at q3
        simp
        refine nxtI ⟨(p1, (l_szItem (nth a0 v1_1) v1_0), (v1_1 + 1)), ?_, ?_⟩ (by simp) (wk_keep (by simp [w1]))
        · rw [← e1]; simp only [l_szItemS_1, h2, h3, cond_true, cond_false]
        · first | omega | (simp at *; omega)
    · have q2 := h2; try simp at q2
      have x2 : l_szItemS_1 a0 (a0.length + 1) (W (a1 - (↑a0.length : Int))) 0 = .inr v1_0 := by rw [← e1]; simp only [l_szItemS_1, h2, cond_true, cond_false]
      simp
      refine retRd (rv := [.tmp 4]) rfl ?_
      have f3 := l_szItemS.eq_1 a0 a1
      simp only [h1, x2, cond_true, cond_false] at f3
      simp [f3]
theorem l_szArchive_ok (a0 : TArchive) (a1 : Int) : SoundAt Tryz.prog 45 false [a0.row, [.int .i64 a1]] [[.int .i64 (l_szArchive a0 a1)]] := by
  refine sound_of Tryz.func45 rfl (by kernel_rfl) ?_
  simp [Tryz.ntmps45]
  refine callRd rfl rfl rfl rfl (l_szItemS_ok a0.Items a1) (by simp) (by simp) (by simp) ?_
  simp
  refine condR (c := (decide ((l_szItemS a0.Items a1) < 0))) (by simp) (fun k1 h1 => ?_) (fun k1 h1 => ?_)
  · have q1 := h1; try simp at q1
    simp
    refine retRd (rv := [.tmp 4]) rfl ?_
    have f1 := l_szArchive.eq_1 a0 a1
    simp only [h1, cond_true, cond_false] at f1
    simp [f1]
  · have q1 := h1; try simp at q1
    simp
    refine retRd (rv := [.tmp 4]) rfl ?_
    have f2 := l_szArchive.eq_1 a0 a1
    simp only [h1, cond_true, cond_false] at f2
    simp [f2]
theorem l_szArchiveS_ok (a0 : List TArchive) (a1 : Int) : SoundAt Tryz.prog 15 false [[.sl 2 (a0.map TArchive.row)], [.int .i64 a1]] [[.int .i64 (l_szArchiveS a0 a1)]] := by
  refine sound_of Tryz.func15 rfl (by kernel_rfl) ?_
  simp [Tryz.ntmps15]
  refine condR (c := (decide ((W (a1 - (↑a0.length : Int))) < 0))) (by simp) (fun k1 h1 => ?_) (fun k1 h1 => ?_)
  · have q1 := h1; try simp at q1
    simp
    refine retRd (rv := [.tmp 4]) rfl ?_
    have f1 := l_szArchiveS.eq_1 a0 a1
    simp only [h1, cond_true, cond_false] at f1
    simp [f1]
  · have q1 := h1; try simp at q1
    simp
    refine okL fun k2 => ?_
    refine loopI (ι := { s : Nat × Int × Nat // l_szArchiveS_1 a0 s.1 s.2.1 s.2.2 = l_szArchiveS_1 a0 (a0.length + 1) (W (a1 - (↑a0.length : Int))) 0 ∧ (1 ≤ s.1 ∧ a0.length < s.1 + s.2.2 ∧ s.2.2 ≤ a0.length) }) (fun s => stOf 27 [(0, .one (.d (.sl 2 (a0.map TArchive.row))), []), (1, .one (.d (.int .i64 s.1.2.1)), []), (5, .one (.d (.int .i64 (↑s.1.2.2 : Int))), [])]) (fun s => s.1.1) ⟨((a0.length + 1), (W (a1 - (↑a0.length : Int))), 0), rfl, by first | omega | (dsimp only; omega) | simp⟩ (wk_keep (by simp)) ?_
    rintro ⟨⟨n1, v1_0, v1_1⟩, e1, j1⟩
    try dsimp only at e1 j1
    obtain ⟨p1, rfl⟩ : ∃ p, n1 = p + 1 := ⟨n1 - 1, by omega⟩
    simp
    refine condR (c := (decide ((↑v1_1 : Int) < (↑a0.length : Int)))) (by simp) (fun k3 h2 => ?_) (fun k3 h2 => ?_)
    · have q2 := h2; try simp at q2
      have i1 : v1_1 < a0.length := by simpa using h2
      have m2 : a0.length ≤ 9223372036854775807 := by simpa using k3 0 _ rfl
      have w1 : IntKind.i64.wrap ((v1_1 : Int) + 1) = (v1_1 : Int) + 1 := wrap_of (by omega) (by omega)
      simp [i1, rowAt_map]
      repeat ((with_reducible refine And.intro ?_ ?_); focus (intros; omega))
      refine callRd rfl rfl rfl rfl (l_szArchive_ok (nth a0 v1_1) v1_0) (by simp) (by simp) (by simp) ?_
      simp
      refine condR (c := (decide ((l_szArchive (nth a0 v1_1) v1_0) < 0))) (by simp) (fun k4 h3 => ?_) (fun k4 h3 => ?_)
      · have q3 := h3; try simp at q3
        have x1 : l_szArchiveS_1 a0 (a0.length + 1) (W (a1 - (↑a0.length : Int))) 0 = .inl (-1) := by rw [← e1]; simp only [l_szArchiveS_1, h2, h3, cond_true, cond_false]
        simp
        refine retRd (rv := [.tmp 4]) rfl ?_
        have f2 := l_szArchiveS.eq_1 a0 a1
        simp only [h1, x1, cond_true, cond_false] at f2
        simp [f2]
      · have q3 := h3; try simp at q3
        simp
        refine nxtI ⟨(p1, (l_szArchive (nth a0 v1_1) v1_0), (v1_1 + 1)), ?_, ?_⟩ (by simp) (wk_keep (by simp [w1]))
        · rw [← e1]; simp only [l_szArchiveS_1, h2, h3, cond_true, cond_false]
        · first | omega | (simp at *; omega)
    · have q2 := h2; try simp at q2
      have x2 : l_szArchiveS_1 a0 (a0.length + 1) (W (a1 - (↑a0.length : Int))) 0 = .inr v1_0 := by rw [← e1]; simp only [l_szArchiveS_1, h2, cond_true, cond_false]
      simp
      refine retRd (rv := [.tmp 4]) rfl ?_
      have f3 := l_szArchiveS.eq_1 a0 a1
      simp only [h1, x2, cond_true, cond_false] at f3
      simp [f3]
theorem l_szWorld_ok (a0 : TWorld) (a1 : Int) : SoundAt Tryz.prog 5 false [a0.row, [.int .i64 a1]] [[.int .i64 (l_szWorld a0 a1)]] := by
  refine sound_of Tryz.func5 rfl (by kernel_rfl) ?_
  simp [Tryz.ntmps5]
  refine callRd rfl rfl rfl rfl (l_szFrame_ok a0.Frame a1) (by simp) (by simp) (by simp) ?_
  simp
  refine condR (c := (decide ((l_szFrame a0.Frame a1) < 0))) (by simp) (fun k1 h1 => ?_) (fun k1 h1 => ?_)
  · have q1 := h1; try simp at q1
    simp
    refine retRd (rv := [.tmp 4]) rfl ?_
    have f1 := l_szWorld.eq_1 a0 a1
    simp only [h1, cond_true, cond_false] at f1
    simp [f1]
  · have q1 := h1; try simp at q1
    simp
    refine callRd rfl rfl rfl rfl (l_szCertS_ok a0.Certs (l_szFrame a0.Frame a1)) (by simp) (by simp) (by simp) ?_
    simp
    refine condR (c := (decide ((l_szCertS a0.Certs (l_szFrame a0.Frame a1)) < 0))) (by simp) (fun k2 h2 => ?_) (fun k2 h2 => ?_)
    · have q2 := h2; try simp at q2
      simp
      refine retRd (rv := [.tmp 4]) rfl ?_
      have f2 := l_szWorld.eq_1 a0 a1
      simp only [h1, h2, cond_true, cond_false] at f2
      simp [f2]
    · have q2 := h2; try simp at q2
      simp
      refine callRd rfl rfl rfl rfl (l_szIntS_ok a0.Ended (l_szCertS a0.Certs (l_szFrame a0.Frame a1))) (by simp) (by simp) (by simp) ?_
      simp
      refine condR (c := (decide ((l_szIntS a0.Ended (l_szCertS a0.Certs (l_szFrame a0.Frame a1))) < 0))) (by simp) (fun k3 h3 => ?_) (fun k3 h3 => ?_)
      · have q3 := h3; try simp at q3
        simp
        refine retRd (rv := [.tmp 4]) rfl ?_
        have f3 := l_szWorld.eq_1 a0 a1
        simp only [h1, h2, h3, cond_true, cond_false] at f3
        simp [f3]
      · have q3 := h3; try simp at q3
        simp
        refine callRd rfl rfl rfl rfl (l_szArchiveS_ok a0.Archives (l_szIntS a0.Ended (l_szCertS a0.Certs (l_szFrame a0.Frame a1)))) (by simp) (by simp) (by simp) ?_
        simp
        refine condR (c := (decide ((l_szArchiveS a0.Archives (l_szIntS a0.Ended (l_szCertS a0.Certs (l_szFrame a0.Frame a1)))) < 0))) (by simp) (fun k4 h4 => ?_) (fun k4 h4 => ?_)
        · have q4 := h4; try simp at q4
          simp
          refine retRd (rv := [.tmp 4]) rfl ?_
          have f4 := l_szWorld.eq_1 a0 a1
          simp only [h1, h2, h3, h4, cond_true, cond_false] at f4
          simp [f4]
        · have q4 := h4; try simp at q4
          simp
          refine callRd rfl rfl rfl rfl (l_szIntS_ok a0.Seqs (l_szArchiveS a0.Archives (l_szIntS a0.Ended (l_szCertS a0.Certs (l_szFrame a0.Frame a1))))) (by simp) (by simp) (by simp) ?_
          simp
          refine condR (c := (decide ((l_szIntS a0.Seqs (l_szArchiveS a0.Archives (l_szIntS a0.Ended (l_szCertS a0.Certs (l_szFrame a0.Frame a1))))) < 0))) (by simp) (fun k5 h5 => ?_) (fun k5 h5 => ?_)
          · have q5 := h5; try simp at q5
            simp
            refine retRd (rv := [.tmp 4]) rfl ?_
            have f5 := l_szWorld.eq_1 a0 a1
            simp only [h1, h2, h3, h4, h5, cond_true, cond_false] at f5
            simp [f5]
          · have q5 := h5; try simp at q5
            simp
            refine callRd rfl rfl rfl rfl (l_szIntS_ok a0.Lying (l_szIntS a0.Seqs (l_szArchiveS a0.Archives (l_szIntS a0.Ended (l_szCertS a0.Certs (l_szFrame a0.Frame a1)))))) (by simp) (by simp) (by simp) ?_
            simp
            refine condR (c := (decide ((l_szIntS a0.Lying (l_szIntS a0.Seqs (l_szArchiveS a0.Archives (l_szIntS a0.Ended (l_szCertS a0.Certs (l_szFrame a0.Frame a1)))))) < 0))) (by simp) (fun k6 h6 => ?_) (fun k6 h6 => ?_)
            · have q6 := h6; try simp at q6
              simp
              refine retRd (rv := [.tmp 4]) rfl ?_
              have f6 := l_szWorld.eq_1 a0 a1
              simp only [h1, h2, h3, h4, h5, h6, cond_true, cond_false] at f6
              simp [f6]
            · have q6 := h6; try simp at q6
              simp
              refine callRd rfl rfl rfl rfl (l_szIntS_ok a0.Forged (l_szIntS a0.Lying (l_szIntS a0.Seqs (l_szArchiveS a0.Archives (l_szIntS a0.Ended (l_szCertS a0.Certs (l_szFrame a0.Frame a1))))))) (by simp) (by simp) (by simp) ?_
              simp
              refine condR (c := (decide ((l_szIntS a0.Forged (l_szIntS a0.Lying (l_szIntS a0.Seqs (l_szArchiveS a0.Archives (l_szIntS a0.Ended (l_szCertS a0.Certs (l_szFrame a0.Frame a1))))))) < 0))) (by simp) (fun k7 h7 => ?_) (fun k7 h7 => ?_)
              · have q7 := h7; try simp at q7
                simp
                refine retRd (rv := [.tmp 4]) rfl ?_
                have f7 := l_szWorld.eq_1 a0 a1
                simp only [h1, h2, h3, h4, h5, h6, h7, cond_true, cond_false] at f7
                simp [f7]
              · have q7 := h7; try simp at q7
                simp
                refine retRd (rv := [.tmp 4]) rfl ?_
                have f8 := l_szWorld.eq_1 a0 a1
                simp only [h1, h2, h3, h4, h5, h6, h7, cond_true, cond_false] at f8
                simp [f8]
theorem l_toKey_ok (a0 : TKey) : SoundAt Tryz.prog 89 false [a0.row] [(l_toKey a0).row] := by
  refine sound_of Tryz.func89 rfl (by kernel_rfl) ?_
  simp [Tryz.ntmps89]
  refine retRd (rv := [.cell 2 127]) rfl ?_
  have f1 := l_toKey.eq_1 a0
  simp [f1]
theorem l_toKeyS_ok (a0 : List TKey) (u0 : Sm 2338816 a0) : SoundAt Tryz.prog 55 true [[.sl 5 (a0.map TKey.row)]] [[.sl 5 ((l_toKeyS a0).map TKey.row)]] := by
  refine sound_of Tryz.func55 rfl (by kernel_rfl) ?_
  have c1 : a0.length ≤ 2338816 := sm_len (by simp (maxDischargeDepth := 12) [u0])
  simp [Tryz.ntmps55]
  repeat ((with_reducible refine And.intro ?_ ?_); focus (intros; omega))
  refine okL fun k1 => ?_
  refine loopI (ι := { s : Nat × Nat × (List TKey) // l_toKeyS_1 a0 s.1 s.2.1 s.2.2 = l_toKeyS_1 a0 (a0.length + 1) 0 (List.replicate a0.length (TKey.mk 0 0 0 0 0)) ∧ (1 ≤ s.1 ∧ a0.length < s.1 + s.2.1 ∧ s.2.1 ≤ a0.length ∧ s.2.2.length = a0.length) }) (fun s => stOf 23 [(0, .one (.d (.sl 5 (a0.map TKey.row))), []), (3, .one (.sref 7 0 0 s.1.2.2.length), []), (4, .one (.d (.int .i64 (↑s.1.2.1 : Int))), []), (7, .any, [.arr false 5 (s.1.2.2.map TKey.row)])]) (fun s => s.1.1) ⟨((a0.length + 1), 0, (List.replicate a0.length (TKey.mk 0 0 0 0 0))), rfl, by first | omega | (dsimp only; omega) | simp⟩ (wk_keep (by simp)) ?_
  rintro ⟨⟨n1, v1_0, v1_1⟩, e1, j1⟩
  try dsimp only at e1 j1
  obtain ⟨p1, rfl⟩ : ∃ p, n1 = p + 1 := ⟨n1 - 1, by omega⟩
  simp
  refine condR (c := (decide ((↑v1_0 : Int) < (↑a0.length : Int)))) (by simp) (fun k2 h1 => ?_) (fun k2 h1 => ?_)
  · have q1 := h1; try simp at q1
    have i1 : v1_0 < a0.length := by simpa using h1
    have m2 : a0.length ≤ 9223372036854775807 := by simpa using k2 0 _ rfl
    have w1 : IntKind.i64.wrap ((v1_0 : Int) + 1) = (v1_0 : Int) + 1 := wrap_of (by omega) (by omega)
    simp [i1, rowAt_map]
    repeat ((with_reducible refine And.intro ?_ ?_); focus (intros; omega))
    refine callRd rfl rfl rfl rfl (l_toKey_ok (nth a0 v1_0)) (by simp) (by simp) (by simp) ?_
    have i2 : v1_0 < v1_1.length := by omega
    simp [i2, rowAt_map, set_map (x := (l_toKey (nth a0 v1_0))) rfl]
    repeat ((with_reducible refine And.intro ?_ ?_); focus (intros; omega))
    refine nxtI ⟨(p1, (v1_0 + 1), (v1_1.set v1_0 (l_toKey (nth a0 v1_0)))), ?_, ?_⟩ (by simp) (wk_keep (by simp [w1]))
    · rw [← e1]; simp only [l_toKeyS_1, h1, cond_true, cond_false]
    · first | omega | (simp at *; omega)
  · have q1 := h1; try simp at q1
    have x1 : l_toKeyS_1 a0 (a0.length + 1) 0 (List.replicate a0.length (TKey.mk 0 0 0 0 0)) = v1_1 := by rw [← e1]; simp only [l_toKeyS_1, h1, cond_true, cond_false]
    simp
    refine retOwn (rv := [.tmp 2]) rfl ?_
    have f1 := l_toKeyS.eq_1 a0
    simp only [x1, cond_true, cond_false] at f1
    simp [f1]
theorem l_toAuthority_ok (a0 : TAuthority) : SoundAt Tryz.prog 90 false [a0.row] [(l_toAuthority a0).row] := by
  refine sound_of Tryz.func90 rfl (by kernel_rfl) ?_
  simp [Tryz.ntmps90]
  refine retRd (rv := [.cell 2 96]) rfl ?_
  have f1 := l_toAuthority.eq_1 a0
  simp [f1]
theorem l_toAuthorityS_ok (a0 : List TAuthority) (u0 : Sm 2338816 a0) : SoundAt Tryz.prog 56 true [[.sl 3 (a0.map TAuthority.row)]] [[.sl 3 ((l_toAuthorityS a0).map TAuthority.row)]] := by
  refine sound_of Tryz.func56 rfl (by kernel_rfl) ?_
  have c1 : a0.length ≤ 2338816 := sm_len (by simp (maxDischargeDepth := 12) [u0])
  simp [Tryz.ntmps56]
  repeat ((with_reducible refine And.intro ?_ ?_); focus (intros; omega))
  refine okL fun k1 => ?_
  refine loopI (ι := { s : Nat × Nat × (List TAuthority) // l_toAuthorityS_1 a0 s.1 s.2.1 s.2.2 = l_toAuthorityS_1 a0 (a0.length + 1) 0 (List.replicate a0.length (TAuthority.mk 0 0 0)) ∧ (1 ≤ s.1 ∧ a0.length < s.1 + s.2.1 ∧ s.2.1 ≤ a0.length ∧ s.2.2.length = a0.length) }) (fun s => stOf 23 [(0, .one (.d (.sl 3 (a0.map TAuthority.row))), []), (3, .one (.sref 7 0 0 s.1.2.2.length), []), (4, .one (.d (.int .i64 (↑s.1.2.1 : Int))), []), (7, .any, [.arr false 3 (s.1.2.2.map TAuthority.row)])]) (fun s => s.1.1) ⟨((a0.length + 1), 0, (List.replicate a0.length (TAuthority.mk 0 0 0))), rfl, by first | omega | (dsimp only; omega) | simp⟩ (wk_keep (by simp)) ?_
  rintro ⟨⟨n1, v1_0, v1_1⟩, e1, j1⟩
  try dsimp only at e1 j1
  obtain ⟨p1, rfl⟩ : ∃ p, n1 = p + 1 := ⟨n1 - 1, by omega⟩
  simp
  refine condR (c := (decide ((↑v1_0 : Int) < (↑a0.length : Int)))) (by simp) (fun k2 h1 => ?_) (fun k2 h1 => ?_)
  · have q1 := h1; try simp at q1
    have i1 : v1_0 < a0.length := by simpa using h1
    have m2 : a0.length ≤ 9223372036854775807 := by simpa using k2 0 _ rfl
    have w1 : IntKind.i64.wrap ((v1_0 : Int) + 1) = (v1_0 : Int) + 1 := wrap_of (by omega) (by omega)
    simp [i1, rowAt_map]
    repeat ((with_reducible refine And.intro ?_ ?_); focus (intros; omega))
    refine callRd rfl rfl rfl rfl (l_toAuthority_ok (nth a0 v1_0)) (by simp) (by simp) (by simp) ?_
    have i2 : v1_0 < v1_1.length := by omega
    simp [i2, rowAt_map, set_map (x := (l_toAuthority (nth a0 v1_0))) rfl]
    repeat ((with_reducible refine And.intro ?_ ?_); focus (intros; omega))
    refine nxtI ⟨(p1, (v1_0 + 1), (v1_1.set v1_0 (l_toAuthority (nth a0 v1_0)))), ?_, ?_⟩ (by simp) (wk_keep (by simp [w1]))
    · rw [← e1]; simp only [l_toAuthorityS_1, h1, cond_true, cond_false]
    · first | omega | (simp at *; omega)
  · have q1 := h1; try simp at q1
    have x1 : l_toAuthorityS_1 a0 (a0.length + 1) 0 (List.replicate a0.length (TAuthority.mk 0 0 0)) = v1_1 := by rw [← e1]; simp only [l_toAuthorityS_1, h1, cond_true, cond_false]
    simp
    refine retOwn (rv := [.tmp 2]) rfl ?_
    have f1 := l_toAuthorityS.eq_1 a0
    simp only [x1, cond_true, cond_false] at f1
    simp [f1]
theorem l_toMethod_ok (a0 : TMethod) : SoundAt Tryz.prog 91 false [a0.row] [(l_toMethod a0).row] := by
  refine sound_of Tryz.func91 rfl (by kernel_rfl) ?_
  simp [Tryz.ntmps91]
  refine retRd (rv := [.cell 2 130]) rfl ?_
  have f1 := l_toMethod.eq_1 a0
  simp [f1]
theorem l_toMethodS_ok (a0 : List TMethod) (u0 : Sm 2338816 a0) : SoundAt Tryz.prog 57 true [[.sl 4 (a0.map TMethod.row)]] [[.sl 4 ((l_toMethodS a0).map TMethod.row)]] := by
  refine sound_of Tryz.func57 rfl (by kernel_rfl) ?_
  have c1 : a0.length ≤ 2338816 := sm_len (by simp (maxDischargeDepth := 12) [u0])
  simp [Tryz.ntmps57]
  repeat ((with_reducible refine And.intro ?_ ?_); focus (intros; omega))
  refine okL fun k1 => ?_
  refine loopI (ι := { s : Nat × Nat × (List TMethod) // l_toMethodS_1 a0 s.1 s.2.1 s.2.2 = l_toMethodS_1 a0 (a0.length + 1) 0 (List.replicate a0.length (TMethod.mk 0 0 0 0)) ∧ (1 ≤ s.1 ∧ a0.length < s.1 + s.2.1 ∧ s.2.1 ≤ a0.length ∧ s.2.2.length = a0.length) }) (fun s => stOf 23 [(0, .one (.d (.sl 4 (a0.map TMethod.row))), []), (3, .one (.sref 7 0 0 s.1.2.2.length), []), (4, .one (.d (.int .i64 (↑s.1.2.1 : Int))), []), (7, .any, [.arr false 4 (s.1.2.2.map TMethod.row)])]) (fun s => s.1.1) ⟨((a0.length + 1), 0, (List.replicate a0.length (TMethod.mk 0 0 0 0))), rfl, by first | omega | (dsimp only; omega) | simp⟩ (wk_keep (by simp)) ?_
  rintro ⟨⟨n1, v1_0, v1_1⟩, e1, j1⟩
  try dsimp only at e1 j1
  obtain ⟨p1, rfl⟩ : ∃ p, n1 = p + 1 := ⟨n1 - 1, by omega⟩
  simp
  refine condR (c := (decide ((↑v1_0 : Int) < (↑a0.length : Int)))) (by simp) (fun k2 h1 => ?_) (fun k2 h1 => ?_)
  · have q1 := h1; try simp at q1
    have i1 : v1_0 < a0.length := by simpa using h1
    have m2 : a0.length ≤ 9223372036854775807 := by simpa using k2 0 _ rfl
    have w1 : IntKind.i64.wrap ((v1_0 : Int) + 1) = (v1_0 : Int) + 1 := wrap_of (by omega) (by omega)
    simp [i1, rowAt_map]
    repeat ((with_reducible refine And.intro ?_ ?_); focus (intros; omega))
    refine callRd rfl rfl rfl rfl (l_toMethod_ok (nth a0 v1_0)) (by simp) (by simp) (by simp) ?_
    have i2 : v1_0 < v1_1.length := by omega
    simp [i2, rowAt_map, set_map (x := (l_toMethod (nth a0 v1_0))) rfl]
    repeat ((with_reducible refine And.intro ?_ ?_); focus (intros; omega))
    refine nxtI ⟨(p1, (v1_0 + 1), (v1_1.set v1_0 (l_toMethod (nth a0 v1_0)))), ?_, ?_⟩ (by simp) (wk_keep (by simp [w1]))
    · rw [← e1]; simp only [l_toMethodS_1, h1, cond_true, cond_false]
    · first | omega | (simp at *; omega)
  · have q1 := h1; try simp at q1
    have x1 : l_toMethodS_1 a0 (a0.length + 1) 0 (List.replicate a0.length (TMethod.mk 0 0 0 0)) = v1_1 := by rw [← e1]; simp only [l_toMethodS_1, h1, cond_true, cond_false]
    simp
    refine retOwn (rv := [.tmp 2]) rfl ?_
    have f1 := l_toMethodS.eq_1 a0
    simp only [x1, cond_true, cond_false] at f1
    simp [f1]
theorem l_toFrame_ok (a0 : TFrame) (u0 : Sm 2334720 a0) : SoundAt Tryz.prog 20 true [a0.row] [(l_toFrame a0).row] := by
  refine sound_of Tryz.func20 rfl (by kernel_rfl) ?_
  simp [Tryz.ntmps20]
  refine callOwn rfl rfl rfl rfl (l_toKeyS_ok a0.Keys (sm_mono (n := 2334720) (by decide) (by simp (maxDischargeDepth := 12) [u0]))) (by simp) (by simp) (by simp) (by simp) ?_
  simp
  refine callOwn rfl rfl rfl rfl (l_toAuthorityS_ok a0.Authorities (sm_mono (n := 2334720) (by decide) (by simp (maxDischargeDepth := 12) [u0]))) (by simp) (by simp) (by simp) (by simp) ?_
  simp
  refine callOwn rfl rfl rfl rfl (l_toMethodS_ok a0.Methods (sm_mono (n := 2334720) (by decide) (by simp (maxDischargeDepth := 12) [u0]))) (by simp) (by simp) (by simp) (by simp) ?_
  simp
  refine retOwn (rv := [.cell 2 38]) rfl ?_
  have f1 := l_toFrame.eq_1 a0
  simp [f1]
theorem l_toCert_ok (a0 : TCert) : SoundAt Tryz.prog 58 false [a0.row] [(l_toCert a0).row] := by
  refine sound_of Tryz.func58 rfl (by kernel_rfl) ?_
  simp [Tryz.ntmps58]
  refine retRd (rv := [.cell 2 61]) rfl ?_
  have f1 := l_toCert.eq_1 a0
  simp [f1]
theorem l_toCertS_ok (a0 : List TCert) (u0 : Sm 2338816 a0) : SoundAt Tryz.prog 21 true [[.sl 7 (a0.map TCert.row)]] [[.sl 7 ((l_toCertS a0).map TCert.row)]] := by
  refine sound_of Tryz.func21 rfl (by kernel_rfl) ?_
  have c1 : a0.length ≤ 2338816 := sm_len (by simp (maxDischargeDepth := 12) [u0])
  simp [Tryz.ntmps21]
  repeat ((with_reducible refine And.intro ?_ ?_); focus (intros; omega))
  refine okL fun k1 => ?_
  refine loopI (ι := { s : Nat × Nat × (List TCert) // l_toCertS_1 a0 s.1 s.2.1 s.2.2 = l_toCertS_1 a0 (a0.length + 1) 0 (List.replicate a0.length (TCert.mk 0 0 0 0 0 0 0)) ∧ (1 ≤ s.1 ∧ a0.length < s.1 + s.2.1 ∧ s.2.1 ≤ a0.length ∧ s.2.2.length = a0.length) }) (fun s => stOf 23 [(0, .one (.d (.sl 7 (a0.map TCert.row))), []), (3, .one (.sref 7 0 0 s.1.2.2.length), []), (4, .one (.d (.int .i64 (↑s.1.2.1 : Int))), []), (7, .any, [.arr false 7 (s.1.2.2.map TCert.row)])]) (fun s => s.1.1) ⟨((a0.length + 1), 0, (List.replicate a0.length (TCert.mk 0 0 0 0 0 0 0))), rfl, by first | omega | (dsimp only; omega) | simp⟩ (wk_keep (by simp)) ?_
  rintro ⟨⟨n1, v1_0, v1_1⟩, e1, j1⟩
  try dsimp only at e1 j1
  obtain ⟨p1, rfl⟩ : ∃ p, n1 = p + 1 := ⟨n1 - 1, by omega⟩
  simp
  refine condR (c := (decide ((↑v1_0 : Int) < (↑a0.length : Int)))) (by simp) (fun k2 h1 => ?_) (fun k2 h1 => ?_)
  · have q1 := h1; try simp at q1
    have i1 : v1_0 < a0.length := by simpa using h1
    have m2 : a0.length ≤ 9223372036854775807 := by simpa using k2 0 _ rfl
    have w1 : IntKind.i64.wrap ((v1_0 : Int) + 1) = (v1_0 : Int) + 1 := wrap_of (by omega) (by omega)
    simp [i1, rowAt_map]
    repeat ((with_reducible refine And.intro ?_ ?_); focus (intros; omega))
    refine callRd rfl rfl rfl rfl (l_toCert_ok (nth a0 v1_0)) (by simp) (by simp) (by simp) ?_
    have i2 : v1_0 < v1_1.length := by omega
    simp [i2, rowAt_map, set_map (x := (l_toCert (nth a0 v1_0))) rfl]
    repeat ((with_reducible refine And.intro ?_ ?_); focus (intros; omega))
    refine nxtI ⟨(p1, (v1_0 + 1), (v1_1.set v1_0 (l_toCert (nth a0 v1_0)))), ?_, ?_⟩ (by simp) (wk_keep (by simp [w1]))
    · rw [← e1]; simp only [l_toCertS_1, h1, cond_true, cond_false]
    · first | omega | (simp at *; omega)
  · have q1 := h1; try simp at q1
    have x1 : l_toCertS_1 a0 (a0.length + 1) 0 (List.replicate a0.length (TCert.mk 0 0 0 0 0 0 0)) = v1_1 := by rw [← e1]; simp only [l_toCertS_1, h1, cond_true, cond_false]
    simp
    refine retOwn (rv := [.tmp 2]) rfl ?_
    have f1 := l_toCertS.eq_1 a0
    simp only [x1, cond_true, cond_false] at f1
    simp [f1]
theorem l_toIntS_ok (a0 : List Int) (u0 : Sm 2342912 a0) : SoundAt Tryz.prog 22 true [[.sl 1 (a0.map iR)]] [[.sl 1 ((l_toIntS a0).map iR)]] := by
  refine sound_of Tryz.func22 rfl (by kernel_rfl) ?_
  have c1 : a0.length ≤ 2342912 := sm_len (by simp (maxDischargeDepth := 12) [u0])
  simp [Tryz.ntmps22]
  repeat ((with_reducible refine And.intro ?_ ?_); focus (intros; omega))
  refine okL fun k1 => ?_
  refine loopI (ι := { s : Nat × Nat × (List Int) // l_toIntS_1 a0 s.1 s.2.1 s.2.2 = l_toIntS_1 a0 (a0.length + 1) 0 (List.replicate a0.length 0) ∧ (1 ≤ s.1 ∧ a0.length < s.1 + s.2.1 ∧ s.2.1 ≤ a0.length ∧ s.2.2.length = a0.length) }) (fun s => stOf 22 [(0, .one (.d (.sl 1 (a0.map iR))), []), (3, .one (.sref 7 0 0 s.1.2.2.length), []), (4, .one (.d (.int .i64 (↑s.1.2.1 : Int))), []), (7, .any, [.arr false 1 (s.1.2.2.map iR)])]) (fun s => s.1.1) ⟨((a0.length + 1), 0, (List.replicate a0.length 0)), rfl, by first | omega | (dsimp only; omega) | simp⟩ (wk_keep (by simp)) ?_
  rintro ⟨⟨n1, v1_0, v1_1⟩, e1, j1⟩
  try dsimp only at e1 j1
  obtain ⟨p1, rfl⟩ : ∃ p, n1 = p + 1 := ⟨n1 - 1, by omega⟩
  simp
  refine condR (c := (decide ((↑v1_0 : Int) < (↑a0.length : Int)))) (by simp) (fun k2 h1 => ?_) (fun k2 h1 => ?_)
  · have q1 := h1; try simp at q1
    have i1 : v1_0 < a0.length := by simpa using h1
    have m2 : a0.length ≤ 9223372036854775807 := by simpa using k2 0 _ rfl
    have w1 : IntKind.i64.wrap ((v1_0 : Int) + 1) = (v1_0 : Int) + 1 := wrap_of (by omega) (by omega)
    have i2 : v1_0 < v1_1.length := by omega
    simp [i1, rowAt_map, i2, set_map (x := (nth a0 v1_0)) rfl]
    repeat ((with_reducible refine And.intro ?_ ?_); focus (intros; omega))
    refine nxtI ⟨(p1, (v1_0 + 1), (v1_1.set v1_0 (nth a0 v1_0))), ?_, ?_⟩ (by simp) (wk_keep (by simp [w1]))
    · rw [← e1]; simp only [l_toIntS_1, h1, cond_true, cond_false]
    · first | omega | (simp at *; omega)
  · have q1 := h1; try simp at q1
    have x1 : l_toIntS_1 a0 (a0.length + 1) 0 (List.replicate a0.length 0) = v1_1 := by rw [← e1]; simp only [l_toIntS_1, h1, cond_true, cond_false]
    simp
    refine retOwn (rv := [.tmp 2]) rfl ?_
    have f1 := l_toIntS.eq_1 a0
    simp only [x1, cond_true, cond_false] at f1
    simp [f1]
theorem l_toStringS_ok (a0 : List ByteArray) (u0 : Sm 2342912 a0) : SoundAt Tryz.prog 179 true [[.sl 1 (a0.map sR)]] [[.sl 1 ((l_toStringS a0).map sR)]] := by
  refine sound_of Tryz.func179 rfl (by kernel_rfl) ?_
  have c1 : a0.length ≤ 2342912 := sm_len (by simp (maxDischargeDepth := 12) [u0])
  simp [Tryz.ntmps179]
  repeat ((with_reducible refine And.intro ?_ ?_); focus (intros; omega))
  refine okL fun k1 => ?_
  refine loopI (ι := { s : Nat × Nat × (List ByteArray) // l_toStringS_1 a0 s.1 s.2.1 s.2.2 = l_toStringS_1 a0 (a0.length + 1) 0 (List.replicate a0.length (⟨#[]⟩ : ByteArray)) ∧ (1 ≤ s.1 ∧ a0.length < s.1 + s.2.1 ∧ s.2.1 ≤ a0.length ∧ s.2.2.length = a0.length) }) (fun s => stOf 22 [(0, .one (.d (.sl 1 (a0.map sR))), []), (3, .one (.sref 7 0 0 s.1.2.2.length), []), (4, .one (.d (.int .i64 (↑s.1.2.1 : Int))), []), (7, .any, [.arr false 1 (s.1.2.2.map sR)])]) (fun s => s.1.1) ⟨((a0.length + 1), 0, (List.replicate a0.length (⟨#[]⟩ : ByteArray))), rfl, by first | omega | (dsimp only; omega) | simp⟩ (wk_keep (by simp)) ?_
  rintro ⟨⟨n1, v1_0, v1_1⟩, e1, j1⟩
  try dsimp only at e1 j1
  obtain ⟨p1, rfl⟩ : ∃ p, n1 = p + 1 := ⟨n1 - 1, by omega⟩
  simp
  refine condR (c := (decide ((↑v1_0 : Int) < (↑a0.length : Int)))) (by simp) (fun k2 h1 => ?_) (fun k2 h1 => ?_)
  · have q1 := h1; try simp at q1
    have i1 : v1_0 < a0.length := by simpa using h1
    have m2 : a0.length ≤ 9223372036854775807 := by simpa using k2 0 _ rfl
    have w1 : IntKind.i64.wrap ((v1_0 : Int) + 1) = (v1_0 : Int) + 1 := wrap_of (by omega) (by omega)
    have i2 : v1_0 < v1_1.length := by omega
    simp [i1, rowAt_map, i2, set_map (x := (nth a0 v1_0)) rfl]
    repeat ((with_reducible refine And.intro ?_ ?_); focus (intros; omega))
    refine nxtI ⟨(p1, (v1_0 + 1), (v1_1.set v1_0 (nth a0 v1_0))), ?_, ?_⟩ (by simp) (wk_keep (by simp [w1]))
    · rw [← e1]; simp only [l_toStringS_1, h1, cond_true, cond_false]
    · first | omega | (simp at *; omega)
  · have q1 := h1; try simp at q1
    have x1 : l_toStringS_1 a0 (a0.length + 1) 0 (List.replicate a0.length (⟨#[]⟩ : ByteArray)) = v1_1 := by rw [← e1]; simp only [l_toStringS_1, h1, cond_true, cond_false]
    simp
    refine retOwn (rv := [.tmp 2]) rfl ?_
    have f1 := l_toStringS.eq_1 a0
    simp only [x1, cond_true, cond_false] at f1
    simp [f1]
theorem l_toDocument_ok (a0 : TDocument) (u0 : Sm 2338816 a0) : SoundAt Tryz.prog 153 true [a0.row] [(l_toDocument a0).row] := by
  refine sound_of Tryz.func153 rfl (by kernel_rfl) ?_
  simp [Tryz.ntmps153]
  refine callOwn rfl rfl rfl rfl (l_toStringS_ok a0.Parts (sm_mono (n := 2338816) (by decide) (by simp (maxDischargeDepth := 12) [u0]))) (by simp) (by simp) (by simp) (by simp) ?_
  simp
  refine callOwn rfl rfl rfl rfl (l_toIntS_ok a0.Salts (sm_mono (n := 2338816) (by decide) (by simp (maxDischargeDepth := 12) [u0]))) (by simp) (by simp) (by simp) (by simp) ?_
  simp
  refine retOwn (rv := [.cell 2 70]) rfl ?_
  have f1 := l_toDocument.eq_1 a0
  simp [f1]
theorem l_toSignature_ok (a0 : TSignature) : SoundAt Tryz.prog 154 false [a0.row] [(l_toSignature a0).row] := by
  refine sound_of Tryz.func154 rfl (by kernel_rfl) ?_
  simp [Tryz.ntmps154]
  refine retRd (rv := [.cell 2 72]) rfl ?_
  have f1 := l_toSignature.eq_1 a0
  simp [f1]
theorem l_toPiece_ok (a0 : TPiece) (u0 : Sm 2338816 a0) : SoundAt Tryz.prog 200 true [a0.row] [(l_toPiece a0).row] := by
  refine sound_of Tryz.func200 rfl (by kernel_rfl) ?_
  simp [Tryz.ntmps200]
  refine callOwn rfl rfl rfl rfl (l_toIntS_ok a0.Ints (sm_mono (n := 2338816) (by decide) (by simp (maxDischargeDepth := 12) [u0]))) (by simp) (by simp) (by simp) (by simp) ?_
  simp
  refine retOwn (rv := [.cell 2 148]) rfl ?_
  have f1 := l_toPiece.eq_1 a0
  simp [f1]
theorem l_toPieceS_ok (a0 : List TPiece) (u0 : Sm 2334720 a0) : SoundAt Tryz.prog 180 true [[.sl 3 (a0.map TPiece.row)]] [[.sl 3 ((l_toPieceS a0).map TPiece.row)]] := by
  refine sound_of Tryz.func180 rfl (by kernel_rfl) ?_
  simp [Tryz.ntmps180]
  refine evI rfl rfl rfl ?_
  have c1 : a0.length ≤ 2334720 := sm_len (by simp (maxDischargeDepth := 12) [u0])
  simp
  repeat ((with_reducible refine And.intro ?_ ?_); focus (intros; omega))
  refine okL fun k1 => ?_
  refine loopI (ι := { s : Nat × Nat × (List TPiece) // l_toPieceS_1 a0 s.1 s.2.1 s.2.2 = l_toPieceS_1 a0 (a0.length + 1) 0 (List.replicate a0.length (TPiece.mk 0 ([] : List Int) 0)) ∧ (1 ≤ s.1 ∧ a0.length < s.1 + s.2.1 ∧ s.2.1 ≤ a0.length ∧ s.2.2.length = a0.length) }) (fun s => stOf 23 [(0, .one (.d (.sl 3 (a0.map TPiece.row))), []), (3, .one (.sref 7 0 0 s.1.2.2.length), []), (4, .one (.d (.int .i64 (↑s.1.2.1 : Int))), []), (7, .any, [.arr false 3 (s.1.2.2.map TPiece.row)])]) (fun s => s.1.1) ⟨((a0.length + 1), 0, (List.replicate a0.length (TPiece.mk 0 ([] : List Int) 0))), rfl, by first | omega | (dsimp only; omega) | simp⟩ (wk_keep (by simp)) ?_
  rintro ⟨⟨n1, v1_0, v1_1⟩, e1, j1⟩
  try dsimp only at e1 j1
  obtain ⟨p1, rfl⟩ : ∃ p, n1 = p + 1 := ⟨n1 - 1, by omega⟩
  simp
  refine condR (c := (decide ((↑v1_0 : Int) < (↑a0.length : Int)))) (by simp) (fun k2 h1 => ?_) (fun k2 h1 => ?_)
  · have q1 := h1; try simp at q1
    have i1 : v1_0 < a0.length := by simpa using h1
    have m2 : a0.length ≤ 9223372036854775807 := by simpa using k2 0 _ rfl
    have w1 : IntKind.i64.wrap ((v1_0 : Int) + 1) = (v1_0 : Int) + 1 := wrap_of (by omega) (by omega)
    simp [i1, rowAt_map]
    repeat ((with_reducible refine And.intro ?_ ?_); focus (intros; omega))
    refine callRd rfl rfl rfl rfl (l_toPiece_ok (nth a0 v1_0) (sm_mono (n := 2334720) (by decide) (by simp (maxDischargeDepth := 12) [u0]))) (by simp) (by simp) (by simp) ?_
    have i2 : v1_0 < v1_1.length := by omega
    simp [i2, rowAt_map, set_map (x := (l_toPiece (nth a0 v1_0))) rfl]
    repeat ((with_reducible refine And.intro ?_ ?_); focus (intros; omega))
    refine nxtI ⟨(p1, (v1_0 + 1), (v1_1.set v1_0 (l_toPiece (nth a0 v1_0)))), ?_, ?_⟩ (by simp) (wk_keep (by simp [w1]))
    · rw [← e1]; simp only [l_toPieceS_1, h1, cond_true, cond_false]
    · first | omega | (simp at *; omega)
  · have q1 := h1; try simp at q1
    have x1 : l_toPieceS_1 a0 (a0.length + 1) 0 (List.replicate a0.length (TPiece.mk 0 ([] : List Int) 0)) = v1_1 := by rw [← e1]; simp only [l_toPieceS_1, h1, cond_true, cond_false]
    simp
    refine retOwn (rv := [.tmp 2]) rfl ?_
    have f1 := l_toPieceS.eq_1 a0
    simp only [x1, cond_true, cond_false] at f1
    simp [f1]
theorem l_toStep_ok (a0 : TStep) : SoundAt Tryz.prog 215 false [a0.row] [(l_toStep a0).row] := by
  refine sound_of Tryz.func215 rfl (by kernel_rfl) ?_
  simp [Tryz.ntmps215]
  refine retRd (rv := [.cell 2 203]) rfl ?_
  have f1 := l_toStep.eq_1 a0
  simp [f1]
theorem l_toStepS_ok (a0 : List TStep) (u0 : Sm 2338816 a0) : SoundAt Tryz.prog 210 true [[.sl 2 (a0.map TStep.row)]] [[.sl 2 ((l_toStepS a0).map TStep.row)]] := by
  refine sound_of Tryz.func210 rfl (by kernel_rfl) ?_
  have c1 : a0.length ≤ 2338816 := sm_len (by simp (maxDischargeDepth := 12) [u0])
  simp [Tryz.ntmps210]
  repeat ((with_reducible refine And.intro ?_ ?_); focus (intros; omega))
  refine okL fun k1 => ?_
  refine loopI (ι := { s : Nat × Nat × (List TStep) // l_toStepS_1 a0 s.1 s.2.1 s.2.2 = l_toStepS_1 a0 (a0.length + 1) 0 (List.replicate a0.length (TStep.mk 0 false)) ∧ (1 ≤ s.1 ∧ a0.length < s.1 + s.2.1 ∧ s.2.1 ≤ a0.length ∧ s.2.2.length = a0.length) }) (fun s => stOf 23 [(0, .one (.d (.sl 2 (a0.map TStep.row))), []), (3, .one (.sref 7 0 0 s.1.2.2.length), []), (4, .one (.d (.int .i64 (↑s.1.2.1 : Int))), []), (7, .any, [.arr false 2 (s.1.2.2.map TStep.row)])]) (fun s => s.1.1) ⟨((a0.length + 1), 0, (List.replicate a0.length (TStep.mk 0 false))), rfl, by first | omega | (dsimp only; omega) | simp⟩ (wk_keep (by simp)) ?_
  rintro ⟨⟨n1, v1_0, v1_1⟩, e1, j1⟩
  try dsimp only at e1 j1
  obtain ⟨p1, rfl⟩ : ∃ p, n1 = p + 1 := ⟨n1 - 1, by omega⟩
  simp
  refine condR (c := (decide ((↑v1_0 : Int) < (↑a0.length : Int)))) (by simp) (fun k2 h1 => ?_) (fun k2 h1 => ?_)
  · have q1 := h1; try simp at q1
    have i1 : v1_0 < a0.length := by simpa using h1
    have m2 : a0.length ≤ 9223372036854775807 := by simpa using k2 0 _ rfl
    have w1 : IntKind.i64.wrap ((v1_0 : Int) + 1) = (v1_0 : Int) + 1 := wrap_of (by omega) (by omega)
    simp [i1, rowAt_map]
    repeat ((with_reducible refine And.intro ?_ ?_); focus (intros; omega))
    refine callRd rfl rfl rfl rfl (l_toStep_ok (nth a0 v1_0)) (by simp) (by simp) (by simp) ?_
    have i2 : v1_0 < v1_1.length := by omega
    simp [i2, rowAt_map, set_map (x := (l_toStep (nth a0 v1_0))) rfl]
    repeat ((with_reducible refine And.intro ?_ ?_); focus (intros; omega))
    refine nxtI ⟨(p1, (v1_0 + 1), (v1_1.set v1_0 (l_toStep (nth a0 v1_0)))), ?_, ?_⟩ (by simp) (wk_keep (by simp [w1]))
    · rw [← e1]; simp only [l_toStepS_1, h1, cond_true, cond_false]
    · first | omega | (simp at *; omega)
  · have q1 := h1; try simp at q1
    have x1 : l_toStepS_1 a0 (a0.length + 1) 0 (List.replicate a0.length (TStep.mk 0 false)) = v1_1 := by rw [← e1]; simp only [l_toStepS_1, h1, cond_true, cond_false]
    simp
    refine retOwn (rv := [.tmp 2]) rfl ?_
    have f1 := l_toStepS.eq_1 a0
    simp only [x1, cond_true, cond_false] at f1
    simp [f1]
theorem l_toStamp_ok (a0 : TStamp) : SoundAt Tryz.prog 216 false [a0.row] [(l_toStamp a0).row] := by
  refine sound_of Tryz.func216 rfl (by kernel_rfl) ?_
  simp [Tryz.ntmps216]
  refine retRd (rv := [.cell 2 181]) rfl ?_
  have f1 := l_toStamp.eq_1 a0
  simp [f1]
theorem l_toStampS_ok (a0 : List TStamp) (u0 : Sm 2338816 a0) : SoundAt Tryz.prog 211 true [[.sl 5 (a0.map TStamp.row)]] [[.sl 5 ((l_toStampS a0).map TStamp.row)]] := by
  refine sound_of Tryz.func211 rfl (by kernel_rfl) ?_
  have c1 : a0.length ≤ 2338816 := sm_len (by simp (maxDischargeDepth := 12) [u0])
  simp [Tryz.ntmps211]
  repeat ((with_reducible refine And.intro ?_ ?_); focus (intros; omega))
  refine okL fun k1 => ?_
  refine loopI (ι := { s : Nat × Nat × (List TStamp) // l_toStampS_1 a0 s.1 s.2.1 s.2.2 = l_toStampS_1 a0 (a0.length + 1) 0 (List.replicate a0.length (TStamp.mk 0 0 0 0 0)) ∧ (1 ≤ s.1 ∧ a0.length < s.1 + s.2.1 ∧ s.2.1 ≤ a0.length ∧ s.2.2.length = a0.length) }) (fun s => stOf 23 [(0, .one (.d (.sl 5 (a0.map TStamp.row))), []), (3, .one (.sref 7 0 0 s.1.2.2.length), []), (4, .one (.d (.int .i64 (↑s.1.2.1 : Int))), []), (7, .any, [.arr false 5 (s.1.2.2.map TStamp.row)])]) (fun s => s.1.1) ⟨((a0.length + 1), 0, (List.replicate a0.length (TStamp.mk 0 0 0 0 0))), rfl, by first | omega | (dsimp only; omega) | simp⟩ (wk_keep (by simp)) ?_
  rintro ⟨⟨n1, v1_0, v1_1⟩, e1, j1⟩
  try dsimp only at e1 j1
  obtain ⟨p1, rfl⟩ : ∃ p, n1 = p + 1 := ⟨n1 - 1, by omega⟩
  simp
  refine condR (c := (decide ((↑v1_0 : Int) < (↑a0.length : Int)))) (by simp) (fun k2 h1 => ?_) (fun k2 h1 => ?_)
  · have q1 := h1; try simp at q1
    have i1 : v1_0 < a0.length := by simpa using h1
    have m2 : a0.length ≤ 9223372036854775807 := by simpa using k2 0 _ rfl
    have w1 : IntKind.i64.wrap ((v1_0 : Int) + 1) = (v1_0 : Int) + 1 := wrap_of (by omega) (by omega)
    simp [i1, rowAt_map]
    repeat ((with_reducible refine And.intro ?_ ?_); focus (intros; omega))
    refine callRd rfl rfl rfl rfl (l_toStamp_ok (nth a0 v1_0)) (by simp) (by simp) (by simp) ?_
    have i2 : v1_0 < v1_1.length := by omega
    simp [i2, rowAt_map, set_map (x := (l_toStamp (nth a0 v1_0))) rfl]
    repeat ((with_reducible refine And.intro ?_ ?_); focus (intros; omega))
    refine nxtI ⟨(p1, (v1_0 + 1), (v1_1.set v1_0 (l_toStamp (nth a0 v1_0)))), ?_, ?_⟩ (by simp) (wk_keep (by simp [w1]))
    · rw [← e1]; simp only [l_toStampS_1, h1, cond_true, cond_false]
    · first | omega | (simp at *; omega)
  · have q1 := h1; try simp at q1
    have x1 : l_toStampS_1 a0 (a0.length + 1) 0 (List.replicate a0.length (TStamp.mk 0 0 0 0 0)) = v1_1 := by rw [← e1]; simp only [l_toStampS_1, h1, cond_true, cond_false]
    simp
    refine retOwn (rv := [.tmp 2]) rfl ?_
    have f1 := l_toStampS.eq_1 a0
    simp only [x1, cond_true, cond_false] at f1
    simp [f1]
theorem l_toRenewal_ok (a0 : TRenewal) (u0 : Sm 2334720 a0) : SoundAt Tryz.prog 201 true [a0.row] [(l_toRenewal a0).row] := by
  refine sound_of Tryz.func201 rfl (by kernel_rfl) ?_
  simp [Tryz.ntmps201]
  refine callOwn rfl rfl rfl rfl (l_toStepS_ok a0.Path (sm_mono (n := 2334720) (by decide) (by simp (maxDischargeDepth := 12) [u0]))) (by simp) (by simp) (by simp) (by simp) ?_
  simp
  refine callOwn rfl rfl rfl rfl (l_toStampS_ok a0.Stamps (sm_mono (n := 2334720) (by decide) (by simp (maxDischargeDepth := 12) [u0]))) (by simp) (by simp) (by simp) (by simp) ?_
  simp
  refine retOwn (rv := [.cell 2 123]) rfl ?_
  have f1 := l_toRenewal.eq_1 a0
  simp [f1]
theorem l_toRenewalS_ok (a0 : List TRenewal) (u0 : Sm 2330624 a0) : SoundAt Tryz.prog 181 true [[.sl 5 (a0.map TRenewal.row)]] [[.sl 5 ((l_toRenewalS a0).map TRenewal.row)]] := by
  refine sound_of Tryz.func181 rfl (by kernel_rfl) ?_
  simp [Tryz.ntmps181]
  refine evI rfl rfl rfl ?_
  have c1 : a0.length ≤ 2330624 := sm_len (by simp (maxDischargeDepth := 12) [u0])
  simp
  repeat ((with_reducible refine And.intro ?_ ?_); focus (intros; omega))
  refine okL fun k1 => ?_
  refine loopI (ι := { s : Nat × Nat × (List TRenewal) // l_toRenewalS_1 a0 s.1 s.2.1 s.2.2 = l_toRenewalS_1 a0 (a0.length + 1) 0 (List.replicate a0.length (TRenewal.mk 0 0 0 ([] : List TStep) ([] : List TStamp))) ∧ (1 ≤ s.1 ∧ a0.length < s.1 + s.2.1 ∧ s.2.1 ≤ a0.length ∧ s.2.2.length = a0.length) }) (fun s => stOf 23 [(0, .one (.d (.sl 5 (a0.map TRenewal.row))), []), (3, .one (.sref 7 0 0 s.1.2.2.length), []), (4, .one (.d (.int .i64 (↑s.1.2.1 : Int))), []), (7, .any, [.arr false 5 (s.1.2.2.map TRenewal.row)])]) (fun s => s.1.1) ⟨((a0.length + 1), 0, (List.replicate a0.length (TRenewal.mk 0 0 0 ([] : List TStep) ([] : List TStamp)))), rfl, by first | omega | (dsimp only; omega) | simp⟩ (wk_keep (by simp)) ?_
  rintro ⟨⟨n1, v1_0, v1_1⟩, e1, j1⟩
  try dsimp only at e1 j1
  obtain ⟨p1, rfl⟩ : ∃ p, n1 = p + 1 := ⟨n1 - 1, by omega⟩
  simp
  refine condR (c := (decide ((↑v1_0 : Int) < (↑a0.length : Int)))) (by simp) (fun k2 h1 => ?_) (fun k2 h1 => ?_)
  · have q1 := h1; try simp at q1
    have i1 : v1_0 < a0.length := by simpa using h1
    have m2 : a0.length ≤ 9223372036854775807 := by simpa using k2 0 _ rfl
    have w1 : IntKind.i64.wrap ((v1_0 : Int) + 1) = (v1_0 : Int) + 1 := wrap_of (by omega) (by omega)
    simp [i1, rowAt_map]
    repeat ((with_reducible refine And.intro ?_ ?_); focus (intros; omega))
    refine callRd rfl rfl rfl rfl (l_toRenewal_ok (nth a0 v1_0) (sm_mono (n := 2330624) (by decide) (by simp (maxDischargeDepth := 12) [u0]))) (by simp) (by simp) (by simp) ?_
    have i2 : v1_0 < v1_1.length := by omega
    simp [i2, rowAt_map, set_map (x := (l_toRenewal (nth a0 v1_0))) rfl]
    repeat ((with_reducible refine And.intro ?_ ?_); focus (intros; omega))
    refine nxtI ⟨(p1, (v1_0 + 1), (v1_1.set v1_0 (l_toRenewal (nth a0 v1_0)))), ?_, ?_⟩ (by simp) (wk_keep (by simp [w1]))
    · rw [← e1]; simp only [l_toRenewalS_1, h1, cond_true, cond_false]
    · first | omega | (simp at *; omega)
  · have q1 := h1; try simp at q1
    have x1 : l_toRenewalS_1 a0 (a0.length + 1) 0 (List.replicate a0.length (TRenewal.mk 0 0 0 ([] : List TStep) ([] : List TStamp))) = v1_1 := by rw [← e1]; simp only [l_toRenewalS_1, h1, cond_true, cond_false]
    simp
    refine retOwn (rv := [.tmp 2]) rfl ?_
    have f1 := l_toRenewalS.eq_1 a0
    simp only [x1, cond_true, cond_false] at f1
    simp [f1]
theorem l_toStrand_ok (a0 : TStrand) (u0 : Sm 2326528 a0) : SoundAt Tryz.prog 155 true [a0.row] [(l_toStrand a0).row] := by
  refine sound_of Tryz.func155 rfl (by kernel_rfl) ?_
  simp [Tryz.ntmps155]
  refine callOwn rfl rfl rfl rfl (l_toPieceS_ok a0.Pieces (sm_mono (n := 2326528) (by decide) (by simp (maxDischargeDepth := 12) [u0]))) (by simp) (by simp) (by simp) (by simp) ?_
  simp
  refine callOwn rfl rfl rfl rfl (l_toRenewalS_ok a0.Chain (sm_mono (n := 2326528) (by decide) (by simp (maxDischargeDepth := 12) [u0]))) (by simp) (by simp) (by simp) (by simp) ?_
  simp
  refine retOwn (rv := [.cell 2 76]) rfl ?_
  have f1 := l_toStrand.eq_1 a0
  simp [f1]
theorem l_toItem_ok (a0 : TItem) (u0 : Sm 2322432 a0) : SoundAt Tryz.prog 126 true [a0.row] [(l_toItem a0).row] := by
  refine sound_of Tryz.func126 rfl (by kernel_rfl) ?_
  simp [Tryz.ntmps126]
  refine callOwn rfl rfl rfl rfl (l_toDocument_ok a0.Doc (sm_mono (n := 2322432) (by decide) (by simp (maxDischargeDepth := 12) [u0]))) (by simp) (by simp) (by simp) (by simp) ?_
  simp
  refine callRd rfl rfl rfl rfl (l_toSignature_ok a0.Sig) (by simp) (by simp) (by simp) ?_
  simp
  refine callOwn rfl rfl rfl rfl (l_toStrand_ok a0.Strand (sm_mono (n := 2322432) (by decide) (by simp (maxDischargeDepth := 12) [u0]))) (by simp) (by simp) (by simp) (by simp) ?_
  simp
  refine retOwn (rv := [.cell 2 78]) rfl ?_
  have f1 := l_toItem.eq_1 a0
  simp [f1]
theorem l_toItemS_ok (a0 : List TItem) (u0 : Sm 2318336 a0) : SoundAt Tryz.prog 92 true [[.sl 16 (a0.map TItem.row)]] [[.sl 16 ((l_toItemS a0).map TItem.row)]] := by
  refine sound_of Tryz.func92 rfl (by kernel_rfl) ?_
  simp [Tryz.ntmps92]
  refine evI rfl rfl rfl ?_
  have c1 : a0.length ≤ 2318336 := sm_len (by simp (maxDischargeDepth := 12) [u0])
  simp
  repeat ((with_reducible refine And.intro ?_ ?_); focus (intros; omega))
  refine okL fun k1 => ?_
  refine loopI (ι := { s : Nat × Nat × (List TItem) // l_toItemS_1 a0 s.1 s.2.1 s.2.2 = l_toItemS_1 a0 (a0.length + 1) 0 (List.replicate a0.length (TItem.mk 0 0 (TDocument.mk 0 ([] : List ByteArray) ([] : List Int)) (TSignature.mk 0 0 0 0 0 0 0 0 0) (TStrand.mk ([] : List TPiece) ([] : List TRenewal)))) ∧ (1 ≤ s.1 ∧ a0.length < s.1 + s.2.1 ∧ s.2.1 ≤ a0.length ∧ s.2.2.length = a0.length) }) (fun s => stOf 23 [(0, .one (.d (.sl 16 (a0.map TItem.row))), []), (3, .one (.sref 7 0 0 s.1.2.2.length), []), (4, .one (.d (.int .i64 (↑s.1.2.1 : Int))), []), (7, .any, [.arr false 16 (s.1.2.2.map TItem.row)])]) (fun s => s.1.1) ⟨((a0.length + 1), 0, (List.replicate a0.length (TItem.mk 0 0 (TDocument.mk 0 ([] : List ByteArray) ([] : List Int)) (TSignature.mk 0 0 0 0 0 0 0 0 0) (TStrand.mk ([] : List TPiece) ([] : List TRenewal))))), rfl, by first | omega | (dsimp only; omega) | simp⟩ (wk_keep (by simp)) ?_
  rintro ⟨⟨n1, v1_0, v1_1⟩, e1, j1⟩
  try dsimp only at e1 j1
  obtain ⟨p1, rfl⟩ : ∃ p, n1 = p + 1 := ⟨n1 - 1, by omega⟩
  simp
  refine condR (c := (decide ((↑v1_0 : Int) < (↑a0.length : Int)))) (by simp) (fun k2 h1 => ?_) (fun k2 h1 => ?_)
  · have q1 := h1; try simp at q1
    have i1 : v1_0 < a0.length := by simpa using h1
    have m2 : a0.length ≤ 9223372036854775807 := by simpa using k2 0 _ rfl
    have w1 : IntKind.i64.wrap ((v1_0 : Int) + 1) = (v1_0 : Int) + 1 := wrap_of (by omega) (by omega)
    simp [i1, rowAt_map]
    repeat ((with_reducible refine And.intro ?_ ?_); focus (intros; omega))
    refine callRd rfl rfl rfl rfl (l_toItem_ok (nth a0 v1_0) (sm_mono (n := 2318336) (by decide) (by simp (maxDischargeDepth := 12) [u0]))) (by simp) (by simp) (by simp) ?_
    have i2 : v1_0 < v1_1.length := by omega
    simp [i2, rowAt_map, set_map (x := (l_toItem (nth a0 v1_0))) rfl]
    repeat ((with_reducible refine And.intro ?_ ?_); focus (intros; omega))
    refine nxtI ⟨(p1, (v1_0 + 1), (v1_1.set v1_0 (l_toItem (nth a0 v1_0)))), ?_, ?_⟩ (by simp) (wk_keep (by simp [w1]))
    · rw [← e1]; simp only [l_toItemS_1, h1, cond_true, cond_false]
    · first | omega | (simp at *; omega)
  · have q1 := h1; try simp at q1
    have x1 : l_toItemS_1 a0 (a0.length + 1) 0 (List.replicate a0.length (TItem.mk 0 0 (TDocument.mk 0 ([] : List ByteArray) ([] : List Int)) (TSignature.mk 0 0 0 0 0 0 0 0 0) (TStrand.mk ([] : List TPiece) ([] : List TRenewal)))) = v1_1 := by rw [← e1]; simp only [l_toItemS_1, h1, cond_true, cond_false]
    simp
    refine retOwn (rv := [.tmp 2]) rfl ?_
    have f1 := l_toItemS.eq_1 a0
    simp only [x1, cond_true, cond_false] at f1
    simp [f1]
theorem l_toArchive_ok (a0 : TArchive) (u0 : Sm 2314240 a0) : SoundAt Tryz.prog 59 true [a0.row] [(l_toArchive a0).row] := by
  refine sound_of Tryz.func59 rfl (by kernel_rfl) ?_
  simp [Tryz.ntmps59]
  refine callOwn rfl rfl rfl rfl (l_toItemS_ok a0.Items (sm_mono (n := 2314240) (by decide) (by simp (maxDischargeDepth := 12) [u0]))) (by simp) (by simp) (by simp) (by simp) ?_
  simp
  refine retOwn (rv := [.cell 2 66]) rfl ?_
  have f1 := l_toArchive.eq_1 a0
  simp [f1]
theorem l_toArchiveS_ok (a0 : List TArchive) (u0 : Sm 2310144 a0) : SoundAt Tryz.prog 23 true [[.sl 2 (a0.map TArchive.row)]] [[.sl 2 ((l_toArchiveS a0).map TArchive.row)]] := by
  refine sound_of Tryz.func23 rfl (by kernel_rfl) ?_
  simp [Tryz.ntmps23]
  refine evI rfl rfl rfl ?_
  have c1 : a0.length ≤ 2310144 := sm_len (by simp (maxDischargeDepth := 12) [u0])
  simp
  repeat ((with_reducible refine And.intro ?_ ?_); focus (intros; omega))
  refine okL fun k1 => ?_
  refine loopI (ι := { s : Nat × Nat × (List TArchive) // l_toArchiveS_1 a0 s.1 s.2.1 s.2.2 = l_toArchiveS_1 a0 (a0.length + 1) 0 (List.replicate a0.length (TArchive.mk 0 ([] : List TItem))) ∧ (1 ≤ s.1 ∧ a0.length < s.1 + s.2.1 ∧ s.2.1 ≤ a0.length ∧ s.2.2.length = a0.length) }) (fun s => stOf 23 [(0, .one (.d (.sl 2 (a0.map TArchive.row))), []), (3, .one (.sref 7 0 0 s.1.2.2.length), []), (4, .one (.d (.int .i64 (↑s.1.2.1 : Int))), []), (7, .any, [.arr false 2 (s.1.2.2.map TArchive.row)])]) (fun s => s.1.1) ⟨((a0.length + 1), 0, (List.replicate a0.length (TArchive.mk 0 ([] : List TItem)))), rfl, by first | omega | (dsimp only; omega) | simp⟩ (wk_keep (by simp)) ?_
  rintro ⟨⟨n1, v1_0, v1_1⟩, e1, j1⟩
  try dsimp only at e1 j1
  obtain ⟨p1, rfl⟩ : ∃ p, n1 = p + 1 := ⟨n1 - 1, by omega⟩
  simp
  refine condR (c := (decide ((↑v1_0 : Int) < (↑a0.length : Int)))) (by simp) (fun k2 h1 => ?_) (fun k2 h1 => ?_)
  · have q1 := h1; try simp at q1
    have i1 : v1_0 < a0.length := by simpa using h1
    have m2 : a0.length ≤ 9223372036854775807 := by simpa using k2 0 _ rfl
    have w1 : IntKind.i64.wrap ((v1_0 : Int) + 1) = (v1_0 : Int) + 1 := wrap_of (by omega) (by omega)
    simp [i1, rowAt_map]
    repeat ((with_reducible refine And.intro ?_ ?_); focus (intros; omega))
    refine callRd rfl rfl rfl rfl (l_toArchive_ok (nth a0 v1_0) (sm_mono (n := 2310144) (by decide) (by simp (maxDischargeDepth := 12) [u0]))) (by simp) (by simp) (by simp) ?_
    have i2 : v1_0 < v1_1.length := by omega
    simp [i2, rowAt_map, set_map (x := (l_toArchive (nth a0 v1_0))) rfl]
    repeat ((with_reducible refine And.intro ?_ ?_); focus (intros; omega))
    refine nxtI ⟨(p1, (v1_0 + 1), (v1_1.set v1_0 (l_toArchive (nth a0 v1_0)))), ?_, ?_⟩ (by simp) (wk_keep (by simp [w1]))
    · rw [← e1]; simp only [l_toArchiveS_1, h1, cond_true, cond_false]
    · first | omega | (simp at *; omega)
  · have q1 := h1; try simp at q1
    have x1 : l_toArchiveS_1 a0 (a0.length + 1) 0 (List.replicate a0.length (TArchive.mk 0 ([] : List TItem))) = v1_1 := by rw [← e1]; simp only [l_toArchiveS_1, h1, cond_true, cond_false]
    simp
    refine retOwn (rv := [.tmp 2]) rfl ?_
    have f1 := l_toArchiveS.eq_1 a0
    simp only [x1, cond_true, cond_false] at f1
    simp [f1]
theorem l_toWorld_ok (a0 : TWorld) (u0 : Sm 2306048 a0) : SoundAt Tryz.prog 7 true [a0.row] [(l_toWorld a0).row] := by
  refine sound_of Tryz.func7 rfl (by kernel_rfl) ?_
  simp [Tryz.ntmps7]
  refine callOwn rfl rfl rfl rfl (l_toFrame_ok a0.Frame (sm_mono (n := 2306048) (by decide) (by simp (maxDischargeDepth := 12) [u0]))) (by simp) (by simp) (by simp) (by simp) ?_
  simp
  refine callOwn rfl rfl rfl rfl (l_toCertS_ok a0.Certs (sm_mono (n := 2306048) (by decide) (by simp (maxDischargeDepth := 12) [u0]))) (by simp) (by simp) (by simp) (by simp) ?_
  simp
  refine callOwn rfl rfl rfl rfl (l_toIntS_ok a0.Ended (sm_mono (n := 2306048) (by decide) (by simp (maxDischargeDepth := 12) [u0]))) (by simp) (by simp) (by simp) (by simp) ?_
  simp
  refine callOwn rfl rfl rfl rfl (l_toArchiveS_ok a0.Archives (sm_mono (n := 2306048) (by decide) (by simp (maxDischargeDepth := 12) [u0]))) (by simp) (by simp) (by simp) (by simp) ?_
  simp
  refine callOwn rfl rfl rfl rfl (l_toIntS_ok a0.Seqs (sm_mono (n := 2306048) (by decide) (by simp (maxDischargeDepth := 12) [u0]))) (by simp) (by simp) (by simp) (by simp) ?_
  simp
  refine callOwn rfl rfl rfl rfl (l_toIntS_ok a0.Lying (sm_mono (n := 2306048) (by decide) (by simp (maxDischargeDepth := 12) [u0]))) (by simp) (by simp) (by simp) (by simp) ?_
  simp
  refine callOwn rfl rfl rfl rfl (l_toIntS_ok a0.Forged (sm_mono (n := 2306048) (by decide) (by simp (maxDischargeDepth := 12) [u0]))) (by simp) (by simp) (by simp) (by simp) ?_
  simp
  refine retOwn (rv := [.cell 2 42]) rfl ?_
  have f1 := l_toWorld.eq_1 a0
  simp [f1]
theorem s_FindAuthority_ok (a0 : List TAuthority) (a1 : Int) : SoundAt Tryz.prog 16 false [[.sl 3 (a0.map TAuthority.row)], [.int .i64 a1]] [[.int .i64 (s_FindAuthority a0 a1)]] := by
  refine sound_of Tryz.func16 rfl (by kernel_rfl) ?_
  simp [Tryz.ntmps16]
  refine okL fun k1 => ?_
  refine loopI (ι := { s : Nat × Nat // s_FindAuthority_1 a0 a1 s.1 s.2 = s_FindAuthority_1 a0 a1 (a0.length + 1) 0 ∧ (1 ≤ s.1 ∧ a0.length < s.1 + s.2 ∧ s.2 ≤ a0.length) }) (fun s => stOf 20 [(0, .one (.d (.sl 3 (a0.map TAuthority.row))), []), (1, .one (.d (.int .i64 a1)), []), (5, .one (.d (.int .i64 (↑s.1.2 : Int))), [])]) (fun s => s.1.1) ⟨((a0.length + 1), 0), rfl, by first | omega | (dsimp only; omega) | simp⟩ (wk_keep (by simp)) ?_
  rintro ⟨⟨n1, v1_0⟩, e1, j1⟩
  try dsimp only at e1 j1
  obtain ⟨p1, rfl⟩ : ∃ p, n1 = p + 1 := ⟨n1 - 1, by omega⟩
  simp
  refine condR (c := (decide ((↑v1_0 : Int) < (↑a0.length : Int)))) (by simp) (fun k2 h1 => ?_) (fun k2 h1 => ?_)
  · have q1 := h1; try simp at q1
    have i1 : v1_0 < a0.length := by simpa using h1
    have m2 : a0.length ≤ 9223372036854775807 := by simpa using k2 0 _ rfl
    have w1 : IntKind.i64.wrap ((v1_0 : Int) + 1) = (v1_0 : Int) + 1 := wrap_of (by omega) (by omega)
    simp [i1, rowAt_map]
    repeat ((with_reducible refine And.intro ?_ ?_); focus (intros; omega))
    refine condR (c := ((nth a0 v1_0).Id == a1)) (by simp) (fun k3 h2 => ?_) (fun k3 h2 => ?_)
    · have q2 := h2; try simp at q2
      have x1 : s_FindAuthority_1 a0 a1 (a0.length + 1) 0 = .inl (↑v1_0 : Int) := by rw [← e1]; simp only [s_FindAuthority_1, h1, h2, cond_true, cond_false]
      simp
      refine retRd (rv := [.tmp 4]) rfl ?_
      have f1 := s_FindAuthority.eq_1 a0 a1
      simp only [x1, cond_true, cond_false] at f1
      simp [f1]
    · have q2 := h2; try simp at q2
      simp
      refine nxtI ⟨(p1, (v1_0 + 1)), ?_, ?_⟩ (by simp) (wk_keep (by simp [w1]))
      · rw [← e1]; simp only [s_FindAuthority_1, h1, h2, cond_true, cond_false]
      · first | omega | (simp at *; omega)
  · have q1 := h1; try simp at q1
    have x2 : s_FindAuthority_1 a0 a1 (a0.length + 1) 0 = .inr () := by rw [← e1]; simp only [s_FindAuthority_1, h1, cond_true, cond_false]
    simp
    refine retRd (rv := [.tmp 4]) rfl ?_
    have f2 := s_FindAuthority.eq_1 a0 a1
    simp only [x2, cond_true, cond_false] at f2
    simp [f2]
theorem s_l1In_ok (a0 : Int) (a1 : Int) (a2 : Int) : SoundAt Tryz.prog 49 false [[.int .i64 a0], [.int .i64 a1], [.int .i64 a2]] [[.bool (s_l1In a0 a1 a2)]] := by
  refine sound_of Tryz.func49 rfl (by kernel_rfl) ?_
  simp [Tryz.ntmps49]
  refine retRd (rv := [.tmp 6]) rfl ?_
  have f1 := s_l1In.eq_1 a0 a1 a2
  simp [f1]
theorem s_l4Time_ok (a0 : Int) : SoundAt Tryz.prog 50 false [[.int .i64 a0]] [[.bool (s_l4Time a0)]] := by
  refine sound_of Tryz.func50 rfl (by kernel_rfl) ?_
  simp [Tryz.ntmps50]
  refine callRd rfl rfl rfl rfl (s_l1In_ok a0 0 10000) (by simp) (by simp) (by simp) ?_
  simp
  refine retRd (rv := [.tmp 2]) rfl ?_
  have f1 := s_l4Time.eq_1 a0
  simp [f1]
theorem s_IsValidKey_ok (a0 : Int) : SoundAt Tryz.prog 118 false [[.int .i64 a0]] [[.bool (s_IsValidKey a0)]] := by
  refine sound_of Tryz.func118 rfl (by kernel_rfl) ?_
  simp [Tryz.ntmps118]
  refine callRd rfl rfl rfl rfl (s_l1In_ok a0 1 2147483646) (by simp) (by simp) (by simp) ?_
  simp
  refine retRd (rv := [.tmp 2]) rfl ?_
  have f1 := s_IsValidKey.eq_1 a0
  simp [f1]
theorem s_IsKey_ok (a0 : TKey) : SoundAt Tryz.prog 82 false [a0.row] [[.bool (s_IsKey a0)]] := by
  refine sound_of Tryz.func82 rfl (by kernel_rfl) ?_
  simp [Tryz.ntmps82]
  refine callRd rfl rfl rfl rfl (s_l1In_ok a0.Number 1 99) (by simp) (by simp) (by simp) ?_
  simp
  refine callG rfl rfl rfl rfl rfl rfl (fun _ => (s_l1In_ok a0.Owner 0 99)) (by simp) (by simp) (by simp) (by simp) ?_
  simp
  refine callG rfl rfl rfl rfl rfl rfl (fun _ => (s_l1In_ok a0.Method 0 99)) (by simp) (by simp) (by simp) (by simp) ?_
  simp
  refine callG rfl rfl rfl rfl rfl rfl (fun _ => (s_l4Time_ok a0.Born)) (by simp) (by simp) (by simp) (by simp) ?_
  simp
  refine callG rfl rfl rfl rfl rfl rfl (fun _ => (s_IsValidKey_ok a0.Secret)) (by simp) (by simp) (by simp) (by simp) ?_
  simp
  refine retRd (rv := [.tmp 2]) rfl ?_
  have f1 := s_IsKey.eq_1 a0
  simp [f1]
theorem s_AreKeys_ok (a0 : List TKey) : SoundAt Tryz.prog 46 false [[.sl 5 (a0.map TKey.row)]] [[.bool (s_AreKeys a0)]] := by
  refine sound_of Tryz.func46 rfl (by kernel_rfl) ?_
  simp [Tryz.ntmps46]
  refine okL fun k1 => ?_
  refine loopI (ι := { s : Nat × Nat // s_AreKeys_1 a0 s.1 s.2 = s_AreKeys_1 a0 (a0.length + 1) 0 ∧ (1 ≤ s.1 ∧ a0.length < s.1 + s.2 ∧ s.2 ≤ a0.length) }) (fun s => stOf 37 [(0, .one (.d (.sl 5 (a0.map TKey.row))), []), (3, .one (.d (.int .i64 (↑s.1.2 : Int))), [])]) (fun s => s.1.1) ⟨((a0.length + 1), 0), rfl, by first | omega | (dsimp only; omega) | simp⟩ (wk_keep (by simp)) ?_
  rintro ⟨⟨n1, v1_0⟩, e1, j1⟩
  try dsimp only at e1 j1
  obtain ⟨p1, rfl⟩ : ∃ p, n1 = p + 1 := ⟨n1 - 1, by omega⟩
  simp
  refine condR (c := (decide ((↑v1_0 : Int) < (↑a0.length : Int)))) (by simp) (fun k2 h1 => ?_) (fun k2 h1 => ?_)
  · have q1 := h1; try simp at q1
    have i1 : v1_0 < a0.length := by simpa using h1
    have m2 : a0.length ≤ 9223372036854775807 := by simpa using k2 0 _ rfl
    have w1 : IntKind.i64.wrap ((v1_0 : Int) + 1) = (v1_0 : Int) + 1 := wrap_of (by omega) (by omega)
    simp
    refine okD fun k3 => ?_
    refine drawI mixed (by kernel_rfl) (by kernel_rfl) ?_
    simp [i1, rowAt_map]
    repeat ((with_reducible refine And.intro ?_ ?_); focus (intros; omega))
    refine callRd rfl rfl rfl rfl (s_IsKey_ok (nth a0 v1_0)) (by simp) (by simp) (by simp) ?_
    simp
    refine guardI rfl rfl rfl rfl rfl (by simp) (fun g1 => ?_) (fun g1 => ?_)
    · have g1x := g1; try simp only [beq_true, beq_false, Bool.not_eq_true', Bool.not_eq_false', Bool.true_and, Bool.and_true] at g1x
      try simp at g1
      have i2 : (v1_0 - 1) < a0.length := by omega
      have w2 : IntKind.i64.wrap ((v1_0 : Int) - 1) = (v1_0 : Int) - 1 := wrap_of (by omega) (by omega)
      simp [i2, rowAt_map, w2, toNat_pred, g1x]
      repeat ((with_reducible refine And.intro ?_ ?_); focus (intros; first | omega | (simp_all; done) | (simp_all; omega) | grind))
      refine guardI rfl rfl rfl rfl rfl (by simp) (fun _ => ?_) (fun g0 => by simp [g1x] at g0)
      simp [i1, rowAt_map, g1x]
      repeat ((with_reducible refine And.intro ?_ ?_); focus (intros; first | omega | (simp_all; done) | (simp_all; omega) | grind))
      refine condR (c := ((!(s_IsKey (nth a0 v1_0))) || ((decide ((↑v1_0 : Int) > 0)) && (decide ((nth a0 (v1_0 - 1)).Number ≥ (nth a0 v1_0).Number))))) (by first | (simp [g1x]; done) | grind) (fun k4 h2 => ?_) (fun k4 h2 => ?_)
      · try (have z := h2; simp [g1x] at z; done)
        all_goals
          have q2 := h2; try simp at q2
          have x1 : s_AreKeys_1 a0 (a0.length + 1) 0 = .inl false := by rw [← e1]; simp only [s_AreKeys_1, h1, h2, cond_true, cond_false]
          simp [g1x]
          repeat ((with_reducible refine And.intro ?_ ?_); focus (intros; first | omega | (simp_all; done) | (simp_all; omega) | grind))
          refine retRd (rv := [.tmp 2]) rfl ?_
          have f1 := s_AreKeys.eq_1 a0
          simp only [x1, cond_true, cond_false] at f1
          simp [f1, g1x]
      · try (have z := h2; simp [g1x] at z; done)
        all_goals
          have q2 := h2; try simp at q2
          simp [g1x]
          repeat ((with_reducible refine And.intro ?_ ?_); focus (intros; first | omega | (simp_all; done) | (simp_all; omega) | grind))
          refine nxtI ⟨(p1, (v1_0 + 1)), ?_, ?_⟩ (by simp) (wk_keep (by simp [w1, w2]))
          · rw [← e1]; simp only [s_AreKeys_1, h1, h2, cond_true, cond_false]
          · first | omega | (simp at *; omega)
    · have g1x := g1; try simp only [beq_true, beq_false, Bool.not_eq_true', Bool.not_eq_false', Bool.true_and, Bool.and_true] at g1x
      simp [g1x]
      repeat ((with_reducible refine And.intro ?_ ?_); focus (intros; first | omega | (simp_all; done) | (simp_all; omega) | grind))
      refine skipG rfl rfl rfl rfl (by simp) (by simp [g1x]) ?_
      simp [g1x]
      repeat ((with_reducible refine And.intro ?_ ?_); focus (intros; first | omega | (simp_all; done) | (simp_all; omega) | grind))
      refine condR (c := ((!(s_IsKey (nth a0 v1_0))) || ((decide ((↑v1_0 : Int) > 0)) && (decide ((nth a0 (v1_0 - 1)).Number ≥ (nth a0 v1_0).Number))))) (by first | (simp [g1x]; done) | grind) (fun k5 h3 => ?_) (fun k5 h3 => ?_)
      · try (have z := h3; simp [g1x] at z; done)
        all_goals
          have q3 := h3; try simp at q3
          have x2 : s_AreKeys_1 a0 (a0.length + 1) 0 = .inl false := by rw [← e1]; simp only [s_AreKeys_1, h1, h3, cond_true, cond_false]
          simp [g1x]
          repeat ((with_reducible refine And.intro ?_ ?_); focus (intros; first | omega | (simp_all; done) | (simp_all; omega) | grind))
          refine retRd (rv := [.tmp 2]) rfl ?_
          have f2 := s_AreKeys.eq_1 a0
          simp only [x2, cond_true, cond_false] at f2
          simp [f2, g1x]
      · try (have z := h3; simp [g1x] at z; done)
        all_goals
          have q3 := h3; try simp at q3
          simp [g1x]
          repeat ((with_reducible refine And.intro ?_ ?_); focus (intros; first | omega | (simp_all; done) | (simp_all; omega) | grind))
          refine nxtI ⟨(p1, (v1_0 + 1)), ?_, ?_⟩ (by simp) (wk_keep (by simp [w1]))
          · rw [← e1]; simp only [s_AreKeys_1, h1, h3, cond_true, cond_false]
          · first | omega | (simp at *; omega)
  · have q1 := h1; try simp at q1
    have x3 : s_AreKeys_1 a0 (a0.length + 1) 0 = .inr () := by rw [← e1]; simp only [s_AreKeys_1, h1, cond_true, cond_false]
    simp
    refine retRd (rv := [.tmp 2]) rfl ?_
    have f3 := s_AreKeys.eq_1 a0
    simp only [x3, cond_true, cond_false] at f3
    simp [f3]
theorem s_AreAuthorities_ok (a0 : List TAuthority) : SoundAt Tryz.prog 47 false [[.sl 3 (a0.map TAuthority.row)]] [[.bool (s_AreAuthorities a0)]] := by
  refine sound_of Tryz.func47 rfl (by kernel_rfl) ?_
  simp [Tryz.ntmps47]
  refine okL fun k1 => ?_
  refine loopI (ι := { s : Nat × Nat // s_AreAuthorities_1 a0 s.1 s.2 = s_AreAuthorities_1 a0 (a0.length + 1) 0 ∧ (1 ≤ s.1 ∧ a0.length < s.1 + s.2 ∧ s.2 ≤ a0.length) }) (fun s => stOf 56 [(0, .one (.d (.sl 3 (a0.map TAuthority.row))), []), (3, .one (.d (.int .i64 (↑s.1.2 : Int))), [])]) (fun s => s.1.1) ⟨((a0.length + 1), 0), rfl, by first | omega | (dsimp only; omega) | simp⟩ (wk_keep (by simp)) ?_
  rintro ⟨⟨n1, v1_0⟩, e1, j1⟩
  try dsimp only at e1 j1
  obtain ⟨p1, rfl⟩ : ∃ p, n1 = p + 1 := ⟨n1 - 1, by omega⟩
  simp
  refine condR (c := (decide ((↑v1_0 : Int) < (↑a0.length : Int)))) (by simp) (fun k2 h1 => ?_) (fun k2 h1 => ?_)
  · have q1 := h1; try simp at q1
    have i1 : v1_0 < a0.length := by simpa using h1
    have m2 : a0.length ≤ 9223372036854775807 := by simpa using k2 0 _ rfl
    have w1 : IntKind.i64.wrap ((v1_0 : Int) + 1) = (v1_0 : Int) + 1 := wrap_of (by omega) (by omega)
    simp
    refine okD fun k3 => ?_
    refine drawI mixed (by kernel_rfl) (by kernel_rfl) ?_
    simp [i1, rowAt_map]
    repeat ((with_reducible refine And.intro ?_ ?_); focus (intros; omega))
    refine callRd rfl rfl rfl rfl (s_l1In_ok (nth a0 v1_0).Id 0 99) (by simp) (by simp) (by simp) ?_
    simp
    refine guardI rfl rfl rfl rfl rfl (by simp) (fun g1 => ?_) (fun g1 => ?_)
    · have g1x := g1; try simp only [beq_true, beq_false, Bool.not_eq_true', Bool.not_eq_false', Bool.true_and, Bool.and_true] at g1x
      try simp at g1
      simp [i1, rowAt_map, g1x]
      repeat ((with_reducible refine And.intro ?_ ?_); focus (intros; first | omega | (simp_all; done) | (simp_all; omega) | grind))
      refine callG rfl rfl rfl rfl rfl rfl (fun _ => (s_l1In_ok (nth a0 v1_0).Key 1 99)) (by simp) (by simp) (by simp) (by simp) ?_
      simp [g1x]
      repeat ((with_reducible refine And.intro ?_ ?_); focus (intros; first | omega | (simp_all; done) | (simp_all; omega) | grind))
      refine guardI rfl rfl rfl rfl rfl (by simp) (fun g2 => ?_) (fun g2 => ?_)
      · have g2x := g2; try simp only [beq_true, beq_false, Bool.not_eq_true', Bool.not_eq_false', Bool.true_and, Bool.and_true] at g2x
        try (have z := g2; simp [g1x] at z; done)
        all_goals
          try simp at g2
          all_goals
            simp [i1, rowAt_map, g1x, g2x]
            repeat ((with_reducible refine And.intro ?_ ?_); focus (intros; first | omega | (simp_all; done) | (simp_all; omega) | grind))
            refine callG rfl rfl rfl rfl rfl rfl (fun _ => (s_l1In_ok (nth a0 v1_0).Error 0 100)) (by simp) (by simp) (by simp) (by simp) ?_
            simp [g1x, g2x]
            repeat ((with_reducible refine And.intro ?_ ?_); focus (intros; first | omega | (simp_all; done) | (simp_all; omega) | grind))
            refine guardI rfl rfl rfl rfl rfl (by simp) (fun g3 => ?_) (fun g3 => ?_)
            · have g3x := g3; try simp only [beq_true, beq_false, Bool.not_eq_true', Bool.not_eq_false', Bool.true_and, Bool.and_true] at g3x
              try (have z := g3; simp [g1x, g2x] at z; done)
              all_goals
                try simp at g3
                all_goals
                  have i2 : (v1_0 - 1) < a0.length := by omega
                  have w2 : IntKind.i64.wrap ((v1_0 : Int) - 1) = (v1_0 : Int) - 1 := wrap_of (by omega) (by omega)
                  simp [i2, rowAt_map, w2, toNat_pred, g1x, g2x, g3x]
                  repeat ((with_reducible refine And.intro ?_ ?_); focus (intros; first | omega | (simp_all; done) | (simp_all; omega) | grind))
                  refine guardI rfl rfl rfl rfl rfl (by simp) (fun _ => ?_) (fun g0 => by simp [g1x, g2x, g3x] at g0)
                  simp [i1, rowAt_map, g1x, g2x, g3x]
                  repeat ((with_reducible refine And.intro ?_ ?_); focus (intros; first | omega | (simp_all; done) | (simp_all; omega) | grind))
                  refine condR (c := ((((!(s_l1In (nth a0 v1_0).Id 0 99)) || (!(s_l1In (nth a0 v1_0).Key 1 99))) || (!(s_l1In (nth a0 v1_0).Error 0 100))) || ((decide ((↑v1_0 : Int) > 0)) && (decide ((nth a0 (v1_0 - 1)).Id ≥ (nth a0 v1_0).Id))))) (by first | (simp [g1x, g2x, g3x]; done) | grind) (fun k4 h2 => ?_) (fun k4 h2 => ?_)
                  · try (have z := h2; simp [g1x, g2x, g3x] at z; done)
                    all_goals
                      have q2 := h2; try simp [s_l1In] at q2
                      have x1 : s_AreAuthorities_1 a0 (a0.length + 1) 0 = .inl false := by rw [← e1]; simp only [s_AreAuthorities_1, h1, h2, cond_true, cond_false]
                      simp [g1x, g2x, g3x]
                      repeat ((with_reducible refine And.intro ?_ ?_); focus (intros; first | omega | (simp_all; done) | (simp_all; omega) | grind))
                      refine retRd (rv := [.tmp 2]) rfl ?_
                      have f1 := s_AreAuthorities.eq_1 a0
                      simp only [x1, cond_true, cond_false] at f1
                      simp [f1, g1x, g2x, g3x]
                  · try (have z := h2; simp [g1x, g2x, g3x] at z; done)
                    all_goals
                      have q2 := h2; try simp [s_l1In] at q2
                      simp [g1x, g2x, g3x]
                      repeat ((with_reducible refine And.intro ?_ ?_); focus (intros; first | omega | (simp_all; done) | (simp_all; omega) | grind))
                      refine nxtI ⟨(p1, (v1_0 + 1)), ?_, ?_⟩ (by simp) (wk_keep (by simp [w1, w2]))
                      · rw [← e1]; simp only [s_AreAuthorities_1, h1, h2, cond_true, cond_false]
                      · first | omega | (simp at *; omega)
            · have g3x := g3; try simp only [beq_true, beq_false, Bool.not_eq_true', Bool.not_eq_false', Bool.true_and, Bool.and_true] at g3x
              try (have z := g3; simp [g1x, g2x] at z; done)
              all_goals
                simp [g1x, g2x, g3x]
                repeat ((with_reducible refine And.intro ?_ ?_); focus (intros; first | omega | (simp_all; done) | (simp_all; omega) | grind))
                refine skipG rfl rfl rfl rfl (by simp) (by simp [g1x, g2x, g3x]) ?_
                simp [g1x, g2x, g3x]
                repeat ((with_reducible refine And.intro ?_ ?_); focus (intros; first | omega | (simp_all; done) | (simp_all; omega) | grind))
                refine condR (c := ((((!(s_l1In (nth a0 v1_0).Id 0 99)) || (!(s_l1In (nth a0 v1_0).Key 1 99))) || (!(s_l1In (nth a0 v1_0).Error 0 100))) || ((decide ((↑v1_0 : Int) > 0)) && (decide ((nth a0 (v1_0 - 1)).Id ≥ (nth a0 v1_0).Id))))) (by first | (simp [g1x, g2x, g3x]; done) | grind) (fun k5 h3 => ?_) (fun k5 h3 => ?_)
                · try (have z := h3; simp [g1x, g2x, g3x] at z; done)
                  all_goals
                    have q3 := h3; try simp [s_l1In] at q3
                    have x2 : s_AreAuthorities_1 a0 (a0.length + 1) 0 = .inl false := by rw [← e1]; simp only [s_AreAuthorities_1, h1, h3, cond_true, cond_false]
                    simp [g1x, g2x, g3x]
                    repeat ((with_reducible refine And.intro ?_ ?_); focus (intros; first | omega | (simp_all; done) | (simp_all; omega) | grind))
                    refine retRd (rv := [.tmp 2]) rfl ?_
                    have f2 := s_AreAuthorities.eq_1 a0
                    simp only [x2, cond_true, cond_false] at f2
                    simp [f2, g1x, g2x, g3x]
                · try (have z := h3; simp [g1x, g2x, g3x] at z; done)
                  all_goals
                    have q3 := h3; try simp [s_l1In] at q3
                    simp [g1x, g2x, g3x]
                    repeat ((with_reducible refine And.intro ?_ ?_); focus (intros; first | omega | (simp_all; done) | (simp_all; omega) | grind))
                    refine nxtI ⟨(p1, (v1_0 + 1)), ?_, ?_⟩ (by simp) (wk_keep (by simp [w1]))
                    · rw [← e1]; simp only [s_AreAuthorities_1, h1, h3, cond_true, cond_false]
                    · first | omega | (simp at *; omega)
      · have g2x := g2; try simp only [beq_true, beq_false, Bool.not_eq_true', Bool.not_eq_false', Bool.true_and, Bool.and_true] at g2x
        try (have z := g2; simp [g1x] at z; done)
        all_goals
          simp [g1x, g2x]
          repeat ((with_reducible refine And.intro ?_ ?_); focus (intros; first | omega | (simp_all; done) | (simp_all; omega) | grind))
          refine skipG rfl rfl rfl rfl (by simp) (by simp [g1x, g2x]) ?_
          simp [g1x, g2x]
          repeat ((with_reducible refine And.intro ?_ ?_); focus (intros; first | omega | (simp_all; done) | (simp_all; omega) | grind))
          refine guardI rfl rfl rfl rfl rfl (by simp) (fun g4 => ?_) (fun g4 => ?_)
          · have g4x := g4; try simp only [beq_true, beq_false, Bool.not_eq_true', Bool.not_eq_false', Bool.true_and, Bool.and_true] at g4x
            try (have z := g4; simp [g1x, g2x] at z; done)
            all_goals
              try simp at g4
              all_goals
                have i4 : (v1_0 - 1) < a0.length := by omega
                have w4 : IntKind.i64.wrap ((v1_0 : Int) - 1) = (v1_0 : Int) - 1 := wrap_of (by omega) (by omega)
                simp [i4, rowAt_map, w4, toNat_pred, g1x, g2x, g4x]
                repeat ((with_reducible refine And.intro ?_ ?_); focus (intros; first | omega | (simp_all; done) | (simp_all; omega) | grind))
                refine guardI rfl rfl rfl rfl rfl (by simp) (fun _ => ?_) (fun g0 => by simp [g1x, g2x, g4x] at g0)
                simp [i1, rowAt_map, g1x, g2x, g4x]
                repeat ((with_reducible refine And.intro ?_ ?_); focus (intros; first | omega | (simp_all; done) | (simp_all; omega) | grind))
                refine condR (c := ((((!(s_l1In (nth a0 v1_0).Id 0 99)) || (!(s_l1In (nth a0 v1_0).Key 1 99))) || (!(s_l1In (nth a0 v1_0).Error 0 100))) || ((decide ((↑v1_0 : Int) > 0)) && (decide ((nth a0 (v1_0 - 1)).Id ≥ (nth a0 v1_0).Id))))) (by first | (simp [g1x, g2x, g4x]; done) | grind) (fun k6 h4 => ?_) (fun k6 h4 => ?_)
                · try (have z := h4; simp [g1x, g2x, g4x] at z; done)
                  all_goals
                    have q4 := h4; try simp [s_l1In] at q4
                    have x3 : s_AreAuthorities_1 a0 (a0.length + 1) 0 = .inl false := by rw [← e1]; simp only [s_AreAuthorities_1, h1, h4, cond_true, cond_false]
                    simp [g1x, g2x, g4x]
                    repeat ((with_reducible refine And.intro ?_ ?_); focus (intros; first | omega | (simp_all; done) | (simp_all; omega) | grind))
                    refine retRd (rv := [.tmp 2]) rfl ?_
                    have f3 := s_AreAuthorities.eq_1 a0
                    simp only [x3, cond_true, cond_false] at f3
                    simp [f3, g1x, g2x, g4x]
                · try (have z := h4; simp [g1x, g2x, g4x] at z; done)
                  all_goals
                    have q4 := h4; try simp [s_l1In] at q4
                    simp [g1x, g2x, g4x]
                    repeat ((with_reducible refine And.intro ?_ ?_); focus (intros; first | omega | (simp_all; done) | (simp_all; omega) | grind))
                    refine nxtI ⟨(p1, (v1_0 + 1)), ?_, ?_⟩ (by simp) (wk_keep (by simp [w1, w4]))
                    · rw [← e1]; simp only [s_AreAuthorities_1, h1, h4, cond_true, cond_false]
                    · first | omega | (simp at *; omega)
          · have g4x := g4; try simp only [beq_true, beq_false, Bool.not_eq_true', Bool.not_eq_false', Bool.true_and, Bool.and_true] at g4x
            try (have z := g4; simp [g1x, g2x] at z; done)
            all_goals
              simp [g1x, g2x, g4x]
              repeat ((with_reducible refine And.intro ?_ ?_); focus (intros; first | omega | (simp_all; done) | (simp_all; omega) | grind))
              refine skipG rfl rfl rfl rfl (by simp) (by simp [g1x, g2x, g4x]) ?_
              simp [g1x, g2x, g4x]
              repeat ((with_reducible refine And.intro ?_ ?_); focus (intros; first | omega | (simp_all; done) | (simp_all; omega) | grind))
              refine condR (c := ((((!(s_l1In (nth a0 v1_0).Id 0 99)) || (!(s_l1In (nth a0 v1_0).Key 1 99))) || (!(s_l1In (nth a0 v1_0).Error 0 100))) || ((decide ((↑v1_0 : Int) > 0)) && (decide ((nth a0 (v1_0 - 1)).Id ≥ (nth a0 v1_0).Id))))) (by first | (simp [g1x, g2x, g4x]; done) | grind) (fun k7 h5 => ?_) (fun k7 h5 => ?_)
              · try (have z := h5; simp [g1x, g2x, g4x] at z; done)
                all_goals
                  have q5 := h5; try simp [s_l1In] at q5
                  have x4 : s_AreAuthorities_1 a0 (a0.length + 1) 0 = .inl false := by rw [← e1]; simp only [s_AreAuthorities_1, h1, h5, cond_true, cond_false]
                  simp [g1x, g2x, g4x]
                  repeat ((with_reducible refine And.intro ?_ ?_); focus (intros; first | omega | (simp_all; done) | (simp_all; omega) | grind))
                  refine retRd (rv := [.tmp 2]) rfl ?_
                  have f4 := s_AreAuthorities.eq_1 a0
                  simp only [x4, cond_true, cond_false] at f4
                  simp [f4, g1x, g2x, g4x]
              · try (have z := h5; simp [g1x, g2x, g4x] at z; done)
                all_goals
                  have q5 := h5; try simp [s_l1In] at q5
                  simp [g1x, g2x, g4x]
                  repeat ((with_reducible refine And.intro ?_ ?_); focus (intros; first | omega | (simp_all; done) | (simp_all; omega) | grind))
                  refine nxtI ⟨(p1, (v1_0 + 1)), ?_, ?_⟩ (by simp) (wk_keep (by simp [w1]))
                  · rw [← e1]; simp only [s_AreAuthorities_1, h1, h5, cond_true, cond_false]
                  · first | omega | (simp at *; omega)
    · have g1x := g1; try simp only [beq_true, beq_false, Bool.not_eq_true', Bool.not_eq_false', Bool.true_and, Bool.and_true] at g1x
      simp [g1x]
      repeat ((with_reducible refine And.intro ?_ ?_); focus (intros; first | omega | (simp_all; done) | (simp_all; omega) | grind))
      refine skipG rfl rfl rfl rfl (by simp) (by simp [g1x]) ?_
      simp [g1x]
      repeat ((with_reducible refine And.intro ?_ ?_); focus (intros; first | omega | (simp_all; done) | (simp_all; omega) | grind))
      refine guardI rfl rfl rfl rfl rfl (by simp) (fun g5 => ?_) (fun g5 => ?_)
      · have g5x := g5; try simp only [beq_true, beq_false, Bool.not_eq_true', Bool.not_eq_false', Bool.true_and, Bool.and_true] at g5x
        try (have z := g5; simp [g1x] at z; done)
        all_goals
          try simp at g5
          all_goals
            simp [i1, rowAt_map, g1x, g5x]
            repeat ((with_reducible refine And.intro ?_ ?_); focus (intros; first | omega | (simp_all; done) | (simp_all; omega) | grind))
            refine callG rfl rfl rfl rfl rfl rfl (fun _ => (s_l1In_ok (nth a0 v1_0).Error 0 100)) (by simp) (by simp) (by simp) (by simp) ?_
            simp [g1x, g5x]
            repeat ((with_reducible refine And.intro ?_ ?_); focus (intros; first | omega | (simp_all; done) | (simp_all; omega) | grind))
            refine guardI rfl rfl rfl rfl rfl (by simp) (fun g6 => ?_) (fun g6 => ?_)
            · have g6x := g6; try simp only [beq_true, beq_false, Bool.not_eq_true', Bool.not_eq_false', Bool.true_and, Bool.and_true] at g6x
              try (have z := g6; simp [g1x, g5x] at z; done)
              all_goals
                try simp at g6
                all_goals
                  have i6 : (v1_0 - 1) < a0.length := by omega
                  have w6 : IntKind.i64.wrap ((v1_0 : Int) - 1) = (v1_0 : Int) - 1 := wrap_of (by omega) (by omega)
                  simp [i6, rowAt_map, w6, toNat_pred, g1x, g5x, g6x]
                  repeat ((with_reducible refine And.intro ?_ ?_); focus (intros; first | omega | (simp_all; done) | (simp_all; omega) | grind))
                  refine guardI rfl rfl rfl rfl rfl (by simp) (fun _ => ?_) (fun g0 => by simp [g1x, g5x, g6x] at g0)
                  simp [i1, rowAt_map, g1x, g5x, g6x]
                  repeat ((with_reducible refine And.intro ?_ ?_); focus (intros; first | omega | (simp_all; done) | (simp_all; omega) | grind))
                  refine condR (c := ((((!(s_l1In (nth a0 v1_0).Id 0 99)) || (!(s_l1In (nth a0 v1_0).Key 1 99))) || (!(s_l1In (nth a0 v1_0).Error 0 100))) || ((decide ((↑v1_0 : Int) > 0)) && (decide ((nth a0 (v1_0 - 1)).Id ≥ (nth a0 v1_0).Id))))) (by first | (simp [g1x, g5x, g6x]; done) | grind) (fun k8 h6 => ?_) (fun k8 h6 => ?_)
                  · try (have z := h6; simp [g1x, g5x, g6x] at z; done)
                    all_goals
                      have q6 := h6; try simp [s_l1In] at q6
                      have x5 : s_AreAuthorities_1 a0 (a0.length + 1) 0 = .inl false := by rw [← e1]; simp only [s_AreAuthorities_1, h1, h6, cond_true, cond_false]
                      simp [g1x, g5x, g6x]
                      repeat ((with_reducible refine And.intro ?_ ?_); focus (intros; first | omega | (simp_all; done) | (simp_all; omega) | grind))
                      refine retRd (rv := [.tmp 2]) rfl ?_
                      have f5 := s_AreAuthorities.eq_1 a0
                      simp only [x5, cond_true, cond_false] at f5
                      simp [f5, g1x, g5x, g6x]
                  · try (have z := h6; simp [g1x, g5x, g6x] at z; done)
                    all_goals
                      have q6 := h6; try simp [s_l1In] at q6
                      simp [g1x, g5x, g6x]
                      repeat ((with_reducible refine And.intro ?_ ?_); focus (intros; first | omega | (simp_all; done) | (simp_all; omega) | grind))
                      refine nxtI ⟨(p1, (v1_0 + 1)), ?_, ?_⟩ (by simp) (wk_keep (by simp [w1, w6]))
                      · rw [← e1]; simp only [s_AreAuthorities_1, h1, h6, cond_true, cond_false]
                      · first | omega | (simp at *; omega)
            · have g6x := g6; try simp only [beq_true, beq_false, Bool.not_eq_true', Bool.not_eq_false', Bool.true_and, Bool.and_true] at g6x
              try (have z := g6; simp [g1x, g5x] at z; done)
              all_goals
                simp [g1x, g5x, g6x]
                repeat ((with_reducible refine And.intro ?_ ?_); focus (intros; first | omega | (simp_all; done) | (simp_all; omega) | grind))
                refine skipG rfl rfl rfl rfl (by simp) (by simp [g1x, g5x, g6x]) ?_
                simp [g1x, g5x, g6x]
                repeat ((with_reducible refine And.intro ?_ ?_); focus (intros; first | omega | (simp_all; done) | (simp_all; omega) | grind))
                refine condR (c := ((((!(s_l1In (nth a0 v1_0).Id 0 99)) || (!(s_l1In (nth a0 v1_0).Key 1 99))) || (!(s_l1In (nth a0 v1_0).Error 0 100))) || ((decide ((↑v1_0 : Int) > 0)) && (decide ((nth a0 (v1_0 - 1)).Id ≥ (nth a0 v1_0).Id))))) (by first | (simp [g1x, g5x, g6x]; done) | grind) (fun k9 h7 => ?_) (fun k9 h7 => ?_)
                · try (have z := h7; simp [g1x, g5x, g6x] at z; done)
                  all_goals
                    have q7 := h7; try simp [s_l1In] at q7
                    have x6 : s_AreAuthorities_1 a0 (a0.length + 1) 0 = .inl false := by rw [← e1]; simp only [s_AreAuthorities_1, h1, h7, cond_true, cond_false]
                    simp [g1x, g5x, g6x]
                    repeat ((with_reducible refine And.intro ?_ ?_); focus (intros; first | omega | (simp_all; done) | (simp_all; omega) | grind))
                    refine retRd (rv := [.tmp 2]) rfl ?_
                    have f6 := s_AreAuthorities.eq_1 a0
                    simp only [x6, cond_true, cond_false] at f6
                    simp [f6, g1x, g5x, g6x]
                · try (have z := h7; simp [g1x, g5x, g6x] at z; done)
                  all_goals
                    have q7 := h7; try simp [s_l1In] at q7
                    simp [g1x, g5x, g6x]
                    repeat ((with_reducible refine And.intro ?_ ?_); focus (intros; first | omega | (simp_all; done) | (simp_all; omega) | grind))
                    refine nxtI ⟨(p1, (v1_0 + 1)), ?_, ?_⟩ (by simp) (wk_keep (by simp [w1]))
                    · rw [← e1]; simp only [s_AreAuthorities_1, h1, h7, cond_true, cond_false]
                    · first | omega | (simp at *; omega)
      · have g5x := g5; try simp only [beq_true, beq_false, Bool.not_eq_true', Bool.not_eq_false', Bool.true_and, Bool.and_true] at g5x
        try (have z := g5; simp [g1x] at z; done)
        all_goals
          simp [g1x, g5x]
          repeat ((with_reducible refine And.intro ?_ ?_); focus (intros; first | omega | (simp_all; done) | (simp_all; omega) | grind))
          refine skipG rfl rfl rfl rfl (by simp) (by simp [g1x, g5x]) ?_
          simp [g1x, g5x]
          repeat ((with_reducible refine And.intro ?_ ?_); focus (intros; first | omega | (simp_all; done) | (simp_all; omega) | grind))
          refine guardI rfl rfl rfl rfl rfl (by simp) (fun g7 => ?_) (fun g7 => ?_)
          · have g7x := g7; try simp only [beq_true, beq_false, Bool.not_eq_true', Bool.not_eq_false', Bool.true_and, Bool.and_true] at g7x
            try (have z := g7; simp [g1x, g5x] at z; done)
            all_goals
              try simp at g7
              all_goals
                have i8 : (v1_0 - 1) < a0.length := by omega
                have w8 : IntKind.i64.wrap ((v1_0 : Int) - 1) = (v1_0 : Int) - 1 := wrap_of (by omega) (by omega)
                simp [i8, rowAt_map, w8, toNat_pred, g1x, g5x, g7x]
                repeat ((with_reducible refine And.intro ?_ ?_); focus (intros; first | omega | (simp_all; done) | (simp_all; omega) | grind))
                refine guardI rfl rfl rfl rfl rfl (by simp) (fun _ => ?_) (fun g0 => by simp [g1x, g5x, g7x] at g0)
                simp [i1, rowAt_map, g1x, g5x, g7x]
                repeat ((with_reducible refine And.intro ?_ ?_); focus (intros; first | omega | (simp_all; done) | (simp_all; omega) | grind))
                refine condR (c := ((((!(s_l1In (nth a0 v1_0).Id 0 99)) || (!(s_l1In (nth a0 v1_0).Key 1 99))) || (!(s_l1In (nth a0 v1_0).Error 0 100))) || ((decide ((↑v1_0 : Int) > 0)) && (decide ((nth a0 (v1_0 - 1)).Id ≥ (nth a0 v1_0).Id))))) (by first | (simp [g1x, g5x, g7x]; done) | grind) (fun k10 h8 => ?_) (fun k10 h8 => ?_)
                · try (have z := h8; simp [g1x, g5x, g7x] at z; done)
                  all_goals
                    have q8 := h8; try simp [s_l1In] at q8
                    have x7 : s_AreAuthorities_1 a0 (a0.length + 1) 0 = .inl false := by rw [← e1]; simp only [s_AreAuthorities_1, h1, h8, cond_true, cond_false]
                    simp [g1x, g5x, g7x]
                    repeat ((with_reducible refine And.intro ?_ ?_); focus (intros; first | omega | (simp_all; done) | (simp_all; omega) | grind))
                    refine retRd (rv := [.tmp 2]) rfl ?_
                    have f7 := s_AreAuthorities.eq_1 a0
                    simp only [x7, cond_true, cond_false] at f7
                    simp [f7, g1x, g5x, g7x]
                · try (have z := h8; simp [g1x, g5x, g7x] at z; done)
                  all_goals
                    have q8 := h8; try simp [s_l1In] at q8
                    simp [g1x, g5x, g7x]
                    repeat ((with_reducible refine And.intro ?_ ?_); focus (intros; first | omega | (simp_all; done) | (simp_all; omega) | grind))
                    refine nxtI ⟨(p1, (v1_0 + 1)), ?_, ?_⟩ (by simp) (wk_keep (by simp [w1, w8]))
                    · rw [← e1]; simp only [s_AreAuthorities_1, h1, h8, cond_true, cond_false]
                    · first | omega | (simp at *; omega)
          · have g7x := g7; try simp only [beq_true, beq_false, Bool.not_eq_true', Bool.not_eq_false', Bool.true_and, Bool.and_true] at g7x
            try (have z := g7; simp [g1x, g5x] at z; done)
            all_goals
              simp [g1x, g5x, g7x]
              repeat ((with_reducible refine And.intro ?_ ?_); focus (intros; first | omega | (simp_all; done) | (simp_all; omega) | grind))
              refine skipG rfl rfl rfl rfl (by simp) (by simp [g1x, g5x, g7x]) ?_
              simp [g1x, g5x, g7x]
              repeat ((with_reducible refine And.intro ?_ ?_); focus (intros; first | omega | (simp_all; done) | (simp_all; omega) | grind))
              refine condR (c := ((((!(s_l1In (nth a0 v1_0).Id 0 99)) || (!(s_l1In (nth a0 v1_0).Key 1 99))) || (!(s_l1In (nth a0 v1_0).Error 0 100))) || ((decide ((↑v1_0 : Int) > 0)) && (decide ((nth a0 (v1_0 - 1)).Id ≥ (nth a0 v1_0).Id))))) (by first | (simp [g1x, g5x, g7x]; done) | grind) (fun k11 h9 => ?_) (fun k11 h9 => ?_)
              · try (have z := h9; simp [g1x, g5x, g7x] at z; done)
                all_goals
                  have q9 := h9; try simp [s_l1In] at q9
                  have x8 : s_AreAuthorities_1 a0 (a0.length + 1) 0 = .inl false := by rw [← e1]; simp only [s_AreAuthorities_1, h1, h9, cond_true, cond_false]
                  simp [g1x, g5x, g7x]
                  repeat ((with_reducible refine And.intro ?_ ?_); focus (intros; first | omega | (simp_all; done) | (simp_all; omega) | grind))
                  refine retRd (rv := [.tmp 2]) rfl ?_
                  have f8 := s_AreAuthorities.eq_1 a0
                  simp only [x8, cond_true, cond_false] at f8
                  simp [f8, g1x, g5x, g7x]
              · try (have z := h9; simp [g1x, g5x, g7x] at z; done)
                all_goals
                  have q9 := h9; try simp [s_l1In] at q9
                  simp [g1x, g5x, g7x]
                  repeat ((with_reducible refine And.intro ?_ ?_); focus (intros; first | omega | (simp_all; done) | (simp_all; omega) | grind))
                  refine nxtI ⟨(p1, (v1_0 + 1)), ?_, ?_⟩ (by simp) (wk_keep (by simp [w1]))
                  · rw [← e1]; simp only [s_AreAuthorities_1, h1, h9, cond_true, cond_false]
                  · first | omega | (simp at *; omega)
  · have q1 := h1; try simp at q1
    have x9 : s_AreAuthorities_1 a0 (a0.length + 1) 0 = .inr () := by rw [← e1]; simp only [s_AreAuthorities_1, h1, cond_true, cond_false]
    simp
    refine retRd (rv := [.tmp 2]) rfl ?_
    have f9 := s_AreAuthorities.eq_1 a0
    simp only [x9, cond_true, cond_false] at f9
    simp [f9]
theorem s_IsMethod_ok (a0 : TMethod) : SoundAt Tryz.prog 83 false [a0.row] [[.bool (s_IsMethod a0)]] := by
  refine sound_of Tryz.func83 rfl (by kernel_rfl) ?_
  simp [Tryz.ntmps83]
  refine callRd rfl rfl rfl rfl (s_l1In_ok a0.Id 0 99) (by simp) (by simp) (by simp) ?_
  simp
  refine callG rfl rfl rfl rfl rfl rfl (fun _ => (s_l4Time_ok a0.Known)) (by simp) (by simp) (by simp) (by simp) ?_
  simp
  refine callG rfl rfl rfl rfl rfl rfl (fun _ => (s_l1In_ok a0.Ends 1 10001)) (by simp) (by simp) (by simp) (by simp) ?_
  simp
  refine callG rfl rfl rfl rfl rfl rfl (fun _ => (s_l1In_ok a0.Broken 1 10001)) (by simp) (by simp) (by simp) (by simp) ?_
  simp
  refine retRd (rv := [.tmp 2]) rfl ?_
  have f1 := s_IsMethod.eq_1 a0
  simp [f1]
theorem s_AreMethods_ok (a0 : List TMethod) : SoundAt Tryz.prog 48 false [[.sl 4 (a0.map TMethod.row)]] [[.bool (s_AreMethods a0)]] := by
  refine sound_of Tryz.func48 rfl (by kernel_rfl) ?_
  simp [Tryz.ntmps48]
  refine okL fun k1 => ?_
  refine loopI (ι := { s : Nat × Nat // s_AreMethods_1 a0 s.1 s.2 = s_AreMethods_1 a0 (a0.length + 1) 0 ∧ (1 ≤ s.1 ∧ a0.length < s.1 + s.2 ∧ s.2 ≤ a0.length) }) (fun s => stOf 37 [(0, .one (.d (.sl 4 (a0.map TMethod.row))), []), (3, .one (.d (.int .i64 (↑s.1.2 : Int))), [])]) (fun s => s.1.1) ⟨((a0.length + 1), 0), rfl, by first | omega | (dsimp only; omega) | simp⟩ (wk_keep (by simp)) ?_
  rintro ⟨⟨n1, v1_0⟩, e1, j1⟩
  try dsimp only at e1 j1
  obtain ⟨p1, rfl⟩ : ∃ p, n1 = p + 1 := ⟨n1 - 1, by omega⟩
  simp
  refine condR (c := (decide ((↑v1_0 : Int) < (↑a0.length : Int)))) (by simp) (fun k2 h1 => ?_) (fun k2 h1 => ?_)
  · have q1 := h1; try simp at q1
    have i1 : v1_0 < a0.length := by simpa using h1
    have m2 : a0.length ≤ 9223372036854775807 := by simpa using k2 0 _ rfl
    have w1 : IntKind.i64.wrap ((v1_0 : Int) + 1) = (v1_0 : Int) + 1 := wrap_of (by omega) (by omega)
    simp
    refine okD fun k3 => ?_
    refine drawI mixed (by kernel_rfl) (by kernel_rfl) ?_
    simp [i1, rowAt_map]
    repeat ((with_reducible refine And.intro ?_ ?_); focus (intros; omega))
    refine callRd rfl rfl rfl rfl (s_IsMethod_ok (nth a0 v1_0)) (by simp) (by simp) (by simp) ?_
    simp
    refine guardI rfl rfl rfl rfl rfl (by simp) (fun g1 => ?_) (fun g1 => ?_)
    · have g1x := g1; try simp only [beq_true, beq_false, Bool.not_eq_true', Bool.not_eq_false', Bool.true_and, Bool.and_true] at g1x
      try simp at g1
      have i2 : (v1_0 - 1) < a0.length := by omega
      have w2 : IntKind.i64.wrap ((v1_0 : Int) - 1) = (v1_0 : Int) - 1 := wrap_of (by omega) (by omega)
      simp [i2, rowAt_map, w2, toNat_pred, g1x]
      repeat ((with_reducible refine And.intro ?_ ?_); focus (intros; first | omega | (simp_all; done) | (simp_all; omega) | grind))
      refine guardI rfl rfl rfl rfl rfl (by simp) (fun _ => ?_) (fun g0 => by simp [g1x] at g0)
      simp [i1, rowAt_map, g1x]
      repeat ((with_reducible refine And.intro ?_ ?_); focus (intros; first | omega | (simp_all; done) | (simp_all; omega) | grind))
      refine condR (c := ((!(s_IsMethod (nth a0 v1_0))) || ((decide ((↑v1_0 : Int) > 0)) && (decide ((nth a0 (v1_0 - 1)).Id ≥ (nth a0 v1_0).Id))))) (by first | (simp [g1x]; done) | grind) (fun k4 h2 => ?_) (fun k4 h2 => ?_)
      · try (have z := h2; simp [g1x] at z; done)
        all_goals
          have q2 := h2; try simp at q2
          have x1 : s_AreMethods_1 a0 (a0.length + 1) 0 = .inl false := by rw [← e1]; simp only [s_AreMethods_1, h1, h2, cond_true, cond_false]
          simp [g1x]
          repeat ((with_reducible refine And.intro ?_ ?_); focus (intros; first | omega | (simp_all; done) | (simp_all; omega) | grind))
          refine retRd (rv := [.tmp 2]) rfl ?_
          have f1 := s_AreMethods.eq_1 a0
          simp only [x1, cond_true, cond_false] at f1
          simp [f1, g1x]
      · try (have z := h2; simp [g1x] at z; done)
        all_goals
          have q2 := h2; try simp at q2
          simp [g1x]
          repeat ((with_reducible refine And.intro ?_ ?_); focus (intros; first | omega | (simp_all; done) | (simp_all; omega) | grind))
          refine nxtI ⟨(p1, (v1_0 + 1)), ?_, ?_⟩ (by simp) (wk_keep (by simp [w1, w2]))
          · rw [← e1]; simp only [s_AreMethods_1, h1, h2, cond_true, cond_false]
          · first | omega | (simp at *; omega)
    · have g1x := g1; try simp only [beq_true, beq_false, Bool.not_eq_true', Bool.not_eq_false', Bool.true_and, Bool.and_true] at g1x
      simp [g1x]
      repeat ((with_reducible refine And.intro ?_ ?_); focus (intros; first | omega | (simp_all; done) | (simp_all; omega) | grind))
      refine skipG rfl rfl rfl rfl (by simp) (by simp [g1x]) ?_
      simp [g1x]
      repeat ((with_reducible refine And.intro ?_ ?_); focus (intros; first | omega | (simp_all; done) | (simp_all; omega) | grind))
      refine condR (c := ((!(s_IsMethod (nth a0 v1_0))) || ((decide ((↑v1_0 : Int) > 0)) && (decide ((nth a0 (v1_0 - 1)).Id ≥ (nth a0 v1_0).Id))))) (by first | (simp [g1x]; done) | grind) (fun k5 h3 => ?_) (fun k5 h3 => ?_)
      · try (have z := h3; simp [g1x] at z; done)
        all_goals
          have q3 := h3; try simp at q3
          have x2 : s_AreMethods_1 a0 (a0.length + 1) 0 = .inl false := by rw [← e1]; simp only [s_AreMethods_1, h1, h3, cond_true, cond_false]
          simp [g1x]
          repeat ((with_reducible refine And.intro ?_ ?_); focus (intros; first | omega | (simp_all; done) | (simp_all; omega) | grind))
          refine retRd (rv := [.tmp 2]) rfl ?_
          have f2 := s_AreMethods.eq_1 a0
          simp only [x2, cond_true, cond_false] at f2
          simp [f2, g1x]
      · try (have z := h3; simp [g1x] at z; done)
        all_goals
          have q3 := h3; try simp at q3
          simp [g1x]
          repeat ((with_reducible refine And.intro ?_ ?_); focus (intros; first | omega | (simp_all; done) | (simp_all; omega) | grind))
          refine nxtI ⟨(p1, (v1_0 + 1)), ?_, ?_⟩ (by simp) (wk_keep (by simp [w1]))
          · rw [← e1]; simp only [s_AreMethods_1, h1, h3, cond_true, cond_false]
          · first | omega | (simp at *; omega)
  · have q1 := h1; try simp at q1
    have x3 : s_AreMethods_1 a0 (a0.length + 1) 0 = .inr () := by rw [← e1]; simp only [s_AreMethods_1, h1, cond_true, cond_false]
    simp
    refine retRd (rv := [.tmp 2]) rfl ?_
    have f3 := s_AreMethods.eq_1 a0
    simp only [x3, cond_true, cond_false] at f3
    simp [f3]
theorem s_IsFrame_ok (a0 : TFrame) : SoundAt Tryz.prog 17 false [a0.row] [[.bool (s_IsFrame a0)]] := by
  refine sound_of Tryz.func17 rfl (by kernel_rfl) ?_
  simp [Tryz.ntmps17]
  refine callRd rfl rfl rfl rfl (s_AreKeys_ok a0.Keys) (by simp) (by simp) (by simp) ?_
  simp
  refine callG rfl rfl rfl rfl rfl rfl (fun _ => (s_AreAuthorities_ok a0.Authorities)) (by simp) (by simp) (by simp) (by simp) ?_
  simp
  refine callG rfl rfl rfl rfl rfl rfl (fun _ => (s_AreMethods_ok a0.Methods)) (by simp) (by simp) (by simp) (by simp) ?_
  simp
  refine callG rfl rfl rfl rfl rfl rfl (fun _ => (s_l1In_ok a0.Liars 0 6)) (by simp) (by simp) (by simp) (by simp) ?_
  simp
  refine callG rfl rfl rfl rfl rfl rfl (fun _ => (s_l4Time_ok a0.Now)) (by simp) (by simp) (by simp) (by simp) ?_
  simp
  refine retRd (rv := [.tmp 2]) rfl ?_
  have f1 := s_IsFrame.eq_1 a0
  simp [f1]
theorem s_CertSpan_ok (a0 : TCert) : SoundAt Tryz.prog 120 false [a0.row] [(s_CertSpan a0).row] := by
  refine sound_of Tryz.func120 rfl (by kernel_rfl) ?_
  simp [Tryz.ntmps120]
  refine retRd (rv := [.cell 2 140]) rfl ?_
  have f1 := s_CertSpan.eq_1 a0
  simp [f1]
theorem s_IsSpan_ok (a0 : TSpan) : SoundAt Tryz.prog 119 false [a0.row] [[.bool (s_IsSpan a0)]] := by
  refine sound_of Tryz.func119 rfl (by kernel_rfl) ?_
  simp [Tryz.ntmps119]
  refine callRd rfl rfl rfl rfl (s_l4Time_ok a0.From) (by simp) (by simp) (by simp) ?_
  simp
  refine callG rfl rfl rfl rfl rfl rfl (fun _ => (s_l4Time_ok a0.To)) (by simp) (by simp) (by simp) (by simp) ?_
  simp
  refine retRd (rv := [.tmp 2]) rfl ?_
  have f1 := s_IsSpan.eq_1 a0
  simp [f1]
theorem s_IsCert_ok (a0 : TCert) : SoundAt Tryz.prog 84 false [a0.row] [[.bool (s_IsCert a0)]] := by
  refine sound_of Tryz.func84 rfl (by kernel_rfl) ?_
  simp [Tryz.ntmps84]
  refine callRd rfl rfl rfl rfl (s_l1In_ok a0.Serial 1 999) (by simp) (by simp) (by simp) ?_
  simp
  refine callG rfl rfl rfl rfl rfl rfl (fun _ => (s_l1In_ok a0.Key 1 99)) (by simp) (by simp) (by simp) (by simp) ?_
  simp
  refine callG rfl rfl rfl rfl rfl rfl (fun _ => (s_l1In_ok a0.Issuer 1 99)) (by simp) (by simp) (by simp) (by simp) ?_
  simp
  refine callG rfl rfl rfl rfl rfl rfl (fun _ => (s_l1In_ok a0.Owner 0 99)) (by simp) (by simp) (by simp) (by simp) ?_
  simp
  refine callG rfl rfl rfl rfl rfl rfl (fun _ => (s_CertSpan_ok a0)) (by simp) (by simp) (by simp) (by simp) ?_
  simp
  refine callG rfl rfl rfl rfl rfl rfl (fun _ => (s_IsSpan_ok (s_CertSpan a0))) (by simp) (by simp) (by simp) (by simp) ?_
  simp
  refine retRd (rv := [.tmp 2]) rfl ?_
  have f1 := s_IsCert.eq_1 a0
  simp [f1]
theorem s_CertInts_ok (a0 : TCert) : SoundAt Tryz.prog 86 true [a0.row] [[.sl 1 ((s_CertInts a0).map iR)]] := by
  refine sound_of Tryz.func86 rfl (by kernel_rfl) ?_
  simp [Tryz.ntmps86]
  refine retOwn (rv := [.tmp 2]) rfl ?_
  have f1 := s_CertInts.eq_1 a0
  simp [f1]
theorem s_FindKey_ok (a0 : List TKey) (a1 : Int) : SoundAt Tryz.prog 121 false [[.sl 5 (a0.map TKey.row)], [.int .i64 a1]] [[.int .i64 (s_FindKey a0 a1)]] := by
  refine sound_of Tryz.func121 rfl (by kernel_rfl) ?_
  simp [Tryz.ntmps121]
  refine okL fun k1 => ?_
  refine loopI (ι := { s : Nat × Nat // s_FindKey_1 a0 a1 s.1 s.2 = s_FindKey_1 a0 a1 (a0.length + 1) 0 ∧ (1 ≤ s.1 ∧ a0.length < s.1 + s.2 ∧ s.2 ≤ a0.length) }) (fun s => stOf 20 [(0, .one (.d (.sl 5 (a0.map TKey.row))), []), (1, .one (.d (.int .i64 a1)), []), (5, .one (.d (.int .i64 (↑s.1.2 : Int))), [])]) (fun s => s.1.1) ⟨((a0.length + 1), 0), rfl, by first | omega | (dsimp only; omega) | simp⟩ (wk_keep (by simp)) ?_
  rintro ⟨⟨n1, v1_0⟩, e1, j1⟩
  try dsimp only at e1 j1
  obtain ⟨p1, rfl⟩ : ∃ p, n1 = p + 1 := ⟨n1 - 1, by omega⟩
  simp
  refine condR (c := (decide ((↑v1_0 : Int) < (↑a0.length : Int)))) (by simp) (fun k2 h1 => ?_) (fun k2 h1 => ?_)
  · have q1 := h1; try simp at q1
    have i1 : v1_0 < a0.length := by simpa using h1
    have m2 : a0.length ≤ 9223372036854775807 := by simpa using k2 0 _ rfl
    have w1 : IntKind.i64.wrap ((v1_0 : Int) + 1) = (v1_0 : Int) + 1 := wrap_of (by omega) (by omega)
    simp [i1, rowAt_map]
    repeat ((with_reducible refine And.intro ?_ ?_); focus (intros; omega))
    refine condR (c := ((nth a0 v1_0).Number == a1)) (by simp) (fun k3 h2 => ?_) (fun k3 h2 => ?_)
    · have q2 := h2; try simp at q2
      have x1 : s_FindKey_1 a0 a1 (a0.length + 1) 0 = .inl (↑v1_0 : Int) := by rw [← e1]; simp only [s_FindKey_1, h1, h2, cond_true, cond_false]
      simp
      refine retRd (rv := [.tmp 4]) rfl ?_
      have f1 := s_FindKey.eq_1 a0 a1
      simp only [x1, cond_true, cond_false] at f1
      simp [f1]
    · have q2 := h2; try simp at q2
      simp
      refine nxtI ⟨(p1, (v1_0 + 1)), ?_, ?_⟩ (by simp) (wk_keep (by simp [w1]))
      · rw [← e1]; simp only [s_FindKey_1, h1, h2, cond_true, cond_false]
      · first | omega | (simp at *; omega)
  · have q1 := h1; try simp at q1
    have x2 : s_FindKey_1 a0 a1 (a0.length + 1) 0 = .inr () := by rw [← e1]; simp only [s_FindKey_1, h1, cond_true, cond_false]
    simp
    refine retRd (rv := [.tmp 4]) rfl ?_
    have f2 := s_FindKey.eq_1 a0 a1
    simp only [x2, cond_true, cond_false] at f2
    simp [f2]
theorem s_Mod_ok (a0 : Int) (a1 : Int) : SoundAt Tryz.prog 167 false [[.int .i64 a0], [.int .i64 a1]] [[.int .i64 (s_Mod a0 a1)]] := by
  refine sound_of Tryz.func167 rfl (by kernel_rfl) ?_
  simp [Tryz.ntmps167]
  refine callRd rfl rfl rfl rfl (s_l1In_ok a1 1 1000000000000) (by simp) (by simp) (by simp) ?_
  simp
  refine condR (c := (!(s_l1In a1 1 1000000000000))) (by simp) (fun k1 h1 => ?_) (fun k1 h1 => ?_)
  · have q1 := h1; try simp [s_l1In] at q1
    simp
    refine retRd (rv := [.tmp 4]) rfl ?_
    have f1 := s_Mod.eq_1 a0 a1
    simp only [h1, cond_true, cond_false] at f1
    simp [f1]
  · have q1 := h1; try simp [s_l1In] at q1
    simp
    repeat ((with_reducible refine And.intro ?_ ?_); focus (intros; omega))
    refine retRd (rv := [.tmp 4]) rfl ?_
    have f2 := s_Mod.eq_1 a0 a1
    simp only [h1, cond_true, cond_false] at f2
    simp [f2]
theorem s_Hash_ok (a0 : List Int) : SoundAt Tryz.prog 137 false [[.sl 1 (a0.map iR)]] [[.int .i64 (s_Hash a0)]] := by
  refine sound_of Tryz.func137 rfl (by kernel_rfl) ?_
  simp [Tryz.ntmps137]
  refine okL fun k1 => ?_
  refine loopI (ι := { s : Nat × Int × Nat // s_Hash_1 a0 s.1 s.2.1 s.2.2 = s_Hash_1 a0 (a0.length + 1) 11 0 ∧ (1 ≤ s.1 ∧ a0.length < s.1 + s.2.2 ∧ s.2.2 ≤ a0.length) }) (fun s => stOf 22 [(0, .one (.d (.sl 1 (a0.map iR))), []), (3, .one (.d (.int .i64 s.1.2.1)), []), (4, .one (.d (.int .i64 (↑s.1.2.2 : Int))), [])]) (fun s => s.1.1) ⟨((a0.length + 1), 11, 0), rfl, by first | omega | (dsimp only; omega) | simp⟩ (wk_keep (by simp)) ?_
  rintro ⟨⟨n1, v1_0, v1_1⟩, e1, j1⟩
  try dsimp only at e1 j1
  obtain ⟨p1, rfl⟩ : ∃ p, n1 = p + 1 := ⟨n1 - 1, by omega⟩
  simp
  refine condR (c := (decide ((↑v1_1 : Int) < (↑a0.length : Int)))) (by simp) (fun k2 h1 => ?_) (fun k2 h1 => ?_)
  · have q1 := h1; try simp at q1
    have i1 : v1_1 < a0.length := by simpa using h1
    have m2 : a0.length ≤ 9223372036854775807 := by simpa using k2 0 _ rfl
    have w1 : IntKind.i64.wrap ((v1_1 : Int) + 1) = (v1_1 : Int) + 1 := wrap_of (by omega) (by omega)
    simp [i1, rowAt_map]
    repeat ((with_reducible refine And.intro ?_ ?_); focus (intros; omega))
    refine callRd rfl rfl rfl rfl (s_Mod_ok (nth a0 v1_1) 2147483647) (by simp) (by simp) (by simp) ?_
    simp
    refine nxtI ⟨(p1, (Int.tmod (W ((W ((W (v1_0 * 1000003)) + (s_Mod (nth a0 v1_1) 2147483647))) + 13)) 2147483647), (v1_1 + 1)), ?_, ?_⟩ (by simp) (wk_keep (by simp [w1]))
    · rw [← e1]; simp only [s_Hash_1, h1, cond_true, cond_false]
    · first | omega | (simp at *; omega)
  · have q1 := h1; try simp at q1
    have x1 : s_Hash_1 a0 (a0.length + 1) 11 0 = v1_0 := by rw [← e1]; simp only [s_Hash_1, h1, cond_true, cond_false]
    simp
    refine retRd (rv := [.tmp 2]) rfl ?_
    have f1 := s_Hash.eq_1 a0
    simp only [x1, cond_true, cond_false] at f1
    simp [f1]
theorem s_KeyedHash_ok (a0 : Int) (a1 : List Int) (u0 : Sm 2330624 a1) : SoundAt Tryz.prog 149 false [[.int .i64 a0], [.sl 1 (a1.map iR)]] [[.int .i64 (s_KeyedHash a0 a1)]] := by
  refine sound_of Tryz.func149 rfl (by kernel_rfl) ?_
  have c1 : a1.length ≤ 2330624 := sm_len (by simp (maxDischargeDepth := 12) [u0])
  simp [Tryz.ntmps149]
  repeat ((with_reducible refine And.intro ?_ ?_); focus (intros; omega))
  refine callRd rfl rfl rfl rfl (s_Hash_ok ((([a0] : List Int) ++ a1) ++ ([a0] : List Int))) (by simp) (by simp) (by simp) ?_
  simp
  refine retRd (rv := [.tmp 4]) rfl ?_
  have f1 := s_KeyedHash.eq_1 a0 a1
  simp [f1]
theorem s_MarkWith_ok (a0 : TKey) (a1 : List Int) (u0 : Sm 2326528 a1) : SoundAt Tryz.prog 122 false [a0.row, [.sl 1 (a1.map iR)]] [[.int .i64 (s_MarkWith a0 a1)]] := by
  refine sound_of Tryz.func122 rfl (by kernel_rfl) ?_
  simp [Tryz.ntmps122]
  refine okD fun k1 => ?_
  refine drawP [2, 3, 4, 5, 6, 0, 1, 7, 8] mixed (by kernel_rfl) (by kernel_rfl) (by kernel_rfl) ?_
  have c1 : a1.length ≤ 2326528 := sm_len (by simp (maxDischargeDepth := 12) [u0])
  simp
  repeat ((with_reducible refine And.intro ?_ ?_); focus (intros; omega))
  refine callRd rfl rfl rfl rfl (s_KeyedHash_ok a0.Secret (([a0.Method] : List Int) ++ a1) (by simp (maxDischargeDepth := 12) [sm_append, sm_list, sm_mono (m := 2330624) (by decide) u0]; try omega)) (by simp) (by simp) (by simp) ?_
  simp
  refine retRd (rv := [.tmp 4]) rfl ?_
  have f1 := s_MarkWith.eq_1 a0 a1
  simp [f1]
theorem s_CheckMark_ok (a0 : List TKey) (a1 : Int) (a2 : List Int) (a3 : Int) (u0 : Sm 2322432 a0) (u1 : Sm 2322432 a2) : SoundAt Tryz.prog 85 false [[.sl 5 (a0.map TKey.row)], [.int .i64 a1], [.sl 1 (a2.map iR)], [.int .i64 a3]] [[.bool (s_CheckMark a0 a1 a2 a3)]] := by
  refine sound_of Tryz.func85 rfl (by kernel_rfl) ?_
  simp [Tryz.ntmps85]
  refine callRd rfl rfl rfl rfl (s_FindKey_ok a0 a1) (by simp) (by simp) (by simp) ?_
  simp
  refine guardI rfl rfl rfl rfl rfl (by simp) (fun g1 => ?_) (fun g1 => ?_)
  · have g1x := g1; try simp only [beq_true, beq_false, Bool.not_eq_true', Bool.not_eq_false', Bool.true_and, Bool.and_true] at g1x
    try simp at g1
    have i1 : (s_FindKey a0 a1).toNat < a0.length := by have := s_FindKey_lt a0 a1; omega
    simp [i1, rowAt_map, g1x]
    repeat ((with_reducible refine And.intro ?_ ?_); focus (intros; first | omega | (simp_all; done) | (simp_all; omega) | grind))
    refine callG rfl rfl rfl rfl rfl rfl (fun _ => (s_MarkWith_ok (nth a0 (s_FindKey a0 a1).toNat) a2 (sm_mono (n := 2322432) (by decide) (by simp (maxDischargeDepth := 12) [u0, u1])))) (by simp) (by simp) (by simp) (by simp) ?_
    simp [g1x]
    repeat ((with_reducible refine And.intro ?_ ?_); focus (intros; first | omega | (simp_all; done) | (simp_all; omega) | grind))
    refine retRd (rv := [.tmp 8]) rfl ?_
    have f1 := s_CheckMark.eq_1 a0 a1 a2 a3
    simp [f1, g1x]
  · have g1x := g1; try simp only [beq_true, beq_false, Bool.not_eq_true', Bool.not_eq_false', Bool.true_and, Bool.and_true] at g1x
    simp [g1x]
    repeat ((with_reducible refine And.intro ?_ ?_); focus (intros; first | omega | (simp_all; done) | (simp_all; omega) | grind))
    refine skipG rfl rfl rfl rfl (by simp) (by simp [g1x]) ?_
    simp [g1x]
    repeat ((with_reducible refine And.intro ?_ ?_); focus (intros; first | omega | (simp_all; done) | (simp_all; omega) | grind))
    refine retRd (rv := [.tmp 8]) rfl ?_
    have f2 := s_CheckMark.eq_1 a0 a1 a2 a3
    simp [f2, g1x]
theorem s_OwnerOf_ok (a0 : List TKey) (a1 : Int) : SoundAt Tryz.prog 87 false [[.sl 5 (a0.map TKey.row)], [.int .i64 a1]] [[.int .i64 (s_OwnerOf a0 a1)]] := by
  refine sound_of Tryz.func87 rfl (by kernel_rfl) ?_
  simp [Tryz.ntmps87]
  refine callRd rfl rfl rfl rfl (s_FindKey_ok a0 a1) (by simp) (by simp) (by simp) ?_
  simp
  refine condR (c := (decide ((s_FindKey a0 a1) < 0))) (by simp) (fun k1 h1 => ?_) (fun k1 h1 => ?_)
  · have q1 := h1; try simp at q1
    simp
    refine retRd (rv := [.tmp 4]) rfl ?_
    have f1 := s_OwnerOf.eq_1 a0 a1
    simp only [h1, cond_true, cond_false] at f1
    simp [f1]
  · have q1 := h1; try simp at q1
    have i1 : (s_FindKey a0 a1).toNat < a0.length := by have := s_FindKey_lt a0 a1; omega
    simp [i1, rowAt_map]
    repeat ((with_reducible refine And.intro ?_ ?_); focus (intros; omega))
    refine retRd (rv := [.tmp 4]) rfl ?_
    have f2 := s_OwnerOf.eq_1 a0 a1
    simp only [h1, cond_true, cond_false] at f2
    simp [f2]
theorem s_CheckCert_ok (a0 : List TKey) (a1 : TCert) (u0 : Sm 2318336 a0) : SoundAt Tryz.prog 51 false [[.sl 5 (a0.map TKey.row)], a1.row] [[.bool (s_CheckCert a0 a1)]] := by
  refine sound_of Tryz.func51 rfl (by kernel_rfl) ?_
  simp [Tryz.ntmps51]
  refine okD fun k1 => ?_
  refine drawI mixed (by kernel_rfl) (by kernel_rfl) ?_
  simp
  refine callRd rfl rfl rfl rfl (s_IsCert_ok a1) (by simp) (by simp) (by simp) ?_
  simp
  refine callG rfl rfl rfl rfl rfl rfl (fun _ => (s_CertInts_ok a1)) (by simp) (by simp) (by simp) (by simp) ?_
  simp
  refine callG rfl rfl rfl rfl rfl rfl (fun _ => (s_CheckMark_ok a0 a1.Issuer (s_CertInts a1) a1.Mark (sm_mono (n := 2318336) (by decide) (by simp (maxDischargeDepth := 12) [u0])) (by simp (maxDischargeDepth := 12) [s_CertInts_sm, sm_mono (m := 2322432) (by decide) u0]; try omega))) (by simp) (by simp) (by simp) (by simp) ?_
  simp
  refine callG rfl rfl rfl rfl rfl rfl (fun _ => (s_OwnerOf_ok a0 a1.Key)) (by simp) (by simp) (by simp) (by simp) ?_
  simp
  refine retRd (rv := [.tmp 4]) rfl ?_
  have f1 := s_CheckCert.eq_1 a0 a1
  simp [f1]
theorem s_FindCert_ok (a0 : List TCert) (a1 : Int) : SoundAt Tryz.prog 52 false [[.sl 7 (a0.map TCert.row)], [.int .i64 a1]] [[.int .i64 (s_FindCert a0 a1)]] := by
  refine sound_of Tryz.func52 rfl (by kernel_rfl) ?_
  simp [Tryz.ntmps52]
  refine okL fun k1 => ?_
  refine loopI (ι := { s : Nat × Nat // s_FindCert_1 a0 a1 s.1 s.2 = s_FindCert_1 a0 a1 (a0.length + 1) 0 ∧ (1 ≤ s.1 ∧ a0.length < s.1 + s.2 ∧ s.2 ≤ a0.length) }) (fun s => stOf 20 [(0, .one (.d (.sl 7 (a0.map TCert.row))), []), (1, .one (.d (.int .i64 a1)), []), (5, .one (.d (.int .i64 (↑s.1.2 : Int))), [])]) (fun s => s.1.1) ⟨((a0.length + 1), 0), rfl, by first | omega | (dsimp only; omega) | simp⟩ (wk_keep (by simp)) ?_
  rintro ⟨⟨n1, v1_0⟩, e1, j1⟩
  try dsimp only at e1 j1
  obtain ⟨p1, rfl⟩ : ∃ p, n1 = p + 1 := ⟨n1 - 1, by omega⟩
  simp
  refine condR (c := (decide ((↑v1_0 : Int) < (↑a0.length : Int)))) (by simp) (fun k2 h1 => ?_) (fun k2 h1 => ?_)
  · have q1 := h1; try simp at q1
    have i1 : v1_0 < a0.length := by simpa using h1
    have m2 : a0.length ≤ 9223372036854775807 := by simpa using k2 0 _ rfl
    have w1 : IntKind.i64.wrap ((v1_0 : Int) + 1) = (v1_0 : Int) + 1 := wrap_of (by omega) (by omega)
    simp [i1, rowAt_map]
    repeat ((with_reducible refine And.intro ?_ ?_); focus (intros; omega))
    refine condR (c := ((nth a0 v1_0).Serial == a1)) (by simp) (fun k3 h2 => ?_) (fun k3 h2 => ?_)
    · have q2 := h2; try simp at q2
      have x1 : s_FindCert_1 a0 a1 (a0.length + 1) 0 = .inl (↑v1_0 : Int) := by rw [← e1]; simp only [s_FindCert_1, h1, h2, cond_true, cond_false]
      simp
      refine retRd (rv := [.tmp 4]) rfl ?_
      have f1 := s_FindCert.eq_1 a0 a1
      simp only [x1, cond_true, cond_false] at f1
      simp [f1]
    · have q2 := h2; try simp at q2
      simp
      refine nxtI ⟨(p1, (v1_0 + 1)), ?_, ?_⟩ (by simp) (wk_keep (by simp [w1]))
      · rw [← e1]; simp only [s_FindCert_1, h1, h2, cond_true, cond_false]
      · first | omega | (simp at *; omega)
  · have q1 := h1; try simp at q1
    have x2 : s_FindCert_1 a0 a1 (a0.length + 1) 0 = .inr () := by rw [← e1]; simp only [s_FindCert_1, h1, cond_true, cond_false]
    simp
    refine retRd (rv := [.tmp 4]) rfl ?_
    have f2 := s_FindCert.eq_1 a0 a1
    simp only [x2, cond_true, cond_false] at f2
    simp [f2]
theorem s_l33Certs_ok (a0 : TWorld) (u0 : Sm 2314240 a0) : SoundAt Tryz.prog 18 false [a0.row] [[.bool (s_l33Certs a0)]] := by
  refine sound_of Tryz.func18 rfl (by kernel_rfl) ?_
  simp [Tryz.ntmps18]
  refine okL fun k1 => ?_
  refine loopI (ι := { s : Nat × Nat // s_l33Certs_1 a0 s.1 s.2 = s_l33Certs_1 a0 (a0.Certs.length + 1) 0 ∧ (1 ≤ s.1 ∧ a0.Certs.length < s.1 + s.2 ∧ s.2 ≤ a0.Certs.length) }) (fun s => stOf 56 [(1, .one (.bptr 1 0), [.box [.d (.sl 5 (a0.Frame.Keys.map TKey.row)), .d (.sl 3 (a0.Frame.Authorities.map TAuthority.row)), .d (.sl 4 (a0.Frame.Methods.map TMethod.row)), .d (.int .i64 a0.Frame.Liars), .d (.int .i64 a0.Frame.Now), .d (.sl 7 (a0.Certs.map TCert.row)), .d (.sl 1 (a0.Ended.map iR)), .d (.sl 2 (a0.Archives.map TArchive.row)), .d (.sl 1 (a0.Seqs.map iR)), .d (.sl 1 (a0.Lying.map iR)), .d (.int .i64 a0.Next), .d (.sl 1 (a0.Forged.map iR))]]), (3, .one (.d (.int .i64 (↑s.1.2 : Int))), [])]) (fun s => s.1.1) ⟨((a0.Certs.length + 1), 0), rfl, by first | omega | (dsimp only; omega) | simp⟩ (wk_keep (by simp)) ?_
  rintro ⟨⟨n1, v1_0⟩, e1, j1⟩
  try dsimp only at e1 j1
  obtain ⟨p1, rfl⟩ : ∃ p, n1 = p + 1 := ⟨n1 - 1, by omega⟩
  simp
  refine condR (c := (decide ((↑v1_0 : Int) < (↑a0.Certs.length : Int)))) (by simp) (fun k2 h1 => ?_) (fun k2 h1 => ?_)
  · have q1 := h1; try simp at q1
    have i1 : v1_0 < a0.Certs.length := by simpa using h1
    have m2 : a0.Certs.length ≤ 9223372036854775807 := by simpa using k2 7 _ rfl
    have c1 : a0.Certs.length ≤ 2314240 := sm_len (by simp (maxDischargeDepth := 12) [u0])
    have w1 : IntKind.i64.wrap ((v1_0 : Int) + 1) = (v1_0 : Int) + 1 := wrap_of (by omega) (by omega)
    simp
    refine okD fun k3 => ?_
    refine drawI mixed (by kernel_rfl) (by kernel_rfl) ?_
    simp [i1, rowAt_map]
    repeat ((with_reducible refine And.intro ?_ ?_); focus (intros; omega))
    refine callRd rfl rfl rfl rfl (s_CheckCert_ok a0.Frame.Keys (nth a0.Certs v1_0) (sm_mono (n := 2314240) (by decide) (by simp (maxDischargeDepth := 12) [u0]))) (by simp) (by simp) (by simp) ?_
    simp
    refine guardI rfl rfl rfl rfl rfl (by simp) (fun g1 => ?_) (fun g1 => ?_)
    · have g1x := g1; try simp only [beq_true, beq_false, Bool.not_eq_true', Bool.not_eq_false', Bool.true_and, Bool.and_true] at g1x
      try simp at g1
      simp [i1, rowAt_map, g1x]
      repeat ((with_reducible refine And.intro ?_ ?_); focus (intros; first | omega | (simp_all; done) | (simp_all; omega) | grind))
      refine callG rfl rfl rfl rfl rfl rfl (fun _ => (s_FindCert_ok a0.Certs (nth a0.Certs v1_0).Serial)) (by simp) (by simp) (by simp) (by simp) ?_
      simp [g1x]
      repeat ((with_reducible refine And.intro ?_ ?_); focus (intros; first | omega | (simp_all; done) | (simp_all; omega) | grind))
      refine condR (c := ((!(s_CheckCert a0.Frame.Keys (nth a0.Certs v1_0))) || (decide ((s_FindCert a0.Certs (nth a0.Certs v1_0).Serial) < (↑v1_0 : Int))))) (by first | (simp [g1x]; done) | grind) (fun k4 h2 => ?_) (fun k4 h2 => ?_)
      · try (have z := h2; simp [g1x] at z; done)
        all_goals
          have q2 := h2; try simp at q2
          have x1 : s_l33Certs_1 a0 (a0.Certs.length + 1) 0 = .inl false := by rw [← e1]; simp only [s_l33Certs_1, h1, h2, cond_true, cond_false]
          simp [g1x]
          repeat ((with_reducible refine And.intro ?_ ?_); focus (intros; first | omega | (simp_all; done) | (simp_all; omega) | grind))
          refine retRd (rv := [.tmp 2]) rfl ?_
          have f1 := s_l33Certs.eq_1 a0
          simp only [x1, cond_true, cond_false] at f1
          simp [f1, g1x]
      · try (have z := h2; simp [g1x] at z; done)
        all_goals
          have q2 := h2; try simp at q2
          simp [g1x]
          repeat ((with_reducible refine And.intro ?_ ?_); focus (intros; first | omega | (simp_all; done) | (simp_all; omega) | grind))
          refine nxtI ⟨(p1, (v1_0 + 1)), ?_, ?_⟩ (by simp) (wk_keep (by simp [w1]))
          · rw [← e1]; simp only [s_l33Certs_1, h1, h2, cond_true, cond_false]
          · first | omega | (simp at *; omega)
    · have g1x := g1; try simp only [beq_true, beq_false, Bool.not_eq_true', Bool.not_eq_false', Bool.true_and, Bool.and_true] at g1x
      simp [g1x]
      repeat ((with_reducible refine And.intro ?_ ?_); focus (intros; first | omega | (simp_all; done) | (simp_all; omega) | grind))
      refine skipG rfl rfl rfl rfl (by simp) (by simp [g1x]) ?_
      simp [g1x]
      repeat ((with_reducible refine And.intro ?_ ?_); focus (intros; first | omega | (simp_all; done) | (simp_all; omega) | grind))
      refine condR (c := ((!(s_CheckCert a0.Frame.Keys (nth a0.Certs v1_0))) || (decide ((s_FindCert a0.Certs (nth a0.Certs v1_0).Serial) < (↑v1_0 : Int))))) (by first | (simp [g1x]; done) | grind) (fun k5 h3 => ?_) (fun k5 h3 => ?_)
      · try (have z := h3; simp [g1x] at z; done)
        all_goals
          have q3 := h3; try simp at q3
          have x2 : s_l33Certs_1 a0 (a0.Certs.length + 1) 0 = .inl false := by rw [← e1]; simp only [s_l33Certs_1, h1, h3, cond_true, cond_false]
          simp [g1x]
          repeat ((with_reducible refine And.intro ?_ ?_); focus (intros; first | omega | (simp_all; done) | (simp_all; omega) | grind))
          refine retRd (rv := [.tmp 2]) rfl ?_
          have f2 := s_l33Certs.eq_1 a0
          simp only [x2, cond_true, cond_false] at f2
          simp [f2, g1x]
      · try (have z := h3; simp [g1x] at z; done)
        all_goals
          have q3 := h3; try simp at q3
          simp [g1x]
          repeat ((with_reducible refine And.intro ?_ ?_); focus (intros; first | omega | (simp_all; done) | (simp_all; omega) | grind))
          refine nxtI ⟨(p1, (v1_0 + 1)), ?_, ?_⟩ (by simp) (wk_keep (by simp [w1]))
          · rw [← e1]; simp only [s_l33Certs_1, h1, h3, cond_true, cond_false]
          · first | omega | (simp at *; omega)
  · have q1 := h1; try simp at q1
    have c2 : a0.Certs.length ≤ 2314240 := sm_len (by simp (maxDischargeDepth := 12) [u0])
    have x3 : s_l33Certs_1 a0 (a0.Certs.length + 1) 0 = .inr () := by rw [← e1]; simp only [s_l33Certs_1, h1, cond_true, cond_false]
    simp
    refine okL fun k6 => ?_
    refine loopI (ι := { s : Nat × Nat // s_l33Certs_2 a0 s.1 s.2 = s_l33Certs_2 a0 (a0.Ended.length + 1) 0 ∧ (1 ≤ s.1 ∧ a0.Ended.length < s.1 + s.2 ∧ s.2 ≤ a0.Ended.length) }) (fun s => stOf 56 [(1, .one (.bptr 1 0), [.box [.d (.sl 5 (a0.Frame.Keys.map TKey.row)), .d (.sl 3 (a0.Frame.Authorities.map TAuthority.row)), .d (.sl 4 (a0.Frame.Methods.map TMethod.row)), .d (.int .i64 a0.Frame.Liars), .d (.int .i64 a0.Frame.Now), .d (.sl 7 (a0.Certs.map TCert.row)), .d (.sl 1 (a0.Ended.map iR)), .d (.sl 2 (a0.Archives.map TArchive.row)), .d (.sl 1 (a0.Seqs.map iR)), .d (.sl 1 (a0.Lying.map iR)), .d (.int .i64 a0.Next), .d (.sl 1 (a0.Forged.map iR))]]), (4, .one (.d (.int .i64 (↑s.1.2 : Int))), [])]) (fun s => s.1.1) ⟨((a0.Ended.length + 1), 0), rfl, by first | omega | (dsimp only; omega) | simp⟩ (wk_keep (by simp)) ?_
    rintro ⟨⟨n2, v2_0⟩, e2, j2⟩
    try dsimp only at e2 j2
    obtain ⟨p2, rfl⟩ : ∃ p, n2 = p + 1 := ⟨n2 - 1, by omega⟩
    simp
    refine condR (c := (decide ((↑v2_0 : Int) < (↑a0.Ended.length : Int)))) (by simp) (fun k7 h4 => ?_) (fun k7 h4 => ?_)
    · have q4 := h4; try simp at q4
      have i2 : v2_0 < a0.Ended.length := by simpa using h4
      have m4 : a0.Ended.length ≤ 9223372036854775807 := by simpa using k7 37 _ rfl
      have c3 : a0.Ended.length ≤ 2314240 := sm_len (by simp (maxDischargeDepth := 12) [u0])
      have w2 : IntKind.i64.wrap ((v2_0 : Int) + 1) = (v2_0 : Int) + 1 := wrap_of (by omega) (by omega)
      simp [i2, rowAt_map]
      repeat ((with_reducible refine And.intro ?_ ?_); focus (intros; omega))
      refine callRd rfl rfl rfl rfl (s_l1In_ok (nth a0.Ended v2_0) (-1) 10001) (by simp) (by simp) (by simp) ?_
      simp
      refine condR (c := (!(s_l1In (nth a0.Ended v2_0) (-1) 10001))) (by simp) (fun k8 h5 => ?_) (fun k8 h5 => ?_)
      · have q5 := h5; try simp [s_l1In] at q5
        have x4 : s_l33Certs_2 a0 (a0.Ended.length + 1) 0 = .inl false := by rw [← e2]; simp only [s_l33Certs_2, h4, h5, cond_true, cond_false]
        simp
        refine retRd (rv := [.tmp 2]) rfl ?_
        have f3 := s_l33Certs.eq_1 a0
        simp only [x3, x4, cond_true, cond_false] at f3
        simp [f3]
      · have q5 := h5; try simp [s_l1In] at q5
        simp
        refine nxtI ⟨(p2, (v2_0 + 1)), ?_, ?_⟩ (by simp) (wk_keep (by simp [w2]))
        · rw [← e2]; simp only [s_l33Certs_2, h4, h5, cond_true, cond_false]
        · first | omega | (simp at *; omega)
    · have q4 := h4; try simp at q4
      have c4 : a0.Ended.length ≤ 2314240 := sm_len (by simp (maxDischargeDepth := 12) [u0])
      have x5 : s_l33Certs_2 a0 (a0.Ended.length + 1) 0 = .inr () := by rw [← e2]; simp only [s_l33Certs_2, h4, cond_true, cond_false]
      simp
      refine retRd (rv := [.tmp 2]) rfl ?_
      have f4 := s_l33Certs.eq_1 a0
      simp only [x3, x5, cond_true, cond_false] at f4
      simp [f4]
theorem s_IsDocument_ok (a0 : TDocument) : SoundAt Tryz.prog 108 false [a0.row] [[.bool (s_IsDocument a0)]] := by
  refine sound_of Tryz.func108 rfl (by kernel_rfl) ?_
  simp [Tryz.ntmps108]
  refine okL fun k1 => ?_
  refine loopI (ι := { s : Nat × Nat // s_IsDocument_1 a0 s.1 s.2 = s_IsDocument_1 a0 (a0.Parts.length + 1) 0 ∧ (1 ≤ s.1 ∧ a0.Parts.length < s.1 + s.2 ∧ s.2 ≤ a0.Parts.length) }) (fun s => stOf 51 [(1, .one (.bptr 1 0), [.box [.d (.int .i64 a0.Title), .d (.sl 1 (a0.Parts.map sR)), .d (.sl 1 (a0.Salts.map iR))]]), (3, .one (.d (.int .i64 (↑s.1.2 : Int))), [])]) (fun s => s.1.1) ⟨((a0.Parts.length + 1), 0), rfl, by first | omega | (dsimp only; omega) | simp⟩ (wk_keep (by simp)) ?_
  rintro ⟨⟨n1, v1_0⟩, e1, j1⟩
  try dsimp only at e1 j1
  obtain ⟨p1, rfl⟩ : ∃ p, n1 = p + 1 := ⟨n1 - 1, by omega⟩
  simp
  refine condR (c := (decide ((↑v1_0 : Int) < (↑a0.Parts.length : Int)))) (by simp) (fun k2 h1 => ?_) (fun k2 h1 => ?_)
  · have q1 := h1; try simp at q1
    have i1 : v1_0 < a0.Parts.length := by simpa using h1
    have m2 : a0.Parts.length ≤ 9223372036854775807 := by simpa using k2 7 _ rfl
    have w1 : IntKind.i64.wrap ((v1_0 : Int) + 1) = (v1_0 : Int) + 1 := wrap_of (by omega) (by omega)
    simp [i1, rowAt_map]
    repeat ((with_reducible refine And.intro ?_ ?_); focus (intros; omega))
    refine condR (c := (decide ((↑(nth a0.Parts v1_0).size : Int) > 40))) (by simp) (fun k3 h2 => ?_) (fun k3 h2 => ?_)
    · have q2 := h2; try simp at q2
      have x1 : s_IsDocument_1 a0 (a0.Parts.length + 1) 0 = .inl false := by rw [← e1]; simp only [s_IsDocument_1, h1, h2, cond_true, cond_false]
      simp
      refine retRd (rv := [.tmp 2]) rfl ?_
      have f1 := s_IsDocument.eq_1 a0
      simp only [x1, cond_true, cond_false] at f1
      simp [f1]
    · have q2 := h2; try simp at q2
      simp
      refine nxtI ⟨(p1, (v1_0 + 1)), ?_, ?_⟩ (by simp) (wk_keep (by simp [w1]))
      · rw [← e1]; simp only [s_IsDocument_1, h1, h2, cond_true, cond_false]
      · first | omega | (simp at *; omega)
  · have q1 := h1; try simp at q1
    have x2 : s_IsDocument_1 a0 (a0.Parts.length + 1) 0 = .inr () := by rw [← e1]; simp only [s_IsDocument_1, h1, cond_true, cond_false]
    simp
    refine okL fun k4 => ?_
    refine loopI (ι := { s : Nat × Nat // s_IsDocument_2 a0 s.1 s.2 = s_IsDocument_2 a0 (a0.Salts.length + 1) 0 ∧ (1 ≤ s.1 ∧ a0.Salts.length < s.1 + s.2 ∧ s.2 ≤ a0.Salts.length) }) (fun s => stOf 51 [(1, .one (.bptr 1 0), [.box [.d (.int .i64 a0.Title), .d (.sl 1 (a0.Parts.map sR)), .d (.sl 1 (a0.Salts.map iR))]]), (4, .one (.d (.int .i64 (↑s.1.2 : Int))), [])]) (fun s => s.1.1) ⟨((a0.Salts.length + 1), 0), rfl, by first | omega | (dsimp only; omega) | simp⟩ (wk_keep (by simp)) ?_
    rintro ⟨⟨n2, v2_0⟩, e2, j2⟩
    try dsimp only at e2 j2
    obtain ⟨p2, rfl⟩ : ∃ p, n2 = p + 1 := ⟨n2 - 1, by omega⟩
    simp
    refine condR (c := (decide ((↑v2_0 : Int) < (↑a0.Salts.length : Int)))) (by simp) (fun k5 h3 => ?_) (fun k5 h3 => ?_)
    · have q3 := h3; try simp at q3
      have i2 : v2_0 < a0.Salts.length := by simpa using h3
      have m4 : a0.Salts.length ≤ 9223372036854775807 := by simpa using k5 21 _ rfl
      have w2 : IntKind.i64.wrap ((v2_0 : Int) + 1) = (v2_0 : Int) + 1 := wrap_of (by omega) (by omega)
      simp [i2, rowAt_map]
      repeat ((with_reducible refine And.intro ?_ ?_); focus (intros; omega))
      refine callRd rfl rfl rfl rfl (s_l1In_ok (nth a0.Salts v2_0) 1 1000000000000) (by simp) (by simp) (by simp) ?_
      simp
      refine condR (c := (!(s_l1In (nth a0.Salts v2_0) 1 1000000000000))) (by simp) (fun k6 h4 => ?_) (fun k6 h4 => ?_)
      · have q4 := h4; try simp [s_l1In] at q4
        have x3 : s_IsDocument_2 a0 (a0.Salts.length + 1) 0 = .inl false := by rw [← e2]; simp only [s_IsDocument_2, h3, h4, cond_true, cond_false]
        simp
        refine retRd (rv := [.tmp 2]) rfl ?_
        have f2 := s_IsDocument.eq_1 a0
        simp only [x2, x3, cond_true, cond_false] at f2
        simp [f2]
      · have q4 := h4; try simp [s_l1In] at q4
        simp
        refine nxtI ⟨(p2, (v2_0 + 1)), ?_, ?_⟩ (by simp) (wk_keep (by simp [w2]))
        · rw [← e2]; simp only [s_IsDocument_2, h3, h4, cond_true, cond_false]
        · first | omega | (simp at *; omega)
    · have q3 := h3; try simp at q3
      have x4 : s_IsDocument_2 a0 (a0.Salts.length + 1) 0 = .inr () := by rw [← e2]; simp only [s_IsDocument_2, h3, cond_true, cond_false]
      simp
      refine callRd rfl rfl rfl rfl (s_l1In_ok a0.Title 0 999) (by simp) (by simp) (by simp) ?_
      simp
      refine callG rfl rfl rfl rfl rfl rfl (fun _ => (s_l1In_ok (↑a0.Parts.length : Int) 1 6)) (by simp) (by simp) (by simp) (by simp) ?_
      simp
      refine retRd (rv := [.tmp 2]) rfl ?_
      have f3 := s_IsDocument.eq_1 a0
      simp only [x2, x4, cond_true, cond_false] at f3
      simp [f3]
theorem s_EqualInts_ok (a0 : List Int) (a1 : List Int) : SoundAt Tryz.prog 151 false [[.sl 1 (a0.map iR)], [.sl 1 (a1.map iR)]] [[.bool (s_EqualInts a0 a1)]] := by
  refine sound_of Tryz.func151 rfl (by kernel_rfl) ?_
  simp [Tryz.ntmps151]
  refine condR (c := ((↑a0.length : Int) != (↑a1.length : Int))) (by simp) (fun k1 h1 => ?_) (fun k1 h1 => ?_)
  · have q1 := h1; try simp at q1
    simp
    refine retRd (rv := [.tmp 4]) rfl ?_
    have f1 := s_EqualInts.eq_1 a0 a1
    simp only [h1, cond_true, cond_false] at f1
    simp [f1]
  · have q1 := h1; try simp at q1
    simp
    refine okL fun k2 => ?_
    refine loopI (ι := { s : Nat × Nat // s_EqualInts_1 a0 a1 s.1 s.2 = s_EqualInts_1 a0 a1 (a0.length + 1) 0 ∧ (1 ≤ s.1 ∧ a0.length < s.1 + s.2 ∧ s.2 ≤ a0.length) }) (fun s => stOf 26 [(0, .one (.d (.sl 1 (a0.map iR))), []), (1, .one (.d (.sl 1 (a1.map iR))), []), (5, .one (.d (.int .i64 (↑s.1.2 : Int))), [])]) (fun s => s.1.1) ⟨((a0.length + 1), 0), rfl, by first | omega | (dsimp only; omega) | simp⟩ (wk_keep (by simp)) ?_
    rintro ⟨⟨n1, v1_0⟩, e1, j1⟩
    try dsimp only at e1 j1
    obtain ⟨p1, rfl⟩ : ∃ p, n1 = p + 1 := ⟨n1 - 1, by omega⟩
    simp
    refine condR (c := (decide ((↑v1_0 : Int) < (↑a0.length : Int)))) (by simp) (fun k3 h2 => ?_) (fun k3 h2 => ?_)
    · have q2 := h2; try simp at q2
      have i1 : v1_0 < a0.length := by simpa using h2
      have m2 : a0.length ≤ 9223372036854775807 := by simpa using k3 0 _ rfl
      have w1 : IntKind.i64.wrap ((v1_0 : Int) + 1) = (v1_0 : Int) + 1 := wrap_of (by omega) (by omega)
      simp
      refine okD fun k4 => ?_
      refine drawI mixed (by kernel_rfl) (by kernel_rfl) ?_
      have i2 : v1_0 < a1.length := by omega
      simp [i1, rowAt_map, i2]
      repeat ((with_reducible refine And.intro ?_ ?_); focus (intros; omega))
      refine condR (c := ((nth a0 v1_0) != (nth a1 v1_0))) (by simp) (fun k5 h3 => ?_) (fun k5 h3 => ?_)
      · have q3 := h3; try simp at q3
        have x1 : s_EqualInts_1 a0 a1 (a0.length + 1) 0 = .inl false := by rw [← e1]; simp only [s_EqualInts_1, h2, h3, cond_true, cond_false]
        simp
        refine retRd (rv := [.tmp 4]) rfl ?_
        have f2 := s_EqualInts.eq_1 a0 a1
        simp only [h1, x1, cond_true, cond_false] at f2
        simp [f2]
      · have q3 := h3; try simp at q3
        simp
        refine nxtI ⟨(p1, (v1_0 + 1)), ?_, ?_⟩ (by simp) (wk_keep (by simp [w1]))
        · rw [← e1]; simp only [s_EqualInts_1, h2, h3, cond_true, cond_false]
        · first | omega | (simp at *; omega)
    · have q2 := h2; try simp at q2
      have x2 : s_EqualInts_1 a0 a1 (a0.length + 1) 0 = .inr () := by rw [← e1]; simp only [s_EqualInts_1, h2, cond_true, cond_false]
      simp
      refine retRd (rv := [.tmp 4]) rfl ?_
      have f3 := s_EqualInts.eq_1 a0 a1
      simp only [h1, x2, cond_true, cond_false] at f3
      simp [f3]
theorem s_EqualPieces_ok (a0 : TPiece) (a1 : TPiece) : SoundAt Tryz.prog 124 false [a0.row, a1.row] [[.bool (s_EqualPieces a0 a1)]] := by
  refine sound_of Tryz.func124 rfl (by kernel_rfl) ?_
  simp [Tryz.ntmps124]
  refine callG rfl rfl rfl rfl rfl rfl (fun _ => (s_EqualInts_ok a0.Ints a1.Ints)) (by simp) (by simp) (by simp) (by simp) ?_
  simp
  refine retRd (rv := [.tmp 4]) rfl ?_
  have f1 := s_EqualPieces.eq_1 a0 a1
  simp [f1]
theorem s_FindPiece_ok (a0 : TStrand) (a1 : TPiece) : SoundAt Tryz.prog 150 false [a0.row, a1.row] [[.int .i64 (s_FindPiece a0 a1)]] := by
  refine sound_of Tryz.func150 rfl (by kernel_rfl) ?_
  simp [Tryz.ntmps150]
  refine okL fun k1 => ?_
  refine loopI (ι := { s : Nat × Nat // s_FindPiece_1 a0 a1 s.1 s.2 = s_FindPiece_1 a0 a1 (a0.Pieces.length + 1) 0 ∧ (1 ≤ s.1 ∧ a0.Pieces.length < s.1 + s.2 ∧ s.2 ≤ a0.Pieces.length) }) (fun s => stOf 21 [(2, .one (.bptr 2 0), [.box [.d (.sl 3 (a0.Pieces.map TPiece.row)), .d (.sl 5 (a0.Chain.map TRenewal.row))]]), (3, .one (.bptr 3 0), [.box [.d (.int .i64 a1.Key), .d (.sl 1 (a1.Ints.map iR)), .d (.int .i64 a1.Mark)]]), (5, .one (.d (.int .i64 (↑s.1.2 : Int))), [])]) (fun s => s.1.1) ⟨((a0.Pieces.length + 1), 0), rfl, by first | omega | (dsimp only; omega) | simp⟩ (wk_keep (by simp)) ?_
  rintro ⟨⟨n1, v1_0⟩, e1, j1⟩
  try dsimp only at e1 j1
  obtain ⟨p1, rfl⟩ : ∃ p, n1 = p + 1 := ⟨n1 - 1, by omega⟩
  simp
  refine condR (c := (decide ((↑v1_0 : Int) < (↑a0.Pieces.length : Int)))) (by simp) (fun k2 h1 => ?_) (fun k2 h1 => ?_)
  · have q1 := h1; try simp at q1
    have i1 : v1_0 < a0.Pieces.length := by simpa using h1
    have m2 : a0.Pieces.length ≤ 9223372036854775807 := by simpa using k2 8 _ rfl
    have w1 : IntKind.i64.wrap ((v1_0 : Int) + 1) = (v1_0 : Int) + 1 := wrap_of (by omega) (by omega)
    simp
    refine okD fun k3 => ?_
    refine drawI mixed (by kernel_rfl) (by kernel_rfl) ?_
    simp [i1, rowAt_map]
    repeat ((with_reducible refine And.intro ?_ ?_); focus (intros; omega))
    refine callRd rfl rfl rfl rfl (s_EqualPieces_ok (nth a0.Pieces v1_0) a1) (by simp) (by simp) (by simp) ?_
    simp
    refine condR (c := (s_EqualPieces (nth a0.Pieces v1_0) a1)) (by simp) (fun k4 h2 => ?_) (fun k4 h2 => ?_)
    · have q2 := h2; try simp at q2
      have x1 : s_FindPiece_1 a0 a1 (a0.Pieces.length + 1) 0 = .inl (↑v1_0 : Int) := by rw [← e1]; simp only [s_FindPiece_1, h1, h2, cond_true, cond_false]
      simp
      refine retRd (rv := [.tmp 4]) rfl ?_
      have f1 := s_FindPiece.eq_1 a0 a1
      simp only [x1, cond_true, cond_false] at f1
      simp [f1]
    · have q2 := h2; try simp at q2
      simp
      refine nxtI ⟨(p1, (v1_0 + 1)), ?_, ?_⟩ (by simp) (wk_keep (by simp [w1]))
      · rw [← e1]; simp only [s_FindPiece_1, h1, h2, cond_true, cond_false]
      · first | omega | (simp at *; omega)
  · have q1 := h1; try simp at q1
    have x2 : s_FindPiece_1 a0 a1 (a0.Pieces.length + 1) 0 = .inr () := by rw [← e1]; simp only [s_FindPiece_1, h1, cond_true, cond_false]
    simp
    refine retRd (rv := [.tmp 4]) rfl ?_
    have f2 := s_FindPiece.eq_1 a0 a1
    simp only [x2, cond_true, cond_false] at f2
    simp [f2]
theorem s_IsStrand_ok (a0 : TStrand) : SoundAt Tryz.prog 123 false [a0.row] [[.bool (s_IsStrand a0)]] := by
  refine sound_of Tryz.func123 rfl (by kernel_rfl) ?_
  simp [Tryz.ntmps123]
  refine okL fun k1 => ?_
  refine loopI (ι := { s : Nat × Nat // s_IsStrand_1 a0 s.1 s.2 = s_IsStrand_1 a0 (a0.Pieces.length + 1) 0 ∧ (1 ≤ s.1 ∧ a0.Pieces.length < s.1 + s.2 ∧ s.2 ≤ a0.Pieces.length) }) (fun s => stOf 69 [(1, .one (.bptr 1 0), [.box [.d (.sl 3 (a0.Pieces.map TPiece.row)), .d (.sl 5 (a0.Chain.map TRenewal.row))]]), (3, .one (.d (.int .i64 (↑s.1.2 : Int))), [])]) (fun s => s.1.1) ⟨((a0.Pieces.length + 1), 0), rfl, by first | omega | (dsimp only; omega) | simp⟩ (wk_keep (by simp)) ?_
  rintro ⟨⟨n1, v1_0⟩, e1, j1⟩
  try dsimp only at e1 j1
  obtain ⟨p1, rfl⟩ : ∃ p, n1 = p + 1 := ⟨n1 - 1, by omega⟩
  simp
  refine condR (c := (decide ((↑v1_0 : Int) < (↑a0.Pieces.length : Int)))) (by simp) (fun k2 h1 => ?_) (fun k2 h1 => ?_)
  · have q1 := h1; try simp at q1
    have i1 : v1_0 < a0.Pieces.length := by simpa using h1
    have m2 : a0.Pieces.length ≤ 9223372036854775807 := by simpa using k2 7 _ rfl
    have w1 : IntKind.i64.wrap ((v1_0 : Int) + 1) = (v1_0 : Int) + 1 := wrap_of (by omega) (by omega)
    simp
    refine okD fun k3 => ?_
    refine drawI mixed (by kernel_rfl) (by kernel_rfl) ?_
    simp [i1, rowAt_map]
    repeat ((with_reducible refine And.intro ?_ ?_); focus (intros; omega))
    refine callRd rfl rfl rfl rfl (s_FindPiece_ok a0 (nth a0.Pieces v1_0)) (by simp) (by simp) (by simp) ?_
    simp
    refine condR (c := (decide ((s_FindPiece a0 (nth a0.Pieces v1_0)) < (↑v1_0 : Int)))) (by simp) (fun k4 h2 => ?_) (fun k4 h2 => ?_)
    · have q2 := h2; try simp at q2
      have x1 : s_IsStrand_1 a0 (a0.Pieces.length + 1) 0 = .inl false := by rw [← e1]; simp only [s_IsStrand_1, h1, h2, cond_true, cond_false]
      simp
      refine retRd (rv := [.tmp 2]) rfl ?_
      have f1 := s_IsStrand.eq_1 a0
      simp only [x1, cond_true, cond_false] at f1
      simp [f1]
    · have q2 := h2; try simp at q2
      simp
      refine nxtI ⟨(p1, (v1_0 + 1)), ?_, ?_⟩ (by simp) (wk_keep (by simp [w1]))
      · rw [← e1]; simp only [s_IsStrand_1, h1, h2, cond_true, cond_false]
      · first | omega | (simp at *; omega)
  · have q1 := h1; try simp at q1
    have x2 : s_IsStrand_1 a0 (a0.Pieces.length + 1) 0 = .inr () := by rw [← e1]; simp only [s_IsStrand_1, h1, cond_true, cond_false]
    simp
    refine okL fun k5 => ?_
    refine loopI (ι := { s : Nat × Nat // s_IsStrand_2 a0 s.1 s.2 = s_IsStrand_2 a0 (a0.Chain.length + 1) 0 ∧ (1 ≤ s.1 ∧ a0.Chain.length < s.1 + s.2 ∧ s.2 ≤ a0.Chain.length) }) (fun s => stOf 69 [(1, .one (.bptr 1 0), [.box [.d (.sl 3 (a0.Pieces.map TPiece.row)), .d (.sl 5 (a0.Chain.map TRenewal.row))]]), (4, .one (.d (.int .i64 (↑s.1.2 : Int))), [])]) (fun s => s.1.1) ⟨((a0.Chain.length + 1), 0), rfl, by first | omega | (dsimp only; omega) | simp⟩ (wk_keep (by simp)) ?_
    rintro ⟨⟨n2, v2_0⟩, e2, j2⟩
    try dsimp only at e2 j2
    obtain ⟨p2, rfl⟩ : ∃ p, n2 = p + 1 := ⟨n2 - 1, by omega⟩
    simp
    refine condR (c := (decide ((↑v2_0 : Int) < (↑a0.Chain.length : Int)))) (by simp) (fun k6 h3 => ?_) (fun k6 h3 => ?_)
    · have q3 := h3; try simp at q3
      have i2 : v2_0 < a0.Chain.length := by simpa using h3
      have m4 : a0.Chain.length ≤ 9223372036854775807 := by simpa using k6 23 _ rfl
      have w2 : IntKind.i64.wrap ((v2_0 : Int) + 1) = (v2_0 : Int) + 1 := wrap_of (by omega) (by omega)
      simp
      refine okD fun k7 => ?_
      refine drawI mixed (by kernel_rfl) (by kernel_rfl) ?_
      simp [i2, rowAt_map]
      repeat ((with_reducible refine And.intro ?_ ?_); focus (intros; omega))
      refine callRd rfl rfl rfl rfl (s_l1In_ok (nth a0.Chain v2_0).Count 1 (↑a0.Pieces.length : Int)) (by simp) (by simp) (by simp) ?_
      simp
      refine guardI rfl rfl rfl rfl rfl (by simp) (fun g1 => ?_) (fun g1 => ?_)
      · have g1x := g1; try simp only [beq_true, beq_false, Bool.not_eq_true', Bool.not_eq_false', Bool.true_and, Bool.and_true] at g1x
        try simp at g1
        have i3 : (v2_0 - 1) < a0.Chain.length := by omega
        have w3 : IntKind.i64.wrap ((v2_0 : Int) - 1) = (v2_0 : Int) - 1 := wrap_of (by omega) (by omega)
        simp [i3, rowAt_map, w3, toNat_pred, g1x]
        repeat ((with_reducible refine And.intro ?_ ?_); focus (intros; first | omega | (simp_all; done) | (simp_all; omega) | grind))
        refine guardI rfl rfl rfl rfl rfl (by simp) (fun _ => ?_) (fun g0 => by simp [g1x] at g0)
        simp [i2, rowAt_map, g1x]
        repeat ((with_reducible refine And.intro ?_ ?_); focus (intros; first | omega | (simp_all; done) | (simp_all; omega) | grind))
        refine condR (c := ((!(s_l1In (nth a0.Chain v2_0).Count 1 (↑a0.Pieces.length : Int))) || ((decide ((↑v2_0 : Int) > 0)) && (decide ((nth a0.Chain (v2_0 - 1)).Count > (nth a0.Chain v2_0).Count))))) (by first | (simp [g1x]; done) | grind) (fun k8 h4 => ?_) (fun k8 h4 => ?_)
        · try (have z := h4; simp [g1x] at z; done)
          all_goals
            have q4 := h4; try simp [s_l1In] at q4
            have x3 : s_IsStrand_2 a0 (a0.Chain.length + 1) 0 = .inl false := by rw [← e2]; simp only [s_IsStrand_2, h3, h4, cond_true, cond_false]
            simp [g1x]
            repeat ((with_reducible refine And.intro ?_ ?_); focus (intros; first | omega | (simp_all; done) | (simp_all; omega) | grind))
            refine retRd (rv := [.tmp 2]) rfl ?_
            have f2 := s_IsStrand.eq_1 a0
            simp only [x2, x3, cond_true, cond_false] at f2
            simp [f2, g1x]
        · try (have z := h4; simp [g1x] at z; done)
          all_goals
            have q4 := h4; try simp [s_l1In] at q4
            simp [g1x]
            repeat ((with_reducible refine And.intro ?_ ?_); focus (intros; first | omega | (simp_all; done) | (simp_all; omega) | grind))
            refine nxtI ⟨(p2, (v2_0 + 1)), ?_, ?_⟩ (by simp) (wk_keep (by simp [w2, w3]))
            · rw [← e2]; simp only [s_IsStrand_2, h3, h4, cond_true, cond_false]
            · first | omega | (simp at *; omega)
      · have g1x := g1; try simp only [beq_true, beq_false, Bool.not_eq_true', Bool.not_eq_false', Bool.true_and, Bool.and_true] at g1x
        simp [g1x]
        repeat ((with_reducible refine And.intro ?_ ?_); focus (intros; first | omega | (simp_all; done) | (simp_all; omega) | grind))
        refine skipG rfl rfl rfl rfl (by simp) (by simp [g1x]) ?_
        simp [g1x]
        repeat ((with_reducible refine And.intro ?_ ?_); focus (intros; first | omega | (simp_all; done) | (simp_all; omega) | grind))
        refine condR (c := ((!(s_l1In (nth a0.Chain v2_0).Count 1 (↑a0.Pieces.length : Int))) || ((decide ((↑v2_0 : Int) > 0)) && (decide ((nth a0.Chain (v2_0 - 1)).Count > (nth a0.Chain v2_0).Count))))) (by first | (simp [g1x]; done) | grind) (fun k9 h5 => ?_) (fun k9 h5 => ?_)
        · try (have z := h5; simp [g1x] at z; done)
          all_goals
            have q5 := h5; try simp [s_l1In] at q5
            have x4 : s_IsStrand_2 a0 (a0.Chain.length + 1) 0 = .inl false := by rw [← e2]; simp only [s_IsStrand_2, h3, h5, cond_true, cond_false]
            simp [g1x]
            repeat ((with_reducible refine And.intro ?_ ?_); focus (intros; first | omega | (simp_all; done) | (simp_all; omega) | grind))
            refine retRd (rv := [.tmp 2]) rfl ?_
            have f3 := s_IsStrand.eq_1 a0
            simp only [x2, x4, cond_true, cond_false] at f3
            simp [f3, g1x]
        · try (have z := h5; simp [g1x] at z; done)
          all_goals
            have q5 := h5; try simp [s_l1In] at q5
            simp [g1x]
            repeat ((with_reducible refine And.intro ?_ ?_); focus (intros; first | omega | (simp_all; done) | (simp_all; omega) | grind))
            refine nxtI ⟨(p2, (v2_0 + 1)), ?_, ?_⟩ (by simp) (wk_keep (by simp [w2]))
            · rw [← e2]; simp only [s_IsStrand_2, h3, h5, cond_true, cond_false]
            · first | omega | (simp at *; omega)
    · have q3 := h3; try simp at q3
      have x5 : s_IsStrand_2 a0 (a0.Chain.length + 1) 0 = .inr () := by rw [← e2]; simp only [s_IsStrand_2, h3, cond_true, cond_false]
      simp
      refine callRd rfl rfl rfl rfl (s_l1In_ok (↑a0.Pieces.length : Int) 1 12) (by simp) (by simp) (by simp) ?_
      simp
      refine retRd (rv := [.tmp 2]) rfl ?_
      have f4 := s_IsStrand.eq_1 a0
      simp only [x2, x5, cond_true, cond_false] at f4
      simp [f4]
theorem s_SignatureInts_ok (a0 : TSignature) : SoundAt Tryz.prog 152 true [a0.row] [[.sl 1 ((s_SignatureInts a0).map iR)]] := by
  refine sound_of Tryz.func152 rfl (by kernel_rfl) ?_
  simp [Tryz.ntmps152]
  refine retOwn (rv := [.tmp 2]) rfl ?_
  have f1 := s_SignatureInts.eq_1 a0
  simp [f1]
theorem s_SignPiece_ok (a0 : TSignature) : SoundAt Tryz.prog 125 true [a0.row] [(s_SignPiece a0).row] := by
  refine sound_of Tryz.func125 rfl (by kernel_rfl) ?_
  simp [Tryz.ntmps125]
  refine okD fun k1 => ?_
  refine drawI mixed (by kernel_rfl) (by kernel_rfl) ?_
  simp
  refine callOwn rfl rfl rfl rfl (s_SignatureInts_ok a0) (by simp) (by simp) (by simp) (by simp) ?_
  simp
  refine retOwn (rv := [.cell 2 148]) rfl ?_
  have f1 := s_SignPiece.eq_1 a0
  simp [f1]
theorem s_IsItem_ok (a0 : TItem) : SoundAt Tryz.prog 88 false [a0.row] [[.bool (s_IsItem a0)]] := by
  refine sound_of Tryz.func88 rfl (by kernel_rfl) ?_
  simp [Tryz.ntmps88]
  refine okD fun k1 => ?_
  refine drawI mixed (by kernel_rfl) (by kernel_rfl) ?_
  simp
  refine callRd rfl rfl rfl rfl (s_l1In_ok a0.Id 1 999) (by simp) (by simp) (by simp) ?_
  simp
  refine callG rfl rfl rfl rfl rfl rfl (fun _ => (s_l4Time_ok a0.Keep)) (by simp) (by simp) (by simp) (by simp) ?_
  simp
  refine callG rfl rfl rfl rfl rfl rfl (fun _ => (s_IsDocument_ok a0.Doc)) (by simp) (by simp) (by simp) (by simp) ?_
  simp
  refine callG rfl rfl rfl rfl rfl rfl (fun _ => (s_IsStrand_ok a0.Strand)) (by simp) (by simp) (by simp) (by simp) ?_
  simp
  refine guardI rfl rfl rfl rfl rfl (by simp) (fun g1 => ?_) (fun g1 => ?_)
  · have g1x := g1; try simp only [beq_true, beq_false, Bool.not_eq_true', Bool.not_eq_false', Bool.true_and, Bool.and_true] at g1x
    try simp at g1
    have i1 : 0 < a0.Strand.Pieces.length := by have := s_IsStrand_pos (a := a0.Strand); simp_all
    simp [i1, rowAt_map, g1x]
    repeat ((with_reducible refine And.intro ?_ ?_); focus (intros; first | omega | (simp_all; done) | (simp_all; omega) | grind))
    refine callG rfl rfl rfl rfl rfl rfl (fun _ => (s_SignPiece_ok a0.Sig)) (by simp) (by simp) (by simp) (by simp) ?_
    simp [g1x]
    repeat ((with_reducible refine And.intro ?_ ?_); focus (intros; first | omega | (simp_all; done) | (simp_all; omega) | grind))
    refine callG rfl rfl rfl rfl rfl rfl (fun _ => (s_EqualPieces_ok (nth a0.Strand.Pieces 0) (s_SignPiece a0.Sig))) (by simp) (by simp) (by simp) (by simp) ?_
    simp [g1x]
    repeat ((with_reducible refine And.intro ?_ ?_); focus (intros; first | omega | (simp_all; done) | (simp_all; omega) | grind))
    refine retRd (rv := [.tmp 2]) rfl ?_
    have f1 := s_IsItem.eq_1 a0
    simp [f1, g1x]
  · have g1x := g1; try simp only [beq_true, beq_false, Bool.not_eq_true', Bool.not_eq_false', Bool.true_and, Bool.and_true] at g1x
    simp [g1x]
    repeat ((with_reducible refine And.intro ?_ ?_); focus (intros; first | omega | (simp_all; done) | (simp_all; omega) | grind))
    refine skipG rfl rfl rfl rfl (by simp) (by simp [g1x]) ?_
    simp [g1x]
    repeat ((with_reducible refine And.intro ?_ ?_); focus (intros; first | omega | (simp_all; done) | (simp_all; omega) | grind))
    refine skipG rfl rfl rfl rfl (by simp) (by simp [g1x]) ?_
    simp [g1x]
    repeat ((with_reducible refine And.intro ?_ ?_); focus (intros; first | omega | (simp_all; done) | (simp_all; omega) | grind))
    refine retRd (rv := [.tmp 2]) rfl ?_
    have f2 := s_IsItem.eq_1 a0
    simp [f2, g1x]
theorem s_IsArchive_ok (a0 : TArchive) : SoundAt Tryz.prog 53 false [a0.row] [[.bool (s_IsArchive a0)]] := by
  refine sound_of Tryz.func53 rfl (by kernel_rfl) ?_
  simp [Tryz.ntmps53]
  refine okL fun k1 => ?_
  refine loopI (ι := { s : Nat × Nat // s_IsArchive_1 a0 s.1 s.2 = s_IsArchive_1 a0 (a0.Items.length + 1) 0 ∧ (1 ≤ s.1 ∧ a0.Items.length < s.1 + s.2 ∧ s.2 ≤ a0.Items.length) }) (fun s => stOf 47 [(1, .one (.bptr 1 0), [.box [.d (.int .i64 a0.Id), .d (.sl 16 (a0.Items.map TItem.row))]]), (3, .one (.d (.int .i64 (↑s.1.2 : Int))), [])]) (fun s => s.1.1) ⟨((a0.Items.length + 1), 0), rfl, by first | omega | (dsimp only; omega) | simp⟩ (wk_keep (by simp)) ?_
  rintro ⟨⟨n1, v1_0⟩, e1, j1⟩
  try dsimp only at e1 j1
  obtain ⟨p1, rfl⟩ : ∃ p, n1 = p + 1 := ⟨n1 - 1, by omega⟩
  simp
  refine condR (c := (decide ((↑v1_0 : Int) < (↑a0.Items.length : Int)))) (by simp) (fun k2 h1 => ?_) (fun k2 h1 => ?_)
  · have q1 := h1; try simp at q1
    have i1 : v1_0 < a0.Items.length := by simpa using h1
    have m2 : a0.Items.length ≤ 9223372036854775807 := by simpa using k2 6 _ rfl
    have w1 : IntKind.i64.wrap ((v1_0 : Int) + 1) = (v1_0 : Int) + 1 := wrap_of (by omega) (by omega)
    simp
    refine okD fun k3 => ?_
    refine drawI mixed (by kernel_rfl) (by kernel_rfl) ?_
    simp [i1, rowAt_map]
    repeat ((with_reducible refine And.intro ?_ ?_); focus (intros; omega))
    refine callRd rfl rfl rfl rfl (s_IsItem_ok (nth a0.Items v1_0)) (by simp) (by simp) (by simp) ?_
    simp
    refine guardI rfl rfl rfl rfl rfl (by simp) (fun g1 => ?_) (fun g1 => ?_)
    · have g1x := g1; try simp only [beq_true, beq_false, Bool.not_eq_true', Bool.not_eq_false', Bool.true_and, Bool.and_true] at g1x
      try simp at g1
      have i2 : (v1_0 - 1) < a0.Items.length := by omega
      have w2 : IntKind.i64.wrap ((v1_0 : Int) - 1) = (v1_0 : Int) - 1 := wrap_of (by omega) (by omega)
      simp [i2, rowAt_map, w2, toNat_pred, g1x]
      repeat ((with_reducible refine And.intro ?_ ?_); focus (intros; first | omega | (simp_all; done) | (simp_all; omega) | grind))
      refine guardI rfl rfl rfl rfl rfl (by simp) (fun _ => ?_) (fun g0 => by simp [g1x] at g0)
      simp [i1, rowAt_map, g1x]
      repeat ((with_reducible refine And.intro ?_ ?_); focus (intros; first | omega | (simp_all; done) | (simp_all; omega) | grind))
      refine condR (c := ((!(s_IsItem (nth a0.Items v1_0))) || ((decide ((↑v1_0 : Int) > 0)) && (decide ((nth a0.Items (v1_0 - 1)).Id ≥ (nth a0.Items v1_0).Id))))) (by first | (simp [g1x]; done) | grind) (fun k4 h2 => ?_) (fun k4 h2 => ?_)
      · try (have z := h2; simp [g1x] at z; done)
        all_goals
          have q2 := h2; try simp at q2
          have x1 : s_IsArchive_1 a0 (a0.Items.length + 1) 0 = .inl false := by rw [← e1]; simp only [s_IsArchive_1, h1, h2, cond_true, cond_false]
          simp [g1x]
          repeat ((with_reducible refine And.intro ?_ ?_); focus (intros; first | omega | (simp_all; done) | (simp_all; omega) | grind))
          refine retRd (rv := [.tmp 2]) rfl ?_
          have f1 := s_IsArchive.eq_1 a0
          simp only [x1, cond_true, cond_false] at f1
          simp [f1, g1x]
      · try (have z := h2; simp [g1x] at z; done)
        all_goals
          have q2 := h2; try simp at q2
          simp [g1x]
          repeat ((with_reducible refine And.intro ?_ ?_); focus (intros; first | omega | (simp_all; done) | (simp_all; omega) | grind))
          refine nxtI ⟨(p1, (v1_0 + 1)), ?_, ?_⟩ (by simp) (wk_keep (by simp [w1, w2]))
          · rw [← e1]; simp only [s_IsArchive_1, h1, h2, cond_true, cond_false]
          · first | omega | (simp at *; omega)
    · have g1x := g1; try simp only [beq_true, beq_false, Bool.not_eq_true', Bool.not_eq_false', Bool.true_and, Bool.and_true] at g1x
      simp [g1x]
      repeat ((with_reducible refine And.intro ?_ ?_); focus (intros; first | omega | (simp_all; done) | (simp_all; omega) | grind))
      refine skipG rfl rfl rfl rfl (by simp) (by simp [g1x]) ?_
      simp [g1x]
      repeat ((with_reducible refine And.intro ?_ ?_); focus (intros; first | omega | (simp_all; done) | (simp_all; omega) | grind))
      refine condR (c := ((!(s_IsItem (nth a0.Items v1_0))) || ((decide ((↑v1_0 : Int) > 0)) && (decide ((nth a0.Items (v1_0 - 1)).Id ≥ (nth a0.Items v1_0).Id))))) (by first | (simp [g1x]; done) | grind) (fun k5 h3 => ?_) (fun k5 h3 => ?_)
      · try (have z := h3; simp [g1x] at z; done)
        all_goals
          have q3 := h3; try simp at q3
          have x2 : s_IsArchive_1 a0 (a0.Items.length + 1) 0 = .inl false := by rw [← e1]; simp only [s_IsArchive_1, h1, h3, cond_true, cond_false]
          simp [g1x]
          repeat ((with_reducible refine And.intro ?_ ?_); focus (intros; first | omega | (simp_all; done) | (simp_all; omega) | grind))
          refine retRd (rv := [.tmp 2]) rfl ?_
          have f2 := s_IsArchive.eq_1 a0
          simp only [x2, cond_true, cond_false] at f2
          simp [f2, g1x]
      · try (have z := h3; simp [g1x] at z; done)
        all_goals
          have q3 := h3; try simp at q3
          simp [g1x]
          repeat ((with_reducible refine And.intro ?_ ?_); focus (intros; first | omega | (simp_all; done) | (simp_all; omega) | grind))
          refine nxtI ⟨(p1, (v1_0 + 1)), ?_, ?_⟩ (by simp) (wk_keep (by simp [w1]))
          · rw [← e1]; simp only [s_IsArchive_1, h1, h3, cond_true, cond_false]
          · first | omega | (simp at *; omega)
  · have q1 := h1; try simp at q1
    have x3 : s_IsArchive_1 a0 (a0.Items.length + 1) 0 = .inr () := by rw [← e1]; simp only [s_IsArchive_1, h1, cond_true, cond_false]
    simp
    refine callRd rfl rfl rfl rfl (s_l1In_ok a0.Id 0 99) (by simp) (by simp) (by simp) ?_
    simp
    refine retRd (rv := [.tmp 2]) rfl ?_
    have f3 := s_IsArchive.eq_1 a0
    simp only [x3, cond_true, cond_false] at f3
    simp [f3]
theorem s_l7Has_ok (a0 : List Int) (a1 : Int) : SoundAt Tryz.prog 54 false [[.sl 1 (a0.map iR)], [.int .i64 a1]] [[.bool (s_l7Has a0 a1)]] := by
  refine sound_of Tryz.func54 rfl (by kernel_rfl) ?_
  simp [Tryz.ntmps54]
  refine okL fun k1 => ?_
  refine loopI (ι := { s : Nat × Nat // s_l7Has_1 a0 a1 s.1 s.2 = s_l7Has_1 a0 a1 (a0.length + 1) 0 ∧ (1 ≤ s.1 ∧ a0.length < s.1 + s.2 ∧ s.2 ≤ a0.length) }) (fun s => stOf 18 [(0, .one (.d (.sl 1 (a0.map iR))), []), (1, .one (.d (.int .i64 a1)), []), (5, .one (.d (.int .i64 (↑s.1.2 : Int))), [])]) (fun s => s.1.1) ⟨((a0.length + 1), 0), rfl, by first | omega | (dsimp only; omega) | simp⟩ (wk_keep (by simp)) ?_
  rintro ⟨⟨n1, v1_0⟩, e1, j1⟩
  try dsimp only at e1 j1
  obtain ⟨p1, rfl⟩ : ∃ p, n1 = p + 1 := ⟨n1 - 1, by omega⟩
  simp
  refine condR (c := (decide ((↑v1_0 : Int) < (↑a0.length : Int)))) (by simp) (fun k2 h1 => ?_) (fun k2 h1 => ?_)
  · have q1 := h1; try simp at q1
    have i1 : v1_0 < a0.length := by simpa using h1
    have m2 : a0.length ≤ 9223372036854775807 := by simpa using k2 0 _ rfl
    have w1 : IntKind.i64.wrap ((v1_0 : Int) + 1) = (v1_0 : Int) + 1 := wrap_of (by omega) (by omega)
    simp [i1, rowAt_map]
    repeat ((with_reducible refine And.intro ?_ ?_); focus (intros; omega))
    refine condR (c := ((nth a0 v1_0) == a1)) (by simp) (fun k3 h2 => ?_) (fun k3 h2 => ?_)
    · have q2 := h2; try simp at q2
      have x1 : s_l7Has_1 a0 a1 (a0.length + 1) 0 = .inl true := by rw [← e1]; simp only [s_l7Has_1, h1, h2, cond_true, cond_false]
      simp
      refine retRd (rv := [.tmp 4]) rfl ?_
      have f1 := s_l7Has.eq_1 a0 a1
      simp only [x1, cond_true, cond_false] at f1
      simp [f1]
    · have q2 := h2; try simp at q2
      simp
      refine nxtI ⟨(p1, (v1_0 + 1)), ?_, ?_⟩ (by simp) (wk_keep (by simp [w1]))
      · rw [← e1]; simp only [s_l7Has_1, h1, h2, cond_true, cond_false]
      · first | omega | (simp at *; omega)
  · have q1 := h1; try simp at q1
    have x2 : s_l7Has_1 a0 a1 (a0.length + 1) 0 = .inr () := by rw [← e1]; simp only [s_l7Has_1, h1, cond_true, cond_false]
    simp
    refine retRd (rv := [.tmp 4]) rfl ?_
    have f2 := s_l7Has.eq_1 a0 a1
    simp only [x2, cond_true, cond_false] at f2
    simp [f2]
theorem s_l33Items_ok (a0 : TWorld) (u0 : Sm 2318336 a0) : SoundAt Tryz.prog 19 false [a0.row] [[.bool (s_l33Items a0)]] := by
  refine sound_of Tryz.func19 rfl (by kernel_rfl) ?_
  simp [Tryz.ntmps19]
  refine okL fun k1 => ?_
  refine loopI (ι := { s : Nat × (List Int) × Nat // s_l33Items_1 a0 s.1 s.2.1 s.2.2 = s_l33Items_1 a0 (a0.Archives.length + 1) ([] : List Int) 0 ∧ (1 ≤ s.1 ∧ a0.Archives.length < s.1 + s.2.2 ∧ s.2.1.length ≤ 2318336 * s.2.2) }) (fun s => stOf 75 [(1, .one (.bptr 1 0), [.box [.d (.sl 5 (a0.Frame.Keys.map TKey.row)), .d (.sl 3 (a0.Frame.Authorities.map TAuthority.row)), .d (.sl 4 (a0.Frame.Methods.map TMethod.row)), .d (.int .i64 a0.Frame.Liars), .d (.int .i64 a0.Frame.Now), .d (.sl 7 (a0.Certs.map TCert.row)), .d (.sl 1 (a0.Ended.map iR)), .d (.sl 2 (a0.Archives.map TArchive.row)), .d (.sl 1 (a0.Seqs.map iR)), .d (.sl 1 (a0.Lying.map iR)), .d (.int .i64 a0.Next), .d (.sl 1 (a0.Forged.map iR))]]), (3, .one (.sref 3 0 0 s.1.2.1.length), [.arr false 1 (s.1.2.1.map iR)]), (4, .one (.d (.int .i64 (↑s.1.2.2 : Int))), [])]) (fun s => s.1.1) ⟨((a0.Archives.length + 1), ([] : List Int), 0), rfl, by first | omega | (dsimp only; omega) | simp⟩ (wk_of [((3, 0), some (7, 0))] [] rfl (by simp)) ?_
  rintro ⟨⟨n1, v1_0, v1_1⟩, e1, j1⟩
  try dsimp only at e1 j1
  obtain ⟨p1, rfl⟩ : ∃ p, n1 = p + 1 := ⟨n1 - 1, by omega⟩
  simp
  refine condR (c := (decide ((↑v1_1 : Int) < (↑a0.Archives.length : Int)))) (by simp) (fun k2 h1 => ?_) (fun k2 h1 => ?_)
  · have q1 := h1; try simp at q1
    have i1 : v1_1 < a0.Archives.length := by simpa using h1
    have m2 : a0.Archives.length ≤ 9223372036854775807 := by simpa using k2 10 _ rfl
    have c1 : a0.Archives.length ≤ 2318336 := sm_len (by simp (maxDischargeDepth := 12) [u0])
    have w1 : IntKind.i64.wrap ((v1_1 : Int) + 1) = (v1_1 : Int) + 1 := wrap_of (by omega) (by omega)
    simp [i1, rowAt_map]
    repeat ((with_reducible refine And.intro ?_ ?_); focus (intros; (have o : (nth a0.Archives v1_1).Items.length ≤ 2318336 := sm_len (by simp (maxDischargeDepth := 12) [u0]); have o2 : a0.Archives.length ≤ 2318336 := sm_len (by simp (maxDischargeDepth := 12) [u0]); omega)))
    refine callRd rfl rfl rfl rfl (s_IsArchive_ok (nth a0.Archives v1_1)) (by simp) (by simp) (by simp) ?_
    simp
    refine guardI rfl rfl rfl rfl rfl (by simp) (fun g1 => ?_) (fun g1 => ?_)
    · have g1x := g1; try simp only [beq_true, beq_false, Bool.not_eq_true', Bool.not_eq_false', Bool.true_and, Bool.and_true] at g1x
      try simp at g1
      simp [i1, rowAt_map, g1x]
      repeat ((with_reducible refine And.intro ?_ ?_); focus (intros; first | (have o : (nth a0.Archives v1_1).Items.length ≤ 2318336 := sm_len (by simp (maxDischargeDepth := 12) [u0]); have o2 : a0.Archives.length ≤ 2318336 := sm_len (by simp (maxDischargeDepth := 12) [u0]); omega) | (simp_all; done) | (simp_all; omega) | grind))
      refine condR (c := ((!(s_IsArchive (nth a0.Archives v1_1))) || ((nth a0.Archives v1_1).Id != (↑v1_1 : Int)))) (by first | (simp [g1x]; done) | grind) (fun k3 h2 => ?_) (fun k3 h2 => ?_)
      · try (have z := h2; simp [g1x] at z; done)
        all_goals
          have q2 := h2; try simp at q2
          have x1 : s_l33Items_1 a0 (a0.Archives.length + 1) ([] : List Int) 0 = .inl false := by rw [← e1]; simp only [s_l33Items_1, h1, h2, cond_true, cond_false]
          simp [g1x]
          repeat ((with_reducible refine And.intro ?_ ?_); focus (intros; first | (have o : (nth a0.Archives v1_1).Items.length ≤ 2318336 := sm_len (by simp (maxDischargeDepth := 12) [u0]); have o2 : a0.Archives.length ≤ 2318336 := sm_len (by simp (maxDischargeDepth := 12) [u0]); omega) | (simp_all; done) | (simp_all; omega) | grind))
          refine retRd (rv := [.tmp 2]) rfl ?_
          have f1 := s_l33Items.eq_1 a0
          simp only [x1, cond_true, cond_false] at f1
          simp [f1, g1x]
      · try (have z := h2; simp [g1x] at z; done)
        all_goals
          have q2 := h2; try simp at q2
          simp [g1x]
          repeat ((with_reducible refine And.intro ?_ ?_); focus (intros; first | (have o : (nth a0.Archives v1_1).Items.length ≤ 2318336 := sm_len (by simp (maxDischargeDepth := 12) [u0]); have o2 : a0.Archives.length ≤ 2318336 := sm_len (by simp (maxDischargeDepth := 12) [u0]); omega) | (simp_all; done) | (simp_all; omega) | grind))
          refine okL fun k4 => ?_
          refine loopI (ι := { s : Nat × (List Int) × Nat // s_l33Items_2 a0 v1_1 s.1 s.2.1 s.2.2 = s_l33Items_2 a0 v1_1 ((nth a0.Archives v1_1).Items.length + 1) v1_0 0 ∧ (1 ≤ s.1 ∧ (nth a0.Archives v1_1).Items.length < s.1 + s.2.2 ∧ s.2.2 ≤ (nth a0.Archives v1_1).Items.length ∧ s.2.1.length ≤ 2318336 * v1_1 + s.2.2) }) (fun s => stOf 75 [(1, .one (.bptr 1 0), [.box [.d (.sl 5 (a0.Frame.Keys.map TKey.row)), .d (.sl 3 (a0.Frame.Authorities.map TAuthority.row)), .d (.sl 4 (a0.Frame.Methods.map TMethod.row)), .d (.int .i64 a0.Frame.Liars), .d (.int .i64 a0.Frame.Now), .d (.sl 7 (a0.Certs.map TCert.row)), .d (.sl 1 (a0.Ended.map iR)), .d (.sl 2 (a0.Archives.map TArchive.row)), .d (.sl 1 (a0.Seqs.map iR)), .d (.sl 1 (a0.Lying.map iR)), .d (.int .i64 a0.Next), .d (.sl 1 (a0.Forged.map iR))]]), (3, .one (.sref 3 0 0 s.1.2.1.length), [.arr false 1 (s.1.2.1.map iR)]), (4, .one (.d (.int .i64 (↑v1_1 : Int))), []), (5, .one (.d (.int .i64 (↑s.1.2.2 : Int))), [])]) (fun s => s.1.1) ⟨(((nth a0.Archives v1_1).Items.length + 1), v1_0, 0), rfl, by first | omega | (dsimp only; omega) | simp⟩ (wk_keep (by simp)) ?_
          rintro ⟨⟨n2, v2_0, v2_1⟩, e2, j2⟩
          try dsimp only at e2 j2
          obtain ⟨p2, rfl⟩ : ∃ p, n2 = p + 1 := ⟨n2 - 1, by omega⟩
          simp [i1, rowAt_map, g1x]
          repeat ((with_reducible refine And.intro ?_ ?_); focus (intros; first | (have o : (nth a0.Archives v1_1).Items.length ≤ 2318336 := sm_len (by simp (maxDischargeDepth := 12) [u0]); have o2 : a0.Archives.length ≤ 2318336 := sm_len (by simp (maxDischargeDepth := 12) [u0]); omega) | (simp_all; done) | (simp_all; omega) | grind))
          refine condR (c := (decide ((↑v2_1 : Int) < (↑(nth a0.Archives v1_1).Items.length : Int)))) (by first | (simp [g1x]; done) | grind) (fun k5 h3 => ?_) (fun k5 h3 => ?_)
          · try (have z := h3; simp [g1x] at z; done)
            all_goals
              have q3 := h3; try simp at q3
              have i2 : v2_1 < (nth a0.Archives v1_1).Items.length := by simpa using h3
              have m4 : (nth a0.Archives v1_1).Items.length ≤ 9223372036854775807 := by simpa using k5 38 _ rfl
              have c2 : (nth a0.Archives v1_1).Items.length ≤ 2318336 := sm_len (by simp (maxDischargeDepth := 12) [u0])
              have w2 : IntKind.i64.wrap ((v2_1 : Int) + 1) = (v2_1 : Int) + 1 := wrap_of (by omega) (by omega)
              simp [i1, rowAt_map, i2, g1x]
              repeat ((with_reducible refine And.intro ?_ ?_); focus (intros; first | (have o : (nth a0.Archives v1_1).Items.length ≤ 2318336 := sm_len (by simp (maxDischargeDepth := 12) [u0]); have o2 : a0.Archives.length ≤ 2318336 := sm_len (by simp (maxDischargeDepth := 12) [u0]); omega) | (simp_all; done) | (simp_all; omega) | grind))
              refine callRd rfl rfl rfl rfl (s_l7Has_ok v2_0 (nth (nth a0.Archives v1_1).Items v2_1).Id) (by simp) (by simp) (by simp) ?_
              simp [g1x]
              repeat ((with_reducible refine And.intro ?_ ?_); focus (intros; first | (have o : (nth a0.Archives v1_1).Items.length ≤ 2318336 := sm_len (by simp (maxDischargeDepth := 12) [u0]); have o2 : a0.Archives.length ≤ 2318336 := sm_len (by simp (maxDischargeDepth := 12) [u0]); omega) | (simp_all; done) | (simp_all; omega) | grind))
              refine condR (c := ((s_l7Has v2_0 (nth (nth a0.Archives v1_1).Items v2_1).Id) || (decide ((nth (nth a0.Archives v1_1).Items v2_1).Id ≥ a0.Next)))) (by first | (simp [g1x]; done) | grind) (fun k6 h4 => ?_) (fun k6 h4 => ?_)
              · try (have z := h4; simp [g1x] at z; done)
                all_goals
                  have q4 := h4; try simp at q4
                  have x2 : s_l33Items_2 a0 v1_1 ((nth a0.Archives v1_1).Items.length + 1) v1_0 0 = .inl false := by rw [← e2]; simp only [s_l33Items_2, h3, h4, cond_true, cond_false]
                  have x3 : s_l33Items_1 a0 (a0.Archives.length + 1) ([] : List Int) 0 = .inl false := by rw [← e1]; simp only [s_l33Items_1, h1, h2, x2, cond_true, cond_false]
                  simp [g1x]
                  repeat ((with_reducible refine And.intro ?_ ?_); focus (intros; first | (have o : (nth a0.Archives v1_1).Items.length ≤ 2318336 := sm_len (by simp (maxDischargeDepth := 12) [u0]); have o2 : a0.Archives.length ≤ 2318336 := sm_len (by simp (maxDischargeDepth := 12) [u0]); omega) | (simp_all; done) | (simp_all; omega) | grind))
                  refine retRd (rv := [.tmp 2]) rfl ?_
                  have f2 := s_l33Items.eq_1 a0
                  simp only [x3, cond_true, cond_false] at f2
                  simp [f2, g1x]
              · try (have z := h4; simp [g1x] at z; done)
                all_goals
                  have q4 := h4; try simp at q4
                  simp [g1x]
                  repeat ((with_reducible refine And.intro ?_ ?_); focus (intros; first | (have o : (nth a0.Archives v1_1).Items.length ≤ 2318336 := sm_len (by simp (maxDischargeDepth := 12) [u0]); have o2 : a0.Archives.length ≤ 2318336 := sm_len (by simp (maxDischargeDepth := 12) [u0]); omega) | (simp_all; done) | (simp_all; omega) | grind))
                  refine nxtI ⟨(p2, (v2_0 ++ ([(nth (nth a0.Archives v1_1).Items v2_1).Id] : List Int)), (v2_1 + 1)), ?_, ?_⟩ (by simp) (wk_of [((3, 0), some (65, 0))] [] rfl (by simp [w1, w2]))
                  · rw [← e2]; simp only [s_l33Items_2, h3, h4, cond_true, cond_false]
                  · (have o : (nth a0.Archives v1_1).Items.length ≤ 2318336 := sm_len (by simp (maxDischargeDepth := 12) [u0]); first | omega | (simp at *; omega))
          · try (have z := h3; simp [g1x] at z; done)
            all_goals
              have q3 := h3; try simp at q3
              have c3 : (nth a0.Archives v1_1).Items.length ≤ 2318336 := sm_len (by simp (maxDischargeDepth := 12) [u0])
              have x4 : s_l33Items_2 a0 v1_1 ((nth a0.Archives v1_1).Items.length + 1) v1_0 0 = .inr v2_0 := by rw [← e2]; simp only [s_l33Items_2, h3, cond_true, cond_false]
              simp [g1x]
              repeat ((with_reducible refine And.intro ?_ ?_); focus (intros; first | (have o : (nth a0.Archives v1_1).Items.length ≤ 2318336 := sm_len (by simp (maxDischargeDepth := 12) [u0]); have o2 : a0.Archives.length ≤ 2318336 := sm_len (by simp (maxDischargeDepth := 12) [u0]); omega) | (simp_all; done) | (simp_all; omega) | grind))
              refine nxtI ⟨(p1, v2_0, (v1_1 + 1)), ?_, ?_⟩ (by simp) (wk_keep (by simp [w1]))
              · rw [← e1]; simp only [s_l33Items_1, h1, h2, x4, cond_true, cond_false]
              · (have o : (nth a0.Archives v1_1).Items.length ≤ 2318336 := sm_len (by simp (maxDischargeDepth := 12) [u0]); first | omega | (simp at *; omega))
    · have g1x := g1; try simp only [beq_true, beq_false, Bool.not_eq_true', Bool.not_eq_false', Bool.true_and, Bool.and_true] at g1x
      simp [g1x]
      repeat ((with_reducible refine And.intro ?_ ?_); focus (intros; first | (have o : (nth a0.Archives v1_1).Items.length ≤ 2318336 := sm_len (by simp (maxDischargeDepth := 12) [u0]); have o2 : a0.Archives.length ≤ 2318336 := sm_len (by simp (maxDischargeDepth := 12) [u0]); omega) | (simp_all; done) | (simp_all; omega) | grind))
      refine condR (c := ((!(s_IsArchive (nth a0.Archives v1_1))) || ((nth a0.Archives v1_1).Id != (↑v1_1 : Int)))) (by first | (simp [g1x]; done) | grind) (fun k7 h5 => ?_) (fun k7 h5 => ?_)
      · try (have z := h5; simp [g1x] at z; done)
        all_goals
          have q5 := h5; try simp at q5
          have x5 : s_l33Items_1 a0 (a0.Archives.length + 1) ([] : List Int) 0 = .inl false := by rw [← e1]; simp only [s_l33Items_1, h1, h5, cond_true, cond_false]
          simp [g1x]
          repeat ((with_reducible refine And.intro ?_ ?_); focus (intros; first | (have o : (nth a0.Archives v1_1).Items.length ≤ 2318336 := sm_len (by simp (maxDischargeDepth := 12) [u0]); have o2 : a0.Archives.length ≤ 2318336 := sm_len (by simp (maxDischargeDepth := 12) [u0]); omega) | (simp_all; done) | (simp_all; omega) | grind))
          refine retRd (rv := [.tmp 2]) rfl ?_
          have f3 := s_l33Items.eq_1 a0
          simp only [x5, cond_true, cond_false] at f3
          simp [f3, g1x]
      · try (have z := h5; simp [g1x] at z; done)
        all_goals
          have q5 := h5; try simp at q5
          simp [g1x]
          repeat ((with_reducible refine And.intro ?_ ?_); focus (intros; first | (have o : (nth a0.Archives v1_1).Items.length ≤ 2318336 := sm_len (by simp (maxDischargeDepth := 12) [u0]); have o2 : a0.Archives.length ≤ 2318336 := sm_len (by simp (maxDischargeDepth := 12) [u0]); omega) | (simp_all; done) | (simp_all; omega) | grind))
          refine okL fun k8 => ?_
          refine loopI (ι := { s : Nat × (List Int) × Nat // s_l33Items_3 a0 v1_1 s.1 s.2.1 s.2.2 = s_l33Items_3 a0 v1_1 ((nth a0.Archives v1_1).Items.length + 1) v1_0 0 ∧ (1 ≤ s.1 ∧ (nth a0.Archives v1_1).Items.length < s.1 + s.2.2 ∧ s.2.2 ≤ (nth a0.Archives v1_1).Items.length ∧ s.2.1.length ≤ 2318336 * v1_1 + s.2.2) }) (fun s => stOf 75 [(1, .one (.bptr 1 0), [.box [.d (.sl 5 (a0.Frame.Keys.map TKey.row)), .d (.sl 3 (a0.Frame.Authorities.map TAuthority.row)), .d (.sl 4 (a0.Frame.Methods.map TMethod.row)), .d (.int .i64 a0.Frame.Liars), .d (.int .i64 a0.Frame.Now), .d (.sl 7 (a0.Certs.map TCert.row)), .d (.sl 1 (a0.Ended.map iR)), .d (.sl 2 (a0.Archives.map TArchive.row)), .d (.sl 1 (a0.Seqs.map iR)), .d (.sl 1 (a0.Lying.map iR)), .d (.int .i64 a0.Next), .d (.sl 1 (a0.Forged.map iR))]]), (3, .one (.sref 3 0 0 s.1.2.1.length), [.arr false 1 (s.1.2.1.map iR)]), (4, .one (.d (.int .i64 (↑v1_1 : Int))), []), (5, .one (.d (.int .i64 (↑s.1.2.2 : Int))), [])]) (fun s => s.1.1) ⟨(((nth a0.Archives v1_1).Items.length + 1), v1_0, 0), rfl, by first | omega | (dsimp only; omega) | simp⟩ (wk_keep (by simp)) ?_
          rintro ⟨⟨n3, v3_0, v3_1⟩, e3, j3⟩
          try dsimp only at e3 j3
          obtain ⟨p3, rfl⟩ : ∃ p, n3 = p + 1 := ⟨n3 - 1, by omega⟩
          simp [i1, rowAt_map, g1x]
          repeat ((with_reducible refine And.intro ?_ ?_); focus (intros; first | (have o : (nth a0.Archives v1_1).Items.length ≤ 2318336 := sm_len (by simp (maxDischargeDepth := 12) [u0]); have o2 : a0.Archives.length ≤ 2318336 := sm_len (by simp (maxDischargeDepth := 12) [u0]); omega) | (simp_all; done) | (simp_all; omega) | grind))
          refine condR (c := (decide ((↑v3_1 : Int) < (↑(nth a0.Archives v1_1).Items.length : Int)))) (by first | (simp [g1x]; done) | grind) (fun k9 h6 => ?_) (fun k9 h6 => ?_)
          · try (have z := h6; simp [g1x] at z; done)
            all_goals
              have q6 := h6; try simp at q6
              have i3 : v3_1 < (nth a0.Archives v1_1).Items.length := by simpa using h6
              have m6 : (nth a0.Archives v1_1).Items.length ≤ 9223372036854775807 := by simpa using k9 38 _ rfl
              have c4 : (nth a0.Archives v1_1).Items.length ≤ 2318336 := sm_len (by simp (maxDischargeDepth := 12) [u0])
              have w3 : IntKind.i64.wrap ((v3_1 : Int) + 1) = (v3_1 : Int) + 1 := wrap_of (by omega) (by omega)
              simp [i1, rowAt_map, i3, g1x]
              repeat ((with_reducible refine And.intro ?_ ?_); focus (intros; first | (have o : (nth a0.Archives v1_1).Items.length ≤ 2318336 := sm_len (by simp (maxDischargeDepth := 12) [u0]); have o2 : a0.Archives.length ≤ 2318336 := sm_len (by simp (maxDischargeDepth := 12) [u0]); omega) | (simp_all; done) | (simp_all; omega) | grind))
              refine callRd rfl rfl rfl rfl (s_l7Has_ok v3_0 (nth (nth a0.Archives v1_1).Items v3_1).Id) (by simp) (by simp) (by simp) ?_
              simp [g1x]
              repeat ((with_reducible refine And.intro ?_ ?_); focus (intros; first | (have o : (nth a0.Archives v1_1).Items.length ≤ 2318336 := sm_len (by simp (maxDischargeDepth := 12) [u0]); have o2 : a0.Archives.length ≤ 2318336 := sm_len (by simp (maxDischargeDepth := 12) [u0]); omega) | (simp_all; done) | (simp_all; omega) | grind))
              refine condR (c := ((s_l7Has v3_0 (nth (nth a0.Archives v1_1).Items v3_1).Id) || (decide ((nth (nth a0.Archives v1_1).Items v3_1).Id ≥ a0.Next)))) (by first | (simp [g1x]; done) | grind) (fun k10 h7 => ?_) (fun k10 h7 => ?_)
              · try (have z := h7; simp [g1x] at z; done)
                all_goals
                  have q7 := h7; try simp at q7
                  have x6 : s_l33Items_3 a0 v1_1 ((nth a0.Archives v1_1).Items.length + 1) v1_0 0 = .inl false := by rw [← e3]; simp only [s_l33Items_3, h6, h7, cond_true, cond_false]
                  have x7 : s_l33Items_1 a0 (a0.Archives.length + 1) ([] : List Int) 0 = .inl false := by rw [← e1]; simp only [s_l33Items_1, h1, h5, x6, cond_true, cond_false]
                  simp [g1x]
                  repeat ((with_reducible refine And.intro ?_ ?_); focus (intros; first | (have o : (nth a0.Archives v1_1).Items.length ≤ 2318336 := sm_len (by simp (maxDischargeDepth := 12) [u0]); have o2 : a0.Archives.length ≤ 2318336 := sm_len (by simp (maxDischargeDepth := 12) [u0]); omega) | (simp_all; done) | (simp_all; omega) | grind))
                  refine retRd (rv := [.tmp 2]) rfl ?_
                  have f4 := s_l33Items.eq_1 a0
                  simp only [x7, cond_true, cond_false] at f4
                  simp [f4, g1x]
              · try (have z := h7; simp [g1x] at z; done)
                all_goals
                  have q7 := h7; try simp at q7
                  simp [g1x]
                  repeat ((with_reducible refine And.intro ?_ ?_); focus (intros; first | (have o : (nth a0.Archives v1_1).Items.length ≤ 2318336 := sm_len (by simp (maxDischargeDepth := 12) [u0]); have o2 : a0.Archives.length ≤ 2318336 := sm_len (by simp (maxDischargeDepth := 12) [u0]); omega) | (simp_all; done) | (simp_all; omega) | grind))
                  refine nxtI ⟨(p3, (v3_0 ++ ([(nth (nth a0.Archives v1_1).Items v3_1).Id] : List Int)), (v3_1 + 1)), ?_, ?_⟩ (by simp) (wk_of [((3, 0), some (65, 0))] [] rfl (by simp [w1, w3]))
                  · rw [← e3]; simp only [s_l33Items_3, h6, h7, cond_true, cond_false]
                  · (have o : (nth a0.Archives v1_1).Items.length ≤ 2318336 := sm_len (by simp (maxDischargeDepth := 12) [u0]); first | omega | (simp at *; omega))
          · try (have z := h6; simp [g1x] at z; done)
            all_goals
              have q6 := h6; try simp at q6
              have c5 : (nth a0.Archives v1_1).Items.length ≤ 2318336 := sm_len (by simp (maxDischargeDepth := 12) [u0])
              have x8 : s_l33Items_3 a0 v1_1 ((nth a0.Archives v1_1).Items.length + 1) v1_0 0 = .inr v3_0 := by rw [← e3]; simp only [s_l33Items_3, h6, cond_true, cond_false]
              simp [g1x]
              repeat ((with_reducible refine And.intro ?_ ?_); focus (intros; first | (have o : (nth a0.Archives v1_1).Items.length ≤ 2318336 := sm_len (by simp (maxDischargeDepth := 12) [u0]); have o2 : a0.Archives.length ≤ 2318336 := sm_len (by simp (maxDischargeDepth := 12) [u0]); omega) | (simp_all; done) | (simp_all; omega) | grind))
              refine nxtI ⟨(p1, v3_0, (v1_1 + 1)), ?_, ?_⟩ (by simp) (wk_keep (by simp [w1]))
              · rw [← e1]; simp only [s_l33Items_1, h1, h5, x8, cond_true, cond_false]
              · (have o : (nth a0.Archives v1_1).Items.length ≤ 2318336 := sm_len (by simp (maxDischargeDepth := 12) [u0]); first | omega | (simp at *; omega))
  · have q1 := h1; try simp at q1
    have c6 : a0.Archives.length ≤ 2318336 := sm_len (by simp (maxDischargeDepth := 12) [u0])
    have x9 : s_l33Items_1 a0 (a0.Archives.length + 1) ([] : List Int) 0 = .inr () := by rw [← e1]; simp only [s_l33Items_1, h1, cond_true, cond_false]
    simp
    refine callRd rfl rfl rfl rfl (s_l1In_ok (↑a0.Archives.length : Int) 1 4) (by simp) (by simp) (by simp) ?_
    simp
    refine retRd (rv := [.tmp 2]) rfl ?_
    have f5 := s_l33Items.eq_1 a0
    simp only [x9, cond_true, cond_false] at f5
    simp [f5]
theorem s_IsWorld_ok (a0 : TWorld) (u0 : Sm 2310144 a0) : SoundAt Tryz.prog 6 false [a0.row] [[.bool (s_IsWorld a0)]] := by
  refine sound_of Tryz.func6 rfl (by kernel_rfl) ?_
  simp [Tryz.ntmps6]
  refine okL fun k1 => ?_
  refine loopI (ι := { s : Nat × Nat // s_IsWorld_1 a0 s.1 s.2 = s_IsWorld_1 a0 (a0.Seqs.length + 1) 0 ∧ (1 ≤ s.1 ∧ a0.Seqs.length < s.1 + s.2 ∧ s.2 ≤ a0.Seqs.length) }) (fun s => stOf 103 [(1, .one (.bptr 1 0), [.box [.d (.sl 5 (a0.Frame.Keys.map TKey.row)), .d (.sl 3 (a0.Frame.Authorities.map TAuthority.row)), .d (.sl 4 (a0.Frame.Methods.map TMethod.row)), .d (.int .i64 a0.Frame.Liars), .d (.int .i64 a0.Frame.Now), .d (.sl 7 (a0.Certs.map TCert.row)), .d (.sl 1 (a0.Ended.map iR)), .d (.sl 2 (a0.Archives.map TArchive.row)), .d (.sl 1 (a0.Seqs.map iR)), .d (.sl 1 (a0.Lying.map iR)), .d (.int .i64 a0.Next), .d (.sl 1 (a0.Forged.map iR))]]), (3, .one (.d (.int .i64 (↑s.1.2 : Int))), [])]) (fun s => s.1.1) ⟨((a0.Seqs.length + 1), 0), rfl, by first | omega | (dsimp only; omega) | simp⟩ (wk_keep (by simp)) ?_
  rintro ⟨⟨n1, v1_0⟩, e1, j1⟩
  try dsimp only at e1 j1
  obtain ⟨p1, rfl⟩ : ∃ p, n1 = p + 1 := ⟨n1 - 1, by omega⟩
  simp
  refine condR (c := (decide ((↑v1_0 : Int) < (↑a0.Seqs.length : Int)))) (by simp) (fun k2 h1 => ?_) (fun k2 h1 => ?_)
  · have q1 := h1; try simp at q1
    have i1 : v1_0 < a0.Seqs.length := by simpa using h1
    have m2 : a0.Seqs.length ≤ 9223372036854775807 := by simpa using k2 8 _ rfl
    have c1 : a0.Seqs.length ≤ 2310144 := sm_len (by simp (maxDischargeDepth := 12) [u0])
    have w1 : IntKind.i64.wrap ((v1_0 : Int) + 1) = (v1_0 : Int) + 1 := wrap_of (by omega) (by omega)
    simp [i1, rowAt_map]
    repeat ((with_reducible refine And.intro ?_ ?_); focus (intros; omega))
    refine condR (c := (decide ((nth a0.Seqs v1_0) < 0))) (by simp) (fun k3 h2 => ?_) (fun k3 h2 => ?_)
    · have q2 := h2; try simp at q2
      have x1 : s_IsWorld_1 a0 (a0.Seqs.length + 1) 0 = .inl false := by rw [← e1]; simp only [s_IsWorld_1, h1, h2, cond_true, cond_false]
      simp
      refine retRd (rv := [.tmp 2]) rfl ?_
      have f1 := s_IsWorld.eq_1 a0
      simp only [x1, cond_true, cond_false] at f1
      simp [f1]
    · have q2 := h2; try simp at q2
      simp
      refine nxtI ⟨(p1, (v1_0 + 1)), ?_, ?_⟩ (by simp) (wk_keep (by simp [w1]))
      · rw [← e1]; simp only [s_IsWorld_1, h1, h2, cond_true, cond_false]
      · first | omega | (simp at *; omega)
  · have q1 := h1; try simp at q1
    have c2 : a0.Seqs.length ≤ 2310144 := sm_len (by simp (maxDischargeDepth := 12) [u0])
    have x2 : s_IsWorld_1 a0 (a0.Seqs.length + 1) 0 = .inr () := by rw [← e1]; simp only [s_IsWorld_1, h1, cond_true, cond_false]
    simp
    refine okL fun k4 => ?_
    refine loopI (ι := { s : Nat × Nat // s_IsWorld_2 a0 s.1 s.2 = s_IsWorld_2 a0 (a0.Lying.length + 1) 0 ∧ (1 ≤ s.1 ∧ a0.Lying.length < s.1 + s.2 ∧ s.2 ≤ a0.Lying.length) }) (fun s => stOf 103 [(1, .one (.bptr 1 0), [.box [.d (.sl 5 (a0.Frame.Keys.map TKey.row)), .d (.sl 3 (a0.Frame.Authorities.map TAuthority.row)), .d (.sl 4 (a0.Frame.Methods.map TMethod.row)), .d (.int .i64 a0.Frame.Liars), .d (.int .i64 a0.Frame.Now), .d (.sl 7 (a0.Certs.map TCert.row)), .d (.sl 1 (a0.Ended.map iR)), .d (.sl 2 (a0.Archives.map TArchive.row)), .d (.sl 1 (a0.Seqs.map iR)), .d (.sl 1 (a0.Lying.map iR)), .d (.int .i64 a0.Next), .d (.sl 1 (a0.Forged.map iR))]]), (4, .one (.d (.int .i64 (↑s.1.2 : Int))), [])]) (fun s => s.1.1) ⟨((a0.Lying.length + 1), 0), rfl, by first | omega | (dsimp only; omega) | simp⟩ (wk_keep (by simp)) ?_
    rintro ⟨⟨n2, v2_0⟩, e2, j2⟩
    try dsimp only at e2 j2
    obtain ⟨p2, rfl⟩ : ∃ p, n2 = p + 1 := ⟨n2 - 1, by omega⟩
    simp
    refine condR (c := (decide ((↑v2_0 : Int) < (↑a0.Lying.length : Int)))) (by simp) (fun k5 h3 => ?_) (fun k5 h3 => ?_)
    · have q3 := h3; try simp at q3
      have i2 : v2_0 < a0.Lying.length := by simpa using h3
      have m4 : a0.Lying.length ≤ 9223372036854775807 := by simpa using k5 21 _ rfl
      have c3 : a0.Lying.length ≤ 2310144 := sm_len (by simp (maxDischargeDepth := 12) [u0])
      have w2 : IntKind.i64.wrap ((v2_0 : Int) + 1) = (v2_0 : Int) + 1 := wrap_of (by omega) (by omega)
      simp
      refine okD fun k6 => ?_
      refine drawI mixed (by kernel_rfl) (by kernel_rfl) ?_
      simp [i2, rowAt_map]
      repeat ((with_reducible refine And.intro ?_ ?_); focus (intros; omega))
      refine callRd rfl rfl rfl rfl (s_FindAuthority_ok a0.Frame.Authorities (nth a0.Lying v2_0)) (by simp) (by simp) (by simp) ?_
      simp
      refine guardI rfl rfl rfl rfl rfl (by simp) (fun g1 => ?_) (fun g1 => ?_)
      · have g1x := g1; try simp only [beq_true, beq_false, Bool.not_eq_true', Bool.not_eq_false', Bool.true_and, Bool.and_true] at g1x
        try simp at g1
        have i3 : (v2_0 - 1) < a0.Lying.length := by omega
        have w3 : IntKind.i64.wrap ((v2_0 : Int) - 1) = (v2_0 : Int) - 1 := wrap_of (by omega) (by omega)
        simp [i3, rowAt_map, w3, toNat_pred, g1x]
        repeat ((with_reducible refine And.intro ?_ ?_); focus (intros; first | omega | (simp_all; done) | (simp_all; omega) | grind))
        refine guardI rfl rfl rfl rfl rfl (by simp) (fun _ => ?_) (fun g0 => by simp [g1x] at g0)
        simp [i2, rowAt_map, g1x]
        repeat ((with_reducible refine And.intro ?_ ?_); focus (intros; first | omega | (simp_all; done) | (simp_all; omega) | grind))
        refine condR (c := ((decide ((s_FindAuthority a0.Frame.Authorities (nth a0.Lying v2_0)) < 0)) || ((decide ((↑v2_0 : Int) > 0)) && (decide ((nth a0.Lying (v2_0 - 1)) ≥ (nth a0.Lying v2_0)))))) (by first | (simp [g1x]; done) | grind) (fun k7 h4 => ?_) (fun k7 h4 => ?_)
        · try (have z := h4; simp [g1x] at z; done)
          all_goals
            have q4 := h4; try simp at q4
            have x3 : s_IsWorld_2 a0 (a0.Lying.length + 1) 0 = .inl false := by rw [← e2]; simp only [s_IsWorld_2, h3, h4, cond_true, cond_false]
            simp [g1x]
            repeat ((with_reducible refine And.intro ?_ ?_); focus (intros; first | omega | (simp_all; done) | (simp_all; omega) | grind))
            refine retRd (rv := [.tmp 2]) rfl ?_
            have f2 := s_IsWorld.eq_1 a0
            simp only [x2, x3, cond_true, cond_false] at f2
            simp [f2, g1x]
        · try (have z := h4; simp [g1x] at z; done)
          all_goals
            have q4 := h4; try simp at q4
            simp [g1x]
            repeat ((with_reducible refine And.intro ?_ ?_); focus (intros; first | omega | (simp_all; done) | (simp_all; omega) | grind))
            refine nxtI ⟨(p2, (v2_0 + 1)), ?_, ?_⟩ (by simp) (wk_keep (by simp [w2, w3]))
            · rw [← e2]; simp only [s_IsWorld_2, h3, h4, cond_true, cond_false]
            · first | omega | (simp at *; omega)
      · have g1x := g1; try simp only [beq_true, beq_false, Bool.not_eq_true', Bool.not_eq_false', Bool.true_and, Bool.and_true] at g1x
        simp [g1x]
        repeat ((with_reducible refine And.intro ?_ ?_); focus (intros; first | omega | (simp_all; done) | (simp_all; omega) | grind))
        refine skipG rfl rfl rfl rfl (by simp) (by simp [g1x]) ?_
        simp [g1x]
        repeat ((with_reducible refine And.intro ?_ ?_); focus (intros; first | omega | (simp_all; done) | (simp_all; omega) | grind))
        refine condR (c := ((decide ((s_FindAuthority a0.Frame.Authorities (nth a0.Lying v2_0)) < 0)) || ((decide ((↑v2_0 : Int) > 0)) && (decide ((nth a0.Lying (v2_0 - 1)) ≥ (nth a0.Lying v2_0)))))) (by first | (simp [g1x]; done) | grind) (fun k8 h5 => ?_) (fun k8 h5 => ?_)
        · try (have z := h5; simp [g1x] at z; done)
          all_goals
            have q5 := h5; try simp at q5
            have x4 : s_IsWorld_2 a0 (a0.Lying.length + 1) 0 = .inl false := by rw [← e2]; simp only [s_IsWorld_2, h3, h5, cond_true, cond_false]
            simp [g1x]
            repeat ((with_reducible refine And.intro ?_ ?_); focus (intros; first | omega | (simp_all; done) | (simp_all; omega) | grind))
            refine retRd (rv := [.tmp 2]) rfl ?_
            have f3 := s_IsWorld.eq_1 a0
            simp only [x2, x4, cond_true, cond_false] at f3
            simp [f3, g1x]
        · try (have z := h5; simp [g1x] at z; done)
          all_goals
            have q5 := h5; try simp at q5
            simp [g1x]
            repeat ((with_reducible refine And.intro ?_ ?_); focus (intros; first | omega | (simp_all; done) | (simp_all; omega) | grind))
            refine nxtI ⟨(p2, (v2_0 + 1)), ?_, ?_⟩ (by simp) (wk_keep (by simp [w2]))
            · rw [← e2]; simp only [s_IsWorld_2, h3, h5, cond_true, cond_false]
            · first | omega | (simp at *; omega)
    · have q3 := h3; try simp at q3
      have c4 : a0.Lying.length ≤ 2310144 := sm_len (by simp (maxDischargeDepth := 12) [u0])
      have x5 : s_IsWorld_2 a0 (a0.Lying.length + 1) 0 = .inr () := by rw [← e2]; simp only [s_IsWorld_2, h3, cond_true, cond_false]
      simp
      refine okL fun k9 => ?_
      refine loopI (ι := { s : Nat × Nat // s_IsWorld_3 a0 s.1 s.2 = s_IsWorld_3 a0 (a0.Forged.length + 1) 1 ∧ (1 ≤ s.1 ∧ a0.Forged.length < s.1 + s.2 ∧ 1 ≤ s.2) }) (fun s => stOf 103 [(1, .one (.bptr 1 0), [.box [.d (.sl 5 (a0.Frame.Keys.map TKey.row)), .d (.sl 3 (a0.Frame.Authorities.map TAuthority.row)), .d (.sl 4 (a0.Frame.Methods.map TMethod.row)), .d (.int .i64 a0.Frame.Liars), .d (.int .i64 a0.Frame.Now), .d (.sl 7 (a0.Certs.map TCert.row)), .d (.sl 1 (a0.Ended.map iR)), .d (.sl 2 (a0.Archives.map TArchive.row)), .d (.sl 1 (a0.Seqs.map iR)), .d (.sl 1 (a0.Lying.map iR)), .d (.int .i64 a0.Next), .d (.sl 1 (a0.Forged.map iR))]]), (5, .one (.d (.int .i64 (↑s.1.2 : Int))), [])]) (fun s => s.1.1) ⟨((a0.Forged.length + 1), 1), rfl, by first | omega | (dsimp only; omega) | simp⟩ (wk_keep (by simp)) ?_
      rintro ⟨⟨n3, v3_0⟩, e3, j3⟩
      try dsimp only at e3 j3
      obtain ⟨p3, rfl⟩ : ∃ p, n3 = p + 1 := ⟨n3 - 1, by omega⟩
      simp
      refine condR (c := (decide ((↑v3_0 : Int) < (↑a0.Forged.length : Int)))) (by simp) (fun k10 h6 => ?_) (fun k10 h6 => ?_)
      · have q6 := h6; try simp at q6
        have i5 : v3_0 < a0.Forged.length := by simpa using h6
        have m6 : a0.Forged.length ≤ 9223372036854775807 := by simpa using k10 56 _ rfl
        have c5 : a0.Forged.length ≤ 2310144 := sm_len (by simp (maxDischargeDepth := 12) [u0])
        have w5 : IntKind.i64.wrap ((v3_0 : Int) + 1) = (v3_0 : Int) + 1 := wrap_of (by omega) (by omega)
        simp
        refine okD fun k11 => ?_
        refine drawI mixed (by kernel_rfl) (by kernel_rfl) ?_
        have i6 : (v3_0 - 1) < a0.Forged.length := by omega
        have w6 : IntKind.i64.wrap ((v3_0 : Int) - 1) = (v3_0 : Int) - 1 := wrap_of (by omega) (by omega)
        simp [i6, rowAt_map, w6, toNat_pred, i5]
        repeat ((with_reducible refine And.intro ?_ ?_); focus (intros; omega))
        refine condR (c := (decide ((nth a0.Forged (v3_0 - 1)) ≥ (nth a0.Forged v3_0)))) (by simp) (fun k12 h7 => ?_) (fun k12 h7 => ?_)
        · have q7 := h7; try simp at q7
          have x6 : s_IsWorld_3 a0 (a0.Forged.length + 1) 1 = .inl false := by rw [← e3]; simp only [s_IsWorld_3, h6, h7, cond_true, cond_false]
          simp
          refine retRd (rv := [.tmp 2]) rfl ?_
          have f4 := s_IsWorld.eq_1 a0
          simp only [x2, x5, x6, cond_true, cond_false] at f4
          simp [f4]
        · have q7 := h7; try simp at q7
          simp
          refine nxtI ⟨(p3, (v3_0 + 1)), ?_, ?_⟩ (by simp) (wk_keep (by simp [w5, w6]))
          · rw [← e3]; simp only [s_IsWorld_3, h6, h7, cond_true, cond_false]
          · first | omega | (simp at *; omega)
      · have q6 := h6; try simp at q6
        have c6 : a0.Forged.length ≤ 2310144 := sm_len (by simp (maxDischargeDepth := 12) [u0])
        have x7 : s_IsWorld_3 a0 (a0.Forged.length + 1) 1 = .inr () := by rw [← e3]; simp only [s_IsWorld_3, h6, cond_true, cond_false]
        simp
        refine callRd rfl rfl rfl rfl (s_IsFrame_ok a0.Frame) (by simp) (by simp) (by simp) ?_
        simp
        refine callG rfl rfl rfl rfl rfl rfl (fun _ => (s_l33Certs_ok a0 (sm_mono (n := 2310144) (by decide) (by simp (maxDischargeDepth := 12) [u0])))) (by simp) (by simp) (by simp) (by simp) ?_
        simp
        refine callG rfl rfl rfl rfl rfl rfl (fun _ => (s_l33Items_ok a0 (sm_mono (n := 2310144) (by decide) (by simp (maxDischargeDepth := 12) [u0])))) (by simp) (by simp) (by simp) (by simp) ?_
        simp
        refine retRd (rv := [.tmp 2]) rfl ?_
        have f5 := s_IsWorld.eq_1 a0
        simp only [x2, x5, x7, cond_true, cond_false] at f5
        simp [f5]
theorem i_InRange_ok (a0 : Int) (a1 : Int) (a2 : Int) : SoundAt Tryz.prog 25 false [[.int .i64 a0], [.int .i64 a1], [.int .i64 a2]] [[.bool (i_InRange a0 a1 a2)]] := by
  refine sound_of Tryz.func25 rfl (by kernel_rfl) ?_
  simp [Tryz.ntmps25]
  refine retRd (rv := [.tmp 6]) rfl ?_
  have f1 := i_InRange.eq_1 a0 a1 a2
  simp [f1]
theorem i_isTime_ok (a0 : Int) : SoundAt Tryz.prog 63 false [[.int .i64 a0]] [[.bool (i_isTime a0)]] := by
  refine sound_of Tryz.func63 rfl (by kernel_rfl) ?_
  simp [Tryz.ntmps63]
  refine callRd rfl rfl rfl rfl (i_InRange_ok a0 0 10000) (by simp) (by simp) (by simp) ?_
  simp
  refine retRd (rv := [.tmp 2]) rfl ?_
  have f1 := i_isTime.eq_1 a0
  simp [f1]
theorem i_IsValidKey_ok (a0 : Int) : SoundAt Tryz.prog 127 false [[.int .i64 a0]] [[.bool (i_IsValidKey a0)]] := by
  refine sound_of Tryz.func127 rfl (by kernel_rfl) ?_
  simp [Tryz.ntmps127]
  refine callRd rfl rfl rfl rfl (i_InRange_ok a0 1 2147483646) (by simp) (by simp) (by simp) ?_
  simp
  refine retRd (rv := [.tmp 2]) rfl ?_
  have f1 := i_IsValidKey.eq_1 a0
  simp [f1]
theorem i_IsKey_ok (a0 : TKey) : SoundAt Tryz.prog 93 false [a0.row] [[.bool (i_IsKey a0)]] := by
  refine sound_of Tryz.func93 rfl (by kernel_rfl) ?_
  simp [Tryz.ntmps93]
  refine callRd rfl rfl rfl rfl (i_InRange_ok a0.Number 1 99) (by simp) (by simp) (by simp) ?_
  simp
  refine callG rfl rfl rfl rfl rfl rfl (fun _ => (i_InRange_ok a0.Owner 0 99)) (by simp) (by simp) (by simp) (by simp) ?_
  simp
  refine callG rfl rfl rfl rfl rfl rfl (fun _ => (i_InRange_ok a0.Method 0 99)) (by simp) (by simp) (by simp) (by simp) ?_
  simp
  refine callG rfl rfl rfl rfl rfl rfl (fun _ => (i_isTime_ok a0.Born)) (by simp) (by simp) (by simp) (by simp) ?_
  simp
  refine callG rfl rfl rfl rfl rfl rfl (fun _ => (i_IsValidKey_ok a0.Secret)) (by simp) (by simp) (by simp) (by simp) ?_
  simp
  refine retRd (rv := [.tmp 2]) rfl ?_
  have f1 := i_IsKey.eq_1 a0
  simp [f1]
theorem i_AreKeys_ok (a0 : List TKey) : SoundAt Tryz.prog 60 false [[.sl 5 (a0.map TKey.row)]] [[.bool (i_AreKeys a0)]] := by
  refine sound_of Tryz.func60 rfl (by kernel_rfl) ?_
  simp [Tryz.ntmps60]
  refine okL fun k1 => ?_
  refine loopI (ι := { s : Nat × Nat // i_AreKeys_1 a0 s.1 s.2 = i_AreKeys_1 a0 (a0.length + 1) 0 ∧ (1 ≤ s.1 ∧ a0.length < s.1 + s.2 ∧ s.2 ≤ a0.length) }) (fun s => stOf 34 [(0, .one (.d (.sl 5 (a0.map TKey.row))), []), (5, .one (.d (.sl 5 (a0.map TKey.row))), []), (6, .one (.d (.int .i64 (↑a0.length : Int))), []), (7, .one (.d (.int .i64 (↑s.1.2 : Int))), [])]) (fun s => s.1.1) ⟨((a0.length + 1), 0), rfl, by first | omega | (dsimp only; omega) | simp⟩ (wk_keep (by simp)) ?_
  rintro ⟨⟨n1, v1_0⟩, e1, j1⟩
  try dsimp only at e1 j1
  obtain ⟨p1, rfl⟩ : ∃ p, n1 = p + 1 := ⟨n1 - 1, by omega⟩
  simp
  refine condR (c := (decide ((↑v1_0 : Int) < (↑a0.length : Int)))) (by simp) (fun k2 h1 => ?_) (fun k2 h1 => ?_)
  · have q1 := h1; try simp at q1
    have i1 : v1_0 < a0.length := by simpa using h1
    have m2 : a0.length ≤ 9223372036854775807 := by simpa using k2 0 _ rfl
    have w1 : IntKind.i64.wrap ((v1_0 : Int) + 1) = (v1_0 : Int) + 1 := wrap_of (by omega) (by omega)
    simp [i1, rowAt_map]
    repeat ((with_reducible refine And.intro ?_ ?_); focus (intros; omega))
    refine okD fun k3 => ?_
    refine drawI mixed (by kernel_rfl) (by kernel_rfl) ?_
    simp
    refine callRd rfl rfl rfl rfl (i_IsKey_ok (nth a0 v1_0)) (by simp) (by simp) (by simp) ?_
    simp
    refine guardI rfl rfl rfl rfl rfl (by simp) (fun g1 => ?_) (fun g1 => ?_)
    · have g1x := g1; try simp only [beq_true, beq_false, Bool.not_eq_true', Bool.not_eq_false', Bool.true_and, Bool.and_true] at g1x
      try simp at g1
      have i2 : (v1_0 - 1) < a0.length := by omega
      have w2 : IntKind.i64.wrap ((v1_0 : Int) - 1) = (v1_0 : Int) - 1 := wrap_of (by omega) (by omega)
      simp [i2, rowAt_map, w2, toNat_pred, g1x]
      repeat ((with_reducible refine And.intro ?_ ?_); focus (intros; first | omega | (simp_all; done) | (simp_all; omega) | grind))
      refine condR (c := ((!(i_IsKey (nth a0 v1_0))) || ((decide ((↑v1_0 : Int) > 0)) && (decide ((nth a0 (v1_0 - 1)).Number ≥ (nth a0 v1_0).Number))))) (by first | (simp [g1x]; done) | grind) (fun k4 h2 => ?_) (fun k4 h2 => ?_)
      · try (have z := h2; simp [g1x] at z; done)
        all_goals
          have q2 := h2; try simp at q2
          have x1 : i_AreKeys_1 a0 (a0.length + 1) 0 = .inl false := by rw [← e1]; simp only [i_AreKeys_1, h1, h2, cond_true, cond_false]
          simp [g1x]
          repeat ((with_reducible refine And.intro ?_ ?_); focus (intros; first | omega | (simp_all; done) | (simp_all; omega) | grind))
          refine retRd (rv := [.tmp 2]) rfl ?_
          have f1 := i_AreKeys.eq_1 a0
          simp only [x1, cond_true, cond_false] at f1
          simp [f1, g1x]
      · try (have z := h2; simp [g1x] at z; done)
        all_goals
          have q2 := h2; try simp at q2
          simp [g1x]
          repeat ((with_reducible refine And.intro ?_ ?_); focus (intros; first | omega | (simp_all; done) | (simp_all; omega) | grind))
          refine nxtI ⟨(p1, (v1_0 + 1)), ?_, ?_⟩ (by simp) (wk_keep (by simp [w1, w2]))
          · rw [← e1]; simp only [i_AreKeys_1, h1, h2, cond_true, cond_false]
          · first | omega | (simp at *; omega)
    · have g1x := g1; try simp only [beq_true, beq_false, Bool.not_eq_true', Bool.not_eq_false', Bool.true_and, Bool.and_true] at g1x
      simp [g1x]
      repeat ((with_reducible refine And.intro ?_ ?_); focus (intros; first | omega | (simp_all; done) | (simp_all; omega) | grind))
      refine condR (c := ((!(i_IsKey (nth a0 v1_0))) || ((decide ((↑v1_0 : Int) > 0)) && (decide ((nth a0 (v1_0 - 1)).Number ≥ (nth a0 v1_0).Number))))) (by first | (simp [g1x]; done) | grind) (fun k5 h3 => ?_) (fun k5 h3 => ?_)
      · try (have z := h3; simp [g1x] at z; done)
        all_goals
          have q3 := h3; try simp at q3
          have x2 : i_AreKeys_1 a0 (a0.length + 1) 0 = .inl false := by rw [← e1]; simp only [i_AreKeys_1, h1, h3, cond_true, cond_false]
          simp [g1x]
          repeat ((with_reducible refine And.intro ?_ ?_); focus (intros; first | omega | (simp_all; done) | (simp_all; omega) | grind))
          refine retRd (rv := [.tmp 2]) rfl ?_
          have f2 := i_AreKeys.eq_1 a0
          simp only [x2, cond_true, cond_false] at f2
          simp [f2, g1x]
      · try (have z := h3; simp [g1x] at z; done)
        all_goals
          have q3 := h3; try simp at q3
          simp [g1x]
          repeat ((with_reducible refine And.intro ?_ ?_); focus (intros; first | omega | (simp_all; done) | (simp_all; omega) | grind))
          refine nxtI ⟨(p1, (v1_0 + 1)), ?_, ?_⟩ (by simp) (wk_keep (by simp [w1]))
          · rw [← e1]; simp only [i_AreKeys_1, h1, h3, cond_true, cond_false]
          · first | omega | (simp at *; omega)
  · have q1 := h1; try simp at q1
    have x3 : i_AreKeys_1 a0 (a0.length + 1) 0 = .inr () := by rw [← e1]; simp only [i_AreKeys_1, h1, cond_true, cond_false]
    simp
    refine retRd (rv := [.tmp 2]) rfl ?_
    have f3 := i_AreKeys.eq_1 a0
    simp only [x3, cond_true, cond_false] at f3
    simp [f3]
theorem i_AreAuthorities_ok (a0 : List TAuthority) : SoundAt Tryz.prog 61 false [[.sl 3 (a0.map TAuthority.row)]] [[.bool (i_AreAuthorities a0)]] := by
  refine sound_of Tryz.func61 rfl (by kernel_rfl) ?_
  simp [Tryz.ntmps61]
  refine okL fun k1 => ?_
  refine loopI (ι := { s : Nat × Nat // i_AreAuthorities_1 a0 s.1 s.2 = i_AreAuthorities_1 a0 (a0.length + 1) 0 ∧ (1 ≤ s.1 ∧ a0.length < s.1 + s.2 ∧ s.2 ≤ a0.length) }) (fun s => stOf 47 [(0, .one (.d (.sl 3 (a0.map TAuthority.row))), []), (5, .one (.d (.sl 3 (a0.map TAuthority.row))), []), (6, .one (.d (.int .i64 (↑a0.length : Int))), []), (7, .one (.d (.int .i64 (↑s.1.2 : Int))), [])]) (fun s => s.1.1) ⟨((a0.length + 1), 0), rfl, by first | omega | (dsimp only; omega) | simp⟩ (wk_keep (by simp)) ?_
  rintro ⟨⟨n1, v1_0⟩, e1, j1⟩
  try dsimp only at e1 j1
  obtain ⟨p1, rfl⟩ : ∃ p, n1 = p + 1 := ⟨n1 - 1, by omega⟩
  simp
  refine condR (c := (decide ((↑v1_0 : Int) < (↑a0.length : Int)))) (by simp) (fun k2 h1 => ?_) (fun k2 h1 => ?_)
  · have q1 := h1; try simp at q1
    have i1 : v1_0 < a0.length := by simpa using h1
    have m2 : a0.length ≤ 9223372036854775807 := by simpa using k2 0 _ rfl
    have w1 : IntKind.i64.wrap ((v1_0 : Int) + 1) = (v1_0 : Int) + 1 := wrap_of (by omega) (by omega)
    simp [i1, rowAt_map]
    repeat ((with_reducible refine And.intro ?_ ?_); focus (intros; omega))
    refine okD fun k3 => ?_
    refine drawI mixed (by kernel_rfl) (by kernel_rfl) ?_
    simp
    refine callRd rfl rfl rfl rfl (i_InRange_ok (nth a0 v1_0).Id 0 99) (by simp) (by simp) (by simp) ?_
    simp
    refine callG rfl rfl rfl rfl rfl rfl (fun _ => (i_InRange_ok (nth a0 v1_0).Key 1 99)) (by simp) (by simp) (by simp) (by simp) ?_
    simp
    refine callG rfl rfl rfl rfl rfl rfl (fun _ => (i_InRange_ok (nth a0 v1_0).Error 0 100)) (by simp) (by simp) (by simp) (by simp) ?_
    simp
    refine guardI rfl rfl rfl rfl rfl (by simp) (fun g1 => ?_) (fun g1 => ?_)
    · have g1x := g1; try simp only [beq_true, beq_false, Bool.not_eq_true', Bool.not_eq_false', Bool.true_and, Bool.and_true] at g1x
      try simp at g1
      have i2 : (v1_0 - 1) < a0.length := by omega
      have w2 : IntKind.i64.wrap ((v1_0 : Int) - 1) = (v1_0 : Int) - 1 := wrap_of (by omega) (by omega)
      simp [i2, rowAt_map, w2, toNat_pred, g1x]
      repeat ((with_reducible refine And.intro ?_ ?_); focus (intros; first | omega | (simp_all; done) | (simp_all; omega) | grind))
      refine condR (c := ((((!(i_InRange (nth a0 v1_0).Id 0 99)) || (!(i_InRange (nth a0 v1_0).Key 1 99))) || (!(i_InRange (nth a0 v1_0).Error 0 100))) || ((decide ((↑v1_0 : Int) > 0)) && (decide ((nth a0 (v1_0 - 1)).Id ≥ (nth a0 v1_0).Id))))) (by first | (simp [g1x]; done) | grind) (fun k4 h2 => ?_) (fun k4 h2 => ?_)
      · try (have z := h2; simp [g1x] at z; done)
        all_goals
          have q2 := h2; try simp [i_InRange] at q2
          have x1 : i_AreAuthorities_1 a0 (a0.length + 1) 0 = .inl false := by rw [← e1]; simp only [i_AreAuthorities_1, h1, h2, cond_true, cond_false]
          simp [g1x]
          repeat ((with_reducible refine And.intro ?_ ?_); focus (intros; first | omega | (simp_all; done) | (simp_all; omega) | grind))
          refine retRd (rv := [.tmp 2]) rfl ?_
          have f1 := i_AreAuthorities.eq_1 a0
          simp only [x1, cond_true, cond_false] at f1
          simp [f1, g1x]
      · try (have z := h2; simp [g1x] at z; done)
        all_goals
          have q2 := h2; try simp [i_InRange] at q2
          simp [g1x]
          repeat ((with_reducible refine And.intro ?_ ?_); focus (intros; first | omega | (simp_all; done) | (simp_all; omega) | grind))
          refine nxtI ⟨(p1, (v1_0 + 1)), ?_, ?_⟩ (by simp) (wk_keep (by simp [w1, w2]))
          · rw [← e1]; simp only [i_AreAuthorities_1, h1, h2, cond_true, cond_false]
          · first | omega | (simp at *; omega)
    · have g1x := g1; try simp only [beq_true, beq_false, Bool.not_eq_true', Bool.not_eq_false', Bool.true_and, Bool.and_true] at g1x
      simp [g1x]
      repeat ((with_reducible refine And.intro ?_ ?_); focus (intros; first | omega | (simp_all; done) | (simp_all; omega) | grind))
      refine condR (c := ((((!(i_InRange (nth a0 v1_0).Id 0 99)) || (!(i_InRange (nth a0 v1_0).Key 1 99))) || (!(i_InRange (nth a0 v1_0).Error 0 100))) || ((decide ((↑v1_0 : Int) > 0)) && (decide ((nth a0 (v1_0 - 1)).Id ≥ (nth a0 v1_0).Id))))) (by first | (simp [g1x]; done) | grind) (fun k5 h3 => ?_) (fun k5 h3 => ?_)
      · try (have z := h3; simp [g1x] at z; done)
        all_goals
          have q3 := h3; try simp [i_InRange] at q3
          have x2 : i_AreAuthorities_1 a0 (a0.length + 1) 0 = .inl false := by rw [← e1]; simp only [i_AreAuthorities_1, h1, h3, cond_true, cond_false]
          simp [g1x]
          repeat ((with_reducible refine And.intro ?_ ?_); focus (intros; first | omega | (simp_all; done) | (simp_all; omega) | grind))
          refine retRd (rv := [.tmp 2]) rfl ?_
          have f2 := i_AreAuthorities.eq_1 a0
          simp only [x2, cond_true, cond_false] at f2
          simp [f2, g1x]
      · try (have z := h3; simp [g1x] at z; done)
        all_goals
          have q3 := h3; try simp [i_InRange] at q3
          simp [g1x]
          repeat ((with_reducible refine And.intro ?_ ?_); focus (intros; first | omega | (simp_all; done) | (simp_all; omega) | grind))
          refine nxtI ⟨(p1, (v1_0 + 1)), ?_, ?_⟩ (by simp) (wk_keep (by simp [w1]))
          · rw [← e1]; simp only [i_AreAuthorities_1, h1, h3, cond_true, cond_false]
          · first | omega | (simp at *; omega)
  · have q1 := h1; try simp at q1
    have x3 : i_AreAuthorities_1 a0 (a0.length + 1) 0 = .inr () := by rw [← e1]; simp only [i_AreAuthorities_1, h1, cond_true, cond_false]
    simp
    refine retRd (rv := [.tmp 2]) rfl ?_
    have f3 := i_AreAuthorities.eq_1 a0
    simp only [x3, cond_true, cond_false] at f3
    simp [f3]
theorem i_IsMethod_ok (a0 : TMethod) : SoundAt Tryz.prog 94 false [a0.row] [[.bool (i_IsMethod a0)]] := by
  refine sound_of Tryz.func94 rfl (by kernel_rfl) ?_
  simp [Tryz.ntmps94]
  refine callRd rfl rfl rfl rfl (i_InRange_ok a0.Id 0 99) (by simp) (by simp) (by simp) ?_
  simp
  refine callG rfl rfl rfl rfl rfl rfl (fun _ => (i_isTime_ok a0.Known)) (by simp) (by simp) (by simp) (by simp) ?_
  simp
  refine callG rfl rfl rfl rfl rfl rfl (fun _ => (i_InRange_ok a0.Ends 1 10001)) (by simp) (by simp) (by simp) (by simp) ?_
  simp
  refine callG rfl rfl rfl rfl rfl rfl (fun _ => (i_InRange_ok a0.Broken 1 10001)) (by simp) (by simp) (by simp) (by simp) ?_
  simp
  refine retRd (rv := [.tmp 2]) rfl ?_
  have f1 := i_IsMethod.eq_1 a0
  simp [f1]
theorem i_AreMethods_ok (a0 : List TMethod) : SoundAt Tryz.prog 62 false [[.sl 4 (a0.map TMethod.row)]] [[.bool (i_AreMethods a0)]] := by
  refine sound_of Tryz.func62 rfl (by kernel_rfl) ?_
  simp [Tryz.ntmps62]
  refine okL fun k1 => ?_
  refine loopI (ι := { s : Nat × Nat // i_AreMethods_1 a0 s.1 s.2 = i_AreMethods_1 a0 (a0.length + 1) 0 ∧ (1 ≤ s.1 ∧ a0.length < s.1 + s.2 ∧ s.2 ≤ a0.length) }) (fun s => stOf 34 [(0, .one (.d (.sl 4 (a0.map TMethod.row))), []), (5, .one (.d (.sl 4 (a0.map TMethod.row))), []), (6, .one (.d (.int .i64 (↑a0.length : Int))), []), (7, .one (.d (.int .i64 (↑s.1.2 : Int))), [])]) (fun s => s.1.1) ⟨((a0.length + 1), 0), rfl, by first | omega | (dsimp only; omega) | simp⟩ (wk_keep (by simp)) ?_
  rintro ⟨⟨n1, v1_0⟩, e1, j1⟩
  try dsimp only at e1 j1
  obtain ⟨p1, rfl⟩ : ∃ p, n1 = p + 1 := ⟨n1 - 1, by omega⟩
  simp
  refine condR (c := (decide ((↑v1_0 : Int) < (↑a0.length : Int)))) (by simp) (fun k2 h1 => ?_) (fun k2 h1 => ?_)
  · have q1 := h1; try simp at q1
    have i1 : v1_0 < a0.length := by simpa using h1
    have m2 : a0.length ≤ 9223372036854775807 := by simpa using k2 0 _ rfl
    have w1 : IntKind.i64.wrap ((v1_0 : Int) + 1) = (v1_0 : Int) + 1 := wrap_of (by omega) (by omega)
    simp [i1, rowAt_map]
    repeat ((with_reducible refine And.intro ?_ ?_); focus (intros; omega))
    refine okD fun k3 => ?_
    refine drawI mixed (by kernel_rfl) (by kernel_rfl) ?_
    simp
    refine callRd rfl rfl rfl rfl (i_IsMethod_ok (nth a0 v1_0)) (by simp) (by simp) (by simp) ?_
    simp
    refine guardI rfl rfl rfl rfl rfl (by simp) (fun g1 => ?_) (fun g1 => ?_)
    · have g1x := g1; try simp only [beq_true, beq_false, Bool.not_eq_true', Bool.not_eq_false', Bool.true_and, Bool.and_true] at g1x
      try simp at g1
      have i2 : (v1_0 - 1) < a0.length := by omega
      have w2 : IntKind.i64.wrap ((v1_0 : Int) - 1) = (v1_0 : Int) - 1 := wrap_of (by omega) (by omega)
      simp [i2, rowAt_map, w2, toNat_pred, g1x]
      repeat ((with_reducible refine And.intro ?_ ?_); focus (intros; first | omega | (simp_all; done) | (simp_all; omega) | grind))
      refine condR (c := ((!(i_IsMethod (nth a0 v1_0))) || ((decide ((↑v1_0 : Int) > 0)) && (decide ((nth a0 (v1_0 - 1)).Id ≥ (nth a0 v1_0).Id))))) (by first | (simp [g1x]; done) | grind) (fun k4 h2 => ?_) (fun k4 h2 => ?_)
      · try (have z := h2; simp [g1x] at z; done)
        all_goals
          have q2 := h2; try simp at q2
          have x1 : i_AreMethods_1 a0 (a0.length + 1) 0 = .inl false := by rw [← e1]; simp only [i_AreMethods_1, h1, h2, cond_true, cond_false]
          simp [g1x]
          repeat ((with_reducible refine And.intro ?_ ?_); focus (intros; first | omega | (simp_all; done) | (simp_all; omega) | grind))
          refine retRd (rv := [.tmp 2]) rfl ?_
          have f1 := i_AreMethods.eq_1 a0
          simp only [x1, cond_true, cond_false] at f1
          simp [f1, g1x]
      · try (have z := h2; simp [g1x] at z; done)
        all_goals
          have q2 := h2; try simp at q2
          simp [g1x]
          repeat ((with_reducible refine And.intro ?_ ?_); focus (intros; first | omega | (simp_all; done) | (simp_all; omega) | grind))
          refine nxtI ⟨(p1, (v1_0 + 1)), ?_, ?_⟩ (by simp) (wk_keep (by simp [w1, w2]))
          · rw [← e1]; simp only [i_AreMethods_1, h1, h2, cond_true, cond_false]
          · first | omega | (simp at *; omega)
    · have g1x := g1; try simp only [beq_true, beq_false, Bool.not_eq_true', Bool.not_eq_false', Bool.true_and, Bool.and_true] at g1x
      simp [g1x]
      repeat ((with_reducible refine And.intro ?_ ?_); focus (intros; first | omega | (simp_all; done) | (simp_all; omega) | grind))
      refine condR (c := ((!(i_IsMethod (nth a0 v1_0))) || ((decide ((↑v1_0 : Int) > 0)) && (decide ((nth a0 (v1_0 - 1)).Id ≥ (nth a0 v1_0).Id))))) (by first | (simp [g1x]; done) | grind) (fun k5 h3 => ?_) (fun k5 h3 => ?_)
      · try (have z := h3; simp [g1x] at z; done)
        all_goals
          have q3 := h3; try simp at q3
          have x2 : i_AreMethods_1 a0 (a0.length + 1) 0 = .inl false := by rw [← e1]; simp only [i_AreMethods_1, h1, h3, cond_true, cond_false]
          simp [g1x]
          repeat ((with_reducible refine And.intro ?_ ?_); focus (intros; first | omega | (simp_all; done) | (simp_all; omega) | grind))
          refine retRd (rv := [.tmp 2]) rfl ?_
          have f2 := i_AreMethods.eq_1 a0
          simp only [x2, cond_true, cond_false] at f2
          simp [f2, g1x]
      · try (have z := h3; simp [g1x] at z; done)
        all_goals
          have q3 := h3; try simp at q3
          simp [g1x]
          repeat ((with_reducible refine And.intro ?_ ?_); focus (intros; first | omega | (simp_all; done) | (simp_all; omega) | grind))
          refine nxtI ⟨(p1, (v1_0 + 1)), ?_, ?_⟩ (by simp) (wk_keep (by simp [w1]))
          · rw [← e1]; simp only [i_AreMethods_1, h1, h3, cond_true, cond_false]
          · first | omega | (simp at *; omega)
  · have q1 := h1; try simp at q1
    have x3 : i_AreMethods_1 a0 (a0.length + 1) 0 = .inr () := by rw [← e1]; simp only [i_AreMethods_1, h1, cond_true, cond_false]
    simp
    refine retRd (rv := [.tmp 2]) rfl ?_
    have f3 := i_AreMethods.eq_1 a0
    simp only [x3, cond_true, cond_false] at f3
    simp [f3]
theorem i_IsFrame_ok (a0 : TFrame) : SoundAt Tryz.prog 24 false [a0.row] [[.bool (i_IsFrame a0)]] := by
  refine sound_of Tryz.func24 rfl (by kernel_rfl) ?_
  simp [Tryz.ntmps24]
  refine callRd rfl rfl rfl rfl (i_AreKeys_ok a0.Keys) (by simp) (by simp) (by simp) ?_
  simp
  refine callG rfl rfl rfl rfl rfl rfl (fun _ => (i_AreAuthorities_ok a0.Authorities)) (by simp) (by simp) (by simp) (by simp) ?_
  simp
  refine callG rfl rfl rfl rfl rfl rfl (fun _ => (i_AreMethods_ok a0.Methods)) (by simp) (by simp) (by simp) (by simp) ?_
  simp
  refine callG rfl rfl rfl rfl rfl rfl (fun _ => (i_InRange_ok a0.Liars 0 6)) (by simp) (by simp) (by simp) (by simp) ?_
  simp
  refine callG rfl rfl rfl rfl rfl rfl (fun _ => (i_isTime_ok a0.Now)) (by simp) (by simp) (by simp) (by simp) ?_
  simp
  refine retRd (rv := [.tmp 2]) rfl ?_
  have f1 := i_IsFrame.eq_1 a0
  simp [f1]
theorem i_areRising_ok (a0 : List Int) : SoundAt Tryz.prog 26 false [[.sl 1 (a0.map iR)]] [[.bool (i_areRising a0)]] := by
  refine sound_of Tryz.func26 rfl (by kernel_rfl) ?_
  simp [Tryz.ntmps26]
  refine okL fun k1 => ?_
  refine loopI (ι := { s : Nat × Nat // i_areRising_1 a0 s.1 s.2 = i_areRising_1 a0 (a0.length + 1) 1 ∧ (1 ≤ s.1 ∧ a0.length < s.1 + s.2 ∧ 1 ≤ s.2) }) (fun s => stOf 20 [(0, .one (.d (.sl 1 (a0.map iR))), []), (3, .one (.d (.int .i64 (↑s.1.2 : Int))), [])]) (fun s => s.1.1) ⟨((a0.length + 1), 1), rfl, by first | omega | (dsimp only; omega) | simp⟩ (wk_keep (by simp)) ?_
  rintro ⟨⟨n1, v1_0⟩, e1, j1⟩
  try dsimp only at e1 j1
  obtain ⟨p1, rfl⟩ : ∃ p, n1 = p + 1 := ⟨n1 - 1, by omega⟩
  simp
  refine condR (c := (decide ((↑v1_0 : Int) < (↑a0.length : Int)))) (by simp) (fun k2 h1 => ?_) (fun k2 h1 => ?_)
  · have q1 := h1; try simp at q1
    have i1 : v1_0 < a0.length := by simpa using h1
    have m2 : a0.length ≤ 9223372036854775807 := by simpa using k2 0 _ rfl
    have w1 : IntKind.i64.wrap ((v1_0 : Int) + 1) = (v1_0 : Int) + 1 := wrap_of (by omega) (by omega)
    simp
    refine okD fun k3 => ?_
    refine drawI mixed (by kernel_rfl) (by kernel_rfl) ?_
    have i2 : (v1_0 - 1) < a0.length := by omega
    have w2 : IntKind.i64.wrap ((v1_0 : Int) - 1) = (v1_0 : Int) - 1 := wrap_of (by omega) (by omega)
    simp [i2, rowAt_map, w2, toNat_pred, i1]
    repeat ((with_reducible refine And.intro ?_ ?_); focus (intros; omega))
    refine condR (c := (decide ((nth a0 (v1_0 - 1)) ≥ (nth a0 v1_0)))) (by simp) (fun k4 h2 => ?_) (fun k4 h2 => ?_)
    · have q2 := h2; try simp at q2
      have x1 : i_areRising_1 a0 (a0.length + 1) 1 = .inl false := by rw [← e1]; simp only [i_areRising_1, h1, h2, cond_true, cond_false]
      simp
      refine retRd (rv := [.tmp 2]) rfl ?_
      have f1 := i_areRising.eq_1 a0
      simp only [x1, cond_true, cond_false] at f1
      simp [f1]
    · have q2 := h2; try simp at q2
      simp
      refine nxtI ⟨(p1, (v1_0 + 1)), ?_, ?_⟩ (by simp) (wk_keep (by simp [w1, w2]))
      · rw [← e1]; simp only [i_areRising_1, h1, h2, cond_true, cond_false]
      · first | omega | (simp at *; omega)
  · have q1 := h1; try simp at q1
    have x2 : i_areRising_1 a0 (a0.length + 1) 1 = .inr () := by rw [← e1]; simp only [i_areRising_1, h1, cond_true, cond_false]
    simp
    refine retRd (rv := [.tmp 2]) rfl ?_
    have f2 := i_areRising.eq_1 a0
    simp only [x2, cond_true, cond_false] at f2
    simp [f2]
theorem i_CertSpan_ok (a0 : TCert) : SoundAt Tryz.prog 96 false [a0.row] [(i_CertSpan a0).row] := by
  refine sound_of Tryz.func96 rfl (by kernel_rfl) ?_
  simp [Tryz.ntmps96]
  refine retRd (rv := [.cell 2 140]) rfl ?_
  have f1 := i_CertSpan.eq_1 a0
  simp [f1]
theorem i_IsSpan_ok (a0 : TSpan) : SoundAt Tryz.prog 95 false [a0.row] [[.bool (i_IsSpan a0)]] := by
  refine sound_of Tryz.func95 rfl (by kernel_rfl) ?_
  simp [Tryz.ntmps95]
  refine callRd rfl rfl rfl rfl (i_isTime_ok a0.From) (by simp) (by simp) (by simp) ?_
  simp
  refine callG rfl rfl rfl rfl rfl rfl (fun _ => (i_isTime_ok a0.To)) (by simp) (by simp) (by simp) (by simp) ?_
  simp
  refine retRd (rv := [.tmp 2]) rfl ?_
  have f1 := i_IsSpan.eq_1 a0
  simp [f1]
theorem i_IsCert_ok (a0 : TCert) : SoundAt Tryz.prog 64 false [a0.row] [[.bool (i_IsCert a0)]] := by
  refine sound_of Tryz.func64 rfl (by kernel_rfl) ?_
  simp [Tryz.ntmps64]
  refine callRd rfl rfl rfl rfl (i_InRange_ok a0.Serial 1 999) (by simp) (by simp) (by simp) ?_
  simp
  refine callG rfl rfl rfl rfl rfl rfl (fun _ => (i_InRange_ok a0.Key 1 99)) (by simp) (by simp) (by simp) (by simp) ?_
  simp
  refine callG rfl rfl rfl rfl rfl rfl (fun _ => (i_InRange_ok a0.Issuer 1 99)) (by simp) (by simp) (by simp) (by simp) ?_
  simp
  refine callG rfl rfl rfl rfl rfl rfl (fun _ => (i_InRange_ok a0.Owner 0 99)) (by simp) (by simp) (by simp) (by simp) ?_
  simp
  refine callG rfl rfl rfl rfl rfl rfl (fun _ => (i_CertSpan_ok a0)) (by simp) (by simp) (by simp) (by simp) ?_
  simp
  refine callG rfl rfl rfl rfl rfl rfl (fun _ => (i_IsSpan_ok (i_CertSpan a0))) (by simp) (by simp) (by simp) (by simp) ?_
  simp
  refine retRd (rv := [.tmp 2]) rfl ?_
  have f1 := i_IsCert.eq_1 a0
  simp [f1]
theorem i_CertInts_ok (a0 : TCert) : SoundAt Tryz.prog 66 true [a0.row] [[.sl 1 ((i_CertInts a0).map iR)]] := by
  refine sound_of Tryz.func66 rfl (by kernel_rfl) ?_
  simp [Tryz.ntmps66]
  refine retOwn (rv := [.tmp 2]) rfl ?_
  have f1 := i_CertInts.eq_1 a0
  simp [f1]
theorem i_FindKey_ok (a0 : List TKey) (a1 : Int) : SoundAt Tryz.prog 98 false [[.sl 5 (a0.map TKey.row)], [.int .i64 a1]] [[.int .i64 (i_FindKey a0 a1)]] := by
  refine sound_of Tryz.func98 rfl (by kernel_rfl) ?_
  simp [Tryz.ntmps98]
  refine okL fun k1 => ?_
  refine loopI (ι := { s : Nat × Nat // i_FindKey_1 a0 a1 s.1 s.2 = i_FindKey_1 a0 a1 (a0.length + 1) 0 ∧ (1 ≤ s.1 ∧ a0.length < s.1 + s.2 ∧ s.2 ≤ a0.length) }) (fun s => stOf 20 [(1, .one (.d (.int .i64 a1)), []), (7, .one (.d (.sl 5 (a0.map TKey.row))), []), (8, .one (.d (.int .i64 (↑a0.length : Int))), []), (9, .one (.d (.int .i64 (↑s.1.2 : Int))), [])]) (fun s => s.1.1) ⟨((a0.length + 1), 0), rfl, by first | omega | (dsimp only; omega) | simp⟩ (wk_keep (by simp)) ?_
  rintro ⟨⟨n1, v1_0⟩, e1, j1⟩
  try dsimp only at e1 j1
  obtain ⟨p1, rfl⟩ : ∃ p, n1 = p + 1 := ⟨n1 - 1, by omega⟩
  simp
  refine condR (c := (decide ((↑v1_0 : Int) < (↑a0.length : Int)))) (by simp) (fun k2 h1 => ?_) (fun k2 h1 => ?_)
  · have q1 := h1; try simp at q1
    have i1 : v1_0 < a0.length := by simpa using h1
    have m2 : a0.length ≤ 9223372036854775807 := by simpa using k2 7 _ rfl
    have w1 : IntKind.i64.wrap ((v1_0 : Int) + 1) = (v1_0 : Int) + 1 := wrap_of (by omega) (by omega)
    simp [i1, rowAt_map]
    repeat ((with_reducible refine And.intro ?_ ?_); focus (intros; omega))
    refine condR (c := ((nth a0 v1_0).Number == a1)) (by simp) (fun k3 h2 => ?_) (fun k3 h2 => ?_)
    · have q2 := h2; try simp at q2
      have x1 : i_FindKey_1 a0 a1 (a0.length + 1) 0 = .inl (↑v1_0 : Int) := by rw [← e1]; simp only [i_FindKey_1, h1, h2, cond_true, cond_false]
      simp
      refine retRd (rv := [.tmp 4]) rfl ?_
      have f1 := i_FindKey.eq_1 a0 a1
      simp only [x1, cond_true, cond_false] at f1
      simp [f1]
    · have q2 := h2; try simp at q2
      simp
      refine nxtI ⟨(p1, (v1_0 + 1)), ?_, ?_⟩ (by simp) (wk_keep (by simp [w1]))
      · rw [← e1]; simp only [i_FindKey_1, h1, h2, cond_true, cond_false]
      · first | omega | (simp at *; omega)
  · have q1 := h1; try simp at q1
    have x2 : i_FindKey_1 a0 a1 (a0.length + 1) 0 = .inr () := by rw [← e1]; simp only [i_FindKey_1, h1, cond_true, cond_false]
    simp
    refine retRd (rv := [.tmp 4]) rfl ?_
    have f2 := i_FindKey.eq_1 a0 a1
    simp only [x2, cond_true, cond_false] at f2
    simp [f2]
theorem i_Mod_ok (a0 : Int) (a1 : Int) : SoundAt Tryz.prog 175 false [[.int .i64 a0], [.int .i64 a1]] [[.int .i64 (i_Mod a0 a1)]] := by
  refine sound_of Tryz.func175 rfl (by kernel_rfl) ?_
  simp [Tryz.ntmps175]
  refine callRd rfl rfl rfl rfl (i_InRange_ok a1 1 1000000000000) (by simp) (by simp) (by simp) ?_
  simp
  refine condR (c := (!(i_InRange a1 1 1000000000000))) (by simp) (fun k1 h1 => ?_) (fun k1 h1 => ?_)
  · have q1 := h1; try simp [i_InRange] at q1
    simp
    refine retRd (rv := [.tmp 4]) rfl ?_
    have f1 := i_Mod.eq_1 a0 a1
    simp only [h1, cond_true, cond_false] at f1
    simp [f1]
  · have q1 := h1; try simp [i_InRange] at q1
    simp
    repeat ((with_reducible refine And.intro ?_ ?_); focus (intros; omega))
    refine retRd (rv := [.tmp 4]) rfl ?_
    have f2 := i_Mod.eq_1 a0 a1
    simp only [h1, cond_true, cond_false] at f2
    simp [f2]
theorem i_Hash_ok (a0 : List Int) : SoundAt Tryz.prog 146 false [[.sl 1 (a0.map iR)]] [[.int .i64 (i_Hash a0)]] := by
  refine sound_of Tryz.func146 rfl (by kernel_rfl) ?_
  simp [Tryz.ntmps146]
  refine okL fun k1 => ?_
  refine loopI (ι := { s : Nat × Int × Nat // i_Hash_1 a0 s.1 s.2.1 s.2.2 = i_Hash_1 a0 (a0.length + 1) 11 0 ∧ (1 ≤ s.1 ∧ a0.length < s.1 + s.2.2 ∧ s.2.2 ≤ a0.length) }) (fun s => stOf 21 [(3, .one (.d (.int .i64 s.1.2.1)), []), (6, .one (.d (.sl 1 (a0.map iR))), []), (7, .one (.d (.int .i64 (↑a0.length : Int))), []), (8, .one (.d (.int .i64 (↑s.1.2.2 : Int))), [])]) (fun s => s.1.1) ⟨((a0.length + 1), 11, 0), rfl, by first | omega | (dsimp only; omega) | simp⟩ (wk_keep (by simp)) ?_
  rintro ⟨⟨n1, v1_0, v1_1⟩, e1, j1⟩
  try dsimp only at e1 j1
  obtain ⟨p1, rfl⟩ : ∃ p, n1 = p + 1 := ⟨n1 - 1, by omega⟩
  simp
  refine condR (c := (decide ((↑v1_1 : Int) < (↑a0.length : Int)))) (by simp) (fun k2 h1 => ?_) (fun k2 h1 => ?_)
  · have q1 := h1; try simp at q1
    have i1 : v1_1 < a0.length := by simpa using h1
    have m2 : a0.length ≤ 9223372036854775807 := by simpa using k2 6 _ rfl
    have w1 : IntKind.i64.wrap ((v1_1 : Int) + 1) = (v1_1 : Int) + 1 := wrap_of (by omega) (by omega)
    simp [i1, rowAt_map]
    repeat ((with_reducible refine And.intro ?_ ?_); focus (intros; omega))
    refine callRd rfl rfl rfl rfl (i_Mod_ok (nth a0 v1_1) 2147483647) (by simp) (by simp) (by simp) ?_
    simp
    refine nxtI ⟨(p1, (Int.tmod (W ((W ((W (v1_0 * 1000003)) + (i_Mod (nth a0 v1_1) 2147483647))) + 13)) 2147483647), (v1_1 + 1)), ?_, ?_⟩ (by simp) (wk_keep (by simp [w1]))
    · rw [← e1]; simp only [i_Hash_1, h1, cond_true, cond_false]
    · first | omega | (simp at *; omega)
  · have q1 := h1; try simp at q1
    have x1 : i_Hash_1 a0 (a0.length + 1) 11 0 = v1_0 := by rw [← e1]; simp only [i_Hash_1, h1, cond_true, cond_false]
    simp
    refine retRd (rv := [.tmp 2]) rfl ?_
    have f1 := i_Hash.eq_1 a0
    simp only [x1, cond_true, cond_false] at f1
    simp [f1]
theorem i_KeyedHash_ok (a0 : Int) (a1 : List Int) (u0 : Sm 2330624 a1) : SoundAt Tryz.prog 156 false [[.int .i64 a0], [.sl 1 (a1.map iR)]] [[.int .i64 (i_KeyedHash a0 a1)]] := by
  refine sound_of Tryz.func156 rfl (by kernel_rfl) ?_
  have c1 : a1.length ≤ 2330624 := sm_len (by simp (maxDischargeDepth := 12) [u0])
  simp [Tryz.ntmps156]
  repeat ((with_reducible refine And.intro ?_ ?_); focus (intros; omega))
  refine callRd rfl rfl rfl rfl (i_Hash_ok ((([a0] : List Int) ++ a1) ++ ([a0] : List Int))) (by simp) (by simp) (by simp) ?_
  simp
  refine retRd (rv := [.tmp 4]) rfl ?_
  have f1 := i_KeyedHash.eq_1 a0 a1
  simp [f1]
theorem i_MarkWith_ok (a0 : TKey) (a1 : List Int) (u0 : Sm 2326528 a1) : SoundAt Tryz.prog 128 false [a0.row, [.sl 1 (a1.map iR)]] [[.int .i64 (i_MarkWith a0 a1)]] := by
  refine sound_of Tryz.func128 rfl (by kernel_rfl) ?_
  simp [Tryz.ntmps128]
  refine okD fun k1 => ?_
  refine drawP [2, 3, 4, 5, 6, 0, 1, 7, 8] mixed (by kernel_rfl) (by kernel_rfl) (by kernel_rfl) ?_
  have c1 : a1.length ≤ 2326528 := sm_len (by simp (maxDischargeDepth := 12) [u0])
  simp
  repeat ((with_reducible refine And.intro ?_ ?_); focus (intros; omega))
  refine callRd rfl rfl rfl rfl (i_KeyedHash_ok a0.Secret (([a0.Method] : List Int) ++ a1) (by simp (maxDischargeDepth := 12) [sm_append, sm_list, sm_mono (m := 2330624) (by decide) u0]; try omega)) (by simp) (by simp) (by simp) ?_
  simp
  refine retRd (rv := [.tmp 4]) rfl ?_
  have f1 := i_MarkWith.eq_1 a0 a1
  simp [f1]
theorem i_markBy_ok (a0 : List TKey) (a1 : Int) (a2 : List Int) (u0 : Sm 2322432 a0) (u1 : Sm 2322432 a2) : SoundAt Tryz.prog 97 false [[.sl 5 (a0.map TKey.row)], [.int .i64 a1], [.sl 1 (a2.map iR)]] [[.int .i64 (i_markBy a0 a1 a2).1], [.bool (i_markBy a0 a1 a2).2]] := by
  refine sound_of Tryz.func97 rfl (by kernel_rfl) ?_
  simp [Tryz.ntmps97]
  refine callRd rfl rfl rfl rfl (i_FindKey_ok a0 a1) (by simp) (by simp) (by simp) ?_
  simp
  refine condR (c := (decide ((i_FindKey a0 a1) < 0))) (by simp) (fun k1 h1 => ?_) (fun k1 h1 => ?_)
  · have q1 := h1; try simp at q1
    simp
    refine retRd (rv := [.tmp 6, .tmp 7]) rfl ?_
    have f1 := i_markBy.eq_1 a0 a1 a2
    simp only [h1, cond_true, cond_false] at f1
    simp [f1]
  · have q1 := h1; try simp at q1
    have i1 : (i_FindKey a0 a1).toNat < a0.length := by have := i_FindKey_lt a0 a1; omega
    simp [i1, rowAt_map]
    repeat ((with_reducible refine And.intro ?_ ?_); focus (intros; omega))
    refine callRd rfl rfl rfl rfl (i_MarkWith_ok (nth a0 (i_FindKey a0 a1).toNat) a2 (sm_mono (n := 2322432) (by decide) (by simp (maxDischargeDepth := 12) [u0, u1]))) (by simp) (by simp) (by simp) ?_
    simp
    refine retRd (rv := [.tmp 6, .tmp 7]) rfl ?_
    have f2 := i_markBy.eq_1 a0 a1 a2
    simp only [h1, cond_true, cond_false] at f2
    simp [f2]
theorem i_CheckMark_ok (a0 : List TKey) (a1 : Int) (a2 : List Int) (a3 : Int) (u0 : Sm 2318336 a0) (u1 : Sm 2318336 a2) : SoundAt Tryz.prog 65 false [[.sl 5 (a0.map TKey.row)], [.int .i64 a1], [.sl 1 (a2.map iR)], [.int .i64 a3]] [[.bool (i_CheckMark a0 a1 a2 a3)]] := by
  refine sound_of Tryz.func65 rfl (by kernel_rfl) ?_
  simp [Tryz.ntmps65]
  refine callRd rfl rfl rfl rfl (i_markBy_ok a0 a1 a2 (sm_mono (n := 2318336) (by decide) (by simp (maxDischargeDepth := 12) [u0, u1])) (sm_mono (n := 2318336) (by decide) (by simp (maxDischargeDepth := 12) [u0, u1]))) (by simp) (by simp) (by simp) ?_
  simp
  refine retRd (rv := [.tmp 8]) rfl ?_
  have f1 := i_CheckMark.eq_1 a0 a1 a2 a3
  simp [f1]
end Go.Proofs.YtdbemnnipjknfaaGreat
