/- Contracts of the functions over the abstract machine, part 1. No condition. -/
import Derived.Test.YtllfgbhplfhdkaaL
import Derived.Test.YtllfgbhplfhdkaaTy
namespace Go.Proofs.Ytllfgbhplfhdkaa
open Go.Vm Go.Mo
set_option maxHeartbeats 1000000
set_option maxRecDepth 100000
set_option linter.unusedSimpArgs false
set_option linter.unusedVariables false
theorem mixed : Try.prog.follows .mixedOrders = true := by kernel_rfl
theorem l_szKeyS_ok (a0 : List TKey) (a1 : Int) : SoundAt Try.prog 23 false [[.sl 5 (a0.map TKey.row)], [.int .i64 a1]] [[.int .i64 (l_szKeyS a0 a1)]] := by
  refine sound_of Try.func23 rfl (by kernel_rfl) ?_
  simp [Try.ntmps23]
  refine condR (c := (decide ((W (a1 - (↑a0.length : Int))) < 0))) (by simp) (fun k1 h1 => ?_) (fun k1 h1 => ?_)
  · have q1 := h1; try simp at q1
    simp
    refine retRd (rv := [.tmp 4]) rfl ?_
    have f1 := l_szKeyS.eq_1 a0 a1
    simp only [h1, cond_true, cond_false] at f1
    simp [f1]
  · have q1 := h1; try simp at q1
    simp
    refine retRd (rv := [.tmp 4]) rfl ?_
    have f2 := l_szKeyS.eq_1 a0 a1
    simp only [h1, cond_true, cond_false] at f2
    simp [f2]
theorem l_szAuthorityS_ok (a0 : List TAuthority) (a1 : Int) : SoundAt Try.prog 24 false [[.sl 3 (a0.map TAuthority.row)], [.int .i64 a1]] [[.int .i64 (l_szAuthorityS a0 a1)]] := by
  refine sound_of Try.func24 rfl (by kernel_rfl) ?_
  simp [Try.ntmps24]
  refine condR (c := (decide ((W (a1 - (↑a0.length : Int))) < 0))) (by simp) (fun k1 h1 => ?_) (fun k1 h1 => ?_)
  · have q1 := h1; try simp at q1
    simp
    refine retRd (rv := [.tmp 4]) rfl ?_
    have f1 := l_szAuthorityS.eq_1 a0 a1
    simp only [h1, cond_true, cond_false] at f1
    simp [f1]
  · have q1 := h1; try simp at q1
    simp
    refine retRd (rv := [.tmp 4]) rfl ?_
    have f2 := l_szAuthorityS.eq_1 a0 a1
    simp only [h1, cond_true, cond_false] at f2
    simp [f2]
theorem l_szMethodS_ok (a0 : List TMethod) (a1 : Int) : SoundAt Try.prog 25 false [[.sl 4 (a0.map TMethod.row)], [.int .i64 a1]] [[.int .i64 (l_szMethodS a0 a1)]] := by
  refine sound_of Try.func25 rfl (by kernel_rfl) ?_
  simp [Try.ntmps25]
  refine condR (c := (decide ((W (a1 - (↑a0.length : Int))) < 0))) (by simp) (fun k1 h1 => ?_) (fun k1 h1 => ?_)
  · have q1 := h1; try simp at q1
    simp
    refine retRd (rv := [.tmp 4]) rfl ?_
    have f1 := l_szMethodS.eq_1 a0 a1
    simp only [h1, cond_true, cond_false] at f1
    simp [f1]
  · have q1 := h1; try simp at q1
    simp
    refine retRd (rv := [.tmp 4]) rfl ?_
    have f2 := l_szMethodS.eq_1 a0 a1
    simp only [h1, cond_true, cond_false] at f2
    simp [f2]
theorem l_szFrame_ok (a0 : TFrame) (a1 : Int) : SoundAt Try.prog 5 false [a0.row, [.int .i64 a1]] [[.int .i64 (l_szFrame a0 a1)]] := by
  refine sound_of Try.func5 rfl (by kernel_rfl) ?_
  simp [Try.ntmps5]
  refine callRd rfl rfl rfl rfl (l_szKeyS_ok a0.Keys a1) (by simp) (by simp) (by simp) ?_
  simp
  refine condR (c := (decide ((l_szKeyS a0.Keys a1) < 0))) (by simp) (fun k1 h1 => ?_) (fun k1 h1 => ?_)
  · have q1 := h1; try simp at q1
    simp
    refine retRd (rv := [.tmp 4]) rfl ?_
    have f1 := l_szFrame.eq_1 a0 a1
    simp only [h1, cond_true, cond_false] at f1
    simp [f1]
  · have q1 := h1; try simp at q1
    simp
    refine callRd rfl rfl rfl rfl (l_szAuthorityS_ok a0.Authorities (l_szKeyS a0.Keys a1)) (by simp) (by simp) (by simp) ?_
    simp
    refine condR (c := (decide ((l_szAuthorityS a0.Authorities (l_szKeyS a0.Keys a1)) < 0))) (by simp) (fun k2 h2 => ?_) (fun k2 h2 => ?_)
    · have q2 := h2; try simp at q2
      simp
      refine retRd (rv := [.tmp 4]) rfl ?_
      have f2 := l_szFrame.eq_1 a0 a1
      simp only [h1, h2, cond_true, cond_false] at f2
      simp [f2]
    · have q2 := h2; try simp at q2
      simp
      refine callRd rfl rfl rfl rfl (l_szMethodS_ok a0.Methods (l_szAuthorityS a0.Authorities (l_szKeyS a0.Keys a1))) (by simp) (by simp) (by simp) ?_
      simp
      refine condR (c := (decide ((l_szMethodS a0.Methods (l_szAuthorityS a0.Authorities (l_szKeyS a0.Keys a1))) < 0))) (by simp) (fun k3 h3 => ?_) (fun k3 h3 => ?_)
      · have q3 := h3; try simp at q3
        simp
        refine retRd (rv := [.tmp 4]) rfl ?_
        have f3 := l_szFrame.eq_1 a0 a1
        simp only [h1, h2, h3, cond_true, cond_false] at f3
        simp [f3]
      · have q3 := h3; try simp at q3
        simp
        refine retRd (rv := [.tmp 4]) rfl ?_
        have f4 := l_szFrame.eq_1 a0 a1
        simp only [h1, h2, h3, cond_true, cond_false] at f4
        simp [f4]
theorem l_szStringS_ok (a0 : List ByteArray) (a1 : Int) : SoundAt Try.prog 107 false [[.sl 1 (a0.map sR)], [.int .i64 a1]] [[.int .i64 (l_szStringS a0 a1)]] := by
  refine sound_of Try.func107 rfl (by kernel_rfl) ?_
  simp [Try.ntmps107]
  refine condR (c := (decide ((W (a1 - (↑a0.length : Int))) < 0))) (by simp) (fun k1 h1 => ?_) (fun k1 h1 => ?_)
  · have q1 := h1; try simp at q1
    simp
    refine retRd (rv := [.tmp 4]) rfl ?_
    have f1 := l_szStringS.eq_1 a0 a1
    simp only [h1, cond_true, cond_false] at f1
    simp [f1]
  · have q1 := h1; try simp at q1
    simp
    refine okL fun k2 => ?_
    refine loopI (ι := { s : Nat × Int × Nat // l_szStringS_1 a0 s.1 s.2.1 s.2.2 = l_szStringS_1 a0 (a0.length + 1) (W (a1 - (↑a0.length : Int))) 0 ∧ (1 ≤ s.1 ∧ a0.length < s.1 + s.2.2 ∧ s.2.2 ≤ a0.length) }) (fun s => stOf 28 [(0, .one (.d (.sl 1 (a0.map sR))), []), (1, .one (.d (.int .i64 s.1.2.1)), []), (5, .one (.d (.int .i64 (↑s.1.2.2 : Int))), [])]) (fun s => s.1.1) ⟨((a0.length + 1), (W (a1 - (↑a0.length : Int))), 0), rfl, by first | omega | (dsimp only; omega) | simp⟩ (wk_keep (by simp)) ?_
    rintro ⟨⟨n1, v1_0, v1_1⟩, e1, j1⟩
    try dsimp only at e1 j1
    obtain ⟨p1, rfl⟩ : ∃ p, n1 = p + 1 := ⟨n1 - 1, by omega⟩
    simp
    refine condR (c := (decide ((↑v1_1 : Int) < (↑a0.length : Int)))) (by simp) (fun k3 h2 => ?_) (fun k3 h2 => ?_)
    · have q2 := h2; try simp at q2
      have i1 : v1_1 < a0.length := by simpa using h2
      have m2 : a0.length ≤ 9223372036854775807 := by simpa using k3 0 _ rfl
      have w1 : IntKind.i64.wrap ((v1_1 : Int) + 1) = (v1_1 : Int) + 1 := wrap_of (by omega) (by omega)
      simp [i1, rowAt_map]
      repeat ((with_reducible refine And.intro ?_ ?_); focus (intros; first | omega | ((try simp only [W_def, show ∀ x, IntKind.i64.wrap x = W x from fun _ => rfl] at *); omega)))
      refine condR (c := (decide ((W (v1_0 - (↑(nth a0 v1_1).size : Int))) < 0))) (by simp) (fun k4 h3 => ?_) (fun k4 h3 => ?_)
      · have q3 := h3; try simp at q3
        have x1 : l_szStringS_1 a0 (a0.length + 1) (W (a1 - (↑a0.length : Int))) 0 = .inl (-1) := by rw [← e1]; simp only [l_szStringS_1, h2, h3, cond_true, cond_false]
        simp
        refine retRd (rv := [.tmp 4]) rfl ?_
        have f2 := l_szStringS.eq_1 a0 a1
        simp only [h1, x1, cond_true, cond_false] at f2
        simp [f2]
      · have q3 := h3; try simp at q3
        simp
        refine nxtI ⟨(p1, (W (v1_0 - (↑(nth a0 v1_1).size : Int))), (v1_1 + 1)), ?_, ?_⟩ (by simp) (wk_keep (by simp [w1]))
        · rw [← e1]; simp only [l_szStringS_1, h2, h3, cond_true, cond_false]
        · first | omega | (simp at *; omega)
    · have q2 := h2; try simp at q2
      have x2 : l_szStringS_1 a0 (a0.length + 1) (W (a1 - (↑a0.length : Int))) 0 = .inr v1_0 := by rw [← e1]; simp only [l_szStringS_1, h2, cond_true, cond_false]
      simp
      refine retRd (rv := [.tmp 4]) rfl ?_
      have f3 := l_szStringS.eq_1 a0 a1
      simp only [h1, x2, cond_true, cond_false] at f3
      simp [f3]
theorem l_szIntS_ok (a0 : List Int) (a1 : Int) : SoundAt Try.prog 108 false [[.sl 1 (a0.map iR)], [.int .i64 a1]] [[.int .i64 (l_szIntS a0 a1)]] := by
  refine sound_of Try.func108 rfl (by kernel_rfl) ?_
  simp [Try.ntmps108]
  refine condR (c := (decide ((W (a1 - (↑a0.length : Int))) < 0))) (by simp) (fun k1 h1 => ?_) (fun k1 h1 => ?_)
  · have q1 := h1; try simp at q1
    simp
    refine retRd (rv := [.tmp 4]) rfl ?_
    have f1 := l_szIntS.eq_1 a0 a1
    simp only [h1, cond_true, cond_false] at f1
    simp [f1]
  · have q1 := h1; try simp at q1
    simp
    refine retRd (rv := [.tmp 4]) rfl ?_
    have f2 := l_szIntS.eq_1 a0 a1
    simp only [h1, cond_true, cond_false] at f2
    simp [f2]
theorem l_szDocument_ok (a0 : TDocument) (a1 : Int) : SoundAt Try.prog 82 false [a0.row, [.int .i64 a1]] [[.int .i64 (l_szDocument a0 a1)]] := by
  refine sound_of Try.func82 rfl (by kernel_rfl) ?_
  simp [Try.ntmps82]
  refine callRd rfl rfl rfl rfl (l_szStringS_ok a0.Parts a1) (by simp) (by simp) (by simp) ?_
  simp
  refine condR (c := (decide ((l_szStringS a0.Parts a1) < 0))) (by simp) (fun k1 h1 => ?_) (fun k1 h1 => ?_)
  · have q1 := h1; try simp at q1
    simp
    refine retRd (rv := [.tmp 4]) rfl ?_
    have f1 := l_szDocument.eq_1 a0 a1
    simp only [h1, cond_true, cond_false] at f1
    simp [f1]
  · have q1 := h1; try simp at q1
    simp
    refine callRd rfl rfl rfl rfl (l_szIntS_ok a0.Salts (l_szStringS a0.Parts a1)) (by simp) (by simp) (by simp) ?_
    simp
    refine condR (c := (decide ((l_szIntS a0.Salts (l_szStringS a0.Parts a1)) < 0))) (by simp) (fun k2 h2 => ?_) (fun k2 h2 => ?_)
    · have q2 := h2; try simp at q2
      simp
      refine retRd (rv := [.tmp 4]) rfl ?_
      have f2 := l_szDocument.eq_1 a0 a1
      simp only [h1, h2, cond_true, cond_false] at f2
      simp [f2]
    · have q2 := h2; try simp at q2
      simp
      refine retRd (rv := [.tmp 4]) rfl ?_
      have f3 := l_szDocument.eq_1 a0 a1
      simp only [h1, h2, cond_true, cond_false] at f3
      simp [f3]
theorem l_szPiece_ok (a0 : TPiece) (a1 : Int) : SoundAt Try.prog 130 false [a0.row, [.int .i64 a1]] [[.int .i64 (l_szPiece a0 a1)]] := by
  refine sound_of Try.func130 rfl (by kernel_rfl) ?_
  simp [Try.ntmps130]
  refine callRd rfl rfl rfl rfl (l_szIntS_ok a0.Ints a1) (by simp) (by simp) (by simp) ?_
  simp
  refine condR (c := (decide ((l_szIntS a0.Ints a1) < 0))) (by simp) (fun k1 h1 => ?_) (fun k1 h1 => ?_)
  · have q1 := h1; try simp at q1
    simp
    refine retRd (rv := [.tmp 4]) rfl ?_
    have f1 := l_szPiece.eq_1 a0 a1
    simp only [h1, cond_true, cond_false] at f1
    simp [f1]
  · have q1 := h1; try simp at q1
    simp
    refine retRd (rv := [.tmp 4]) rfl ?_
    have f2 := l_szPiece.eq_1 a0 a1
    simp only [h1, cond_true, cond_false] at f2
    simp [f2]
theorem l_szPieceS_ok (a0 : List TPiece) (a1 : Int) : SoundAt Try.prog 109 false [[.sl 3 (a0.map TPiece.row)], [.int .i64 a1]] [[.int .i64 (l_szPieceS a0 a1)]] := by
  refine sound_of Try.func109 rfl (by kernel_rfl) ?_
  simp [Try.ntmps109]
  refine condR (c := (decide ((W (a1 - (↑a0.length : Int))) < 0))) (by simp) (fun k1 h1 => ?_) (fun k1 h1 => ?_)
  · have q1 := h1; try simp at q1
    simp
    refine retRd (rv := [.tmp 4]) rfl ?_
    have f1 := l_szPieceS.eq_1 a0 a1
    simp only [h1, cond_true, cond_false] at f1
    simp [f1]
  · have q1 := h1; try simp at q1
    simp
    refine okL fun k2 => ?_
    refine loopI (ι := { s : Nat × Int × Nat // l_szPieceS_1 a0 s.1 s.2.1 s.2.2 = l_szPieceS_1 a0 (a0.length + 1) (W (a1 - (↑a0.length : Int))) 0 ∧ (1 ≤ s.1 ∧ a0.length < s.1 + s.2.2 ∧ s.2.2 ≤ a0.length) }) (fun s => stOf 27 [(0, .one (.d (.sl 3 (a0.map TPiece.row))), []), (1, .one (.d (.int .i64 s.1.2.1)), []), (5, .one (.d (.int .i64 (↑s.1.2.2 : Int))), [])]) (fun s => s.1.1) ⟨((a0.length + 1), (W (a1 - (↑a0.length : Int))), 0), rfl, by first | omega | (dsimp only; omega) | simp⟩ (wk_keep (by simp)) ?_
    rintro ⟨⟨n1, v1_0, v1_1⟩, e1, j1⟩
    try dsimp only at e1 j1
    obtain ⟨p1, rfl⟩ : ∃ p, n1 = p + 1 := ⟨n1 - 1, by omega⟩
    simp
    refine condR (c := (decide ((↑v1_1 : Int) < (↑a0.length : Int)))) (by simp) (fun k3 h2 => ?_) (fun k3 h2 => ?_)
    · have q2 := h2; try simp at q2
      have i1 : v1_1 < a0.length := by simpa using h2
      have m2 : a0.length ≤ 9223372036854775807 := by simpa using k3 0 _ rfl
      have w1 : IntKind.i64.wrap ((v1_1 : Int) + 1) = (v1_1 : Int) + 1 := wrap_of (by omega) (by omega)
      simp [i1, rowAt_map]
      repeat ((with_reducible refine And.intro ?_ ?_); focus (intros; first | omega | ((try simp only [W_def, show ∀ x, IntKind.i64.wrap x = W x from fun _ => rfl] at *); omega)))
      refine callRd rfl rfl rfl rfl (l_szPiece_ok (nth a0 v1_1) v1_0) (by simp) (by simp) (by simp) ?_
      simp
      refine condR (c := (decide ((l_szPiece (nth a0 v1_1) v1_0) < 0))) (by simp) (fun k4 h3 => ?_) (fun k4 h3 => ?_)
      · have q3 := h3; try simp at q3
        have x1 : l_szPieceS_1 a0 (a0.length + 1) (W (a1 - (↑a0.length : Int))) 0 = .inl (-1) := by rw [← e1]; simp only [l_szPieceS_1, h2, h3, cond_true, cond_false]
        simp
        refine retRd (rv := [.tmp 4]) rfl ?_
        have f2 := l_szPieceS.eq_1 a0 a1
        simp only [h1, x1, cond_true, cond_false] at f2
        simp [f2]
      · have q3 := h3; try simp at q3
        simp
        refine nxtI ⟨(p1, (l_szPiece (nth a0 v1_1) v1_0), (v1_1 + 1)), ?_, ?_⟩ (by simp) (wk_keep (by simp [w1]))
        · rw [← e1]; simp only [l_szPieceS_1, h2, h3, cond_true, cond_false]
        · first | omega | (simp at *; omega)
    · have q2 := h2; try simp at q2
      have x2 : l_szPieceS_1 a0 (a0.length + 1) (W (a1 - (↑a0.length : Int))) 0 = .inr v1_0 := by rw [← e1]; simp only [l_szPieceS_1, h2, cond_true, cond_false]
      simp
      refine retRd (rv := [.tmp 4]) rfl ?_
      have f3 := l_szPieceS.eq_1 a0 a1
      simp only [h1, x2, cond_true, cond_false] at f3
      simp [f3]
theorem l_szStepS_ok (a0 : List TStep) (a1 : Int) : SoundAt Try.prog 141 false [[.sl 2 (a0.map TStep.row)], [.int .i64 a1]] [[.int .i64 (l_szStepS a0 a1)]] := by
  refine sound_of Try.func141 rfl (by kernel_rfl) ?_
  simp [Try.ntmps141]
  refine condR (c := (decide ((W (a1 - (↑a0.length : Int))) < 0))) (by simp) (fun k1 h1 => ?_) (fun k1 h1 => ?_)
  · have q1 := h1; try simp at q1
    simp
    refine retRd (rv := [.tmp 4]) rfl ?_
    have f1 := l_szStepS.eq_1 a0 a1
    simp only [h1, cond_true, cond_false] at f1
    simp [f1]
  · have q1 := h1; try simp at q1
    simp
    refine retRd (rv := [.tmp 4]) rfl ?_
    have f2 := l_szStepS.eq_1 a0 a1
    simp only [h1, cond_true, cond_false] at f2
    simp [f2]
theorem l_szStampS_ok (a0 : List TStamp) (a1 : Int) : SoundAt Try.prog 142 false [[.sl 5 (a0.map TStamp.row)], [.int .i64 a1]] [[.int .i64 (l_szStampS a0 a1)]] := by
  refine sound_of Try.func142 rfl (by kernel_rfl) ?_
  simp [Try.ntmps142]
  refine condR (c := (decide ((W (a1 - (↑a0.length : Int))) < 0))) (by simp) (fun k1 h1 => ?_) (fun k1 h1 => ?_)
  · have q1 := h1; try simp at q1
    simp
    refine retRd (rv := [.tmp 4]) rfl ?_
    have f1 := l_szStampS.eq_1 a0 a1
    simp only [h1, cond_true, cond_false] at f1
    simp [f1]
  · have q1 := h1; try simp at q1
    simp
    refine retRd (rv := [.tmp 4]) rfl ?_
    have f2 := l_szStampS.eq_1 a0 a1
    simp only [h1, cond_true, cond_false] at f2
    simp [f2]
theorem l_szRenewal_ok (a0 : TRenewal) (a1 : Int) : SoundAt Try.prog 131 false [a0.row, [.int .i64 a1]] [[.int .i64 (l_szRenewal a0 a1)]] := by
  refine sound_of Try.func131 rfl (by kernel_rfl) ?_
  simp [Try.ntmps131]
  refine callRd rfl rfl rfl rfl (l_szStepS_ok a0.Path a1) (by simp) (by simp) (by simp) ?_
  simp
  refine condR (c := (decide ((l_szStepS a0.Path a1) < 0))) (by simp) (fun k1 h1 => ?_) (fun k1 h1 => ?_)
  · have q1 := h1; try simp at q1
    simp
    refine retRd (rv := [.tmp 4]) rfl ?_
    have f1 := l_szRenewal.eq_1 a0 a1
    simp only [h1, cond_true, cond_false] at f1
    simp [f1]
  · have q1 := h1; try simp at q1
    simp
    refine callRd rfl rfl rfl rfl (l_szStampS_ok a0.Stamps (l_szStepS a0.Path a1)) (by simp) (by simp) (by simp) ?_
    simp
    refine condR (c := (decide ((l_szStampS a0.Stamps (l_szStepS a0.Path a1)) < 0))) (by simp) (fun k2 h2 => ?_) (fun k2 h2 => ?_)
    · have q2 := h2; try simp at q2
      simp
      refine retRd (rv := [.tmp 4]) rfl ?_
      have f2 := l_szRenewal.eq_1 a0 a1
      simp only [h1, h2, cond_true, cond_false] at f2
      simp [f2]
    · have q2 := h2; try simp at q2
      simp
      refine retRd (rv := [.tmp 4]) rfl ?_
      have f3 := l_szRenewal.eq_1 a0 a1
      simp only [h1, h2, cond_true, cond_false] at f3
      simp [f3]
theorem l_szRenewalS_ok (a0 : List TRenewal) (a1 : Int) : SoundAt Try.prog 110 false [[.sl 5 (a0.map TRenewal.row)], [.int .i64 a1]] [[.int .i64 (l_szRenewalS a0 a1)]] := by
  refine sound_of Try.func110 rfl (by kernel_rfl) ?_
  simp [Try.ntmps110]
  refine condR (c := (decide ((W (a1 - (↑a0.length : Int))) < 0))) (by simp) (fun k1 h1 => ?_) (fun k1 h1 => ?_)
  · have q1 := h1; try simp at q1
    simp
    refine retRd (rv := [.tmp 4]) rfl ?_
    have f1 := l_szRenewalS.eq_1 a0 a1
    simp only [h1, cond_true, cond_false] at f1
    simp [f1]
  · have q1 := h1; try simp at q1
    simp
    refine okL fun k2 => ?_
    refine loopI (ι := { s : Nat × Int × Nat // l_szRenewalS_1 a0 s.1 s.2.1 s.2.2 = l_szRenewalS_1 a0 (a0.length + 1) (W (a1 - (↑a0.length : Int))) 0 ∧ (1 ≤ s.1 ∧ a0.length < s.1 + s.2.2 ∧ s.2.2 ≤ a0.length) }) (fun s => stOf 27 [(0, .one (.d (.sl 5 (a0.map TRenewal.row))), []), (1, .one (.d (.int .i64 s.1.2.1)), []), (5, .one (.d (.int .i64 (↑s.1.2.2 : Int))), [])]) (fun s => s.1.1) ⟨((a0.length + 1), (W (a1 - (↑a0.length : Int))), 0), rfl, by first | omega | (dsimp only; omega) | simp⟩ (wk_keep (by simp)) ?_
    rintro ⟨⟨n1, v1_0, v1_1⟩, e1, j1⟩
    try dsimp only at e1 j1
    obtain ⟨p1, rfl⟩ : ∃ p, n1 = p + 1 := ⟨n1 - 1, by omega⟩
    simp
    refine condR (c := (decide ((↑v1_1 : Int) < (↑a0.length : Int)))) (by simp) (fun k3 h2 => ?_) (fun k3 h2 => ?_)
    · have q2 := h2; try simp at q2
      have i1 : v1_1 < a0.length := by simpa using h2
      have m2 : a0.length ≤ 9223372036854775807 := by simpa using k3 0 _ rfl
      have w1 : IntKind.i64.wrap ((v1_1 : Int) + 1) = (v1_1 : Int) + 1 := wrap_of (by omega) (by omega)
      simp [i1, rowAt_map]
      repeat ((with_reducible refine And.intro ?_ ?_); focus (intros; first | omega | ((try simp only [W_def, show ∀ x, IntKind.i64.wrap x = W x from fun _ => rfl] at *); omega)))
      refine callRd rfl rfl rfl rfl (l_szRenewal_ok (nth a0 v1_1) v1_0) (by simp) (by simp) (by simp) ?_
      simp
      refine condR (c := (decide ((l_szRenewal (nth a0 v1_1) v1_0) < 0))) (by simp) (fun k4 h3 => ?_) (fun k4 h3 => ?_)
      · have q3 := h3; try simp at q3
        have x1 : l_szRenewalS_1 a0 (a0.length + 1) (W (a1 - (↑a0.length : Int))) 0 = .inl (-1) := by rw [← e1]; simp only [l_szRenewalS_1, h2, h3, cond_true, cond_false]
        simp
        refine retRd (rv := [.tmp 4]) rfl ?_
        have f2 := l_szRenewalS.eq_1 a0 a1
        simp only [h1, x1, cond_true, cond_false] at f2
        simp [f2]
      · have q3 := h3; try simp at q3
        simp
        refine nxtI ⟨(p1, (l_szRenewal (nth a0 v1_1) v1_0), (v1_1 + 1)), ?_, ?_⟩ (by simp) (wk_keep (by simp [w1]))
        · rw [← e1]; simp only [l_szRenewalS_1, h2, h3, cond_true, cond_false]
        · first | omega | (simp at *; omega)
    · have q2 := h2; try simp at q2
      have x2 : l_szRenewalS_1 a0 (a0.length + 1) (W (a1 - (↑a0.length : Int))) 0 = .inr v1_0 := by rw [← e1]; simp only [l_szRenewalS_1, h2, cond_true, cond_false]
      simp
      refine retRd (rv := [.tmp 4]) rfl ?_
      have f3 := l_szRenewalS.eq_1 a0 a1
      simp only [h1, x2, cond_true, cond_false] at f3
      simp [f3]
theorem l_szStrand_ok (a0 : TStrand) (a1 : Int) : SoundAt Try.prog 83 false [a0.row, [.int .i64 a1]] [[.int .i64 (l_szStrand a0 a1)]] := by
  refine sound_of Try.func83 rfl (by kernel_rfl) ?_
  simp [Try.ntmps83]
  refine callRd rfl rfl rfl rfl (l_szPieceS_ok a0.Pieces a1) (by simp) (by simp) (by simp) ?_
  simp
  refine condR (c := (decide ((l_szPieceS a0.Pieces a1) < 0))) (by simp) (fun k1 h1 => ?_) (fun k1 h1 => ?_)
  · have q1 := h1; try simp at q1
    simp
    refine retRd (rv := [.tmp 4]) rfl ?_
    have f1 := l_szStrand.eq_1 a0 a1
    simp only [h1, cond_true, cond_false] at f1
    simp [f1]
  · have q1 := h1; try simp at q1
    simp
    refine callRd rfl rfl rfl rfl (l_szRenewalS_ok a0.Chain (l_szPieceS a0.Pieces a1)) (by simp) (by simp) (by simp) ?_
    simp
    refine condR (c := (decide ((l_szRenewalS a0.Chain (l_szPieceS a0.Pieces a1)) < 0))) (by simp) (fun k2 h2 => ?_) (fun k2 h2 => ?_)
    · have q2 := h2; try simp at q2
      simp
      refine retRd (rv := [.tmp 4]) rfl ?_
      have f2 := l_szStrand.eq_1 a0 a1
      simp only [h1, h2, cond_true, cond_false] at f2
      simp [f2]
    · have q2 := h2; try simp at q2
      simp
      refine retRd (rv := [.tmp 4]) rfl ?_
      have f3 := l_szStrand.eq_1 a0 a1
      simp only [h1, h2, cond_true, cond_false] at f3
      simp [f3]
theorem l_szItem_ok (a0 : TItem) (a1 : Int) : SoundAt Try.prog 57 false [a0.row, [.int .i64 a1]] [[.int .i64 (l_szItem a0 a1)]] := by
  refine sound_of Try.func57 rfl (by kernel_rfl) ?_
  simp [Try.ntmps57]
  refine callRd rfl rfl rfl rfl (l_szDocument_ok a0.Doc a1) (by simp) (by simp) (by simp) ?_
  simp
  refine condR (c := (decide ((l_szDocument a0.Doc a1) < 0))) (by simp) (fun k1 h1 => ?_) (fun k1 h1 => ?_)
  · have q1 := h1; try simp at q1
    simp
    refine retRd (rv := [.tmp 4]) rfl ?_
    have f1 := l_szItem.eq_1 a0 a1
    simp only [h1, cond_true, cond_false] at f1
    simp [f1]
  · have q1 := h1; try simp at q1
    simp
    refine callRd rfl rfl rfl rfl (l_szStrand_ok a0.Strand (l_szDocument a0.Doc a1)) (by simp) (by simp) (by simp) ?_
    simp
    refine condR (c := (decide ((l_szStrand a0.Strand (l_szDocument a0.Doc a1)) < 0))) (by simp) (fun k2 h2 => ?_) (fun k2 h2 => ?_)
    · have q2 := h2; try simp at q2
      simp
      refine retRd (rv := [.tmp 4]) rfl ?_
      have f2 := l_szItem.eq_1 a0 a1
      simp only [h1, h2, cond_true, cond_false] at f2
      simp [f2]
    · have q2 := h2; try simp at q2
      simp
      refine retRd (rv := [.tmp 4]) rfl ?_
      have f3 := l_szItem.eq_1 a0 a1
      simp only [h1, h2, cond_true, cond_false] at f3
      simp [f3]
theorem l_szItemS_ok (a0 : List TItem) (a1 : Int) : SoundAt Try.prog 26 false [[.sl 16 (a0.map TItem.row)], [.int .i64 a1]] [[.int .i64 (l_szItemS a0 a1)]] := by
  refine sound_of Try.func26 rfl (by kernel_rfl) ?_
  simp [Try.ntmps26]
  refine condR (c := (decide ((W (a1 - (↑a0.length : Int))) < 0))) (by simp) (fun k1 h1 => ?_) (fun k1 h1 => ?_)
  · have q1 := h1; try simp at q1
    simp
    refine retRd (rv := [.tmp 4]) rfl ?_
    have f1 := l_szItemS.eq_1 a0 a1
    simp only [h1, cond_true, cond_false] at f1
    simp [f1]
  · have q1 := h1; try simp at q1
    simp
    refine okL fun k2 => ?_
    refine loopI (ι := { s : Nat × Int × Nat // l_szItemS_1 a0 s.1 s.2.1 s.2.2 = l_szItemS_1 a0 (a0.length + 1) (W (a1 - (↑a0.length : Int))) 0 ∧ (1 ≤ s.1 ∧ a0.length < s.1 + s.2.2 ∧ s.2.2 ≤ a0.length) }) (fun s => stOf 27 [(0, .one (.d (.sl 16 (a0.map TItem.row))), []), (1, .one (.d (.int .i64 s.1.2.1)), []), (5, .one (.d (.int .i64 (↑s.1.2.2 : Int))), [])]) (fun s => s.1.1) ⟨((a0.length + 1), (W (a1 - (↑a0.length : Int))), 0), rfl, by first | omega | (dsimp only; omega) | simp⟩ (wk_keep (by simp)) ?_
    rintro ⟨⟨n1, v1_0, v1_1⟩, e1, j1⟩
    try dsimp only at e1 j1
    obtain ⟨p1, rfl⟩ : ∃ p, n1 = p + 1 := ⟨n1 - 1, by omega⟩
    simp
    refine condR (c := (decide ((↑v1_1 : Int) < (↑a0.length : Int)))) (by simp) (fun k3 h2 => ?_) (fun k3 h2 => ?_)
    · have q2 := h2; try simp at q2
      have i1 : v1_1 < a0.length := by simpa using h2
      have m2 : a0.length ≤ 9223372036854775807 := by simpa using k3 0 _ rfl
      have w1 : IntKind.i64.wrap ((v1_1 : Int) + 1) = (v1_1 : Int) + 1 := wrap_of (by omega) (by omega)
      simp [i1, rowAt_map]
      repeat ((with_reducible refine And.intro ?_ ?_); focus (intros; first | omega | ((try simp only [W_def, show ∀ x, IntKind.i64.wrap x = W x from fun _ => rfl] at *); omega)))
      refine callRd rfl rfl rfl rfl (l_szItem_ok (nth a0 v1_1) v1_0) (by simp) (by simp) (by simp) ?_
      simp
      refine condR (c := (decide ((l_szItem (nth a0 v1_1) v1_0) < 0))) (by simp) (fun k4 h3 => ?_) (fun k4 h3 => ?_)
      · have q3 := h3; try simp at q3
        have x1 : l_szItemS_1 a0 (a0.length + 1) (W (a1 - (↑a0.length : Int))) 0 = .inl (-1) := by rw [← e1]; simp only [l_szItemS_1, h2, h3, cond_true, cond_false]
        simp
        refine retRd (rv := [.tmp 4]) rfl ?_
        have f2 := l_szItemS.eq_1 a0 a1
        simp only [h1, x1, cond_true, cond_false] at f2
        simp [f2]
      · have q3 := h3; try simp at q3
        simp
        refine nxtI ⟨(p1, (l_szItem (nth a0 v1_1) v1_0), (v1_1 + 1)), ?_, ?_⟩ (by simp) (wk_keep (by simp [w1]))
        · rw [← e1]; simp only [l_szItemS_1, h2, h3, cond_true, cond_false]
        · first | omega | (simp at *; omega)
    · have q2 := h2; try simp at q2
      have x2 : l_szItemS_1 a0 (a0.length + 1) (W (a1 - (↑a0.length : Int))) 0 = .inr v1_0 := by rw [← e1]; simp only [l_szItemS_1, h2, cond_true, cond_false]
      simp
      refine retRd (rv := [.tmp 4]) rfl ?_
      have f3 := l_szItemS.eq_1 a0 a1
      simp only [h1, x2, cond_true, cond_false] at f3
      simp [f3]
theorem l_szArchive_ok (a0 : TArchive) (a1 : Int) : SoundAt Try.prog 6 false [a0.row, [.int .i64 a1]] [[.int .i64 (l_szArchive a0 a1)]] := by
  refine sound_of Try.func6 rfl (by kernel_rfl) ?_
  simp [Try.ntmps6]
  refine callRd rfl rfl rfl rfl (l_szItemS_ok a0.Items a1) (by simp) (by simp) (by simp) ?_
  simp
  refine condR (c := (decide ((l_szItemS a0.Items a1) < 0))) (by simp) (fun k1 h1 => ?_) (fun k1 h1 => ?_)
  · have q1 := h1; try simp at q1
    simp
    refine retRd (rv := [.tmp 4]) rfl ?_
    have f1 := l_szArchive.eq_1 a0 a1
    simp only [h1, cond_true, cond_false] at f1
    simp [f1]
  · have q1 := h1; try simp at q1
    simp
    refine retRd (rv := [.tmp 4]) rfl ?_
    have f2 := l_szArchive.eq_1 a0 a1
    simp only [h1, cond_true, cond_false] at f2
    simp [f2]
theorem l_toKey_ok (a0 : TKey) : SoundAt Try.prog 59 false [a0.row] [(l_toKey a0).row] := by
  refine sound_of Try.func59 rfl (by kernel_rfl) ?_
  simp [Try.ntmps59]
  refine retRd (rv := [.cell 2 113]) rfl ?_
  have f1 := l_toKey.eq_1 a0
  simp [f1]
theorem l_toKey_okI (a0 : TKey) : SoundAt Try.prog 59 false [a0.row] [a0.row] := by
  have h := l_toKey_ok a0
  rwa [l_toKey_id] at h
theorem l_toKeyS_ok (a0 : List TKey) (u0 : Sm 2338816 a0) : SoundD Try.prog 28 [[.sl 5 (a0.map TKey.row)]] [[.sl 5 ((l_toKeyS a0).map TKey.row)]] := by
  refine sound_ofD Try.func28 rfl (by kernel_rfl) ?_
  have c1 : a0.length ≤ 2338816 := sm_len (by simp (maxDischargeDepth := 12) [u0])
  simp [Try.ntmps28]
  repeat ((with_reducible refine And.intro ?_ ?_); focus (intros; first | omega | ((try simp only [W_def, show ∀ x, IntKind.i64.wrap x = W x from fun _ => rfl] at *); omega)))
  refine okL fun k1 => ?_
  refine loopI (ι := { s : Nat × Nat × (List TKey) // l_toKeyS_1 a0 s.1 s.2.1 s.2.2 = l_toKeyS_1 a0 (a0.length + 1) 0 (List.replicate a0.length (TKey.mk 0 0 0 0 0)) ∧ (1 ≤ s.1 ∧ a0.length < s.1 + s.2.1 ∧ s.2.1 ≤ a0.length ∧ s.2.2.length = a0.length) }) (fun s => stOf 23 [(0, .one (.d (.sl 5 (a0.map TKey.row))), []), (3, .one (.sref 7 0 0 s.1.2.2.length), []), (4, .one (.d (.int .i64 (↑s.1.2.1 : Int))), []), (7, .any, [.arr false 5 (s.1.2.2.map TKey.row)])]) (fun s => s.1.1) ⟨((a0.length + 1), 0, (List.replicate a0.length (TKey.mk 0 0 0 0 0))), rfl, by first | omega | (dsimp only; omega) | simp⟩ (wk_keep (by simp)) ?_
  rintro ⟨⟨n1, v1_0, v1_1⟩, e1, j1⟩
  try dsimp only at e1 j1
  obtain ⟨p1, rfl⟩ : ∃ p, n1 = p + 1 := ⟨n1 - 1, by omega⟩
  simp
  refine condR (c := (decide ((↑v1_0 : Int) < (↑a0.length : Int)))) (by simp) (fun k2 h1 => ?_) (fun k2 h1 => ?_)
  · have q1 := h1; try simp at q1
    have i1 : v1_0 < a0.length := by simpa using h1
    have m2 : a0.length ≤ 9223372036854775807 := by simpa using k2 0 _ rfl
    have w1 : IntKind.i64.wrap ((v1_0 : Int) + 1) = (v1_0 : Int) + 1 := wrap_of (by omega) (by omega)
    simp [i1, rowAt_map]
    repeat ((with_reducible refine And.intro ?_ ?_); focus (intros; first | omega | ((try simp only [W_def, show ∀ x, IntKind.i64.wrap x = W x from fun _ => rfl] at *); omega)))
    refine callRd rfl rfl rfl rfl (l_toKey_okI (nth a0 v1_0)) (by simp) (by simp) (by simp) ?_
    have i2 : v1_0 < v1_1.length := by first | omega | (have hz := @List.length_pos_iff _ v1_1; simp_all; done) | ((try simp only [W_def, show ∀ x, IntKind.i64.wrap x = W x from fun _ => rfl] at *); omega)
    simp [i2, rowAt_map, set_map (x := (nth a0 v1_0)) rfl]
    repeat ((with_reducible refine And.intro ?_ ?_); focus (intros; first | omega | ((try simp only [W_def, show ∀ x, IntKind.i64.wrap x = W x from fun _ => rfl] at *); omega)))
    refine nxtI ⟨(p1, (v1_0 + 1), (v1_1.set v1_0 (nth a0 v1_0))), ?_, ?_⟩ (by simp) (wk_keep (by simp [w1]))
    · rw [← e1]; simp only [l_toKeyS_1, h1, cond_true, cond_false]
    · first | omega | (simp at *; omega)
  · have q1 := h1; try simp at q1
    have x1 : l_toKeyS_1 a0 (a0.length + 1) 0 (List.replicate a0.length (TKey.mk 0 0 0 0 0)) = v1_1 := by rw [← e1]; simp only [l_toKeyS_1, h1, cond_true, cond_false]
    simp
    refine retD (rv := [.tmp 2]) rfl ?_
    have f1 := l_toKeyS.eq_1 a0
    simp only [x1, cond_true, cond_false] at f1
    simp [f1]
theorem l_toKeyS_okI (a0 : List TKey) (u0 : Sm 2338816 a0) : SoundD Try.prog 28 [[.sl 5 (a0.map TKey.row)]] [[.sl 5 (a0.map TKey.row)]] := by
  have h := l_toKeyS_ok a0 u0
  rwa [l_toKeyS_id] at h
theorem l_toAuthority_ok (a0 : TAuthority) : SoundAt Try.prog 60 false [a0.row] [(l_toAuthority a0).row] := by
  refine sound_of Try.func60 rfl (by kernel_rfl) ?_
  simp [Try.ntmps60]
  refine retRd (rv := [.cell 2 93]) rfl ?_
  have f1 := l_toAuthority.eq_1 a0
  simp [f1]
theorem l_toAuthority_okI (a0 : TAuthority) : SoundAt Try.prog 60 false [a0.row] [a0.row] := by
  have h := l_toAuthority_ok a0
  rwa [l_toAuthority_id] at h
theorem l_toAuthorityS_ok (a0 : List TAuthority) (u0 : Sm 2338816 a0) : SoundD Try.prog 29 [[.sl 3 (a0.map TAuthority.row)]] [[.sl 3 ((l_toAuthorityS a0).map TAuthority.row)]] := by
  refine sound_ofD Try.func29 rfl (by kernel_rfl) ?_
  have c1 : a0.length ≤ 2338816 := sm_len (by simp (maxDischargeDepth := 12) [u0])
  simp [Try.ntmps29]
  repeat ((with_reducible refine And.intro ?_ ?_); focus (intros; first | omega | ((try simp only [W_def, show ∀ x, IntKind.i64.wrap x = W x from fun _ => rfl] at *); omega)))
  refine okL fun k1 => ?_
  refine loopI (ι := { s : Nat × Nat × (List TAuthority) // l_toAuthorityS_1 a0 s.1 s.2.1 s.2.2 = l_toAuthorityS_1 a0 (a0.length + 1) 0 (List.replicate a0.length (TAuthority.mk 0 0 0)) ∧ (1 ≤ s.1 ∧ a0.length < s.1 + s.2.1 ∧ s.2.1 ≤ a0.length ∧ s.2.2.length = a0.length) }) (fun s => stOf 23 [(0, .one (.d (.sl 3 (a0.map TAuthority.row))), []), (3, .one (.sref 7 0 0 s.1.2.2.length), []), (4, .one (.d (.int .i64 (↑s.1.2.1 : Int))), []), (7, .any, [.arr false 3 (s.1.2.2.map TAuthority.row)])]) (fun s => s.1.1) ⟨((a0.length + 1), 0, (List.replicate a0.length (TAuthority.mk 0 0 0))), rfl, by first | omega | (dsimp only; omega) | simp⟩ (wk_keep (by simp)) ?_
  rintro ⟨⟨n1, v1_0, v1_1⟩, e1, j1⟩
  try dsimp only at e1 j1
  obtain ⟨p1, rfl⟩ : ∃ p, n1 = p + 1 := ⟨n1 - 1, by omega⟩
  simp
  refine condR (c := (decide ((↑v1_0 : Int) < (↑a0.length : Int)))) (by simp) (fun k2 h1 => ?_) (fun k2 h1 => ?_)
  · have q1 := h1; try simp at q1
    have i1 : v1_0 < a0.length := by simpa using h1
    have m2 : a0.length ≤ 9223372036854775807 := by simpa using k2 0 _ rfl
    have w1 : IntKind.i64.wrap ((v1_0 : Int) + 1) = (v1_0 : Int) + 1 := wrap_of (by omega) (by omega)
    simp [i1, rowAt_map]
    repeat ((with_reducible refine And.intro ?_ ?_); focus (intros; first | omega | ((try simp only [W_def, show ∀ x, IntKind.i64.wrap x = W x from fun _ => rfl] at *); omega)))
    refine callRd rfl rfl rfl rfl (l_toAuthority_okI (nth a0 v1_0)) (by simp) (by simp) (by simp) ?_
    have i2 : v1_0 < v1_1.length := by first | omega | (have hz := @List.length_pos_iff _ v1_1; simp_all; done) | ((try simp only [W_def, show ∀ x, IntKind.i64.wrap x = W x from fun _ => rfl] at *); omega)
    simp [i2, rowAt_map, set_map (x := (nth a0 v1_0)) rfl]
    repeat ((with_reducible refine And.intro ?_ ?_); focus (intros; first | omega | ((try simp only [W_def, show ∀ x, IntKind.i64.wrap x = W x from fun _ => rfl] at *); omega)))
    refine nxtI ⟨(p1, (v1_0 + 1), (v1_1.set v1_0 (nth a0 v1_0))), ?_, ?_⟩ (by simp) (wk_keep (by simp [w1]))
    · rw [← e1]; simp only [l_toAuthorityS_1, h1, cond_true, cond_false]
    · first | omega | (simp at *; omega)
  · have q1 := h1; try simp at q1
    have x1 : l_toAuthorityS_1 a0 (a0.length + 1) 0 (List.replicate a0.length (TAuthority.mk 0 0 0)) = v1_1 := by rw [← e1]; simp only [l_toAuthorityS_1, h1, cond_true, cond_false]
    simp
    refine retD (rv := [.tmp 2]) rfl ?_
    have f1 := l_toAuthorityS.eq_1 a0
    simp only [x1, cond_true, cond_false] at f1
    simp [f1]
theorem l_toAuthorityS_okI (a0 : List TAuthority) (u0 : Sm 2338816 a0) : SoundD Try.prog 29 [[.sl 3 (a0.map TAuthority.row)]] [[.sl 3 (a0.map TAuthority.row)]] := by
  have h := l_toAuthorityS_ok a0 u0
  rwa [l_toAuthorityS_id] at h
theorem l_toMethod_ok (a0 : TMethod) : SoundAt Try.prog 61 false [a0.row] [(l_toMethod a0).row] := by
  refine sound_of Try.func61 rfl (by kernel_rfl) ?_
  simp [Try.ntmps61]
  refine retRd (rv := [.cell 2 119]) rfl ?_
  have f1 := l_toMethod.eq_1 a0
  simp [f1]
theorem l_toMethod_okI (a0 : TMethod) : SoundAt Try.prog 61 false [a0.row] [a0.row] := by
  have h := l_toMethod_ok a0
  rwa [l_toMethod_id] at h
theorem l_toMethodS_ok (a0 : List TMethod) (u0 : Sm 2338816 a0) : SoundD Try.prog 30 [[.sl 4 (a0.map TMethod.row)]] [[.sl 4 ((l_toMethodS a0).map TMethod.row)]] := by
  refine sound_ofD Try.func30 rfl (by kernel_rfl) ?_
  have c1 : a0.length ≤ 2338816 := sm_len (by simp (maxDischargeDepth := 12) [u0])
  simp [Try.ntmps30]
  repeat ((with_reducible refine And.intro ?_ ?_); focus (intros; first | omega | ((try simp only [W_def, show ∀ x, IntKind.i64.wrap x = W x from fun _ => rfl] at *); omega)))
  refine okL fun k1 => ?_
  refine loopI (ι := { s : Nat × Nat × (List TMethod) // l_toMethodS_1 a0 s.1 s.2.1 s.2.2 = l_toMethodS_1 a0 (a0.length + 1) 0 (List.replicate a0.length (TMethod.mk 0 0 0 0)) ∧ (1 ≤ s.1 ∧ a0.length < s.1 + s.2.1 ∧ s.2.1 ≤ a0.length ∧ s.2.2.length = a0.length) }) (fun s => stOf 23 [(0, .one (.d (.sl 4 (a0.map TMethod.row))), []), (3, .one (.sref 7 0 0 s.1.2.2.length), []), (4, .one (.d (.int .i64 (↑s.1.2.1 : Int))), []), (7, .any, [.arr false 4 (s.1.2.2.map TMethod.row)])]) (fun s => s.1.1) ⟨((a0.length + 1), 0, (List.replicate a0.length (TMethod.mk 0 0 0 0))), rfl, by first | omega | (dsimp only; omega) | simp⟩ (wk_keep (by simp)) ?_
  rintro ⟨⟨n1, v1_0, v1_1⟩, e1, j1⟩
  try dsimp only at e1 j1
  obtain ⟨p1, rfl⟩ : ∃ p, n1 = p + 1 := ⟨n1 - 1, by omega⟩
  simp
  refine condR (c := (decide ((↑v1_0 : Int) < (↑a0.length : Int)))) (by simp) (fun k2 h1 => ?_) (fun k2 h1 => ?_)
  · have q1 := h1; try simp at q1
    have i1 : v1_0 < a0.length := by simpa using h1
    have m2 : a0.length ≤ 9223372036854775807 := by simpa using k2 0 _ rfl
    have w1 : IntKind.i64.wrap ((v1_0 : Int) + 1) = (v1_0 : Int) + 1 := wrap_of (by omega) (by omega)
    simp [i1, rowAt_map]
    repeat ((with_reducible refine And.intro ?_ ?_); focus (intros; first | omega | ((try simp only [W_def, show ∀ x, IntKind.i64.wrap x = W x from fun _ => rfl] at *); omega)))
    refine callRd rfl rfl rfl rfl (l_toMethod_okI (nth a0 v1_0)) (by simp) (by simp) (by simp) ?_
    have i2 : v1_0 < v1_1.length := by first | omega | (have hz := @List.length_pos_iff _ v1_1; simp_all; done) | ((try simp only [W_def, show ∀ x, IntKind.i64.wrap x = W x from fun _ => rfl] at *); omega)
    simp [i2, rowAt_map, set_map (x := (nth a0 v1_0)) rfl]
    repeat ((with_reducible refine And.intro ?_ ?_); focus (intros; first | omega | ((try simp only [W_def, show ∀ x, IntKind.i64.wrap x = W x from fun _ => rfl] at *); omega)))
    refine nxtI ⟨(p1, (v1_0 + 1), (v1_1.set v1_0 (nth a0 v1_0))), ?_, ?_⟩ (by simp) (wk_keep (by simp [w1]))
    · rw [← e1]; simp only [l_toMethodS_1, h1, cond_true, cond_false]
    · first | omega | (simp at *; omega)
  · have q1 := h1; try simp at q1
    have x1 : l_toMethodS_1 a0 (a0.length + 1) 0 (List.replicate a0.length (TMethod.mk 0 0 0 0)) = v1_1 := by rw [← e1]; simp only [l_toMethodS_1, h1, cond_true, cond_false]
    simp
    refine retD (rv := [.tmp 2]) rfl ?_
    have f1 := l_toMethodS.eq_1 a0
    simp only [x1, cond_true, cond_false] at f1
    simp [f1]
theorem l_toMethodS_okI (a0 : List TMethod) (u0 : Sm 2338816 a0) : SoundD Try.prog 30 [[.sl 4 (a0.map TMethod.row)]] [[.sl 4 (a0.map TMethod.row)]] := by
  have h := l_toMethodS_ok a0 u0
  rwa [l_toMethodS_id] at h
theorem l_toFrame_ok (a0 : TFrame) (u0 : Sm 2334720 a0) : SoundD Try.prog 8 [a0.row] [(l_toFrame a0).row] := by
  refine sound_ofD Try.func8 rfl (by kernel_rfl) ?_
  simp [Try.ntmps8]
  refine callD [false] rfl rfl rfl rfl (l_toKeyS_okI a0.Keys (sm_mono (n := 2334720) (by decide) (by simp (maxDischargeDepth := 12) [u0]))) (by simp) (by simp) (by simp) (by simp) ?_
  simp
  refine callD [false] rfl rfl rfl rfl (l_toAuthorityS_okI a0.Authorities (sm_mono (n := 2334720) (by decide) (by simp (maxDischargeDepth := 12) [u0]))) (by simp) (by simp) (by simp) (by simp) ?_
  simp
  refine callD [false] rfl rfl rfl rfl (l_toMethodS_okI a0.Methods (sm_mono (n := 2334720) (by decide) (by simp (maxDischargeDepth := 12) [u0]))) (by simp) (by simp) (by simp) (by simp) ?_
  simp
  refine retD (rv := [.cell 2 38]) rfl ?_
  have f1 := l_toFrame.eq_1 a0
  simp [f1]
theorem l_toFrame_okI (a0 : TFrame) (u0 : Sm 2334720 a0) : SoundD Try.prog 8 [a0.row] [a0.row] := by
  have h := l_toFrame_ok a0 u0
  rwa [l_toFrame_id] at h
theorem l_toStringS_ok (a0 : List ByteArray) (u0 : Sm 2342912 a0) : SoundD Try.prog 113 [[.sl 1 (a0.map sR)]] [[.sl 1 ((l_toStringS a0).map sR)]] := by
  refine sound_ofD Try.func113 rfl (by kernel_rfl) ?_
  have c1 : a0.length ≤ 2342912 := sm_len (by simp (maxDischargeDepth := 12) [u0])
  simp [Try.ntmps113]
  repeat ((with_reducible refine And.intro ?_ ?_); focus (intros; first | omega | ((try simp only [W_def, show ∀ x, IntKind.i64.wrap x = W x from fun _ => rfl] at *); omega)))
  refine okL fun k1 => ?_
  refine loopI (ι := { s : Nat × Nat × (List ByteArray) // l_toStringS_1 a0 s.1 s.2.1 s.2.2 = l_toStringS_1 a0 (a0.length + 1) 0 (List.replicate a0.length (⟨#[]⟩ : ByteArray)) ∧ (1 ≤ s.1 ∧ a0.length < s.1 + s.2.1 ∧ s.2.1 ≤ a0.length ∧ s.2.2.length = a0.length) }) (fun s => stOf 22 [(0, .one (.d (.sl 1 (a0.map sR))), []), (3, .one (.sref 7 0 0 s.1.2.2.length), []), (4, .one (.d (.int .i64 (↑s.1.2.1 : Int))), []), (7, .any, [.arr false 1 (s.1.2.2.map sR)])]) (fun s => s.1.1) ⟨((a0.length + 1), 0, (List.replicate a0.length (⟨#[]⟩ : ByteArray))), rfl, by first | omega | (dsimp only; omega) | simp⟩ (wk_keep (by simp)) ?_
  rintro ⟨⟨n1, v1_0, v1_1⟩, e1, j1⟩
  try dsimp only at e1 j1
  obtain ⟨p1, rfl⟩ : ∃ p, n1 = p + 1 := ⟨n1 - 1, by omega⟩
  simp
  refine condR (c := (decide ((↑v1_0 : Int) < (↑a0.length : Int)))) (by simp) (fun k2 h1 => ?_) (fun k2 h1 => ?_)
  · have q1 := h1; try simp at q1
    have i1 : v1_0 < a0.length := by simpa using h1
    have m2 : a0.length ≤ 9223372036854775807 := by simpa using k2 0 _ rfl
    have w1 : IntKind.i64.wrap ((v1_0 : Int) + 1) = (v1_0 : Int) + 1 := wrap_of (by omega) (by omega)
    have i2 : v1_0 < v1_1.length := by first | omega | (have hz := @List.length_pos_iff _ v1_1; simp_all; done) | ((try simp only [W_def, show ∀ x, IntKind.i64.wrap x = W x from fun _ => rfl] at *); omega)
    simp [i1, rowAt_map, i2, set_map (x := (nth a0 v1_0)) rfl]
    repeat ((with_reducible refine And.intro ?_ ?_); focus (intros; first | omega | ((try simp only [W_def, show ∀ x, IntKind.i64.wrap x = W x from fun _ => rfl] at *); omega)))
    refine nxtI ⟨(p1, (v1_0 + 1), (v1_1.set v1_0 (nth a0 v1_0))), ?_, ?_⟩ (by simp) (wk_keep (by simp [w1]))
    · rw [← e1]; simp only [l_toStringS_1, h1, cond_true, cond_false]
    · first | omega | (simp at *; omega)
  · have q1 := h1; try simp at q1
    have x1 : l_toStringS_1 a0 (a0.length + 1) 0 (List.replicate a0.length (⟨#[]⟩ : ByteArray)) = v1_1 := by rw [← e1]; simp only [l_toStringS_1, h1, cond_true, cond_false]
    simp
    refine retD (rv := [.tmp 2]) rfl ?_
    have f1 := l_toStringS.eq_1 a0
    simp only [x1, cond_true, cond_false] at f1
    simp [f1]
theorem l_toStringS_okI (a0 : List ByteArray) (u0 : Sm 2342912 a0) : SoundD Try.prog 113 [[.sl 1 (a0.map sR)]] [[.sl 1 (a0.map sR)]] := by
  have h := l_toStringS_ok a0 u0
  rwa [l_toStringS_id] at h
theorem l_toIntS_ok (a0 : List Int) (u0 : Sm 2342912 a0) : SoundD Try.prog 114 [[.sl 1 (a0.map iR)]] [[.sl 1 ((l_toIntS a0).map iR)]] := by
  refine sound_ofD Try.func114 rfl (by kernel_rfl) ?_
  have c1 : a0.length ≤ 2342912 := sm_len (by simp (maxDischargeDepth := 12) [u0])
  simp [Try.ntmps114]
  repeat ((with_reducible refine And.intro ?_ ?_); focus (intros; first | omega | ((try simp only [W_def, show ∀ x, IntKind.i64.wrap x = W x from fun _ => rfl] at *); omega)))
  refine okL fun k1 => ?_
  refine loopI (ι := { s : Nat × Nat × (List Int) // l_toIntS_1 a0 s.1 s.2.1 s.2.2 = l_toIntS_1 a0 (a0.length + 1) 0 (List.replicate a0.length 0) ∧ (1 ≤ s.1 ∧ a0.length < s.1 + s.2.1 ∧ s.2.1 ≤ a0.length ∧ s.2.2.length = a0.length) }) (fun s => stOf 22 [(0, .one (.d (.sl 1 (a0.map iR))), []), (3, .one (.sref 7 0 0 s.1.2.2.length), []), (4, .one (.d (.int .i64 (↑s.1.2.1 : Int))), []), (7, .any, [.arr false 1 (s.1.2.2.map iR)])]) (fun s => s.1.1) ⟨((a0.length + 1), 0, (List.replicate a0.length 0)), rfl, by first | omega | (dsimp only; omega) | simp⟩ (wk_keep (by simp)) ?_
  rintro ⟨⟨n1, v1_0, v1_1⟩, e1, j1⟩
  try dsimp only at e1 j1
  obtain ⟨p1, rfl⟩ : ∃ p, n1 = p + 1 := ⟨n1 - 1, by omega⟩
  simp
  refine condR (c := (decide ((↑v1_0 : Int) < (↑a0.length : Int)))) (by simp) (fun k2 h1 => ?_) (fun k2 h1 => ?_)
  · have q1 := h1; try simp at q1
    have i1 : v1_0 < a0.length := by simpa using h1
    have m2 : a0.length ≤ 9223372036854775807 := by simpa using k2 0 _ rfl
    have w1 : IntKind.i64.wrap ((v1_0 : Int) + 1) = (v1_0 : Int) + 1 := wrap_of (by omega) (by omega)
    have i2 : v1_0 < v1_1.length := by first | omega | (have hz := @List.length_pos_iff _ v1_1; simp_all; done) | ((try simp only [W_def, show ∀ x, IntKind.i64.wrap x = W x from fun _ => rfl] at *); omega)
    simp [i1, rowAt_map, i2, set_map (x := (nth a0 v1_0)) rfl]
    repeat ((with_reducible refine And.intro ?_ ?_); focus (intros; first | omega | ((try simp only [W_def, show ∀ x, IntKind.i64.wrap x = W x from fun _ => rfl] at *); omega)))
    refine nxtI ⟨(p1, (v1_0 + 1), (v1_1.set v1_0 (nth a0 v1_0))), ?_, ?_⟩ (by simp) (wk_keep (by simp [w1]))
    · rw [← e1]; simp only [l_toIntS_1, h1, cond_true, cond_false]
    · first | omega | (simp at *; omega)
  · have q1 := h1; try simp at q1
    have x1 : l_toIntS_1 a0 (a0.length + 1) 0 (List.replicate a0.length 0) = v1_1 := by rw [← e1]; simp only [l_toIntS_1, h1, cond_true, cond_false]
    simp
    refine retD (rv := [.tmp 2]) rfl ?_
    have f1 := l_toIntS.eq_1 a0
    simp only [x1, cond_true, cond_false] at f1
    simp [f1]
theorem l_toIntS_okI (a0 : List Int) (u0 : Sm 2342912 a0) : SoundD Try.prog 114 [[.sl 1 (a0.map iR)]] [[.sl 1 (a0.map iR)]] := by
  have h := l_toIntS_ok a0 u0
  rwa [l_toIntS_id] at h
theorem l_toDocument_ok (a0 : TDocument) (u0 : Sm 2338816 a0) : SoundD Try.prog 85 [a0.row] [(l_toDocument a0).row] := by
  refine sound_ofD Try.func85 rfl (by kernel_rfl) ?_
  simp [Try.ntmps85]
  refine callD [false] rfl rfl rfl rfl (l_toStringS_okI a0.Parts (sm_mono (n := 2338816) (by decide) (by simp (maxDischargeDepth := 12) [u0]))) (by simp) (by simp) (by simp) (by simp) ?_
  simp
  refine callD [false] rfl rfl rfl rfl (l_toIntS_okI a0.Salts (sm_mono (n := 2338816) (by decide) (by simp (maxDischargeDepth := 12) [u0]))) (by simp) (by simp) (by simp) (by simp) ?_
  simp
  refine retD (rv := [.cell 2 66]) rfl ?_
  have f1 := l_toDocument.eq_1 a0
  simp [f1]
theorem l_toDocument_okI (a0 : TDocument) (u0 : Sm 2338816 a0) : SoundD Try.prog 85 [a0.row] [a0.row] := by
  have h := l_toDocument_ok a0 u0
  rwa [l_toDocument_id] at h
theorem l_toSignature_ok (a0 : TSignature) : SoundAt Try.prog 86 false [a0.row] [(l_toSignature a0).row] := by
  refine sound_of Try.func86 rfl (by kernel_rfl) ?_
  simp [Try.ntmps86]
  refine retRd (rv := [.cell 2 68]) rfl ?_
  have f1 := l_toSignature.eq_1 a0
  simp [f1]
theorem l_toSignature_okI (a0 : TSignature) : SoundAt Try.prog 86 false [a0.row] [a0.row] := by
  have h := l_toSignature_ok a0
  rwa [l_toSignature_id] at h
theorem l_toPiece_ok (a0 : TPiece) (u0 : Sm 2338816 a0) : SoundD Try.prog 134 [a0.row] [(l_toPiece a0).row] := by
  refine sound_ofD Try.func134 rfl (by kernel_rfl) ?_
  simp [Try.ntmps134]
  refine callD [false] rfl rfl rfl rfl (l_toIntS_okI a0.Ints (sm_mono (n := 2338816) (by decide) (by simp (maxDischargeDepth := 12) [u0]))) (by simp) (by simp) (by simp) (by simp) ?_
  simp
  refine retD (rv := [.cell 2 155]) rfl ?_
  have f1 := l_toPiece.eq_1 a0
  simp [f1]
theorem l_toPiece_okI (a0 : TPiece) (u0 : Sm 2338816 a0) : SoundD Try.prog 134 [a0.row] [a0.row] := by
  have h := l_toPiece_ok a0 u0
  rwa [l_toPiece_id] at h
theorem l_toPieceS_ok (a0 : List TPiece) (u0 : Sm 2334720 a0) : SoundD Try.prog 115 [[.sl 3 (a0.map TPiece.row)]] [[.sl 3 ((l_toPieceS a0).map TPiece.row)]] := by
  refine sound_ofD Try.func115 rfl (by kernel_rfl) ?_
  have c1 : a0.length ≤ 2334720 := sm_len (by simp (maxDischargeDepth := 12) [u0])
  simp [Try.ntmps115]
  refine mkDI (n := a0.length) rfl rfl rfl rfl rfl rfl (by simp) (by simp) (by simp; omega) (by omega) ?_
  simp
  refine okL fun k1 => ?_
  refine loopI (ι := { s : Nat × Nat × (List TPiece) // l_toPieceS_1 a0 s.1 s.2.1 s.2.2 = l_toPieceS_1 a0 (a0.length + 1) 0 (List.replicate a0.length (TPiece.mk 0 ([] : List Int) 0)) ∧ (1 ≤ s.1 ∧ a0.length < s.1 + s.2.1 ∧ s.2.1 ≤ a0.length ∧ s.2.2.length = a0.length) }) (fun s => stOf 23 [(0, .one (.d (.sl 3 (a0.map TPiece.row))), []), (3, .one (.sref 7 0 0 s.1.2.2.length), []), (4, .one (.d (.int .i64 (↑s.1.2.1 : Int))), []), (7, .any, [.arr true 3 (s.1.2.2.map TPiece.row)])]) (fun s => s.1.1) ⟨((a0.length + 1), 0, (List.replicate a0.length (TPiece.mk 0 ([] : List Int) 0))), rfl, by first | omega | (dsimp only; omega) | simp⟩ (wk_keep (by simp)) ?_
  rintro ⟨⟨n1, v1_0, v1_1⟩, e1, j1⟩
  try dsimp only at e1 j1
  obtain ⟨p1, rfl⟩ : ∃ p, n1 = p + 1 := ⟨n1 - 1, by omega⟩
  simp
  refine condR (c := (decide ((↑v1_0 : Int) < (↑a0.length : Int)))) (by simp) (fun k2 h1 => ?_) (fun k2 h1 => ?_)
  · have q1 := h1; try simp at q1
    have i1 : v1_0 < a0.length := by simpa using h1
    have m2 : a0.length ≤ 9223372036854775807 := by simpa using k2 0 _ rfl
    have w1 : IntKind.i64.wrap ((v1_0 : Int) + 1) = (v1_0 : Int) + 1 := wrap_of (by omega) (by omega)
    simp [i1, rowAt_map]
    repeat ((with_reducible refine And.intro ?_ ?_); focus (intros; first | omega | ((try simp only [W_def, show ∀ x, IntKind.i64.wrap x = W x from fun _ => rfl] at *); omega)))
    refine callD [true, false] rfl rfl rfl rfl (l_toPiece_okI (nth a0 v1_0) (sm_mono (n := 2334720) (by decide) (by simp (maxDischargeDepth := 12) [u0]))) (by simp) (by simp) (by simp) (by simp) ?_
    have i2 : v1_0 < v1_1.length := by first | omega | (have hz := @List.length_pos_iff _ v1_1; simp_all; done) | ((try simp only [W_def, show ∀ x, IntKind.i64.wrap x = W x from fun _ => rfl] at *); omega)
    simp [i2, rowAt_map]
    repeat ((with_reducible refine And.intro ?_ ?_); focus (intros; first | omega | ((try simp only [W_def, show ∀ x, IntKind.i64.wrap x = W x from fun _ => rfl] at *); omega)))
    refine stMI (t := 7) (j := 0) (i := v1_0) (c := 0) (size := 3) (rows := (v1_1.map TPiece.row)) (ds := (nth a0 v1_0).row) (L := [(20, 1)]) rfl rfl rfl rfl (by simp) (by simp) (by simp; try omega) (by simp) (by simp) (by simp) (by simp) (by simp) (by simp) ?_
    simp [set_map (x := (nth a0 v1_0)) rfl, i2, rowAt_map, rowAt_set_self]
    repeat ((with_reducible refine And.intro ?_ ?_); focus (intros; first | omega | ((try simp only [W_def, show ∀ x, IntKind.i64.wrap x = W x from fun _ => rfl] at *); omega)))
    refine nxtI ⟨(p1, (v1_0 + 1), (v1_1.set v1_0 (nth a0 v1_0))), ?_, ?_⟩ (by simp) (wk_keep (by simp [w1]))
    · rw [← e1]; simp only [l_toPieceS_1, h1, cond_true, cond_false]
    · first | omega | (simp at *; omega)
  · have q1 := h1; try simp at q1
    have x1 : l_toPieceS_1 a0 (a0.length + 1) 0 (List.replicate a0.length (TPiece.mk 0 ([] : List Int) 0)) = v1_1 := by rw [← e1]; simp only [l_toPieceS_1, h1, cond_true, cond_false]
    simp
    refine retD (rv := [.tmp 2]) rfl ?_
    have f1 := l_toPieceS.eq_1 a0
    simp only [x1, cond_true, cond_false] at f1
    simp [f1]
theorem l_toPieceS_okI (a0 : List TPiece) (u0 : Sm 2334720 a0) : SoundD Try.prog 115 [[.sl 3 (a0.map TPiece.row)]] [[.sl 3 (a0.map TPiece.row)]] := by
  have h := l_toPieceS_ok a0 u0
  rwa [l_toPieceS_id] at h
theorem l_toStep_ok (a0 : TStep) : SoundAt Try.prog 149 false [a0.row] [(l_toStep a0).row] := by
  refine sound_of Try.func149 rfl (by kernel_rfl) ?_
  simp [Try.ntmps149]
  refine retRd (rv := [.cell 2 175]) rfl ?_
  have f1 := l_toStep.eq_1 a0
  simp [f1]
theorem l_toStep_okI (a0 : TStep) : SoundAt Try.prog 149 false [a0.row] [a0.row] := by
  have h := l_toStep_ok a0
  rwa [l_toStep_id] at h
theorem l_toStepS_ok (a0 : List TStep) (u0 : Sm 2338816 a0) : SoundD Try.prog 143 [[.sl 2 (a0.map TStep.row)]] [[.sl 2 ((l_toStepS a0).map TStep.row)]] := by
  refine sound_ofD Try.func143 rfl (by kernel_rfl) ?_
  have c1 : a0.length ≤ 2338816 := sm_len (by simp (maxDischargeDepth := 12) [u0])
  simp [Try.ntmps143]
  repeat ((with_reducible refine And.intro ?_ ?_); focus (intros; first | omega | ((try simp only [W_def, show ∀ x, IntKind.i64.wrap x = W x from fun _ => rfl] at *); omega)))
  refine okL fun k1 => ?_
  refine loopI (ι := { s : Nat × Nat × (List TStep) // l_toStepS_1 a0 s.1 s.2.1 s.2.2 = l_toStepS_1 a0 (a0.length + 1) 0 (List.replicate a0.length (TStep.mk 0 false)) ∧ (1 ≤ s.1 ∧ a0.length < s.1 + s.2.1 ∧ s.2.1 ≤ a0.length ∧ s.2.2.length = a0.length) }) (fun s => stOf 23 [(0, .one (.d (.sl 2 (a0.map TStep.row))), []), (3, .one (.sref 7 0 0 s.1.2.2.length), []), (4, .one (.d (.int .i64 (↑s.1.2.1 : Int))), []), (7, .any, [.arr false 2 (s.1.2.2.map TStep.row)])]) (fun s => s.1.1) ⟨((a0.length + 1), 0, (List.replicate a0.length (TStep.mk 0 false))), rfl, by first | omega | (dsimp only; omega) | simp⟩ (wk_keep (by simp)) ?_
  rintro ⟨⟨n1, v1_0, v1_1⟩, e1, j1⟩
  try dsimp only at e1 j1
  obtain ⟨p1, rfl⟩ : ∃ p, n1 = p + 1 := ⟨n1 - 1, by omega⟩
  simp
  refine condR (c := (decide ((↑v1_0 : Int) < (↑a0.length : Int)))) (by simp) (fun k2 h1 => ?_) (fun k2 h1 => ?_)
  · have q1 := h1; try simp at q1
    have i1 : v1_0 < a0.length := by simpa using h1
    have m2 : a0.length ≤ 9223372036854775807 := by simpa using k2 0 _ rfl
    have w1 : IntKind.i64.wrap ((v1_0 : Int) + 1) = (v1_0 : Int) + 1 := wrap_of (by omega) (by omega)
    simp [i1, rowAt_map]
    repeat ((with_reducible refine And.intro ?_ ?_); focus (intros; first | omega | ((try simp only [W_def, show ∀ x, IntKind.i64.wrap x = W x from fun _ => rfl] at *); omega)))
    refine callRd rfl rfl rfl rfl (l_toStep_okI (nth a0 v1_0)) (by simp) (by simp) (by simp) ?_
    have i2 : v1_0 < v1_1.length := by first | omega | (have hz := @List.length_pos_iff _ v1_1; simp_all; done) | ((try simp only [W_def, show ∀ x, IntKind.i64.wrap x = W x from fun _ => rfl] at *); omega)
    simp [i2, rowAt_map, set_map (x := (nth a0 v1_0)) rfl]
    repeat ((with_reducible refine And.intro ?_ ?_); focus (intros; first | omega | ((try simp only [W_def, show ∀ x, IntKind.i64.wrap x = W x from fun _ => rfl] at *); omega)))
    refine nxtI ⟨(p1, (v1_0 + 1), (v1_1.set v1_0 (nth a0 v1_0))), ?_, ?_⟩ (by simp) (wk_keep (by simp [w1]))
    · rw [← e1]; simp only [l_toStepS_1, h1, cond_true, cond_false]
    · first | omega | (simp at *; omega)
  · have q1 := h1; try simp at q1
    have x1 : l_toStepS_1 a0 (a0.length + 1) 0 (List.replicate a0.length (TStep.mk 0 false)) = v1_1 := by rw [← e1]; simp only [l_toStepS_1, h1, cond_true, cond_false]
    simp
    refine retD (rv := [.tmp 2]) rfl ?_
    have f1 := l_toStepS.eq_1 a0
    simp only [x1, cond_true, cond_false] at f1
    simp [f1]
theorem l_toStepS_okI (a0 : List TStep) (u0 : Sm 2338816 a0) : SoundD Try.prog 143 [[.sl 2 (a0.map TStep.row)]] [[.sl 2 (a0.map TStep.row)]] := by
  have h := l_toStepS_ok a0 u0
  rwa [l_toStepS_id] at h
theorem l_toStamp_ok (a0 : TStamp) : SoundAt Try.prog 150 false [a0.row] [(l_toStamp a0).row] := by
  refine sound_of Try.func150 rfl (by kernel_rfl) ?_
  simp [Try.ntmps150]
  refine retRd (rv := [.cell 2 148]) rfl ?_
  have f1 := l_toStamp.eq_1 a0
  simp [f1]
theorem l_toStamp_okI (a0 : TStamp) : SoundAt Try.prog 150 false [a0.row] [a0.row] := by
  have h := l_toStamp_ok a0
  rwa [l_toStamp_id] at h
theorem l_toStampS_ok (a0 : List TStamp) (u0 : Sm 2338816 a0) : SoundD Try.prog 144 [[.sl 5 (a0.map TStamp.row)]] [[.sl 5 ((l_toStampS a0).map TStamp.row)]] := by
  refine sound_ofD Try.func144 rfl (by kernel_rfl) ?_
  have c1 : a0.length ≤ 2338816 := sm_len (by simp (maxDischargeDepth := 12) [u0])
  simp [Try.ntmps144]
  repeat ((with_reducible refine And.intro ?_ ?_); focus (intros; first | omega | ((try simp only [W_def, show ∀ x, IntKind.i64.wrap x = W x from fun _ => rfl] at *); omega)))
  refine okL fun k1 => ?_
  refine loopI (ι := { s : Nat × Nat × (List TStamp) // l_toStampS_1 a0 s.1 s.2.1 s.2.2 = l_toStampS_1 a0 (a0.length + 1) 0 (List.replicate a0.length (TStamp.mk 0 0 0 0 0)) ∧ (1 ≤ s.1 ∧ a0.length < s.1 + s.2.1 ∧ s.2.1 ≤ a0.length ∧ s.2.2.length = a0.length) }) (fun s => stOf 23 [(0, .one (.d (.sl 5 (a0.map TStamp.row))), []), (3, .one (.sref 7 0 0 s.1.2.2.length), []), (4, .one (.d (.int .i64 (↑s.1.2.1 : Int))), []), (7, .any, [.arr false 5 (s.1.2.2.map TStamp.row)])]) (fun s => s.1.1) ⟨((a0.length + 1), 0, (List.replicate a0.length (TStamp.mk 0 0 0 0 0))), rfl, by first | omega | (dsimp only; omega) | simp⟩ (wk_keep (by simp)) ?_
  rintro ⟨⟨n1, v1_0, v1_1⟩, e1, j1⟩
  try dsimp only at e1 j1
  obtain ⟨p1, rfl⟩ : ∃ p, n1 = p + 1 := ⟨n1 - 1, by omega⟩
  simp
  refine condR (c := (decide ((↑v1_0 : Int) < (↑a0.length : Int)))) (by simp) (fun k2 h1 => ?_) (fun k2 h1 => ?_)
  · have q1 := h1; try simp at q1
    have i1 : v1_0 < a0.length := by simpa using h1
    have m2 : a0.length ≤ 9223372036854775807 := by simpa using k2 0 _ rfl
    have w1 : IntKind.i64.wrap ((v1_0 : Int) + 1) = (v1_0 : Int) + 1 := wrap_of (by omega) (by omega)
    simp [i1, rowAt_map]
    repeat ((with_reducible refine And.intro ?_ ?_); focus (intros; first | omega | ((try simp only [W_def, show ∀ x, IntKind.i64.wrap x = W x from fun _ => rfl] at *); omega)))
    refine callRd rfl rfl rfl rfl (l_toStamp_okI (nth a0 v1_0)) (by simp) (by simp) (by simp) ?_
    have i2 : v1_0 < v1_1.length := by first | omega | (have hz := @List.length_pos_iff _ v1_1; simp_all; done) | ((try simp only [W_def, show ∀ x, IntKind.i64.wrap x = W x from fun _ => rfl] at *); omega)
    simp [i2, rowAt_map, set_map (x := (nth a0 v1_0)) rfl]
    repeat ((with_reducible refine And.intro ?_ ?_); focus (intros; first | omega | ((try simp only [W_def, show ∀ x, IntKind.i64.wrap x = W x from fun _ => rfl] at *); omega)))
    refine nxtI ⟨(p1, (v1_0 + 1), (v1_1.set v1_0 (nth a0 v1_0))), ?_, ?_⟩ (by simp) (wk_keep (by simp [w1]))
    · rw [← e1]; simp only [l_toStampS_1, h1, cond_true, cond_false]
    · first | omega | (simp at *; omega)
  · have q1 := h1; try simp at q1
    have x1 : l_toStampS_1 a0 (a0.length + 1) 0 (List.replicate a0.length (TStamp.mk 0 0 0 0 0)) = v1_1 := by rw [← e1]; simp only [l_toStampS_1, h1, cond_true, cond_false]
    simp
    refine retD (rv := [.tmp 2]) rfl ?_
    have f1 := l_toStampS.eq_1 a0
    simp only [x1, cond_true, cond_false] at f1
    simp [f1]
theorem l_toStampS_okI (a0 : List TStamp) (u0 : Sm 2338816 a0) : SoundD Try.prog 144 [[.sl 5 (a0.map TStamp.row)]] [[.sl 5 (a0.map TStamp.row)]] := by
  have h := l_toStampS_ok a0 u0
  rwa [l_toStampS_id] at h
theorem l_toRenewal_ok (a0 : TRenewal) (u0 : Sm 2334720 a0) : SoundD Try.prog 135 [a0.row] [(l_toRenewal a0).row] := by
  refine sound_ofD Try.func135 rfl (by kernel_rfl) ?_
  simp [Try.ntmps135]
  refine callD [false] rfl rfl rfl rfl (l_toStepS_okI a0.Path (sm_mono (n := 2334720) (by decide) (by simp (maxDischargeDepth := 12) [u0]))) (by simp) (by simp) (by simp) (by simp) ?_
  simp
  refine callD [false] rfl rfl rfl rfl (l_toStampS_okI a0.Stamps (sm_mono (n := 2334720) (by decide) (by simp (maxDischargeDepth := 12) [u0]))) (by simp) (by simp) (by simp) (by simp) ?_
  simp
  refine retD (rv := [.cell 2 126]) rfl ?_
  have f1 := l_toRenewal.eq_1 a0
  simp [f1]
theorem l_toRenewal_okI (a0 : TRenewal) (u0 : Sm 2334720 a0) : SoundD Try.prog 135 [a0.row] [a0.row] := by
  have h := l_toRenewal_ok a0 u0
  rwa [l_toRenewal_id] at h
theorem l_toRenewalS_ok (a0 : List TRenewal) (u0 : Sm 2330624 a0) : SoundD Try.prog 116 [[.sl 5 (a0.map TRenewal.row)]] [[.sl 5 ((l_toRenewalS a0).map TRenewal.row)]] := by
  refine sound_ofD Try.func116 rfl (by kernel_rfl) ?_
  have c1 : a0.length ≤ 2330624 := sm_len (by simp (maxDischargeDepth := 12) [u0])
  simp [Try.ntmps116]
  refine mkDI (n := a0.length) rfl rfl rfl rfl rfl rfl (by simp) (by simp) (by simp; omega) (by omega) ?_
  simp
  refine okL fun k1 => ?_
  refine loopI (ι := { s : Nat × Nat × (List TRenewal) // l_toRenewalS_1 a0 s.1 s.2.1 s.2.2 = l_toRenewalS_1 a0 (a0.length + 1) 0 (List.replicate a0.length (TRenewal.mk 0 0 0 ([] : List TStep) ([] : List TStamp))) ∧ (1 ≤ s.1 ∧ a0.length < s.1 + s.2.1 ∧ s.2.1 ≤ a0.length ∧ s.2.2.length = a0.length) }) (fun s => stOf 23 [(0, .one (.d (.sl 5 (a0.map TRenewal.row))), []), (3, .one (.sref 7 0 0 s.1.2.2.length), []), (4, .one (.d (.int .i64 (↑s.1.2.1 : Int))), []), (7, .any, [.arr true 5 (s.1.2.2.map TRenewal.row)])]) (fun s => s.1.1) ⟨((a0.length + 1), 0, (List.replicate a0.length (TRenewal.mk 0 0 0 ([] : List TStep) ([] : List TStamp)))), rfl, by first | omega | (dsimp only; omega) | simp⟩ (wk_keep (by simp)) ?_
  rintro ⟨⟨n1, v1_0, v1_1⟩, e1, j1⟩
  try dsimp only at e1 j1
  obtain ⟨p1, rfl⟩ : ∃ p, n1 = p + 1 := ⟨n1 - 1, by omega⟩
  simp
  refine condR (c := (decide ((↑v1_0 : Int) < (↑a0.length : Int)))) (by simp) (fun k2 h1 => ?_) (fun k2 h1 => ?_)
  · have q1 := h1; try simp at q1
    have i1 : v1_0 < a0.length := by simpa using h1
    have m2 : a0.length ≤ 9223372036854775807 := by simpa using k2 0 _ rfl
    have w1 : IntKind.i64.wrap ((v1_0 : Int) + 1) = (v1_0 : Int) + 1 := wrap_of (by omega) (by omega)
    simp [i1, rowAt_map]
    repeat ((with_reducible refine And.intro ?_ ?_); focus (intros; first | omega | ((try simp only [W_def, show ∀ x, IntKind.i64.wrap x = W x from fun _ => rfl] at *); omega)))
    refine callD [true, true, true, false, false] rfl rfl rfl rfl (l_toRenewal_okI (nth a0 v1_0) (sm_mono (n := 2330624) (by decide) (by simp (maxDischargeDepth := 12) [u0]))) (by simp) (by simp) (by simp) (by simp) ?_
    have i2 : v1_0 < v1_1.length := by first | omega | (have hz := @List.length_pos_iff _ v1_1; simp_all; done) | ((try simp only [W_def, show ∀ x, IntKind.i64.wrap x = W x from fun _ => rfl] at *); omega)
    simp [i2, rowAt_map]
    repeat ((with_reducible refine And.intro ?_ ?_); focus (intros; first | omega | ((try simp only [W_def, show ∀ x, IntKind.i64.wrap x = W x from fun _ => rfl] at *); omega)))
    refine stMI (t := 7) (j := 0) (i := v1_0) (c := 0) (size := 5) (rows := (v1_1.map TRenewal.row)) (ds := (nth a0 v1_0).row) (L := [(20, 3), (20, 4)]) rfl rfl rfl rfl (by simp) (by simp) (by simp; try omega) (by simp) (by simp) (by simp) (by simp) (by simp) (by simp) ?_
    simp [set_map (x := (nth a0 v1_0)) rfl, i2, rowAt_map, rowAt_set_self]
    repeat ((with_reducible refine And.intro ?_ ?_); focus (intros; first | omega | ((try simp only [W_def, show ∀ x, IntKind.i64.wrap x = W x from fun _ => rfl] at *); omega)))
    refine nxtI ⟨(p1, (v1_0 + 1), (v1_1.set v1_0 (nth a0 v1_0))), ?_, ?_⟩ (by simp) (wk_keep (by simp [w1]))
    · rw [← e1]; simp only [l_toRenewalS_1, h1, cond_true, cond_false]
    · first | omega | (simp at *; omega)
  · have q1 := h1; try simp at q1
    have x1 : l_toRenewalS_1 a0 (a0.length + 1) 0 (List.replicate a0.length (TRenewal.mk 0 0 0 ([] : List TStep) ([] : List TStamp))) = v1_1 := by rw [← e1]; simp only [l_toRenewalS_1, h1, cond_true, cond_false]
    simp
    refine retD (rv := [.tmp 2]) rfl ?_
    have f1 := l_toRenewalS.eq_1 a0
    simp only [x1, cond_true, cond_false] at f1
    simp [f1]
theorem l_toRenewalS_okI (a0 : List TRenewal) (u0 : Sm 2330624 a0) : SoundD Try.prog 116 [[.sl 5 (a0.map TRenewal.row)]] [[.sl 5 (a0.map TRenewal.row)]] := by
  have h := l_toRenewalS_ok a0 u0
  rwa [l_toRenewalS_id] at h
theorem l_toStrand_ok (a0 : TStrand) (u0 : Sm 2326528 a0) : SoundD Try.prog 87 [a0.row] [(l_toStrand a0).row] := by
  refine sound_ofD Try.func87 rfl (by kernel_rfl) ?_
  simp [Try.ntmps87]
  refine callD [] rfl rfl rfl rfl (l_toPieceS_okI a0.Pieces (sm_mono (n := 2326528) (by decide) (by simp (maxDischargeDepth := 12) [u0]))) (by simp) (by simp) (by simp) (by simp) ?_
  simp
  refine callD [] rfl rfl rfl rfl (l_toRenewalS_okI a0.Chain (sm_mono (n := 2326528) (by decide) (by simp (maxDischargeDepth := 12) [u0]))) (by simp) (by simp) (by simp) (by simp) ?_
  simp
  refine retD (rv := [.cell 2 72]) rfl ?_
  have f1 := l_toStrand.eq_1 a0
  simp [f1]
theorem l_toStrand_okI (a0 : TStrand) (u0 : Sm 2326528 a0) : SoundD Try.prog 87 [a0.row] [a0.row] := by
  have h := l_toStrand_ok a0 u0
  rwa [l_toStrand_id] at h
theorem l_toItem_ok (a0 : TItem) (u0 : Sm 2322432 a0) : SoundD Try.prog 62 [a0.row] [(l_toItem a0).row] := by
  refine sound_ofD Try.func62 rfl (by kernel_rfl) ?_
  simp [Try.ntmps62]
  refine callD [true, false, false] rfl rfl rfl rfl (l_toDocument_okI a0.Doc (sm_mono (n := 2322432) (by decide) (by simp (maxDischargeDepth := 12) [u0]))) (by simp) (by simp) (by simp) (by simp) ?_
  simp
  refine callRd rfl rfl rfl rfl (l_toSignature_okI a0.Sig) (by simp) (by simp) (by simp) ?_
  simp
  refine callD [] rfl rfl rfl rfl (l_toStrand_okI a0.Strand (sm_mono (n := 2322432) (by decide) (by simp (maxDischargeDepth := 12) [u0]))) (by simp) (by simp) (by simp) (by simp) ?_
  simp
  refine retD (rv := [.cell 2 74]) rfl ?_
  have f1 := l_toItem.eq_1 a0
  simp [f1]
theorem l_toItem_okI (a0 : TItem) (u0 : Sm 2322432 a0) : SoundD Try.prog 62 [a0.row] [a0.row] := by
  have h := l_toItem_ok a0 u0
  rwa [l_toItem_id] at h
theorem l_toItemS_ok (a0 : List TItem) (u0 : Sm 2318336 a0) : SoundD Try.prog 31 [[.sl 16 (a0.map TItem.row)]] [[.sl 16 ((l_toItemS a0).map TItem.row)]] := by
  refine sound_ofD Try.func31 rfl (by kernel_rfl) ?_
  have c1 : a0.length ≤ 2318336 := sm_len (by simp (maxDischargeDepth := 12) [u0])
  simp [Try.ntmps31]
  refine mkDI (n := a0.length) rfl rfl rfl rfl rfl rfl (by simp) (by simp) (by simp; omega) (by omega) ?_
  simp
  refine okL fun k1 => ?_
  refine loopI (ι := { s : Nat × Nat × (List TItem) // l_toItemS_1 a0 s.1 s.2.1 s.2.2 = l_toItemS_1 a0 (a0.length + 1) 0 (List.replicate a0.length (TItem.mk 0 0 (TDocument.mk 0 ([] : List ByteArray) ([] : List Int)) (TSignature.mk 0 0 0 0 0 0 0 0 0) (TStrand.mk ([] : List TPiece) ([] : List TRenewal)))) ∧ (1 ≤ s.1 ∧ a0.length < s.1 + s.2.1 ∧ s.2.1 ≤ a0.length ∧ s.2.2.length = a0.length) }) (fun s => stOf 23 [(0, .one (.d (.sl 16 (a0.map TItem.row))), []), (3, .one (.sref 7 0 0 s.1.2.2.length), []), (4, .one (.d (.int .i64 (↑s.1.2.1 : Int))), []), (7, .any, [.arr true 16 (s.1.2.2.map TItem.row)])]) (fun s => s.1.1) ⟨((a0.length + 1), 0, (List.replicate a0.length (TItem.mk 0 0 (TDocument.mk 0 ([] : List ByteArray) ([] : List Int)) (TSignature.mk 0 0 0 0 0 0 0 0 0) (TStrand.mk ([] : List TPiece) ([] : List TRenewal))))), rfl, by first | omega | (dsimp only; omega) | simp⟩ (wk_keep (by simp)) ?_
  rintro ⟨⟨n1, v1_0, v1_1⟩, e1, j1⟩
  try dsimp only at e1 j1
  obtain ⟨p1, rfl⟩ : ∃ p, n1 = p + 1 := ⟨n1 - 1, by omega⟩
  simp
  refine condR (c := (decide ((↑v1_0 : Int) < (↑a0.length : Int)))) (by simp) (fun k2 h1 => ?_) (fun k2 h1 => ?_)
  · have q1 := h1; try simp at q1
    have i1 : v1_0 < a0.length := by simpa using h1
    have m2 : a0.length ≤ 9223372036854775807 := by simpa using k2 0 _ rfl
    have w1 : IntKind.i64.wrap ((v1_0 : Int) + 1) = (v1_0 : Int) + 1 := wrap_of (by omega) (by omega)
    simp [i1, rowAt_map]
    repeat ((with_reducible refine And.intro ?_ ?_); focus (intros; first | omega | ((try simp only [W_def, show ∀ x, IntKind.i64.wrap x = W x from fun _ => rfl] at *); omega)))
    refine callD [true, true, true, false, false] rfl rfl rfl rfl (l_toItem_okI (nth a0 v1_0) (sm_mono (n := 2318336) (by decide) (by simp (maxDischargeDepth := 12) [u0]))) (by simp) (by simp) (by simp) (by simp) ?_
    have i2 : v1_0 < v1_1.length := by first | omega | (have hz := @List.length_pos_iff _ v1_1; simp_all; done) | ((try simp only [W_def, show ∀ x, IntKind.i64.wrap x = W x from fun _ => rfl] at *); omega)
    simp [i2, rowAt_map]
    repeat ((with_reducible refine And.intro ?_ ?_); focus (intros; first | omega | ((try simp only [W_def, show ∀ x, IntKind.i64.wrap x = W x from fun _ => rfl] at *); omega)))
    refine stMI (t := 7) (j := 0) (i := v1_0) (c := 0) (size := 16) (rows := (v1_1.map TItem.row)) (ds := (nth a0 v1_0).row) (L := [(20, 3), (20, 4), (20, 14), (20, 15)]) rfl rfl rfl rfl (by simp) (by simp) (by simp; try omega) (by simp) (by simp) (by simp) (by simp) (by simp) (by simp) ?_
    simp [set_map (x := (nth a0 v1_0)) rfl, i2, rowAt_map, rowAt_set_self]
    repeat ((with_reducible refine And.intro ?_ ?_); focus (intros; first | omega | ((try simp only [W_def, show ∀ x, IntKind.i64.wrap x = W x from fun _ => rfl] at *); omega)))
    refine nxtI ⟨(p1, (v1_0 + 1), (v1_1.set v1_0 (nth a0 v1_0))), ?_, ?_⟩ (by simp) (wk_keep (by simp [w1]))
    · rw [← e1]; simp only [l_toItemS_1, h1, cond_true, cond_false]
    · first | omega | (simp at *; omega)
  · have q1 := h1; try simp at q1
    have x1 : l_toItemS_1 a0 (a0.length + 1) 0 (List.replicate a0.length (TItem.mk 0 0 (TDocument.mk 0 ([] : List ByteArray) ([] : List Int)) (TSignature.mk 0 0 0 0 0 0 0 0 0) (TStrand.mk ([] : List TPiece) ([] : List TRenewal)))) = v1_1 := by rw [← e1]; simp only [l_toItemS_1, h1, cond_true, cond_false]
    simp
    refine retD (rv := [.tmp 2]) rfl ?_
    have f1 := l_toItemS.eq_1 a0
    simp only [x1, cond_true, cond_false] at f1
    simp [f1]
theorem l_toItemS_okI (a0 : List TItem) (u0 : Sm 2318336 a0) : SoundD Try.prog 31 [[.sl 16 (a0.map TItem.row)]] [[.sl 16 (a0.map TItem.row)]] := by
  have h := l_toItemS_ok a0 u0
  rwa [l_toItemS_id] at h
theorem l_toArchive_ok (a0 : TArchive) (u0 : Sm 2314240 a0) : SoundD Try.prog 9 [a0.row] [(l_toArchive a0).row] := by
  refine sound_ofD Try.func9 rfl (by kernel_rfl) ?_
  simp [Try.ntmps9]
  refine callD [] rfl rfl rfl rfl (l_toItemS_okI a0.Items (sm_mono (n := 2314240) (by decide) (by simp (maxDischargeDepth := 12) [u0]))) (by simp) (by simp) (by simp) (by simp) ?_
  simp
  refine retD (rv := [.cell 2 42]) rfl ?_
  have f1 := l_toArchive.eq_1 a0
  simp [f1]
theorem l_toArchive_okI (a0 : TArchive) (u0 : Sm 2314240 a0) : SoundD Try.prog 9 [a0.row] [a0.row] := by
  have h := l_toArchive_ok a0 u0
  rwa [l_toArchive_id] at h
theorem s_FindMethod_ok (a0 : List TMethod) (a1 : Int) : SoundAt Try.prog 132 false [[.sl 4 (a0.map TMethod.row)], [.int .i64 a1]] [[.int .i64 (s_FindMethod a0 a1)]] := by
  refine sound_of Try.func132 rfl (by kernel_rfl) ?_
  simp [Try.ntmps132]
  refine okL fun k1 => ?_
  refine loopI (ι := { s : Nat × Nat // s_FindMethod_1 a0 a1 s.1 s.2 = s_FindMethod_1 a0 a1 (a0.length + 1) 0 ∧ (1 ≤ s.1 ∧ a0.length < s.1 + s.2 ∧ s.2 ≤ a0.length) }) (fun s => stOf 20 [(0, .one (.d (.sl 4 (a0.map TMethod.row))), []), (1, .one (.d (.int .i64 a1)), []), (5, .one (.d (.int .i64 (↑s.1.2 : Int))), [])]) (fun s => s.1.1) ⟨((a0.length + 1), 0), rfl, by first | omega | (dsimp only; omega) | simp⟩ (wk_keep (by simp)) ?_
  rintro ⟨⟨n1, v1_0⟩, e1, j1⟩
  try dsimp only at e1 j1
  obtain ⟨p1, rfl⟩ : ∃ p, n1 = p + 1 := ⟨n1 - 1, by omega⟩
  simp
  refine condR (c := (decide ((↑v1_0 : Int) < (↑a0.length : Int)))) (by simp) (fun k2 h1 => ?_) (fun k2 h1 => ?_)
  · have q1 := h1; try simp at q1
    have i1 : v1_0 < a0.length := by simpa using h1
    have m2 : a0.length ≤ 9223372036854775807 := by simpa using k2 0 _ rfl
    have w1 : IntKind.i64.wrap ((v1_0 : Int) + 1) = (v1_0 : Int) + 1 := wrap_of (by omega) (by omega)
    simp [i1, rowAt_map]
    repeat ((with_reducible refine And.intro ?_ ?_); focus (intros; first | omega | ((try simp only [W_def, show ∀ x, IntKind.i64.wrap x = W x from fun _ => rfl] at *); omega)))
    refine condR (c := ((nth a0 v1_0).Id == a1)) (by simp) (fun k3 h2 => ?_) (fun k3 h2 => ?_)
    · have q2 := h2; try simp at q2
      have x1 : s_FindMethod_1 a0 a1 (a0.length + 1) 0 = .inl (↑v1_0 : Int) := by rw [← e1]; simp only [s_FindMethod_1, h1, h2, cond_true, cond_false]
      simp
      refine retRd (rv := [.tmp 4]) rfl ?_
      have f1 := s_FindMethod.eq_1 a0 a1
      simp only [x1, cond_true, cond_false] at f1
      simp [f1]
    · have q2 := h2; try simp at q2
      simp
      refine nxtI ⟨(p1, (v1_0 + 1)), ?_, ?_⟩ (by simp) (wk_keep (by simp [w1]))
      · rw [← e1]; simp only [s_FindMethod_1, h1, h2, cond_true, cond_false]
      · first | omega | (simp at *; omega)
  · have q1 := h1; try simp at q1
    have x2 : s_FindMethod_1 a0 a1 (a0.length + 1) 0 = .inr () := by rw [← e1]; simp only [s_FindMethod_1, h1, cond_true, cond_false]
    simp
    refine retRd (rv := [.tmp 4]) rfl ?_
    have f2 := s_FindMethod.eq_1 a0 a1
    simp only [x2, cond_true, cond_false] at f2
    simp [f2]
theorem s_l32Ends_ok (a0 : List TMethod) (a1 : Int) : SoundAt Try.prog 111 false [[.sl 4 (a0.map TMethod.row)], [.int .i64 a1]] [[.int .i64 (s_l32Ends a0 a1)]] := by
  refine sound_of Try.func111 rfl (by kernel_rfl) ?_
  simp [Try.ntmps111]
  refine callRd rfl rfl rfl rfl (s_FindMethod_ok a0 a1) (by simp) (by simp) (by simp) ?_
  simp
  refine condR (c := (decide ((s_FindMethod a0 a1) < 0))) (by simp) (fun k1 h1 => ?_) (fun k1 h1 => ?_)
  · have q1 := h1; try simp at q1
    simp
    refine retRd (rv := [.tmp 4]) rfl ?_
    have f1 := s_l32Ends.eq_1 a0 a1
    simp only [h1, cond_true, cond_false] at f1
    simp [f1]
  · have q1 := h1; try simp at q1
    have i1 : (s_FindMethod a0 a1).toNat < a0.length := by have := s_FindMethod_lt a0 a1; first | omega | (have hz := @List.length_pos_iff _ a0; simp_all; done) | ((try simp only [W_def, show ∀ x, IntKind.i64.wrap x = W x from fun _ => rfl] at *); omega)
    simp [i1, rowAt_map]
    repeat ((with_reducible refine And.intro ?_ ?_); focus (intros; first | omega | ((try simp only [W_def, show ∀ x, IntKind.i64.wrap x = W x from fun _ => rfl] at *); omega)))
    refine retRd (rv := [.tmp 4]) rfl ?_
    have f2 := s_l32Ends.eq_1 a0 a1
    simp only [h1, cond_true, cond_false] at f2
    simp [f2]
theorem s_FindAuthority_ok (a0 : List TAuthority) (a1 : Int) : SoundAt Try.prog 133 false [[.sl 3 (a0.map TAuthority.row)], [.int .i64 a1]] [[.int .i64 (s_FindAuthority a0 a1)]] := by
  refine sound_of Try.func133 rfl (by kernel_rfl) ?_
  simp [Try.ntmps133]
  refine okL fun k1 => ?_
  refine loopI (ι := { s : Nat × Nat // s_FindAuthority_1 a0 a1 s.1 s.2 = s_FindAuthority_1 a0 a1 (a0.length + 1) 0 ∧ (1 ≤ s.1 ∧ a0.length < s.1 + s.2 ∧ s.2 ≤ a0.length) }) (fun s => stOf 20 [(0, .one (.d (.sl 3 (a0.map TAuthority.row))), []), (1, .one (.d (.int .i64 a1)), []), (5, .one (.d (.int .i64 (↑s.1.2 : Int))), [])]) (fun s => s.1.1) ⟨((a0.length + 1), 0), rfl, by first | omega | (dsimp only; omega) | simp⟩ (wk_keep (by simp)) ?_
  rintro ⟨⟨n1, v1_0⟩, e1, j1⟩
  try dsimp only at e1 j1
  obtain ⟨p1, rfl⟩ : ∃ p, n1 = p + 1 := ⟨n1 - 1, by omega⟩
  simp
  refine condR (c := (decide ((↑v1_0 : Int) < (↑a0.length : Int)))) (by simp) (fun k2 h1 => ?_) (fun k2 h1 => ?_)
  · have q1 := h1; try simp at q1
    have i1 : v1_0 < a0.length := by simpa using h1
    have m2 : a0.length ≤ 9223372036854775807 := by simpa using k2 0 _ rfl
    have w1 : IntKind.i64.wrap ((v1_0 : Int) + 1) = (v1_0 : Int) + 1 := wrap_of (by omega) (by omega)
    simp [i1, rowAt_map]
    repeat ((with_reducible refine And.intro ?_ ?_); focus (intros; first | omega | ((try simp only [W_def, show ∀ x, IntKind.i64.wrap x = W x from fun _ => rfl] at *); omega)))
    refine condR (c := ((nth a0 v1_0).Id == a1)) (by simp) (fun k3 h2 => ?_) (fun k3 h2 => ?_)
    · have q2 := h2; try simp at q2
      have x1 : s_FindAuthority_1 a0 a1 (a0.length + 1) 0 = .inl (↑v1_0 : Int) := by rw [← e1]; simp only [s_FindAuthority_1, h1, h2, cond_true, cond_false]
      simp
      refine retRd (rv := [.tmp 4]) rfl ?_
      have f1 := s_FindAuthority.eq_1 a0 a1
      simp only [x1, cond_true, cond_false] at f1
      simp [f1]
    · have q2 := h2; try simp at q2
      simp
      refine nxtI ⟨(p1, (v1_0 + 1)), ?_, ?_⟩ (by simp) (wk_keep (by simp [w1]))
      · rw [← e1]; simp only [s_FindAuthority_1, h1, h2, cond_true, cond_false]
      · first | omega | (simp at *; omega)
  · have q1 := h1; try simp at q1
    have x2 : s_FindAuthority_1 a0 a1 (a0.length + 1) 0 = .inr () := by rw [← e1]; simp only [s_FindAuthority_1, h1, cond_true, cond_false]
    simp
    refine retRd (rv := [.tmp 4]) rfl ?_
    have f2 := s_FindAuthority.eq_1 a0 a1
    simp only [x2, cond_true, cond_false] at f2
    simp [f2]
theorem s_StampKey_ok (a0 : List TAuthority) (a1 : TStamp) : SoundAt Try.prog 112 false [[.sl 3 (a0.map TAuthority.row)], a1.row] [[.int .i64 (s_StampKey a0 a1)]] := by
  refine sound_of Try.func112 rfl (by kernel_rfl) ?_
  simp [Try.ntmps112]
  refine callRd rfl rfl rfl rfl (s_FindAuthority_ok a0 a1.Authority) (by simp) (by simp) (by simp) ?_
  simp
  refine condR (c := (decide ((s_FindAuthority a0 a1.Authority) < 0))) (by simp) (fun k1 h1 => ?_) (fun k1 h1 => ?_)
  · have q1 := h1; try simp at q1
    simp
    refine retRd (rv := [.tmp 4]) rfl ?_
    have f1 := s_StampKey.eq_1 a0 a1
    simp only [h1, cond_true, cond_false] at f1
    simp [f1]
  · have q1 := h1; try simp at q1
    have i1 : (s_FindAuthority a0 a1.Authority).toNat < a0.length := by have := s_FindAuthority_lt a0 a1.Authority; first | omega | (have hz := @List.length_pos_iff _ a0; simp_all; done) | ((try simp only [W_def, show ∀ x, IntKind.i64.wrap x = W x from fun _ => rfl] at *); omega)
    simp [i1, rowAt_map]
    repeat ((with_reducible refine And.intro ?_ ?_); focus (intros; first | omega | ((try simp only [W_def, show ∀ x, IntKind.i64.wrap x = W x from fun _ => rfl] at *); omega)))
    refine retRd (rv := [.tmp 4]) rfl ?_
    have f2 := s_StampKey.eq_1 a0 a1
    simp only [h1, cond_true, cond_false] at f2
    simp [f2]
theorem s_FindKey_ok (a0 : List TKey) (a1 : Int) : SoundAt Try.prog 96 false [[.sl 5 (a0.map TKey.row)], [.int .i64 a1]] [[.int .i64 (s_FindKey a0 a1)]] := by
  refine sound_of Try.func96 rfl (by kernel_rfl) ?_
  simp [Try.ntmps96]
  refine okL fun k1 => ?_
  refine loopI (ι := { s : Nat × Nat // s_FindKey_1 a0 a1 s.1 s.2 = s_FindKey_1 a0 a1 (a0.length + 1) 0 ∧ (1 ≤ s.1 ∧ a0.length < s.1 + s.2 ∧ s.2 ≤ a0.length) }) (fun s => stOf 20 [(0, .one (.d (.sl 5 (a0.map TKey.row))), []), (1, .one (.d (.int .i64 a1)), []), (5, .one (.d (.int .i64 (↑s.1.2 : Int))), [])]) (fun s => s.1.1) ⟨((a0.length + 1), 0), rfl, by first | omega | (dsimp only; omega) | simp⟩ (wk_keep (by simp)) ?_
  rintro ⟨⟨n1, v1_0⟩, e1, j1⟩
  try dsimp only at e1 j1
  obtain ⟨p1, rfl⟩ : ∃ p, n1 = p + 1 := ⟨n1 - 1, by omega⟩
  simp
  refine condR (c := (decide ((↑v1_0 : Int) < (↑a0.length : Int)))) (by simp) (fun k2 h1 => ?_) (fun k2 h1 => ?_)
  · have q1 := h1; try simp at q1
    have i1 : v1_0 < a0.length := by simpa using h1
    have m2 : a0.length ≤ 9223372036854775807 := by simpa using k2 0 _ rfl
    have w1 : IntKind.i64.wrap ((v1_0 : Int) + 1) = (v1_0 : Int) + 1 := wrap_of (by omega) (by omega)
    simp [i1, rowAt_map]
    repeat ((with_reducible refine And.intro ?_ ?_); focus (intros; first | omega | ((try simp only [W_def, show ∀ x, IntKind.i64.wrap x = W x from fun _ => rfl] at *); omega)))
    refine condR (c := ((nth a0 v1_0).Number == a1)) (by simp) (fun k3 h2 => ?_) (fun k3 h2 => ?_)
    · have q2 := h2; try simp at q2
      have x1 : s_FindKey_1 a0 a1 (a0.length + 1) 0 = .inl (↑v1_0 : Int) := by rw [← e1]; simp only [s_FindKey_1, h1, h2, cond_true, cond_false]
      simp
      refine retRd (rv := [.tmp 4]) rfl ?_
      have f1 := s_FindKey.eq_1 a0 a1
      simp only [x1, cond_true, cond_false] at f1
      simp [f1]
    · have q2 := h2; try simp at q2
      simp
      refine nxtI ⟨(p1, (v1_0 + 1)), ?_, ?_⟩ (by simp) (wk_keep (by simp [w1]))
      · rw [← e1]; simp only [s_FindKey_1, h1, h2, cond_true, cond_false]
      · first | omega | (simp at *; omega)
  · have q1 := h1; try simp at q1
    have x2 : s_FindKey_1 a0 a1 (a0.length + 1) 0 = .inr () := by rw [← e1]; simp only [s_FindKey_1, h1, cond_true, cond_false]
    simp
    refine retRd (rv := [.tmp 4]) rfl ?_
    have f2 := s_FindKey.eq_1 a0 a1
    simp only [x2, cond_true, cond_false] at f2
    simp [f2]
theorem s_Min_ok (a0 : Int) (a1 : Int) : SoundAt Try.prog 41 false [[.int .i64 a0], [.int .i64 a1]] [[.int .i64 (s_Min a0 a1)]] := by
  refine sound_of Try.func41 rfl (by kernel_rfl) ?_
  simp [Try.ntmps41]
  refine condR (c := (decide (a1 < a0))) (by simp) (fun k1 h1 => ?_) (fun k1 h1 => ?_)
  · have q1 := h1; try simp at q1
    simp
    refine retRd (rv := [.tmp 4]) rfl ?_
    have f1 := s_Min.eq_1 a0 a1
    simp only [h1, cond_true, cond_false] at f1
    simp [f1]
  · have q1 := h1; try simp at q1
    simp
    refine retRd (rv := [.tmp 4]) rfl ?_
    have f2 := s_Min.eq_1 a0 a1
    simp only [h1, cond_true, cond_false] at f2
    simp [f2]
theorem s_EndsOf_ok (a0 : TFrame) (a1 : TRenewal) : SoundAt Try.prog 84 false [a0.row, a1.row] [[.int .i64 (s_EndsOf a0 a1)]] := by
  refine sound_of Try.func84 rfl (by kernel_rfl) ?_
  simp [Try.ntmps84]
  refine callRd rfl rfl rfl rfl (s_l32Ends_ok a0.Methods a1.Method) (by simp) (by simp) (by simp) ?_
  simp
  refine okL fun k1 => ?_
  refine loopI (ι := { s : Nat × Int × Nat // s_EndsOf_1 a0 a1 s.1 s.2.1 s.2.2 = s_EndsOf_1 a0 a1 (a1.Stamps.length + 1) (s_l32Ends a0.Methods a1.Method) 0 ∧ (1 ≤ s.1 ∧ a1.Stamps.length < s.1 + s.2.2 ∧ s.2.2 ≤ a1.Stamps.length) }) (fun s => stOf 45 [(2, .one (.bptr 2 0), [.box [.d (.sl 5 (a0.Keys.map TKey.row)), .d (.sl 3 (a0.Authorities.map TAuthority.row)), .d (.sl 4 (a0.Methods.map TMethod.row)), .d (.int .i64 a0.Liars), .d (.int .i64 a0.Now)]]), (3, .one (.bptr 3 0), [.box [.d (.int .i64 a1.Count), .d (.int .i64 a1.Method), .d (.int .i64 a1.Root), .d (.sl 2 (a1.Path.map TStep.row)), .d (.sl 5 (a1.Stamps.map TStamp.row))]]), (5, .one (.d (.int .i64 s.1.2.1)), []), (6, .one (.d (.int .i64 (↑s.1.2.2 : Int))), [])]) (fun s => s.1.1) ⟨((a1.Stamps.length + 1), (s_l32Ends a0.Methods a1.Method), 0), rfl, by first | omega | (dsimp only; omega) | simp⟩ (wk_keep (by simp)) ?_
  rintro ⟨⟨n1, v1_0, v1_1⟩, e1, j1⟩
  try dsimp only at e1 j1
  obtain ⟨p1, rfl⟩ : ∃ p, n1 = p + 1 := ⟨n1 - 1, by omega⟩
  simp
  refine condR (c := (decide ((↑v1_1 : Int) < (↑a1.Stamps.length : Int)))) (by simp) (fun k2 h1 => ?_) (fun k2 h1 => ?_)
  · have q1 := h1; try simp at q1
    have i1 : v1_1 < a1.Stamps.length := by simpa using h1
    have m2 : a1.Stamps.length ≤ 9223372036854775807 := by simpa using k2 15 _ rfl
    have w1 : IntKind.i64.wrap ((v1_1 : Int) + 1) = (v1_1 : Int) + 1 := wrap_of (by omega) (by omega)
    simp
    refine okD fun k3 => ?_
    refine drawI mixed (by kernel_rfl) (by kernel_rfl) ?_
    simp [i1, rowAt_map]
    repeat ((with_reducible refine And.intro ?_ ?_); focus (intros; first | omega | ((try simp only [W_def, show ∀ x, IntKind.i64.wrap x = W x from fun _ => rfl] at *); omega)))
    refine callRd rfl rfl rfl rfl (s_StampKey_ok a0.Authorities (nth a1.Stamps v1_1)) (by simp) (by simp) (by simp) ?_
    simp
    refine callRd rfl rfl rfl rfl (s_FindKey_ok a0.Keys (s_StampKey a0.Authorities (nth a1.Stamps v1_1))) (by simp) (by simp) (by simp) ?_
    simp
    refine condR (c := (decide ((s_FindKey a0.Keys (s_StampKey a0.Authorities (nth a1.Stamps v1_1))) < 0))) (by simp) (fun k4 h2 => ?_) (fun k4 h2 => ?_)
    · have q2 := h2; try simp at q2
      have x1 : s_EndsOf_1 a0 a1 (a1.Stamps.length + 1) (s_l32Ends a0.Methods a1.Method) 0 = .inl 0 := by rw [← e1]; simp only [s_EndsOf_1, h1, h2, cond_true, cond_false]
      simp
      refine retRd (rv := [.tmp 4]) rfl ?_
      have f1 := s_EndsOf.eq_1 a0 a1
      simp only [x1, cond_true, cond_false] at f1
      simp [f1]
    · have q2 := h2; try simp at q2
      simp
      refine okD fun k5 => ?_
      refine drawI mixed (by kernel_rfl) (by kernel_rfl) ?_
      have i2 : (s_FindKey a0.Keys (s_StampKey a0.Authorities (nth a1.Stamps v1_1))).toNat < a0.Keys.length := by have := s_FindKey_lt a0.Keys (s_StampKey a0.Authorities (nth a1.Stamps v1_1)); first | omega | (have hz := @List.length_pos_iff _ a0.Keys; simp_all; done) | ((try simp only [W_def, show ∀ x, IntKind.i64.wrap x = W x from fun _ => rfl] at *); omega)
      simp [i2, rowAt_map]
      repeat ((with_reducible refine And.intro ?_ ?_); focus (intros; first | omega | ((try simp only [W_def, show ∀ x, IntKind.i64.wrap x = W x from fun _ => rfl] at *); omega)))
      refine callRd rfl rfl rfl rfl (s_l32Ends_ok a0.Methods (nth a0.Keys (s_FindKey a0.Keys (s_StampKey a0.Authorities (nth a1.Stamps v1_1))).toNat).Method) (by simp) (by simp) (by simp) ?_
      simp
      refine callRd rfl rfl rfl rfl (s_Min_ok v1_0 (s_l32Ends a0.Methods (nth a0.Keys (s_FindKey a0.Keys (s_StampKey a0.Authorities (nth a1.Stamps v1_1))).toNat).Method)) (by simp) (by simp) (by simp) ?_
      simp
      refine nxtI ⟨(p1, (s_Min v1_0 (s_l32Ends a0.Methods (nth a0.Keys (s_FindKey a0.Keys (s_StampKey a0.Authorities (nth a1.Stamps v1_1))).toNat).Method)), (v1_1 + 1)), ?_, ?_⟩ (by simp) (wk_keep (by simp [w1]))
      · rw [← e1]; simp only [s_EndsOf_1, h1, h2, cond_true, cond_false]
      · first | omega | (simp at *; omega)
  · have q1 := h1; try simp at q1
    have x2 : s_EndsOf_1 a0 a1 (a1.Stamps.length + 1) (s_l32Ends a0.Methods a1.Method) 0 = .inr v1_0 := by rw [← e1]; simp only [s_EndsOf_1, h1, cond_true, cond_false]
    simp
    refine retRd (rv := [.tmp 4]) rfl ?_
    have f2 := s_EndsOf.eq_1 a0 a1
    simp only [x2, cond_true, cond_false] at f2
    simp [f2]
theorem s_l32Last_ok (a0 : TFrame) (a1 : TItem) : SoundAt Try.prog 58 false [a0.row, a1.row] [[.int .i64 (s_l32Last a0 a1)]] := by
  refine sound_of Try.func58 rfl (by kernel_rfl) ?_
  simp [Try.ntmps58]
  refine condR (c := ((↑a1.Strand.Chain.length : Int) == 0)) (by simp) (fun k1 h1 => ?_) (fun k1 h1 => ?_)
  · have q1 := h1; try simp at q1
    simp
    refine retRd (rv := [.tmp 4]) rfl ?_
    have f1 := s_l32Last.eq_1 a0 a1
    simp only [h1, cond_true, cond_false] at f1
    simp [f1]
  · have q1 := h1; try simp at q1
    simp
    refine okD fun k2 => ?_
    refine drawI mixed (by kernel_rfl) (by kernel_rfl) ?_
    have i1 : (a1.Strand.Chain.length - 1) < a1.Strand.Chain.length := by first | omega | (try simp only [decide_eq_true_eq, decide_eq_false_iff_not, beq_iff_eq, beq_eq_false_iff_ne, bne_iff_ne, ne_eq, Bool.or_eq_false_iff, Bool.not_eq_true', Bool.not_eq_false'] at h1; omega) | (have hz := @List.length_pos_iff _ a1.Strand.Chain; simp_all; done)
    have m1 : a1.Strand.Chain.length ≤ 9223372036854775807 := by simpa using k2 8 _ rfl
    have w1 : IntKind.i64.wrap ((a1.Strand.Chain.length : Int) - 1) = (a1.Strand.Chain.length : Int) - 1 := wrap_of (by omega) (by omega)
    simp [i1, rowAt_map, w1, toNat_pred]
    repeat ((with_reducible refine And.intro ?_ ?_); focus (intros; first | omega | ((try simp only [W_def, show ∀ x, IntKind.i64.wrap x = W x from fun _ => rfl] at *); omega)))
    refine callRd rfl rfl rfl rfl (s_EndsOf_ok a0 (nth a1.Strand.Chain (a1.Strand.Chain.length - 1))) (by simp) (by simp) (by simp) ?_
    simp
    refine retRd (rv := [.tmp 4]) rfl ?_
    have f2 := s_l32Last.eq_1 a0 a1
    simp only [h1, cond_true, cond_false] at f2
    simp [f2]
theorem s_NeedsRenewal_ok (a0 : TFrame) (a1 : TItem) (a2 : Int) : SoundAt Try.prog 27 false [a0.row, a1.row, [.int .i64 a2]] [[.bool (s_NeedsRenewal a0 a1 a2)]] := by
  refine sound_of Try.func27 rfl (by kernel_rfl) ?_
  simp [Try.ntmps27]
  refine okD fun k1 => ?_
  refine drawI mixed (by kernel_rfl) (by kernel_rfl) ?_
  simp
  refine callG rfl rfl rfl rfl rfl rfl (fun gg => (s_l32Last_ok a0 a1)) (by simp) (by simp) (by simp) (by simp) ?_
  simp
  refine retRd (rv := [.tmp 6]) rfl ?_
  have f1 := s_NeedsRenewal.eq_1 a0 a1 a2
  simp [f1]
theorem s_ItemsDue_ok (a0 : TFrame) (a1 : TArchive) (a2 : Int) (u0 : Sm 2322432 a0) (u1 : Sm 2322432 a1) : SoundD Try.prog 7 [a0.row, a1.row, [.int .i64 a2]] [[.sl 1 ((s_ItemsDue a0 a1 a2).map iR)]] := by
  refine sound_ofD Try.func7 rfl (by kernel_rfl) ?_
  simp [Try.ntmps7]
  refine okL fun k1 => ?_
  refine loopI (ι := { s : Nat × (List Int) × Nat // s_ItemsDue_1 a0 a1 a2 s.1 s.2.1 s.2.2 = s_ItemsDue_1 a0 a1 a2 (a1.Items.length + 1) ([] : List Int) 0 ∧ (1 ≤ s.1 ∧ a1.Items.length < s.1 + s.2.2 ∧ s.2.2 ≤ a1.Items.length ∧ s.2.1.length ≤ 0 + 1 * s.2.2) }) (fun s => stOf 35 [(2, .one (.d (.int .i64 a2)), []), (3, .one (.bptr 3 0), [.box [.d (.sl 5 (a0.Keys.map TKey.row)), .d (.sl 3 (a0.Authorities.map TAuthority.row)), .d (.sl 4 (a0.Methods.map TMethod.row)), .d (.int .i64 a0.Liars), .d (.int .i64 a0.Now)]]), (4, .one (.bptr 4 0), [.box [.d (.int .i64 a1.Id), .d (.sl 16 (a1.Items.map TItem.row))]]), (7, .one (.sref 7 0 0 s.1.2.1.length), [.arr false 1 (s.1.2.1.map iR)]), (8, .one (.d (.int .i64 (↑s.1.2.2 : Int))), [])]) (fun s => s.1.1) ⟨((a1.Items.length + 1), ([] : List Int), 0), rfl, by first | omega | (dsimp only; omega) | simp⟩ (wk_of [((7, 0), some (9, 0))] [] rfl (by simp)) ?_
  rintro ⟨⟨n1, v1_0, v1_1⟩, e1, j1⟩
  try dsimp only at e1 j1
  obtain ⟨p1, rfl⟩ : ∃ p, n1 = p + 1 := ⟨n1 - 1, by omega⟩
  simp
  refine condR (c := (decide ((↑v1_1 : Int) < (↑a1.Items.length : Int)))) (by simp) (fun k2 h1 => ?_) (fun k2 h1 => ?_)
  · have q1 := h1; try simp at q1
    have i1 : v1_1 < a1.Items.length := by simpa using h1
    have m2 : a1.Items.length ≤ 9223372036854775807 := by simpa using k2 12 _ rfl
    have c1 : a1.Items.length ≤ 2322432 := sm_len (by simp (maxDischargeDepth := 12) [u0, u1])
    have w1 : IntKind.i64.wrap ((v1_1 : Int) + 1) = (v1_1 : Int) + 1 := wrap_of (by omega) (by omega)
    simp
    refine okD fun k3 => ?_
    refine drawI mixed (by kernel_rfl) (by kernel_rfl) ?_
    simp [i1, rowAt_map]
    repeat ((with_reducible refine And.intro ?_ ?_); focus (intros; first | omega | ((try simp only [W_def, show ∀ x, IntKind.i64.wrap x = W x from fun _ => rfl] at *); omega)))
    refine callRd rfl rfl rfl rfl (s_NeedsRenewal_ok a0 (nth a1.Items v1_1) a2) (by simp) (by simp) (by simp) ?_
    simp
    refine condR (c := (s_NeedsRenewal a0 (nth a1.Items v1_1) a2)) (by simp) (fun k4 h2 => ?_) (fun k4 h2 => ?_)
    · have q2 := h2; try simp at q2
      simp [i1, rowAt_map]
      repeat ((with_reducible refine And.intro ?_ ?_); focus (intros; first | omega | ((try simp only [W_def, show ∀ x, IntKind.i64.wrap x = W x from fun _ => rfl] at *); omega)))
      refine nxtI ⟨(p1, (v1_0 ++ ([(nth a1.Items v1_1).Id] : List Int)), (v1_1 + 1)), ?_, ?_⟩ (by simp) (wk_of [((7, 0), some (33, 0))] [] rfl (by simp [w1]))
      · rw [← e1]; simp only [s_ItemsDue_1, h1, h2, cond_true, cond_false]
      · first | omega | (simp at *; omega)
    · have q2 := h2; try simp at q2
      simp
      refine nxtI ⟨(p1, v1_0, (v1_1 + 1)), ?_, ?_⟩ (by simp) (wk_keep (by simp [w1]))
      · rw [← e1]; simp only [s_ItemsDue_1, h1, h2, cond_true, cond_false]
      · first | omega | (simp at *; omega)
  · have q1 := h1; try simp at q1
    have c2 : a1.Items.length ≤ 2322432 := sm_len (by simp (maxDischargeDepth := 12) [u0, u1])
    have x1 : s_ItemsDue_1 a0 a1 a2 (a1.Items.length + 1) ([] : List Int) 0 = v1_0 := by rw [← e1]; simp only [s_ItemsDue_1, h1, cond_true, cond_false]
    simp
    refine retD (rv := [.tmp 6]) rfl ?_
    have f1 := s_ItemsDue.eq_1 a0 a1 a2
    simp only [x1, cond_true, cond_false] at f1
    simp [f1]
theorem i_lastRenewal_ok (a0 : TItem) : SoundAt Try.prog 63 false [a0.row] [(i_lastRenewal a0).1.row, [.bool (i_lastRenewal a0).2]] := by
  refine sound_of Try.func63 rfl (by kernel_rfl) ?_
  simp [Try.ntmps63]
  refine condR (c := ((↑a0.Strand.Chain.length : Int) == 0)) (by simp) (fun k1 h1 => ?_) (fun k1 h1 => ?_)
  · have q1 := h1; try simp at q1
    simp
    refine retRd (rv := [.cell 2 126, .tmp 3]) rfl ?_
    have f1 := i_lastRenewal.eq_1 a0
    simp only [h1, cond_true, cond_false] at f1
    simp [f1]
  · have q1 := h1; try simp at q1
    have i1 : (a0.Strand.Chain.length - 1) < a0.Strand.Chain.length := by first | omega | (try simp only [decide_eq_true_eq, decide_eq_false_iff_not, beq_iff_eq, beq_eq_false_iff_ne, bne_iff_ne, ne_eq, Bool.or_eq_false_iff, Bool.not_eq_true', Bool.not_eq_false'] at h1; omega) | (have hz := @List.length_pos_iff _ a0.Strand.Chain; simp_all; done)
    have m1 : a0.Strand.Chain.length ≤ 9223372036854775807 := by simpa using k1 7 _ rfl
    have w1 : IntKind.i64.wrap ((a0.Strand.Chain.length : Int) - 1) = (a0.Strand.Chain.length : Int) - 1 := wrap_of (by omega) (by omega)
    simp [i1, rowAt_map, w1, toNat_pred]
    repeat ((with_reducible refine And.intro ?_ ?_); focus (intros; first | omega | ((try simp only [W_def, show ∀ x, IntKind.i64.wrap x = W x from fun _ => rfl] at *); omega)))
    refine retRd (rv := [.cell 2 126, .tmp 3]) rfl ?_
    have f2 := i_lastRenewal.eq_1 a0
    simp only [h1, cond_true, cond_false] at f2
    simp [f2]
theorem i_FindMethod_ok (a0 : List TMethod) (a1 : Int) : SoundAt Try.prog 117 false [[.sl 4 (a0.map TMethod.row)], [.int .i64 a1]] [[.int .i64 (i_FindMethod a0 a1)]] := by
  refine sound_of Try.func117 rfl (by kernel_rfl) ?_
  simp [Try.ntmps117]
  refine okL fun k1 => ?_
  refine loopI (ι := { s : Nat × Nat // i_FindMethod_1 a0 a1 s.1 s.2 = i_FindMethod_1 a0 a1 (a0.length + 1) 0 ∧ (1 ≤ s.1 ∧ a0.length < s.1 + s.2 ∧ s.2 ≤ a0.length) }) (fun s => stOf 20 [(1, .one (.d (.int .i64 a1)), []), (7, .one (.d (.sl 4 (a0.map TMethod.row))), []), (8, .one (.d (.int .i64 (↑a0.length : Int))), []), (9, .one (.d (.int .i64 (↑s.1.2 : Int))), [])]) (fun s => s.1.1) ⟨((a0.length + 1), 0), rfl, by first | omega | (dsimp only; omega) | simp⟩ (wk_keep (by simp)) ?_
  rintro ⟨⟨n1, v1_0⟩, e1, j1⟩
  try dsimp only at e1 j1
  obtain ⟨p1, rfl⟩ : ∃ p, n1 = p + 1 := ⟨n1 - 1, by omega⟩
  simp
  refine condR (c := (decide ((↑v1_0 : Int) < (↑a0.length : Int)))) (by simp) (fun k2 h1 => ?_) (fun k2 h1 => ?_)
  · have q1 := h1; try simp at q1
    have i1 : v1_0 < a0.length := by simpa using h1
    have m2 : a0.length ≤ 9223372036854775807 := by simpa using k2 7 _ rfl
    have w1 : IntKind.i64.wrap ((v1_0 : Int) + 1) = (v1_0 : Int) + 1 := wrap_of (by omega) (by omega)
    simp [i1, rowAt_map]
    repeat ((with_reducible refine And.intro ?_ ?_); focus (intros; first | omega | ((try simp only [W_def, show ∀ x, IntKind.i64.wrap x = W x from fun _ => rfl] at *); omega)))
    refine condR (c := ((nth a0 v1_0).Id == a1)) (by simp) (fun k3 h2 => ?_) (fun k3 h2 => ?_)
    · have q2 := h2; try simp at q2
      have x1 : i_FindMethod_1 a0 a1 (a0.length + 1) 0 = .inl (↑v1_0 : Int) := by rw [← e1]; simp only [i_FindMethod_1, h1, h2, cond_true, cond_false]
      simp
      refine retRd (rv := [.tmp 4]) rfl ?_
      have f1 := i_FindMethod.eq_1 a0 a1
      simp only [x1, cond_true, cond_false] at f1
      simp [f1]
    · have q2 := h2; try simp at q2
      simp
      refine nxtI ⟨(p1, (v1_0 + 1)), ?_, ?_⟩ (by simp) (wk_keep (by simp [w1]))
      · rw [← e1]; simp only [i_FindMethod_1, h1, h2, cond_true, cond_false]
      · first | omega | (simp at *; omega)
  · have q1 := h1; try simp at q1
    have x2 : i_FindMethod_1 a0 a1 (a0.length + 1) 0 = .inr () := by rw [← e1]; simp only [i_FindMethod_1, h1, cond_true, cond_false]
    simp
    refine retRd (rv := [.tmp 4]) rfl ?_
    have f2 := i_FindMethod.eq_1 a0 a1
    simp only [x2, cond_true, cond_false] at f2
    simp [f2]
theorem i_endOf_ok (a0 : TFrame) (a1 : Int) : SoundAt Try.prog 88 false [a0.row, [.int .i64 a1]] [[.int .i64 (i_endOf a0 a1)]] := by
  refine sound_of Try.func88 rfl (by kernel_rfl) ?_
  simp [Try.ntmps88]
  refine callRd rfl rfl rfl rfl (i_FindMethod_ok a0.Methods a1) (by simp) (by simp) (by simp) ?_
  simp
  refine condR (c := (decide ((i_FindMethod a0.Methods a1) ≥ 0))) (by simp) (fun k1 h1 => ?_) (fun k1 h1 => ?_)
  · have q1 := h1; try simp at q1
    have i1 : (i_FindMethod a0.Methods a1).toNat < a0.Methods.length := by have := i_FindMethod_lt a0.Methods a1; first | omega | (have hz := @List.length_pos_iff _ a0.Methods; simp_all; done) | ((try simp only [W_def, show ∀ x, IntKind.i64.wrap x = W x from fun _ => rfl] at *); omega)
    simp [i1, rowAt_map]
    repeat ((with_reducible refine And.intro ?_ ?_); focus (intros; first | omega | ((try simp only [W_def, show ∀ x, IntKind.i64.wrap x = W x from fun _ => rfl] at *); omega)))
    refine retRd (rv := [.tmp 4]) rfl ?_
    have f1 := i_endOf.eq_1 a0 a1
    simp only [h1, cond_true, cond_false] at f1
    simp [f1]
  · have q1 := h1; try simp at q1
    simp
    refine retRd (rv := [.tmp 4]) rfl ?_
    have f2 := i_endOf.eq_1 a0 a1
    simp only [h1, cond_true, cond_false] at f2
    simp [f2]
theorem i_FindAuthority_ok (a0 : List TAuthority) (a1 : Int) : SoundAt Try.prog 118 false [[.sl 3 (a0.map TAuthority.row)], [.int .i64 a1]] [[.int .i64 (i_FindAuthority a0 a1)]] := by
  refine sound_of Try.func118 rfl (by kernel_rfl) ?_
  simp [Try.ntmps118]
  refine okL fun k1 => ?_
  refine loopI (ι := { s : Nat × Nat // i_FindAuthority_1 a0 a1 s.1 s.2 = i_FindAuthority_1 a0 a1 (a0.length + 1) 0 ∧ (1 ≤ s.1 ∧ a0.length < s.1 + s.2 ∧ s.2 ≤ a0.length) }) (fun s => stOf 20 [(1, .one (.d (.int .i64 a1)), []), (7, .one (.d (.sl 3 (a0.map TAuthority.row))), []), (8, .one (.d (.int .i64 (↑a0.length : Int))), []), (9, .one (.d (.int .i64 (↑s.1.2 : Int))), [])]) (fun s => s.1.1) ⟨((a0.length + 1), 0), rfl, by first | omega | (dsimp only; omega) | simp⟩ (wk_keep (by simp)) ?_
  rintro ⟨⟨n1, v1_0⟩, e1, j1⟩
  try dsimp only at e1 j1
  obtain ⟨p1, rfl⟩ : ∃ p, n1 = p + 1 := ⟨n1 - 1, by omega⟩
  simp
  refine condR (c := (decide ((↑v1_0 : Int) < (↑a0.length : Int)))) (by simp) (fun k2 h1 => ?_) (fun k2 h1 => ?_)
  · have q1 := h1; try simp at q1
    have i1 : v1_0 < a0.length := by simpa using h1
    have m2 : a0.length ≤ 9223372036854775807 := by simpa using k2 7 _ rfl
    have w1 : IntKind.i64.wrap ((v1_0 : Int) + 1) = (v1_0 : Int) + 1 := wrap_of (by omega) (by omega)
    simp [i1, rowAt_map]
    repeat ((with_reducible refine And.intro ?_ ?_); focus (intros; first | omega | ((try simp only [W_def, show ∀ x, IntKind.i64.wrap x = W x from fun _ => rfl] at *); omega)))
    refine condR (c := ((nth a0 v1_0).Id == a1)) (by simp) (fun k3 h2 => ?_) (fun k3 h2 => ?_)
    · have q2 := h2; try simp at q2
      have x1 : i_FindAuthority_1 a0 a1 (a0.length + 1) 0 = .inl (↑v1_0 : Int) := by rw [← e1]; simp only [i_FindAuthority_1, h1, h2, cond_true, cond_false]
      simp
      refine retRd (rv := [.tmp 4]) rfl ?_
      have f1 := i_FindAuthority.eq_1 a0 a1
      simp only [x1, cond_true, cond_false] at f1
      simp [f1]
    · have q2 := h2; try simp at q2
      simp
      refine nxtI ⟨(p1, (v1_0 + 1)), ?_, ?_⟩ (by simp) (wk_keep (by simp [w1]))
      · rw [← e1]; simp only [i_FindAuthority_1, h1, h2, cond_true, cond_false]
      · first | omega | (simp at *; omega)
  · have q1 := h1; try simp at q1
    have x2 : i_FindAuthority_1 a0 a1 (a0.length + 1) 0 = .inr () := by rw [← e1]; simp only [i_FindAuthority_1, h1, cond_true, cond_false]
    simp
    refine retRd (rv := [.tmp 4]) rfl ?_
    have f2 := i_FindAuthority.eq_1 a0 a1
    simp only [x2, cond_true, cond_false] at f2
    simp [f2]
theorem i_StampKey_ok (a0 : List TAuthority) (a1 : TStamp) : SoundAt Try.prog 89 false [[.sl 3 (a0.map TAuthority.row)], a1.row] [[.int .i64 (i_StampKey a0 a1)]] := by
  refine sound_of Try.func89 rfl (by kernel_rfl) ?_
  simp [Try.ntmps89]
  refine callRd rfl rfl rfl rfl (i_FindAuthority_ok a0 a1.Authority) (by simp) (by simp) (by simp) ?_
  simp
  refine condR (c := (decide ((i_FindAuthority a0 a1.Authority) ≥ 0))) (by simp) (fun k1 h1 => ?_) (fun k1 h1 => ?_)
  · have q1 := h1; try simp at q1
    have i1 : (i_FindAuthority a0 a1.Authority).toNat < a0.length := by have := i_FindAuthority_lt a0 a1.Authority; first | omega | (have hz := @List.length_pos_iff _ a0; simp_all; done) | ((try simp only [W_def, show ∀ x, IntKind.i64.wrap x = W x from fun _ => rfl] at *); omega)
    simp [i1, rowAt_map]
    repeat ((with_reducible refine And.intro ?_ ?_); focus (intros; first | omega | ((try simp only [W_def, show ∀ x, IntKind.i64.wrap x = W x from fun _ => rfl] at *); omega)))
    refine retRd (rv := [.tmp 4]) rfl ?_
    have f1 := i_StampKey.eq_1 a0 a1
    simp only [h1, cond_true, cond_false] at f1
    simp [f1]
  · have q1 := h1; try simp at q1
    simp
    refine retRd (rv := [.tmp 4]) rfl ?_
    have f2 := i_StampKey.eq_1 a0 a1
    simp only [h1, cond_true, cond_false] at f2
    simp [f2]
theorem i_FindKey_ok (a0 : List TKey) (a1 : Int) : SoundAt Try.prog 76 false [[.sl 5 (a0.map TKey.row)], [.int .i64 a1]] [[.int .i64 (i_FindKey a0 a1)]] := by
  refine sound_of Try.func76 rfl (by kernel_rfl) ?_
  simp [Try.ntmps76]
  refine okL fun k1 => ?_
  refine loopI (ι := { s : Nat × Nat // i_FindKey_1 a0 a1 s.1 s.2 = i_FindKey_1 a0 a1 (a0.length + 1) 0 ∧ (1 ≤ s.1 ∧ a0.length < s.1 + s.2 ∧ s.2 ≤ a0.length) }) (fun s => stOf 20 [(1, .one (.d (.int .i64 a1)), []), (7, .one (.d (.sl 5 (a0.map TKey.row))), []), (8, .one (.d (.int .i64 (↑a0.length : Int))), []), (9, .one (.d (.int .i64 (↑s.1.2 : Int))), [])]) (fun s => s.1.1) ⟨((a0.length + 1), 0), rfl, by first | omega | (dsimp only; omega) | simp⟩ (wk_keep (by simp)) ?_
  rintro ⟨⟨n1, v1_0⟩, e1, j1⟩
  try dsimp only at e1 j1
  obtain ⟨p1, rfl⟩ : ∃ p, n1 = p + 1 := ⟨n1 - 1, by omega⟩
  simp
  refine condR (c := (decide ((↑v1_0 : Int) < (↑a0.length : Int)))) (by simp) (fun k2 h1 => ?_) (fun k2 h1 => ?_)
  · have q1 := h1; try simp at q1
    have i1 : v1_0 < a0.length := by simpa using h1
    have m2 : a0.length ≤ 9223372036854775807 := by simpa using k2 7 _ rfl
    have w1 : IntKind.i64.wrap ((v1_0 : Int) + 1) = (v1_0 : Int) + 1 := wrap_of (by omega) (by omega)
    simp [i1, rowAt_map]
    repeat ((with_reducible refine And.intro ?_ ?_); focus (intros; first | omega | ((try simp only [W_def, show ∀ x, IntKind.i64.wrap x = W x from fun _ => rfl] at *); omega)))
    refine condR (c := ((nth a0 v1_0).Number == a1)) (by simp) (fun k3 h2 => ?_) (fun k3 h2 => ?_)
    · have q2 := h2; try simp at q2
      have x1 : i_FindKey_1 a0 a1 (a0.length + 1) 0 = .inl (↑v1_0 : Int) := by rw [← e1]; simp only [i_FindKey_1, h1, h2, cond_true, cond_false]
      simp
      refine retRd (rv := [.tmp 4]) rfl ?_
      have f1 := i_FindKey.eq_1 a0 a1
      simp only [x1, cond_true, cond_false] at f1
      simp [f1]
    · have q2 := h2; try simp at q2
      simp
      refine nxtI ⟨(p1, (v1_0 + 1)), ?_, ?_⟩ (by simp) (wk_keep (by simp [w1]))
      · rw [← e1]; simp only [i_FindKey_1, h1, h2, cond_true, cond_false]
      · first | omega | (simp at *; omega)
  · have q1 := h1; try simp at q1
    have x2 : i_FindKey_1 a0 a1 (a0.length + 1) 0 = .inr () := by rw [← e1]; simp only [i_FindKey_1, h1, cond_true, cond_false]
    simp
    refine retRd (rv := [.tmp 4]) rfl ?_
    have f2 := i_FindKey.eq_1 a0 a1
    simp only [x2, cond_true, cond_false] at f2
    simp [f2]
theorem i_EndsOf_ok (a0 : TFrame) (a1 : TRenewal) : SoundAt Try.prog 64 false [a0.row, a1.row] [[.int .i64 (i_EndsOf a0 a1)]] := by
  refine sound_of Try.func64 rfl (by kernel_rfl) ?_
  simp [Try.ntmps64]
  refine callRd rfl rfl rfl rfl (i_endOf_ok a0 a1.Method) (by simp) (by simp) (by simp) ?_
  simp
  refine okL fun k1 => ?_
  refine loopI (ι := { s : Nat × Int × Nat // i_EndsOf_1 a0 a1 s.1 s.2.1 s.2.2 = i_EndsOf_1 a0 a1 (a1.Stamps.length + 1) (i_endOf a0 a1.Method) 0 ∧ (1 ≤ s.1 ∧ a1.Stamps.length < s.1 + s.2.2 ∧ s.2.2 ≤ a1.Stamps.length) }) (fun s => stOf 41 [(2, .one (.bptr 2 0), [.box [.d (.sl 5 (a0.Keys.map TKey.row)), .d (.sl 3 (a0.Authorities.map TAuthority.row)), .d (.sl 4 (a0.Methods.map TMethod.row)), .d (.int .i64 a0.Liars), .d (.int .i64 a0.Now)]]), (5, .one (.d (.int .i64 s.1.2.1)), []), (14, .one (.d (.sl 5 (a1.Stamps.map TStamp.row))), []), (15, .one (.d (.int .i64 (↑a1.Stamps.length : Int))), []), (16, .one (.d (.int .i64 (↑s.1.2.2 : Int))), [])]) (fun s => s.1.1) ⟨((a1.Stamps.length + 1), (i_endOf a0 a1.Method), 0), rfl, by first | omega | (dsimp only; omega) | simp⟩ (wk_keep (by simp)) ?_
  rintro ⟨⟨n1, v1_0, v1_1⟩, e1, j1⟩
  try dsimp only at e1 j1
  obtain ⟨p1, rfl⟩ : ∃ p, n1 = p + 1 := ⟨n1 - 1, by omega⟩
  simp
  refine condR (c := (decide ((↑v1_1 : Int) < (↑a1.Stamps.length : Int)))) (by simp) (fun k2 h1 => ?_) (fun k2 h1 => ?_)
  · have q1 := h1; try simp at q1
    have i1 : v1_1 < a1.Stamps.length := by simpa using h1
    have m2 : a1.Stamps.length ≤ 9223372036854775807 := by simpa using k2 14 _ rfl
    have w1 : IntKind.i64.wrap ((v1_1 : Int) + 1) = (v1_1 : Int) + 1 := wrap_of (by omega) (by omega)
    simp [i1, rowAt_map]
    repeat ((with_reducible refine And.intro ?_ ?_); focus (intros; first | omega | ((try simp only [W_def, show ∀ x, IntKind.i64.wrap x = W x from fun _ => rfl] at *); omega)))
    refine okD fun k3 => ?_
    refine drawI mixed (by kernel_rfl) (by kernel_rfl) ?_
    simp
    refine callRd rfl rfl rfl rfl (i_StampKey_ok a0.Authorities (nth a1.Stamps v1_1)) (by simp) (by simp) (by simp) ?_
    simp
    refine callRd rfl rfl rfl rfl (i_FindKey_ok a0.Keys (i_StampKey a0.Authorities (nth a1.Stamps v1_1))) (by simp) (by simp) (by simp) ?_
    simp
    refine condR (c := (decide ((i_FindKey a0.Keys (i_StampKey a0.Authorities (nth a1.Stamps v1_1))) < 0))) (by simp) (fun k4 h2 => ?_) (fun k4 h2 => ?_)
    · have q2 := h2; try simp at q2
      have x1 : i_EndsOf_1 a0 a1 (a1.Stamps.length + 1) (i_endOf a0 a1.Method) 0 = .inl 0 := by rw [← e1]; simp only [i_EndsOf_1, h1, h2, cond_true, cond_false]
      simp
      refine retRd (rv := [.tmp 4]) rfl ?_
      have f1 := i_EndsOf.eq_1 a0 a1
      simp only [x1, cond_true, cond_false] at f1
      simp [f1]
    · have q2 := h2; try simp at q2
      simp
      refine okD fun k5 => ?_
      refine drawI mixed (by kernel_rfl) (by kernel_rfl) ?_
      have i2 : (i_FindKey a0.Keys (i_StampKey a0.Authorities (nth a1.Stamps v1_1))).toNat < a0.Keys.length := by have := i_FindKey_lt a0.Keys (i_StampKey a0.Authorities (nth a1.Stamps v1_1)); first | omega | (have hz := @List.length_pos_iff _ a0.Keys; simp_all; done) | ((try simp only [W_def, show ∀ x, IntKind.i64.wrap x = W x from fun _ => rfl] at *); omega)
      simp [i2, rowAt_map]
      repeat ((with_reducible refine And.intro ?_ ?_); focus (intros; first | omega | ((try simp only [W_def, show ∀ x, IntKind.i64.wrap x = W x from fun _ => rfl] at *); omega)))
      refine callRd rfl rfl rfl rfl (i_endOf_ok a0 (nth a0.Keys (i_FindKey a0.Keys (i_StampKey a0.Authorities (nth a1.Stamps v1_1))).toNat).Method) (by simp) (by simp) (by simp) ?_
      simp
      refine nxtI ⟨(p1, (if (i_endOf a0 (nth a0.Keys (i_FindKey a0.Keys (i_StampKey a0.Authorities (nth a1.Stamps v1_1))).toNat).Method) < v1_0 then (i_endOf a0 (nth a0.Keys (i_FindKey a0.Keys (i_StampKey a0.Authorities (nth a1.Stamps v1_1))).toNat).Method) else v1_0), (v1_1 + 1)), ?_, ?_⟩ (by simp) (wk_keep (by simp [w1]))
      · rw [← e1]; simp only [i_EndsOf_1, h1, h2, cond_true, cond_false]
      · first | omega | (simp at *; omega)
  · have q1 := h1; try simp at q1
    have x2 : i_EndsOf_1 a0 a1 (a1.Stamps.length + 1) (i_endOf a0 a1.Method) 0 = .inr v1_0 := by rw [← e1]; simp only [i_EndsOf_1, h1, cond_true, cond_false]
    simp
    refine retRd (rv := [.tmp 4]) rfl ?_
    have f2 := i_EndsOf.eq_1 a0 a1
    simp only [x2, cond_true, cond_false] at f2
    simp [f2]
theorem i_NeedsRenewal_ok (a0 : TFrame) (a1 : TItem) (a2 : Int) : SoundAt Try.prog 32 false [a0.row, a1.row, [.int .i64 a2]] [[.bool (i_NeedsRenewal a0 a1 a2)]] := by
  refine sound_of Try.func32 rfl (by kernel_rfl) ?_
  simp [Try.ntmps32]
  refine callRd rfl rfl rfl rfl (i_lastRenewal_ok a1) (by simp) (by simp) (by simp) ?_
  simp
  refine okD fun k1 => ?_
  refine drawI mixed (by kernel_rfl) (by kernel_rfl) ?_
  simp
  refine callG rfl rfl rfl rfl rfl rfl (fun gg => (i_EndsOf_ok a0 (i_lastRenewal a1).1)) (by simp) (by simp) (by simp) (by simp) ?_
  simp
  refine retRd (rv := [.tmp 6]) rfl ?_
  have f1 := i_NeedsRenewal.eq_1 a0 a1 a2
  simp [f1]
theorem i_ItemsDue_ok (a0 : TFrame) (a1 : TArchive) (a2 : Int) (u0 : Sm 2326528 a0) (u1 : Sm 2326528 a1) : SoundD Try.prog 10 [a0.row, a1.row, [.int .i64 a2]] [[.sl 1 ((i_ItemsDue a0 a1 a2).map iR)]] := by
  refine sound_ofD Try.func10 rfl (by kernel_rfl) ?_
  simp [Try.ntmps10]
  refine okL fun k1 => ?_
  refine loopI (ι := { s : Nat × (List Int) × Nat // i_ItemsDue_1 a0 a1 a2 s.1 s.2.1 s.2.2 = i_ItemsDue_1 a0 a1 a2 (a1.Items.length + 1) ([] : List Int) 0 ∧ (1 ≤ s.1 ∧ a1.Items.length < s.1 + s.2.2 ∧ s.2.2 ≤ a1.Items.length ∧ s.2.1.length ≤ 0 + 1 * s.2.2) }) (fun s => stOf 28 [(2, .one (.d (.int .i64 a2)), []), (3, .one (.bptr 3 0), [.box [.d (.sl 5 (a0.Keys.map TKey.row)), .d (.sl 3 (a0.Authorities.map TAuthority.row)), .d (.sl 4 (a0.Methods.map TMethod.row)), .d (.int .i64 a0.Liars), .d (.int .i64 a0.Now)]]), (7, .one (.sref 7 0 0 s.1.2.1.length), [.arr false 1 (s.1.2.1.map iR)]), (11, .one (.d (.sl 16 (a1.Items.map TItem.row))), []), (12, .one (.d (.int .i64 (↑a1.Items.length : Int))), []), (13, .one (.d (.int .i64 (↑s.1.2.2 : Int))), [])]) (fun s => s.1.1) ⟨((a1.Items.length + 1), ([] : List Int), 0), rfl, by first | omega | (dsimp only; omega) | simp⟩ (wk_of [((7, 0), none)] [] rfl (by simp)) ?_
  rintro ⟨⟨n1, v1_0, v1_1⟩, e1, j1⟩
  try dsimp only at e1 j1
  obtain ⟨p1, rfl⟩ : ∃ p, n1 = p + 1 := ⟨n1 - 1, by omega⟩
  simp
  refine condR (c := (decide ((↑v1_1 : Int) < (↑a1.Items.length : Int)))) (by simp) (fun k2 h1 => ?_) (fun k2 h1 => ?_)
  · have q1 := h1; try simp at q1
    have i1 : v1_1 < a1.Items.length := by simpa using h1
    have m2 : a1.Items.length ≤ 9223372036854775807 := by simpa using k2 11 _ rfl
    have c1 : a1.Items.length ≤ 2326528 := sm_len (by simp (maxDischargeDepth := 12) [u0, u1])
    have w1 : IntKind.i64.wrap ((v1_1 : Int) + 1) = (v1_1 : Int) + 1 := wrap_of (by omega) (by omega)
    simp [i1, rowAt_map]
    repeat ((with_reducible refine And.intro ?_ ?_); focus (intros; first | omega | ((try simp only [W_def, show ∀ x, IntKind.i64.wrap x = W x from fun _ => rfl] at *); omega)))
    refine callRd rfl rfl rfl rfl (i_NeedsRenewal_ok a0 (nth a1.Items v1_1) a2) (by simp) (by simp) (by simp) ?_
    simp
    refine condR (c := (i_NeedsRenewal a0 (nth a1.Items v1_1) a2)) (by simp) (fun k3 h2 => ?_) (fun k3 h2 => ?_)
    · have q2 := h2; try simp at q2
      simp
      repeat ((with_reducible refine And.intro ?_ ?_); focus (intros; first | omega | ((try simp only [W_def, show ∀ x, IntKind.i64.wrap x = W x from fun _ => rfl] at *); omega)))
      refine nxtI ⟨(p1, (v1_0 ++ ([(nth a1.Items v1_1).Id] : List Int)), (v1_1 + 1)), ?_, ?_⟩ (by simp) (wk_of [((7, 0), some (25, 0))] [] rfl (by simp [w1]))
      · rw [← e1]; simp only [i_ItemsDue_1, h1, h2, cond_true, cond_false]
      · first | omega | (simp at *; omega)
    · have q2 := h2; try simp at q2
      simp
      refine nxtI ⟨(p1, v1_0, (v1_1 + 1)), ?_, ?_⟩ (by simp) (wk_keep (by simp [w1]))
      · rw [← e1]; simp only [i_ItemsDue_1, h1, h2, cond_true, cond_false]
      · first | omega | (simp at *; omega)
  · have q1 := h1; try simp at q1
    have c2 : a1.Items.length ≤ 2326528 := sm_len (by simp (maxDischargeDepth := 12) [u0, u1])
    have x1 : i_ItemsDue_1 a0 a1 a2 (a1.Items.length + 1) ([] : List Int) 0 = v1_0 := by rw [← e1]; simp only [i_ItemsDue_1, h1, cond_true, cond_false]
    simp
    refine retD (rv := [.tmp 6]) rfl ?_
    have f1 := i_ItemsDue.eq_1 a0 a1 a2
    simp only [x1, cond_true, cond_false] at f1
    simp [f1]
theorem l_eqIntS_ok (a0 : List Int) (a1 : List Int) : SoundAt Try.prog 11 false [[.sl 1 (a0.map iR)], [.sl 1 (a1.map iR)]] [[.bool (l_eqIntS a0 a1)]] := by
  refine sound_of Try.func11 rfl (by kernel_rfl) ?_
  simp [Try.ntmps11]
  refine condR (c := ((↑a0.length : Int) != (↑a1.length : Int))) (by simp) (fun k1 h1 => ?_) (fun k1 h1 => ?_)
  · have q1 := h1; try simp at q1
    simp
    refine retRd (rv := [.tmp 4]) rfl ?_
    have f1 := l_eqIntS.eq_1 a0 a1
    simp only [h1, cond_true, cond_false] at f1
    simp [f1]
  · have q1 := h1; try simp at q1
    simp
    refine okL fun k2 => ?_
    refine loopI (ι := { s : Nat × Nat // l_eqIntS_1 a0 a1 s.1 s.2 = l_eqIntS_1 a0 a1 (a0.length + 1) 0 ∧ (1 ≤ s.1 ∧ a0.length < s.1 + s.2 ∧ s.2 ≤ a0.length) }) (fun s => stOf 26 [(0, .one (.d (.sl 1 (a0.map iR))), []), (1, .one (.d (.sl 1 (a1.map iR))), []), (5, .one (.d (.int .i64 (↑s.1.2 : Int))), [])]) (fun s => s.1.1) ⟨((a0.length + 1), 0), rfl, by first | omega | (dsimp only; omega) | simp⟩ (wk_keep (by simp)) ?_
    rintro ⟨⟨n1, v1_0⟩, e1, j1⟩
    try dsimp only at e1 j1
    obtain ⟨p1, rfl⟩ : ∃ p, n1 = p + 1 := ⟨n1 - 1, by omega⟩
    simp
    refine condR (c := (decide ((↑v1_0 : Int) < (↑a0.length : Int)))) (by simp) (fun k3 h2 => ?_) (fun k3 h2 => ?_)
    · have q2 := h2; try simp at q2
      have i1 : v1_0 < a0.length := by simpa using h2
      have m2 : a0.length ≤ 9223372036854775807 := by simpa using k3 0 _ rfl
      have w1 : IntKind.i64.wrap ((v1_0 : Int) + 1) = (v1_0 : Int) + 1 := wrap_of (by omega) (by omega)
      simp
      refine okD fun k4 => ?_
      refine drawI mixed (by kernel_rfl) (by kernel_rfl) ?_
      have i2 : v1_0 < a1.length := by first | omega | (have hz := @List.length_pos_iff _ a1; simp_all; done) | ((try simp only [W_def, show ∀ x, IntKind.i64.wrap x = W x from fun _ => rfl] at *); omega)
      simp [i1, rowAt_map, i2]
      repeat ((with_reducible refine And.intro ?_ ?_); focus (intros; first | omega | ((try simp only [W_def, show ∀ x, IntKind.i64.wrap x = W x from fun _ => rfl] at *); omega)))
      refine condR (c := ((nth a0 v1_0) != (nth a1 v1_0))) (by simp) (fun k5 h3 => ?_) (fun k5 h3 => ?_)
      · have q3 := h3; try simp at q3
        have x1 : l_eqIntS_1 a0 a1 (a0.length + 1) 0 = .inl false := by rw [← e1]; simp only [l_eqIntS_1, h2, h3, cond_true, cond_false]
        simp
        refine retRd (rv := [.tmp 4]) rfl ?_
        have f2 := l_eqIntS.eq_1 a0 a1
        simp only [h1, x1, cond_true, cond_false] at f2
        simp [f2]
      · have q3 := h3; try simp at q3
        simp
        refine nxtI ⟨(p1, (v1_0 + 1)), ?_, ?_⟩ (by simp) (wk_keep (by simp [w1]))
        · rw [← e1]; simp only [l_eqIntS_1, h2, h3, cond_true, cond_false]
        · first | omega | (simp at *; omega)
    · have q2 := h2; try simp at q2
      have x2 : l_eqIntS_1 a0 a1 (a0.length + 1) 0 = .inr () := by rw [← e1]; simp only [l_eqIntS_1, h2, cond_true, cond_false]
      simp
      refine retRd (rv := [.tmp 4]) rfl ?_
      have f3 := l_eqIntS.eq_1 a0 a1
      simp only [h1, x2, cond_true, cond_false] at f3
      simp [f3]
theorem l_eqKey_ok (a0 : TKey) (a1 : TKey) : SoundAt Try.prog 65 false [a0.row, a1.row] [[.bool (l_eqKey a0 a1)]] := by
  refine sound_of Try.func65 rfl (by kernel_rfl) ?_
  simp [Try.ntmps65]
  refine condR (c := (a0.Number != a1.Number)) (by simp) (fun k1 h1 => ?_) (fun k1 h1 => ?_)
  · have q1 := h1; try simp at q1
    simp
    refine retRd (rv := [.tmp 4]) rfl ?_
    have f1 := l_eqKey.eq_1 a0 a1
    simp only [h1, cond_true, cond_false] at f1
    simp [f1]
  · have q1 := h1; try simp at q1
    simp
    refine condR (c := (a0.Owner != a1.Owner)) (by simp) (fun k2 h2 => ?_) (fun k2 h2 => ?_)
    · have q2 := h2; try simp at q2
      simp
      refine retRd (rv := [.tmp 4]) rfl ?_
      have f2 := l_eqKey.eq_1 a0 a1
      simp only [h1, h2, cond_true, cond_false] at f2
      simp [f2]
    · have q2 := h2; try simp at q2
      simp
      refine condR (c := (a0.Method != a1.Method)) (by simp) (fun k3 h3 => ?_) (fun k3 h3 => ?_)
      · have q3 := h3; try simp at q3
        simp
        refine retRd (rv := [.tmp 4]) rfl ?_
        have f3 := l_eqKey.eq_1 a0 a1
        simp only [h1, h2, h3, cond_true, cond_false] at f3
        simp [f3]
      · have q3 := h3; try simp at q3
        simp
        refine condR (c := (a0.Born != a1.Born)) (by simp) (fun k4 h4 => ?_) (fun k4 h4 => ?_)
        · have q4 := h4; try simp at q4
          simp
          refine retRd (rv := [.tmp 4]) rfl ?_
          have f4 := l_eqKey.eq_1 a0 a1
          simp only [h1, h2, h3, h4, cond_true, cond_false] at f4
          simp [f4]
        · have q4 := h4; try simp at q4
          simp
          refine condR (c := (a0.Secret != a1.Secret)) (by simp) (fun k5 h5 => ?_) (fun k5 h5 => ?_)
          · have q5 := h5; try simp at q5
            simp
            refine retRd (rv := [.tmp 4]) rfl ?_
            have f5 := l_eqKey.eq_1 a0 a1
            simp only [h1, h2, h3, h4, h5, cond_true, cond_false] at f5
            simp [f5]
          · have q5 := h5; try simp at q5
            simp
            refine retRd (rv := [.tmp 4]) rfl ?_
            have f6 := l_eqKey.eq_1 a0 a1
            simp only [h1, h2, h3, h4, h5, cond_true, cond_false] at f6
            simp [f6]
theorem l_eqKeyS_ok (a0 : List TKey) (a1 : List TKey) : SoundAt Try.prog 33 false [[.sl 5 (a0.map TKey.row)], [.sl 5 (a1.map TKey.row)]] [[.bool (l_eqKeyS a0 a1)]] := by
  refine sound_of Try.func33 rfl (by kernel_rfl) ?_
  simp [Try.ntmps33]
  refine condR (c := ((↑a0.length : Int) != (↑a1.length : Int))) (by simp) (fun k1 h1 => ?_) (fun k1 h1 => ?_)
  · have q1 := h1; try simp at q1
    simp
    refine retRd (rv := [.tmp 4]) rfl ?_
    have f1 := l_eqKeyS.eq_1 a0 a1
    simp only [h1, cond_true, cond_false] at f1
    simp [f1]
  · have q1 := h1; try simp at q1
    simp
    refine okL fun k2 => ?_
    refine loopI (ι := { s : Nat × Nat // l_eqKeyS_1 a0 a1 s.1 s.2 = l_eqKeyS_1 a0 a1 (a0.length + 1) 0 ∧ (1 ≤ s.1 ∧ a0.length < s.1 + s.2 ∧ s.2 ≤ a0.length) }) (fun s => stOf 27 [(0, .one (.d (.sl 5 (a0.map TKey.row))), []), (1, .one (.d (.sl 5 (a1.map TKey.row))), []), (5, .one (.d (.int .i64 (↑s.1.2 : Int))), [])]) (fun s => s.1.1) ⟨((a0.length + 1), 0), rfl, by first | omega | (dsimp only; omega) | simp⟩ (wk_keep (by simp)) ?_
    rintro ⟨⟨n1, v1_0⟩, e1, j1⟩
    try dsimp only at e1 j1
    obtain ⟨p1, rfl⟩ : ∃ p, n1 = p + 1 := ⟨n1 - 1, by omega⟩
    simp
    refine condR (c := (decide ((↑v1_0 : Int) < (↑a0.length : Int)))) (by simp) (fun k3 h2 => ?_) (fun k3 h2 => ?_)
    · have q2 := h2; try simp at q2
      have i1 : v1_0 < a0.length := by simpa using h2
      have m2 : a0.length ≤ 9223372036854775807 := by simpa using k3 0 _ rfl
      have w1 : IntKind.i64.wrap ((v1_0 : Int) + 1) = (v1_0 : Int) + 1 := wrap_of (by omega) (by omega)
      simp
      refine okD fun k4 => ?_
      refine drawI mixed (by kernel_rfl) (by kernel_rfl) ?_
      have i2 : v1_0 < a1.length := by first | omega | (have hz := @List.length_pos_iff _ a1; simp_all; done) | ((try simp only [W_def, show ∀ x, IntKind.i64.wrap x = W x from fun _ => rfl] at *); omega)
      simp [i1, rowAt_map, i2]
      repeat ((with_reducible refine And.intro ?_ ?_); focus (intros; first | omega | ((try simp only [W_def, show ∀ x, IntKind.i64.wrap x = W x from fun _ => rfl] at *); omega)))
      refine callRd rfl rfl rfl rfl (l_eqKey_ok (nth a0 v1_0) (nth a1 v1_0)) (by simp) (by simp) (by simp) ?_
      simp
      refine condR (c := (!(l_eqKey (nth a0 v1_0) (nth a1 v1_0)))) (by simp) (fun k5 h3 => ?_) (fun k5 h3 => ?_)
      · have q3 := h3; try simp at q3
        have x1 : l_eqKeyS_1 a0 a1 (a0.length + 1) 0 = .inl false := by rw [← e1]; simp only [l_eqKeyS_1, h2, h3, cond_true, cond_false]
        simp
        refine retRd (rv := [.tmp 4]) rfl ?_
        have f2 := l_eqKeyS.eq_1 a0 a1
        simp only [h1, x1, cond_true, cond_false] at f2
        simp [f2]
      · have q3 := h3; try simp at q3
        simp
        refine nxtI ⟨(p1, (v1_0 + 1)), ?_, ?_⟩ (by simp) (wk_keep (by simp [w1]))
        · rw [← e1]; simp only [l_eqKeyS_1, h2, h3, cond_true, cond_false]
        · first | omega | (simp at *; omega)
    · have q2 := h2; try simp at q2
      have x2 : l_eqKeyS_1 a0 a1 (a0.length + 1) 0 = .inr () := by rw [← e1]; simp only [l_eqKeyS_1, h2, cond_true, cond_false]
      simp
      refine retRd (rv := [.tmp 4]) rfl ?_
      have f3 := l_eqKeyS.eq_1 a0 a1
      simp only [h1, x2, cond_true, cond_false] at f3
      simp [f3]
theorem l_eqAuthority_ok (a0 : TAuthority) (a1 : TAuthority) : SoundAt Try.prog 66 false [a0.row, a1.row] [[.bool (l_eqAuthority a0 a1)]] := by
  refine sound_of Try.func66 rfl (by kernel_rfl) ?_
  simp [Try.ntmps66]
  refine condR (c := (a0.Id != a1.Id)) (by simp) (fun k1 h1 => ?_) (fun k1 h1 => ?_)
  · have q1 := h1; try simp at q1
    simp
    refine retRd (rv := [.tmp 4]) rfl ?_
    have f1 := l_eqAuthority.eq_1 a0 a1
    simp only [h1, cond_true, cond_false] at f1
    simp [f1]
  · have q1 := h1; try simp at q1
    simp
    refine condR (c := (a0.Key != a1.Key)) (by simp) (fun k2 h2 => ?_) (fun k2 h2 => ?_)
    · have q2 := h2; try simp at q2
      simp
      refine retRd (rv := [.tmp 4]) rfl ?_
      have f2 := l_eqAuthority.eq_1 a0 a1
      simp only [h1, h2, cond_true, cond_false] at f2
      simp [f2]
    · have q2 := h2; try simp at q2
      simp
      refine condR (c := (a0.Error != a1.Error)) (by simp) (fun k3 h3 => ?_) (fun k3 h3 => ?_)
      · have q3 := h3; try simp at q3
        simp
        refine retRd (rv := [.tmp 4]) rfl ?_
        have f3 := l_eqAuthority.eq_1 a0 a1
        simp only [h1, h2, h3, cond_true, cond_false] at f3
        simp [f3]
      · have q3 := h3; try simp at q3
        simp
        refine retRd (rv := [.tmp 4]) rfl ?_
        have f4 := l_eqAuthority.eq_1 a0 a1
        simp only [h1, h2, h3, cond_true, cond_false] at f4
        simp [f4]
theorem l_eqAuthorityS_ok (a0 : List TAuthority) (a1 : List TAuthority) : SoundAt Try.prog 34 false [[.sl 3 (a0.map TAuthority.row)], [.sl 3 (a1.map TAuthority.row)]] [[.bool (l_eqAuthorityS a0 a1)]] := by
  refine sound_of Try.func34 rfl (by kernel_rfl) ?_
  simp [Try.ntmps34]
  refine condR (c := ((↑a0.length : Int) != (↑a1.length : Int))) (by simp) (fun k1 h1 => ?_) (fun k1 h1 => ?_)
  · have q1 := h1; try simp at q1
    simp
    refine retRd (rv := [.tmp 4]) rfl ?_
    have f1 := l_eqAuthorityS.eq_1 a0 a1
    simp only [h1, cond_true, cond_false] at f1
    simp [f1]
  · have q1 := h1; try simp at q1
    simp
    refine okL fun k2 => ?_
    refine loopI (ι := { s : Nat × Nat // l_eqAuthorityS_1 a0 a1 s.1 s.2 = l_eqAuthorityS_1 a0 a1 (a0.length + 1) 0 ∧ (1 ≤ s.1 ∧ a0.length < s.1 + s.2 ∧ s.2 ≤ a0.length) }) (fun s => stOf 27 [(0, .one (.d (.sl 3 (a0.map TAuthority.row))), []), (1, .one (.d (.sl 3 (a1.map TAuthority.row))), []), (5, .one (.d (.int .i64 (↑s.1.2 : Int))), [])]) (fun s => s.1.1) ⟨((a0.length + 1), 0), rfl, by first | omega | (dsimp only; omega) | simp⟩ (wk_keep (by simp)) ?_
    rintro ⟨⟨n1, v1_0⟩, e1, j1⟩
    try dsimp only at e1 j1
    obtain ⟨p1, rfl⟩ : ∃ p, n1 = p + 1 := ⟨n1 - 1, by omega⟩
    simp
    refine condR (c := (decide ((↑v1_0 : Int) < (↑a0.length : Int)))) (by simp) (fun k3 h2 => ?_) (fun k3 h2 => ?_)
    · have q2 := h2; try simp at q2
      have i1 : v1_0 < a0.length := by simpa using h2
      have m2 : a0.length ≤ 9223372036854775807 := by simpa using k3 0 _ rfl
      have w1 : IntKind.i64.wrap ((v1_0 : Int) + 1) = (v1_0 : Int) + 1 := wrap_of (by omega) (by omega)
      simp
      refine okD fun k4 => ?_
      refine drawI mixed (by kernel_rfl) (by kernel_rfl) ?_
      have i2 : v1_0 < a1.length := by first | omega | (have hz := @List.length_pos_iff _ a1; simp_all; done) | ((try simp only [W_def, show ∀ x, IntKind.i64.wrap x = W x from fun _ => rfl] at *); omega)
      simp [i1, rowAt_map, i2]
      repeat ((with_reducible refine And.intro ?_ ?_); focus (intros; first | omega | ((try simp only [W_def, show ∀ x, IntKind.i64.wrap x = W x from fun _ => rfl] at *); omega)))
      refine callRd rfl rfl rfl rfl (l_eqAuthority_ok (nth a0 v1_0) (nth a1 v1_0)) (by simp) (by simp) (by simp) ?_
      simp
      refine condR (c := (!(l_eqAuthority (nth a0 v1_0) (nth a1 v1_0)))) (by simp) (fun k5 h3 => ?_) (fun k5 h3 => ?_)
      · have q3 := h3; try simp at q3
        have x1 : l_eqAuthorityS_1 a0 a1 (a0.length + 1) 0 = .inl false := by rw [← e1]; simp only [l_eqAuthorityS_1, h2, h3, cond_true, cond_false]
        simp
        refine retRd (rv := [.tmp 4]) rfl ?_
        have f2 := l_eqAuthorityS.eq_1 a0 a1
        simp only [h1, x1, cond_true, cond_false] at f2
        simp [f2]
      · have q3 := h3; try simp at q3
        simp
        refine nxtI ⟨(p1, (v1_0 + 1)), ?_, ?_⟩ (by simp) (wk_keep (by simp [w1]))
        · rw [← e1]; simp only [l_eqAuthorityS_1, h2, h3, cond_true, cond_false]
        · first | omega | (simp at *; omega)
    · have q2 := h2; try simp at q2
      have x2 : l_eqAuthorityS_1 a0 a1 (a0.length + 1) 0 = .inr () := by rw [← e1]; simp only [l_eqAuthorityS_1, h2, cond_true, cond_false]
      simp
      refine retRd (rv := [.tmp 4]) rfl ?_
      have f3 := l_eqAuthorityS.eq_1 a0 a1
      simp only [h1, x2, cond_true, cond_false] at f3
      simp [f3]
theorem l_eqMethod_ok (a0 : TMethod) (a1 : TMethod) : SoundAt Try.prog 67 false [a0.row, a1.row] [[.bool (l_eqMethod a0 a1)]] := by
  refine sound_of Try.func67 rfl (by kernel_rfl) ?_
  simp [Try.ntmps67]
  refine condR (c := (a0.Id != a1.Id)) (by simp) (fun k1 h1 => ?_) (fun k1 h1 => ?_)
  · have q1 := h1; try simp at q1
    simp
    refine retRd (rv := [.tmp 4]) rfl ?_
    have f1 := l_eqMethod.eq_1 a0 a1
    simp only [h1, cond_true, cond_false] at f1
    simp [f1]
  · have q1 := h1; try simp at q1
    simp
    refine condR (c := (a0.Known != a1.Known)) (by simp) (fun k2 h2 => ?_) (fun k2 h2 => ?_)
    · have q2 := h2; try simp at q2
      simp
      refine retRd (rv := [.tmp 4]) rfl ?_
      have f2 := l_eqMethod.eq_1 a0 a1
      simp only [h1, h2, cond_true, cond_false] at f2
      simp [f2]
    · have q2 := h2; try simp at q2
      simp
      refine condR (c := (a0.Ends != a1.Ends)) (by simp) (fun k3 h3 => ?_) (fun k3 h3 => ?_)
      · have q3 := h3; try simp at q3
        simp
        refine retRd (rv := [.tmp 4]) rfl ?_
        have f3 := l_eqMethod.eq_1 a0 a1
        simp only [h1, h2, h3, cond_true, cond_false] at f3
        simp [f3]
      · have q3 := h3; try simp at q3
        simp
        refine condR (c := (a0.Broken != a1.Broken)) (by simp) (fun k4 h4 => ?_) (fun k4 h4 => ?_)
        · have q4 := h4; try simp at q4
          simp
          refine retRd (rv := [.tmp 4]) rfl ?_
          have f4 := l_eqMethod.eq_1 a0 a1
          simp only [h1, h2, h3, h4, cond_true, cond_false] at f4
          simp [f4]
        · have q4 := h4; try simp at q4
          simp
          refine retRd (rv := [.tmp 4]) rfl ?_
          have f5 := l_eqMethod.eq_1 a0 a1
          simp only [h1, h2, h3, h4, cond_true, cond_false] at f5
          simp [f5]
theorem l_eqMethodS_ok (a0 : List TMethod) (a1 : List TMethod) : SoundAt Try.prog 35 false [[.sl 4 (a0.map TMethod.row)], [.sl 4 (a1.map TMethod.row)]] [[.bool (l_eqMethodS a0 a1)]] := by
  refine sound_of Try.func35 rfl (by kernel_rfl) ?_
  simp [Try.ntmps35]
  refine condR (c := ((↑a0.length : Int) != (↑a1.length : Int))) (by simp) (fun k1 h1 => ?_) (fun k1 h1 => ?_)
  · have q1 := h1; try simp at q1
    simp
    refine retRd (rv := [.tmp 4]) rfl ?_
    have f1 := l_eqMethodS.eq_1 a0 a1
    simp only [h1, cond_true, cond_false] at f1
    simp [f1]
  · have q1 := h1; try simp at q1
    simp
    refine okL fun k2 => ?_
    refine loopI (ι := { s : Nat × Nat // l_eqMethodS_1 a0 a1 s.1 s.2 = l_eqMethodS_1 a0 a1 (a0.length + 1) 0 ∧ (1 ≤ s.1 ∧ a0.length < s.1 + s.2 ∧ s.2 ≤ a0.length) }) (fun s => stOf 27 [(0, .one (.d (.sl 4 (a0.map TMethod.row))), []), (1, .one (.d (.sl 4 (a1.map TMethod.row))), []), (5, .one (.d (.int .i64 (↑s.1.2 : Int))), [])]) (fun s => s.1.1) ⟨((a0.length + 1), 0), rfl, by first | omega | (dsimp only; omega) | simp⟩ (wk_keep (by simp)) ?_
    rintro ⟨⟨n1, v1_0⟩, e1, j1⟩
    try dsimp only at e1 j1
    obtain ⟨p1, rfl⟩ : ∃ p, n1 = p + 1 := ⟨n1 - 1, by omega⟩
    simp
    refine condR (c := (decide ((↑v1_0 : Int) < (↑a0.length : Int)))) (by simp) (fun k3 h2 => ?_) (fun k3 h2 => ?_)
    · have q2 := h2; try simp at q2
      have i1 : v1_0 < a0.length := by simpa using h2
      have m2 : a0.length ≤ 9223372036854775807 := by simpa using k3 0 _ rfl
      have w1 : IntKind.i64.wrap ((v1_0 : Int) + 1) = (v1_0 : Int) + 1 := wrap_of (by omega) (by omega)
      simp
      refine okD fun k4 => ?_
      refine drawI mixed (by kernel_rfl) (by kernel_rfl) ?_
      have i2 : v1_0 < a1.length := by first | omega | (have hz := @List.length_pos_iff _ a1; simp_all; done) | ((try simp only [W_def, show ∀ x, IntKind.i64.wrap x = W x from fun _ => rfl] at *); omega)
      simp [i1, rowAt_map, i2]
      repeat ((with_reducible refine And.intro ?_ ?_); focus (intros; first | omega | ((try simp only [W_def, show ∀ x, IntKind.i64.wrap x = W x from fun _ => rfl] at *); omega)))
      refine callRd rfl rfl rfl rfl (l_eqMethod_ok (nth a0 v1_0) (nth a1 v1_0)) (by simp) (by simp) (by simp) ?_
      simp
      refine condR (c := (!(l_eqMethod (nth a0 v1_0) (nth a1 v1_0)))) (by simp) (fun k5 h3 => ?_) (fun k5 h3 => ?_)
      · have q3 := h3; try simp at q3
        have x1 : l_eqMethodS_1 a0 a1 (a0.length + 1) 0 = .inl false := by rw [← e1]; simp only [l_eqMethodS_1, h2, h3, cond_true, cond_false]
        simp
        refine retRd (rv := [.tmp 4]) rfl ?_
        have f2 := l_eqMethodS.eq_1 a0 a1
        simp only [h1, x1, cond_true, cond_false] at f2
        simp [f2]
      · have q3 := h3; try simp at q3
        simp
        refine nxtI ⟨(p1, (v1_0 + 1)), ?_, ?_⟩ (by simp) (wk_keep (by simp [w1]))
        · rw [← e1]; simp only [l_eqMethodS_1, h2, h3, cond_true, cond_false]
        · first | omega | (simp at *; omega)
    · have q2 := h2; try simp at q2
      have x2 : l_eqMethodS_1 a0 a1 (a0.length + 1) 0 = .inr () := by rw [← e1]; simp only [l_eqMethodS_1, h2, cond_true, cond_false]
      simp
      refine retRd (rv := [.tmp 4]) rfl ?_
      have f3 := l_eqMethodS.eq_1 a0 a1
      simp only [h1, x2, cond_true, cond_false] at f3
      simp [f3]
theorem l_eqFrame_ok (a0 : TFrame) (a1 : TFrame) : SoundAt Try.prog 12 false [a0.row, a1.row] [[.bool (l_eqFrame a0 a1)]] := by
  refine sound_of Try.func12 rfl (by kernel_rfl) ?_
  simp [Try.ntmps12]
  refine callRd rfl rfl rfl rfl (l_eqKeyS_ok a0.Keys a1.Keys) (by simp) (by simp) (by simp) ?_
  simp
  refine condR (c := (!(l_eqKeyS a0.Keys a1.Keys))) (by simp) (fun k1 h1 => ?_) (fun k1 h1 => ?_)
  · have q1 := h1; try simp at q1
    simp
    refine retRd (rv := [.tmp 4]) rfl ?_
    have f1 := l_eqFrame.eq_1 a0 a1
    simp only [h1, cond_true, cond_false] at f1
    simp [f1]
  · have q1 := h1; try simp at q1
    simp
    refine callRd rfl rfl rfl rfl (l_eqAuthorityS_ok a0.Authorities a1.Authorities) (by simp) (by simp) (by simp) ?_
    simp
    refine condR (c := (!(l_eqAuthorityS a0.Authorities a1.Authorities))) (by simp) (fun k2 h2 => ?_) (fun k2 h2 => ?_)
    · have q2 := h2; try simp at q2
      simp
      refine retRd (rv := [.tmp 4]) rfl ?_
      have f2 := l_eqFrame.eq_1 a0 a1
      simp only [h1, h2, cond_true, cond_false] at f2
      simp [f2]
    · have q2 := h2; try simp at q2
      simp
      refine callRd rfl rfl rfl rfl (l_eqMethodS_ok a0.Methods a1.Methods) (by simp) (by simp) (by simp) ?_
      simp
      refine condR (c := (!(l_eqMethodS a0.Methods a1.Methods))) (by simp) (fun k3 h3 => ?_) (fun k3 h3 => ?_)
      · have q3 := h3; try simp at q3
        simp
        refine retRd (rv := [.tmp 4]) rfl ?_
        have f3 := l_eqFrame.eq_1 a0 a1
        simp only [h1, h2, h3, cond_true, cond_false] at f3
        simp [f3]
      · have q3 := h3; try simp at q3
        simp
        refine condR (c := (a0.Liars != a1.Liars)) (by simp) (fun k4 h4 => ?_) (fun k4 h4 => ?_)
        · have q4 := h4; try simp at q4
          simp
          refine retRd (rv := [.tmp 4]) rfl ?_
          have f4 := l_eqFrame.eq_1 a0 a1
          simp only [h1, h2, h3, h4, cond_true, cond_false] at f4
          simp [f4]
        · have q4 := h4; try simp at q4
          simp
          refine condR (c := (a0.Now != a1.Now)) (by simp) (fun k5 h5 => ?_) (fun k5 h5 => ?_)
          · have q5 := h5; try simp at q5
            simp
            refine retRd (rv := [.tmp 4]) rfl ?_
            have f5 := l_eqFrame.eq_1 a0 a1
            simp only [h1, h2, h3, h4, h5, cond_true, cond_false] at f5
            simp [f5]
          · have q5 := h5; try simp at q5
            simp
            refine retRd (rv := [.tmp 4]) rfl ?_
            have f6 := l_eqFrame.eq_1 a0 a1
            simp only [h1, h2, h3, h4, h5, cond_true, cond_false] at f6
            simp [f6]
theorem l_eqStringS_ok (a0 : List ByteArray) (a1 : List ByteArray) : SoundAt Try.prog 119 false [[.sl 1 (a0.map sR)], [.sl 1 (a1.map sR)]] [[.bool (l_eqStringS a0 a1)]] := by
  refine sound_of Try.func119 rfl (by kernel_rfl) ?_
  simp [Try.ntmps119]
  refine condR (c := ((↑a0.length : Int) != (↑a1.length : Int))) (by simp) (fun k1 h1 => ?_) (fun k1 h1 => ?_)
  · have q1 := h1; try simp at q1
    simp
    refine retRd (rv := [.tmp 4]) rfl ?_
    have f1 := l_eqStringS.eq_1 a0 a1
    simp only [h1, cond_true, cond_false] at f1
    simp [f1]
  · have q1 := h1; try simp at q1
    simp
    refine okL fun k2 => ?_
    refine loopI (ι := { s : Nat × Nat // l_eqStringS_1 a0 a1 s.1 s.2 = l_eqStringS_1 a0 a1 (a0.length + 1) 0 ∧ (1 ≤ s.1 ∧ a0.length < s.1 + s.2 ∧ s.2 ≤ a0.length) }) (fun s => stOf 26 [(0, .one (.d (.sl 1 (a0.map sR))), []), (1, .one (.d (.sl 1 (a1.map sR))), []), (5, .one (.d (.int .i64 (↑s.1.2 : Int))), [])]) (fun s => s.1.1) ⟨((a0.length + 1), 0), rfl, by first | omega | (dsimp only; omega) | simp⟩ (wk_keep (by simp)) ?_
    rintro ⟨⟨n1, v1_0⟩, e1, j1⟩
    try dsimp only at e1 j1
    obtain ⟨p1, rfl⟩ : ∃ p, n1 = p + 1 := ⟨n1 - 1, by omega⟩
    simp
    refine condR (c := (decide ((↑v1_0 : Int) < (↑a0.length : Int)))) (by simp) (fun k3 h2 => ?_) (fun k3 h2 => ?_)
    · have q2 := h2; try simp at q2
      have i1 : v1_0 < a0.length := by simpa using h2
      have m2 : a0.length ≤ 9223372036854775807 := by simpa using k3 0 _ rfl
      have w1 : IntKind.i64.wrap ((v1_0 : Int) + 1) = (v1_0 : Int) + 1 := wrap_of (by omega) (by omega)
      simp
      refine okD fun k4 => ?_
      refine drawI mixed (by kernel_rfl) (by kernel_rfl) ?_
      have i2 : v1_0 < a1.length := by first | omega | (have hz := @List.length_pos_iff _ a1; simp_all; done) | ((try simp only [W_def, show ∀ x, IntKind.i64.wrap x = W x from fun _ => rfl] at *); omega)
      simp [i1, rowAt_map, i2]
      repeat ((with_reducible refine And.intro ?_ ?_); focus (intros; first | omega | ((try simp only [W_def, show ∀ x, IntKind.i64.wrap x = W x from fun _ => rfl] at *); omega)))
      refine condR (c := (!decide ((nth a0 v1_0) = (nth a1 v1_0)))) (by simp) (fun k5 h3 => ?_) (fun k5 h3 => ?_)
      · have q3 := h3; try simp at q3
        have x1 : l_eqStringS_1 a0 a1 (a0.length + 1) 0 = .inl false := by rw [← e1]; simp only [l_eqStringS_1, h2, h3, cond_true, cond_false]
        simp
        refine retRd (rv := [.tmp 4]) rfl ?_
        have f2 := l_eqStringS.eq_1 a0 a1
        simp only [h1, x1, cond_true, cond_false] at f2
        simp [f2]
      · have q3 := h3; try simp at q3
        simp
        refine nxtI ⟨(p1, (v1_0 + 1)), ?_, ?_⟩ (by simp) (wk_keep (by simp [w1]))
        · rw [← e1]; simp only [l_eqStringS_1, h2, h3, cond_true, cond_false]
        · first | omega | (simp at *; omega)
    · have q2 := h2; try simp at q2
      have x2 : l_eqStringS_1 a0 a1 (a0.length + 1) 0 = .inr () := by rw [← e1]; simp only [l_eqStringS_1, h2, cond_true, cond_false]
      simp
      refine retRd (rv := [.tmp 4]) rfl ?_
      have f3 := l_eqStringS.eq_1 a0 a1
      simp only [h1, x2, cond_true, cond_false] at f3
      simp [f3]
theorem l_eqDocument_ok (a0 : TDocument) (a1 : TDocument) : SoundAt Try.prog 90 false [a0.row, a1.row] [[.bool (l_eqDocument a0 a1)]] := by
  refine sound_of Try.func90 rfl (by kernel_rfl) ?_
  simp [Try.ntmps90]
  refine condR (c := (a0.Title != a1.Title)) (by simp) (fun k1 h1 => ?_) (fun k1 h1 => ?_)
  · have q1 := h1; try simp at q1
    simp
    refine retRd (rv := [.tmp 4]) rfl ?_
    have f1 := l_eqDocument.eq_1 a0 a1
    simp only [h1, cond_true, cond_false] at f1
    simp [f1]
  · have q1 := h1; try simp at q1
    simp
    refine callRd rfl rfl rfl rfl (l_eqStringS_ok a0.Parts a1.Parts) (by simp) (by simp) (by simp) ?_
    simp
    refine condR (c := (!(l_eqStringS a0.Parts a1.Parts))) (by simp) (fun k2 h2 => ?_) (fun k2 h2 => ?_)
    · have q2 := h2; try simp at q2
      simp
      refine retRd (rv := [.tmp 4]) rfl ?_
      have f2 := l_eqDocument.eq_1 a0 a1
      simp only [h1, h2, cond_true, cond_false] at f2
      simp [f2]
    · have q2 := h2; try simp at q2
      simp
      refine callRd rfl rfl rfl rfl (l_eqIntS_ok a0.Salts a1.Salts) (by simp) (by simp) (by simp) ?_
      simp
      refine condR (c := (!(l_eqIntS a0.Salts a1.Salts))) (by simp) (fun k3 h3 => ?_) (fun k3 h3 => ?_)
      · have q3 := h3; try simp at q3
        simp
        refine retRd (rv := [.tmp 4]) rfl ?_
        have f3 := l_eqDocument.eq_1 a0 a1
        simp only [h1, h2, h3, cond_true, cond_false] at f3
        simp [f3]
      · have q3 := h3; try simp at q3
        simp
        refine retRd (rv := [.tmp 4]) rfl ?_
        have f4 := l_eqDocument.eq_1 a0 a1
        simp only [h1, h2, h3, cond_true, cond_false] at f4
        simp [f4]
theorem l_eqSignature_ok (a0 : TSignature) (a1 : TSignature) : SoundAt Try.prog 91 false [a0.row, a1.row] [[.bool (l_eqSignature a0 a1)]] := by
  refine sound_of Try.func91 rfl (by kernel_rfl) ?_
  simp [Try.ntmps91]
  refine condR (c := (a0.Key != a1.Key)) (by simp) (fun k1 h1 => ?_) (fun k1 h1 => ?_)
  · have q1 := h1; try simp at q1
    simp
    refine retRd (rv := [.tmp 4]) rfl ?_
    have f1 := l_eqSignature.eq_1 a0 a1
    simp only [h1, cond_true, cond_false] at f1
    simp [f1]
  · have q1 := h1; try simp at q1
    simp
    refine condR (c := (a0.Serial != a1.Serial)) (by simp) (fun k2 h2 => ?_) (fun k2 h2 => ?_)
    · have q2 := h2; try simp at q2
      simp
      refine retRd (rv := [.tmp 4]) rfl ?_
      have f2 := l_eqSignature.eq_1 a0 a1
      simp only [h1, h2, cond_true, cond_false] at f2
      simp [f2]
    · have q2 := h2; try simp at q2
      simp
      refine condR (c := (a0.Method != a1.Method)) (by simp) (fun k3 h3 => ?_) (fun k3 h3 => ?_)
      · have q3 := h3; try simp at q3
        simp
        refine retRd (rv := [.tmp 4]) rfl ?_
        have f3 := l_eqSignature.eq_1 a0 a1
        simp only [h1, h2, h3, cond_true, cond_false] at f3
        simp [f3]
      · have q3 := h3; try simp at q3
        simp
        refine condR (c := (a0.Digest != a1.Digest)) (by simp) (fun k4 h4 => ?_) (fun k4 h4 => ?_)
        · have q4 := h4; try simp at q4
          simp
          refine retRd (rv := [.tmp 4]) rfl ?_
          have f4 := l_eqSignature.eq_1 a0 a1
          simp only [h1, h2, h3, h4, cond_true, cond_false] at f4
          simp [f4]
        · have q4 := h4; try simp at q4
          simp
          refine condR (c := (a0.Commit != a1.Commit)) (by simp) (fun k5 h5 => ?_) (fun k5 h5 => ?_)
          · have q5 := h5; try simp at q5
            simp
            refine retRd (rv := [.tmp 4]) rfl ?_
            have f5 := l_eqSignature.eq_1 a0 a1
            simp only [h1, h2, h3, h4, h5, cond_true, cond_false] at f5
            simp [f5]
          · have q5 := h5; try simp at q5
            simp
            refine condR (c := (a0.Org != a1.Org)) (by simp) (fun k6 h6 => ?_) (fun k6 h6 => ?_)
            · have q6 := h6; try simp at q6
              simp
              refine retRd (rv := [.tmp 4]) rfl ?_
              have f6 := l_eqSignature.eq_1 a0 a1
              simp only [h1, h2, h3, h4, h5, h6, cond_true, cond_false] at f6
              simp [f6]
            · have q6 := h6; try simp at q6
              simp
              refine condR (c := (a0.Before != a1.Before)) (by simp) (fun k7 h7 => ?_) (fun k7 h7 => ?_)
              · have q7 := h7; try simp at q7
                simp
                refine retRd (rv := [.tmp 4]) rfl ?_
                have f7 := l_eqSignature.eq_1 a0 a1
                simp only [h1, h2, h3, h4, h5, h6, h7, cond_true, cond_false] at f7
                simp [f7]
              · have q7 := h7; try simp at q7
                simp
                refine condR (c := (a0.After != a1.After)) (by simp) (fun k8 h8 => ?_) (fun k8 h8 => ?_)
                · have q8 := h8; try simp at q8
                  simp
                  refine retRd (rv := [.tmp 4]) rfl ?_
                  have f8 := l_eqSignature.eq_1 a0 a1
                  simp only [h1, h2, h3, h4, h5, h6, h7, h8, cond_true, cond_false] at f8
                  simp [f8]
                · have q8 := h8; try simp at q8
                  simp
                  refine condR (c := (a0.Mark != a1.Mark)) (by simp) (fun k9 h9 => ?_) (fun k9 h9 => ?_)
                  · have q9 := h9; try simp at q9
                    simp
                    refine retRd (rv := [.tmp 4]) rfl ?_
                    have f9 := l_eqSignature.eq_1 a0 a1
                    simp only [h1, h2, h3, h4, h5, h6, h7, h8, h9, cond_true, cond_false] at f9
                    simp [f9]
                  · have q9 := h9; try simp at q9
                    simp
                    refine retRd (rv := [.tmp 4]) rfl ?_
                    have f10 := l_eqSignature.eq_1 a0 a1
                    simp only [h1, h2, h3, h4, h5, h6, h7, h8, h9, cond_true, cond_false] at f10
                    simp [f10]
theorem l_eqPiece_ok (a0 : TPiece) (a1 : TPiece) : SoundAt Try.prog 136 false [a0.row, a1.row] [[.bool (l_eqPiece a0 a1)]] := by
  refine sound_of Try.func136 rfl (by kernel_rfl) ?_
  simp [Try.ntmps136]
  refine condR (c := (a0.Key != a1.Key)) (by simp) (fun k1 h1 => ?_) (fun k1 h1 => ?_)
  · have q1 := h1; try simp at q1
    simp
    refine retRd (rv := [.tmp 4]) rfl ?_
    have f1 := l_eqPiece.eq_1 a0 a1
    simp only [h1, cond_true, cond_false] at f1
    simp [f1]
  · have q1 := h1; try simp at q1
    simp
    refine callRd rfl rfl rfl rfl (l_eqIntS_ok a0.Ints a1.Ints) (by simp) (by simp) (by simp) ?_
    simp
    refine condR (c := (!(l_eqIntS a0.Ints a1.Ints))) (by simp) (fun k2 h2 => ?_) (fun k2 h2 => ?_)
    · have q2 := h2; try simp at q2
      simp
      refine retRd (rv := [.tmp 4]) rfl ?_
      have f2 := l_eqPiece.eq_1 a0 a1
      simp only [h1, h2, cond_true, cond_false] at f2
      simp [f2]
    · have q2 := h2; try simp at q2
      simp
      refine condR (c := (a0.Mark != a1.Mark)) (by simp) (fun k3 h3 => ?_) (fun k3 h3 => ?_)
      · have q3 := h3; try simp at q3
        simp
        refine retRd (rv := [.tmp 4]) rfl ?_
        have f3 := l_eqPiece.eq_1 a0 a1
        simp only [h1, h2, h3, cond_true, cond_false] at f3
        simp [f3]
      · have q3 := h3; try simp at q3
        simp
        refine retRd (rv := [.tmp 4]) rfl ?_
        have f4 := l_eqPiece.eq_1 a0 a1
        simp only [h1, h2, h3, cond_true, cond_false] at f4
        simp [f4]
theorem l_eqPieceS_ok (a0 : List TPiece) (a1 : List TPiece) : SoundAt Try.prog 120 false [[.sl 3 (a0.map TPiece.row)], [.sl 3 (a1.map TPiece.row)]] [[.bool (l_eqPieceS a0 a1)]] := by
  refine sound_of Try.func120 rfl (by kernel_rfl) ?_
  simp [Try.ntmps120]
  refine condR (c := ((↑a0.length : Int) != (↑a1.length : Int))) (by simp) (fun k1 h1 => ?_) (fun k1 h1 => ?_)
  · have q1 := h1; try simp at q1
    simp
    refine retRd (rv := [.tmp 4]) rfl ?_
    have f1 := l_eqPieceS.eq_1 a0 a1
    simp only [h1, cond_true, cond_false] at f1
    simp [f1]
  · have q1 := h1; try simp at q1
    simp
    refine okL fun k2 => ?_
    refine loopI (ι := { s : Nat × Nat // l_eqPieceS_1 a0 a1 s.1 s.2 = l_eqPieceS_1 a0 a1 (a0.length + 1) 0 ∧ (1 ≤ s.1 ∧ a0.length < s.1 + s.2 ∧ s.2 ≤ a0.length) }) (fun s => stOf 27 [(0, .one (.d (.sl 3 (a0.map TPiece.row))), []), (1, .one (.d (.sl 3 (a1.map TPiece.row))), []), (5, .one (.d (.int .i64 (↑s.1.2 : Int))), [])]) (fun s => s.1.1) ⟨((a0.length + 1), 0), rfl, by first | omega | (dsimp only; omega) | simp⟩ (wk_keep (by simp)) ?_
    rintro ⟨⟨n1, v1_0⟩, e1, j1⟩
    try dsimp only at e1 j1
    obtain ⟨p1, rfl⟩ : ∃ p, n1 = p + 1 := ⟨n1 - 1, by omega⟩
    simp
    refine condR (c := (decide ((↑v1_0 : Int) < (↑a0.length : Int)))) (by simp) (fun k3 h2 => ?_) (fun k3 h2 => ?_)
    · have q2 := h2; try simp at q2
      have i1 : v1_0 < a0.length := by simpa using h2
      have m2 : a0.length ≤ 9223372036854775807 := by simpa using k3 0 _ rfl
      have w1 : IntKind.i64.wrap ((v1_0 : Int) + 1) = (v1_0 : Int) + 1 := wrap_of (by omega) (by omega)
      simp
      refine okD fun k4 => ?_
      refine drawI mixed (by kernel_rfl) (by kernel_rfl) ?_
      have i2 : v1_0 < a1.length := by first | omega | (have hz := @List.length_pos_iff _ a1; simp_all; done) | ((try simp only [W_def, show ∀ x, IntKind.i64.wrap x = W x from fun _ => rfl] at *); omega)
      simp [i1, rowAt_map, i2]
      repeat ((with_reducible refine And.intro ?_ ?_); focus (intros; first | omega | ((try simp only [W_def, show ∀ x, IntKind.i64.wrap x = W x from fun _ => rfl] at *); omega)))
      refine callRd rfl rfl rfl rfl (l_eqPiece_ok (nth a0 v1_0) (nth a1 v1_0)) (by simp) (by simp) (by simp) ?_
      simp
      refine condR (c := (!(l_eqPiece (nth a0 v1_0) (nth a1 v1_0)))) (by simp) (fun k5 h3 => ?_) (fun k5 h3 => ?_)
      · have q3 := h3; try simp at q3
        have x1 : l_eqPieceS_1 a0 a1 (a0.length + 1) 0 = .inl false := by rw [← e1]; simp only [l_eqPieceS_1, h2, h3, cond_true, cond_false]
        simp
        refine retRd (rv := [.tmp 4]) rfl ?_
        have f2 := l_eqPieceS.eq_1 a0 a1
        simp only [h1, x1, cond_true, cond_false] at f2
        simp [f2]
      · have q3 := h3; try simp at q3
        simp
        refine nxtI ⟨(p1, (v1_0 + 1)), ?_, ?_⟩ (by simp) (wk_keep (by simp [w1]))
        · rw [← e1]; simp only [l_eqPieceS_1, h2, h3, cond_true, cond_false]
        · first | omega | (simp at *; omega)
    · have q2 := h2; try simp at q2
      have x2 : l_eqPieceS_1 a0 a1 (a0.length + 1) 0 = .inr () := by rw [← e1]; simp only [l_eqPieceS_1, h2, cond_true, cond_false]
      simp
      refine retRd (rv := [.tmp 4]) rfl ?_
      have f3 := l_eqPieceS.eq_1 a0 a1
      simp only [h1, x2, cond_true, cond_false] at f3
      simp [f3]
theorem l_eqStep_ok (a0 : TStep) (a1 : TStep) : SoundAt Try.prog 151 false [a0.row, a1.row] [[.bool (l_eqStep a0 a1)]] := by
  refine sound_of Try.func151 rfl (by kernel_rfl) ?_
  simp [Try.ntmps151]
  refine condR (c := (a0.Digest != a1.Digest)) (by simp) (fun k1 h1 => ?_) (fun k1 h1 => ?_)
  · have q1 := h1; try simp at q1
    simp
    refine retRd (rv := [.tmp 4]) rfl ?_
    have f1 := l_eqStep.eq_1 a0 a1
    simp only [h1, cond_true, cond_false] at f1
    simp [f1]
  · have q1 := h1; try simp at q1
    simp
    refine condR (c := (!(a0.Left == a1.Left))) (by simp) (fun k2 h2 => ?_) (fun k2 h2 => ?_)
    · have q2 := h2; try simp at q2
      simp
      refine retRd (rv := [.tmp 4]) rfl ?_
      have f2 := l_eqStep.eq_1 a0 a1
      simp only [h1, h2, cond_true, cond_false] at f2
      simp [f2]
    · have q2 := h2; try simp at q2
      simp
      refine retRd (rv := [.tmp 4]) rfl ?_
      have f3 := l_eqStep.eq_1 a0 a1
      simp only [h1, h2, cond_true, cond_false] at f3
      simp [f3]
theorem l_eqStepS_ok (a0 : List TStep) (a1 : List TStep) : SoundAt Try.prog 145 false [[.sl 2 (a0.map TStep.row)], [.sl 2 (a1.map TStep.row)]] [[.bool (l_eqStepS a0 a1)]] := by
  refine sound_of Try.func145 rfl (by kernel_rfl) ?_
  simp [Try.ntmps145]
  refine condR (c := ((↑a0.length : Int) != (↑a1.length : Int))) (by simp) (fun k1 h1 => ?_) (fun k1 h1 => ?_)
  · have q1 := h1; try simp at q1
    simp
    refine retRd (rv := [.tmp 4]) rfl ?_
    have f1 := l_eqStepS.eq_1 a0 a1
    simp only [h1, cond_true, cond_false] at f1
    simp [f1]
  · have q1 := h1; try simp at q1
    simp
    refine okL fun k2 => ?_
    refine loopI (ι := { s : Nat × Nat // l_eqStepS_1 a0 a1 s.1 s.2 = l_eqStepS_1 a0 a1 (a0.length + 1) 0 ∧ (1 ≤ s.1 ∧ a0.length < s.1 + s.2 ∧ s.2 ≤ a0.length) }) (fun s => stOf 27 [(0, .one (.d (.sl 2 (a0.map TStep.row))), []), (1, .one (.d (.sl 2 (a1.map TStep.row))), []), (5, .one (.d (.int .i64 (↑s.1.2 : Int))), [])]) (fun s => s.1.1) ⟨((a0.length + 1), 0), rfl, by first | omega | (dsimp only; omega) | simp⟩ (wk_keep (by simp)) ?_
    rintro ⟨⟨n1, v1_0⟩, e1, j1⟩
    try dsimp only at e1 j1
    obtain ⟨p1, rfl⟩ : ∃ p, n1 = p + 1 := ⟨n1 - 1, by omega⟩
    simp
    refine condR (c := (decide ((↑v1_0 : Int) < (↑a0.length : Int)))) (by simp) (fun k3 h2 => ?_) (fun k3 h2 => ?_)
    · have q2 := h2; try simp at q2
      have i1 : v1_0 < a0.length := by simpa using h2
      have m2 : a0.length ≤ 9223372036854775807 := by simpa using k3 0 _ rfl
      have w1 : IntKind.i64.wrap ((v1_0 : Int) + 1) = (v1_0 : Int) + 1 := wrap_of (by omega) (by omega)
      simp
      refine okD fun k4 => ?_
      refine drawI mixed (by kernel_rfl) (by kernel_rfl) ?_
      have i2 : v1_0 < a1.length := by first | omega | (have hz := @List.length_pos_iff _ a1; simp_all; done) | ((try simp only [W_def, show ∀ x, IntKind.i64.wrap x = W x from fun _ => rfl] at *); omega)
      simp [i1, rowAt_map, i2]
      repeat ((with_reducible refine And.intro ?_ ?_); focus (intros; first | omega | ((try simp only [W_def, show ∀ x, IntKind.i64.wrap x = W x from fun _ => rfl] at *); omega)))
      refine callRd rfl rfl rfl rfl (l_eqStep_ok (nth a0 v1_0) (nth a1 v1_0)) (by simp) (by simp) (by simp) ?_
      simp
      refine condR (c := (!(l_eqStep (nth a0 v1_0) (nth a1 v1_0)))) (by simp) (fun k5 h3 => ?_) (fun k5 h3 => ?_)
      · have q3 := h3; try simp at q3
        have x1 : l_eqStepS_1 a0 a1 (a0.length + 1) 0 = .inl false := by rw [← e1]; simp only [l_eqStepS_1, h2, h3, cond_true, cond_false]
        simp
        refine retRd (rv := [.tmp 4]) rfl ?_
        have f2 := l_eqStepS.eq_1 a0 a1
        simp only [h1, x1, cond_true, cond_false] at f2
        simp [f2]
      · have q3 := h3; try simp at q3
        simp
        refine nxtI ⟨(p1, (v1_0 + 1)), ?_, ?_⟩ (by simp) (wk_keep (by simp [w1]))
        · rw [← e1]; simp only [l_eqStepS_1, h2, h3, cond_true, cond_false]
        · first | omega | (simp at *; omega)
    · have q2 := h2; try simp at q2
      have x2 : l_eqStepS_1 a0 a1 (a0.length + 1) 0 = .inr () := by rw [← e1]; simp only [l_eqStepS_1, h2, cond_true, cond_false]
      simp
      refine retRd (rv := [.tmp 4]) rfl ?_
      have f3 := l_eqStepS.eq_1 a0 a1
      simp only [h1, x2, cond_true, cond_false] at f3
      simp [f3]
theorem l_eqStamp_ok (a0 : TStamp) (a1 : TStamp) : SoundAt Try.prog 152 false [a0.row, a1.row] [[.bool (l_eqStamp a0 a1)]] := by
  refine sound_of Try.func152 rfl (by kernel_rfl) ?_
  simp [Try.ntmps152]
  refine condR (c := (a0.Authority != a1.Authority)) (by simp) (fun k1 h1 => ?_) (fun k1 h1 => ?_)
  · have q1 := h1; try simp at q1
    simp
    refine retRd (rv := [.tmp 4]) rfl ?_
    have f1 := l_eqStamp.eq_1 a0 a1
    simp only [h1, cond_true, cond_false] at f1
    simp [f1]
  · have q1 := h1; try simp at q1
    simp
    refine condR (c := (a0.Seq != a1.Seq)) (by simp) (fun k2 h2 => ?_) (fun k2 h2 => ?_)
    · have q2 := h2; try simp at q2
      simp
      refine retRd (rv := [.tmp 4]) rfl ?_
      have f2 := l_eqStamp.eq_1 a0 a1
      simp only [h1, h2, cond_true, cond_false] at f2
      simp [f2]
    · have q2 := h2; try simp at q2
      simp
      refine condR (c := (a0.Time != a1.Time)) (by simp) (fun k3 h3 => ?_) (fun k3 h3 => ?_)
      · have q3 := h3; try simp at q3
        simp
        refine retRd (rv := [.tmp 4]) rfl ?_
        have f3 := l_eqStamp.eq_1 a0 a1
        simp only [h1, h2, h3, cond_true, cond_false] at f3
        simp [f3]
      · have q3 := h3; try simp at q3
        simp
        refine condR (c := (a0.Digest != a1.Digest)) (by simp) (fun k4 h4 => ?_) (fun k4 h4 => ?_)
        · have q4 := h4; try simp at q4
          simp
          refine retRd (rv := [.tmp 4]) rfl ?_
          have f4 := l_eqStamp.eq_1 a0 a1
          simp only [h1, h2, h3, h4, cond_true, cond_false] at f4
          simp [f4]
        · have q4 := h4; try simp at q4
          simp
          refine condR (c := (a0.Mark != a1.Mark)) (by simp) (fun k5 h5 => ?_) (fun k5 h5 => ?_)
          · have q5 := h5; try simp at q5
            simp
            refine retRd (rv := [.tmp 4]) rfl ?_
            have f5 := l_eqStamp.eq_1 a0 a1
            simp only [h1, h2, h3, h4, h5, cond_true, cond_false] at f5
            simp [f5]
          · have q5 := h5; try simp at q5
            simp
            refine retRd (rv := [.tmp 4]) rfl ?_
            have f6 := l_eqStamp.eq_1 a0 a1
            simp only [h1, h2, h3, h4, h5, cond_true, cond_false] at f6
            simp [f6]
theorem l_eqStampS_ok (a0 : List TStamp) (a1 : List TStamp) : SoundAt Try.prog 146 false [[.sl 5 (a0.map TStamp.row)], [.sl 5 (a1.map TStamp.row)]] [[.bool (l_eqStampS a0 a1)]] := by
  refine sound_of Try.func146 rfl (by kernel_rfl) ?_
  simp [Try.ntmps146]
  refine condR (c := ((↑a0.length : Int) != (↑a1.length : Int))) (by simp) (fun k1 h1 => ?_) (fun k1 h1 => ?_)
  · have q1 := h1; try simp at q1
    simp
    refine retRd (rv := [.tmp 4]) rfl ?_
    have f1 := l_eqStampS.eq_1 a0 a1
    simp only [h1, cond_true, cond_false] at f1
    simp [f1]
  · have q1 := h1; try simp at q1
    simp
    refine okL fun k2 => ?_
    refine loopI (ι := { s : Nat × Nat // l_eqStampS_1 a0 a1 s.1 s.2 = l_eqStampS_1 a0 a1 (a0.length + 1) 0 ∧ (1 ≤ s.1 ∧ a0.length < s.1 + s.2 ∧ s.2 ≤ a0.length) }) (fun s => stOf 27 [(0, .one (.d (.sl 5 (a0.map TStamp.row))), []), (1, .one (.d (.sl 5 (a1.map TStamp.row))), []), (5, .one (.d (.int .i64 (↑s.1.2 : Int))), [])]) (fun s => s.1.1) ⟨((a0.length + 1), 0), rfl, by first | omega | (dsimp only; omega) | simp⟩ (wk_keep (by simp)) ?_
    rintro ⟨⟨n1, v1_0⟩, e1, j1⟩
    try dsimp only at e1 j1
    obtain ⟨p1, rfl⟩ : ∃ p, n1 = p + 1 := ⟨n1 - 1, by omega⟩
    simp
    refine condR (c := (decide ((↑v1_0 : Int) < (↑a0.length : Int)))) (by simp) (fun k3 h2 => ?_) (fun k3 h2 => ?_)
    · have q2 := h2; try simp at q2
      have i1 : v1_0 < a0.length := by simpa using h2
      have m2 : a0.length ≤ 9223372036854775807 := by simpa using k3 0 _ rfl
      have w1 : IntKind.i64.wrap ((v1_0 : Int) + 1) = (v1_0 : Int) + 1 := wrap_of (by omega) (by omega)
      simp
      refine okD fun k4 => ?_
      refine drawI mixed (by kernel_rfl) (by kernel_rfl) ?_
      have i2 : v1_0 < a1.length := by first | omega | (have hz := @List.length_pos_iff _ a1; simp_all; done) | ((try simp only [W_def, show ∀ x, IntKind.i64.wrap x = W x from fun _ => rfl] at *); omega)
      simp [i1, rowAt_map, i2]
      repeat ((with_reducible refine And.intro ?_ ?_); focus (intros; first | omega | ((try simp only [W_def, show ∀ x, IntKind.i64.wrap x = W x from fun _ => rfl] at *); omega)))
      refine callRd rfl rfl rfl rfl (l_eqStamp_ok (nth a0 v1_0) (nth a1 v1_0)) (by simp) (by simp) (by simp) ?_
      simp
      refine condR (c := (!(l_eqStamp (nth a0 v1_0) (nth a1 v1_0)))) (by simp) (fun k5 h3 => ?_) (fun k5 h3 => ?_)
      · have q3 := h3; try simp at q3
        have x1 : l_eqStampS_1 a0 a1 (a0.length + 1) 0 = .inl false := by rw [← e1]; simp only [l_eqStampS_1, h2, h3, cond_true, cond_false]
        simp
        refine retRd (rv := [.tmp 4]) rfl ?_
        have f2 := l_eqStampS.eq_1 a0 a1
        simp only [h1, x1, cond_true, cond_false] at f2
        simp [f2]
      · have q3 := h3; try simp at q3
        simp
        refine nxtI ⟨(p1, (v1_0 + 1)), ?_, ?_⟩ (by simp) (wk_keep (by simp [w1]))
        · rw [← e1]; simp only [l_eqStampS_1, h2, h3, cond_true, cond_false]
        · first | omega | (simp at *; omega)
    · have q2 := h2; try simp at q2
      have x2 : l_eqStampS_1 a0 a1 (a0.length + 1) 0 = .inr () := by rw [← e1]; simp only [l_eqStampS_1, h2, cond_true, cond_false]
      simp
      refine retRd (rv := [.tmp 4]) rfl ?_
      have f3 := l_eqStampS.eq_1 a0 a1
      simp only [h1, x2, cond_true, cond_false] at f3
      simp [f3]
theorem l_eqRenewal_ok (a0 : TRenewal) (a1 : TRenewal) : SoundAt Try.prog 137 false [a0.row, a1.row] [[.bool (l_eqRenewal a0 a1)]] := by
  refine sound_of Try.func137 rfl (by kernel_rfl) ?_
  simp [Try.ntmps137]
  refine condR (c := (a0.Count != a1.Count)) (by simp) (fun k1 h1 => ?_) (fun k1 h1 => ?_)
  · have q1 := h1; try simp at q1
    simp
    refine retRd (rv := [.tmp 4]) rfl ?_
    have f1 := l_eqRenewal.eq_1 a0 a1
    simp only [h1, cond_true, cond_false] at f1
    simp [f1]
  · have q1 := h1; try simp at q1
    simp
    refine condR (c := (a0.Method != a1.Method)) (by simp) (fun k2 h2 => ?_) (fun k2 h2 => ?_)
    · have q2 := h2; try simp at q2
      simp
      refine retRd (rv := [.tmp 4]) rfl ?_
      have f2 := l_eqRenewal.eq_1 a0 a1
      simp only [h1, h2, cond_true, cond_false] at f2
      simp [f2]
    · have q2 := h2; try simp at q2
      simp
      refine condR (c := (a0.Root != a1.Root)) (by simp) (fun k3 h3 => ?_) (fun k3 h3 => ?_)
      · have q3 := h3; try simp at q3
        simp
        refine retRd (rv := [.tmp 4]) rfl ?_
        have f3 := l_eqRenewal.eq_1 a0 a1
        simp only [h1, h2, h3, cond_true, cond_false] at f3
        simp [f3]
      · have q3 := h3; try simp at q3
        simp
        refine callRd rfl rfl rfl rfl (l_eqStepS_ok a0.Path a1.Path) (by simp) (by simp) (by simp) ?_
        simp
        refine condR (c := (!(l_eqStepS a0.Path a1.Path))) (by simp) (fun k4 h4 => ?_) (fun k4 h4 => ?_)
        · have q4 := h4; try simp at q4
          simp
          refine retRd (rv := [.tmp 4]) rfl ?_
          have f4 := l_eqRenewal.eq_1 a0 a1
          simp only [h1, h2, h3, h4, cond_true, cond_false] at f4
          simp [f4]
        · have q4 := h4; try simp at q4
          simp
          refine callRd rfl rfl rfl rfl (l_eqStampS_ok a0.Stamps a1.Stamps) (by simp) (by simp) (by simp) ?_
          simp
          refine condR (c := (!(l_eqStampS a0.Stamps a1.Stamps))) (by simp) (fun k5 h5 => ?_) (fun k5 h5 => ?_)
          · have q5 := h5; try simp at q5
            simp
            refine retRd (rv := [.tmp 4]) rfl ?_
            have f5 := l_eqRenewal.eq_1 a0 a1
            simp only [h1, h2, h3, h4, h5, cond_true, cond_false] at f5
            simp [f5]
          · have q5 := h5; try simp at q5
            simp
            refine retRd (rv := [.tmp 4]) rfl ?_
            have f6 := l_eqRenewal.eq_1 a0 a1
            simp only [h1, h2, h3, h4, h5, cond_true, cond_false] at f6
            simp [f6]
theorem l_eqRenewalS_ok (a0 : List TRenewal) (a1 : List TRenewal) : SoundAt Try.prog 121 false [[.sl 5 (a0.map TRenewal.row)], [.sl 5 (a1.map TRenewal.row)]] [[.bool (l_eqRenewalS a0 a1)]] := by
  refine sound_of Try.func121 rfl (by kernel_rfl) ?_
  simp [Try.ntmps121]
  refine condR (c := ((↑a0.length : Int) != (↑a1.length : Int))) (by simp) (fun k1 h1 => ?_) (fun k1 h1 => ?_)
  · have q1 := h1; try simp at q1
    simp
    refine retRd (rv := [.tmp 4]) rfl ?_
    have f1 := l_eqRenewalS.eq_1 a0 a1
    simp only [h1, cond_true, cond_false] at f1
    simp [f1]
  · have q1 := h1; try simp at q1
    simp
    refine okL fun k2 => ?_
    refine loopI (ι := { s : Nat × Nat // l_eqRenewalS_1 a0 a1 s.1 s.2 = l_eqRenewalS_1 a0 a1 (a0.length + 1) 0 ∧ (1 ≤ s.1 ∧ a0.length < s.1 + s.2 ∧ s.2 ≤ a0.length) }) (fun s => stOf 27 [(0, .one (.d (.sl 5 (a0.map TRenewal.row))), []), (1, .one (.d (.sl 5 (a1.map TRenewal.row))), []), (5, .one (.d (.int .i64 (↑s.1.2 : Int))), [])]) (fun s => s.1.1) ⟨((a0.length + 1), 0), rfl, by first | omega | (dsimp only; omega) | simp⟩ (wk_keep (by simp)) ?_
    rintro ⟨⟨n1, v1_0⟩, e1, j1⟩
    try dsimp only at e1 j1
    obtain ⟨p1, rfl⟩ : ∃ p, n1 = p + 1 := ⟨n1 - 1, by omega⟩
    simp
    refine condR (c := (decide ((↑v1_0 : Int) < (↑a0.length : Int)))) (by simp) (fun k3 h2 => ?_) (fun k3 h2 => ?_)
    · have q2 := h2; try simp at q2
      have i1 : v1_0 < a0.length := by simpa using h2
      have m2 : a0.length ≤ 9223372036854775807 := by simpa using k3 0 _ rfl
      have w1 : IntKind.i64.wrap ((v1_0 : Int) + 1) = (v1_0 : Int) + 1 := wrap_of (by omega) (by omega)
      simp
      refine okD fun k4 => ?_
      refine drawI mixed (by kernel_rfl) (by kernel_rfl) ?_
      have i2 : v1_0 < a1.length := by first | omega | (have hz := @List.length_pos_iff _ a1; simp_all; done) | ((try simp only [W_def, show ∀ x, IntKind.i64.wrap x = W x from fun _ => rfl] at *); omega)
      simp [i1, rowAt_map, i2]
      repeat ((with_reducible refine And.intro ?_ ?_); focus (intros; first | omega | ((try simp only [W_def, show ∀ x, IntKind.i64.wrap x = W x from fun _ => rfl] at *); omega)))
      refine callRd rfl rfl rfl rfl (l_eqRenewal_ok (nth a0 v1_0) (nth a1 v1_0)) (by simp) (by simp) (by simp) ?_
      simp
      refine condR (c := (!(l_eqRenewal (nth a0 v1_0) (nth a1 v1_0)))) (by simp) (fun k5 h3 => ?_) (fun k5 h3 => ?_)
      · have q3 := h3; try simp at q3
        have x1 : l_eqRenewalS_1 a0 a1 (a0.length + 1) 0 = .inl false := by rw [← e1]; simp only [l_eqRenewalS_1, h2, h3, cond_true, cond_false]
        simp
        refine retRd (rv := [.tmp 4]) rfl ?_
        have f2 := l_eqRenewalS.eq_1 a0 a1
        simp only [h1, x1, cond_true, cond_false] at f2
        simp [f2]
      · have q3 := h3; try simp at q3
        simp
        refine nxtI ⟨(p1, (v1_0 + 1)), ?_, ?_⟩ (by simp) (wk_keep (by simp [w1]))
        · rw [← e1]; simp only [l_eqRenewalS_1, h2, h3, cond_true, cond_false]
        · first | omega | (simp at *; omega)
    · have q2 := h2; try simp at q2
      have x2 : l_eqRenewalS_1 a0 a1 (a0.length + 1) 0 = .inr () := by rw [← e1]; simp only [l_eqRenewalS_1, h2, cond_true, cond_false]
      simp
      refine retRd (rv := [.tmp 4]) rfl ?_
      have f3 := l_eqRenewalS.eq_1 a0 a1
      simp only [h1, x2, cond_true, cond_false] at f3
      simp [f3]
theorem l_eqStrand_ok (a0 : TStrand) (a1 : TStrand) : SoundAt Try.prog 92 false [a0.row, a1.row] [[.bool (l_eqStrand a0 a1)]] := by
  refine sound_of Try.func92 rfl (by kernel_rfl) ?_
  simp [Try.ntmps92]
  refine callRd rfl rfl rfl rfl (l_eqPieceS_ok a0.Pieces a1.Pieces) (by simp) (by simp) (by simp) ?_
  simp
  refine condR (c := (!(l_eqPieceS a0.Pieces a1.Pieces))) (by simp) (fun k1 h1 => ?_) (fun k1 h1 => ?_)
  · have q1 := h1; try simp at q1
    simp
    refine retRd (rv := [.tmp 4]) rfl ?_
    have f1 := l_eqStrand.eq_1 a0 a1
    simp only [h1, cond_true, cond_false] at f1
    simp [f1]
  · have q1 := h1; try simp at q1
    simp
    refine callRd rfl rfl rfl rfl (l_eqRenewalS_ok a0.Chain a1.Chain) (by simp) (by simp) (by simp) ?_
    simp
    refine condR (c := (!(l_eqRenewalS a0.Chain a1.Chain))) (by simp) (fun k2 h2 => ?_) (fun k2 h2 => ?_)
    · have q2 := h2; try simp at q2
      simp
      refine retRd (rv := [.tmp 4]) rfl ?_
      have f2 := l_eqStrand.eq_1 a0 a1
      simp only [h1, h2, cond_true, cond_false] at f2
      simp [f2]
    · have q2 := h2; try simp at q2
      simp
      refine retRd (rv := [.tmp 4]) rfl ?_
      have f3 := l_eqStrand.eq_1 a0 a1
      simp only [h1, h2, cond_true, cond_false] at f3
      simp [f3]
theorem l_eqItem_ok (a0 : TItem) (a1 : TItem) : SoundAt Try.prog 68 false [a0.row, a1.row] [[.bool (l_eqItem a0 a1)]] := by
  refine sound_of Try.func68 rfl (by kernel_rfl) ?_
  simp [Try.ntmps68]
  refine condR (c := (a0.Id != a1.Id)) (by simp) (fun k1 h1 => ?_) (fun k1 h1 => ?_)
  · have q1 := h1; try simp at q1
    simp
    refine retRd (rv := [.tmp 4]) rfl ?_
    have f1 := l_eqItem.eq_1 a0 a1
    simp only [h1, cond_true, cond_false] at f1
    simp [f1]
  · have q1 := h1; try simp at q1
    simp
    refine condR (c := (a0.Keep != a1.Keep)) (by simp) (fun k2 h2 => ?_) (fun k2 h2 => ?_)
    · have q2 := h2; try simp at q2
      simp
      refine retRd (rv := [.tmp 4]) rfl ?_
      have f2 := l_eqItem.eq_1 a0 a1
      simp only [h1, h2, cond_true, cond_false] at f2
      simp [f2]
    · have q2 := h2; try simp at q2
      simp
      refine callRd rfl rfl rfl rfl (l_eqDocument_ok a0.Doc a1.Doc) (by simp) (by simp) (by simp) ?_
      simp
      refine condR (c := (!(l_eqDocument a0.Doc a1.Doc))) (by simp) (fun k3 h3 => ?_) (fun k3 h3 => ?_)
      · have q3 := h3; try simp at q3
        simp
        refine retRd (rv := [.tmp 4]) rfl ?_
        have f3 := l_eqItem.eq_1 a0 a1
        simp only [h1, h2, h3, cond_true, cond_false] at f3
        simp [f3]
      · have q3 := h3; try simp at q3
        simp
        refine callRd rfl rfl rfl rfl (l_eqSignature_ok a0.Sig a1.Sig) (by simp) (by simp) (by simp) ?_
        simp
        refine condR (c := (!(l_eqSignature a0.Sig a1.Sig))) (by simp) (fun k4 h4 => ?_) (fun k4 h4 => ?_)
        · have q4 := h4; try simp at q4
          simp
          refine retRd (rv := [.tmp 4]) rfl ?_
          have f4 := l_eqItem.eq_1 a0 a1
          simp only [h1, h2, h3, h4, cond_true, cond_false] at f4
          simp [f4]
        · have q4 := h4; try simp at q4
          simp
          refine callRd rfl rfl rfl rfl (l_eqStrand_ok a0.Strand a1.Strand) (by simp) (by simp) (by simp) ?_
          simp
          refine condR (c := (!(l_eqStrand a0.Strand a1.Strand))) (by simp) (fun k5 h5 => ?_) (fun k5 h5 => ?_)
          · have q5 := h5; try simp at q5
            simp
            refine retRd (rv := [.tmp 4]) rfl ?_
            have f5 := l_eqItem.eq_1 a0 a1
            simp only [h1, h2, h3, h4, h5, cond_true, cond_false] at f5
            simp [f5]
          · have q5 := h5; try simp at q5
            simp
            refine retRd (rv := [.tmp 4]) rfl ?_
            have f6 := l_eqItem.eq_1 a0 a1
            simp only [h1, h2, h3, h4, h5, cond_true, cond_false] at f6
            simp [f6]
theorem l_eqItemS_ok (a0 : List TItem) (a1 : List TItem) : SoundAt Try.prog 36 false [[.sl 16 (a0.map TItem.row)], [.sl 16 (a1.map TItem.row)]] [[.bool (l_eqItemS a0 a1)]] := by
  refine sound_of Try.func36 rfl (by kernel_rfl) ?_
  simp [Try.ntmps36]
  refine condR (c := ((↑a0.length : Int) != (↑a1.length : Int))) (by simp) (fun k1 h1 => ?_) (fun k1 h1 => ?_)
  · have q1 := h1; try simp at q1
    simp
    refine retRd (rv := [.tmp 4]) rfl ?_
    have f1 := l_eqItemS.eq_1 a0 a1
    simp only [h1, cond_true, cond_false] at f1
    simp [f1]
  · have q1 := h1; try simp at q1
    simp
    refine okL fun k2 => ?_
    refine loopI (ι := { s : Nat × Nat // l_eqItemS_1 a0 a1 s.1 s.2 = l_eqItemS_1 a0 a1 (a0.length + 1) 0 ∧ (1 ≤ s.1 ∧ a0.length < s.1 + s.2 ∧ s.2 ≤ a0.length) }) (fun s => stOf 27 [(0, .one (.d (.sl 16 (a0.map TItem.row))), []), (1, .one (.d (.sl 16 (a1.map TItem.row))), []), (5, .one (.d (.int .i64 (↑s.1.2 : Int))), [])]) (fun s => s.1.1) ⟨((a0.length + 1), 0), rfl, by first | omega | (dsimp only; omega) | simp⟩ (wk_keep (by simp)) ?_
    rintro ⟨⟨n1, v1_0⟩, e1, j1⟩
    try dsimp only at e1 j1
    obtain ⟨p1, rfl⟩ : ∃ p, n1 = p + 1 := ⟨n1 - 1, by omega⟩
    simp
    refine condR (c := (decide ((↑v1_0 : Int) < (↑a0.length : Int)))) (by simp) (fun k3 h2 => ?_) (fun k3 h2 => ?_)
    · have q2 := h2; try simp at q2
      have i1 : v1_0 < a0.length := by simpa using h2
      have m2 : a0.length ≤ 9223372036854775807 := by simpa using k3 0 _ rfl
      have w1 : IntKind.i64.wrap ((v1_0 : Int) + 1) = (v1_0 : Int) + 1 := wrap_of (by omega) (by omega)
      simp
      refine okD fun k4 => ?_
      refine drawI mixed (by kernel_rfl) (by kernel_rfl) ?_
      have i2 : v1_0 < a1.length := by first | omega | (have hz := @List.length_pos_iff _ a1; simp_all; done) | ((try simp only [W_def, show ∀ x, IntKind.i64.wrap x = W x from fun _ => rfl] at *); omega)
      simp [i1, rowAt_map, i2]
      repeat ((with_reducible refine And.intro ?_ ?_); focus (intros; first | omega | ((try simp only [W_def, show ∀ x, IntKind.i64.wrap x = W x from fun _ => rfl] at *); omega)))
      refine callRd rfl rfl rfl rfl (l_eqItem_ok (nth a0 v1_0) (nth a1 v1_0)) (by simp) (by simp) (by simp) ?_
      simp
      refine condR (c := (!(l_eqItem (nth a0 v1_0) (nth a1 v1_0)))) (by simp) (fun k5 h3 => ?_) (fun k5 h3 => ?_)
      · have q3 := h3; try simp at q3
        have x1 : l_eqItemS_1 a0 a1 (a0.length + 1) 0 = .inl false := by rw [← e1]; simp only [l_eqItemS_1, h2, h3, cond_true, cond_false]
        simp
        refine retRd (rv := [.tmp 4]) rfl ?_
        have f2 := l_eqItemS.eq_1 a0 a1
        simp only [h1, x1, cond_true, cond_false] at f2
        simp [f2]
      · have q3 := h3; try simp at q3
        simp
        refine nxtI ⟨(p1, (v1_0 + 1)), ?_, ?_⟩ (by simp) (wk_keep (by simp [w1]))
        · rw [← e1]; simp only [l_eqItemS_1, h2, h3, cond_true, cond_false]
        · first | omega | (simp at *; omega)
    · have q2 := h2; try simp at q2
      have x2 : l_eqItemS_1 a0 a1 (a0.length + 1) 0 = .inr () := by rw [← e1]; simp only [l_eqItemS_1, h2, cond_true, cond_false]
      simp
      refine retRd (rv := [.tmp 4]) rfl ?_
      have f3 := l_eqItemS.eq_1 a0 a1
      simp only [h1, x2, cond_true, cond_false] at f3
      simp [f3]
theorem l_eqArchive_ok (a0 : TArchive) (a1 : TArchive) : SoundAt Try.prog 13 false [a0.row, a1.row] [[.bool (l_eqArchive a0 a1)]] := by
  refine sound_of Try.func13 rfl (by kernel_rfl) ?_
  simp [Try.ntmps13]
  refine condR (c := (a0.Id != a1.Id)) (by simp) (fun k1 h1 => ?_) (fun k1 h1 => ?_)
  · have q1 := h1; try simp at q1
    simp
    refine retRd (rv := [.tmp 4]) rfl ?_
    have f1 := l_eqArchive.eq_1 a0 a1
    simp only [h1, cond_true, cond_false] at f1
    simp [f1]
  · have q1 := h1; try simp at q1
    simp
    refine callRd rfl rfl rfl rfl (l_eqItemS_ok a0.Items a1.Items) (by simp) (by simp) (by simp) ?_
    simp
    refine condR (c := (!(l_eqItemS a0.Items a1.Items))) (by simp) (fun k2 h2 => ?_) (fun k2 h2 => ?_)
    · have q2 := h2; try simp at q2
      simp
      refine retRd (rv := [.tmp 4]) rfl ?_
      have f2 := l_eqArchive.eq_1 a0 a1
      simp only [h1, h2, cond_true, cond_false] at f2
      simp [f2]
    · have q2 := h2; try simp at q2
      simp
      refine retRd (rv := [.tmp 4]) rfl ?_
      have f3 := l_eqArchive.eq_1 a0 a1
      simp only [h1, h2, cond_true, cond_false] at f3
      simp [f3]
theorem l_markKeyS_ok (a0 : List TKey) (a1 : Int) : SoundM Try.prog 37 [.sl 5 (a0.map TKey.row)] [[.int .i64 a1]] [.sl 5 ((l_markKeyS a0 a1).1.map TKey.row)] (.int .i64 (l_markKeyS a0 a1).2) := by
  refine sound_ofM Try.func37 rfl (by kernel_rfl) (fun v => ?_)
  simp [Try.ntmps37]
  refine okL fun k1 => ?_
  refine loopI (ι := { s : Nat × Int × Nat × (List TKey) // l_markKeyS_1 s.1 s.2.1 s.2.2.1 s.2.2.2 = l_markKeyS_1 (a0.length + 1) a1 0 a0 ∧ (1 ≤ s.1 ∧ s.2.2.2.length < s.1 + s.2.2.1) }) (fun s => stOf 48 [(0, .fix v (.one (.sref 0 0 0 s.1.2.2.2.length)), [.arr true 5 (s.1.2.2.2.map TKey.row)]), (1, .one (.d (.int .i64 s.1.2.1)), []), (5, .one (.d (.int .i64 (↑s.1.2.2.1 : Int))), [])]) (fun s => s.1.1) ⟨((a0.length + 1), a1, 0, a0), rfl, by first | omega | (dsimp only; omega) | simp⟩ (wk_keep (by simp)) ?_
  rintro ⟨⟨n1, v1_0, v1_1, v1_2⟩, e1, j1⟩
  try dsimp only at e1 j1
  obtain ⟨p1, rfl⟩ : ∃ p, n1 = p + 1 := ⟨n1 - 1, by omega⟩
  simp
  refine condR (c := (decide ((↑v1_1 : Int) < (↑v1_2.length : Int)))) (by simp) (fun k2 h1 => ?_) (fun k2 h1 => ?_)
  · have q1 := h1; try simp at q1
    have i1 : v1_1 < v1_2.length := by simpa using h1
    have m2 : v1_2.length ≤ 9223372036854775807 := by simpa using k2 0 _ rfl
    have w1 : IntKind.i64.wrap ((v1_1 : Int) + 1) = (v1_1 : Int) + 1 := wrap_of (by omega) (by omega)
    simp [i1, rowAt_map, set_map (x := (TKey.mk v1_0 (nth v1_2 v1_1).Owner (nth v1_2 v1_1).Method (nth v1_2 v1_1).Born (nth v1_2 v1_1).Secret)) rfl, rowAt_set_self, List.set_set, set_map (x := (TKey.mk v1_0 (W (v1_0 + 1)) (nth v1_2 v1_1).Method (nth v1_2 v1_1).Born (nth v1_2 v1_1).Secret)) rfl, set_map (x := (TKey.mk v1_0 (W (v1_0 + 1)) (W ((W (v1_0 + 1)) + 1)) (nth v1_2 v1_1).Born (nth v1_2 v1_1).Secret)) rfl, set_map (x := (TKey.mk v1_0 (W (v1_0 + 1)) (W ((W (v1_0 + 1)) + 1)) (W ((W ((W (v1_0 + 1)) + 1)) + 1)) (nth v1_2 v1_1).Secret)) rfl, set_map (x := (TKey.mk v1_0 (W (v1_0 + 1)) (W ((W (v1_0 + 1)) + 1)) (W ((W ((W (v1_0 + 1)) + 1)) + 1)) (W ((W ((W ((W (v1_0 + 1)) + 1)) + 1)) + 1)))) rfl]
    repeat ((with_reducible refine And.intro ?_ ?_); focus (intros; first | omega | ((try simp only [W_def, show ∀ x, IntKind.i64.wrap x = W x from fun _ => rfl] at *); omega)))
    refine nxtI ⟨(p1, (W ((W ((W ((W ((W (v1_0 + 1)) + 1)) + 1)) + 1)) + 1)), (v1_1 + 1), (v1_2.set v1_1 (TKey.mk v1_0 (W (v1_0 + 1)) (W ((W (v1_0 + 1)) + 1)) (W ((W ((W (v1_0 + 1)) + 1)) + 1)) (W ((W ((W ((W (v1_0 + 1)) + 1)) + 1)) + 1))))), ?_, ?_⟩ (by simp) (wk_keep (by simp [w1]))
    · rw [← e1]; simp only [l_markKeyS_1, h1, cond_true, cond_false]
    · (simp; omega)
  · have q1 := h1; try simp at q1
    have x1 : l_markKeyS_1 (a0.length + 1) a1 0 a0 = (v1_0, v1_2) := by rw [← e1]; simp only [l_markKeyS_1, h1, cond_true, cond_false]
    simp
    refine retM (rv := [.tmp 4]) rfl ?_
    have f1 := l_markKeyS.eq_1 a0 a1
    simp only [x1, cond_true, cond_false] at f1
    simp [f1]
theorem l_markAuthorityS_ok (a0 : List TAuthority) (a1 : Int) : SoundM Try.prog 38 [.sl 3 (a0.map TAuthority.row)] [[.int .i64 a1]] [.sl 3 ((l_markAuthorityS a0 a1).1.map TAuthority.row)] (.int .i64 (l_markAuthorityS a0 a1).2) := by
  refine sound_ofM Try.func38 rfl (by kernel_rfl) (fun v => ?_)
  simp [Try.ntmps38]
  refine okL fun k1 => ?_
  refine loopI (ι := { s : Nat × Int × Nat × (List TAuthority) // l_markAuthorityS_1 s.1 s.2.1 s.2.2.1 s.2.2.2 = l_markAuthorityS_1 (a0.length + 1) a1 0 a0 ∧ (1 ≤ s.1 ∧ s.2.2.2.length < s.1 + s.2.2.1) }) (fun s => stOf 34 [(0, .fix v (.one (.sref 0 0 0 s.1.2.2.2.length)), [.arr true 3 (s.1.2.2.2.map TAuthority.row)]), (1, .one (.d (.int .i64 s.1.2.1)), []), (5, .one (.d (.int .i64 (↑s.1.2.2.1 : Int))), [])]) (fun s => s.1.1) ⟨((a0.length + 1), a1, 0, a0), rfl, by first | omega | (dsimp only; omega) | simp⟩ (wk_keep (by simp)) ?_
  rintro ⟨⟨n1, v1_0, v1_1, v1_2⟩, e1, j1⟩
  try dsimp only at e1 j1
  obtain ⟨p1, rfl⟩ : ∃ p, n1 = p + 1 := ⟨n1 - 1, by omega⟩
  simp
  refine condR (c := (decide ((↑v1_1 : Int) < (↑v1_2.length : Int)))) (by simp) (fun k2 h1 => ?_) (fun k2 h1 => ?_)
  · have q1 := h1; try simp at q1
    have i1 : v1_1 < v1_2.length := by simpa using h1
    have m2 : v1_2.length ≤ 9223372036854775807 := by simpa using k2 0 _ rfl
    have w1 : IntKind.i64.wrap ((v1_1 : Int) + 1) = (v1_1 : Int) + 1 := wrap_of (by omega) (by omega)
    simp [i1, rowAt_map, set_map (x := (TAuthority.mk v1_0 (nth v1_2 v1_1).Key (nth v1_2 v1_1).Error)) rfl, rowAt_set_self, List.set_set, set_map (x := (TAuthority.mk v1_0 (W (v1_0 + 1)) (nth v1_2 v1_1).Error)) rfl, set_map (x := (TAuthority.mk v1_0 (W (v1_0 + 1)) (W ((W (v1_0 + 1)) + 1)))) rfl]
    repeat ((with_reducible refine And.intro ?_ ?_); focus (intros; first | omega | ((try simp only [W_def, show ∀ x, IntKind.i64.wrap x = W x from fun _ => rfl] at *); omega)))
    refine nxtI ⟨(p1, (W ((W ((W (v1_0 + 1)) + 1)) + 1)), (v1_1 + 1), (v1_2.set v1_1 (TAuthority.mk v1_0 (W (v1_0 + 1)) (W ((W (v1_0 + 1)) + 1))))), ?_, ?_⟩ (by simp) (wk_keep (by simp [w1]))
    · rw [← e1]; simp only [l_markAuthorityS_1, h1, cond_true, cond_false]
    · (simp; omega)
  · have q1 := h1; try simp at q1
    have x1 : l_markAuthorityS_1 (a0.length + 1) a1 0 a0 = (v1_0, v1_2) := by rw [← e1]; simp only [l_markAuthorityS_1, h1, cond_true, cond_false]
    simp
    refine retM (rv := [.tmp 4]) rfl ?_
    have f1 := l_markAuthorityS.eq_1 a0 a1
    simp only [x1, cond_true, cond_false] at f1
    simp [f1]
theorem l_markMethodS_ok (a0 : List TMethod) (a1 : Int) : SoundM Try.prog 39 [.sl 4 (a0.map TMethod.row)] [[.int .i64 a1]] [.sl 4 ((l_markMethodS a0 a1).1.map TMethod.row)] (.int .i64 (l_markMethodS a0 a1).2) := by
  refine sound_ofM Try.func39 rfl (by kernel_rfl) (fun v => ?_)
  simp [Try.ntmps39]
  refine okL fun k1 => ?_
  refine loopI (ι := { s : Nat × Int × Nat × (List TMethod) // l_markMethodS_1 s.1 s.2.1 s.2.2.1 s.2.2.2 = l_markMethodS_1 (a0.length + 1) a1 0 a0 ∧ (1 ≤ s.1 ∧ s.2.2.2.length < s.1 + s.2.2.1) }) (fun s => stOf 41 [(0, .fix v (.one (.sref 0 0 0 s.1.2.2.2.length)), [.arr true 4 (s.1.2.2.2.map TMethod.row)]), (1, .one (.d (.int .i64 s.1.2.1)), []), (5, .one (.d (.int .i64 (↑s.1.2.2.1 : Int))), [])]) (fun s => s.1.1) ⟨((a0.length + 1), a1, 0, a0), rfl, by first | omega | (dsimp only; omega) | simp⟩ (wk_keep (by simp)) ?_
  rintro ⟨⟨n1, v1_0, v1_1, v1_2⟩, e1, j1⟩
  try dsimp only at e1 j1
  obtain ⟨p1, rfl⟩ : ∃ p, n1 = p + 1 := ⟨n1 - 1, by omega⟩
  simp
  refine condR (c := (decide ((↑v1_1 : Int) < (↑v1_2.length : Int)))) (by simp) (fun k2 h1 => ?_) (fun k2 h1 => ?_)
  · have q1 := h1; try simp at q1
    have i1 : v1_1 < v1_2.length := by simpa using h1
    have m2 : v1_2.length ≤ 9223372036854775807 := by simpa using k2 0 _ rfl
    have w1 : IntKind.i64.wrap ((v1_1 : Int) + 1) = (v1_1 : Int) + 1 := wrap_of (by omega) (by omega)
    simp [i1, rowAt_map, set_map (x := (TMethod.mk v1_0 (nth v1_2 v1_1).Known (nth v1_2 v1_1).Ends (nth v1_2 v1_1).Broken)) rfl, rowAt_set_self, List.set_set, set_map (x := (TMethod.mk v1_0 (W (v1_0 + 1)) (nth v1_2 v1_1).Ends (nth v1_2 v1_1).Broken)) rfl, set_map (x := (TMethod.mk v1_0 (W (v1_0 + 1)) (W ((W (v1_0 + 1)) + 1)) (nth v1_2 v1_1).Broken)) rfl, set_map (x := (TMethod.mk v1_0 (W (v1_0 + 1)) (W ((W (v1_0 + 1)) + 1)) (W ((W ((W (v1_0 + 1)) + 1)) + 1)))) rfl]
    repeat ((with_reducible refine And.intro ?_ ?_); focus (intros; first | omega | ((try simp only [W_def, show ∀ x, IntKind.i64.wrap x = W x from fun _ => rfl] at *); omega)))
    refine nxtI ⟨(p1, (W ((W ((W ((W (v1_0 + 1)) + 1)) + 1)) + 1)), (v1_1 + 1), (v1_2.set v1_1 (TMethod.mk v1_0 (W (v1_0 + 1)) (W ((W (v1_0 + 1)) + 1)) (W ((W ((W (v1_0 + 1)) + 1)) + 1))))), ?_, ?_⟩ (by simp) (wk_keep (by simp [w1]))
    · rw [← e1]; simp only [l_markMethodS_1, h1, cond_true, cond_false]
    · (simp; omega)
  · have q1 := h1; try simp at q1
    have x1 : l_markMethodS_1 (a0.length + 1) a1 0 a0 = (v1_0, v1_2) := by rw [← e1]; simp only [l_markMethodS_1, h1, cond_true, cond_false]
    simp
    refine retM (rv := [.tmp 4]) rfl ?_
    have f1 := l_markMethodS.eq_1 a0 a1
    simp only [x1, cond_true, cond_false] at f1
    simp [f1]
theorem l_markFrame_ok (a0 : TFrame) (a1 : Int) : SoundM Try.prog 14 a0.row [[.int .i64 a1]] (l_markFrame a0 a1).1.row (.int .i64 (l_markFrame a0 a1).2) := by
  refine sound_ofM Try.func14 rfl (by kernel_rfl) (fun v => ?_)
  simp [Try.ntmps14]
  refine callMO (ats := [.sref 0 0 0 a0.Keys.length]) rfl rfl rfl rfl rfl rfl rfl (l_markKeyS_ok a0.Keys a1) (by simp) (by simp) (by simp) (by simp) (by simp) (by simp) (by simp) (by simp) (by simp) ?_
  simp
  refine callMO (ats := [.sref 0 1 0 a0.Authorities.length]) rfl rfl rfl rfl rfl rfl rfl (l_markAuthorityS_ok a0.Authorities (l_markKeyS a0.Keys a1).2) (by simp) (by simp) (by simp) (by simp) (by simp) (by simp) (by simp) (by simp) (by simp) ?_
  simp
  refine callMO (ats := [.sref 0 2 0 a0.Methods.length]) rfl rfl rfl rfl rfl rfl rfl (l_markMethodS_ok a0.Methods (l_markAuthorityS a0.Authorities (l_markKeyS a0.Keys a1).2).2) (by simp) (by simp) (by simp) (by simp) (by simp) (by simp) (by simp) (by simp) (by simp) ?_
  simp
  refine retM (rv := [.tmp 4]) rfl ?_
  have f1 := l_markFrame.eq_1 a0 a1
  simp [f1]
theorem l_markText_ok (a0 : Int) : SoundAt Try.prog 93 false [[.int .i64 a0]] [[.str (l_markText a0)]] := by
  refine sound_of Try.func93 rfl (by kernel_rfl) ?_
  simp [Try.ntmps93]
  refine condR (c := (decide (a0 ≤ 0))) (by simp) (fun k1 h1 => ?_) (fun k1 h1 => ?_)
  · have q1 := h1; try simp at q1
    simp
    refine retRd (rv := [.tmp 2]) rfl ?_
    have f1 := l_markText.eq_1 a0
    simp only [h1, cond_true, cond_false] at f1
    simp [f1]
  · have q1 := h1; try simp at q1
    simp
    refine okL fun k2 => ?_
    refine loopI (ι := { s : Nat × Int × ByteArray // l_markText_1 s.1 s.2.1 s.2.2 = l_markText_1 22 a0 (⟨#[]⟩ : ByteArray) ∧ (1 ≤ s.1 ∧ (s.1 = 22 ∨ s.2.1.natAbs < 10 ^ (s.1 - 1)) ∧ s.2.2.size + s.1 = 22) }) (fun s => stOf 20 [(0, .one (.d (.int .i64 s.1.2.1)), []), (3, .one (.d (.str s.1.2.2)), [])]) (fun s => s.1.1) ⟨(22, a0, (⟨#[]⟩ : ByteArray)), rfl, by exact ⟨by omega, .inl rfl, rfl⟩⟩ (wk_keep (by simp)) ?_
    rintro ⟨⟨n1, v1_0, v1_1⟩, e1, j1⟩
    try dsimp only at e1 j1
    obtain ⟨p1, rfl⟩ : ∃ p, n1 = p + 1 := ⟨n1 - 1, by omega⟩
    simp
    refine condR (c := (decide (v1_0 > 0))) (by simp) (fun k3 h2 => ?_) (fun k3 h2 => ?_)
    · have q2 := h2; try simp at q2
      simp
      refine toStr (l := ([(UInt8.ofInt (W (48 + (Int.tmod v1_0 10))))] : List UInt8)) rfl rfl rfl (by simp) (by simp) (by simp) (by simp [SrcRows, bRows]) ?_
      simp
      repeat ((with_reducible refine And.intro ?_ ?_); focus (intros; first | omega | ((try simp only [W_def, show ∀ x, IntKind.i64.wrap x = W x from fun _ => rfl] at *); omega)))
      refine nxtI ⟨(p1, (W (Int.tdiv v1_0 10)), ((⟨([(UInt8.ofInt (W (48 + (Int.tmod v1_0 10))))] : List UInt8).toArray⟩ : ByteArray) ++ v1_1)), ?_, ?_⟩ (by simp) (wk_keep (by simp []))
      · rw [← e1]; simp only [l_markText_1, h2, cond_true, cond_false]
      · dsimp only; obtain ⟨s1, s2⟩ := fmt_s j1.2.1 (show (v1_0 != 0) = true by simp at h2 ⊢; omega); refine ⟨s1, s2, ?_⟩; have := j1.2.2; simp; omega
    · have q2 := h2; try simp at q2
      have x1 : l_markText_1 22 a0 (⟨#[]⟩ : ByteArray) = v1_1 := by rw [← e1]; simp only [l_markText_1, h2, cond_true, cond_false]
      simp
      repeat ((with_reducible refine And.intro ?_ ?_); focus (intros; first | omega | ((try simp only [W_def, show ∀ x, IntKind.i64.wrap x = W x from fun _ => rfl] at *); omega)))
      refine retRd (rv := [.tmp 2]) rfl ?_
      have f2 := l_markText.eq_1 a0
      simp only [h1, x1, cond_true, cond_false] at f2
      simp [f2]
theorem l_markStringS_ok (a0 : List ByteArray) (a1 : Int) : SoundM Try.prog 69 [.sl 1 (a0.map sR)] [[.int .i64 a1]] [.sl 1 ((l_markStringS a0 a1).1.map sR)] (.int .i64 (l_markStringS a0 a1).2) := by
  refine sound_ofM Try.func69 rfl (by kernel_rfl) (fun v => ?_)
  simp [Try.ntmps69]
  refine okL fun k1 => ?_
  refine loopI (ι := { s : Nat × Int × Nat × (List ByteArray) // l_markStringS_1 s.1 s.2.1 s.2.2.1 s.2.2.2 = l_markStringS_1 (a0.length + 1) a1 0 a0 ∧ (1 ≤ s.1 ∧ s.2.2.2.length < s.1 + s.2.2.1) }) (fun s => stOf 20 [(0, .fix v (.one (.sref 0 0 0 s.1.2.2.2.length)), [.arr true 1 (s.1.2.2.2.map sR)]), (1, .one (.d (.int .i64 s.1.2.1)), []), (5, .one (.d (.int .i64 (↑s.1.2.2.1 : Int))), [])]) (fun s => s.1.1) ⟨((a0.length + 1), a1, 0, a0), rfl, by first | omega | (dsimp only; omega) | simp⟩ (wk_keep (by simp)) ?_
  rintro ⟨⟨n1, v1_0, v1_1, v1_2⟩, e1, j1⟩
  try dsimp only at e1 j1
  obtain ⟨p1, rfl⟩ : ∃ p, n1 = p + 1 := ⟨n1 - 1, by omega⟩
  simp
  refine condR (c := (decide ((↑v1_1 : Int) < (↑v1_2.length : Int)))) (by simp) (fun k2 h1 => ?_) (fun k2 h1 => ?_)
  · have q1 := h1; try simp at q1
    have i1 : v1_1 < v1_2.length := by simpa using h1
    have m2 : v1_2.length ≤ 9223372036854775807 := by simpa using k2 0 _ rfl
    have w1 : IntKind.i64.wrap ((v1_1 : Int) + 1) = (v1_1 : Int) + 1 := wrap_of (by omega) (by omega)
    simp
    refine callRd rfl rfl rfl rfl (l_markText_ok v1_0) (by simp) (by simp) (by simp) ?_
    simp [i1, rowAt_map, set_map (x := (l_markText v1_0)) rfl, rowAt_set_self]
    repeat ((with_reducible refine And.intro ?_ ?_); focus (intros; first | omega | ((try simp only [W_def, show ∀ x, IntKind.i64.wrap x = W x from fun _ => rfl] at *); omega)))
    refine nxtI ⟨(p1, (W (v1_0 + 1)), (v1_1 + 1), (v1_2.set v1_1 (l_markText v1_0))), ?_, ?_⟩ (by simp) (wk_keep (by simp [w1]))
    · rw [← e1]; simp only [l_markStringS_1, h1, cond_true, cond_false]
    · (simp; omega)
  · have q1 := h1; try simp at q1
    have x1 : l_markStringS_1 (a0.length + 1) a1 0 a0 = (v1_0, v1_2) := by rw [← e1]; simp only [l_markStringS_1, h1, cond_true, cond_false]
    simp
    refine retM (rv := [.tmp 4]) rfl ?_
    have f1 := l_markStringS.eq_1 a0 a1
    simp only [x1, cond_true, cond_false] at f1
    simp [f1]
theorem l_markIntS_ok (a0 : List Int) (a1 : Int) : SoundM Try.prog 16 [.sl 1 (a0.map iR)] [[.int .i64 a1]] [.sl 1 ((l_markIntS a0 a1).1.map iR)] (.int .i64 (l_markIntS a0 a1).2) := by
  refine sound_ofM Try.func16 rfl (by kernel_rfl) (fun v => ?_)
  simp [Try.ntmps16]
  refine okL fun k1 => ?_
  refine loopI (ι := { s : Nat × Int × Nat × (List Int) // l_markIntS_1 s.1 s.2.1 s.2.2.1 s.2.2.2 = l_markIntS_1 (a0.length + 1) a1 0 a0 ∧ (1 ≤ s.1 ∧ s.2.2.2.length < s.1 + s.2.2.1) }) (fun s => stOf 19 [(0, .fix v (.one (.sref 0 0 0 s.1.2.2.2.length)), [.arr true 1 (s.1.2.2.2.map iR)]), (1, .one (.d (.int .i64 s.1.2.1)), []), (5, .one (.d (.int .i64 (↑s.1.2.2.1 : Int))), [])]) (fun s => s.1.1) ⟨((a0.length + 1), a1, 0, a0), rfl, by first | omega | (dsimp only; omega) | simp⟩ (wk_keep (by simp)) ?_
  rintro ⟨⟨n1, v1_0, v1_1, v1_2⟩, e1, j1⟩
  try dsimp only at e1 j1
  obtain ⟨p1, rfl⟩ : ∃ p, n1 = p + 1 := ⟨n1 - 1, by omega⟩
  simp
  refine condR (c := (decide ((↑v1_1 : Int) < (↑v1_2.length : Int)))) (by simp) (fun k2 h1 => ?_) (fun k2 h1 => ?_)
  · have q1 := h1; try simp at q1
    have i1 : v1_1 < v1_2.length := by simpa using h1
    have m2 : v1_2.length ≤ 9223372036854775807 := by simpa using k2 0 _ rfl
    have w1 : IntKind.i64.wrap ((v1_1 : Int) + 1) = (v1_1 : Int) + 1 := wrap_of (by omega) (by omega)
    simp [i1, rowAt_map, set_map (x := v1_0) rfl, rowAt_set_self]
    repeat ((with_reducible refine And.intro ?_ ?_); focus (intros; first | omega | ((try simp only [W_def, show ∀ x, IntKind.i64.wrap x = W x from fun _ => rfl] at *); omega)))
    refine nxtI ⟨(p1, (W (v1_0 + 1)), (v1_1 + 1), (v1_2.set v1_1 v1_0)), ?_, ?_⟩ (by simp) (wk_keep (by simp [w1]))
    · rw [← e1]; simp only [l_markIntS_1, h1, cond_true, cond_false]
    · (simp; omega)
  · have q1 := h1; try simp at q1
    have x1 : l_markIntS_1 (a0.length + 1) a1 0 a0 = (v1_0, v1_2) := by rw [← e1]; simp only [l_markIntS_1, h1, cond_true, cond_false]
    simp
    refine retM (rv := [.tmp 4]) rfl ?_
    have f1 := l_markIntS.eq_1 a0 a1
    simp only [x1, cond_true, cond_false] at f1
    simp [f1]
theorem l_markPieceS_ok (a0 : List TPiece) (a1 : Int) : SoundM Try.prog 70 [.sl 3 (a0.map TPiece.row)] [[.int .i64 a1]] [.sl 3 ((l_markPieceS a0 a1).1.map TPiece.row)] (.int .i64 (l_markPieceS a0 a1).2) := by
  refine sound_ofM Try.func70 rfl (by kernel_rfl) (fun v => ?_)
  simp [Try.ntmps70]
  refine okL fun k1 => ?_
  refine loopI (ι := { s : Nat × Int × Nat × (List TPiece) // l_markPieceS_1 s.1 s.2.1 s.2.2.1 s.2.2.2 = l_markPieceS_1 (a0.length + 1) a1 0 a0 ∧ (1 ≤ s.1 ∧ s.2.2.2.length < s.1 + s.2.2.1) }) (fun s => stOf 34 [(0, .fix v (.one (.sref 0 0 0 s.1.2.2.2.length)), [.arr true 3 (s.1.2.2.2.map TPiece.row)]), (1, .one (.d (.int .i64 s.1.2.1)), []), (5, .one (.d (.int .i64 (↑s.1.2.2.1 : Int))), [])]) (fun s => s.1.1) ⟨((a0.length + 1), a1, 0, a0), rfl, by first | omega | (dsimp only; omega) | simp⟩ (wk_keep (by simp)) ?_
  rintro ⟨⟨n1, v1_0, v1_1, v1_2⟩, e1, j1⟩
  try dsimp only at e1 j1
  obtain ⟨p1, rfl⟩ : ∃ p, n1 = p + 1 := ⟨n1 - 1, by omega⟩
  simp
  refine condR (c := (decide ((↑v1_1 : Int) < (↑v1_2.length : Int)))) (by simp) (fun k2 h1 => ?_) (fun k2 h1 => ?_)
  · have q1 := h1; try simp at q1
    have i1 : v1_1 < v1_2.length := by simpa using h1
    have m2 : v1_2.length ≤ 9223372036854775807 := by simpa using k2 0 _ rfl
    have w1 : IntKind.i64.wrap ((v1_1 : Int) + 1) = (v1_1 : Int) + 1 := wrap_of (by omega) (by omega)
    simp [i1, rowAt_map, set_map (x := (TPiece.mk v1_0 (nth v1_2 v1_1).Ints (nth v1_2 v1_1).Mark)) rfl, rowAt_set_self]
    repeat ((with_reducible refine And.intro ?_ ?_); focus (intros; first | omega | ((try simp only [W_def, show ∀ x, IntKind.i64.wrap x = W x from fun _ => rfl] at *); omega)))
    refine callMT (t := 0) (j := 0) (i := v1_1) (c := 1) (size := 3) (rows := ((v1_2.set v1_1 (TPiece.mk v1_0 (nth v1_2 v1_1).Ints (nth v1_2 v1_1).Mark)).map TPiece.row)) rfl rfl rfl rfl rfl rfl rfl (l_markIntS_ok (nth v1_2 v1_1).Ints (W (v1_0 + 1))) (by simp) (by simp) (by simp [m2, i1]) (by simp [rowAt_map, rowAt_set_self, m2, i1]) (by simp) (by simp) (by simp) ?_
    simp [List.set_set, set_map (x := (TPiece.mk v1_0 (l_markIntS (nth v1_2 v1_1).Ints (W (v1_0 + 1))).1 (nth v1_2 v1_1).Mark)) rfl, rowAt_map, rowAt_set_self, m2, i1, set_map (x := (TPiece.mk v1_0 (l_markIntS (nth v1_2 v1_1).Ints (W (v1_0 + 1))).1 (l_markIntS (nth v1_2 v1_1).Ints (W (v1_0 + 1))).2)) rfl]
    repeat ((with_reducible refine And.intro ?_ ?_); focus (intros; first | omega | ((try simp only [W_def, show ∀ x, IntKind.i64.wrap x = W x from fun _ => rfl] at *); omega)))
    refine nxtI ⟨(p1, (W ((l_markIntS (nth v1_2 v1_1).Ints (W (v1_0 + 1))).2 + 1)), (v1_1 + 1), (v1_2.set v1_1 (TPiece.mk v1_0 (l_markIntS (nth v1_2 v1_1).Ints (W (v1_0 + 1))).1 (l_markIntS (nth v1_2 v1_1).Ints (W (v1_0 + 1))).2))), ?_, ?_⟩ (by simp) (wk_keep (by simp [w1]))
    · rw [← e1]; simp only [l_markPieceS_1, h1, cond_true, cond_false]
    · (simp; omega)
  · have q1 := h1; try simp at q1
    have x1 : l_markPieceS_1 (a0.length + 1) a1 0 a0 = (v1_0, v1_2) := by rw [← e1]; simp only [l_markPieceS_1, h1, cond_true, cond_false]
    simp
    refine retM (rv := [.tmp 4]) rfl ?_
    have f1 := l_markPieceS.eq_1 a0 a1
    simp only [x1, cond_true, cond_false] at f1
    simp [f1]
theorem l_markStepS_ok (a0 : List TStep) (a1 : Int) : SoundM Try.prog 94 [.sl 2 (a0.map TStep.row)] [[.int .i64 a1]] [.sl 2 ((l_markStepS a0 a1).1.map TStep.row)] (.int .i64 (l_markStepS a0 a1).2) := by
  refine sound_ofM Try.func94 rfl (by kernel_rfl) (fun v => ?_)
  simp [Try.ntmps94]
  refine okL fun k1 => ?_
  refine loopI (ι := { s : Nat × Int × Nat × (List TStep) // l_markStepS_1 s.1 s.2.1 s.2.2.1 s.2.2.2 = l_markStepS_1 (a0.length + 1) a1 0 a0 ∧ (1 ≤ s.1 ∧ s.2.2.2.length < s.1 + s.2.2.1) }) (fun s => stOf 29 [(0, .fix v (.one (.sref 0 0 0 s.1.2.2.2.length)), [.arr true 2 (s.1.2.2.2.map TStep.row)]), (1, .one (.d (.int .i64 s.1.2.1)), []), (5, .one (.d (.int .i64 (↑s.1.2.2.1 : Int))), [])]) (fun s => s.1.1) ⟨((a0.length + 1), a1, 0, a0), rfl, by first | omega | (dsimp only; omega) | simp⟩ (wk_keep (by simp)) ?_
  rintro ⟨⟨n1, v1_0, v1_1, v1_2⟩, e1, j1⟩
  try dsimp only at e1 j1
  obtain ⟨p1, rfl⟩ : ∃ p, n1 = p + 1 := ⟨n1 - 1, by omega⟩
  simp
  refine condR (c := (decide ((↑v1_1 : Int) < (↑v1_2.length : Int)))) (by simp) (fun k2 h1 => ?_) (fun k2 h1 => ?_)
  · have q1 := h1; try simp at q1
    have i1 : v1_1 < v1_2.length := by simpa using h1
    have m2 : v1_2.length ≤ 9223372036854775807 := by simpa using k2 0 _ rfl
    have w1 : IntKind.i64.wrap ((v1_1 : Int) + 1) = (v1_1 : Int) + 1 := wrap_of (by omega) (by omega)
    simp [i1, rowAt_map, set_map (x := (TStep.mk v1_0 (nth v1_2 v1_1).Left)) rfl, rowAt_set_self, List.set_set, set_map (x := (TStep.mk v1_0 ((Int.tmod (W (v1_0 + 1)) 3) == 0))) rfl]
    repeat ((with_reducible refine And.intro ?_ ?_); focus (intros; first | omega | ((try simp only [W_def, show ∀ x, IntKind.i64.wrap x = W x from fun _ => rfl] at *); omega)))
    refine nxtI ⟨(p1, (W ((W (v1_0 + 1)) + 1)), (v1_1 + 1), (v1_2.set v1_1 (TStep.mk v1_0 ((Int.tmod (W (v1_0 + 1)) 3) == 0)))), ?_, ?_⟩ (by simp) (wk_keep (by simp [w1]))
    · rw [← e1]; simp only [l_markStepS_1, h1, cond_true, cond_false]
    · (simp; omega)
  · have q1 := h1; try simp at q1
    have x1 : l_markStepS_1 (a0.length + 1) a1 0 a0 = (v1_0, v1_2) := by rw [← e1]; simp only [l_markStepS_1, h1, cond_true, cond_false]
    simp
    refine retM (rv := [.tmp 4]) rfl ?_
    have f1 := l_markStepS.eq_1 a0 a1
    simp only [x1, cond_true, cond_false] at f1
    simp [f1]
theorem l_markStampS_ok (a0 : List TStamp) (a1 : Int) : SoundM Try.prog 95 [.sl 5 (a0.map TStamp.row)] [[.int .i64 a1]] [.sl 5 ((l_markStampS a0 a1).1.map TStamp.row)] (.int .i64 (l_markStampS a0 a1).2) := by
  refine sound_ofM Try.func95 rfl (by kernel_rfl) (fun v => ?_)
  simp [Try.ntmps95]
  refine okL fun k1 => ?_
  refine loopI (ι := { s : Nat × Int × Nat × (List TStamp) // l_markStampS_1 s.1 s.2.1 s.2.2.1 s.2.2.2 = l_markStampS_1 (a0.length + 1) a1 0 a0 ∧ (1 ≤ s.1 ∧ s.2.2.2.length < s.1 + s.2.2.1) }) (fun s => stOf 48 [(0, .fix v (.one (.sref 0 0 0 s.1.2.2.2.length)), [.arr true 5 (s.1.2.2.2.map TStamp.row)]), (1, .one (.d (.int .i64 s.1.2.1)), []), (5, .one (.d (.int .i64 (↑s.1.2.2.1 : Int))), [])]) (fun s => s.1.1) ⟨((a0.length + 1), a1, 0, a0), rfl, by first | omega | (dsimp only; omega) | simp⟩ (wk_keep (by simp)) ?_
  rintro ⟨⟨n1, v1_0, v1_1, v1_2⟩, e1, j1⟩
  try dsimp only at e1 j1
  obtain ⟨p1, rfl⟩ : ∃ p, n1 = p + 1 := ⟨n1 - 1, by omega⟩
  simp
  refine condR (c := (decide ((↑v1_1 : Int) < (↑v1_2.length : Int)))) (by simp) (fun k2 h1 => ?_) (fun k2 h1 => ?_)
  · have q1 := h1; try simp at q1
    have i1 : v1_1 < v1_2.length := by simpa using h1
    have m2 : v1_2.length ≤ 9223372036854775807 := by simpa using k2 0 _ rfl
    have w1 : IntKind.i64.wrap ((v1_1 : Int) + 1) = (v1_1 : Int) + 1 := wrap_of (by omega) (by omega)
    simp [i1, rowAt_map, set_map (x := (TStamp.mk v1_0 (nth v1_2 v1_1).Seq (nth v1_2 v1_1).Time (nth v1_2 v1_1).Digest (nth v1_2 v1_1).Mark)) rfl, rowAt_set_self, List.set_set, set_map (x := (TStamp.mk v1_0 (W (v1_0 + 1)) (nth v1_2 v1_1).Time (nth v1_2 v1_1).Digest (nth v1_2 v1_1).Mark)) rfl, set_map (x := (TStamp.mk v1_0 (W (v1_0 + 1)) (W ((W (v1_0 + 1)) + 1)) (nth v1_2 v1_1).Digest (nth v1_2 v1_1).Mark)) rfl, set_map (x := (TStamp.mk v1_0 (W (v1_0 + 1)) (W ((W (v1_0 + 1)) + 1)) (W ((W ((W (v1_0 + 1)) + 1)) + 1)) (nth v1_2 v1_1).Mark)) rfl, set_map (x := (TStamp.mk v1_0 (W (v1_0 + 1)) (W ((W (v1_0 + 1)) + 1)) (W ((W ((W (v1_0 + 1)) + 1)) + 1)) (W ((W ((W ((W (v1_0 + 1)) + 1)) + 1)) + 1)))) rfl]
    repeat ((with_reducible refine And.intro ?_ ?_); focus (intros; first | omega | ((try simp only [W_def, show ∀ x, IntKind.i64.wrap x = W x from fun _ => rfl] at *); omega)))
    refine nxtI ⟨(p1, (W ((W ((W ((W ((W (v1_0 + 1)) + 1)) + 1)) + 1)) + 1)), (v1_1 + 1), (v1_2.set v1_1 (TStamp.mk v1_0 (W (v1_0 + 1)) (W ((W (v1_0 + 1)) + 1)) (W ((W ((W (v1_0 + 1)) + 1)) + 1)) (W ((W ((W ((W (v1_0 + 1)) + 1)) + 1)) + 1))))), ?_, ?_⟩ (by simp) (wk_keep (by simp [w1]))
    · rw [← e1]; simp only [l_markStampS_1, h1, cond_true, cond_false]
    · (simp; omega)
  · have q1 := h1; try simp at q1
    have x1 : l_markStampS_1 (a0.length + 1) a1 0 a0 = (v1_0, v1_2) := by rw [← e1]; simp only [l_markStampS_1, h1, cond_true, cond_false]
    simp
    refine retM (rv := [.tmp 4]) rfl ?_
    have f1 := l_markStampS.eq_1 a0 a1
    simp only [x1, cond_true, cond_false] at f1
    simp [f1]
theorem l_markRenewalS_ok (a0 : List TRenewal) (a1 : Int) : SoundM Try.prog 71 [.sl 5 (a0.map TRenewal.row)] [[.int .i64 a1]] [.sl 5 ((l_markRenewalS a0 a1).1.map TRenewal.row)] (.int .i64 (l_markRenewalS a0 a1).2) := by
  refine sound_ofM Try.func71 rfl (by kernel_rfl) (fun v => ?_)
  simp [Try.ntmps71]
  refine okL fun k1 => ?_
  refine loopI (ι := { s : Nat × Int × Nat × (List TRenewal) // l_markRenewalS_1 s.1 s.2.1 s.2.2.1 s.2.2.2 = l_markRenewalS_1 (a0.length + 1) a1 0 a0 ∧ (1 ≤ s.1 ∧ s.2.2.2.length < s.1 + s.2.2.1) }) (fun s => stOf 48 [(0, .fix v (.one (.sref 0 0 0 s.1.2.2.2.length)), [.arr true 5 (s.1.2.2.2.map TRenewal.row)]), (1, .one (.d (.int .i64 s.1.2.1)), []), (5, .one (.d (.int .i64 (↑s.1.2.2.1 : Int))), [])]) (fun s => s.1.1) ⟨((a0.length + 1), a1, 0, a0), rfl, by first | omega | (dsimp only; omega) | simp⟩ (wk_keep (by simp)) ?_
  rintro ⟨⟨n1, v1_0, v1_1, v1_2⟩, e1, j1⟩
  try dsimp only at e1 j1
  obtain ⟨p1, rfl⟩ : ∃ p, n1 = p + 1 := ⟨n1 - 1, by omega⟩
  simp
  refine condR (c := (decide ((↑v1_1 : Int) < (↑v1_2.length : Int)))) (by simp) (fun k2 h1 => ?_) (fun k2 h1 => ?_)
  · have q1 := h1; try simp at q1
    have i1 : v1_1 < v1_2.length := by simpa using h1
    have m2 : v1_2.length ≤ 9223372036854775807 := by simpa using k2 0 _ rfl
    have w1 : IntKind.i64.wrap ((v1_1 : Int) + 1) = (v1_1 : Int) + 1 := wrap_of (by omega) (by omega)
    simp [i1, rowAt_map, set_map (x := (TRenewal.mk v1_0 (nth v1_2 v1_1).Method (nth v1_2 v1_1).Root (nth v1_2 v1_1).Path (nth v1_2 v1_1).Stamps)) rfl, rowAt_set_self, List.set_set, set_map (x := (TRenewal.mk v1_0 (W (v1_0 + 1)) (nth v1_2 v1_1).Root (nth v1_2 v1_1).Path (nth v1_2 v1_1).Stamps)) rfl, set_map (x := (TRenewal.mk v1_0 (W (v1_0 + 1)) (W ((W (v1_0 + 1)) + 1)) (nth v1_2 v1_1).Path (nth v1_2 v1_1).Stamps)) rfl]
    repeat ((with_reducible refine And.intro ?_ ?_); focus (intros; first | omega | ((try simp only [W_def, show ∀ x, IntKind.i64.wrap x = W x from fun _ => rfl] at *); omega)))
    refine callMT (t := 0) (j := 0) (i := v1_1) (c := 3) (size := 5) (rows := ((v1_2.set v1_1 (TRenewal.mk v1_0 (W (v1_0 + 1)) (W ((W (v1_0 + 1)) + 1)) (nth v1_2 v1_1).Path (nth v1_2 v1_1).Stamps)).map TRenewal.row)) rfl rfl rfl rfl rfl rfl rfl (l_markStepS_ok (nth v1_2 v1_1).Path (W ((W ((W (v1_0 + 1)) + 1)) + 1))) (by simp) (by simp) (by simp [m2, i1]) (by simp [rowAt_map, rowAt_set_self, m2, i1]) (by simp) (by simp) (by simp) ?_
    simp [List.set_set, set_map (x := (TRenewal.mk v1_0 (W (v1_0 + 1)) (W ((W (v1_0 + 1)) + 1)) (l_markStepS (nth v1_2 v1_1).Path (W ((W ((W (v1_0 + 1)) + 1)) + 1))).1 (nth v1_2 v1_1).Stamps)) rfl, rowAt_map, rowAt_set_self, m2, i1]
    repeat ((with_reducible refine And.intro ?_ ?_); focus (intros; first | omega | ((try simp only [W_def, show ∀ x, IntKind.i64.wrap x = W x from fun _ => rfl] at *); omega)))
    refine callMT (t := 0) (j := 0) (i := v1_1) (c := 4) (size := 5) (rows := ((v1_2.set v1_1 (TRenewal.mk v1_0 (W (v1_0 + 1)) (W ((W (v1_0 + 1)) + 1)) (l_markStepS (nth v1_2 v1_1).Path (W ((W ((W (v1_0 + 1)) + 1)) + 1))).1 (nth v1_2 v1_1).Stamps)).map TRenewal.row)) rfl rfl rfl rfl rfl rfl rfl (l_markStampS_ok (nth v1_2 v1_1).Stamps (l_markStepS (nth v1_2 v1_1).Path (W ((W ((W (v1_0 + 1)) + 1)) + 1))).2) (by simp) (by simp) (by simp [m2, i1]) (by simp [rowAt_map, rowAt_set_self, m2, i1]) (by simp) (by simp) (by simp) ?_
    simp [List.set_set, set_map (x := (TRenewal.mk v1_0 (W (v1_0 + 1)) (W ((W (v1_0 + 1)) + 1)) (l_markStepS (nth v1_2 v1_1).Path (W ((W ((W (v1_0 + 1)) + 1)) + 1))).1 (l_markStampS (nth v1_2 v1_1).Stamps (l_markStepS (nth v1_2 v1_1).Path (W ((W ((W (v1_0 + 1)) + 1)) + 1))).2).1)) rfl, rowAt_map, rowAt_set_self, m2, i1]
    repeat ((with_reducible refine And.intro ?_ ?_); focus (intros; first | omega | ((try simp only [W_def, show ∀ x, IntKind.i64.wrap x = W x from fun _ => rfl] at *); omega)))
    refine nxtI ⟨(p1, (l_markStampS (nth v1_2 v1_1).Stamps (l_markStepS (nth v1_2 v1_1).Path (W ((W ((W (v1_0 + 1)) + 1)) + 1))).2).2, (v1_1 + 1), (v1_2.set v1_1 (TRenewal.mk v1_0 (W (v1_0 + 1)) (W ((W (v1_0 + 1)) + 1)) (l_markStepS (nth v1_2 v1_1).Path (W ((W ((W (v1_0 + 1)) + 1)) + 1))).1 (l_markStampS (nth v1_2 v1_1).Stamps (l_markStepS (nth v1_2 v1_1).Path (W ((W ((W (v1_0 + 1)) + 1)) + 1))).2).1))), ?_, ?_⟩ (by simp) (wk_keep (by simp [w1]))
    · rw [← e1]; simp only [l_markRenewalS_1, h1, cond_true, cond_false]
    · (simp; omega)
  · have q1 := h1; try simp at q1
    have x1 : l_markRenewalS_1 (a0.length + 1) a1 0 a0 = (v1_0, v1_2) := by rw [← e1]; simp only [l_markRenewalS_1, h1, cond_true, cond_false]
    simp
    refine retM (rv := [.tmp 4]) rfl ?_
    have f1 := l_markRenewalS.eq_1 a0 a1
    simp only [x1, cond_true, cond_false] at f1
    simp [f1]
theorem l_markItemS_ok (a0 : List TItem) (a1 : Int) : SoundM Try.prog 40 [.sl 16 (a0.map TItem.row)] [[.int .i64 a1]] [.sl 16 ((l_markItemS a0 a1).1.map TItem.row)] (.int .i64 (l_markItemS a0 a1).2) := by
  refine sound_ofM Try.func40 rfl (by kernel_rfl) (fun v => ?_)
  simp [Try.ntmps40]
  refine okL fun k1 => ?_
  refine loopI (ι := { s : Nat × Int × Nat × (List TItem) // l_markItemS_1 s.1 s.2.1 s.2.2.1 s.2.2.2 = l_markItemS_1 (a0.length + 1) a1 0 a0 ∧ (1 ≤ s.1 ∧ s.2.2.2.length < s.1 + s.2.2.1) }) (fun s => stOf 139 [(0, .fix v (.one (.sref 0 0 0 s.1.2.2.2.length)), [.arr true 16 (s.1.2.2.2.map TItem.row)]), (1, .one (.d (.int .i64 s.1.2.1)), []), (5, .one (.d (.int .i64 (↑s.1.2.2.1 : Int))), [])]) (fun s => s.1.1) ⟨((a0.length + 1), a1, 0, a0), rfl, by first | omega | (dsimp only; omega) | simp⟩ (wk_keep (by simp)) ?_
  rintro ⟨⟨n1, v1_0, v1_1, v1_2⟩, e1, j1⟩
  try dsimp only at e1 j1
  obtain ⟨p1, rfl⟩ : ∃ p, n1 = p + 1 := ⟨n1 - 1, by omega⟩
  simp
  refine condR (c := (decide ((↑v1_1 : Int) < (↑v1_2.length : Int)))) (by simp) (fun k2 h1 => ?_) (fun k2 h1 => ?_)
  · have q1 := h1; try simp at q1
    have i1 : v1_1 < v1_2.length := by simpa using h1
    have m2 : v1_2.length ≤ 9223372036854775807 := by simpa using k2 0 _ rfl
    have w1 : IntKind.i64.wrap ((v1_1 : Int) + 1) = (v1_1 : Int) + 1 := wrap_of (by omega) (by omega)
    simp [i1, rowAt_map, set_map (x := (TItem.mk v1_0 (nth v1_2 v1_1).Keep (nth v1_2 v1_1).Doc (nth v1_2 v1_1).Sig (nth v1_2 v1_1).Strand)) rfl, rowAt_set_self, List.set_set, set_map (x := (TItem.mk v1_0 (W (v1_0 + 1)) (nth v1_2 v1_1).Doc (nth v1_2 v1_1).Sig (nth v1_2 v1_1).Strand)) rfl, set_map (x := (TItem.mk v1_0 (W (v1_0 + 1)) (TDocument.mk (W ((W (v1_0 + 1)) + 1)) (nth v1_2 v1_1).Doc.Parts (nth v1_2 v1_1).Doc.Salts) (nth v1_2 v1_1).Sig (nth v1_2 v1_1).Strand)) rfl]
    repeat ((with_reducible refine And.intro ?_ ?_); focus (intros; first | omega | ((try simp only [W_def, show ∀ x, IntKind.i64.wrap x = W x from fun _ => rfl] at *); omega)))
    refine callMT (t := 0) (j := 0) (i := v1_1) (c := 3) (size := 16) (rows := ((v1_2.set v1_1 (TItem.mk v1_0 (W (v1_0 + 1)) (TDocument.mk (W ((W (v1_0 + 1)) + 1)) (nth v1_2 v1_1).Doc.Parts (nth v1_2 v1_1).Doc.Salts) (nth v1_2 v1_1).Sig (nth v1_2 v1_1).Strand)).map TItem.row)) rfl rfl rfl rfl rfl rfl rfl (l_markStringS_ok (nth v1_2 v1_1).Doc.Parts (W ((W ((W (v1_0 + 1)) + 1)) + 1))) (by simp) (by simp) (by simp [m2, i1]) (by simp [rowAt_map, rowAt_set_self, m2, i1]) (by simp) (by simp) (by simp) ?_
    simp [List.set_set, set_map (x := (TItem.mk v1_0 (W (v1_0 + 1)) (TDocument.mk (W ((W (v1_0 + 1)) + 1)) (l_markStringS (nth v1_2 v1_1).Doc.Parts (W ((W ((W (v1_0 + 1)) + 1)) + 1))).1 (nth v1_2 v1_1).Doc.Salts) (nth v1_2 v1_1).Sig (nth v1_2 v1_1).Strand)) rfl, rowAt_map, rowAt_set_self, m2, i1]
    repeat ((with_reducible refine And.intro ?_ ?_); focus (intros; first | omega | ((try simp only [W_def, show ∀ x, IntKind.i64.wrap x = W x from fun _ => rfl] at *); omega)))
    refine callMT (t := 0) (j := 0) (i := v1_1) (c := 4) (size := 16) (rows := ((v1_2.set v1_1 (TItem.mk v1_0 (W (v1_0 + 1)) (TDocument.mk (W ((W (v1_0 + 1)) + 1)) (l_markStringS (nth v1_2 v1_1).Doc.Parts (W ((W ((W (v1_0 + 1)) + 1)) + 1))).1 (nth v1_2 v1_1).Doc.Salts) (nth v1_2 v1_1).Sig (nth v1_2 v1_1).Strand)).map TItem.row)) rfl rfl rfl rfl rfl rfl rfl (l_markIntS_ok (nth v1_2 v1_1).Doc.Salts (l_markStringS (nth v1_2 v1_1).Doc.Parts (W ((W ((W (v1_0 + 1)) + 1)) + 1))).2) (by simp) (by simp) (by simp [m2, i1]) (by simp [rowAt_map, rowAt_set_self, m2, i1]) (by simp) (by simp) (by simp) ?_
    simp [List.set_set, set_map (x := (TItem.mk v1_0 (W (v1_0 + 1)) (TDocument.mk (W ((W (v1_0 + 1)) + 1)) (l_markStringS (nth v1_2 v1_1).Doc.Parts (W ((W ((W (v1_0 + 1)) + 1)) + 1))).1 (l_markIntS (nth v1_2 v1_1).Doc.Salts (l_markStringS (nth v1_2 v1_1).Doc.Parts (W ((W ((W (v1_0 + 1)) + 1)) + 1))).2).1) (nth v1_2 v1_1).Sig (nth v1_2 v1_1).Strand)) rfl, rowAt_map, rowAt_set_self, m2, i1, set_map (x := (TItem.mk v1_0 (W (v1_0 + 1)) (TDocument.mk (W ((W (v1_0 + 1)) + 1)) (l_markStringS (nth v1_2 v1_1).Doc.Parts (W ((W ((W (v1_0 + 1)) + 1)) + 1))).1 (l_markIntS (nth v1_2 v1_1).Doc.Salts (l_markStringS (nth v1_2 v1_1).Doc.Parts (W ((W ((W (v1_0 + 1)) + 1)) + 1))).2).1) (TSignature.mk (l_markIntS (nth v1_2 v1_1).Doc.Salts (l_markStringS (nth v1_2 v1_1).Doc.Parts (W ((W ((W (v1_0 + 1)) + 1)) + 1))).2).2 (nth v1_2 v1_1).Sig.Serial (nth v1_2 v1_1).Sig.Method (nth v1_2 v1_1).Sig.Digest (nth v1_2 v1_1).Sig.Commit (nth v1_2 v1_1).Sig.Org (nth v1_2 v1_1).Sig.Before (nth v1_2 v1_1).Sig.After (nth v1_2 v1_1).Sig.Mark) (nth v1_2 v1_1).Strand)) rfl, set_map (x := (TItem.mk v1_0 (W (v1_0 + 1)) (TDocument.mk (W ((W (v1_0 + 1)) + 1)) (l_markStringS (nth v1_2 v1_1).Doc.Parts (W ((W ((W (v1_0 + 1)) + 1)) + 1))).1 (l_markIntS (nth v1_2 v1_1).Doc.Salts (l_markStringS (nth v1_2 v1_1).Doc.Parts (W ((W ((W (v1_0 + 1)) + 1)) + 1))).2).1) (TSignature.mk (l_markIntS (nth v1_2 v1_1).Doc.Salts (l_markStringS (nth v1_2 v1_1).Doc.Parts (W ((W ((W (v1_0 + 1)) + 1)) + 1))).2).2 (W ((l_markIntS (nth v1_2 v1_1).Doc.Salts (l_markStringS (nth v1_2 v1_1).Doc.Parts (W ((W ((W (v1_0 + 1)) + 1)) + 1))).2).2 + 1)) (nth v1_2 v1_1).Sig.Method (nth v1_2 v1_1).Sig.Digest (nth v1_2 v1_1).Sig.Commit (nth v1_2 v1_1).Sig.Org (nth v1_2 v1_1).Sig.Before (nth v1_2 v1_1).Sig.After (nth v1_2 v1_1).Sig.Mark) (nth v1_2 v1_1).Strand)) rfl, set_map (x := (TItem.mk v1_0 (W (v1_0 + 1)) (TDocument.mk (W ((W (v1_0 + 1)) + 1)) (l_markStringS (nth v1_2 v1_1).Doc.Parts (W ((W ((W (v1_0 + 1)) + 1)) + 1))).1 (l_markIntS (nth v1_2 v1_1).Doc.Salts (l_markStringS (nth v1_2 v1_1).Doc.Parts (W ((W ((W (v1_0 + 1)) + 1)) + 1))).2).1) (TSignature.mk (l_markIntS (nth v1_2 v1_1).Doc.Salts (l_markStringS (nth v1_2 v1_1).Doc.Parts (W ((W ((W (v1_0 + 1)) + 1)) + 1))).2).2 (W ((l_markIntS (nth v1_2 v1_1).Doc.Salts (l_markStringS (nth v1_2 v1_1).Doc.Parts (W ((W ((W (v1_0 + 1)) + 1)) + 1))).2).2 + 1)) (W ((W ((l_markIntS (nth v1_2 v1_1).Doc.Salts (l_markStringS (nth v1_2 v1_1).Doc.Parts (W ((W ((W (v1_0 + 1)) + 1)) + 1))).2).2 + 1)) + 1)) (nth v1_2 v1_1).Sig.Digest (nth v1_2 v1_1).Sig.Commit (nth v1_2 v1_1).Sig.Org (nth v1_2 v1_1).Sig.Before (nth v1_2 v1_1).Sig.After (nth v1_2 v1_1).Sig.Mark) (nth v1_2 v1_1).Strand)) rfl, set_map (x := (TItem.mk v1_0 (W (v1_0 + 1)) (TDocument.mk (W ((W (v1_0 + 1)) + 1)) (l_markStringS (nth v1_2 v1_1).Doc.Parts (W ((W ((W (v1_0 + 1)) + 1)) + 1))).1 (l_markIntS (nth v1_2 v1_1).Doc.Salts (l_markStringS (nth v1_2 v1_1).Doc.Parts (W ((W ((W (v1_0 + 1)) + 1)) + 1))).2).1) (TSignature.mk (l_markIntS (nth v1_2 v1_1).Doc.Salts (l_markStringS (nth v1_2 v1_1).Doc.Parts (W ((W ((W (v1_0 + 1)) + 1)) + 1))).2).2 (W ((l_markIntS (nth v1_2 v1_1).Doc.Salts (l_markStringS (nth v1_2 v1_1).Doc.Parts (W ((W ((W (v1_0 + 1)) + 1)) + 1))).2).2 + 1)) (W ((W ((l_markIntS (nth v1_2 v1_1).Doc.Salts (l_markStringS (nth v1_2 v1_1).Doc.Parts (W ((W ((W (v1_0 + 1)) + 1)) + 1))).2).2 + 1)) + 1)) (W ((W ((W ((l_markIntS (nth v1_2 v1_1).Doc.Salts (l_markStringS (nth v1_2 v1_1).Doc.Parts (W ((W ((W (v1_0 + 1)) + 1)) + 1))).2).2 + 1)) + 1)) + 1)) (nth v1_2 v1_1).Sig.Commit (nth v1_2 v1_1).Sig.Org (nth v1_2 v1_1).Sig.Before (nth v1_2 v1_1).Sig.After (nth v1_2 v1_1).Sig.Mark) (nth v1_2 v1_1).Strand)) rfl, set_map (x := (TItem.mk v1_0 (W (v1_0 + 1)) (TDocument.mk (W ((W (v1_0 + 1)) + 1)) (l_markStringS (nth v1_2 v1_1).Doc.Parts (W ((W ((W (v1_0 + 1)) + 1)) + 1))).1 (l_markIntS (nth v1_2 v1_1).Doc.Salts (l_markStringS (nth v1_2 v1_1).Doc.Parts (W ((W ((W (v1_0 + 1)) + 1)) + 1))).2).1) (TSignature.mk (l_markIntS (nth v1_2 v1_1).Doc.Salts (l_markStringS (nth v1_2 v1_1).Doc.Parts (W ((W ((W (v1_0 + 1)) + 1)) + 1))).2).2 (W ((l_markIntS (nth v1_2 v1_1).Doc.Salts (l_markStringS (nth v1_2 v1_1).Doc.Parts (W ((W ((W (v1_0 + 1)) + 1)) + 1))).2).2 + 1)) (W ((W ((l_markIntS (nth v1_2 v1_1).Doc.Salts (l_markStringS (nth v1_2 v1_1).Doc.Parts (W ((W ((W (v1_0 + 1)) + 1)) + 1))).2).2 + 1)) + 1)) (W ((W ((W ((l_markIntS (nth v1_2 v1_1).Doc.Salts (l_markStringS (nth v1_2 v1_1).Doc.Parts (W ((W ((W (v1_0 + 1)) + 1)) + 1))).2).2 + 1)) + 1)) + 1)) (W ((W ((W ((W ((l_markIntS (nth v1_2 v1_1).Doc.Salts (l_markStringS (nth v1_2 v1_1).Doc.Parts (W ((W ((W (v1_0 + 1)) + 1)) + 1))).2).2 + 1)) + 1)) + 1)) + 1)) (nth v1_2 v1_1).Sig.Org (nth v1_2 v1_1).Sig.Before (nth v1_2 v1_1).Sig.After (nth v1_2 v1_1).Sig.Mark) (nth v1_2 v1_1).Strand)) rfl, set_map (x := (TItem.mk v1_0 (W (v1_0 + 1)) (TDocument.mk (W ((W (v1_0 + 1)) + 1)) (l_markStringS (nth v1_2 v1_1).Doc.Parts (W ((W ((W (v1_0 + 1)) + 1)) + 1))).1 (l_markIntS (nth v1_2 v1_1).Doc.Salts (l_markStringS (nth v1_2 v1_1).Doc.Parts (W ((W ((W (v1_0 + 1)) + 1)) + 1))).2).1) (TSignature.mk (l_markIntS (nth v1_2 v1_1).Doc.Salts (l_markStringS (nth v1_2 v1_1).Doc.Parts (W ((W ((W (v1_0 + 1)) + 1)) + 1))).2).2 (W ((l_markIntS (nth v1_2 v1_1).Doc.Salts (l_markStringS (nth v1_2 v1_1).Doc.Parts (W ((W ((W (v1_0 + 1)) + 1)) + 1))).2).2 + 1)) (W ((W ((l_markIntS (nth v1_2 v1_1).Doc.Salts (l_markStringS (nth v1_2 v1_1).Doc.Parts (W ((W ((W (v1_0 + 1)) + 1)) + 1))).2).2 + 1)) + 1)) (W ((W ((W ((l_markIntS (nth v1_2 v1_1).Doc.Salts (l_markStringS (nth v1_2 v1_1).Doc.Parts (W ((W ((W (v1_0 + 1)) + 1)) + 1))).2).2 + 1)) + 1)) + 1)) (W ((W ((W ((W ((l_markIntS (nth v1_2 v1_1).Doc.Salts (l_markStringS (nth v1_2 v1_1).Doc.Parts (W ((W ((W (v1_0 + 1)) + 1)) + 1))).2).2 + 1)) + 1)) + 1)) + 1)) (W ((W ((W ((W ((W ((l_markIntS (nth v1_2 v1_1).Doc.Salts (l_markStringS (nth v1_2 v1_1).Doc.Parts (W ((W ((W (v1_0 + 1)) + 1)) + 1))).2).2 + 1)) + 1)) + 1)) + 1)) + 1)) (nth v1_2 v1_1).Sig.Before (nth v1_2 v1_1).Sig.After (nth v1_2 v1_1).Sig.Mark) (nth v1_2 v1_1).Strand)) rfl, set_map (x := (TItem.mk v1_0 (W (v1_0 + 1)) (TDocument.mk (W ((W (v1_0 + 1)) + 1)) (l_markStringS (nth v1_2 v1_1).Doc.Parts (W ((W ((W (v1_0 + 1)) + 1)) + 1))).1 (l_markIntS (nth v1_2 v1_1).Doc.Salts (l_markStringS (nth v1_2 v1_1).Doc.Parts (W ((W ((W (v1_0 + 1)) + 1)) + 1))).2).1) (TSignature.mk (l_markIntS (nth v1_2 v1_1).Doc.Salts (l_markStringS (nth v1_2 v1_1).Doc.Parts (W ((W ((W (v1_0 + 1)) + 1)) + 1))).2).2 (W ((l_markIntS (nth v1_2 v1_1).Doc.Salts (l_markStringS (nth v1_2 v1_1).Doc.Parts (W ((W ((W (v1_0 + 1)) + 1)) + 1))).2).2 + 1)) (W ((W ((l_markIntS (nth v1_2 v1_1).Doc.Salts (l_markStringS (nth v1_2 v1_1).Doc.Parts (W ((W ((W (v1_0 + 1)) + 1)) + 1))).2).2 + 1)) + 1)) (W ((W ((W ((l_markIntS (nth v1_2 v1_1).Doc.Salts (l_markStringS (nth v1_2 v1_1).Doc.Parts (W ((W ((W (v1_0 + 1)) + 1)) + 1))).2).2 + 1)) + 1)) + 1)) (W ((W ((W ((W ((l_markIntS (nth v1_2 v1_1).Doc.Salts (l_markStringS (nth v1_2 v1_1).Doc.Parts (W ((W ((W (v1_0 + 1)) + 1)) + 1))).2).2 + 1)) + 1)) + 1)) + 1)) (W ((W ((W ((W ((W ((l_markIntS (nth v1_2 v1_1).Doc.Salts (l_markStringS (nth v1_2 v1_1).Doc.Parts (W ((W ((W (v1_0 + 1)) + 1)) + 1))).2).2 + 1)) + 1)) + 1)) + 1)) + 1)) (W ((W ((W ((W ((W ((W ((l_markIntS (nth v1_2 v1_1).Doc.Salts (l_markStringS (nth v1_2 v1_1).Doc.Parts (W ((W ((W (v1_0 + 1)) + 1)) + 1))).2).2 + 1)) + 1)) + 1)) + 1)) + 1)) + 1)) (nth v1_2 v1_1).Sig.After (nth v1_2 v1_1).Sig.Mark) (nth v1_2 v1_1).Strand)) rfl, set_map (x := (TItem.mk v1_0 (W (v1_0 + 1)) (TDocument.mk (W ((W (v1_0 + 1)) + 1)) (l_markStringS (nth v1_2 v1_1).Doc.Parts (W ((W ((W (v1_0 + 1)) + 1)) + 1))).1 (l_markIntS (nth v1_2 v1_1).Doc.Salts (l_markStringS (nth v1_2 v1_1).Doc.Parts (W ((W ((W (v1_0 + 1)) + 1)) + 1))).2).1) (TSignature.mk (l_markIntS (nth v1_2 v1_1).Doc.Salts (l_markStringS (nth v1_2 v1_1).Doc.Parts (W ((W ((W (v1_0 + 1)) + 1)) + 1))).2).2 (W ((l_markIntS (nth v1_2 v1_1).Doc.Salts (l_markStringS (nth v1_2 v1_1).Doc.Parts (W ((W ((W (v1_0 + 1)) + 1)) + 1))).2).2 + 1)) (W ((W ((l_markIntS (nth v1_2 v1_1).Doc.Salts (l_markStringS (nth v1_2 v1_1).Doc.Parts (W ((W ((W (v1_0 + 1)) + 1)) + 1))).2).2 + 1)) + 1)) (W ((W ((W ((l_markIntS (nth v1_2 v1_1).Doc.Salts (l_markStringS (nth v1_2 v1_1).Doc.Parts (W ((W ((W (v1_0 + 1)) + 1)) + 1))).2).2 + 1)) + 1)) + 1)) (W ((W ((W ((W ((l_markIntS (nth v1_2 v1_1).Doc.Salts (l_markStringS (nth v1_2 v1_1).Doc.Parts (W ((W ((W (v1_0 + 1)) + 1)) + 1))).2).2 + 1)) + 1)) + 1)) + 1)) (W ((W ((W ((W ((W ((l_markIntS (nth v1_2 v1_1).Doc.Salts (l_markStringS (nth v1_2 v1_1).Doc.Parts (W ((W ((W (v1_0 + 1)) + 1)) + 1))).2).2 + 1)) + 1)) + 1)) + 1)) + 1)) (W ((W ((W ((W ((W ((W ((l_markIntS (nth v1_2 v1_1).Doc.Salts (l_markStringS (nth v1_2 v1_1).Doc.Parts (W ((W ((W (v1_0 + 1)) + 1)) + 1))).2).2 + 1)) + 1)) + 1)) + 1)) + 1)) + 1)) (W ((W ((W ((W ((W ((W ((W ((l_markIntS (nth v1_2 v1_1).Doc.Salts (l_markStringS (nth v1_2 v1_1).Doc.Parts (W ((W ((W (v1_0 + 1)) + 1)) + 1))).2).2 + 1)) + 1)) + 1)) + 1)) + 1)) + 1)) + 1)) (nth v1_2 v1_1).Sig.Mark) (nth v1_2 v1_1).Strand)) rfl, set_map (x := (TItem.mk v1_0 (W (v1_0 + 1)) (TDocument.mk (W ((W (v1_0 + 1)) + 1)) (l_markStringS (nth v1_2 v1_1).Doc.Parts (W ((W ((W (v1_0 + 1)) + 1)) + 1))).1 (l_markIntS (nth v1_2 v1_1).Doc.Salts (l_markStringS (nth v1_2 v1_1).Doc.Parts (W ((W ((W (v1_0 + 1)) + 1)) + 1))).2).1) (TSignature.mk (l_markIntS (nth v1_2 v1_1).Doc.Salts (l_markStringS (nth v1_2 v1_1).Doc.Parts (W ((W ((W (v1_0 + 1)) + 1)) + 1))).2).2 (W ((l_markIntS (nth v1_2 v1_1).Doc.Salts (l_markStringS (nth v1_2 v1_1).Doc.Parts (W ((W ((W (v1_0 + 1)) + 1)) + 1))).2).2 + 1)) (W ((W ((l_markIntS (nth v1_2 v1_1).Doc.Salts (l_markStringS (nth v1_2 v1_1).Doc.Parts (W ((W ((W (v1_0 + 1)) + 1)) + 1))).2).2 + 1)) + 1)) (W ((W ((W ((l_markIntS (nth v1_2 v1_1).Doc.Salts (l_markStringS (nth v1_2 v1_1).Doc.Parts (W ((W ((W (v1_0 + 1)) + 1)) + 1))).2).2 + 1)) + 1)) + 1)) (W ((W ((W ((W ((l_markIntS (nth v1_2 v1_1).Doc.Salts (l_markStringS (nth v1_2 v1_1).Doc.Parts (W ((W ((W (v1_0 + 1)) + 1)) + 1))).2).2 + 1)) + 1)) + 1)) + 1)) (W ((W ((W ((W ((W ((l_markIntS (nth v1_2 v1_1).Doc.Salts (l_markStringS (nth v1_2 v1_1).Doc.Parts (W ((W ((W (v1_0 + 1)) + 1)) + 1))).2).2 + 1)) + 1)) + 1)) + 1)) + 1)) (W ((W ((W ((W ((W ((W ((l_markIntS (nth v1_2 v1_1).Doc.Salts (l_markStringS (nth v1_2 v1_1).Doc.Parts (W ((W ((W (v1_0 + 1)) + 1)) + 1))).2).2 + 1)) + 1)) + 1)) + 1)) + 1)) + 1)) (W ((W ((W ((W ((W ((W ((W ((l_markIntS (nth v1_2 v1_1).Doc.Salts (l_markStringS (nth v1_2 v1_1).Doc.Parts (W ((W ((W (v1_0 + 1)) + 1)) + 1))).2).2 + 1)) + 1)) + 1)) + 1)) + 1)) + 1)) + 1)) (W ((W ((W ((W ((W ((W ((W ((W ((l_markIntS (nth v1_2 v1_1).Doc.Salts (l_markStringS (nth v1_2 v1_1).Doc.Parts (W ((W ((W (v1_0 + 1)) + 1)) + 1))).2).2 + 1)) + 1)) + 1)) + 1)) + 1)) + 1)) + 1)) + 1))) (nth v1_2 v1_1).Strand)) rfl]
    repeat ((with_reducible refine And.intro ?_ ?_); focus (intros; first | omega | ((try simp only [W_def, show ∀ x, IntKind.i64.wrap x = W x from fun _ => rfl] at *); omega)))
    refine callMT (t := 0) (j := 0) (i := v1_1) (c := 14) (size := 16) (rows := ((v1_2.set v1_1 (TItem.mk v1_0 (W (v1_0 + 1)) (TDocument.mk (W ((W (v1_0 + 1)) + 1)) (l_markStringS (nth v1_2 v1_1).Doc.Parts (W ((W ((W (v1_0 + 1)) + 1)) + 1))).1 (l_markIntS (nth v1_2 v1_1).Doc.Salts (l_markStringS (nth v1_2 v1_1).Doc.Parts (W ((W ((W (v1_0 + 1)) + 1)) + 1))).2).1) (TSignature.mk (l_markIntS (nth v1_2 v1_1).Doc.Salts (l_markStringS (nth v1_2 v1_1).Doc.Parts (W ((W ((W (v1_0 + 1)) + 1)) + 1))).2).2 (W ((l_markIntS (nth v1_2 v1_1).Doc.Salts (l_markStringS (nth v1_2 v1_1).Doc.Parts (W ((W ((W (v1_0 + 1)) + 1)) + 1))).2).2 + 1)) (W ((W ((l_markIntS (nth v1_2 v1_1).Doc.Salts (l_markStringS (nth v1_2 v1_1).Doc.Parts (W ((W ((W (v1_0 + 1)) + 1)) + 1))).2).2 + 1)) + 1)) (W ((W ((W ((l_markIntS (nth v1_2 v1_1).Doc.Salts (l_markStringS (nth v1_2 v1_1).Doc.Parts (W ((W ((W (v1_0 + 1)) + 1)) + 1))).2).2 + 1)) + 1)) + 1)) (W ((W ((W ((W ((l_markIntS (nth v1_2 v1_1).Doc.Salts (l_markStringS (nth v1_2 v1_1).Doc.Parts (W ((W ((W (v1_0 + 1)) + 1)) + 1))).2).2 + 1)) + 1)) + 1)) + 1)) (W ((W ((W ((W ((W ((l_markIntS (nth v1_2 v1_1).Doc.Salts (l_markStringS (nth v1_2 v1_1).Doc.Parts (W ((W ((W (v1_0 + 1)) + 1)) + 1))).2).2 + 1)) + 1)) + 1)) + 1)) + 1)) (W ((W ((W ((W ((W ((W ((l_markIntS (nth v1_2 v1_1).Doc.Salts (l_markStringS (nth v1_2 v1_1).Doc.Parts (W ((W ((W (v1_0 + 1)) + 1)) + 1))).2).2 + 1)) + 1)) + 1)) + 1)) + 1)) + 1)) (W ((W ((W ((W ((W ((W ((W ((l_markIntS (nth v1_2 v1_1).Doc.Salts (l_markStringS (nth v1_2 v1_1).Doc.Parts (W ((W ((W (v1_0 + 1)) + 1)) + 1))).2).2 + 1)) + 1)) + 1)) + 1)) + 1)) + 1)) + 1)) (W ((W ((W ((W ((W ((W ((W ((W ((l_markIntS (nth v1_2 v1_1).Doc.Salts (l_markStringS (nth v1_2 v1_1).Doc.Parts (W ((W ((W (v1_0 + 1)) + 1)) + 1))).2).2 + 1)) + 1)) + 1)) + 1)) + 1)) + 1)) + 1)) + 1))) (nth v1_2 v1_1).Strand)).map TItem.row)) rfl rfl rfl rfl rfl rfl rfl (l_markPieceS_ok (nth v1_2 v1_1).Strand.Pieces (W ((W ((W ((W ((W ((W ((W ((W ((W ((l_markIntS (nth v1_2 v1_1).Doc.Salts (l_markStringS (nth v1_2 v1_1).Doc.Parts (W ((W ((W (v1_0 + 1)) + 1)) + 1))).2).2 + 1)) + 1)) + 1)) + 1)) + 1)) + 1)) + 1)) + 1)) + 1))) (by simp) (by simp) (by simp [m2, i1]) (by simp [rowAt_map, rowAt_set_self, m2, i1]) (by simp) (by simp) (by simp) ?_
    simp [List.set_set, set_map (x := (TItem.mk v1_0 (W (v1_0 + 1)) (TDocument.mk (W ((W (v1_0 + 1)) + 1)) (l_markStringS (nth v1_2 v1_1).Doc.Parts (W ((W ((W (v1_0 + 1)) + 1)) + 1))).1 (l_markIntS (nth v1_2 v1_1).Doc.Salts (l_markStringS (nth v1_2 v1_1).Doc.Parts (W ((W ((W (v1_0 + 1)) + 1)) + 1))).2).1) (TSignature.mk (l_markIntS (nth v1_2 v1_1).Doc.Salts (l_markStringS (nth v1_2 v1_1).Doc.Parts (W ((W ((W (v1_0 + 1)) + 1)) + 1))).2).2 (W ((l_markIntS (nth v1_2 v1_1).Doc.Salts (l_markStringS (nth v1_2 v1_1).Doc.Parts (W ((W ((W (v1_0 + 1)) + 1)) + 1))).2).2 + 1)) (W ((W ((l_markIntS (nth v1_2 v1_1).Doc.Salts (l_markStringS (nth v1_2 v1_1).Doc.Parts (W ((W ((W (v1_0 + 1)) + 1)) + 1))).2).2 + 1)) + 1)) (W ((W ((W ((l_markIntS (nth v1_2 v1_1).Doc.Salts (l_markStringS (nth v1_2 v1_1).Doc.Parts (W ((W ((W (v1_0 + 1)) + 1)) + 1))).2).2 + 1)) + 1)) + 1)) (W ((W ((W ((W ((l_markIntS (nth v1_2 v1_1).Doc.Salts (l_markStringS (nth v1_2 v1_1).Doc.Parts (W ((W ((W (v1_0 + 1)) + 1)) + 1))).2).2 + 1)) + 1)) + 1)) + 1)) (W ((W ((W ((W ((W ((l_markIntS (nth v1_2 v1_1).Doc.Salts (l_markStringS (nth v1_2 v1_1).Doc.Parts (W ((W ((W (v1_0 + 1)) + 1)) + 1))).2).2 + 1)) + 1)) + 1)) + 1)) + 1)) (W ((W ((W ((W ((W ((W ((l_markIntS (nth v1_2 v1_1).Doc.Salts (l_markStringS (nth v1_2 v1_1).Doc.Parts (W ((W ((W (v1_0 + 1)) + 1)) + 1))).2).2 + 1)) + 1)) + 1)) + 1)) + 1)) + 1)) (W ((W ((W ((W ((W ((W ((W ((l_markIntS (nth v1_2 v1_1).Doc.Salts (l_markStringS (nth v1_2 v1_1).Doc.Parts (W ((W ((W (v1_0 + 1)) + 1)) + 1))).2).2 + 1)) + 1)) + 1)) + 1)) + 1)) + 1)) + 1)) (W ((W ((W ((W ((W ((W ((W ((W ((l_markIntS (nth v1_2 v1_1).Doc.Salts (l_markStringS (nth v1_2 v1_1).Doc.Parts (W ((W ((W (v1_0 + 1)) + 1)) + 1))).2).2 + 1)) + 1)) + 1)) + 1)) + 1)) + 1)) + 1)) + 1))) (TStrand.mk (l_markPieceS (nth v1_2 v1_1).Strand.Pieces (W ((W ((W ((W ((W ((W ((W ((W ((W ((l_markIntS (nth v1_2 v1_1).Doc.Salts (l_markStringS (nth v1_2 v1_1).Doc.Parts (W ((W ((W (v1_0 + 1)) + 1)) + 1))).2).2 + 1)) + 1)) + 1)) + 1)) + 1)) + 1)) + 1)) + 1)) + 1))).1 (nth v1_2 v1_1).Strand.Chain))) rfl, rowAt_map, rowAt_set_self, m2, i1]
    repeat ((with_reducible refine And.intro ?_ ?_); focus (intros; first | omega | ((try simp only [W_def, show ∀ x, IntKind.i64.wrap x = W x from fun _ => rfl] at *); omega)))
    refine callMT (t := 0) (j := 0) (i := v1_1) (c := 15) (size := 16) (rows := ((v1_2.set v1_1 (TItem.mk v1_0 (W (v1_0 + 1)) (TDocument.mk (W ((W (v1_0 + 1)) + 1)) (l_markStringS (nth v1_2 v1_1).Doc.Parts (W ((W ((W (v1_0 + 1)) + 1)) + 1))).1 (l_markIntS (nth v1_2 v1_1).Doc.Salts (l_markStringS (nth v1_2 v1_1).Doc.Parts (W ((W ((W (v1_0 + 1)) + 1)) + 1))).2).1) (TSignature.mk (l_markIntS (nth v1_2 v1_1).Doc.Salts (l_markStringS (nth v1_2 v1_1).Doc.Parts (W ((W ((W (v1_0 + 1)) + 1)) + 1))).2).2 (W ((l_markIntS (nth v1_2 v1_1).Doc.Salts (l_markStringS (nth v1_2 v1_1).Doc.Parts (W ((W ((W (v1_0 + 1)) + 1)) + 1))).2).2 + 1)) (W ((W ((l_markIntS (nth v1_2 v1_1).Doc.Salts (l_markStringS (nth v1_2 v1_1).Doc.Parts (W ((W ((W (v1_0 + 1)) + 1)) + 1))).2).2 + 1)) + 1)) (W ((W ((W ((l_markIntS (nth v1_2 v1_1).Doc.Salts (l_markStringS (nth v1_2 v1_1).Doc.Parts (W ((W ((W (v1_0 + 1)) + 1)) + 1))).2).2 + 1)) + 1)) + 1)) (W ((W ((W ((W ((l_markIntS (nth v1_2 v1_1).Doc.Salts (l_markStringS (nth v1_2 v1_1).Doc.Parts (W ((W ((W (v1_0 + 1)) + 1)) + 1))).2).2 + 1)) + 1)) + 1)) + 1)) (W ((W ((W ((W ((W ((l_markIntS (nth v1_2 v1_1).Doc.Salts (l_markStringS (nth v1_2 v1_1).Doc.Parts (W ((W ((W (v1_0 + 1)) + 1)) + 1))).2).2 + 1)) + 1)) + 1)) + 1)) + 1)) (W ((W ((W ((W ((W ((W ((l_markIntS (nth v1_2 v1_1).Doc.Salts (l_markStringS (nth v1_2 v1_1).Doc.Parts (W ((W ((W (v1_0 + 1)) + 1)) + 1))).2).2 + 1)) + 1)) + 1)) + 1)) + 1)) + 1)) (W ((W ((W ((W ((W ((W ((W ((l_markIntS (nth v1_2 v1_1).Doc.Salts (l_markStringS (nth v1_2 v1_1).Doc.Parts (W ((W ((W (v1_0 + 1)) + 1)) + 1))).2).2 + 1)) + 1)) + 1)) + 1)) + 1)) + 1)) + 1)) (W ((W ((W ((W ((W ((W ((W ((W ((l_markIntS (nth v1_2 v1_1).Doc.Salts (l_markStringS (nth v1_2 v1_1).Doc.Parts (W ((W ((W (v1_0 + 1)) + 1)) + 1))).2).2 + 1)) + 1)) + 1)) + 1)) + 1)) + 1)) + 1)) + 1))) (TStrand.mk (l_markPieceS (nth v1_2 v1_1).Strand.Pieces (W ((W ((W ((W ((W ((W ((W ((W ((W ((l_markIntS (nth v1_2 v1_1).Doc.Salts (l_markStringS (nth v1_2 v1_1).Doc.Parts (W ((W ((W (v1_0 + 1)) + 1)) + 1))).2).2 + 1)) + 1)) + 1)) + 1)) + 1)) + 1)) + 1)) + 1)) + 1))).1 (nth v1_2 v1_1).Strand.Chain))).map TItem.row)) rfl rfl rfl rfl rfl rfl rfl (l_markRenewalS_ok (nth v1_2 v1_1).Strand.Chain (l_markPieceS (nth v1_2 v1_1).Strand.Pieces (W ((W ((W ((W ((W ((W ((W ((W ((W ((l_markIntS (nth v1_2 v1_1).Doc.Salts (l_markStringS (nth v1_2 v1_1).Doc.Parts (W ((W ((W (v1_0 + 1)) + 1)) + 1))).2).2 + 1)) + 1)) + 1)) + 1)) + 1)) + 1)) + 1)) + 1)) + 1))).2) (by simp) (by simp) (by simp [m2, i1]) (by simp [rowAt_map, rowAt_set_self, m2, i1]) (by simp) (by simp) (by simp) ?_
    simp [List.set_set, set_map (x := (TItem.mk v1_0 (W (v1_0 + 1)) (TDocument.mk (W ((W (v1_0 + 1)) + 1)) (l_markStringS (nth v1_2 v1_1).Doc.Parts (W ((W ((W (v1_0 + 1)) + 1)) + 1))).1 (l_markIntS (nth v1_2 v1_1).Doc.Salts (l_markStringS (nth v1_2 v1_1).Doc.Parts (W ((W ((W (v1_0 + 1)) + 1)) + 1))).2).1) (TSignature.mk (l_markIntS (nth v1_2 v1_1).Doc.Salts (l_markStringS (nth v1_2 v1_1).Doc.Parts (W ((W ((W (v1_0 + 1)) + 1)) + 1))).2).2 (W ((l_markIntS (nth v1_2 v1_1).Doc.Salts (l_markStringS (nth v1_2 v1_1).Doc.Parts (W ((W ((W (v1_0 + 1)) + 1)) + 1))).2).2 + 1)) (W ((W ((l_markIntS (nth v1_2 v1_1).Doc.Salts (l_markStringS (nth v1_2 v1_1).Doc.Parts (W ((W ((W (v1_0 + 1)) + 1)) + 1))).2).2 + 1)) + 1)) (W ((W ((W ((l_markIntS (nth v1_2 v1_1).Doc.Salts (l_markStringS (nth v1_2 v1_1).Doc.Parts (W ((W ((W (v1_0 + 1)) + 1)) + 1))).2).2 + 1)) + 1)) + 1)) (W ((W ((W ((W ((l_markIntS (nth v1_2 v1_1).Doc.Salts (l_markStringS (nth v1_2 v1_1).Doc.Parts (W ((W ((W (v1_0 + 1)) + 1)) + 1))).2).2 + 1)) + 1)) + 1)) + 1)) (W ((W ((W ((W ((W ((l_markIntS (nth v1_2 v1_1).Doc.Salts (l_markStringS (nth v1_2 v1_1).Doc.Parts (W ((W ((W (v1_0 + 1)) + 1)) + 1))).2).2 + 1)) + 1)) + 1)) + 1)) + 1)) (W ((W ((W ((W ((W ((W ((l_markIntS (nth v1_2 v1_1).Doc.Salts (l_markStringS (nth v1_2 v1_1).Doc.Parts (W ((W ((W (v1_0 + 1)) + 1)) + 1))).2).2 + 1)) + 1)) + 1)) + 1)) + 1)) + 1)) (W ((W ((W ((W ((W ((W ((W ((l_markIntS (nth v1_2 v1_1).Doc.Salts (l_markStringS (nth v1_2 v1_1).Doc.Parts (W ((W ((W (v1_0 + 1)) + 1)) + 1))).2).2 + 1)) + 1)) + 1)) + 1)) + 1)) + 1)) + 1)) (W ((W ((W ((W ((W ((W ((W ((W ((l_markIntS (nth v1_2 v1_1).Doc.Salts (l_markStringS (nth v1_2 v1_1).Doc.Parts (W ((W ((W (v1_0 + 1)) + 1)) + 1))).2).2 + 1)) + 1)) + 1)) + 1)) + 1)) + 1)) + 1)) + 1))) (TStrand.mk (l_markPieceS (nth v1_2 v1_1).Strand.Pieces (W ((W ((W ((W ((W ((W ((W ((W ((W ((l_markIntS (nth v1_2 v1_1).Doc.Salts (l_markStringS (nth v1_2 v1_1).Doc.Parts (W ((W ((W (v1_0 + 1)) + 1)) + 1))).2).2 + 1)) + 1)) + 1)) + 1)) + 1)) + 1)) + 1)) + 1)) + 1))).1 (l_markRenewalS (nth v1_2 v1_1).Strand.Chain (l_markPieceS (nth v1_2 v1_1).Strand.Pieces (W ((W ((W ((W ((W ((W ((W ((W ((W ((l_markIntS (nth v1_2 v1_1).Doc.Salts (l_markStringS (nth v1_2 v1_1).Doc.Parts (W ((W ((W (v1_0 + 1)) + 1)) + 1))).2).2 + 1)) + 1)) + 1)) + 1)) + 1)) + 1)) + 1)) + 1)) + 1))).2).1))) rfl, rowAt_map, rowAt_set_self, m2, i1]
    repeat ((with_reducible refine And.intro ?_ ?_); focus (intros; first | omega | ((try simp only [W_def, show ∀ x, IntKind.i64.wrap x = W x from fun _ => rfl] at *); omega)))
    refine nxtI ⟨(p1, (l_markRenewalS (nth v1_2 v1_1).Strand.Chain (l_markPieceS (nth v1_2 v1_1).Strand.Pieces (W ((W ((W ((W ((W ((W ((W ((W ((W ((l_markIntS (nth v1_2 v1_1).Doc.Salts (l_markStringS (nth v1_2 v1_1).Doc.Parts (W ((W ((W (v1_0 + 1)) + 1)) + 1))).2).2 + 1)) + 1)) + 1)) + 1)) + 1)) + 1)) + 1)) + 1)) + 1))).2).2, (v1_1 + 1), (v1_2.set v1_1 (TItem.mk v1_0 (W (v1_0 + 1)) (TDocument.mk (W ((W (v1_0 + 1)) + 1)) (l_markStringS (nth v1_2 v1_1).Doc.Parts (W ((W ((W (v1_0 + 1)) + 1)) + 1))).1 (l_markIntS (nth v1_2 v1_1).Doc.Salts (l_markStringS (nth v1_2 v1_1).Doc.Parts (W ((W ((W (v1_0 + 1)) + 1)) + 1))).2).1) (TSignature.mk (l_markIntS (nth v1_2 v1_1).Doc.Salts (l_markStringS (nth v1_2 v1_1).Doc.Parts (W ((W ((W (v1_0 + 1)) + 1)) + 1))).2).2 (W ((l_markIntS (nth v1_2 v1_1).Doc.Salts (l_markStringS (nth v1_2 v1_1).Doc.Parts (W ((W ((W (v1_0 + 1)) + 1)) + 1))).2).2 + 1)) (W ((W ((l_markIntS (nth v1_2 v1_1).Doc.Salts (l_markStringS (nth v1_2 v1_1).Doc.Parts (W ((W ((W (v1_0 + 1)) + 1)) + 1))).2).2 + 1)) + 1)) (W ((W ((W ((l_markIntS (nth v1_2 v1_1).Doc.Salts (l_markStringS (nth v1_2 v1_1).Doc.Parts (W ((W ((W (v1_0 + 1)) + 1)) + 1))).2).2 + 1)) + 1)) + 1)) (W ((W ((W ((W ((l_markIntS (nth v1_2 v1_1).Doc.Salts (l_markStringS (nth v1_2 v1_1).Doc.Parts (W ((W ((W (v1_0 + 1)) + 1)) + 1))).2).2 + 1)) + 1)) + 1)) + 1)) (W ((W ((W ((W ((W ((l_markIntS (nth v1_2 v1_1).Doc.Salts (l_markStringS (nth v1_2 v1_1).Doc.Parts (W ((W ((W (v1_0 + 1)) + 1)) + 1))).2).2 + 1)) + 1)) + 1)) + 1)) + 1)) (W ((W ((W ((W ((W ((W ((l_markIntS (nth v1_2 v1_1).Doc.Salts (l_markStringS (nth v1_2 v1_1).Doc.Parts (W ((W ((W (v1_0 + 1)) + 1)) + 1))).2).2 + 1)) + 1)) + 1)) + 1)) + 1)) + 1)) (W ((W ((W ((W ((W ((W ((W ((l_markIntS (nth v1_2 v1_1).Doc.Salts (l_markStringS (nth v1_2 v1_1).Doc.Parts (W ((W ((W (v1_0 + 1)) + 1)) + 1))).2).2 + 1)) + 1)) + 1)) + 1)) + 1)) + 1)) + 1)) (W ((W ((W ((W ((W ((W ((W ((W ((l_markIntS (nth v1_2 v1_1).Doc.Salts (l_markStringS (nth v1_2 v1_1).Doc.Parts (W ((W ((W (v1_0 + 1)) + 1)) + 1))).2).2 + 1)) + 1)) + 1)) + 1)) + 1)) + 1)) + 1)) + 1))) (TStrand.mk (l_markPieceS (nth v1_2 v1_1).Strand.Pieces (W ((W ((W ((W ((W ((W ((W ((W ((W ((l_markIntS (nth v1_2 v1_1).Doc.Salts (l_markStringS (nth v1_2 v1_1).Doc.Parts (W ((W ((W (v1_0 + 1)) + 1)) + 1))).2).2 + 1)) + 1)) + 1)) + 1)) + 1)) + 1)) + 1)) + 1)) + 1))).1 (l_markRenewalS (nth v1_2 v1_1).Strand.Chain (l_markPieceS (nth v1_2 v1_1).Strand.Pieces (W ((W ((W ((W ((W ((W ((W ((W ((W ((l_markIntS (nth v1_2 v1_1).Doc.Salts (l_markStringS (nth v1_2 v1_1).Doc.Parts (W ((W ((W (v1_0 + 1)) + 1)) + 1))).2).2 + 1)) + 1)) + 1)) + 1)) + 1)) + 1)) + 1)) + 1)) + 1))).2).1)))), ?_, ?_⟩ (by simp) (wk_keep (by simp [w1]))
    · rw [← e1]; simp only [l_markItemS_1, h1, cond_true, cond_false]
    · (simp; omega)
  · have q1 := h1; try simp at q1
    have x1 : l_markItemS_1 (a0.length + 1) a1 0 a0 = (v1_0, v1_2) := by rw [← e1]; simp only [l_markItemS_1, h1, cond_true, cond_false]
    simp
    refine retM (rv := [.tmp 4]) rfl ?_
    have f1 := l_markItemS.eq_1 a0 a1
    simp only [x1, cond_true, cond_false] at f1
    simp [f1]
theorem l_markArchive_ok (a0 : TArchive) (a1 : Int) : SoundM Try.prog 15 a0.row [[.int .i64 a1]] (l_markArchive a0 a1).1.row (.int .i64 (l_markArchive a0 a1).2) := by
  refine sound_ofM Try.func15 rfl (by kernel_rfl) (fun v => ?_)
  simp [Try.ntmps15]
  refine callMO (ats := [.sref 0 1 0 a0.Items.length]) rfl rfl rfl rfl rfl rfl rfl (l_markItemS_ok a0.Items a1) (by simp) (by simp) (by simp) (by simp) (by simp) (by simp) (by simp) (by simp) (by simp) ?_
  simp
  refine retM (rv := [.tmp 4]) rfl ?_
  have f1 := l_markArchive.eq_1 a0 a1
  simp [f1]
theorem l_heldIntS_ok (a0 : List Int) (a1 : Int) : SoundAt Try.prog 17 false [[.sl 1 (a0.map iR)], [.int .i64 a1]] [[.int .i64 (l_heldIntS a0 a1)]] := by
  refine sound_of Try.func17 rfl (by kernel_rfl) ?_
  simp [Try.ntmps17]
  refine okL fun k1 => ?_
  refine loopI (ι := { s : Nat × Int × Nat // l_heldIntS_1 a0 s.1 s.2.1 s.2.2 = l_heldIntS_1 a0 (a0.length + 1) a1 0 ∧ (1 ≤ s.1 ∧ a0.length < s.1 + s.2.2 ∧ s.2.2 ≤ a0.length) }) (fun s => stOf 21 [(0, .one (.d (.sl 1 (a0.map iR))), []), (1, .one (.d (.int .i64 s.1.2.1)), []), (5, .one (.d (.int .i64 (↑s.1.2.2 : Int))), [])]) (fun s => s.1.1) ⟨((a0.length + 1), a1, 0), rfl, by first | omega | (dsimp only; omega) | simp⟩ (wk_keep (by simp)) ?_
  rintro ⟨⟨n1, v1_0, v1_1⟩, e1, j1⟩
  try dsimp only at e1 j1
  obtain ⟨p1, rfl⟩ : ∃ p, n1 = p + 1 := ⟨n1 - 1, by omega⟩
  simp
  refine condR (c := (decide ((↑v1_1 : Int) < (↑a0.length : Int)))) (by simp) (fun k2 h1 => ?_) (fun k2 h1 => ?_)
  · have q1 := h1; try simp at q1
    have i1 : v1_1 < a0.length := by simpa using h1
    have m2 : a0.length ≤ 9223372036854775807 := by simpa using k2 0 _ rfl
    have w1 : IntKind.i64.wrap ((v1_1 : Int) + 1) = (v1_1 : Int) + 1 := wrap_of (by omega) (by omega)
    simp [i1, rowAt_map]
    repeat ((with_reducible refine And.intro ?_ ?_); focus (intros; first | omega | ((try simp only [W_def, show ∀ x, IntKind.i64.wrap x = W x from fun _ => rfl] at *); omega)))
    refine condR (c := ((nth a0 v1_1) != v1_0)) (by simp) (fun k3 h2 => ?_) (fun k3 h2 => ?_)
    · have q2 := h2; try simp at q2
      have x1 : l_heldIntS_1 a0 (a0.length + 1) a1 0 = .inl (-1) := by rw [← e1]; simp only [l_heldIntS_1, h1, h2, cond_true, cond_false]
      simp
      refine retRd (rv := [.tmp 4]) rfl ?_
      have f1 := l_heldIntS.eq_1 a0 a1
      simp only [x1, cond_true, cond_false] at f1
      simp [f1]
    · have q2 := h2; try simp at q2
      simp
      refine nxtI ⟨(p1, (W (v1_0 + 1)), (v1_1 + 1)), ?_, ?_⟩ (by simp) (wk_keep (by simp [w1]))
      · rw [← e1]; simp only [l_heldIntS_1, h1, h2, cond_true, cond_false]
      · first | omega | (simp at *; omega)
  · have q1 := h1; try simp at q1
    have x2 : l_heldIntS_1 a0 (a0.length + 1) a1 0 = .inr v1_0 := by rw [← e1]; simp only [l_heldIntS_1, h1, cond_true, cond_false]
    simp
    refine retRd (rv := [.tmp 4]) rfl ?_
    have f2 := l_heldIntS.eq_1 a0 a1
    simp only [x2, cond_true, cond_false] at f2
    simp [f2]
end Go.Proofs.Ytllfgbhplfhdkaa
