/- Contracts of the functions over the abstract machine, part 1. No condition. -/
import Derived.Test.YtllfgbhplfhdkaaGreatL
import Derived.Test.YtllfgbhplfhdkaaGreatTy
namespace Go.Proofs.YtllfgbhplfhdkaaGreat
open Go.Vm Go.Mo
set_option maxHeartbeats 1000000
set_option maxRecDepth 100000
set_option linter.unusedSimpArgs false
set_option linter.unusedVariables false
theorem mixed : Tryz.prog.follows .mixedOrders = true := by kernel_rfl
theorem l_szKeyS_ok (a0 : List TKey) (a1 : Int) : SoundAt Tryz.prog 107 false [[.sl 5 (a0.map TKey.row)], [.int .i64 a1]] [[.int .i64 (l_szKeyS a0 a1)]] := by
 refine sound_of Tryz.func107 rfl (by kernel_rfl) ?_
 simp [Tryz.ntmps107]
 refine cC (decide ((W (a1 - (↑a0.length : Int))) < 0)) (fun k1 h1 => ?_) (fun k1 h1 => ?_)
 ·have q1 := h1; try simp at q1
  simp
  refine retRd (rv := [.tmp 4]) rfl ?_
  have f1 := l_szKeyS.eq_1 a0 a1; simp only [h1, cond_t, cond_f] at f1; simp [f1]
 ·have q1 := h1; try simp at q1
  simp
  refine retRd (rv := [.tmp 4]) rfl ?_
  have f2 := l_szKeyS.eq_1 a0 a1; simp only [h1, cond_t, cond_f] at f2; simp [f2]
theorem l_szAuthorityS_ok (a0 : List TAuthority) (a1 : Int) : SoundAt Tryz.prog 108 false [[.sl 3 (a0.map TAuthority.row)], [.int .i64 a1]] [[.int .i64 (l_szAuthorityS a0 a1)]] := by
 refine sound_of Tryz.func108 rfl (by kernel_rfl) ?_
 simp [Tryz.ntmps108]
 refine cC (decide ((W (a1 - (↑a0.length : Int))) < 0)) (fun k1 h1 => ?_) (fun k1 h1 => ?_)
 ·have q1 := h1; try simp at q1
  simp
  refine retRd (rv := [.tmp 4]) rfl ?_
  have f1 := l_szAuthorityS.eq_1 a0 a1; simp only [h1, cond_t, cond_f] at f1; simp [f1]
 ·have q1 := h1; try simp at q1
  simp
  refine retRd (rv := [.tmp 4]) rfl ?_
  have f2 := l_szAuthorityS.eq_1 a0 a1; simp only [h1, cond_t, cond_f] at f2; simp [f2]
theorem l_szMethodS_ok (a0 : List TMethod) (a1 : Int) : SoundAt Tryz.prog 109 false [[.sl 4 (a0.map TMethod.row)], [.int .i64 a1]] [[.int .i64 (l_szMethodS a0 a1)]] := by
 refine sound_of Tryz.func109 rfl (by kernel_rfl) ?_
 simp [Tryz.ntmps109]
 refine cC (decide ((W (a1 - (↑a0.length : Int))) < 0)) (fun k1 h1 => ?_) (fun k1 h1 => ?_)
 ·have q1 := h1; try simp at q1
  simp
  refine retRd (rv := [.tmp 4]) rfl ?_
  have f1 := l_szMethodS.eq_1 a0 a1; simp only [h1, cond_t, cond_f] at f1; simp [f1]
 ·have q1 := h1; try simp at q1
  simp
  refine retRd (rv := [.tmp 4]) rfl ?_
  have f2 := l_szMethodS.eq_1 a0 a1; simp only [h1, cond_t, cond_f] at f2; simp [f2]
theorem l_szFrame_ok (a0 : TFrame) (a1 : Int) : SoundAt Tryz.prog 46 false [a0.row, [.int .i64 a1]] [[.int .i64 (l_szFrame a0 a1)]] := by
 refine sound_of Tryz.func46 rfl (by kernel_rfl) ?_
 simp [Tryz.ntmps46]
 refine cR (l_szKeyS_ok a0.Keys a1) ?_
 simp
 refine cC (decide ((l_szKeyS a0.Keys a1) < 0)) (fun k1 h1 => ?_) (fun k1 h1 => ?_)
 ·have q1 := h1; try simp at q1
  simp
  refine retRd (rv := [.tmp 4]) rfl ?_
  have f1 := l_szFrame.eq_1 a0 a1; simp only [h1, cond_t, cond_f] at f1; simp [f1]
 ·have q1 := h1; try simp at q1
  simp
  refine cR (l_szAuthorityS_ok a0.Authorities (l_szKeyS a0.Keys a1)) ?_
  simp
  refine cC (decide ((l_szAuthorityS a0.Authorities (l_szKeyS a0.Keys a1)) < 0)) (fun k2 h2 => ?_) (fun k2 h2 => ?_)
  ·have q2 := h2; try simp at q2
   simp
   refine retRd (rv := [.tmp 4]) rfl ?_
   have f2 := l_szFrame.eq_1 a0 a1; simp only [h1, h2, cond_t, cond_f] at f2; simp [f2]
  ·have q2 := h2; try simp at q2
   simp
   refine cR (l_szMethodS_ok a0.Methods (l_szAuthorityS a0.Authorities (l_szKeyS a0.Keys a1))) ?_
   simp
   refine cC (decide ((l_szMethodS a0.Methods (l_szAuthorityS a0.Authorities (l_szKeyS a0.Keys a1))) < 0)) (fun k3 h3 => ?_) (fun k3 h3 => ?_)
   ·have q3 := h3; try simp at q3
    simp
    refine retRd (rv := [.tmp 4]) rfl ?_
    have f3 := l_szFrame.eq_1 a0 a1; simp only [h1, h2, h3, cond_t, cond_f] at f3; simp [f3]
   ·have q3 := h3; try simp at q3
    simp
    refine retRd (rv := [.tmp 4]) rfl ?_
    have f4 := l_szFrame.eq_1 a0 a1; simp only [h1, h2, h3, cond_t, cond_f] at f4; simp [f4]
theorem l_szCertS_ok (a0 : List TCert) (a1 : Int) : SoundAt Tryz.prog 47 false [[.sl 7 (a0.map TCert.row)], [.int .i64 a1]] [[.int .i64 (l_szCertS a0 a1)]] := by
 refine sound_of Tryz.func47 rfl (by kernel_rfl) ?_
 simp [Tryz.ntmps47]
 refine cC (decide ((W (a1 - (↑a0.length : Int))) < 0)) (fun k1 h1 => ?_) (fun k1 h1 => ?_)
 ·have q1 := h1; try simp at q1
  simp
  refine retRd (rv := [.tmp 4]) rfl ?_
  have f1 := l_szCertS.eq_1 a0 a1; simp only [h1, cond_t, cond_f] at f1; simp [f1]
 ·have q1 := h1; try simp at q1
  simp
  refine retRd (rv := [.tmp 4]) rfl ?_
  have f2 := l_szCertS.eq_1 a0 a1; simp only [h1, cond_t, cond_f] at f2; simp [f2]
theorem l_szIntS_ok (a0 : List Int) (a1 : Int) : SoundAt Tryz.prog 48 false [[.sl 1 (a0.map iR)], [.int .i64 a1]] [[.int .i64 (l_szIntS a0 a1)]] := by
 refine sound_of Tryz.func48 rfl (by kernel_rfl) ?_
 simp [Tryz.ntmps48]
 refine cC (decide ((W (a1 - (↑a0.length : Int))) < 0)) (fun k1 h1 => ?_) (fun k1 h1 => ?_)
 ·have q1 := h1; try simp at q1
  simp
  refine retRd (rv := [.tmp 4]) rfl ?_
  have f1 := l_szIntS.eq_1 a0 a1; simp only [h1, cond_t, cond_f] at f1; simp [f1]
 ·have q1 := h1; try simp at q1
  simp
  refine retRd (rv := [.tmp 4]) rfl ?_
  have f2 := l_szIntS.eq_1 a0 a1; simp only [h1, cond_t, cond_f] at f2; simp [f2]
theorem l_szStringS_ok (a0 : List ByteArray) (a1 : Int) : SoundAt Tryz.prog 84 false [[.sl 1 (a0.map sR)], [.int .i64 a1]] [[.int .i64 (l_szStringS a0 a1)]] := by
 refine sound_of Tryz.func84 rfl (by kernel_rfl) ?_
 simp [Tryz.ntmps84]
 refine cC (decide ((W (a1 - (↑a0.length : Int))) < 0)) (fun k1 h1 => ?_) (fun k1 h1 => ?_)
 ·have q1 := h1; try simp at q1
  simp
  refine retRd (rv := [.tmp 4]) rfl ?_
  have f1 := l_szStringS.eq_1 a0 a1; simp only [h1, cond_t, cond_f] at f1; simp [f1]
 ·have q1 := h1; try simp at q1
  simp
  refine okL fun k2 => ?_
  refine loopI (ι := { s : Nat × Int × Nat // l_szStringS_1 a0 s.1 s.2.1 s.2.2 = l_szStringS_1 a0 (a0.length + 1) (W (a1 - (↑a0.length : Int))) 0 ∧ (1 ≤ s.1 ∧ a0.length < s.1 + s.2.2 ∧ s.2.2 ≤ a0.length) }) (fun s => stOf 28 [eL 0 1 a0 sR, eI 1 s.1.2.1, eI 5 (↑s.1.2.2 : Int)]) (fun s => s.1.1) ⟨((a0.length + 1), (W (a1 - (↑a0.length : Int))), 0), rfl, by first | omega | (dsimp only; omega) | simp⟩ (wk_keep (by simp)) ?_
  rintro ⟨⟨n1, v1_0, v1_1⟩, e1, j1⟩
  try dsimp only at e1 j1
  obtain ⟨p1, rfl⟩ : ∃ p, n1 = p + 1 := ⟨n1 - 1, by omega⟩
  simp
  refine cC (decide ((↑v1_1 : Int) < (↑a0.length : Int))) (fun k3 h2 => ?_) (fun k3 h2 => ?_)
  ·have q2 := h2; try simp at q2
   have i1 : v1_1 < a0.length := by simpa using h2
   have m2 : a0.length ≤ 9223372036854775807 := by simpa using k3 0 _ rfl
   have w1 : IntKind.i64.wrap ((v1_1 : Int) + 1) = (v1_1 : Int) + 1 := wrap_of (by omega) (by omega)
   simp [i1, rowAt_map]
   repeat with_reducible refine sd ?_
   refine cC (decide ((W (v1_0 - (↑(nth a0 v1_1).size : Int))) < 0)) (fun k4 h3 => ?_) (fun k4 h3 => ?_)
   ·have q3 := h3; try simp at q3
    have x1 : l_szStringS_1 a0 (a0.length + 1) (W (a1 - (↑a0.length : Int))) 0 = .inl (-1) := by rw [← e1]; simp only [l_szStringS_1, h2, h3, cond_t, cond_f]
    simp
    refine retRd (rv := [.tmp 4]) rfl ?_
    have f2 := l_szStringS.eq_1 a0 a1; simp only [h1, x1, cond_t, cond_f] at f2; simp [f2]
   ·have q3 := h3; try simp at q3
    simp
    refine nxtI ⟨(p1, (W (v1_0 - (↑(nth a0 v1_1).size : Int))), (v1_1 + 1)), ?_, ?_⟩ (by simp) (wk_keep (by simp [w1]))
    · rw [← e1]; simp only [l_szStringS_1, h2, h3, cond_t, cond_f]
    · first | omega | (simp at *; omega)
  ·have q2 := h2; try simp at q2
   have x2 : l_szStringS_1 a0 (a0.length + 1) (W (a1 - (↑a0.length : Int))) 0 = .inr v1_0 := by rw [← e1]; simp only [l_szStringS_1, h2, cond_t, cond_f]
   simp
   refine retRd (rv := [.tmp 4]) rfl ?_
   have f3 := l_szStringS.eq_1 a0 a1; simp only [h1, x2, cond_t, cond_f] at f3; simp [f3]
theorem l_szDocument_ok (a0 : TDocument) (a1 : Int) : SoundAt Tryz.prog 33 false [a0.row, [.int .i64 a1]] [[.int .i64 (l_szDocument a0 a1)]] := by
 refine sound_of Tryz.func33 rfl (by kernel_rfl) ?_
 simp [Tryz.ntmps33]
 refine cR (l_szStringS_ok a0.Parts a1) ?_
 simp
 refine cC (decide ((l_szStringS a0.Parts a1) < 0)) (fun k1 h1 => ?_) (fun k1 h1 => ?_)
 ·have q1 := h1; try simp at q1
  simp
  refine retRd (rv := [.tmp 4]) rfl ?_
  have f1 := l_szDocument.eq_1 a0 a1; simp only [h1, cond_t, cond_f] at f1; simp [f1]
 ·have q1 := h1; try simp at q1
  simp
  refine cR (l_szIntS_ok a0.Salts (l_szStringS a0.Parts a1)) ?_
  simp
  refine cC (decide ((l_szIntS a0.Salts (l_szStringS a0.Parts a1)) < 0)) (fun k2 h2 => ?_) (fun k2 h2 => ?_)
  ·have q2 := h2; try simp at q2
   simp
   refine retRd (rv := [.tmp 4]) rfl ?_
   have f2 := l_szDocument.eq_1 a0 a1; simp only [h1, h2, cond_t, cond_f] at f2; simp [f2]
  ·have q2 := h2; try simp at q2
   simp
   refine retRd (rv := [.tmp 4]) rfl ?_
   have f3 := l_szDocument.eq_1 a0 a1; simp only [h1, h2, cond_t, cond_f] at f3; simp [f3]
theorem l_szPiece_ok (a0 : TPiece) (a1 : Int) : SoundAt Tryz.prog 283 false [a0.row, [.int .i64 a1]] [[.int .i64 (l_szPiece a0 a1)]] := by
 refine sound_of Tryz.func283 rfl (by kernel_rfl) ?_
 simp [Tryz.ntmps283]
 refine cR (l_szIntS_ok a0.Ints a1) ?_
 simp
 refine cC (decide ((l_szIntS a0.Ints a1) < 0)) (fun k1 h1 => ?_) (fun k1 h1 => ?_)
 ·have q1 := h1; try simp at q1
  simp
  refine retRd (rv := [.tmp 4]) rfl ?_
  have f1 := l_szPiece.eq_1 a0 a1; simp only [h1, cond_t, cond_f] at f1; simp [f1]
 ·have q1 := h1; try simp at q1
  simp
  refine retRd (rv := [.tmp 4]) rfl ?_
  have f2 := l_szPiece.eq_1 a0 a1; simp only [h1, cond_t, cond_f] at f2; simp [f2]
theorem l_szPieceS_ok (a0 : List TPiece) (a1 : Int) : SoundAt Tryz.prog 277 false [[.sl 3 (a0.map TPiece.row)], [.int .i64 a1]] [[.int .i64 (l_szPieceS a0 a1)]] := by
 refine sound_of Tryz.func277 rfl (by kernel_rfl) ?_
 simp [Tryz.ntmps277]
 refine cC (decide ((W (a1 - (↑a0.length : Int))) < 0)) (fun k1 h1 => ?_) (fun k1 h1 => ?_)
 ·have q1 := h1; try simp at q1
  simp
  refine retRd (rv := [.tmp 4]) rfl ?_
  have f1 := l_szPieceS.eq_1 a0 a1; simp only [h1, cond_t, cond_f] at f1; simp [f1]
 ·have q1 := h1; try simp at q1
  simp
  refine okL fun k2 => ?_
  refine loopI (ι := { s : Nat × Int × Nat // l_szPieceS_1 a0 s.1 s.2.1 s.2.2 = l_szPieceS_1 a0 (a0.length + 1) (W (a1 - (↑a0.length : Int))) 0 ∧ (1 ≤ s.1 ∧ a0.length < s.1 + s.2.2 ∧ s.2.2 ≤ a0.length) }) (fun s => stOf 27 [eL 0 3 a0 TPiece.row, eI 1 s.1.2.1, eI 5 (↑s.1.2.2 : Int)]) (fun s => s.1.1) ⟨((a0.length + 1), (W (a1 - (↑a0.length : Int))), 0), rfl, by first | omega | (dsimp only; omega) | simp⟩ (wk_keep (by simp)) ?_
  rintro ⟨⟨n1, v1_0, v1_1⟩, e1, j1⟩
  try dsimp only at e1 j1
  obtain ⟨p1, rfl⟩ : ∃ p, n1 = p + 1 := ⟨n1 - 1, by omega⟩
  simp
  refine cC (decide ((↑v1_1 : Int) < (↑a0.length : Int))) (fun k3 h2 => ?_) (fun k3 h2 => ?_)
  ·have q2 := h2; try simp at q2
   have i1 : v1_1 < a0.length := by simpa using h2
   have m2 : a0.length ≤ 9223372036854775807 := by simpa using k3 0 _ rfl
   have w1 : IntKind.i64.wrap ((v1_1 : Int) + 1) = (v1_1 : Int) + 1 := wrap_of (by omega) (by omega)
   simp [i1, rowAt_map]
   repeat with_reducible refine sd ?_
   refine cR (l_szPiece_ok (nth a0 v1_1) v1_0) ?_
   simp
   refine cC (decide ((l_szPiece (nth a0 v1_1) v1_0) < 0)) (fun k4 h3 => ?_) (fun k4 h3 => ?_)
   ·have q3 := h3; try simp at q3
    have x1 : l_szPieceS_1 a0 (a0.length + 1) (W (a1 - (↑a0.length : Int))) 0 = .inl (-1) := by rw [← e1]; simp only [l_szPieceS_1, h2, h3, cond_t, cond_f]
    simp
    refine retRd (rv := [.tmp 4]) rfl ?_
    have f2 := l_szPieceS.eq_1 a0 a1; simp only [h1, x1, cond_t, cond_f] at f2; simp [f2]
   ·have q3 := h3; try simp at q3
    simp
    refine nxtI ⟨(p1, (l_szPiece (nth a0 v1_1) v1_0), (v1_1 + 1)), ?_, ?_⟩ (by simp) (wk_keep (by simp [w1]))
    · rw [← e1]; simp only [l_szPieceS_1, h2, h3, cond_t, cond_f]
    · first | omega | (simp at *; omega)
  ·have q2 := h2; try simp at q2
   have x2 : l_szPieceS_1 a0 (a0.length + 1) (W (a1 - (↑a0.length : Int))) 0 = .inr v1_0 := by rw [← e1]; simp only [l_szPieceS_1, h2, cond_t, cond_f]
   simp
   refine retRd (rv := [.tmp 4]) rfl ?_
   have f3 := l_szPieceS.eq_1 a0 a1; simp only [h1, x2, cond_t, cond_f] at f3; simp [f3]
theorem l_szStepS_ok (a0 : List TStep) (a1 : Int) : SoundAt Tryz.prog 289 false [[.sl 2 (a0.map TStep.row)], [.int .i64 a1]] [[.int .i64 (l_szStepS a0 a1)]] := by
 refine sound_of Tryz.func289 rfl (by kernel_rfl) ?_
 simp [Tryz.ntmps289]
 refine cC (decide ((W (a1 - (↑a0.length : Int))) < 0)) (fun k1 h1 => ?_) (fun k1 h1 => ?_)
 ·have q1 := h1; try simp at q1
  simp
  refine retRd (rv := [.tmp 4]) rfl ?_
  have f1 := l_szStepS.eq_1 a0 a1; simp only [h1, cond_t, cond_f] at f1; simp [f1]
 ·have q1 := h1; try simp at q1
  simp
  refine retRd (rv := [.tmp 4]) rfl ?_
  have f2 := l_szStepS.eq_1 a0 a1; simp only [h1, cond_t, cond_f] at f2; simp [f2]
theorem l_szStampS_ok (a0 : List TStamp) (a1 : Int) : SoundAt Tryz.prog 290 false [[.sl 5 (a0.map TStamp.row)], [.int .i64 a1]] [[.int .i64 (l_szStampS a0 a1)]] := by
 refine sound_of Tryz.func290 rfl (by kernel_rfl) ?_
 simp [Tryz.ntmps290]
 refine cC (decide ((W (a1 - (↑a0.length : Int))) < 0)) (fun k1 h1 => ?_) (fun k1 h1 => ?_)
 ·have q1 := h1; try simp at q1
  simp
  refine retRd (rv := [.tmp 4]) rfl ?_
  have f1 := l_szStampS.eq_1 a0 a1; simp only [h1, cond_t, cond_f] at f1; simp [f1]
 ·have q1 := h1; try simp at q1
  simp
  refine retRd (rv := [.tmp 4]) rfl ?_
  have f2 := l_szStampS.eq_1 a0 a1; simp only [h1, cond_t, cond_f] at f2; simp [f2]
theorem l_szRenewal_ok (a0 : TRenewal) (a1 : Int) : SoundAt Tryz.prog 284 false [a0.row, [.int .i64 a1]] [[.int .i64 (l_szRenewal a0 a1)]] := by
 refine sound_of Tryz.func284 rfl (by kernel_rfl) ?_
 simp [Tryz.ntmps284]
 refine cR (l_szStepS_ok a0.Path a1) ?_
 simp
 refine cC (decide ((l_szStepS a0.Path a1) < 0)) (fun k1 h1 => ?_) (fun k1 h1 => ?_)
 ·have q1 := h1; try simp at q1
  simp
  refine retRd (rv := [.tmp 4]) rfl ?_
  have f1 := l_szRenewal.eq_1 a0 a1; simp only [h1, cond_t, cond_f] at f1; simp [f1]
 ·have q1 := h1; try simp at q1
  simp
  refine cR (l_szStampS_ok a0.Stamps (l_szStepS a0.Path a1)) ?_
  simp
  refine cC (decide ((l_szStampS a0.Stamps (l_szStepS a0.Path a1)) < 0)) (fun k2 h2 => ?_) (fun k2 h2 => ?_)
  ·have q2 := h2; try simp at q2
   simp
   refine retRd (rv := [.tmp 4]) rfl ?_
   have f2 := l_szRenewal.eq_1 a0 a1; simp only [h1, h2, cond_t, cond_f] at f2; simp [f2]
  ·have q2 := h2; try simp at q2
   simp
   refine retRd (rv := [.tmp 4]) rfl ?_
   have f3 := l_szRenewal.eq_1 a0 a1; simp only [h1, h2, cond_t, cond_f] at f3; simp [f3]
theorem l_szRenewalS_ok (a0 : List TRenewal) (a1 : Int) : SoundAt Tryz.prog 278 false [[.sl 5 (a0.map TRenewal.row)], [.int .i64 a1]] [[.int .i64 (l_szRenewalS a0 a1)]] := by
 refine sound_of Tryz.func278 rfl (by kernel_rfl) ?_
 simp [Tryz.ntmps278]
 refine cC (decide ((W (a1 - (↑a0.length : Int))) < 0)) (fun k1 h1 => ?_) (fun k1 h1 => ?_)
 ·have q1 := h1; try simp at q1
  simp
  refine retRd (rv := [.tmp 4]) rfl ?_
  have f1 := l_szRenewalS.eq_1 a0 a1; simp only [h1, cond_t, cond_f] at f1; simp [f1]
 ·have q1 := h1; try simp at q1
  simp
  refine okL fun k2 => ?_
  refine loopI (ι := { s : Nat × Int × Nat // l_szRenewalS_1 a0 s.1 s.2.1 s.2.2 = l_szRenewalS_1 a0 (a0.length + 1) (W (a1 - (↑a0.length : Int))) 0 ∧ (1 ≤ s.1 ∧ a0.length < s.1 + s.2.2 ∧ s.2.2 ≤ a0.length) }) (fun s => stOf 27 [eL 0 5 a0 TRenewal.row, eI 1 s.1.2.1, eI 5 (↑s.1.2.2 : Int)]) (fun s => s.1.1) ⟨((a0.length + 1), (W (a1 - (↑a0.length : Int))), 0), rfl, by first | omega | (dsimp only; omega) | simp⟩ (wk_keep (by simp)) ?_
  rintro ⟨⟨n1, v1_0, v1_1⟩, e1, j1⟩
  try dsimp only at e1 j1
  obtain ⟨p1, rfl⟩ : ∃ p, n1 = p + 1 := ⟨n1 - 1, by omega⟩
  simp
  refine cC (decide ((↑v1_1 : Int) < (↑a0.length : Int))) (fun k3 h2 => ?_) (fun k3 h2 => ?_)
  ·have q2 := h2; try simp at q2
   have i1 : v1_1 < a0.length := by simpa using h2
   have m2 : a0.length ≤ 9223372036854775807 := by simpa using k3 0 _ rfl
   have w1 : IntKind.i64.wrap ((v1_1 : Int) + 1) = (v1_1 : Int) + 1 := wrap_of (by omega) (by omega)
   simp [i1, rowAt_map]
   repeat with_reducible refine sd ?_
   refine cR (l_szRenewal_ok (nth a0 v1_1) v1_0) ?_
   simp
   refine cC (decide ((l_szRenewal (nth a0 v1_1) v1_0) < 0)) (fun k4 h3 => ?_) (fun k4 h3 => ?_)
   ·have q3 := h3; try simp at q3
    have x1 : l_szRenewalS_1 a0 (a0.length + 1) (W (a1 - (↑a0.length : Int))) 0 = .inl (-1) := by rw [← e1]; simp only [l_szRenewalS_1, h2, h3, cond_t, cond_f]
    simp
    refine retRd (rv := [.tmp 4]) rfl ?_
    have f2 := l_szRenewalS.eq_1 a0 a1; simp only [h1, x1, cond_t, cond_f] at f2; simp [f2]
   ·have q3 := h3; try simp at q3
    simp
    refine nxtI ⟨(p1, (l_szRenewal (nth a0 v1_1) v1_0), (v1_1 + 1)), ?_, ?_⟩ (by simp) (wk_keep (by simp [w1]))
    · rw [← e1]; simp only [l_szRenewalS_1, h2, h3, cond_t, cond_f]
    · first | omega | (simp at *; omega)
  ·have q2 := h2; try simp at q2
   have x2 : l_szRenewalS_1 a0 (a0.length + 1) (W (a1 - (↑a0.length : Int))) 0 = .inr v1_0 := by rw [← e1]; simp only [l_szRenewalS_1, h2, cond_t, cond_f]
   simp
   refine retRd (rv := [.tmp 4]) rfl ?_
   have f3 := l_szRenewalS.eq_1 a0 a1; simp only [h1, x2, cond_t, cond_f] at f3; simp [f3]
theorem l_szStrand_ok (a0 : TStrand) (a1 : Int) : SoundAt Tryz.prog 266 false [a0.row, [.int .i64 a1]] [[.int .i64 (l_szStrand a0 a1)]] := by
 refine sound_of Tryz.func266 rfl (by kernel_rfl) ?_
 simp [Tryz.ntmps266]
 refine cR (l_szPieceS_ok a0.Pieces a1) ?_
 simp
 refine cC (decide ((l_szPieceS a0.Pieces a1) < 0)) (fun k1 h1 => ?_) (fun k1 h1 => ?_)
 ·have q1 := h1; try simp at q1
  simp
  refine retRd (rv := [.tmp 4]) rfl ?_
  have f1 := l_szStrand.eq_1 a0 a1; simp only [h1, cond_t, cond_f] at f1; simp [f1]
 ·have q1 := h1; try simp at q1
  simp
  refine cR (l_szRenewalS_ok a0.Chain (l_szPieceS a0.Pieces a1)) ?_
  simp
  refine cC (decide ((l_szRenewalS a0.Chain (l_szPieceS a0.Pieces a1)) < 0)) (fun k2 h2 => ?_) (fun k2 h2 => ?_)
  ·have q2 := h2; try simp at q2
   simp
   refine retRd (rv := [.tmp 4]) rfl ?_
   have f2 := l_szStrand.eq_1 a0 a1; simp only [h1, h2, cond_t, cond_f] at f2; simp [f2]
  ·have q2 := h2; try simp at q2
   simp
   refine retRd (rv := [.tmp 4]) rfl ?_
   have f3 := l_szStrand.eq_1 a0 a1; simp only [h1, h2, cond_t, cond_f] at f3; simp [f3]
theorem l_szItem_ok (a0 : TItem) (a1 : Int) : SoundAt Tryz.prog 238 false [a0.row, [.int .i64 a1]] [[.int .i64 (l_szItem a0 a1)]] := by
 refine sound_of Tryz.func238 rfl (by kernel_rfl) ?_
 simp [Tryz.ntmps238]
 refine cR (l_szDocument_ok a0.Doc a1) ?_
 simp
 refine cC (decide ((l_szDocument a0.Doc a1) < 0)) (fun k1 h1 => ?_) (fun k1 h1 => ?_)
 ·have q1 := h1; try simp at q1
  simp
  refine retRd (rv := [.tmp 4]) rfl ?_
  have f1 := l_szItem.eq_1 a0 a1; simp only [h1, cond_t, cond_f] at f1; simp [f1]
 ·have q1 := h1; try simp at q1
  simp
  refine cR (l_szStrand_ok a0.Strand (l_szDocument a0.Doc a1)) ?_
  simp
  refine cC (decide ((l_szStrand a0.Strand (l_szDocument a0.Doc a1)) < 0)) (fun k2 h2 => ?_) (fun k2 h2 => ?_)
  ·have q2 := h2; try simp at q2
   simp
   refine retRd (rv := [.tmp 4]) rfl ?_
   have f2 := l_szItem.eq_1 a0 a1; simp only [h1, h2, cond_t, cond_f] at f2; simp [f2]
  ·have q2 := h2; try simp at q2
   simp
   refine retRd (rv := [.tmp 4]) rfl ?_
   have f3 := l_szItem.eq_1 a0 a1; simp only [h1, h2, cond_t, cond_f] at f3; simp [f3]
theorem l_szItemS_ok (a0 : List TItem) (a1 : Int) : SoundAt Tryz.prog 184 false [[.sl 16 (a0.map TItem.row)], [.int .i64 a1]] [[.int .i64 (l_szItemS a0 a1)]] := by
 refine sound_of Tryz.func184 rfl (by kernel_rfl) ?_
 simp [Tryz.ntmps184]
 refine cC (decide ((W (a1 - (↑a0.length : Int))) < 0)) (fun k1 h1 => ?_) (fun k1 h1 => ?_)
 ·have q1 := h1; try simp at q1
  simp
  refine retRd (rv := [.tmp 4]) rfl ?_
  have f1 := l_szItemS.eq_1 a0 a1; simp only [h1, cond_t, cond_f] at f1; simp [f1]
 ·have q1 := h1; try simp at q1
  simp
  refine okL fun k2 => ?_
  refine loopI (ι := { s : Nat × Int × Nat // l_szItemS_1 a0 s.1 s.2.1 s.2.2 = l_szItemS_1 a0 (a0.length + 1) (W (a1 - (↑a0.length : Int))) 0 ∧ (1 ≤ s.1 ∧ a0.length < s.1 + s.2.2 ∧ s.2.2 ≤ a0.length) }) (fun s => stOf 27 [eL 0 16 a0 TItem.row, eI 1 s.1.2.1, eI 5 (↑s.1.2.2 : Int)]) (fun s => s.1.1) ⟨((a0.length + 1), (W (a1 - (↑a0.length : Int))), 0), rfl, by first | omega | (dsimp only; omega) | simp⟩ (wk_keep (by simp)) ?_
  rintro ⟨⟨n1, v1_0, v1_1⟩, e1, j1⟩
  try dsimp only at e1 j1
  obtain ⟨p1, rfl⟩ : ∃ p, n1 = p + 1 := ⟨n1 - 1, by omega⟩
  simp
  refine cC (decide ((↑v1_1 : Int) < (↑a0.length : Int))) (fun k3 h2 => ?_) (fun k3 h2 => ?_)
  ·have q2 := h2; try simp at q2
   have i1 : v1_1 < a0.length := by simpa using h2
   have m2 : a0.length ≤ 9223372036854775807 := by simpa using k3 0 _ rfl
   have w1 : IntKind.i64.wrap ((v1_1 : Int) + 1) = (v1_1 : Int) + 1 := wrap_of (by omega) (by omega)
   simp [i1, rowAt_map]
   repeat with_reducible refine sd ?_
   refine cR (l_szItem_ok (nth a0 v1_1) v1_0) ?_
   simp
   refine cC (decide ((l_szItem (nth a0 v1_1) v1_0) < 0)) (fun k4 h3 => ?_) (fun k4 h3 => ?_)
   ·have q3 := h3; try simp at q3
    have x1 : l_szItemS_1 a0 (a0.length + 1) (W (a1 - (↑a0.length : Int))) 0 = .inl (-1) := by rw [← e1]; simp only [l_szItemS_1, h2, h3, cond_t, cond_f]
    simp
    refine retRd (rv := [.tmp 4]) rfl ?_
    have f2 := l_szItemS.eq_1 a0 a1; simp only [h1, x1, cond_t, cond_f] at f2; simp [f2]
   ·have q3 := h3; try simp at q3
    simp
    refine nxtI ⟨(p1, (l_szItem (nth a0 v1_1) v1_0), (v1_1 + 1)), ?_, ?_⟩ (by simp) (wk_keep (by simp [w1]))
    · rw [← e1]; simp only [l_szItemS_1, h2, h3, cond_t, cond_f]
    · first | omega | (simp at *; omega)
  ·have q2 := h2; try simp at q2
   have x2 : l_szItemS_1 a0 (a0.length + 1) (W (a1 - (↑a0.length : Int))) 0 = .inr v1_0 := by rw [← e1]; simp only [l_szItemS_1, h2, cond_t, cond_f]
   simp
   refine retRd (rv := [.tmp 4]) rfl ?_
   have f3 := l_szItemS.eq_1 a0 a1; simp only [h1, x2, cond_t, cond_f] at f3; simp [f3]
theorem l_szArchive_ok (a0 : TArchive) (a1 : Int) : SoundAt Tryz.prog 110 false [a0.row, [.int .i64 a1]] [[.int .i64 (l_szArchive a0 a1)]] := by
 refine sound_of Tryz.func110 rfl (by kernel_rfl) ?_
 simp [Tryz.ntmps110]
 refine cR (l_szItemS_ok a0.Items a1) ?_
 simp
 refine cC (decide ((l_szItemS a0.Items a1) < 0)) (fun k1 h1 => ?_) (fun k1 h1 => ?_)
 ·have q1 := h1; try simp at q1
  simp
  refine retRd (rv := [.tmp 4]) rfl ?_
  have f1 := l_szArchive.eq_1 a0 a1; simp only [h1, cond_t, cond_f] at f1; simp [f1]
 ·have q1 := h1; try simp at q1
  simp
  refine retRd (rv := [.tmp 4]) rfl ?_
  have f2 := l_szArchive.eq_1 a0 a1; simp only [h1, cond_t, cond_f] at f2; simp [f2]
theorem l_szArchiveS_ok (a0 : List TArchive) (a1 : Int) : SoundAt Tryz.prog 49 false [[.sl 2 (a0.map TArchive.row)], [.int .i64 a1]] [[.int .i64 (l_szArchiveS a0 a1)]] := by
 refine sound_of Tryz.func49 rfl (by kernel_rfl) ?_
 simp [Tryz.ntmps49]
 refine cC (decide ((W (a1 - (↑a0.length : Int))) < 0)) (fun k1 h1 => ?_) (fun k1 h1 => ?_)
 ·have q1 := h1; try simp at q1
  simp
  refine retRd (rv := [.tmp 4]) rfl ?_
  have f1 := l_szArchiveS.eq_1 a0 a1; simp only [h1, cond_t, cond_f] at f1; simp [f1]
 ·have q1 := h1; try simp at q1
  simp
  refine okL fun k2 => ?_
  refine loopI (ι := { s : Nat × Int × Nat // l_szArchiveS_1 a0 s.1 s.2.1 s.2.2 = l_szArchiveS_1 a0 (a0.length + 1) (W (a1 - (↑a0.length : Int))) 0 ∧ (1 ≤ s.1 ∧ a0.length < s.1 + s.2.2 ∧ s.2.2 ≤ a0.length) }) (fun s => stOf 27 [eL 0 2 a0 TArchive.row, eI 1 s.1.2.1, eI 5 (↑s.1.2.2 : Int)]) (fun s => s.1.1) ⟨((a0.length + 1), (W (a1 - (↑a0.length : Int))), 0), rfl, by first | omega | (dsimp only; omega) | simp⟩ (wk_keep (by simp)) ?_
  rintro ⟨⟨n1, v1_0, v1_1⟩, e1, j1⟩
  try dsimp only at e1 j1
  obtain ⟨p1, rfl⟩ : ∃ p, n1 = p + 1 := ⟨n1 - 1, by omega⟩
  simp
  refine cC (decide ((↑v1_1 : Int) < (↑a0.length : Int))) (fun k3 h2 => ?_) (fun k3 h2 => ?_)
  ·have q2 := h2; try simp at q2
   have i1 : v1_1 < a0.length := by simpa using h2
   have m2 : a0.length ≤ 9223372036854775807 := by simpa using k3 0 _ rfl
   have w1 : IntKind.i64.wrap ((v1_1 : Int) + 1) = (v1_1 : Int) + 1 := wrap_of (by omega) (by omega)
   simp [i1, rowAt_map]
   repeat with_reducible refine sd ?_
   refine cR (l_szArchive_ok (nth a0 v1_1) v1_0) ?_
   simp
   refine cC (decide ((l_szArchive (nth a0 v1_1) v1_0) < 0)) (fun k4 h3 => ?_) (fun k4 h3 => ?_)
   ·have q3 := h3; try simp at q3
    have x1 : l_szArchiveS_1 a0 (a0.length + 1) (W (a1 - (↑a0.length : Int))) 0 = .inl (-1) := by rw [← e1]; simp only [l_szArchiveS_1, h2, h3, cond_t, cond_f]
    simp
    refine retRd (rv := [.tmp 4]) rfl ?_
    have f2 := l_szArchiveS.eq_1 a0 a1; simp only [h1, x1, cond_t, cond_f] at f2; simp [f2]
   ·have q3 := h3; try simp at q3
    simp
    refine nxtI ⟨(p1, (l_szArchive (nth a0 v1_1) v1_0), (v1_1 + 1)), ?_, ?_⟩ (by simp) (wk_keep (by simp [w1]))
    · rw [← e1]; simp only [l_szArchiveS_1, h2, h3, cond_t, cond_f]
    · first | omega | (simp at *; omega)
  ·have q2 := h2; try simp at q2
   have x2 : l_szArchiveS_1 a0 (a0.length + 1) (W (a1 - (↑a0.length : Int))) 0 = .inr v1_0 := by rw [← e1]; simp only [l_szArchiveS_1, h2, cond_t, cond_f]
   simp
   refine retRd (rv := [.tmp 4]) rfl ?_
   have f3 := l_szArchiveS.eq_1 a0 a1; simp only [h1, x2, cond_t, cond_f] at f3; simp [f3]
theorem l_szWorld_ok (a0 : TWorld) (a1 : Int) : SoundAt Tryz.prog 13 false [a0.row, [.int .i64 a1]] [[.int .i64 (l_szWorld a0 a1)]] := by
 refine sound_of Tryz.func13 rfl (by kernel_rfl) ?_
 simp [Tryz.ntmps13]
 refine cR (l_szFrame_ok a0.Frame a1) ?_
 simp
 refine cC (decide ((l_szFrame a0.Frame a1) < 0)) (fun k1 h1 => ?_) (fun k1 h1 => ?_)
 ·have q1 := h1; try simp at q1
  simp
  refine retRd (rv := [.tmp 4]) rfl ?_
  have f1 := l_szWorld.eq_1 a0 a1; simp only [h1, cond_t, cond_f] at f1; simp [f1]
 ·have q1 := h1; try simp at q1
  simp
  refine cR (l_szCertS_ok a0.Certs (l_szFrame a0.Frame a1)) ?_
  simp
  refine cC (decide ((l_szCertS a0.Certs (l_szFrame a0.Frame a1)) < 0)) (fun k2 h2 => ?_) (fun k2 h2 => ?_)
  ·have q2 := h2; try simp at q2
   simp
   refine retRd (rv := [.tmp 4]) rfl ?_
   have f2 := l_szWorld.eq_1 a0 a1; simp only [h1, h2, cond_t, cond_f] at f2; simp [f2]
  ·have q2 := h2; try simp at q2
   simp
   refine cR (l_szIntS_ok a0.Ended (l_szCertS a0.Certs (l_szFrame a0.Frame a1))) ?_
   simp
   refine cC (decide ((l_szIntS a0.Ended (l_szCertS a0.Certs (l_szFrame a0.Frame a1))) < 0)) (fun k3 h3 => ?_) (fun k3 h3 => ?_)
   ·have q3 := h3; try simp at q3
    simp
    refine retRd (rv := [.tmp 4]) rfl ?_
    have f3 := l_szWorld.eq_1 a0 a1; simp only [h1, h2, h3, cond_t, cond_f] at f3; simp [f3]
   ·have q3 := h3; try simp at q3
    simp
    refine cR (l_szArchiveS_ok a0.Archives (l_szIntS a0.Ended (l_szCertS a0.Certs (l_szFrame a0.Frame a1)))) ?_
    simp
    refine cC (decide ((l_szArchiveS a0.Archives (l_szIntS a0.Ended (l_szCertS a0.Certs (l_szFrame a0.Frame a1)))) < 0)) (fun k4 h4 => ?_) (fun k4 h4 => ?_)
    ·have q4 := h4; try simp at q4
     simp
     refine retRd (rv := [.tmp 4]) rfl ?_
     have f4 := l_szWorld.eq_1 a0 a1; simp only [h1, h2, h3, h4, cond_t, cond_f] at f4; simp [f4]
    ·have q4 := h4; try simp at q4
     simp
     refine cR (l_szIntS_ok a0.Seqs (l_szArchiveS a0.Archives (l_szIntS a0.Ended (l_szCertS a0.Certs (l_szFrame a0.Frame a1))))) ?_
     simp
     refine cC (decide ((l_szIntS a0.Seqs (l_szArchiveS a0.Archives (l_szIntS a0.Ended (l_szCertS a0.Certs (l_szFrame a0.Frame a1))))) < 0)) (fun k5 h5 => ?_) (fun k5 h5 => ?_)
     ·have q5 := h5; try simp at q5
      simp
      refine retRd (rv := [.tmp 4]) rfl ?_
      have f5 := l_szWorld.eq_1 a0 a1; simp only [h1, h2, h3, h4, h5, cond_t, cond_f] at f5; simp [f5]
     ·have q5 := h5; try simp at q5
      simp
      refine cR (l_szIntS_ok a0.Lying (l_szIntS a0.Seqs (l_szArchiveS a0.Archives (l_szIntS a0.Ended (l_szCertS a0.Certs (l_szFrame a0.Frame a1)))))) ?_
      simp
      refine cC (decide ((l_szIntS a0.Lying (l_szIntS a0.Seqs (l_szArchiveS a0.Archives (l_szIntS a0.Ended (l_szCertS a0.Certs (l_szFrame a0.Frame a1)))))) < 0)) (fun k6 h6 => ?_) (fun k6 h6 => ?_)
      ·have q6 := h6; try simp at q6
       simp
       refine retRd (rv := [.tmp 4]) rfl ?_
       have f6 := l_szWorld.eq_1 a0 a1; simp only [h1, h2, h3, h4, h5, h6, cond_t, cond_f] at f6; simp [f6]
      ·have q6 := h6; try simp at q6
       simp
       refine cR (l_szIntS_ok a0.Forged (l_szIntS a0.Lying (l_szIntS a0.Seqs (l_szArchiveS a0.Archives (l_szIntS a0.Ended (l_szCertS a0.Certs (l_szFrame a0.Frame a1))))))) ?_
       simp
       refine cC (decide ((l_szIntS a0.Forged (l_szIntS a0.Lying (l_szIntS a0.Seqs (l_szArchiveS a0.Archives (l_szIntS a0.Ended (l_szCertS a0.Certs (l_szFrame a0.Frame a1))))))) < 0)) (fun k7 h7 => ?_) (fun k7 h7 => ?_)
       ·have q7 := h7; try simp at q7
        simp
        refine retRd (rv := [.tmp 4]) rfl ?_
        have f7 := l_szWorld.eq_1 a0 a1; simp only [h1, h2, h3, h4, h5, h6, h7, cond_t, cond_f] at f7; simp [f7]
       ·have q7 := h7; try simp at q7
        simp
        refine retRd (rv := [.tmp 4]) rfl ?_
        have f8 := l_szWorld.eq_1 a0 a1; simp only [h1, h2, h3, h4, h5, h6, h7, cond_t, cond_f] at f8; simp [f8]
theorem l_toKey_ok (a0 : TKey) : SoundAt Tryz.prog 186 false [a0.row] [(l_toKey a0).row] := by
 refine sound_of Tryz.func186 rfl (by kernel_rfl) ?_
 simp [Tryz.ntmps186]
 refine retRd (rv := [.cell 2 117]) rfl ?_
 have f1 := l_toKey.eq_1 a0; simp [f1]
theorem l_toKey_okI (a0 : TKey) : SoundAt Tryz.prog 186 false [a0.row] [a0.row] := by
  have h := l_toKey_ok a0
  rwa [l_toKey_id] at h
theorem l_toKeyS_ok (a0 : List TKey) (u0 : Sm 2338816 a0) : SoundD Tryz.prog 112 [[.sl 5 (a0.map TKey.row)]] [[.sl 5 ((l_toKeyS a0).map TKey.row)]] := by
 refine sound_ofD Tryz.func112 rfl (by kernel_rfl) ?_
 have c1 : a0.length ≤ 2338816 := sm_len (by simp (maxDischargeDepth := 12) [u0])
 simp [Tryz.ntmps112]
 repeat with_reducible refine sd ?_
 refine okL fun k1 => ?_
 refine loopI (ι := { s : Nat × Nat × (List TKey) // l_toKeyS_1 a0 s.1 s.2.1 s.2.2 = l_toKeyS_1 a0 (a0.length + 1) 0 (List.replicate a0.length (TKey.mk 0 0 0 0 0)) ∧ (1 ≤ s.1 ∧ a0.length < s.1 + s.2.1 ∧ s.2.1 ≤ a0.length ∧ s.2.2.length = a0.length) }) (fun s => stOf 23 [eL 0 5 a0 TKey.row, (3, .one (.sref 7 0 0 s.1.2.2.length), []), eI 4 (↑s.1.2.1 : Int), (7, .any, [.arr false 5 (s.1.2.2.map TKey.row)])]) (fun s => s.1.1) ⟨((a0.length + 1), 0, (List.replicate a0.length (TKey.mk 0 0 0 0 0))), rfl, by first | omega | (dsimp only; omega) | simp⟩ (wk_keep (by simp)) ?_
 rintro ⟨⟨n1, v1_0, v1_1⟩, e1, j1⟩
 try dsimp only at e1 j1
 obtain ⟨p1, rfl⟩ : ∃ p, n1 = p + 1 := ⟨n1 - 1, by omega⟩
 simp
 refine cC (decide ((↑v1_0 : Int) < (↑a0.length : Int))) (fun k2 h1 => ?_) (fun k2 h1 => ?_)
 ·have q1 := h1; try simp at q1
  have i1 : v1_0 < a0.length := by simpa using h1
  have m2 : a0.length ≤ 9223372036854775807 := by simpa using k2 0 _ rfl
  have w1 : IntKind.i64.wrap ((v1_0 : Int) + 1) = (v1_0 : Int) + 1 := wrap_of (by omega) (by omega)
  simp [i1, rowAt_map]
  repeat with_reducible refine sd ?_
  refine cR (l_toKey_okI (nth a0 v1_0)) ?_
  have i2 : v1_0 < v1_1.length := il
  simp [i2, rowAt_map, set_map (x := (nth a0 v1_0)) rfl]
  repeat with_reducible refine sd ?_
  refine nxtI ⟨(p1, (v1_0 + 1), (v1_1.set v1_0 (nth a0 v1_0))), ?_, ?_⟩ (by simp) (wk_keep (by simp [w1]))
  · rw [← e1]; simp only [l_toKeyS_1, h1, cond_t, cond_f]
  · first | omega | (simp at *; omega)
 ·have q1 := h1; try simp at q1
  have x1 : l_toKeyS_1 a0 (a0.length + 1) 0 (List.replicate a0.length (TKey.mk 0 0 0 0 0)) = v1_1 := by rw [← e1]; simp only [l_toKeyS_1, h1, cond_t, cond_f]
  simp
  refine retD (rv := [.tmp 2]) rfl ?_
  have f1 := l_toKeyS.eq_1 a0; simp only [x1, cond_t, cond_f] at f1; simp [f1]
theorem l_toKeyS_okI (a0 : List TKey) (u0 : Sm 2338816 a0) : SoundD Tryz.prog 112 [[.sl 5 (a0.map TKey.row)]] [[.sl 5 (a0.map TKey.row)]] := by
  have h := l_toKeyS_ok a0 u0
  rwa [l_toKeyS_id] at h
theorem l_toAuthority_ok (a0 : TAuthority) : SoundAt Tryz.prog 187 false [a0.row] [(l_toAuthority a0).row] := by
 refine sound_of Tryz.func187 rfl (by kernel_rfl) ?_
 simp [Tryz.ntmps187]
 refine retRd (rv := [.cell 2 75]) rfl ?_
 have f1 := l_toAuthority.eq_1 a0; simp [f1]
theorem l_toAuthority_okI (a0 : TAuthority) : SoundAt Tryz.prog 187 false [a0.row] [a0.row] := by
  have h := l_toAuthority_ok a0
  rwa [l_toAuthority_id] at h
theorem l_toAuthorityS_ok (a0 : List TAuthority) (u0 : Sm 2338816 a0) : SoundD Tryz.prog 113 [[.sl 3 (a0.map TAuthority.row)]] [[.sl 3 ((l_toAuthorityS a0).map TAuthority.row)]] := by
 refine sound_ofD Tryz.func113 rfl (by kernel_rfl) ?_
 have c1 : a0.length ≤ 2338816 := sm_len (by simp (maxDischargeDepth := 12) [u0])
 simp [Tryz.ntmps113]
 repeat with_reducible refine sd ?_
 refine okL fun k1 => ?_
 refine loopI (ι := { s : Nat × Nat × (List TAuthority) // l_toAuthorityS_1 a0 s.1 s.2.1 s.2.2 = l_toAuthorityS_1 a0 (a0.length + 1) 0 (List.replicate a0.length (TAuthority.mk 0 0 0)) ∧ (1 ≤ s.1 ∧ a0.length < s.1 + s.2.1 ∧ s.2.1 ≤ a0.length ∧ s.2.2.length = a0.length) }) (fun s => stOf 23 [eL 0 3 a0 TAuthority.row, (3, .one (.sref 7 0 0 s.1.2.2.length), []), eI 4 (↑s.1.2.1 : Int), (7, .any, [.arr false 3 (s.1.2.2.map TAuthority.row)])]) (fun s => s.1.1) ⟨((a0.length + 1), 0, (List.replicate a0.length (TAuthority.mk 0 0 0))), rfl, by first | omega | (dsimp only; omega) | simp⟩ (wk_keep (by simp)) ?_
 rintro ⟨⟨n1, v1_0, v1_1⟩, e1, j1⟩
 try dsimp only at e1 j1
 obtain ⟨p1, rfl⟩ : ∃ p, n1 = p + 1 := ⟨n1 - 1, by omega⟩
 simp
 refine cC (decide ((↑v1_0 : Int) < (↑a0.length : Int))) (fun k2 h1 => ?_) (fun k2 h1 => ?_)
 ·have q1 := h1; try simp at q1
  have i1 : v1_0 < a0.length := by simpa using h1
  have m2 : a0.length ≤ 9223372036854775807 := by simpa using k2 0 _ rfl
  have w1 : IntKind.i64.wrap ((v1_0 : Int) + 1) = (v1_0 : Int) + 1 := wrap_of (by omega) (by omega)
  simp [i1, rowAt_map]
  repeat with_reducible refine sd ?_
  refine cR (l_toAuthority_okI (nth a0 v1_0)) ?_
  have i2 : v1_0 < v1_1.length := il
  simp [i2, rowAt_map, set_map (x := (nth a0 v1_0)) rfl]
  repeat with_reducible refine sd ?_
  refine nxtI ⟨(p1, (v1_0 + 1), (v1_1.set v1_0 (nth a0 v1_0))), ?_, ?_⟩ (by simp) (wk_keep (by simp [w1]))
  · rw [← e1]; simp only [l_toAuthorityS_1, h1, cond_t, cond_f]
  · first | omega | (simp at *; omega)
 ·have q1 := h1; try simp at q1
  have x1 : l_toAuthorityS_1 a0 (a0.length + 1) 0 (List.replicate a0.length (TAuthority.mk 0 0 0)) = v1_1 := by rw [← e1]; simp only [l_toAuthorityS_1, h1, cond_t, cond_f]
  simp
  refine retD (rv := [.tmp 2]) rfl ?_
  have f1 := l_toAuthorityS.eq_1 a0; simp only [x1, cond_t, cond_f] at f1; simp [f1]
theorem l_toAuthorityS_okI (a0 : List TAuthority) (u0 : Sm 2338816 a0) : SoundD Tryz.prog 113 [[.sl 3 (a0.map TAuthority.row)]] [[.sl 3 (a0.map TAuthority.row)]] := by
  have h := l_toAuthorityS_ok a0 u0
  rwa [l_toAuthorityS_id] at h
theorem l_toMethod_ok (a0 : TMethod) : SoundAt Tryz.prog 188 false [a0.row] [(l_toMethod a0).row] := by
 refine sound_of Tryz.func188 rfl (by kernel_rfl) ?_
 simp [Tryz.ntmps188]
 refine retRd (rv := [.cell 2 181]) rfl ?_
 have f1 := l_toMethod.eq_1 a0; simp [f1]
theorem l_toMethod_okI (a0 : TMethod) : SoundAt Tryz.prog 188 false [a0.row] [a0.row] := by
  have h := l_toMethod_ok a0
  rwa [l_toMethod_id] at h
theorem l_toMethodS_ok (a0 : List TMethod) (u0 : Sm 2338816 a0) : SoundD Tryz.prog 114 [[.sl 4 (a0.map TMethod.row)]] [[.sl 4 ((l_toMethodS a0).map TMethod.row)]] := by
 refine sound_ofD Tryz.func114 rfl (by kernel_rfl) ?_
 have c1 : a0.length ≤ 2338816 := sm_len (by simp (maxDischargeDepth := 12) [u0])
 simp [Tryz.ntmps114]
 repeat with_reducible refine sd ?_
 refine okL fun k1 => ?_
 refine loopI (ι := { s : Nat × Nat × (List TMethod) // l_toMethodS_1 a0 s.1 s.2.1 s.2.2 = l_toMethodS_1 a0 (a0.length + 1) 0 (List.replicate a0.length (TMethod.mk 0 0 0 0)) ∧ (1 ≤ s.1 ∧ a0.length < s.1 + s.2.1 ∧ s.2.1 ≤ a0.length ∧ s.2.2.length = a0.length) }) (fun s => stOf 23 [eL 0 4 a0 TMethod.row, (3, .one (.sref 7 0 0 s.1.2.2.length), []), eI 4 (↑s.1.2.1 : Int), (7, .any, [.arr false 4 (s.1.2.2.map TMethod.row)])]) (fun s => s.1.1) ⟨((a0.length + 1), 0, (List.replicate a0.length (TMethod.mk 0 0 0 0))), rfl, by first | omega | (dsimp only; omega) | simp⟩ (wk_keep (by simp)) ?_
 rintro ⟨⟨n1, v1_0, v1_1⟩, e1, j1⟩
 try dsimp only at e1 j1
 obtain ⟨p1, rfl⟩ : ∃ p, n1 = p + 1 := ⟨n1 - 1, by omega⟩
 simp
 refine cC (decide ((↑v1_0 : Int) < (↑a0.length : Int))) (fun k2 h1 => ?_) (fun k2 h1 => ?_)
 ·have q1 := h1; try simp at q1
  have i1 : v1_0 < a0.length := by simpa using h1
  have m2 : a0.length ≤ 9223372036854775807 := by simpa using k2 0 _ rfl
  have w1 : IntKind.i64.wrap ((v1_0 : Int) + 1) = (v1_0 : Int) + 1 := wrap_of (by omega) (by omega)
  simp [i1, rowAt_map]
  repeat with_reducible refine sd ?_
  refine cR (l_toMethod_okI (nth a0 v1_0)) ?_
  have i2 : v1_0 < v1_1.length := il
  simp [i2, rowAt_map, set_map (x := (nth a0 v1_0)) rfl]
  repeat with_reducible refine sd ?_
  refine nxtI ⟨(p1, (v1_0 + 1), (v1_1.set v1_0 (nth a0 v1_0))), ?_, ?_⟩ (by simp) (wk_keep (by simp [w1]))
  · rw [← e1]; simp only [l_toMethodS_1, h1, cond_t, cond_f]
  · first | omega | (simp at *; omega)
 ·have q1 := h1; try simp at q1
  have x1 : l_toMethodS_1 a0 (a0.length + 1) 0 (List.replicate a0.length (TMethod.mk 0 0 0 0)) = v1_1 := by rw [← e1]; simp only [l_toMethodS_1, h1, cond_t, cond_f]
  simp
  refine retD (rv := [.tmp 2]) rfl ?_
  have f1 := l_toMethodS.eq_1 a0; simp only [x1, cond_t, cond_f] at f1; simp [f1]
theorem l_toMethodS_okI (a0 : List TMethod) (u0 : Sm 2338816 a0) : SoundD Tryz.prog 114 [[.sl 4 (a0.map TMethod.row)]] [[.sl 4 (a0.map TMethod.row)]] := by
  have h := l_toMethodS_ok a0 u0
  rwa [l_toMethodS_id] at h
theorem l_toFrame_ok (a0 : TFrame) (u0 : Sm 2334720 a0) : SoundD Tryz.prog 52 [a0.row] [(l_toFrame a0).row] := by
 refine sound_ofD Tryz.func52 rfl (by kernel_rfl) ?_
 simp [Tryz.ntmps52]
 refine cD [false] (l_toKeyS_okI a0.Keys (sg (TFrame.sm_Keys u0))) ?_
 simp
 refine cD [false] (l_toAuthorityS_okI a0.Authorities (sg (TFrame.sm_Authorities u0))) ?_
 simp
 refine cD [false] (l_toMethodS_okI a0.Methods (sg (TFrame.sm_Methods u0))) ?_
 simp
 refine retD (rv := [.cell 2 38]) rfl ?_
 have f1 := l_toFrame.eq_1 a0; simp [f1]
theorem l_toFrame_okI (a0 : TFrame) (u0 : Sm 2334720 a0) : SoundD Tryz.prog 52 [a0.row] [a0.row] := by
  have h := l_toFrame_ok a0 u0
  rwa [l_toFrame_id] at h
theorem l_toCert_ok (a0 : TCert) : SoundAt Tryz.prog 115 false [a0.row] [(l_toCert a0).row] := by
 refine sound_of Tryz.func115 rfl (by kernel_rfl) ?_
 simp [Tryz.ntmps115]
 refine retRd (rv := [.cell 2 106]) rfl ?_
 have f1 := l_toCert.eq_1 a0; simp [f1]
theorem l_toCert_okI (a0 : TCert) : SoundAt Tryz.prog 115 false [a0.row] [a0.row] := by
  have h := l_toCert_ok a0
  rwa [l_toCert_id] at h
theorem l_toCertS_ok (a0 : List TCert) (u0 : Sm 2338816 a0) : SoundD Tryz.prog 53 [[.sl 7 (a0.map TCert.row)]] [[.sl 7 ((l_toCertS a0).map TCert.row)]] := by
 refine sound_ofD Tryz.func53 rfl (by kernel_rfl) ?_
 have c1 : a0.length ≤ 2338816 := sm_len (by simp (maxDischargeDepth := 12) [u0])
 simp [Tryz.ntmps53]
 repeat with_reducible refine sd ?_
 refine okL fun k1 => ?_
 refine loopI (ι := { s : Nat × Nat × (List TCert) // l_toCertS_1 a0 s.1 s.2.1 s.2.2 = l_toCertS_1 a0 (a0.length + 1) 0 (List.replicate a0.length (TCert.mk 0 0 0 0 0 0 0)) ∧ (1 ≤ s.1 ∧ a0.length < s.1 + s.2.1 ∧ s.2.1 ≤ a0.length ∧ s.2.2.length = a0.length) }) (fun s => stOf 23 [eL 0 7 a0 TCert.row, (3, .one (.sref 7 0 0 s.1.2.2.length), []), eI 4 (↑s.1.2.1 : Int), (7, .any, [.arr false 7 (s.1.2.2.map TCert.row)])]) (fun s => s.1.1) ⟨((a0.length + 1), 0, (List.replicate a0.length (TCert.mk 0 0 0 0 0 0 0))), rfl, by first | omega | (dsimp only; omega) | simp⟩ (wk_keep (by simp)) ?_
 rintro ⟨⟨n1, v1_0, v1_1⟩, e1, j1⟩
 try dsimp only at e1 j1
 obtain ⟨p1, rfl⟩ : ∃ p, n1 = p + 1 := ⟨n1 - 1, by omega⟩
 simp
 refine cC (decide ((↑v1_0 : Int) < (↑a0.length : Int))) (fun k2 h1 => ?_) (fun k2 h1 => ?_)
 ·have q1 := h1; try simp at q1
  have i1 : v1_0 < a0.length := by simpa using h1
  have m2 : a0.length ≤ 9223372036854775807 := by simpa using k2 0 _ rfl
  have w1 : IntKind.i64.wrap ((v1_0 : Int) + 1) = (v1_0 : Int) + 1 := wrap_of (by omega) (by omega)
  simp [i1, rowAt_map]
  repeat with_reducible refine sd ?_
  refine cR (l_toCert_okI (nth a0 v1_0)) ?_
  have i2 : v1_0 < v1_1.length := il
  simp [i2, rowAt_map, set_map (x := (nth a0 v1_0)) rfl]
  repeat with_reducible refine sd ?_
  refine nxtI ⟨(p1, (v1_0 + 1), (v1_1.set v1_0 (nth a0 v1_0))), ?_, ?_⟩ (by simp) (wk_keep (by simp [w1]))
  · rw [← e1]; simp only [l_toCertS_1, h1, cond_t, cond_f]
  · first | omega | (simp at *; omega)
 ·have q1 := h1; try simp at q1
  have x1 : l_toCertS_1 a0 (a0.length + 1) 0 (List.replicate a0.length (TCert.mk 0 0 0 0 0 0 0)) = v1_1 := by rw [← e1]; simp only [l_toCertS_1, h1, cond_t, cond_f]
  simp
  refine retD (rv := [.tmp 2]) rfl ?_
  have f1 := l_toCertS.eq_1 a0; simp only [x1, cond_t, cond_f] at f1; simp [f1]
theorem l_toCertS_okI (a0 : List TCert) (u0 : Sm 2338816 a0) : SoundD Tryz.prog 53 [[.sl 7 (a0.map TCert.row)]] [[.sl 7 (a0.map TCert.row)]] := by
  have h := l_toCertS_ok a0 u0
  rwa [l_toCertS_id] at h
theorem l_toIntS_ok (a0 : List Int) (u0 : Sm 2342912 a0) : SoundD Tryz.prog 44 [[.sl 1 (a0.map iR)]] [[.sl 1 ((l_toIntS a0).map iR)]] := by
 refine sound_ofD Tryz.func44 rfl (by kernel_rfl) ?_
 have c1 : a0.length ≤ 2342912 := sm_len (by simp (maxDischargeDepth := 12) [u0])
 simp [Tryz.ntmps44]
 repeat with_reducible refine sd ?_
 refine okL fun k1 => ?_
 refine loopI (ι := { s : Nat × Nat × (List Int) // l_toIntS_1 a0 s.1 s.2.1 s.2.2 = l_toIntS_1 a0 (a0.length + 1) 0 (List.replicate a0.length 0) ∧ (1 ≤ s.1 ∧ a0.length < s.1 + s.2.1 ∧ s.2.1 ≤ a0.length ∧ s.2.2.length = a0.length) }) (fun s => stOf 22 [eL 0 1 a0 iR, (3, .one (.sref 7 0 0 s.1.2.2.length), []), eI 4 (↑s.1.2.1 : Int), (7, .any, [.arr false 1 (s.1.2.2.map iR)])]) (fun s => s.1.1) ⟨((a0.length + 1), 0, (List.replicate a0.length 0)), rfl, by first | omega | (dsimp only; omega) | simp⟩ (wk_keep (by simp)) ?_
 rintro ⟨⟨n1, v1_0, v1_1⟩, e1, j1⟩
 try dsimp only at e1 j1
 obtain ⟨p1, rfl⟩ : ∃ p, n1 = p + 1 := ⟨n1 - 1, by omega⟩
 simp
 refine cC (decide ((↑v1_0 : Int) < (↑a0.length : Int))) (fun k2 h1 => ?_) (fun k2 h1 => ?_)
 ·have q1 := h1; try simp at q1
  have i1 : v1_0 < a0.length := by simpa using h1
  have m2 : a0.length ≤ 9223372036854775807 := by simpa using k2 0 _ rfl
  have w1 : IntKind.i64.wrap ((v1_0 : Int) + 1) = (v1_0 : Int) + 1 := wrap_of (by omega) (by omega)
  have i2 : v1_0 < v1_1.length := il
  simp [i1, rowAt_map, i2, set_map (x := (nth a0 v1_0)) rfl]
  repeat with_reducible refine sd ?_
  refine nxtI ⟨(p1, (v1_0 + 1), (v1_1.set v1_0 (nth a0 v1_0))), ?_, ?_⟩ (by simp) (wk_keep (by simp [w1]))
  · rw [← e1]; simp only [l_toIntS_1, h1, cond_t, cond_f]
  · first | omega | (simp at *; omega)
 ·have q1 := h1; try simp at q1
  have x1 : l_toIntS_1 a0 (a0.length + 1) 0 (List.replicate a0.length 0) = v1_1 := by rw [← e1]; simp only [l_toIntS_1, h1, cond_t, cond_f]
  simp
  refine retD (rv := [.tmp 2]) rfl ?_
  have f1 := l_toIntS.eq_1 a0; simp only [x1, cond_t, cond_f] at f1; simp [f1]
theorem l_toIntS_okI (a0 : List Int) (u0 : Sm 2342912 a0) : SoundD Tryz.prog 44 [[.sl 1 (a0.map iR)]] [[.sl 1 (a0.map iR)]] := by
  have h := l_toIntS_ok a0 u0
  rwa [l_toIntS_id] at h
theorem l_toStringS_ok (a0 : List ByteArray) (u0 : Sm 2342912 a0) : SoundD Tryz.prog 87 [[.sl 1 (a0.map sR)]] [[.sl 1 ((l_toStringS a0).map sR)]] := by
 refine sound_ofD Tryz.func87 rfl (by kernel_rfl) ?_
 have c1 : a0.length ≤ 2342912 := sm_len (by simp (maxDischargeDepth := 12) [u0])
 simp [Tryz.ntmps87]
 repeat with_reducible refine sd ?_
 refine okL fun k1 => ?_
 refine loopI (ι := { s : Nat × Nat × (List ByteArray) // l_toStringS_1 a0 s.1 s.2.1 s.2.2 = l_toStringS_1 a0 (a0.length + 1) 0 (List.replicate a0.length (⟨#[]⟩ : ByteArray)) ∧ (1 ≤ s.1 ∧ a0.length < s.1 + s.2.1 ∧ s.2.1 ≤ a0.length ∧ s.2.2.length = a0.length) }) (fun s => stOf 22 [eL 0 1 a0 sR, (3, .one (.sref 7 0 0 s.1.2.2.length), []), eI 4 (↑s.1.2.1 : Int), (7, .any, [.arr false 1 (s.1.2.2.map sR)])]) (fun s => s.1.1) ⟨((a0.length + 1), 0, (List.replicate a0.length (⟨#[]⟩ : ByteArray))), rfl, by first | omega | (dsimp only; omega) | simp⟩ (wk_keep (by simp)) ?_
 rintro ⟨⟨n1, v1_0, v1_1⟩, e1, j1⟩
 try dsimp only at e1 j1
 obtain ⟨p1, rfl⟩ : ∃ p, n1 = p + 1 := ⟨n1 - 1, by omega⟩
 simp
 refine cC (decide ((↑v1_0 : Int) < (↑a0.length : Int))) (fun k2 h1 => ?_) (fun k2 h1 => ?_)
 ·have q1 := h1; try simp at q1
  have i1 : v1_0 < a0.length := by simpa using h1
  have m2 : a0.length ≤ 9223372036854775807 := by simpa using k2 0 _ rfl
  have w1 : IntKind.i64.wrap ((v1_0 : Int) + 1) = (v1_0 : Int) + 1 := wrap_of (by omega) (by omega)
  have i2 : v1_0 < v1_1.length := il
  simp [i1, rowAt_map, i2, set_map (x := (nth a0 v1_0)) rfl]
  repeat with_reducible refine sd ?_
  refine nxtI ⟨(p1, (v1_0 + 1), (v1_1.set v1_0 (nth a0 v1_0))), ?_, ?_⟩ (by simp) (wk_keep (by simp [w1]))
  · rw [← e1]; simp only [l_toStringS_1, h1, cond_t, cond_f]
  · first | omega | (simp at *; omega)
 ·have q1 := h1; try simp at q1
  have x1 : l_toStringS_1 a0 (a0.length + 1) 0 (List.replicate a0.length (⟨#[]⟩ : ByteArray)) = v1_1 := by rw [← e1]; simp only [l_toStringS_1, h1, cond_t, cond_f]
  simp
  refine retD (rv := [.tmp 2]) rfl ?_
  have f1 := l_toStringS.eq_1 a0; simp only [x1, cond_t, cond_f] at f1; simp [f1]
theorem l_toStringS_okI (a0 : List ByteArray) (u0 : Sm 2342912 a0) : SoundD Tryz.prog 87 [[.sl 1 (a0.map sR)]] [[.sl 1 (a0.map sR)]] := by
  have h := l_toStringS_ok a0 u0
  rwa [l_toStringS_id] at h
theorem l_toDocument_ok (a0 : TDocument) (u0 : Sm 2338816 a0) : SoundD Tryz.prog 35 [a0.row] [(l_toDocument a0).row] := by
 refine sound_ofD Tryz.func35 rfl (by kernel_rfl) ?_
 simp [Tryz.ntmps35]
 refine cD [false] (l_toStringS_okI a0.Parts (sg (TDocument.sm_Parts u0))) ?_
 simp
 refine cD [false] (l_toIntS_okI a0.Salts (sg (TDocument.sm_Salts u0))) ?_
 simp
 refine retD (rv := [.cell 2 59]) rfl ?_
 have f1 := l_toDocument.eq_1 a0; simp [f1]
theorem l_toDocument_okI (a0 : TDocument) (u0 : Sm 2338816 a0) : SoundD Tryz.prog 35 [a0.row] [a0.row] := by
  have h := l_toDocument_ok a0 u0
  rwa [l_toDocument_id] at h
theorem l_toSignature_ok (a0 : TSignature) : SoundAt Tryz.prog 267 false [a0.row] [(l_toSignature a0).row] := by
 refine sound_of Tryz.func267 rfl (by kernel_rfl) ?_
 simp [Tryz.ntmps267]
 refine retRd (rv := [.cell 2 102]) rfl ?_
 have f1 := l_toSignature.eq_1 a0; simp [f1]
theorem l_toSignature_okI (a0 : TSignature) : SoundAt Tryz.prog 267 false [a0.row] [a0.row] := by
  have h := l_toSignature_ok a0
  rwa [l_toSignature_id] at h
theorem l_toPiece_ok (a0 : TPiece) (u0 : Sm 2338816 a0) : SoundD Tryz.prog 285 [a0.row] [(l_toPiece a0).row] := by
 refine sound_ofD Tryz.func285 rfl (by kernel_rfl) ?_
 simp [Tryz.ntmps285]
 refine cD [false] (l_toIntS_okI a0.Ints (sg (TPiece.sm_Ints u0))) ?_
 simp
 refine retD (rv := [.cell 2 110]) rfl ?_
 have f1 := l_toPiece.eq_1 a0; simp [f1]
theorem l_toPiece_okI (a0 : TPiece) (u0 : Sm 2338816 a0) : SoundD Tryz.prog 285 [a0.row] [a0.row] := by
  have h := l_toPiece_ok a0 u0
  rwa [l_toPiece_id] at h
theorem l_toPieceS_ok (a0 : List TPiece) (u0 : Sm 2334720 a0) : SoundD Tryz.prog 279 [[.sl 3 (a0.map TPiece.row)]] [[.sl 3 ((l_toPieceS a0).map TPiece.row)]] := by
 refine sound_ofD Tryz.func279 rfl (by kernel_rfl) ?_
 have c1 : a0.length ≤ 2334720 := sm_len (by simp (maxDischargeDepth := 12) [u0])
 simp [Tryz.ntmps279]
 refine mkDI (n := a0.length) rfl rfl rfl rfl rfl rfl (by simp) (by simp) (by simp; omega) (by omega) ?_
 simp
 refine okL fun k1 => ?_
 refine loopI (ι := { s : Nat × Nat × (List TPiece) // l_toPieceS_1 a0 s.1 s.2.1 s.2.2 = l_toPieceS_1 a0 (a0.length + 1) 0 (List.replicate a0.length (TPiece.mk 0 ([] : List Int) 0)) ∧ (1 ≤ s.1 ∧ a0.length < s.1 + s.2.1 ∧ s.2.1 ≤ a0.length ∧ s.2.2.length = a0.length) }) (fun s => stOf 23 [eL 0 3 a0 TPiece.row, (3, .one (.sref 7 0 0 s.1.2.2.length), []), eI 4 (↑s.1.2.1 : Int), (7, .any, [.arr true 3 (s.1.2.2.map TPiece.row)])]) (fun s => s.1.1) ⟨((a0.length + 1), 0, (List.replicate a0.length (TPiece.mk 0 ([] : List Int) 0))), rfl, by first | omega | (dsimp only; omega) | simp⟩ (wk_keep (by simp)) ?_
 rintro ⟨⟨n1, v1_0, v1_1⟩, e1, j1⟩
 try dsimp only at e1 j1
 obtain ⟨p1, rfl⟩ : ∃ p, n1 = p + 1 := ⟨n1 - 1, by omega⟩
 simp
 refine cC (decide ((↑v1_0 : Int) < (↑a0.length : Int))) (fun k2 h1 => ?_) (fun k2 h1 => ?_)
 ·have q1 := h1; try simp at q1
  have i1 : v1_0 < a0.length := by simpa using h1
  have m2 : a0.length ≤ 9223372036854775807 := by simpa using k2 0 _ rfl
  have w1 : IntKind.i64.wrap ((v1_0 : Int) + 1) = (v1_0 : Int) + 1 := wrap_of (by omega) (by omega)
  simp [i1, rowAt_map]
  repeat with_reducible refine sd ?_
  refine cD [true, false] (l_toPiece_okI (nth a0 v1_0) (sg (sm_nth u0))) ?_
  have i2 : v1_0 < v1_1.length := il
  simp [i2, rowAt_map]
  repeat with_reducible refine sd ?_
  refine stMI (t := 7) (j := 0) (i := v1_0) (c := 0) (size := 3) (rows := (v1_1.map TPiece.row)) (ds := (nth a0 v1_0).row) (L := [(20, 1)]) rfl rfl rfl rfl (by simp) (by simp) (by simp; try omega) (by simp) (by simp) (by simp) (by simp) (by simp) (by simp) ?_
  simp [set_map (x := (nth a0 v1_0)) rfl, i2, rowAt_map, rowAt_set_self]
  repeat with_reducible refine sd ?_
  refine nxtI ⟨(p1, (v1_0 + 1), (v1_1.set v1_0 (nth a0 v1_0))), ?_, ?_⟩ (by simp) (wk_keep (by simp [w1]))
  · rw [← e1]; simp only [l_toPieceS_1, h1, cond_t, cond_f]
  · first | omega | (simp at *; omega)
 ·have q1 := h1; try simp at q1
  have x1 : l_toPieceS_1 a0 (a0.length + 1) 0 (List.replicate a0.length (TPiece.mk 0 ([] : List Int) 0)) = v1_1 := by rw [← e1]; simp only [l_toPieceS_1, h1, cond_t, cond_f]
  simp
  refine retD (rv := [.tmp 2]) rfl ?_
  have f1 := l_toPieceS.eq_1 a0; simp only [x1, cond_t, cond_f] at f1; simp [f1]
theorem l_toPieceS_okI (a0 : List TPiece) (u0 : Sm 2334720 a0) : SoundD Tryz.prog 279 [[.sl 3 (a0.map TPiece.row)]] [[.sl 3 (a0.map TPiece.row)]] := by
  have h := l_toPieceS_ok a0 u0
  rwa [l_toPieceS_id] at h
theorem l_toStep_ok (a0 : TStep) : SoundAt Tryz.prog 295 false [a0.row] [(l_toStep a0).row] := by
 refine sound_of Tryz.func295 rfl (by kernel_rfl) ?_
 simp [Tryz.ntmps295]
 refine retRd (rv := [.cell 2 230]) rfl ?_
 have f1 := l_toStep.eq_1 a0; simp [f1]
theorem l_toStep_okI (a0 : TStep) : SoundAt Tryz.prog 295 false [a0.row] [a0.row] := by
  have h := l_toStep_ok a0
  rwa [l_toStep_id] at h
theorem l_toStepS_ok (a0 : List TStep) (u0 : Sm 2338816 a0) : SoundD Tryz.prog 291 [[.sl 2 (a0.map TStep.row)]] [[.sl 2 ((l_toStepS a0).map TStep.row)]] := by
 refine sound_ofD Tryz.func291 rfl (by kernel_rfl) ?_
 have c1 : a0.length ≤ 2338816 := sm_len (by simp (maxDischargeDepth := 12) [u0])
 simp [Tryz.ntmps291]
 repeat with_reducible refine sd ?_
 refine okL fun k1 => ?_
 refine loopI (ι := { s : Nat × Nat × (List TStep) // l_toStepS_1 a0 s.1 s.2.1 s.2.2 = l_toStepS_1 a0 (a0.length + 1) 0 (List.replicate a0.length (TStep.mk 0 false)) ∧ (1 ≤ s.1 ∧ a0.length < s.1 + s.2.1 ∧ s.2.1 ≤ a0.length ∧ s.2.2.length = a0.length) }) (fun s => stOf 23 [eL 0 2 a0 TStep.row, (3, .one (.sref 7 0 0 s.1.2.2.length), []), eI 4 (↑s.1.2.1 : Int), (7, .any, [.arr false 2 (s.1.2.2.map TStep.row)])]) (fun s => s.1.1) ⟨((a0.length + 1), 0, (List.replicate a0.length (TStep.mk 0 false))), rfl, by first | omega | (dsimp only; omega) | simp⟩ (wk_keep (by simp)) ?_
 rintro ⟨⟨n1, v1_0, v1_1⟩, e1, j1⟩
 try dsimp only at e1 j1
 obtain ⟨p1, rfl⟩ : ∃ p, n1 = p + 1 := ⟨n1 - 1, by omega⟩
 simp
 refine cC (decide ((↑v1_0 : Int) < (↑a0.length : Int))) (fun k2 h1 => ?_) (fun k2 h1 => ?_)
 ·have q1 := h1; try simp at q1
  have i1 : v1_0 < a0.length := by simpa using h1
  have m2 : a0.length ≤ 9223372036854775807 := by simpa using k2 0 _ rfl
  have w1 : IntKind.i64.wrap ((v1_0 : Int) + 1) = (v1_0 : Int) + 1 := wrap_of (by omega) (by omega)
  simp [i1, rowAt_map]
  repeat with_reducible refine sd ?_
  refine cR (l_toStep_okI (nth a0 v1_0)) ?_
  have i2 : v1_0 < v1_1.length := il
  simp [i2, rowAt_map, set_map (x := (nth a0 v1_0)) rfl]
  repeat with_reducible refine sd ?_
  refine nxtI ⟨(p1, (v1_0 + 1), (v1_1.set v1_0 (nth a0 v1_0))), ?_, ?_⟩ (by simp) (wk_keep (by simp [w1]))
  · rw [← e1]; simp only [l_toStepS_1, h1, cond_t, cond_f]
  · first | omega | (simp at *; omega)
 ·have q1 := h1; try simp at q1
  have x1 : l_toStepS_1 a0 (a0.length + 1) 0 (List.replicate a0.length (TStep.mk 0 false)) = v1_1 := by rw [← e1]; simp only [l_toStepS_1, h1, cond_t, cond_f]
  simp
  refine retD (rv := [.tmp 2]) rfl ?_
  have f1 := l_toStepS.eq_1 a0; simp only [x1, cond_t, cond_f] at f1; simp [f1]
theorem l_toStepS_okI (a0 : List TStep) (u0 : Sm 2338816 a0) : SoundD Tryz.prog 291 [[.sl 2 (a0.map TStep.row)]] [[.sl 2 (a0.map TStep.row)]] := by
  have h := l_toStepS_ok a0 u0
  rwa [l_toStepS_id] at h
theorem l_toStamp_ok (a0 : TStamp) : SoundAt Tryz.prog 296 false [a0.row] [(l_toStamp a0).row] := by
 refine sound_of Tryz.func296 rfl (by kernel_rfl) ?_
 simp [Tryz.ntmps296]
 refine retRd (rv := [.cell 2 139]) rfl ?_
 have f1 := l_toStamp.eq_1 a0; simp [f1]
theorem l_toStamp_okI (a0 : TStamp) : SoundAt Tryz.prog 296 false [a0.row] [a0.row] := by
  have h := l_toStamp_ok a0
  rwa [l_toStamp_id] at h
theorem l_toStampS_ok (a0 : List TStamp) (u0 : Sm 2338816 a0) : SoundD Tryz.prog 292 [[.sl 5 (a0.map TStamp.row)]] [[.sl 5 ((l_toStampS a0).map TStamp.row)]] := by
 refine sound_ofD Tryz.func292 rfl (by kernel_rfl) ?_
 have c1 : a0.length ≤ 2338816 := sm_len (by simp (maxDischargeDepth := 12) [u0])
 simp [Tryz.ntmps292]
 repeat with_reducible refine sd ?_
 refine okL fun k1 => ?_
 refine loopI (ι := { s : Nat × Nat × (List TStamp) // l_toStampS_1 a0 s.1 s.2.1 s.2.2 = l_toStampS_1 a0 (a0.length + 1) 0 (List.replicate a0.length (TStamp.mk 0 0 0 0 0)) ∧ (1 ≤ s.1 ∧ a0.length < s.1 + s.2.1 ∧ s.2.1 ≤ a0.length ∧ s.2.2.length = a0.length) }) (fun s => stOf 23 [eL 0 5 a0 TStamp.row, (3, .one (.sref 7 0 0 s.1.2.2.length), []), eI 4 (↑s.1.2.1 : Int), (7, .any, [.arr false 5 (s.1.2.2.map TStamp.row)])]) (fun s => s.1.1) ⟨((a0.length + 1), 0, (List.replicate a0.length (TStamp.mk 0 0 0 0 0))), rfl, by first | omega | (dsimp only; omega) | simp⟩ (wk_keep (by simp)) ?_
 rintro ⟨⟨n1, v1_0, v1_1⟩, e1, j1⟩
 try dsimp only at e1 j1
 obtain ⟨p1, rfl⟩ : ∃ p, n1 = p + 1 := ⟨n1 - 1, by omega⟩
 simp
 refine cC (decide ((↑v1_0 : Int) < (↑a0.length : Int))) (fun k2 h1 => ?_) (fun k2 h1 => ?_)
 ·have q1 := h1; try simp at q1
  have i1 : v1_0 < a0.length := by simpa using h1
  have m2 : a0.length ≤ 9223372036854775807 := by simpa using k2 0 _ rfl
  have w1 : IntKind.i64.wrap ((v1_0 : Int) + 1) = (v1_0 : Int) + 1 := wrap_of (by omega) (by omega)
  simp [i1, rowAt_map]
  repeat with_reducible refine sd ?_
  refine cR (l_toStamp_okI (nth a0 v1_0)) ?_
  have i2 : v1_0 < v1_1.length := il
  simp [i2, rowAt_map, set_map (x := (nth a0 v1_0)) rfl]
  repeat with_reducible refine sd ?_
  refine nxtI ⟨(p1, (v1_0 + 1), (v1_1.set v1_0 (nth a0 v1_0))), ?_, ?_⟩ (by simp) (wk_keep (by simp [w1]))
  · rw [← e1]; simp only [l_toStampS_1, h1, cond_t, cond_f]
  · first | omega | (simp at *; omega)
 ·have q1 := h1; try simp at q1
  have x1 : l_toStampS_1 a0 (a0.length + 1) 0 (List.replicate a0.length (TStamp.mk 0 0 0 0 0)) = v1_1 := by rw [← e1]; simp only [l_toStampS_1, h1, cond_t, cond_f]
  simp
  refine retD (rv := [.tmp 2]) rfl ?_
  have f1 := l_toStampS.eq_1 a0; simp only [x1, cond_t, cond_f] at f1; simp [f1]
theorem l_toStampS_okI (a0 : List TStamp) (u0 : Sm 2338816 a0) : SoundD Tryz.prog 292 [[.sl 5 (a0.map TStamp.row)]] [[.sl 5 (a0.map TStamp.row)]] := by
  have h := l_toStampS_ok a0 u0
  rwa [l_toStampS_id] at h
theorem l_toRenewal_ok (a0 : TRenewal) (u0 : Sm 2334720 a0) : SoundD Tryz.prog 286 [a0.row] [(l_toRenewal a0).row] := by
 refine sound_ofD Tryz.func286 rfl (by kernel_rfl) ?_
 simp [Tryz.ntmps286]
 refine cD [false] (l_toStepS_okI a0.Path (sg (TRenewal.sm_Path u0))) ?_
 simp
 refine cD [false] (l_toStampS_okI a0.Stamps (sg (TRenewal.sm_Stamps u0))) ?_
 simp
 refine retD (rv := [.cell 2 196]) rfl ?_
 have f1 := l_toRenewal.eq_1 a0; simp [f1]
theorem l_toRenewal_okI (a0 : TRenewal) (u0 : Sm 2334720 a0) : SoundD Tryz.prog 286 [a0.row] [a0.row] := by
  have h := l_toRenewal_ok a0 u0
  rwa [l_toRenewal_id] at h
theorem l_toRenewalS_ok (a0 : List TRenewal) (u0 : Sm 2330624 a0) : SoundD Tryz.prog 280 [[.sl 5 (a0.map TRenewal.row)]] [[.sl 5 ((l_toRenewalS a0).map TRenewal.row)]] := by
 refine sound_ofD Tryz.func280 rfl (by kernel_rfl) ?_
 have c1 : a0.length ≤ 2330624 := sm_len (by simp (maxDischargeDepth := 12) [u0])
 simp [Tryz.ntmps280]
 refine mkDI (n := a0.length) rfl rfl rfl rfl rfl rfl (by simp) (by simp) (by simp; omega) (by omega) ?_
 simp
 refine okL fun k1 => ?_
 refine loopI (ι := { s : Nat × Nat × (List TRenewal) // l_toRenewalS_1 a0 s.1 s.2.1 s.2.2 = l_toRenewalS_1 a0 (a0.length + 1) 0 (List.replicate a0.length (TRenewal.mk 0 0 0 ([] : List TStep) ([] : List TStamp))) ∧ (1 ≤ s.1 ∧ a0.length < s.1 + s.2.1 ∧ s.2.1 ≤ a0.length ∧ s.2.2.length = a0.length) }) (fun s => stOf 23 [eL 0 5 a0 TRenewal.row, (3, .one (.sref 7 0 0 s.1.2.2.length), []), eI 4 (↑s.1.2.1 : Int), (7, .any, [.arr true 5 (s.1.2.2.map TRenewal.row)])]) (fun s => s.1.1) ⟨((a0.length + 1), 0, (List.replicate a0.length (TRenewal.mk 0 0 0 ([] : List TStep) ([] : List TStamp)))), rfl, by first | omega | (dsimp only; omega) | simp⟩ (wk_keep (by simp)) ?_
 rintro ⟨⟨n1, v1_0, v1_1⟩, e1, j1⟩
 try dsimp only at e1 j1
 obtain ⟨p1, rfl⟩ : ∃ p, n1 = p + 1 := ⟨n1 - 1, by omega⟩
 simp
 refine cC (decide ((↑v1_0 : Int) < (↑a0.length : Int))) (fun k2 h1 => ?_) (fun k2 h1 => ?_)
 ·have q1 := h1; try simp at q1
  have i1 : v1_0 < a0.length := by simpa using h1
  have m2 : a0.length ≤ 9223372036854775807 := by simpa using k2 0 _ rfl
  have w1 : IntKind.i64.wrap ((v1_0 : Int) + 1) = (v1_0 : Int) + 1 := wrap_of (by omega) (by omega)
  simp [i1, rowAt_map]
  repeat with_reducible refine sd ?_
  refine cD [true, true, true, false, false] (l_toRenewal_okI (nth a0 v1_0) (sg (sm_nth u0))) ?_
  have i2 : v1_0 < v1_1.length := il
  simp [i2, rowAt_map]
  repeat with_reducible refine sd ?_
  refine stMI (t := 7) (j := 0) (i := v1_0) (c := 0) (size := 5) (rows := (v1_1.map TRenewal.row)) (ds := (nth a0 v1_0).row) (L := [(20, 3), (20, 4)]) rfl rfl rfl rfl (by simp) (by simp) (by simp; try omega) (by simp) (by simp) (by simp) (by simp) (by simp) (by simp) ?_
  simp [set_map (x := (nth a0 v1_0)) rfl, i2, rowAt_map, rowAt_set_self]
  repeat with_reducible refine sd ?_
  refine nxtI ⟨(p1, (v1_0 + 1), (v1_1.set v1_0 (nth a0 v1_0))), ?_, ?_⟩ (by simp) (wk_keep (by simp [w1]))
  · rw [← e1]; simp only [l_toRenewalS_1, h1, cond_t, cond_f]
  · first | omega | (simp at *; omega)
 ·have q1 := h1; try simp at q1
  have x1 : l_toRenewalS_1 a0 (a0.length + 1) 0 (List.replicate a0.length (TRenewal.mk 0 0 0 ([] : List TStep) ([] : List TStamp))) = v1_1 := by rw [← e1]; simp only [l_toRenewalS_1, h1, cond_t, cond_f]
  simp
  refine retD (rv := [.tmp 2]) rfl ?_
  have f1 := l_toRenewalS.eq_1 a0; simp only [x1, cond_t, cond_f] at f1; simp [f1]
theorem l_toRenewalS_okI (a0 : List TRenewal) (u0 : Sm 2330624 a0) : SoundD Tryz.prog 280 [[.sl 5 (a0.map TRenewal.row)]] [[.sl 5 (a0.map TRenewal.row)]] := by
  have h := l_toRenewalS_ok a0 u0
  rwa [l_toRenewalS_id] at h
theorem l_toStrand_ok (a0 : TStrand) (u0 : Sm 2326528 a0) : SoundD Tryz.prog 268 [a0.row] [(l_toStrand a0).row] := by
 refine sound_ofD Tryz.func268 rfl (by kernel_rfl) ?_
 simp [Tryz.ntmps268]
 refine cD [] (l_toPieceS_okI a0.Pieces (sg (TStrand.sm_Pieces u0))) ?_
 simp
 refine cD [] (l_toRenewalS_okI a0.Chain (sg (TStrand.sm_Chain u0))) ?_
 simp
 refine retD (rv := [.cell 2 100]) rfl ?_
 have f1 := l_toStrand.eq_1 a0; simp [f1]
theorem l_toStrand_okI (a0 : TStrand) (u0 : Sm 2326528 a0) : SoundD Tryz.prog 268 [a0.row] [a0.row] := by
  have h := l_toStrand_ok a0 u0
  rwa [l_toStrand_id] at h
theorem l_toItem_ok (a0 : TItem) (u0 : Sm 2322432 a0) : SoundD Tryz.prog 239 [a0.row] [(l_toItem a0).row] := by
 refine sound_ofD Tryz.func239 rfl (by kernel_rfl) ?_
 simp [Tryz.ntmps239]
 refine cD [true, false, false] (l_toDocument_okI a0.Doc (sg (TItem.sm_Doc u0))) ?_
 simp
 refine cR (l_toSignature_okI a0.Sig) ?_
 simp
 refine cD [] (l_toStrand_okI a0.Strand (sg (TItem.sm_Strand u0))) ?_
 simp
 refine retD (rv := [.cell 2 104]) rfl ?_
 have f1 := l_toItem.eq_1 a0; simp [f1]
theorem l_toItem_okI (a0 : TItem) (u0 : Sm 2322432 a0) : SoundD Tryz.prog 239 [a0.row] [a0.row] := by
  have h := l_toItem_ok a0 u0
  rwa [l_toItem_id] at h
theorem l_toItemS_ok (a0 : List TItem) (u0 : Sm 2318336 a0) : SoundD Tryz.prog 189 [[.sl 16 (a0.map TItem.row)]] [[.sl 16 ((l_toItemS a0).map TItem.row)]] := by
 refine sound_ofD Tryz.func189 rfl (by kernel_rfl) ?_
 have c1 : a0.length ≤ 2318336 := sm_len (by simp (maxDischargeDepth := 12) [u0])
 simp [Tryz.ntmps189]
 refine mkDI (n := a0.length) rfl rfl rfl rfl rfl rfl (by simp) (by simp) (by simp; omega) (by omega) ?_
 simp
 refine okL fun k1 => ?_
 refine loopI (ι := { s : Nat × Nat × (List TItem) // l_toItemS_1 a0 s.1 s.2.1 s.2.2 = l_toItemS_1 a0 (a0.length + 1) 0 (List.replicate a0.length (TItem.mk 0 0 (TDocument.mk 0 ([] : List ByteArray) ([] : List Int)) (TSignature.mk 0 0 0 0 0 0 0 0 0) (TStrand.mk ([] : List TPiece) ([] : List TRenewal)))) ∧ (1 ≤ s.1 ∧ a0.length < s.1 + s.2.1 ∧ s.2.1 ≤ a0.length ∧ s.2.2.length = a0.length) }) (fun s => stOf 23 [eL 0 16 a0 TItem.row, (3, .one (.sref 7 0 0 s.1.2.2.length), []), eI 4 (↑s.1.2.1 : Int), (7, .any, [.arr true 16 (s.1.2.2.map TItem.row)])]) (fun s => s.1.1) ⟨((a0.length + 1), 0, (List.replicate a0.length (TItem.mk 0 0 (TDocument.mk 0 ([] : List ByteArray) ([] : List Int)) (TSignature.mk 0 0 0 0 0 0 0 0 0) (TStrand.mk ([] : List TPiece) ([] : List TRenewal))))), rfl, by first | omega | (dsimp only; omega) | simp⟩ (wk_keep (by simp)) ?_
 rintro ⟨⟨n1, v1_0, v1_1⟩, e1, j1⟩
 try dsimp only at e1 j1
 obtain ⟨p1, rfl⟩ : ∃ p, n1 = p + 1 := ⟨n1 - 1, by omega⟩
 simp
 refine cC (decide ((↑v1_0 : Int) < (↑a0.length : Int))) (fun k2 h1 => ?_) (fun k2 h1 => ?_)
 ·have q1 := h1; try simp at q1
  have i1 : v1_0 < a0.length := by simpa using h1
  have m2 : a0.length ≤ 9223372036854775807 := by simpa using k2 0 _ rfl
  have w1 : IntKind.i64.wrap ((v1_0 : Int) + 1) = (v1_0 : Int) + 1 := wrap_of (by omega) (by omega)
  simp [i1, rowAt_map]
  repeat with_reducible refine sd ?_
  refine cD [true, true, true, false, false] (l_toItem_okI (nth a0 v1_0) (sg (sm_nth u0))) ?_
  have i2 : v1_0 < v1_1.length := il
  simp [i2, rowAt_map]
  repeat with_reducible refine sd ?_
  refine stMI (t := 7) (j := 0) (i := v1_0) (c := 0) (size := 16) (rows := (v1_1.map TItem.row)) (ds := (nth a0 v1_0).row) (L := [(20, 3), (20, 4), (20, 14), (20, 15)]) rfl rfl rfl rfl (by simp) (by simp) (by simp; try omega) (by simp) (by simp) (by simp) (by simp) (by simp) (by simp) ?_
  simp [set_map (x := (nth a0 v1_0)) rfl, i2, rowAt_map, rowAt_set_self]
  repeat with_reducible refine sd ?_
  refine nxtI ⟨(p1, (v1_0 + 1), (v1_1.set v1_0 (nth a0 v1_0))), ?_, ?_⟩ (by simp) (wk_keep (by simp [w1]))
  · rw [← e1]; simp only [l_toItemS_1, h1, cond_t, cond_f]
  · first | omega | (simp at *; omega)
 ·have q1 := h1; try simp at q1
  have x1 : l_toItemS_1 a0 (a0.length + 1) 0 (List.replicate a0.length (TItem.mk 0 0 (TDocument.mk 0 ([] : List ByteArray) ([] : List Int)) (TSignature.mk 0 0 0 0 0 0 0 0 0) (TStrand.mk ([] : List TPiece) ([] : List TRenewal)))) = v1_1 := by rw [← e1]; simp only [l_toItemS_1, h1, cond_t, cond_f]
  simp
  refine retD (rv := [.tmp 2]) rfl ?_
  have f1 := l_toItemS.eq_1 a0; simp only [x1, cond_t, cond_f] at f1; simp [f1]
theorem l_toItemS_okI (a0 : List TItem) (u0 : Sm 2318336 a0) : SoundD Tryz.prog 189 [[.sl 16 (a0.map TItem.row)]] [[.sl 16 (a0.map TItem.row)]] := by
  have h := l_toItemS_ok a0 u0
  rwa [l_toItemS_id] at h
theorem l_toArchive_ok (a0 : TArchive) (u0 : Sm 2314240 a0) : SoundD Tryz.prog 116 [a0.row] [(l_toArchive a0).row] := by
 refine sound_ofD Tryz.func116 rfl (by kernel_rfl) ?_
 simp [Tryz.ntmps116]
 refine cD [] (l_toItemS_okI a0.Items (sg (TArchive.sm_Items u0))) ?_
 simp
 refine retD (rv := [.cell 2 92]) rfl ?_
 have f1 := l_toArchive.eq_1 a0; simp [f1]
theorem l_toArchive_okI (a0 : TArchive) (u0 : Sm 2314240 a0) : SoundD Tryz.prog 116 [a0.row] [a0.row] := by
  have h := l_toArchive_ok a0 u0
  rwa [l_toArchive_id] at h
theorem l_toArchiveS_ok (a0 : List TArchive) (u0 : Sm 2310144 a0) : SoundD Tryz.prog 54 [[.sl 2 (a0.map TArchive.row)]] [[.sl 2 ((l_toArchiveS a0).map TArchive.row)]] := by
 refine sound_ofD Tryz.func54 rfl (by kernel_rfl) ?_
 have c1 : a0.length ≤ 2310144 := sm_len (by simp (maxDischargeDepth := 12) [u0])
 simp [Tryz.ntmps54]
 refine mkDI (n := a0.length) rfl rfl rfl rfl rfl rfl (by simp) (by simp) (by simp; omega) (by omega) ?_
 simp
 refine okL fun k1 => ?_
 refine loopI (ι := { s : Nat × Nat × (List TArchive) // l_toArchiveS_1 a0 s.1 s.2.1 s.2.2 = l_toArchiveS_1 a0 (a0.length + 1) 0 (List.replicate a0.length (TArchive.mk 0 ([] : List TItem))) ∧ (1 ≤ s.1 ∧ a0.length < s.1 + s.2.1 ∧ s.2.1 ≤ a0.length ∧ s.2.2.length = a0.length) }) (fun s => stOf 23 [eL 0 2 a0 TArchive.row, (3, .one (.sref 7 0 0 s.1.2.2.length), []), eI 4 (↑s.1.2.1 : Int), (7, .any, [.arr true 2 (s.1.2.2.map TArchive.row)])]) (fun s => s.1.1) ⟨((a0.length + 1), 0, (List.replicate a0.length (TArchive.mk 0 ([] : List TItem)))), rfl, by first | omega | (dsimp only; omega) | simp⟩ (wk_keep (by simp)) ?_
 rintro ⟨⟨n1, v1_0, v1_1⟩, e1, j1⟩
 try dsimp only at e1 j1
 obtain ⟨p1, rfl⟩ : ∃ p, n1 = p + 1 := ⟨n1 - 1, by omega⟩
 simp
 refine cC (decide ((↑v1_0 : Int) < (↑a0.length : Int))) (fun k2 h1 => ?_) (fun k2 h1 => ?_)
 ·have q1 := h1; try simp at q1
  have i1 : v1_0 < a0.length := by simpa using h1
  have m2 : a0.length ≤ 9223372036854775807 := by simpa using k2 0 _ rfl
  have w1 : IntKind.i64.wrap ((v1_0 : Int) + 1) = (v1_0 : Int) + 1 := wrap_of (by omega) (by omega)
  simp [i1, rowAt_map]
  repeat with_reducible refine sd ?_
  refine cD [] (l_toArchive_okI (nth a0 v1_0) (sg (sm_nth u0))) ?_
  have i2 : v1_0 < v1_1.length := il
  simp [i2, rowAt_map]
  repeat with_reducible refine sd ?_
  refine stMI (t := 7) (j := 0) (i := v1_0) (c := 0) (size := 2) (rows := (v1_1.map TArchive.row)) (ds := (nth a0 v1_0).row) (L := [(20, 1)]) rfl rfl rfl rfl (by simp) (by simp) (by simp; try omega) (by simp) (by simp) (by simp) (by simp) (by simp) (by simp) ?_
  simp [set_map (x := (nth a0 v1_0)) rfl, i2, rowAt_map, rowAt_set_self]
  repeat with_reducible refine sd ?_
  refine nxtI ⟨(p1, (v1_0 + 1), (v1_1.set v1_0 (nth a0 v1_0))), ?_, ?_⟩ (by simp) (wk_keep (by simp [w1]))
  · rw [← e1]; simp only [l_toArchiveS_1, h1, cond_t, cond_f]
  · first | omega | (simp at *; omega)
 ·have q1 := h1; try simp at q1
  have x1 : l_toArchiveS_1 a0 (a0.length + 1) 0 (List.replicate a0.length (TArchive.mk 0 ([] : List TItem))) = v1_1 := by rw [← e1]; simp only [l_toArchiveS_1, h1, cond_t, cond_f]
  simp
  refine retD (rv := [.tmp 2]) rfl ?_
  have f1 := l_toArchiveS.eq_1 a0; simp only [x1, cond_t, cond_f] at f1; simp [f1]
theorem l_toArchiveS_okI (a0 : List TArchive) (u0 : Sm 2310144 a0) : SoundD Tryz.prog 54 [[.sl 2 (a0.map TArchive.row)]] [[.sl 2 (a0.map TArchive.row)]] := by
  have h := l_toArchiveS_ok a0 u0
  rwa [l_toArchiveS_id] at h
theorem l_toWorld_ok (a0 : TWorld) (u0 : Sm 2306048 a0) : SoundD Tryz.prog 15 [a0.row] [(l_toWorld a0).row] := by
 refine sound_ofD Tryz.func15 rfl (by kernel_rfl) ?_
 simp [Tryz.ntmps15]
 refine cD [false, false, false] (l_toFrame_okI a0.Frame (sg (TWorld.sm_Frame u0))) ?_
 simp
 refine cD [false] (l_toCertS_okI a0.Certs (sg (TWorld.sm_Certs u0))) ?_
 simp
 refine cD [false] (l_toIntS_okI a0.Ended (sg (TWorld.sm_Ended u0))) ?_
 simp
 refine cD [] (l_toArchiveS_okI a0.Archives (sg (TWorld.sm_Archives u0))) ?_
 simp
 refine cD [false] (l_toIntS_okI a0.Seqs (sg (TWorld.sm_Seqs u0))) ?_
 simp
 refine cD [false] (l_toIntS_okI a0.Lying (sg (TWorld.sm_Lying u0))) ?_
 simp
 refine cD [false] (l_toIntS_okI a0.Forged (sg (TWorld.sm_Forged u0))) ?_
 simp
 refine retD (rv := [.cell 2 42]) rfl ?_
 have f1 := l_toWorld.eq_1 a0; simp [f1]
theorem l_toWorld_okI (a0 : TWorld) (u0 : Sm 2306048 a0) : SoundD Tryz.prog 15 [a0.row] [a0.row] := by
  have h := l_toWorld_ok a0 u0
  rwa [l_toWorld_id] at h
theorem s_l33Frame_ok (a0 : TFrame) (u0 : Sm 2342912 a0) : SoundD Tryz.prog 128 [a0.row] [(s_l33Frame a0).row] := by
 refine sound_ofD Tryz.func128 rfl (by kernel_rfl) ?_
 have c1 : a0.Keys.length ≤ 2342912 := sm_len (by simp (maxDischargeDepth := 12) [u0])
 have c2 : a0.Authorities.length ≤ 2342912 := sm_len (by simp (maxDischargeDepth := 12) [u0])
 have c3 : a0.Methods.length ≤ 2342912 := sm_len (by simp (maxDischargeDepth := 12) [u0])
 simp [Tryz.ntmps128]
 repeat with_reducible refine sd ?_
 refine retD (rv := [.cell 2 38]) rfl ?_
 have f1 := s_l33Frame.eq_1 a0; simp [f1]
theorem s_l33Frame_okI (a0 : TFrame) (u0 : Sm 2342912 a0) : SoundD Tryz.prog 128 [a0.row] [a0.row] := by
  have h := s_l33Frame_ok a0 u0
  rwa [s_l33Frame_id] at h
theorem s_l6Copy_ok (a0 : TDocument) (u0 : Sm 2342912 a0) : SoundD Tryz.prog 154 [a0.row] [(s_l6Copy a0).row] := by
 refine sound_ofD Tryz.func154 rfl (by kernel_rfl) ?_
 simp [Tryz.ntmps154]
 refine okD fun k1 => ?_
 refine drawP [2, 3, 4, 5, 6, 7, 8, 9, 0, 1, 10, 11] mixed (by kernel_rfl) (by kernel_rfl) (by kernel_rfl) ?_
 have c1 : a0.Parts.length ≤ 2342912 := sm_len (by simp (maxDischargeDepth := 12) [u0])
 have c2 : a0.Salts.length ≤ 2342912 := sm_len (by simp (maxDischargeDepth := 12) [u0])
 simp
 repeat with_reducible refine sd ?_
 refine retD (rv := [.cell 2 59]) rfl ?_
 have f1 := s_l6Copy.eq_1 a0; simp [f1]
theorem s_l6Copy_okI (a0 : TDocument) (u0 : Sm 2342912 a0) : SoundD Tryz.prog 154 [a0.row] [a0.row] := by
  have h := s_l6Copy_ok a0 u0
  rwa [s_l6Copy_id] at h
theorem s_l18Copy_ok (a0 : TPiece) (u0 : Sm 2342912 a0) : SoundD Tryz.prog 204 [a0.row] [(s_l18Copy a0).row] := by
 refine sound_ofD Tryz.func204 rfl (by kernel_rfl) ?_
 simp [Tryz.ntmps204]
 refine okD fun k1 => ?_
 refine drawP [2, 3, 4, 5, 0, 1, 6, 7, 8, 9] mixed (by kernel_rfl) (by kernel_rfl) (by kernel_rfl) ?_
 have c1 : a0.Ints.length ≤ 2342912 := sm_len (by simp (maxDischargeDepth := 12) [u0])
 simp
 repeat with_reducible refine sd ?_
 refine retD (rv := [.cell 2 110]) rfl ?_
 have f1 := s_l18Copy.eq_1 a0; simp [f1]
theorem s_l18Copy_okI (a0 : TPiece) (u0 : Sm 2342912 a0) : SoundD Tryz.prog 204 [a0.row] [a0.row] := by
  have h := s_l18Copy_ok a0 u0
  rwa [s_l18Copy_id] at h
theorem s_l18All_ok (a0 : List TPiece) (u0 : Sm 2338816 a0) : SoundAt Tryz.prog 246 true [[.sl 3 (a0.map TPiece.row)]] [[.sl 3 ((s_l18All a0).map TPiece.row)]] := by
 refine sound_of Tryz.func246 rfl (by kernel_rfl) ?_
 simp [Tryz.ntmps246]
 refine evI rfl rfl rfl ?_
 simp
 refine okL fun k1 => ?_
 refine loopI (ι := { s : Nat × (List TPiece) × Nat // s_l18All_1 a0 s.1 s.2.1 s.2.2 = s_l18All_1 a0 (a0.length + 1) ([] : List TPiece) 0 ∧ (1 ≤ s.1 ∧ a0.length < s.1 + s.2.2 ∧ s.2.2 ≤ a0.length ∧ s.2.1.length ≤ 0 + 1 * s.2.2) }) (fun s => stOf 21 [eL 0 3 a0 TPiece.row, (3, .one (.sref 3 0 0 s.1.2.1.length), [.arr false 3 (s.1.2.1.map TPiece.row)]), eI 4 (↑s.1.2.2 : Int)]) (fun s => s.1.1) ⟨((a0.length + 1), ([] : List TPiece), 0), rfl, by first | omega | (dsimp only; omega) | simp⟩ (wk_of [((3, 0), some (5, 0))] [] rfl (by simp)) ?_
 rintro ⟨⟨n1, v1_0, v1_1⟩, e1, j1⟩
 try dsimp only at e1 j1
 obtain ⟨p1, rfl⟩ : ∃ p, n1 = p + 1 := ⟨n1 - 1, by omega⟩
 simp
 refine cC (decide ((↑v1_1 : Int) < (↑a0.length : Int))) (fun k2 h1 => ?_) (fun k2 h1 => ?_)
 ·have q1 := h1; try simp at q1
  have i1 : v1_1 < a0.length := by simpa using h1
  have m2 : a0.length ≤ 9223372036854775807 := by simpa using k2 0 _ rfl
  have c1 : a0.length ≤ 2338816 := sm_len (by simp (maxDischargeDepth := 12) [u0])
  have w1 : IntKind.i64.wrap ((v1_1 : Int) + 1) = (v1_1 : Int) + 1 := wrap_of (by omega) (by omega)
  simp [i1, rowAt_map]
  repeat with_reducible refine sd ?_
  refine cR (SoundD.rd (s_l18Copy_okI (nth a0 v1_1) (sg (sm_nth u0)))) ?_
  simp
  refine evI rfl rfl rfl ?_
  simp
  refine evI rfl rfl rfl ?_
  simp
  repeat with_reducible refine sd ?_
  refine nxtI ⟨(p1, (v1_0 ++ ([(nth a0 v1_1)] : List TPiece)), (v1_1 + 1)), ?_, ?_⟩ (by simp) (wk_of [((3, 0), some (19, 0))] [] rfl (by simp [w1]))
  · rw [← e1]; simp only [s_l18All_1, h1, cond_t, cond_f]
  · first | omega | (simp at *; omega)
 ·have q1 := h1; try simp at q1
  have c2 : a0.length ≤ 2338816 := sm_len (by simp (maxDischargeDepth := 12) [u0])
  have x1 : s_l18All_1 a0 (a0.length + 1) ([] : List TPiece) 0 = v1_0 := by rw [← e1]; simp only [s_l18All_1, h1, cond_t, cond_f]
  simp
  refine retOwn (rv := [.tmp 2]) rfl ?_
  have f1 := s_l18All.eq_1 a0; simp only [x1, cond_t, cond_f] at f1; simp [f1]
theorem s_l18All_okI (a0 : List TPiece) (u0 : Sm 2338816 a0) : SoundAt Tryz.prog 246 true [[.sl 3 (a0.map TPiece.row)]] [[.sl 3 (a0.map TPiece.row)]] := by
  have h := s_l18All_ok a0 u0
  rwa [s_l18All_id] at h
theorem s_l19Copy_ok (a0 : TRenewal) (u0 : Sm 2342912 a0) : SoundD Tryz.prog 231 [a0.row] [(s_l19Copy a0).row] := by
 refine sound_ofD Tryz.func231 rfl (by kernel_rfl) ?_
 have c1 : a0.Path.length ≤ 2342912 := sm_len (by simp (maxDischargeDepth := 12) [u0])
 have c2 : a0.Stamps.length ≤ 2342912 := sm_len (by simp (maxDischargeDepth := 12) [u0])
 simp [Tryz.ntmps231]
 repeat with_reducible refine sd ?_
 refine retD (rv := [.cell 2 196]) rfl ?_
 have f1 := s_l19Copy.eq_1 a0; simp [f1]
theorem s_l19Copy_okI (a0 : TRenewal) (u0 : Sm 2342912 a0) : SoundD Tryz.prog 231 [a0.row] [a0.row] := by
  have h := s_l19Copy_ok a0 u0
  rwa [s_l19Copy_id] at h
theorem s_l20Copy_ok (a0 : TStrand) (u0 : Sm 2334720 a0) : SoundAt Tryz.prog 200 true [a0.row] [(s_l20Copy a0).row] := by
 refine sound_of Tryz.func200 rfl (by kernel_rfl) ?_
 simp [Tryz.ntmps200]
 refine cO (s_l18All_okI a0.Pieces (sg (TStrand.sm_Pieces u0))) ?_
 simp
 refine okL fun k1 => ?_
 refine loopI (ι := { s : Nat × Nat × (List TRenewal) // s_l20Copy_1 a0 s.1 s.2.1 s.2.2 = s_l20Copy_1 a0 (a0.Chain.length + 1) 0 ([] : List TRenewal) ∧ (1 ≤ s.1 ∧ a0.Chain.length < s.1 + s.2.1 ∧ s.2.1 ≤ a0.Chain.length ∧ s.2.2.length ≤ 0 + 1 * s.2.1) }) (fun s => stOf 28 [eX 1 (a0.row.map .d), (2, .one (.bptr 2 0), [.box [.nil 3, .nil 5]]), (3, .one (.bptr 3 0), [.box [.sref 7 0 0 a0.Pieces.length, .sref 3 2 0 s.1.2.2.length], .none, .arr false 5 (s.1.2.2.map TRenewal.row)]), eI 4 (↑s.1.2.1 : Int), (7, .any, [.arr false 3 (a0.Pieces.map TPiece.row)])]) (fun s => s.1.1) ⟨((a0.Chain.length + 1), 0, ([] : List TRenewal)), rfl, by first | omega | (dsimp only; omega) | simp⟩ (wk_of [((3, 2), none)] [] rfl (by simp)) ?_
 rintro ⟨⟨n1, v1_0, v1_1⟩, e1, j1⟩
 try dsimp only at e1 j1
 obtain ⟨p1, rfl⟩ : ∃ p, n1 = p + 1 := ⟨n1 - 1, by omega⟩
 simp
 refine cC (decide ((↑v1_0 : Int) < (↑a0.Chain.length : Int))) (fun k2 h1 => ?_) (fun k2 h1 => ?_)
 ·have q1 := h1; try simp at q1
  have i1 : v1_0 < a0.Chain.length := by simpa using h1
  have m2 : a0.Chain.length ≤ 9223372036854775807 := by simpa using k2 11 _ rfl
  have c1 : a0.Chain.length ≤ 2334720 := sm_len (by simp (maxDischargeDepth := 12) [u0])
  have w1 : IntKind.i64.wrap ((v1_0 : Int) + 1) = (v1_0 : Int) + 1 := wrap_of (by omega) (by omega)
  simp
  refine okD fun k3 => ?_
  refine drawI mixed (by kernel_rfl) (by kernel_rfl) ?_
  simp [i1, rowAt_map]
  repeat with_reducible refine sd ?_
  refine cR (SoundD.rd (s_l19Copy_okI (nth a0.Chain v1_0) (sg (sm_nth (TStrand.sm_Chain u0))))) ?_
  simp
  refine evI rfl rfl rfl ?_
  simp
  refine evI rfl rfl rfl ?_
  simp
  repeat with_reducible refine sd ?_
  refine nxtI ⟨(p1, (v1_0 + 1), (v1_1 ++ ([(nth a0.Chain v1_0)] : List TRenewal))), ?_, ?_⟩ (by simp) (wk_of [((3, 2), some (25, 0))] [] rfl (by simp [w1]))
  · rw [← e1]; simp only [s_l20Copy_1, h1, cond_t, cond_f]
  · first | omega | (simp at *; omega)
 ·have q1 := h1; try simp at q1
  have c2 : a0.Chain.length ≤ 2334720 := sm_len (by simp (maxDischargeDepth := 12) [u0])
  have x1 : s_l20Copy_1 a0 (a0.Chain.length + 1) 0 ([] : List TRenewal) = v1_1 := by rw [← e1]; simp only [s_l20Copy_1, h1, cond_t, cond_f]
  simp
  refine retOwn (rv := [.cell 2 100]) rfl ?_
  have f1 := s_l20Copy.eq_1 a0; simp only [x1, cond_t, cond_f] at f1; simp [f1]
theorem s_l20Copy_okI (a0 : TStrand) (u0 : Sm 2334720 a0) : SoundAt Tryz.prog 200 true [a0.row] [a0.row] := by
  have h := s_l20Copy_ok a0 u0
  rwa [s_l20Copy_id] at h
theorem s_l28Item_ok (a0 : TItem) (u0 : Sm 2330624 a0) : SoundAt Tryz.prog 137 true [a0.row] [(s_l28Item a0).row] := by
 refine sound_of Tryz.func137 rfl (by kernel_rfl) ?_
 simp [Tryz.ntmps137]
 refine cD [true, false, false] (s_l6Copy_okI a0.Doc (sg (TItem.sm_Doc u0))) ?_
 simp
 refine cO (s_l20Copy_okI a0.Strand (sg (TItem.sm_Strand u0))) ?_
 simp
 refine retOwn (rv := [.cell 2 104]) rfl ?_
 have f1 := s_l28Item.eq_1 a0; simp [f1]
theorem s_l28Item_okI (a0 : TItem) (u0 : Sm 2330624 a0) : SoundAt Tryz.prog 137 true [a0.row] [a0.row] := by
  have h := s_l28Item_ok a0 u0
  rwa [s_l28Item_id] at h
theorem s_l28Copy_ok (a0 : TArchive) (u0 : Sm 2326528 a0) : SoundAt Tryz.prog 129 true [a0.row] [(s_l28Copy a0).row] := by
 refine sound_of Tryz.func129 rfl (by kernel_rfl) ?_
 simp [Tryz.ntmps129]
 refine okL fun k1 => ?_
 refine loopI (ι := { s : Nat × Nat × (List TItem) // s_l28Copy_1 a0 s.1 s.2.1 s.2.2 = s_l28Copy_1 a0 (a0.Items.length + 1) 0 ([] : List TItem) ∧ (1 ≤ s.1 ∧ a0.Items.length < s.1 + s.2.1 ∧ s.2.1 ≤ a0.Items.length ∧ s.2.2.length ≤ 0 + 1 * s.2.1) }) (fun s => stOf 27 [eX 1 (a0.row.map .d), (2, .one (.bptr 2 0), [.box [.d (.int .i64 0), .nil 16]]), (3, .one (.bptr 3 0), [.box [.d (.int .i64 a0.Id), .sref 3 2 0 s.1.2.2.length], .none, .arr false 16 (s.1.2.2.map TItem.row)]), eI 4 (↑s.1.2.1 : Int)]) (fun s => s.1.1) ⟨((a0.Items.length + 1), 0, ([] : List TItem)), rfl, by first | omega | (dsimp only; omega) | simp⟩ (wk_of [((3, 2), none)] [] rfl (by simp)) ?_
 rintro ⟨⟨n1, v1_0, v1_1⟩, e1, j1⟩
 try dsimp only at e1 j1
 obtain ⟨p1, rfl⟩ : ∃ p, n1 = p + 1 := ⟨n1 - 1, by omega⟩
 simp
 refine cC (decide ((↑v1_0 : Int) < (↑a0.Items.length : Int))) (fun k2 h1 => ?_) (fun k2 h1 => ?_)
 ·have q1 := h1; try simp at q1
  have i1 : v1_0 < a0.Items.length := by simpa using h1
  have m2 : a0.Items.length ≤ 9223372036854775807 := by simpa using k2 10 _ rfl
  have c1 : a0.Items.length ≤ 2326528 := sm_len (by simp (maxDischargeDepth := 12) [u0])
  have w1 : IntKind.i64.wrap ((v1_0 : Int) + 1) = (v1_0 : Int) + 1 := wrap_of (by omega) (by omega)
  simp
  refine okD fun k3 => ?_
  refine drawI mixed (by kernel_rfl) (by kernel_rfl) ?_
  simp [i1, rowAt_map]
  repeat with_reducible refine sd ?_
  refine cR (s_l28Item_okI (nth a0.Items v1_0) (sg (sm_nth (TArchive.sm_Items u0)))) ?_
  simp
  refine evI rfl rfl rfl ?_
  simp
  refine evI rfl rfl rfl ?_
  simp
  repeat with_reducible refine sd ?_
  refine nxtI ⟨(p1, (v1_0 + 1), (v1_1 ++ ([(nth a0.Items v1_0)] : List TItem))), ?_, ?_⟩ (by simp) (wk_of [((3, 2), some (24, 0))] [] rfl (by simp [w1]))
  · rw [← e1]; simp only [s_l28Copy_1, h1, cond_t, cond_f]
  · first | omega | (simp at *; omega)
 ·have q1 := h1; try simp at q1
  have c2 : a0.Items.length ≤ 2326528 := sm_len (by simp (maxDischargeDepth := 12) [u0])
  have x1 : s_l28Copy_1 a0 (a0.Items.length + 1) 0 ([] : List TItem) = v1_1 := by rw [← e1]; simp only [s_l28Copy_1, h1, cond_t, cond_f]
  simp
  refine retOwn (rv := [.cell 2 92]) rfl ?_
  have f1 := s_l28Copy.eq_1 a0; simp only [x1, cond_t, cond_f] at f1; simp [f1]
theorem s_l28Copy_okI (a0 : TArchive) (u0 : Sm 2326528 a0) : SoundAt Tryz.prog 129 true [a0.row] [a0.row] := by
  have h := s_l28Copy_ok a0 u0
  rwa [s_l28Copy_id] at h
theorem s_l33Copy_ok (a0 : TWorld) (u0 : Sm 2322432 a0) : SoundAt Tryz.prog 63 true [a0.row] [(s_l33Copy a0).row] := by
 refine sound_of Tryz.func63 rfl (by kernel_rfl) ?_
 simp [Tryz.ntmps63]
 refine okD fun k1 => ?_
 refine drawP [0, 1, 2, 3, 4, 5, 6, 7, 8, 9, 10, 11, 12, 13, 14, 15, 16, 17, 18, 21, 22, 23, 24, 19, 20, 25, 26, 27] mixed (by kernel_rfl) (by kernel_rfl) (by kernel_rfl) ?_
 simp
 refine cD [false, false, false] (s_l33Frame_okI a0.Frame (sg (TWorld.sm_Frame u0))) ?_
 have c1 : a0.Certs.length ≤ 2322432 := sm_len (by simp (maxDischargeDepth := 12) [u0])
 have c2 : a0.Ended.length ≤ 2322432 := sm_len (by simp (maxDischargeDepth := 12) [u0])
 have c3 : a0.Seqs.length ≤ 2322432 := sm_len (by simp (maxDischargeDepth := 12) [u0])
 have c4 : a0.Lying.length ≤ 2322432 := sm_len (by simp (maxDischargeDepth := 12) [u0])
 have c5 : a0.Forged.length ≤ 2322432 := sm_len (by simp (maxDischargeDepth := 12) [u0])
 simp
 repeat with_reducible refine sd ?_
 refine okL fun k2 => ?_
 refine loopI (ι := { s : Nat × Nat × (List TArchive) // s_l33Copy_1 a0 s.1 s.2.1 s.2.2 = s_l33Copy_1 a0 (a0.Archives.length + 1) 0 ([] : List TArchive) ∧ (1 ≤ s.1 ∧ a0.Archives.length < s.1 + s.2.1 ∧ s.2.1 ≤ a0.Archives.length ∧ s.2.2.length ≤ 0 + 1 * s.2.1) }) (fun s => stOf 50 [eX 1 (a0.row.map .d), (2, .one (.bptr 2 0), [.box [.nil 5, .nil 3, .nil 4, .d (.int .i64 0), .d (.int .i64 0), .nil 7, .nil 1, .nil 2, .nil 1, .nil 1, .d (.int .i64 0), .nil 1]]), (3, .one (.bptr 3 0), [.box [.sref 7 0 0 a0.Frame.Keys.length, .sref 7 1 0 a0.Frame.Authorities.length, .sref 7 2 0 a0.Frame.Methods.length, .d (.int .i64 a0.Frame.Liars), .d (.int .i64 a0.Frame.Now), .sref 11 0 0 a0.Certs.length, .sref 15 0 0 a0.Ended.length, .sref 3 8 0 s.1.2.2.length, .sref 19 0 0 a0.Seqs.length, .sref 23 0 0 a0.Lying.length, .d (.int .i64 a0.Next), .sref 29 0 0 a0.Forged.length], .none, .none, .none, .none, .none, .none, .none, .arr false 2 (s.1.2.2.map TArchive.row)]), eI 4 (↑s.1.2.1 : Int), (7, .any, [.arr false 5 (a0.Frame.Keys.map TKey.row), .arr false 3 (a0.Frame.Authorities.map TAuthority.row), .arr false 4 (a0.Frame.Methods.map TMethod.row)]), (11, .any, [.arr false 7 (a0.Certs.map TCert.row)]), (15, .any, [.arr false 1 (a0.Ended.map iR)]), (19, .any, [.arr false 1 (a0.Seqs.map iR)]), (23, .any, [.arr false 1 (a0.Lying.map iR)]), (29, .any, [.arr false 1 (a0.Forged.map iR)])]) (fun s => s.1.1) ⟨((a0.Archives.length + 1), 0, ([] : List TArchive)), rfl, by first | omega | (dsimp only; omega) | simp⟩ (wk_of [((3, 8), none)] [] rfl (by simp)) ?_
 rintro ⟨⟨n1, v1_0, v1_1⟩, e1, j1⟩
 try dsimp only at e1 j1
 obtain ⟨p1, rfl⟩ : ∃ p, n1 = p + 1 := ⟨n1 - 1, by omega⟩
 simp
 refine cC (decide ((↑v1_0 : Int) < (↑a0.Archives.length : Int))) (fun k3 h1 => ?_) (fun k3 h1 => ?_)
 ·have q1 := h1; try simp at q1
  have i1 : v1_0 < a0.Archives.length := by simpa using h1
  have m2 : a0.Archives.length ≤ 9223372036854775807 := by simpa using k3 33 _ rfl
  have c6 : a0.Archives.length ≤ 2322432 := sm_len (by simp (maxDischargeDepth := 12) [u0])
  have w1 : IntKind.i64.wrap ((v1_0 : Int) + 1) = (v1_0 : Int) + 1 := wrap_of (by omega) (by omega)
  simp
  refine okD fun k4 => ?_
  refine drawI mixed (by kernel_rfl) (by kernel_rfl) ?_
  simp [i1, rowAt_map]
  repeat with_reducible refine sd ?_
  refine cR (s_l28Copy_okI (nth a0.Archives v1_0) (sg (sm_nth (TWorld.sm_Archives u0)))) ?_
  simp
  refine evI rfl rfl rfl ?_
  simp
  refine evI rfl rfl rfl ?_
  simp
  repeat with_reducible refine sd ?_
  refine nxtI ⟨(p1, (v1_0 + 1), (v1_1 ++ ([(nth a0.Archives v1_0)] : List TArchive))), ?_, ?_⟩ (by simp) (wk_of [((3, 8), some (47, 0))] [] rfl (by simp [w1]))
  · rw [← e1]; simp only [s_l33Copy_1, h1, cond_t, cond_f]
  · first | omega | (simp at *; omega)
 ·have q1 := h1; try simp at q1
  have c7 : a0.Archives.length ≤ 2322432 := sm_len (by simp (maxDischargeDepth := 12) [u0])
  have x1 : s_l33Copy_1 a0 (a0.Archives.length + 1) 0 ([] : List TArchive) = v1_1 := by rw [← e1]; simp only [s_l33Copy_1, h1, cond_t, cond_f]
  simp
  refine retOwn (rv := [.cell 2 42]) rfl ?_
  have f1 := s_l33Copy.eq_1 a0; simp only [x1, cond_t, cond_f] at f1; simp [f1]
theorem s_l33Copy_okI (a0 : TWorld) (u0 : Sm 2322432 a0) : SoundAt Tryz.prog 63 true [a0.row] [a0.row] := by
  have h := s_l33Copy_ok a0 u0
  rwa [s_l33Copy_id] at h
theorem s_FindKey_ok (a0 : List TKey) (a1 : Int) : SoundAt Tryz.prog 77 false [[.sl 5 (a0.map TKey.row)], [.int .i64 a1]] [[.int .i64 (s_FindKey a0 a1)]] := by
 refine sound_of Tryz.func77 rfl (by kernel_rfl) ?_
 simp [Tryz.ntmps77]
 refine okL fun k1 => ?_
 refine loopI (ι := { s : Nat × Nat // s_FindKey_1 a0 a1 s.1 s.2 = s_FindKey_1 a0 a1 (a0.length + 1) 0 ∧ (1 ≤ s.1 ∧ a0.length < s.1 + s.2 ∧ s.2 ≤ a0.length) }) (fun s => stOf 20 [eL 0 5 a0 TKey.row, eI 1 a1, eI 5 (↑s.1.2 : Int)]) (fun s => s.1.1) ⟨((a0.length + 1), 0), rfl, by first | omega | (dsimp only; omega) | simp⟩ (wk_keep (by simp)) ?_
 rintro ⟨⟨n1, v1_0⟩, e1, j1⟩
 try dsimp only at e1 j1
 obtain ⟨p1, rfl⟩ : ∃ p, n1 = p + 1 := ⟨n1 - 1, by omega⟩
 simp
 refine cC (decide ((↑v1_0 : Int) < (↑a0.length : Int))) (fun k2 h1 => ?_) (fun k2 h1 => ?_)
 ·have q1 := h1; try simp at q1
  have i1 : v1_0 < a0.length := by simpa using h1
  have m2 : a0.length ≤ 9223372036854775807 := by simpa using k2 0 _ rfl
  have w1 : IntKind.i64.wrap ((v1_0 : Int) + 1) = (v1_0 : Int) + 1 := wrap_of (by omega) (by omega)
  simp [i1, rowAt_map]
  repeat with_reducible refine sd ?_
  refine cC ((nth a0 v1_0).Number == a1) (fun k3 h2 => ?_) (fun k3 h2 => ?_)
  ·have q2 := h2; try simp at q2
   have x1 : s_FindKey_1 a0 a1 (a0.length + 1) 0 = .inl (↑v1_0 : Int) := by rw [← e1]; simp only [s_FindKey_1, h1, h2, cond_t, cond_f]
   simp
   refine retRd (rv := [.tmp 4]) rfl ?_
   have f1 := s_FindKey.eq_1 a0 a1; simp only [x1, cond_t, cond_f] at f1; simp [f1]
  ·have q2 := h2; try simp at q2
   simp
   refine nxtI ⟨(p1, (v1_0 + 1)), ?_, ?_⟩ (by simp) (wk_keep (by simp [w1]))
   · rw [← e1]; simp only [s_FindKey_1, h1, h2, cond_t, cond_f]
   · first | omega | (simp at *; omega)
 ·have q1 := h1; try simp at q1
  have x2 : s_FindKey_1 a0 a1 (a0.length + 1) 0 = .inr () := by rw [← e1]; simp only [s_FindKey_1, h1, cond_t, cond_f]
  simp
  refine retRd (rv := [.tmp 4]) rfl ?_
  have f2 := s_FindKey.eq_1 a0 a1; simp only [x2, cond_t, cond_f] at f2; simp [f2]
theorem s_l1In_ok (a0 : Int) (a1 : Int) (a2 : Int) : SoundAt Tryz.prog 64 false [[.int .i64 a0], [.int .i64 a1], [.int .i64 a2]] [[.bool (s_l1In a0 a1 a2)]] := by
 refine sound_of Tryz.func64 rfl (by kernel_rfl) ?_
 simp [Tryz.ntmps64]
 refine retRd (rv := [.tmp 6]) rfl ?_
 have f1 := s_l1In.eq_1 a0 a1 a2; simp [f1]
theorem s_l34Has_ok (a0 : TWorld) (a1 : Int) : SoundAt Tryz.prog 70 false [a0.row, [.int .i64 a1]] [[.bool (s_l34Has a0 a1)]] := by
 refine sound_of Tryz.func70 rfl (by kernel_rfl) ?_
 simp [Tryz.ntmps70]
 refine cR (s_l1In_ok a1 0 (W ((↑a0.Archives.length : Int) - 1))) ?_
 simp
 refine retRd (rv := [.tmp 4]) rfl ?_
 have f1 := s_l34Has.eq_1 a0 a1; simp [f1]
theorem s_BestMethod_ok (a0 : List TMethod) (a1 : Int) : SoundAt Tryz.prog 91 false [[.sl 4 (a0.map TMethod.row)], [.int .i64 a1]] [[.int .i64 (s_BestMethod a0 a1)]] := by
 refine sound_of Tryz.func91 rfl (by kernel_rfl) ?_
 simp [Tryz.ntmps91]
 refine okL fun k1 => ?_
 refine loopI (ι := { s : Nat × Int × Nat // s_BestMethod_1 a0 a1 s.1 s.2.1 s.2.2 = s_BestMethod_1 a0 a1 (a0.length + 1) (-1) 0 ∧ (1 ≤ s.1 ∧ a0.length < s.1 + s.2.2 ∧ s.2.2 ≤ a0.length ∧ -1 ≤ s.2.1 ∧ s.2.1 < (a0.length : Int)) }) (fun s => stOf 54 [eL 0 4 a0 TMethod.row, eI 1 a1, eI 5 s.1.2.1, eI 6 (↑s.1.2.2 : Int)]) (fun s => s.1.1) ⟨((a0.length + 1), (-1), 0), rfl, by first | omega | (dsimp only; omega) | simp⟩ (wk_keep (by simp)) ?_
 rintro ⟨⟨n1, v1_0, v1_1⟩, e1, j1⟩
 try dsimp only at e1 j1
 obtain ⟨p1, rfl⟩ : ∃ p, n1 = p + 1 := ⟨n1 - 1, by omega⟩
 simp
 refine cC (decide ((↑v1_1 : Int) < (↑a0.length : Int))) (fun k2 h1 => ?_) (fun k2 h1 => ?_)
 ·have q1 := h1; try simp at q1
  have i1 : v1_1 < a0.length := by simpa using h1
  have m2 : a0.length ≤ 9223372036854775807 := by simpa using k2 0 _ rfl
  have w1 : IntKind.i64.wrap ((v1_1 : Int) + 1) = (v1_1 : Int) + 1 := wrap_of (by omega) (by omega)
  simp
  refine okD fun k3 => ?_
  refine drawI mixed (by kernel_rfl) (by kernel_rfl) ?_
  simp [i1, rowAt_map]
  repeat with_reducible refine sd ?_
  refine guardI rfl rfl rfl rfl rfl (by simp) (fun g1 => ?_) (fun g1 => ?_)
  ·have g1x := g1; try simp only [beq_true, beq_false, Bool.not_eq_true', Bool.not_eq_false', Bool.true_and, Bool.and_true] at g1x
   try simp at g1
   simp [i1, rowAt_map, g1x]
   repeat with_reducible refine sdg ?_
   refine guardI rfl rfl rfl rfl rfl (by simp) (fun g2 => ?_) (fun g2 => ?_)
   ·have g2x := g2; try simp only [beq_true, beq_false, Bool.not_eq_true', Bool.not_eq_false', Bool.true_and, Bool.and_true] at g2x
    try (have z := g2; simp [g1x] at z; done)
    all_goals
     try simp at g2
     all_goals
      simp [i1, rowAt_map, g1x, g2x]
      repeat with_reducible refine sdg ?_
      refine guardI rfl rfl rfl rfl rfl (by simp) (fun _ => ?_) (fun g0 => by simp [g1x, g2x] at g0)
      have i2 : v1_0.toNat < a0.length := il
      simp [i2, rowAt_map, g1x, g2x]
      repeat with_reducible refine sdg ?_
      refine condR (c := (((decide (a1 ≥ (nth a0 v1_1).Known)) && (decide (a1 < (nth a0 v1_1).Ends))) && ((decide (v1_0 < 0)) || (decide ((nth a0 v1_1).Ends > (nth a0 v1_0.toNat).Ends))))) (by first | (simp [g1x, g2x]; done) | grind) (fun k4 h2 => ?_) (fun k4 h2 => ?_)
      ·try (have z := h2; simp [g1x, g2x] at z; done)
       all_goals
        have q2 := h2; try simp at q2
        simp [g1x, g2x]
        repeat with_reducible refine sdg ?_
        refine nxtI ⟨(p1, (↑v1_1 : Int), (v1_1 + 1)), ?_, ?_⟩ (by simp) (wk_keep (by simp [w1, g1x, g2x]))
        · rw [← e1]; simp only [s_BestMethod_1, h1, h2, cond_t, cond_f]
        · first | omega | (simp at *; omega)
      ·try (have z := h2; simp [g1x, g2x] at z; done)
       all_goals
        have q2 := h2; try simp at q2
        simp [g1x, g2x]
        repeat with_reducible refine sdg ?_
        refine nxtI ⟨(p1, v1_0, (v1_1 + 1)), ?_, ?_⟩ (by simp) (wk_keep (by simp [w1, g1x, g2x]))
        · rw [← e1]; simp only [s_BestMethod_1, h1, h2, cond_t, cond_f]
        · first | omega | (simp at *; omega)
   ·have g2x := g2; try simp only [beq_true, beq_false, Bool.not_eq_true', Bool.not_eq_false', Bool.true_and, Bool.and_true] at g2x
    try (have z := g2; simp [g1x] at z; done)
    all_goals
     simp [g1x, g2x]
     repeat with_reducible refine sdg ?_
     refine skipG rfl rfl rfl rfl (by simp) (by simp [g1x, g2x]) ?_
     simp [g1x, g2x]
     repeat with_reducible refine sdg ?_
     refine condR (c := (((decide (a1 ≥ (nth a0 v1_1).Known)) && (decide (a1 < (nth a0 v1_1).Ends))) && ((decide (v1_0 < 0)) || (decide ((nth a0 v1_1).Ends > (nth a0 v1_0.toNat).Ends))))) (by first | (simp [g1x, g2x]; done) | grind) (fun k5 h3 => ?_) (fun k5 h3 => ?_)
     ·try (have z := h3; simp [g1x, g2x] at z; done)
      all_goals
       have q3 := h3; try simp at q3
       simp [g1x, g2x]
       repeat with_reducible refine sdg ?_
       refine nxtI ⟨(p1, (↑v1_1 : Int), (v1_1 + 1)), ?_, ?_⟩ (by simp) (wk_keep (by simp [w1, g1x, g2x]))
       · rw [← e1]; simp only [s_BestMethod_1, h1, h3, cond_t, cond_f]
       · first | omega | (simp at *; omega)
     ·try (have z := h3; simp [g1x, g2x] at z; done)
      all_goals
       have q3 := h3; try simp at q3
       simp [g1x, g2x]
       repeat with_reducible refine sdg ?_
       refine nxtI ⟨(p1, v1_0, (v1_1 + 1)), ?_, ?_⟩ (by simp) (wk_keep (by simp [w1, g1x, g2x]))
       · rw [← e1]; simp only [s_BestMethod_1, h1, h3, cond_t, cond_f]
       · first | omega | (simp at *; omega)
  ·have g1x := g1; try simp only [beq_true, beq_false, Bool.not_eq_true', Bool.not_eq_false', Bool.true_and, Bool.and_true] at g1x
   simp [g1x]
   repeat with_reducible refine sdg ?_
   refine guardI rfl rfl rfl rfl rfl (by simp) (fun g3 => ?_) (fun g3 => ?_)
   ·have g3x := g3; try simp only [beq_true, beq_false, Bool.not_eq_true', Bool.not_eq_false', Bool.true_and, Bool.and_true] at g3x
    try (have z := g3; simp [g1x] at z; done)
    all_goals
     try simp at g3
     all_goals
      simp [i1, rowAt_map, g1x, g3x]
      repeat with_reducible refine sdg ?_
      refine guardI rfl rfl rfl rfl rfl (by simp) (fun _ => ?_) (fun g0 => by simp [g1x, g3x] at g0)
      have i4 : v1_0.toNat < a0.length := il
      simp [i4, rowAt_map, g1x, g3x]
      repeat with_reducible refine sdg ?_
      refine condR (c := (((decide (a1 ≥ (nth a0 v1_1).Known)) && (decide (a1 < (nth a0 v1_1).Ends))) && ((decide (v1_0 < 0)) || (decide ((nth a0 v1_1).Ends > (nth a0 v1_0.toNat).Ends))))) (by first | (simp [g1x, g3x]; done) | grind) (fun k6 h4 => ?_) (fun k6 h4 => ?_)
      ·try (have z := h4; simp [g1x, g3x] at z; done)
       all_goals
        have q4 := h4; try simp at q4
        simp [g1x, g3x]
        repeat with_reducible refine sdg ?_
        refine nxtI ⟨(p1, (↑v1_1 : Int), (v1_1 + 1)), ?_, ?_⟩ (by simp) (wk_keep (by simp [w1, g1x, g3x]))
        · rw [← e1]; simp only [s_BestMethod_1, h1, h4, cond_t, cond_f]
        · first | omega | (simp at *; omega)
      ·try (have z := h4; simp [g1x, g3x] at z; done)
       all_goals
        have q4 := h4; try simp at q4
        simp [g1x, g3x]
        repeat with_reducible refine sdg ?_
        refine nxtI ⟨(p1, v1_0, (v1_1 + 1)), ?_, ?_⟩ (by simp) (wk_keep (by simp [w1, g1x, g3x]))
        · rw [← e1]; simp only [s_BestMethod_1, h1, h4, cond_t, cond_f]
        · first | omega | (simp at *; omega)
   ·have g3x := g3; try simp only [beq_true, beq_false, Bool.not_eq_true', Bool.not_eq_false', Bool.true_and, Bool.and_true] at g3x
    try (have z := g3; simp [g1x] at z; done)
    all_goals
     simp [g1x, g3x]
     repeat with_reducible refine sdg ?_
     refine skipG rfl rfl rfl rfl (by simp) (by simp [g1x, g3x]) ?_
     simp [g1x, g3x]
     repeat with_reducible refine sdg ?_
     refine condR (c := (((decide (a1 ≥ (nth a0 v1_1).Known)) && (decide (a1 < (nth a0 v1_1).Ends))) && ((decide (v1_0 < 0)) || (decide ((nth a0 v1_1).Ends > (nth a0 v1_0.toNat).Ends))))) (by first | (simp [g1x, g3x]; done) | grind) (fun k7 h5 => ?_) (fun k7 h5 => ?_)
     ·try (have z := h5; simp [g1x, g3x] at z; done)
      all_goals
       have q5 := h5; try simp at q5
       simp [g1x, g3x]
       repeat with_reducible refine sdg ?_
       refine nxtI ⟨(p1, (↑v1_1 : Int), (v1_1 + 1)), ?_, ?_⟩ (by simp) (wk_keep (by simp [w1, g1x, g3x]))
       · rw [← e1]; simp only [s_BestMethod_1, h1, h5, cond_t, cond_f]
       · first | omega | (simp at *; omega)
     ·try (have z := h5; simp [g1x, g3x] at z; done)
      all_goals
       have q5 := h5; try simp at q5
       simp [g1x, g3x]
       repeat with_reducible refine sdg ?_
       refine nxtI ⟨(p1, v1_0, (v1_1 + 1)), ?_, ?_⟩ (by simp) (wk_keep (by simp [w1, g1x, g3x]))
       · rw [← e1]; simp only [s_BestMethod_1, h1, h5, cond_t, cond_f]
       · first | omega | (simp at *; omega)
 ·have q1 := h1; try simp at q1
  have x1 : s_BestMethod_1 a0 a1 (a0.length + 1) (-1) 0 = v1_0 := by rw [← e1]; simp only [s_BestMethod_1, h1, cond_t, cond_f]
  simp
  refine cC (decide (v1_0 < 0)) (fun k8 h6 => ?_) (fun k8 h6 => ?_)
  ·have q6 := h6; try simp at q6
   simp
   refine retRd (rv := [.tmp 4]) rfl ?_
   have f1 := s_BestMethod.eq_1 a0 a1; simp only [x1, h6, cond_t, cond_f] at f1; simp [f1]
  ·have q6 := h6; try simp at q6
   have i6 : v1_0.toNat < a0.length := il
   simp [i6, rowAt_map]
   repeat with_reducible refine sd ?_
   refine retRd (rv := [.tmp 4]) rfl ?_
   have f2 := s_BestMethod.eq_1 a0 a1; simp only [x1, h6, cond_t, cond_f] at f2; simp [f2]
theorem s_l34CertOf_ok (a0 : TWorld) (a1 : Int) : SoundAt Tryz.prog 151 false [a0.row, [.int .i64 a1]] [[.int .i64 (s_l34CertOf a0 a1)]] := by
 refine sound_of Tryz.func151 rfl (by kernel_rfl) ?_
 simp [Tryz.ntmps151]
 refine okL fun k1 => ?_
 refine loopI (ι := { s : Nat × Nat // s_l34CertOf_1 a0 a1 s.1 s.2 = s_l34CertOf_1 a0 a1 (a0.Certs.length + 1) 0 ∧ (1 ≤ s.1 ∧ a0.Certs.length < s.1 + s.2 ∧ s.2 ≤ a0.Certs.length) }) (fun s => stOf 22 [eI 1 a1, eX 2 (a0.row.map .d), eI 5 (↑s.1.2 : Int)]) (fun s => s.1.1) ⟨((a0.Certs.length + 1), 0), rfl, by first | omega | (dsimp only; omega) | simp⟩ (wk_keep (by simp)) ?_
 rintro ⟨⟨n1, v1_0⟩, e1, j1⟩
 try dsimp only at e1 j1
 obtain ⟨p1, rfl⟩ : ∃ p, n1 = p + 1 := ⟨n1 - 1, by omega⟩
 simp
 refine cC (decide ((↑v1_0 : Int) < (↑a0.Certs.length : Int))) (fun k2 h1 => ?_) (fun k2 h1 => ?_)
 ·have q1 := h1; try simp at q1
  have i1 : v1_0 < a0.Certs.length := by simpa using h1
  have m2 : a0.Certs.length ≤ 9223372036854775807 := by simpa using k2 8 _ rfl
  have w1 : IntKind.i64.wrap ((v1_0 : Int) + 1) = (v1_0 : Int) + 1 := wrap_of (by omega) (by omega)
  simp [i1, rowAt_map]
  repeat with_reducible refine sd ?_
  refine cC ((nth a0.Certs v1_0).Key == a1) (fun k3 h2 => ?_) (fun k3 h2 => ?_)
  ·have q2 := h2; try simp at q2
   have x1 : s_l34CertOf_1 a0 a1 (a0.Certs.length + 1) 0 = .inl (↑v1_0 : Int) := by rw [← e1]; simp only [s_l34CertOf_1, h1, h2, cond_t, cond_f]
   simp
   refine retRd (rv := [.tmp 4]) rfl ?_
   have f1 := s_l34CertOf.eq_1 a0 a1; simp only [x1, cond_t, cond_f] at f1; simp [f1]
  ·have q2 := h2; try simp at q2
   simp
   refine nxtI ⟨(p1, (v1_0 + 1)), ?_, ?_⟩ (by simp) (wk_keep (by simp [w1]))
   · rw [← e1]; simp only [s_l34CertOf_1, h1, h2, cond_t, cond_f]
   · first | omega | (simp at *; omega)
 ·have q1 := h1; try simp at q1
  have x2 : s_l34CertOf_1 a0 a1 (a0.Certs.length + 1) 0 = .inr () := by rw [← e1]; simp only [s_l34CertOf_1, h1, cond_t, cond_f]
  simp
  refine retRd (rv := [.tmp 4]) rfl ?_
  have f2 := s_l34CertOf.eq_1 a0 a1; simp only [x2, cond_t, cond_f] at f2; simp [f2]
theorem s_IsDocument_ok (a0 : TDocument) : SoundAt Tryz.prog 213 false [a0.row] [[.bool (s_IsDocument a0)]] := by
 refine sound_of Tryz.func213 rfl (by kernel_rfl) ?_
 simp [Tryz.ntmps213]
 refine okL fun k1 => ?_
 refine loopI (ι := { s : Nat × Nat // s_IsDocument_1 a0 s.1 s.2 = s_IsDocument_1 a0 (a0.Parts.length + 1) 0 ∧ (1 ≤ s.1 ∧ a0.Parts.length < s.1 + s.2 ∧ s.2 ≤ a0.Parts.length) }) (fun s => stOf 51 [eX 1 (a0.row.map .d), eI 3 (↑s.1.2 : Int)]) (fun s => s.1.1) ⟨((a0.Parts.length + 1), 0), rfl, by first | omega | (dsimp only; omega) | simp⟩ (wk_keep (by simp)) ?_
 rintro ⟨⟨n1, v1_0⟩, e1, j1⟩
 try dsimp only at e1 j1
 obtain ⟨p1, rfl⟩ : ∃ p, n1 = p + 1 := ⟨n1 - 1, by omega⟩
 simp
 refine cC (decide ((↑v1_0 : Int) < (↑a0.Parts.length : Int))) (fun k2 h1 => ?_) (fun k2 h1 => ?_)
 ·have q1 := h1; try simp at q1
  have i1 : v1_0 < a0.Parts.length := by simpa using h1
  have m2 : a0.Parts.length ≤ 9223372036854775807 := by simpa using k2 7 _ rfl
  have w1 : IntKind.i64.wrap ((v1_0 : Int) + 1) = (v1_0 : Int) + 1 := wrap_of (by omega) (by omega)
  simp [i1, rowAt_map]
  repeat with_reducible refine sd ?_
  refine cC (decide ((↑(nth a0.Parts v1_0).size : Int) > 40)) (fun k3 h2 => ?_) (fun k3 h2 => ?_)
  ·have q2 := h2; try simp at q2
   have x1 : s_IsDocument_1 a0 (a0.Parts.length + 1) 0 = .inl false := by rw [← e1]; simp only [s_IsDocument_1, h1, h2, cond_t, cond_f]
   simp
   refine retRd (rv := [.tmp 2]) rfl ?_
   have f1 := s_IsDocument.eq_1 a0; simp only [x1, cond_t, cond_f] at f1; simp [f1]
  ·have q2 := h2; try simp at q2
   simp
   refine nxtI ⟨(p1, (v1_0 + 1)), ?_, ?_⟩ (by simp) (wk_keep (by simp [w1]))
   · rw [← e1]; simp only [s_IsDocument_1, h1, h2, cond_t, cond_f]
   · first | omega | (simp at *; omega)
 ·have q1 := h1; try simp at q1
  have x2 : s_IsDocument_1 a0 (a0.Parts.length + 1) 0 = .inr () := by rw [← e1]; simp only [s_IsDocument_1, h1, cond_t, cond_f]
  simp
  refine okL fun k4 => ?_
  refine loopI (ι := { s : Nat × Nat // s_IsDocument_2 a0 s.1 s.2 = s_IsDocument_2 a0 (a0.Salts.length + 1) 0 ∧ (1 ≤ s.1 ∧ a0.Salts.length < s.1 + s.2 ∧ s.2 ≤ a0.Salts.length) }) (fun s => stOf 51 [eX 1 (a0.row.map .d), eI 4 (↑s.1.2 : Int)]) (fun s => s.1.1) ⟨((a0.Salts.length + 1), 0), rfl, by first | omega | (dsimp only; omega) | simp⟩ (wk_keep (by simp)) ?_
  rintro ⟨⟨n2, v2_0⟩, e2, j2⟩
  try dsimp only at e2 j2
  obtain ⟨p2, rfl⟩ : ∃ p, n2 = p + 1 := ⟨n2 - 1, by omega⟩
  simp
  refine cC (decide ((↑v2_0 : Int) < (↑a0.Salts.length : Int))) (fun k5 h3 => ?_) (fun k5 h3 => ?_)
  ·have q3 := h3; try simp at q3
   have i2 : v2_0 < a0.Salts.length := by simpa using h3
   have m4 : a0.Salts.length ≤ 9223372036854775807 := by simpa using k5 21 _ rfl
   have w2 : IntKind.i64.wrap ((v2_0 : Int) + 1) = (v2_0 : Int) + 1 := wrap_of (by omega) (by omega)
   simp [i2, rowAt_map]
   repeat with_reducible refine sd ?_
   refine cR (s_l1In_ok (nth a0.Salts v2_0) 1 1000000000000) ?_
   simp
   refine cC (!(s_l1In (nth a0.Salts v2_0) 1 1000000000000)) (fun k6 h4 => ?_) (fun k6 h4 => ?_)
   ·have q4 := h4; try simp [s_l1In] at q4
    have x3 : s_IsDocument_2 a0 (a0.Salts.length + 1) 0 = .inl false := by rw [← e2]; simp only [s_IsDocument_2, h3, h4, cond_t, cond_f]
    simp
    refine retRd (rv := [.tmp 2]) rfl ?_
    have f2 := s_IsDocument.eq_1 a0; simp only [x2, x3, cond_t, cond_f] at f2; simp [f2]
   ·have q4 := h4; try simp [s_l1In] at q4
    simp
    refine nxtI ⟨(p2, (v2_0 + 1)), ?_, ?_⟩ (by simp) (wk_keep (by simp [w2]))
    · rw [← e2]; simp only [s_IsDocument_2, h3, h4, cond_t, cond_f]
    · first | omega | (simp at *; omega)
  ·have q3 := h3; try simp at q3
   have x4 : s_IsDocument_2 a0 (a0.Salts.length + 1) 0 = .inr () := by rw [← e2]; simp only [s_IsDocument_2, h3, cond_t, cond_f]
   simp
   refine cR (s_l1In_ok a0.Title 0 999) ?_
   simp
   refine cG (fun gg => (s_l1In_ok (↑a0.Parts.length : Int) 1 6)) ?_
   simp
   refine retRd (rv := [.tmp 2]) rfl ?_
   have f3 := s_IsDocument.eq_1 a0; simp only [x2, x4, cond_t, cond_f] at f3; simp [f3]
theorem s_Mod_ok (a0 : Int) (a1 : Int) : SoundAt Tryz.prog 271 false [[.int .i64 a0], [.int .i64 a1]] [[.int .i64 (s_Mod a0 a1)]] := by
 refine sound_of Tryz.func271 rfl (by kernel_rfl) ?_
 simp [Tryz.ntmps271]
 refine cR (s_l1In_ok a1 1 1000000000000) ?_
 simp
 refine cC (!(s_l1In a1 1 1000000000000)) (fun k1 h1 => ?_) (fun k1 h1 => ?_)
 ·have q1 := h1; try simp [s_l1In] at q1
  simp
  refine retRd (rv := [.tmp 4]) rfl ?_
  have f1 := s_Mod.eq_1 a0 a1; simp only [h1, cond_t, cond_f] at f1; simp [f1]
 ·have q1 := h1; try simp [s_l1In] at q1
  simp
  repeat with_reducible refine sd ?_
  refine retRd (rv := [.tmp 4]) rfl ?_
  have f2 := s_Mod.eq_1 a0 a1; simp only [h1, cond_t, cond_f] at f2; simp [f2]
theorem s_Hash_ok (a0 : List Int) : SoundAt Tryz.prog 248 false [[.sl 1 (a0.map iR)]] [[.int .i64 (s_Hash a0)]] := by
 refine sound_of Tryz.func248 rfl (by kernel_rfl) ?_
 simp [Tryz.ntmps248]
 refine okL fun k1 => ?_
 refine loopI (ι := { s : Nat × Int × Nat // s_Hash_1 a0 s.1 s.2.1 s.2.2 = s_Hash_1 a0 (a0.length + 1) 11 0 ∧ (1 ≤ s.1 ∧ a0.length < s.1 + s.2.2 ∧ s.2.2 ≤ a0.length) }) (fun s => stOf 22 [eL 0 1 a0 iR, eI 3 s.1.2.1, eI 4 (↑s.1.2.2 : Int)]) (fun s => s.1.1) ⟨((a0.length + 1), 11, 0), rfl, by first | omega | (dsimp only; omega) | simp⟩ (wk_keep (by simp)) ?_
 rintro ⟨⟨n1, v1_0, v1_1⟩, e1, j1⟩
 try dsimp only at e1 j1
 obtain ⟨p1, rfl⟩ : ∃ p, n1 = p + 1 := ⟨n1 - 1, by omega⟩
 simp
 refine cC (decide ((↑v1_1 : Int) < (↑a0.length : Int))) (fun k2 h1 => ?_) (fun k2 h1 => ?_)
 ·have q1 := h1; try simp at q1
  have i1 : v1_1 < a0.length := by simpa using h1
  have m2 : a0.length ≤ 9223372036854775807 := by simpa using k2 0 _ rfl
  have w1 : IntKind.i64.wrap ((v1_1 : Int) + 1) = (v1_1 : Int) + 1 := wrap_of (by omega) (by omega)
  simp [i1, rowAt_map]
  repeat with_reducible refine sd ?_
  refine cR (s_Mod_ok (nth a0 v1_1) 2147483647) ?_
  simp
  refine nxtI ⟨(p1, (Int.tmod (W ((W ((W (v1_0 * 1000003)) + (s_Mod (nth a0 v1_1) 2147483647))) + 13)) 2147483647), (v1_1 + 1)), ?_, ?_⟩ (by simp) (wk_keep (by simp [w1]))
  · rw [← e1]; simp only [s_Hash_1, h1, cond_t, cond_f]
  · first | omega | (simp at *; omega)
 ·have q1 := h1; try simp at q1
  have x1 : s_Hash_1 a0 (a0.length + 1) 11 0 = v1_0 := by rw [← e1]; simp only [s_Hash_1, h1, cond_t, cond_f]
  simp
  refine retRd (rv := [.tmp 2]) rfl ?_
  have f1 := s_Hash.eq_1 a0; simp only [x1, cond_t, cond_f] at f1; simp [f1]
theorem s_DigestOf_ok (a0 : Int) (a1 : List Int) (u0 : Sm 68719476736 a1) : SoundAt Tryz.prog 215 false [[.int .i64 a0], [.sl 1 (a1.map iR)]] [[.int .i64 (s_DigestOf a0 a1)]] := by
 refine sound_of Tryz.func215 rfl (by kernel_rfl) ?_
 have c1 : a1.length ≤ 68719476736 := sm_len (by simp (maxDischargeDepth := 12) [u0])
 simp [Tryz.ntmps215]
 repeat with_reducible refine sd ?_
 refine cR (s_Hash_ok (([7, a0] : List Int) ++ a1)) ?_
 simp
 refine retRd (rv := [.tmp 4]) rfl ?_
 have f1 := s_DigestOf.eq_1 a0 a1; simp [f1]
theorem s_PartDigest_ok (a0 : Int) (a1 : ByteArray) (a2 : Int) (u0 : Sm 2326528 a1) : SoundAt Tryz.prog 214 false [[.int .i64 a0], [.str a1], [.int .i64 a2]] [[.int .i64 (s_PartDigest a0 a1 a2)]] := by
 refine sound_of Tryz.func214 rfl (by kernel_rfl) ?_
 simp [Tryz.ntmps214]
 refine okL fun k1 => ?_
 refine loopI (ι := { s : Nat × (List Int) × Nat // s_PartDigest_1 a1 s.1 s.2.1 s.2.2 = s_PartDigest_1 a1 (a1.size + 1) ([a2] : List Int) 0 ∧ (1 ≤ s.1 ∧ a1.size < s.1 + s.2.2 ∧ s.2.2 ≤ a1.size ∧ s.2.1.length ≤ 1 + 1 * s.2.2) }) (fun s => stOf 27 [eI 0 a0, (1, .one (.d (.str a1)), []), (7, .one (.sref 7 0 0 s.1.2.1.length), [.arr false 1 (s.1.2.1.map iR)]), eI 8 (↑s.1.2.2 : Int)]) (fun s => s.1.1) ⟨((a1.size + 1), ([a2] : List Int), 0), rfl, by first | omega | (dsimp only; omega) | simp⟩ (wk_of [((7, 0), some (10, 0))] [] rfl (by simp)) ?_
 rintro ⟨⟨n1, v1_0, v1_1⟩, e1, j1⟩
 try dsimp only at e1 j1
 obtain ⟨p1, rfl⟩ : ∃ p, n1 = p + 1 := ⟨n1 - 1, by omega⟩
 simp
 refine cC (decide ((↑v1_1 : Int) < (↑a1.size : Int))) (fun k2 h1 => ?_) (fun k2 h1 => ?_)
 ·have q1 := h1; try simp at q1
  have c1 : a1.size ≤ 2326528 := sm_size (by simp (maxDischargeDepth := 12) [u0])
  have w1 : IntKind.i64.wrap ((v1_1 : Int) + 1) = (v1_1 : Int) + 1 := wrap_of (by omega) (by omega)
  simp
  repeat with_reducible refine sd ?_
  refine nxtI ⟨(p1, (v1_0 ++ ([(W (↑(bAt a1 v1_1) : Int))] : List Int)), (v1_1 + 1)), ?_, ?_⟩ (by simp) (wk_of [((7, 0), some (23, 0))] [] rfl (by simp [w1]))
  · rw [← e1]; simp only [s_PartDigest_1, h1, cond_t, cond_f]
  · first | omega | (simp at *; omega)
 ·have q1 := h1; try simp at q1
  have c2 : a1.size ≤ 2326528 := sm_size (by simp (maxDischargeDepth := 12) [u0])
  have x1 : s_PartDigest_1 a1 (a1.size + 1) ([a2] : List Int) 0 = v1_0 := by rw [← e1]; simp only [s_PartDigest_1, h1, cond_t, cond_f]
  simp
  refine cR (s_DigestOf_ok a0 v1_0 (by first | (simp (maxDischargeDepth := 12) [sm_list]; omega) | (simp (maxDischargeDepth := 12) [sm_mono (m := 68719476736) (by decide) u0]; done))) ?_
  simp
  refine retRd (rv := [.tmp 6]) rfl ?_
  have f1 := s_PartDigest.eq_1 a0 a1 a2; simp only [x1, cond_t, cond_f] at f1; simp [f1]
theorem s_DocDigest_ok (a0 : Int) (a1 : TDocument) (u0 : Sm 2322432 a1) : SoundAt Tryz.prog 153 false [[.int .i64 a0], a1.row] [[.int .i64 (s_DocDigest a0 a1)]] := by
 refine sound_of Tryz.func153 rfl (by kernel_rfl) ?_
 simp [Tryz.ntmps153]
 refine cR (s_IsDocument_ok a1) ?_
 simp
 refine cC (!(s_IsDocument a1)) (fun k1 h1 => ?_) (fun k1 h1 => ?_)
 ·have q1 := h1; try simp at q1
  simp
  refine retRd (rv := [.tmp 4]) rfl ?_
  have f1 := s_DocDigest.eq_1 a0 a1; simp only [h1, cond_t, cond_f] at f1; simp [f1]
 ·have q1 := h1; try simp at q1
  simp
  refine okL fun k2 => ?_
  refine loopI (ι := { s : Nat × (List Int) × Nat // s_DocDigest_1 a0 a1 s.1 s.2.1 s.2.2 = s_DocDigest_1 a0 a1 (a1.Parts.length + 1) ([a1.Title] : List Int) 0 ∧ (1 ≤ s.1 ∧ a1.Parts.length < s.1 + s.2.2 ∧ s.2.2 ≤ a1.Parts.length ∧ s.2.1.length ≤ 1 + 1 * s.2.2) }) (fun s => stOf 38 [eI 0 a0, eX 3 (a1.row.map .d), (5, .one (.sref 5 0 0 s.1.2.1.length), [.arr false 1 (s.1.2.1.map iR)]), eI 6 (↑s.1.2.2 : Int)]) (fun s => s.1.1) ⟨((a1.Parts.length + 1), ([a1.Title] : List Int), 0), rfl, by first | omega | (dsimp only; omega) | simp⟩ (wk_of [((5, 0), some (12, 0))] [] rfl (by simp)) ?_
  rintro ⟨⟨n1, v1_0, v1_1⟩, e1, j1⟩
  try dsimp only at e1 j1
  obtain ⟨p1, rfl⟩ : ∃ p, n1 = p + 1 := ⟨n1 - 1, by omega⟩
  simp
  refine cC (decide ((↑v1_1 : Int) < (↑a1.Parts.length : Int))) (fun k3 h2 => ?_) (fun k3 h2 => ?_)
  ·have q2 := h2; try simp at q2
   have i1 : v1_1 < a1.Parts.length := by simpa using h2
   have m2 : a1.Parts.length ≤ 9223372036854775807 := by simpa using k3 15 _ rfl
   have c1 : a1.Parts.length ≤ 2322432 := sm_len (by simp (maxDischargeDepth := 12) [u0])
   have w1 : IntKind.i64.wrap ((v1_1 : Int) + 1) = (v1_1 : Int) + 1 := wrap_of (by omega) (by omega)
   simp
   refine okD fun k4 => ?_
   refine drawI mixed (by kernel_rfl) (by kernel_rfl) ?_
   have i2 : v1_1 < a1.Salts.length := by (have := s_IsDocument_len (a := a1); first | (simp_all; done) | (simp_all; omega))
   simp [i1, rowAt_map, i2]
   repeat with_reducible refine sd ?_
   refine cR (s_PartDigest_ok a0 (nth a1.Parts v1_1) (nth a1.Salts v1_1) (sg (sm_nth (TDocument.sm_Parts u0)))) ?_
   simp
   repeat with_reducible refine sd ?_
   refine nxtI ⟨(p1, (v1_0 ++ ([(s_PartDigest a0 (nth a1.Parts v1_1) (nth a1.Salts v1_1))] : List Int)), (v1_1 + 1)), ?_, ?_⟩ (by simp) (wk_of [((5, 0), some (34, 0))] [] rfl (by simp [w1]))
   · rw [← e1]; simp only [s_DocDigest_1, h2, cond_t, cond_f]
   · first | omega | (simp at *; omega)
  ·have q2 := h2; try simp at q2
   have c2 : a1.Parts.length ≤ 2322432 := sm_len (by simp (maxDischargeDepth := 12) [u0])
   have x1 : s_DocDigest_1 a0 a1 (a1.Parts.length + 1) ([a1.Title] : List Int) 0 = v1_0 := by rw [← e1]; simp only [s_DocDigest_1, h2, cond_t, cond_f]
   simp
   refine cR (s_DigestOf_ok a0 v1_0 (by first | (simp (maxDischargeDepth := 12) [sm_list]; omega) | (simp (maxDischargeDepth := 12) [sm_mono (m := 68719476736) (by decide) u0]; done))) ?_
   simp
   refine retRd (rv := [.tmp 4]) rfl ?_
   have f2 := s_DocDigest.eq_1 a0 a1; simp only [h1, x1, cond_t, cond_f] at f2; simp [f2]
theorem s_IsSignature_ok (a0 : TSignature) : SoundAt Tryz.prog 211 false [a0.row] [[.bool (s_IsSignature a0)]] := by
 refine sound_of Tryz.func211 rfl (by kernel_rfl) ?_
 simp [Tryz.ntmps211]
 refine cR (s_l1In_ok a0.Key 1 99) ?_
 simp
 refine cG (fun gg => (s_l1In_ok a0.Serial 1 999)) ?_
 simp
 refine cG (fun gg => (s_l1In_ok a0.Method 0 99)) ?_
 simp
 refine cG (fun gg => (s_l1In_ok a0.Org 0 99)) ?_
 simp
 refine cG (fun gg => (s_l1In_ok a0.Commit 1 3)) ?_
 simp
 refine cG (fun gg => (s_l1In_ok a0.Digest 0 1000000000000)) ?_
 simp
 refine cG (fun gg => (s_l1In_ok a0.Before 0 1000000000000)) ?_
 simp
 refine cG (fun gg => (s_l1In_ok a0.After 0 1000000000000)) ?_
 simp
 refine retRd (rv := [.tmp 2]) rfl ?_
 have f1 := s_IsSignature.eq_1 a0; simp [f1]
theorem s_SignatureInts_ok (a0 : TSignature) : SoundD Tryz.prog 212 [a0.row] [[.sl 1 ((s_SignatureInts a0).map iR)]] := by
 refine sound_ofD Tryz.func212 rfl (by kernel_rfl) ?_
 simp [Tryz.ntmps212]
 refine retD (rv := [.tmp 2]) rfl ?_
 have f1 := s_SignatureInts.eq_1 a0; simp [f1]
theorem s_KeyedHash_ok (a0 : Int) (a1 : List Int) (u0 : Sm 2330624 a1) : SoundAt Tryz.prog 203 false [[.int .i64 a0], [.sl 1 (a1.map iR)]] [[.int .i64 (s_KeyedHash a0 a1)]] := by
 refine sound_of Tryz.func203 rfl (by kernel_rfl) ?_
 have c1 : a1.length ≤ 2330624 := sm_len (by simp (maxDischargeDepth := 12) [u0])
 simp [Tryz.ntmps203]
 repeat with_reducible refine sd ?_
 refine cR (s_Hash_ok ((([a0] : List Int) ++ a1) ++ ([a0] : List Int))) ?_
 simp
 refine retRd (rv := [.tmp 4]) rfl ?_
 have f1 := s_KeyedHash.eq_1 a0 a1; simp [f1]
theorem s_MarkWith_ok (a0 : TKey) (a1 : List Int) (u0 : Sm 2326528 a1) : SoundAt Tryz.prog 142 false [a0.row, [.sl 1 (a1.map iR)]] [[.int .i64 (s_MarkWith a0 a1)]] := by
 refine sound_of Tryz.func142 rfl (by kernel_rfl) ?_
 simp [Tryz.ntmps142]
 refine okD fun k1 => ?_
 refine drawP [2, 3, 4, 5, 6, 0, 1, 7, 8] mixed (by kernel_rfl) (by kernel_rfl) (by kernel_rfl) ?_
 have c1 : a1.length ≤ 2326528 := sm_len (by simp (maxDischargeDepth := 12) [u0])
 simp
 repeat with_reducible refine sd ?_
 refine cR (s_KeyedHash_ok a0.Secret (([a0.Method] : List Int) ++ a1) (by simp (maxDischargeDepth := 12) [sm_append, sm_list, sm_mono (m := 2330624) (by decide) u0]; try omega)) ?_
 simp
 refine retRd (rv := [.tmp 4]) rfl ?_
 have f1 := s_MarkWith.eq_1 a0 a1; simp [f1]
theorem s_SignDigest_ok (a0 : List TKey) (a1 : TSignature) (u0 : Sm 2322432 a0) : SoundAt Tryz.prog 152 false [[.sl 5 (a0.map TKey.row)], a1.row] [(s_SignDigest a0 a1).1.row, [.bool (s_SignDigest a0 a1).2]] := by
 refine sound_of Tryz.func152 rfl (by kernel_rfl) ?_
 simp [Tryz.ntmps152]
 refine cR (s_FindKey_ok a0 a1.Key) ?_
 simp
 refine cR (s_IsSignature_ok a1) ?_
 simp
 refine cC ((!(s_IsSignature a1)) || (decide ((s_FindKey a0 a1.Key) < 0))) (fun k1 h1 => ?_) (fun k1 h1 => ?_)
 ·have q1 := h1; try simp at q1
  simp
  refine retRd (rv := [.cell 4 102, .tmp 5]) rfl ?_
  have f1 := s_SignDigest.eq_1 a0 a1; simp only [h1, cond_t, cond_f] at f1; simp [f1]
 ·have q1 := h1; try simp at q1
  simp
  refine okD fun k2 => ?_
  refine drawI mixed (by kernel_rfl) (by kernel_rfl) ?_
  have i1 : (s_FindKey a0 a1.Key).toNat < a0.length := by have := s_FindKey_lt a0 a1.Key; exact il
  simp [i1, rowAt_map]
  repeat with_reducible refine sd ?_
  refine cR (SoundD.rd (s_SignatureInts_ok a1)) ?_
  simp
  refine cR (s_MarkWith_ok (nth a0 (s_FindKey a0 a1.Key).toNat) (s_SignatureInts a1) (by simp (maxDischargeDepth := 12) [s_SignatureInts_sm, sm_mono (m := 2326528) (by decide) u0]; try omega)) ?_
  simp
  refine retRd (rv := [.cell 4 102, .tmp 5]) rfl ?_
  have f2 := s_SignDigest.eq_1 a0 a1; simp only [h1, cond_t, cond_f] at f2; simp [f2]
theorem s_SignPiece_ok (a0 : TSignature) : SoundD Tryz.prog 155 [a0.row] [(s_SignPiece a0).row] := by
 refine sound_ofD Tryz.func155 rfl (by kernel_rfl) ?_
 simp [Tryz.ntmps155]
 refine okD fun k1 => ?_
 refine drawI mixed (by kernel_rfl) (by kernel_rfl) ?_
 simp
 refine cD [false] (s_SignatureInts_ok a0) ?_
 simp
 refine retD (rv := [.cell 2 110]) rfl ?_
 have f1 := s_SignPiece.eq_1 a0; simp [f1]
theorem s_CertInts_ok (a0 : TCert) : SoundD Tryz.prog 216 [a0.row] [[.sl 1 ((s_CertInts a0).map iR)]] := by
 refine sound_ofD Tryz.func216 rfl (by kernel_rfl) ?_
 simp [Tryz.ntmps216]
 refine retD (rv := [.tmp 2]) rfl ?_
 have f1 := s_CertInts.eq_1 a0; simp [f1]
theorem s_CertPiece_ok (a0 : TCert) : SoundD Tryz.prog 156 [a0.row] [(s_CertPiece a0).row] := by
 refine sound_ofD Tryz.func156 rfl (by kernel_rfl) ?_
 simp [Tryz.ntmps156]
 refine okD fun k1 => ?_
 refine drawI mixed (by kernel_rfl) (by kernel_rfl) ?_
 simp
 refine cD [false] (s_CertInts_ok a0) ?_
 simp
 refine retD (rv := [.cell 2 110]) rfl ?_
 have f1 := s_CertPiece.eq_1 a0; simp [f1]
theorem s_l34Item_ok (a0 : TWorld) (a1 : Int) (a2 : TDocument) (a3 : Int) (a4 : Int) (u0 : Sm 2318336 a0) (u1 : Sm 2318336 a2) : SoundAt Tryz.prog 85 true [a0.row, [.int .i64 a1], a2.row, [.int .i64 a3], [.int .i64 a4]] [(s_l34Item a0 a1 a2 a3 a4).1.row, [.bool (s_l34Item a0 a1 a2 a3 a4).2]] := by
 refine sound_of Tryz.func85 rfl (by kernel_rfl) ?_
 simp [Tryz.ntmps85]
 refine cR (s_BestMethod_ok a0.Frame.Methods a0.Frame.Now) ?_
 simp
 refine cR (s_l34CertOf_ok a0 a1) ?_
 simp
 refine cC ((decide ((s_BestMethod a0.Frame.Methods a0.Frame.Now) < 0)) || (decide ((s_l34CertOf a0 a1) < 0))) (fun k1 h1 => ?_) (fun k1 h1 => ?_)
 ·have q1 := h1; try simp at q1
  simp
  refine retOwn (rv := [.cell 10 104, .tmp 11]) rfl ?_
  have f1 := s_l34Item.eq_1 a0 a1 a2 a3 a4; simp only [h1, cond_t, cond_f] at f1; simp [f1]
 ·have q1 := h1; try simp at q1
  simp
  refine okD fun k2 => ?_
  refine drawI mixed (by kernel_rfl) (by kernel_rfl) ?_
  have i1 : (s_l34CertOf a0 a1).toNat < a0.Certs.length := by have := s_l34CertOf_lt a0 a1; exact il
  simp [i1, rowAt_map]
  repeat with_reducible refine sd ?_
  refine cR (s_DocDigest_ok (s_BestMethod a0.Frame.Methods a0.Frame.Now) a2 (sg u1)) ?_
  simp
  refine cR (s_SignDigest_ok a0.Frame.Keys (TSignature.mk a1 (nth a0.Certs (s_l34CertOf a0 a1).toNat).Serial (s_BestMethod a0.Frame.Methods a0.Frame.Now) (s_DocDigest (s_BestMethod a0.Frame.Methods a0.Frame.Now) a2) 1 a3 0 0 0) (sg (TFrame.sm_Keys (TWorld.sm_Frame u0)))) ?_
  simp
  refine okD fun k3 => ?_
  refine drawI mixed (by kernel_rfl) (by kernel_rfl) ?_
  simp
  refine cD [true, false, false] (s_l6Copy_okI a2 (sg u1)) ?_
  simp
  refine cR (SoundD.rd (s_SignPiece_ok (s_SignDigest a0.Frame.Keys (TSignature.mk a1 (nth a0.Certs (s_l34CertOf a0 a1).toNat).Serial (s_BestMethod a0.Frame.Methods a0.Frame.Now) (s_DocDigest (s_BestMethod a0.Frame.Methods a0.Frame.Now) a2) 1 a3 0 0 0)).1)) ?_
  simp [i1, rowAt_map]
  repeat with_reducible refine sd ?_
  refine cR (SoundD.rd (s_CertPiece_ok (nth a0.Certs (s_l34CertOf a0 a1).toNat))) ?_
  simp
  refine evI rfl rfl rfl ?_
  simp
  refine retOwn (rv := [.cell 10 104, .tmp 11]) rfl ?_
  have f2 := s_l34Item.eq_1 a0 a1 a2 a3 a4; simp only [h1, cond_t, cond_f] at f2; simp [f2]
theorem s_l4Time_ok (a0 : Int) : SoundAt Tryz.prog 172 false [[.int .i64 a0]] [[.bool (s_l4Time a0)]] := by
 refine sound_of Tryz.func172 rfl (by kernel_rfl) ?_
 simp [Tryz.ntmps172]
 refine cR (s_l1In_ok a0 0 10000) ?_
 simp
 refine retRd (rv := [.tmp 2]) rfl ?_
 have f1 := s_l4Time.eq_1 a0; simp [f1]
theorem s_EqualInts_ok (a0 : List Int) (a1 : List Int) : SoundAt Tryz.prog 272 false [[.sl 1 (a0.map iR)], [.sl 1 (a1.map iR)]] [[.bool (s_EqualInts a0 a1)]] := by
 refine sound_of Tryz.func272 rfl (by kernel_rfl) ?_
 simp [Tryz.ntmps272]
 refine cC ((↑a0.length : Int) != (↑a1.length : Int)) (fun k1 h1 => ?_) (fun k1 h1 => ?_)
 ·have q1 := h1; try simp at q1
  simp
  refine retRd (rv := [.tmp 4]) rfl ?_
  have f1 := s_EqualInts.eq_1 a0 a1; simp only [h1, cond_t, cond_f] at f1; simp [f1]
 ·have q1 := h1; try simp at q1
  simp
  refine okL fun k2 => ?_
  refine loopI (ι := { s : Nat × Nat // s_EqualInts_1 a0 a1 s.1 s.2 = s_EqualInts_1 a0 a1 (a0.length + 1) 0 ∧ (1 ≤ s.1 ∧ a0.length < s.1 + s.2 ∧ s.2 ≤ a0.length) }) (fun s => stOf 26 [eL 0 1 a0 iR, eL 1 1 a1 iR, eI 5 (↑s.1.2 : Int)]) (fun s => s.1.1) ⟨((a0.length + 1), 0), rfl, by first | omega | (dsimp only; omega) | simp⟩ (wk_keep (by simp)) ?_
  rintro ⟨⟨n1, v1_0⟩, e1, j1⟩
  try dsimp only at e1 j1
  obtain ⟨p1, rfl⟩ : ∃ p, n1 = p + 1 := ⟨n1 - 1, by omega⟩
  simp
  refine cC (decide ((↑v1_0 : Int) < (↑a0.length : Int))) (fun k3 h2 => ?_) (fun k3 h2 => ?_)
  ·have q2 := h2; try simp at q2
   have i1 : v1_0 < a0.length := by simpa using h2
   have m2 : a0.length ≤ 9223372036854775807 := by simpa using k3 0 _ rfl
   have w1 : IntKind.i64.wrap ((v1_0 : Int) + 1) = (v1_0 : Int) + 1 := wrap_of (by omega) (by omega)
   simp
   refine okD fun k4 => ?_
   refine drawI mixed (by kernel_rfl) (by kernel_rfl) ?_
   have i2 : v1_0 < a1.length := il
   simp [i1, rowAt_map, i2]
   repeat with_reducible refine sd ?_
   refine cC ((nth a0 v1_0) != (nth a1 v1_0)) (fun k5 h3 => ?_) (fun k5 h3 => ?_)
   ·have q3 := h3; try simp at q3
    have x1 : s_EqualInts_1 a0 a1 (a0.length + 1) 0 = .inl false := by rw [← e1]; simp only [s_EqualInts_1, h2, h3, cond_t, cond_f]
    simp
    refine retRd (rv := [.tmp 4]) rfl ?_
    have f2 := s_EqualInts.eq_1 a0 a1; simp only [h1, x1, cond_t, cond_f] at f2; simp [f2]
   ·have q3 := h3; try simp at q3
    simp
    refine nxtI ⟨(p1, (v1_0 + 1)), ?_, ?_⟩ (by simp) (wk_keep (by simp [w1]))
    · rw [← e1]; simp only [s_EqualInts_1, h2, h3, cond_t, cond_f]
    · first | omega | (simp at *; omega)
  ·have q2 := h2; try simp at q2
   have x2 : s_EqualInts_1 a0 a1 (a0.length + 1) 0 = .inr () := by rw [← e1]; simp only [s_EqualInts_1, h2, cond_t, cond_f]
   simp
   refine retRd (rv := [.tmp 4]) rfl ?_
   have f3 := s_EqualInts.eq_1 a0 a1; simp only [h1, x2, cond_t, cond_f] at f3; simp [f3]
theorem s_EqualPieces_ok (a0 : TPiece) (a1 : TPiece) : SoundAt Tryz.prog 251 false [a0.row, a1.row] [[.bool (s_EqualPieces a0 a1)]] := by
 refine sound_of Tryz.func251 rfl (by kernel_rfl) ?_
 simp [Tryz.ntmps251]
 refine cG (fun gg => (s_EqualInts_ok a0.Ints a1.Ints)) ?_
 simp
 refine retRd (rv := [.tmp 4]) rfl ?_
 have f1 := s_EqualPieces.eq_1 a0 a1; simp [f1]
theorem s_FindPiece_ok (a0 : TStrand) (a1 : TPiece) : SoundAt Tryz.prog 249 false [a0.row, a1.row] [[.int .i64 (s_FindPiece a0 a1)]] := by
 refine sound_of Tryz.func249 rfl (by kernel_rfl) ?_
 simp [Tryz.ntmps249]
 refine okL fun k1 => ?_
 refine loopI (ι := { s : Nat × Nat // s_FindPiece_1 a0 a1 s.1 s.2 = s_FindPiece_1 a0 a1 (a0.Pieces.length + 1) 0 ∧ (1 ≤ s.1 ∧ a0.Pieces.length < s.1 + s.2 ∧ s.2 ≤ a0.Pieces.length) }) (fun s => stOf 21 [eX 2 (a0.row.map .d), eX 3 (a1.row.map .d), eI 5 (↑s.1.2 : Int)]) (fun s => s.1.1) ⟨((a0.Pieces.length + 1), 0), rfl, by first | omega | (dsimp only; omega) | simp⟩ (wk_keep (by simp)) ?_
 rintro ⟨⟨n1, v1_0⟩, e1, j1⟩
 try dsimp only at e1 j1
 obtain ⟨p1, rfl⟩ : ∃ p, n1 = p + 1 := ⟨n1 - 1, by omega⟩
 simp
 refine cC (decide ((↑v1_0 : Int) < (↑a0.Pieces.length : Int))) (fun k2 h1 => ?_) (fun k2 h1 => ?_)
 ·have q1 := h1; try simp at q1
  have i1 : v1_0 < a0.Pieces.length := by simpa using h1
  have m2 : a0.Pieces.length ≤ 9223372036854775807 := by simpa using k2 8 _ rfl
  have w1 : IntKind.i64.wrap ((v1_0 : Int) + 1) = (v1_0 : Int) + 1 := wrap_of (by omega) (by omega)
  simp
  refine okD fun k3 => ?_
  refine drawI mixed (by kernel_rfl) (by kernel_rfl) ?_
  simp [i1, rowAt_map]
  repeat with_reducible refine sd ?_
  refine cR (s_EqualPieces_ok (nth a0.Pieces v1_0) a1) ?_
  simp
  refine cC (s_EqualPieces (nth a0.Pieces v1_0) a1) (fun k4 h2 => ?_) (fun k4 h2 => ?_)
  ·have q2 := h2; try simp at q2
   have x1 : s_FindPiece_1 a0 a1 (a0.Pieces.length + 1) 0 = .inl (↑v1_0 : Int) := by rw [← e1]; simp only [s_FindPiece_1, h1, h2, cond_t, cond_f]
   simp
   refine retRd (rv := [.tmp 4]) rfl ?_
   have f1 := s_FindPiece.eq_1 a0 a1; simp only [x1, cond_t, cond_f] at f1; simp [f1]
  ·have q2 := h2; try simp at q2
   simp
   refine nxtI ⟨(p1, (v1_0 + 1)), ?_, ?_⟩ (by simp) (wk_keep (by simp [w1]))
   · rw [← e1]; simp only [s_FindPiece_1, h1, h2, cond_t, cond_f]
   · first | omega | (simp at *; omega)
 ·have q1 := h1; try simp at q1
  have x2 : s_FindPiece_1 a0 a1 (a0.Pieces.length + 1) 0 = .inr () := by rw [← e1]; simp only [s_FindPiece_1, h1, cond_t, cond_f]
  simp
  refine retRd (rv := [.tmp 4]) rfl ?_
  have f2 := s_FindPiece.eq_1 a0 a1; simp only [x2, cond_t, cond_f] at f2; simp [f2]
theorem s_IsStrand_ok (a0 : TStrand) : SoundAt Tryz.prog 205 false [a0.row] [[.bool (s_IsStrand a0)]] := by
 refine sound_of Tryz.func205 rfl (by kernel_rfl) ?_
 simp [Tryz.ntmps205]
 refine okL fun k1 => ?_
 refine loopI (ι := { s : Nat × Nat // s_IsStrand_1 a0 s.1 s.2 = s_IsStrand_1 a0 (a0.Pieces.length + 1) 0 ∧ (1 ≤ s.1 ∧ a0.Pieces.length < s.1 + s.2 ∧ s.2 ≤ a0.Pieces.length) }) (fun s => stOf 69 [eX 1 (a0.row.map .d), eI 3 (↑s.1.2 : Int)]) (fun s => s.1.1) ⟨((a0.Pieces.length + 1), 0), rfl, by first | omega | (dsimp only; omega) | simp⟩ (wk_keep (by simp)) ?_
 rintro ⟨⟨n1, v1_0⟩, e1, j1⟩
 try dsimp only at e1 j1
 obtain ⟨p1, rfl⟩ : ∃ p, n1 = p + 1 := ⟨n1 - 1, by omega⟩
 simp
 refine cC (decide ((↑v1_0 : Int) < (↑a0.Pieces.length : Int))) (fun k2 h1 => ?_) (fun k2 h1 => ?_)
 ·have q1 := h1; try simp at q1
  have i1 : v1_0 < a0.Pieces.length := by simpa using h1
  have m2 : a0.Pieces.length ≤ 9223372036854775807 := by simpa using k2 7 _ rfl
  have w1 : IntKind.i64.wrap ((v1_0 : Int) + 1) = (v1_0 : Int) + 1 := wrap_of (by omega) (by omega)
  simp
  refine okD fun k3 => ?_
  refine drawI mixed (by kernel_rfl) (by kernel_rfl) ?_
  simp [i1, rowAt_map]
  repeat with_reducible refine sd ?_
  refine cR (s_FindPiece_ok a0 (nth a0.Pieces v1_0)) ?_
  simp
  refine cC (decide ((s_FindPiece a0 (nth a0.Pieces v1_0)) < (↑v1_0 : Int))) (fun k4 h2 => ?_) (fun k4 h2 => ?_)
  ·have q2 := h2; try simp at q2
   have x1 : s_IsStrand_1 a0 (a0.Pieces.length + 1) 0 = .inl false := by rw [← e1]; simp only [s_IsStrand_1, h1, h2, cond_t, cond_f]
   simp
   refine retRd (rv := [.tmp 2]) rfl ?_
   have f1 := s_IsStrand.eq_1 a0; simp only [x1, cond_t, cond_f] at f1; simp [f1]
  ·have q2 := h2; try simp at q2
   simp
   refine nxtI ⟨(p1, (v1_0 + 1)), ?_, ?_⟩ (by simp) (wk_keep (by simp [w1]))
   · rw [← e1]; simp only [s_IsStrand_1, h1, h2, cond_t, cond_f]
   · first | omega | (simp at *; omega)
 ·have q1 := h1; try simp at q1
  have x2 : s_IsStrand_1 a0 (a0.Pieces.length + 1) 0 = .inr () := by rw [← e1]; simp only [s_IsStrand_1, h1, cond_t, cond_f]
  simp
  refine okL fun k5 => ?_
  refine loopI (ι := { s : Nat × Nat // s_IsStrand_2 a0 s.1 s.2 = s_IsStrand_2 a0 (a0.Chain.length + 1) 0 ∧ (1 ≤ s.1 ∧ a0.Chain.length < s.1 + s.2 ∧ s.2 ≤ a0.Chain.length) }) (fun s => stOf 69 [eX 1 (a0.row.map .d), eI 4 (↑s.1.2 : Int)]) (fun s => s.1.1) ⟨((a0.Chain.length + 1), 0), rfl, by first | omega | (dsimp only; omega) | simp⟩ (wk_keep (by simp)) ?_
  rintro ⟨⟨n2, v2_0⟩, e2, j2⟩
  try dsimp only at e2 j2
  obtain ⟨p2, rfl⟩ : ∃ p, n2 = p + 1 := ⟨n2 - 1, by omega⟩
  simp
  refine cC (decide ((↑v2_0 : Int) < (↑a0.Chain.length : Int))) (fun k6 h3 => ?_) (fun k6 h3 => ?_)
  ·have q3 := h3; try simp at q3
   have i2 : v2_0 < a0.Chain.length := by simpa using h3
   have m4 : a0.Chain.length ≤ 9223372036854775807 := by simpa using k6 23 _ rfl
   have w2 : IntKind.i64.wrap ((v2_0 : Int) + 1) = (v2_0 : Int) + 1 := wrap_of (by omega) (by omega)
   simp
   refine okD fun k7 => ?_
   refine drawI mixed (by kernel_rfl) (by kernel_rfl) ?_
   simp [i2, rowAt_map]
   repeat with_reducible refine sd ?_
   refine cR (s_l1In_ok (nth a0.Chain v2_0).Count 1 (↑a0.Pieces.length : Int)) ?_
   simp
   refine guardI rfl rfl rfl rfl rfl (by simp) (fun g1 => ?_) (fun g1 => ?_)
   ·have g1x := g1; try simp only [beq_true, beq_false, Bool.not_eq_true', Bool.not_eq_false', Bool.true_and, Bool.and_true] at g1x
    try simp at g1
    have i3 : (v2_0 - 1) < a0.Chain.length := il
    have w3 : IntKind.i64.wrap ((v2_0 : Int) - 1) = (v2_0 : Int) - 1 := wrap_of (by omega) (by omega)
    simp [i3, rowAt_map, w3, toNat_pred, g1x]
    repeat with_reducible refine sdg ?_
    refine guardI rfl rfl rfl rfl rfl (by simp) (fun _ => ?_) (fun g0 => by simp [g1x] at g0)
    simp [i2, rowAt_map, g1x]
    repeat with_reducible refine sdg ?_
    refine condR (c := ((!(s_l1In (nth a0.Chain v2_0).Count 1 (↑a0.Pieces.length : Int))) || ((decide ((↑v2_0 : Int) > 0)) && (decide ((nth a0.Chain (v2_0 - 1)).Count > (nth a0.Chain v2_0).Count))))) (by first | (simp [g1x]; done) | grind) (fun k8 h4 => ?_) (fun k8 h4 => ?_)
    ·try (have z := h4; simp [g1x] at z; done)
     all_goals
      have q4 := h4; try simp [s_l1In] at q4
      have x3 : s_IsStrand_2 a0 (a0.Chain.length + 1) 0 = .inl false := by rw [← e2]; simp only [s_IsStrand_2, h3, h4, cond_t, cond_f]
      simp [g1x]
      repeat with_reducible refine sdg ?_
      refine retRd (rv := [.tmp 2]) rfl ?_
      have f2 := s_IsStrand.eq_1 a0; simp only [x2, x3, cond_t, cond_f] at f2; simp [f2, g1x]
    ·try (have z := h4; simp [g1x] at z; done)
     all_goals
      have q4 := h4; try simp [s_l1In] at q4
      simp [g1x]
      repeat with_reducible refine sdg ?_
      refine nxtI ⟨(p2, (v2_0 + 1)), ?_, ?_⟩ (by simp) (wk_keep (by simp [w2, w3, g1x]))
      · rw [← e2]; simp only [s_IsStrand_2, h3, h4, cond_t, cond_f]
      · first | omega | (simp at *; omega)
   ·have g1x := g1; try simp only [beq_true, beq_false, Bool.not_eq_true', Bool.not_eq_false', Bool.true_and, Bool.and_true] at g1x
    simp [g1x]
    repeat with_reducible refine sdg ?_
    refine skipG rfl rfl rfl rfl (by simp) (by simp [g1x]) ?_
    simp [g1x]
    repeat with_reducible refine sdg ?_
    refine condR (c := ((!(s_l1In (nth a0.Chain v2_0).Count 1 (↑a0.Pieces.length : Int))) || ((decide ((↑v2_0 : Int) > 0)) && (decide ((nth a0.Chain (v2_0 - 1)).Count > (nth a0.Chain v2_0).Count))))) (by first | (simp [g1x]; done) | grind) (fun k9 h5 => ?_) (fun k9 h5 => ?_)
    ·try (have z := h5; simp [g1x] at z; done)
     all_goals
      have q5 := h5; try simp [s_l1In] at q5
      have x4 : s_IsStrand_2 a0 (a0.Chain.length + 1) 0 = .inl false := by rw [← e2]; simp only [s_IsStrand_2, h3, h5, cond_t, cond_f]
      simp [g1x]
      repeat with_reducible refine sdg ?_
      refine retRd (rv := [.tmp 2]) rfl ?_
      have f3 := s_IsStrand.eq_1 a0; simp only [x2, x4, cond_t, cond_f] at f3; simp [f3, g1x]
    ·try (have z := h5; simp [g1x] at z; done)
     all_goals
      have q5 := h5; try simp [s_l1In] at q5
      simp [g1x]
      repeat with_reducible refine sdg ?_
      refine nxtI ⟨(p2, (v2_0 + 1)), ?_, ?_⟩ (by simp) (wk_keep (by simp [w2, g1x]))
      · rw [← e2]; simp only [s_IsStrand_2, h3, h5, cond_t, cond_f]
      · first | omega | (simp at *; omega)
  ·have q3 := h3; try simp at q3
   have x5 : s_IsStrand_2 a0 (a0.Chain.length + 1) 0 = .inr () := by rw [← e2]; simp only [s_IsStrand_2, h3, cond_t, cond_f]
   simp
   refine cR (s_l1In_ok (↑a0.Pieces.length : Int) 1 12) ?_
   simp
   refine retRd (rv := [.tmp 2]) rfl ?_
   have f4 := s_IsStrand.eq_1 a0; simp only [x2, x5, cond_t, cond_f] at f4; simp [f4]
theorem s_IsItem_ok (a0 : TItem) : SoundAt Tryz.prog 217 false [a0.row] [[.bool (s_IsItem a0)]] := by
 refine sound_of Tryz.func217 rfl (by kernel_rfl) ?_
 simp [Tryz.ntmps217]
 refine okD fun k1 => ?_
 refine drawI mixed (by kernel_rfl) (by kernel_rfl) ?_
 simp
 refine cR (s_l1In_ok a0.Id 1 999) ?_
 simp
 refine cG (fun gg => (s_l4Time_ok a0.Keep)) ?_
 simp
 refine cG (fun gg => (s_IsDocument_ok a0.Doc)) ?_
 simp
 refine cG (fun gg => (s_IsStrand_ok a0.Strand)) ?_
 simp
 refine guardI rfl rfl rfl rfl rfl (by simp) (fun g1 => ?_) (fun g1 => ?_)
 ·have g1x := g1; try simp only [beq_true, beq_false, Bool.not_eq_true', Bool.not_eq_false', Bool.true_and, Bool.and_true] at g1x
  try simp [s_l1In] at g1
  have i1 : 0 < a0.Strand.Pieces.length := by have := s_IsStrand_pos (a := a0.Strand); simp_all
  simp [i1, rowAt_map, g1x]
  repeat with_reducible refine sdg ?_
  refine callG rfl rfl rfl rfl rfl rfl (fun gg => SoundD.rd (s_SignPiece_ok a0.Sig)) (by first | (simp; done) | (simp [g1x]; done) | (simp [g1x]; omega) | (simp_all; done)) (by first | (simp; done) | (simp [g1x]; done) | (simp [g1x]; omega) | (simp_all; done)) (by first | (simp; done) | (simp [g1x]; done) | (simp [g1x]; omega) | (simp_all; done)) (by first | (simp; done) | (simp [g1x]; done) | (simp [g1x]; omega) | (simp_all; done)) ?_
  simp [g1x]
  repeat with_reducible refine sdg ?_
  refine callG rfl rfl rfl rfl rfl rfl (fun gg => (s_EqualPieces_ok (nth a0.Strand.Pieces 0) (s_SignPiece a0.Sig))) (by first | (simp; done) | (simp [g1x]; done) | (simp [g1x]; omega) | (simp_all; done)) (by first | (simp; done) | (simp [g1x]; done) | (simp [g1x]; omega) | (simp_all; done)) (by first | (simp; done) | (simp [g1x]; done) | (simp [g1x]; omega) | (simp_all; done)) (by first | (simp; done) | (simp [g1x]; done) | (simp [g1x]; omega) | (simp_all; done)) ?_
  simp [g1x]
  repeat with_reducible refine sdg ?_
  refine retRd (rv := [.tmp 2]) rfl ?_
  have f1 := s_IsItem.eq_1 a0; simp [f1, g1x]
 ·have g1x := g1; try simp only [beq_true, beq_false, Bool.not_eq_true', Bool.not_eq_false', Bool.true_and, Bool.and_true] at g1x
  simp [g1x]
  repeat with_reducible refine sdg ?_
  refine skipG rfl rfl rfl rfl (by simp) (by simp [g1x]) ?_
  simp [g1x]
  repeat with_reducible refine sdg ?_
  refine skipG rfl rfl rfl rfl (by simp) (by simp [g1x]) ?_
  simp [g1x]
  repeat with_reducible refine sdg ?_
  refine retRd (rv := [.tmp 2]) rfl ?_
  have f2 := s_IsItem.eq_1 a0; simp [f2, g1x]
theorem s_IsArchive_ok (a0 : TArchive) : SoundAt Tryz.prog 157 false [a0.row] [[.bool (s_IsArchive a0)]] := by
 refine sound_of Tryz.func157 rfl (by kernel_rfl) ?_
 simp [Tryz.ntmps157]
 refine okL fun k1 => ?_
 refine loopI (ι := { s : Nat × Nat // s_IsArchive_1 a0 s.1 s.2 = s_IsArchive_1 a0 (a0.Items.length + 1) 0 ∧ (1 ≤ s.1 ∧ a0.Items.length < s.1 + s.2 ∧ s.2 ≤ a0.Items.length) }) (fun s => stOf 47 [eX 1 (a0.row.map .d), eI 3 (↑s.1.2 : Int)]) (fun s => s.1.1) ⟨((a0.Items.length + 1), 0), rfl, by first | omega | (dsimp only; omega) | simp⟩ (wk_keep (by simp)) ?_
 rintro ⟨⟨n1, v1_0⟩, e1, j1⟩
 try dsimp only at e1 j1
 obtain ⟨p1, rfl⟩ : ∃ p, n1 = p + 1 := ⟨n1 - 1, by omega⟩
 simp
 refine cC (decide ((↑v1_0 : Int) < (↑a0.Items.length : Int))) (fun k2 h1 => ?_) (fun k2 h1 => ?_)
 ·have q1 := h1; try simp at q1
  have i1 : v1_0 < a0.Items.length := by simpa using h1
  have m2 : a0.Items.length ≤ 9223372036854775807 := by simpa using k2 6 _ rfl
  have w1 : IntKind.i64.wrap ((v1_0 : Int) + 1) = (v1_0 : Int) + 1 := wrap_of (by omega) (by omega)
  simp
  refine okD fun k3 => ?_
  refine drawI mixed (by kernel_rfl) (by kernel_rfl) ?_
  simp [i1, rowAt_map]
  repeat with_reducible refine sd ?_
  refine cR (s_IsItem_ok (nth a0.Items v1_0)) ?_
  simp
  refine guardI rfl rfl rfl rfl rfl (by simp) (fun g1 => ?_) (fun g1 => ?_)
  ·have g1x := g1; try simp only [beq_true, beq_false, Bool.not_eq_true', Bool.not_eq_false', Bool.true_and, Bool.and_true] at g1x
   try simp at g1
   have i2 : (v1_0 - 1) < a0.Items.length := il
   have w2 : IntKind.i64.wrap ((v1_0 : Int) - 1) = (v1_0 : Int) - 1 := wrap_of (by omega) (by omega)
   simp [i2, rowAt_map, w2, toNat_pred, g1x]
   repeat with_reducible refine sdg ?_
   refine guardI rfl rfl rfl rfl rfl (by simp) (fun _ => ?_) (fun g0 => by simp [g1x] at g0)
   simp [i1, rowAt_map, g1x]
   repeat with_reducible refine sdg ?_
   refine condR (c := ((!(s_IsItem (nth a0.Items v1_0))) || ((decide ((↑v1_0 : Int) > 0)) && (decide ((nth a0.Items (v1_0 - 1)).Id ≥ (nth a0.Items v1_0).Id))))) (by first | (simp [g1x]; done) | grind) (fun k4 h2 => ?_) (fun k4 h2 => ?_)
   ·try (have z := h2; simp [g1x] at z; done)
    all_goals
     have q2 := h2; try simp at q2
     have x1 : s_IsArchive_1 a0 (a0.Items.length + 1) 0 = .inl false := by rw [← e1]; simp only [s_IsArchive_1, h1, h2, cond_t, cond_f]
     simp [g1x]
     repeat with_reducible refine sdg ?_
     refine retRd (rv := [.tmp 2]) rfl ?_
     have f1 := s_IsArchive.eq_1 a0; simp only [x1, cond_t, cond_f] at f1; simp [f1, g1x]
   ·try (have z := h2; simp [g1x] at z; done)
    all_goals
     have q2 := h2; try simp at q2
     simp [g1x]
     repeat with_reducible refine sdg ?_
     refine nxtI ⟨(p1, (v1_0 + 1)), ?_, ?_⟩ (by simp) (wk_keep (by simp [w1, w2, g1x]))
     · rw [← e1]; simp only [s_IsArchive_1, h1, h2, cond_t, cond_f]
     · first | omega | (simp at *; omega)
  ·have g1x := g1; try simp only [beq_true, beq_false, Bool.not_eq_true', Bool.not_eq_false', Bool.true_and, Bool.and_true] at g1x
   simp [g1x]
   repeat with_reducible refine sdg ?_
   refine skipG rfl rfl rfl rfl (by simp) (by simp [g1x]) ?_
   simp [g1x]
   repeat with_reducible refine sdg ?_
   refine condR (c := ((!(s_IsItem (nth a0.Items v1_0))) || ((decide ((↑v1_0 : Int) > 0)) && (decide ((nth a0.Items (v1_0 - 1)).Id ≥ (nth a0.Items v1_0).Id))))) (by first | (simp [g1x]; done) | grind) (fun k5 h3 => ?_) (fun k5 h3 => ?_)
   ·try (have z := h3; simp [g1x] at z; done)
    all_goals
     have q3 := h3; try simp at q3
     have x2 : s_IsArchive_1 a0 (a0.Items.length + 1) 0 = .inl false := by rw [← e1]; simp only [s_IsArchive_1, h1, h3, cond_t, cond_f]
     simp [g1x]
     repeat with_reducible refine sdg ?_
     refine retRd (rv := [.tmp 2]) rfl ?_
     have f2 := s_IsArchive.eq_1 a0; simp only [x2, cond_t, cond_f] at f2; simp [f2, g1x]
   ·try (have z := h3; simp [g1x] at z; done)
    all_goals
     have q3 := h3; try simp at q3
     simp [g1x]
     repeat with_reducible refine sdg ?_
     refine nxtI ⟨(p1, (v1_0 + 1)), ?_, ?_⟩ (by simp) (wk_keep (by simp [w1, g1x]))
     · rw [← e1]; simp only [s_IsArchive_1, h1, h3, cond_t, cond_f]
     · first | omega | (simp at *; omega)
 ·have q1 := h1; try simp at q1
  have x3 : s_IsArchive_1 a0 (a0.Items.length + 1) 0 = .inr () := by rw [← e1]; simp only [s_IsArchive_1, h1, cond_t, cond_f]
  simp
  refine cR (s_l1In_ok a0.Id 0 99) ?_
  simp
  refine retRd (rv := [.tmp 2]) rfl ?_
  have f3 := s_IsArchive.eq_1 a0; simp only [x3, cond_t, cond_f] at f3; simp [f3]
theorem s_FindItem_ok (a0 : TArchive) (a1 : Int) : SoundAt Tryz.prog 139 false [a0.row, [.int .i64 a1]] [[.int .i64 (s_FindItem a0 a1)]] := by
 refine sound_of Tryz.func139 rfl (by kernel_rfl) ?_
 simp [Tryz.ntmps139]
 refine okL fun k1 => ?_
 refine loopI (ι := { s : Nat × Nat // s_FindItem_1 a0 a1 s.1 s.2 = s_FindItem_1 a0 a1 (a0.Items.length + 1) 0 ∧ (1 ≤ s.1 ∧ a0.Items.length < s.1 + s.2 ∧ s.2 ≤ a0.Items.length) }) (fun s => stOf 22 [eI 1 a1, eX 2 (a0.row.map .d), eI 5 (↑s.1.2 : Int)]) (fun s => s.1.1) ⟨((a0.Items.length + 1), 0), rfl, by first | omega | (dsimp only; omega) | simp⟩ (wk_keep (by simp)) ?_
 rintro ⟨⟨n1, v1_0⟩, e1, j1⟩
 try dsimp only at e1 j1
 obtain ⟨p1, rfl⟩ : ∃ p, n1 = p + 1 := ⟨n1 - 1, by omega⟩
 simp
 refine cC (decide ((↑v1_0 : Int) < (↑a0.Items.length : Int))) (fun k2 h1 => ?_) (fun k2 h1 => ?_)
 ·have q1 := h1; try simp at q1
  have i1 : v1_0 < a0.Items.length := by simpa using h1
  have m2 : a0.Items.length ≤ 9223372036854775807 := by simpa using k2 8 _ rfl
  have w1 : IntKind.i64.wrap ((v1_0 : Int) + 1) = (v1_0 : Int) + 1 := wrap_of (by omega) (by omega)
  simp [i1, rowAt_map]
  repeat with_reducible refine sd ?_
  refine cC ((nth a0.Items v1_0).Id == a1) (fun k3 h2 => ?_) (fun k3 h2 => ?_)
  ·have q2 := h2; try simp at q2
   have x1 : s_FindItem_1 a0 a1 (a0.Items.length + 1) 0 = .inl (↑v1_0 : Int) := by rw [← e1]; simp only [s_FindItem_1, h1, h2, cond_t, cond_f]
   simp
   refine retRd (rv := [.tmp 4]) rfl ?_
   have f1 := s_FindItem.eq_1 a0 a1; simp only [x1, cond_t, cond_f] at f1; simp [f1]
  ·have q2 := h2; try simp at q2
   simp
   refine nxtI ⟨(p1, (v1_0 + 1)), ?_, ?_⟩ (by simp) (wk_keep (by simp [w1]))
   · rw [← e1]; simp only [s_FindItem_1, h1, h2, cond_t, cond_f]
   · first | omega | (simp at *; omega)
 ·have q1 := h1; try simp at q1
  have x2 : s_FindItem_1 a0 a1 (a0.Items.length + 1) 0 = .inr () := by rw [← e1]; simp only [s_FindItem_1, h1, cond_t, cond_f]
  simp
  refine retRd (rv := [.tmp 4]) rfl ?_
  have f2 := s_FindItem.eq_1 a0 a1; simp only [x2, cond_t, cond_f] at f2; simp [f2]
theorem s_AddItem_ok (a0 : TArchive) (a1 : TItem) (u0 : Sm 2318336 a0) (u1 : Sm 2318336 a1) : SoundAt Tryz.prog 86 true [a0.row, a1.row] [(s_AddItem a0 a1).1.row, [.bool (s_AddItem a0 a1).2]] := by
 refine sound_of Tryz.func86 rfl (by kernel_rfl) ?_
 simp [Tryz.ntmps86]
 refine cR (s_IsArchive_ok a0) ?_
 simp
 refine cG (fun gg => (s_FindItem_ok a0 a1.Id)) ?_
 simp
 refine cC ((!(s_IsArchive a0)) || (decide ((s_FindItem a0 a1.Id) ≥ 0))) (fun k1 h1 => ?_) (fun k1 h1 => ?_)
 ·have q1 := h1; try simp at q1
  simp
  refine cO (s_l28Copy_okI a0 (sg u0)) ?_
  simp
  refine retOwn (rv := [.cell 4 92, .tmp 5]) rfl ?_
  have f1 := s_AddItem.eq_1 a0 a1; simp only [h1, cond_t, cond_f] at f1; simp [f1]
 ·have q1 := h1; try simp at q1
  simp
  refine okL fun k2 => ?_
  refine loopI (ι := { s : Nat × Bool × Nat × (List TItem) // s_AddItem_1 a0 a1 s.1 s.2.1 s.2.2.1 s.2.2.2 = s_AddItem_1 a0 a1 (a0.Items.length + 1) false 0 ([] : List TItem) ∧ (1 ≤ s.1 ∧ a0.Items.length < s.1 + s.2.2.1 ∧ s.2.2.1 ≤ a0.Items.length ∧ s.2.2.2.length ≤ 0 + 2 * s.2.2.1) }) (fun s => stOf 77 [eX 2 (a0.row.map .d), eX 3 (a1.row.map .d), (4, .one (.bptr 4 0), [.box [.d (.int .i64 0), .nil 16]]), (6, .one (.bptr 6 0), [.box [.d (.int .i64 a0.Id), .sref 6 2 0 s.1.2.2.2.length], .none, .arr false 16 (s.1.2.2.2.map TItem.row)]), eB 7 s.1.2.1, eI 8 (↑s.1.2.2.1 : Int)]) (fun s => s.1.1) ⟨((a0.Items.length + 1), false, 0, ([] : List TItem)), rfl, by first | omega | (dsimp only; omega) | simp⟩ (wk_of [((6, 2), none)] [] rfl (by simp)) ?_
  rintro ⟨⟨n1, v1_0, v1_1, v1_2⟩, e1, j1⟩
  try dsimp only at e1 j1
  obtain ⟨p1, rfl⟩ : ∃ p, n1 = p + 1 := ⟨n1 - 1, by omega⟩
  simp
  refine cC (decide ((↑v1_1 : Int) < (↑a0.Items.length : Int))) (fun k3 h2 => ?_) (fun k3 h2 => ?_)
  ·have q2 := h2; try simp at q2
   have i1 : v1_1 < a0.Items.length := by simpa using h2
   have m2 : a0.Items.length ≤ 9223372036854775807 := by simpa using k3 26 _ rfl
   have c1 : a0.Items.length ≤ 2318336 := sm_len (by simp (maxDischargeDepth := 12) [u0, u1])
   have w1 : IntKind.i64.wrap ((v1_1 : Int) + 1) = (v1_1 : Int) + 1 := wrap_of (by omega) (by omega)
   simp
   refine okD fun k4 => ?_
   refine drawI mixed (by kernel_rfl) (by kernel_rfl) ?_
   simp
   refine guardI rfl rfl rfl rfl rfl (by simp) (fun g1 => ?_) (fun g1 => ?_)
   ·have g1x := g1; try simp only [beq_true, beq_false, Bool.not_eq_true', Bool.not_eq_false', Bool.true_and, Bool.and_true] at g1x
    try simp at g1
    simp [i1, rowAt_map, g1x]
    repeat with_reducible refine sdg ?_
    refine condR (c := ((!v1_0) && (decide (a1.Id < (nth a0.Items v1_1).Id)))) (by first | (simp [g1x]; done) | grind) (fun k5 h3 => ?_) (fun k5 h3 => ?_)
    ·try (have z := h3; simp [g1x] at z; done)
     all_goals
      have q3 := h3; try simp at q3
      simp [g1x]
      repeat with_reducible refine sdg ?_
      refine okD fun k6 => ?_
      refine drawI mixed (by kernel_rfl) (by kernel_rfl) ?_
      simp [g1x]
      repeat with_reducible refine sdg ?_
      refine cR (s_l28Item_okI a1 (sg u1)) ?_
      simp [g1x]
      repeat with_reducible refine sdg ?_
      refine evI rfl rfl rfl ?_
      simp [g1x]
      repeat with_reducible refine sdg ?_
      refine evI rfl rfl rfl ?_
      simp [g1x]
      repeat with_reducible refine sdg ?_
      refine okD fun k7 => ?_
      refine drawI mixed (by kernel_rfl) (by kernel_rfl) ?_
      simp [i1, rowAt_map, g1x]
      repeat with_reducible refine sdg ?_
      refine cR (s_l28Item_okI (nth a0.Items v1_1) (sg (sm_nth (TArchive.sm_Items u0)))) ?_
      simp [g1x]
      repeat with_reducible refine sdg ?_
      refine evI rfl rfl rfl ?_
      simp [g1x]
      repeat with_reducible refine sdg ?_
      refine evI rfl rfl rfl ?_
      simp [g1x]
      repeat with_reducible refine sdg ?_
      refine nxtI ⟨(p1, true, (v1_1 + 1), ((v1_2 ++ ([a1] : List TItem)) ++ ([(nth a0.Items v1_1)] : List TItem))), ?_, ?_⟩ (by simp) (wk_of [((6, 2), some (60, 0))] [] rfl (by simp [w1, g1x]))
      · rw [← e1]; simp only [s_AddItem_1, h2, h3, cond_t, cond_f]
      · first | omega | (simp at *; omega)
    ·try (have z := h3; simp [g1x] at z; done)
     all_goals
      have q3 := h3; try simp at q3
      simp [g1x]
      repeat with_reducible refine sdg ?_
      refine okD fun k8 => ?_
      refine drawI mixed (by kernel_rfl) (by kernel_rfl) ?_
      simp [i1, rowAt_map, g1x]
      repeat with_reducible refine sdg ?_
      refine cR (s_l28Item_okI (nth a0.Items v1_1) (sg (sm_nth (TArchive.sm_Items u0)))) ?_
      simp [g1x]
      repeat with_reducible refine sdg ?_
      refine evI rfl rfl rfl ?_
      simp [g1x]
      repeat with_reducible refine sdg ?_
      refine evI rfl rfl rfl ?_
      simp [g1x]
      repeat with_reducible refine sdg ?_
      refine nxtI ⟨(p1, v1_0, (v1_1 + 1), (v1_2 ++ ([(nth a0.Items v1_1)] : List TItem))), ?_, ?_⟩ (by simp) (wk_of [((6, 2), some (60, 0))] [] rfl (by simp [w1, g1x]))
      · rw [← e1]; simp only [s_AddItem_1, h2, h3, cond_t, cond_f]
      · first | omega | (simp at *; omega)
   ·have g1x := g1; try simp only [beq_true, beq_false, Bool.not_eq_true', Bool.not_eq_false', Bool.true_and, Bool.and_true] at g1x
    simp [g1x]
    repeat with_reducible refine sdg ?_
    refine condR (c := ((!v1_0) && (decide (a1.Id < (nth a0.Items v1_1).Id)))) (by first | (simp [g1x]; done) | grind) (fun k9 h4 => ?_) (fun k9 h4 => ?_)
    ·try (have z := h4; simp [g1x] at z; done)
     all_goals
      have q4 := h4; try simp at q4
      simp [g1x]
      repeat with_reducible refine sdg ?_
      refine okD fun k10 => ?_
      refine drawI mixed (by kernel_rfl) (by kernel_rfl) ?_
      simp [g1x]
      repeat with_reducible refine sdg ?_
      refine cR (s_l28Item_okI a1 (sg u1)) ?_
      simp [g1x]
      repeat with_reducible refine sdg ?_
      refine evI rfl rfl rfl ?_
      simp [g1x]
      repeat with_reducible refine sdg ?_
      refine evI rfl rfl rfl ?_
      simp [g1x]
      repeat with_reducible refine sdg ?_
      refine okD fun k11 => ?_
      refine drawI mixed (by kernel_rfl) (by kernel_rfl) ?_
      simp [i1, rowAt_map, g1x]
      repeat with_reducible refine sdg ?_
      refine cR (s_l28Item_okI (nth a0.Items v1_1) (sg (sm_nth (TArchive.sm_Items u0)))) ?_
      simp [g1x]
      repeat with_reducible refine sdg ?_
      refine evI rfl rfl rfl ?_
      simp [g1x]
      repeat with_reducible refine sdg ?_
      refine evI rfl rfl rfl ?_
      simp [g1x]
      repeat with_reducible refine sdg ?_
      refine nxtI ⟨(p1, true, (v1_1 + 1), ((v1_2 ++ ([a1] : List TItem)) ++ ([(nth a0.Items v1_1)] : List TItem))), ?_, ?_⟩ (by simp) (wk_of [((6, 2), some (60, 0))] [] rfl (by simp [w1, g1x]))
      · rw [← e1]; simp only [s_AddItem_1, h2, h4, cond_t, cond_f]
      · first | omega | (simp at *; omega)
    ·try (have z := h4; simp [g1x] at z; done)
     all_goals
      have q4 := h4; try simp at q4
      simp [g1x]
      repeat with_reducible refine sdg ?_
      refine okD fun k12 => ?_
      refine drawI mixed (by kernel_rfl) (by kernel_rfl) ?_
      simp [i1, rowAt_map, g1x]
      repeat with_reducible refine sdg ?_
      refine cR (s_l28Item_okI (nth a0.Items v1_1) (sg (sm_nth (TArchive.sm_Items u0)))) ?_
      simp [g1x]
      repeat with_reducible refine sdg ?_
      refine evI rfl rfl rfl ?_
      simp [g1x]
      repeat with_reducible refine sdg ?_
      refine evI rfl rfl rfl ?_
      simp [g1x]
      repeat with_reducible refine sdg ?_
      refine nxtI ⟨(p1, v1_0, (v1_1 + 1), (v1_2 ++ ([(nth a0.Items v1_1)] : List TItem))), ?_, ?_⟩ (by simp) (wk_of [((6, 2), some (60, 0))] [] rfl (by simp [w1, g1x]))
      · rw [← e1]; simp only [s_AddItem_1, h2, h4, cond_t, cond_f]
      · first | omega | (simp at *; omega)
  ·have q2 := h2; try simp at q2
   have c2 : a0.Items.length ≤ 2318336 := sm_len (by simp (maxDischargeDepth := 12) [u0, u1])
   have x1 : s_AddItem_1 a0 a1 (a0.Items.length + 1) false 0 ([] : List TItem) = (v1_0, v1_2) := by rw [← e1]; simp only [s_AddItem_1, h2, cond_t, cond_f]
   simp
   refine cC (!v1_0) (fun k13 h5 => ?_) (fun k13 h5 => ?_)
   ·have q5 := h5; try simp at q5
    simp
    refine okD fun k14 => ?_
    refine drawI mixed (by kernel_rfl) (by kernel_rfl) ?_
    simp
    refine cR (s_l28Item_okI a1 (sg u1)) ?_
    simp
    refine evI rfl rfl rfl ?_
    simp
    refine evI rfl rfl rfl ?_
    simp
    repeat with_reducible refine sd ?_
    refine cR (s_IsArchive_ok (TArchive.mk a0.Id (v1_2 ++ ([a1] : List TItem)))) ?_
    simp
    refine cC (!(s_IsArchive (TArchive.mk a0.Id (v1_2 ++ ([a1] : List TItem))))) (fun k15 h6 => ?_) (fun k15 h6 => ?_)
    ·have q6 := h6; try simp at q6
     simp
     refine cO (s_l28Copy_okI a0 (sg u0)) ?_
     simp
     refine retOwn (rv := [.cell 4 92, .tmp 5]) rfl ?_
     have f2 := s_AddItem.eq_1 a0 a1; simp only [h1, x1, h5, h6, cond_t, cond_f] at f2; simp [f2]
    ·have q6 := h6; try simp at q6
     simp
     refine retOwn (rv := [.cell 4 92, .tmp 5]) rfl ?_
     have f3 := s_AddItem.eq_1 a0 a1; simp only [h1, x1, h5, h6, cond_t, cond_f] at f3; simp [f3]
   ·have q5 := h5; try simp at q5
    simp
    refine cR (s_IsArchive_ok (TArchive.mk a0.Id v1_2)) ?_
    simp
    refine cC (!(s_IsArchive (TArchive.mk a0.Id v1_2))) (fun k16 h7 => ?_) (fun k16 h7 => ?_)
    ·have q7 := h7; try simp at q7
     simp
     refine cO (s_l28Copy_okI a0 (sg u0)) ?_
     simp
     refine retOwn (rv := [.cell 4 92, .tmp 5]) rfl ?_
     have f4 := s_AddItem.eq_1 a0 a1; simp only [h1, x1, h5, h7, cond_t, cond_f] at f4; simp [f4]
    ·have q7 := h7; try simp at q7
     simp
     refine retOwn (rv := [.cell 4 92, .tmp 5]) rfl ?_
     have f5 := s_AddItem.eq_1 a0 a1; simp only [h1, x1, h5, h7, cond_t, cond_f] at f5; simp [f5]
theorem s_StepSign_ok (a0 : TWorld) (a1 : Int) (a2 : Int) (a3 : TDocument) (a4 : Int) (a5 : Int) (u0 : Sm 2314240 a0) (u1 : Sm 2314240 a3) : SoundAt Tryz.prog 34 true [a0.row, [.int .i64 a1], [.int .i64 a2], a3.row, [.int .i64 a4], [.int .i64 a5]] [(s_StepSign a0 a1 a2 a3 a4 a5).1.row, [.bool (s_StepSign a0 a1 a2 a3 a4 a5).2]] := by
 refine sound_of Tryz.func34 rfl (by kernel_rfl) ?_
 simp [Tryz.ntmps34]
 refine cO (s_l33Copy_okI a0 (sg u0)) ?_
 simp
 refine cR (s_FindKey_ok a0.Frame.Keys a2) ?_
 simp
 refine okD fun k1 => ?_
 refine drawI mixed (by kernel_rfl) (by kernel_rfl) ?_
 simp
 refine cR (s_l34Has_ok a0 a1) ?_
 simp
 refine guardI rfl rfl rfl rfl rfl (by simp) (fun g1 => ?_) (fun g1 => ?_)
 ·have g1x := g1; try simp only [beq_true, beq_false, Bool.not_eq_true', Bool.not_eq_false', Bool.true_and, Bool.and_true] at g1x
  have c1 : a0.Archives.length ≤ 2314240 := sm_len (by simp (maxDischargeDepth := 12) [u0, u1])
  have w1 : IntKind.i64.wrap ((a0.Archives.length : Int) - 1) = (a0.Archives.length : Int) - 1 := wrap_of (by omega) (by omega)
  try simp [w1, s_l34Has, s_l1In] at g1
  have i1 : (s_FindKey a0.Frame.Keys a2).toNat < a0.Frame.Keys.length := by have := s_FindKey_lt a0.Frame.Keys a2; exact il
  simp [i1, rowAt_map, g1x]
  repeat with_reducible refine sdg ?_
  refine condR (c := (((!(s_l34Has a0 a1)) || (decide ((s_FindKey a0.Frame.Keys a2) < 0))) || (decide ((nth a0.Frame.Keys (s_FindKey a0.Frame.Keys a2).toNat).Born > a0.Frame.Now)))) (by first | (simp [g1x]; done) | grind) (fun k2 h1 => ?_) (fun k2 h1 => ?_)
  ·try (have z := h1; simp [g1x] at z; done)
   all_goals
    have q1 := h1; try simp [w1, s_l34Has, s_l1In] at q1
    simp [g1x]
    repeat with_reducible refine sdg ?_
    refine retOwn (rv := [.cell 12 42, .tmp 13]) rfl ?_
    have f1 := s_StepSign.eq_1 a0 a1 a2 a3 a4 a5; simp only [h1, cond_t, cond_f] at f1; simp [f1, g1x]
  ·try (have z := h1; simp [g1x] at z; done)
   all_goals
    have q1 := h1; try simp [w1, s_l34Has, s_l1In] at q1
    simp [g1x]
    repeat with_reducible refine sdg ?_
    refine cR (s_l34Item_ok a0 a2 a3 a4 a5 (sg u0) (sg u1)) ?_
    simp [g1x]
    repeat with_reducible refine sdg ?_
    refine condR (c := (!(s_l34Item a0 a2 a3 a4 a5).2)) (by first | (simp [g1x]; done) | grind) (fun k3 h2 => ?_) (fun k3 h2 => ?_)
    ·try (have z := h2; simp [g1x] at z; done)
     all_goals
      have q2 := h2; try simp at q2
      simp [g1x]
      repeat with_reducible refine sdg ?_
      refine retOwn (rv := [.cell 12 42, .tmp 13]) rfl ?_
      have f2 := s_StepSign.eq_1 a0 a1 a2 a3 a4 a5; simp only [h1, h2, cond_t, cond_f] at f2; simp [f2, g1x]
    ·try (have z := h2; simp [g1x] at z; done)
     all_goals
      have q2 := h2; try simp at q2
      simp [g1x]
      repeat with_reducible refine sdg ?_
      refine okD fun k4 => ?_
      refine drawI mixed (by kernel_rfl) (by kernel_rfl) ?_
      have i2 : a1.toNat < a0.Archives.length := il
      simp [i2, rowAt_map, g1x]
      repeat with_reducible refine sdg ?_
      refine cR (s_AddItem_ok (nth a0.Archives a1.toNat) (s_l34Item a0 a2 a3 a4 a5).1 (by first | (exact sm_mono (n := 2314240) (by decide) (by simp (maxDischargeDepth := 12) [u0, u1])) | (exact sm_mono (n := 2314240) (by decide) (s_l34Item_sm (by simp (maxDischargeDepth := 12) [u0, u1]) (by decide)))) (by first | (exact sm_mono (n := 2314240) (by decide) (by simp (maxDischargeDepth := 12) [u0, u1])) | (exact sm_mono (n := 2314240) (by decide) (s_l34Item_sm (by simp (maxDischargeDepth := 12) [u0, u1]) (by decide))))) ?_
      simp [g1x]
      repeat with_reducible refine sdg ?_
      refine condR (c := (!(s_AddItem (nth a0.Archives a1.toNat) (s_l34Item a0 a2 a3 a4 a5).1).2)) (by first | (simp [g1x]; done) | grind) (fun k5 h3 => ?_) (fun k5 h3 => ?_)
      ·try (have z := h3; simp [g1x] at z; done)
       all_goals
        have q3 := h3; try simp at q3
        simp [g1x]
        repeat with_reducible refine sdg ?_
        refine retOwn (rv := [.cell 12 42, .tmp 13]) rfl ?_
        have f3 := s_StepSign.eq_1 a0 a1 a2 a3 a4 a5; simp only [h1, h2, h3, cond_t, cond_f] at f3; simp [f3, g1x]
      ·try (have z := h3; simp [g1x] at z; done)
       all_goals
        have q3 := h3; try simp at q3
        simp [i2, rowAt_map, set_map (x := (s_AddItem (nth a0.Archives a1.toNat) (s_l34Item a0 a2 a3 a4 a5).1).1) rfl, g1x]
        repeat with_reducible refine sdg ?_
        refine retOwn (rv := [.cell 12 42, .tmp 13]) rfl ?_
        have f4 := s_StepSign.eq_1 a0 a1 a2 a3 a4 a5; simp only [h1, h2, h3, cond_t, cond_f] at f4; simp [f4, g1x]
 ·have g1x := g1; try simp only [beq_true, beq_false, Bool.not_eq_true', Bool.not_eq_false', Bool.true_and, Bool.and_true] at g1x
  simp [g1x]
  repeat with_reducible refine sdg ?_
  have c2 : a0.Archives.length ≤ 2314240 := sm_len (by simp (maxDischargeDepth := 12) [u0, u1])
  have w2 : IntKind.i64.wrap ((a0.Archives.length : Int) - 1) = (a0.Archives.length : Int) - 1 := wrap_of (by omega) (by omega)
  refine condR (c := (((!(s_l34Has a0 a1)) || (decide ((s_FindKey a0.Frame.Keys a2) < 0))) || (decide ((nth a0.Frame.Keys (s_FindKey a0.Frame.Keys a2).toNat).Born > a0.Frame.Now)))) (by first | (simp [g1x]; done) | grind) (fun k6 h4 => ?_) (fun k6 h4 => ?_)
  ·try (have z := h4; simp [g1x] at z; done)
   all_goals
    have q4 := h4; try simp [w2, s_l34Has, s_l1In] at q4
    simp [g1x]
    repeat with_reducible refine sdg ?_
    refine retOwn (rv := [.cell 12 42, .tmp 13]) rfl ?_
    have f5 := s_StepSign.eq_1 a0 a1 a2 a3 a4 a5; simp only [h4, cond_t, cond_f] at f5; simp [f5, g1x]
  ·try (have z := h4; simp [g1x] at z; done)
   all_goals
    have q4 := h4; try simp [w2, s_l34Has, s_l1In] at q4
    simp [g1x]
    repeat with_reducible refine sdg ?_
    refine cR (s_l34Item_ok a0 a2 a3 a4 a5 (sg u0) (sg u1)) ?_
    simp [g1x]
    repeat with_reducible refine sdg ?_
    refine condR (c := (!(s_l34Item a0 a2 a3 a4 a5).2)) (by first | (simp [g1x]; done) | grind) (fun k7 h5 => ?_) (fun k7 h5 => ?_)
    ·try (have z := h5; simp [g1x] at z; done)
     all_goals
      have q5 := h5; try simp at q5
      simp [g1x]
      repeat with_reducible refine sdg ?_
      refine retOwn (rv := [.cell 12 42, .tmp 13]) rfl ?_
      have f6 := s_StepSign.eq_1 a0 a1 a2 a3 a4 a5; simp only [h4, h5, cond_t, cond_f] at f6; simp [f6, g1x]
    ·try (have z := h5; simp [g1x] at z; done)
     all_goals
      have q5 := h5; try simp at q5
      simp [g1x]
      repeat with_reducible refine sdg ?_
      refine okD fun k8 => ?_
      refine drawI mixed (by kernel_rfl) (by kernel_rfl) ?_
      have i4 : a1.toNat < a0.Archives.length := il
      simp [i4, rowAt_map, g1x]
      repeat with_reducible refine sdg ?_
      refine cR (s_AddItem_ok (nth a0.Archives a1.toNat) (s_l34Item a0 a2 a3 a4 a5).1 (by first | (exact sm_mono (n := 2314240) (by decide) (by simp (maxDischargeDepth := 12) [u0, u1])) | (exact sm_mono (n := 2314240) (by decide) (s_l34Item_sm (by simp (maxDischargeDepth := 12) [u0, u1]) (by decide)))) (by first | (exact sm_mono (n := 2314240) (by decide) (by simp (maxDischargeDepth := 12) [u0, u1])) | (exact sm_mono (n := 2314240) (by decide) (s_l34Item_sm (by simp (maxDischargeDepth := 12) [u0, u1]) (by decide))))) ?_
      simp [g1x]
      repeat with_reducible refine sdg ?_
      refine condR (c := (!(s_AddItem (nth a0.Archives a1.toNat) (s_l34Item a0 a2 a3 a4 a5).1).2)) (by first | (simp [g1x]; done) | grind) (fun k9 h6 => ?_) (fun k9 h6 => ?_)
      ·try (have z := h6; simp [g1x] at z; done)
       all_goals
        have q6 := h6; try simp at q6
        simp [g1x]
        repeat with_reducible refine sdg ?_
        refine retOwn (rv := [.cell 12 42, .tmp 13]) rfl ?_
        have f7 := s_StepSign.eq_1 a0 a1 a2 a3 a4 a5; simp only [h4, h5, h6, cond_t, cond_f] at f7; simp [f7, g1x]
      ·try (have z := h6; simp [g1x] at z; done)
       all_goals
        have q6 := h6; try simp at q6
        simp [i4, rowAt_map, set_map (x := (s_AddItem (nth a0.Archives a1.toNat) (s_l34Item a0 a2 a3 a4 a5).1).1) rfl, g1x]
        repeat with_reducible refine sdg ?_
        refine retOwn (rv := [.cell 12 42, .tmp 13]) rfl ?_
        have f8 := s_StepSign.eq_1 a0 a1 a2 a3 a4 a5; simp only [h4, h5, h6, cond_t, cond_f] at f8; simp [f8, g1x]
theorem i_FindKey_ok (a0 : List TKey) (a1 : Int) : SoundAt Tryz.prog 82 false [[.sl 5 (a0.map TKey.row)], [.int .i64 a1]] [[.int .i64 (i_FindKey a0 a1)]] := by
 refine sound_of Tryz.func82 rfl (by kernel_rfl) ?_
 simp [Tryz.ntmps82]
 refine okL fun k1 => ?_
 refine loopI (ι := { s : Nat × Nat // i_FindKey_1 a0 a1 s.1 s.2 = i_FindKey_1 a0 a1 (a0.length + 1) 0 ∧ (1 ≤ s.1 ∧ a0.length < s.1 + s.2 ∧ s.2 ≤ a0.length) }) (fun s => stOf 20 [eI 1 a1, eL 7 5 a0 TKey.row, eI 8 (↑a0.length : Int), eI 9 (↑s.1.2 : Int)]) (fun s => s.1.1) ⟨((a0.length + 1), 0), rfl, by first | omega | (dsimp only; omega) | simp⟩ (wk_keep (by simp)) ?_
 rintro ⟨⟨n1, v1_0⟩, e1, j1⟩
 try dsimp only at e1 j1
 obtain ⟨p1, rfl⟩ : ∃ p, n1 = p + 1 := ⟨n1 - 1, by omega⟩
 simp
 refine cC (decide ((↑v1_0 : Int) < (↑a0.length : Int))) (fun k2 h1 => ?_) (fun k2 h1 => ?_)
 ·have q1 := h1; try simp at q1
  have i1 : v1_0 < a0.length := by simpa using h1
  have m2 : a0.length ≤ 9223372036854775807 := by simpa using k2 7 _ rfl
  have w1 : IntKind.i64.wrap ((v1_0 : Int) + 1) = (v1_0 : Int) + 1 := wrap_of (by omega) (by omega)
  simp [i1, rowAt_map]
  repeat with_reducible refine sd ?_
  refine cC ((nth a0 v1_0).Number == a1) (fun k3 h2 => ?_) (fun k3 h2 => ?_)
  ·have q2 := h2; try simp at q2
   have x1 : i_FindKey_1 a0 a1 (a0.length + 1) 0 = .inl (↑v1_0 : Int) := by rw [← e1]; simp only [i_FindKey_1, h1, h2, cond_t, cond_f]
   simp
   refine retRd (rv := [.tmp 4]) rfl ?_
   have f1 := i_FindKey.eq_1 a0 a1; simp only [x1, cond_t, cond_f] at f1; simp [f1]
  ·have q2 := h2; try simp at q2
   simp
   refine nxtI ⟨(p1, (v1_0 + 1)), ?_, ?_⟩ (by simp) (wk_keep (by simp [w1]))
   · rw [← e1]; simp only [i_FindKey_1, h1, h2, cond_t, cond_f]
   · first | omega | (simp at *; omega)
 ·have q1 := h1; try simp at q1
  have x2 : i_FindKey_1 a0 a1 (a0.length + 1) 0 = .inr () := by rw [← e1]; simp only [i_FindKey_1, h1, cond_t, cond_f]
  simp
  refine retRd (rv := [.tmp 4]) rfl ?_
  have f2 := i_FindKey.eq_1 a0 a1; simp only [x2, cond_t, cond_f] at f2; simp [f2]
theorem i_copyFrame_ok (a0 : TFrame) (u0 : Sm 2342912 a0) : SoundD Tryz.prog 130 [a0.row] [(i_copyFrame a0).row] := by
 refine sound_ofD Tryz.func130 rfl (by kernel_rfl) ?_
 have c1 : a0.Keys.length ≤ 2342912 := sm_len (by simp (maxDischargeDepth := 12) [u0])
 have c2 : a0.Authorities.length ≤ 2342912 := sm_len (by simp (maxDischargeDepth := 12) [u0])
 have c3 : a0.Methods.length ≤ 2342912 := sm_len (by simp (maxDischargeDepth := 12) [u0])
 simp [Tryz.ntmps130]
 repeat with_reducible refine sd ?_
 refine retD (rv := [.cell 2 38]) rfl ?_
 have f1 := i_copyFrame.eq_1 a0; simp [f1]
theorem i_copyFrame_okI (a0 : TFrame) (u0 : Sm 2342912 a0) : SoundD Tryz.prog 130 [a0.row] [a0.row] := by
  have h := i_copyFrame_ok a0 u0
  rwa [i_copyFrame_id] at h
theorem i_copyInts_ok (a0 : List Int) (u0 : Sm 2342912 a0) : SoundD Tryz.prog 131 [[.sl 1 (a0.map iR)]] [[.sl 1 ((i_copyInts a0).map iR)]] := by
 refine sound_ofD Tryz.func131 rfl (by kernel_rfl) ?_
 have c1 : a0.length ≤ 2342912 := sm_len (by simp (maxDischargeDepth := 12) [u0])
 simp [Tryz.ntmps131]
 repeat with_reducible refine sd ?_
 refine retD (rv := [.tmp 2]) rfl ?_
 have f1 := i_copyInts.eq_1 a0; simp [f1]
theorem i_copyInts_okI (a0 : List Int) (u0 : Sm 2342912 a0) : SoundD Tryz.prog 131 [[.sl 1 (a0.map iR)]] [[.sl 1 (a0.map iR)]] := by
  have h := i_copyInts_ok a0 u0
  rwa [i_copyInts_id] at h
theorem i_copyDocument_ok (a0 : TDocument) (u0 : Sm 2338816 a0) : SoundD Tryz.prog 201 [a0.row] [(i_copyDocument a0).row] := by
 refine sound_ofD Tryz.func201 rfl (by kernel_rfl) ?_
 simp [Tryz.ntmps201]
 refine okD fun k1 => ?_
 refine drawP [2, 3, 4, 5, 0, 1, 6, 7, 8, 9, 10] mixed (by kernel_rfl) (by kernel_rfl) (by kernel_rfl) ?_
 have c1 : a0.Parts.length ≤ 2338816 := sm_len (by simp (maxDischargeDepth := 12) [u0])
 simp
 repeat with_reducible refine sd ?_
 refine cD [false] (i_copyInts_okI a0.Salts (sg (TDocument.sm_Salts u0))) ?_
 simp
 refine retD (rv := [.cell 2 59]) rfl ?_
 have f1 := i_copyDocument.eq_1 a0; simp [f1]
theorem i_copyDocument_okI (a0 : TDocument) (u0 : Sm 2338816 a0) : SoundD Tryz.prog 201 [a0.row] [a0.row] := by
  have h := i_copyDocument_ok a0 u0
  rwa [i_copyDocument_id] at h
theorem i_copyPiece_ok (a0 : TPiece) (u0 : Sm 2338816 a0) : SoundD Tryz.prog 250 [a0.row] [(i_copyPiece a0).row] := by
 refine sound_ofD Tryz.func250 rfl (by kernel_rfl) ?_
 simp [Tryz.ntmps250]
 refine cD [false] (i_copyInts_okI a0.Ints (sg (TPiece.sm_Ints u0))) ?_
 simp
 refine retD (rv := [.cell 2 110]) rfl ?_
 have f1 := i_copyPiece.eq_1 a0; simp [f1]
theorem i_copyPiece_okI (a0 : TPiece) (u0 : Sm 2338816 a0) : SoundD Tryz.prog 250 [a0.row] [a0.row] := by
  have h := i_copyPiece_ok a0 u0
  rwa [i_copyPiece_id] at h
theorem i_copyPieces_ok (a0 : List TPiece) (u0 : Sm 2334720 a0) : SoundD Tryz.prog 247 [[.sl 3 (a0.map TPiece.row)]] [[.sl 3 ((i_copyPieces a0).map TPiece.row)]] := by
 refine sound_ofD Tryz.func247 rfl (by kernel_rfl) ?_
 simp [Tryz.ntmps247]
 refine okL fun k1 => ?_
 refine loopI (ι := { s : Nat × (List TPiece) × Nat // i_copyPieces_1 a0 s.1 s.2.1 s.2.2 = i_copyPieces_1 a0 (a0.length + 1) ([] : List TPiece) 0 ∧ (1 ≤ s.1 ∧ a0.length < s.1 + s.2.2 ∧ s.2.2 ≤ a0.length ∧ s.2.1.length ≤ 0 + 1 * s.2.2) }) (fun s => stOf 19 [(3, .one (.sref 3 0 0 s.1.2.1.length), [.arr true 3 (s.1.2.1.map TPiece.row)]), eL 6 3 a0 TPiece.row, eI 7 (↑a0.length : Int), eI 8 (↑s.1.2.2 : Int)]) (fun s => s.1.1) ⟨((a0.length + 1), ([] : List TPiece), 0), rfl, by first | omega | (dsimp only; omega) | simp⟩ (wk_of [((3, 0), none)] [] rfl (by simp)) ?_
 rintro ⟨⟨n1, v1_0, v1_1⟩, e1, j1⟩
 try dsimp only at e1 j1
 obtain ⟨p1, rfl⟩ : ∃ p, n1 = p + 1 := ⟨n1 - 1, by omega⟩
 simp
 refine cC (decide ((↑v1_1 : Int) < (↑a0.length : Int))) (fun k2 h1 => ?_) (fun k2 h1 => ?_)
 ·have q1 := h1; try simp at q1
  have i1 : v1_1 < a0.length := by simpa using h1
  have m2 : a0.length ≤ 9223372036854775807 := by simpa using k2 6 _ rfl
  have c1 : a0.length ≤ 2334720 := sm_len (by simp (maxDischargeDepth := 12) [u0])
  have w1 : IntKind.i64.wrap ((v1_1 : Int) + 1) = (v1_1 : Int) + 1 := wrap_of (by omega) (by omega)
  simp [i1, rowAt_map]
  repeat with_reducible refine sd ?_
  refine cD [true, false] (i_copyPiece_okI (nth a0 v1_1) (sg (sm_nth u0))) ?_
  simp
  refine litI rfl rfl rfl (by simp) (by simp) (by simp) ?_
  simp
  refine apDI (olds := (v1_0.map TPiece.row)) (news := (([(nth a0 v1_1)] : List TPiece).map TPiece.row)) (l1 := [(3, 0)]) (l2 := [(14, 1)]) (size := 3) rfl rfl rfl rfl (by simp) (by simp) (by simp) (by simp) (by simp) (by simp; omega) ?_
  simp
  refine nxtI ⟨(p1, (v1_0 ++ ([(nth a0 v1_1)] : List TPiece)), (v1_1 + 1)), ?_, ?_⟩ (by simp) (wk_of [((3, 0), some (16, 0))] [] rfl (by simp [w1]))
  · rw [← e1]; simp only [i_copyPieces_1, h1, cond_t, cond_f]
  · first | omega | (simp at *; omega)
 ·have q1 := h1; try simp at q1
  have c2 : a0.length ≤ 2334720 := sm_len (by simp (maxDischargeDepth := 12) [u0])
  have x1 : i_copyPieces_1 a0 (a0.length + 1) ([] : List TPiece) 0 = v1_0 := by rw [← e1]; simp only [i_copyPieces_1, h1, cond_t, cond_f]
  simp
  refine retD (rv := [.tmp 2]) rfl ?_
  have f1 := i_copyPieces.eq_1 a0; simp only [x1, cond_t, cond_f] at f1; simp [f1]
theorem i_copyPieces_okI (a0 : List TPiece) (u0 : Sm 2334720 a0) : SoundD Tryz.prog 247 [[.sl 3 (a0.map TPiece.row)]] [[.sl 3 (a0.map TPiece.row)]] := by
  have h := i_copyPieces_ok a0 u0
  rwa [i_copyPieces_id] at h
theorem i_copyStamps_ok (a0 : List TStamp) (u0 : Sm 2342912 a0) : SoundD Tryz.prog 264 [[.sl 5 (a0.map TStamp.row)]] [[.sl 5 ((i_copyStamps a0).map TStamp.row)]] := by
 refine sound_ofD Tryz.func264 rfl (by kernel_rfl) ?_
 have c1 : a0.length ≤ 2342912 := sm_len (by simp (maxDischargeDepth := 12) [u0])
 simp [Tryz.ntmps264]
 repeat with_reducible refine sd ?_
 refine retD (rv := [.tmp 2]) rfl ?_
 have f1 := i_copyStamps.eq_1 a0; simp [f1]
theorem i_copyStamps_okI (a0 : List TStamp) (u0 : Sm 2342912 a0) : SoundD Tryz.prog 264 [[.sl 5 (a0.map TStamp.row)]] [[.sl 5 (a0.map TStamp.row)]] := by
  have h := i_copyStamps_ok a0 u0
  rwa [i_copyStamps_id] at h
theorem i_copyRenewal_ok (a0 : TRenewal) (u0 : Sm 2338816 a0) : SoundD Tryz.prog 236 [a0.row] [(i_copyRenewal a0).row] := by
 refine sound_ofD Tryz.func236 rfl (by kernel_rfl) ?_
 have c1 : a0.Path.length ≤ 2338816 := sm_len (by simp (maxDischargeDepth := 12) [u0])
 simp [Tryz.ntmps236]
 repeat with_reducible refine sd ?_
 refine cD [false] (i_copyStamps_okI a0.Stamps (sg (TRenewal.sm_Stamps u0))) ?_
 simp
 refine retD (rv := [.cell 2 196]) rfl ?_
 have f1 := i_copyRenewal.eq_1 a0; simp [f1]
theorem i_copyRenewal_okI (a0 : TRenewal) (u0 : Sm 2338816 a0) : SoundD Tryz.prog 236 [a0.row] [a0.row] := by
  have h := i_copyRenewal_ok a0 u0
  rwa [i_copyRenewal_id] at h
theorem i_copyStrand_ok (a0 : TStrand) (u0 : Sm 2330624 a0) : SoundD Tryz.prog 202 [a0.row] [(i_copyStrand a0).row] := by
 refine sound_ofD Tryz.func202 rfl (by kernel_rfl) ?_
 simp [Tryz.ntmps202]
 refine cD [] (i_copyPieces_okI a0.Pieces (sg (TStrand.sm_Pieces u0))) ?_
 simp
 refine okL fun k1 => ?_
 refine loopI (ι := { s : Nat × Nat × (List TRenewal) // i_copyStrand_1 a0 s.1 s.2.1 s.2.2 = i_copyStrand_1 a0 (a0.Chain.length + 1) 0 ([] : List TRenewal) ∧ (1 ≤ s.1 ∧ a0.Chain.length < s.1 + s.2.1 ∧ s.2.1 ≤ a0.Chain.length ∧ s.2.2.length ≤ 0 + 1 * s.2.1) }) (fun s => stOf 26 [(2, .one (.bptr 2 0), [.box [.nil 3, .nil 5]]), (3, .one (.bptr 3 0), [.box [.sref 8 0 0 a0.Pieces.length, .sref 3 2 0 s.1.2.2.length], .none, .arr true 5 (s.1.2.2.map TRenewal.row)]), (8, .any, [.arr true 3 (a0.Pieces.map TPiece.row)]), eL 11 5 a0.Chain TRenewal.row, eI 12 (↑a0.Chain.length : Int), eI 13 (↑s.1.2.1 : Int)]) (fun s => s.1.1) ⟨((a0.Chain.length + 1), 0, ([] : List TRenewal)), rfl, by first | omega | (dsimp only; omega) | simp⟩ (wk_of [((3, 2), none)] [] rfl (by simp)) ?_
 rintro ⟨⟨n1, v1_0, v1_1⟩, e1, j1⟩
 try dsimp only at e1 j1
 obtain ⟨p1, rfl⟩ : ∃ p, n1 = p + 1 := ⟨n1 - 1, by omega⟩
 simp
 refine cC (decide ((↑v1_0 : Int) < (↑a0.Chain.length : Int))) (fun k2 h1 => ?_) (fun k2 h1 => ?_)
 ·have q1 := h1; try simp at q1
  have i1 : v1_0 < a0.Chain.length := by simpa using h1
  have m2 : a0.Chain.length ≤ 9223372036854775807 := by simpa using k2 11 _ rfl
  have c1 : a0.Chain.length ≤ 2330624 := sm_len (by simp (maxDischargeDepth := 12) [u0])
  have w1 : IntKind.i64.wrap ((v1_0 : Int) + 1) = (v1_0 : Int) + 1 := wrap_of (by omega) (by omega)
  simp [i1, rowAt_map]
  repeat with_reducible refine sd ?_
  refine okD fun k3 => ?_
  refine drawJ [22] mixed (by kernel_rfl) (by kernel_rfl) ?_
  simp
  refine cD [true, true, true, false, false] (i_copyRenewal_okI (nth a0.Chain v1_0) (sg (sm_nth (TStrand.sm_Chain u0)))) ?_
  simp
  refine litI rfl rfl rfl (by simp) (by simp) (by simp) ?_
  simp
  refine apDI (olds := (v1_1.map TRenewal.row)) (news := (([(nth a0.Chain v1_0)] : List TRenewal).map TRenewal.row)) (l1 := [(3, 2)]) (l2 := [(20, 3), (20, 4)]) (size := 5) rfl rfl rfl rfl (by simp) (by simp) (by simp) (by simp) (by simp) (by simp; omega) ?_
  simp
  refine nxtI ⟨(p1, (v1_0 + 1), (v1_1 ++ ([(nth a0.Chain v1_0)] : List TRenewal))), ?_, ?_⟩ (by simp) (wk_of [((3, 2), some (22, 0))] [] rfl (by simp [w1]))
  · rw [← e1]; simp only [i_copyStrand_1, h1, cond_t, cond_f]
  · first | omega | (simp at *; omega)
 ·have q1 := h1; try simp at q1
  have c2 : a0.Chain.length ≤ 2330624 := sm_len (by simp (maxDischargeDepth := 12) [u0])
  have x1 : i_copyStrand_1 a0 (a0.Chain.length + 1) 0 ([] : List TRenewal) = v1_1 := by rw [← e1]; simp only [i_copyStrand_1, h1, cond_t, cond_f]
  simp
  refine retD (rv := [.cell 2 100]) rfl ?_
  have f1 := i_copyStrand.eq_1 a0; simp only [x1, cond_t, cond_f] at f1; simp [f1]
theorem i_copyStrand_okI (a0 : TStrand) (u0 : Sm 2330624 a0) : SoundD Tryz.prog 202 [a0.row] [a0.row] := by
  have h := i_copyStrand_ok a0 u0
  rwa [i_copyStrand_id] at h
theorem i_copyItem_ok (a0 : TItem) (u0 : Sm 2326528 a0) : SoundD Tryz.prog 138 [a0.row] [(i_copyItem a0).row] := by
 refine sound_ofD Tryz.func138 rfl (by kernel_rfl) ?_
 simp [Tryz.ntmps138]
 refine cD [true, false, false] (i_copyDocument_okI a0.Doc (sg (TItem.sm_Doc u0))) ?_
 simp
 refine cD [] (i_copyStrand_okI a0.Strand (sg (TItem.sm_Strand u0))) ?_
 simp
 refine retD (rv := [.cell 2 104]) rfl ?_
 have f1 := i_copyItem.eq_1 a0; simp [f1]
theorem i_copyItem_okI (a0 : TItem) (u0 : Sm 2326528 a0) : SoundD Tryz.prog 138 [a0.row] [a0.row] := by
  have h := i_copyItem_ok a0 u0
  rwa [i_copyItem_id] at h
theorem i_copyArchive_ok (a0 : TArchive) (u0 : Sm 2322432 a0) : SoundD Tryz.prog 132 [a0.row] [(i_copyArchive a0).row] := by
 refine sound_ofD Tryz.func132 rfl (by kernel_rfl) ?_
 simp [Tryz.ntmps132]
 refine okL fun k1 => ?_
 refine loopI (ι := { s : Nat × Nat × (List TItem) // i_copyArchive_1 a0 s.1 s.2.1 s.2.2 = i_copyArchive_1 a0 (a0.Items.length + 1) 0 ([] : List TItem) ∧ (1 ≤ s.1 ∧ a0.Items.length < s.1 + s.2.1 ∧ s.2.1 ≤ a0.Items.length ∧ s.2.2.length ≤ 0 + 1 * s.2.1) }) (fun s => stOf 25 [(2, .one (.bptr 2 0), [.box [.d (.int .i64 0), .nil 16]]), (3, .one (.bptr 3 0), [.box [.d (.int .i64 a0.Id), .sref 3 2 0 s.1.2.2.length], .none, .arr true 16 (s.1.2.2.map TItem.row)]), eL 10 16 a0.Items TItem.row, eI 11 (↑a0.Items.length : Int), eI 12 (↑s.1.2.1 : Int)]) (fun s => s.1.1) ⟨((a0.Items.length + 1), 0, ([] : List TItem)), rfl, by first | omega | (dsimp only; omega) | simp⟩ (wk_of [((3, 2), none)] [] rfl (by simp)) ?_
 rintro ⟨⟨n1, v1_0, v1_1⟩, e1, j1⟩
 try dsimp only at e1 j1
 obtain ⟨p1, rfl⟩ : ∃ p, n1 = p + 1 := ⟨n1 - 1, by omega⟩
 simp
 refine cC (decide ((↑v1_0 : Int) < (↑a0.Items.length : Int))) (fun k2 h1 => ?_) (fun k2 h1 => ?_)
 ·have q1 := h1; try simp at q1
  have i1 : v1_0 < a0.Items.length := by simpa using h1
  have m2 : a0.Items.length ≤ 9223372036854775807 := by simpa using k2 10 _ rfl
  have c1 : a0.Items.length ≤ 2322432 := sm_len (by simp (maxDischargeDepth := 12) [u0])
  have w1 : IntKind.i64.wrap ((v1_0 : Int) + 1) = (v1_0 : Int) + 1 := wrap_of (by omega) (by omega)
  simp [i1, rowAt_map]
  repeat with_reducible refine sd ?_
  refine okD fun k3 => ?_
  refine drawJ [21] mixed (by kernel_rfl) (by kernel_rfl) ?_
  simp
  refine cD [true, true, true, false, false] (i_copyItem_okI (nth a0.Items v1_0) (sg (sm_nth (TArchive.sm_Items u0)))) ?_
  simp
  refine litI rfl rfl rfl (by simp) (by simp) (by simp) ?_
  simp
  refine apDI (olds := (v1_1.map TItem.row)) (news := (([(nth a0.Items v1_0)] : List TItem).map TItem.row)) (l1 := [(3, 2)]) (l2 := [(19, 3), (19, 4), (19, 14), (19, 15)]) (size := 16) rfl rfl rfl rfl (by simp) (by simp) (by simp) (by simp) (by simp) (by simp; omega) ?_
  simp
  refine nxtI ⟨(p1, (v1_0 + 1), (v1_1 ++ ([(nth a0.Items v1_0)] : List TItem))), ?_, ?_⟩ (by simp) (wk_of [((3, 2), some (21, 0))] [] rfl (by simp [w1]))
  · rw [← e1]; simp only [i_copyArchive_1, h1, cond_t, cond_f]
  · first | omega | (simp at *; omega)
 ·have q1 := h1; try simp at q1
  have c2 : a0.Items.length ≤ 2322432 := sm_len (by simp (maxDischargeDepth := 12) [u0])
  have x1 : i_copyArchive_1 a0 (a0.Items.length + 1) 0 ([] : List TItem) = v1_1 := by rw [← e1]; simp only [i_copyArchive_1, h1, cond_t, cond_f]
  simp
  refine retD (rv := [.cell 2 92]) rfl ?_
  have f1 := i_copyArchive.eq_1 a0; simp only [x1, cond_t, cond_f] at f1; simp [f1]
theorem i_copyArchive_okI (a0 : TArchive) (u0 : Sm 2322432 a0) : SoundD Tryz.prog 132 [a0.row] [a0.row] := by
  have h := i_copyArchive_ok a0 u0
  rwa [i_copyArchive_id] at h
theorem i_copyWorld_ok (a0 : TWorld) (u0 : Sm 2318336 a0) : SoundD Tryz.prog 65 [a0.row] [(i_copyWorld a0).row] := by
 refine sound_ofD Tryz.func65 rfl (by kernel_rfl) ?_
 simp [Tryz.ntmps65]
 refine okD fun k1 => ?_
 refine drawI mixed (by kernel_rfl) (by kernel_rfl) ?_
 simp
 refine cD [false, false, false] (i_copyFrame_okI a0.Frame (sg (TWorld.sm_Frame u0))) ?_
 have c1 : a0.Certs.length ≤ 2318336 := sm_len (by simp (maxDischargeDepth := 12) [u0])
 simp
 repeat with_reducible refine sd ?_
 refine cD [false] (i_copyInts_okI a0.Ended (sg (TWorld.sm_Ended u0))) ?_
 simp
 refine cD [false] (i_copyInts_okI a0.Seqs (sg (TWorld.sm_Seqs u0))) ?_
 simp
 refine cD [false] (i_copyInts_okI a0.Lying (sg (TWorld.sm_Lying u0))) ?_
 simp
 refine cD [false] (i_copyInts_okI a0.Forged (sg (TWorld.sm_Forged u0))) ?_
 simp
 refine okL fun k2 => ?_
 refine loopI (ι := { s : Nat × Nat × (List TArchive) // i_copyWorld_1 a0 s.1 s.2.1 s.2.2 = i_copyWorld_1 a0 (a0.Archives.length + 1) 0 ([] : List TArchive) ∧ (1 ≤ s.1 ∧ a0.Archives.length < s.1 + s.2.1 ∧ s.2.1 ≤ a0.Archives.length ∧ s.2.2.length ≤ 0 + 1 * s.2.1) }) (fun s => stOf 44 [(2, .one (.bptr 2 0), [.box [.nil 5, .nil 3, .nil 4, .d (.int .i64 0), .d (.int .i64 0), .nil 7, .nil 1, .nil 2, .nil 1, .nil 1, .d (.int .i64 0), .nil 1]]), (3, .one (.bptr 3 0), [.box [.sref 8 0 0 a0.Frame.Keys.length, .sref 8 1 0 a0.Frame.Authorities.length, .sref 8 2 0 a0.Frame.Methods.length, .d (.int .i64 a0.Frame.Liars), .d (.int .i64 a0.Frame.Now), .sref 12 0 0 a0.Certs.length, .sref 15 0 0 a0.Ended.length, .sref 3 8 0 s.1.2.2.length, .sref 18 0 0 a0.Seqs.length, .sref 21 0 0 a0.Lying.length, .d (.int .i64 a0.Next), .sref 26 0 0 a0.Forged.length], .none, .none, .none, .none, .none, .none, .none, .arr true 2 (s.1.2.2.map TArchive.row)]), (8, .any, [.arr false 5 (a0.Frame.Keys.map TKey.row), .arr false 3 (a0.Frame.Authorities.map TAuthority.row), .arr false 4 (a0.Frame.Methods.map TMethod.row)]), (12, .any, [.arr false 7 (a0.Certs.map TCert.row)]), (15, .any, [.arr false 1 (a0.Ended.map iR)]), (18, .any, [.arr false 1 (a0.Seqs.map iR)]), (21, .any, [.arr false 1 (a0.Lying.map iR)]), (26, .any, [.arr false 1 (a0.Forged.map iR)]), eL 29 2 a0.Archives TArchive.row, eI 30 (↑a0.Archives.length : Int), eI 31 (↑s.1.2.1 : Int)]) (fun s => s.1.1) ⟨((a0.Archives.length + 1), 0, ([] : List TArchive)), rfl, by first | omega | (dsimp only; omega) | simp⟩ (wk_of [((3, 8), none)] [] rfl (by simp)) ?_
 rintro ⟨⟨n1, v1_0, v1_1⟩, e1, j1⟩
 try dsimp only at e1 j1
 obtain ⟨p1, rfl⟩ : ∃ p, n1 = p + 1 := ⟨n1 - 1, by omega⟩
 simp
 refine cC (decide ((↑v1_0 : Int) < (↑a0.Archives.length : Int))) (fun k3 h1 => ?_) (fun k3 h1 => ?_)
 ·have q1 := h1; try simp at q1
  have i1 : v1_0 < a0.Archives.length := by simpa using h1
  have m2 : a0.Archives.length ≤ 9223372036854775807 := by simpa using k3 29 _ rfl
  have c2 : a0.Archives.length ≤ 2318336 := sm_len (by simp (maxDischargeDepth := 12) [u0])
  have w1 : IntKind.i64.wrap ((v1_0 : Int) + 1) = (v1_0 : Int) + 1 := wrap_of (by omega) (by omega)
  simp [i1, rowAt_map]
  repeat with_reducible refine sd ?_
  refine okD fun k4 => ?_
  refine drawJ [40] mixed (by kernel_rfl) (by kernel_rfl) ?_
  simp
  refine cD [] (i_copyArchive_okI (nth a0.Archives v1_0) (sg (sm_nth (TWorld.sm_Archives u0)))) ?_
  simp
  refine litI rfl rfl rfl (by simp) (by simp) (by simp) ?_
  simp
  refine apDI (olds := (v1_1.map TArchive.row)) (news := (([(nth a0.Archives v1_0)] : List TArchive).map TArchive.row)) (l1 := [(3, 8)]) (l2 := [(38, 1)]) (size := 2) rfl rfl rfl rfl (by simp) (by simp) (by simp) (by simp) (by simp) (by simp; omega) ?_
  simp
  refine nxtI ⟨(p1, (v1_0 + 1), (v1_1 ++ ([(nth a0.Archives v1_0)] : List TArchive))), ?_, ?_⟩ (by simp) (wk_of [((3, 8), some (40, 0))] [] rfl (by simp [w1]))
  · rw [← e1]; simp only [i_copyWorld_1, h1, cond_t, cond_f]
  · first | omega | (simp at *; omega)
 ·have q1 := h1; try simp at q1
  have c3 : a0.Archives.length ≤ 2318336 := sm_len (by simp (maxDischargeDepth := 12) [u0])
  have x1 : i_copyWorld_1 a0 (a0.Archives.length + 1) 0 ([] : List TArchive) = v1_1 := by rw [← e1]; simp only [i_copyWorld_1, h1, cond_t, cond_f]
  simp
  refine retD (rv := [.cell 2 42]) rfl ?_
  have f1 := i_copyWorld.eq_1 a0; simp only [x1, cond_t, cond_f] at f1; simp [f1]
theorem i_copyWorld_okI (a0 : TWorld) (u0 : Sm 2318336 a0) : SoundD Tryz.prog 65 [a0.row] [a0.row] := by
  have h := i_copyWorld_ok a0 u0
  rwa [i_copyWorld_id] at h
theorem i_BestMethod_ok (a0 : List TMethod) (a1 : Int) : SoundAt Tryz.prog 93 false [[.sl 4 (a0.map TMethod.row)], [.int .i64 a1]] [[.int .i64 (i_BestMethod a0 a1)]] := by
 refine sound_of Tryz.func93 rfl (by kernel_rfl) ?_
 simp [Tryz.ntmps93]
 refine okL fun k1 => ?_
 refine loopI (ι := { s : Nat × Int × Nat // i_BestMethod_1 a0 a1 s.1 s.2.1 s.2.2 = i_BestMethod_1 a0 a1 (a0.length + 1) (-1) 0 ∧ (1 ≤ s.1 ∧ a0.length < s.1 + s.2.2 ∧ s.2.2 ≤ a0.length ∧ -1 ≤ s.2.1 ∧ s.2.1 < (a0.length : Int)) }) (fun s => stOf 48 [eL 0 4 a0 TMethod.row, eI 1 a1, eI 5 s.1.2.1, eL 8 4 a0 TMethod.row, eI 9 (↑a0.length : Int), eI 10 (↑s.1.2.2 : Int)]) (fun s => s.1.1) ⟨((a0.length + 1), (-1), 0), rfl, by first | omega | (dsimp only; omega) | simp⟩ (wk_keep (by simp)) ?_
 rintro ⟨⟨n1, v1_0, v1_1⟩, e1, j1⟩
 try dsimp only at e1 j1
 obtain ⟨p1, rfl⟩ : ∃ p, n1 = p + 1 := ⟨n1 - 1, by omega⟩
 simp
 refine cC (decide ((↑v1_1 : Int) < (↑a0.length : Int))) (fun k2 h1 => ?_) (fun k2 h1 => ?_)
 ·have q1 := h1; try simp at q1
  have i1 : v1_1 < a0.length := by simpa using h1
  have m2 : a0.length ≤ 9223372036854775807 := by simpa using k2 0 _ rfl
  have w1 : IntKind.i64.wrap ((v1_1 : Int) + 1) = (v1_1 : Int) + 1 := wrap_of (by omega) (by omega)
  simp [i1, rowAt_map]
  repeat with_reducible refine sd ?_
  refine okD fun k3 => ?_
  refine drawI mixed (by kernel_rfl) (by kernel_rfl) ?_
  simp
  refine guardI rfl rfl rfl rfl rfl (by simp) (fun g1 => ?_) (fun g1 => ?_)
  ·have g1x := g1; try simp only [beq_true, beq_false, Bool.not_eq_true', Bool.not_eq_false', Bool.true_and, Bool.and_true] at g1x
   try simp at g1
   have i2 : v1_0.toNat < a0.length := il
   simp [i2, rowAt_map, g1x]
   repeat with_reducible refine sdg ?_
   refine condR (c := (((decide ((nth a0 v1_1).Known ≤ a1)) && (decide (a1 < (nth a0 v1_1).Ends))) && ((decide (v1_0 < 0)) || (decide ((nth a0 v1_1).Ends > (nth a0 v1_0.toNat).Ends))))) (by first | (simp [g1x]; done) | grind) (fun k4 h2 => ?_) (fun k4 h2 => ?_)
   ·try (have z := h2; simp [g1x] at z; done)
    all_goals
     have q2 := h2; try simp at q2
     simp [g1x]
     repeat with_reducible refine sdg ?_
     refine nxtI ⟨(p1, (↑v1_1 : Int), (v1_1 + 1)), ?_, ?_⟩ (by simp) (wk_keep (by simp [w1, g1x]))
     · rw [← e1]; simp only [i_BestMethod_1, h1, h2, cond_t, cond_f]
     · first | omega | (simp at *; omega)
   ·try (have z := h2; simp [g1x] at z; done)
    all_goals
     have q2 := h2; try simp at q2
     simp [g1x]
     repeat with_reducible refine sdg ?_
     refine nxtI ⟨(p1, v1_0, (v1_1 + 1)), ?_, ?_⟩ (by simp) (wk_keep (by simp [w1, g1x]))
     · rw [← e1]; simp only [i_BestMethod_1, h1, h2, cond_t, cond_f]
     · first | omega | (simp at *; omega)
  ·have g1x := g1; try simp only [beq_true, beq_false, Bool.not_eq_true', Bool.not_eq_false', Bool.true_and, Bool.and_true] at g1x
   simp [g1x]
   repeat with_reducible refine sdg ?_
   refine condR (c := (((decide ((nth a0 v1_1).Known ≤ a1)) && (decide (a1 < (nth a0 v1_1).Ends))) && ((decide (v1_0 < 0)) || (decide ((nth a0 v1_1).Ends > (nth a0 v1_0.toNat).Ends))))) (by first | (simp [g1x]; done) | grind) (fun k5 h3 => ?_) (fun k5 h3 => ?_)
   ·try (have z := h3; simp [g1x] at z; done)
    all_goals
     have q3 := h3; try simp at q3
     simp [g1x]
     repeat with_reducible refine sdg ?_
     refine nxtI ⟨(p1, (↑v1_1 : Int), (v1_1 + 1)), ?_, ?_⟩ (by simp) (wk_keep (by simp [w1, g1x]))
     · rw [← e1]; simp only [i_BestMethod_1, h1, h3, cond_t, cond_f]
     · first | omega | (simp at *; omega)
   ·try (have z := h3; simp [g1x] at z; done)
    all_goals
     have q3 := h3; try simp at q3
     simp [g1x]
     repeat with_reducible refine sdg ?_
     refine nxtI ⟨(p1, v1_0, (v1_1 + 1)), ?_, ?_⟩ (by simp) (wk_keep (by simp [w1, g1x]))
     · rw [← e1]; simp only [i_BestMethod_1, h1, h3, cond_t, cond_f]
     · first | omega | (simp at *; omega)
 ·have q1 := h1; try simp at q1
  have x1 : i_BestMethod_1 a0 a1 (a0.length + 1) (-1) 0 = v1_0 := by rw [← e1]; simp only [i_BestMethod_1, h1, cond_t, cond_f]
  simp
  refine cC (decide (v1_0 < 0)) (fun k6 h4 => ?_) (fun k6 h4 => ?_)
  ·have q4 := h4; try simp at q4
   simp
   refine retRd (rv := [.tmp 4]) rfl ?_
   have f1 := i_BestMethod.eq_1 a0 a1; simp only [x1, h4, cond_t, cond_f] at f1; simp [f1]
  ·have q4 := h4; try simp at q4
   have i4 : v1_0.toNat < a0.length := il
   simp [i4, rowAt_map]
   repeat with_reducible refine sd ?_
   refine retRd (rv := [.tmp 4]) rfl ?_
   have f2 := i_BestMethod.eq_1 a0 a1; simp only [x1, h4, cond_t, cond_f] at f2; simp [f2]
theorem i_InRange_ok (a0 : Int) (a1 : Int) (a2 : Int) : SoundAt Tryz.prog 66 false [[.int .i64 a0], [.int .i64 a1], [.int .i64 a2]] [[.bool (i_InRange a0 a1 a2)]] := by
 refine sound_of Tryz.func66 rfl (by kernel_rfl) ?_
 simp [Tryz.ntmps66]
 refine retRd (rv := [.tmp 6]) rfl ?_
 have f1 := i_InRange.eq_1 a0 a1 a2; simp [f1]
theorem i_isArchiveOf_ok (a0 : TWorld) (a1 : Int) : SoundAt Tryz.prog 72 false [a0.row, [.int .i64 a1]] [[.bool (i_isArchiveOf a0 a1)]] := by
 refine sound_of Tryz.func72 rfl (by kernel_rfl) ?_
 simp [Tryz.ntmps72]
 refine cR (i_InRange_ok a1 0 (W ((↑a0.Archives.length : Int) - 1))) ?_
 simp
 refine retRd (rv := [.tmp 4]) rfl ?_
 have f1 := i_isArchiveOf.eq_1 a0 a1; simp [f1]
theorem i_IsDocument_ok (a0 : TDocument) : SoundAt Tryz.prog 220 false [a0.row] [[.bool (i_IsDocument a0)]] := by
 refine sound_of Tryz.func220 rfl (by kernel_rfl) ?_
 simp [Tryz.ntmps220]
 refine cR (i_InRange_ok a0.Title 0 999) ?_
 simp
 refine cG (fun gg => (i_InRange_ok (↑a0.Parts.length : Int) 1 6)) ?_
 simp
 refine cC (((!(i_InRange a0.Title 0 999)) || (!(i_InRange (↑a0.Parts.length : Int) 1 6))) || ((↑a0.Salts.length : Int) != (↑a0.Parts.length : Int))) (fun k1 h1 => ?_) (fun k1 h1 => ?_)
 ·have q1 := h1; try simp [i_InRange] at q1
  simp
  refine retRd (rv := [.tmp 2]) rfl ?_
  have f1 := i_IsDocument.eq_1 a0; simp only [h1, cond_t, cond_f] at f1; simp [f1]
 ·have q1 := h1; try simp [i_InRange] at q1
  simp
  refine okL fun k2 => ?_
  refine loopI (ι := { s : Nat × Nat // i_IsDocument_1 a0 s.1 s.2 = i_IsDocument_1 a0 (a0.Parts.length + 1) 0 ∧ (1 ≤ s.1 ∧ a0.Parts.length < s.1 + s.2 ∧ s.2 ≤ a0.Parts.length) }) (fun s => stOf 46 [eX 1 (a0.row.map .d), eL 26 1 a0.Parts sR, eI 27 (↑a0.Parts.length : Int), eI 28 (↑s.1.2 : Int)]) (fun s => s.1.1) ⟨((a0.Parts.length + 1), 0), rfl, by first | omega | (dsimp only; omega) | simp⟩ (wk_keep (by simp)) ?_
  rintro ⟨⟨n1, v1_0⟩, e1, j1⟩
  try dsimp only at e1 j1
  obtain ⟨p1, rfl⟩ : ∃ p, n1 = p + 1 := ⟨n1 - 1, by omega⟩
  simp
  refine cC (decide ((↑v1_0 : Int) < (↑a0.Parts.length : Int))) (fun k3 h2 => ?_) (fun k3 h2 => ?_)
  ·have q2 := h2; try simp at q2
   have i1 : v1_0 < a0.Parts.length := by simpa using h2
   have m2 : a0.Parts.length ≤ 9223372036854775807 := by simpa using k3 26 _ rfl
   have w1 : IntKind.i64.wrap ((v1_0 : Int) + 1) = (v1_0 : Int) + 1 := wrap_of (by omega) (by omega)
   simp [i1, rowAt_map]
   repeat with_reducible refine sd ?_
   refine guardI rfl rfl rfl rfl rfl (by simp) (fun g1 => ?_) (fun g1 => ?_)
   ·have g1x := g1; try simp only [beq_true, beq_false, Bool.not_eq_true', Bool.not_eq_false', Bool.true_and, Bool.and_true] at g1x
    try simp at g1
    have i2 : v1_0 < a0.Salts.length := il
    simp [i2, rowAt_map, g1x]
    repeat with_reducible refine sdg ?_
    refine callG rfl rfl rfl rfl rfl rfl (fun gg => (i_InRange_ok (nth a0.Salts v1_0) 1 1000000000000)) (by first | (simp; done) | (simp [g1x]; done) | (simp [g1x]; omega) | (simp_all; done)) (by first | (simp; done) | (simp [g1x]; done) | (simp [g1x]; omega) | (simp_all; done)) (by first | (simp; done) | (simp [g1x]; done) | (simp [g1x]; omega) | (simp_all; done)) (by first | (simp; done) | (simp [g1x]; done) | (simp [g1x]; omega) | (simp_all; done)) ?_
    simp [g1x]
    repeat with_reducible refine sdg ?_
    refine condR (c := ((decide ((↑(nth a0.Parts v1_0).size : Int) > 40)) || (!(i_InRange (nth a0.Salts v1_0) 1 1000000000000)))) (by first | (simp [g1x]; done) | grind) (fun k4 h3 => ?_) (fun k4 h3 => ?_)
    ·try (have z := h3; simp [g1x] at z; done)
     all_goals
      have q3 := h3; try simp [i_InRange] at q3
      have x1 : i_IsDocument_1 a0 (a0.Parts.length + 1) 0 = .inl false := by rw [← e1]; simp only [i_IsDocument_1, h2, h3, cond_t, cond_f]
      simp [g1x]
      repeat with_reducible refine sdg ?_
      refine retRd (rv := [.tmp 2]) rfl ?_
      have f2 := i_IsDocument.eq_1 a0; simp only [h1, x1, cond_t, cond_f] at f2; simp [f2, g1x]
    ·try (have z := h3; simp [g1x] at z; done)
     all_goals
      have q3 := h3; try simp [i_InRange] at q3
      simp [g1x]
      repeat with_reducible refine sdg ?_
      refine nxtI ⟨(p1, (v1_0 + 1)), ?_, ?_⟩ (by simp) (wk_keep (by simp [w1, g1x]))
      · rw [← e1]; simp only [i_IsDocument_1, h2, h3, cond_t, cond_f]
      · first | omega | (simp at *; omega)
   ·have g1x := g1; try simp only [beq_true, beq_false, Bool.not_eq_true', Bool.not_eq_false', Bool.true_and, Bool.and_true] at g1x
    simp [g1x]
    repeat with_reducible refine sdg ?_
    refine skipG rfl rfl rfl rfl (by simp) (by simp [g1x]) ?_
    simp [g1x]
    repeat with_reducible refine sdg ?_
    refine condR (c := ((decide ((↑(nth a0.Parts v1_0).size : Int) > 40)) || (!(i_InRange (nth a0.Salts v1_0) 1 1000000000000)))) (by first | (simp [g1x]; done) | grind) (fun k5 h4 => ?_) (fun k5 h4 => ?_)
    ·try (have z := h4; simp [g1x] at z; done)
     all_goals
      have q4 := h4; try simp [i_InRange] at q4
      have x2 : i_IsDocument_1 a0 (a0.Parts.length + 1) 0 = .inl false := by rw [← e1]; simp only [i_IsDocument_1, h2, h4, cond_t, cond_f]
      simp [g1x]
      repeat with_reducible refine sdg ?_
      refine retRd (rv := [.tmp 2]) rfl ?_
      have f3 := i_IsDocument.eq_1 a0; simp only [h1, x2, cond_t, cond_f] at f3; simp [f3, g1x]
    ·try (have z := h4; simp [g1x] at z; done)
     all_goals
      have q4 := h4; try simp [i_InRange] at q4
      simp [g1x]
      repeat with_reducible refine sdg ?_
      refine nxtI ⟨(p1, (v1_0 + 1)), ?_, ?_⟩ (by simp) (wk_keep (by simp [w1, g1x]))
      · rw [← e1]; simp only [i_IsDocument_1, h2, h4, cond_t, cond_f]
      · first | omega | (simp at *; omega)
  ·have q2 := h2; try simp at q2
   have x3 : i_IsDocument_1 a0 (a0.Parts.length + 1) 0 = .inr () := by rw [← e1]; simp only [i_IsDocument_1, h2, cond_t, cond_f]
   simp
   refine retRd (rv := [.tmp 2]) rfl ?_
   have f4 := i_IsDocument.eq_1 a0; simp only [h1, x3, cond_t, cond_f] at f4; simp [f4]
theorem i_bytesOf_ok (a0 : List UInt8) (u0 : Sm 2342912 a0) : SoundD Tryz.prog 252 [[.sl 1 (a0.map bR)]] [[.sl 1 ((i_bytesOf a0).map iR)]] := by
 refine sound_ofD Tryz.func252 rfl (by kernel_rfl) ?_
 simp [Tryz.ntmps252]
 refine okL fun k1 => ?_
 refine loopI (ι := { s : Nat × (List Int) × Nat // i_bytesOf_1 a0 s.1 s.2.1 s.2.2 = i_bytesOf_1 a0 (a0.length + 1) ([] : List Int) 0 ∧ (1 ≤ s.1 ∧ a0.length < s.1 + s.2.2 ∧ s.2.2 ≤ a0.length ∧ s.2.1.length ≤ 0 + 1 * s.2.2) }) (fun s => stOf 19 [(3, .one (.sref 3 0 0 s.1.2.1.length), [.arr false 1 (s.1.2.1.map iR)]), eL 6 1 a0 bR, eI 7 (↑a0.length : Int), eI 8 (↑s.1.2.2 : Int)]) (fun s => s.1.1) ⟨((a0.length + 1), ([] : List Int), 0), rfl, by first | omega | (dsimp only; omega) | simp⟩ (wk_of [((3, 0), none)] [] rfl (by simp)) ?_
 rintro ⟨⟨n1, v1_0, v1_1⟩, e1, j1⟩
 try dsimp only at e1 j1
 obtain ⟨p1, rfl⟩ : ∃ p, n1 = p + 1 := ⟨n1 - 1, by omega⟩
 simp
 refine cC (decide ((↑v1_1 : Int) < (↑a0.length : Int))) (fun k2 h1 => ?_) (fun k2 h1 => ?_)
 ·have q1 := h1; try simp at q1
  have i1 : v1_1 < a0.length := by simpa using h1
  have m2 : a0.length ≤ 9223372036854775807 := by simpa using k2 6 _ rfl
  have c1 : a0.length ≤ 2342912 := sm_len (by simp (maxDischargeDepth := 12) [u0])
  have w1 : IntKind.i64.wrap ((v1_1 : Int) + 1) = (v1_1 : Int) + 1 := wrap_of (by omega) (by omega)
  simp [i1, rowAt_map]
  repeat with_reducible refine sd ?_
  refine nxtI ⟨(p1, (v1_0 ++ ([(W (↑(nth a0 v1_1).toNat : Int))] : List Int)), (v1_1 + 1)), ?_, ?_⟩ (by simp) (wk_of [((3, 0), some (16, 0))] [] rfl (by simp [w1]))
  · rw [← e1]; simp only [i_bytesOf_1, h1, cond_t, cond_f]
  · first | omega | (simp at *; omega)
 ·have q1 := h1; try simp at q1
  have c2 : a0.length ≤ 2342912 := sm_len (by simp (maxDischargeDepth := 12) [u0])
  have x1 : i_bytesOf_1 a0 (a0.length + 1) ([] : List Int) 0 = v1_0 := by rw [← e1]; simp only [i_bytesOf_1, h1, cond_t, cond_f]
  simp
  refine retD (rv := [.tmp 2]) rfl ?_
  have f1 := i_bytesOf.eq_1 a0; simp only [x1, cond_t, cond_f] at f1; simp [f1]
theorem i_Mod_ok (a0 : Int) (a1 : Int) : SoundAt Tryz.prog 273 false [[.int .i64 a0], [.int .i64 a1]] [[.int .i64 (i_Mod a0 a1)]] := by
 refine sound_of Tryz.func273 rfl (by kernel_rfl) ?_
 simp [Tryz.ntmps273]
 refine cR (i_InRange_ok a1 1 1000000000000) ?_
 simp
 refine cC (!(i_InRange a1 1 1000000000000)) (fun k1 h1 => ?_) (fun k1 h1 => ?_)
 ·have q1 := h1; try simp [i_InRange] at q1
  simp
  refine retRd (rv := [.tmp 4]) rfl ?_
  have f1 := i_Mod.eq_1 a0 a1; simp only [h1, cond_t, cond_f] at f1; simp [f1]
 ·have q1 := h1; try simp [i_InRange] at q1
  simp
  repeat with_reducible refine sd ?_
  refine retRd (rv := [.tmp 4]) rfl ?_
  have f2 := i_Mod.eq_1 a0 a1; simp only [h1, cond_t, cond_f] at f2; simp [f2]
theorem i_Hash_ok (a0 : List Int) : SoundAt Tryz.prog 253 false [[.sl 1 (a0.map iR)]] [[.int .i64 (i_Hash a0)]] := by
 refine sound_of Tryz.func253 rfl (by kernel_rfl) ?_
 simp [Tryz.ntmps253]
 refine okL fun k1 => ?_
 refine loopI (ι := { s : Nat × Int × Nat // i_Hash_1 a0 s.1 s.2.1 s.2.2 = i_Hash_1 a0 (a0.length + 1) 11 0 ∧ (1 ≤ s.1 ∧ a0.length < s.1 + s.2.2 ∧ s.2.2 ≤ a0.length) }) (fun s => stOf 21 [eI 3 s.1.2.1, eL 6 1 a0 iR, eI 7 (↑a0.length : Int), eI 8 (↑s.1.2.2 : Int)]) (fun s => s.1.1) ⟨((a0.length + 1), 11, 0), rfl, by first | omega | (dsimp only; omega) | simp⟩ (wk_keep (by simp)) ?_
 rintro ⟨⟨n1, v1_0, v1_1⟩, e1, j1⟩
 try dsimp only at e1 j1
 obtain ⟨p1, rfl⟩ : ∃ p, n1 = p + 1 := ⟨n1 - 1, by omega⟩
 simp
 refine cC (decide ((↑v1_1 : Int) < (↑a0.length : Int))) (fun k2 h1 => ?_) (fun k2 h1 => ?_)
 ·have q1 := h1; try simp at q1
  have i1 : v1_1 < a0.length := by simpa using h1
  have m2 : a0.length ≤ 9223372036854775807 := by simpa using k2 6 _ rfl
  have w1 : IntKind.i64.wrap ((v1_1 : Int) + 1) = (v1_1 : Int) + 1 := wrap_of (by omega) (by omega)
  simp [i1, rowAt_map]
  repeat with_reducible refine sd ?_
  refine cR (i_Mod_ok (nth a0 v1_1) 2147483647) ?_
  simp
  refine nxtI ⟨(p1, (Int.tmod (W ((W ((W (v1_0 * 1000003)) + (i_Mod (nth a0 v1_1) 2147483647))) + 13)) 2147483647), (v1_1 + 1)), ?_, ?_⟩ (by simp) (wk_keep (by simp [w1]))
  · rw [← e1]; simp only [i_Hash_1, h1, cond_t, cond_f]
  · first | omega | (simp at *; omega)
 ·have q1 := h1; try simp at q1
  have x1 : i_Hash_1 a0 (a0.length + 1) 11 0 = v1_0 := by rw [← e1]; simp only [i_Hash_1, h1, cond_t, cond_f]
  simp
  refine retRd (rv := [.tmp 2]) rfl ?_
  have f1 := i_Hash.eq_1 a0; simp only [x1, cond_t, cond_f] at f1; simp [f1]
theorem i_DigestOf_ok (a0 : Int) (a1 : List Int) (u0 : Sm 68719476736 a1) : SoundAt Tryz.prog 222 false [[.int .i64 a0], [.sl 1 (a1.map iR)]] [[.int .i64 (i_DigestOf a0 a1)]] := by
 refine sound_of Tryz.func222 rfl (by kernel_rfl) ?_
 have c1 : a1.length ≤ 68719476736 := sm_len (by simp (maxDischargeDepth := 12) [u0])
 simp [Tryz.ntmps222]
 repeat with_reducible refine sd ?_
 refine cR (i_Hash_ok (([7, a0] : List Int) ++ a1)) ?_
 simp
 refine retRd (rv := [.tmp 4]) rfl ?_
 have f1 := i_DigestOf.eq_1 a0 a1; simp [f1]
theorem i_PartDigest_ok (a0 : Int) (a1 : ByteArray) (a2 : Int) (u0 : Sm 2326528 a1) : SoundAt Tryz.prog 221 false [[.int .i64 a0], [.str a1], [.int .i64 a2]] [[.int .i64 (i_PartDigest a0 a1 a2)]] := by
 refine sound_of Tryz.func221 rfl (by kernel_rfl) ?_
 have c1 : a1.size ≤ 2326528 := sm_size (by simp (maxDischargeDepth := 12) [u0])
 simp [Tryz.ntmps221]
 refine toBytes (s := a1) rfl rfl rfl (by simp) (by simp) (by simp) (by simp) (by omega) ?_
 simp
 refine cR (SoundD.rd (i_bytesOf_ok a1.data.toList (by simp [sm_list]; first | omega | (simp [ByteArray.size] at *; omega)))) ?_
 simp
 repeat with_reducible refine sd ?_
 refine cR (i_DigestOf_ok a0 (([a2] : List Int) ++ (i_bytesOf a1.data.toList)) (by simp (maxDischargeDepth := 12) [sm_append, sm_list, sm_mono (m := 68719476736) (by decide) u0]; try omega)) ?_
 simp
 refine retRd (rv := [.tmp 6]) rfl ?_
 have f1 := i_PartDigest.eq_1 a0 a1 a2; simp [f1]
theorem i_DocDigest_ok (a0 : Int) (a1 : TDocument) (u0 : Sm 2322432 a1) : SoundAt Tryz.prog 159 false [[.int .i64 a0], a1.row] [[.int .i64 (i_DocDigest a0 a1)]] := by
 refine sound_of Tryz.func159 rfl (by kernel_rfl) ?_
 simp [Tryz.ntmps159]
 refine cR (i_IsDocument_ok a1) ?_
 simp
 refine cC (!(i_IsDocument a1)) (fun k1 h1 => ?_) (fun k1 h1 => ?_)
 ·have q1 := h1; try simp at q1
  simp
  refine retRd (rv := [.tmp 4]) rfl ?_
  have f1 := i_DocDigest.eq_1 a0 a1; simp only [h1, cond_t, cond_f] at f1; simp [f1]
 ·have q1 := h1; try simp at q1
  simp
  refine okL fun k2 => ?_
  refine loopI (ι := { s : Nat × (List Int) × Nat // i_DocDigest_1 a0 a1 s.1 s.2.1 s.2.2 = i_DocDigest_1 a0 a1 (a1.Parts.length + 1) ([a1.Title] : List Int) 0 ∧ (1 ≤ s.1 ∧ a1.Parts.length < s.1 + s.2.2 ∧ s.2.2 ≤ a1.Parts.length ∧ s.2.1.length ≤ 1 + 1 * s.2.2) }) (fun s => stOf 37 [eI 0 a0, eX 3 (a1.row.map .d), (5, .one (.sref 5 0 0 s.1.2.1.length), [.arr false 1 (s.1.2.1.map iR)]), eL 15 1 a1.Parts sR, eI 16 (↑a1.Parts.length : Int), eI 17 (↑s.1.2.2 : Int)]) (fun s => s.1.1) ⟨((a1.Parts.length + 1), ([a1.Title] : List Int), 0), rfl, by first | omega | (dsimp only; omega) | simp⟩ (wk_of [((5, 0), some (13, 0))] [] rfl (by simp)) ?_
  rintro ⟨⟨n1, v1_0, v1_1⟩, e1, j1⟩
  try dsimp only at e1 j1
  obtain ⟨p1, rfl⟩ : ∃ p, n1 = p + 1 := ⟨n1 - 1, by omega⟩
  simp
  refine cC (decide ((↑v1_1 : Int) < (↑a1.Parts.length : Int))) (fun k3 h2 => ?_) (fun k3 h2 => ?_)
  ·have q2 := h2; try simp at q2
   have i1 : v1_1 < a1.Parts.length := by simpa using h2
   have m2 : a1.Parts.length ≤ 9223372036854775807 := by simpa using k3 15 _ rfl
   have c1 : a1.Parts.length ≤ 2322432 := sm_len (by simp (maxDischargeDepth := 12) [u0])
   have w1 : IntKind.i64.wrap ((v1_1 : Int) + 1) = (v1_1 : Int) + 1 := wrap_of (by omega) (by omega)
   have i2 : v1_1 < a1.Salts.length := by (have := i_IsDocument_len (a := a1); first | (simp_all; done) | (simp_all; omega))
   simp [i1, rowAt_map, i2]
   repeat with_reducible refine sd ?_
   refine cR (i_PartDigest_ok a0 (nth a1.Parts v1_1) (nth a1.Salts v1_1) (sg (sm_nth (TDocument.sm_Parts u0)))) ?_
   simp
   repeat with_reducible refine sd ?_
   refine nxtI ⟨(p1, (v1_0 ++ ([(i_PartDigest a0 (nth a1.Parts v1_1) (nth a1.Salts v1_1))] : List Int)), (v1_1 + 1)), ?_, ?_⟩ (by simp) (wk_of [((5, 0), some (32, 0))] [] rfl (by simp [w1]))
   · rw [← e1]; simp only [i_DocDigest_1, h2, cond_t, cond_f]
   · first | omega | (simp at *; omega)
  ·have q2 := h2; try simp at q2
   have c2 : a1.Parts.length ≤ 2322432 := sm_len (by simp (maxDischargeDepth := 12) [u0])
   have x1 : i_DocDigest_1 a0 a1 (a1.Parts.length + 1) ([a1.Title] : List Int) 0 = v1_0 := by rw [← e1]; simp only [i_DocDigest_1, h2, cond_t, cond_f]
   simp
   refine cR (i_DigestOf_ok a0 v1_0 (by first | (simp (maxDischargeDepth := 12) [sm_list]; omega) | (simp (maxDischargeDepth := 12) [sm_mono (m := 68719476736) (by decide) u0]; done))) ?_
   simp
   refine retRd (rv := [.tmp 4]) rfl ?_
   have f2 := i_DocDigest.eq_1 a0 a1; simp only [h1, x1, cond_t, cond_f] at f2; simp [f2]
theorem i_SignatureInts_ok (a0 : TSignature) : SoundD Tryz.prog 218 [a0.row] [[.sl 1 ((i_SignatureInts a0).map iR)]] := by
 refine sound_ofD Tryz.func218 rfl (by kernel_rfl) ?_
 simp [Tryz.ntmps218]
 refine retD (rv := [.tmp 2]) rfl ?_
 have f1 := i_SignatureInts.eq_1 a0; simp [f1]
theorem i_KeyedHash_ok (a0 : Int) (a1 : List Int) (u0 : Sm 2330624 a1) : SoundAt Tryz.prog 262 false [[.int .i64 a0], [.sl 1 (a1.map iR)]] [[.int .i64 (i_KeyedHash a0 a1)]] := by
 refine sound_of Tryz.func262 rfl (by kernel_rfl) ?_
 have c1 : a1.length ≤ 2330624 := sm_len (by simp (maxDischargeDepth := 12) [u0])
 simp [Tryz.ntmps262]
 repeat with_reducible refine sd ?_
 refine cR (i_Hash_ok ((([a0] : List Int) ++ a1) ++ ([a0] : List Int))) ?_
 simp
 refine retRd (rv := [.tmp 4]) rfl ?_
 have f1 := i_KeyedHash.eq_1 a0 a1; simp [f1]
theorem i_MarkWith_ok (a0 : TKey) (a1 : List Int) (u0 : Sm 2326528 a1) : SoundAt Tryz.prog 234 false [a0.row, [.sl 1 (a1.map iR)]] [[.int .i64 (i_MarkWith a0 a1)]] := by
 refine sound_of Tryz.func234 rfl (by kernel_rfl) ?_
 simp [Tryz.ntmps234]
 refine okD fun k1 => ?_
 refine drawP [2, 3, 4, 5, 6, 0, 1, 7, 8] mixed (by kernel_rfl) (by kernel_rfl) (by kernel_rfl) ?_
 have c1 : a1.length ≤ 2326528 := sm_len (by simp (maxDischargeDepth := 12) [u0])
 simp
 repeat with_reducible refine sd ?_
 refine cR (i_KeyedHash_ok a0.Secret (([a0.Method] : List Int) ++ a1) (by simp (maxDischargeDepth := 12) [sm_append, sm_list, sm_mono (m := 2330624) (by decide) u0]; try omega)) ?_
 simp
 refine retRd (rv := [.tmp 4]) rfl ?_
 have f1 := i_MarkWith.eq_1 a0 a1; simp [f1]
theorem i_markBy_ok (a0 : List TKey) (a1 : Int) (a2 : List Int) (u0 : Sm 2322432 a0) (u1 : Sm 2322432 a2) : SoundAt Tryz.prog 179 false [[.sl 5 (a0.map TKey.row)], [.int .i64 a1], [.sl 1 (a2.map iR)]] [[.int .i64 (i_markBy a0 a1 a2).1], [.bool (i_markBy a0 a1 a2).2]] := by
 refine sound_of Tryz.func179 rfl (by kernel_rfl) ?_
 simp [Tryz.ntmps179]
 refine cR (i_FindKey_ok a0 a1) ?_
 simp
 refine cC (decide ((i_FindKey a0 a1) < 0)) (fun k1 h1 => ?_) (fun k1 h1 => ?_)
 ·have q1 := h1; try simp at q1
  simp
  refine retRd (rv := [.tmp 6, .tmp 7]) rfl ?_
  have f1 := i_markBy.eq_1 a0 a1 a2; simp only [h1, cond_t, cond_f] at f1; simp [f1]
 ·have q1 := h1; try simp at q1
  have i1 : (i_FindKey a0 a1).toNat < a0.length := by have := i_FindKey_lt a0 a1; exact il
  simp [i1, rowAt_map]
  repeat with_reducible refine sd ?_
  refine cR (i_MarkWith_ok (nth a0 (i_FindKey a0 a1).toNat) a2 (sg u1)) ?_
  simp
  refine retRd (rv := [.tmp 6, .tmp 7]) rfl ?_
  have f2 := i_markBy.eq_1 a0 a1 a2; simp only [h1, cond_t, cond_f] at f2; simp [f2]
theorem i_IsSignature_ok (a0 : TSignature) : SoundAt Tryz.prog 219 false [a0.row] [[.bool (i_IsSignature a0)]] := by
 refine sound_of Tryz.func219 rfl (by kernel_rfl) ?_
 simp [Tryz.ntmps219]
 refine cR (i_InRange_ok a0.Key 1 99) ?_
 simp
 refine cG (fun gg => (i_InRange_ok a0.Serial 1 999)) ?_
 simp
 refine cG (fun gg => (i_InRange_ok a0.Method 0 99)) ?_
 simp
 refine cG (fun gg => (i_InRange_ok a0.Org 0 99)) ?_
 simp
 refine cG (fun gg => (i_InRange_ok a0.Commit 1 3)) ?_
 simp
 refine cG (fun gg => (i_InRange_ok a0.Digest 0 1000000000000)) ?_
 simp
 refine cG (fun gg => (i_InRange_ok a0.Before 0 1000000000000)) ?_
 simp
 refine cG (fun gg => (i_InRange_ok a0.After 0 1000000000000)) ?_
 simp
 refine retRd (rv := [.tmp 2]) rfl ?_
 have f1 := i_IsSignature.eq_1 a0; simp [f1]
theorem i_SignDigest_ok (a0 : List TKey) (a1 : TSignature) (u0 : Sm 2318336 a0) : SoundAt Tryz.prog 158 false [[.sl 5 (a0.map TKey.row)], a1.row] [(i_SignDigest a0 a1).1.row, [.bool (i_SignDigest a0 a1).2]] := by
 refine sound_of Tryz.func158 rfl (by kernel_rfl) ?_
 simp [Tryz.ntmps158]
 refine okD fun k1 => ?_
 refine drawI mixed (by kernel_rfl) (by kernel_rfl) ?_
 simp
 refine cR (SoundD.rd (i_SignatureInts_ok a1)) ?_
 simp
 refine cR (i_markBy_ok a0 a1.Key (i_SignatureInts a1) (sg u0) (by simp (maxDischargeDepth := 12) [i_SignatureInts_sm, sm_mono (m := 2322432) (by decide) u0]; try omega)) ?_
 simp
 refine cR (i_IsSignature_ok a1) ?_
 simp
 refine cC ((!(i_IsSignature a1)) || (!(i_markBy a0 a1.Key (i_SignatureInts a1)).2)) (fun k2 h1 => ?_) (fun k2 h1 => ?_)
 ·have q1 := h1; try simp at q1
  simp
  refine retRd (rv := [.cell 4 102, .tmp 5]) rfl ?_
  have f1 := i_SignDigest.eq_1 a0 a1; simp only [h1, cond_t, cond_f] at f1; simp [f1]
 ·have q1 := h1; try simp at q1
  simp
  refine retRd (rv := [.cell 4 102, .tmp 5]) rfl ?_
  have f2 := i_SignDigest.eq_1 a0 a1; simp only [h1, cond_t, cond_f] at f2; simp [f2]
theorem i_SignPiece_ok (a0 : TSignature) : SoundD Tryz.prog 160 [a0.row] [(i_SignPiece a0).row] := by
 refine sound_ofD Tryz.func160 rfl (by kernel_rfl) ?_
 simp [Tryz.ntmps160]
 refine okD fun k1 => ?_
 refine drawI mixed (by kernel_rfl) (by kernel_rfl) ?_
 simp
 refine cD [false] (i_SignatureInts_ok a0) ?_
 simp
 refine retD (rv := [.cell 2 110]) rfl ?_
 have f1 := i_SignPiece.eq_1 a0; simp [f1]
theorem i_CertInts_ok (a0 : TCert) : SoundD Tryz.prog 223 [a0.row] [[.sl 1 ((i_CertInts a0).map iR)]] := by
 refine sound_ofD Tryz.func223 rfl (by kernel_rfl) ?_
 simp [Tryz.ntmps223]
 refine retD (rv := [.tmp 2]) rfl ?_
 have f1 := i_CertInts.eq_1 a0; simp [f1]
theorem i_CertPiece_ok (a0 : TCert) : SoundD Tryz.prog 161 [a0.row] [(i_CertPiece a0).row] := by
 refine sound_ofD Tryz.func161 rfl (by kernel_rfl) ?_
 simp [Tryz.ntmps161]
 refine okD fun k1 => ?_
 refine drawI mixed (by kernel_rfl) (by kernel_rfl) ?_
 simp
 refine cD [false] (i_CertInts_ok a0) ?_
 simp
 refine retD (rv := [.cell 2 110]) rfl ?_
 have f1 := i_CertPiece.eq_1 a0; simp [f1]
theorem i_FindItem_ok (a0 : TArchive) (a1 : Int) : SoundAt Tryz.prog 206 false [a0.row, [.int .i64 a1]] [[.int .i64 (i_FindItem a0 a1)]] := by
 refine sound_of Tryz.func206 rfl (by kernel_rfl) ?_
 simp [Tryz.ntmps206]
 refine okL fun k1 => ?_
 refine loopI (ι := { s : Nat × Nat // i_FindItem_1 a0 a1 s.1 s.2 = i_FindItem_1 a0 a1 (a0.Items.length + 1) 0 ∧ (1 ≤ s.1 ∧ a0.Items.length < s.1 + s.2 ∧ s.2 ≤ a0.Items.length) }) (fun s => stOf 21 [eI 1 a1, eL 8 16 a0.Items TItem.row, eI 9 (↑a0.Items.length : Int), eI 10 (↑s.1.2 : Int)]) (fun s => s.1.1) ⟨((a0.Items.length + 1), 0), rfl, by first | omega | (dsimp only; omega) | simp⟩ (wk_keep (by simp)) ?_
 rintro ⟨⟨n1, v1_0⟩, e1, j1⟩
 try dsimp only at e1 j1
 obtain ⟨p1, rfl⟩ : ∃ p, n1 = p + 1 := ⟨n1 - 1, by omega⟩
 simp
 refine cC (decide ((↑v1_0 : Int) < (↑a0.Items.length : Int))) (fun k2 h1 => ?_) (fun k2 h1 => ?_)
 ·have q1 := h1; try simp at q1
  have i1 : v1_0 < a0.Items.length := by simpa using h1
  have m2 : a0.Items.length ≤ 9223372036854775807 := by simpa using k2 8 _ rfl
  have w1 : IntKind.i64.wrap ((v1_0 : Int) + 1) = (v1_0 : Int) + 1 := wrap_of (by omega) (by omega)
  simp [i1, rowAt_map]
  repeat with_reducible refine sd ?_
  refine cC ((nth a0.Items v1_0).Id == a1) (fun k3 h2 => ?_) (fun k3 h2 => ?_)
  ·have q2 := h2; try simp at q2
   have x1 : i_FindItem_1 a0 a1 (a0.Items.length + 1) 0 = .inl (↑v1_0 : Int) := by rw [← e1]; simp only [i_FindItem_1, h1, h2, cond_t, cond_f]
   simp
   refine retRd (rv := [.tmp 4]) rfl ?_
   have f1 := i_FindItem.eq_1 a0 a1; simp only [x1, cond_t, cond_f] at f1; simp [f1]
  ·have q2 := h2; try simp at q2
   simp
   refine nxtI ⟨(p1, (v1_0 + 1)), ?_, ?_⟩ (by simp) (wk_keep (by simp [w1]))
   · rw [← e1]; simp only [i_FindItem_1, h1, h2, cond_t, cond_f]
   · first | omega | (simp at *; omega)
 ·have q1 := h1; try simp at q1
  have x2 : i_FindItem_1 a0 a1 (a0.Items.length + 1) 0 = .inr () := by rw [← e1]; simp only [i_FindItem_1, h1, cond_t, cond_f]
  simp
  refine retRd (rv := [.tmp 4]) rfl ?_
  have f2 := i_FindItem.eq_1 a0 a1; simp only [x2, cond_t, cond_f] at f2; simp [f2]
theorem i_isTime_ok (a0 : Int) : SoundAt Tryz.prog 178 false [[.int .i64 a0]] [[.bool (i_isTime a0)]] := by
 refine sound_of Tryz.func178 rfl (by kernel_rfl) ?_
 simp [Tryz.ntmps178]
 refine cR (i_InRange_ok a0 0 10000) ?_
 simp
 refine retRd (rv := [.tmp 2]) rfl ?_
 have f1 := i_isTime.eq_1 a0; simp [f1]
theorem i_EqualInts_ok (a0 : List Int) (a1 : List Int) : SoundAt Tryz.prog 276 false [[.sl 1 (a0.map iR)], [.sl 1 (a1.map iR)]] [[.bool (i_EqualInts a0 a1)]] := by
 refine sound_of Tryz.func276 rfl (by kernel_rfl) ?_
 simp [Tryz.ntmps276]
 refine cC ((↑a0.length : Int) != (↑a1.length : Int)) (fun k1 h1 => ?_) (fun k1 h1 => ?_)
 ·have q1 := h1; try simp at q1
  simp
  refine retRd (rv := [.tmp 4]) rfl ?_
  have f1 := i_EqualInts.eq_1 a0 a1; simp only [h1, cond_t, cond_f] at f1; simp [f1]
 ·have q1 := h1; try simp at q1
  simp
  refine okL fun k2 => ?_
  refine loopI (ι := { s : Nat × Nat // i_EqualInts_1 a0 a1 s.1 s.2 = i_EqualInts_1 a0 a1 (a0.length + 1) 0 ∧ (1 ≤ s.1 ∧ a0.length < s.1 + s.2 ∧ s.2 ≤ a0.length) }) (fun s => stOf 26 [eL 0 1 a0 iR, eL 1 1 a1 iR, eI 12 (↑a0.length : Int), eI 13 (↑s.1.2 : Int)]) (fun s => s.1.1) ⟨((a0.length + 1), 0), rfl, by first | omega | (dsimp only; omega) | simp⟩ (wk_keep (by simp)) ?_
  rintro ⟨⟨n1, v1_0⟩, e1, j1⟩
  try dsimp only at e1 j1
  obtain ⟨p1, rfl⟩ : ∃ p, n1 = p + 1 := ⟨n1 - 1, by omega⟩
  simp
  refine cC (decide ((↑v1_0 : Int) < (↑a0.length : Int))) (fun k3 h2 => ?_) (fun k3 h2 => ?_)
  ·have q2 := h2; try simp at q2
   have i1 : v1_0 < a0.length := by simpa using h2
   have m2 : a0.length ≤ 9223372036854775807 := by simpa using k3 0 _ rfl
   have w1 : IntKind.i64.wrap ((v1_0 : Int) + 1) = (v1_0 : Int) + 1 := wrap_of (by omega) (by omega)
   simp
   refine okD fun k4 => ?_
   refine drawI mixed (by kernel_rfl) (by kernel_rfl) ?_
   have i2 : v1_0 < a1.length := il
   simp [i1, rowAt_map, i2]
   repeat with_reducible refine sd ?_
   refine cC ((nth a0 v1_0) != (nth a1 v1_0)) (fun k5 h3 => ?_) (fun k5 h3 => ?_)
   ·have q3 := h3; try simp at q3
    have x1 : i_EqualInts_1 a0 a1 (a0.length + 1) 0 = .inl false := by rw [← e1]; simp only [i_EqualInts_1, h2, h3, cond_t, cond_f]
    simp
    refine retRd (rv := [.tmp 4]) rfl ?_
    have f2 := i_EqualInts.eq_1 a0 a1; simp only [h1, x1, cond_t, cond_f] at f2; simp [f2]
   ·have q3 := h3; try simp at q3
    simp
    refine nxtI ⟨(p1, (v1_0 + 1)), ?_, ?_⟩ (by simp) (wk_keep (by simp [w1]))
    · rw [← e1]; simp only [i_EqualInts_1, h2, h3, cond_t, cond_f]
    · first | omega | (simp at *; omega)
  ·have q2 := h2; try simp at q2
   have x2 : i_EqualInts_1 a0 a1 (a0.length + 1) 0 = .inr () := by rw [← e1]; simp only [i_EqualInts_1, h2, cond_t, cond_f]
   simp
   refine retRd (rv := [.tmp 4]) rfl ?_
   have f3 := i_EqualInts.eq_1 a0 a1; simp only [h1, x2, cond_t, cond_f] at f3; simp [f3]
theorem i_EqualPieces_ok (a0 : TPiece) (a1 : TPiece) : SoundAt Tryz.prog 263 false [a0.row, a1.row] [[.bool (i_EqualPieces a0 a1)]] := by
 refine sound_of Tryz.func263 rfl (by kernel_rfl) ?_
 simp [Tryz.ntmps263]
 refine cG (fun gg => (i_EqualInts_ok a0.Ints a1.Ints)) ?_
 simp
 refine retRd (rv := [.tmp 4]) rfl ?_
 have f1 := i_EqualPieces.eq_1 a0 a1; simp [f1]
theorem i_hasPiece_ok (a0 : List TPiece) (a1 : TPiece) : SoundAt Tryz.prog 265 false [[.sl 3 (a0.map TPiece.row)], a1.row] [[.bool (i_hasPiece a0 a1)]] := by
 refine sound_of Tryz.func265 rfl (by kernel_rfl) ?_
 simp [Tryz.ntmps265]
 refine okL fun k1 => ?_
 refine loopI (ι := { s : Nat × Nat // i_hasPiece_1 a0 a1 s.1 s.2 = i_hasPiece_1 a0 a1 (a0.length + 1) 0 ∧ (1 ≤ s.1 ∧ a0.length < s.1 + s.2 ∧ s.2 ≤ a0.length) }) (fun s => stOf 17 [eX 3 (a1.row.map .d), eL 7 3 a0 TPiece.row, eI 8 (↑a0.length : Int), eI 9 (↑s.1.2 : Int)]) (fun s => s.1.1) ⟨((a0.length + 1), 0), rfl, by first | omega | (dsimp only; omega) | simp⟩ (wk_keep (by simp)) ?_
 rintro ⟨⟨n1, v1_0⟩, e1, j1⟩
 try dsimp only at e1 j1
 obtain ⟨p1, rfl⟩ : ∃ p, n1 = p + 1 := ⟨n1 - 1, by omega⟩
 simp
 refine cC (decide ((↑v1_0 : Int) < (↑a0.length : Int))) (fun k2 h1 => ?_) (fun k2 h1 => ?_)
 ·have q1 := h1; try simp at q1
  have i1 : v1_0 < a0.length := by simpa using h1
  have m2 : a0.length ≤ 9223372036854775807 := by simpa using k2 7 _ rfl
  have w1 : IntKind.i64.wrap ((v1_0 : Int) + 1) = (v1_0 : Int) + 1 := wrap_of (by omega) (by omega)
  simp [i1, rowAt_map]
  repeat with_reducible refine sd ?_
  refine cR (i_EqualPieces_ok (nth a0 v1_0) a1) ?_
  simp
  refine cC (i_EqualPieces (nth a0 v1_0) a1) (fun k3 h2 => ?_) (fun k3 h2 => ?_)
  ·have q2 := h2; try simp at q2
   have x1 : i_hasPiece_1 a0 a1 (a0.length + 1) 0 = .inl true := by rw [← e1]; simp only [i_hasPiece_1, h1, h2, cond_t, cond_f]
   simp
   refine retRd (rv := [.tmp 4]) rfl ?_
   have f1 := i_hasPiece.eq_1 a0 a1; simp only [x1, cond_t, cond_f] at f1; simp [f1]
  ·have q2 := h2; try simp at q2
   simp
   refine nxtI ⟨(p1, (v1_0 + 1)), ?_, ?_⟩ (by simp) (wk_keep (by simp [w1]))
   · rw [← e1]; simp only [i_hasPiece_1, h1, h2, cond_t, cond_f]
   · first | omega | (simp at *; omega)
 ·have q1 := h1; try simp at q1
  have x2 : i_hasPiece_1 a0 a1 (a0.length + 1) 0 = .inr () := by rw [← e1]; simp only [i_hasPiece_1, h1, cond_t, cond_f]
  simp
  refine retRd (rv := [.tmp 4]) rfl ?_
  have f2 := i_hasPiece.eq_1 a0 a1; simp only [x2, cond_t, cond_f] at f2; simp [f2]
theorem i_IsStrand_ok (a0 : TStrand) : SoundAt Tryz.prog 237 false [a0.row] [[.bool (i_IsStrand a0)]] := by
 refine sound_of Tryz.func237 rfl (by kernel_rfl) ?_
 simp [Tryz.ntmps237]
 refine cR (i_InRange_ok (↑a0.Pieces.length : Int) 1 12) ?_
 simp
 refine cC ((!(i_InRange (↑a0.Pieces.length : Int) 1 12)) || (decide ((↑a0.Chain.length : Int) > 8))) (fun k1 h1 => ?_) (fun k1 h1 => ?_)
 ·have q1 := h1; try simp [i_InRange] at q1
  simp
  refine retRd (rv := [.tmp 2]) rfl ?_
  have f1 := i_IsStrand.eq_1 a0; simp only [h1, cond_t, cond_f] at f1; simp [f1]
 ·have q1 := h1; try simp [i_InRange] at q1
  simp
  refine okL fun k2 => ?_
  refine loopI (ι := { s : Nat × Nat // i_IsStrand_1 a0 s.1 s.2 = i_IsStrand_1 a0 (a0.Pieces.length + 1) 0 ∧ (1 ≤ s.1 ∧ a0.Pieces.length < s.1 + s.2 ∧ s.2 ≤ a0.Pieces.length) }) (fun s => stOf 65 [eX 1 (a0.row.map .d), eL 19 3 a0.Pieces TPiece.row, eI 20 (↑a0.Pieces.length : Int), eI 21 (↑s.1.2 : Int)]) (fun s => s.1.1) ⟨((a0.Pieces.length + 1), 0), rfl, by first | omega | (dsimp only; omega) | simp⟩ (wk_keep (by simp)) ?_
  rintro ⟨⟨n1, v1_0⟩, e1, j1⟩
  try dsimp only at e1 j1
  obtain ⟨p1, rfl⟩ : ∃ p, n1 = p + 1 := ⟨n1 - 1, by omega⟩
  simp
  refine cC (decide ((↑v1_0 : Int) < (↑a0.Pieces.length : Int))) (fun k3 h2 => ?_) (fun k3 h2 => ?_)
  ·have q2 := h2; try simp at q2
   have i1 : v1_0 < a0.Pieces.length := by simpa using h2
   have m2 : a0.Pieces.length ≤ 9223372036854775807 := by simpa using k3 19 _ rfl
   have w1 : IntKind.i64.wrap ((v1_0 : Int) + 1) = (v1_0 : Int) + 1 := wrap_of (by omega) (by omega)
   simp [i1, rowAt_map]
   repeat with_reducible refine sd ?_
   refine okD fun k4 => ?_
   refine drawI mixed (by kernel_rfl) (by kernel_rfl) ?_
   simp
   repeat with_reducible refine sd ?_
   refine cR (i_hasPiece_ok (a0.Pieces.take v1_0) (nth a0.Pieces v1_0)) ?_
   simp
   refine cC (i_hasPiece (a0.Pieces.take v1_0) (nth a0.Pieces v1_0)) (fun k5 h3 => ?_) (fun k5 h3 => ?_)
   ·have q3 := h3; try simp at q3
    have x1 : i_IsStrand_1 a0 (a0.Pieces.length + 1) 0 = .inl false := by rw [← e1]; simp only [i_IsStrand_1, h2, h3, cond_t, cond_f]
    simp
    refine retRd (rv := [.tmp 2]) rfl ?_
    have f2 := i_IsStrand.eq_1 a0; simp only [h1, x1, cond_t, cond_f] at f2; simp [f2]
   ·have q3 := h3; try simp at q3
    simp
    refine nxtI ⟨(p1, (v1_0 + 1)), ?_, ?_⟩ (by simp) (wk_keep (by simp [w1]))
    · rw [← e1]; simp only [i_IsStrand_1, h2, h3, cond_t, cond_f]
    · first | omega | (simp at *; omega)
  ·have q2 := h2; try simp at q2
   have x2 : i_IsStrand_1 a0 (a0.Pieces.length + 1) 0 = .inr () := by rw [← e1]; simp only [i_IsStrand_1, h2, cond_t, cond_f]
   simp
   refine okL fun k6 => ?_
   refine loopI (ι := { s : Nat × Nat // i_IsStrand_2 a0 s.1 s.2 = i_IsStrand_2 a0 (a0.Chain.length + 1) 0 ∧ (1 ≤ s.1 ∧ a0.Chain.length < s.1 + s.2 ∧ s.2 ≤ a0.Chain.length) }) (fun s => stOf 65 [eX 1 (a0.row.map .d), eL 34 5 a0.Chain TRenewal.row, eI 35 (↑a0.Chain.length : Int), eI 36 (↑s.1.2 : Int)]) (fun s => s.1.1) ⟨((a0.Chain.length + 1), 0), rfl, by first | omega | (dsimp only; omega) | simp⟩ (wk_keep (by simp)) ?_
   rintro ⟨⟨n2, v2_0⟩, e2, j2⟩
   try dsimp only at e2 j2
   obtain ⟨p2, rfl⟩ : ∃ p, n2 = p + 1 := ⟨n2 - 1, by omega⟩
   simp
   refine cC (decide ((↑v2_0 : Int) < (↑a0.Chain.length : Int))) (fun k7 h4 => ?_) (fun k7 h4 => ?_)
   ·have q4 := h4; try simp at q4
    have i2 : v2_0 < a0.Chain.length := by simpa using h4
    have m4 : a0.Chain.length ≤ 9223372036854775807 := by simpa using k7 34 _ rfl
    have w2 : IntKind.i64.wrap ((v2_0 : Int) + 1) = (v2_0 : Int) + 1 := wrap_of (by omega) (by omega)
    simp [i2, rowAt_map]
    repeat with_reducible refine sd ?_
    refine okD fun k8 => ?_
    refine drawI mixed (by kernel_rfl) (by kernel_rfl) ?_
    simp
    refine cR (i_InRange_ok (nth a0.Chain v2_0).Count 1 (↑a0.Pieces.length : Int)) ?_
    simp
    refine guardI rfl rfl rfl rfl rfl (by simp) (fun g1 => ?_) (fun g1 => ?_)
    ·have g1x := g1; try simp only [beq_true, beq_false, Bool.not_eq_true', Bool.not_eq_false', Bool.true_and, Bool.and_true] at g1x
     try simp at g1
     have i3 : (v2_0 - 1) < a0.Chain.length := il
     have w3 : IntKind.i64.wrap ((v2_0 : Int) - 1) = (v2_0 : Int) - 1 := wrap_of (by omega) (by omega)
     simp [i3, rowAt_map, w3, toNat_pred, g1x]
     repeat with_reducible refine sdg ?_
     refine condR (c := ((!(i_InRange (nth a0.Chain v2_0).Count 1 (↑a0.Pieces.length : Int))) || ((decide ((↑v2_0 : Int) > 0)) && (decide ((nth a0.Chain v2_0).Count < (nth a0.Chain (v2_0 - 1)).Count))))) (by first | (simp [g1x]; done) | grind) (fun k9 h5 => ?_) (fun k9 h5 => ?_)
     ·try (have z := h5; simp [g1x] at z; done)
      all_goals
       have q5 := h5; try simp [i_InRange] at q5
       have x3 : i_IsStrand_2 a0 (a0.Chain.length + 1) 0 = .inl false := by rw [← e2]; simp only [i_IsStrand_2, h4, h5, cond_t, cond_f]
       simp [g1x]
       repeat with_reducible refine sdg ?_
       refine retRd (rv := [.tmp 2]) rfl ?_
       have f3 := i_IsStrand.eq_1 a0; simp only [h1, x2, x3, cond_t, cond_f] at f3; simp [f3, g1x]
     ·try (have z := h5; simp [g1x] at z; done)
      all_goals
       have q5 := h5; try simp [i_InRange] at q5
       simp [g1x]
       repeat with_reducible refine sdg ?_
       refine nxtI ⟨(p2, (v2_0 + 1)), ?_, ?_⟩ (by simp) (wk_keep (by simp [w2, w3, g1x]))
       · rw [← e2]; simp only [i_IsStrand_2, h4, h5, cond_t, cond_f]
       · first | omega | (simp at *; omega)
    ·have g1x := g1; try simp only [beq_true, beq_false, Bool.not_eq_true', Bool.not_eq_false', Bool.true_and, Bool.and_true] at g1x
     simp [g1x]
     repeat with_reducible refine sdg ?_
     refine condR (c := ((!(i_InRange (nth a0.Chain v2_0).Count 1 (↑a0.Pieces.length : Int))) || ((decide ((↑v2_0 : Int) > 0)) && (decide ((nth a0.Chain v2_0).Count < (nth a0.Chain (v2_0 - 1)).Count))))) (by first | (simp [g1x]; done) | grind) (fun k10 h6 => ?_) (fun k10 h6 => ?_)
     ·try (have z := h6; simp [g1x] at z; done)
      all_goals
       have q6 := h6; try simp [i_InRange] at q6
       have x4 : i_IsStrand_2 a0 (a0.Chain.length + 1) 0 = .inl false := by rw [← e2]; simp only [i_IsStrand_2, h4, h6, cond_t, cond_f]
       simp [g1x]
       repeat with_reducible refine sdg ?_
       refine retRd (rv := [.tmp 2]) rfl ?_
       have f4 := i_IsStrand.eq_1 a0; simp only [h1, x2, x4, cond_t, cond_f] at f4; simp [f4, g1x]
     ·try (have z := h6; simp [g1x] at z; done)
      all_goals
       have q6 := h6; try simp [i_InRange] at q6
       simp [g1x]
       repeat with_reducible refine sdg ?_
       refine nxtI ⟨(p2, (v2_0 + 1)), ?_, ?_⟩ (by simp) (wk_keep (by simp [w2, g1x]))
       · rw [← e2]; simp only [i_IsStrand_2, h4, h6, cond_t, cond_f]
       · first | omega | (simp at *; omega)
   ·have q4 := h4; try simp at q4
    have x5 : i_IsStrand_2 a0 (a0.Chain.length + 1) 0 = .inr () := by rw [← e2]; simp only [i_IsStrand_2, h4, cond_t, cond_f]
    simp
    refine retRd (rv := [.tmp 2]) rfl ?_
    have f5 := i_IsStrand.eq_1 a0; simp only [h1, x2, x5, cond_t, cond_f] at f5; simp [f5]
theorem i_IsItem_ok (a0 : TItem) : SoundAt Tryz.prog 235 false [a0.row] [[.bool (i_IsItem a0)]] := by
 refine sound_of Tryz.func235 rfl (by kernel_rfl) ?_
 simp [Tryz.ntmps235]
 refine okD fun k1 => ?_
 refine drawI mixed (by kernel_rfl) (by kernel_rfl) ?_
 simp
 refine cR (i_InRange_ok a0.Id 1 999) ?_
 simp
 refine cG (fun gg => (i_isTime_ok a0.Keep)) ?_
 simp
 refine cG (fun gg => (i_IsDocument_ok a0.Doc)) ?_
 simp
 refine cG (fun gg => (i_IsStrand_ok a0.Strand)) ?_
 simp
 refine guardI rfl rfl rfl rfl rfl (by simp) (fun g1 => ?_) (fun g1 => ?_)
 ·have g1x := g1; try simp only [beq_true, beq_false, Bool.not_eq_true', Bool.not_eq_false', Bool.true_and, Bool.and_true] at g1x
  try simp [i_InRange] at g1
  have i1 : 0 < a0.Strand.Pieces.length := by have := i_IsStrand_pos (a := a0.Strand); simp_all
  simp [i1, rowAt_map, g1x]
  repeat with_reducible refine sdg ?_
  refine callG rfl rfl rfl rfl rfl rfl (fun gg => SoundD.rd (i_SignPiece_ok a0.Sig)) (by first | (simp; done) | (simp [g1x]; done) | (simp [g1x]; omega) | (simp_all; done)) (by first | (simp; done) | (simp [g1x]; done) | (simp [g1x]; omega) | (simp_all; done)) (by first | (simp; done) | (simp [g1x]; done) | (simp [g1x]; omega) | (simp_all; done)) (by first | (simp; done) | (simp [g1x]; done) | (simp [g1x]; omega) | (simp_all; done)) ?_
  simp [g1x]
  repeat with_reducible refine sdg ?_
  refine callG rfl rfl rfl rfl rfl rfl (fun gg => (i_EqualPieces_ok (nth a0.Strand.Pieces 0) (i_SignPiece a0.Sig))) (by first | (simp; done) | (simp [g1x]; done) | (simp [g1x]; omega) | (simp_all; done)) (by first | (simp; done) | (simp [g1x]; done) | (simp [g1x]; omega) | (simp_all; done)) (by first | (simp; done) | (simp [g1x]; done) | (simp [g1x]; omega) | (simp_all; done)) (by first | (simp; done) | (simp [g1x]; done) | (simp [g1x]; omega) | (simp_all; done)) ?_
  simp [g1x]
  repeat with_reducible refine sdg ?_
  refine retRd (rv := [.tmp 2]) rfl ?_
  have f1 := i_IsItem.eq_1 a0; simp [f1, g1x]
 ·have g1x := g1; try simp only [beq_true, beq_false, Bool.not_eq_true', Bool.not_eq_false', Bool.true_and, Bool.and_true] at g1x
  simp [g1x]
  repeat with_reducible refine sdg ?_
  refine skipG rfl rfl rfl rfl (by simp) (by simp [g1x]) ?_
  simp [g1x]
  repeat with_reducible refine sdg ?_
  refine skipG rfl rfl rfl rfl (by simp) (by simp [g1x]) ?_
  simp [g1x]
  repeat with_reducible refine sdg ?_
  refine retRd (rv := [.tmp 2]) rfl ?_
  have f2 := i_IsItem.eq_1 a0; simp [f2, g1x]
theorem i_IsArchive_ok (a0 : TArchive) : SoundAt Tryz.prog 181 false [a0.row] [[.bool (i_IsArchive a0)]] := by
 refine sound_of Tryz.func181 rfl (by kernel_rfl) ?_
 simp [Tryz.ntmps181]
 refine okL fun k1 => ?_
 refine loopI (ι := { s : Nat × Nat // i_IsArchive_1 a0 s.1 s.2 = i_IsArchive_1 a0 (a0.Items.length + 1) 0 ∧ (1 ≤ s.1 ∧ a0.Items.length < s.1 + s.2 ∧ s.2 ≤ a0.Items.length) }) (fun s => stOf 42 [eX 1 (a0.row.map .d), eL 6 16 a0.Items TItem.row, eI 7 (↑a0.Items.length : Int), eI 8 (↑s.1.2 : Int)]) (fun s => s.1.1) ⟨((a0.Items.length + 1), 0), rfl, by first | omega | (dsimp only; omega) | simp⟩ (wk_keep (by simp)) ?_
 rintro ⟨⟨n1, v1_0⟩, e1, j1⟩
 try dsimp only at e1 j1
 obtain ⟨p1, rfl⟩ : ∃ p, n1 = p + 1 := ⟨n1 - 1, by omega⟩
 simp
 refine cC (decide ((↑v1_0 : Int) < (↑a0.Items.length : Int))) (fun k2 h1 => ?_) (fun k2 h1 => ?_)
 ·have q1 := h1; try simp at q1
  have i1 : v1_0 < a0.Items.length := by simpa using h1
  have m2 : a0.Items.length ≤ 9223372036854775807 := by simpa using k2 6 _ rfl
  have w1 : IntKind.i64.wrap ((v1_0 : Int) + 1) = (v1_0 : Int) + 1 := wrap_of (by omega) (by omega)
  simp [i1, rowAt_map]
  repeat with_reducible refine sd ?_
  refine okD fun k3 => ?_
  refine drawI mixed (by kernel_rfl) (by kernel_rfl) ?_
  simp
  refine cR (i_IsItem_ok (nth a0.Items v1_0)) ?_
  simp
  refine guardI rfl rfl rfl rfl rfl (by simp) (fun g1 => ?_) (fun g1 => ?_)
  ·have g1x := g1; try simp only [beq_true, beq_false, Bool.not_eq_true', Bool.not_eq_false', Bool.true_and, Bool.and_true] at g1x
   try simp at g1
   have i2 : (v1_0 - 1) < a0.Items.length := il
   have w2 : IntKind.i64.wrap ((v1_0 : Int) - 1) = (v1_0 : Int) - 1 := wrap_of (by omega) (by omega)
   simp [i2, rowAt_map, w2, toNat_pred, g1x]
   repeat with_reducible refine sdg ?_
   refine condR (c := ((!(i_IsItem (nth a0.Items v1_0))) || ((decide ((↑v1_0 : Int) > 0)) && (decide ((nth a0.Items (v1_0 - 1)).Id ≥ (nth a0.Items v1_0).Id))))) (by first | (simp [g1x]; done) | grind) (fun k4 h2 => ?_) (fun k4 h2 => ?_)
   ·try (have z := h2; simp [g1x] at z; done)
    all_goals
     have q2 := h2; try simp at q2
     have x1 : i_IsArchive_1 a0 (a0.Items.length + 1) 0 = .inl false := by rw [← e1]; simp only [i_IsArchive_1, h1, h2, cond_t, cond_f]
     simp [g1x]
     repeat with_reducible refine sdg ?_
     refine retRd (rv := [.tmp 2]) rfl ?_
     have f1 := i_IsArchive.eq_1 a0; simp only [x1, cond_t, cond_f] at f1; simp [f1, g1x]
   ·try (have z := h2; simp [g1x] at z; done)
    all_goals
     have q2 := h2; try simp at q2
     simp [g1x]
     repeat with_reducible refine sdg ?_
     refine nxtI ⟨(p1, (v1_0 + 1)), ?_, ?_⟩ (by simp) (wk_keep (by simp [w1, w2, g1x]))
     · rw [← e1]; simp only [i_IsArchive_1, h1, h2, cond_t, cond_f]
     · first | omega | (simp at *; omega)
  ·have g1x := g1; try simp only [beq_true, beq_false, Bool.not_eq_true', Bool.not_eq_false', Bool.true_and, Bool.and_true] at g1x
   simp [g1x]
   repeat with_reducible refine sdg ?_
   refine condR (c := ((!(i_IsItem (nth a0.Items v1_0))) || ((decide ((↑v1_0 : Int) > 0)) && (decide ((nth a0.Items (v1_0 - 1)).Id ≥ (nth a0.Items v1_0).Id))))) (by first | (simp [g1x]; done) | grind) (fun k5 h3 => ?_) (fun k5 h3 => ?_)
   ·try (have z := h3; simp [g1x] at z; done)
    all_goals
     have q3 := h3; try simp at q3
     have x2 : i_IsArchive_1 a0 (a0.Items.length + 1) 0 = .inl false := by rw [← e1]; simp only [i_IsArchive_1, h1, h3, cond_t, cond_f]
     simp [g1x]
     repeat with_reducible refine sdg ?_
     refine retRd (rv := [.tmp 2]) rfl ?_
     have f2 := i_IsArchive.eq_1 a0; simp only [x2, cond_t, cond_f] at f2; simp [f2, g1x]
   ·try (have z := h3; simp [g1x] at z; done)
    all_goals
     have q3 := h3; try simp at q3
     simp [g1x]
     repeat with_reducible refine sdg ?_
     refine nxtI ⟨(p1, (v1_0 + 1)), ?_, ?_⟩ (by simp) (wk_keep (by simp [w1, g1x]))
     · rw [← e1]; simp only [i_IsArchive_1, h1, h3, cond_t, cond_f]
     · first | omega | (simp at *; omega)
 ·have q1 := h1; try simp at q1
  have x3 : i_IsArchive_1 a0 (a0.Items.length + 1) 0 = .inr () := by rw [← e1]; simp only [i_IsArchive_1, h1, cond_t, cond_f]
  simp
  refine cR (i_InRange_ok a0.Id 0 99) ?_
  simp
  refine retRd (rv := [.tmp 2]) rfl ?_
  have f3 := i_IsArchive.eq_1 a0; simp only [x3, cond_t, cond_f] at f3; simp [f3]
theorem i_AddItem_ok (a0 : TArchive) (a1 : TItem) (u0 : Sm 2318336 a0) (u1 : Sm 2318336 a1) : SoundAt Tryz.prog 162 false [a0.row, a1.row] [(i_AddItem a0 a1).1.row, [.bool (i_AddItem a0 a1).2]] := by
 refine sound_of Tryz.func162 rfl (by kernel_rfl) ?_
 simp [Tryz.ntmps162]
 refine cR (i_FindItem_ok a0 a1.Id) ?_
 simp
 refine cG (fun gg => (i_IsArchive_ok a0)) ?_
 simp
 refine cC ((decide ((i_FindItem a0 a1.Id) ≥ 0)) || (!(i_IsArchive a0))) (fun k1 h1 => ?_) (fun k1 h1 => ?_)
 ·have q1 := h1; try simp at q1
  simp
  refine cD [] (i_copyArchive_okI a0 (sg u0)) ?_
  simp
  refine retRd (rv := [.cell 4 92, .tmp 5]) rfl ?_
  have f1 := i_AddItem.eq_1 a0 a1; simp only [h1, cond_t, cond_f] at f1; simp [f1]
 ·have q1 := h1; try simp at q1
  simp
  refine cR (SoundD.rd (i_copyArchive_okI a0 (sg u0))) ?_
  simp
  refine okL fun k2 => ?_
  refine loopI (ι := { s : Nat × Nat // i_AddItem_1 a0 a1 s.1 s.2 = i_AddItem_1 a0 a1 (a0.Items.length + 1) 0 ∧ (1 ≤ s.1 ∧ a0.Items.length < s.1 + s.2 ∧ s.2 ≤ a0.Items.length) }) (fun s => stOf 62 [eX 2 (a0.row.map .d), eX 3 (a1.row.map .d), (4, .one (.bptr 4 0), [.box [.d (.int .i64 0), .nil 16]]), eX 6 (a0.row.map .d), eI 7 (↑s.1.2 : Int)]) (fun s => s.1.1) ⟨((a0.Items.length + 1), 0), rfl, by first | omega | (dsimp only; omega) | simp⟩ (wk_keep (by simp)) ?_
  rintro ⟨⟨n1, v1_0⟩, e1, j1⟩
  try dsimp only at e1 j1
  obtain ⟨p1, rfl⟩ : ∃ p, n1 = p + 1 := ⟨n1 - 1, by omega⟩
  simp
  refine okD fun k3 => ?_
  refine drawI mixed (by kernel_rfl) (by kernel_rfl) ?_
  simp
  refine guardI rfl rfl rfl rfl rfl (by simp) (fun g1 => ?_) (fun g1 => ?_)
  ·have g1x := g1; try simp only [beq_true, beq_false, Bool.not_eq_true', Bool.not_eq_false', Bool.true_and, Bool.and_true] at g1x
   try simp at g1
   have i1 : v1_0 < a0.Items.length := il
   simp [i1, rowAt_map, g1x]
   repeat with_reducible refine sdg ?_
   refine condR (c := ((decide ((↑v1_0 : Int) < (↑a0.Items.length : Int))) && (decide ((nth a0.Items v1_0).Id < a1.Id)))) (by first | (simp [g1x]; done) | grind) (fun k4 h2 => ?_) (fun k4 h2 => ?_)
   ·try (have z := h2; simp [g1x] at z; done)
    all_goals
     have q2 := h2; try simp at q2
     have i2 : v1_0 < a0.Items.length := by (simp at h2; omega)
     have m2 : a0.Items.length ≤ 9223372036854775807 := by simpa using k4 24 _ rfl
     have c1 : a0.Items.length ≤ 2318336 := sm_len (by simp (maxDischargeDepth := 12) [u0, u1])
     have w1 : IntKind.i64.wrap ((v1_0 : Int) + 1) = (v1_0 : Int) + 1 := wrap_of (by omega) (by omega)
     simp [g1x]
     repeat with_reducible refine sdg ?_
     refine nxtI ⟨(p1, (v1_0 + 1)), ?_, ?_⟩ (by simp) (wk_keep (by simp [w1, g1x]))
     · rw [← e1]; simp only [i_AddItem_1, h2, cond_t, cond_f]
     · first | omega | (simp at *; omega)
   ·try (have z := h2; simp [g1x] at z; done)
    all_goals
     have q2 := h2; try simp at q2
     have c2 : a0.Items.length ≤ 2318336 := sm_len (by simp (maxDischargeDepth := 12) [u0, u1])
     have x1 : i_AddItem_1 a0 a1 (a0.Items.length + 1) 0 = v1_0 := by rw [← e1]; simp only [i_AddItem_1, h2, cond_t, cond_f]
     simp [g1x]
     repeat with_reducible refine sdg ?_
     refine okD fun k5 => ?_
     refine drawI mixed (by kernel_rfl) (by kernel_rfl) ?_
     simp [g1x]
     repeat with_reducible refine sdg ?_
     refine evI rfl rfl rfl ?_
     simp [g1x]
     repeat with_reducible refine sdg ?_
     refine evI rfl rfl rfl ?_
     have c3 : (a0.Items.take v1_0).length ≤ 2318336 := sm_len (by simp (maxDischargeDepth := 12) [u0, u1])
     simp [g1x]
     repeat with_reducible refine sdg ?_
     refine cR (SoundD.rd (i_copyItem_okI a1 (sg u1))) ?_
     simp [g1x]
     repeat with_reducible refine sdg ?_
     refine evI rfl rfl rfl ?_
     simp [g1x]
     repeat with_reducible refine sdg ?_
     refine evI rfl rfl rfl ?_
     simp [g1x]
     repeat with_reducible refine sdg ?_
     refine evI rfl rfl rfl ?_
     have c4 : (a0.Items.drop v1_0).length ≤ 2318336 := sm_len (by simp (maxDischargeDepth := 12) [u0, u1])
     simp [g1x]
     repeat with_reducible refine sdg ?_
     refine cR (i_IsArchive_ok (TArchive.mk a0.Id (((a0.Items.take v1_0) ++ ([a1] : List TItem)) ++ (a0.Items.drop v1_0)))) ?_
     simp [g1x]
     repeat with_reducible refine sdg ?_
     refine condR (c := (!(i_IsArchive (TArchive.mk a0.Id (((a0.Items.take v1_0) ++ ([a1] : List TItem)) ++ (a0.Items.drop v1_0)))))) (by first | (simp [g1x]; done) | grind) (fun k6 h3 => ?_) (fun k6 h3 => ?_)
     ·try (have z := h3; simp [g1x] at z; done)
      all_goals
       have q3 := h3; try simp at q3
       simp [g1x]
       repeat with_reducible refine sdg ?_
       refine cD [] (i_copyArchive_okI a0 (sg u0)) ?_
       simp [g1x]
       repeat with_reducible refine sdg ?_
       refine retRd (rv := [.cell 4 92, .tmp 5]) rfl ?_
       have f2 := i_AddItem.eq_1 a0 a1; simp only [h1, x1, h3, cond_t, cond_f] at f2; simp [f2, g1x]
     ·try (have z := h3; simp [g1x] at z; done)
      all_goals
       have q3 := h3; try simp at q3
       simp [g1x]
       repeat with_reducible refine sdg ?_
       refine retRd (rv := [.cell 4 92, .tmp 5]) rfl ?_
       have f3 := i_AddItem.eq_1 a0 a1; simp only [h1, x1, h3, cond_t, cond_f] at f3; simp [f3, g1x]
  ·have g1x := g1; try simp only [beq_true, beq_false, Bool.not_eq_true', Bool.not_eq_false', Bool.true_and, Bool.and_true] at g1x
   simp [g1x]
   repeat with_reducible refine sdg ?_
   refine condR (c := ((decide ((↑v1_0 : Int) < (↑a0.Items.length : Int))) && (decide ((nth a0.Items v1_0).Id < a1.Id)))) (by first | (simp [g1x]; done) | grind) (fun k7 h4 => ?_) (fun k7 h4 => ?_)
   ·try (have z := h4; simp [g1x] at z; done)
    all_goals
     have q4 := h4; try simp at q4
     have i4 : v1_0 < a0.Items.length := by (simp at h4; omega)
     have m4 : a0.Items.length ≤ 9223372036854775807 := by simpa using k7 24 _ rfl
     have c5 : a0.Items.length ≤ 2318336 := sm_len (by simp (maxDischargeDepth := 12) [u0, u1])
     have w2 : IntKind.i64.wrap ((v1_0 : Int) + 1) = (v1_0 : Int) + 1 := wrap_of (by omega) (by omega)
     simp [g1x]
     repeat with_reducible refine sdg ?_
     refine nxtI ⟨(p1, (v1_0 + 1)), ?_, ?_⟩ (by simp) (wk_keep (by simp [w2, g1x]))
     · rw [← e1]; simp only [i_AddItem_1, h4, cond_t, cond_f]
     · first | omega | (simp at *; omega)
   ·try (have z := h4; simp [g1x] at z; done)
    all_goals
     have q4 := h4; try simp at q4
     have c6 : a0.Items.length ≤ 2318336 := sm_len (by simp (maxDischargeDepth := 12) [u0, u1])
     have x2 : i_AddItem_1 a0 a1 (a0.Items.length + 1) 0 = v1_0 := by rw [← e1]; simp only [i_AddItem_1, h4, cond_t, cond_f]
     simp [g1x]
     repeat with_reducible refine sdg ?_
     refine okD fun k8 => ?_
     refine drawI mixed (by kernel_rfl) (by kernel_rfl) ?_
     simp [g1x]
     repeat with_reducible refine sdg ?_
     refine evI rfl rfl rfl ?_
     simp [g1x]
     repeat with_reducible refine sdg ?_
     refine evI rfl rfl rfl ?_
     have c7 : (a0.Items.take v1_0).length ≤ 2318336 := sm_len (by simp (maxDischargeDepth := 12) [u0, u1])
     simp [g1x]
     repeat with_reducible refine sdg ?_
     refine cR (SoundD.rd (i_copyItem_okI a1 (sg u1))) ?_
     simp [g1x]
     repeat with_reducible refine sdg ?_
     refine evI rfl rfl rfl ?_
     simp [g1x]
     repeat with_reducible refine sdg ?_
     refine evI rfl rfl rfl ?_
     simp [g1x]
     repeat with_reducible refine sdg ?_
     refine evI rfl rfl rfl ?_
     have c8 : (a0.Items.drop v1_0).length ≤ 2318336 := sm_len (by simp (maxDischargeDepth := 12) [u0, u1])
     simp [g1x]
     repeat with_reducible refine sdg ?_
     refine cR (i_IsArchive_ok (TArchive.mk a0.Id (((a0.Items.take v1_0) ++ ([a1] : List TItem)) ++ (a0.Items.drop v1_0)))) ?_
     simp [g1x]
     repeat with_reducible refine sdg ?_
     refine condR (c := (!(i_IsArchive (TArchive.mk a0.Id (((a0.Items.take v1_0) ++ ([a1] : List TItem)) ++ (a0.Items.drop v1_0)))))) (by first | (simp [g1x]; done) | grind) (fun k9 h5 => ?_) (fun k9 h5 => ?_)
     ·try (have z := h5; simp [g1x] at z; done)
      all_goals
       have q5 := h5; try simp at q5
       simp [g1x]
       repeat with_reducible refine sdg ?_
       refine cD [] (i_copyArchive_okI a0 (sg u0)) ?_
       simp [g1x]
       repeat with_reducible refine sdg ?_
       refine retRd (rv := [.cell 4 92, .tmp 5]) rfl ?_
       have f4 := i_AddItem.eq_1 a0 a1; simp only [h1, x2, h5, cond_t, cond_f] at f4; simp [f4, g1x]
     ·try (have z := h5; simp [g1x] at z; done)
      all_goals
       have q5 := h5; try simp at q5
       simp [g1x]
       repeat with_reducible refine sdg ?_
       refine retRd (rv := [.cell 4 92, .tmp 5]) rfl ?_
       have f5 := i_AddItem.eq_1 a0 a1; simp only [h1, x2, h5, cond_t, cond_f] at f5; simp [f5, g1x]
end Go.Proofs.YtllfgbhplfhdkaaGreat
